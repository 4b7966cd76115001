/- Division of digits: what each step is worth. -/
import Derived.Test.YtehdmpfeddieoaaMDig
namespace Go.Proofs.Ytehdmpfeddieoaa.Plain
set_option linter.unusedVariables false
set_option linter.unusedSimpArgs false

theorem val_split (l : List Int) {i : Nat} (h : i ≤ l.length) : val l = val (l.take i) + 65536 ^ i * val (l.drop i) := by
  have := val_append (l.take i) (l.drop i)
  rwa [List.take_append_drop, List.length_take, Nat.min_eq_left h] at this

theorem val_drop {l : List Int} {i : Nat} (h : i < l.length) : val (l.drop i) = l.getD i 0 + 65536 * val (l.drop (i + 1)) := by
  rw [List.drop_eq_getElem_cons h, val, List.getD_eq_getElem?_getD, List.getElem?_eq_getElem h, Option.getD_some]

theorem drop_set {l : List Int} {i : Nat} {v : Int} (h : i < l.length) : (l.set i v).drop i = v :: l.drop (i + 1) := by
  rw [List.drop_eq_getElem_cons (by simpa using h)]
  simp [List.drop_set]

/-- Dividing by a digit, from the top: places i and up are done. -/
structure ByIn (a o : List Int) (d left : Int) (i : Nat) : Prop where
  len : o.length = a.length
  dg : Dg o
  l0 : 0 ≤ left
  l1 : left < d
  eq : val (a.drop i) = val (o.drop i) * d + left

theorem by_step {left d x : Int} (l0 : 0 ≤ left) (l1 : left < d) (x0 : 0 ≤ x) (x1 : x < 65536) :
    0 ≤ (left * 65536 + x) / d ∧ (left * 65536 + x) / d < 65536 ∧ 0 ≤ (left * 65536 + x) % d ∧ (left * 65536 + x) % d < d ∧ left * 65536 + x = (left * 65536 + x) / d * d + (left * 65536 + x) % d := by
  have hd : 0 < d := by omega
  refine ⟨Int.ediv_nonneg (by omega) (by omega), ?_, Int.emod_nonneg _ (by omega), Int.emod_lt_of_pos _ hd, ?_⟩
  · rw [Int.ediv_lt_iff_lt_mul hd]
    omega
  · have := Int.mul_ediv_add_emod (left * 65536 + x) d
    rw [Int.mul_comm] at this
    omega

theorem ByIn.step {a o : List Int} {d left : Int} {i : Nat} (ha : Dg a) (h : ByIn a o d left (i + 1)) (hi : i < a.length) :
    ByIn a (o.set i ((left * 65536 + a.getD i 0) / d)) d ((left * 65536 + a.getD i 0) % d) i := by
  obtain ⟨len, dg, l0, l1, eq⟩ := h
  have h1 := ha.getD i
  obtain ⟨s1, s2, s3, s4, s5⟩ := by_step l0 l1 h1.1 h1.2
  refine ⟨by simp [len], dg.set _ s1 s2, s3, s4, ?_⟩
  rw [val_drop hi, eq, drop_set (by omega)]
  simp only [val]
  generalize (left * 65536 + a.getD i 0) / d = q at *
  generalize (left * 65536 + a.getD i 0) % d = m at *
  generalize val (o.drop (i + 1)) = v at *
  generalize a.getD i 0 = y at *
  grind

theorem ByIn.start (a : List Int) {d : Int} (hd : 0 < d) : ByIn a (List.replicate a.length 0) d 0 a.length :=
  ⟨by simp, fun x hx => by rw [List.eq_of_mem_replicate hx]; omega, by omega, hd, by simp [val]⟩

/-- The digits times a power of 2: i places are done. -/
structure ShIn (a o : List Int) (t c : Int) (i : Nat) : Prop where
  len : o.length = i
  dg : Dg o
  c0 : 0 ≤ c
  c1 : c < t
  eq : val o + 65536 ^ i * c = val (a.take i) * t

theorem ShIn.start (a : List Int) {t : Int} (ht : 0 < t) : ShIn a [] t 0 0 := ⟨rfl, Dg.nil, by omega, ht, by simp [val]⟩

theorem sh_bound {c x t : Int} (c0 : 0 ≤ c) (c1 : c < t) (x0 : 0 ≤ x) (x1 : x < 65536) (t1 : t ≤ 32768) : 0 ≤ x * t ∧ x * t ≤ 2147450880 ∧ 0 ≤ c + x * t ∧ (c + x * t) / 65536 < t := by
  have h1 : 0 ≤ x * t := Int.mul_nonneg x0 (by omega)
  have h2 : x * t ≤ 65535 * 32768 := Int.mul_le_mul (by omega) (by omega) (by omega) (by omega)
  have h3 : x * t ≤ 65535 * t := Int.mul_le_mul_of_nonneg_right (by omega) (by omega)
  omega

theorem ShIn.step {a o : List Int} {t c : Int} {i : Nat} (ha : Dg a) (t1 : t ≤ 32768) (h : ShIn a o t c i) :
    ShIn a (o ++ [(c + a.getD i 0 * t) % 65536]) t ((c + a.getD i 0 * t) / 65536) (i + 1) := by
  obtain ⟨len, dg, c0, c1, eq⟩ := h
  have h1 := ha.getD i
  obtain ⟨b1, b2, b3, b4⟩ := sh_bound c0 c1 h1.1 h1.2 t1
  refine ⟨by simp [len], dg.snoc (by omega) (by omega), by omega, b4, ?_⟩
  rw [val_snoc, val_take_succ', len, Int.pow_succ]
  have e : (c + a.getD i 0 * t) % 65536 + 65536 * ((c + a.getD i 0 * t) / 65536) = c + a.getD i 0 * t := by omega
  generalize (c + a.getD i 0 * t) % 65536 = m at *
  generalize (c + a.getD i 0 * t) / 65536 = q at *
  generalize (65536 : Int) ^ i = P at *
  generalize a.getD i 0 = y at *
  generalize val (a.take i) = z at *
  clear b1 b2 b3 b4 h1 c0 c1 dg len t1 ha
  grind

/-- Taking a digit times a divisor away: i places are done, c is what is owed. -/
structure TakeIn (p d x : List Int) (q c : Int) (i : Nat) : Prop where
  len : x.length = p.length
  dg : Dg x
  c0 : -65535 ≤ c
  c1 : c ≤ 0
  eq : val x + 65536 ^ i * c = val p - q * val (d.take i)

theorem TakeIn.start {p d : List Int} (hp : Dg p) (q : Int) : TakeIn p d p q 0 0 := ⟨rfl, hp, by omega, by omega, by simp [val]⟩

theorem take_bound {c x y q : Int} (c0 : -65535 ≤ c) (c1 : c ≤ 0) (x0 : 0 ≤ x) (x1 : x < 65536) (y0 : 0 ≤ y) (y1 : y < 65536) (q0 : 0 ≤ q) (q1 : q ≤ 65535) :
    0 ≤ q * y ∧ q * y ≤ 4294836225 ∧ -65535 ≤ (x + c - q * y) / 65536 ∧ (x + c - q * y) / 65536 ≤ 0 := by
  have h1 : 0 ≤ q * y := Int.mul_nonneg q0 y0
  have h2 : q * y ≤ 65535 * 65535 := Int.mul_le_mul (by omega) (by omega) y0 (by omega)
  omega

theorem TakeIn.step {p d x : List Int} {q c : Int} {i : Nat} (hd : Dg d) (q0 : 0 ≤ q) (q1 : q ≤ 65535) (h : TakeIn p d x q c i) (hi : i < p.length) :
    TakeIn p d (x.set i ((x.getD i 0 + c - q * d.getD i 0) % 65536)) q ((x.getD i 0 + c - q * d.getD i 0) / 65536) (i + 1) := by
  obtain ⟨len, dg, c0, c1, eq⟩ := h
  have h1 := dg.getD i
  have h2 := hd.getD i
  obtain ⟨b1, b2, b3, b4⟩ := take_bound c0 c1 h1.1 h1.2 h2.1 h2.2 q0 q1
  refine ⟨by simp [len], dg.set _ (by omega) (by omega), b3, b4, ?_⟩
  rw [val_set _ _ _ (by omega), val_take_succ', Int.pow_succ]
  have e : (x.getD i 0 + c - q * d.getD i 0) % 65536 + 65536 * ((x.getD i 0 + c - q * d.getD i 0) / 65536) = x.getD i 0 + c - q * d.getD i 0 := by omega
  generalize (x.getD i 0 + c - q * d.getD i 0) % 65536 = m at *
  generalize (x.getD i 0 + c - q * d.getD i 0) / 65536 = r at *
  generalize (65536 : Int) ^ i = P at *
  generalize x.getD i 0 = y at *
  generalize d.getD i 0 = z at *
  clear b1 b2 b3 b4 h1 h2 c0 c1 dg len hd q0 q1
  grind

/-- Putting a divisor to digits. -/
structure GiveIn (p d x : List Int) (c : Int) (i : Nat) : Prop where
  len : x.length = p.length
  dg : Dg x
  c0 : 0 ≤ c
  c1 : c ≤ 1
  eq : val x + 65536 ^ i * c = val p + val (d.take i)

theorem GiveIn.start {p d : List Int} (hp : Dg p) : GiveIn p d p 0 0 := ⟨rfl, hp, by omega, by omega, by simp [val]⟩

theorem GiveIn.step {p d x : List Int} {c : Int} {i : Nat} (hd : Dg d) (h : GiveIn p d x c i) (hi : i < p.length) :
    GiveIn p d (x.set i ((c + x.getD i 0 + d.getD i 0) % 65536)) ((c + x.getD i 0 + d.getD i 0) / 65536) (i + 1) := by
  obtain ⟨len, dg, c0, c1, eq⟩ := h
  have h1 := dg.getD i
  have h2 := hd.getD i
  refine ⟨by simp [len], dg.set _ (by omega) (by omega), by omega, by omega, ?_⟩
  rw [val_set _ _ _ (by omega), val_take_succ', Int.pow_succ]
  have e : (c + x.getD i 0 + d.getD i 0) % 65536 + 65536 * ((c + x.getD i 0 + d.getD i 0) / 65536) = c + x.getD i 0 + d.getD i 0 := by omega
  generalize (c + x.getD i 0 + d.getD i 0) % 65536 = m at *
  generalize (c + x.getD i 0 + d.getD i 0) / 65536 = r at *
  generalize (65536 : Int) ^ i = P at *
  generalize x.getD i 0 = y at *
  generalize d.getD i 0 = z at *
  clear h1 h2 c0 c1 dg len hd
  grind

/-- THE GUESS. A quotient's digit q, guessed from the three highest digits and the two of the divisor: it is not too small where the true one isn't, and too great by at most one. -/
theorem guess_low {W p e T K q : Int} (hW : 0 < W) (hp : p < W) (he : 0 ≤ e) (hq : 0 ≤ q) (h : q * (e + W * K) ≤ p + W * T) : q * K ≤ T := by
  have h1 : 0 ≤ q * e := Int.mul_nonneg hq he
  have h2 : q * (e + W * K) = q * e + W * (q * K) := by grind
  have h3 : W * (q * K) < W * (T + 1) := by
    have : W * (T + 1) = W * T + W := by grind
    omega
  have := Int.lt_of_mul_lt_mul_left h3 (by omega)
  omega

theorem guess_high {W p e T K q : Int} (hW : 0 < W) (hp : 0 ≤ p) (he : 0 ≤ e) (he1 : e < W) (hK : 65536 ≤ K) (hq1 : q ≤ 65535) (h : q * K ≤ T) : q * (e + W * K) < p + W * T + (e + W * K) := by
  have h2 : q * (e + W * K) = q * e + W * (q * K) := by grind
  have h3 : W * (q * K) ≤ W * T := Int.mul_le_mul_of_nonneg_left h (by omega)
  have h4 : q * e ≤ 65535 * e := Int.mul_le_mul_of_nonneg_right hq1 he
  have h5 : W * 65536 ≤ W * K := Int.mul_le_mul_of_nonneg_left hK (by omega)
  omega

/-- The three highest digits, and what is below. -/
theorem val_top3 {l : List Int} {n : Nat} (h : l.length = n + 3) : val l = val (l.take n) + 65536 ^ n * (l.getD n 0 + 65536 * l.getD (n + 1) 0 + 65536 * 65536 * l.getD (n + 2) 0) := by
  have e : val l = val (l.take (n + 3)) := by rw [List.take_of_length_le (by omega)]
  rw [e, val_take_succ', val_take_succ', val_take_succ', Int.pow_succ, Int.pow_succ]
  grind

theorem val_top2 {l : List Int} {n : Nat} (h : l.length = n + 2) : val l = val (l.take n) + 65536 ^ n * (l.getD n 0 + 65536 * l.getD (n + 1) 0) := by
  have e : val l = val (l.take (n + 2)) := by rw [List.take_of_length_le (by omega)]
  rw [e, val_take_succ', val_take_succ', Int.pow_succ]
  grind

/-- What the guess starts from, and what it is measured by. -/
structure Guess (p d : List Int) (n : Nat) : Prop where
  plen : p.length = n + 3
  dlen : d.length = n + 2
  pd : Dg p
  dd : Dg d
  pos : 0 < d.getD (n + 1) 0
  lt : val p < 65536 * val d

/-- The test that the guess is held to. -/
def over (p d : List Int) (n : Nat) (q : Int) : Prop :=
  q * d.getD n 0 > ((p.getD (n + 2) 0 * 65536 + p.getD (n + 1) 0) - q * d.getD (n + 1) 0) * 65536 + p.getD n 0

theorem over_iff (p d : List Int) (n : Nat) (q : Int) : over p d n q ↔ ¬ q * (d.getD n 0 + 65536 * d.getD (n + 1) 0) ≤ p.getD n 0 + 65536 * p.getD (n + 1) 0 + 65536 * 65536 * p.getD (n + 2) 0 := by
  unfold over
  have : q * (d.getD n 0 + 65536 * d.getD (n + 1) 0) = q * d.getD n 0 + 65536 * (q * d.getD (n + 1) 0) := by grind
  rw [this]
  generalize q * d.getD n 0 = a
  generalize q * d.getD (n + 1) 0 = b
  omega

theorem Guess.dpos {p d : List Int} {n : Nat} (h : Guess p d n) : 0 < val d := by
  obtain ⟨plen, dlen, pd, dd, pos, lt⟩ := h
  rw [val_top2 dlen]
  have h1 := val_take_lt dd (i := n) (by omega)
  have h2 := dd.getD n
  have := Int.mul_pos (pow_pos' n) (show 0 < d.getD n 0 + 65536 * d.getD (n + 1) 0 by omega)
  omega

/-- A digit that is not too great passes the test .. -/
theorem Guess.low {p d : List Int} {n : Nat} (h : Guess p d n) {q : Int} (hq : 0 ≤ q) (hle : q * val d ≤ val p) : ¬ over p d n q := by
  rw [over_iff, Decidable.not_not]
  obtain ⟨plen, dlen, pd, dd, pos, lt⟩ := h
  rw [val_top3 plen, val_top2 dlen] at hle
  exact guess_low (pow_pos' n) (val_take_lt pd (i := n) (by omega)).2 (val_take_lt dd (i := n) (by omega)).1 hq hle

/-- .. and is not greater than what the guess starts from .. -/
theorem Guess.first {p d : List Int} {n : Nat} (h : Guess p d n) {q : Int} (hq : 0 ≤ q) (hle : q * val d ≤ val p) :
    q ≤ 65535 ∧ q ≤ (p.getD (n + 2) 0 * 65536 + p.getD (n + 1) 0) / d.getD (n + 1) 0 := by
  have h1 := h.low hq hle
  have hp := h.dpos
  rw [over_iff, Decidable.not_not] at h1
  obtain ⟨plen, dlen, pd, dd, pos, lt⟩ := h
  constructor
  · have : q * val d < 65536 * val d := by omega
    have := Int.lt_of_mul_lt_mul_right this (by omega)
    omega
  · rw [Int.le_ediv_iff_mul_le pos]
    have h2 := pd.getD n
    have h3 := dd.getD n
    have h4 : 0 ≤ q * d.getD n 0 := Int.mul_nonneg hq h3.1
    have : q * (d.getD n 0 + 65536 * d.getD (n + 1) 0) = q * d.getD n 0 + 65536 * (q * d.getD (n + 1) 0) := by grind
    rw [this] at h1
    omega

/-- .. and what passes the test is too great by one at the most. -/
theorem Guess.high {p d : List Int} {n : Nat} (h : Guess p d n) {q : Int} (hq1 : q ≤ 65535) (ho : ¬ over p d n q) : q * val d < val p + val d := by
  rw [over_iff, Decidable.not_not] at ho
  obtain ⟨plen, dlen, pd, dd, pos, lt⟩ := h
  rw [val_top3 plen, val_top2 dlen]
  have h1 := val_take_lt pd (i := n) (by omega)
  have h2 := val_take_lt dd (i := n) (by omega)
  have h3 := dd.getD n
  exact guess_high (pow_pos' n) h1.1 h2.1 h2.2 (by omega) hq1 ho

/-- What is taken away too often is put back: the digit and what is left are the true ones. -/
theorem Guess.fit {p d x : List Int} {n : Nat} (h : Guess p d n) {q c : Int} (hq1 : q ≤ 65535) (hlow : ∀ t, 0 ≤ t → t * val d ≤ val p → t ≤ q) (ho : ¬ over p d n q) (hx : TakeIn p d x q c p.length) (hc : ¬ c < 0) :
    val x = val p - q * val d ∧ val x < val d := by
  obtain ⟨len, dg, c0, c1, eq⟩ := hx
  obtain rfl : c = 0 := by omega
  rw [List.take_of_length_le (by rw [h.plen, h.dlen]; omega)] at eq
  have h1 := val_nonneg dg
  have e : val x = val p - q * val d := by omega
  refine ⟨e, ?_⟩
  have hp := h.dpos
  rcases Int.lt_or_le (val x) (val d) with h2 | h2
  · exact h2
  · exfalso
    have h3 : (q + 1) * val d = q * val d + val d := by grind
    by_cases hq : 0 ≤ q + 1
    · have := hlow (q + 1) hq (by omega)
      omega
    · have := hlow 0 (by omega) (by have := val_nonneg h.pd; omega)
      omega

theorem Guess.unfit {p d x y : List Int} {n : Nat} (h : Guess p d n) {q c c2 : Int} (hq1 : q ≤ 65535) (hlow : ∀ t, 0 ≤ t → t * val d ≤ val p → t ≤ q) (ho : ¬ over p d n q) (hx : TakeIn p d x q c p.length) (hc : c < 0) (hy : GiveIn x d y c2 x.length) :
    val y = val p - (q - 1) * val d ∧ val y < val d ∧ 0 ≤ q - 1 := by
  have hh := h.high hq1 ho
  obtain ⟨len, dg, c0, c1, eq⟩ := hx
  obtain ⟨len2, dg2, c20, c21, eq2⟩ := hy
  rw [List.take_of_length_le (by rw [h.plen, h.dlen]; omega)] at eq
  rw [List.take_of_length_le (by rw [len, h.plen, h.dlen]; omega), len] at eq2
  have hp := h.dpos
  have hxl := val_lt dg
  rw [len] at hxl
  have hyl := val_lt dg2
  rw [len2, len] at hyl
  have hyn := val_nonneg dg2
  have hpl := val_lt h.pd
  have hpn := val_nonneg h.pd
  have h3 : (q - 1) * val d = q * val d - val d := by grind
  have hB := pow_pos' p.length
  have hneg : val p - q * val d < 0 := by
    have : 65536 ^ p.length * c ≤ 65536 ^ p.length * (-1) := Int.mul_le_mul_of_nonneg_left (by omega) (by omega)
    omega
  have hq0 : 0 ≤ q - 1 := by
    rcases Int.lt_or_le (q - 1) 0 with hq | hq
    · have := hlow 0 (by omega) (by omega)
      obtain rfl : q = 0 := by omega
      omega
    · exact hq
  have hz : (q - 1) * val d ≤ val p := by omega
  have hnn : 0 ≤ (q - 1) * val d := Int.mul_nonneg hq0 (by omega)
  have e : 65536 ^ p.length * (c + c2) = val p - (q - 1) * val d - val y := by
    have : 65536 ^ p.length * (c + c2) = 65536 ^ p.length * c + 65536 ^ p.length * c2 := by grind
    omega
  have : c + c2 = 0 := by
    rcases Int.lt_trichotomy (c + c2) 0 with h1 | h1 | h1
    · have : 65536 ^ p.length * (c + c2) ≤ 65536 ^ p.length * (-1) := Int.mul_le_mul_of_nonneg_left (by omega) (by omega)
      omega
    · exact h1
    · have : 65536 ^ p.length * 1 ≤ 65536 ^ p.length * (c + c2) := Int.mul_le_mul_of_nonneg_left (by omega) (by omega)
      omega
  rw [this] at e
  omega

theorem dg_splice {r x : List Int} (hr : Dg r) (hx : Dg x) (j : Nat) : Dg (r.take j ++ x ++ r.drop (j + x.length)) := ((hr.take j).append hx).append (hr.drop _)

/-- The division, the places i and up are done: o is the quotient so far, r what is left. -/
structure DivInv (N : Int) (d r o : List Int) (m i : Nat) : Prop where
  rlen : r.length = m + d.length
  olen : o.length = m
  im : i ≤ m
  rd : Dg r
  od : Dg o
  low : ∀ t, t < i → o.getD t 0 = 0
  eq : val o * val d + val r = N
  top : val (r.drop i) < val d

theorem DivInv.high {N : Int} {d r o : List Int} {m i : Nat} (hd : Dg d) (h : DivInv N d r o m (i + 1)) : val (r.drop i) = val ((r.drop i).take (d.length + 1)) ∧ val (r.drop (i + (d.length + 1))) = 0 := by
  obtain ⟨rlen, olen, im, rd, od, low, eq, top⟩ := h
  have h1 := val_split (r.drop (i + 1)) (i := d.length) (by rw [List.length_drop]; omega)
  rw [List.drop_drop] at h1
  have h2 := val_nonneg (rd.drop (i + 1 + d.length))
  have h3 := val_nonneg ((rd.drop (i + 1)).take d.length)
  have h4 := val_lt hd
  have h5 : val (r.drop (i + 1 + d.length)) = 0 := by
    rcases Int.lt_or_le 0 (val (r.drop (i + 1 + d.length))) with h6 | h6
    · have : 65536 ^ d.length * 1 ≤ 65536 ^ d.length * val (r.drop (i + 1 + d.length)) := Int.mul_le_mul_of_nonneg_left (by omega) (Int.le_of_lt (pow_pos' _))
      omega
    · omega
  have h7 := val_split (r.drop i) (i := d.length + 1) (by rw [List.length_drop]; omega)
  rw [List.drop_drop] at h7
  have e : i + 1 + d.length = i + (d.length + 1) := by omega
  rw [e] at h5
  rw [h5] at h7
  exact ⟨by omega, h5⟩

theorem DivInv.lt {N : Int} {d r o : List Int} {m i : Nat} (hd : Dg d) (h : DivInv N d r o m (i + 1)) : val ((r.drop i).take (d.length + 1)) < 65536 * val d := by
  have h1 := (h.high hd).1
  obtain ⟨rlen, olen, im, rd, od, low, eq, top⟩ := h
  rw [← h1, val_drop (by omega)]
  have := rd.getD i
  omega

theorem DivInv.step {N : Int} {d r o x : List Int} {m i : Nat} {q : Int} (hd : Dg d) (h : DivInv N d r o m (i + 1)) (hx : Dg x) (hl : x.length = d.length + 1) (q0 : 0 ≤ q) (q1 : q < 65536)
    (hv : val x = val ((r.drop i).take (d.length + 1)) - q * val d) (hlt : val x < val d) : DivInv N d (r.take i ++ x ++ r.drop (i + x.length)) (o.set i q) m i := by
  obtain ⟨h1, h0⟩ := h.high hd
  obtain ⟨rlen, olen, im, rd, od, low, eq, top⟩ := h
  have e1 : val (r.take i ++ x ++ r.drop (i + x.length)) = val (r.take i) + 65536 ^ i * val x := by
    rw [List.append_assoc, val_append, val_append, List.length_take, Nat.min_eq_left (by omega), hl, h0]
    grind
  have e2 := val_split r (i := i) (by omega)
  rw [h1] at e2
  refine ⟨by simp; omega, by simp [olen], by omega, dg_splice rd hx i, od.set _ q0 q1, fun t ht => ?_, ?_, ?_⟩
  · rw [getD_set, if_neg (by omega)]
    exact low t (by omega)
  · rw [val_set _ _ _ (by omega), low i (by omega), e1, hv]
    rw [e2] at eq
    generalize val ((r.drop i).take (d.length + 1)) = P at *
    generalize (65536 : Int) ^ i = B at *
    generalize val (r.take i) = R at *
    generalize val o = O at *
    generalize val d = D at *
    clear hv hlt e1 e2 h1 h0 low top rd od
    grind
  · have e3 : (r.take i ++ x ++ r.drop (i + x.length)).drop i = x ++ r.drop (i + x.length) := by
      rw [List.append_assoc, List.drop_append_of_le_length (by rw [List.length_take]; omega), List.drop_eq_nil_of_le (by rw [List.length_take]; omega), List.nil_append]
    rw [e3, val_append, hl, h0]
    omega

theorem DivInv.done {N : Int} {d r o : List Int} {m : Nat} (hd : Dg d) (h : DivInv N d r o m 0) : val (r.take d.length) = val r ∧ val r < val d ∧ val o * val d + val r = N := by
  obtain ⟨rlen, olen, im, rd, od, low, eq, top⟩ := h
  rw [List.drop_zero] at top
  have h1 := val_split r (i := d.length) (by omega)
  have h2 := val_nonneg (rd.drop d.length)
  have h3 := val_nonneg (rd.take d.length)
  have h4 := val_lt hd
  have h5 : val (r.drop d.length) = 0 := by
    rcases Int.lt_or_le 0 (val (r.drop d.length)) with h6 | h6
    · have : 65536 ^ d.length * 1 ≤ 65536 ^ d.length * val (r.drop d.length) := Int.mul_le_mul_of_nonneg_left (by omega) (Int.le_of_lt (pow_pos' _))
      omega
    · omega
  rw [h5] at h1
  exact ⟨by omega, top, eq⟩

/-- The divisor made long: its highest digit is 32768 or more. -/
theorem last_pos {b : List Int} (hb : Dg b) (nb : Nm b) (hne : b ≠ []) : 0 < b.getD (b.length - 1) 0 := by
  have h1 := hb.getD (b.length - 1)
  have : b.getD (b.length - 1) 0 ≠ 0 := by
    unfold Nm at nb
    have hl := List.length_pos_iff.2 hne
    rw [List.getLast?_eq_getElem?, List.getElem?_eq_getElem (by omega)] at nb
    rw [List.getD_eq_getElem?_getD, List.getElem?_eq_getElem (by omega)]
    simpa using nb
  omega

theorem val_last {b : List Int} (hne : b ≠ []) : val b = val (b.take (b.length - 1)) + 65536 ^ (b.length - 1) * b.getD (b.length - 1) 0 := by
  have hl := List.length_pos_iff.2 hne
  have := val_take_succ' b (b.length - 1)
  rwa [show b.length - 1 + 1 = b.length by omega, List.take_length] at this

/-- The divisor times t keeps its places. -/
theorem long_lt {b : List Int} (hb : Dg b) (hne : b ≠ []) {t : Int} (t0 : 0 < t) (h : (b.getD (b.length - 1) 0 + 1) * t ≤ 65536) : val b * t < 65536 ^ b.length := by
  have hl := List.length_pos_iff.2 hne
  obtain ⟨n, hn⟩ : ∃ n, b.length = n + 1 := ⟨b.length - 1, by omega⟩
  have h1 := val_last hne
  have h2 := val_take_lt hb (i := b.length - 1) (by omega)
  rw [show b.length - 1 = n by omega] at *
  have h3 : val b < 65536 ^ n * (b.getD n 0 + 1) := by
    have : 65536 ^ n * (b.getD n 0 + 1) = 65536 ^ n * b.getD n 0 + 65536 ^ n := by grind
    omega
  have h4 : val b * t < 65536 ^ n * (b.getD n 0 + 1) * t := Int.mul_lt_mul_of_pos_right h3 t0
  have h5 : 65536 ^ n * ((b.getD n 0 + 1) * t) ≤ 65536 ^ n * 65536 := Int.mul_le_mul_of_nonneg_left h (Int.le_of_lt (pow_pos' _))
  rw [Int.mul_assoc] at h4
  rw [hn, Int.pow_succ]
  omega

theorem DivInv.start {a b r d : List Int} {t : Int} (ha : Dg a) (hb : Dg b) (nb : Nm b) (hne : b ≠ []) (t0 : 0 < t) (hr : Dg r) (hd : Dg d) (rl : r.length = a.length + 1) (dl : d.length = b.length)
    (rv : val r = val a * t) (dv : val d = val b * t) (hl : b.length ≤ a.length) : DivInv (val a * t) d r (List.replicate (r.length - d.length) 0) (r.length - d.length) (r.length - d.length) := by
  refine ⟨by omega, by simp, Nat.le_refl _, hr, fun x hx => by rw [List.eq_of_mem_replicate hx]; omega, fun u hu => ?_, ?_, ?_⟩
  · rw [List.getD_eq_getElem?_getD, List.getElem?_replicate]
    split <;> rfl
  · rw [val_replicate, rv]
    omega
  · obtain ⟨n, hn⟩ : ∃ n, b.length = n + 1 := ⟨b.length - 1, by have := List.length_pos_iff.2 hne; omega⟩
    have h1 := val_split r (i := r.length - d.length) (by omega)
    have h2 := val_nonneg (hr.take (r.length - d.length))
    have h3 := val_lt ha
    have h4 := val_ge hb nb hne
    rw [show b.length - 1 = n by omega] at h4
    have h5 : 65536 ^ n * t ≤ val b * t := Int.mul_le_mul_of_nonneg_right h4 (by omega)
    have h6 : val a * t < 65536 ^ a.length * t := Int.mul_lt_mul_of_pos_right h3 t0
    have h7 : (65536 : Int) ^ a.length = 65536 ^ (r.length - d.length) * 65536 ^ n := by
      rw [← Int.pow_add]
      congr 1
      omega
    rw [h7, Int.mul_assoc] at h6
    have h8 : 65536 ^ (r.length - d.length) * val (r.drop (r.length - d.length)) < 65536 ^ (r.length - d.length) * (65536 ^ n * t) := by omega
    have := Int.lt_of_mul_lt_mul_left h8 (Int.le_of_lt (pow_pos' _))
    omega

/-- The noughts below are gone again. -/
theorem div_back {A B O R t left x : Int} (t0 : 0 < t) (h : O * (B * t) + R = A * t) (hx : x * t + left = R) (l0 : 0 ≤ left) (l1 : left < t) (hR : R < B * t) : left = 0 ∧ O * B + x = A ∧ x < B := by
  have h1 : left = (A - O * B - x) * t := by grind
  have h2 : A - O * B - x = 0 := by
    rcases Int.lt_trichotomy (A - O * B - x) 0 with h3 | h3 | h3
    · have := Int.mul_le_mul_of_nonneg_right (show A - O * B - x ≤ -1 by omega) (show 0 ≤ t by omega)
      omega
    · exact h3
    · have := Int.mul_le_mul_of_nonneg_right (show 1 ≤ A - O * B - x by omega) (show 0 ≤ t by omega)
      omega
  rw [h2] at h1
  have h3 : left = 0 := by omega
  refine ⟨h3, by omega, ?_⟩
  have : x * t < B * t := by omega
  exact Int.lt_of_mul_lt_mul_right this (by omega)

end Go.Proofs.Ytehdmpfeddieoaa.Plain
