/- Digits by 65536, the lowest first: what they are worth, and that a right list of digits is told by its worth. -/
namespace Go.Proofs.Ytehdmpfeddieoaa.Plain
set_option linter.unusedVariables false
set_option linter.unusedSimpArgs false

/-- What digits are worth. -/
def val : List Int → Int
  | [] => 0
  | d :: l => d + 65536 * val l

/-- Each is a digit. -/
def Dg (l : List Int) : Prop := ∀ d ∈ l, 0 ≤ d ∧ d < 65536

/-- No nought at the end. -/
def Nm (l : List Int) : Prop := l.getLast? ≠ some 0

theorem val_append (a b : List Int) : val (a ++ b) = val a + 65536 ^ a.length * val b := by
  induction a with
  | nil => simp [val]
  | cons d l ih =>
    simp only [List.cons_append, val, ih, List.length_cons, Int.pow_succ]
    grind

theorem Dg.nil : Dg [] := fun d h => by cases h
theorem Dg.cons {d : Int} {l : List Int} (h : Dg (d :: l)) : (0 ≤ d ∧ d < 65536) ∧ Dg l := ⟨h d (by simp), fun x hx => h x (by simp [hx])⟩
theorem Dg.of {d : Int} {l : List Int} (h0 : 0 ≤ d) (h1 : d < 65536) (h : Dg l) : Dg (d :: l) := by
  intro x hx
  rcases List.mem_cons.1 hx with rfl | hx
  · exact ⟨h0, h1⟩
  · exact h x hx
theorem Dg.append {a b : List Int} (ha : Dg a) (hb : Dg b) : Dg (a ++ b) := by
  intro x hx
  rcases List.mem_append.1 hx with hx | hx
  · exact ha x hx
  · exact hb x hx
theorem Dg.snoc {a : List Int} {d : Int} (ha : Dg a) (h0 : 0 ≤ d) (h1 : d < 65536) : Dg (a ++ [d]) := ha.append (Dg.of h0 h1 Dg.nil)
theorem Dg.take {a : List Int} (n : Nat) (ha : Dg a) : Dg (a.take n) := fun x hx => ha x (List.mem_of_mem_take hx)
theorem Dg.drop {a : List Int} (n : Nat) (ha : Dg a) : Dg (a.drop n) := fun x hx => ha x (List.mem_of_mem_drop hx)

theorem val_nonneg {l : List Int} (h : Dg l) : 0 ≤ val l := by
  induction l with
  | nil => simp [val]
  | cons d l ih =>
    have := ih h.cons.2
    have := h.cons.1
    simp only [val]
    omega

theorem pow_pos' (n : Nat) : 0 < (65536 : Int) ^ n := Int.pow_pos (by omega)

theorem pow_mono {m n : Nat} (h : m ≤ n) : (65536 : Int) ^ m ≤ 65536 ^ n := by
  induction n with
  | zero =>
    obtain rfl : m = 0 := by omega
    exact Int.le_refl _
  | succ n ih =>
    by_cases e : m = n + 1
    · rw [e]; exact Int.le_refl _
    · have h1 := ih (by omega)
      have h2 := pow_pos' n
      rw [Int.pow_succ]
      omega

theorem val_lt {l : List Int} (h : Dg l) : val l < 65536 ^ l.length := by
  induction l with
  | nil => simp [val]
  | cons d l ih =>
    have h1 := ih h.cons.2
    have h2 := h.cons.1
    simp only [val, List.length_cons, Int.pow_succ]
    omega

theorem Nm.tail {d : Int} {l : List Int} (h : Nm (d :: l)) : Nm l := by
  cases l with
  | nil => simp [Nm]
  | cons e l => simpa [Nm, List.getLast?_cons_cons] using h

theorem val_zero {l : List Int} (h : Dg l) (hn : Nm l) (hv : val l = 0) : l = [] := by
  induction l with
  | nil => rfl
  | cons d l ih =>
    exfalso
    have h1 := val_nonneg h.cons.2
    have h2 := h.cons.1
    simp only [val] at hv
    have h3 := ih h.cons.2 hn.tail (by omega)
    subst h3
    simp [Nm, val] at hn hv
    exact hn hv

/-- A RIGHT LIST OF DIGITS IS TOLD BY ITS WORTH. -/
theorem val_inj : ∀ {a b : List Int}, Dg a → Dg b → Nm a → Nm b → val a = val b → a = b := by
  intro a
  induction a with
  | nil => intro b _ hb _ nb h; exact (val_zero hb nb h.symm).symm
  | cons d l ih =>
    intro b ha hb na nb h
    cases b with
    | nil => exact val_zero ha na h
    | cons e m =>
      have h1 := ha.cons.1
      have h2 := hb.cons.1
      simp only [val] at h
      obtain rfl : d = e := by omega
      rw [ih ha.cons.2 hb.cons.2 na.tail nb.tail (by omega)]

theorem val_ge {l : List Int} (h : Dg l) (hn : Nm l) (hne : l ≠ []) : 65536 ^ (l.length - 1) ≤ val l := by
  induction l with
  | nil => exact absurd rfl hne
  | cons d l ih =>
    have h1 := h.cons.1
    by_cases hl : l = []
    · subst hl
      simp [Nm, val] at hn ⊢
      omega
    · have h2 := ih h.cons.2 hn.tail hl
      obtain ⟨n, hn'⟩ : ∃ n, l.length = n + 1 := ⟨l.length - 1, by have := List.length_pos_iff.2 hl; omega⟩
      simp only [val, List.length_cons]
      rw [hn'] at h2 ⊢
      simp only [Nat.add_sub_cancel, Int.pow_succ] at h2 ⊢
      omega

/-- The longer one is the greater one. -/
theorem val_len_lt {a b : List Int} (ha : Dg a) (hb : Dg b) (hn : Nm b) (h : a.length < b.length) : val a < val b := by
  have h1 := val_lt ha
  have h2 := val_ge hb hn (by intro h'; subst h'; simp at h)
  have h3 : (65536 : Int) ^ a.length ≤ 65536 ^ (b.length - 1) := pow_mono (by omega)
  omega

/-- The noughts at the end left out. -/
def trim (l : List Int) : List Int := match l with
  | [] => []
  | d :: l => match trim l with
    | [] => if d = 0 then [] else [d]
    | e :: m => d :: e :: m

theorem trim_val (l : List Int) : val (trim l) = val l := by
  induction l with
  | nil => rfl
  | cons d l ih =>
    simp only [trim]
    split
    · rename_i h
      rw [h] at ih
      simp only [val] at ih
      split
      · simp only [val]; omega
      · simp only [val]; omega
    · rename_i e m h
      rw [h] at ih
      simp only [val] at ih ⊢
      omega

theorem trim_dg {l : List Int} (h : Dg l) : Dg (trim l) := by
  induction l with
  | nil => exact Dg.nil
  | cons d l ih =>
    have := ih h.cons.2
    have h1 := h.cons.1
    simp only [trim]
    split
    · split
      · exact Dg.nil
      · exact Dg.of h1.1 h1.2 Dg.nil
    · rename_i e m hm
      rw [hm] at this
      exact Dg.of h1.1 h1.2 this

theorem trim_nm (l : List Int) : Nm (trim l) := by
  induction l with
  | nil => simp [trim, Nm]
  | cons d l ih =>
    simp only [trim]
    split
    · split
      · simp [Nm]
      · simpa [Nm]
    · rename_i e m hm
      rw [hm] at ih
      simpa [Nm, List.getLast?_cons_cons] using ih

theorem trim_of_nm {l : List Int} (h : Nm l) : trim l = l := by
  induction l with
  | nil => rfl
  | cons d l ih =>
    simp only [trim, ih h.tail]
    cases l with
    | nil => simp [Nm] at h ⊢; exact h
    | cons e m => rfl

theorem trim_snoc_zero (l : List Int) : trim (l ++ [0]) = trim l := by
  induction l with
  | nil => simp [trim]
  | cons d l ih => simp only [List.cons_append, trim, ih]

theorem trim_snoc (l : List Int) {d : Int} (h : d ≠ 0) : trim (l ++ [d]) = l ++ [d] := trim_of_nm (by simpa [Nm] using h)

theorem trim_len (l : List Int) : (trim l).length ≤ l.length := by
  induction l with
  | nil => simp [trim]
  | cons d l ih =>
    simp only [trim]
    split
    · split <;> simp
    · rename_i e m hm
      rw [hm] at ih
      simpa using ih

/-- -1, 0 or 1. -/
def cmpI (x y : Int) : Int := if x < y then -1 else if x > y then 1 else 0

theorem cmpI_step {P u v x y : Int} (u0 : 0 ≤ u) (u1 : u < P) (v0 : 0 ≤ v) (v1 : v < P) : cmpI (u + P * x) (v + P * y) = if x < y then -1 else if x > y then 1 else cmpI u v := by
  rcases Int.lt_trichotomy x y with h | h | h
  · rw [if_pos h]
    have h1 : P * (x + 1) ≤ P * y := Int.mul_le_mul_of_nonneg_left (by omega) (by omega)
    have h2 : P * (x + 1) = P * x + P := by grind
    unfold cmpI
    rw [if_pos (by omega)]
  · subst h
    rw [if_neg (by omega), if_neg (by omega)]
    unfold cmpI
    generalize P * x = z
    by_cases h1 : u < v
    · rw [if_pos (by omega), if_pos h1]
    · rw [if_neg (by omega), if_neg h1]
      by_cases h2 : u > v
      · rw [if_pos (by omega), if_pos h2]
      · rw [if_neg (by omega), if_neg h2]
  · rw [if_neg (by omega), if_pos h]
    have h1 : P * (y + 1) ≤ P * x := Int.mul_le_mul_of_nonneg_left (by omega) (by omega)
    have h2 : P * (y + 1) = P * y + P := by grind
    unfold cmpI
    rw [if_neg (by omega), if_pos (by omega)]

theorem take_snoc {l : List Int} {i : Nat} (h : i < l.length) : l.take (i + 1) = l.take i ++ [l.getD i 0] := by
  rw [List.take_succ_eq_append_getElem h, List.getD_eq_getElem?_getD, List.getElem?_eq_getElem h, Option.getD_some]

theorem val_take_succ {l : List Int} {i : Nat} (h : i < l.length) : val (l.take (i + 1)) = val (l.take i) + 65536 ^ i * l.getD i 0 := by
  rw [take_snoc h, val_append, List.length_take, Nat.min_eq_left (by omega)]
  simp [val]

theorem val_take_lt {l : List Int} (h : Dg l) {i : Nat} (hi : i ≤ l.length) : 0 ≤ val (l.take i) ∧ val (l.take i) < 65536 ^ i := by
  have h1 := val_lt (h.take i)
  rw [List.length_take, Nat.min_eq_left hi] at h1
  exact ⟨val_nonneg (h.take i), h1⟩

theorem Dg.getD {l : List Int} (h : Dg l) (i : Nat) : 0 ≤ l.getD i 0 ∧ l.getD i 0 < 65536 := by
  rw [List.getD_eq_getElem?_getD]
  by_cases hi : i < l.length
  · rw [List.getElem?_eq_getElem hi]
    exact h _ (List.getElem_mem hi)
  · rw [List.getElem?_eq_none (by omega)]
    simp

theorem cmp_take {a b : List Int} (ha : Dg a) (hb : Dg b) {i : Nat} (h1 : i < a.length) (h2 : i < b.length) :
    cmpI (val (a.take (i + 1))) (val (b.take (i + 1))) = if a.getD i 0 < b.getD i 0 then -1 else if a.getD i 0 > b.getD i 0 then 1 else cmpI (val (a.take i)) (val (b.take i)) := by
  rw [val_take_succ h1, val_take_succ h2]
  have x := val_take_lt ha (i := i) (by omega)
  have y := val_take_lt hb (i := i) (by omega)
  exact cmpI_step x.1 x.2 y.1 y.2

theorem cmp_len {a b : List Int} (ha : Dg a) (hb : Dg b) (na : Nm a) (nb : Nm b) (h : a.length ≠ b.length) : cmpI (val a) (val b) = if a.length < b.length then -1 else 1 := by
  unfold cmpI
  by_cases h1 : a.length < b.length
  · rw [if_pos h1, if_pos (val_len_lt ha hb nb h1)]
  · have := val_len_lt hb ha na (show b.length < a.length by omega)
    rw [if_neg h1, if_neg (by omega), if_pos (by omega)]

/-- Right digits of a natural. -/
def natOk (l : List Int) : Bool := decide (l.length ≤ 64) && l.all (fun d => decide (0 ≤ d ∧ d ≤ 65535)) && (l.isEmpty || (l.getD (l.length - 1) 0 != 0))

theorem natOk_iff (l : List Int) : natOk l = true ↔ l.length ≤ 64 ∧ Dg l ∧ Nm l := by
  unfold natOk
  have e : l.all (fun d => decide (0 ≤ d ∧ d ≤ 65535)) = true ↔ Dg l := by
    rw [List.all_eq_true]
    unfold Dg
    constructor
    · intro h d hd
      have := h d hd
      simp at this
      omega
    · intro h d hd
      have := h d hd
      simp
      omega
  rw [Bool.and_eq_true, Bool.and_eq_true, e, decide_eq_true_iff, and_assoc]
  have f : (l.isEmpty || (l.getD (l.length - 1) 0 != 0)) = true ↔ Nm l := by
    cases l with
    | nil => simp [Nm]
    | cons a l =>
      unfold Nm
      rw [List.getLast?_eq_getElem?, List.getD_eq_getElem?_getD, List.getElem?_eq_getElem (by simp)]
      simp
  rw [f]

theorem val_take_succ' (l : List Int) (i : Nat) : val (l.take (i + 1)) = val (l.take i) + 65536 ^ i * l.getD i 0 := by
  by_cases h : i < l.length
  · exact val_take_succ h
  · rw [List.take_of_length_le (by omega), List.take_of_length_le (by omega), List.getD_eq_getElem?_getD, List.getElem?_eq_none (by omega)]
    simp

theorem val_snoc (l : List Int) (d : Int) : val (l ++ [d]) = val l + 65536 ^ l.length * d := by
  rw [val_append]
  simp [val]

/-- The state of a sum: the digits that are made, what is carried, the place. -/
structure AddInv (a b x : List Int) (c : Int) (i : Nat) : Prop where
  len : x.length = i
  dg : Dg x
  c0 : 0 ≤ c
  c1 : c ≤ 1
  eq : val x + 65536 ^ i * c = val (a.take i) + val (b.take i)

theorem AddInv.start (a b : List Int) : AddInv a b [] 0 0 := ⟨rfl, Dg.nil, by omega, by omega, by simp [val]⟩

theorem AddInv.step {a b x : List Int} {c : Int} {i : Nat} (ha : Dg a) (hb : Dg b) (h : AddInv a b x c i) :
    AddInv a b (x ++ [(c + a.getD i 0 + b.getD i 0) % 65536]) ((c + a.getD i 0 + b.getD i 0) / 65536) (i + 1) := by
  obtain ⟨len, dg, c0, c1, eq⟩ := h
  have h1 := ha.getD i
  have h2 := hb.getD i
  refine ⟨by simp [len], dg.snoc (by omega) (by omega), by omega, by omega, ?_⟩
  rw [val_snoc, val_take_succ', val_take_succ', len, Int.pow_succ]
  have e : (c + a.getD i 0 + b.getD i 0) % 65536 + 65536 * ((c + a.getD i 0 + b.getD i 0) / 65536) = c + a.getD i 0 + b.getD i 0 := by omega
  generalize (c + a.getD i 0 + b.getD i 0) % 65536 = d at *
  generalize (c + a.getD i 0 + b.getD i 0) / 65536 = q at *
  generalize (65536 : Int) ^ i = P at *
  generalize a.getD i 0 = y at *
  generalize b.getD i 0 = z at *
  grind

theorem AddInv.done {a b x : List Int} {c : Int} {i : Nat} (ha : Dg a) (hb : Dg b) (h : AddInv a b x c i) (h1 : a.length + 1 ≤ i) (h2 : b.length + 1 ≤ i) : c = 0 ∧ val x = val a + val b := by
  obtain ⟨len, dg, c0, c1, eq⟩ := h
  rw [List.take_of_length_le (by omega), List.take_of_length_le (by omega)] at eq
  have v1 := val_lt ha
  have v2 := val_lt hb
  have v3 := val_nonneg dg
  obtain ⟨j, rfl⟩ : ∃ j, i = j + 1 := ⟨i - 1, by omega⟩
  have p1 : (65536 : Int) ^ a.length ≤ 65536 ^ j := pow_mono (by omega)
  have p2 : (65536 : Int) ^ b.length ≤ 65536 ^ j := pow_mono (by omega)
  have p3 := pow_pos' j
  rw [Int.pow_succ] at eq
  rcases (show c = 0 ∨ c = 1 by omega) with rfl | rfl
  · refine ⟨rfl, by omega⟩
  · omega

theorem AddInv.done0 {a b x : List Int} {i : Nat} (h : AddInv a b x 0 i) (h1 : a.length ≤ i) (h2 : b.length ≤ i) : val x = val a + val b := by
  have eq := h.eq
  rw [List.take_of_length_le (by omega), List.take_of_length_le (by omega)] at eq
  omega

/-- The state of a difference. -/
structure SubInv (a b x : List Int) (c : Int) (i : Nat) : Prop where
  len : x.length = i
  dg : Dg x
  c0 : 0 ≤ c
  c1 : c ≤ 1
  eq : val x - 65536 ^ i * c = val (a.take i) - val (b.take i)

theorem SubInv.start (a b : List Int) : SubInv a b [] 0 0 := ⟨rfl, Dg.nil, by omega, by omega, by simp [val]⟩

theorem SubInv.step_lt {a b x : List Int} {c : Int} {i : Nat} (ha : Dg a) (hb : Dg b) (h : SubInv a b x c i) (hlt : a.getD i 0 - c - b.getD i 0 < 0) :
    SubInv a b (x ++ [a.getD i 0 - c - b.getD i 0 + 65536]) 1 (i + 1) := by
  obtain ⟨len, dg, c0, c1, eq⟩ := h
  have h1 := ha.getD i
  have h2 := hb.getD i
  refine ⟨by simp [len], dg.snoc (by omega) (by omega), by omega, by omega, ?_⟩
  rw [val_snoc, val_take_succ', val_take_succ', len, Int.pow_succ]
  generalize (65536 : Int) ^ i = P at *
  generalize a.getD i 0 = y at *
  generalize b.getD i 0 = z at *
  grind

theorem SubInv.step_ge {a b x : List Int} {c : Int} {i : Nat} (ha : Dg a) (hb : Dg b) (h : SubInv a b x c i) (hlt : ¬ a.getD i 0 - c - b.getD i 0 < 0) :
    SubInv a b (x ++ [a.getD i 0 - c - b.getD i 0]) 0 (i + 1) := by
  obtain ⟨len, dg, c0, c1, eq⟩ := h
  have h1 := ha.getD i
  have h2 := hb.getD i
  refine ⟨by simp [len], dg.snoc (by omega) (by omega), by omega, by omega, ?_⟩
  rw [val_snoc, val_take_succ', val_take_succ', len, Int.pow_succ]
  generalize (65536 : Int) ^ i = P at *
  generalize a.getD i 0 = y at *
  generalize b.getD i 0 = z at *
  grind

theorem len_le_of_val {a b : List Int} (ha : Dg a) (hb : Dg b) (nb : Nm b) (h : val b ≤ val a) : b.length ≤ a.length := by
  rcases Nat.lt_or_ge a.length b.length with h1 | h1
  · have := val_len_lt ha hb nb h1
    omega
  · exact h1

theorem SubInv.done {a b x : List Int} {c : Int} (ha : Dg a) (hb : Dg b) (nb : Nm b) (hv : val b ≤ val a) (h : SubInv a b x c a.length) : val x = val a - val b := by
  have hl := len_le_of_val ha hb nb hv
  obtain ⟨len, dg, c0, c1, eq⟩ := h
  rw [List.take_of_length_le (by omega), List.take_of_length_le (by omega)] at eq
  have v1 := val_lt dg
  rw [len] at v1
  rcases (show c = 0 ∨ c = 1 by omega) with rfl | rfl
  · omega
  · omega

theorem val_set : ∀ (l : List Int) (i : Nat) (v : Int), i < l.length → val (l.set i v) = val l + 65536 ^ i * (v - l.getD i 0) := by
  intro l
  induction l with
  | nil => intro i v h; simp at h
  | cons d l ih =>
    intro i v h
    cases i with
    | zero => simp [val]; omega
    | succ i =>
      have := ih i v (by simpa using h)
      simp only [List.set_cons_succ, val, this, List.getD_cons_succ, Int.pow_succ]
      grind

theorem Dg.set {l : List Int} (h : Dg l) (i : Nat) {v : Int} (h0 : 0 ≤ v) (h1 : v < 65536) : Dg (l.set i v) := by
  intro x hx
  rcases List.mem_or_eq_of_mem_set hx with h2 | h2
  · exact h x h2
  · subst h2; exact ⟨h0, h1⟩

theorem getD_set (l : List Int) (i j : Nat) (v : Int) : (l.set i v).getD j 0 = if i = j ∧ i < l.length then v else l.getD j 0 := by
  rw [List.getD_eq_getElem?_getD, List.getElem?_set, List.getD_eq_getElem?_getD]
  by_cases h : i = j
  · subst h
    by_cases h2 : i < l.length
    · simp [h2]
    · simp [h2, List.getElem?_eq_none (show l.length ≤ i by omega)]
  · simp [h]

/-- The state of a product, inside of a row: i rows are done, j places of row i. -/
structure MulIn (a b o : List Int) (c : Int) (i j : Nat) : Prop where
  len : o.length = a.length + b.length
  dg : Dg o
  c0 : 0 ≤ c
  c1 : c ≤ 65535
  zero : ∀ t, i + b.length ≤ t → o.getD t 0 = 0
  eq : val o + 65536 ^ (i + j) * c = val (a.take i) * val b + 65536 ^ i * (a.getD i 0 * val (b.take j))

/-- .. between the rows. -/
structure MulOut (a b o : List Int) (i : Nat) : Prop where
  len : o.length = a.length + b.length
  dg : Dg o
  zero : ∀ t, i + b.length ≤ t → o.getD t 0 = 0
  eq : val o = val (a.take i) * val b

theorem val_replicate (n : Nat) : val (List.replicate n 0) = 0 := by
  induction n with
  | zero => rfl
  | succ n ih => simp [List.replicate_succ, val, ih]

theorem MulOut.start (a b : List Int) : MulOut a b (List.replicate (a.length + b.length) 0) 0 :=
  ⟨by simp, fun d hd => by rw [List.eq_of_mem_replicate hd]; omega, fun t _ => by
    rw [List.getD_eq_getElem?_getD, List.getElem?_replicate]
    split <;> rfl, by simp [val, val_replicate]⟩

theorem MulOut.enter {a b o : List Int} {i : Nat} (h : MulOut a b o i) : MulIn a b o 0 i 0 :=
  ⟨h.len, h.dg, by omega, by omega, h.zero, by simp [val, h.eq]⟩

theorem mul_bound {c o x y : Int} (c0 : 0 ≤ c) (c1 : c ≤ 65535) (o0 : 0 ≤ o) (o1 : o < 65536) (x0 : 0 ≤ x) (x1 : x < 65536) (y0 : 0 ≤ y) (y1 : y < 65536) :
    0 ≤ x * y ∧ x * y ≤ 4294836225 ∧ 0 ≤ c + (o + x * y) ∧ (c + (o + x * y)) / 65536 ≤ 65535 := by
  have h1 : 0 ≤ x * y := Int.mul_nonneg x0 y0
  have h2 : x * y ≤ 65535 * 65535 := Int.mul_le_mul (by omega) (by omega) y0 (by omega)
  omega

theorem MulIn.step {a b o : List Int} {c : Int} {i j : Nat} (ha : Dg a) (hb : Dg b) (h : MulIn a b o c i j) (hi : i < a.length) (hj : j < b.length) :
    MulIn a b (o.set (i + j) ((c + (o.getD (i + j) 0 + a.getD i 0 * b.getD j 0)) % 65536)) ((c + (o.getD (i + j) 0 + a.getD i 0 * b.getD j 0)) / 65536) i (j + 1) := by
  obtain ⟨len, dg, c0, c1, zero, eq⟩ := h
  have h1 := ha.getD i
  have h2 := hb.getD j
  have h3 := dg.getD (i + j)
  have h4 := mul_bound c0 c1 h3.1 h3.2 h1.1 h1.2 h2.1 h2.2
  refine ⟨by simp [len], dg.set _ (by omega) (by omega), by omega, by omega, fun t ht => ?_, ?_⟩
  · rw [getD_set, if_neg (by omega)]
    exact zero t ht
  · rw [val_set _ _ _ (by omega), val_take_succ', ← Nat.add_assoc, Int.pow_succ]
    rw [Int.pow_add] at eq ⊢
    have e : (c + (o.getD (i + j) 0 + a.getD i 0 * b.getD j 0)) % 65536 + 65536 * ((c + (o.getD (i + j) 0 + a.getD i 0 * b.getD j 0)) / 65536) = c + (o.getD (i + j) 0 + a.getD i 0 * b.getD j 0) := by omega
    generalize (c + (o.getD (i + j) 0 + a.getD i 0 * b.getD j 0)) % 65536 = d at *
    generalize (c + (o.getD (i + j) 0 + a.getD i 0 * b.getD j 0)) / 65536 = q at *
    generalize (65536 : Int) ^ i = P at *
    generalize (65536 : Int) ^ j = R at *
    generalize a.getD i 0 = y at *
    generalize b.getD j 0 = z at *
    generalize o.getD (i + j) 0 = w at *
    clear h1 h2 h3 h4 zero len c0 c1 dg ha hb
    grind

theorem MulIn.leave {a b o : List Int} {c : Int} {i : Nat} (h : MulIn a b o c i b.length) (hi : i < a.length) : MulOut a b (o.set (i + b.length) c) (i + 1) := by
  obtain ⟨len, dg, c0, c1, zero, eq⟩ := h
  refine ⟨by simp [len], dg.set _ c0 (by omega), fun t ht => ?_, ?_⟩
  · rw [getD_set, if_neg (by omega)]
    exact zero t (by omega)
  · rw [val_set _ _ _ (by omega), zero _ (by omega), val_take_succ']
    rw [List.take_length] at eq
    generalize (65536 : Int) ^ (i + b.length) = R at *
    generalize (65536 : Int) ^ i = P at *
    generalize a.getD i 0 = y at *
    grind

theorem MulOut.done {a b o : List Int} (h : MulOut a b o a.length) : val o = val a * val b := by
  have := h.eq
  rwa [List.take_length] at this

end Go.Proofs.Ytehdmpfeddieoaa.Plain
