/- The law FnCurves answers true at all bytes: the points of a drawn curve are a group, and its base point goes round. -/
import Derived.Test.YtadmkolopcdffaaPFnCurvesx7
import Derived.Test.YtadmkolopcdffaaMBits
import Derived.Test.YtadmkolopcdffaaMInv
import Derived.Test.YtadmkolopcdffaaMField
import Derived.Test.YtadmkolopcdffaaMRoot
import Derived.Test.YtadmkolopcdffaaMEd
import Derived.Test.YtadmkolopcdffaaMGrp
import Derived.Test.YtadmkolopcdffaaMEdP
import Derived.Test.YtadmkolopcdffaaMCurve
import Derived.Test.YtadmkolopcdffaaMCurP
namespace Go.Proofs.Ytadmkolopcdffaa.Pure
open Go.RowKit Go.Proofs.Ytadmkolopcdffaa.PFnCurves Go.Proofs.YtadmkolopcdffaaW.PrintWords Go.Proofs.YtadmkolopcdffaaW.PrintLast Go.Proofs.Ytadmkolopcdffaa.Plain

set_option linter.unusedVariables false
set_option linter.unusedSimpArgs false

theorem w64 {n : Int} (h : -9223372036854775808 ≤ n) (h' : n ≤ 9223372036854775807) : wrap64 n = n := by
  unfold wrap64
  omega

theorem wf64 {n : Int} (h : (Lit.int .i64 n).wf = true) : -9223372036854775808 ≤ n ∧ n ≤ 9223372036854775807 := by
  simpa [Lit.wf, IntKind.min, IntKind.max, IntKind.signed, IntKind.bits] using h

theorem wsucc {i : Nat} (h : i ≤ 1099511627776) : wrap64 ((i : Int) + 1) = ((i + 1 : Nat) : Int) := by
  rw [w64 (by omega) (by omega)]
  omega

theorem wpred {i : Nat} (h : i ≤ 1099511627776) : wrap64 (((i + 1 : Nat) : Int) - 1) = (i : Int) := by
  rw [w64 (by omega) (by omega)]
  omega

theorem within_eq (n a b : Int) : impl_within.f n a b = some (decide (a ≤ n ∧ n ≤ b)) := by
  unfold impl_within.f
  by_cases h : n ≥ a
  · rw [if_pos h]
    have : a ≤ n := h
    simp [this]
  · rw [if_neg h]
    have : ¬ a ≤ n := h
    simp [this]

theorem left_eq {a m : Int} (h1 : 0 < m) (h2 : m ≤ 4611686018427387904) : spec_l2Left.f a m = some (a % m) := by
  unfold spec_l2Left.f
  rw [if_neg (by omega)]
  have e0 := Int.tmod_lt_of_pos a h1
  have e1 := Int.lt_tmod_of_pos a h1
  rw [w64 (by omega) (by omega), Int.tmod_eq_emod_of_nonneg (by omega), Int.tmod_eq_emod]
  congr 1
  split
  · simp
  · rw [show a % m - ((m.natAbs : Nat) : Int) + m = a % m by omega, Int.emod_emod]

theorem rest_eq {a m : Int} (h1 : 0 < m) (h2 : m ≤ 4611686018427387904) : impl_rest.f a m = some (a % m) := by
  unfold impl_rest.f
  rw [if_neg (by omega)]
  have e0 := Int.tmod_lt_of_pos a h1
  have e1 := Int.lt_tmod_of_pos a h1
  rw [w64 (by omega) (by omega), Int.tmod_eq_emod_of_nonneg (by omega), Int.tmod_eq_emod]
  congr 1
  split
  · simp
  · rw [show a % m - ((m.natAbs : Nat) : Int) + m = a % m by omega, Int.emod_emod]

theorem specinv_loop (a m : Int) (hm : 2 ≤ m) (hM : m ≤ 1073741824) : ∀ (n : Nat) (last left before now : Int), left.toNat ≤ n → EuInv a m last left before now →
    -m ≤ before → before ≤ m → ∃ r b, InvIs a m r b ∧ Ev (fun k => spec_l2Inv.l0 k m last left before now) r := by
  intro n
  induction n with
  | zero =>
    intro last left before now hn h hb hb'
    have := h.l0
    obtain rfl : left = 0 := by omega
    by_cases h1 : last = 1
    · refine ⟨before % m, true, h.one hm h1, Ev.step (fun k => by rw [spec_l2Inv.l0]) ?_⟩
      subst h1
      simp [left_eq (show 0 < m by omega) (show m ≤ 4611686018427387904 by omega)]
      exact Ev.now _
    · refine ⟨0, false, h.more h1, Ev.step (fun k => by rw [spec_l2Inv.l0]) ?_⟩
      simp [h1]
      exact Ev.now _
  | succ n ih =>
    intro last left before now hn h hb hb'
    by_cases h0 : left = 0
    · exact ih last left before now (by omega) h hb hb'
    · have hp : 0 < left := by have := h.l0; omega
      have h' := h.step hp
      have b1 := h.now_le
      have b2 := h'.now_le
      have l1 := h.l1
      have hl := h.lm
      have q0 : 0 ≤ last / left := Int.ediv_nonneg (by omega) (by omega)
      have q1 : last / left ≤ last := Int.ediv_le_self _ (by omega)
      obtain ⟨r, b, hr, ev⟩ := ih left (last % left) now (before - last / left * now) (by have := h'.lt; have := h'.l0; omega) h' (by omega) (by omega)
      refine ⟨r, b, hr, Ev.step (fun k => by rw [spec_l2Inv.l0]) ?_⟩
      rw [tdiv_of_nonneg (by omega), tmod_of_nonneg (by omega), w64 (n := last / left) (by omega) (by omega), w64 (n := last / left * now) (by omega) (by omega), w64 (by omega) (by omega)]
      simpa [h0, hp] using ev

theorem implinv_loop (a m : Int) (hm : 2 ≤ m) (hM : m ≤ 1073741824) : ∀ (n : Nat) (last left before now : Int), left.toNat ≤ n → EuInv a m last left before now →
    -m ≤ before → before ≤ m → ∃ r b, InvIs a m r b ∧ Ev (fun k => impl_InvInt.l0 k m last left before now) (r,b) := by
  intro n
  induction n with
  | zero =>
    intro last left before now hn h hb hb'
    have := h.l0
    obtain rfl : left = 0 := by omega
    by_cases h1 : last = 1
    · refine ⟨before % m, true, h.one hm h1, Ev.step (fun k => by rw [impl_InvInt.l0]) ?_⟩
      subst h1
      simp [rest_eq (show 0 < m by omega) (show m ≤ 4611686018427387904 by omega)]
      exact Ev.now _
    · refine ⟨0, false, h.more h1, Ev.step (fun k => by rw [impl_InvInt.l0]) ?_⟩
      simp [h1]
      exact Ev.now _
  | succ n ih =>
    intro last left before now hn h hb hb'
    by_cases h0 : left = 0
    · exact ih last left before now (by omega) h hb hb'
    · have hp : 0 < left := by have := h.l0; omega
      have h' := h.step hp
      have b1 := h.now_le
      have b2 := h'.now_le
      have l1 := h.l1
      have hl := h.lm
      have q0 : 0 ≤ last / left := Int.ediv_nonneg (by omega) (by omega)
      have q1 : last / left ≤ last := Int.ediv_le_self _ (by omega)
      obtain ⟨r, b, hr, ev⟩ := ih left (last % left) now (before - last / left * now) (by have := h'.lt; have := h'.l0; omega) h' (by omega) (by omega)
      refine ⟨r, b, hr, Ev.step (fun k => by rw [impl_InvInt.l0]) ?_⟩
      rw [tdiv_of_nonneg (by omega), tmod_of_nonneg (by omega), w64 (n := last / left) (by omega) (by omega), w64 (n := last / left * now) (by omega) (by omega), w64 (by omega) (by omega)]
      simpa [h0, hp] using ev

theorem implInv_eq (a : Int) {m : Int} (h : 2 ≤ m) (h' : m ≤ 1073741824) : ∃ r b, InvIs a m r b ∧ Ev (fun k => impl_InvInt.f k a m) (r, b) := by
  obtain ⟨r, b, hr, e⟩ := implinv_loop a m h h' (a % m).toNat m (a % m) 0 1 (Nat.le_refl _) (EuInv.start h) (by omega) (by omega)
  refine ⟨r, b, hr, ?_⟩
  unfold impl_InvInt.f
  simp only [within_eq, h, h', and_self, decide_true, if_true, rest_eq (a := a) (m := m) (by omega) (by omega), Option.bind_some]
  exact e

theorem specInv_eq (a : Int) {m : Int} (h : 2 ≤ m) (h' : m ≤ 1073741824) : ∃ r b, InvIs a m r b ∧ Ev (fun k => spec_l2Inv.f k a m) r := by
  obtain ⟨r, b, hr, e⟩ := specinv_loop a m h h' (a % m).toNat m (a % m) 0 1 (Nat.le_refl _) (EuInv.start h) (by omega) (by omega)
  refine ⟨r, b, hr, ?_⟩
  unfold spec_l2Inv.f
  simp only [left_eq (a := a) (m := m) (by omega) (by omega), Option.bind_some]
  exact e

def tab8 : ByteArray := ⟨#[0, 1, 2, 2, 3, 3, 3, 3, 4, 4, 4, 4, 4, 4, 4, 4, 5, 5, 5, 5, 5, 5, 5, 5, 5, 5, 5, 5, 5, 5, 5, 5, 6, 6, 6, 6, 6, 6, 6, 6, 6, 6, 6, 6, 6, 6, 6, 6, 6, 6, 6, 6, 6, 6, 6, 6, 6, 6, 6, 6, 6, 6, 6, 6, 7, 7, 7, 7, 7, 7, 7, 7, 7, 7, 7, 7, 7, 7, 7, 7, 7, 7, 7, 7, 7, 7, 7, 7, 7, 7, 7, 7, 7, 7, 7, 7, 7, 7, 7, 7, 7, 7, 7, 7, 7, 7, 7, 7, 7, 7, 7, 7, 7, 7, 7, 7, 7, 7, 7, 7, 7, 7, 7, 7, 7, 7, 7, 7, 8, 8, 8, 8, 8, 8, 8, 8, 8, 8, 8, 8, 8, 8, 8, 8, 8, 8, 8, 8, 8, 8, 8, 8, 8, 8, 8, 8, 8, 8, 8, 8, 8, 8, 8, 8, 8, 8, 8, 8, 8, 8, 8, 8, 8, 8, 8, 8, 8, 8, 8, 8, 8, 8, 8, 8, 8, 8, 8, 8, 8, 8, 8, 8, 8, 8, 8, 8, 8, 8, 8, 8, 8, 8, 8, 8, 8, 8, 8, 8, 8, 8, 8, 8, 8, 8, 8, 8, 8, 8, 8, 8, 8, 8, 8, 8, 8, 8, 8, 8, 8, 8, 8, 8, 8, 8, 8, 8, 8, 8, 8, 8, 8, 8, 8, 8, 8, 8, 8, 8, 8, 8, 8, 8, 8, 8, 8, 8]⟩

theorem tab8_all : ∀ n : Fin 256, bt tab8 ((n.val : Nat) : Int) = ((bl n.val : Nat) : Int) := by decide +kernel

set_option maxRecDepth 100000 in
theorem tab8_eq {x : Int} (h0 : 0 ≤ x) (h1 : x < 256) : bt (⟨#[0, 1, 2, 2, 3, 3, 3, 3, 4, 4, 4, 4, 4, 4, 4, 4, 5, 5, 5, 5, 5, 5, 5, 5, 5, 5, 5, 5, 5, 5, 5, 5, 6, 6, 6, 6, 6, 6, 6, 6, 6, 6, 6, 6, 6, 6, 6, 6, 6, 6, 6, 6, 6, 6, 6, 6, 6, 6, 6, 6, 6, 6, 6, 6, 7, 7, 7, 7, 7, 7, 7, 7, 7, 7, 7, 7, 7, 7, 7, 7, 7, 7, 7, 7, 7, 7, 7, 7, 7, 7, 7, 7, 7, 7, 7, 7, 7, 7, 7, 7, 7, 7, 7, 7, 7, 7, 7, 7, 7, 7, 7, 7, 7, 7, 7, 7, 7, 7, 7, 7, 7, 7, 7, 7, 7, 7, 7, 7, 8, 8, 8, 8, 8, 8, 8, 8, 8, 8, 8, 8, 8, 8, 8, 8, 8, 8, 8, 8, 8, 8, 8, 8, 8, 8, 8, 8, 8, 8, 8, 8, 8, 8, 8, 8, 8, 8, 8, 8, 8, 8, 8, 8, 8, 8, 8, 8, 8, 8, 8, 8, 8, 8, 8, 8, 8, 8, 8, 8, 8, 8, 8, 8, 8, 8, 8, 8, 8, 8, 8, 8, 8, 8, 8, 8, 8, 8, 8, 8, 8, 8, 8, 8, 8, 8, 8, 8, 8, 8, 8, 8, 8, 8, 8, 8, 8, 8, 8, 8, 8, 8, 8, 8, 8, 8, 8, 8, 8, 8, 8, 8, 8, 8, 8, 8, 8, 8, 8, 8, 8, 8, 8, 8, 8, 8, 8, 8]⟩ : ByteArray) x = ((bl x.toNat : Nat) : Int) := by
  have := tab8_all ⟨x.toNat, by omega⟩
  unfold tab8 at this
  rw [show (((⟨x.toNat, by omega⟩ : Fin 256).val : Nat) : Int) = x from by simp; omega] at this
  exact this

theorem blI {x : Int} (k : Nat) (h : (2 : Int) ^ k ≤ x) : ((bl x.toNat : Nat) : Int) = ((bl (x / 2 ^ k).toNat : Nat) : Int) + k := by
  have h1 := bl_shift k x.toNat (by have := two_pow_int k; omega)
  have h2 : (x / 2 ^ k).toNat = x.toNat / 2 ^ k := by
    have h3 : 0 < (2 : Int) ^ k := Int.pow_pos (by omega)
    obtain ⟨n, rfl⟩ : ∃ n : Nat, x = n := ⟨x.toNat, by omega⟩
    rw [← two_pow_int, Int.toNat_natCast, ← Int.natCast_ediv, Int.toNat_natCast]
  rw [h2, h1]
  omega

set_option maxRecDepth 100000 in
theorem len64_j0 {x c : Int} (h0 : 0 ≤ x) (h1 : x < 4294967296) (c0 : 0 ≤ c) (c1 : c ≤ 1000) : Ev (fun k => bits_Len64.j0 k x c) (c + ((bl x.toNat : Nat) : Int)) := by
  refine Ev.step (fun k => by rw [bits_Len64.j0]) ?_
  have blb : ∀ y : Int, 0 ≤ y → y < 256 → ((bl y.toNat : Nat) : Int) ≤ 8 := by
    intro y y0 y1
    have := bl_le (n := y.toNat) (k := 8) (by omega)
    omega
  by_cases p1 : x ≥ 65536
  · simp only [if_pos p1]
    have e1 := blI (x := x) 16 (by omega)
    by_cases p2 : x / 65536 ≥ 256
    · have e2 := blI (x := x / 65536) 8 (by omega)
      have r0 : 0 ≤ x / 65536 / 256 := by omega
      have r1 : x / 65536 / 256 < 256 := by omega
      have r2 : x / 65536 / 256 % 256 = x / 65536 / 256 := by omega
      have b := blb (x / 65536 / 256) (by omega) (by omega)
      simp only [if_pos p2, r2, if_pos r0, if_pos r1, tab8_eq r0 r1]
      rw [w64 (n := ((bl (x / 65536 / 256).toNat : Nat) : Int)) (by omega) (by omega), w64 (n := c + 16) (by omega) (by omega), w64 (n := c + 16 + 8) (by omega) (by omega), w64 (by omega) (by omega),
        show c + 16 + 8 + ((bl (x / 65536 / 256).toNat : Nat) : Int) = c + ((bl x.toNat : Nat) : Int) by simp only [show ((2 : Int) ^ 16) = 65536 by decide, show ((2 : Int) ^ 8) = 256 by decide] at e1 e2; omega]
      exact Ev.now _
    · have r0 : 0 ≤ x / 65536 := by omega
      have r1 : x / 65536 < 256 := by omega
      have r2 : x / 65536 % 256 = x / 65536 := by omega
      have b := blb (x / 65536) (by omega) (by omega)
      simp only [if_neg p2, r2, if_pos r0, if_pos r1, tab8_eq r0 r1]
      rw [w64 (n := ((bl (x / 65536).toNat : Nat) : Int)) (by omega) (by omega), w64 (n := c + 16) (by omega) (by omega), w64 (by omega) (by omega),
        show c + 16 + ((bl (x / 65536).toNat : Nat) : Int) = c + ((bl x.toNat : Nat) : Int) by simp only [show ((2 : Int) ^ 16) = 65536 by decide] at e1; omega]
      exact Ev.now _
  · simp only [if_neg p1]
    by_cases p2 : x ≥ 256
    · have e2 := blI (x := x) 8 (by omega)
      have r0 : 0 ≤ x / 256 := by omega
      have r1 : x / 256 < 256 := by omega
      have r2 : x / 256 % 256 = x / 256 := by omega
      have b := blb (x / 256) (by omega) (by omega)
      simp only [if_pos p2, r2, if_pos r0, if_pos r1, tab8_eq r0 r1]
      rw [w64 (n := ((bl (x / 256).toNat : Nat) : Int)) (by omega) (by omega), w64 (n := c + 8) (by omega) (by omega), w64 (by omega) (by omega),
        show c + 8 + ((bl (x / 256).toNat : Nat) : Int) = c + ((bl x.toNat : Nat) : Int) by simp only [show ((2 : Int) ^ 8) = 256 by decide] at e2; omega]
      exact Ev.now _
    · have r0 : 0 ≤ x := by omega
      have r1 : x < 256 := by omega
      have r2 : x % 256 = x := by omega
      have b := blb x (by omega) (by omega)
      simp only [if_neg p2, r2, if_pos r0, if_pos r1, tab8_eq r0 r1]
      rw [w64 (n := ((bl x.toNat : Nat) : Int)) (by omega) (by omega), w64 (by omega) (by omega)]
      exact Ev.now _

theorem len_eq {x : Int} (h0 : 0 ≤ x) (h1 : x < 18446744073709551616) : Ev (fun k => bits_Len.f k x) ((bl x.toNat : Nat) : Int) := by
  unfold bits_Len.f bits_Len64.f
  by_cases p : x ≥ 4294967296
  · simp only [if_pos p]
    have e := blI (x := x) 32 (by omega)
    have := len64_j0 (x := x / 4294967296) (c := 32) (by omega) (by omega) (by omega) (by omega)
    rw [show 32 + ((bl (x / 4294967296).toNat : Nat) : Int) = ((bl x.toNat : Nat) : Int) by simp only [show ((2 : Int) ^ 32) = 4294967296 by decide] at e; omega] at this
    exact Ev.bind this (Ev.now _)
  · simp only [if_neg p]
    have := len64_j0 (x := x) (c := 0) (by omega) (by omega) (by omega) (by omega)
    rw [Int.zero_add] at this
    exact Ev.bind this (Ev.now _)

theorem u64w {x : Int} (h0 : 0 ≤ x) (h1 : x < 18446744073709551616) : IntKind.u64.wrap x = x := by
  rw [show IntKind.u64.wrap x = x % 18446744073709551616 from by simp [IntKind.wrap, IntKind.bits, IntKind.signed]]
  omega

theorem and1 {x : Int} (h0 : 0 ≤ x) (h1 : x < 9223372036854775808) : Go.bits .and .i64 x 1 = x % 2 := by
  have := bits_mask .i64 63 (by decide) (fun n a b => by rw [IntKind.wrap_i64]; omega) 1 (by decide) x h0 (by simpa using h1)
  simpa using this

theorem mulmod (x y m : Int) : x % m * (y % m) % m = x * y % m := (Int.mul_emod x y m).symm

theorem mod_bd (x : Int) {m : Int} (h : 1 ≤ m) (h' : m ≤ 1073741824) : 0 ≤ x % m ∧ x % m < m := ⟨Int.emod_nonneg _ (by omega), Int.emod_lt_of_pos _ (by omega)⟩

theorem mul_small {x y : Int} (hx : 0 ≤ x) (hx' : x < 1073741824) (hy : 0 ≤ y) (hy' : y < 1073741824) : 0 ≤ x * y ∧ wrap64 (x * y) = x * y := by
  have h1 : 0 ≤ x * y := Int.mul_nonneg hx hy
  have h2 : x * y ≤ 1073741823 * 1073741823 := Int.mul_le_mul (by omega) (by omega) hy (by omega)
  exact ⟨h1, w64 (by omega) (by omega)⟩

theorem one_mod' {m : Int} (h : 1 ≤ m) : (1 : Int) % m = 1 % m := rfl

theorem iprime_loop (n : Int) (hn : n ≤ 1099511627776) (h2 : 2 ≤ n) : ∀ (m : Nat) (d : Int), 2 ≤ d → (1048580 - d).toNat ≤ m → d ≤ 1048577 → (∀ c, 2 ≤ c → c < d → ¬ c ∣ n) →
    ∃ r, (r = true → Prm n) ∧ (r = false → ¬ Prm n) ∧ Ev (fun k => impl_PrimeInt.l0 k n d) r := by
  intro m
  induction m with
  | zero => intro d h h1 h2; omega
  | succ m ih =>
    intro d h h1 h3 hc
    have e0 : 0 ≤ d * d := Int.mul_nonneg (by omega) (by omega)
    have e1 : d * d ≤ 1048577 * 1048577 := Int.mul_le_mul h3 h3 (by omega) (by omega)
    have h5 : d * d ≤ n → d ≤ 1048576 := by
      intro k
      rcases Int.lt_or_le 1048576 d with h6 | h6
      · have : (1048577 : Int) * 1048577 ≤ d * d := Int.mul_le_mul h6 h6 (by omega) (by omega)
        omega
      · exact h6
    have ew : wrap64 (d * d) = d * d := w64 (by omega) (by omega)
    by_cases h6 : d * d ≤ n
    · have hd := h5 h6
      by_cases h4 : n % d = 0
      · refine ⟨false, fun k => (by cases k), fun _ k => k.2 d h h6 (Int.dvd_of_emod_eq_zero h4), Ev.step (fun k => by rw [impl_PrimeInt.l0]) ?_⟩
        simp only [ew, if_pos h6, if_neg (show ¬ d = 0 by clear ew; omega), Int.tmod_eq_emod_of_nonneg (show 0 ≤ n by clear ew; omega), if_pos h4]
        exact Ev.now _
      · obtain ⟨r, r1, r2, e⟩ := ih (d + 1) (by clear ew; omega) (by clear ew; omega) (by clear ew; omega) (fun c c0 c1 => by
          by_cases hcd : c = d
          · subst hcd; intro k; exact h4 (Int.emod_eq_zero_of_dvd k)
          · exact hc c c0 (by clear ew; omega))
        refine ⟨r, r1, r2, Ev.step (fun k => by rw [impl_PrimeInt.l0]) ?_⟩
        simp only [ew, if_pos h6, if_neg (show ¬ d = 0 by clear ew; omega), Int.tmod_eq_emod_of_nonneg (show 0 ≤ n by clear ew; omega), if_neg h4]
        clear ew
        rw [w64 (n := d + 1) (by omega) (by omega)]
        exact e
    · refine ⟨true, fun _ => ⟨h2, fun c c0 c1 c2 => ?_⟩, fun k => (by cases k), Ev.step (fun k => by rw [impl_PrimeInt.l0]) ?_⟩
      · refine hc c c0 ?_ c2
        rcases Int.lt_or_le c d with h7 | h7
        · exact h7
        · have : d * d ≤ c * c := Int.mul_le_mul h7 h7 (by clear ew; omega) (by clear ew; omega)
          clear ew; omega
      · simp only [ew, if_neg h6]
        exact Ev.now _

theorem iprime_eq (n : Int) : ∃ r, (r = true → Prm n ∧ n ≤ 1099511627776) ∧ (r = false → ¬ (Prm n ∧ n ≤ 1099511627776)) ∧ Ev (fun k => impl_PrimeInt.f k n) r := by
  unfold impl_PrimeInt.f
  simp only [within_eq, Option.bind_some]
  by_cases h : 2 ≤ n ∧ n ≤ 1099511627776
  · obtain ⟨r, r1, r2, e⟩ := iprime_loop n h.2 h.1 1048578 2 (by omega) (by omega) (by omega) (fun c c0 c1 => by omega)
    refine ⟨r, fun k => ⟨r1 k, h.2⟩, fun k q => r2 k q.1, ?_⟩
    simp only [h.1, h.2, and_self, decide_true, if_true]
    exact e
  · refine ⟨false, fun k => (by cases k), fun _ q => h ⟨q.1.1, q.2⟩, ?_⟩
    simp only [h, decide_false]
    simpa using Ev.now false

theorem mm {x y p : Int} (hp : 1 ≤ p) (hp' : p ≤ 1048576) (x0 : 0 ≤ x) (x1 : x < p) (y0 : 0 ≤ y) (y1 : y < p) : 0 ≤ x * y ∧ x * y ≤ 1099511627776 := by
  have h1 : 0 ≤ x * y := Int.mul_nonneg x0 y0
  have h2 : x * y ≤ 1048576 * 1048576 := Int.mul_le_mul (by omega) (by omega) y0 (by omega)
  omega

theorem md {x p : Int} (hp : 1 ≤ p) : 0 ≤ x % p ∧ x % p < p := ⟨Int.emod_nonneg _ (by omega), Int.emod_lt_of_pos _ (by omega)⟩

/-- A product's rest, as the code makes it. -/
theorem mulm {x y p : Int} (hp : 1 ≤ p) (hp' : p ≤ 1048576) (x0 : 0 ≤ x) (x1 : x < p) (y0 : 0 ≤ y) (y1 : y < p) : Int.tmod (wrap64 (x * y)) p = x * y % p := by
  obtain ⟨h1, h2⟩ := mm hp hp' x0 x1 y0 y1
  rw [w64 (by omega) (by omega), Int.tmod_eq_emod_of_nonneg h1]

theorem mms {x y z p : Int} (hp : 1 ≤ p) (hp' : p ≤ 1048576) (x0 : 0 ≤ x) (x1 : x < p) (y0 : 0 ≤ y) (y1 : y < p) (z0 : 0 ≤ z) (z1 : z < p) : -1099511627776 ≤ x * (y - z) ∧ x * (y - z) ≤ 1099511627776 := by
  obtain ⟨h1, h2⟩ := mm hp hp' x0 x1 y0 y1
  obtain ⟨h3, h4⟩ := mm hp hp' x0 x1 z0 z1
  rw [Int.mul_sub]
  omega

/-- What is reckoned behind the slope. -/
theorem third_arith {l x y u p : Int} (hp : 1 ≤ p) (hp' : p ≤ 1048576) (l0 : 0 ≤ l) (l1 : l < p) (x0 : 0 ≤ x) (x1 : x < p) (y0 : 0 ≤ y) (y1 : y < p) (u0 : 0 ≤ u) (u1 : u < p) :
    wrap64 (wrap64 (wrap64 (l * l) - x) - u) = l * l - x - u ∧ ∀ r, 0 ≤ r → r < p → wrap64 (wrap64 (l * wrap64 (x - r)) - y) = l * (x - r) - y := by
  obtain ⟨h1, h2⟩ := mm hp hp' l0 l1 l0 l1
  constructor
  · rw [w64 (n := l * l) (by omega) (by omega), w64 (n := l * l - x) (by omega) (by omega), w64 (by omega) (by omega)]
  · intro r r0 r1
    obtain ⟨h3, h4⟩ := mms hp hp' l0 l1 x0 x1 r0 r1
    rw [w64 (n := x - r) (by omega) (by omega), w64 (n := l * (x - r)) (by omega) (by omega), w64 (by omega) (by omega)]

theorem specSum_eq {p a b n gx gy x y u v : Int} {f g : Bool} (h : CNum p a b) (K : Fld p) (hp : CPt p a b K x y f) (hq : CPt p a b K u v g) :
    ∃ r s t, CPt p a b K r s t ∧ toPt K r s t = Pt.add (toF a) (toPt K x y f) (toPt K u v g) ∧ Ev (fun k => spec_l3Add.f k p a b n gx gy x y f u v g) (r, s, t) := by
  have hlo := h.lo
  have hhi := h.hi
  have p1 : 1 ≤ p := by omega
  cases f with
  | true =>
    refine ⟨u, v, g, hq, by simp only [toPt, if_true, Pt.far_add], ?_⟩
    unfold spec_l3Add.f
    simp only [if_true]
    exact Ev.now _
  | false =>
    cases g with
    | true =>
      refine ⟨x, y, false, hp, by simp only [toPt, if_true, Bool.false_eq_true, if_false, Pt.add_far], ?_⟩
      unfold spec_l3Add.f
      simp only [if_true, Bool.false_eq_true, if_false]
      exact Ev.now _
    | false =>
      have wy : Int.tmod (wrap64 (y + v)) p = (y + v) % p := by
        have := hp.y0; have := hp.y1; have := hq.y0; have := hq.y1
        rw [w64 (by omega) (by omega), Int.tmod_eq_emod_of_nonneg (by omega)]
      by_cases hn : x = u ∧ (y + v) % p = 0
      · refine ⟨0, 0, true, CPt.zero (by omega), cpt_opp hp hq hn, ?_⟩
        unfold spec_l3Add.f
        simp only [Bool.false_eq_true, if_false, if_pos hn.1, if_neg (show ¬ p = 0 by omega), wy, if_pos hn.2]
        exact Ev.now _
      · obtain ⟨r, s, t, h1, h2, h3⟩ : ∃ r s t, CPt p a b K r s t ∧ toPt K r s t = Pt.add (toF a) (toPt K x y false) (toPt K u v false) ∧ Ev (fun k => spec_l3Add.j0 k p a b n gx gy x y false u v false) (r, s, t) := by
          by_cases e : x = u
          · obtain ⟨ey, hne⟩ := dbl_ne hp hq hn e
            obtain ⟨i, bi, i1, e1⟩ := specInv_eq (2 * y) (m := p) (by omega) (by omega)
            obtain ⟨_, i0, i2, ti⟩ := inv_of K h.prm i1 hne
            have w3 : Int.tmod (wrap64 (3 * x)) p = 3 * x % p := by
              have := hp.x0; have := hp.x1
              rw [w64 (by omega) (by omega), Int.tmod_eq_emod_of_nonneg (by omega)]
            have m3 := md (x := 3 * x) p1
            obtain ⟨q1, q2⟩ := mm p1 hhi m3.1 m3.2 hp.x0 hp.x1
            have wn : Int.tmod (wrap64 (wrap64 (3 * x % p * x) + a)) p = (3 * x % p * x + a) % p := by
              have := h.a0; have := h.a1
              rw [w64 (n := 3 * x % p * x) (by clear w3; omega) (by clear w3; omega), w64 (by clear w3; omega) (by clear w3; omega), Int.tmod_eq_emod_of_nonneg (by clear w3; omega)]
            have mn := md (x := 3 * x % p * x + a) p1
            have wl := mulm p1 hhi mn.1 mn.2 (Int.le_of_lt i0) i2
            have ml := md (x := (3 * x % p * x + a) % p * i) p1
            have hl : (toF ((3 * x % p * x + a) % p * i % p) : K.F) = (3 * toF x * toF x + toF a) * toF i := by
              have e3 : (toF 3 : K.F) = 3 := toF_nat 3
              simp only [K.emod, toF_mul, toF_add, e3]
            have hs := slope_dbl (v := v) (a := a) e ti hl
            obtain ⟨c1, c2⟩ := cpt_third hp hq (by omega) hn hs
            have y0 := hp.y0
            have y1 := hp.y1
            have wi : wrap64 (2 * y) = 2 * y := w64 (by clear w3 wn wl wy; omega) (by clear w3 wn wl wy; omega)
            generalize hL : (3 * x % p * x + a) % p * i % p = L at *
            obtain ⟨t1, t2⟩ := third_arith p1 hhi ml.1 ml.2 hp.x0 hp.x1 hp.y0 hp.y1 hq.x0 hq.x1
            have mr := md (x := L * L - x - u) p1
            refine ⟨_, _, _, c1, c2, Ev.step (fun k => by rw [spec_l3Add.j0]) ?_⟩
            simp only [if_pos e, if_neg (show ¬ p = 0 by clear w3 wn wl wy; omega), w3, wn, wi]
            refine Ev.bind e1 ?_
            rw [wl, t1, left_eq (by clear w3 wn wl wy; omega) (by clear w3 wn wl wy; omega)]
            simp only [Option.bind_some]
            rw [t2 _ mr.1 mr.2, left_eq (by clear w3 wn wl wy; omega) (by clear w3 wn wl wy; omega)]
            exact Ev.now _
          · have hne := chord_ne hp hq e
            obtain ⟨i, bi, i1, e1⟩ := specInv_eq (u - x) (m := p) (by omega) (by omega)
            obtain ⟨_, i0, i2, ti⟩ := inv_of K h.prm i1 hne
            have mn := md (x := v - y) p1
            have wl := mulm p1 hhi mn.1 mn.2 (Int.le_of_lt i0) i2
            have ml := md (x := (v - y) % p * i) p1
            have hl : (toF ((v - y) % p * i % p) : K.F) = toF (v - y) * toF i := by simp only [K.emod, toF_mul]
            have hs := slope_chord (a := a) hp hq e ti hl
            obtain ⟨c1, c2⟩ := cpt_third hp hq (by omega) hn hs
            have y0 := hp.y0
            have y1 := hp.y1
            have x0 := hp.x0
            have x1 := hp.x1
            have v0 := hq.y0
            have v1 := hq.y1
            have u0 := hq.x0
            have u1 := hq.x1
            have wi : wrap64 (u - x) = u - x := w64 (by clear wl wy; omega) (by clear wl wy; omega)
            have wv : wrap64 (v - y) = v - y := w64 (by clear wi wl wy; omega) (by clear wi wl wy; omega)
            generalize hL : (v - y) % p * i % p = L at *
            obtain ⟨t1, t2⟩ := third_arith p1 hhi ml.1 ml.2 hp.x0 hp.x1 hp.y0 hp.y1 hq.x0 hq.x1
            have mr := md (x := L * L - x - u) p1
            refine ⟨_, _, _, c1, c2, Ev.step (fun k => by rw [spec_l3Add.j0]) ?_⟩
            simp only [if_neg e, wv, wi]
            rw [left_eq (by clear wi wv wl wy; omega) (by clear wi wv wl wy; omega)]
            simp only [Option.bind_some, if_neg (show ¬ p = 0 by clear wi wv wl wy; omega)]
            refine Ev.bind e1 ?_
            rw [wl, t1, left_eq (by clear wi wv wl wy; omega) (by clear wi wv wl wy; omega)]
            simp only [Option.bind_some]
            rw [t2 _ mr.1 mr.2, left_eq (by clear wi wv wl wy; omega) (by clear wi wv wl wy; omega)]
            exact Ev.now _
        refine ⟨r, s, t, h1, h2, ?_⟩
        unfold spec_l3Add.f
        by_cases e : x = u
        · simp only [Bool.false_eq_true, if_false, if_pos e, if_neg (show ¬ p = 0 by clear wy; omega), wy, if_neg (fun t => hn ⟨e, t⟩)]
          exact h3
        · simp only [Bool.false_eq_true, if_false, if_neg e]
          exact h3

theorem specTimes_loop {p a b n gx gy : Int} (h : CNum p a b) (K : Fld p) : ∀ (m E : Nat) (x y u v : Int) (f g : Bool), E ≤ m → E < 9223372036854775808 → CPt p a b K x y f → CPt p a b K u v g →
    ∃ r s t, CPt p a b K r s t ∧ toPt K r s t = (h.grp K).add (toPt K u v g) ((h.grp K).smul E (toPt K x y f)) ∧ Ev (fun k => spec_l3Mul.l0 k (E : Int) p a b n gx gy x y f u v g) (r, s, t) := by
  intro m
  induction m with
  | zero =>
    intro E x y u v f g hE hE' hp hq
    obtain rfl : E = 0 := by omega
    refine ⟨u, v, g, hq, ?_, Ev.step (fun k => by rw [spec_l3Mul.l0]) ?_⟩
    · exact ((h.grp K).add_zero (p := toPt K u v g) hq.pt).symm
    · simp only [if_neg (show ¬ ((0 : Nat) : Int) > 0 by omega)]
      exact Ev.now _
  | succ m ih =>
    intro E x y u v f g hE hE' hp hq
    by_cases h0 : E = 0
    · subst h0; exact ih 0 x y u v f g (by omega) (by omega) hp hq
    · have q0 : (E : Int) > 0 := by omega
      have q2 : wrap64 (Int.tdiv (E : Int) 2) = ((E / 2 : Nat) : Int) := by
        rw [Int.tdiv_eq_ediv_of_nonneg (by omega), w64 (by omega) (by omega)]
        omega
      have q3 : Int.tmod (E : Int) 2 = ((E % 2 : Nat) : Int) := by rw [Int.tmod_eq_emod_of_nonneg (by omega)]; clear q2; omega
      obtain ⟨x2, y2, g2, hp2, f2, e2⟩ := specSum_eq (n := n) (gx := gx) (gy := gy) h K hp hp
      rcases Nat.mod_two_eq_zero_or_one E with hb | hb
      · obtain ⟨r, s, t, hr, fr, er⟩ := ih (E / 2) x2 y2 u v g2 g (by clear q2 q3; omega) (by clear q2 q3; omega) hp2 hq
        refine ⟨r, s, t, hr, ?_, Ev.step (fun k => by rw [spec_l3Mul.l0]) ?_⟩
        · rw [fr, f2]
          have := (h.grp K).step_down (o := toPt K u v g) (p := toPt K x y f) hp.pt (E / 2)
          rw [show 2 * (E / 2) = E by clear q2 q3; omega] at this
          exact this
        · simp only [if_pos q0, q2, q3, hb, if_neg (show ¬ ((0 : Nat) : Int) = 1 by omega)]
          exact Ev.bind e2 er
      · obtain ⟨u2, v2, k2, hq2, c2, d2⟩ := specSum_eq (n := n) (gx := gx) (gy := gy) h K hq hp
        obtain ⟨r, s, t, hr, fr, er⟩ := ih (E / 2) x2 y2 u2 v2 g2 k2 (by clear q2 q3; omega) (by clear q2 q3; omega) hp2 hq2
        refine ⟨r, s, t, hr, ?_, Ev.step (fun k => by rw [spec_l3Mul.l0]) ?_⟩
        · rw [fr, f2, c2]
          have := (h.grp K).step_down1 (o := toPt K u v g) (p := toPt K x y f) hq.pt hp.pt (E / 2)
          rw [show 2 * (E / 2) + 1 = E by clear q2 q3; omega] at this
          exact this
        · simp only [if_pos q0, q2, q3, hb, if_pos (show ((1 : Nat) : Int) = 1 by omega)]
          exact Ev.bind d2 (Ev.bind e2 er)

theorem specTimes_eq {p a b o gx gy n x y : Int} {f : Bool} (h : CNum p a b) (K : Fld p) (hn : 0 ≤ n) (hn' : n ≤ 9223372036854775807) (hp : CPt p a b K x y f) :
    ∃ r s t, CPt p a b K r s t ∧ toPt K r s t = (h.grp K).smul n.toNat (toPt K x y f) ∧ Ev (fun k => spec_l3Mul.f k p a b o gx gy n x y f) (r, s, t) := by
  obtain ⟨E, rfl⟩ : ∃ E : Nat, n = E := ⟨n.toNat, by omega⟩
  obtain ⟨r, s, t, hr, fr, er⟩ := specTimes_loop (n := o) (gx := gx) (gy := gy) h K E E x y 0 0 f true (Nat.le_refl _) (by omega) hp (CPt.zero (by have := h.lo; omega))
  refine ⟨r, s, t, hr, ?_, er⟩
  rw [fr, Int.toNat_natCast]
  exact (h.grp K).zero_add ((h.grp K).on_smul (p := toPt K x y f) hp.pt E)

theorem implSum_eq {p a b n gx gy x y u v : Int} {f g : Bool} (h : CNum p a b) (K : Fld p) (hp : CPt p a b K x y f) (hq : CPt p a b K u v g) :
    ∃ r s t, CPt p a b K r s t ∧ toPt K r s t = Pt.add (toF a) (toPt K x y f) (toPt K u v g) ∧ Ev (fun k => impl_Curve_sum.f k p a b n gx gy x y f u v g) (r, s, t) := by
  have hlo := h.lo
  have hhi := h.hi
  have p1 : 1 ≤ p := by omega
  cases f with
  | true =>
    refine ⟨u, v, g, hq, by simp only [toPt, if_true, Pt.far_add], ?_⟩
    unfold impl_Curve_sum.f
    simp only [if_true]
    exact Ev.now _
  | false =>
    cases g with
    | true =>
      refine ⟨x, y, false, hp, by simp only [toPt, if_true, Bool.false_eq_true, if_false, Pt.add_far], ?_⟩
      unfold impl_Curve_sum.f
      simp only [if_true, Bool.false_eq_true, if_false]
      exact Ev.now _
    | false =>
      have wy : Int.tmod (wrap64 (y + v)) p = (y + v) % p := by
        have := hp.y0; have := hp.y1; have := hq.y0; have := hq.y1
        rw [w64 (by omega) (by omega), Int.tmod_eq_emod_of_nonneg (by omega)]
      by_cases hn : x = u ∧ (y + v) % p = 0
      · refine ⟨0, 0, true, CPt.zero (by omega), cpt_opp hp hq hn, ?_⟩
        unfold impl_Curve_sum.f
        simp only [Bool.false_eq_true, if_false, if_pos hn.1, if_neg (show ¬ p = 0 by omega), wy, if_pos hn.2]
        exact Ev.now _
      · -- the last step, at a slope's two parts
        have tail : ∀ nu de i bi : Int, True → (toF de : K.F) ≠ 0 → (∀ l : Int, ∀ i : Int, (toF i : K.F) = (toF de)⁻¹ → (toF l : K.F) = toF nu * toF i → (toF l : K.F) = slope (toF a) (toF x) (toF y) (toF u) (toF v)) →
            ∃ r s t, CPt p a b K r s t ∧ toPt K r s t = Pt.add (toF a) (toPt K x y false) (toPt K u v false) ∧ Ev (fun k => impl_Curve_sum.j1 k nu de p a b n gx gy x y false u v false) (r, s, t) := by
          intro nu de _ _ _ hne hsl
          obtain ⟨i, bi, i1, e1⟩ := implInv_eq de (m := p) (by omega) (by omega)
          obtain ⟨_, i0, i2, ti⟩ := inv_of K h.prm i1 hne
          have mn := md (x := nu) p1
          have wl := mulm p1 hhi mn.1 mn.2 (Int.le_of_lt i0) i2
          have ml := md (x := nu % p * i) p1
          have hl : (toF (nu % p * i % p) : K.F) = toF nu * toF i := by simp only [K.emod, toF_mul]
          have hs := hsl _ _ ti hl
          obtain ⟨c1, c2⟩ := cpt_third hp hq (by omega) hn hs
          generalize hL : nu % p * i % p = L at *
          obtain ⟨t1, t2⟩ := third_arith p1 hhi ml.1 ml.2 hp.x0 hp.x1 hp.y0 hp.y1 hq.x0 hq.x1
          have mr := md (x := L * L - x - u) p1
          refine ⟨_, _, _, c1, c2, Ev.step (fun k => by rw [impl_Curve_sum.j1]) ?_⟩
          refine Ev.bind e1 ?_
          simp only
          rw [rest_eq (by clear wl wy; omega) (by clear wl wy; omega)]
          simp only [Option.bind_some, if_neg (show ¬ p = 0 by clear wl wy; omega)]
          rw [wl, t1, rest_eq (by clear wl wy; omega) (by clear wl wy; omega)]
          simp only [Option.bind_some]
          rw [t2 _ mr.1 mr.2, rest_eq (by clear wl wy; omega) (by clear wl wy; omega)]
          exact Ev.now _
        obtain ⟨r, s, t, h1, h2, h3⟩ : ∃ r s t, CPt p a b K r s t ∧ toPt K r s t = Pt.add (toF a) (toPt K x y false) (toPt K u v false) ∧ Ev (fun k => impl_Curve_sum.j0 k p a b n gx gy x y false u v false) (r, s, t) := by
          by_cases e : x = u
          · obtain ⟨ey, hne⟩ := dbl_ne hp hq hn e
            obtain ⟨r, s, t, h1, h2, h3⟩ := tail (3 * x * x + a) (2 * y) 0 0 trivial hne (fun l i hi hl => slope_dbl (v := v) (a := a) e hi (by
              have e3 : (toF 3 : K.F) = 3 := toF_nat 3
              rw [hl]
              simp only [toF_mul, toF_add, e3]))
            refine ⟨r, s, t, h1, h2, Ev.step (fun k => by rw [impl_Curve_sum.j0]) ?_⟩
            have x0 := hp.x0
            have x1 := hp.x1
            have y0 := hp.y0
            have y1 := hp.y1
            have a0 := h.a0
            have a1 := h.a1
            obtain ⟨q1, q2⟩ := mm p1 hhi x0 x1 x0 x1
            have e4 : 3 * x * x = 3 * (x * x) := Int.mul_assoc ..
            have w3 : wrap64 (3 * x) = 3 * x := w64 (by clear wy; omega) (by clear wy; omega)
            have w4 : wrap64 (3 * x * x) = 3 * x * x := w64 (by clear wy w3; omega) (by clear wy w3; omega)
            have w5 : wrap64 (3 * x * x + a) = 3 * x * x + a := w64 (by clear wy w3 w4; omega) (by clear wy w3 w4; omega)
            have w6 : wrap64 (2 * y) = 2 * y := w64 (by clear wy w3 w4 w5; omega) (by clear wy w3 w4 w5; omega)
            have hb : (x == u && (y == v && (false == false))) = true := by simp [e, ey]
            simp only [hb, if_true, w3, w4, w5, w6]
            exact h3
          · have hne := chord_ne hp hq e
            obtain ⟨r, s, t, h1, h2, h3⟩ := tail (v - y) (u - x) 0 0 trivial hne (fun l i hi hl => slope_chord (a := a) hp hq e hi hl)
            refine ⟨r, s, t, h1, h2, Ev.step (fun k => by rw [impl_Curve_sum.j0]) ?_⟩
            have x0 := hp.x0
            have x1 := hp.x1
            have y0 := hp.y0
            have y1 := hp.y1
            have v0 := hq.y0
            have v1 := hq.y1
            have u0 := hq.x0
            have u1 := hq.x1
            have w1 : wrap64 (v - y) = v - y := w64 (by clear wy; omega) (by clear wy; omega)
            have w2 : wrap64 (u - x) = u - x := w64 (by clear wy w1; omega) (by clear wy w1; omega)
            have hb : (x == u && (y == v && (false == false))) = false := by simp [e]
            simp only [hb, Bool.false_eq_true, if_false, w1, w2]
            exact h3
        refine ⟨r, s, t, h1, h2, ?_⟩
        unfold impl_Curve_sum.f
        by_cases e : x = u
        · simp only [Bool.false_eq_true, if_false, if_pos e, if_neg (show ¬ p = 0 by clear wy; omega), wy, if_neg (fun t => hn ⟨e, t⟩)]
          exact h3
        · simp only [Bool.false_eq_true, if_false, if_neg e]
          exact h3

theorem implTimes_loop {p a b o gx gy x y : Int} {f : Bool} (h : CNum p a b) (K : Fld p) (hp : CPt p a b K x y f) (E : Nat) (hE : E < 9223372036854775808) : ∀ (n : Nat) (u v : Int) (g : Bool), n ≤ 64 → CPt p a b K u v g →
    toPt K u v g = (h.grp K).smul (E / 2 ^ n) (toPt K x y f) →
    ∃ r s t, CPt p a b K r s t ∧ toPt K r s t = (h.grp K).smul E (toPt K x y f) ∧ Ev (fun k => impl_Curve_times.l0 k (E : Int) ((n : Int) - 1) p a b o gx gy x y f u v g) (r, s, t) := by
  intro n
  induction n with
  | zero =>
    intro u v g _ hq e
    refine ⟨u, v, g, hq, by rw [e, Nat.pow_zero, Nat.div_one], Ev.step (fun k => by rw [impl_Curve_times.l0]) ?_⟩
    simp only [if_neg (show ¬ ((0 : Nat) : Int) - 1 ≥ 0 by omega)]
    exact Ev.now _
  | succ n ih =>
    intro u v g hn hq e
    have st := div_step E n
    obtain ⟨u2, v2, g2, hq2, f2, e2⟩ := implSum_eq (n := o) (gx := gx) (gy := gy) h K hq hq
    have sh : shr .i64 (E : Int) (n : Int) = ((E / 2 ^ n : Nat) : Int) := by
      unfold shr
      rw [Int.toNat_natCast, Nat.min_eq_left (by simp [IntKind.bits]; omega), ← two_pow_int]
      exact (Int.natCast_ediv _ _).symm
    have le : E / 2 ^ n ≤ E := Nat.div_le_self _ _
    have an := and1 (x := ((E / 2 ^ n : Nat) : Int)) (by omega) (by clear st; omega)
    have q0 : ((n + 1 : Nat) : Int) - 1 = (n : Int) := by clear sh an; omega
    have q1 : (n : Int) ≥ 0 := by clear sh an; omega
    have q3 : 0 ≤ (n : Int) := by clear sh an; omega
    have q4 : wrap64 ((n : Int) - 1) = (n : Int) - 1 := by clear sh an; exact w64 (by omega) (by omega)
    rcases Nat.mod_two_eq_zero_or_one (E / 2 ^ n) with hb | hb
    · obtain ⟨r, s, t, hr, fr, er⟩ := ih u2 v2 g2 (by clear sh an q4; omega) hq2 (by
        rw [f2, e, st, hb, Nat.add_zero]
        exact (h.grp K).step_up (p := toPt K x y f) hp.pt _)
      refine ⟨r, s, t, hr, fr, Ev.step (fun k => by rw [impl_Curve_times.l0]) ?_⟩
      simp only [q0, if_pos q1, if_pos q3, sh, an, q4, if_neg (show ¬ ((E / 2 ^ n : Nat) : Int) % 2 = 1 by clear sh an q4; omega)]
      exact Ev.bind e2 er
    · obtain ⟨u3, v3, g3, hq3, f3, e3⟩ := implSum_eq (n := o) (gx := gx) (gy := gy) h K hq2 hp
      obtain ⟨r, s, t, hr, fr, er⟩ := ih u3 v3 g3 (by clear sh an q4; omega) hq3 (by
        rw [f3, f2, e, st, hb]
        exact (h.grp K).step_up1 (p := toPt K x y f) hp.pt _)
      refine ⟨r, s, t, hr, fr, Ev.step (fun k => by rw [impl_Curve_times.l0]) ?_⟩
      simp only [q0, if_pos q1, if_pos q3, sh, an, q4, if_pos (show ((E / 2 ^ n : Nat) : Int) % 2 = 1 by clear sh an q4; omega)]
      exact Ev.bind e2 (Ev.bind e3 er)

theorem implTimes_eq {p a b o gx gy n x y : Int} {f : Bool} (h : CNum p a b) (K : Fld p) (hn : 0 ≤ n) (hn' : n ≤ 9223372036854775807) (hp : CPt p a b K x y f) :
    ∃ r s t, CPt p a b K r s t ∧ toPt K r s t = (h.grp K).smul n.toNat (toPt K x y f) ∧ Ev (fun k => impl_Curve_times.f k p a b o gx gy n x y f) (r, s, t) := by
  obtain ⟨E, rfl⟩ : ∃ E : Nat, n = E := ⟨n.toNat, by omega⟩
  have hl := bl_le (n := E) (k := 64) (by omega)
  obtain ⟨r, s, t, hr, fr, er⟩ := implTimes_loop (o := o) (gx := gx) (gy := gy) h K hp E (by omega) (bl E) 0 0 true hl (CPt.zero (by have := h.lo; omega)) (by
    rw [Nat.div_eq_of_lt (bl_lt E)]
    rfl)
  refine ⟨r, s, t, hr, by rw [fr, Int.toNat_natCast], ?_⟩
  unfold impl_Curve_times.f
  rw [u64w hn (by omega)]
  refine Ev.bind (len_eq hn (by omega)) ?_
  rw [Int.toNat_natCast, w64 (by omega) (by omega)]
  exact er

/-- The test on a point, with no field in sight. -/
def onCur (p a b x y : Int) (f : Bool) : Bool := if f = true then decide (x = 0 ∧ y = 0) else decide (0 ≤ x ∧ x ≤ p - 1) && decide (0 ≤ y ∧ y ≤ p - 1) && decide (y * y % p = ((x * x % p + a) * x + b) % p)

theorem onCur_iff {p a b x y : Int} {f : Bool} (hp : 0 < p) (K : Fld p) : onCur p a b x y f = true ↔ CPt p a b K x y f := by
  unfold onCur
  cases f with
  | true =>
    simp only [if_true, decide_eq_true_iff]
    constructor
    · rintro ⟨rfl, rfl⟩; exact CPt.zero hp
    · intro h; exact h.far rfl
  | false =>
    simp only [Bool.false_eq_true, if_false]
    rw [Bool.and_eq_true, Bool.and_eq_true, decide_eq_true_iff, decide_eq_true_iff, decide_eq_true_iff]
    have key : y * y % p = ((x * x % p + a) * x + b) % p ↔ On (toF a : K.F) (toF b) (toF x) (toF y) := by
      unfold On
      have e1 : (toF (y * y % p) : K.F) = toF y * toF y := by simp only [K.emod, toF_mul]
      have e2 : (toF (((x * x % p + a) * x + b) % p) : K.F) = toF x * toF x * toF x + toF a * toF x + toF b := by simp only [K.emod, toF_mul, toF_add]; grind
      rw [← e1, ← e2]
      constructor
      · intro k; rw [k]
      · intro k
        have b1 := md (x := y * y) (p := p) (by omega)
        have b2 := md (x := (x * x % p + a) * x + b) (p := p) (by omega)
        exact K.inj b1.1 b1.2 b2.1 b2.2 k
    rw [key]
    constructor
    · rintro ⟨⟨⟨a1, b1⟩, c1, e1⟩, f1⟩; exact ⟨fun k => (by cases k), a1, by omega, c1, by omega, fun _ => f1⟩
    · rintro ⟨_, a1, b1, c1, e1, f1⟩; exact ⟨⟨⟨a1, by omega⟩, c1, by omega⟩, f1 rfl⟩

theorem on_arith {p a b x y : Int} (K : Fld p) (hlo : 5 ≤ p) (hhi : p ≤ 1048576) (a0 : 0 ≤ a) (a1 : a < p) (b0 : 0 ≤ b) (b1 : b < p) (x0 : 0 ≤ x) (x1 : x ≤ p - 1) (y0 : 0 ≤ y) (y1 : y ≤ p - 1) :
    Int.tmod (wrap64 (y * y)) p = y * y % p ∧
    Int.tmod (wrap64 (wrap64 (wrap64 (Int.tmod (wrap64 (x * x)) p + a) * x) + b)) p = ((x * x % p + a) * x + b) % p ∧
    Int.tmod (wrap64 (wrap64 (Int.tmod (wrap64 (wrap64 (x * x) + a)) p * x) + b)) p = ((x * x % p + a) * x + b) % p := by
  have p1 : 1 ≤ p := by omega
  have m1 := md (x := x * x) p1
  have m2 := md (x := x * x + a) p1
  obtain ⟨h1, h2⟩ := mm p1 hhi x0 (by omega) x0 (by omega)
  obtain ⟨h3, h4⟩ := mm p1 hhi m1.1 m1.2 x0 (by omega)
  obtain ⟨h5, h6⟩ := mm p1 hhi a0 a1 x0 (by omega)
  obtain ⟨h7, h8⟩ := mm p1 hhi m2.1 m2.2 x0 (by omega)
  have e : (x * x % p + a) * x = x * x % p * x + a * x := Int.add_mul ..
  have same : ((x * x + a) % p * x + b) % p = ((x * x % p + a) * x + b) % p := by
    have k1 := md (x := (x * x + a) % p * x + b) p1
    have k2 := md (x := (x * x % p + a) * x + b) p1
    refine K.inj k1.1 k1.2 k2.1 k2.2 ?_
    simp only [K.emod, toF_mul, toF_add]
  refine ⟨mulm p1 hhi y0 (by omega) y0 (by omega), ?_, ?_⟩
  · rw [mulm p1 hhi x0 (by omega) x0 (by omega), w64 (n := x * x % p + a) (by omega) (by omega), w64 (n := (x * x % p + a) * x) (by omega) (by omega), w64 (by omega) (by omega), Int.tmod_eq_emod_of_nonneg (by omega)]
  · rw [w64 (n := x * x) (by omega) (by omega), w64 (n := x * x + a) (by omega) (by omega), Int.tmod_eq_emod_of_nonneg (a := x * x + a) (by omega), w64 (n := (x * x + a) % p * x) (by omega) (by omega), w64 (by omega) (by omega), Int.tmod_eq_emod_of_nonneg (by omega), same]

theorem implOn_eq {p a b n gx gy x y : Int} {f : Bool} (K : Fld p) (hlo : 5 ≤ p) (hhi : p ≤ 1048576) (a0 : 0 ≤ a) (a1 : a < p) (b0 : 0 ≤ b) (b1 : b < p) : impl_Curve_isPoint.f p a b n gx gy x y f = some (onCur p a b x y f) := by
  unfold impl_Curve_isPoint.f onCur
  cases f with
  | true =>
    simp only [if_true]
    by_cases hx : x = 0
    · by_cases hy : y = 0 <;> simp [hx, hy]
    · simp [hx]
  | false =>
    simp only [Bool.false_eq_true, if_false]
    rw [w64 (n := p - 1) (by omega) (by omega)]
    simp only [within_eq, Option.bind_some]
    by_cases hx : 0 ≤ x ∧ x ≤ p - 1
    · simp only [hx.1, hx.2, and_self, decide_true, if_true, Bool.true_and]
      by_cases hy : 0 ≤ y ∧ y ≤ p - 1
      · simp only [hy.1, hy.2, and_self, decide_true, if_true, Bool.true_and, if_neg (show ¬ p = 0 by omega)]
        obtain ⟨q1, q2, q3⟩ := on_arith K hlo hhi a0 a1 b0 b1 hx.1 hx.2 hy.1 hy.2
        rw [q1, q3]
        rfl
      · simp only [hy, decide_false, Bool.false_and]
        rfl
    · simp only [hx, decide_false, Bool.false_and]
      rfl

/-- A right curve: what is asked ahead of the multiple. -/
structure CurPre (p a b n : Int) : Prop where
  num : CNum p a b
  n0 : 5 ≤ n
  n1 : n ≤ 2097152
  four : p % 4 = 3


theorem at_some {l : List Int} (hw : ∀ x ∈ l, 0 ≤ x ∧ x ≤ 255) (hl : l.length ≤ 1048576) {i : Int} (h0 : 0 ≤ i) (h1 : i ≤ 1000) : ∃ v, laws_at.f l i = some v ∧ 0 ≤ v ∧ v ≤ 255 := by
  unfold laws_at.f
  by_cases h : i < (l.length : Int)
  · rw [if_pos h, if_pos h0]
    have hm := hw (rd l i) (by
      unfold rd
      rw [List.getD_eq_getElem?_getD, List.getElem?_eq_getElem (by omega), Option.getD_some]
      exact List.getElem_mem _)
    exact ⟨_, rfl, by rw [w64 (by omega) (by omega)]; omega, by rw [w64 (by omega) (by omega)]; omega⟩
  · rw [if_neg h]
    refine ⟨_, rfl, ?_⟩
    rw [w64 (n := i * 7) (by omega) (by omega), w64 (by omega) (by omega), Int.tmod_eq_emod_of_nonneg (by omega)]
    omega

theorem wfu8 {l : List Int} (h : ∀ x ∈ l, (Lit.int .u8 x).wf = true) : ∀ x ∈ l, 0 ≤ x ∧ x ≤ 255 := by
  intro x hx
  have := h x hx
  simpa [Lit.wf, IntKind.min, IntKind.max, IntKind.signed, IntKind.bits] using this

theorem and255 (x : Int) : 0 ≤ Go.bits .and .i64 x 255 ∧ Go.bits .and .i64 x 255 ≤ 255 := by
  unfold Go.bits
  simp only [BitVec.toNat_and]
  have h : (BitVec.ofInt IntKind.i64.bits 255).toNat = 255 := by decide
  rw [h]
  have h2 : (BitVec.ofInt IntKind.i64.bits x).toNat &&& 255 ≤ 255 := Nat.and_le_right
  generalize (BitVec.ofInt IntKind.i64.bits x).toNat &&& 255 = n at *
  rw [IntKind.wrap_i64]
  omega

/-- The cursor stands in its bytes. -/
def Cur (b : List Int) (i : Int) : Prop := 0 ≤ i ∧ i ≤ b.length ∧ b.length ≤ 1099511627776

theorem byte_some {b : List Int} {i : Int} (h : Int) (c : Cur b i) : ∃ v i' h', spec_l1Byte.f b i h = some (v, i', h') ∧ 0 ≤ v ∧ v ≤ 255 ∧ Cur b i' := by
  unfold spec_l1Byte.f
  obtain ⟨c0, c1, c2⟩ := c
  by_cases hi : i < (b.length : Int)
  · rw [if_pos hi, if_pos c0]
    refine ⟨_, _, _, rfl, (and255 _).1, (and255 _).2, ?_⟩
    rw [w64 (by omega) (by omega)]
    exact ⟨by omega, by omega, c2⟩
  · rw [if_neg hi]
    exact ⟨_, _, _, rfl, (and255 _).1, (and255 _).2, c0, c1, c2⟩

theorem below_some {b : List Int} {i : Int} (h : Int) (c : Cur b i) {n : Int} (hn : 0 < n) (hn' : n ≤ 4611686018427387904) : ∃ v i' h', spec_l1Below.f b i h n = some (v, i', h') ∧ 0 ≤ v ∧ v < n ∧ Cur b i' := by
  unfold spec_l1Below.f
  rw [if_neg (by omega)]
  by_cases h1 : n ≤ 256
  · rw [if_pos h1]
    obtain ⟨v, i', h', e, v0, v1, c'⟩ := byte_some h c
    rw [e]
    simp only [Option.bind_some, if_neg (show ¬ n = 0 by omega), Int.tmod_eq_emod_of_nonneg v0]
    exact ⟨_, _, _, rfl, Int.emod_nonneg _ (by omega), Int.emod_lt_of_pos _ hn, c'⟩
  · rw [if_neg h1]
    obtain ⟨v, i', h', e, v0, v1, c'⟩ := byte_some h c
    obtain ⟨w, j, g, f, w0, w1, d⟩ := byte_some h' c'
    obtain ⟨x, j', g', f', x0, x1, d'⟩ := byte_some g d
    obtain ⟨y, j2, g2, f2, y0, y1, d2⟩ := byte_some g' d'
    rw [e]
    simp only [Option.bind_some, f, f', f2, if_neg (show ¬ n = 0 by omega)]
    rw [w64 (n := v * 16777216) (by omega) (by omega), w64 (n := w * 65536) (by omega) (by omega), w64 (n := v * 16777216 + w * 65536) (by omega) (by omega), w64 (n := x * 256) (by omega) (by omega), w64 (n := v * 16777216 + w * 65536 + x * 256) (by omega) (by omega), w64 (by omega) (by omega), Int.tmod_eq_emod_of_nonneg (by omega)]
    exact ⟨_, _, _, rfl, Int.emod_nonneg _ (by omega), Int.emod_lt_of_pos _ hn, d2⟩

theorem new_loop (l : List Int) (hl : l.length ≤ 1099511627776) : ∀ (d : Nat) (h i : Int), 0 ≤ i → (l.length : Int) - i = d → ∃ h', Ev (fun k => spec_l1New.l0 k l h i) (l, 0, h') := by
  intro d
  induction d with
  | zero =>
    intro h i h0 hd
    refine ⟨h, Ev.step (fun k => by rw [spec_l1New.l0]) ?_⟩
    simp only [if_neg (show ¬ i < (l.length : Int) by omega)]
    exact Ev.now _
  | succ d ih =>
    intro h i h0 hd
    by_cases h1 : i < 4000
    · obtain ⟨h', e⟩ := ih (Go.bits .and .i64 (wrap64 ((wrap64 ((wrap64 (h * 131)) + (wrap64 (rd l i)))) + 7)) 1073741823) (i + 1) (by omega) (by omega)
      refine ⟨h', Ev.step (fun k => by rw [spec_l1New.l0]) ?_⟩
      simp only [if_pos (show i < (l.length : Int) by omega), if_pos h1, if_pos h0]
      rw [w64 (n := i + 1) (by omega) (by omega)]
      exact e
    · refine ⟨h, Ev.step (fun k => by rw [spec_l1New.l0]) ?_⟩
      simp only [if_pos (show i < (l.length : Int) by omega), if_neg h1]
      exact Ev.now _

theorem new_some (l : List Int) (hl : l.length ≤ 1099511627776) : ∃ h', Ev (fun k => spec_l1New.f k l) (l, 0, h') ∧ Cur l 0 := by
  obtain ⟨h', e⟩ := new_loop l hl l.length (wrap64 (148148 + (l.length : Int))) 0 (by omega) (by omega)
  exact ⟨h', e, by unfold Cur; omega⟩

theorem Ev.unique {α : Type} {g : Nat → Option α} {r s : α} (h : Ev g r) (h' : Ev g s) : r = s := by
  obtain ⟨K, h⟩ := h
  obtain ⟨L, h'⟩ := h'
  have e1 := h (K + L) (by omega)
  have e2 := h' (K + L) (by omega)
  rw [e1] at e2
  exact Option.some.inj e2

/-- A curve whose base point goes round. -/
structure Base (p a b n gx gy : Int) : Prop where
  pre : CurPre p a b n
  ok : Ev (fun k => impl_CurveOk.f k p a b n gx gy) true
  pt : ∀ K : Fld p, CPt p a b K gx gy false
  tor : ∀ K : Fld p, (pre.num.grp K).smul n.toNat (toPt K gx gy false) = .far

theorem base_of {p a b n gx gy : Int} (hb : (5 ≤ p ∧ p ≤ 1048576 ∧ p % 4 = 3) ∧ (0 ≤ a ∧ a < p ∧ 0 ≤ b ∧ b < p) ∧ 5 ≤ n ∧ n ≤ 2097152) (hd : ¬ (4 * (a * a % p) * a + 27 * (b * b % p)) % p = 0) (hg : onCur p a b gx gy false = true) (h0 : impl_PrimeInt.f 300 p = some true)
    (h1 : impl_CurveOk.f 300 p a b n gx gy = some true) (h2 : impl_Curve_times.f 300 p a b n gx gy n gx gy false = some (0, 0, true)) : Base p a b n gx gy := by
  obtain ⟨⟨b1, b2, b3⟩, ⟨b4, b5, b6, b7⟩, b8, b9⟩ := hb
  have e0 : Ev (fun k => impl_PrimeInt.f k p) true := Ev.of (fun k => impl_PrimeInt.mono p k) h0
  have e1 : Ev (fun k => impl_CurveOk.f k p a b n gx gy) true := Ev.of (fun k => impl_CurveOk.mono p a b n gx gy k) h1
  have e2 : Ev (fun k => impl_Curve_times.f k p a b n gx gy n gx gy false) (0, 0, true) := Ev.of (fun k => impl_Curve_times.mono p a b n gx gy n gx gy false k) h2
  obtain ⟨r, hr, _, er⟩ := iprime_eq p
  obtain rfl := Ev.unique e0 er
  have hN : CNum p a b := ⟨(hr rfl).1, b1, b2, b4, b5, b6, b7, hd⟩
  have hg : ∀ K : Fld p, CPt p a b K gx gy false := fun K => (onCur_iff (by omega) K).1 hg
  refine ⟨⟨hN, b8, b9, b3⟩, e1, hg, fun K => ?_⟩
  obtain ⟨r, s, t, hr, fr, er⟩ := implTimes_eq (o := n) (gx := gx) (gy := gy) (n := n) hN K (by omega) (by omega) (hg K)
  have e := Ev.unique e2 er
  injection e with q1 q2
  injection q2 with q2 q3
  subst q1 q2 q3
  exact fr.symm

theorem base0 : Base 103 2 11 97 1 23 := base_of (by decide) (by decide) (by decide) (by kernel_rfl) (by kernel_rfl) (by kernel_rfl)
theorem base1 : Base 1019 11 6 997 2 6 := base_of (by decide) (by decide) (by decide) (by kernel_rfl) (by kernel_rfl) (by kernel_rfl)
theorem base2 : Base 10007 3 6 10039 0 1973 := base_of (by decide) (by decide) (by decide) (by kernel_rfl) (by kernel_rfl) (by kernel_rfl)

theorem l3Draw_some {l : List Int} {i : Int} (h : Int) (c : Cur l i) : ∃ p a b n gx gy i' h', spec_l3Draw.f l i h = some (p, a, b, n, gx, gy, i', h') ∧ Base p a b n gx gy ∧ Cur l i' := by
  obtain ⟨v, i', h', e, v0, v1, c'⟩ := below_some h c (n := 3) (by omega) (by omega)
  unfold spec_l3Draw.f spec_l3Curves.f
  rw [e]
  have hv : v = 0 ∨ v = 1 ∨ v = 2 := by omega
  rcases hv with rfl | rfl | rfl
  · exact ⟨103, 2, 11, 97, 1, 23, i', h', rfl, base0, c'⟩
  · exact ⟨1019, 11, 6, 997, 2, 6, i', h', rfl, base1, c'⟩
  · exact ⟨10007, 3, 6, 10039, 0, 1973, i', h', rfl, base2, c'⟩

/-- What DrawCurve draws. -/
structure Drawn (p a b n gx gy x y : Int) (f : Bool) (u v : Int) (g : Bool) : Prop where
  base : Base p a b n gx gy
  fst : ∀ K : Fld p, CPt p a b K x y f ∧ ∃ m : Nat, toPt K x y f = (base.pre.num.grp K).smul m (toPt K gx gy false)
  snd : ∀ K : Fld p, CPt p a b K u v g

theorem drawMul_some {p a b n gx gy m : Int} (B : Base p a b n gx gy) (m0 : 0 ≤ m) (m1 : m ≤ 1099511627776) : ∃ x y f, Ev (fun k => spec_l3Mul.f k p a b n gx gy m gx gy false) (x, y, f) ∧
    ∀ K : Fld p, CPt p a b K x y f ∧ toPt K x y f = (B.pre.num.grp K).smul m.toNat (toPt K gx gy false) := by
  obtain ⟨K⟩ := fldOf_exists B.pre.num.prm
  obtain ⟨x, y, f, hr, fr, er⟩ := specTimes_eq (o := n) (gx := gx) (gy := gy) (n := m) B.pre.num K m0 (by omega) (B.pt K)
  refine ⟨x, y, f, er, fun K' => ?_⟩
  obtain ⟨x', y', f', hr', fr', er'⟩ := specTimes_eq (o := n) (gx := gx) (gy := gy) (n := m) B.pre.num K' m0 (by omega) (B.pt K')
  have e := Ev.unique er er'
  injection e with q1 q2
  injection q2 with q2 q3
  subst q1 q2 q3
  exact ⟨hr', fr'⟩

theorem drawCurve_some (l : List Int) (hl : l.length ≤ 1048576) : ∃ p a b n gx gy x y f u v g, Ev (fun k => spec_DrawCurve.f k l) (p, a, b, n, gx, gy, x, y, f, u, v, g) ∧ Drawn p a b n gx gy x y f u v g := by
  obtain ⟨h, e, c⟩ := new_some l (by omega)
  obtain ⟨p, a, b, n, gx, gy, i1, h1, e1, B, c1⟩ := l3Draw_some h c
  obtain ⟨m, i2, h2, e2, m0, m1, c2⟩ := below_some h1 c1 (n := 20000) (by omega) (by omega)
  obtain ⟨m', i3, h3, e3, m0', m1', c3⟩ := below_some h2 c2 (n := 300) (by omega) (by omega)
  obtain ⟨x, y, f, er, hr⟩ := drawMul_some B m0 (by omega)
  obtain ⟨u, v, g, er', hr'⟩ := drawMul_some B m0' (by omega)
  refine ⟨p, a, b, n, gx, gy, x, y, f, u, v, g, ?_, B, fun K => ⟨(hr K).1, _, (hr K).2⟩, fun K => (hr' K).1⟩
  unfold spec_DrawCurve.f
  refine Ev.bind e ?_
  simp only [e1, Option.bind_some, e2]
  refine Ev.bind er ?_
  simp only [e3, Option.bind_some]
  exact Ev.bind er' (Ev.now _)

section
variable {p a b n gx gy : Int}
theorem ptOk_ev (B : Base p a b n gx gy) {K : Fld p} {x y : Int} {f : Bool} (h : CPt p a b K x y f) : Ev (fun k => impl_PointOk.f k p a b n gx gy x y f) true := by
  have hN := B.pre.num
  unfold impl_PointOk.f
  refine Ev.bind B.ok ?_
  simp only [if_true, implOn_eq K hN.lo hN.hi hN.a0 hN.a1 hN.b0 hN.b1, Option.bind_some, (onCur_iff (by have := hN.lo; omega) K).2 h]
  exact Ev.now _
end

section
variable {p a b n gx gy : Int}
theorem add_ev (B : Base p a b n gx gy) {K : Fld p} {x y u v : Int} {f g : Bool} (h : CPt p a b K x y f) (h' : CPt p a b K u v g) : ∃ r s t, CPt p a b K r s t ∧
    toPt K r s t = (B.pre.num.grp K).add (toPt K x y f) (toPt K u v g) ∧ Ev (fun k => impl_PointAdd.f k p a b n gx gy x y f u v g) (r, s, t, true) := by
  have hN := B.pre.num
  obtain ⟨r, s, t, hr, fr, er⟩ := implSum_eq (n := n) (gx := gx) (gy := gy) hN K h h'
  refine ⟨r, s, t, hr, fr, ?_⟩
  unfold impl_PointAdd.f
  refine Ev.bind (ptOk_ev B h) ?_
  simp only [if_true, implOn_eq K hN.lo hN.hi hN.a0 hN.a1 hN.b0 hN.b1, Option.bind_some, (onCur_iff (by have := hN.lo; omega) K).2 h']
  exact Ev.bind er (Ev.now _)

theorem mul_ev (B : Base p a b n gx gy) {K : Fld p} {x y m : Int} {f : Bool} (h : CPt p a b K x y f) (m0 : 0 ≤ m) (m1 : m ≤ 1099511627776) : ∃ r s t, CPt p a b K r s t ∧
    toPt K r s t = (B.pre.num.grp K).smul m.toNat (toPt K x y f) ∧ Ev (fun k => impl_PointMul.f k p a b n gx gy m x y f) (r, s, t, true) := by
  have hN := B.pre.num
  obtain ⟨r, s, t, hr, fr, er⟩ := implTimes_eq (o := n) (gx := gx) (gy := gy) (n := m) hN K m0 (by omega) h
  refine ⟨r, s, t, hr, fr, ?_⟩
  unfold impl_PointMul.f
  refine Ev.bind (ptOk_ev B h) ?_
  simp only [if_true, within_eq, Option.bind_some, m0, m1, and_self, decide_true]
  exact Ev.bind er (Ev.now _)

theorem two_ev (B : Base p a b n gx gy) {K : Fld p} {x y m q : Int} {f : Bool} (h : CPt p a b K x y f) (m0 : 0 ≤ m) (m1 : m ≤ 1099511627776) (q0 : 0 ≤ q) (q1 : q ≤ 1099511627776) : ∃ r s t, CPt p a b K r s t ∧
    toPt K r s t = (B.pre.num.grp K).add ((B.pre.num.grp K).smul m.toNat (toPt K gx gy false)) ((B.pre.num.grp K).smul q.toNat (toPt K x y f)) ∧ Ev (fun k => impl_TwoMul.f k p a b n gx gy m q x y f) (r, s, t, true) := by
  have hN := B.pre.num
  obtain ⟨r1, s1, t1, hr1, fr1, er1⟩ := implTimes_eq (o := n) (gx := gx) (gy := gy) (n := m) hN K m0 (by omega) (B.pt K)
  obtain ⟨r2, s2, t2, hr2, fr2, er2⟩ := implTimes_eq (o := n) (gx := gx) (gy := gy) (n := q) hN K q0 (by omega) h
  obtain ⟨r, s, t, hr, fr, er⟩ := implSum_eq (n := n) (gx := gx) (gy := gy) hN K hr1 hr2
  refine ⟨r, s, t, hr, by rw [fr, ← fr1, ← fr2]; rfl, ?_⟩
  unfold impl_TwoMul.f
  refine Ev.bind (ptOk_ev B h) ?_
  simp only [if_true, within_eq, Option.bind_some, m0, m1, q0, q1, and_self, decide_true, Bool.not_true]
  refine Ev.step (fun k => by rw [impl_TwoMul.j0]) ?_
  simp only [Bool.false_eq_true, if_false, impl_Curve_base.f, Option.bind_some]
  exact Ev.bind er1 (Ev.bind er2 (Ev.bind er (Ev.now _)))

theorem cpt_neg {K : Fld p} {x y : Int} (hp : 0 < p) (h : CPt p a b K x y false) : CPt p a b K x ((p - y) % p) false ∧ toPt K x ((p - y) % p) false = (toPt K x y false).neg := by
  have hF : (toF p : K.F) = 0 := (K.ker p).2 (Int.dvd_refl p)
  have e : (toF ((p - y) % p) : K.F) = -toF y := by
    rw [K.emod, toF_sub, hF]
    grind
  have e2 : toPt K x ((p - y) % p) false = (toPt K x y false).neg := by
    simp only [toPt, Bool.false_eq_true, if_false, Pt.neg, e]
  refine ⟨⟨fun k => (by cases k), h.x0, h.x1, Int.emod_nonneg _ (by omega), Int.emod_lt_of_pos _ hp, fun _ => ?_⟩, e2⟩
  have := Pt.on_neg h.pt
  rw [← e2] at this
  exact this

theorem far_of {K : Fld p} {r s : Int} {t : Bool} (h : toPt K r s t = .far) : t = true := by
  cases t with
  | true => rfl
  | false => simp [toPt] at h
end

theorem way2 {l : List Int} (hw : ∀ x ∈ l, 0 ≤ x ∧ x ≤ 255) (hl : l.length ≤ 1048576) {p a b n gx gy x y u v : Int} {f g : Bool} (D : Drawn p a b n gx gy x y f u v g) :
    Ev (fun k => laws_FnCurves.j2 k l p a b n gx gy x y f gx gy false) true := by
  have B := D.base
  obtain ⟨K⟩ := fldOf_exists B.pre.num.prm
  obtain ⟨hA, m0, fA⟩ := D.fst K
  have hG := B.pt K
  obtain ⟨c, e0, c0, c1⟩ := at_some hw hl (i := 0) (by omega) (by omega)
  obtain ⟨d, e1, d0, d1⟩ := at_some hw hl (i := 1) (by omega) (by omega)
  obtain ⟨q, e2, q0, q1⟩ := at_some hw hl (i := 2) (by omega) (by omega)
  have k1 : 0 ≤ c * d := Int.mul_nonneg c0 d0
  have k2 : c * d ≤ 255 * 255 := Int.mul_le_mul c1 d1 d0 (by omega)
  obtain ⟨m, hm⟩ : ∃ m, c * d = m := ⟨_, rfl⟩
  rw [hm] at k1 k2
  have w1 : wrap64 (c * d) = m := by rw [hm]; exact w64 (by omega) (by omega)
  have w2 : wrap64 (m + q) = m + q := by clear w1; exact w64 (by omega) (by omega)
  have hn0 := B.pre.n0
  have hn1 := B.pre.n1
  obtain ⟨x1, y1, f1, h1, g1, E1⟩ := mul_ev B hA (m := m) k1 (by omega)
  obtain ⟨x2, y2, f2, h2, g2, E2⟩ := mul_ev B hA (m := q) q0 (by omega)
  obtain ⟨x3, y3, f3, h3, g3, E3⟩ := mul_ev B hA (m := m + q) (by clear w1 w2; omega) (by clear w1 w2; omega)
  obtain ⟨x4, y4, f4, h4, g4, E4⟩ := add_ev B h1 h2
  obtain ⟨x5, y5, f5, h5, g5, E5⟩ := two_ev B hA (m := m) (q := q) k1 (by clear w1 w2; omega) q0 (by clear w1 w2; omega)
  obtain ⟨x6, y6, f6, h6, g6, E6⟩ := mul_ev B hG (m := m) k1 (by clear w1 w2; omega)
  obtain ⟨x7, y7, f7, h7, g7, E7⟩ := add_ev B h6 h2
  obtain ⟨x8, y8, f8, h8, g8, E8⟩ := mul_ev B hA (m := n) (by clear w1 w2; omega) (by clear w1 w2; omega)
  have s1 : x4 = x3 ∧ y4 = y3 ∧ f4 = f3 := h4.same h3 (by
    rw [g4, g3, g1, g2, show (m + q).toNat = m.toNat + q.toNat by clear w1 w2; omega]
    exact ((B.pre.num.grp K).smul_add (p := toPt K x y f) hA.pt _ _).symm)
  have s2 : x5 = x7 ∧ y5 = y7 ∧ f5 = f7 := h5.same h7 (by rw [g5, g7, g6, g2])
  have s3 : f8 = true := far_of (by
    rw [g8, fA, ← (B.pre.num.grp K).smul_mul (p := toPt K gx gy false) hG.pt, Nat.mul_comm, (B.pre.num.grp K).smul_mul (p := toPt K gx gy false) hG.pt, B.tor K]
    exact (B.pre.num.grp K).smul_zero _)
  obtain ⟨rfl, rfl, rfl⟩ := s1
  obtain ⟨rfl, rfl, rfl⟩ := s2
  subst s3
  refine Ev.step (fun k => by rw [laws_FnCurves.j2]) ?_
  simp only [e0, e1, e2, Option.bind_some, w1, w2]
  refine Ev.bind E1 (Ev.bind E2 (Ev.bind E3 (Ev.bind E4 (Ev.bind E5 (Ev.bind E6 (Ev.bind E7 (Ev.bind E8 ?_)))))))
  simpa using Ev.now true

theorem way1 {l : List Int} (hw : ∀ x ∈ l, 0 ≤ x ∧ x ≤ 255) (hl : l.length ≤ 1048576) {p a b n gx gy x y u v : Int} {f g : Bool} (D : Drawn p a b n gx gy x y f u v g) :
    Ev (fun k => laws_FnCurves.j1 k l false p a b n gx gy x y f gx gy false) true := by
  have B := D.base
  obtain ⟨K⟩ := fldOf_exists B.pre.num.prm
  obtain ⟨hA, m0, fA⟩ := D.fst K
  have hlo := B.pre.num.lo
  have hhi := B.pre.num.hi
  refine Ev.step (fun k => by rw [laws_FnCurves.j1]) ?_
  simp only [Bool.false_eq_true, if_false, if_neg (show ¬ p = 0 by omega)]
  cases f with
  | true =>
    simp only [if_true]
    exact way2 hw hl D
  | false =>
    have y0 := hA.y0
    have y1 := hA.y1
    obtain ⟨hn, fn⟩ := cpt_neg (by omega) hA
    obtain ⟨r, s, t, hr, fr, er⟩ := add_ev B hA hn
    have ht : t = true := far_of (by rw [fr, fn]; exact Pt.add_neg (toF a : K.F) (toPt K x y false))
    subst ht
    simp only [Bool.false_eq_true, if_false]
    rw [w64 (n := p - y) (by omega) (by omega), Int.tmod_eq_emod_of_nonneg (show 0 ≤ p - y by omega)]
    refine Ev.bind er ?_
    simp only [if_true]
    exact way2 hw hl D

theorem FnCurves : laws_FnCurves.Pure := by
  intro l _ _ hw
  have hw := wfu8 hw
  refine Ev.rounds (r := true) ?_
  unfold laws_FnCurves.f laws_big.f
  simp only [Option.bind_some]
  by_cases h : (l.length : Int) > 1048576
  · simp only [h, decide_true, if_true]; exact Ev.now _
  simp only [h, decide_false, Bool.false_eq_true, if_false]
  obtain ⟨p, a, b, n, gx, gy, x, y, f, u, v, g, e, D⟩ := drawCurve_some l (by omega)
  have B := D.base
  obtain ⟨K⟩ := fldOf_exists B.pre.num.prm
  obtain ⟨hA, m0, fA⟩ := D.fst K
  have hB := D.snd K
  have hG := B.pt K
  obtain ⟨x1, y1, f1, h1, g1, E1⟩ := add_ev B hA hB
  obtain ⟨x2, y2, f2, h2, g2, E2⟩ := add_ev B hB hA
  obtain ⟨x3, y3, f3, h3, g3, E3⟩ := add_ev B h1 hG
  obtain ⟨x4, y4, f4, h4, g4, E4⟩ := add_ev B hB hG
  obtain ⟨x5, y5, f5, h5, g5, E5⟩ := add_ev B hA h4
  have s1 : x1 = x2 ∧ y1 = y2 ∧ f1 = f2 := h1.same h2 (by rw [g1, g2]; exact (B.pre.num.grp K).comm (p := toPt K x y f) (q := toPt K u v g) hA.pt hB.pt)
  have s2 : x3 = x5 ∧ y3 = y5 ∧ f3 = f5 := h3.same h5 (by rw [g3, g5, g1, g4]; exact (B.pre.num.grp K).assoc (p := toPt K x y f) (q := toPt K u v g) (r := toPt K gx gy false) hA.pt hB.pt hG.pt)
  obtain ⟨rfl, rfl, rfl⟩ := s1
  obtain ⟨rfl, rfl, rfl⟩ := s2
  refine Ev.bind e (Ev.bind B.ok ?_)
  simp only [if_true]
  refine Ev.bind (ptOk_ev B hA) ?_
  simp only [if_true]
  refine Ev.bind (ptOk_ev B hB) ?_
  simp only [Bool.not_true]
  refine Ev.step (fun k => by rw [laws_FnCurves.j0]) ?_
  simp only [Bool.false_eq_true, if_false]
  refine Ev.bind E1 (Ev.bind E2 (Ev.bind E3 (Ev.bind E4 (Ev.bind E5 ?_))))
  simp only [if_true, beq_self_eq_true, Bool.not_true, Bool.or_false, Bool.false_eq_true, if_false]
  refine Ev.bind (ptOk_ev B h1) ?_
  simp only [Bool.not_true]
  exact way1 hw (by omega) D

end Go.Proofs.Ytadmkolopcdffaa.Pure
