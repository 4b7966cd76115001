/- The law FnExactPointRead answers true at all curves and bytes: both read the same point, or none. -/
import Derived.Test.YtadmkolopcdffaaPFnExactPointReadx8
import Derived.Test.YtadmkolopcdffaaMBits
import Derived.Test.YtadmkolopcdffaaMInv
import Derived.Test.YtadmkolopcdffaaMField
import Derived.Test.YtadmkolopcdffaaMRoot
import Derived.Test.YtadmkolopcdffaaMEd
import Derived.Test.YtadmkolopcdffaaMGrp
import Derived.Test.YtadmkolopcdffaaMEdP
import Derived.Test.YtadmkolopcdffaaMCurve
import Derived.Test.YtadmkolopcdffaaMCurP
namespace Go.Proofs.Ytadmkolopcdffaa.Pure
open Go.RowKit Go.Proofs.Ytadmkolopcdffaa.PFnExactPointRead Go.Proofs.YtadmkolopcdffaaW.PrintWords Go.Proofs.YtadmkolopcdffaaW.PrintLast Go.Proofs.Ytadmkolopcdffaa.Plain

set_option linter.unusedVariables false
set_option linter.unusedSimpArgs false

theorem w64 {n : Int} (h : -9223372036854775808 ≤ n) (h' : n ≤ 9223372036854775807) : wrap64 n = n := by
  unfold wrap64
  omega

theorem wf64 {n : Int} (h : (Lit.int .i64 n).wf = true) : -9223372036854775808 ≤ n ∧ n ≤ 9223372036854775807 := by
  simpa [Lit.wf, IntKind.min, IntKind.max, IntKind.signed, IntKind.bits] using h

theorem wsucc {i : Nat} (h : i ≤ 1099511627776) : wrap64 ((i : Int) + 1) = ((i + 1 : Nat) : Int) := by
  rw [w64 (by omega) (by omega)]
  omega

theorem wpred {i : Nat} (h : i ≤ 1099511627776) : wrap64 (((i + 1 : Nat) : Int) - 1) = (i : Int) := by
  rw [w64 (by omega) (by omega)]
  omega

theorem in_eq (n a b : Int) : spec_l1In.f n a b = some (decide (a ≤ n ∧ n ≤ b)) := by
  unfold spec_l1In.f
  by_cases h : n ≥ a
  · rw [if_pos h]
    have : a ≤ n := h
    simp [this]
  · rw [if_neg h]
    have : ¬ a ≤ n := h
    simp [this]

theorem within_eq (n a b : Int) : impl_within.f n a b = some (decide (a ≤ n ∧ n ≤ b)) := by
  unfold impl_within.f
  by_cases h : n ≥ a
  · rw [if_pos h]
    have : a ≤ n := h
    simp [this]
  · rw [if_neg h]
    have : ¬ a ≤ n := h
    simp [this]

theorem left_eq {a m : Int} (h1 : 0 < m) (h2 : m ≤ 4611686018427387904) : spec_l2Left.f a m = some (a % m) := by
  unfold spec_l2Left.f
  rw [if_neg (by omega)]
  have e0 := Int.tmod_lt_of_pos a h1
  have e1 := Int.lt_tmod_of_pos a h1
  rw [w64 (by omega) (by omega), Int.tmod_eq_emod_of_nonneg (by omega), Int.tmod_eq_emod]
  congr 1
  split
  · simp
  · rw [show a % m - ((m.natAbs : Nat) : Int) + m = a % m by omega, Int.emod_emod]

theorem rest_eq {a m : Int} (h1 : 0 < m) (h2 : m ≤ 4611686018427387904) : impl_rest.f a m = some (a % m) := by
  unfold impl_rest.f
  rw [if_neg (by omega)]
  have e0 := Int.tmod_lt_of_pos a h1
  have e1 := Int.lt_tmod_of_pos a h1
  rw [w64 (by omega) (by omega), Int.tmod_eq_emod_of_nonneg (by omega), Int.tmod_eq_emod]
  congr 1
  split
  · simp
  · rw [show a % m - ((m.natAbs : Nat) : Int) + m = a % m by omega, Int.emod_emod]

theorem specinv_loop (a m : Int) (hm : 2 ≤ m) (hM : m ≤ 1073741824) : ∀ (n : Nat) (last left before now : Int), left.toNat ≤ n → EuInv a m last left before now →
    -m ≤ before → before ≤ m → ∃ r b, InvIs a m r b ∧ Ev (fun k => spec_l2Inv.l0 k m last left before now) r := by
  intro n
  induction n with
  | zero =>
    intro last left before now hn h hb hb'
    have := h.l0
    obtain rfl : left = 0 := by omega
    by_cases h1 : last = 1
    · refine ⟨before % m, true, h.one hm h1, Ev.step (fun k => by rw [spec_l2Inv.l0]) ?_⟩
      subst h1
      simp [left_eq (show 0 < m by omega) (show m ≤ 4611686018427387904 by omega)]
      exact Ev.now _
    · refine ⟨0, false, h.more h1, Ev.step (fun k => by rw [spec_l2Inv.l0]) ?_⟩
      simp [h1]
      exact Ev.now _
  | succ n ih =>
    intro last left before now hn h hb hb'
    by_cases h0 : left = 0
    · exact ih last left before now (by omega) h hb hb'
    · have hp : 0 < left := by have := h.l0; omega
      have h' := h.step hp
      have b1 := h.now_le
      have b2 := h'.now_le
      have l1 := h.l1
      have hl := h.lm
      have q0 : 0 ≤ last / left := Int.ediv_nonneg (by omega) (by omega)
      have q1 : last / left ≤ last := Int.ediv_le_self _ (by omega)
      obtain ⟨r, b, hr, ev⟩ := ih left (last % left) now (before - last / left * now) (by have := h'.lt; have := h'.l0; omega) h' (by omega) (by omega)
      refine ⟨r, b, hr, Ev.step (fun k => by rw [spec_l2Inv.l0]) ?_⟩
      rw [tdiv_of_nonneg (by omega), tmod_of_nonneg (by omega), w64 (n := last / left) (by omega) (by omega), w64 (n := last / left * now) (by omega) (by omega), w64 (by omega) (by omega)]
      simpa [h0, hp] using ev

theorem implinv_loop (a m : Int) (hm : 2 ≤ m) (hM : m ≤ 1073741824) : ∀ (n : Nat) (last left before now : Int), left.toNat ≤ n → EuInv a m last left before now →
    -m ≤ before → before ≤ m → ∃ r b, InvIs a m r b ∧ Ev (fun k => impl_InvInt.l0 k m last left before now) (r,b) := by
  intro n
  induction n with
  | zero =>
    intro last left before now hn h hb hb'
    have := h.l0
    obtain rfl : left = 0 := by omega
    by_cases h1 : last = 1
    · refine ⟨before % m, true, h.one hm h1, Ev.step (fun k => by rw [impl_InvInt.l0]) ?_⟩
      subst h1
      simp [rest_eq (show 0 < m by omega) (show m ≤ 4611686018427387904 by omega)]
      exact Ev.now _
    · refine ⟨0, false, h.more h1, Ev.step (fun k => by rw [impl_InvInt.l0]) ?_⟩
      simp [h1]
      exact Ev.now _
  | succ n ih =>
    intro last left before now hn h hb hb'
    by_cases h0 : left = 0
    · exact ih last left before now (by omega) h hb hb'
    · have hp : 0 < left := by have := h.l0; omega
      have h' := h.step hp
      have b1 := h.now_le
      have b2 := h'.now_le
      have l1 := h.l1
      have hl := h.lm
      have q0 : 0 ≤ last / left := Int.ediv_nonneg (by omega) (by omega)
      have q1 : last / left ≤ last := Int.ediv_le_self _ (by omega)
      obtain ⟨r, b, hr, ev⟩ := ih left (last % left) now (before - last / left * now) (by have := h'.lt; have := h'.l0; omega) h' (by omega) (by omega)
      refine ⟨r, b, hr, Ev.step (fun k => by rw [impl_InvInt.l0]) ?_⟩
      rw [tdiv_of_nonneg (by omega), tmod_of_nonneg (by omega), w64 (n := last / left) (by omega) (by omega), w64 (n := last / left * now) (by omega) (by omega), w64 (by omega) (by omega)]
      simpa [h0, hp] using ev

theorem implInv_eq (a : Int) {m : Int} (h : 2 ≤ m) (h' : m ≤ 1073741824) : ∃ r b, InvIs a m r b ∧ Ev (fun k => impl_InvInt.f k a m) (r, b) := by
  obtain ⟨r, b, hr, e⟩ := implinv_loop a m h h' (a % m).toNat m (a % m) 0 1 (Nat.le_refl _) (EuInv.start h) (by omega) (by omega)
  refine ⟨r, b, hr, ?_⟩
  unfold impl_InvInt.f
  simp only [within_eq, h, h', and_self, decide_true, if_true, rest_eq (a := a) (m := m) (by omega) (by omega), Option.bind_some]
  exact e

theorem specInv_eq (a : Int) {m : Int} (h : 2 ≤ m) (h' : m ≤ 1073741824) : ∃ r b, InvIs a m r b ∧ Ev (fun k => spec_l2Inv.f k a m) r := by
  obtain ⟨r, b, hr, e⟩ := specinv_loop a m h h' (a % m).toNat m (a % m) 0 1 (Nat.le_refl _) (EuInv.start h) (by omega) (by omega)
  refine ⟨r, b, hr, ?_⟩
  unfold spec_l2Inv.f
  simp only [left_eq (a := a) (m := m) (by omega) (by omega), Option.bind_some]
  exact e

def tab8 : ByteArray := ⟨#[0, 1, 2, 2, 3, 3, 3, 3, 4, 4, 4, 4, 4, 4, 4, 4, 5, 5, 5, 5, 5, 5, 5, 5, 5, 5, 5, 5, 5, 5, 5, 5, 6, 6, 6, 6, 6, 6, 6, 6, 6, 6, 6, 6, 6, 6, 6, 6, 6, 6, 6, 6, 6, 6, 6, 6, 6, 6, 6, 6, 6, 6, 6, 6, 7, 7, 7, 7, 7, 7, 7, 7, 7, 7, 7, 7, 7, 7, 7, 7, 7, 7, 7, 7, 7, 7, 7, 7, 7, 7, 7, 7, 7, 7, 7, 7, 7, 7, 7, 7, 7, 7, 7, 7, 7, 7, 7, 7, 7, 7, 7, 7, 7, 7, 7, 7, 7, 7, 7, 7, 7, 7, 7, 7, 7, 7, 7, 7, 8, 8, 8, 8, 8, 8, 8, 8, 8, 8, 8, 8, 8, 8, 8, 8, 8, 8, 8, 8, 8, 8, 8, 8, 8, 8, 8, 8, 8, 8, 8, 8, 8, 8, 8, 8, 8, 8, 8, 8, 8, 8, 8, 8, 8, 8, 8, 8, 8, 8, 8, 8, 8, 8, 8, 8, 8, 8, 8, 8, 8, 8, 8, 8, 8, 8, 8, 8, 8, 8, 8, 8, 8, 8, 8, 8, 8, 8, 8, 8, 8, 8, 8, 8, 8, 8, 8, 8, 8, 8, 8, 8, 8, 8, 8, 8, 8, 8, 8, 8, 8, 8, 8, 8, 8, 8, 8, 8, 8, 8, 8, 8, 8, 8, 8, 8, 8, 8, 8, 8, 8, 8, 8, 8, 8, 8, 8, 8]⟩

theorem tab8_all : ∀ n : Fin 256, bt tab8 ((n.val : Nat) : Int) = ((bl n.val : Nat) : Int) := by decide +kernel

set_option maxRecDepth 100000 in
theorem tab8_eq {x : Int} (h0 : 0 ≤ x) (h1 : x < 256) : bt (⟨#[0, 1, 2, 2, 3, 3, 3, 3, 4, 4, 4, 4, 4, 4, 4, 4, 5, 5, 5, 5, 5, 5, 5, 5, 5, 5, 5, 5, 5, 5, 5, 5, 6, 6, 6, 6, 6, 6, 6, 6, 6, 6, 6, 6, 6, 6, 6, 6, 6, 6, 6, 6, 6, 6, 6, 6, 6, 6, 6, 6, 6, 6, 6, 6, 7, 7, 7, 7, 7, 7, 7, 7, 7, 7, 7, 7, 7, 7, 7, 7, 7, 7, 7, 7, 7, 7, 7, 7, 7, 7, 7, 7, 7, 7, 7, 7, 7, 7, 7, 7, 7, 7, 7, 7, 7, 7, 7, 7, 7, 7, 7, 7, 7, 7, 7, 7, 7, 7, 7, 7, 7, 7, 7, 7, 7, 7, 7, 7, 8, 8, 8, 8, 8, 8, 8, 8, 8, 8, 8, 8, 8, 8, 8, 8, 8, 8, 8, 8, 8, 8, 8, 8, 8, 8, 8, 8, 8, 8, 8, 8, 8, 8, 8, 8, 8, 8, 8, 8, 8, 8, 8, 8, 8, 8, 8, 8, 8, 8, 8, 8, 8, 8, 8, 8, 8, 8, 8, 8, 8, 8, 8, 8, 8, 8, 8, 8, 8, 8, 8, 8, 8, 8, 8, 8, 8, 8, 8, 8, 8, 8, 8, 8, 8, 8, 8, 8, 8, 8, 8, 8, 8, 8, 8, 8, 8, 8, 8, 8, 8, 8, 8, 8, 8, 8, 8, 8, 8, 8, 8, 8, 8, 8, 8, 8, 8, 8, 8, 8, 8, 8, 8, 8, 8, 8, 8, 8]⟩ : ByteArray) x = ((bl x.toNat : Nat) : Int) := by
  have := tab8_all ⟨x.toNat, by omega⟩
  unfold tab8 at this
  rw [show (((⟨x.toNat, by omega⟩ : Fin 256).val : Nat) : Int) = x from by simp; omega] at this
  exact this

theorem blI {x : Int} (k : Nat) (h : (2 : Int) ^ k ≤ x) : ((bl x.toNat : Nat) : Int) = ((bl (x / 2 ^ k).toNat : Nat) : Int) + k := by
  have h1 := bl_shift k x.toNat (by have := two_pow_int k; omega)
  have h2 : (x / 2 ^ k).toNat = x.toNat / 2 ^ k := by
    have h3 : 0 < (2 : Int) ^ k := Int.pow_pos (by omega)
    obtain ⟨n, rfl⟩ : ∃ n : Nat, x = n := ⟨x.toNat, by omega⟩
    rw [← two_pow_int, Int.toNat_natCast, ← Int.natCast_ediv, Int.toNat_natCast]
  rw [h2, h1]
  omega

set_option maxRecDepth 100000 in
theorem len64_j0 {x c : Int} (h0 : 0 ≤ x) (h1 : x < 4294967296) (c0 : 0 ≤ c) (c1 : c ≤ 1000) : Ev (fun k => bits_Len64.j0 k x c) (c + ((bl x.toNat : Nat) : Int)) := by
  refine Ev.step (fun k => by rw [bits_Len64.j0]) ?_
  have blb : ∀ y : Int, 0 ≤ y → y < 256 → ((bl y.toNat : Nat) : Int) ≤ 8 := by
    intro y y0 y1
    have := bl_le (n := y.toNat) (k := 8) (by omega)
    omega
  by_cases p1 : x ≥ 65536
  · simp only [if_pos p1]
    have e1 := blI (x := x) 16 (by omega)
    by_cases p2 : x / 65536 ≥ 256
    · have e2 := blI (x := x / 65536) 8 (by omega)
      have r0 : 0 ≤ x / 65536 / 256 := by omega
      have r1 : x / 65536 / 256 < 256 := by omega
      have r2 : x / 65536 / 256 % 256 = x / 65536 / 256 := by omega
      have b := blb (x / 65536 / 256) (by omega) (by omega)
      simp only [if_pos p2, r2, if_pos r0, if_pos r1, tab8_eq r0 r1]
      rw [w64 (n := ((bl (x / 65536 / 256).toNat : Nat) : Int)) (by omega) (by omega), w64 (n := c + 16) (by omega) (by omega), w64 (n := c + 16 + 8) (by omega) (by omega), w64 (by omega) (by omega),
        show c + 16 + 8 + ((bl (x / 65536 / 256).toNat : Nat) : Int) = c + ((bl x.toNat : Nat) : Int) by simp only [show ((2 : Int) ^ 16) = 65536 by decide, show ((2 : Int) ^ 8) = 256 by decide] at e1 e2; omega]
      exact Ev.now _
    · have r0 : 0 ≤ x / 65536 := by omega
      have r1 : x / 65536 < 256 := by omega
      have r2 : x / 65536 % 256 = x / 65536 := by omega
      have b := blb (x / 65536) (by omega) (by omega)
      simp only [if_neg p2, r2, if_pos r0, if_pos r1, tab8_eq r0 r1]
      rw [w64 (n := ((bl (x / 65536).toNat : Nat) : Int)) (by omega) (by omega), w64 (n := c + 16) (by omega) (by omega), w64 (by omega) (by omega),
        show c + 16 + ((bl (x / 65536).toNat : Nat) : Int) = c + ((bl x.toNat : Nat) : Int) by simp only [show ((2 : Int) ^ 16) = 65536 by decide] at e1; omega]
      exact Ev.now _
  · simp only [if_neg p1]
    by_cases p2 : x ≥ 256
    · have e2 := blI (x := x) 8 (by omega)
      have r0 : 0 ≤ x / 256 := by omega
      have r1 : x / 256 < 256 := by omega
      have r2 : x / 256 % 256 = x / 256 := by omega
      have b := blb (x / 256) (by omega) (by omega)
      simp only [if_pos p2, r2, if_pos r0, if_pos r1, tab8_eq r0 r1]
      rw [w64 (n := ((bl (x / 256).toNat : Nat) : Int)) (by omega) (by omega), w64 (n := c + 8) (by omega) (by omega), w64 (by omega) (by omega),
        show c + 8 + ((bl (x / 256).toNat : Nat) : Int) = c + ((bl x.toNat : Nat) : Int) by simp only [show ((2 : Int) ^ 8) = 256 by decide] at e2; omega]
      exact Ev.now _
    · have r0 : 0 ≤ x := by omega
      have r1 : x < 256 := by omega
      have r2 : x % 256 = x := by omega
      have b := blb x (by omega) (by omega)
      simp only [if_neg p2, r2, if_pos r0, if_pos r1, tab8_eq r0 r1]
      rw [w64 (n := ((bl x.toNat : Nat) : Int)) (by omega) (by omega), w64 (by omega) (by omega)]
      exact Ev.now _

theorem len_eq {x : Int} (h0 : 0 ≤ x) (h1 : x < 18446744073709551616) : Ev (fun k => bits_Len.f k x) ((bl x.toNat : Nat) : Int) := by
  unfold bits_Len.f bits_Len64.f
  by_cases p : x ≥ 4294967296
  · simp only [if_pos p]
    have e := blI (x := x) 32 (by omega)
    have := len64_j0 (x := x / 4294967296) (c := 32) (by omega) (by omega) (by omega) (by omega)
    rw [show 32 + ((bl (x / 4294967296).toNat : Nat) : Int) = ((bl x.toNat : Nat) : Int) by simp only [show ((2 : Int) ^ 32) = 4294967296 by decide] at e; omega] at this
    exact Ev.bind this (Ev.now _)
  · simp only [if_neg p]
    have := len64_j0 (x := x) (c := 0) (by omega) (by omega) (by omega) (by omega)
    rw [Int.zero_add] at this
    exact Ev.bind this (Ev.now _)

theorem u64w {x : Int} (h0 : 0 ≤ x) (h1 : x < 18446744073709551616) : IntKind.u64.wrap x = x := by
  rw [show IntKind.u64.wrap x = x % 18446744073709551616 from by simp [IntKind.wrap, IntKind.bits, IntKind.signed]]
  omega

theorem and1 {x : Int} (h0 : 0 ≤ x) (h1 : x < 9223372036854775808) : Go.bits .and .i64 x 1 = x % 2 := by
  have := bits_mask .i64 63 (by decide) (fun n a b => by rw [IntKind.wrap_i64]; omega) 1 (by decide) x h0 (by simpa using h1)
  simpa using this

theorem mulmod (x y m : Int) : x % m * (y % m) % m = x * y % m := (Int.mul_emod x y m).symm

theorem mod_bd (x : Int) {m : Int} (h : 1 ≤ m) (h' : m ≤ 1073741824) : 0 ≤ x % m ∧ x % m < m := ⟨Int.emod_nonneg _ (by omega), Int.emod_lt_of_pos _ (by omega)⟩

theorem mul_small {x y : Int} (hx : 0 ≤ x) (hx' : x < 1073741824) (hy : 0 ≤ y) (hy' : y < 1073741824) : 0 ≤ x * y ∧ wrap64 (x * y) = x * y := by
  have h1 : 0 ≤ x * y := Int.mul_nonneg hx hy
  have h2 : x * y ≤ 1073741823 * 1073741823 := Int.mul_le_mul (by omega) (by omega) hy (by omega)
  exact ⟨h1, w64 (by omega) (by omega)⟩

theorem one_mod' {m : Int} (h : 1 ≤ m) : (1 : Int) % m = 1 % m := rfl

theorem implPow_loop (a m : Int) (E : Nat) (hE : E < 9223372036854775808) (hm : 1 ≤ m) (hm' : m ≤ 1073741824) : ∀ (n : Nat), n ≤ 64 →
    Ev (fun k => impl_powInt.l0 k (a % m) (E : Int) m (a ^ (E / 2 ^ n) % m) ((n : Int) - 1)) (a ^ E % m) := by
  intro n
  induction n with
  | zero =>
    intro _
    refine Ev.step (fun k => by rw [impl_powInt.l0]) ?_
    simp only [if_neg (show ¬ ((0 : Nat) : Int) - 1 ≥ 0 by omega), Nat.pow_zero, Nat.div_one]
    exact Ev.now _
  | succ n ih =>
    intro hn
    have ih := ih (by omega)
    have st := div_step E n
    have b1 := mod_bd (a ^ (E / 2 ^ (n + 1))) hm hm'
    have b2 := mod_bd a hm hm'
    have b3 := mod_bd (a ^ (E / 2 ^ (n + 1)) * a ^ (E / 2 ^ (n + 1))) hm hm'
    obtain ⟨p0, w0⟩ := mul_small b1.1 (by omega) b1.1 (by omega)
    obtain ⟨p1, w1⟩ := mul_small b3.1 (by omega) b2.1 (by omega)
    have sh : shr .i64 (E : Int) (n : Int) = ((E / 2 ^ n : Nat) : Int) := by
      unfold shr
      rw [Int.toNat_natCast, Nat.min_eq_left (by simp [IntKind.bits]; omega), ← two_pow_int]
      exact (Int.natCast_ediv _ _).symm
    have le : E / 2 ^ n ≤ E := Nat.div_le_self _ _
    have an := and1 (x := ((E / 2 ^ n : Nat) : Int)) (by omega) (by clear w0 w1 st; omega)
    have q0 : ((n + 1 : Nat) : Int) - 1 = (n : Int) := by clear w0 w1 sh an; omega
    have q1 : (n : Int) ≥ 0 := by clear w0 w1 sh an; omega
    have q2 : ¬ m = 0 := by clear w0 w1 sh an; omega
    have q3 : 0 ≤ (n : Int) := by clear w0 w1 sh an; omega
    have q4 : wrap64 ((n : Int) - 1) = (n : Int) - 1 := by clear w0 w1 sh an; exact w64 (by omega) (by omega)
    refine Ev.step (fun k => by rw [impl_powInt.l0]) ?_
    simp only [q0, if_pos q1, if_neg q2, if_pos q3, sh, an, q4, w0, Int.tmod_eq_emod_of_nonneg p0, mulmod, w1, Int.tmod_eq_emod_of_nonneg p1]
    rcases Nat.mod_two_eq_zero_or_one (E / 2 ^ n) with hb | hb
    · rw [hb, Nat.add_zero] at st
      simp only [if_neg (show ¬ ((E / 2 ^ n : Nat) : Int) % 2 = 1 by clear w0 w1 sh an q4; omega)]
      rw [st, Nat.two_mul, Int.pow_add] at ih
      exact ih
    · rw [hb] at st
      simp only [if_pos (show ((E / 2 ^ n : Nat) : Int) % 2 = 1 by clear w0 w1 sh an q4; omega)]
      rw [st, Nat.two_mul, Int.pow_add, Int.pow_add, Int.pow_one] at ih
      exact ih

theorem implPow_eq {a e m : Int} (ha : 0 ≤ a) (he : 0 ≤ e) (he' : e ≤ 9223372036854775807) (hm : 1 ≤ m) (hm' : m ≤ 1073741824) : Ev (fun k => impl_powInt.f k a e m) (a ^ e.toNat % m) := by
  obtain ⟨E, rfl⟩ : ∃ E : Nat, e = E := ⟨e.toNat, by omega⟩
  unfold impl_powInt.f
  simp only [if_neg (show ¬ m = 0 by omega), Int.toNat_natCast]
  rw [u64w he (by omega), Int.tmod_eq_emod_of_nonneg ha]
  refine Ev.bind (len_eq he (by omega)) ?_
  rw [Int.toNat_natCast]
  have hl := bl_le (n := E) (k := 64) (by omega)
  have := implPow_loop a m E (by omega) hm hm' (bl E) (by omega)
  rw [Nat.div_eq_of_lt (bl_lt E), Int.pow_zero] at this
  rw [w64 (by omega) (by omega)]
  exact this

theorem specPow_loop (m : Int) (hm : 1 ≤ m) (hm' : m ≤ 1073741824) : ∀ (n E : Nat) (x y : Int), E ≤ n → E < 9223372036854775808 →
    Ev (fun k => spec_l2Pow.l0 k (E : Int) m (x % m) (y % m)) (x * y ^ E % m) := by
  intro n
  induction n with
  | zero =>
    intro E x y hE hE'
    obtain rfl : E = 0 := by omega
    refine Ev.step (fun k => by rw [spec_l2Pow.l0]) ?_
    simp only [if_neg (show ¬ ((0 : Nat) : Int) > 0 by omega), Int.pow_zero, Int.mul_one]
    exact Ev.now _
  | succ n ih =>
    intro E x y hE hE'
    by_cases h0 : E = 0
    · subst h0; exact ih 0 x y (by omega) (by omega)
    · have b1 := mod_bd x hm hm'
      have b2 := mod_bd y hm hm'
      obtain ⟨p0, w0⟩ := mul_small b1.1 (by omega) b2.1 (by omega)
      obtain ⟨p1, w1⟩ := mul_small b2.1 (by omega) b2.1 (by omega)
      have q0 : (E : Int) > 0 := by clear w0 w1; omega
      have q1 : ¬ m = 0 := by clear w0 w1; omega
      have q2 : wrap64 (Int.tdiv (E : Int) 2) = ((E / 2 : Nat) : Int) := by
        rw [Int.tdiv_eq_ediv_of_nonneg (by clear w0 w1; omega), w64 (by clear w0 w1; omega) (by clear w0 w1; omega)]
        clear w0 w1; omega
      have q3 : Int.tmod (E : Int) 2 = ((E % 2 : Nat) : Int) := by rw [Int.tmod_eq_emod_of_nonneg (by clear w0 w1 q2; omega)]; clear w0 w1 q2; omega
      refine Ev.step (fun k => by rw [spec_l2Pow.l0]) ?_
      simp only [if_pos q0, if_neg q1, q2, q3, w0, w1, Int.tmod_eq_emod_of_nonneg p0, Int.tmod_eq_emod_of_nonneg p1, mulmod]
      clear q2 q3 w0 w1
      have hyy : (y * y) ^ (E / 2) = y ^ (2 * (E / 2)) := by rw [Nat.two_mul, Int.pow_add, Int.mul_pow]
      rcases Nat.mod_two_eq_zero_or_one E with hb | hb
      · simp only [hb, if_neg (show ¬ ((0 : Nat) : Int) = 1 by omega)]
        have := ih (E / 2) x (y * y) (by omega) (by omega)
        rw [hyy, show 2 * (E / 2) = E by omega] at this
        exact this
      · simp only [hb, if_pos (show ((1 : Nat) : Int) = 1 by omega)]
        have := ih (E / 2) (x * y) (y * y) (by omega) (by omega)
        rw [hyy, Int.mul_assoc, ← Int.pow_succ', show 2 * (E / 2) + 1 = E by omega] at this
        exact this

theorem specPow_eq {a e m : Int} (ha : 0 ≤ a) (he : 0 ≤ e) (he' : e ≤ 9223372036854775807) (hm : 1 ≤ m) (hm' : m ≤ 1073741824) : Ev (fun k => spec_l2Pow.f k a e m) (a ^ e.toNat % m) := by
  obtain ⟨E, rfl⟩ : ∃ E : Nat, e = E := ⟨e.toNat, by omega⟩
  unfold spec_l2Pow.f
  simp only [if_neg (show ¬ m = 0 by omega), Int.toNat_natCast]
  rw [Int.tmod_eq_emod_of_nonneg ha]
  have := specPow_loop m hm hm' E E 1 a (Nat.le_refl _) (by omega)
  rw [Int.one_mul] at this
  exact this

theorem sprime_loop (n : Int) (hn : n ≤ 1099511627776) (h2 : 2 ≤ n) : ∀ (m : Nat) (d : Int), 2 ≤ d → (1048580 - d).toNat ≤ m → d ≤ 1048577 → (∀ c, 2 ≤ c → c < d → ¬ c ∣ n) →
    ∃ r, (r = true → Prm n) ∧ (r = false → ¬ Prm n) ∧ Ev (fun k => spec_PrimeInt.l0 k n d) r := by
  intro m
  induction m with
  | zero => intro d h h1 h2; omega
  | succ m ih =>
    intro d h h1 h3 hc
    have e0 : 0 ≤ d * d := Int.mul_nonneg (by omega) (by omega)
    have e1 : d * d ≤ 1048577 * 1048577 := Int.mul_le_mul h3 h3 (by omega) (by omega)
    have h5 : d * d ≤ n → d ≤ 1048576 := by
      intro k
      rcases Int.lt_or_le 1048576 d with h6 | h6
      · have : (1048577 : Int) * 1048577 ≤ d * d := Int.mul_le_mul h6 h6 (by omega) (by omega)
        omega
      · exact h6
    have ew : wrap64 (d * d) = d * d := w64 (by omega) (by omega)
    by_cases h6 : d * d ≤ n
    · have hd := h5 h6
      by_cases h4 : n % d = 0
      · refine ⟨false, fun k => (by cases k), fun _ k => k.2 d h h6 (Int.dvd_of_emod_eq_zero h4), Ev.step (fun k => by rw [spec_PrimeInt.l0]) ?_⟩
        simp only [ew, if_pos h6, if_neg (show ¬ d = 0 by clear ew; omega), Int.tmod_eq_emod_of_nonneg (show 0 ≤ n by clear ew; omega), if_pos h4]
        exact Ev.now _
      · obtain ⟨r, r1, r2, e⟩ := ih (d + 1) (by clear ew; omega) (by clear ew; omega) (by clear ew; omega) (fun c c0 c1 => by
          by_cases hcd : c = d
          · subst hcd; intro k; exact h4 (Int.emod_eq_zero_of_dvd k)
          · exact hc c c0 (by clear ew; omega))
        refine ⟨r, r1, r2, Ev.step (fun k => by rw [spec_PrimeInt.l0]) ?_⟩
        simp only [ew, if_pos h6, if_neg (show ¬ d = 0 by clear ew; omega), Int.tmod_eq_emod_of_nonneg (show 0 ≤ n by clear ew; omega), if_neg h4]
        clear ew
        rw [w64 (n := d + 1) (by omega) (by omega)]
        exact e
    · refine ⟨true, fun _ => ⟨h2, fun c c0 c1 c2 => ?_⟩, fun k => (by cases k), Ev.step (fun k => by rw [spec_PrimeInt.l0]) ?_⟩
      · refine hc c c0 ?_ c2
        rcases Int.lt_or_le c d with h7 | h7
        · exact h7
        · have : d * d ≤ c * c := Int.mul_le_mul h7 h7 (by clear ew; omega) (by clear ew; omega)
          clear ew; omega
      · simp only [ew, if_neg h6]
        exact Ev.now _

theorem sprime_eq (n : Int) : ∃ r, (r = true → Prm n ∧ n ≤ 1099511627776) ∧ (r = false → ¬ (Prm n ∧ n ≤ 1099511627776)) ∧ Ev (fun k => spec_PrimeInt.f k n) r := by
  unfold spec_PrimeInt.f
  simp only [in_eq, Option.bind_some]
  by_cases h : 2 ≤ n ∧ n ≤ 1099511627776
  · obtain ⟨r, r1, r2, e⟩ := sprime_loop n h.2 h.1 1048578 2 (by omega) (by omega) (by omega) (fun c c0 c1 => by omega)
    refine ⟨r, fun k => ⟨r1 k, h.2⟩, fun k q => r2 k q.1, ?_⟩
    simp only [h.1, h.2, and_self, decide_true, if_true]
    exact e
  · refine ⟨false, fun k => (by cases k), fun _ q => h ⟨q.1.1, q.2⟩, ?_⟩
    simp only [h, decide_false]
    simpa using Ev.now false

theorem iprime_loop (n : Int) (hn : n ≤ 1099511627776) (h2 : 2 ≤ n) : ∀ (m : Nat) (d : Int), 2 ≤ d → (1048580 - d).toNat ≤ m → d ≤ 1048577 → (∀ c, 2 ≤ c → c < d → ¬ c ∣ n) →
    ∃ r, (r = true → Prm n) ∧ (r = false → ¬ Prm n) ∧ Ev (fun k => impl_PrimeInt.l0 k n d) r := by
  intro m
  induction m with
  | zero => intro d h h1 h2; omega
  | succ m ih =>
    intro d h h1 h3 hc
    have e0 : 0 ≤ d * d := Int.mul_nonneg (by omega) (by omega)
    have e1 : d * d ≤ 1048577 * 1048577 := Int.mul_le_mul h3 h3 (by omega) (by omega)
    have h5 : d * d ≤ n → d ≤ 1048576 := by
      intro k
      rcases Int.lt_or_le 1048576 d with h6 | h6
      · have : (1048577 : Int) * 1048577 ≤ d * d := Int.mul_le_mul h6 h6 (by omega) (by omega)
        omega
      · exact h6
    have ew : wrap64 (d * d) = d * d := w64 (by omega) (by omega)
    by_cases h6 : d * d ≤ n
    · have hd := h5 h6
      by_cases h4 : n % d = 0
      · refine ⟨false, fun k => (by cases k), fun _ k => k.2 d h h6 (Int.dvd_of_emod_eq_zero h4), Ev.step (fun k => by rw [impl_PrimeInt.l0]) ?_⟩
        simp only [ew, if_pos h6, if_neg (show ¬ d = 0 by clear ew; omega), Int.tmod_eq_emod_of_nonneg (show 0 ≤ n by clear ew; omega), if_pos h4]
        exact Ev.now _
      · obtain ⟨r, r1, r2, e⟩ := ih (d + 1) (by clear ew; omega) (by clear ew; omega) (by clear ew; omega) (fun c c0 c1 => by
          by_cases hcd : c = d
          · subst hcd; intro k; exact h4 (Int.emod_eq_zero_of_dvd k)
          · exact hc c c0 (by clear ew; omega))
        refine ⟨r, r1, r2, Ev.step (fun k => by rw [impl_PrimeInt.l0]) ?_⟩
        simp only [ew, if_pos h6, if_neg (show ¬ d = 0 by clear ew; omega), Int.tmod_eq_emod_of_nonneg (show 0 ≤ n by clear ew; omega), if_neg h4]
        clear ew
        rw [w64 (n := d + 1) (by omega) (by omega)]
        exact e
    · refine ⟨true, fun _ => ⟨h2, fun c c0 c1 c2 => ?_⟩, fun k => (by cases k), Ev.step (fun k => by rw [impl_PrimeInt.l0]) ?_⟩
      · refine hc c c0 ?_ c2
        rcases Int.lt_or_le c d with h7 | h7
        · exact h7
        · have : d * d ≤ c * c := Int.mul_le_mul h7 h7 (by clear ew; omega) (by clear ew; omega)
          clear ew; omega
      · simp only [ew, if_neg h6]
        exact Ev.now _

theorem iprime_eq (n : Int) : ∃ r, (r = true → Prm n ∧ n ≤ 1099511627776) ∧ (r = false → ¬ (Prm n ∧ n ≤ 1099511627776)) ∧ Ev (fun k => impl_PrimeInt.f k n) r := by
  unfold impl_PrimeInt.f
  simp only [within_eq, Option.bind_some]
  by_cases h : 2 ≤ n ∧ n ≤ 1099511627776
  · obtain ⟨r, r1, r2, e⟩ := iprime_loop n h.2 h.1 1048578 2 (by omega) (by omega) (by omega) (fun c c0 c1 => by omega)
    refine ⟨r, fun k => ⟨r1 k, h.2⟩, fun k q => r2 k q.1, ?_⟩
    simp only [h.1, h.2, and_self, decide_true, if_true]
    exact e
  · refine ⟨false, fun k => (by cases k), fun _ q => h ⟨q.1.1, q.2⟩, ?_⟩
    simp only [h, decide_false]
    simpa using Ev.now false

theorem primes_eq (n : Int) : ∃ r, (r = true → Prm n) ∧ (r = false → n ≤ 1099511627776 → ¬ Prm n) ∧ Ev (fun k => spec_PrimeInt.f k n) r ∧ Ev (fun k => impl_PrimeInt.f k n) r := by
  obtain ⟨r, r1, r2, e⟩ := sprime_eq n
  obtain ⟨q, q1, q2, f⟩ := iprime_eq n
  obtain rfl : r = q := by
    cases r <;> cases q
    · rfl
    · exact absurd (q1 rfl) (r2 rfl)
    · exact absurd (r1 rfl) (q2 rfl)
    · rfl
  exact ⟨r, fun k => (r1 k).1, fun k h1 h2 => r2 k ⟨h2, h1⟩, e, f⟩

theorem irt_step {a p i : Int} (h3 : 3 ≤ p) (hp : p ≤ 1048576) (h0 : 0 ≤ i) (h1 : i < p) : 0 ≤ i * i ∧ wrap64 (i * i) = i * i ∧ wrap64 (i + 1) = i + 1 := by
  have e0 : 0 ≤ i * i := Int.mul_nonneg h0 h0
  have e1 : i * i ≤ 1048576 * 1048576 := Int.mul_le_mul (by omega) (by omega) h0 (by omega)
  exact ⟨e0, w64 (by omega) (by omega), w64 (by omega) (by omega)⟩

theorem implRoot_find {a p r : Int} (h3 : 3 ≤ p) (hp : p ≤ 1048576) (r1 : r < p) (hr : r * r % p = a) (hl : ∀ j, 0 ≤ j → j < r → ¬ j * j % p = a) : ∀ (d : Nat) (i : Int), 0 ≤ i → r - i = d →
    Ev (fun k => impl_rootInt.l0 k a p p i) (r, true) := by
  intro d
  induction d with
  | zero =>
    intro i h0 hd
    obtain rfl : i = r := by omega
    obtain ⟨s0, s1, s2⟩ := irt_step (a := a) h3 hp h0 r1
    refine Ev.step (fun k => by rw [impl_rootInt.l0]) ?_
    simp only [if_pos r1, if_neg (show ¬ p = 0 by clear s1 s2; omega), s1, Int.tmod_eq_emod_of_nonneg s0, hr, if_true]
    exact Ev.now _
  | succ d ih =>
    intro i h0 hd
    obtain ⟨s0, s1, s2⟩ := irt_step (a := a) h3 hp h0 (show i < p by omega)
    have hi := hl i h0 (by clear s1 s2; omega)
    have := ih (i + 1) (by clear s1 s2; omega) (by clear s1 s2; omega)
    refine Ev.step (fun k => by rw [impl_rootInt.l0]) ?_
    simp only [if_pos (show i < p by clear s1 s2; omega), if_neg (show ¬ p = 0 by clear s1 s2; omega), s1, Int.tmod_eq_emod_of_nonneg s0, if_neg hi, s2]
    exact this

theorem implRoot_none {a p : Int} (h3 : 3 ≤ p) (hp : p ≤ 1048576) (hl : ∀ j, 0 ≤ j → j < p → ¬ j * j % p = a) : ∀ (d : Nat) (i : Int), 0 ≤ i → p - i = d →
    Ev (fun k => impl_rootInt.l0 k a p p i) (0, false) := by
  intro d
  induction d with
  | zero =>
    intro i h0 hd
    refine Ev.step (fun k => by rw [impl_rootInt.l0]) ?_
    simp only [if_neg (show ¬ i < p by omega)]
    exact Ev.now _
  | succ d ih =>
    intro i h0 hd
    obtain ⟨s0, s1, s2⟩ := irt_step (a := a) h3 hp h0 (show i < p by omega)
    have hi := hl i h0 (by clear s1 s2; omega)
    have := ih (i + 1) (by clear s1 s2; omega) (by clear s1 s2; omega)
    refine Ev.step (fun k => by rw [impl_rootInt.l0]) ?_
    simp only [if_pos (show i < p by clear s1 s2; omega), if_neg (show ¬ p = 0 by clear s1 s2; omega), s1, Int.tmod_eq_emod_of_nonneg s0, if_neg hi, s2]
    exact this

/-- The least root, or none. -/
def RootIs (a p r : Int) (b : Bool) : Prop := (b = true ∧ 0 ≤ r ∧ r < p ∧ r * r % p = a ∧ ∀ j, 0 ≤ j → j < r → ¬ j * j % p = a) ∨ (b = false ∧ r = 0 ∧ ∀ j, 0 ≤ j → j < p → ¬ j * j % p = a)

theorem rootIs_exists (a : Int) {p : Int} (hp : 3 ≤ p) : ∃ r b, RootIs a p r b := by
  by_cases h : ∃ x, 0 ≤ x ∧ x < p ∧ x * x % p = a
  · obtain ⟨x, x0, x1, hx⟩ := h
    obtain ⟨r, r0, r1, r2, r3⟩ := least (fun x => x * x % p = a) x.toNat x x0 (Nat.le_refl _) hx
    exact ⟨r, true, .inl ⟨rfl, r0, by omega, r2, r3⟩⟩
  · exact ⟨0, false, .inr ⟨rfl, rfl, fun j h1 h2 h3 => h ⟨j, h1, h2, h3⟩⟩⟩

theorem implRoot_eq {a p r : Int} {b : Bool} (hp : Prm p) (h3 : 3 ≤ p) (hp' : p ≤ 1048576) (h0 : 0 ≤ a) (h1 : a < p) (hr : RootIs a p r b) : Ev (fun k => impl_rootInt.f k a p) (r, b) := by
  unfold impl_rootInt.f
  have ho := prm_odd hp h3
  have j0 : Ev (fun k => impl_rootInt.j0 k a p false) (r, b) := by
    refine Ev.step (fun k => by rw [impl_rootInt.j0]) ?_
    simp only [Bool.false_eq_true, if_false]
    rcases hr with ⟨rfl, r0, r1, r2, r3⟩ | ⟨rfl, rfl, r3⟩
    · exact implRoot_find h3 hp' r1 r2 r3 r.toNat 0 (by omega) (by omega)
    · exact implRoot_none h3 hp' r3 p.toNat 0 (by omega) (by omega)
  by_cases ha : a = 0
  · simp only [if_pos ha]
    exact j0
  · simp only [if_neg ha]
    have e1 : wrap64 (Int.tdiv (wrap64 (p - 1)) 2) = (p - 1) / 2 := by
      rw [w64 (n := p - 1) (by omega) (by omega), Int.tdiv_eq_ediv_of_nonneg (by omega), w64 (by omega) (by omega)]
    rw [e1]
    clear e1
    refine Ev.bind (implPow_eq h0 (by omega) (by omega) (by omega) (by omega)) ?_
    rcases hr with ⟨rfl, r0, r1, r2, r3⟩ | ⟨rfl, rfl, r3⟩
    · have := square_pow hp h3 ho r2 ha ((p - 1) / 2).toNat (by omega)
      rw [this]
      exact j0
    · by_cases hq : a ^ ((p - 1) / 2).toNat % p = 1
      · rw [hq]; exact j0
      · have : (a ^ ((p - 1) / 2).toNat % p != 1) = true := by simpa using hq
        rw [this]
        refine Ev.step (fun k => by rw [impl_rootInt.j0]) ?_
        simp only [if_true]
        exact Ev.now _

theorem mm {x y p : Int} (hp : 1 ≤ p) (hp' : p ≤ 1048576) (x0 : 0 ≤ x) (x1 : x < p) (y0 : 0 ≤ y) (y1 : y < p) : 0 ≤ x * y ∧ x * y ≤ 1099511627776 := by
  have h1 : 0 ≤ x * y := Int.mul_nonneg x0 y0
  have h2 : x * y ≤ 1048576 * 1048576 := Int.mul_le_mul (by omega) (by omega) y0 (by omega)
  omega

theorem md {x p : Int} (hp : 1 ≤ p) : 0 ≤ x % p ∧ x % p < p := ⟨Int.emod_nonneg _ (by omega), Int.emod_lt_of_pos _ (by omega)⟩

/-- A product's rest, as the code makes it. -/
theorem mulm {x y p : Int} (hp : 1 ≤ p) (hp' : p ≤ 1048576) (x0 : 0 ≤ x) (x1 : x < p) (y0 : 0 ≤ y) (y1 : y < p) : Int.tmod (wrap64 (x * y)) p = x * y % p := by
  obtain ⟨h1, h2⟩ := mm hp hp' x0 x1 y0 y1
  rw [w64 (by omega) (by omega), Int.tmod_eq_emod_of_nonneg h1]

theorem mms {x y z p : Int} (hp : 1 ≤ p) (hp' : p ≤ 1048576) (x0 : 0 ≤ x) (x1 : x < p) (y0 : 0 ≤ y) (y1 : y < p) (z0 : 0 ≤ z) (z1 : z < p) : -1099511627776 ≤ x * (y - z) ∧ x * (y - z) ≤ 1099511627776 := by
  obtain ⟨h1, h2⟩ := mm hp hp' x0 x1 y0 y1
  obtain ⟨h3, h4⟩ := mm hp hp' x0 x1 z0 z1
  rw [Int.mul_sub]
  omega

/-- What is reckoned behind the slope. -/
theorem third_arith {l x y u p : Int} (hp : 1 ≤ p) (hp' : p ≤ 1048576) (l0 : 0 ≤ l) (l1 : l < p) (x0 : 0 ≤ x) (x1 : x < p) (y0 : 0 ≤ y) (y1 : y < p) (u0 : 0 ≤ u) (u1 : u < p) :
    wrap64 (wrap64 (wrap64 (l * l) - x) - u) = l * l - x - u ∧ ∀ r, 0 ≤ r → r < p → wrap64 (wrap64 (l * wrap64 (x - r)) - y) = l * (x - r) - y := by
  obtain ⟨h1, h2⟩ := mm hp hp' l0 l1 l0 l1
  constructor
  · rw [w64 (n := l * l) (by omega) (by omega), w64 (n := l * l - x) (by omega) (by omega), w64 (by omega) (by omega)]
  · intro r r0 r1
    obtain ⟨h3, h4⟩ := mms hp hp' l0 l1 x0 x1 r0 r1
    rw [w64 (n := x - r) (by omega) (by omega), w64 (n := l * (x - r)) (by omega) (by omega), w64 (by omega) (by omega)]

theorem specSum_eq {p a b n gx gy x y u v : Int} {f g : Bool} (h : CNum p a b) (K : Fld p) (hp : CPt p a b K x y f) (hq : CPt p a b K u v g) :
    ∃ r s t, CPt p a b K r s t ∧ toPt K r s t = Pt.add (toF a) (toPt K x y f) (toPt K u v g) ∧ Ev (fun k => spec_l3Add.f k p a b n gx gy x y f u v g) (r, s, t) := by
  have hlo := h.lo
  have hhi := h.hi
  have p1 : 1 ≤ p := by omega
  cases f with
  | true =>
    refine ⟨u, v, g, hq, by simp only [toPt, if_true, Pt.far_add], ?_⟩
    unfold spec_l3Add.f
    simp only [if_true]
    exact Ev.now _
  | false =>
    cases g with
    | true =>
      refine ⟨x, y, false, hp, by simp only [toPt, if_true, Bool.false_eq_true, if_false, Pt.add_far], ?_⟩
      unfold spec_l3Add.f
      simp only [if_true, Bool.false_eq_true, if_false]
      exact Ev.now _
    | false =>
      have wy : Int.tmod (wrap64 (y + v)) p = (y + v) % p := by
        have := hp.y0; have := hp.y1; have := hq.y0; have := hq.y1
        rw [w64 (by omega) (by omega), Int.tmod_eq_emod_of_nonneg (by omega)]
      by_cases hn : x = u ∧ (y + v) % p = 0
      · refine ⟨0, 0, true, CPt.zero (by omega), cpt_opp hp hq hn, ?_⟩
        unfold spec_l3Add.f
        simp only [Bool.false_eq_true, if_false, if_pos hn.1, if_neg (show ¬ p = 0 by omega), wy, if_pos hn.2]
        exact Ev.now _
      · obtain ⟨r, s, t, h1, h2, h3⟩ : ∃ r s t, CPt p a b K r s t ∧ toPt K r s t = Pt.add (toF a) (toPt K x y false) (toPt K u v false) ∧ Ev (fun k => spec_l3Add.j0 k p a b n gx gy x y false u v false) (r, s, t) := by
          by_cases e : x = u
          · obtain ⟨ey, hne⟩ := dbl_ne hp hq hn e
            obtain ⟨i, bi, i1, e1⟩ := specInv_eq (2 * y) (m := p) (by omega) (by omega)
            obtain ⟨_, i0, i2, ti⟩ := inv_of K h.prm i1 hne
            have w3 : Int.tmod (wrap64 (3 * x)) p = 3 * x % p := by
              have := hp.x0; have := hp.x1
              rw [w64 (by omega) (by omega), Int.tmod_eq_emod_of_nonneg (by omega)]
            have m3 := md (x := 3 * x) p1
            obtain ⟨q1, q2⟩ := mm p1 hhi m3.1 m3.2 hp.x0 hp.x1
            have wn : Int.tmod (wrap64 (wrap64 (3 * x % p * x) + a)) p = (3 * x % p * x + a) % p := by
              have := h.a0; have := h.a1
              rw [w64 (n := 3 * x % p * x) (by clear w3; omega) (by clear w3; omega), w64 (by clear w3; omega) (by clear w3; omega), Int.tmod_eq_emod_of_nonneg (by clear w3; omega)]
            have mn := md (x := 3 * x % p * x + a) p1
            have wl := mulm p1 hhi mn.1 mn.2 (Int.le_of_lt i0) i2
            have ml := md (x := (3 * x % p * x + a) % p * i) p1
            have hl : (toF ((3 * x % p * x + a) % p * i % p) : K.F) = (3 * toF x * toF x + toF a) * toF i := by
              have e3 : (toF 3 : K.F) = 3 := toF_nat 3
              simp only [K.emod, toF_mul, toF_add, e3]
            have hs := slope_dbl (v := v) (a := a) e ti hl
            obtain ⟨c1, c2⟩ := cpt_third hp hq (by omega) hn hs
            have y0 := hp.y0
            have y1 := hp.y1
            have wi : wrap64 (2 * y) = 2 * y := w64 (by clear w3 wn wl wy; omega) (by clear w3 wn wl wy; omega)
            generalize hL : (3 * x % p * x + a) % p * i % p = L at *
            obtain ⟨t1, t2⟩ := third_arith p1 hhi ml.1 ml.2 hp.x0 hp.x1 hp.y0 hp.y1 hq.x0 hq.x1
            have mr := md (x := L * L - x - u) p1
            refine ⟨_, _, _, c1, c2, Ev.step (fun k => by rw [spec_l3Add.j0]) ?_⟩
            simp only [if_pos e, if_neg (show ¬ p = 0 by clear w3 wn wl wy; omega), w3, wn, wi]
            refine Ev.bind e1 ?_
            rw [wl, t1, left_eq (by clear w3 wn wl wy; omega) (by clear w3 wn wl wy; omega)]
            simp only [Option.bind_some]
            rw [t2 _ mr.1 mr.2, left_eq (by clear w3 wn wl wy; omega) (by clear w3 wn wl wy; omega)]
            exact Ev.now _
          · have hne := chord_ne hp hq e
            obtain ⟨i, bi, i1, e1⟩ := specInv_eq (u - x) (m := p) (by omega) (by omega)
            obtain ⟨_, i0, i2, ti⟩ := inv_of K h.prm i1 hne
            have mn := md (x := v - y) p1
            have wl := mulm p1 hhi mn.1 mn.2 (Int.le_of_lt i0) i2
            have ml := md (x := (v - y) % p * i) p1
            have hl : (toF ((v - y) % p * i % p) : K.F) = toF (v - y) * toF i := by simp only [K.emod, toF_mul]
            have hs := slope_chord (a := a) hp hq e ti hl
            obtain ⟨c1, c2⟩ := cpt_third hp hq (by omega) hn hs
            have y0 := hp.y0
            have y1 := hp.y1
            have x0 := hp.x0
            have x1 := hp.x1
            have v0 := hq.y0
            have v1 := hq.y1
            have u0 := hq.x0
            have u1 := hq.x1
            have wi : wrap64 (u - x) = u - x := w64 (by clear wl wy; omega) (by clear wl wy; omega)
            have wv : wrap64 (v - y) = v - y := w64 (by clear wi wl wy; omega) (by clear wi wl wy; omega)
            generalize hL : (v - y) % p * i % p = L at *
            obtain ⟨t1, t2⟩ := third_arith p1 hhi ml.1 ml.2 hp.x0 hp.x1 hp.y0 hp.y1 hq.x0 hq.x1
            have mr := md (x := L * L - x - u) p1
            refine ⟨_, _, _, c1, c2, Ev.step (fun k => by rw [spec_l3Add.j0]) ?_⟩
            simp only [if_neg e, wv, wi]
            rw [left_eq (by clear wi wv wl wy; omega) (by clear wi wv wl wy; omega)]
            simp only [Option.bind_some, if_neg (show ¬ p = 0 by clear wi wv wl wy; omega)]
            refine Ev.bind e1 ?_
            rw [wl, t1, left_eq (by clear wi wv wl wy; omega) (by clear wi wv wl wy; omega)]
            simp only [Option.bind_some]
            rw [t2 _ mr.1 mr.2, left_eq (by clear wi wv wl wy; omega) (by clear wi wv wl wy; omega)]
            exact Ev.now _
        refine ⟨r, s, t, h1, h2, ?_⟩
        unfold spec_l3Add.f
        by_cases e : x = u
        · simp only [Bool.false_eq_true, if_false, if_pos e, if_neg (show ¬ p = 0 by clear wy; omega), wy, if_neg (fun t => hn ⟨e, t⟩)]
          exact h3
        · simp only [Bool.false_eq_true, if_false, if_neg e]
          exact h3

theorem specTimes_loop {p a b n gx gy : Int} (h : CNum p a b) (K : Fld p) : ∀ (m E : Nat) (x y u v : Int) (f g : Bool), E ≤ m → E < 9223372036854775808 → CPt p a b K x y f → CPt p a b K u v g →
    ∃ r s t, CPt p a b K r s t ∧ toPt K r s t = (h.grp K).add (toPt K u v g) ((h.grp K).smul E (toPt K x y f)) ∧ Ev (fun k => spec_l3Mul.l0 k (E : Int) p a b n gx gy x y f u v g) (r, s, t) := by
  intro m
  induction m with
  | zero =>
    intro E x y u v f g hE hE' hp hq
    obtain rfl : E = 0 := by omega
    refine ⟨u, v, g, hq, ?_, Ev.step (fun k => by rw [spec_l3Mul.l0]) ?_⟩
    · exact ((h.grp K).add_zero (p := toPt K u v g) hq.pt).symm
    · simp only [if_neg (show ¬ ((0 : Nat) : Int) > 0 by omega)]
      exact Ev.now _
  | succ m ih =>
    intro E x y u v f g hE hE' hp hq
    by_cases h0 : E = 0
    · subst h0; exact ih 0 x y u v f g (by omega) (by omega) hp hq
    · have q0 : (E : Int) > 0 := by omega
      have q2 : wrap64 (Int.tdiv (E : Int) 2) = ((E / 2 : Nat) : Int) := by
        rw [Int.tdiv_eq_ediv_of_nonneg (by omega), w64 (by omega) (by omega)]
        omega
      have q3 : Int.tmod (E : Int) 2 = ((E % 2 : Nat) : Int) := by rw [Int.tmod_eq_emod_of_nonneg (by omega)]; clear q2; omega
      obtain ⟨x2, y2, g2, hp2, f2, e2⟩ := specSum_eq (n := n) (gx := gx) (gy := gy) h K hp hp
      rcases Nat.mod_two_eq_zero_or_one E with hb | hb
      · obtain ⟨r, s, t, hr, fr, er⟩ := ih (E / 2) x2 y2 u v g2 g (by clear q2 q3; omega) (by clear q2 q3; omega) hp2 hq
        refine ⟨r, s, t, hr, ?_, Ev.step (fun k => by rw [spec_l3Mul.l0]) ?_⟩
        · rw [fr, f2]
          have := (h.grp K).step_down (o := toPt K u v g) (p := toPt K x y f) hp.pt (E / 2)
          rw [show 2 * (E / 2) = E by clear q2 q3; omega] at this
          exact this
        · simp only [if_pos q0, q2, q3, hb, if_neg (show ¬ ((0 : Nat) : Int) = 1 by omega)]
          exact Ev.bind e2 er
      · obtain ⟨u2, v2, k2, hq2, c2, d2⟩ := specSum_eq (n := n) (gx := gx) (gy := gy) h K hq hp
        obtain ⟨r, s, t, hr, fr, er⟩ := ih (E / 2) x2 y2 u2 v2 g2 k2 (by clear q2 q3; omega) (by clear q2 q3; omega) hp2 hq2
        refine ⟨r, s, t, hr, ?_, Ev.step (fun k => by rw [spec_l3Mul.l0]) ?_⟩
        · rw [fr, f2, c2]
          have := (h.grp K).step_down1 (o := toPt K u v g) (p := toPt K x y f) hq.pt hp.pt (E / 2)
          rw [show 2 * (E / 2) + 1 = E by clear q2 q3; omega] at this
          exact this
        · simp only [if_pos q0, q2, q3, hb, if_pos (show ((1 : Nat) : Int) = 1 by omega)]
          exact Ev.bind d2 (Ev.bind e2 er)

theorem specTimes_eq {p a b o gx gy n x y : Int} {f : Bool} (h : CNum p a b) (K : Fld p) (hn : 0 ≤ n) (hn' : n ≤ 9223372036854775807) (hp : CPt p a b K x y f) :
    ∃ r s t, CPt p a b K r s t ∧ toPt K r s t = (h.grp K).smul n.toNat (toPt K x y f) ∧ Ev (fun k => spec_l3Mul.f k p a b o gx gy n x y f) (r, s, t) := by
  obtain ⟨E, rfl⟩ : ∃ E : Nat, n = E := ⟨n.toNat, by omega⟩
  obtain ⟨r, s, t, hr, fr, er⟩ := specTimes_loop (n := o) (gx := gx) (gy := gy) h K E E x y 0 0 f true (Nat.le_refl _) (by omega) hp (CPt.zero (by have := h.lo; omega))
  refine ⟨r, s, t, hr, ?_, er⟩
  rw [fr, Int.toNat_natCast]
  exact (h.grp K).zero_add ((h.grp K).on_smul (p := toPt K x y f) hp.pt E)

theorem implSum_eq {p a b n gx gy x y u v : Int} {f g : Bool} (h : CNum p a b) (K : Fld p) (hp : CPt p a b K x y f) (hq : CPt p a b K u v g) :
    ∃ r s t, CPt p a b K r s t ∧ toPt K r s t = Pt.add (toF a) (toPt K x y f) (toPt K u v g) ∧ Ev (fun k => impl_Curve_sum.f k p a b n gx gy x y f u v g) (r, s, t) := by
  have hlo := h.lo
  have hhi := h.hi
  have p1 : 1 ≤ p := by omega
  cases f with
  | true =>
    refine ⟨u, v, g, hq, by simp only [toPt, if_true, Pt.far_add], ?_⟩
    unfold impl_Curve_sum.f
    simp only [if_true]
    exact Ev.now _
  | false =>
    cases g with
    | true =>
      refine ⟨x, y, false, hp, by simp only [toPt, if_true, Bool.false_eq_true, if_false, Pt.add_far], ?_⟩
      unfold impl_Curve_sum.f
      simp only [if_true, Bool.false_eq_true, if_false]
      exact Ev.now _
    | false =>
      have wy : Int.tmod (wrap64 (y + v)) p = (y + v) % p := by
        have := hp.y0; have := hp.y1; have := hq.y0; have := hq.y1
        rw [w64 (by omega) (by omega), Int.tmod_eq_emod_of_nonneg (by omega)]
      by_cases hn : x = u ∧ (y + v) % p = 0
      · refine ⟨0, 0, true, CPt.zero (by omega), cpt_opp hp hq hn, ?_⟩
        unfold impl_Curve_sum.f
        simp only [Bool.false_eq_true, if_false, if_pos hn.1, if_neg (show ¬ p = 0 by omega), wy, if_pos hn.2]
        exact Ev.now _
      · -- the last step, at a slope's two parts
        have tail : ∀ nu de i bi : Int, True → (toF de : K.F) ≠ 0 → (∀ l : Int, ∀ i : Int, (toF i : K.F) = (toF de)⁻¹ → (toF l : K.F) = toF nu * toF i → (toF l : K.F) = slope (toF a) (toF x) (toF y) (toF u) (toF v)) →
            ∃ r s t, CPt p a b K r s t ∧ toPt K r s t = Pt.add (toF a) (toPt K x y false) (toPt K u v false) ∧ Ev (fun k => impl_Curve_sum.j1 k nu de p a b n gx gy x y false u v false) (r, s, t) := by
          intro nu de _ _ _ hne hsl
          obtain ⟨i, bi, i1, e1⟩ := implInv_eq de (m := p) (by omega) (by omega)
          obtain ⟨_, i0, i2, ti⟩ := inv_of K h.prm i1 hne
          have mn := md (x := nu) p1
          have wl := mulm p1 hhi mn.1 mn.2 (Int.le_of_lt i0) i2
          have ml := md (x := nu % p * i) p1
          have hl : (toF (nu % p * i % p) : K.F) = toF nu * toF i := by simp only [K.emod, toF_mul]
          have hs := hsl _ _ ti hl
          obtain ⟨c1, c2⟩ := cpt_third hp hq (by omega) hn hs
          generalize hL : nu % p * i % p = L at *
          obtain ⟨t1, t2⟩ := third_arith p1 hhi ml.1 ml.2 hp.x0 hp.x1 hp.y0 hp.y1 hq.x0 hq.x1
          have mr := md (x := L * L - x - u) p1
          refine ⟨_, _, _, c1, c2, Ev.step (fun k => by rw [impl_Curve_sum.j1]) ?_⟩
          refine Ev.bind e1 ?_
          simp only
          rw [rest_eq (by clear wl wy; omega) (by clear wl wy; omega)]
          simp only [Option.bind_some, if_neg (show ¬ p = 0 by clear wl wy; omega)]
          rw [wl, t1, rest_eq (by clear wl wy; omega) (by clear wl wy; omega)]
          simp only [Option.bind_some]
          rw [t2 _ mr.1 mr.2, rest_eq (by clear wl wy; omega) (by clear wl wy; omega)]
          exact Ev.now _
        obtain ⟨r, s, t, h1, h2, h3⟩ : ∃ r s t, CPt p a b K r s t ∧ toPt K r s t = Pt.add (toF a) (toPt K x y false) (toPt K u v false) ∧ Ev (fun k => impl_Curve_sum.j0 k p a b n gx gy x y false u v false) (r, s, t) := by
          by_cases e : x = u
          · obtain ⟨ey, hne⟩ := dbl_ne hp hq hn e
            obtain ⟨r, s, t, h1, h2, h3⟩ := tail (3 * x * x + a) (2 * y) 0 0 trivial hne (fun l i hi hl => slope_dbl (v := v) (a := a) e hi (by
              have e3 : (toF 3 : K.F) = 3 := toF_nat 3
              rw [hl]
              simp only [toF_mul, toF_add, e3]))
            refine ⟨r, s, t, h1, h2, Ev.step (fun k => by rw [impl_Curve_sum.j0]) ?_⟩
            have x0 := hp.x0
            have x1 := hp.x1
            have y0 := hp.y0
            have y1 := hp.y1
            have a0 := h.a0
            have a1 := h.a1
            obtain ⟨q1, q2⟩ := mm p1 hhi x0 x1 x0 x1
            have e4 : 3 * x * x = 3 * (x * x) := Int.mul_assoc ..
            have w3 : wrap64 (3 * x) = 3 * x := w64 (by clear wy; omega) (by clear wy; omega)
            have w4 : wrap64 (3 * x * x) = 3 * x * x := w64 (by clear wy w3; omega) (by clear wy w3; omega)
            have w5 : wrap64 (3 * x * x + a) = 3 * x * x + a := w64 (by clear wy w3 w4; omega) (by clear wy w3 w4; omega)
            have w6 : wrap64 (2 * y) = 2 * y := w64 (by clear wy w3 w4 w5; omega) (by clear wy w3 w4 w5; omega)
            have hb : (x == u && (y == v && (false == false))) = true := by simp [e, ey]
            simp only [hb, if_true, w3, w4, w5, w6]
            exact h3
          · have hne := chord_ne hp hq e
            obtain ⟨r, s, t, h1, h2, h3⟩ := tail (v - y) (u - x) 0 0 trivial hne (fun l i hi hl => slope_chord (a := a) hp hq e hi hl)
            refine ⟨r, s, t, h1, h2, Ev.step (fun k => by rw [impl_Curve_sum.j0]) ?_⟩
            have x0 := hp.x0
            have x1 := hp.x1
            have y0 := hp.y0
            have y1 := hp.y1
            have v0 := hq.y0
            have v1 := hq.y1
            have u0 := hq.x0
            have u1 := hq.x1
            have w1 : wrap64 (v - y) = v - y := w64 (by clear wy; omega) (by clear wy; omega)
            have w2 : wrap64 (u - x) = u - x := w64 (by clear wy w1; omega) (by clear wy w1; omega)
            have hb : (x == u && (y == v && (false == false))) = false := by simp [e]
            simp only [hb, Bool.false_eq_true, if_false, w1, w2]
            exact h3
        refine ⟨r, s, t, h1, h2, ?_⟩
        unfold impl_Curve_sum.f
        by_cases e : x = u
        · simp only [Bool.false_eq_true, if_false, if_pos e, if_neg (show ¬ p = 0 by clear wy; omega), wy, if_neg (fun t => hn ⟨e, t⟩)]
          exact h3
        · simp only [Bool.false_eq_true, if_false, if_neg e]
          exact h3

theorem implTimes_loop {p a b o gx gy x y : Int} {f : Bool} (h : CNum p a b) (K : Fld p) (hp : CPt p a b K x y f) (E : Nat) (hE : E < 9223372036854775808) : ∀ (n : Nat) (u v : Int) (g : Bool), n ≤ 64 → CPt p a b K u v g →
    toPt K u v g = (h.grp K).smul (E / 2 ^ n) (toPt K x y f) →
    ∃ r s t, CPt p a b K r s t ∧ toPt K r s t = (h.grp K).smul E (toPt K x y f) ∧ Ev (fun k => impl_Curve_times.l0 k (E : Int) ((n : Int) - 1) p a b o gx gy x y f u v g) (r, s, t) := by
  intro n
  induction n with
  | zero =>
    intro u v g _ hq e
    refine ⟨u, v, g, hq, by rw [e, Nat.pow_zero, Nat.div_one], Ev.step (fun k => by rw [impl_Curve_times.l0]) ?_⟩
    simp only [if_neg (show ¬ ((0 : Nat) : Int) - 1 ≥ 0 by omega)]
    exact Ev.now _
  | succ n ih =>
    intro u v g hn hq e
    have st := div_step E n
    obtain ⟨u2, v2, g2, hq2, f2, e2⟩ := implSum_eq (n := o) (gx := gx) (gy := gy) h K hq hq
    have sh : shr .i64 (E : Int) (n : Int) = ((E / 2 ^ n : Nat) : Int) := by
      unfold shr
      rw [Int.toNat_natCast, Nat.min_eq_left (by simp [IntKind.bits]; omega), ← two_pow_int]
      exact (Int.natCast_ediv _ _).symm
    have le : E / 2 ^ n ≤ E := Nat.div_le_self _ _
    have an := and1 (x := ((E / 2 ^ n : Nat) : Int)) (by omega) (by clear st; omega)
    have q0 : ((n + 1 : Nat) : Int) - 1 = (n : Int) := by clear sh an; omega
    have q1 : (n : Int) ≥ 0 := by clear sh an; omega
    have q3 : 0 ≤ (n : Int) := by clear sh an; omega
    have q4 : wrap64 ((n : Int) - 1) = (n : Int) - 1 := by clear sh an; exact w64 (by omega) (by omega)
    rcases Nat.mod_two_eq_zero_or_one (E / 2 ^ n) with hb | hb
    · obtain ⟨r, s, t, hr, fr, er⟩ := ih u2 v2 g2 (by clear sh an q4; omega) hq2 (by
        rw [f2, e, st, hb, Nat.add_zero]
        exact (h.grp K).step_up (p := toPt K x y f) hp.pt _)
      refine ⟨r, s, t, hr, fr, Ev.step (fun k => by rw [impl_Curve_times.l0]) ?_⟩
      simp only [q0, if_pos q1, if_pos q3, sh, an, q4, if_neg (show ¬ ((E / 2 ^ n : Nat) : Int) % 2 = 1 by clear sh an q4; omega)]
      exact Ev.bind e2 er
    · obtain ⟨u3, v3, g3, hq3, f3, e3⟩ := implSum_eq (n := o) (gx := gx) (gy := gy) h K hq2 hp
      obtain ⟨r, s, t, hr, fr, er⟩ := ih u3 v3 g3 (by clear sh an q4; omega) hq3 (by
        rw [f3, f2, e, st, hb]
        exact (h.grp K).step_up1 (p := toPt K x y f) hp.pt _)
      refine ⟨r, s, t, hr, fr, Ev.step (fun k => by rw [impl_Curve_times.l0]) ?_⟩
      simp only [q0, if_pos q1, if_pos q3, sh, an, q4, if_pos (show ((E / 2 ^ n : Nat) : Int) % 2 = 1 by clear sh an q4; omega)]
      exact Ev.bind e2 (Ev.bind e3 er)

theorem implTimes_eq {p a b o gx gy n x y : Int} {f : Bool} (h : CNum p a b) (K : Fld p) (hn : 0 ≤ n) (hn' : n ≤ 9223372036854775807) (hp : CPt p a b K x y f) :
    ∃ r s t, CPt p a b K r s t ∧ toPt K r s t = (h.grp K).smul n.toNat (toPt K x y f) ∧ Ev (fun k => impl_Curve_times.f k p a b o gx gy n x y f) (r, s, t) := by
  obtain ⟨E, rfl⟩ : ∃ E : Nat, n = E := ⟨n.toNat, by omega⟩
  have hl := bl_le (n := E) (k := 64) (by omega)
  obtain ⟨r, s, t, hr, fr, er⟩ := implTimes_loop (o := o) (gx := gx) (gy := gy) h K hp E (by omega) (bl E) 0 0 true hl (CPt.zero (by have := h.lo; omega)) (by
    rw [Nat.div_eq_of_lt (bl_lt E)]
    rfl)
  refine ⟨r, s, t, hr, by rw [fr, Int.toNat_natCast], ?_⟩
  unfold impl_Curve_times.f
  rw [u64w hn (by omega)]
  refine Ev.bind (len_eq hn (by omega)) ?_
  rw [Int.toNat_natCast, w64 (by omega) (by omega)]
  exact er

/-- The test on a point, with no field in sight. -/
def onCur (p a b x y : Int) (f : Bool) : Bool := if f = true then decide (x = 0 ∧ y = 0) else decide (0 ≤ x ∧ x ≤ p - 1) && decide (0 ≤ y ∧ y ≤ p - 1) && decide (y * y % p = ((x * x % p + a) * x + b) % p)

theorem onCur_iff {p a b x y : Int} {f : Bool} (hp : 0 < p) (K : Fld p) : onCur p a b x y f = true ↔ CPt p a b K x y f := by
  unfold onCur
  cases f with
  | true =>
    simp only [if_true, decide_eq_true_iff]
    constructor
    · rintro ⟨rfl, rfl⟩; exact CPt.zero hp
    · intro h; exact h.far rfl
  | false =>
    simp only [Bool.false_eq_true, if_false]
    rw [Bool.and_eq_true, Bool.and_eq_true, decide_eq_true_iff, decide_eq_true_iff, decide_eq_true_iff]
    have key : y * y % p = ((x * x % p + a) * x + b) % p ↔ On (toF a : K.F) (toF b) (toF x) (toF y) := by
      unfold On
      have e1 : (toF (y * y % p) : K.F) = toF y * toF y := by simp only [K.emod, toF_mul]
      have e2 : (toF (((x * x % p + a) * x + b) % p) : K.F) = toF x * toF x * toF x + toF a * toF x + toF b := by simp only [K.emod, toF_mul, toF_add]; grind
      rw [← e1, ← e2]
      constructor
      · intro k; rw [k]
      · intro k
        have b1 := md (x := y * y) (p := p) (by omega)
        have b2 := md (x := (x * x % p + a) * x + b) (p := p) (by omega)
        exact K.inj b1.1 b1.2 b2.1 b2.2 k
    rw [key]
    constructor
    · rintro ⟨⟨⟨a1, b1⟩, c1, e1⟩, f1⟩; exact ⟨fun k => (by cases k), a1, by omega, c1, by omega, fun _ => f1⟩
    · rintro ⟨_, a1, b1, c1, e1, f1⟩; exact ⟨⟨⟨a1, by omega⟩, c1, by omega⟩, f1 rfl⟩

theorem on_arith {p a b x y : Int} (K : Fld p) (hlo : 5 ≤ p) (hhi : p ≤ 1048576) (a0 : 0 ≤ a) (a1 : a < p) (b0 : 0 ≤ b) (b1 : b < p) (x0 : 0 ≤ x) (x1 : x ≤ p - 1) (y0 : 0 ≤ y) (y1 : y ≤ p - 1) :
    Int.tmod (wrap64 (y * y)) p = y * y % p ∧
    Int.tmod (wrap64 (wrap64 (wrap64 (Int.tmod (wrap64 (x * x)) p + a) * x) + b)) p = ((x * x % p + a) * x + b) % p ∧
    Int.tmod (wrap64 (wrap64 (Int.tmod (wrap64 (wrap64 (x * x) + a)) p * x) + b)) p = ((x * x % p + a) * x + b) % p := by
  have p1 : 1 ≤ p := by omega
  have m1 := md (x := x * x) p1
  have m2 := md (x := x * x + a) p1
  obtain ⟨h1, h2⟩ := mm p1 hhi x0 (by omega) x0 (by omega)
  obtain ⟨h3, h4⟩ := mm p1 hhi m1.1 m1.2 x0 (by omega)
  obtain ⟨h5, h6⟩ := mm p1 hhi a0 a1 x0 (by omega)
  obtain ⟨h7, h8⟩ := mm p1 hhi m2.1 m2.2 x0 (by omega)
  have e : (x * x % p + a) * x = x * x % p * x + a * x := Int.add_mul ..
  have same : ((x * x + a) % p * x + b) % p = ((x * x % p + a) * x + b) % p := by
    have k1 := md (x := (x * x + a) % p * x + b) p1
    have k2 := md (x := (x * x % p + a) * x + b) p1
    refine K.inj k1.1 k1.2 k2.1 k2.2 ?_
    simp only [K.emod, toF_mul, toF_add]
  refine ⟨mulm p1 hhi y0 (by omega) y0 (by omega), ?_, ?_⟩
  · rw [mulm p1 hhi x0 (by omega) x0 (by omega), w64 (n := x * x % p + a) (by omega) (by omega), w64 (n := (x * x % p + a) * x) (by omega) (by omega), w64 (by omega) (by omega), Int.tmod_eq_emod_of_nonneg (by omega)]
  · rw [w64 (n := x * x) (by omega) (by omega), w64 (n := x * x + a) (by omega) (by omega), Int.tmod_eq_emod_of_nonneg (a := x * x + a) (by omega), w64 (n := (x * x + a) % p * x) (by omega) (by omega), w64 (by omega) (by omega), Int.tmod_eq_emod_of_nonneg (by omega), same]

theorem implOn_eq {p a b n gx gy x y : Int} {f : Bool} (K : Fld p) (hlo : 5 ≤ p) (hhi : p ≤ 1048576) (a0 : 0 ≤ a) (a1 : a < p) (b0 : 0 ≤ b) (b1 : b < p) : impl_Curve_isPoint.f p a b n gx gy x y f = some (onCur p a b x y f) := by
  unfold impl_Curve_isPoint.f onCur
  cases f with
  | true =>
    simp only [if_true]
    by_cases hx : x = 0
    · by_cases hy : y = 0 <;> simp [hx, hy]
    · simp [hx]
  | false =>
    simp only [Bool.false_eq_true, if_false]
    rw [w64 (n := p - 1) (by omega) (by omega)]
    simp only [within_eq, Option.bind_some]
    by_cases hx : 0 ≤ x ∧ x ≤ p - 1
    · simp only [hx.1, hx.2, and_self, decide_true, if_true, Bool.true_and]
      by_cases hy : 0 ≤ y ∧ y ≤ p - 1
      · simp only [hy.1, hy.2, and_self, decide_true, if_true, Bool.true_and, if_neg (show ¬ p = 0 by omega)]
        obtain ⟨q1, q2, q3⟩ := on_arith K hlo hhi a0 a1 b0 b1 hx.1 hx.2 hy.1 hy.2
        rw [q1, q3]
        rfl
      · simp only [hy, decide_false, Bool.false_and]
        rfl
    · simp only [hx, decide_false, Bool.false_and]
      rfl

/-- A right curve: what is asked ahead of the multiple. -/
structure CurPre (p a b n : Int) : Prop where
  num : CNum p a b
  n0 : 5 ≤ n
  n1 : n ≤ 2097152
  four : p % 4 = 3


theorem specOn_eq {p a b n gx gy x y : Int} {f : Bool} (K : Fld p) (hlo : 5 ≤ p) (hhi : p ≤ 1048576) (a0 : 0 ≤ a) (a1 : a < p) (b0 : 0 ≤ b) (b1 : b < p) : spec_l3On.f p a b n gx gy x y f = some (onCur p a b x y f) := by
  unfold spec_l3On.f onCur
  cases f with
  | true =>
    simp only [if_true]
    by_cases hx : x = 0
    · by_cases hy : y = 0 <;> simp [hx, hy]
    · simp [hx]
  | false =>
    simp only [Bool.false_eq_true, if_false]
    rw [w64 (n := p - 1) (by omega) (by omega)]
    simp only [in_eq, Option.bind_some]
    by_cases hx : 0 ≤ x ∧ x ≤ p - 1
    · simp only [hx.1, hx.2, and_self, decide_true, if_true, Bool.true_and]
      by_cases hy : 0 ≤ y ∧ y ≤ p - 1
      · simp only [hy.1, hy.2, and_self, decide_true, if_true, Bool.true_and, if_neg (show ¬ p = 0 by omega)]
        obtain ⟨q1, q2, q3⟩ := on_arith K hlo hhi a0 a1 b0 b1 hx.1 hx.2 hy.1 hy.2
        rw [q1, q2]
        rfl
      · simp only [hy, decide_false, Bool.false_and]
        rfl
    · simp only [hx, decide_false, Bool.false_and]
      rfl

theorem disc_arith {p a b : Int} (K : Fld p) (hlo : 5 ≤ p) (hhi : p ≤ 1048576) (a0 : 0 ≤ a) (a1 : a < p) (b0 : 0 ≤ b) (b1 : b < p) :
    Int.tmod (wrap64 ((wrap64 ((wrap64 (4 * (Int.tmod (wrap64 (a * a)) p))) * a)) + (wrap64 (27 * (Int.tmod (wrap64 (b * b)) p))))) p = (4 * (a * a % p) * a + 27 * (b * b % p)) % p ∧
    Int.tmod (wrap64 ((wrap64 ((Int.tmod (wrap64 ((wrap64 (4 * a)) * a)) p) * a)) + (wrap64 ((wrap64 (27 * b)) * b)))) p = (4 * (a * a % p) * a + 27 * (b * b % p)) % p := by
  have p1 : 1 ≤ p := by omega
  have m1 := md (x := a * a) p1
  have m2 := md (x := b * b) p1
  have m3 := md (x := 4 * a * a) p1
  obtain ⟨h1, h2⟩ := mm p1 hhi a0 a1 a0 a1
  obtain ⟨h3, h4⟩ := mm p1 hhi b0 b1 b0 b1
  obtain ⟨h5, h6⟩ := mm p1 hhi m1.1 m1.2 a0 a1
  obtain ⟨h7, h8⟩ := mm p1 hhi m3.1 m3.2 a0 a1
  have e1 : 4 * (a * a % p) * a = 4 * (a * a % p * a) := Int.mul_assoc ..
  have e2 : 4 * a * a = 4 * (a * a) := Int.mul_assoc ..
  have e3 : 27 * b * b = 27 * (b * b) := Int.mul_assoc ..
  have same : (4 * a * a % p * a + 27 * b * b) % p = (4 * (a * a % p) * a + 27 * (b * b % p)) % p := by
    have k1 := md (x := 4 * a * a % p * a + 27 * b * b) p1
    have k2 := md (x := 4 * (a * a % p) * a + 27 * (b * b % p)) p1
    refine K.inj k1.1 k1.2 k2.1 k2.2 ?_
    simp only [K.emod, toF_mul, toF_add]
    grind
  constructor
  · rw [mulm p1 hhi a0 a1 a0 a1, mulm p1 hhi b0 b1 b0 b1, w64 (n := 4 * (a * a % p)) (by omega) (by omega), w64 (n := 4 * (a * a % p) * a) (by omega) (by omega), w64 (n := 27 * (b * b % p)) (by omega) (by omega), w64 (by omega) (by omega), Int.tmod_eq_emod_of_nonneg (by omega)]
  · rw [w64 (n := 4 * a) (by omega) (by omega), w64 (n := 4 * a * a) (by omega) (by omega), Int.tmod_eq_emod_of_nonneg (a := 4 * a * a) (by omega), w64 (n := 4 * a * a % p * a) (by omega) (by omega), w64 (n := 27 * b) (by omega) (by omega), w64 (n := 27 * b * b) (by omega) (by omega), w64 (by omega) (by omega), Int.tmod_eq_emod_of_nonneg (by omega), same]

theorem both_cur (p a b n gx gy : Int) (hn : -9223372036854775808 ≤ n ∧ n ≤ 9223372036854775807) : ∃ r, Ev (fun k => spec_CurveOk.f k p a b n gx gy) r ∧ Ev (fun k => impl_CurveOk.f k p a b n gx gy) r ∧
    (r = true → CurPre p a b n ∧ ∀ K : Fld p, CPt p a b K gx gy false) := by
  have sj : Ev (fun k => spec_CurveOk.j0 k true p a b n gx gy) false := Ev.step (fun k => by rw [spec_CurveOk.j0]) (by simp only [if_true]; exact Ev.now _)
  have ij : Ev (fun k => impl_CurveOk.j0 k true p a b n gx gy) false := Ev.step (fun k => by rw [impl_CurveOk.j0]) (by simp only [if_true]; exact Ev.now _)
  have ij1 : Ev (fun k => impl_CurveOk.j1 k true p a b n gx gy) false := Ev.step (fun k => by rw [impl_CurveOk.j1]) (by simp only [if_true]; exact Ev.now _)
  unfold spec_CurveOk.f impl_CurveOk.f
  simp only [in_eq, within_eq, Option.bind_some]
  by_cases hp : 5 ≤ p ∧ p ≤ 1048576
  · have hlo := hp.1
    have hhi := hp.2
    have w1 : wrap64 (p - 1) = p - 1 := w64 (by omega) (by omega)
    have t4 : Int.tmod p 4 = p % 4 := Int.tmod_eq_emod_of_nonneg (by clear w1; omega)
    simp only [hp.1, hp.2, and_self, decide_true, if_true, w1, t4]
    clear t4
    by_cases h4 : p % 4 = 3
    · simp only [if_pos h4]
      obtain ⟨bp, bp1, bp2, sp, ip⟩ := primes_eq p
      obtain ⟨bq, bq1, bq2, sq, iq⟩ := primes_eq n
      by_cases ha : 0 ≤ a ∧ a ≤ p - 1
      · by_cases hb : 0 ≤ b ∧ b ≤ p - 1
        · by_cases hl : 5 ≤ n ∧ n ≤ 2097152
          · simp only [ha.1, ha.2, hb.1, hb.2, hl.1, hl.2, and_self, decide_true, if_true]
            cases bp with
            | false =>
              refine ⟨false, Ev.bind sp ?_, Ev.bind ip ?_, fun k => by cases k⟩
              · simpa using sj
              · simpa using ij
            | true =>
              cases bq with
              | false =>
                refine ⟨false, Ev.bind sp ?_, Ev.bind ip ?_, fun k => by cases k⟩
                · simp only [if_true]
                  exact Ev.bind sq (by simpa using sj)
                · simp only [if_true]
                  exact Ev.bind iq (by simpa using ij)
              | true =>
                have hP := bp1 rfl
                obtain ⟨K⟩ := fldOf_exists hP
                have a1 : a < p := by clear w1; omega
                have b1 : b < p := by clear w1; omega
                obtain ⟨d1, d2⟩ := disc_arith K hlo hhi ha.1 a1 hb.1 b1
                have so := specOn_eq (n := n) (gx := gx) (gy := gy) (x := gx) (y := gy) (f := false) K hlo hhi ha.1 a1 hb.1 b1
                have io := implOn_eq (n := n) (gx := gx) (gy := gy) (x := gx) (y := gy) (f := false) K hlo hhi ha.1 a1 hb.1 b1
                have pn : ¬ p = 0 := by clear w1 d1 d2; omega
                obtain ⟨r, e1, e2, hr⟩ : ∃ r, Ev (fun k => spec_CurveOk.j0 k false p a b n gx gy) r ∧ Ev (fun k => impl_CurveOk.j0 k false p a b n gx gy) r ∧ (r = true → CNum p a b ∧ onCur p a b gx gy false = true) := by
                  by_cases hd : (4 * (a * a % p) * a + 27 * (b * b % p)) % p = 0
                  · refine ⟨false, Ev.step (fun k => by rw [spec_CurveOk.j0]) ?_, Ev.step (fun k => by rw [impl_CurveOk.j0]) ?_, fun k => by cases k⟩
                    · simp only [Bool.false_eq_true, if_false, if_neg pn, d1, hd, if_true]
                      exact Ev.now _
                    · simp only [Bool.false_eq_true, if_false, if_neg pn, d2, hd, if_true]
                      exact ij1
                  · have hN : CNum p a b := ⟨hP, hlo, hhi, ha.1, a1, hb.1, b1, hd⟩
                    cases ho : onCur p a b gx gy false with
                    | false =>
                      refine ⟨false, Ev.step (fun k => by rw [spec_CurveOk.j0]) ?_, Ev.step (fun k => by rw [impl_CurveOk.j0]) ?_, fun k => by cases k⟩
                      · simp only [Bool.false_eq_true, if_false, if_neg pn, d1, if_neg hd, so, ho, Option.bind_some]
                        exact Ev.now _
                      · simp only [Bool.false_eq_true, if_false, if_neg pn, d2, if_neg hd, impl_Curve_base.f, io, ho, Option.bind_some]
                        exact ij1
                    | true =>
                      have hb' := (onCur_iff (by clear w1 d1 d2; omega) K).1 ho
                      obtain ⟨r, s, t, hr, fr, er⟩ := specTimes_eq (o := n) (gx := gx) (gy := gy) (n := n) hN K (by clear w1 d1 d2; omega) hn.2 hb'
                      obtain ⟨r', s', t', hr', fr', er'⟩ := implTimes_eq (o := n) (gx := gx) (gy := gy) (n := n) hN K (by clear w1 d1 d2; omega) hn.2 hb'
                      obtain ⟨rfl, rfl, rfl⟩ := hr.same hr' (by rw [fr, fr'])
                      refine ⟨t, Ev.step (fun k => by rw [spec_CurveOk.j0]) ?_, Ev.step (fun k => by rw [impl_CurveOk.j0]) ?_, fun _ => ⟨hN, rfl⟩⟩
                      · simp only [Bool.false_eq_true, if_false, if_neg pn, d1, if_neg hd, so, ho, Option.bind_some, if_true]
                        exact Ev.bind er (Ev.now _)
                      · simp only [Bool.false_eq_true, if_false, if_neg pn, d2, if_neg hd, impl_Curve_base.f, io, ho, Option.bind_some, Bool.not_true]
                        refine Ev.step (fun k => by rw [impl_CurveOk.j1]) ?_
                        simp only [Bool.false_eq_true, if_false, impl_Curve_base.f, Option.bind_some]
                        exact Ev.bind er' (Ev.now _)
                refine ⟨r, Ev.bind sp ?_, Ev.bind ip ?_, fun k => ⟨⟨(hr k).1, hl.1, hl.2, h4⟩, fun K' => (onCur_iff (by clear w1 d1 d2; omega) K').1 (hr k).2⟩⟩
                · simp only [if_true]
                  exact Ev.bind sq (by simpa using e1)
                · simp only [if_true]
                  exact Ev.bind iq (by simpa using e2)
          · refine ⟨false, Ev.bind sp ?_, ?_, fun k => by cases k⟩
            · cases bp with
              | false => simpa using sj
              | true => simp only [if_true, ha.1, ha.2, hb.1, hb.2, and_self, decide_true, hl, decide_false]; simpa using sj
            · simp only [ha.1, ha.2, hb.1, hb.2, and_self, decide_true, if_true, hl, decide_false]
              simpa using ij
        · refine ⟨false, Ev.bind sp ?_, ?_, fun k => by cases k⟩
          · cases bp with
            | false => simpa using sj
            | true => simp only [if_true, ha.1, ha.2, and_self, decide_true, hb, decide_false]; simpa using sj
          · simp only [ha.1, ha.2, and_self, decide_true, if_true, hb, decide_false]
            simpa using ij
      · refine ⟨false, Ev.bind sp ?_, ?_, fun k => by cases k⟩
        · cases bp with
          | false => simpa using sj
          | true => simp only [if_true, ha, decide_false]; simpa using sj
        · simp only [ha, decide_false]
          simpa using ij
    · simp only [if_neg h4]
      exact ⟨false, sj, ij, fun k => by cases k⟩
  · simp only [hp, decide_false]
    exact ⟨false, by simpa using sj, by simpa using ij, fun k => by cases k⟩

theorem or_comm' (k : IntKind) (x y : Int) : Go.bits .or k x y = Go.bits .or k y x := by
  unfold Go.bits
  simp only [BitVec.or_comm]

/-- What has no bit in common is joined by a sum. -/
theorem orI {x y : Int} (i : Nat) (hi : i ≤ 60) (x0 : 0 ≤ x) (hx : x % 2 ^ i = 0) (x1 : x < 1152921504606846976) (y0 : 0 ≤ y) (hy : y < 2 ^ i) : Go.bits .or .i64 x y = x + y := by
  have h2 : (2 : Int) ^ i ≤ 2 ^ 60 := by
    have := Nat.pow_le_pow_right (show 0 < 2 by omega) hi
    rw [← two_pow_int, ← two_pow_int]
    exact_mod_cast this
  have e60 : (2 : Int) ^ 60 = 1152921504606846976 := by decide
  exact bits_join .i64 63 (by decide) (fun n a b => by rw [IntKind.wrap_i64]; omega) i x y x0 hx (by omega) y0 hy (by omega)

theorem strOf_inj {a b : List Int} (ha : ∀ x ∈ a, 0 ≤ x ∧ x ≤ 255) (hb : ∀ x ∈ b, 0 ≤ x ∧ x ≤ 255) : (strOfNums a).toList = (strOfNums b).toList ↔ a = b := by
  constructor
  · intro h
    have h2 : (strOfNums a).data.toList = (strOfNums b).data.toList := by
      rw [Go.ByteArray.toList_eq, Go.ByteArray.toList_eq] at h
      exact h
    rw [strOfNums_data, strOfNums_data] at h2
    apply List.ext_getElem (by have := congrArg List.length h2; simpa using this)
    intro i h3 h4
    have h5 := List.getElem_of_eq h2 (i := i) (by simpa using h3)
    simp only [List.getElem_map] at h5
    have b1 := ha _ (List.getElem_mem h3)
    have b2 := hb _ (List.getElem_mem h4)
    have h6 := congrArg UInt8.toNat h5
    simp only [UInt8.toNat_ofNat'] at h6
    omega
  · intro h; rw [h]

theorem bytesEqual_eq {a b : List Int} (ha : ∀ x ∈ a, 0 ≤ x ∧ x ≤ 255) (hb : ∀ x ∈ b, 0 ≤ x ∧ x ≤ 255) : bytes_Equal.f a b = some (decide (a = b)) := by
  unfold bytes_Equal.f
  congr 1
  rw [Bool.eq_iff_iff]
  simp only [beq_iff_eq, decide_eq_true_iff]
  exact strOf_inj ha hb

/-- The roots of a number by a prime. -/
theorem two_roots {p x z : Int} (hp : Prm p) (x0 : 0 ≤ x) (x1 : x < p) (z0 : 0 ≤ z) (z1 : z < p) (h : x * x % p = z * z % p) : z = x ∨ z + x = p ∨ (z = 0 ∧ x = 0) := by
  have hd : p ∣ (x - z) * (x + z) := by
    have e : (x - z) * (x + z) = x * x - z * z := by grind
    rw [e]
    exact Int.dvd_of_emod_eq_zero (by rw [Int.sub_emod, h, Int.sub_self, Int.zero_emod])
  rcases hp.mul hd with k | k
  · left
    have := Int.eq_zero_of_dvd_of_natAbs_lt_natAbs k (by omega)
    omega
  · right
    obtain ⟨c, hc⟩ := k
    have : c = 0 ∨ c = 1 := by
      rcases Int.lt_or_le c 0 with k1 | k1
      · exfalso
        have : p * c ≤ p * (-1) := Int.mul_le_mul_of_nonneg_left (by omega) (by omega)
        omega
      · rcases Int.lt_or_le 1 c with k2 | k2
        · exfalso
          have : p * 2 ≤ p * c := Int.mul_le_mul_of_nonneg_left (by omega) (by omega)
          omega
        · omega
    rcases this with rfl | rfl
    · right; omega
    · left; omega

theorem neg_mod {p x : Int} (x0 : 0 < x) (x1 : x < p) : (-x) % p = p - x := by
  have : -x = (p - x) + p * (-1) := by omega
  rw [this, Int.add_mul_emod_self_left, Int.emod_eq_of_lt (by omega) (by omega)]


theorem readThree {a b c : Int} (a0 : 0 ≤ a) (a1 : a ≤ 255) (b0 : 0 ≤ b) (b1 : b ≤ 255) (c0 : 0 ≤ c) (c1 : c ≤ 255) : spec_l3Read.f [a, b, c] = some (a * 65536 + b * 256 + c) := by
  have r0 : rd [a, b, c] 0 = a := rfl
  have r1 : rd [a, b, c] 1 = b := rfl
  have r2 : rd [a, b, c] 2 = c := rfl
  unfold spec_l3Read.f
  rw [if_pos (by simp), if_pos (by simp), if_pos (by simp), r0, r1, r2, w64 (n := a) (by omega) (by omega), w64 (n := b) (by omega) (by omega), w64 (n := c) (by omega) (by omega), w64 (n := a * 65536) (by omega) (by omega), w64 (n := b * 256) (by omega) (by omega), w64 (n := a * 65536 + b * 256) (by omega) (by omega), w64 (by omega) (by omega)]

theorem ofThree {a b c : Int} {l : List Int} (a0 : 0 ≤ a) (a1 : a ≤ 255) (b0 : 0 ≤ b) (b1 : b ≤ 255) (c0 : 0 ≤ c) (c1 : c ≤ 255) : impl_ofThree.f (a :: b :: c :: l) = some (a * 65536 + b * 256 + c) := by
  have r0 : rd (a :: b :: c :: l) 0 = a := rfl
  have r1 : rd (a :: b :: c :: l) 1 = b := rfl
  have r2 : rd (a :: b :: c :: l) 2 = c := rfl
  unfold impl_ofThree.f
  rw [if_pos (by simp only [List.length_cons]; omega), if_pos (by simp only [List.length_cons]; omega), if_pos (by simp only [List.length_cons]; omega), r0, r1, r2, w64 (n := a) (by omega) (by omega), w64 (n := b) (by omega) (by omega), w64 (n := c) (by omega) (by omega), w64 (n := a * 65536) (by omega) (by omega), w64 (n := b * 256) (by omega) (by omega),
    orI (x := a * 65536) (y := b * 256) 16 (by omega) (by omega) (by omega) (by omega) (by omega) (by omega), orI (x := a * 65536 + b * 256) (y := c) 8 (by omega) (by omega) (by omega) (by omega) (by omega) (by omega)]

theorem three_inv {X a b c : Int} (x0 : 0 ≤ X) (x1 : X < 16777216) (a0 : 0 ≤ a) (a1 : a ≤ 255) (b0 : 0 ≤ b) (b1 : b ≤ 255) (c0 : 0 ≤ c) (c1 : c ≤ 255) (h : X = a * 65536 + b * 256 + c) : X / 65536 % 256 = a ∧ X / 256 % 256 = b ∧ X % 256 = c := by omega

/-- A point's bytes. -/
def ptBytes (x y : Int) (f c : Bool) : List Int :=
  if f = true then [0] else if c = true then [2 + y % 2, x / 65536 % 256, x / 256 % 256, x % 256] else [4, x / 65536 % 256, x / 256 % 256, x % 256, y / 65536 % 256, y / 256 % 256, y % 256]

theorem implBytes_eq {x y : Int} {f c : Bool} (y0 : 0 ≤ y) : impl_pointBytes.f x y f c = some (ptBytes x y f c) := by
  unfold impl_pointBytes.f ptBytes impl_three.f
  have e : wrap64 (2 + Int.tmod y 2) % 256 = 2 + y % 2 := by
    rw [Int.tmod_eq_emod_of_nonneg y0, w64 (by omega) (by omega)]
    omega
  cases f with
  | true => simp
  | false =>
    cases c with
    | true =>
      simp only [Bool.false_eq_true, if_false, if_true, Option.bind_some, e]
      simp
    | false => simp

theorem ptBytes_byte {x y : Int} {f c : Bool} : ∀ z ∈ ptBytes x y f c, 0 ≤ z ∧ z ≤ 255 := by
  intro z hz
  unfold ptBytes at hz
  cases f with
  | true => simp at hz; omega
  | false =>
    cases c with
    | true =>
      simp only [Bool.false_eq_true, if_false, if_true, List.mem_cons, List.not_mem_nil, or_false] at hz
      rcases hz with rfl | rfl | rfl | rfl <;> omega
    | false =>
      simp only [Bool.false_eq_true, if_false, List.mem_cons, List.not_mem_nil, or_false] at hz
      rcases hz with rfl | rfl | rfl | rfl | rfl | rfl | rfl <;> omega

theorem onCur_nonneg {p a b x y : Int} {f : Bool} (h : onCur p a b x y f = true) : 0 ≤ x ∧ 0 ≤ y := by
  unfold onCur at h
  cases f with
  | true => simp at h; omega
  | false => simp at h; omega

/-- What stands behind the reading: the point is asked, and its bytes. -/
def readEnd (p a b x y : Int) (f : Bool) (bs : List Int) : Int × Int × Bool × Bool :=
  if onCur p a b x y f = true then (if ptBytes x y f ((bs.length : Int) == 4) = bs then (x, y, f, true) else (0, 0, false, false)) else (0, 0, false, false)

theorem implEnd {p a b n gx gy x y : Int} {f : Bool} {bs : List Int} (hb : ∀ x ∈ bs, 0 ≤ x ∧ x ≤ 255) (K : Fld p) (h : CNum p a b) : Ev (fun k => impl_Curve_pointRead.j0 k bs p a b n gx gy x y f) (readEnd p a b x y f bs) := by
  refine Ev.step (fun k => by rw [impl_Curve_pointRead.j0]) ?_
  simp only [implOn_eq K h.lo h.hi h.a0 h.a1 h.b0 h.b1, Option.bind_some]
  unfold readEnd
  by_cases h1 : onCur p a b x y f = true
  · simp only [if_pos h1, implBytes_eq (onCur_nonneg h1).2, Option.bind_some]
    rw [bytesEqual_eq ptBytes_byte hb]
    simp only [Option.bind_some]
    by_cases h2 : ptBytes x y f ((bs.length : Int) == 4) = bs
    · simp only [h2, decide_true, if_true]; exact Ev.now _
    · simp only [h2, decide_false, if_false, Bool.false_eq_true]; exact Ev.now _
  · simp only [if_neg h1]; exact Ev.now _

/-- A root by a prime that leaves 3 by 4. -/
theorem root_four {p W : Int} (hp : Prm p) (h4 : p % 4 = 3) (W0 : 0 ≤ W) (W1 : W < p) (hs : ∃ s, s * s % p = W) : (W ^ ((p + 1) / 4).toNat % p) * (W ^ ((p + 1) / 4).toNat % p) % p = W := by
  obtain ⟨K⟩ := fldOf_exists hp
  have hp2 := hp.1
  obtain ⟨s, hs⟩ := hs
  have hF : (toF s : K.F) * toF s = toF W := by rw [← toF_mul, ← K.emod, hs]
  have b := md (x := (W ^ ((p + 1) / 4).toNat % p) * (W ^ ((p + 1) / 4).toNat % p)) (p := p) (by omega)
  refine K.inj b.1 b.2 W0 W1 ?_
  rw [K.emod, toF_mul, K.emod, toF_pow, ← hF, ← pow_add', dbl_pow]
  have e : ((p + 1) / 4).toNat + ((p + 1) / 4).toNat + (((p + 1) / 4).toNat + ((p + 1) / 4).toNat) = (p - 1).toNat + 2 := by omega
  rw [e, pow_add']
  by_cases hz : (toF s : K.F) = 0
  · rw [hz, Lean.Grind.Semiring.pow_two]; grind
  · rw [K.fermat _ hz, Lean.Grind.Semiring.pow_two]; grind

theorem both_four (p a b n gx gy : Int) (hE : CurPre p a b n) (K : Fld p) {t a1 b1 c1 : Int} (hb : ∀ x ∈ [t, a1, b1, c1], 0 ≤ x ∧ x ≤ 255) (h4 : (([t, a1, b1, c1] : List Int).length : Int) = 4) :
    ∃ z, Ev (fun k => spec_l3Point.f k p a b n gx gy [t, a1, b1, c1]) z ∧ Ev (fun k => impl_Curve_pointRead.f k p a b n gx gy [t, a1, b1, c1]) z := by
  have hN := hE.num
  have hlo := hN.lo
  have hhi := hN.hi
  have f4 := hE.four
  have p1 : 1 ≤ p := by omega
  have fin := fun x y f => implEnd (n := n) (gx := gx) (gy := gy) (x := x) (y := y) (f := f) hb K hN
  have sOn := fun x y => specOn_eq (n := n) (gx := gx) (gy := gy) (x := x) (y := y) (f := false) K hN.lo hN.hi hN.a0 hN.a1 hN.b0 hN.b1
  obtain ⟨t0, t1⟩ := hb t (by simp)
  obtain ⟨p0, p2⟩ := hb a1 (by simp)
  obtain ⟨q0, q2⟩ := hb b1 (by simp)
  obtain ⟨r0, r2⟩ := hb c1 (by simp)
  have i1 : impl_ofThree.f (([t, a1, b1, c1] : List Int).drop 1) = some (a1 * 65536 + b1 * 256 + c1) := ofThree p0 p2 q0 q2 r0 r2
  have j1 : spec_l3Read.f ((([t, a1, b1, c1] : List Int).take 4).drop 1) = some (a1 * 65536 + b1 * 256 + c1) := readThree p0 p2 q0 q2 r0 r2
  obtain ⟨X, hX⟩ : ∃ X, a1 * 65536 + b1 * 256 + c1 = X := ⟨_, rfl⟩
  rw [hX] at i1 j1
  have x0 : 0 ≤ X := by omega
  obtain ⟨k1, k2, k3⟩ := three_inv (X := X) (by omega) (by omega) p0 p2 q0 q2 r0 r2 hX.symm
  have n1 : ¬ (([t, a1, b1, c1] : List Int).length : Int) = 1 := by simp
  have n7 : ¬ (([t, a1, b1, c1] : List Int).length : Int) = 7 := by simp
  have rt : rd [t, a1, b1, c1] 0 = t := rfl
  have l0 : 0 < (([t, a1, b1, c1] : List Int).length : Int) := by simp
  have l1 : 1 ≤ (([t, a1, b1, c1] : List Int).length : Int) := by simp
  have l4 : 4 ≤ (([t, a1, b1, c1] : List Int).length : Int) := by simp
  -- the second code up to its last part
  have up : ∀ z, Ev (fun k => spec_l3Point.j2 k [t, a1, b1, c1] (decide (t = 2 ∨ t = 3)) p a b n gx gy 0 0 false) z → Ev (fun k => spec_l3Point.f k p a b n gx gy [t, a1, b1, c1]) z := by
    intro z hz
    unfold spec_l3Point.f
    simp only [if_neg n1]
    refine Ev.step (fun k => by rw [spec_l3Point.j0]) ?_
    simp only [Bool.false_eq_true, if_false, if_neg n7]
    refine Ev.step (fun k => by rw [spec_l3Point.j1]) ?_
    simp only [Bool.false_eq_true, if_false, if_pos h4, if_pos l0, rt]
    by_cases e2 : t = 2
    · simp only [if_pos e2]
      simpa [e2] using hz
    · simp only [if_neg e2]
      have : (t == 3) = decide (t = 2 ∨ t = 3) := by
        by_cases e3 : t = 3 <;> simp [e2, e3]
      rw [this]
      exact hz
  have end_ : ∀ y, 0 ≤ y → readEnd p a b X y false [t, a1, b1, c1] = if onCur p a b X y false = true then (if 2 + y % 2 = t then (X, y, false, true) else (0, 0, false, false)) else (0, 0, false, false) := by
    intro y y0
    unfold readEnd
    have hc : (ptBytes X y false ((([t, a1, b1, c1] : List Int).length : Int) == 4) = [t, a1, b1, c1]) ↔ 2 + y % 2 = t := by
      unfold ptBytes
      simp only [Bool.false_eq_true, if_false, show ((([t, a1, b1, c1] : List Int).length : Int) == 4) = true by simp, if_true, k1, k2, k3, List.cons.injEq, and_true]
    simp only [hc]
  by_cases hge : X ≥ p
  · refine ⟨(0, 0, false, false), up _ (Ev.step (fun k => by rw [spec_l3Point.j2]) ?_), ?_⟩
    · by_cases ht : t = 2 ∨ t = 3
      · simp only [decide_eq_true ht, if_true, if_pos l4, if_pos (show (1 : Int) ≤ 4 by omega), j1, Option.bind_some, if_pos hge]
        exact Ev.now _
      · simp only [decide_eq_false ht, Bool.false_eq_true, if_false]
        exact Ev.now _
    · unfold impl_Curve_pointRead.f
      simp only [if_neg n1, if_neg n7, if_pos h4, if_pos l1, i1, Option.bind_some, if_pos hge]
      exact Ev.now _
  have x1 : X ≤ p - 1 := by omega
  have hnz : ¬ p = 0 := by omega
  obtain ⟨_, q5, q6⟩ := on_arith K hlo hhi hN.a0 hN.a1 hN.b0 hN.b1 x0 x1 (Int.le_refl 0) (show (0 : Int) ≤ p - 1 by omega)
  have Wb := md (x := (X * X % p + a) * X + b) p1
  obtain ⟨W, hW⟩ : ∃ W, ((X * X % p + a) * X + b) % p = W := ⟨_, rfl⟩
  rw [hW] at q5 q6 Wb
  have hon : ∀ y, onCur p a b X y false = true ↔ 0 ≤ y ∧ y ≤ p - 1 ∧ y * y % p = W := by
    intro y
    unfold onCur
    simp only [Bool.false_eq_true, if_false, hW, Bool.and_eq_true, decide_eq_true_iff, x0, x1, and_self, true_and, and_assoc]
  obtain ⟨r, bb, hr⟩ := rootIs_exists W (p := p) (by omega)
  have ri := implRoot_eq hN.prm (by omega) hhi Wb.1 Wb.2 hr
  have yb := md (x := W ^ ((p + 1) / 4).toNat) p1
  have sq := fun hs => root_four hN.prm f4 Wb.1 Wb.2 hs
  obtain ⟨y, hy⟩ : ∃ y, W ^ ((p + 1) / 4).toNat % p = y := ⟨_, rfl⟩
  rw [hy] at yb sq
  have eT : wrap64 (wrap64 t - 2) = t - 2 := by rw [w64 (n := t) (by omega) (by omega), w64 (by omega) (by omega)]
  have eP : wrap64 (p - y) = p - y := by clear eT; exact w64 (by omega) (by omega)
  have eR : wrap64 (p - r) = p - r := by
    clear eT eP
    rcases hr with ⟨_, h1, h2, _⟩ | ⟨_, h1, _⟩ <;> exact w64 (by omega) (by omega)
  have eQ : wrap64 (Int.tdiv (wrap64 (p + 1)) 4) = (p + 1) / 4 := by clear eT eP eR; rw [w64 (n := p + 1) (by omega) (by omega), Int.tdiv_eq_ediv_of_nonneg (by omega), w64 (by omega) (by omega)]
  have eU : Int.tmod (wrap64 t) 2 = t % 2 := by clear eT eP eR eQ; rw [w64 (n := t) (by omega) (by omega), Int.tmod_eq_emod_of_nonneg t0]
  have sp : Ev (fun k => spec_l2Pow.f k W ((p + 1) / 4) p) y := by
    clear eT eP eR eQ eU
    rw [← hy]
    exact specPow_eq Wb.1 (by omega) (by omega) (by omega) (by omega)
  have rb : 0 ≤ r ∧ r < p := by
    clear eT eP eR eQ eU
    rcases hr with ⟨_, h1, h2, _⟩ | ⟨_, h1, _⟩ <;> omega
  have two := fun h => two_roots (x := r) (z := y) hN.prm rb.1 rb.2 yb.1 yb.2 h
  have tm1 : Int.tmod y 2 = y % 2 := Int.tmod_eq_emod_of_nonneg yb.1
  have tm2 : Int.tmod (p - y) 2 = (p - y) % 2 := by clear eT eP eR eQ eU; exact Int.tmod_eq_emod_of_nonneg (by omega)
  have tm3 : Int.tmod r 2 = r % 2 := Int.tmod_eq_emod_of_nonneg rb.1
  have tm4 : Int.tmod (p - r) p = (p - r) % p := by clear eT eP eR eQ eU tm1 tm2 tm3; exact Int.tmod_eq_emod_of_nonneg (by omega)
  have mr := md (x := p - r) p1
  -- the first code
  have im : Ev (fun k => impl_Curve_pointRead.f k p a b n gx gy [t, a1, b1, c1]) (if bb = true then readEnd p a b X (if r % 2 = t % 2 then r else (p - r) % p) false [t, a1, b1, c1] else (0, 0, false, false)) := by
    unfold impl_Curve_pointRead.f
    simp only [if_neg n1, if_neg n7, if_pos h4, if_pos l1, i1, Option.bind_some, if_neg hge, if_neg hnz, q6]
    refine Ev.bind ri ?_
    cases bb with
    | false => simp only [Bool.false_eq_true, if_false]; exact Ev.now _
    | true =>
      simp only [if_true, if_pos l0, rt, eU, tm3, eR, tm4]
      by_cases k : r % 2 = t % 2
      · simp only [if_pos k]; exact fin _ _ _
      · simp only [if_neg k]; exact fin _ _ _
  refine ⟨_, up _ ?_, im⟩
  refine Ev.step (fun k => by rw [spec_l3Point.j2]) ?_
  by_cases ht : t = 2 ∨ t = 3
  · simp only [decide_eq_true ht, if_true, if_pos l4, if_pos (show (1 : Int) ≤ 4 by omega), j1, Option.bind_some, if_neg hge, if_neg hnz, q5, eQ]
    refine Ev.bind sp ?_
    simp only [if_pos l0, rt, eT, eP, tm1, tm2, sOn, Option.bind_some]
    clear eT eP eR eQ eU tm1 tm2 tm3 tm4 q5 q6 sp im fin sOn ri
    cases bb with
    | false =>
      have hno : ∀ s, 0 ≤ s → s < p → ¬ s * s % p = W := by
        rcases hr with ⟨h, _⟩ | ⟨_, _, h⟩
        · cases h
        · exact h
      have o1 : ¬ onCur p a b X y false = true := by
        rw [hon]
        rintro ⟨h1, h2, h3⟩
        exact hno y h1 (by omega) h3
      have o2 : ¬ onCur p a b X (p - y) false = true := by
        rw [hon]
        rintro ⟨h1, h2, h3⟩
        exact hno (p - y) h1 (by omega) h3
      simp only [if_neg o1, if_neg o2, ite_self, Bool.false_eq_true, if_false]
      exact Ev.now _
    | true =>
      have hrr : r * r % p = W := by
        rcases hr with ⟨_, _, _, h, _⟩ | ⟨h, _⟩
        · exact h
        · cases h
      have hyy := sq ⟨r, hrr⟩
      have tw := two (hrr.trans hyy.symm)
      have hpp : (p - y) * (p - y) % p = W := by
        have e : (p - y) * (p - y) = y * y + p * (p - 2 * y) := by grind
        rw [e, Int.add_mul_emod_self_left, hyy]
      have o1 : onCur p a b X y false = true := (hon y).2 ⟨yb.1, by omega, hyy⟩
      have odd : p % 2 = 1 := by omega
      have tt : t % 2 = t - 2 := by omega
      simp only [if_true]
      by_cases ky : y % 2 = t - 2
      · have hZ : (if r % 2 = t % 2 then r else (p - r) % p) = y := by
          rcases tw with rfl | h | ⟨rfl, rfl⟩
          · rw [if_pos (by omega)]
          · rw [if_neg (by omega), show p - r = y by omega, Int.emod_eq_of_lt yb.1 yb.2]
          · rw [if_pos (by omega)]
        rw [hZ, end_ y yb.1]
        simp only [if_pos ky, if_pos o1, if_pos (show 2 + y % 2 = t by omega)]
        exact Ev.now _
      · by_cases hy0 : y = 0
        · have hr0 : r = 0 := by omega
          have o2 : ¬ onCur p a b X (p - y) false = true := by
            rw [hon]
            rintro ⟨h1, h2, h3⟩
            omega
          have hZ : (if r % 2 = t % 2 then r else (p - r) % p) = 0 := by
            rw [hr0, Int.sub_zero, Int.emod_self, ite_self]
          rw [hZ, end_ 0 (Int.le_refl 0)]
          simp only [if_neg ky, if_neg o2, if_neg (show ¬ 2 + (0 : Int) % 2 = t by omega), ite_self]
          exact Ev.now _
        · have o2 : onCur p a b X (p - y) false = true := (hon _).2 ⟨by omega, by omega, hpp⟩
          have hZ : (if r % 2 = t % 2 then r else (p - r) % p) = p - y := by
            rcases tw with rfl | h | ⟨h, _⟩
            · rw [if_neg (by omega), Int.emod_eq_of_lt (by omega) (by omega)]
            · rw [if_pos (by omega)]; omega
            · exact absurd h hy0
          rw [hZ, end_ (p - y) (by omega)]
          simp only [if_neg ky, if_pos o2, if_pos (show (p - y) % 2 = t - 2 by omega), if_pos (show 2 + (p - y) % 2 = t by omega)]
          exact Ev.now _
  · simp only [decide_eq_false ht, Bool.false_eq_true, if_false]
    have e : (if bb = true then readEnd p a b X (if r % 2 = t % 2 then r else (p - r) % p) false [t, a1, b1, c1] else (0, 0, false, false)) = (0, 0, false, false) := by
      cases bb with
      | false => rfl
      | true =>
        simp only [if_true]
        rw [end_ _ (by split <;> omega)]
        have : ¬ 2 + (if r % 2 = t % 2 then r else (p - r) % p) % 2 = t := by
          clear eT eP eR eQ eU tm1 tm2 tm3 tm4 q5 q6
          omega
        simp only [if_neg this, ite_self]
    rw [e]
    exact Ev.now _

theorem both_ptread (p a b n gx gy : Int) (hE : CurPre p a b n) (bs : List Int) (hb : ∀ x ∈ bs, 0 ≤ x ∧ x ≤ 255) :
    ∃ z, Ev (fun k => spec_l3Point.f k p a b n gx gy bs) z ∧ Ev (fun k => impl_Curve_pointRead.f k p a b n gx gy bs) z := by
  have hN := hE.num
  have hlo := hN.lo
  have hhi := hN.hi
  have p1 : 1 ≤ p := by omega
  obtain ⟨K⟩ := fldOf_exists hN.prm
  have fin := fun x y f => implEnd (n := n) (gx := gx) (gy := gy) (x := x) (y := y) (f := f) hb K hN
  have sOn := fun x y => specOn_eq (n := n) (gx := gx) (gy := gy) (x := x) (y := y) (f := false) K hN.lo hN.hi hN.a0 hN.a1 hN.b0 hN.b1
  -- the second code's ends
  have s2 : Ev (fun k => spec_l3Point.j2 k bs false p a b n gx gy 0 0 false) (0, 0, false, false) := Ev.step (fun k => by rw [spec_l3Point.j2]) (by simp only [Bool.false_eq_true, if_false]; exact Ev.now _)
  by_cases h1 : (bs.length : Int) = 1
  · obtain ⟨t, rfl⟩ : ∃ t, bs = [t] := by
      match bs, h1 with
      | [t], _ => exact ⟨t, rfl⟩
      | [], h => simp at h
      | _ :: _ :: _, h => simp at h; omega
    refine ⟨if t = 0 then (0, 0, true, true) else (0, 0, false, false), ?_, ?_⟩
    · unfold spec_l3Point.f
      simp only [if_pos h1, if_pos (show 0 < (([t] : List Int).length : Int) by simp), show rd [t] 0 = t from rfl]
      refine Ev.step (fun k => by rw [spec_l3Point.j0]) ?_
      by_cases ht : t = 0
      · simp only [ht, beq_self_eq_true, if_true]; exact Ev.now _
      · simp only [show (t == 0) = false by simpa using ht, Bool.false_eq_true, if_false, if_neg ht, if_neg (show ¬ (([t] : List Int).length : Int) = 7 by simp)]
        refine Ev.step (fun k => by rw [spec_l3Point.j1]) ?_
        simp only [Bool.false_eq_true, if_false, if_neg (show ¬ (([t] : List Int).length : Int) = 4 by simp)]
        exact s2
    · unfold impl_Curve_pointRead.f
      simp only [if_pos h1]
      have e : readEnd p a b 0 0 true [t] = if t = 0 then (0, 0, true, true) else (0, 0, false, false) := by
        unfold readEnd onCur ptBytes
        by_cases ht : t = 0
        · simp [ht]
        · simp [ht, Ne.symm ht]
      rw [← e]
      exact fin 0 0 true
  by_cases h7 : (bs.length : Int) = 7
  · obtain ⟨t, a1, b1, c1, a2, b2, c2, rfl⟩ : ∃ t a1 b1 c1 a2 b2 c2, bs = [t, a1, b1, c1, a2, b2, c2] := by
      match bs, h7 with
      | [t, a1, b1, c1, a2, b2, c2], _ => exact ⟨t, a1, b1, c1, a2, b2, c2, rfl⟩
      | [], h => simp at h
      | [_], h => simp at h
      | [_, _], h => simp at h
      | [_, _, _], h => simp at h
      | [_, _, _, _], h => simp at h
      | [_, _, _, _, _], h => simp at h
      | [_, _, _, _, _, _], h => simp at h
      | _ :: _ :: _ :: _ :: _ :: _ :: _ :: _ :: _, h => simp at h; omega
    obtain ⟨t0, t1⟩ := hb t (by simp)
    obtain ⟨p0, p2⟩ := hb a1 (by simp)
    obtain ⟨q0, q2⟩ := hb b1 (by simp)
    obtain ⟨r0, r2⟩ := hb c1 (by simp)
    obtain ⟨u0, u2⟩ := hb a2 (by simp)
    obtain ⟨v0, v2⟩ := hb b2 (by simp)
    obtain ⟨w0, w2⟩ := hb c2 (by simp)
    have i1 : impl_ofThree.f (([t, a1, b1, c1, a2, b2, c2] : List Int).drop 1) = some (a1 * 65536 + b1 * 256 + c1) := ofThree p0 p2 q0 q2 r0 r2
    have i2 : impl_ofThree.f (([t, a1, b1, c1, a2, b2, c2] : List Int).drop 4) = some (a2 * 65536 + b2 * 256 + c2) := ofThree u0 u2 v0 v2 w0 w2
    have j1 : spec_l3Read.f ((([t, a1, b1, c1, a2, b2, c2] : List Int).take 4).drop 1) = some (a1 * 65536 + b1 * 256 + c1) := readThree p0 p2 q0 q2 r0 r2
    have j2 : spec_l3Read.f ((([t, a1, b1, c1, a2, b2, c2] : List Int).take 7).drop 4) = some (a2 * 65536 + b2 * 256 + c2) := readThree u0 u2 v0 v2 w0 w2
    obtain ⟨X, hX⟩ : ∃ X, a1 * 65536 + b1 * 256 + c1 = X := ⟨_, rfl⟩
    obtain ⟨Y, hY⟩ : ∃ Y, a2 * 65536 + b2 * 256 + c2 = Y := ⟨_, rfl⟩
    rw [hX] at i1 j1
    rw [hY] at i2 j2
    refine ⟨readEnd p a b X Y false [t, a1, b1, c1, a2, b2, c2], ?_, ?_⟩
    · have e : readEnd p a b X Y false [t, a1, b1, c1, a2, b2, c2] = if t = 4 then (if onCur p a b X Y false = true then (X, Y, false, true) else (0, 0, false, false)) else (0, 0, false, false) := by
        obtain ⟨k1, k2, k3⟩ := three_inv (X := X) (by omega) (by omega) p0 p2 q0 q2 r0 r2 hX.symm
        obtain ⟨l1, l2, l3⟩ := three_inv (X := Y) (by omega) (by omega) u0 u2 v0 v2 w0 w2 hY.symm
        have hc : (ptBytes X Y false ((([t, a1, b1, c1, a2, b2, c2] : List Int).length : Int) == 4) = [t, a1, b1, c1, a2, b2, c2]) ↔ t = 4 := by
          unfold ptBytes
          simp only [Bool.false_eq_true, if_false, show ((([t, a1, b1, c1, a2, b2, c2] : List Int).length : Int) == 4) = false by simp, k1, k2, k3, l1, l2, l3, List.cons.injEq, and_true]
          exact ⟨fun k => k.symm, fun k => k.symm⟩
        unfold readEnd
        simp only [hc]
        by_cases ht : t = 4
        · simp only [if_pos ht]
        · simp only [if_neg ht, ite_self]
      rw [e]
      unfold spec_l3Point.f
      simp only [if_neg h1]
      refine Ev.step (fun k => by rw [spec_l3Point.j0]) ?_
      simp only [Bool.false_eq_true, if_false, if_pos h7, if_pos (show 0 < (([t, a1, b1, c1, a2, b2, c2] : List Int).length : Int) by simp), show rd [t, a1, b1, c1, a2, b2, c2] 0 = t from rfl]
      refine Ev.step (fun k => by rw [spec_l3Point.j1]) ?_
      by_cases ht : t = 4
      · simp only [ht, beq_self_eq_true, if_true]
        rw [ht] at j1 j2
        simp only [if_pos (show (1 : Int) ≤ 4 by omega), if_pos (show (4 : Int) ≤ 7 by omega), if_pos (show (4 : Int) ≤ (([4, a1, b1, c1, a2, b2, c2] : List Int).length : Int) by simp), if_pos (show (7 : Int) ≤ (([4, a1, b1, c1, a2, b2, c2] : List Int).length : Int) by simp), j1, j2, Option.bind_some, sOn]
        by_cases ho : onCur p a b X Y false = true
        · simp only [if_pos ho]; exact Ev.now _
        · simp only [if_neg ho]; exact Ev.now _
      · simp only [show (t == 4) = false by simpa using ht, Bool.false_eq_true, if_false, if_neg ht, if_neg (show ¬ (([t, a1, b1, c1, a2, b2, c2] : List Int).length : Int) = 4 by simp)]
        exact s2
    · unfold impl_Curve_pointRead.f
      simp only [if_neg h1, if_pos h7, if_pos (show (1 : Int) ≤ (([t, a1, b1, c1, a2, b2, c2] : List Int).length : Int) by simp), if_pos (show (4 : Int) ≤ (([t, a1, b1, c1, a2, b2, c2] : List Int).length : Int) by simp), i1, i2, Option.bind_some]
      exact fin X Y false
  by_cases h4 : (bs.length : Int) = 4
  · obtain ⟨t, a1, b1, c1, rfl⟩ : ∃ t a1 b1 c1, bs = [t, a1, b1, c1] := by
      match bs, h4 with
      | [t, a1, b1, c1], _ => exact ⟨t, a1, b1, c1, rfl⟩
      | [], h => simp at h
      | [_], h => simp at h
      | [_, _], h => simp at h
      | [_, _, _], h => simp at h
      | _ :: _ :: _ :: _ :: _ :: _, h => simp at h; omega
    exact both_four p a b n gx gy hE K hb h4
  · -- another length
    refine ⟨(0, 0, false, false), ?_, ?_⟩
    · unfold spec_l3Point.f
      simp only [if_neg h1]
      refine Ev.step (fun k => by rw [spec_l3Point.j0]) ?_
      simp only [Bool.false_eq_true, if_false, if_neg h7]
      refine Ev.step (fun k => by rw [spec_l3Point.j1]) ?_
      simp only [Bool.false_eq_true, if_false, if_neg h4]
      exact s2
    · unfold impl_Curve_pointRead.f
      simp only [if_neg h1, if_neg h7, if_neg h4]
      have e : readEnd p a b 0 0 false bs = (0, 0, false, false) := by
        unfold readEnd
        have hc : ¬ ptBytes 0 0 false ((bs.length : Int) == 4) = bs := by
          intro k
          have := congrArg List.length k
          unfold ptBytes at this
          simp only [Bool.false_eq_true, if_false, show ((bs.length : Int) == 4) = false by simpa using h4, List.length_cons, List.length_nil] at this
          omega
        simp only [if_neg hc, ite_self]
      rw [← e]
      exact fin 0 0 false

theorem wfu8 {l : List Int} (h : ∀ x ∈ l, (Lit.int .u8 x).wf = true) : ∀ x ∈ l, 0 ≤ x ∧ x ≤ 255 := by
  intro x hx
  have := h x hx
  simpa [Lit.wf, IntKind.min, IntKind.max, IntKind.signed, IntKind.bits] using this

theorem toByteS_loop (l : List Int) (hl : l.length ≤ 1099511627776) : ∀ (d : Nat) (x : List Int) (i : Int), 0 ≤ i → (l.length : Int) - i = d → x.length = l.length → (∀ j : Nat, (j : Int) < i → x.getD j 0 = l.getD j 0) →
    Ev (fun k => laws_toByteS.l0 k l x i) l := by
  intro d
  induction d with
  | zero =>
    intro x i h0 hd hx he
    refine Ev.step (fun k => by rw [laws_toByteS.l0]) ?_
    simp only [if_neg (show ¬ i < (l.length : Int) by omega)]
    have : x = l := by
      apply List.ext_getElem hx
      intro j h1 h2
      have := he j (by omega)
      rwa [List.getD_eq_getElem?_getD, List.getD_eq_getElem?_getD, List.getElem?_eq_getElem h1, List.getElem?_eq_getElem h2] at this
    rw [this]
    exact Ev.now _
  | succ d ih =>
    intro x i h0 hd hx he
    refine Ev.step (fun k => by rw [laws_toByteS.l0]) ?_
    simp only [if_pos (show i < (l.length : Int) by omega), if_pos h0, hx]
    rw [w64 (n := i + 1) (by omega) (by omega)]
    refine ih _ (i + 1) (by omega) (by omega) (by simpa using hx) (fun j hj => ?_)
    unfold rd
    rw [List.getD_eq_getElem?_getD, List.getElem?_set]
    by_cases hji : i.toNat = j
    · subst hji
      rw [if_pos rfl, if_pos (by omega)]
      rfl
    · rw [if_neg hji, ← List.getD_eq_getElem?_getD]
      exact he j (by omega)

theorem toByteS_eq (l : List Int) (hl : l.length ≤ 1099511627776) : Ev (fun k => laws_toByteS.f k l) l := by
  unfold laws_toByteS.f
  simp only [if_pos (show 0 ≤ (l.length : Int) by omega), if_pos (show ((l.length : Int)).toNat ≤ 281474976710656 by omega)]
  exact toByteS_loop l hl l.length _ 0 (by omega) (by omega) (by simp) (fun j hj => by omega)

theorem eqByteS_loop (l : List Int) (hl : l.length ≤ 1099511627776) : ∀ (d : Nat) (i : Int), 0 ≤ i → (l.length : Int) - i = d → Ev (fun k => laws_eqByteS.l0 k l l i) true := by
  intro d
  induction d with
  | zero =>
    intro i h0 hd
    refine Ev.step (fun k => by rw [laws_eqByteS.l0]) ?_
    simp only [if_neg (show ¬ i < (l.length : Int) by omega)]
    exact Ev.now _
  | succ d ih =>
    intro i h0 hd
    refine Ev.step (fun k => by rw [laws_eqByteS.l0]) ?_
    simp only [if_pos (show i < (l.length : Int) by omega), if_pos h0, if_true]
    rw [w64 (n := i + 1) (by omega) (by omega)]
    exact ih (i + 1) (by omega) (by omega)

theorem eqByteS_eq (l : List Int) (hl : l.length ≤ 1099511627776) : Ev (fun k => laws_eqByteS.f k l l) true := by
  unfold laws_eqByteS.f
  simp only [if_true]
  exact eqByteS_loop l hl l.length 0 (by omega) (by omega)

theorem FnExactPointRead : laws_FnExactPointRead.Pure := by
  intro p a b n gx gy bs _ _ _ hn _ _ _ _ hw
  have hw := wfu8 hw
  refine Ev.rounds (r := true) ?_
  obtain ⟨t, e1, e2, ht⟩ := both_cur p a b n gx gy (wf64 hn)
  obtain ⟨⟨x, y, f, c⟩, f1, f2⟩ : ∃ z, Ev (fun k => spec_PointRead.f k p a b n gx gy bs) z ∧ Ev (fun k => impl_PointRead.f k p a b n gx gy bs) z := by
    unfold spec_PointRead.f impl_PointRead.f
    cases t with
    | false =>
      refine ⟨(0, 0, false, false), Ev.bind e1 ?_, Ev.bind e2 ?_⟩
      · simpa using Ev.now ((0 : Int), (0 : Int), false, false)
      · simpa using Ev.now ((0 : Int), (0 : Int), false, false)
    | true =>
      obtain ⟨⟨x, y, f, c⟩, g1, g2⟩ := both_ptread p a b n gx gy (ht rfl).1 bs hw
      refine ⟨(x, y, f, c), Ev.bind e1 ?_, Ev.bind e2 ?_⟩
      · simp only [if_true]; exact Ev.bind g1 (Ev.now _)
      · simp only [if_true]; exact Ev.bind g2 (Ev.now _)
  unfold laws_FnExactPointRead.f laws_toCurve.f
  by_cases h : (bs.length : Int) > 1048576
  · simp only [if_pos h]; exact Ev.now _
  simp only [if_neg h, Option.bind_some]
  have tb := toByteS_eq bs (by omega)
  have eb := eqByteS_eq bs (by omega)
  have ep : laws_eqPoint.f x y f x y f = some true := by unfold laws_eqPoint.f; simp
  refine Ev.bind tb (Ev.bind f1 (Ev.bind tb (Ev.bind f2 ?_)))
  simp only [ep, Option.bind_some, if_true, bne_self_eq_false]
  refine Ev.step (fun k => by rw [laws_FnExactPointRead.j0]) ?_
  simp only [Bool.false_eq_true, if_false]
  refine Ev.bind tb (Ev.bind eb ?_)
  simp only [if_true]
  exact Ev.now _

end Go.Proofs.Ytadmkolopcdffaa.Pure
