/- The law FnPointsBack answers true at all bytes: points come back from their bytes, and bytes that are read are those of the point. -/
import Derived.Test.YtfdlblckmlbhoaaPFnPointsBackx9
import Derived.Test.YtfdlblckmlbhoaaMBits
import Derived.Test.YtfdlblckmlbhoaaMInv
import Derived.Test.YtfdlblckmlbhoaaMField
import Derived.Test.YtfdlblckmlbhoaaMRoot
import Derived.Test.YtfdlblckmlbhoaaMEd
import Derived.Test.YtfdlblckmlbhoaaMGrp
import Derived.Test.YtfdlblckmlbhoaaMEdP
import Derived.Test.YtfdlblckmlbhoaaMCurve
import Derived.Test.YtfdlblckmlbhoaaMCurP
namespace Go.Proofs.Ytfdlblckmlbhoaa.Pure
open Go.RowKit Go.Proofs.Ytfdlblckmlbhoaa.PFnPointsBack Go.Proofs.YtfdlblckmlbhoaaW.PrintWords Go.Proofs.YtfdlblckmlbhoaaW.PrintLast Go.Proofs.Ytfdlblckmlbhoaa.Plain

set_option linter.unusedVariables false
set_option linter.unusedSimpArgs false

theorem w64 {n : Int} (h : -9223372036854775808 ≤ n) (h' : n ≤ 9223372036854775807) : wrap64 n = n := by
  unfold wrap64
  omega

theorem wf64 {n : Int} (h : (Lit.int .i64 n).wf = true) : -9223372036854775808 ≤ n ∧ n ≤ 9223372036854775807 := by
  simpa [Lit.wf, IntKind.min, IntKind.max, IntKind.signed, IntKind.bits] using h

theorem wsucc {i : Nat} (h : i ≤ 1099511627776) : wrap64 ((i : Int) + 1) = ((i + 1 : Nat) : Int) := by
  rw [w64 (by omega) (by omega)]
  omega

theorem wpred {i : Nat} (h : i ≤ 1099511627776) : wrap64 (((i + 1 : Nat) : Int) - 1) = (i : Int) := by
  rw [w64 (by omega) (by omega)]
  omega

theorem in_eq (n a b : Int) : spec_l1In.f n a b = some (decide (a ≤ n ∧ n ≤ b)) := by
  unfold spec_l1In.f
  by_cases h : n ≥ a
  · rw [if_pos h]
    have : a ≤ n := h
    simp [this]
  · rw [if_neg h]
    have : ¬ a ≤ n := h
    simp [this]

theorem within_eq (n a b : Int) : impl_within.f n a b = some (decide (a ≤ n ∧ n ≤ b)) := by
  unfold impl_within.f
  by_cases h : n ≥ a
  · rw [if_pos h]
    have : a ≤ n := h
    simp [this]
  · rw [if_neg h]
    have : ¬ a ≤ n := h
    simp [this]

theorem left_eq {a m : Int} (h1 : 0 < m) (h2 : m ≤ 4611686018427387904) : spec_l2Left.f a m = some (a % m) := by
  unfold spec_l2Left.f
  rw [if_neg (by omega)]
  have e0 := Int.tmod_lt_of_pos a h1
  have e1 := Int.lt_tmod_of_pos a h1
  rw [w64 (by omega) (by omega), Int.tmod_eq_emod_of_nonneg (by omega), Int.tmod_eq_emod]
  congr 1
  split
  · simp
  · rw [show a % m - ((m.natAbs : Nat) : Int) + m = a % m by omega, Int.emod_emod]

theorem rest_eq {a m : Int} (h1 : 0 < m) (h2 : m ≤ 4611686018427387904) : impl_rest.f a m = some (a % m) := by
  unfold impl_rest.f
  rw [if_neg (by omega)]
  have e0 := Int.tmod_lt_of_pos a h1
  have e1 := Int.lt_tmod_of_pos a h1
  rw [w64 (by omega) (by omega), Int.tmod_eq_emod_of_nonneg (by omega), Int.tmod_eq_emod]
  congr 1
  split
  · simp
  · rw [show a % m - ((m.natAbs : Nat) : Int) + m = a % m by omega, Int.emod_emod]

theorem specinv_loop (a m : Int) (hm : 2 ≤ m) (hM : m ≤ 1073741824) : ∀ (n : Nat) (last left before now : Int), left.toNat ≤ n → EuInv a m last left before now →
    -m ≤ before → before ≤ m → ∃ r b, InvIs a m r b ∧ Ev (fun k => spec_l2Inv.l0 k m last left before now) r := by
  intro n
  induction n with
  | zero =>
    intro last left before now hn h hb hb'
    have := h.l0
    obtain rfl : left = 0 := by omega
    by_cases h1 : last = 1
    · refine ⟨before % m, true, h.one hm h1, Ev.step (fun k => by rw [spec_l2Inv.l0]) ?_⟩
      subst h1
      simp [left_eq (show 0 < m by omega) (show m ≤ 4611686018427387904 by omega)]
      exact Ev.now _
    · refine ⟨0, false, h.more h1, Ev.step (fun k => by rw [spec_l2Inv.l0]) ?_⟩
      simp [h1]
      exact Ev.now _
  | succ n ih =>
    intro last left before now hn h hb hb'
    by_cases h0 : left = 0
    · exact ih last left before now (by omega) h hb hb'
    · have hp : 0 < left := by have := h.l0; omega
      have h' := h.step hp
      have b1 := h.now_le
      have b2 := h'.now_le
      have l1 := h.l1
      have hl := h.lm
      have q0 : 0 ≤ last / left := Int.ediv_nonneg (by omega) (by omega)
      have q1 : last / left ≤ last := Int.ediv_le_self _ (by omega)
      obtain ⟨r, b, hr, ev⟩ := ih left (last % left) now (before - last / left * now) (by have := h'.lt; have := h'.l0; omega) h' (by omega) (by omega)
      refine ⟨r, b, hr, Ev.step (fun k => by rw [spec_l2Inv.l0]) ?_⟩
      rw [tdiv_of_nonneg (by omega), tmod_of_nonneg (by omega), w64 (n := last / left) (by omega) (by omega), w64 (n := last / left * now) (by omega) (by omega), w64 (by omega) (by omega)]
      simpa [h0, hp] using ev

theorem implinv_loop (a m : Int) (hm : 2 ≤ m) (hM : m ≤ 1073741824) : ∀ (n : Nat) (last left before now : Int), left.toNat ≤ n → EuInv a m last left before now →
    -m ≤ before → before ≤ m → ∃ r b, InvIs a m r b ∧ Ev (fun k => impl_InvInt.l0 k m last left before now) (r,b) := by
  intro n
  induction n with
  | zero =>
    intro last left before now hn h hb hb'
    have := h.l0
    obtain rfl : left = 0 := by omega
    by_cases h1 : last = 1
    · refine ⟨before % m, true, h.one hm h1, Ev.step (fun k => by rw [impl_InvInt.l0]) ?_⟩
      subst h1
      simp [rest_eq (show 0 < m by omega) (show m ≤ 4611686018427387904 by omega)]
      exact Ev.now _
    · refine ⟨0, false, h.more h1, Ev.step (fun k => by rw [impl_InvInt.l0]) ?_⟩
      simp [h1]
      exact Ev.now _
  | succ n ih =>
    intro last left before now hn h hb hb'
    by_cases h0 : left = 0
    · exact ih last left before now (by omega) h hb hb'
    · have hp : 0 < left := by have := h.l0; omega
      have h' := h.step hp
      have b1 := h.now_le
      have b2 := h'.now_le
      have l1 := h.l1
      have hl := h.lm
      have q0 : 0 ≤ last / left := Int.ediv_nonneg (by omega) (by omega)
      have q1 : last / left ≤ last := Int.ediv_le_self _ (by omega)
      obtain ⟨r, b, hr, ev⟩ := ih left (last % left) now (before - last / left * now) (by have := h'.lt; have := h'.l0; omega) h' (by omega) (by omega)
      refine ⟨r, b, hr, Ev.step (fun k => by rw [impl_InvInt.l0]) ?_⟩
      rw [tdiv_of_nonneg (by omega), tmod_of_nonneg (by omega), w64 (n := last / left) (by omega) (by omega), w64 (n := last / left * now) (by omega) (by omega), w64 (by omega) (by omega)]
      simpa [h0, hp] using ev

theorem implInv_eq (a : Int) {m : Int} (h : 2 ≤ m) (h' : m ≤ 1073741824) : ∃ r b, InvIs a m r b ∧ Ev (fun k => impl_InvInt.f k a m) (r, b) := by
  obtain ⟨r, b, hr, e⟩ := implinv_loop a m h h' (a % m).toNat m (a % m) 0 1 (Nat.le_refl _) (EuInv.start h) (by omega) (by omega)
  refine ⟨r, b, hr, ?_⟩
  unfold impl_InvInt.f
  simp only [within_eq, h, h', and_self, decide_true, if_true, rest_eq (a := a) (m := m) (by omega) (by omega), Option.bind_some]
  exact e

theorem specInv_eq (a : Int) {m : Int} (h : 2 ≤ m) (h' : m ≤ 1073741824) : ∃ r b, InvIs a m r b ∧ Ev (fun k => spec_l2Inv.f k a m) r := by
  obtain ⟨r, b, hr, e⟩ := specinv_loop a m h h' (a % m).toNat m (a % m) 0 1 (Nat.le_refl _) (EuInv.start h) (by omega) (by omega)
  refine ⟨r, b, hr, ?_⟩
  unfold spec_l2Inv.f
  simp only [left_eq (a := a) (m := m) (by omega) (by omega), Option.bind_some]
  exact e

def tab8 : ByteArray := ⟨#[0, 1, 2, 2, 3, 3, 3, 3, 4, 4, 4, 4, 4, 4, 4, 4, 5, 5, 5, 5, 5, 5, 5, 5, 5, 5, 5, 5, 5, 5, 5, 5, 6, 6, 6, 6, 6, 6, 6, 6, 6, 6, 6, 6, 6, 6, 6, 6, 6, 6, 6, 6, 6, 6, 6, 6, 6, 6, 6, 6, 6, 6, 6, 6, 7, 7, 7, 7, 7, 7, 7, 7, 7, 7, 7, 7, 7, 7, 7, 7, 7, 7, 7, 7, 7, 7, 7, 7, 7, 7, 7, 7, 7, 7, 7, 7, 7, 7, 7, 7, 7, 7, 7, 7, 7, 7, 7, 7, 7, 7, 7, 7, 7, 7, 7, 7, 7, 7, 7, 7, 7, 7, 7, 7, 7, 7, 7, 7, 8, 8, 8, 8, 8, 8, 8, 8, 8, 8, 8, 8, 8, 8, 8, 8, 8, 8, 8, 8, 8, 8, 8, 8, 8, 8, 8, 8, 8, 8, 8, 8, 8, 8, 8, 8, 8, 8, 8, 8, 8, 8, 8, 8, 8, 8, 8, 8, 8, 8, 8, 8, 8, 8, 8, 8, 8, 8, 8, 8, 8, 8, 8, 8, 8, 8, 8, 8, 8, 8, 8, 8, 8, 8, 8, 8, 8, 8, 8, 8, 8, 8, 8, 8, 8, 8, 8, 8, 8, 8, 8, 8, 8, 8, 8, 8, 8, 8, 8, 8, 8, 8, 8, 8, 8, 8, 8, 8, 8, 8, 8, 8, 8, 8, 8, 8, 8, 8, 8, 8, 8, 8, 8, 8, 8, 8, 8, 8]⟩

theorem tab8_all : ∀ n : Fin 256, bt tab8 ((n.val : Nat) : Int) = ((bl n.val : Nat) : Int) := by decide +kernel

set_option maxRecDepth 100000 in
theorem tab8_eq {x : Int} (h0 : 0 ≤ x) (h1 : x < 256) : bt (⟨#[0, 1, 2, 2, 3, 3, 3, 3, 4, 4, 4, 4, 4, 4, 4, 4, 5, 5, 5, 5, 5, 5, 5, 5, 5, 5, 5, 5, 5, 5, 5, 5, 6, 6, 6, 6, 6, 6, 6, 6, 6, 6, 6, 6, 6, 6, 6, 6, 6, 6, 6, 6, 6, 6, 6, 6, 6, 6, 6, 6, 6, 6, 6, 6, 7, 7, 7, 7, 7, 7, 7, 7, 7, 7, 7, 7, 7, 7, 7, 7, 7, 7, 7, 7, 7, 7, 7, 7, 7, 7, 7, 7, 7, 7, 7, 7, 7, 7, 7, 7, 7, 7, 7, 7, 7, 7, 7, 7, 7, 7, 7, 7, 7, 7, 7, 7, 7, 7, 7, 7, 7, 7, 7, 7, 7, 7, 7, 7, 8, 8, 8, 8, 8, 8, 8, 8, 8, 8, 8, 8, 8, 8, 8, 8, 8, 8, 8, 8, 8, 8, 8, 8, 8, 8, 8, 8, 8, 8, 8, 8, 8, 8, 8, 8, 8, 8, 8, 8, 8, 8, 8, 8, 8, 8, 8, 8, 8, 8, 8, 8, 8, 8, 8, 8, 8, 8, 8, 8, 8, 8, 8, 8, 8, 8, 8, 8, 8, 8, 8, 8, 8, 8, 8, 8, 8, 8, 8, 8, 8, 8, 8, 8, 8, 8, 8, 8, 8, 8, 8, 8, 8, 8, 8, 8, 8, 8, 8, 8, 8, 8, 8, 8, 8, 8, 8, 8, 8, 8, 8, 8, 8, 8, 8, 8, 8, 8, 8, 8, 8, 8, 8, 8, 8, 8, 8, 8]⟩ : ByteArray) x = ((bl x.toNat : Nat) : Int) := by
  have := tab8_all ⟨x.toNat, by omega⟩
  unfold tab8 at this
  rw [show (((⟨x.toNat, by omega⟩ : Fin 256).val : Nat) : Int) = x from by simp; omega] at this
  exact this

theorem blI {x : Int} (k : Nat) (h : (2 : Int) ^ k ≤ x) : ((bl x.toNat : Nat) : Int) = ((bl (x / 2 ^ k).toNat : Nat) : Int) + k := by
  have h1 := bl_shift k x.toNat (by have := two_pow_int k; omega)
  have h2 : (x / 2 ^ k).toNat = x.toNat / 2 ^ k := by
    have h3 : 0 < (2 : Int) ^ k := Int.pow_pos (by omega)
    obtain ⟨n, rfl⟩ : ∃ n : Nat, x = n := ⟨x.toNat, by omega⟩
    rw [← two_pow_int, Int.toNat_natCast, ← Int.natCast_ediv, Int.toNat_natCast]
  rw [h2, h1]
  omega

set_option maxRecDepth 100000 in
theorem len64_j0 {x c : Int} (h0 : 0 ≤ x) (h1 : x < 4294967296) (c0 : 0 ≤ c) (c1 : c ≤ 1000) : Ev (fun k => bits_Len64.j0 k x c) (c + ((bl x.toNat : Nat) : Int)) := by
  refine Ev.step (fun k => by rw [bits_Len64.j0]) ?_
  have blb : ∀ y : Int, 0 ≤ y → y < 256 → ((bl y.toNat : Nat) : Int) ≤ 8 := by
    intro y y0 y1
    have := bl_le (n := y.toNat) (k := 8) (by omega)
    omega
  by_cases p1 : x ≥ 65536
  · simp only [if_pos p1]
    have e1 := blI (x := x) 16 (by omega)
    by_cases p2 : x / 65536 ≥ 256
    · have e2 := blI (x := x / 65536) 8 (by omega)
      have r0 : 0 ≤ x / 65536 / 256 := by omega
      have r1 : x / 65536 / 256 < 256 := by omega
      have r2 : x / 65536 / 256 % 256 = x / 65536 / 256 := by omega
      have b := blb (x / 65536 / 256) (by omega) (by omega)
      simp only [if_pos p2, r2, if_pos r0, if_pos r1, tab8_eq r0 r1]
      rw [w64 (n := ((bl (x / 65536 / 256).toNat : Nat) : Int)) (by omega) (by omega), w64 (n := c + 16) (by omega) (by omega), w64 (n := c + 16 + 8) (by omega) (by omega), w64 (by omega) (by omega),
        show c + 16 + 8 + ((bl (x / 65536 / 256).toNat : Nat) : Int) = c + ((bl x.toNat : Nat) : Int) by simp only [show ((2 : Int) ^ 16) = 65536 by decide, show ((2 : Int) ^ 8) = 256 by decide] at e1 e2; omega]
      exact Ev.now _
    · have r0 : 0 ≤ x / 65536 := by omega
      have r1 : x / 65536 < 256 := by omega
      have r2 : x / 65536 % 256 = x / 65536 := by omega
      have b := blb (x / 65536) (by omega) (by omega)
      simp only [if_neg p2, r2, if_pos r0, if_pos r1, tab8_eq r0 r1]
      rw [w64 (n := ((bl (x / 65536).toNat : Nat) : Int)) (by omega) (by omega), w64 (n := c + 16) (by omega) (by omega), w64 (by omega) (by omega),
        show c + 16 + ((bl (x / 65536).toNat : Nat) : Int) = c + ((bl x.toNat : Nat) : Int) by simp only [show ((2 : Int) ^ 16) = 65536 by decide] at e1; omega]
      exact Ev.now _
  · simp only [if_neg p1]
    by_cases p2 : x ≥ 256
    · have e2 := blI (x := x) 8 (by omega)
      have r0 : 0 ≤ x / 256 := by omega
      have r1 : x / 256 < 256 := by omega
      have r2 : x / 256 % 256 = x / 256 := by omega
      have b := blb (x / 256) (by omega) (by omega)
      simp only [if_pos p2, r2, if_pos r0, if_pos r1, tab8_eq r0 r1]
      rw [w64 (n := ((bl (x / 256).toNat : Nat) : Int)) (by omega) (by omega), w64 (n := c + 8) (by omega) (by omega), w64 (by omega) (by omega),
        show c + 8 + ((bl (x / 256).toNat : Nat) : Int) = c + ((bl x.toNat : Nat) : Int) by simp only [show ((2 : Int) ^ 8) = 256 by decide] at e2; omega]
      exact Ev.now _
    · have r0 : 0 ≤ x := by omega
      have r1 : x < 256 := by omega
      have r2 : x % 256 = x := by omega
      have b := blb x (by omega) (by omega)
      simp only [if_neg p2, r2, if_pos r0, if_pos r1, tab8_eq r0 r1]
      rw [w64 (n := ((bl x.toNat : Nat) : Int)) (by omega) (by omega), w64 (by omega) (by omega)]
      exact Ev.now _

theorem len_eq {x : Int} (h0 : 0 ≤ x) (h1 : x < 18446744073709551616) : Ev (fun k => bits_Len.f k x) ((bl x.toNat : Nat) : Int) := by
  unfold bits_Len.f bits_Len64.f
  by_cases p : x ≥ 4294967296
  · simp only [if_pos p]
    have e := blI (x := x) 32 (by omega)
    have := len64_j0 (x := x / 4294967296) (c := 32) (by omega) (by omega) (by omega) (by omega)
    rw [show 32 + ((bl (x / 4294967296).toNat : Nat) : Int) = ((bl x.toNat : Nat) : Int) by simp only [show ((2 : Int) ^ 32) = 4294967296 by decide] at e; omega] at this
    exact Ev.bind this (Ev.now _)
  · simp only [if_neg p]
    have := len64_j0 (x := x) (c := 0) (by omega) (by omega) (by omega) (by omega)
    rw [Int.zero_add] at this
    exact Ev.bind this (Ev.now _)

theorem u64w {x : Int} (h0 : 0 ≤ x) (h1 : x < 18446744073709551616) : IntKind.u64.wrap x = x := by
  rw [show IntKind.u64.wrap x = x % 18446744073709551616 from by simp [IntKind.wrap, IntKind.bits, IntKind.signed]]
  omega

theorem and1 {x : Int} (h0 : 0 ≤ x) (h1 : x < 9223372036854775808) : Go.bits .and .i64 x 1 = x % 2 := by
  have := bits_mask .i64 63 (by decide) (fun n a b => by rw [IntKind.wrap_i64]; omega) 1 (by decide) x h0 (by simpa using h1)
  simpa using this

theorem mulmod (x y m : Int) : x % m * (y % m) % m = x * y % m := (Int.mul_emod x y m).symm

theorem mod_bd (x : Int) {m : Int} (h : 1 ≤ m) (h' : m ≤ 1073741824) : 0 ≤ x % m ∧ x % m < m := ⟨Int.emod_nonneg _ (by omega), Int.emod_lt_of_pos _ (by omega)⟩

theorem mul_small {x y : Int} (hx : 0 ≤ x) (hx' : x < 1073741824) (hy : 0 ≤ y) (hy' : y < 1073741824) : 0 ≤ x * y ∧ wrap64 (x * y) = x * y := by
  have h1 : 0 ≤ x * y := Int.mul_nonneg hx hy
  have h2 : x * y ≤ 1073741823 * 1073741823 := Int.mul_le_mul (by omega) (by omega) hy (by omega)
  exact ⟨h1, w64 (by omega) (by omega)⟩

theorem one_mod' {m : Int} (h : 1 ≤ m) : (1 : Int) % m = 1 % m := rfl

theorem implPow_loop (a m : Int) (E : Nat) (hE : E < 9223372036854775808) (hm : 1 ≤ m) (hm' : m ≤ 1073741824) : ∀ (n : Nat), n ≤ 64 →
    Ev (fun k => impl_powInt.l0 k (a % m) (E : Int) m (a ^ (E / 2 ^ n) % m) ((n : Int) - 1)) (a ^ E % m) := by
  intro n
  induction n with
  | zero =>
    intro _
    refine Ev.step (fun k => by rw [impl_powInt.l0]) ?_
    simp only [if_neg (show ¬ ((0 : Nat) : Int) - 1 ≥ 0 by omega), Nat.pow_zero, Nat.div_one]
    exact Ev.now _
  | succ n ih =>
    intro hn
    have ih := ih (by omega)
    have st := div_step E n
    have b1 := mod_bd (a ^ (E / 2 ^ (n + 1))) hm hm'
    have b2 := mod_bd a hm hm'
    have b3 := mod_bd (a ^ (E / 2 ^ (n + 1)) * a ^ (E / 2 ^ (n + 1))) hm hm'
    obtain ⟨p0, w0⟩ := mul_small b1.1 (by omega) b1.1 (by omega)
    obtain ⟨p1, w1⟩ := mul_small b3.1 (by omega) b2.1 (by omega)
    have sh : shr .i64 (E : Int) (n : Int) = ((E / 2 ^ n : Nat) : Int) := by
      unfold shr
      rw [Int.toNat_natCast, Nat.min_eq_left (by simp [IntKind.bits]; omega), ← two_pow_int]
      exact (Int.natCast_ediv _ _).symm
    have le : E / 2 ^ n ≤ E := Nat.div_le_self _ _
    have an := and1 (x := ((E / 2 ^ n : Nat) : Int)) (by omega) (by clear w0 w1 st; omega)
    have q0 : ((n + 1 : Nat) : Int) - 1 = (n : Int) := by clear w0 w1 sh an; omega
    have q1 : (n : Int) ≥ 0 := by clear w0 w1 sh an; omega
    have q2 : ¬ m = 0 := by clear w0 w1 sh an; omega
    have q3 : 0 ≤ (n : Int) := by clear w0 w1 sh an; omega
    have q4 : wrap64 ((n : Int) - 1) = (n : Int) - 1 := by clear w0 w1 sh an; exact w64 (by omega) (by omega)
    refine Ev.step (fun k => by rw [impl_powInt.l0]) ?_
    simp only [q0, if_pos q1, if_neg q2, if_pos q3, sh, an, q4, w0, Int.tmod_eq_emod_of_nonneg p0, mulmod, w1, Int.tmod_eq_emod_of_nonneg p1]
    rcases Nat.mod_two_eq_zero_or_one (E / 2 ^ n) with hb | hb
    · rw [hb, Nat.add_zero] at st
      simp only [if_neg (show ¬ ((E / 2 ^ n : Nat) : Int) % 2 = 1 by clear w0 w1 sh an q4; omega)]
      rw [st, Nat.two_mul, Int.pow_add] at ih
      exact ih
    · rw [hb] at st
      simp only [if_pos (show ((E / 2 ^ n : Nat) : Int) % 2 = 1 by clear w0 w1 sh an q4; omega)]
      rw [st, Nat.two_mul, Int.pow_add, Int.pow_add, Int.pow_one] at ih
      exact ih

theorem implPow_eq {a e m : Int} (ha : 0 ≤ a) (he : 0 ≤ e) (he' : e ≤ 9223372036854775807) (hm : 1 ≤ m) (hm' : m ≤ 1073741824) : Ev (fun k => impl_powInt.f k a e m) (a ^ e.toNat % m) := by
  obtain ⟨E, rfl⟩ : ∃ E : Nat, e = E := ⟨e.toNat, by omega⟩
  unfold impl_powInt.f
  simp only [if_neg (show ¬ m = 0 by omega), Int.toNat_natCast]
  rw [u64w he (by omega), Int.tmod_eq_emod_of_nonneg ha]
  refine Ev.bind (len_eq he (by omega)) ?_
  rw [Int.toNat_natCast]
  have hl := bl_le (n := E) (k := 64) (by omega)
  have := implPow_loop a m E (by omega) hm hm' (bl E) (by omega)
  rw [Nat.div_eq_of_lt (bl_lt E), Int.pow_zero] at this
  rw [w64 (by omega) (by omega)]
  exact this

theorem sprime_loop (n : Int) (hn : n ≤ 1099511627776) (h2 : 2 ≤ n) : ∀ (m : Nat) (d : Int), 2 ≤ d → (1048580 - d).toNat ≤ m → d ≤ 1048577 → (∀ c, 2 ≤ c → c < d → ¬ c ∣ n) →
    ∃ r, (r = true → Prm n) ∧ (r = false → ¬ Prm n) ∧ Ev (fun k => spec_PrimeInt.l0 k n d) r := by
  intro m
  induction m with
  | zero => intro d h h1 h2; omega
  | succ m ih =>
    intro d h h1 h3 hc
    have e0 : 0 ≤ d * d := Int.mul_nonneg (by omega) (by omega)
    have e1 : d * d ≤ 1048577 * 1048577 := Int.mul_le_mul h3 h3 (by omega) (by omega)
    have h5 : d * d ≤ n → d ≤ 1048576 := by
      intro k
      rcases Int.lt_or_le 1048576 d with h6 | h6
      · have : (1048577 : Int) * 1048577 ≤ d * d := Int.mul_le_mul h6 h6 (by omega) (by omega)
        omega
      · exact h6
    have ew : wrap64 (d * d) = d * d := w64 (by omega) (by omega)
    by_cases h6 : d * d ≤ n
    · have hd := h5 h6
      by_cases h4 : n % d = 0
      · refine ⟨false, fun k => (by cases k), fun _ k => k.2 d h h6 (Int.dvd_of_emod_eq_zero h4), Ev.step (fun k => by rw [spec_PrimeInt.l0]) ?_⟩
        simp only [ew, if_pos h6, if_neg (show ¬ d = 0 by clear ew; omega), Int.tmod_eq_emod_of_nonneg (show 0 ≤ n by clear ew; omega), if_pos h4]
        exact Ev.now _
      · obtain ⟨r, r1, r2, e⟩ := ih (d + 1) (by clear ew; omega) (by clear ew; omega) (by clear ew; omega) (fun c c0 c1 => by
          by_cases hcd : c = d
          · subst hcd; intro k; exact h4 (Int.emod_eq_zero_of_dvd k)
          · exact hc c c0 (by clear ew; omega))
        refine ⟨r, r1, r2, Ev.step (fun k => by rw [spec_PrimeInt.l0]) ?_⟩
        simp only [ew, if_pos h6, if_neg (show ¬ d = 0 by clear ew; omega), Int.tmod_eq_emod_of_nonneg (show 0 ≤ n by clear ew; omega), if_neg h4]
        clear ew
        rw [w64 (n := d + 1) (by omega) (by omega)]
        exact e
    · refine ⟨true, fun _ => ⟨h2, fun c c0 c1 c2 => ?_⟩, fun k => (by cases k), Ev.step (fun k => by rw [spec_PrimeInt.l0]) ?_⟩
      · refine hc c c0 ?_ c2
        rcases Int.lt_or_le c d with h7 | h7
        · exact h7
        · have : d * d ≤ c * c := Int.mul_le_mul h7 h7 (by clear ew; omega) (by clear ew; omega)
          clear ew; omega
      · simp only [ew, if_neg h6]
        exact Ev.now _

theorem sprime_eq (n : Int) : ∃ r, (r = true → Prm n ∧ n ≤ 1099511627776) ∧ (r = false → ¬ (Prm n ∧ n ≤ 1099511627776)) ∧ Ev (fun k => spec_PrimeInt.f k n) r := by
  unfold spec_PrimeInt.f
  simp only [in_eq, Option.bind_some]
  by_cases h : 2 ≤ n ∧ n ≤ 1099511627776
  · obtain ⟨r, r1, r2, e⟩ := sprime_loop n h.2 h.1 1048578 2 (by omega) (by omega) (by omega) (fun c c0 c1 => by omega)
    refine ⟨r, fun k => ⟨r1 k, h.2⟩, fun k q => r2 k q.1, ?_⟩
    simp only [h.1, h.2, and_self, decide_true, if_true]
    exact e
  · refine ⟨false, fun k => (by cases k), fun _ q => h ⟨q.1.1, q.2⟩, ?_⟩
    simp only [h, decide_false]
    simpa using Ev.now false

theorem iprime_loop (n : Int) (hn : n ≤ 1099511627776) (h2 : 2 ≤ n) : ∀ (m : Nat) (d : Int), 2 ≤ d → (1048580 - d).toNat ≤ m → d ≤ 1048577 → (∀ c, 2 ≤ c → c < d → ¬ c ∣ n) →
    ∃ r, (r = true → Prm n) ∧ (r = false → ¬ Prm n) ∧ Ev (fun k => impl_PrimeInt.l0 k n d) r := by
  intro m
  induction m with
  | zero => intro d h h1 h2; omega
  | succ m ih =>
    intro d h h1 h3 hc
    have e0 : 0 ≤ d * d := Int.mul_nonneg (by omega) (by omega)
    have e1 : d * d ≤ 1048577 * 1048577 := Int.mul_le_mul h3 h3 (by omega) (by omega)
    have h5 : d * d ≤ n → d ≤ 1048576 := by
      intro k
      rcases Int.lt_or_le 1048576 d with h6 | h6
      · have : (1048577 : Int) * 1048577 ≤ d * d := Int.mul_le_mul h6 h6 (by omega) (by omega)
        omega
      · exact h6
    have ew : wrap64 (d * d) = d * d := w64 (by omega) (by omega)
    by_cases h6 : d * d ≤ n
    · have hd := h5 h6
      by_cases h4 : n % d = 0
      · refine ⟨false, fun k => (by cases k), fun _ k => k.2 d h h6 (Int.dvd_of_emod_eq_zero h4), Ev.step (fun k => by rw [impl_PrimeInt.l0]) ?_⟩
        simp only [ew, if_pos h6, if_neg (show ¬ d = 0 by clear ew; omega), Int.tmod_eq_emod_of_nonneg (show 0 ≤ n by clear ew; omega), if_pos h4]
        exact Ev.now _
      · obtain ⟨r, r1, r2, e⟩ := ih (d + 1) (by clear ew; omega) (by clear ew; omega) (by clear ew; omega) (fun c c0 c1 => by
          by_cases hcd : c = d
          · subst hcd; intro k; exact h4 (Int.emod_eq_zero_of_dvd k)
          · exact hc c c0 (by clear ew; omega))
        refine ⟨r, r1, r2, Ev.step (fun k => by rw [impl_PrimeInt.l0]) ?_⟩
        simp only [ew, if_pos h6, if_neg (show ¬ d = 0 by clear ew; omega), Int.tmod_eq_emod_of_nonneg (show 0 ≤ n by clear ew; omega), if_neg h4]
        clear ew
        rw [w64 (n := d + 1) (by omega) (by omega)]
        exact e
    · refine ⟨true, fun _ => ⟨h2, fun c c0 c1 c2 => ?_⟩, fun k => (by cases k), Ev.step (fun k => by rw [impl_PrimeInt.l0]) ?_⟩
      · refine hc c c0 ?_ c2
        rcases Int.lt_or_le c d with h7 | h7
        · exact h7
        · have : d * d ≤ c * c := Int.mul_le_mul h7 h7 (by clear ew; omega) (by clear ew; omega)
          clear ew; omega
      · simp only [ew, if_neg h6]
        exact Ev.now _

theorem iprime_eq (n : Int) : ∃ r, (r = true → Prm n ∧ n ≤ 1099511627776) ∧ (r = false → ¬ (Prm n ∧ n ≤ 1099511627776)) ∧ Ev (fun k => impl_PrimeInt.f k n) r := by
  unfold impl_PrimeInt.f
  simp only [within_eq, Option.bind_some]
  by_cases h : 2 ≤ n ∧ n ≤ 1099511627776
  · obtain ⟨r, r1, r2, e⟩ := iprime_loop n h.2 h.1 1048578 2 (by omega) (by omega) (by omega) (fun c c0 c1 => by omega)
    refine ⟨r, fun k => ⟨r1 k, h.2⟩, fun k q => r2 k q.1, ?_⟩
    simp only [h.1, h.2, and_self, decide_true, if_true]
    exact e
  · refine ⟨false, fun k => (by cases k), fun _ q => h ⟨q.1.1, q.2⟩, ?_⟩
    simp only [h, decide_false]
    simpa using Ev.now false

theorem primes_eq (n : Int) : ∃ r, (r = true → Prm n) ∧ (r = false → n ≤ 1099511627776 → ¬ Prm n) ∧ Ev (fun k => spec_PrimeInt.f k n) r ∧ Ev (fun k => impl_PrimeInt.f k n) r := by
  obtain ⟨r, r1, r2, e⟩ := sprime_eq n
  obtain ⟨q, q1, q2, f⟩ := iprime_eq n
  obtain rfl : r = q := by
    cases r <;> cases q
    · rfl
    · exact absurd (q1 rfl) (r2 rfl)
    · exact absurd (r1 rfl) (q2 rfl)
    · rfl
  exact ⟨r, fun k => (r1 k).1, fun k h1 h2 => r2 k ⟨h2, h1⟩, e, f⟩

theorem irt_step {a p i : Int} (h3 : 3 ≤ p) (hp : p ≤ 1048576) (h0 : 0 ≤ i) (h1 : i < p) : 0 ≤ i * i ∧ wrap64 (i * i) = i * i ∧ wrap64 (i + 1) = i + 1 := by
  have e0 : 0 ≤ i * i := Int.mul_nonneg h0 h0
  have e1 : i * i ≤ 1048576 * 1048576 := Int.mul_le_mul (by omega) (by omega) h0 (by omega)
  exact ⟨e0, w64 (by omega) (by omega), w64 (by omega) (by omega)⟩

theorem implRoot_find {a p r : Int} (h3 : 3 ≤ p) (hp : p ≤ 1048576) (r1 : r < p) (hr : r * r % p = a) (hl : ∀ j, 0 ≤ j → j < r → ¬ j * j % p = a) : ∀ (d : Nat) (i : Int), 0 ≤ i → r - i = d →
    Ev (fun k => impl_rootInt.l0 k a p p i) (r, true) := by
  intro d
  induction d with
  | zero =>
    intro i h0 hd
    obtain rfl : i = r := by omega
    obtain ⟨s0, s1, s2⟩ := irt_step (a := a) h3 hp h0 r1
    refine Ev.step (fun k => by rw [impl_rootInt.l0]) ?_
    simp only [if_pos r1, if_neg (show ¬ p = 0 by clear s1 s2; omega), s1, Int.tmod_eq_emod_of_nonneg s0, hr, if_true]
    exact Ev.now _
  | succ d ih =>
    intro i h0 hd
    obtain ⟨s0, s1, s2⟩ := irt_step (a := a) h3 hp h0 (show i < p by omega)
    have hi := hl i h0 (by clear s1 s2; omega)
    have := ih (i + 1) (by clear s1 s2; omega) (by clear s1 s2; omega)
    refine Ev.step (fun k => by rw [impl_rootInt.l0]) ?_
    simp only [if_pos (show i < p by clear s1 s2; omega), if_neg (show ¬ p = 0 by clear s1 s2; omega), s1, Int.tmod_eq_emod_of_nonneg s0, if_neg hi, s2]
    exact this

theorem implRoot_none {a p : Int} (h3 : 3 ≤ p) (hp : p ≤ 1048576) (hl : ∀ j, 0 ≤ j → j < p → ¬ j * j % p = a) : ∀ (d : Nat) (i : Int), 0 ≤ i → p - i = d →
    Ev (fun k => impl_rootInt.l0 k a p p i) (0, false) := by
  intro d
  induction d with
  | zero =>
    intro i h0 hd
    refine Ev.step (fun k => by rw [impl_rootInt.l0]) ?_
    simp only [if_neg (show ¬ i < p by omega)]
    exact Ev.now _
  | succ d ih =>
    intro i h0 hd
    obtain ⟨s0, s1, s2⟩ := irt_step (a := a) h3 hp h0 (show i < p by omega)
    have hi := hl i h0 (by clear s1 s2; omega)
    have := ih (i + 1) (by clear s1 s2; omega) (by clear s1 s2; omega)
    refine Ev.step (fun k => by rw [impl_rootInt.l0]) ?_
    simp only [if_pos (show i < p by clear s1 s2; omega), if_neg (show ¬ p = 0 by clear s1 s2; omega), s1, Int.tmod_eq_emod_of_nonneg s0, if_neg hi, s2]
    exact this

/-- The least root, or none. -/
def RootIs (a p r : Int) (b : Bool) : Prop := (b = true ∧ 0 ≤ r ∧ r < p ∧ r * r % p = a ∧ ∀ j, 0 ≤ j → j < r → ¬ j * j % p = a) ∨ (b = false ∧ r = 0 ∧ ∀ j, 0 ≤ j → j < p → ¬ j * j % p = a)

theorem rootIs_exists (a : Int) {p : Int} (hp : 3 ≤ p) : ∃ r b, RootIs a p r b := by
  by_cases h : ∃ x, 0 ≤ x ∧ x < p ∧ x * x % p = a
  · obtain ⟨x, x0, x1, hx⟩ := h
    obtain ⟨r, r0, r1, r2, r3⟩ := least (fun x => x * x % p = a) x.toNat x x0 (Nat.le_refl _) hx
    exact ⟨r, true, .inl ⟨rfl, r0, by omega, r2, r3⟩⟩
  · exact ⟨0, false, .inr ⟨rfl, rfl, fun j h1 h2 h3 => h ⟨j, h1, h2, h3⟩⟩⟩

theorem implRoot_eq {a p r : Int} {b : Bool} (hp : Prm p) (h3 : 3 ≤ p) (hp' : p ≤ 1048576) (h0 : 0 ≤ a) (h1 : a < p) (hr : RootIs a p r b) : Ev (fun k => impl_rootInt.f k a p) (r, b) := by
  unfold impl_rootInt.f
  have ho := prm_odd hp h3
  have j0 : Ev (fun k => impl_rootInt.j0 k a p false) (r, b) := by
    refine Ev.step (fun k => by rw [impl_rootInt.j0]) ?_
    simp only [Bool.false_eq_true, if_false]
    rcases hr with ⟨rfl, r0, r1, r2, r3⟩ | ⟨rfl, rfl, r3⟩
    · exact implRoot_find h3 hp' r1 r2 r3 r.toNat 0 (by omega) (by omega)
    · exact implRoot_none h3 hp' r3 p.toNat 0 (by omega) (by omega)
  by_cases ha : a = 0
  · simp only [if_pos ha]
    exact j0
  · simp only [if_neg ha]
    have e1 : wrap64 (Int.tdiv (wrap64 (p - 1)) 2) = (p - 1) / 2 := by
      rw [w64 (n := p - 1) (by omega) (by omega), Int.tdiv_eq_ediv_of_nonneg (by omega), w64 (by omega) (by omega)]
    rw [e1]
    clear e1
    refine Ev.bind (implPow_eq h0 (by omega) (by omega) (by omega) (by omega)) ?_
    rcases hr with ⟨rfl, r0, r1, r2, r3⟩ | ⟨rfl, rfl, r3⟩
    · have := square_pow hp h3 ho r2 ha ((p - 1) / 2).toNat (by omega)
      rw [this]
      exact j0
    · by_cases hq : a ^ ((p - 1) / 2).toNat % p = 1
      · rw [hq]; exact j0
      · have : (a ^ ((p - 1) / 2).toNat % p != 1) = true := by simpa using hq
        rw [this]
        refine Ev.step (fun k => by rw [impl_rootInt.j0]) ?_
        simp only [if_true]
        exact Ev.now _

theorem mm {x y p : Int} (hp : 1 ≤ p) (hp' : p ≤ 1048576) (x0 : 0 ≤ x) (x1 : x < p) (y0 : 0 ≤ y) (y1 : y < p) : 0 ≤ x * y ∧ x * y ≤ 1099511627776 := by
  have h1 : 0 ≤ x * y := Int.mul_nonneg x0 y0
  have h2 : x * y ≤ 1048576 * 1048576 := Int.mul_le_mul (by omega) (by omega) y0 (by omega)
  omega

theorem md {x p : Int} (hp : 1 ≤ p) : 0 ≤ x % p ∧ x % p < p := ⟨Int.emod_nonneg _ (by omega), Int.emod_lt_of_pos _ (by omega)⟩

/-- A product's rest, as the code makes it. -/
theorem mulm {x y p : Int} (hp : 1 ≤ p) (hp' : p ≤ 1048576) (x0 : 0 ≤ x) (x1 : x < p) (y0 : 0 ≤ y) (y1 : y < p) : Int.tmod (wrap64 (x * y)) p = x * y % p := by
  obtain ⟨h1, h2⟩ := mm hp hp' x0 x1 y0 y1
  rw [w64 (by omega) (by omega), Int.tmod_eq_emod_of_nonneg h1]

theorem mms {x y z p : Int} (hp : 1 ≤ p) (hp' : p ≤ 1048576) (x0 : 0 ≤ x) (x1 : x < p) (y0 : 0 ≤ y) (y1 : y < p) (z0 : 0 ≤ z) (z1 : z < p) : -1099511627776 ≤ x * (y - z) ∧ x * (y - z) ≤ 1099511627776 := by
  obtain ⟨h1, h2⟩ := mm hp hp' x0 x1 y0 y1
  obtain ⟨h3, h4⟩ := mm hp hp' x0 x1 z0 z1
  rw [Int.mul_sub]
  omega

/-- What is reckoned behind the slope. -/
theorem third_arith {l x y u p : Int} (hp : 1 ≤ p) (hp' : p ≤ 1048576) (l0 : 0 ≤ l) (l1 : l < p) (x0 : 0 ≤ x) (x1 : x < p) (y0 : 0 ≤ y) (y1 : y < p) (u0 : 0 ≤ u) (u1 : u < p) :
    wrap64 (wrap64 (wrap64 (l * l) - x) - u) = l * l - x - u ∧ ∀ r, 0 ≤ r → r < p → wrap64 (wrap64 (l * wrap64 (x - r)) - y) = l * (x - r) - y := by
  obtain ⟨h1, h2⟩ := mm hp hp' l0 l1 l0 l1
  constructor
  · rw [w64 (n := l * l) (by omega) (by omega), w64 (n := l * l - x) (by omega) (by omega), w64 (by omega) (by omega)]
  · intro r r0 r1
    obtain ⟨h3, h4⟩ := mms hp hp' l0 l1 x0 x1 r0 r1
    rw [w64 (n := x - r) (by omega) (by omega), w64 (n := l * (x - r)) (by omega) (by omega), w64 (by omega) (by omega)]

theorem specSum_eq {p a b n gx gy x y u v : Int} {f g : Bool} (h : CNum p a b) (K : Fld p) (hp : CPt p a b K x y f) (hq : CPt p a b K u v g) :
    ∃ r s t, CPt p a b K r s t ∧ toPt K r s t = Pt.add (toF a) (toPt K x y f) (toPt K u v g) ∧ Ev (fun k => spec_l3Add.f k p a b n gx gy x y f u v g) (r, s, t) := by
  have hlo := h.lo
  have hhi := h.hi
  have p1 : 1 ≤ p := by omega
  cases f with
  | true =>
    refine ⟨u, v, g, hq, by simp only [toPt, if_true, Pt.far_add], ?_⟩
    unfold spec_l3Add.f
    simp only [if_true]
    exact Ev.now _
  | false =>
    cases g with
    | true =>
      refine ⟨x, y, false, hp, by simp only [toPt, if_true, Bool.false_eq_true, if_false, Pt.add_far], ?_⟩
      unfold spec_l3Add.f
      simp only [if_true, Bool.false_eq_true, if_false]
      exact Ev.now _
    | false =>
      have wy : Int.tmod (wrap64 (y + v)) p = (y + v) % p := by
        have := hp.y0; have := hp.y1; have := hq.y0; have := hq.y1
        rw [w64 (by omega) (by omega), Int.tmod_eq_emod_of_nonneg (by omega)]
      by_cases hn : x = u ∧ (y + v) % p = 0
      · refine ⟨0, 0, true, CPt.zero (by omega), cpt_opp hp hq hn, ?_⟩
        unfold spec_l3Add.f
        simp only [Bool.false_eq_true, if_false, if_pos hn.1, if_neg (show ¬ p = 0 by omega), wy, if_pos hn.2]
        exact Ev.now _
      · obtain ⟨r, s, t, h1, h2, h3⟩ : ∃ r s t, CPt p a b K r s t ∧ toPt K r s t = Pt.add (toF a) (toPt K x y false) (toPt K u v false) ∧ Ev (fun k => spec_l3Add.j0 k p a b n gx gy x y false u v false) (r, s, t) := by
          by_cases e : x = u
          · obtain ⟨ey, hne⟩ := dbl_ne hp hq hn e
            obtain ⟨i, bi, i1, e1⟩ := specInv_eq (2 * y) (m := p) (by omega) (by omega)
            obtain ⟨_, i0, i2, ti⟩ := inv_of K h.prm i1 hne
            have w3 : Int.tmod (wrap64 (3 * x)) p = 3 * x % p := by
              have := hp.x0; have := hp.x1
              rw [w64 (by omega) (by omega), Int.tmod_eq_emod_of_nonneg (by omega)]
            have m3 := md (x := 3 * x) p1
            obtain ⟨q1, q2⟩ := mm p1 hhi m3.1 m3.2 hp.x0 hp.x1
            have wn : Int.tmod (wrap64 (wrap64 (3 * x % p * x) + a)) p = (3 * x % p * x + a) % p := by
              have := h.a0; have := h.a1
              rw [w64 (n := 3 * x % p * x) (by clear w3; omega) (by clear w3; omega), w64 (by clear w3; omega) (by clear w3; omega), Int.tmod_eq_emod_of_nonneg (by clear w3; omega)]
            have mn := md (x := 3 * x % p * x + a) p1
            have wl := mulm p1 hhi mn.1 mn.2 (Int.le_of_lt i0) i2
            have ml := md (x := (3 * x % p * x + a) % p * i) p1
            have hl : (toF ((3 * x % p * x + a) % p * i % p) : K.F) = (3 * toF x * toF x + toF a) * toF i := by
              have e3 : (toF 3 : K.F) = 3 := toF_nat 3
              simp only [K.emod, toF_mul, toF_add, e3]
            have hs := slope_dbl (v := v) (a := a) e ti hl
            obtain ⟨c1, c2⟩ := cpt_third hp hq (by omega) hn hs
            have y0 := hp.y0
            have y1 := hp.y1
            have wi : wrap64 (2 * y) = 2 * y := w64 (by clear w3 wn wl wy; omega) (by clear w3 wn wl wy; omega)
            generalize hL : (3 * x % p * x + a) % p * i % p = L at *
            obtain ⟨t1, t2⟩ := third_arith p1 hhi ml.1 ml.2 hp.x0 hp.x1 hp.y0 hp.y1 hq.x0 hq.x1
            have mr := md (x := L * L - x - u) p1
            refine ⟨_, _, _, c1, c2, Ev.step (fun k => by rw [spec_l3Add.j0]) ?_⟩
            simp only [if_pos e, if_neg (show ¬ p = 0 by clear w3 wn wl wy; omega), w3, wn, wi]
            refine Ev.bind e1 ?_
            rw [wl, t1, left_eq (by clear w3 wn wl wy; omega) (by clear w3 wn wl wy; omega)]
            simp only [Option.bind_some]
            rw [t2 _ mr.1 mr.2, left_eq (by clear w3 wn wl wy; omega) (by clear w3 wn wl wy; omega)]
            exact Ev.now _
          · have hne := chord_ne hp hq e
            obtain ⟨i, bi, i1, e1⟩ := specInv_eq (u - x) (m := p) (by omega) (by omega)
            obtain ⟨_, i0, i2, ti⟩ := inv_of K h.prm i1 hne
            have mn := md (x := v - y) p1
            have wl := mulm p1 hhi mn.1 mn.2 (Int.le_of_lt i0) i2
            have ml := md (x := (v - y) % p * i) p1
            have hl : (toF ((v - y) % p * i % p) : K.F) = toF (v - y) * toF i := by simp only [K.emod, toF_mul]
            have hs := slope_chord (a := a) hp hq e ti hl
            obtain ⟨c1, c2⟩ := cpt_third hp hq (by omega) hn hs
            have y0 := hp.y0
            have y1 := hp.y1
            have x0 := hp.x0
            have x1 := hp.x1
            have v0 := hq.y0
            have v1 := hq.y1
            have u0 := hq.x0
            have u1 := hq.x1
            have wi : wrap64 (u - x) = u - x := w64 (by clear wl wy; omega) (by clear wl wy; omega)
            have wv : wrap64 (v - y) = v - y := w64 (by clear wi wl wy; omega) (by clear wi wl wy; omega)
            generalize hL : (v - y) % p * i % p = L at *
            obtain ⟨t1, t2⟩ := third_arith p1 hhi ml.1 ml.2 hp.x0 hp.x1 hp.y0 hp.y1 hq.x0 hq.x1
            have mr := md (x := L * L - x - u) p1
            refine ⟨_, _, _, c1, c2, Ev.step (fun k => by rw [spec_l3Add.j0]) ?_⟩
            simp only [if_neg e, wv, wi]
            rw [left_eq (by clear wi wv wl wy; omega) (by clear wi wv wl wy; omega)]
            simp only [Option.bind_some, if_neg (show ¬ p = 0 by clear wi wv wl wy; omega)]
            refine Ev.bind e1 ?_
            rw [wl, t1, left_eq (by clear wi wv wl wy; omega) (by clear wi wv wl wy; omega)]
            simp only [Option.bind_some]
            rw [t2 _ mr.1 mr.2, left_eq (by clear wi wv wl wy; omega) (by clear wi wv wl wy; omega)]
            exact Ev.now _
        refine ⟨r, s, t, h1, h2, ?_⟩
        unfold spec_l3Add.f
        by_cases e : x = u
        · simp only [Bool.false_eq_true, if_false, if_pos e, if_neg (show ¬ p = 0 by clear wy; omega), wy, if_neg (fun t => hn ⟨e, t⟩)]
          exact h3
        · simp only [Bool.false_eq_true, if_false, if_neg e]
          exact h3

theorem specTimes_loop {p a b n gx gy : Int} (h : CNum p a b) (K : Fld p) : ∀ (m E : Nat) (x y u v : Int) (f g : Bool), E ≤ m → E < 9223372036854775808 → CPt p a b K x y f → CPt p a b K u v g →
    ∃ r s t, CPt p a b K r s t ∧ toPt K r s t = (h.grp K).add (toPt K u v g) ((h.grp K).smul E (toPt K x y f)) ∧ Ev (fun k => spec_l3Mul.l0 k (E : Int) p a b n gx gy x y f u v g) (r, s, t) := by
  intro m
  induction m with
  | zero =>
    intro E x y u v f g hE hE' hp hq
    obtain rfl : E = 0 := by omega
    refine ⟨u, v, g, hq, ?_, Ev.step (fun k => by rw [spec_l3Mul.l0]) ?_⟩
    · exact ((h.grp K).add_zero (p := toPt K u v g) hq.pt).symm
    · simp only [if_neg (show ¬ ((0 : Nat) : Int) > 0 by omega)]
      exact Ev.now _
  | succ m ih =>
    intro E x y u v f g hE hE' hp hq
    by_cases h0 : E = 0
    · subst h0; exact ih 0 x y u v f g (by omega) (by omega) hp hq
    · have q0 : (E : Int) > 0 := by omega
      have q2 : wrap64 (Int.tdiv (E : Int) 2) = ((E / 2 : Nat) : Int) := by
        rw [Int.tdiv_eq_ediv_of_nonneg (by omega), w64 (by omega) (by omega)]
        omega
      have q3 : Int.tmod (E : Int) 2 = ((E % 2 : Nat) : Int) := by rw [Int.tmod_eq_emod_of_nonneg (by omega)]; clear q2; omega
      obtain ⟨x2, y2, g2, hp2, f2, e2⟩ := specSum_eq (n := n) (gx := gx) (gy := gy) h K hp hp
      rcases Nat.mod_two_eq_zero_or_one E with hb | hb
      · obtain ⟨r, s, t, hr, fr, er⟩ := ih (E / 2) x2 y2 u v g2 g (by clear q2 q3; omega) (by clear q2 q3; omega) hp2 hq
        refine ⟨r, s, t, hr, ?_, Ev.step (fun k => by rw [spec_l3Mul.l0]) ?_⟩
        · rw [fr, f2]
          have := (h.grp K).step_down (o := toPt K u v g) (p := toPt K x y f) hp.pt (E / 2)
          rw [show 2 * (E / 2) = E by clear q2 q3; omega] at this
          exact this
        · simp only [if_pos q0, q2, q3, hb, if_neg (show ¬ ((0 : Nat) : Int) = 1 by omega)]
          exact Ev.bind e2 er
      · obtain ⟨u2, v2, k2, hq2, c2, d2⟩ := specSum_eq (n := n) (gx := gx) (gy := gy) h K hq hp
        obtain ⟨r, s, t, hr, fr, er⟩ := ih (E / 2) x2 y2 u2 v2 g2 k2 (by clear q2 q3; omega) (by clear q2 q3; omega) hp2 hq2
        refine ⟨r, s, t, hr, ?_, Ev.step (fun k => by rw [spec_l3Mul.l0]) ?_⟩
        · rw [fr, f2, c2]
          have := (h.grp K).step_down1 (o := toPt K u v g) (p := toPt K x y f) hq.pt hp.pt (E / 2)
          rw [show 2 * (E / 2) + 1 = E by clear q2 q3; omega] at this
          exact this
        · simp only [if_pos q0, q2, q3, hb, if_pos (show ((1 : Nat) : Int) = 1 by omega)]
          exact Ev.bind d2 (Ev.bind e2 er)

theorem specTimes_eq {p a b o gx gy n x y : Int} {f : Bool} (h : CNum p a b) (K : Fld p) (hn : 0 ≤ n) (hn' : n ≤ 9223372036854775807) (hp : CPt p a b K x y f) :
    ∃ r s t, CPt p a b K r s t ∧ toPt K r s t = (h.grp K).smul n.toNat (toPt K x y f) ∧ Ev (fun k => spec_l3Mul.f k p a b o gx gy n x y f) (r, s, t) := by
  obtain ⟨E, rfl⟩ : ∃ E : Nat, n = E := ⟨n.toNat, by omega⟩
  obtain ⟨r, s, t, hr, fr, er⟩ := specTimes_loop (n := o) (gx := gx) (gy := gy) h K E E x y 0 0 f true (Nat.le_refl _) (by omega) hp (CPt.zero (by have := h.lo; omega))
  refine ⟨r, s, t, hr, ?_, er⟩
  rw [fr, Int.toNat_natCast]
  exact (h.grp K).zero_add ((h.grp K).on_smul (p := toPt K x y f) hp.pt E)

theorem implSum_eq {p a b n gx gy x y u v : Int} {f g : Bool} (h : CNum p a b) (K : Fld p) (hp : CPt p a b K x y f) (hq : CPt p a b K u v g) :
    ∃ r s t, CPt p a b K r s t ∧ toPt K r s t = Pt.add (toF a) (toPt K x y f) (toPt K u v g) ∧ Ev (fun k => impl_Curve_sum.f k p a b n gx gy x y f u v g) (r, s, t) := by
  have hlo := h.lo
  have hhi := h.hi
  have p1 : 1 ≤ p := by omega
  cases f with
  | true =>
    refine ⟨u, v, g, hq, by simp only [toPt, if_true, Pt.far_add], ?_⟩
    unfold impl_Curve_sum.f
    simp only [if_true]
    exact Ev.now _
  | false =>
    cases g with
    | true =>
      refine ⟨x, y, false, hp, by simp only [toPt, if_true, Bool.false_eq_true, if_false, Pt.add_far], ?_⟩
      unfold impl_Curve_sum.f
      simp only [if_true, Bool.false_eq_true, if_false]
      exact Ev.now _
    | false =>
      have wy : Int.tmod (wrap64 (y + v)) p = (y + v) % p := by
        have := hp.y0; have := hp.y1; have := hq.y0; have := hq.y1
        rw [w64 (by omega) (by omega), Int.tmod_eq_emod_of_nonneg (by omega)]
      by_cases hn : x = u ∧ (y + v) % p = 0
      · refine ⟨0, 0, true, CPt.zero (by omega), cpt_opp hp hq hn, ?_⟩
        unfold impl_Curve_sum.f
        simp only [Bool.false_eq_true, if_false, if_pos hn.1, if_neg (show ¬ p = 0 by omega), wy, if_pos hn.2]
        exact Ev.now _
      · -- the last step, at a slope's two parts
        have tail : ∀ nu de i bi : Int, True → (toF de : K.F) ≠ 0 → (∀ l : Int, ∀ i : Int, (toF i : K.F) = (toF de)⁻¹ → (toF l : K.F) = toF nu * toF i → (toF l : K.F) = slope (toF a) (toF x) (toF y) (toF u) (toF v)) →
            ∃ r s t, CPt p a b K r s t ∧ toPt K r s t = Pt.add (toF a) (toPt K x y false) (toPt K u v false) ∧ Ev (fun k => impl_Curve_sum.j1 k nu de p a b n gx gy x y false u v false) (r, s, t) := by
          intro nu de _ _ _ hne hsl
          obtain ⟨i, bi, i1, e1⟩ := implInv_eq de (m := p) (by omega) (by omega)
          obtain ⟨_, i0, i2, ti⟩ := inv_of K h.prm i1 hne
          have mn := md (x := nu) p1
          have wl := mulm p1 hhi mn.1 mn.2 (Int.le_of_lt i0) i2
          have ml := md (x := nu % p * i) p1
          have hl : (toF (nu % p * i % p) : K.F) = toF nu * toF i := by simp only [K.emod, toF_mul]
          have hs := hsl _ _ ti hl
          obtain ⟨c1, c2⟩ := cpt_third hp hq (by omega) hn hs
          generalize hL : nu % p * i % p = L at *
          obtain ⟨t1, t2⟩ := third_arith p1 hhi ml.1 ml.2 hp.x0 hp.x1 hp.y0 hp.y1 hq.x0 hq.x1
          have mr := md (x := L * L - x - u) p1
          refine ⟨_, _, _, c1, c2, Ev.step (fun k => by rw [impl_Curve_sum.j1]) ?_⟩
          refine Ev.bind e1 ?_
          simp only
          rw [rest_eq (by clear wl wy; omega) (by clear wl wy; omega)]
          simp only [Option.bind_some, if_neg (show ¬ p = 0 by clear wl wy; omega)]
          rw [wl, t1, rest_eq (by clear wl wy; omega) (by clear wl wy; omega)]
          simp only [Option.bind_some]
          rw [t2 _ mr.1 mr.2, rest_eq (by clear wl wy; omega) (by clear wl wy; omega)]
          exact Ev.now _
        obtain ⟨r, s, t, h1, h2, h3⟩ : ∃ r s t, CPt p a b K r s t ∧ toPt K r s t = Pt.add (toF a) (toPt K x y false) (toPt K u v false) ∧ Ev (fun k => impl_Curve_sum.j0 k p a b n gx gy x y false u v false) (r, s, t) := by
          by_cases e : x = u
          · obtain ⟨ey, hne⟩ := dbl_ne hp hq hn e
            obtain ⟨r, s, t, h1, h2, h3⟩ := tail (3 * x * x + a) (2 * y) 0 0 trivial hne (fun l i hi hl => slope_dbl (v := v) (a := a) e hi (by
              have e3 : (toF 3 : K.F) = 3 := toF_nat 3
              rw [hl]
              simp only [toF_mul, toF_add, e3]))
            refine ⟨r, s, t, h1, h2, Ev.step (fun k => by rw [impl_Curve_sum.j0]) ?_⟩
            have x0 := hp.x0
            have x1 := hp.x1
            have y0 := hp.y0
            have y1 := hp.y1
            have a0 := h.a0
            have a1 := h.a1
            obtain ⟨q1, q2⟩ := mm p1 hhi x0 x1 x0 x1
            have e4 : 3 * x * x = 3 * (x * x) := Int.mul_assoc ..
            have w3 : wrap64 (3 * x) = 3 * x := w64 (by clear wy; omega) (by clear wy; omega)
            have w4 : wrap64 (3 * x * x) = 3 * x * x := w64 (by clear wy w3; omega) (by clear wy w3; omega)
            have w5 : wrap64 (3 * x * x + a) = 3 * x * x + a := w64 (by clear wy w3 w4; omega) (by clear wy w3 w4; omega)
            have w6 : wrap64 (2 * y) = 2 * y := w64 (by clear wy w3 w4 w5; omega) (by clear wy w3 w4 w5; omega)
            have hb : (x == u && (y == v && (false == false))) = true := by simp [e, ey]
            simp only [hb, if_true, w3, w4, w5, w6]
            exact h3
          · have hne := chord_ne hp hq e
            obtain ⟨r, s, t, h1, h2, h3⟩ := tail (v - y) (u - x) 0 0 trivial hne (fun l i hi hl => slope_chord (a := a) hp hq e hi hl)
            refine ⟨r, s, t, h1, h2, Ev.step (fun k => by rw [impl_Curve_sum.j0]) ?_⟩
            have x0 := hp.x0
            have x1 := hp.x1
            have y0 := hp.y0
            have y1 := hp.y1
            have v0 := hq.y0
            have v1 := hq.y1
            have u0 := hq.x0
            have u1 := hq.x1
            have w1 : wrap64 (v - y) = v - y := w64 (by clear wy; omega) (by clear wy; omega)
            have w2 : wrap64 (u - x) = u - x := w64 (by clear wy w1; omega) (by clear wy w1; omega)
            have hb : (x == u && (y == v && (false == false))) = false := by simp [e]
            simp only [hb, Bool.false_eq_true, if_false, w1, w2]
            exact h3
        refine ⟨r, s, t, h1, h2, ?_⟩
        unfold impl_Curve_sum.f
        by_cases e : x = u
        · simp only [Bool.false_eq_true, if_false, if_pos e, if_neg (show ¬ p = 0 by clear wy; omega), wy, if_neg (fun t => hn ⟨e, t⟩)]
          exact h3
        · simp only [Bool.false_eq_true, if_false, if_neg e]
          exact h3

theorem implTimes_loop {p a b o gx gy x y : Int} {f : Bool} (h : CNum p a b) (K : Fld p) (hp : CPt p a b K x y f) (E : Nat) (hE : E < 9223372036854775808) : ∀ (n : Nat) (u v : Int) (g : Bool), n ≤ 64 → CPt p a b K u v g →
    toPt K u v g = (h.grp K).smul (E / 2 ^ n) (toPt K x y f) →
    ∃ r s t, CPt p a b K r s t ∧ toPt K r s t = (h.grp K).smul E (toPt K x y f) ∧ Ev (fun k => impl_Curve_times.l0 k (E : Int) ((n : Int) - 1) p a b o gx gy x y f u v g) (r, s, t) := by
  intro n
  induction n with
  | zero =>
    intro u v g _ hq e
    refine ⟨u, v, g, hq, by rw [e, Nat.pow_zero, Nat.div_one], Ev.step (fun k => by rw [impl_Curve_times.l0]) ?_⟩
    simp only [if_neg (show ¬ ((0 : Nat) : Int) - 1 ≥ 0 by omega)]
    exact Ev.now _
  | succ n ih =>
    intro u v g hn hq e
    have st := div_step E n
    obtain ⟨u2, v2, g2, hq2, f2, e2⟩ := implSum_eq (n := o) (gx := gx) (gy := gy) h K hq hq
    have sh : shr .i64 (E : Int) (n : Int) = ((E / 2 ^ n : Nat) : Int) := by
      unfold shr
      rw [Int.toNat_natCast, Nat.min_eq_left (by simp [IntKind.bits]; omega), ← two_pow_int]
      exact (Int.natCast_ediv _ _).symm
    have le : E / 2 ^ n ≤ E := Nat.div_le_self _ _
    have an := and1 (x := ((E / 2 ^ n : Nat) : Int)) (by omega) (by clear st; omega)
    have q0 : ((n + 1 : Nat) : Int) - 1 = (n : Int) := by clear sh an; omega
    have q1 : (n : Int) ≥ 0 := by clear sh an; omega
    have q3 : 0 ≤ (n : Int) := by clear sh an; omega
    have q4 : wrap64 ((n : Int) - 1) = (n : Int) - 1 := by clear sh an; exact w64 (by omega) (by omega)
    rcases Nat.mod_two_eq_zero_or_one (E / 2 ^ n) with hb | hb
    · obtain ⟨r, s, t, hr, fr, er⟩ := ih u2 v2 g2 (by clear sh an q4; omega) hq2 (by
        rw [f2, e, st, hb, Nat.add_zero]
        exact (h.grp K).step_up (p := toPt K x y f) hp.pt _)
      refine ⟨r, s, t, hr, fr, Ev.step (fun k => by rw [impl_Curve_times.l0]) ?_⟩
      simp only [q0, if_pos q1, if_pos q3, sh, an, q4, if_neg (show ¬ ((E / 2 ^ n : Nat) : Int) % 2 = 1 by clear sh an q4; omega)]
      exact Ev.bind e2 er
    · obtain ⟨u3, v3, g3, hq3, f3, e3⟩ := implSum_eq (n := o) (gx := gx) (gy := gy) h K hq2 hp
      obtain ⟨r, s, t, hr, fr, er⟩ := ih u3 v3 g3 (by clear sh an q4; omega) hq3 (by
        rw [f3, f2, e, st, hb]
        exact (h.grp K).step_up1 (p := toPt K x y f) hp.pt _)
      refine ⟨r, s, t, hr, fr, Ev.step (fun k => by rw [impl_Curve_times.l0]) ?_⟩
      simp only [q0, if_pos q1, if_pos q3, sh, an, q4, if_pos (show ((E / 2 ^ n : Nat) : Int) % 2 = 1 by clear sh an q4; omega)]
      exact Ev.bind e2 (Ev.bind e3 er)

theorem implTimes_eq {p a b o gx gy n x y : Int} {f : Bool} (h : CNum p a b) (K : Fld p) (hn : 0 ≤ n) (hn' : n ≤ 9223372036854775807) (hp : CPt p a b K x y f) :
    ∃ r s t, CPt p a b K r s t ∧ toPt K r s t = (h.grp K).smul n.toNat (toPt K x y f) ∧ Ev (fun k => impl_Curve_times.f k p a b o gx gy n x y f) (r, s, t) := by
  obtain ⟨E, rfl⟩ : ∃ E : Nat, n = E := ⟨n.toNat, by omega⟩
  have hl := bl_le (n := E) (k := 64) (by omega)
  obtain ⟨r, s, t, hr, fr, er⟩ := implTimes_loop (o := o) (gx := gx) (gy := gy) h K hp E (by omega) (bl E) 0 0 true hl (CPt.zero (by have := h.lo; omega)) (by
    rw [Nat.div_eq_of_lt (bl_lt E)]
    rfl)
  refine ⟨r, s, t, hr, by rw [fr, Int.toNat_natCast], ?_⟩
  unfold impl_Curve_times.f
  rw [u64w hn (by omega)]
  refine Ev.bind (len_eq hn (by omega)) ?_
  rw [Int.toNat_natCast, w64 (by omega) (by omega)]
  exact er

/-- The test on a point, with no field in sight. -/
def onCur (p a b x y : Int) (f : Bool) : Bool := if f = true then decide (x = 0 ∧ y = 0) else decide (0 ≤ x ∧ x ≤ p - 1) && decide (0 ≤ y ∧ y ≤ p - 1) && decide (y * y % p = ((x * x % p + a) * x + b) % p)

theorem onCur_iff {p a b x y : Int} {f : Bool} (hp : 0 < p) (K : Fld p) : onCur p a b x y f = true ↔ CPt p a b K x y f := by
  unfold onCur
  cases f with
  | true =>
    simp only [if_true, decide_eq_true_iff]
    constructor
    · rintro ⟨rfl, rfl⟩; exact CPt.zero hp
    · intro h; exact h.far rfl
  | false =>
    simp only [Bool.false_eq_true, if_false]
    rw [Bool.and_eq_true, Bool.and_eq_true, decide_eq_true_iff, decide_eq_true_iff, decide_eq_true_iff]
    have key : y * y % p = ((x * x % p + a) * x + b) % p ↔ On (toF a : K.F) (toF b) (toF x) (toF y) := by
      unfold On
      have e1 : (toF (y * y % p) : K.F) = toF y * toF y := by simp only [K.emod, toF_mul]
      have e2 : (toF (((x * x % p + a) * x + b) % p) : K.F) = toF x * toF x * toF x + toF a * toF x + toF b := by simp only [K.emod, toF_mul, toF_add]; grind
      rw [← e1, ← e2]
      constructor
      · intro k; rw [k]
      · intro k
        have b1 := md (x := y * y) (p := p) (by omega)
        have b2 := md (x := (x * x % p + a) * x + b) (p := p) (by omega)
        exact K.inj b1.1 b1.2 b2.1 b2.2 k
    rw [key]
    constructor
    · rintro ⟨⟨⟨a1, b1⟩, c1, e1⟩, f1⟩; exact ⟨fun k => (by cases k), a1, by omega, c1, by omega, fun _ => f1⟩
    · rintro ⟨_, a1, b1, c1, e1, f1⟩; exact ⟨⟨⟨a1, by omega⟩, c1, by omega⟩, f1 rfl⟩

theorem on_arith {p a b x y : Int} (K : Fld p) (hlo : 5 ≤ p) (hhi : p ≤ 1048576) (a0 : 0 ≤ a) (a1 : a < p) (b0 : 0 ≤ b) (b1 : b < p) (x0 : 0 ≤ x) (x1 : x ≤ p - 1) (y0 : 0 ≤ y) (y1 : y ≤ p - 1) :
    Int.tmod (wrap64 (y * y)) p = y * y % p ∧
    Int.tmod (wrap64 (wrap64 (wrap64 (Int.tmod (wrap64 (x * x)) p + a) * x) + b)) p = ((x * x % p + a) * x + b) % p ∧
    Int.tmod (wrap64 (wrap64 (Int.tmod (wrap64 (wrap64 (x * x) + a)) p * x) + b)) p = ((x * x % p + a) * x + b) % p := by
  have p1 : 1 ≤ p := by omega
  have m1 := md (x := x * x) p1
  have m2 := md (x := x * x + a) p1
  obtain ⟨h1, h2⟩ := mm p1 hhi x0 (by omega) x0 (by omega)
  obtain ⟨h3, h4⟩ := mm p1 hhi m1.1 m1.2 x0 (by omega)
  obtain ⟨h5, h6⟩ := mm p1 hhi a0 a1 x0 (by omega)
  obtain ⟨h7, h8⟩ := mm p1 hhi m2.1 m2.2 x0 (by omega)
  have e : (x * x % p + a) * x = x * x % p * x + a * x := Int.add_mul ..
  have same : ((x * x + a) % p * x + b) % p = ((x * x % p + a) * x + b) % p := by
    have k1 := md (x := (x * x + a) % p * x + b) p1
    have k2 := md (x := (x * x % p + a) * x + b) p1
    refine K.inj k1.1 k1.2 k2.1 k2.2 ?_
    simp only [K.emod, toF_mul, toF_add]
  refine ⟨mulm p1 hhi y0 (by omega) y0 (by omega), ?_, ?_⟩
  · rw [mulm p1 hhi x0 (by omega) x0 (by omega), w64 (n := x * x % p + a) (by omega) (by omega), w64 (n := (x * x % p + a) * x) (by omega) (by omega), w64 (by omega) (by omega), Int.tmod_eq_emod_of_nonneg (by omega)]
  · rw [w64 (n := x * x) (by omega) (by omega), w64 (n := x * x + a) (by omega) (by omega), Int.tmod_eq_emod_of_nonneg (a := x * x + a) (by omega), w64 (n := (x * x + a) % p * x) (by omega) (by omega), w64 (by omega) (by omega), Int.tmod_eq_emod_of_nonneg (by omega), same]

theorem implOn_eq {p a b n gx gy x y : Int} {f : Bool} (K : Fld p) (hlo : 5 ≤ p) (hhi : p ≤ 1048576) (a0 : 0 ≤ a) (a1 : a < p) (b0 : 0 ≤ b) (b1 : b < p) : impl_Curve_isPoint.f p a b n gx gy x y f = some (onCur p a b x y f) := by
  unfold impl_Curve_isPoint.f onCur
  cases f with
  | true =>
    simp only [if_true]
    by_cases hx : x = 0
    · by_cases hy : y = 0 <;> simp [hx, hy]
    · simp [hx]
  | false =>
    simp only [Bool.false_eq_true, if_false]
    rw [w64 (n := p - 1) (by omega) (by omega)]
    simp only [within_eq, Option.bind_some]
    by_cases hx : 0 ≤ x ∧ x ≤ p - 1
    · simp only [hx.1, hx.2, and_self, decide_true, if_true, Bool.true_and]
      by_cases hy : 0 ≤ y ∧ y ≤ p - 1
      · simp only [hy.1, hy.2, and_self, decide_true, if_true, Bool.true_and, if_neg (show ¬ p = 0 by omega)]
        obtain ⟨q1, q2, q3⟩ := on_arith K hlo hhi a0 a1 b0 b1 hx.1 hx.2 hy.1 hy.2
        rw [q1, q3]
        rfl
      · simp only [hy, decide_false, Bool.false_and]
        rfl
    · simp only [hx, decide_false, Bool.false_and]
      rfl

/-- A right curve: what is asked ahead of the multiple. -/
structure CurPre (p a b n : Int) : Prop where
  num : CNum p a b
  n0 : 5 ≤ n
  n1 : n ≤ 2097152
  four : p % 4 = 3


theorem specOn_eq {p a b n gx gy x y : Int} {f : Bool} (K : Fld p) (hlo : 5 ≤ p) (hhi : p ≤ 1048576) (a0 : 0 ≤ a) (a1 : a < p) (b0 : 0 ≤ b) (b1 : b < p) : spec_l3On.f p a b n gx gy x y f = some (onCur p a b x y f) := by
  unfold spec_l3On.f onCur
  cases f with
  | true =>
    simp only [if_true]
    by_cases hx : x = 0
    · by_cases hy : y = 0 <;> simp [hx, hy]
    · simp [hx]
  | false =>
    simp only [Bool.false_eq_true, if_false]
    rw [w64 (n := p - 1) (by omega) (by omega)]
    simp only [in_eq, Option.bind_some]
    by_cases hx : 0 ≤ x ∧ x ≤ p - 1
    · simp only [hx.1, hx.2, and_self, decide_true, if_true, Bool.true_and]
      by_cases hy : 0 ≤ y ∧ y ≤ p - 1
      · simp only [hy.1, hy.2, and_self, decide_true, if_true, Bool.true_and, if_neg (show ¬ p = 0 by omega)]
        obtain ⟨q1, q2, q3⟩ := on_arith K hlo hhi a0 a1 b0 b1 hx.1 hx.2 hy.1 hy.2
        rw [q1, q2]
        rfl
      · simp only [hy, decide_false, Bool.false_and]
        rfl
    · simp only [hx, decide_false, Bool.false_and]
      rfl

theorem disc_arith {p a b : Int} (K : Fld p) (hlo : 5 ≤ p) (hhi : p ≤ 1048576) (a0 : 0 ≤ a) (a1 : a < p) (b0 : 0 ≤ b) (b1 : b < p) :
    Int.tmod (wrap64 ((wrap64 ((wrap64 (4 * (Int.tmod (wrap64 (a * a)) p))) * a)) + (wrap64 (27 * (Int.tmod (wrap64 (b * b)) p))))) p = (4 * (a * a % p) * a + 27 * (b * b % p)) % p ∧
    Int.tmod (wrap64 ((wrap64 ((Int.tmod (wrap64 ((wrap64 (4 * a)) * a)) p) * a)) + (wrap64 ((wrap64 (27 * b)) * b)))) p = (4 * (a * a % p) * a + 27 * (b * b % p)) % p := by
  have p1 : 1 ≤ p := by omega
  have m1 := md (x := a * a) p1
  have m2 := md (x := b * b) p1
  have m3 := md (x := 4 * a * a) p1
  obtain ⟨h1, h2⟩ := mm p1 hhi a0 a1 a0 a1
  obtain ⟨h3, h4⟩ := mm p1 hhi b0 b1 b0 b1
  obtain ⟨h5, h6⟩ := mm p1 hhi m1.1 m1.2 a0 a1
  obtain ⟨h7, h8⟩ := mm p1 hhi m3.1 m3.2 a0 a1
  have e1 : 4 * (a * a % p) * a = 4 * (a * a % p * a) := Int.mul_assoc ..
  have e2 : 4 * a * a = 4 * (a * a) := Int.mul_assoc ..
  have e3 : 27 * b * b = 27 * (b * b) := Int.mul_assoc ..
  have same : (4 * a * a % p * a + 27 * b * b) % p = (4 * (a * a % p) * a + 27 * (b * b % p)) % p := by
    have k1 := md (x := 4 * a * a % p * a + 27 * b * b) p1
    have k2 := md (x := 4 * (a * a % p) * a + 27 * (b * b % p)) p1
    refine K.inj k1.1 k1.2 k2.1 k2.2 ?_
    simp only [K.emod, toF_mul, toF_add]
    grind
  constructor
  · rw [mulm p1 hhi a0 a1 a0 a1, mulm p1 hhi b0 b1 b0 b1, w64 (n := 4 * (a * a % p)) (by omega) (by omega), w64 (n := 4 * (a * a % p) * a) (by omega) (by omega), w64 (n := 27 * (b * b % p)) (by omega) (by omega), w64 (by omega) (by omega), Int.tmod_eq_emod_of_nonneg (by omega)]
  · rw [w64 (n := 4 * a) (by omega) (by omega), w64 (n := 4 * a * a) (by omega) (by omega), Int.tmod_eq_emod_of_nonneg (a := 4 * a * a) (by omega), w64 (n := 4 * a * a % p * a) (by omega) (by omega), w64 (n := 27 * b) (by omega) (by omega), w64 (n := 27 * b * b) (by omega) (by omega), w64 (by omega) (by omega), Int.tmod_eq_emod_of_nonneg (by omega), same]

theorem both_cur (p a b n gx gy : Int) (hn : -9223372036854775808 ≤ n ∧ n ≤ 9223372036854775807) : ∃ r, Ev (fun k => spec_CurveOk.f k p a b n gx gy) r ∧ Ev (fun k => impl_CurveOk.f k p a b n gx gy) r ∧
    (r = true → CurPre p a b n ∧ ∀ K : Fld p, CPt p a b K gx gy false) := by
  have sj : Ev (fun k => spec_CurveOk.j0 k true p a b n gx gy) false := Ev.step (fun k => by rw [spec_CurveOk.j0]) (by simp only [if_true]; exact Ev.now _)
  have ij : Ev (fun k => impl_CurveOk.j0 k true p a b n gx gy) false := Ev.step (fun k => by rw [impl_CurveOk.j0]) (by simp only [if_true]; exact Ev.now _)
  have ij1 : Ev (fun k => impl_CurveOk.j1 k true p a b n gx gy) false := Ev.step (fun k => by rw [impl_CurveOk.j1]) (by simp only [if_true]; exact Ev.now _)
  unfold spec_CurveOk.f impl_CurveOk.f
  simp only [in_eq, within_eq, Option.bind_some]
  by_cases hp : 5 ≤ p ∧ p ≤ 1048576
  · have hlo := hp.1
    have hhi := hp.2
    have w1 : wrap64 (p - 1) = p - 1 := w64 (by omega) (by omega)
    have t4 : Int.tmod p 4 = p % 4 := Int.tmod_eq_emod_of_nonneg (by clear w1; omega)
    simp only [hp.1, hp.2, and_self, decide_true, if_true, w1, t4]
    clear t4
    by_cases h4 : p % 4 = 3
    · simp only [if_pos h4]
      obtain ⟨bp, bp1, bp2, sp, ip⟩ := primes_eq p
      obtain ⟨bq, bq1, bq2, sq, iq⟩ := primes_eq n
      by_cases ha : 0 ≤ a ∧ a ≤ p - 1
      · by_cases hb : 0 ≤ b ∧ b ≤ p - 1
        · by_cases hl : 5 ≤ n ∧ n ≤ 2097152
          · simp only [ha.1, ha.2, hb.1, hb.2, hl.1, hl.2, and_self, decide_true, if_true]
            cases bp with
            | false =>
              refine ⟨false, Ev.bind sp ?_, Ev.bind ip ?_, fun k => by cases k⟩
              · simpa using sj
              · simpa using ij
            | true =>
              cases bq with
              | false =>
                refine ⟨false, Ev.bind sp ?_, Ev.bind ip ?_, fun k => by cases k⟩
                · simp only [if_true]
                  exact Ev.bind sq (by simpa using sj)
                · simp only [if_true]
                  exact Ev.bind iq (by simpa using ij)
              | true =>
                have hP := bp1 rfl
                obtain ⟨K⟩ := fldOf_exists hP
                have a1 : a < p := by clear w1; omega
                have b1 : b < p := by clear w1; omega
                obtain ⟨d1, d2⟩ := disc_arith K hlo hhi ha.1 a1 hb.1 b1
                have so := specOn_eq (n := n) (gx := gx) (gy := gy) (x := gx) (y := gy) (f := false) K hlo hhi ha.1 a1 hb.1 b1
                have io := implOn_eq (n := n) (gx := gx) (gy := gy) (x := gx) (y := gy) (f := false) K hlo hhi ha.1 a1 hb.1 b1
                have pn : ¬ p = 0 := by clear w1 d1 d2; omega
                obtain ⟨r, e1, e2, hr⟩ : ∃ r, Ev (fun k => spec_CurveOk.j0 k false p a b n gx gy) r ∧ Ev (fun k => impl_CurveOk.j0 k false p a b n gx gy) r ∧ (r = true → CNum p a b ∧ onCur p a b gx gy false = true) := by
                  by_cases hd : (4 * (a * a % p) * a + 27 * (b * b % p)) % p = 0
                  · refine ⟨false, Ev.step (fun k => by rw [spec_CurveOk.j0]) ?_, Ev.step (fun k => by rw [impl_CurveOk.j0]) ?_, fun k => by cases k⟩
                    · simp only [Bool.false_eq_true, if_false, if_neg pn, d1, hd, if_true]
                      exact Ev.now _
                    · simp only [Bool.false_eq_true, if_false, if_neg pn, d2, hd, if_true]
                      exact ij1
                  · have hN : CNum p a b := ⟨hP, hlo, hhi, ha.1, a1, hb.1, b1, hd⟩
                    cases ho : onCur p a b gx gy false with
                    | false =>
                      refine ⟨false, Ev.step (fun k => by rw [spec_CurveOk.j0]) ?_, Ev.step (fun k => by rw [impl_CurveOk.j0]) ?_, fun k => by cases k⟩
                      · simp only [Bool.false_eq_true, if_false, if_neg pn, d1, if_neg hd, so, ho, Option.bind_some]
                        exact Ev.now _
                      · simp only [Bool.false_eq_true, if_false, if_neg pn, d2, if_neg hd, impl_Curve_base.f, io, ho, Option.bind_some]
                        exact ij1
                    | true =>
                      have hb' := (onCur_iff (by clear w1 d1 d2; omega) K).1 ho
                      obtain ⟨r, s, t, hr, fr, er⟩ := specTimes_eq (o := n) (gx := gx) (gy := gy) (n := n) hN K (by clear w1 d1 d2; omega) hn.2 hb'
                      obtain ⟨r', s', t', hr', fr', er'⟩ := implTimes_eq (o := n) (gx := gx) (gy := gy) (n := n) hN K (by clear w1 d1 d2; omega) hn.2 hb'
                      obtain ⟨rfl, rfl, rfl⟩ := hr.same hr' (by rw [fr, fr'])
                      refine ⟨t, Ev.step (fun k => by rw [spec_CurveOk.j0]) ?_, Ev.step (fun k => by rw [impl_CurveOk.j0]) ?_, fun _ => ⟨hN, rfl⟩⟩
                      · simp only [Bool.false_eq_true, if_false, if_neg pn, d1, if_neg hd, so, ho, Option.bind_some, if_true]
                        exact Ev.bind er (Ev.now _)
                      · simp only [Bool.false_eq_true, if_false, if_neg pn, d2, if_neg hd, impl_Curve_base.f, io, ho, Option.bind_some, Bool.not_true]
                        refine Ev.step (fun k => by rw [impl_CurveOk.j1]) ?_
                        simp only [Bool.false_eq_true, if_false, impl_Curve_base.f, Option.bind_some]
                        exact Ev.bind er' (Ev.now _)
                refine ⟨r, Ev.bind sp ?_, Ev.bind ip ?_, fun k => ⟨⟨(hr k).1, hl.1, hl.2, h4⟩, fun K' => (onCur_iff (by clear w1 d1 d2; omega) K').1 (hr k).2⟩⟩
                · simp only [if_true]
                  exact Ev.bind sq (by simpa using e1)
                · simp only [if_true]
                  exact Ev.bind iq (by simpa using e2)
          · refine ⟨false, Ev.bind sp ?_, ?_, fun k => by cases k⟩
            · cases bp with
              | false => simpa using sj
              | true => simp only [if_true, ha.1, ha.2, hb.1, hb.2, and_self, decide_true, hl, decide_false]; simpa using sj
            · simp only [ha.1, ha.2, hb.1, hb.2, and_self, decide_true, if_true, hl, decide_false]
              simpa using ij
        · refine ⟨false, Ev.bind sp ?_, ?_, fun k => by cases k⟩
          · cases bp with
            | false => simpa using sj
            | true => simp only [if_true, ha.1, ha.2, and_self, decide_true, hb, decide_false]; simpa using sj
          · simp only [ha.1, ha.2, and_self, decide_true, if_true, hb, decide_false]
            simpa using ij
      · refine ⟨false, Ev.bind sp ?_, ?_, fun k => by cases k⟩
        · cases bp with
          | false => simpa using sj
          | true => simp only [if_true, ha, decide_false]; simpa using sj
        · simp only [ha, decide_false]
          simpa using ij
    · simp only [if_neg h4]
      exact ⟨false, sj, ij, fun k => by cases k⟩
  · simp only [hp, decide_false]
    exact ⟨false, by simpa using sj, by simpa using ij, fun k => by cases k⟩

theorem both_pt (p a b n gx gy x y : Int) (f : Bool) (hn : -9223372036854775808 ≤ n ∧ n ≤ 9223372036854775807) : ∃ r, Ev (fun k => spec_PointOk.f k p a b n gx gy x y f) r ∧ Ev (fun k => impl_PointOk.f k p a b n gx gy x y f) r ∧
    (r = true → CurPre p a b n ∧ ∀ K : Fld p, CPt p a b K gx gy false ∧ CPt p a b K x y f) := by
  obtain ⟨r, e1, e2, h⟩ := both_cur p a b n gx gy hn
  unfold spec_PointOk.f impl_PointOk.f
  cases r with
  | false =>
    refine ⟨false, Ev.bind e1 ?_, Ev.bind e2 ?_, fun k => by cases k⟩
    · simpa using Ev.now false
    · simpa using Ev.now false
  | true =>
    obtain ⟨hp, hg⟩ := h rfl
    obtain ⟨K⟩ := fldOf_exists hp.num.prm
    have so := specOn_eq (n := n) (gx := gx) (gy := gy) (x := x) (y := y) (f := f) K hp.num.lo hp.num.hi hp.num.a0 hp.num.a1 hp.num.b0 hp.num.b1
    have io := implOn_eq (n := n) (gx := gx) (gy := gy) (x := x) (y := y) (f := f) K hp.num.lo hp.num.hi hp.num.a0 hp.num.a1 hp.num.b0 hp.num.b1
    refine ⟨onCur p a b x y f, Ev.bind e1 ?_, Ev.bind e2 ?_, fun k => ⟨hp, fun K' => ⟨hg K', (onCur_iff (by have := hp.num.lo; omega) K').1 k⟩⟩⟩
    · simp only [if_true, so, Option.bind_some]
      exact Ev.now _
    · simp only [if_true, io, Option.bind_some]
      exact Ev.now _

theorem or_comm' (k : IntKind) (x y : Int) : Go.bits .or k x y = Go.bits .or k y x := by
  unfold Go.bits
  simp only [BitVec.or_comm]

/-- What has no bit in common is joined by a sum. -/
theorem orI {x y : Int} (i : Nat) (hi : i ≤ 60) (x0 : 0 ≤ x) (hx : x % 2 ^ i = 0) (x1 : x < 1152921504606846976) (y0 : 0 ≤ y) (hy : y < 2 ^ i) : Go.bits .or .i64 x y = x + y := by
  have h2 : (2 : Int) ^ i ≤ 2 ^ 60 := by
    have := Nat.pow_le_pow_right (show 0 < 2 by omega) hi
    rw [← two_pow_int, ← two_pow_int]
    exact_mod_cast this
  have e60 : (2 : Int) ^ 60 = 1152921504606846976 := by decide
  exact bits_join .i64 63 (by decide) (fun n a b => by rw [IntKind.wrap_i64]; omega) i x y x0 hx (by omega) y0 hy (by omega)

theorem strOf_inj {a b : List Int} (ha : ∀ x ∈ a, 0 ≤ x ∧ x ≤ 255) (hb : ∀ x ∈ b, 0 ≤ x ∧ x ≤ 255) : (strOfNums a).toList = (strOfNums b).toList ↔ a = b := by
  constructor
  · intro h
    have h2 : (strOfNums a).data.toList = (strOfNums b).data.toList := by
      rw [Go.ByteArray.toList_eq, Go.ByteArray.toList_eq] at h
      exact h
    rw [strOfNums_data, strOfNums_data] at h2
    apply List.ext_getElem (by have := congrArg List.length h2; simpa using this)
    intro i h3 h4
    have h5 := List.getElem_of_eq h2 (i := i) (by simpa using h3)
    simp only [List.getElem_map] at h5
    have b1 := ha _ (List.getElem_mem h3)
    have b2 := hb _ (List.getElem_mem h4)
    have h6 := congrArg UInt8.toNat h5
    simp only [UInt8.toNat_ofNat'] at h6
    omega
  · intro h; rw [h]

theorem bytesEqual_eq {a b : List Int} (ha : ∀ x ∈ a, 0 ≤ x ∧ x ≤ 255) (hb : ∀ x ∈ b, 0 ≤ x ∧ x ≤ 255) : bytes_Equal.f a b = some (decide (a = b)) := by
  unfold bytes_Equal.f
  congr 1
  rw [Bool.eq_iff_iff]
  simp only [beq_iff_eq, decide_eq_true_iff]
  exact strOf_inj ha hb

/-- The roots of a number by a prime. -/
theorem two_roots {p x z : Int} (hp : Prm p) (x0 : 0 ≤ x) (x1 : x < p) (z0 : 0 ≤ z) (z1 : z < p) (h : x * x % p = z * z % p) : z = x ∨ z + x = p ∨ (z = 0 ∧ x = 0) := by
  have hd : p ∣ (x - z) * (x + z) := by
    have e : (x - z) * (x + z) = x * x - z * z := by grind
    rw [e]
    exact Int.dvd_of_emod_eq_zero (by rw [Int.sub_emod, h, Int.sub_self, Int.zero_emod])
  rcases hp.mul hd with k | k
  · left
    have := Int.eq_zero_of_dvd_of_natAbs_lt_natAbs k (by omega)
    omega
  · right
    obtain ⟨c, hc⟩ := k
    have : c = 0 ∨ c = 1 := by
      rcases Int.lt_or_le c 0 with k1 | k1
      · exfalso
        have : p * c ≤ p * (-1) := Int.mul_le_mul_of_nonneg_left (by omega) (by omega)
        omega
      · rcases Int.lt_or_le 1 c with k2 | k2
        · exfalso
          have : p * 2 ≤ p * c := Int.mul_le_mul_of_nonneg_left (by omega) (by omega)
          omega
        · omega
    rcases this with rfl | rfl
    · right; omega
    · left; omega

theorem neg_mod {p x : Int} (x0 : 0 < x) (x1 : x < p) : (-x) % p = p - x := by
  have : -x = (p - x) + p * (-1) := by omega
  rw [this, Int.add_mul_emod_self_left, Int.emod_eq_of_lt (by omega) (by omega)]


theorem ofThree {a b c : Int} {l : List Int} (a0 : 0 ≤ a) (a1 : a ≤ 255) (b0 : 0 ≤ b) (b1 : b ≤ 255) (c0 : 0 ≤ c) (c1 : c ≤ 255) : impl_ofThree.f (a :: b :: c :: l) = some (a * 65536 + b * 256 + c) := by
  have r0 : rd (a :: b :: c :: l) 0 = a := rfl
  have r1 : rd (a :: b :: c :: l) 1 = b := rfl
  have r2 : rd (a :: b :: c :: l) 2 = c := rfl
  unfold impl_ofThree.f
  rw [if_pos (by simp only [List.length_cons]; omega), if_pos (by simp only [List.length_cons]; omega), if_pos (by simp only [List.length_cons]; omega), r0, r1, r2, w64 (n := a) (by omega) (by omega), w64 (n := b) (by omega) (by omega), w64 (n := c) (by omega) (by omega), w64 (n := a * 65536) (by omega) (by omega), w64 (n := b * 256) (by omega) (by omega),
    orI (x := a * 65536) (y := b * 256) 16 (by omega) (by omega) (by omega) (by omega) (by omega) (by omega), orI (x := a * 65536 + b * 256) (y := c) 8 (by omega) (by omega) (by omega) (by omega) (by omega) (by omega)]

theorem three_inv {X a b c : Int} (x0 : 0 ≤ X) (x1 : X < 16777216) (a0 : 0 ≤ a) (a1 : a ≤ 255) (b0 : 0 ≤ b) (b1 : b ≤ 255) (c0 : 0 ≤ c) (c1 : c ≤ 255) (h : X = a * 65536 + b * 256 + c) : X / 65536 % 256 = a ∧ X / 256 % 256 = b ∧ X % 256 = c := by omega

/-- A point's bytes. -/
def ptBytes (x y : Int) (f c : Bool) : List Int :=
  if f = true then [0] else if c = true then [2 + y % 2, x / 65536 % 256, x / 256 % 256, x % 256] else [4, x / 65536 % 256, x / 256 % 256, x % 256, y / 65536 % 256, y / 256 % 256, y % 256]

theorem implBytes_eq {x y : Int} {f c : Bool} (y0 : 0 ≤ y) : impl_pointBytes.f x y f c = some (ptBytes x y f c) := by
  unfold impl_pointBytes.f ptBytes impl_three.f
  have e : wrap64 (2 + Int.tmod y 2) % 256 = 2 + y % 2 := by
    rw [Int.tmod_eq_emod_of_nonneg y0, w64 (by omega) (by omega)]
    omega
  cases f with
  | true => simp
  | false =>
    cases c with
    | true =>
      simp only [Bool.false_eq_true, if_false, if_true, Option.bind_some, e]
      simp
    | false => simp

theorem ptBytes_byte {x y : Int} {f c : Bool} : ∀ z ∈ ptBytes x y f c, 0 ≤ z ∧ z ≤ 255 := by
  intro z hz
  unfold ptBytes at hz
  cases f with
  | true => simp at hz; omega
  | false =>
    cases c with
    | true =>
      simp only [Bool.false_eq_true, if_false, if_true, List.mem_cons, List.not_mem_nil, or_false] at hz
      rcases hz with rfl | rfl | rfl | rfl <;> omega
    | false =>
      simp only [Bool.false_eq_true, if_false, List.mem_cons, List.not_mem_nil, or_false] at hz
      rcases hz with rfl | rfl | rfl | rfl | rfl | rfl | rfl <;> omega

theorem onCur_nonneg {p a b x y : Int} {f : Bool} (h : onCur p a b x y f = true) : 0 ≤ x ∧ 0 ≤ y := by
  unfold onCur at h
  cases f with
  | true => simp at h; omega
  | false => simp at h; omega

/-- What stands behind the reading: the point is asked, and its bytes. -/
def readEnd (p a b x y : Int) (f : Bool) (bs : List Int) : Int × Int × Bool × Bool :=
  if onCur p a b x y f = true then (if ptBytes x y f ((bs.length : Int) == 4) = bs then (x, y, f, true) else (0, 0, false, false)) else (0, 0, false, false)

theorem implEnd {p a b n gx gy x y : Int} {f : Bool} {bs : List Int} (hb : ∀ x ∈ bs, 0 ≤ x ∧ x ≤ 255) (K : Fld p) (h : CNum p a b) : Ev (fun k => impl_Curve_pointRead.j0 k bs p a b n gx gy x y f) (readEnd p a b x y f bs) := by
  refine Ev.step (fun k => by rw [impl_Curve_pointRead.j0]) ?_
  simp only [implOn_eq K h.lo h.hi h.a0 h.a1 h.b0 h.b1, Option.bind_some]
  unfold readEnd
  by_cases h1 : onCur p a b x y f = true
  · simp only [if_pos h1, implBytes_eq (onCur_nonneg h1).2, Option.bind_some]
    rw [bytesEqual_eq ptBytes_byte hb]
    simp only [Option.bind_some]
    by_cases h2 : ptBytes x y f ((bs.length : Int) == 4) = bs
    · simp only [h2, decide_true, if_true]; exact Ev.now _
    · simp only [h2, decide_false, if_false, Bool.false_eq_true]; exact Ev.now _
  · simp only [if_neg h1]; exact Ev.now _

/-- What the reading of four bytes comes to. -/
theorem implFour (p a b n gx gy : Int) (hE : CurPre p a b n) (K : Fld p) {t a1 b1 c1 : Int} (hb : ∀ x ∈ [t, a1, b1, c1], 0 ≤ x ∧ x ≤ 255) :
    Ev (fun k => impl_Curve_pointRead.f k p a b n gx gy [t, a1, b1, c1]) (0, 0, false, false) ∧ ¬ a1 * 65536 + b1 * 256 + c1 ≤ p - 1 ∨
    ∃ W r bb, (((a1 * 65536 + b1 * 256 + c1) * (a1 * 65536 + b1 * 256 + c1) % p + a) * (a1 * 65536 + b1 * 256 + c1) + b) % p = W ∧ RootIs W p r bb ∧
      Ev (fun k => impl_Curve_pointRead.f k p a b n gx gy [t, a1, b1, c1]) (if bb = true then readEnd p a b (a1 * 65536 + b1 * 256 + c1) (if r % 2 = t % 2 then r else (p - r) % p) false [t, a1, b1, c1] else (0, 0, false, false)) := by
  have hN := hE.num
  have hlo := hN.lo
  have hhi := hN.hi
  have p1 : 1 ≤ p := by omega
  have h4 : (([t, a1, b1, c1] : List Int).length : Int) = 4 := by simp
  have fin := fun x y f => implEnd (n := n) (gx := gx) (gy := gy) (x := x) (y := y) (f := f) hb K hN
  obtain ⟨t0, t1⟩ := hb t (by simp)
  obtain ⟨p0, p2⟩ := hb a1 (by simp)
  obtain ⟨q0, q2⟩ := hb b1 (by simp)
  obtain ⟨r0, r2⟩ := hb c1 (by simp)
  have i1 : impl_ofThree.f (([t, a1, b1, c1] : List Int).drop 1) = some (a1 * 65536 + b1 * 256 + c1) := ofThree p0 p2 q0 q2 r0 r2
  obtain ⟨X, hX⟩ : ∃ X, a1 * 65536 + b1 * 256 + c1 = X := ⟨_, rfl⟩
  rw [hX] at i1 ⊢
  have x0 : 0 ≤ X := by omega
  have n1 : ¬ (([t, a1, b1, c1] : List Int).length : Int) = 1 := by simp
  have n7 : ¬ (([t, a1, b1, c1] : List Int).length : Int) = 7 := by simp
  have rt : rd [t, a1, b1, c1] 0 = t := rfl
  have l0 : 0 < (([t, a1, b1, c1] : List Int).length : Int) := by simp
  have l1 : 1 ≤ (([t, a1, b1, c1] : List Int).length : Int) := by simp
  by_cases hge : X ≥ p
  · left
    refine ⟨?_, by omega⟩
    unfold impl_Curve_pointRead.f
    simp only [if_neg n1, if_neg n7, if_pos h4, if_pos l1, i1, Option.bind_some, if_pos hge]
    exact Ev.now _
  right
  have x1 : X ≤ p - 1 := by omega
  have hnz : ¬ p = 0 := by omega
  obtain ⟨_, q5, q6⟩ := on_arith K hlo hhi hN.a0 hN.a1 hN.b0 hN.b1 x0 x1 (Int.le_refl 0) (show (0 : Int) ≤ p - 1 by omega)
  have Wb := md (x := (X * X % p + a) * X + b) p1
  obtain ⟨W, hW⟩ : ∃ W, ((X * X % p + a) * X + b) % p = W := ⟨_, rfl⟩
  rw [hW] at q5 q6 Wb
  obtain ⟨r, bb, hr⟩ := rootIs_exists W (p := p) (by omega)
  have ri := implRoot_eq hN.prm (by omega) hhi Wb.1 Wb.2 hr
  have eR : wrap64 (p - r) = p - r := by
    rcases hr with ⟨_, h1, h2, _⟩ | ⟨_, h1, _⟩ <;> exact w64 (by omega) (by omega)
  have eU : Int.tmod (wrap64 t) 2 = t % 2 := by clear eR; rw [w64 (n := t) (by omega) (by omega), Int.tmod_eq_emod_of_nonneg t0]
  have rb : 0 ≤ r ∧ r < p := by
    clear eR eU
    rcases hr with ⟨_, h1, h2, _⟩ | ⟨_, h1, _⟩ <;> omega
  have tm3 : Int.tmod r 2 = r % 2 := Int.tmod_eq_emod_of_nonneg rb.1
  have tm4 : Int.tmod (p - r) p = (p - r) % p := by clear eR eU tm3; exact Int.tmod_eq_emod_of_nonneg (by omega)
  refine ⟨W, r, bb, hW, hr, ?_⟩
  unfold impl_Curve_pointRead.f
  simp only [if_neg n1, if_neg n7, if_pos h4, if_pos l1, i1, Option.bind_some, if_neg hge, if_neg hnz, q6]
  refine Ev.bind ri ?_
  cases bb with
  | false => simp only [Bool.false_eq_true, if_false]; exact Ev.now _
  | true =>
    simp only [if_true, if_pos l0, rt, eU, tm3, eR, tm4]
    by_cases k : r % 2 = t % 2
    · simp only [if_pos k]; exact fin _ _ _
    · simp only [if_neg k]; exact fin _ _ _

/-- .. of seven. -/
theorem implSeven (p a b n gx gy : Int) (hE : CurPre p a b n) (K : Fld p) {t a1 b1 c1 a2 b2 c2 : Int} (hb : ∀ x ∈ [t, a1, b1, c1, a2, b2, c2], 0 ≤ x ∧ x ≤ 255) :
    Ev (fun k => impl_Curve_pointRead.f k p a b n gx gy [t, a1, b1, c1, a2, b2, c2]) (readEnd p a b (a1 * 65536 + b1 * 256 + c1) (a2 * 65536 + b2 * 256 + c2) false [t, a1, b1, c1, a2, b2, c2]) := by
  obtain ⟨p0, p2⟩ := hb a1 (by simp)
  obtain ⟨q0, q2⟩ := hb b1 (by simp)
  obtain ⟨r0, r2⟩ := hb c1 (by simp)
  obtain ⟨u0, u2⟩ := hb a2 (by simp)
  obtain ⟨v0, v2⟩ := hb b2 (by simp)
  obtain ⟨w0, w2⟩ := hb c2 (by simp)
  have i1 : impl_ofThree.f (([t, a1, b1, c1, a2, b2, c2] : List Int).drop 1) = some (a1 * 65536 + b1 * 256 + c1) := ofThree p0 p2 q0 q2 r0 r2
  have i2 : impl_ofThree.f (([t, a1, b1, c1, a2, b2, c2] : List Int).drop 4) = some (a2 * 65536 + b2 * 256 + c2) := ofThree u0 u2 v0 v2 w0 w2
  unfold impl_Curve_pointRead.f
  simp only [if_neg (show ¬ (([t, a1, b1, c1, a2, b2, c2] : List Int).length : Int) = 1 by simp), if_pos (show (([t, a1, b1, c1, a2, b2, c2] : List Int).length : Int) = 7 by simp), if_pos (show (1 : Int) ≤ (([t, a1, b1, c1, a2, b2, c2] : List Int).length : Int) by simp), if_pos (show (4 : Int) ≤ (([t, a1, b1, c1, a2, b2, c2] : List Int).length : Int) by simp), i1, i2, Option.bind_some]
  exact implEnd hb K hE.num

/-- What a reading says. -/
def Said (p a b : Int) (bs : List Int) (z : Int × Int × Bool × Bool) : Prop :=
  (z = (0, 0, false, false)) ∨ ∃ x y f, z = (x, y, f, true) ∧ onCur p a b x y f = true ∧ ptBytes x y f ((bs.length : Int) == 4) = bs

theorem readEnd_said (p a b x y : Int) (f : Bool) (bs : List Int) : Said p a b bs (readEnd p a b x y f bs) := by
  unfold readEnd Said
  by_cases h1 : onCur p a b x y f = true
  · by_cases h2 : ptBytes x y f ((bs.length : Int) == 4) = bs
    · rw [if_pos h1, if_pos h2]
      exact .inr ⟨x, y, f, rfl, h1, h2⟩
    · rw [if_pos h1, if_neg h2]
      exact .inl rfl
  · rw [if_neg h1]
    exact .inl rfl

theorem implRead_any (p a b n gx gy : Int) (hE : CurPre p a b n) (bs : List Int) (hb : ∀ x ∈ bs, 0 ≤ x ∧ x ≤ 255) :
    ∃ z, Ev (fun k => impl_Curve_pointRead.f k p a b n gx gy bs) z ∧ Said p a b bs z := by
  obtain ⟨K⟩ := fldOf_exists hE.num.prm
  have fin := fun x y f => implEnd (n := n) (gx := gx) (gy := gy) (x := x) (y := y) (f := f) hb K hE.num
  by_cases h1 : (bs.length : Int) = 1
  · refine ⟨readEnd p a b 0 0 true bs, ?_, readEnd_said ..⟩
    unfold impl_Curve_pointRead.f
    simp only [if_pos h1]
    exact fin 0 0 true
  by_cases h7 : (bs.length : Int) = 7
  · obtain ⟨t, a1, b1, c1, a2, b2, c2, rfl⟩ : ∃ t a1 b1 c1 a2 b2 c2, bs = [t, a1, b1, c1, a2, b2, c2] := by
      match bs, h7 with
      | [t, a1, b1, c1, a2, b2, c2], _ => exact ⟨t, a1, b1, c1, a2, b2, c2, rfl⟩
      | [], h => simp at h
      | [_], h => simp at h
      | [_, _], h => simp at h
      | [_, _, _], h => simp at h
      | [_, _, _, _], h => simp at h
      | [_, _, _, _, _], h => simp at h
      | [_, _, _, _, _, _], h => simp at h
      | _ :: _ :: _ :: _ :: _ :: _ :: _ :: _ :: _, h => simp at h; omega
    exact ⟨_, implSeven p a b n gx gy hE K hb, readEnd_said ..⟩
  by_cases h4 : (bs.length : Int) = 4
  · obtain ⟨t, a1, b1, c1, rfl⟩ : ∃ t a1 b1 c1, bs = [t, a1, b1, c1] := by
      match bs, h4 with
      | [t, a1, b1, c1], _ => exact ⟨t, a1, b1, c1, rfl⟩
      | [], h => simp at h
      | [_], h => simp at h
      | [_, _], h => simp at h
      | [_, _, _], h => simp at h
      | _ :: _ :: _ :: _ :: _ :: _, h => simp at h; omega
    rcases implFour p a b n gx gy hE K hb with ⟨h, _⟩ | ⟨W, r, bb, _, _, h⟩
    · exact ⟨_, h, .inl rfl⟩
    · refine ⟨_, h, ?_⟩
      cases bb with
      | false => exact .inl (by simp)
      | true => simp only [if_true]; exact readEnd_said ..
  · refine ⟨readEnd p a b 0 0 false bs, ?_, readEnd_said ..⟩
    unfold impl_Curve_pointRead.f
    simp only [if_neg h1, if_neg h7, if_neg h4]
    exact fin 0 0 false

theorem three_back {x : Int} (x0 : 0 ≤ x) (x1 : x < 16777216) : x / 65536 % 256 * 65536 + x / 256 % 256 * 256 + x % 256 = x := by omega

/-- A POINT COMES BACK FROM ITS BYTES. -/
theorem implRead_back (p a b n gx gy : Int) (hE : CurPre p a b n) {x y : Int} {f : Bool} (c : Bool) (ho : onCur p a b x y f = true) :
    Ev (fun k => impl_Curve_pointRead.f k p a b n gx gy (ptBytes x y f c)) (x, y, f, true) := by
  have hN := hE.num
  have hlo := hN.lo
  have hhi := hN.hi
  obtain ⟨K⟩ := fldOf_exists hN.prm
  have hb := ptBytes_byte (x := x) (y := y) (f := f) (c := c)
  cases f with
  | true =>
    have hz : x = 0 ∧ y = 0 := by unfold onCur at ho; simpa using ho
    obtain ⟨rfl, rfl⟩ := hz
    have e : readEnd p a b 0 0 true (ptBytes 0 0 true c) = (0, 0, true, true) := by
      unfold readEnd
      rw [if_pos ho, if_pos (by unfold ptBytes; simp)]
    have h1 : ((ptBytes 0 0 true c).length : Int) = 1 := by unfold ptBytes; simp
    unfold impl_Curve_pointRead.f
    simp only [if_pos h1]
    rw [← e]
    exact implEnd hb K hN
  | false =>
    have hx : 0 ≤ x ∧ x ≤ p - 1 ∧ 0 ≤ y ∧ y ≤ p - 1 ∧ y * y % p = ((x * x % p + a) * x + b) % p := by
      unfold onCur at ho
      simp only [Bool.false_eq_true, if_false, Bool.and_eq_true, decide_eq_true_iff] at ho
      exact ⟨ho.1.1.1, ho.1.1.2, ho.1.2.1, ho.1.2.2, ho.2⟩
    obtain ⟨x0, x1, y0, y1, hy⟩ := hx
    cases c with
    | false =>
      have eb : ptBytes x y false false = [4, x / 65536 % 256, x / 256 % 256, x % 256, y / 65536 % 256, y / 256 % 256, y % 256] := by unfold ptBytes; simp
      have e : readEnd p a b x y false (ptBytes x y false false) = (x, y, false, true) := by
        unfold readEnd
        rw [if_pos ho, if_pos (by rw [eb]; simp [ptBytes])]
      have h := implSeven p a b n gx gy hE K (t := 4) (a1 := x / 65536 % 256) (b1 := x / 256 % 256) (c1 := x % 256) (a2 := y / 65536 % 256) (b2 := y / 256 % 256) (c2 := y % 256) (by rw [← eb]; exact hb)
      rw [three_back x0 (by omega), three_back y0 (by omega), ← eb, e] at h
      exact h
    | true =>
      have eb : ptBytes x y false true = [2 + y % 2, x / 65536 % 256, x / 256 % 256, x % 256] := by unfold ptBytes; simp
      have e : readEnd p a b x y false (ptBytes x y false true) = (x, y, false, true) := by
        unfold readEnd
        rw [if_pos ho, if_pos (by rw [eb]; simp [ptBytes])]
      have h := implFour p a b n gx gy hE K (t := 2 + y % 2) (a1 := x / 65536 % 256) (b1 := x / 256 % 256) (c1 := x % 256) (by rw [← eb]; exact hb)
      rw [three_back x0 (by omega), ← eb] at h
      rcases h with ⟨_, h⟩ | ⟨W, r, bb, hW, hr, h⟩
      · omega
      · rw [← hW, ← hy] at hr
        rcases hr with ⟨rfl, r0, r1, hr, _⟩ | ⟨_, _, hr⟩
        · have hodd := prm_odd hN.prm (by omega)
          have hY : (if r % 2 = (2 + y % 2) % 2 then r else (p - r) % p) = y := by
            rcases two_roots (x := r) (z := y) hN.prm r0 r1 y0 (by omega) hr with h1 | h1 | ⟨h1, h2⟩
            · subst h1
              rw [if_pos (by omega)]
            · rw [if_neg (by omega), Int.emod_eq_of_lt (by omega) (by omega)]
              omega
            · subst h1 h2
              simp
          rw [hY, e] at h
          simpa using h
        · exact absurd rfl (hr y y0 (by omega))

theorem both_bytes (p a b n gx gy x y : Int) (f c : Bool) (hn : -9223372036854775808 ≤ n ∧ n ≤ 9223372036854775807) : ∃ r t, r.length ≤ 7 ∧ (∀ z ∈ r, 0 ≤ z ∧ z ≤ 255) ∧ Ev (fun k => spec_PointBytes.f k p a b n gx gy x y f c) (r, t) ∧ Ev (fun k => impl_PointBytes.f k p a b n gx gy x y f c) (r, t) := by
  obtain ⟨t, e1, e2, ht⟩ := both_pt p a b n gx gy x y f hn
  unfold spec_PointBytes.f impl_PointBytes.f
  cases t with
  | false =>
    refine ⟨[], false, by simp, by simp, Ev.bind e1 ?_, Ev.bind e2 ?_⟩
    · simpa using Ev.now (([] : List Int), false)
    · simpa using Ev.now (([] : List Int), false)
  | true =>
    cases f with
    | true =>
      refine ⟨[0], true, by simp, by intro z hz; simp at hz; omega, Ev.bind e1 ?_, Ev.bind e2 ?_⟩
      · simpa using Ev.now (([0] : List Int), true)
      · simpa [impl_pointBytes.f] using Ev.now (([0] : List Int), true)
    | false =>
      cases c with
      | true =>
        refine ⟨[(wrap64 (2 + (Int.tmod y 2))) % 256, (x / 65536) % 256, (x / 256) % 256, x % 256], true, by simp, by intro z hz; simp at hz; omega, Ev.bind e1 ?_, Ev.bind e2 ?_⟩
        · simpa [spec_l3Three.f] using Ev.now ([(wrap64 (2 + (Int.tmod y 2))) % 256, (x / 65536) % 256, (x / 256) % 256, x % 256], true)
        · simpa [impl_pointBytes.f, impl_three.f] using Ev.now ([(wrap64 (2 + (Int.tmod y 2))) % 256, (x / 65536) % 256, (x / 256) % 256, x % 256], true)
      | false =>
        refine ⟨[4, (x / 65536) % 256, (x / 256) % 256, x % 256, (y / 65536) % 256, (y / 256) % 256, y % 256], true, by simp, by intro z hz; simp at hz; omega, Ev.bind e1 ?_, Ev.bind e2 ?_⟩
        · simpa [spec_l3Three.f] using Ev.now ([4, (x / 65536) % 256, (x / 256) % 256, x % 256, (y / 65536) % 256, (y / 256) % 256, y % 256], true)
        · simpa [impl_pointBytes.f, impl_three.f] using Ev.now ([4, (x / 65536) % 256, (x / 256) % 256, x % 256, (y / 65536) % 256, (y / 256) % 256, y % 256], true)

theorem and255 (x : Int) : 0 ≤ Go.bits .and .i64 x 255 ∧ Go.bits .and .i64 x 255 ≤ 255 := by
  unfold Go.bits
  simp only [BitVec.toNat_and]
  have h : (BitVec.ofInt IntKind.i64.bits 255).toNat = 255 := by decide
  rw [h]
  have h2 : (BitVec.ofInt IntKind.i64.bits x).toNat &&& 255 ≤ 255 := Nat.and_le_right
  generalize (BitVec.ofInt IntKind.i64.bits x).toNat &&& 255 = n at *
  rw [IntKind.wrap_i64]
  omega

/-- The cursor stands in its bytes. -/
def Cur (b : List Int) (i : Int) : Prop := 0 ≤ i ∧ i ≤ b.length ∧ b.length ≤ 1099511627776

theorem byte_some {b : List Int} {i : Int} (h : Int) (c : Cur b i) : ∃ v i' h', spec_l1Byte.f b i h = some (v, i', h') ∧ 0 ≤ v ∧ v ≤ 255 ∧ Cur b i' := by
  unfold spec_l1Byte.f
  obtain ⟨c0, c1, c2⟩ := c
  by_cases hi : i < (b.length : Int)
  · rw [if_pos hi, if_pos c0]
    refine ⟨_, _, _, rfl, (and255 _).1, (and255 _).2, ?_⟩
    rw [w64 (by omega) (by omega)]
    exact ⟨by omega, by omega, c2⟩
  · rw [if_neg hi]
    exact ⟨_, _, _, rfl, (and255 _).1, (and255 _).2, c0, c1, c2⟩

theorem below_some {b : List Int} {i : Int} (h : Int) (c : Cur b i) {n : Int} (hn : 0 < n) (hn' : n ≤ 4611686018427387904) : ∃ v i' h', spec_l1Below.f b i h n = some (v, i', h') ∧ 0 ≤ v ∧ v < n ∧ Cur b i' := by
  unfold spec_l1Below.f
  rw [if_neg (by omega)]
  by_cases h1 : n ≤ 256
  · rw [if_pos h1]
    obtain ⟨v, i', h', e, v0, v1, c'⟩ := byte_some h c
    rw [e]
    simp only [Option.bind_some, if_neg (show ¬ n = 0 by omega), Int.tmod_eq_emod_of_nonneg v0]
    exact ⟨_, _, _, rfl, Int.emod_nonneg _ (by omega), Int.emod_lt_of_pos _ hn, c'⟩
  · rw [if_neg h1]
    obtain ⟨v, i', h', e, v0, v1, c'⟩ := byte_some h c
    obtain ⟨w, j, g, f, w0, w1, d⟩ := byte_some h' c'
    obtain ⟨x, j', g', f', x0, x1, d'⟩ := byte_some g d
    obtain ⟨y, j2, g2, f2, y0, y1, d2⟩ := byte_some g' d'
    rw [e]
    simp only [Option.bind_some, f, f', f2, if_neg (show ¬ n = 0 by omega)]
    rw [w64 (n := v * 16777216) (by omega) (by omega), w64 (n := w * 65536) (by omega) (by omega), w64 (n := v * 16777216 + w * 65536) (by omega) (by omega), w64 (n := x * 256) (by omega) (by omega), w64 (n := v * 16777216 + w * 65536 + x * 256) (by omega) (by omega), w64 (by omega) (by omega), Int.tmod_eq_emod_of_nonneg (by omega)]
    exact ⟨_, _, _, rfl, Int.emod_nonneg _ (by omega), Int.emod_lt_of_pos _ hn, d2⟩

theorem new_loop (l : List Int) (hl : l.length ≤ 1099511627776) : ∀ (d : Nat) (h i : Int), 0 ≤ i → (l.length : Int) - i = d → ∃ h', Ev (fun k => spec_l1New.l0 k l h i) (l, 0, h') := by
  intro d
  induction d with
  | zero =>
    intro h i h0 hd
    refine ⟨h, Ev.step (fun k => by rw [spec_l1New.l0]) ?_⟩
    simp only [if_neg (show ¬ i < (l.length : Int) by omega)]
    exact Ev.now _
  | succ d ih =>
    intro h i h0 hd
    by_cases h1 : i < 4000
    · obtain ⟨h', e⟩ := ih (Go.bits .and .i64 (wrap64 ((wrap64 ((wrap64 (h * 131)) + (wrap64 (rd l i)))) + 7)) 1073741823) (i + 1) (by omega) (by omega)
      refine ⟨h', Ev.step (fun k => by rw [spec_l1New.l0]) ?_⟩
      simp only [if_pos (show i < (l.length : Int) by omega), if_pos h1, if_pos h0]
      rw [w64 (n := i + 1) (by omega) (by omega)]
      exact e
    · refine ⟨h, Ev.step (fun k => by rw [spec_l1New.l0]) ?_⟩
      simp only [if_pos (show i < (l.length : Int) by omega), if_neg h1]
      exact Ev.now _

theorem new_some (l : List Int) (hl : l.length ≤ 1099511627776) : ∃ h', Ev (fun k => spec_l1New.f k l) (l, 0, h') ∧ Cur l 0 := by
  obtain ⟨h', e⟩ := new_loop l hl l.length (wrap64 (148148 + (l.length : Int))) 0 (by omega) (by omega)
  exact ⟨h', e, by unfold Cur; omega⟩

theorem pick_some {b : List Int} {i : Int} (h : Int) (c : Cur b i) {l : List Int} (hl : 0 < l.length) (hl' : l.length ≤ 1000) : ∃ v i' h', spec_l1PickInt.f b i h l = some (v, i', h') ∧ v ∈ l ∧ Cur b i' := by
  unfold spec_l1PickInt.f
  obtain ⟨v, i', h', e, v0, v1, c'⟩ := below_some h c (n := (l.length : Int)) (by omega) (by omega)
  rw [e]
  simp only [Option.bind_some, if_pos v0, if_pos v1]
  refine ⟨_, _, _, rfl, ?_, c'⟩
  unfold rd
  rw [List.getD_eq_getElem?_getD, List.getElem?_eq_getElem (by omega), Option.getD_some]
  exact List.getElem_mem _


theorem Ev.unique {α : Type} {g : Nat → Option α} {r s : α} (h : Ev g r) (h' : Ev g s) : r = s := by
  obtain ⟨K, h⟩ := h
  obtain ⟨L, h'⟩ := h'
  have e1 := h (K + L) (by omega)
  have e2 := h' (K + L) (by omega)
  rw [e1] at e2
  exact Option.some.inj e2

/-- A curve whose base point goes round. -/
structure Base (p a b n gx gy : Int) : Prop where
  pre : CurPre p a b n
  ok : Ev (fun k => impl_CurveOk.f k p a b n gx gy) true
  pt : ∀ K : Fld p, CPt p a b K gx gy false
  tor : ∀ K : Fld p, (pre.num.grp K).smul n.toNat (toPt K gx gy false) = .far

theorem base_of {p a b n gx gy : Int} (hb : (5 ≤ p ∧ p ≤ 1048576 ∧ p % 4 = 3) ∧ (0 ≤ a ∧ a < p ∧ 0 ≤ b ∧ b < p) ∧ 5 ≤ n ∧ n ≤ 2097152) (hd : ¬ (4 * (a * a % p) * a + 27 * (b * b % p)) % p = 0) (hg : onCur p a b gx gy false = true) (h0 : impl_PrimeInt.f 300 p = some true)
    (h1 : impl_CurveOk.f 300 p a b n gx gy = some true) (h2 : impl_Curve_times.f 300 p a b n gx gy n gx gy false = some (0, 0, true)) : Base p a b n gx gy := by
  obtain ⟨⟨b1, b2, b3⟩, ⟨b4, b5, b6, b7⟩, b8, b9⟩ := hb
  have e0 : Ev (fun k => impl_PrimeInt.f k p) true := Ev.of (fun k => impl_PrimeInt.mono p k) h0
  have e1 : Ev (fun k => impl_CurveOk.f k p a b n gx gy) true := Ev.of (fun k => impl_CurveOk.mono p a b n gx gy k) h1
  have e2 : Ev (fun k => impl_Curve_times.f k p a b n gx gy n gx gy false) (0, 0, true) := Ev.of (fun k => impl_Curve_times.mono p a b n gx gy n gx gy false k) h2
  obtain ⟨r, hr, _, er⟩ := iprime_eq p
  obtain rfl := Ev.unique e0 er
  have hN : CNum p a b := ⟨(hr rfl).1, b1, b2, b4, b5, b6, b7, hd⟩
  have hg : ∀ K : Fld p, CPt p a b K gx gy false := fun K => (onCur_iff (by omega) K).1 hg
  refine ⟨⟨hN, b8, b9, b3⟩, e1, hg, fun K => ?_⟩
  obtain ⟨r, s, t, hr, fr, er⟩ := implTimes_eq (o := n) (gx := gx) (gy := gy) (n := n) hN K (by omega) (by omega) (hg K)
  have e := Ev.unique e2 er
  injection e with q1 q2
  injection q2 with q2 q3
  subst q1 q2 q3
  exact fr.symm

theorem base0 : Base 103 2 11 97 1 23 := base_of (by decide) (by decide) (by decide) (by kernel_rfl) (by kernel_rfl) (by kernel_rfl)
theorem base1 : Base 1019 11 6 997 2 6 := base_of (by decide) (by decide) (by decide) (by kernel_rfl) (by kernel_rfl) (by kernel_rfl)
theorem base2 : Base 10007 3 6 10039 0 1973 := base_of (by decide) (by decide) (by decide) (by kernel_rfl) (by kernel_rfl) (by kernel_rfl)

theorem l3Draw_some {l : List Int} {i : Int} (h : Int) (c : Cur l i) : ∃ p a b n gx gy i' h', spec_l3Draw.f l i h = some (p, a, b, n, gx, gy, i', h') ∧ Base p a b n gx gy ∧ Cur l i' := by
  obtain ⟨v, i', h', e, v0, v1, c'⟩ := below_some h c (n := 3) (by omega) (by omega)
  unfold spec_l3Draw.f spec_l3Curves.f
  rw [e]
  have hv : v = 0 ∨ v = 1 ∨ v = 2 := by omega
  rcases hv with rfl | rfl | rfl
  · exact ⟨103, 2, 11, 97, 1, 23, i', h', rfl, base0, c'⟩
  · exact ⟨1019, 11, 6, 997, 2, 6, i', h', rfl, base1, c'⟩
  · exact ⟨10007, 3, 6, 10039, 0, 1973, i', h', rfl, base2, c'⟩

/-- What DrawCurve draws. -/
structure Drawn (p a b n gx gy x y : Int) (f : Bool) (u v : Int) (g : Bool) : Prop where
  base : Base p a b n gx gy
  fst : ∀ K : Fld p, CPt p a b K x y f ∧ ∃ m : Nat, toPt K x y f = (base.pre.num.grp K).smul m (toPt K gx gy false)
  snd : ∀ K : Fld p, CPt p a b K u v g

theorem drawMul_some {p a b n gx gy m : Int} (B : Base p a b n gx gy) (m0 : 0 ≤ m) (m1 : m ≤ 1099511627776) : ∃ x y f, Ev (fun k => spec_l3Mul.f k p a b n gx gy m gx gy false) (x, y, f) ∧
    ∀ K : Fld p, CPt p a b K x y f ∧ toPt K x y f = (B.pre.num.grp K).smul m.toNat (toPt K gx gy false) := by
  obtain ⟨K⟩ := fldOf_exists B.pre.num.prm
  obtain ⟨x, y, f, hr, fr, er⟩ := specTimes_eq (o := n) (gx := gx) (gy := gy) (n := m) B.pre.num K m0 (by omega) (B.pt K)
  refine ⟨x, y, f, er, fun K' => ?_⟩
  obtain ⟨x', y', f', hr', fr', er'⟩ := specTimes_eq (o := n) (gx := gx) (gy := gy) (n := m) B.pre.num K' m0 (by omega) (B.pt K')
  have e := Ev.unique er er'
  injection e with q1 q2
  injection q2 with q2 q3
  subst q1 q2 q3
  exact ⟨hr', fr'⟩

theorem drawCurve_some (l : List Int) (hl : l.length ≤ 1048576) : ∃ p a b n gx gy x y f u v g, Ev (fun k => spec_DrawCurve.f k l) (p, a, b, n, gx, gy, x, y, f, u, v, g) ∧ Drawn p a b n gx gy x y f u v g := by
  obtain ⟨h, e, c⟩ := new_some l (by omega)
  obtain ⟨p, a, b, n, gx, gy, i1, h1, e1, B, c1⟩ := l3Draw_some h c
  obtain ⟨m, i2, h2, e2, m0, m1, c2⟩ := below_some h1 c1 (n := 20000) (by omega) (by omega)
  obtain ⟨m', i3, h3, e3, m0', m1', c3⟩ := below_some h2 c2 (n := 300) (by omega) (by omega)
  obtain ⟨x, y, f, er, hr⟩ := drawMul_some B m0 (by omega)
  obtain ⟨u, v, g, er', hr'⟩ := drawMul_some B m0' (by omega)
  refine ⟨p, a, b, n, gx, gy, x, y, f, u, v, g, ?_, B, fun K => ⟨(hr K).1, _, (hr K).2⟩, fun K => (hr' K).1⟩
  unfold spec_DrawCurve.f
  refine Ev.bind e ?_
  simp only [e1, Option.bind_some, e2]
  refine Ev.bind er ?_
  simp only [e3, Option.bind_some]
  exact Ev.bind er' (Ev.now _)

section
variable {p a b n gx gy : Int}
theorem ptOk_ev (B : Base p a b n gx gy) {K : Fld p} {x y : Int} {f : Bool} (h : CPt p a b K x y f) : Ev (fun k => impl_PointOk.f k p a b n gx gy x y f) true := by
  have hN := B.pre.num
  unfold impl_PointOk.f
  refine Ev.bind B.ok ?_
  simp only [if_true, implOn_eq K hN.lo hN.hi hN.a0 hN.a1 hN.b0 hN.b1, Option.bind_some, (onCur_iff (by have := hN.lo; omega) K).2 h]
  exact Ev.now _
end

theorem once_some {b : List Int} {i : Int} (h : Int) (c : Cur b i) {n : Int} (hn : 0 < n) (hn' : n ≤ 1000) : ∃ v i' h', spec_l1Once.f b i h n = some (v, i', h') ∧ Cur b i' := by
  unfold spec_l1Once.f
  obtain ⟨v, i', h', e, v0, v1, c'⟩ := below_some h c hn (by omega)
  rw [e]
  exact ⟨_, _, _, rfl, c'⟩

/-- A curve whose base point may be taken many times. -/
def MulOk (p a b n gx gy : Int) : Prop := ∀ m : Int, 0 ≤ m → m < 200 → ∃ z, Ev (fun k => spec_l3Mul.f k p a b n gx gy m gx gy false) z

/-- What a drawn curve is like, right or not. -/
structure K3 (p a b n gx gy : Int) : Prop where
  n0 : -9223372036854775808 ≤ n
  n1 : n ≤ 9223372036854775807
  on : ∃ t, spec_l3On.f p a b n gx gy gx gy false = some t ∧ (t = true → 5 ≤ p → p ≤ 1048576 → MulOk p a b n gx gy)

def chk (p a b n gx gy : Int) : Bool := match spec_l3On.f p a b n gx gy gx gy false with
  | none => false
  | some false => true
  | some true => !(decide (5 ≤ p) && decide (p ≤ 1048576)) || (List.range 200).all fun m => (spec_l3Mul.f 200 p a b n gx gy ((m : Nat) : Int) gx gy false).isSome

theorem K3.of {p a b n gx gy : Int} (hn : -9223372036854775808 ≤ n ∧ n ≤ 9223372036854775807) (h : chk p a b n gx gy = true) : K3 p a b n gx gy := by
  refine ⟨hn.1, hn.2, ?_⟩
  unfold chk at h
  cases ho : spec_l3On.f p a b n gx gy gx gy false with
  | none => rw [ho] at h; cases h
  | some t =>
    refine ⟨t, rfl, ?_⟩
    rintro rfl h5 h6 m m0 m1
    rw [ho] at h
    simp only [decide_eq_true h5, decide_eq_true h6, Bool.and_self, Bool.not_true, Bool.false_or] at h
    obtain ⟨i, rfl⟩ : ∃ i : Nat, m = i := ⟨m.toNat, by omega⟩
    have := List.all_eq_true.1 h i (List.mem_range.2 (by omega))
    obtain ⟨z, hz⟩ := Option.isSome_iff_exists.1 this
    exact ⟨z, Ev.of (fun k => spec_l3Mul.mono _ _ _ _ _ _ _ _ _ _ k) hz⟩

theorem K3.base {p a b n n' gx gy : Int} (B : Base p a b n gx gy) (hn : -9223372036854775808 ≤ n' ∧ n' ≤ 9223372036854775807) : K3 p a b n' gx gy := by
  obtain ⟨K⟩ := fldOf_exists B.pre.num.prm
  have hN := B.pre.num
  have so := specOn_eq (n := n') (gx := gx) (gy := gy) (x := gx) (y := gy) (f := false) K hN.lo hN.hi hN.a0 hN.a1 hN.b0 hN.b1
  refine ⟨hn.1, hn.2, _, so, fun _ _ _ m m0 m1 => ?_⟩
  obtain ⟨x, y, f, _, _, er⟩ := specTimes_eq (o := n') (gx := gx) (gy := gy) (n := m) hN K m0 (by omega) (B.pt K)
  exact ⟨_, er⟩

/-- The curves that are drawn, and what is turned at them. -/
theorem turned {p a b n gx gy : Int} (h : (p = 103 ∧ a = 2 ∧ b = 11 ∧ n = 97 ∧ gx = 1 ∧ gy = 23) ∨ (p = 1019 ∧ a = 11 ∧ b = 6 ∧ n = 997 ∧ gx = 2 ∧ gy = 6) ∨ (p = 10007 ∧ a = 3 ∧ b = 6 ∧ n = 10039 ∧ gx = 0 ∧ gy = 1973)) :
    (∀ n', -9223372036854775808 ≤ n' ∧ n' ≤ 9223372036854775807 → K3 p a b n' gx gy) ∧ (∀ P ∈ [0, 3, 101, 105, 1019, 1048583, 7], K3 P a b n gx gy) ∧ (∀ A ∈ [-1, 0, p], K3 p A b n gx gy) ∧ K3 p a b n gx (gy + 1) ∧ gy + 1 ≤ 100000 ∧ -100000 ≤ gy ∧ -100000 ≤ n ∧ n ≤ 100000 := by
  rcases h with ⟨rfl, rfl, rfl, rfl, rfl, rfl⟩ | ⟨rfl, rfl, rfl, rfl, rfl, rfl⟩ | ⟨rfl, rfl, rfl, rfl, rfl, rfl⟩
  · refine ⟨fun n' hn => K3.base base0 hn, fun P hP => ?_, fun A hA => ?_, K3.of (by omega) (by kernel_rfl), by omega, by omega, by omega, by omega⟩
    · simp only [List.mem_cons, List.not_mem_nil, or_false] at hP
      rcases hP with rfl | rfl | rfl | rfl | rfl | rfl | rfl <;> exact K3.of (by omega) (by kernel_rfl)
    · simp only [List.mem_cons, List.not_mem_nil, or_false] at hA
      rcases hA with rfl | rfl | rfl <;> exact K3.of (by omega) (by kernel_rfl)
  · refine ⟨fun n' hn => K3.base base1 hn, fun P hP => ?_, fun A hA => ?_, K3.of (by omega) (by kernel_rfl), by omega, by omega, by omega, by omega⟩
    · simp only [List.mem_cons, List.not_mem_nil, or_false] at hP
      rcases hP with rfl | rfl | rfl | rfl | rfl | rfl | rfl <;> exact K3.of (by omega) (by kernel_rfl)
    · simp only [List.mem_cons, List.not_mem_nil, or_false] at hA
      rcases hA with rfl | rfl | rfl <;> exact K3.of (by omega) (by kernel_rfl)
  · refine ⟨fun n' hn => K3.base base2 hn, fun P hP => ?_, fun A hA => ?_, K3.of (by omega) (by kernel_rfl), by omega, by omega, by omega, by omega⟩
    · simp only [List.mem_cons, List.not_mem_nil, or_false] at hP
      rcases hP with rfl | rfl | rfl | rfl | rfl | rfl | rfl <;> exact K3.of (by omega) (by kernel_rfl)
    · simp only [List.mem_cons, List.not_mem_nil, or_false] at hA
      rcases hA with rfl | rfl | rfl <;> exact K3.of (by omega) (by kernel_rfl)

theorem draw3 {l : List Int} {i : Int} (h : Int) (c : Cur l i) : ∃ p a b n gx gy i' h', spec_l3Draw.f l i h = some (p, a, b, n, gx, gy, i', h') ∧ Cur l i' ∧
    ((p = 103 ∧ a = 2 ∧ b = 11 ∧ n = 97 ∧ gx = 1 ∧ gy = 23) ∨ (p = 1019 ∧ a = 11 ∧ b = 6 ∧ n = 997 ∧ gx = 2 ∧ gy = 6) ∨ (p = 10007 ∧ a = 3 ∧ b = 6 ∧ n = 10039 ∧ gx = 0 ∧ gy = 1973)) := by
  obtain ⟨v, i', h', e, v0, v1, c'⟩ := below_some h c (n := 3) (by omega) (by omega)
  unfold spec_l3Draw.f spec_l3Curves.f
  rw [e]
  have hv : v = 0 ∨ v = 1 ∨ v = 2 := by omega
  rcases hv with rfl | rfl | rfl
  · exact ⟨103, 2, 11, 97, 1, 23, i', h', rfl, c', by simp⟩
  · exact ⟨1019, 11, 6, 997, 2, 6, i', h', rfl, c', by simp⟩
  · exact ⟨10007, 3, 6, 10039, 0, 1973, i', h', rfl, c', by simp⟩

theorem drawAny3 {l : List Int} {i : Int} (h : Int) (c : Cur l i) : ∃ p a b n gx gy i' h', spec_l3DrawAny.f l i h = some (p, a, b, n, gx, gy, i', h') ∧ Cur l i' ∧ K3 p a b n gx gy := by
  obtain ⟨p, a, b, n, gx, gy, i1, h1, e1, c1, hk⟩ := draw3 h c
  obtain ⟨t1, t2, t3, t4, t5, t6, t7, t8⟩ := turned hk
  obtain ⟨v, i2, h2, e2, v0, v1, c2⟩ := below_some h1 c1 (n := 25) (by omega) (by omega)
  unfold spec_l3DrawAny.f
  simp only [e1, Option.bind_some, e2]
  by_cases k0 : v = 0
  · obtain ⟨P, i3, h3, e3, hP, c3⟩ := pick_some h2 c2 (l := [0, 3, 101, 105, 1019, 1048583, 7]) (by simp) (by simp)
    simp only [if_pos k0, e3, Option.bind_some]
    exact ⟨_, _, _, _, _, _, _, _, rfl, c3, t2 P hP⟩
  simp only [if_neg k0]
  by_cases k1 : v = 1
  · obtain ⟨A, i3, h3, e3, hA, c3⟩ := pick_some h2 c2 (l := [-1, 0, p]) (by simp) (by simp)
    simp only [if_pos k1, e3, Option.bind_some]
    exact ⟨_, _, _, _, _, _, _, _, rfl, c3, t3 A hA⟩
  simp only [if_neg k1]
  by_cases k2 : v = 2
  · obtain ⟨N, i3, h3, e3, hN, c3⟩ := pick_some h2 c2 (l := [0, 5, 98, 2097169]) (by simp) (by simp)
    simp only [if_pos k2, e3, Option.bind_some]
    refine ⟨_, _, _, _, _, _, _, _, rfl, c3, t1 N ?_⟩
    simp only [List.mem_cons, List.not_mem_nil, or_false] at hN
    omega
  simp only [if_neg k2]
  by_cases k3 : v = 3
  · simp only [if_pos k3]
    refine ⟨_, _, _, _, _, _, _, _, rfl, c2, ?_⟩
    rw [w64 (by omega) (by omega)]
    exact t4
  simp only [if_neg k3]
  by_cases k4 : v = 4
  · simp only [if_pos k4]
    exact ⟨_, _, _, _, _, _, _, _, rfl, c2, K3.of (by omega) (by kernel_rfl)⟩
  · simp only [if_neg k4]
    exact ⟨_, _, _, _, _, _, _, _, rfl, c2, t1 n (by omega)⟩

theorem drawPoint_some {l : List Int} {i : Int} (h : Int) (c : Cur l i) {p a b n gx gy : Int} (hK : K3 p a b n gx gy) :
    ∃ x y f i' h', Ev (fun k => spec_l3DrawPoint.f k l i h p a b n gx gy) (x, y, f, i', h') ∧ Cur l i' := by
  have j1 : ∀ (i h x y : Int) (f : Bool), Cur l i → ∃ x' y' f' i' h', Ev (fun k => spec_l3DrawPoint.j1 k l i h p a b n gx gy x y f) (x', y', f', i', h') ∧ Cur l i' := by
    intro i h x y f c
    obtain ⟨v, i2, h2, e2, v0, v1, c2⟩ := below_some h c (n := 20) (by omega) (by omega)
    by_cases k0 : v = 0
    · refine ⟨_, _, _, _, _, Ev.step (fun k => by rw [spec_l3DrawPoint.j1]) (r := (x, wrap64 (y + 1), f, i2, h2)) ?_, c2⟩
      simp only [e2, Option.bind_some, if_pos k0]
      exact Ev.now _
    by_cases k1 : v = 1
    · obtain ⟨w, i3, h3, e3, w0, w1, c3⟩ := below_some h2 c2 (n := 2) (by omega) (by omega)
      refine ⟨_, _, _, _, _, Ev.step (fun k => by rw [spec_l3DrawPoint.j1]) (r := (w, 0, true, i3, h3)) ?_, c3⟩
      simp only [e2, Option.bind_some, if_neg k0, if_pos k1, e3]
      exact Ev.now _
    by_cases k2 : v = 2
    · obtain ⟨w, i3, h3, e3, _, c3⟩ := pick_some h2 c2 (l := [-1, p, 0]) (by simp) (by simp)
      refine ⟨_, _, _, _, _, Ev.step (fun k => by rw [spec_l3DrawPoint.j1]) (r := (w, y, f, i3, h3)) ?_, c3⟩
      simp only [e2, Option.bind_some, if_neg k0, if_neg k1, if_pos k2, e3]
      exact Ev.now _
    · refine ⟨_, _, _, _, _, Ev.step (fun k => by rw [spec_l3DrawPoint.j1]) (r := (x, y, f, i2, h2)) ?_, c2⟩
      simp only [e2, Option.bind_some, if_neg k0, if_neg k1, if_neg k2]
      exact Ev.now _
  have j0 : ∀ (t : Bool) (i h x y : Int) (f : Bool), Cur l i → (t = true → MulOk p a b n gx gy) → ∃ x' y' f' i' h', Ev (fun k => spec_l3DrawPoint.j0 k t l i h p a b n gx gy x y f) (x', y', f', i', h') ∧ Cur l i' := by
    intro t i h x y f c ht
    cases t with
    | false =>
      obtain ⟨x', y', f', i', h', e, c'⟩ := j1 i h x y f c
      refine ⟨x', y', f', i', h', Ev.step (fun k => by rw [spec_l3DrawPoint.j0]) ?_, c'⟩
      simp only [Bool.false_eq_true, if_false]
      exact e
    | true =>
      obtain ⟨m, i2, h2, e2, m0, m1, c2⟩ := below_some h c (n := 200) (by omega) (by omega)
      obtain ⟨⟨x1, y1, f1⟩, em⟩ := ht rfl m m0 m1
      obtain ⟨x', y', f', i', h', e, c'⟩ := j1 i2 h2 x1 y1 f1 c2
      refine ⟨x', y', f', i', h', Ev.step (fun k => by rw [spec_l3DrawPoint.j0]) ?_, c'⟩
      simp only [if_true, e2, Option.bind_some]
      exact Ev.bind em e
  obtain ⟨m, i1, h1, e1, m0, m1, c1⟩ := below_some h c (n := 97) (by omega) (by omega)
  obtain ⟨x, y, f, er, _⟩ := drawMul_some base0 m0 (by omega)
  obtain ⟨t, ho, hm⟩ := hK.on
  obtain ⟨q, hq, _, eq, _⟩ := primes_eq p
  have hl3 : (0 : Int) < (([(⟨103, 2, 11, 97, 1, 23⟩ : S43), (⟨1019, 11, 6, 997, 2, 6⟩ : S43), (⟨10007, 3, 6, 10039, 0, 1973⟩ : S43)] : List S43).length : Int) := by simp
  unfold spec_l3DrawPoint.f spec_l3Curves.f
  simp only [Option.bind_some, if_pos hl3]
  by_cases h3 : 5 ≤ p ∧ p ≤ 1048576
  · cases t with
    | false =>
      obtain ⟨x', y', f', i', h', e, c'⟩ := j0 false i1 h1 x y f c1 (by simp)
      refine ⟨x', y', f', i', h', ?_, c'⟩
      simp only [e1, Option.bind_some]
      refine Ev.bind er ?_
      simp only [ho, Option.bind_some, Bool.false_eq_true, if_false]
      exact e
    | true =>
      obtain ⟨x', y', f', i', h', e, c'⟩ := j0 q i1 h1 x y f c1 (fun _ => hm rfl h3.1 h3.2)
      refine ⟨x', y', f', i', h', ?_, c'⟩
      simp only [e1, Option.bind_some]
      refine Ev.bind er ?_
      simp only [ho, Option.bind_some, if_true, in_eq, h3.1, h3.2, and_self, decide_true]
      exact Ev.bind eq e
  · obtain ⟨x', y', f', i', h', e, c'⟩ := j0 false i1 h1 x y f c1 (by simp)
    refine ⟨x', y', f', i', h', ?_, c'⟩
    simp only [e1, Option.bind_some]
    refine Ev.bind er ?_
    simp only [ho, Option.bind_some, in_eq, h3, decide_false, Bool.false_eq_true, if_false]
    split <;> exact e

def Bts (r : List Int) : Prop := ∀ z ∈ r, 0 ≤ z ∧ z ≤ 255

theorem readDraw (l : List Int) (hl : l.length ≤ 1048576) : ∃ p a b n gx gy d, Ev (fun k => spec_DrawPointRead.f k l) (p, a, b, n, gx, gy, d) ∧ Bts d ∧ -9223372036854775808 ≤ n ∧ n ≤ 9223372036854775807 := by
  obtain ⟨h, e, c⟩ := new_some l (by omega)
  obtain ⟨p, a, b, n, gx, gy, i1, h1, e1, c1, hK⟩ := drawAny3 h c
  obtain ⟨x, y, f, i2, h2, e2, c2⟩ := drawPoint_some h1 c1 hK
  obtain ⟨v, i3, h3, e3, c3⟩ := once_some h2 c2 (n := 2) (by omega) (by omega)
  obtain ⟨r, t, rl, hr, e4, _⟩ := both_bytes p a b n gx gy x y f v ⟨hK.n0, hK.n1⟩
  have up : ∀ d, Bts d → Ev (fun k => if ((r.length : Int) > 0) then ((spec_l1Below.f l i3 h3 8).bind fun bt459 => (if bt459.1 = 0 then ((spec_l1Below.f l bt459.2.1 bt459.2.2 (r.length : Int)).bind fun bt462 => ((spec_l1Byte.f l bt462.2.1 bt462.2.2).bind fun bt465 => (if 0 ≤ bt462.1 then (if bt462.1 < (r.length : Int) then (some (p, a, b, n, gx, gy, (r.set (bt462.1 : Int).toNat ((bt465.1) % 256)))) else (none)) else (none)))) else (if bt459.1 = 1 then ((spec_l1Below.f l bt459.2.1 bt459.2.2 (r.length : Int)).bind fun bt469 => (if 0 ≤ bt469.1 then (if bt469.1 ≤ (r.length : Int) then (some (p, a, b, n, gx, gy, (r.take (bt469.1 : Int).toNat))) else (none)) else (none))) else (if bt459.1 = 2 then (if r.length < 140737488355328 then (some (p, a, b, n, gx, gy, (r ++ [0]))) else (none)) else (if bt459.1 = 3 then ((spec_l1Below.f l bt459.2.1 bt459.2.2 2).bind fun bt478 => ((spec_l1Below.f l bt478.2.1 bt478.2.2 5).bind fun bt481 => ((spec_l1Byte.f l bt481.2.1 bt481.2.2).bind fun bt484 => (some (p, a, b, n, gx, gy, (([(wrap64 (2 + bt478.1)) % 256, 0, (bt481.1) % 256, (bt484.1) % 256] : List Int))))))) else (some (p, a, b, n, gx, gy, r))))))) else (some (p, a, b, n, gx, gy, r))) (p, a, b, n, gx, gy, d) →
      ∃ p a b n gx gy d, Ev (fun k => spec_DrawPointRead.f k l) (p, a, b, n, gx, gy, d) ∧ Bts d ∧ -9223372036854775808 ≤ n ∧ n ≤ 9223372036854775807 := by
    intro d hd ed
    refine ⟨p, a, b, n, gx, gy, d, ?_, hd, hK.n0, hK.n1⟩
    unfold spec_DrawPointRead.f
    refine Ev.bind e ?_
    simp only [e1, Option.bind_some]
    refine Ev.bind e2 ?_
    simp only [e3, Option.bind_some]
    exact Ev.bind e4 ed
  by_cases hp : (r.length : Int) > 0
  · obtain ⟨w, i4, h4, e5, w0, w1, c4⟩ := below_some h3 c3 (n := 8) (by omega) (by omega)
    by_cases k0 : w = 0
    · obtain ⟨u, i5, h5, e6, u0, u1, c5⟩ := below_some h4 c4 (n := (r.length : Int)) (by omega) (by omega)
      obtain ⟨s, i6, h6, e7, s0, s1, c6⟩ := byte_some h5 c5
      refine up (r.set u.toNat (s % 256)) (fun z hz => ?_) ?_
      · rcases List.mem_or_eq_of_mem_set hz with hz | rfl
        · exact hr z hz
        · omega
      · simp only [if_pos hp, e5, Option.bind_some, if_pos k0, e6, e7, if_pos u0, if_pos u1]
        exact Ev.now _
    by_cases k1 : w = 1
    · obtain ⟨u, i5, h5, e6, u0, u1, c5⟩ := below_some h4 c4 (n := (r.length : Int)) (by omega) (by omega)
      refine up (r.take u.toNat) (fun z hz => hr z (List.mem_of_mem_take hz)) ?_
      simp only [if_pos hp, e5, Option.bind_some, if_neg k0, if_pos k1, e6, if_pos u0, if_pos (show u ≤ (r.length : Int) by omega)]
      exact Ev.now _
    by_cases k2 : w = 2
    · refine up (r ++ [0]) (fun z hz => ?_) ?_
      · rcases List.mem_append.1 hz with hz | hz
        · exact hr z hz
        · simp at hz; omega
      · simp only [if_pos hp, e5, Option.bind_some, if_neg k0, if_neg k1, if_pos k2, if_pos (show r.length < 140737488355328 by omega)]
        exact Ev.now _
    by_cases k3 : w = 3
    · obtain ⟨u, i5, h5, e6, u0, u1, c5⟩ := below_some h4 c4 (n := 2) (by omega) (by omega)
      obtain ⟨u', i6, h6, e7, u0', u1', c6⟩ := below_some h5 c5 (n := 5) (by omega) (by omega)
      obtain ⟨s, i7, h7, e8, s0, s1, c7⟩ := byte_some h6 c6
      refine up [(wrap64 (2 + u)) % 256, 0, u' % 256, s % 256] (fun z hz => ?_) ?_
      · simp only [List.mem_cons, List.not_mem_nil, or_false] at hz
        rcases hz with rfl | rfl | rfl | rfl <;> omega
      · simp only [if_pos hp, e5, Option.bind_some, if_neg k0, if_neg k1, if_neg k2, if_pos k3, e6, e7, e8]
        exact Ev.now _
    · refine up r hr ?_
      simp only [if_pos hp, e5, Option.bind_some, if_neg k0, if_neg k1, if_neg k2, if_neg k3]
      exact Ev.now _
  · refine up r hr ?_
    simp only [if_neg hp]
    exact Ev.now _

theorem ptBytes_ok {p a b n gx gy x y : Int} {f : Bool} (c : Bool) (hok : Ev (fun k => impl_PointOk.f k p a b n gx gy x y f) true) (ho : onCur p a b x y f = true) : Ev (fun k => impl_PointBytes.f k p a b n gx gy x y f c) (ptBytes x y f c, true) := by
  unfold impl_PointBytes.f
  refine Ev.bind hok ?_
  simp only [if_true, implBytes_eq (onCur_nonneg ho).2, Option.bind_some]
  exact Ev.now _

theorem readWay (l : List Int) (hl : l.length ≤ 1048576) : Ev (fun k => laws_FnPointsBack.j0 k l false) true := by
  obtain ⟨p, a, b, n, gx, gy, d, e, hd, n0, n1⟩ := readDraw l hl
  refine Ev.step (fun k => by rw [laws_FnPointsBack.j0]) ?_
  simp only [Bool.false_eq_true, if_false]
  refine Ev.bind e ?_
  obtain ⟨t, e1, e2, ht⟩ := both_cur p a b n gx gy ⟨n0, n1⟩
  have none_ : Ev (fun k => impl_PointRead.f k p a b n gx gy d) (0, 0, false, false) → Ev (fun k => (impl_PointRead.f k p a b n gx gy d).bind fun bt533 => (if bt533.2.2.2 = true then ((impl_PointBytes.f k p a b n gx gy bt533.1 bt533.2.1 bt533.2.2.1 false).bind fun bt538 => ((impl_PointBytes.f k p a b n gx gy bt533.1 bt533.2.1 bt533.2.2.1 true).bind fun bt542 => (if (strOfNums bt538.1).toList = (strOfNums d).toList then (some true) else (some ((strOfNums bt542.1).toList == (strOfNums d).toList))))) else (some (bt533.1 == 0 && (bt533.2.1 == 0 && (!bt533.2.2.1)))))) true := by
    intro h
    refine Ev.bind h ?_
    simpa using Ev.now true
  cases t with
  | false =>
    refine none_ ?_
    unfold impl_PointRead.f
    refine Ev.bind e2 ?_
    simpa using Ev.now ((0 : Int), (0 : Int), false, false)
  | true =>
    have hE := (ht rfl).1
    obtain ⟨⟨x, y, f, c⟩, ez, hz⟩ := implRead_any p a b n gx gy hE d hd
    have er : Ev (fun k => impl_PointRead.f k p a b n gx gy d) (x, y, f, c) := by
      unfold impl_PointRead.f
      refine Ev.bind e2 ?_
      simp only [if_true]
      exact Ev.bind ez (Ev.now _)
    rcases hz with hz | ⟨x', y', f', hz, ho, hs⟩
    · rw [hz] at er
      exact none_ er
    · injection hz with z1 z2
      injection z2 with z2 z3
      injection z3 with z3 z4
      subst z1 z2 z3 z4
      obtain ⟨K⟩ := fldOf_exists hE.num.prm
      have hN := hE.num
      have hok : Ev (fun k => impl_PointOk.f k p a b n gx gy x y f) true := by
        unfold impl_PointOk.f
        refine Ev.bind e2 ?_
        simp only [if_true, implOn_eq K hN.lo hN.hi hN.a0 hN.a1 hN.b0 hN.b1, Option.bind_some, ho]
        exact Ev.now _
      refine Ev.bind er ?_
      simp only [if_true]
      refine Ev.bind (ptBytes_ok false hok ho) (Ev.bind (ptBytes_ok true hok ho) ?_)
      cases h4 : ((d.length : Int) == 4) with
      | false =>
        rw [h4] at hs
        simp only [hs, if_true]
        exact Ev.now _
      | true =>
        rw [h4] at hs
        simp only [hs, beq_self_eq_true, ite_self]
        exact Ev.now _

theorem FnPointsBack : laws_FnPointsBack.Pure := by
  intro l _ _ hw
  refine Ev.rounds (r := true) ?_
  unfold laws_FnPointsBack.f laws_big.f
  simp only [Option.bind_some]
  by_cases h : (l.length : Int) > 1048576
  · simp only [h, decide_true, if_true]; exact Ev.now _
  simp only [h, decide_false, Bool.false_eq_true, if_false]
  obtain ⟨p, a, b, n, gx, gy, x, y, f, u, v, g, e, D⟩ := drawCurve_some l (by omega)
  have B := D.base
  have hN := B.pre.num
  obtain ⟨K⟩ := fldOf_exists hN.prm
  have hA := (D.fst K).1
  have ho := (onCur_iff (a := a) (b := b) (show 0 < p by have := hN.lo; omega) K).2 hA
  have hok := ptOk_ev B hA
  have back : ∀ c, Ev (fun k => impl_PointRead.f k p a b n gx gy (ptBytes x y f c)) (x, y, f, true) := by
    intro c
    unfold impl_PointRead.f
    refine Ev.bind B.ok ?_
    simp only [if_true]
    exact Ev.bind (implRead_back p a b n gx gy B.pre c ho) (Ev.now _)
  refine Ev.bind e (Ev.bind (ptBytes_ok false hok ho) (Ev.bind (ptBytes_ok true hok ho) (Ev.bind (back false) (Ev.bind (back true) ?_))))
  simp only [if_true, beq_self_eq_true, Bool.not_true, Bool.or_self, Bool.false_eq_true, if_false]
  exact readWay l (by omega)

end Go.Proofs.Ytfdlblckmlbhoaa.Pure
