/- The law FnExactEdRead answers true at all twisted curves and bytes: both read the same pair, or none. -/
import Derived.Test.YtadmkolopcdffabPFnExactEdReadx10
import Derived.Test.YtadmkolopcdffabMBits
import Derived.Test.YtadmkolopcdffabMInv
import Derived.Test.YtadmkolopcdffabMField
import Derived.Test.YtadmkolopcdffabMRoot
import Derived.Test.YtadmkolopcdffabMEd
import Derived.Test.YtadmkolopcdffabMGrp
import Derived.Test.YtadmkolopcdffabMEdP
import Derived.Test.YtadmkolopcdffabMEdR
namespace Go.Proofs.Ytadmkolopcdffab.Pure
open Go.RowKit Go.Proofs.Ytadmkolopcdffab.PFnExactEdRead Go.Proofs.YtadmkolopcdffabW.PrintWords Go.Proofs.YtadmkolopcdffabW.PrintLast Go.Proofs.Ytadmkolopcdffab.Plain

set_option linter.unusedVariables false
set_option linter.unusedSimpArgs false

theorem w64 {n : Int} (h : -9223372036854775808 ≤ n) (h' : n ≤ 9223372036854775807) : wrap64 n = n := by
  unfold wrap64
  omega

theorem wf64 {n : Int} (h : (Lit.int .i64 n).wf = true) : -9223372036854775808 ≤ n ∧ n ≤ 9223372036854775807 := by
  simpa [Lit.wf, IntKind.min, IntKind.max, IntKind.signed, IntKind.bits] using h

theorem wsucc {i : Nat} (h : i ≤ 1099511627776) : wrap64 ((i : Int) + 1) = ((i + 1 : Nat) : Int) := by
  rw [w64 (by omega) (by omega)]
  omega

theorem wpred {i : Nat} (h : i ≤ 1099511627776) : wrap64 (((i + 1 : Nat) : Int) - 1) = (i : Int) := by
  rw [w64 (by omega) (by omega)]
  omega

theorem in_eq (n a b : Int) : spec_l1In.f n a b = some (decide (a ≤ n ∧ n ≤ b)) := by
  unfold spec_l1In.f
  by_cases h : n ≥ a
  · rw [if_pos h]
    have : a ≤ n := h
    simp [this]
  · rw [if_neg h]
    have : ¬ a ≤ n := h
    simp [this]

theorem within_eq (n a b : Int) : impl_within.f n a b = some (decide (a ≤ n ∧ n ≤ b)) := by
  unfold impl_within.f
  by_cases h : n ≥ a
  · rw [if_pos h]
    have : a ≤ n := h
    simp [this]
  · rw [if_neg h]
    have : ¬ a ≤ n := h
    simp [this]

theorem left_eq {a m : Int} (h1 : 0 < m) (h2 : m ≤ 4611686018427387904) : spec_l2Left.f a m = some (a % m) := by
  unfold spec_l2Left.f
  rw [if_neg (by omega)]
  have e0 := Int.tmod_lt_of_pos a h1
  have e1 := Int.lt_tmod_of_pos a h1
  rw [w64 (by omega) (by omega), Int.tmod_eq_emod_of_nonneg (by omega), Int.tmod_eq_emod]
  congr 1
  split
  · simp
  · rw [show a % m - ((m.natAbs : Nat) : Int) + m = a % m by omega, Int.emod_emod]

theorem rest_eq {a m : Int} (h1 : 0 < m) (h2 : m ≤ 4611686018427387904) : impl_rest.f a m = some (a % m) := by
  unfold impl_rest.f
  rw [if_neg (by omega)]
  have e0 := Int.tmod_lt_of_pos a h1
  have e1 := Int.lt_tmod_of_pos a h1
  rw [w64 (by omega) (by omega), Int.tmod_eq_emod_of_nonneg (by omega), Int.tmod_eq_emod]
  congr 1
  split
  · simp
  · rw [show a % m - ((m.natAbs : Nat) : Int) + m = a % m by omega, Int.emod_emod]

theorem specinv_loop (a m : Int) (hm : 2 ≤ m) (hM : m ≤ 1073741824) : ∀ (n : Nat) (last left before now : Int), left.toNat ≤ n → EuInv a m last left before now →
    -m ≤ before → before ≤ m → ∃ r b, InvIs a m r b ∧ Ev (fun k => spec_l2Inv.l0 k m last left before now) r := by
  intro n
  induction n with
  | zero =>
    intro last left before now hn h hb hb'
    have := h.l0
    obtain rfl : left = 0 := by omega
    by_cases h1 : last = 1
    · refine ⟨before % m, true, h.one hm h1, Ev.step (fun k => by rw [spec_l2Inv.l0]) ?_⟩
      subst h1
      simp [left_eq (show 0 < m by omega) (show m ≤ 4611686018427387904 by omega)]
      exact Ev.now _
    · refine ⟨0, false, h.more h1, Ev.step (fun k => by rw [spec_l2Inv.l0]) ?_⟩
      simp [h1]
      exact Ev.now _
  | succ n ih =>
    intro last left before now hn h hb hb'
    by_cases h0 : left = 0
    · exact ih last left before now (by omega) h hb hb'
    · have hp : 0 < left := by have := h.l0; omega
      have h' := h.step hp
      have b1 := h.now_le
      have b2 := h'.now_le
      have l1 := h.l1
      have hl := h.lm
      have q0 : 0 ≤ last / left := Int.ediv_nonneg (by omega) (by omega)
      have q1 : last / left ≤ last := Int.ediv_le_self _ (by omega)
      obtain ⟨r, b, hr, ev⟩ := ih left (last % left) now (before - last / left * now) (by have := h'.lt; have := h'.l0; omega) h' (by omega) (by omega)
      refine ⟨r, b, hr, Ev.step (fun k => by rw [spec_l2Inv.l0]) ?_⟩
      rw [tdiv_of_nonneg (by omega), tmod_of_nonneg (by omega), w64 (n := last / left) (by omega) (by omega), w64 (n := last / left * now) (by omega) (by omega), w64 (by omega) (by omega)]
      simpa [h0, hp] using ev

theorem implinv_loop (a m : Int) (hm : 2 ≤ m) (hM : m ≤ 1073741824) : ∀ (n : Nat) (last left before now : Int), left.toNat ≤ n → EuInv a m last left before now →
    -m ≤ before → before ≤ m → ∃ r b, InvIs a m r b ∧ Ev (fun k => impl_InvInt.l0 k m last left before now) (r,b) := by
  intro n
  induction n with
  | zero =>
    intro last left before now hn h hb hb'
    have := h.l0
    obtain rfl : left = 0 := by omega
    by_cases h1 : last = 1
    · refine ⟨before % m, true, h.one hm h1, Ev.step (fun k => by rw [impl_InvInt.l0]) ?_⟩
      subst h1
      simp [rest_eq (show 0 < m by omega) (show m ≤ 4611686018427387904 by omega)]
      exact Ev.now _
    · refine ⟨0, false, h.more h1, Ev.step (fun k => by rw [impl_InvInt.l0]) ?_⟩
      simp [h1]
      exact Ev.now _
  | succ n ih =>
    intro last left before now hn h hb hb'
    by_cases h0 : left = 0
    · exact ih last left before now (by omega) h hb hb'
    · have hp : 0 < left := by have := h.l0; omega
      have h' := h.step hp
      have b1 := h.now_le
      have b2 := h'.now_le
      have l1 := h.l1
      have hl := h.lm
      have q0 : 0 ≤ last / left := Int.ediv_nonneg (by omega) (by omega)
      have q1 : last / left ≤ last := Int.ediv_le_self _ (by omega)
      obtain ⟨r, b, hr, ev⟩ := ih left (last % left) now (before - last / left * now) (by have := h'.lt; have := h'.l0; omega) h' (by omega) (by omega)
      refine ⟨r, b, hr, Ev.step (fun k => by rw [impl_InvInt.l0]) ?_⟩
      rw [tdiv_of_nonneg (by omega), tmod_of_nonneg (by omega), w64 (n := last / left) (by omega) (by omega), w64 (n := last / left * now) (by omega) (by omega), w64 (by omega) (by omega)]
      simpa [h0, hp] using ev

theorem implInv_eq (a : Int) {m : Int} (h : 2 ≤ m) (h' : m ≤ 1073741824) : ∃ r b, InvIs a m r b ∧ Ev (fun k => impl_InvInt.f k a m) (r, b) := by
  obtain ⟨r, b, hr, e⟩ := implinv_loop a m h h' (a % m).toNat m (a % m) 0 1 (Nat.le_refl _) (EuInv.start h) (by omega) (by omega)
  refine ⟨r, b, hr, ?_⟩
  unfold impl_InvInt.f
  simp only [within_eq, h, h', and_self, decide_true, if_true, rest_eq (a := a) (m := m) (by omega) (by omega), Option.bind_some]
  exact e

theorem specInv_eq (a : Int) {m : Int} (h : 2 ≤ m) (h' : m ≤ 1073741824) : ∃ r b, InvIs a m r b ∧ Ev (fun k => spec_l2Inv.f k a m) r := by
  obtain ⟨r, b, hr, e⟩ := specinv_loop a m h h' (a % m).toNat m (a % m) 0 1 (Nat.le_refl _) (EuInv.start h) (by omega) (by omega)
  refine ⟨r, b, hr, ?_⟩
  unfold spec_l2Inv.f
  simp only [left_eq (a := a) (m := m) (by omega) (by omega), Option.bind_some]
  exact e

def tab8 : ByteArray := ⟨#[0, 1, 2, 2, 3, 3, 3, 3, 4, 4, 4, 4, 4, 4, 4, 4, 5, 5, 5, 5, 5, 5, 5, 5, 5, 5, 5, 5, 5, 5, 5, 5, 6, 6, 6, 6, 6, 6, 6, 6, 6, 6, 6, 6, 6, 6, 6, 6, 6, 6, 6, 6, 6, 6, 6, 6, 6, 6, 6, 6, 6, 6, 6, 6, 7, 7, 7, 7, 7, 7, 7, 7, 7, 7, 7, 7, 7, 7, 7, 7, 7, 7, 7, 7, 7, 7, 7, 7, 7, 7, 7, 7, 7, 7, 7, 7, 7, 7, 7, 7, 7, 7, 7, 7, 7, 7, 7, 7, 7, 7, 7, 7, 7, 7, 7, 7, 7, 7, 7, 7, 7, 7, 7, 7, 7, 7, 7, 7, 8, 8, 8, 8, 8, 8, 8, 8, 8, 8, 8, 8, 8, 8, 8, 8, 8, 8, 8, 8, 8, 8, 8, 8, 8, 8, 8, 8, 8, 8, 8, 8, 8, 8, 8, 8, 8, 8, 8, 8, 8, 8, 8, 8, 8, 8, 8, 8, 8, 8, 8, 8, 8, 8, 8, 8, 8, 8, 8, 8, 8, 8, 8, 8, 8, 8, 8, 8, 8, 8, 8, 8, 8, 8, 8, 8, 8, 8, 8, 8, 8, 8, 8, 8, 8, 8, 8, 8, 8, 8, 8, 8, 8, 8, 8, 8, 8, 8, 8, 8, 8, 8, 8, 8, 8, 8, 8, 8, 8, 8, 8, 8, 8, 8, 8, 8, 8, 8, 8, 8, 8, 8, 8, 8, 8, 8, 8, 8]⟩

theorem tab8_all : ∀ n : Fin 256, bt tab8 ((n.val : Nat) : Int) = ((bl n.val : Nat) : Int) := by decide +kernel

set_option maxRecDepth 100000 in
theorem tab8_eq {x : Int} (h0 : 0 ≤ x) (h1 : x < 256) : bt (⟨#[0, 1, 2, 2, 3, 3, 3, 3, 4, 4, 4, 4, 4, 4, 4, 4, 5, 5, 5, 5, 5, 5, 5, 5, 5, 5, 5, 5, 5, 5, 5, 5, 6, 6, 6, 6, 6, 6, 6, 6, 6, 6, 6, 6, 6, 6, 6, 6, 6, 6, 6, 6, 6, 6, 6, 6, 6, 6, 6, 6, 6, 6, 6, 6, 7, 7, 7, 7, 7, 7, 7, 7, 7, 7, 7, 7, 7, 7, 7, 7, 7, 7, 7, 7, 7, 7, 7, 7, 7, 7, 7, 7, 7, 7, 7, 7, 7, 7, 7, 7, 7, 7, 7, 7, 7, 7, 7, 7, 7, 7, 7, 7, 7, 7, 7, 7, 7, 7, 7, 7, 7, 7, 7, 7, 7, 7, 7, 7, 8, 8, 8, 8, 8, 8, 8, 8, 8, 8, 8, 8, 8, 8, 8, 8, 8, 8, 8, 8, 8, 8, 8, 8, 8, 8, 8, 8, 8, 8, 8, 8, 8, 8, 8, 8, 8, 8, 8, 8, 8, 8, 8, 8, 8, 8, 8, 8, 8, 8, 8, 8, 8, 8, 8, 8, 8, 8, 8, 8, 8, 8, 8, 8, 8, 8, 8, 8, 8, 8, 8, 8, 8, 8, 8, 8, 8, 8, 8, 8, 8, 8, 8, 8, 8, 8, 8, 8, 8, 8, 8, 8, 8, 8, 8, 8, 8, 8, 8, 8, 8, 8, 8, 8, 8, 8, 8, 8, 8, 8, 8, 8, 8, 8, 8, 8, 8, 8, 8, 8, 8, 8, 8, 8, 8, 8, 8, 8]⟩ : ByteArray) x = ((bl x.toNat : Nat) : Int) := by
  have := tab8_all ⟨x.toNat, by omega⟩
  unfold tab8 at this
  rw [show (((⟨x.toNat, by omega⟩ : Fin 256).val : Nat) : Int) = x from by simp; omega] at this
  exact this

theorem blI {x : Int} (k : Nat) (h : (2 : Int) ^ k ≤ x) : ((bl x.toNat : Nat) : Int) = ((bl (x / 2 ^ k).toNat : Nat) : Int) + k := by
  have h1 := bl_shift k x.toNat (by have := two_pow_int k; omega)
  have h2 : (x / 2 ^ k).toNat = x.toNat / 2 ^ k := by
    have h3 : 0 < (2 : Int) ^ k := Int.pow_pos (by omega)
    obtain ⟨n, rfl⟩ : ∃ n : Nat, x = n := ⟨x.toNat, by omega⟩
    rw [← two_pow_int, Int.toNat_natCast, ← Int.natCast_ediv, Int.toNat_natCast]
  rw [h2, h1]
  omega

set_option maxRecDepth 100000 in
theorem len64_j0 {x c : Int} (h0 : 0 ≤ x) (h1 : x < 4294967296) (c0 : 0 ≤ c) (c1 : c ≤ 1000) : Ev (fun k => bits_Len64.j0 k x c) (c + ((bl x.toNat : Nat) : Int)) := by
  refine Ev.step (fun k => by rw [bits_Len64.j0]) ?_
  have blb : ∀ y : Int, 0 ≤ y → y < 256 → ((bl y.toNat : Nat) : Int) ≤ 8 := by
    intro y y0 y1
    have := bl_le (n := y.toNat) (k := 8) (by omega)
    omega
  by_cases p1 : x ≥ 65536
  · simp only [if_pos p1]
    have e1 := blI (x := x) 16 (by omega)
    by_cases p2 : x / 65536 ≥ 256
    · have e2 := blI (x := x / 65536) 8 (by omega)
      have r0 : 0 ≤ x / 65536 / 256 := by omega
      have r1 : x / 65536 / 256 < 256 := by omega
      have r2 : x / 65536 / 256 % 256 = x / 65536 / 256 := by omega
      have b := blb (x / 65536 / 256) (by omega) (by omega)
      simp only [if_pos p2, r2, if_pos r0, if_pos r1, tab8_eq r0 r1]
      rw [w64 (n := ((bl (x / 65536 / 256).toNat : Nat) : Int)) (by omega) (by omega), w64 (n := c + 16) (by omega) (by omega), w64 (n := c + 16 + 8) (by omega) (by omega), w64 (by omega) (by omega),
        show c + 16 + 8 + ((bl (x / 65536 / 256).toNat : Nat) : Int) = c + ((bl x.toNat : Nat) : Int) by simp only [show ((2 : Int) ^ 16) = 65536 by decide, show ((2 : Int) ^ 8) = 256 by decide] at e1 e2; omega]
      exact Ev.now _
    · have r0 : 0 ≤ x / 65536 := by omega
      have r1 : x / 65536 < 256 := by omega
      have r2 : x / 65536 % 256 = x / 65536 := by omega
      have b := blb (x / 65536) (by omega) (by omega)
      simp only [if_neg p2, r2, if_pos r0, if_pos r1, tab8_eq r0 r1]
      rw [w64 (n := ((bl (x / 65536).toNat : Nat) : Int)) (by omega) (by omega), w64 (n := c + 16) (by omega) (by omega), w64 (by omega) (by omega),
        show c + 16 + ((bl (x / 65536).toNat : Nat) : Int) = c + ((bl x.toNat : Nat) : Int) by simp only [show ((2 : Int) ^ 16) = 65536 by decide] at e1; omega]
      exact Ev.now _
  · simp only [if_neg p1]
    by_cases p2 : x ≥ 256
    · have e2 := blI (x := x) 8 (by omega)
      have r0 : 0 ≤ x / 256 := by omega
      have r1 : x / 256 < 256 := by omega
      have r2 : x / 256 % 256 = x / 256 := by omega
      have b := blb (x / 256) (by omega) (by omega)
      simp only [if_pos p2, r2, if_pos r0, if_pos r1, tab8_eq r0 r1]
      rw [w64 (n := ((bl (x / 256).toNat : Nat) : Int)) (by omega) (by omega), w64 (n := c + 8) (by omega) (by omega), w64 (by omega) (by omega),
        show c + 8 + ((bl (x / 256).toNat : Nat) : Int) = c + ((bl x.toNat : Nat) : Int) by simp only [show ((2 : Int) ^ 8) = 256 by decide] at e2; omega]
      exact Ev.now _
    · have r0 : 0 ≤ x := by omega
      have r1 : x < 256 := by omega
      have r2 : x % 256 = x := by omega
      have b := blb x (by omega) (by omega)
      simp only [if_neg p2, r2, if_pos r0, if_pos r1, tab8_eq r0 r1]
      rw [w64 (n := ((bl x.toNat : Nat) : Int)) (by omega) (by omega), w64 (by omega) (by omega)]
      exact Ev.now _

theorem len_eq {x : Int} (h0 : 0 ≤ x) (h1 : x < 18446744073709551616) : Ev (fun k => bits_Len.f k x) ((bl x.toNat : Nat) : Int) := by
  unfold bits_Len.f bits_Len64.f
  by_cases p : x ≥ 4294967296
  · simp only [if_pos p]
    have e := blI (x := x) 32 (by omega)
    have := len64_j0 (x := x / 4294967296) (c := 32) (by omega) (by omega) (by omega) (by omega)
    rw [show 32 + ((bl (x / 4294967296).toNat : Nat) : Int) = ((bl x.toNat : Nat) : Int) by simp only [show ((2 : Int) ^ 32) = 4294967296 by decide] at e; omega] at this
    exact Ev.bind this (Ev.now _)
  · simp only [if_neg p]
    have := len64_j0 (x := x) (c := 0) (by omega) (by omega) (by omega) (by omega)
    rw [Int.zero_add] at this
    exact Ev.bind this (Ev.now _)

theorem u64w {x : Int} (h0 : 0 ≤ x) (h1 : x < 18446744073709551616) : IntKind.u64.wrap x = x := by
  rw [show IntKind.u64.wrap x = x % 18446744073709551616 from by simp [IntKind.wrap, IntKind.bits, IntKind.signed]]
  omega

theorem and1 {x : Int} (h0 : 0 ≤ x) (h1 : x < 9223372036854775808) : Go.bits .and .i64 x 1 = x % 2 := by
  have := bits_mask .i64 63 (by decide) (fun n a b => by rw [IntKind.wrap_i64]; omega) 1 (by decide) x h0 (by simpa using h1)
  simpa using this

theorem mulmod (x y m : Int) : x % m * (y % m) % m = x * y % m := (Int.mul_emod x y m).symm

theorem mod_bd (x : Int) {m : Int} (h : 1 ≤ m) (h' : m ≤ 1073741824) : 0 ≤ x % m ∧ x % m < m := ⟨Int.emod_nonneg _ (by omega), Int.emod_lt_of_pos _ (by omega)⟩

theorem mul_small {x y : Int} (hx : 0 ≤ x) (hx' : x < 1073741824) (hy : 0 ≤ y) (hy' : y < 1073741824) : 0 ≤ x * y ∧ wrap64 (x * y) = x * y := by
  have h1 : 0 ≤ x * y := Int.mul_nonneg hx hy
  have h2 : x * y ≤ 1073741823 * 1073741823 := Int.mul_le_mul (by omega) (by omega) hy (by omega)
  exact ⟨h1, w64 (by omega) (by omega)⟩

theorem one_mod' {m : Int} (h : 1 ≤ m) : (1 : Int) % m = 1 % m := rfl

theorem implPow_loop (a m : Int) (E : Nat) (hE : E < 9223372036854775808) (hm : 1 ≤ m) (hm' : m ≤ 1073741824) : ∀ (n : Nat), n ≤ 64 →
    Ev (fun k => impl_powInt.l0 k (a % m) (E : Int) m (a ^ (E / 2 ^ n) % m) ((n : Int) - 1)) (a ^ E % m) := by
  intro n
  induction n with
  | zero =>
    intro _
    refine Ev.step (fun k => by rw [impl_powInt.l0]) ?_
    simp only [if_neg (show ¬ ((0 : Nat) : Int) - 1 ≥ 0 by omega), Nat.pow_zero, Nat.div_one]
    exact Ev.now _
  | succ n ih =>
    intro hn
    have ih := ih (by omega)
    have st := div_step E n
    have b1 := mod_bd (a ^ (E / 2 ^ (n + 1))) hm hm'
    have b2 := mod_bd a hm hm'
    have b3 := mod_bd (a ^ (E / 2 ^ (n + 1)) * a ^ (E / 2 ^ (n + 1))) hm hm'
    obtain ⟨p0, w0⟩ := mul_small b1.1 (by omega) b1.1 (by omega)
    obtain ⟨p1, w1⟩ := mul_small b3.1 (by omega) b2.1 (by omega)
    have sh : shr .i64 (E : Int) (n : Int) = ((E / 2 ^ n : Nat) : Int) := by
      unfold shr
      rw [Int.toNat_natCast, Nat.min_eq_left (by simp [IntKind.bits]; omega), ← two_pow_int]
      exact (Int.natCast_ediv _ _).symm
    have le : E / 2 ^ n ≤ E := Nat.div_le_self _ _
    have an := and1 (x := ((E / 2 ^ n : Nat) : Int)) (by omega) (by clear w0 w1 st; omega)
    have q0 : ((n + 1 : Nat) : Int) - 1 = (n : Int) := by clear w0 w1 sh an; omega
    have q1 : (n : Int) ≥ 0 := by clear w0 w1 sh an; omega
    have q2 : ¬ m = 0 := by clear w0 w1 sh an; omega
    have q3 : 0 ≤ (n : Int) := by clear w0 w1 sh an; omega
    have q4 : wrap64 ((n : Int) - 1) = (n : Int) - 1 := by clear w0 w1 sh an; exact w64 (by omega) (by omega)
    refine Ev.step (fun k => by rw [impl_powInt.l0]) ?_
    simp only [q0, if_pos q1, if_neg q2, if_pos q3, sh, an, q4, w0, Int.tmod_eq_emod_of_nonneg p0, mulmod, w1, Int.tmod_eq_emod_of_nonneg p1]
    rcases Nat.mod_two_eq_zero_or_one (E / 2 ^ n) with hb | hb
    · rw [hb, Nat.add_zero] at st
      simp only [if_neg (show ¬ ((E / 2 ^ n : Nat) : Int) % 2 = 1 by clear w0 w1 sh an q4; omega)]
      rw [st, Nat.two_mul, Int.pow_add] at ih
      exact ih
    · rw [hb] at st
      simp only [if_pos (show ((E / 2 ^ n : Nat) : Int) % 2 = 1 by clear w0 w1 sh an q4; omega)]
      rw [st, Nat.two_mul, Int.pow_add, Int.pow_add, Int.pow_one] at ih
      exact ih

theorem implPow_eq {a e m : Int} (ha : 0 ≤ a) (he : 0 ≤ e) (he' : e ≤ 9223372036854775807) (hm : 1 ≤ m) (hm' : m ≤ 1073741824) : Ev (fun k => impl_powInt.f k a e m) (a ^ e.toNat % m) := by
  obtain ⟨E, rfl⟩ : ∃ E : Nat, e = E := ⟨e.toNat, by omega⟩
  unfold impl_powInt.f
  simp only [if_neg (show ¬ m = 0 by omega), Int.toNat_natCast]
  rw [u64w he (by omega), Int.tmod_eq_emod_of_nonneg ha]
  refine Ev.bind (len_eq he (by omega)) ?_
  rw [Int.toNat_natCast]
  have hl := bl_le (n := E) (k := 64) (by omega)
  have := implPow_loop a m E (by omega) hm hm' (bl E) (by omega)
  rw [Nat.div_eq_of_lt (bl_lt E), Int.pow_zero] at this
  rw [w64 (by omega) (by omega)]
  exact this

theorem specPow_loop (m : Int) (hm : 1 ≤ m) (hm' : m ≤ 1073741824) : ∀ (n E : Nat) (x y : Int), E ≤ n → E < 9223372036854775808 →
    Ev (fun k => spec_l2Pow.l0 k (E : Int) m (x % m) (y % m)) (x * y ^ E % m) := by
  intro n
  induction n with
  | zero =>
    intro E x y hE hE'
    obtain rfl : E = 0 := by omega
    refine Ev.step (fun k => by rw [spec_l2Pow.l0]) ?_
    simp only [if_neg (show ¬ ((0 : Nat) : Int) > 0 by omega), Int.pow_zero, Int.mul_one]
    exact Ev.now _
  | succ n ih =>
    intro E x y hE hE'
    by_cases h0 : E = 0
    · subst h0; exact ih 0 x y (by omega) (by omega)
    · have b1 := mod_bd x hm hm'
      have b2 := mod_bd y hm hm'
      obtain ⟨p0, w0⟩ := mul_small b1.1 (by omega) b2.1 (by omega)
      obtain ⟨p1, w1⟩ := mul_small b2.1 (by omega) b2.1 (by omega)
      have q0 : (E : Int) > 0 := by clear w0 w1; omega
      have q1 : ¬ m = 0 := by clear w0 w1; omega
      have q2 : wrap64 (Int.tdiv (E : Int) 2) = ((E / 2 : Nat) : Int) := by
        rw [Int.tdiv_eq_ediv_of_nonneg (by clear w0 w1; omega), w64 (by clear w0 w1; omega) (by clear w0 w1; omega)]
        clear w0 w1; omega
      have q3 : Int.tmod (E : Int) 2 = ((E % 2 : Nat) : Int) := by rw [Int.tmod_eq_emod_of_nonneg (by clear w0 w1 q2; omega)]; clear w0 w1 q2; omega
      refine Ev.step (fun k => by rw [spec_l2Pow.l0]) ?_
      simp only [if_pos q0, if_neg q1, q2, q3, w0, w1, Int.tmod_eq_emod_of_nonneg p0, Int.tmod_eq_emod_of_nonneg p1, mulmod]
      clear q2 q3 w0 w1
      have hyy : (y * y) ^ (E / 2) = y ^ (2 * (E / 2)) := by rw [Nat.two_mul, Int.pow_add, Int.mul_pow]
      rcases Nat.mod_two_eq_zero_or_one E with hb | hb
      · simp only [hb, if_neg (show ¬ ((0 : Nat) : Int) = 1 by omega)]
        have := ih (E / 2) x (y * y) (by omega) (by omega)
        rw [hyy, show 2 * (E / 2) = E by omega] at this
        exact this
      · simp only [hb, if_pos (show ((1 : Nat) : Int) = 1 by omega)]
        have := ih (E / 2) (x * y) (y * y) (by omega) (by omega)
        rw [hyy, Int.mul_assoc, ← Int.pow_succ', show 2 * (E / 2) + 1 = E by omega] at this
        exact this

theorem specPow_eq {a e m : Int} (ha : 0 ≤ a) (he : 0 ≤ e) (he' : e ≤ 9223372036854775807) (hm : 1 ≤ m) (hm' : m ≤ 1073741824) : Ev (fun k => spec_l2Pow.f k a e m) (a ^ e.toNat % m) := by
  obtain ⟨E, rfl⟩ : ∃ E : Nat, e = E := ⟨e.toNat, by omega⟩
  unfold spec_l2Pow.f
  simp only [if_neg (show ¬ m = 0 by omega), Int.toNat_natCast]
  rw [Int.tmod_eq_emod_of_nonneg ha]
  have := specPow_loop m hm hm' E E 1 a (Nat.le_refl _) (by omega)
  rw [Int.one_mul] at this
  exact this

theorem sprime_loop (n : Int) (hn : n ≤ 1099511627776) (h2 : 2 ≤ n) : ∀ (m : Nat) (d : Int), 2 ≤ d → (1048580 - d).toNat ≤ m → d ≤ 1048577 → (∀ c, 2 ≤ c → c < d → ¬ c ∣ n) →
    ∃ r, (r = true → Prm n) ∧ (r = false → ¬ Prm n) ∧ Ev (fun k => spec_PrimeInt.l0 k n d) r := by
  intro m
  induction m with
  | zero => intro d h h1 h2; omega
  | succ m ih =>
    intro d h h1 h3 hc
    have e0 : 0 ≤ d * d := Int.mul_nonneg (by omega) (by omega)
    have e1 : d * d ≤ 1048577 * 1048577 := Int.mul_le_mul h3 h3 (by omega) (by omega)
    have h5 : d * d ≤ n → d ≤ 1048576 := by
      intro k
      rcases Int.lt_or_le 1048576 d with h6 | h6
      · have : (1048577 : Int) * 1048577 ≤ d * d := Int.mul_le_mul h6 h6 (by omega) (by omega)
        omega
      · exact h6
    have ew : wrap64 (d * d) = d * d := w64 (by omega) (by omega)
    by_cases h6 : d * d ≤ n
    · have hd := h5 h6
      by_cases h4 : n % d = 0
      · refine ⟨false, fun k => (by cases k), fun _ k => k.2 d h h6 (Int.dvd_of_emod_eq_zero h4), Ev.step (fun k => by rw [spec_PrimeInt.l0]) ?_⟩
        simp only [ew, if_pos h6, if_neg (show ¬ d = 0 by clear ew; omega), Int.tmod_eq_emod_of_nonneg (show 0 ≤ n by clear ew; omega), if_pos h4]
        exact Ev.now _
      · obtain ⟨r, r1, r2, e⟩ := ih (d + 1) (by clear ew; omega) (by clear ew; omega) (by clear ew; omega) (fun c c0 c1 => by
          by_cases hcd : c = d
          · subst hcd; intro k; exact h4 (Int.emod_eq_zero_of_dvd k)
          · exact hc c c0 (by clear ew; omega))
        refine ⟨r, r1, r2, Ev.step (fun k => by rw [spec_PrimeInt.l0]) ?_⟩
        simp only [ew, if_pos h6, if_neg (show ¬ d = 0 by clear ew; omega), Int.tmod_eq_emod_of_nonneg (show 0 ≤ n by clear ew; omega), if_neg h4]
        clear ew
        rw [w64 (n := d + 1) (by omega) (by omega)]
        exact e
    · refine ⟨true, fun _ => ⟨h2, fun c c0 c1 c2 => ?_⟩, fun k => (by cases k), Ev.step (fun k => by rw [spec_PrimeInt.l0]) ?_⟩
      · refine hc c c0 ?_ c2
        rcases Int.lt_or_le c d with h7 | h7
        · exact h7
        · have : d * d ≤ c * c := Int.mul_le_mul h7 h7 (by clear ew; omega) (by clear ew; omega)
          clear ew; omega
      · simp only [ew, if_neg h6]
        exact Ev.now _

theorem sprime_eq (n : Int) : ∃ r, (r = true → Prm n ∧ n ≤ 1099511627776) ∧ (r = false → ¬ (Prm n ∧ n ≤ 1099511627776)) ∧ Ev (fun k => spec_PrimeInt.f k n) r := by
  unfold spec_PrimeInt.f
  simp only [in_eq, Option.bind_some]
  by_cases h : 2 ≤ n ∧ n ≤ 1099511627776
  · obtain ⟨r, r1, r2, e⟩ := sprime_loop n h.2 h.1 1048578 2 (by omega) (by omega) (by omega) (fun c c0 c1 => by omega)
    refine ⟨r, fun k => ⟨r1 k, h.2⟩, fun k q => r2 k q.1, ?_⟩
    simp only [h.1, h.2, and_self, decide_true, if_true]
    exact e
  · refine ⟨false, fun k => (by cases k), fun _ q => h ⟨q.1.1, q.2⟩, ?_⟩
    simp only [h, decide_false]
    simpa using Ev.now false

theorem iprime_loop (n : Int) (hn : n ≤ 1099511627776) (h2 : 2 ≤ n) : ∀ (m : Nat) (d : Int), 2 ≤ d → (1048580 - d).toNat ≤ m → d ≤ 1048577 → (∀ c, 2 ≤ c → c < d → ¬ c ∣ n) →
    ∃ r, (r = true → Prm n) ∧ (r = false → ¬ Prm n) ∧ Ev (fun k => impl_PrimeInt.l0 k n d) r := by
  intro m
  induction m with
  | zero => intro d h h1 h2; omega
  | succ m ih =>
    intro d h h1 h3 hc
    have e0 : 0 ≤ d * d := Int.mul_nonneg (by omega) (by omega)
    have e1 : d * d ≤ 1048577 * 1048577 := Int.mul_le_mul h3 h3 (by omega) (by omega)
    have h5 : d * d ≤ n → d ≤ 1048576 := by
      intro k
      rcases Int.lt_or_le 1048576 d with h6 | h6
      · have : (1048577 : Int) * 1048577 ≤ d * d := Int.mul_le_mul h6 h6 (by omega) (by omega)
        omega
      · exact h6
    have ew : wrap64 (d * d) = d * d := w64 (by omega) (by omega)
    by_cases h6 : d * d ≤ n
    · have hd := h5 h6
      by_cases h4 : n % d = 0
      · refine ⟨false, fun k => (by cases k), fun _ k => k.2 d h h6 (Int.dvd_of_emod_eq_zero h4), Ev.step (fun k => by rw [impl_PrimeInt.l0]) ?_⟩
        simp only [ew, if_pos h6, if_neg (show ¬ d = 0 by clear ew; omega), Int.tmod_eq_emod_of_nonneg (show 0 ≤ n by clear ew; omega), if_pos h4]
        exact Ev.now _
      · obtain ⟨r, r1, r2, e⟩ := ih (d + 1) (by clear ew; omega) (by clear ew; omega) (by clear ew; omega) (fun c c0 c1 => by
          by_cases hcd : c = d
          · subst hcd; intro k; exact h4 (Int.emod_eq_zero_of_dvd k)
          · exact hc c c0 (by clear ew; omega))
        refine ⟨r, r1, r2, Ev.step (fun k => by rw [impl_PrimeInt.l0]) ?_⟩
        simp only [ew, if_pos h6, if_neg (show ¬ d = 0 by clear ew; omega), Int.tmod_eq_emod_of_nonneg (show 0 ≤ n by clear ew; omega), if_neg h4]
        clear ew
        rw [w64 (n := d + 1) (by omega) (by omega)]
        exact e
    · refine ⟨true, fun _ => ⟨h2, fun c c0 c1 c2 => ?_⟩, fun k => (by cases k), Ev.step (fun k => by rw [impl_PrimeInt.l0]) ?_⟩
      · refine hc c c0 ?_ c2
        rcases Int.lt_or_le c d with h7 | h7
        · exact h7
        · have : d * d ≤ c * c := Int.mul_le_mul h7 h7 (by clear ew; omega) (by clear ew; omega)
          clear ew; omega
      · simp only [ew, if_neg h6]
        exact Ev.now _

theorem iprime_eq (n : Int) : ∃ r, (r = true → Prm n ∧ n ≤ 1099511627776) ∧ (r = false → ¬ (Prm n ∧ n ≤ 1099511627776)) ∧ Ev (fun k => impl_PrimeInt.f k n) r := by
  unfold impl_PrimeInt.f
  simp only [within_eq, Option.bind_some]
  by_cases h : 2 ≤ n ∧ n ≤ 1099511627776
  · obtain ⟨r, r1, r2, e⟩ := iprime_loop n h.2 h.1 1048578 2 (by omega) (by omega) (by omega) (fun c c0 c1 => by omega)
    refine ⟨r, fun k => ⟨r1 k, h.2⟩, fun k q => r2 k q.1, ?_⟩
    simp only [h.1, h.2, and_self, decide_true, if_true]
    exact e
  · refine ⟨false, fun k => (by cases k), fun _ q => h ⟨q.1.1, q.2⟩, ?_⟩
    simp only [h, decide_false]
    simpa using Ev.now false

theorem primes_eq (n : Int) : ∃ r, (r = true → Prm n) ∧ (r = false → n ≤ 1099511627776 → ¬ Prm n) ∧ Ev (fun k => spec_PrimeInt.f k n) r ∧ Ev (fun k => impl_PrimeInt.f k n) r := by
  obtain ⟨r, r1, r2, e⟩ := sprime_eq n
  obtain ⟨q, q1, q2, f⟩ := iprime_eq n
  obtain rfl : r = q := by
    cases r <;> cases q
    · rfl
    · exact absurd (q1 rfl) (r2 rfl)
    · exact absurd (r1 rfl) (q2 rfl)
    · rfl
  exact ⟨r, fun k => (r1 k).1, fun k h1 h2 => r2 k ⟨h2, h1⟩, e, f⟩

/-- A pair of numbers by p. -/
structure EdPt (p : Int) (d : Int) (K : Fld p) (x y : Int) : Prop where
  x0 : 0 ≤ x
  x1 : x < p
  y0 : 0 ≤ y
  y1 : y < p
  on : EdOn (toF d : K.F) (toF x) (toF y)

theorem mm {x y p : Int} (hp : 1 ≤ p) (hp' : p ≤ 1048576) (x0 : 0 ≤ x) (x1 : x < p) (y0 : 0 ≤ y) (y1 : y < p) : 0 ≤ x * y ∧ x * y ≤ 1099511627776 := by
  have h1 : 0 ≤ x * y := Int.mul_nonneg x0 y0
  have h2 : x * y ≤ 1048576 * 1048576 := Int.mul_le_mul (by omega) (by omega) y0 (by omega)
  omega

theorem md {x p : Int} (hp : 1 ≤ p) : 0 ≤ x % p ∧ x % p < p := ⟨Int.emod_nonneg _ (by omega), Int.emod_lt_of_pos _ (by omega)⟩

/-- A product's rest, as the code makes it. -/
theorem mulm {x y p : Int} (hp : 1 ≤ p) (hp' : p ≤ 1048576) (x0 : 0 ≤ x) (x1 : x < p) (y0 : 0 ≤ y) (y1 : y < p) : Int.tmod (wrap64 (x * y)) p = x * y % p := by
  obtain ⟨h1, h2⟩ := mm hp hp' x0 x1 y0 y1
  rw [w64 (by omega) (by omega), Int.tmod_eq_emod_of_nonneg h1]

theorem summ {x y z w p : Int} (hp : 1 ≤ p) (hp' : p ≤ 1048576) (x0 : 0 ≤ x) (x1 : x < p) (y0 : 0 ≤ y) (y1 : y < p) (z0 : 0 ≤ z) (z1 : z < p) (w0 : 0 ≤ w) (w1 : w < p) :
    Int.tmod (wrap64 (wrap64 (x * y) + wrap64 (z * w))) p = (x * y + z * w) % p := by
  obtain ⟨h1, h2⟩ := mm hp hp' x0 x1 y0 y1
  obtain ⟨h3, h4⟩ := mm hp hp' z0 z1 w0 w1
  rw [w64 (n := x * y) (by omega) (by omega), w64 (n := z * w) (by omega) (by omega), w64 (by omega) (by omega), Int.tmod_eq_emod_of_nonneg (by omega)]

theorem implSum_eq {p d l bx y0' x y u v : Int} (h : EdNum p d) (K : Fld p) (hp : EdPt p d K x y) (hq : EdPt p d K u v) :
    ∃ r s, EdPt p d K r s ∧ ((toF r : K.F), (toF s : K.F)) = edAdd (toF d) (toF x, toF y) (toF u, toF v) ∧ Ev (fun k => impl_Ed_sum.f k p d l bx y0' x y u v) (r, s) := by
  have hlo := h.lo
  have hhi := h.hi
  have g := h.good K
  have p1 : 1 ≤ p := by omega
  have m1 := md (x := d * x) p1
  have m2 := md (x := d * x % p * u) p1
  have m3 := md (x := d * x % p * u % p * y) p1
  have m4 := md (x := d * x % p * u % p * y % p * v) p1
  have hm : (toF (d * x % p * u % p * y % p * v % p) : K.F) = toF d * toF x * toF u * toF y * toF v := by simp only [K.emod, toF_mul]
  obtain ⟨n1, n2⟩ := ed_den g hp.on hq.on
  generalize hmm : d * x % p * u % p * y % p * v % p = m at *
  obtain ⟨r1, b1, i1, e1⟩ := implInv_eq (1 + m) (m := p) (by omega) (by omega)
  obtain ⟨r2, b2, i2, e2⟩ := implInv_eq (1 - m) (m := p) (by omega) (by omega)
  obtain ⟨_, r10, r11, t1⟩ := inv_of K h.prm i1 (by rw [toF_add, toF_one, hm]; exact n1)
  obtain ⟨_, r20, r21, t2⟩ := inv_of K h.prm i2 (by rw [toF_sub, toF_one, hm]; exact n2)
  have q1 := md (x := x * v + y * u) p1
  have q2 := md (x := y * v + x * u) p1
  refine ⟨(x * v + y * u) % p * r1 % p, (y * v + x * u) % p * r2 % p, ?_, ?_, ?_⟩
  rotate_left
  · unfold edAdd
    simp only [K.emod, toF_mul, toF_add, t1, t2, toF_sub, toF_one, hm]
  · unfold impl_Ed_sum.f
    simp only [if_neg (show ¬ p = 0 by omega)]
    rw [mulm p1 hhi (by have := h.d0; omega) h.d1 hp.x0 hp.x1, mulm p1 hhi m1.1 m1.2 hq.x0 hq.x1, mulm p1 hhi m2.1 m2.2 hp.y0 hp.y1, mulm p1 hhi m3.1 m3.2 hq.y0 hq.y1, hmm,
      w64 (n := 1 + m) (by omega) (by omega), w64 (n := 1 - m) (by omega) (by omega),
      summ p1 hhi hp.x0 hp.x1 hq.y0 hq.y1 hp.y0 hp.y1 hq.x0 hq.x1, summ p1 hhi hp.y0 hp.y1 hq.y0 hq.y1 hp.x0 hp.x1 hq.x0 hq.x1]
    refine Ev.bind e1 (Ev.bind e2 ?_)
    simp only
    rw [mulm p1 hhi q1.1 q1.2 (by omega) r11, mulm p1 hhi q2.1 q2.2 (by omega) r21]
    exact Ev.now _
  · have z1 := md (x := (x * v + y * u) % p * r1) p1
    have z2 := md (x := (y * v + x * u) % p * r2) p1
    refine ⟨z1.1, z1.2, z2.1, z2.2, ?_⟩
    have := ed_on g (p := (toF x, toF y)) (q := (toF u, toF v)) hp.on hq.on
    unfold edAdd at this
    simp only [K.emod, toF_mul, toF_add, t1, t2, toF_sub, toF_one, hm]
    exact this

theorem EdPt.same {p d : Int} {K : Fld p} {x y u v : Int} (h : EdPt p d K x y) (k : EdPt p d K u v) (e : ((toF x : K.F), (toF y : K.F)) = (toF u, toF v)) : x = u ∧ y = v := by
  injection e with e1 e2
  exact ⟨K.inj h.x0 h.x1 k.x0 k.x1 e1, K.inj h.y0 h.y1 k.y0 k.y1 e2⟩

theorem EdPt.zero {p d : Int} (h : EdNum p d) (K : Fld p) : EdPt p d K 0 1 := by
  have hlo := h.lo
  refine ⟨by omega, by omega, by omega, by omega, ?_⟩
  rw [toF_zero, toF_one]
  exact (edGrp (h.good K)).on_zero

theorem specSum_eq {p d l bx y0' x y u v : Int} (h : EdNum p d) (K : Fld p) (hp : EdPt p d K x y) (hq : EdPt p d K u v) :
    ∃ r s, EdPt p d K r s ∧ ((toF r : K.F), (toF s : K.F)) = edAdd (toF d) (toF x, toF y) (toF u, toF v) ∧ Ev (fun k => spec_l4Add.f k p d l bx y0' x y u v) (r, s) := by
  have hlo := h.lo
  have hhi := h.hi
  have g := h.good K
  have p1 : 1 ≤ p := by omega
  have hd0 := h.d0
  have m1 := md (x := x * u) p1
  have m2 := md (x := y * v) p1
  have m3 := md (x := d * (x * u % p)) p1
  have m4 := md (x := d * (x * u % p) % p * (y * v % p)) p1
  have hm : (toF (d * (x * u % p) % p * (y * v % p) % p) : K.F) = toF d * toF x * toF u * toF y * toF v := by simp only [K.emod, toF_mul]; grind
  obtain ⟨n1, n2⟩ := ed_den g hp.on hq.on
  generalize hmm : d * (x * u % p) % p * (y * v % p) % p = m at *
  obtain ⟨r1, b1, i1, e1⟩ := specInv_eq (1 + m) (m := p) (by omega) (by omega)
  obtain ⟨r2, b2, i2, e2⟩ := specInv_eq (1 - m) (m := p) (by omega) (by omega)
  obtain ⟨_, r10, r11, t1⟩ := inv_of K h.prm i1 (by rw [toF_add, toF_one, hm]; exact n1)
  obtain ⟨_, r20, r21, t2⟩ := inv_of K h.prm i2 (by rw [toF_sub, toF_one, hm]; exact n2)
  have q1 := md (x := x * v + y * u) p1
  have q2 := md (x := y * v % p + x * u % p) p1
  refine ⟨(x * v + y * u) % p * r1 % p, (y * v % p + x * u % p) % p * r2 % p, ?_, ?_, ?_⟩
  rotate_left
  · unfold edAdd
    simp only [K.emod, toF_mul, toF_add, t1, t2, toF_sub, toF_one, hm]
  · unfold spec_l4Add.f
    simp only [if_neg (show ¬ p = 0 by omega)]
    rw [mulm p1 hhi hp.x0 hp.x1 hq.x0 hq.x1, mulm p1 hhi hp.y0 hp.y1 hq.y0 hq.y1, mulm p1 hhi (by omega) h.d1 m1.1 m1.2, mulm p1 hhi m3.1 m3.2 m2.1 m2.2, hmm,
      w64 (n := 1 + m) (by omega) (by omega), w64 (n := 1 - m) (by omega) (by omega),
      summ p1 hhi hp.x0 hp.x1 hq.y0 hq.y1 hp.y0 hp.y1 hq.x0 hq.x1, w64 (n := y * v % p + x * u % p) (by omega) (by omega), Int.tmod_eq_emod_of_nonneg (show 0 ≤ y * v % p + x * u % p by omega)]
    refine Ev.bind e1 (Ev.bind e2 ?_)
    rw [mulm p1 hhi q1.1 q1.2 (by omega) r11, mulm p1 hhi q2.1 q2.2 (by omega) r21]
    exact Ev.now _
  · have z1 := md (x := (x * v + y * u) % p * r1) p1
    have z2 := md (x := (y * v % p + x * u % p) % p * r2) p1
    refine ⟨z1.1, z1.2, z2.1, z2.2, ?_⟩
    have := ed_on g (p := (toF x, toF y)) (q := (toF u, toF v)) hp.on hq.on
    unfold edAdd at this
    simp only [K.emod, toF_mul, toF_add, t1, t2, toF_sub, toF_one, hm]
    exact this

theorem specTimes_loop {p d l bx by' : Int} (h : EdNum p d) (K : Fld p) : ∀ (m E : Nat) (x y u v : Int), E ≤ m → E < 9223372036854775808 → EdPt p d K x y → EdPt p d K u v →
    ∃ r s, EdPt p d K r s ∧ ((toF r : K.F), (toF s : K.F)) = (edGrp (h.good K)).add (toF u, toF v) ((edGrp (h.good K)).smul E (toF x, toF y)) ∧ Ev (fun k => spec_l4Mul.l0 k (E : Int) p d l bx by' x y u v) (r, s) := by
  intro m
  induction m with
  | zero =>
    intro E x y u v hE hE' hp hq
    obtain rfl : E = 0 := by omega
    refine ⟨u, v, hq, ?_, Ev.step (fun k => by rw [spec_l4Mul.l0]) ?_⟩
    · exact ((edGrp (h.good K)).add_zero (p := (toF u, toF v)) hq.on).symm
    · simp only [if_neg (show ¬ ((0 : Nat) : Int) > 0 by omega)]
      exact Ev.now _
  | succ m ih =>
    intro E x y u v hE hE' hp hq
    by_cases h0 : E = 0
    · subst h0; exact ih 0 x y u v (by omega) (by omega) hp hq
    · have q0 : (E : Int) > 0 := by omega
      have q2 : wrap64 (Int.tdiv (E : Int) 2) = ((E / 2 : Nat) : Int) := by
        rw [Int.tdiv_eq_ediv_of_nonneg (by omega), w64 (by omega) (by omega)]
        omega
      have q3 : Int.tmod (E : Int) 2 = ((E % 2 : Nat) : Int) := by rw [Int.tmod_eq_emod_of_nonneg (by omega)]; clear q2; omega
      obtain ⟨x2, y2, hp2, f2, e2⟩ := specSum_eq (l := l) (bx := bx) (y0' := by') h K hp hp
      rcases Nat.mod_two_eq_zero_or_one E with hb | hb
      · obtain ⟨r, s, hr, fr, er⟩ := ih (E / 2) x2 y2 u v (by clear q2 q3; omega) (by clear q2 q3; omega) hp2 hq
        refine ⟨r, s, hr, ?_, Ev.step (fun k => by rw [spec_l4Mul.l0]) ?_⟩
        · rw [fr, f2]
          have := (edGrp (h.good K)).step_down (o := (toF u, toF v)) (p := (toF x, toF y)) hp.on (E / 2)
          rw [show 2 * (E / 2) = E by clear q2 q3; omega] at this
          exact this
        · simp only [if_pos q0, q2, q3, hb, if_neg (show ¬ ((0 : Nat) : Int) = 1 by omega)]
          exact Ev.bind e2 er
      · obtain ⟨u2, v2, hq2, g2, d2⟩ := specSum_eq (l := l) (bx := bx) (y0' := by') h K hq hp
        obtain ⟨r, s, hr, fr, er⟩ := ih (E / 2) x2 y2 u2 v2 (by clear q2 q3; omega) (by clear q2 q3; omega) hp2 hq2
        refine ⟨r, s, hr, ?_, Ev.step (fun k => by rw [spec_l4Mul.l0]) ?_⟩
        · rw [fr, f2, g2]
          have := (edGrp (h.good K)).step_down1 (o := (toF u, toF v)) (p := (toF x, toF y)) hq.on hp.on (E / 2)
          rw [show 2 * (E / 2) + 1 = E by clear q2 q3; omega] at this
          exact this
        · simp only [if_pos q0, q2, q3, hb, if_pos (show ((1 : Nat) : Int) = 1 by omega)]
          exact Ev.bind d2 (Ev.bind e2 er)

theorem specTimes_eq {p d l bx by' n x y : Int} (h : EdNum p d) (K : Fld p) (hn : 0 ≤ n) (hn' : n ≤ 9223372036854775807) (hp : EdPt p d K x y) :
    ∃ r s, EdPt p d K r s ∧ ((toF r : K.F), (toF s : K.F)) = (edGrp (h.good K)).smul n.toNat (toF x, toF y) ∧ Ev (fun k => spec_l4Mul.f k p d l bx by' n x y) (r, s) := by
  obtain ⟨E, rfl⟩ : ∃ E : Nat, n = E := ⟨n.toNat, by omega⟩
  obtain ⟨r, s, hr, fr, er⟩ := specTimes_loop (l := l) (bx := bx) (by' := by') h K E E x y 0 1 (Nat.le_refl _) (by omega) hp (EdPt.zero h K)
  refine ⟨r, s, hr, ?_, er⟩
  rw [fr, toF_zero, toF_one, Int.toNat_natCast]
  exact (edGrp (h.good K)).zero_add ((edGrp (h.good K)).on_smul (p := (toF x, toF y)) hp.on E)

theorem implTimes_loop {p d l bx by' x y : Int} (h : EdNum p d) (K : Fld p) (hp : EdPt p d K x y) (E : Nat) (hE : E < 9223372036854775808) : ∀ (n : Nat) (u v : Int), n ≤ 64 → EdPt p d K u v →
    ((toF u : K.F), (toF v : K.F)) = (edGrp (h.good K)).smul (E / 2 ^ n) (toF x, toF y) →
    ∃ r s, EdPt p d K r s ∧ ((toF r : K.F), (toF s : K.F)) = (edGrp (h.good K)).smul E (toF x, toF y) ∧ Ev (fun k => impl_Ed_times.l0 k (E : Int) ((n : Int) - 1) p d l bx by' x y u v) (r, s) := by
  intro n
  induction n with
  | zero =>
    intro u v _ hq e
    refine ⟨u, v, hq, by rw [e, Nat.pow_zero, Nat.div_one], Ev.step (fun k => by rw [impl_Ed_times.l0]) ?_⟩
    simp only [if_neg (show ¬ ((0 : Nat) : Int) - 1 ≥ 0 by omega)]
    exact Ev.now _
  | succ n ih =>
    intro u v hn hq e
    have st := div_step E n
    obtain ⟨u2, v2, hq2, f2, e2⟩ := implSum_eq (l := l) (bx := bx) (y0' := by') h K hq hq
    have sh : shr .i64 (E : Int) (n : Int) = ((E / 2 ^ n : Nat) : Int) := by
      unfold shr
      rw [Int.toNat_natCast, Nat.min_eq_left (by simp [IntKind.bits]; omega), ← two_pow_int]
      exact (Int.natCast_ediv _ _).symm
    have le : E / 2 ^ n ≤ E := Nat.div_le_self _ _
    have an := and1 (x := ((E / 2 ^ n : Nat) : Int)) (by omega) (by clear st; omega)
    have q0 : ((n + 1 : Nat) : Int) - 1 = (n : Int) := by clear sh an; omega
    have q1 : (n : Int) ≥ 0 := by clear sh an; omega
    have q3 : 0 ≤ (n : Int) := by clear sh an; omega
    have q4 : wrap64 ((n : Int) - 1) = (n : Int) - 1 := by clear sh an; exact w64 (by omega) (by omega)
    rcases Nat.mod_two_eq_zero_or_one (E / 2 ^ n) with hb | hb
    · obtain ⟨r, s, hr, fr, er⟩ := ih u2 v2 (by clear sh an q4; omega) hq2 (by
        rw [f2, e, st, hb, Nat.add_zero]
        exact (edGrp (h.good K)).step_up (p := (toF x, toF y)) hp.on _)
      refine ⟨r, s, hr, fr, Ev.step (fun k => by rw [impl_Ed_times.l0]) ?_⟩
      simp only [q0, if_pos q1, if_pos q3, sh, an, q4, if_neg (show ¬ ((E / 2 ^ n : Nat) : Int) % 2 = 1 by clear sh an q4; omega)]
      exact Ev.bind e2 er
    · obtain ⟨u3, v3, hq3, f3, e3⟩ := implSum_eq (l := l) (bx := bx) (y0' := by') h K hq2 hp
      obtain ⟨r, s, hr, fr, er⟩ := ih u3 v3 (by clear sh an q4; omega) hq3 (by
        rw [f3, f2, e, st, hb]
        exact (edGrp (h.good K)).step_up1 (p := (toF x, toF y)) hp.on _)
      refine ⟨r, s, hr, fr, Ev.step (fun k => by rw [impl_Ed_times.l0]) ?_⟩
      simp only [q0, if_pos q1, if_pos q3, sh, an, q4, if_pos (show ((E / 2 ^ n : Nat) : Int) % 2 = 1 by clear sh an q4; omega)]
      exact Ev.bind e2 (Ev.bind e3 er)

theorem implTimes_eq {p d l bx by' n x y : Int} (h : EdNum p d) (K : Fld p) (hn : 0 ≤ n) (hn' : n ≤ 9223372036854775807) (hp : EdPt p d K x y) :
    ∃ r s, EdPt p d K r s ∧ ((toF r : K.F), (toF s : K.F)) = (edGrp (h.good K)).smul n.toNat (toF x, toF y) ∧ Ev (fun k => impl_Ed_times.f k p d l bx by' n x y) (r, s) := by
  obtain ⟨E, rfl⟩ : ∃ E : Nat, n = E := ⟨n.toNat, by omega⟩
  have hl := bl_le (n := E) (k := 64) (by omega)
  obtain ⟨r, s, hr, fr, er⟩ := implTimes_loop (l := l) (bx := bx) (by' := by') h K hp E (by omega) (bl E) 0 1 hl (EdPt.zero h K) (by
    rw [Nat.div_eq_of_lt (bl_lt E), toF_zero, toF_one]
    rfl)
  refine ⟨r, s, hr, by rw [fr, Int.toNat_natCast], ?_⟩
  unfold impl_Ed_times.f
  rw [u64w hn (by omega)]
  refine Ev.bind (len_eq hn (by omega)) ?_
  rw [Int.toNat_natCast, w64 (by omega) (by omega)]
  exact er

/-- The test on a pair, with no field in sight. -/
def onEd (p d x y : Int) : Bool := decide (0 ≤ x ∧ x ≤ p - 1) && decide (0 ≤ y ∧ y ≤ p - 1) && decide ((y * y % p - x * x % p) % p = (1 + d * (x * x % p) % p * (y * y % p)) % p)

theorem onEd_iff {p d x y : Int} (h : EdNum p d) (K : Fld p) : onEd p d x y = true ↔ EdPt p d K x y := by
  have hlo := h.lo
  unfold onEd
  rw [Bool.and_eq_true, Bool.and_eq_true, decide_eq_true_iff, decide_eq_true_iff, decide_eq_true_iff]
  have key : (y * y % p - x * x % p) % p = (1 + d * (x * x % p) % p * (y * y % p)) % p ↔ EdOn (toF d : K.F) (toF x) (toF y) := by
    unfold EdOn
    have e1 : (toF ((y * y % p - x * x % p) % p) : K.F) = toF y * toF y - toF x * toF x := by simp only [K.emod, toF_mul, toF_sub]
    have e2 : (toF ((1 + d * (x * x % p) % p * (y * y % p)) % p) : K.F) = 1 + toF d * toF x * toF x * toF y * toF y := by simp only [K.emod, toF_mul, toF_add, toF_one]; grind
    rw [← e1, ← e2]
    constructor
    · intro k; rw [k]
    · intro k
      have b1 := md (x := y * y % p - x * x % p) (p := p) (by omega)
      have b2 := md (x := 1 + d * (x * x % p) % p * (y * y % p)) (p := p) (by omega)
      exact K.inj b1.1 b1.2 b2.1 b2.2 k
  rw [key]
  constructor
  · rintro ⟨⟨⟨a, b⟩, c, e⟩, f⟩; exact ⟨a, by omega, c, by omega, f⟩
  · rintro ⟨a, b, c, e, f⟩; exact ⟨⟨⟨a, by omega⟩, c, by omega⟩, f⟩

theorem on_arith {p d x y : Int} (hlo : 13 ≤ p) (hhi : p ≤ 1048576) (d0 : 0 ≤ d) (d1 : d < p) (x0 : 0 ≤ x) (x1 : x ≤ p - 1) (y0 : 0 ≤ y) (y1 : y ≤ p - 1) :
    Int.tmod (wrap64 (x * x)) p = x * x % p ∧ Int.tmod (wrap64 (y * y)) p = y * y % p ∧ wrap64 (y * y % p - x * x % p) = y * y % p - x * x % p ∧ Int.tmod (wrap64 (d * (x * x % p))) p = d * (x * x % p) % p ∧
    Int.tmod (wrap64 (1 + wrap64 (d * (x * x % p) % p * (y * y % p)))) p = (1 + d * (x * x % p) % p * (y * y % p)) % p := by
  have p1 : 1 ≤ p := by omega
  have b1 := md (x := x * x) p1
  have b2 := md (x := y * y) p1
  have b3 := md (x := d * (x * x % p)) p1
  obtain ⟨h1, h2⟩ := mm p1 hhi b3.1 b3.2 b2.1 b2.2
  refine ⟨mulm p1 hhi x0 (by omega) x0 (by omega), mulm p1 hhi y0 (by omega) y0 (by omega), w64 (by omega) (by omega), mulm p1 hhi d0 d1 b1.1 b1.2, ?_⟩
  rw [w64 (n := d * (x * x % p) % p * (y * y % p)) (by omega) (by omega), w64 (by omega) (by omega), Int.tmod_eq_emod_of_nonneg (by omega)]

theorem implOn_eq {p d l bx by' x y : Int} (hlo : 13 ≤ p) (hhi : p ≤ 1048576) (d0 : 0 ≤ d) (d1 : d < p) : impl_Ed_isPair.f p d l bx by' x y = some (onEd p d x y) := by
  unfold impl_Ed_isPair.f onEd
  rw [w64 (n := p - 1) (by omega) (by omega)]
  simp only [within_eq, Option.bind_some]
  by_cases hx : 0 ≤ x ∧ x ≤ p - 1
  · simp only [hx.1, hx.2, and_self, decide_true, if_true, Bool.true_and]
    by_cases hy : 0 ≤ y ∧ y ≤ p - 1
    · simp only [hy.1, hy.2, and_self, decide_true, if_true, Bool.true_and, if_neg (show ¬ p = 0 by omega)]
      obtain ⟨a1, a2, a3, a4, a5⟩ := on_arith hlo hhi d0 d1 hx.1 hx.2 hy.1 hy.2
      rw [a1, a2, a3, a4, a5, rest_eq (by omega) (by omega)]
      simp only [Option.bind_some]
      rfl
    · simp only [hy, decide_false, Bool.false_and]
      rfl
  · simp only [hx, decide_false, Bool.false_and]
    rfl

theorem specOn_eq {p d l bx by' x y : Int} (hlo : 13 ≤ p) (hhi : p ≤ 1048576) (d0 : 0 ≤ d) (d1 : d < p) : spec_l4On.f p d l bx by' x y = some (onEd p d x y) := by
  unfold spec_l4On.f onEd
  rw [w64 (n := p - 1) (by omega) (by omega)]
  simp only [in_eq, Option.bind_some]
  by_cases hx : 0 ≤ x ∧ x ≤ p - 1
  · simp only [hx.1, hx.2, and_self, decide_true, if_true, Bool.true_and]
    by_cases hy : 0 ≤ y ∧ y ≤ p - 1
    · simp only [hy.1, hy.2, and_self, decide_true, if_true, Bool.true_and, if_neg (show ¬ p = 0 by omega)]
      obtain ⟨a1, a2, a3, a4, a5⟩ := on_arith hlo hhi d0 d1 hx.1 hx.2 hy.1 hy.2
      rw [a1, a2, a3, a4, a5, left_eq (by omega) (by omega)]
      simp only [Option.bind_some]
      rfl
    · simp only [hy, decide_false, Bool.false_and]
      rfl
  · simp only [hx, decide_false, Bool.false_and]
    rfl

/-- A right twisted curve: what is asked ahead of the multiple. -/
structure EdPre (p d l : Int) : Prop where
  num : EdNum p d
  l0 : 5 ≤ l
  l1 : l ≤ 2097152

theorem pow_two_ways {p d : Int} (hp : Prm p) (hlo : 13 ≤ p) (d0 : 0 < d) (d1 : d < p) : d ^ ((p - 1) / 2).toNat % p = 1 ∨ d ^ ((p - 1) / 2).toNat % p = p - 1 := by
  obtain ⟨K⟩ := fldOf_exists hp
  have ho := prm_odd hp (by omega)
  have hz : (toF d : K.F) ≠ 0 := by
    intro e
    rw [K.ker] at e
    have := Int.le_of_dvd d0 e
    omega
  have hf := K.fermat _ hz
  have b := md (x := d ^ ((p - 1) / 2).toNat) (p := p) (by omega)
  have e1 : (toF (d ^ ((p - 1) / 2).toNat % p) : K.F) * toF (d ^ ((p - 1) / 2).toNat % p) = 1 := by
    rw [K.emod, toF_pow, ← pow_add', show ((p - 1) / 2).toNat + ((p - 1) / 2).toNat = (p - 1).toNat by omega, hf]
  generalize d ^ ((p - 1) / 2).toNat % p = q at *
  have e2 : ((toF q : K.F) - 1) * (toF q + 1) = 0 := by grind
  have e3 : (toF q : K.F) = 1 ∨ (toF q : K.F) = -1 := by
    by_cases k : (toF q : K.F) - 1 = 0
    · left; grind
    · right; grind
  rcases e3 with k | k
  · left
    rw [← toF_one] at k
    exact K.inj b.1 b.2 (by omega) (by omega) k
  · right
    rw [← toF_pm K (by omega)] at k
    exact K.inj b.1 b.2 (by omega) (by omega) k

theorem both_ok (p d l bx by' : Int) (hl : -9223372036854775808 ≤ l ∧ l ≤ 9223372036854775807) : ∃ r, Ev (fun k => spec_EdOk.f k p d l bx by') r ∧ Ev (fun k => impl_EdOk.f k p d l bx by') r ∧
    (r = true → EdPre p d l ∧ ∀ K : Fld p, EdPt p d K bx by') := by
  have sj : Ev (fun k => spec_EdOk.j0 k true p d l bx by') false := Ev.step (fun k => by rw [spec_EdOk.j0]) (by simp only [if_true]; exact Ev.now _)
  have ij : Ev (fun k => impl_EdOk.j0 k true p d l bx by') false := Ev.step (fun k => by rw [impl_EdOk.j0]) (by simp only [if_true]; exact Ev.now _)
  have ij1 : Ev (fun k => impl_EdOk.j1 k true p d l bx by') false := Ev.step (fun k => by rw [impl_EdOk.j1]) (by simp only [if_true]; exact Ev.now _)
  unfold spec_EdOk.f impl_EdOk.f
  simp only [in_eq, within_eq, Option.bind_some]
  by_cases hp : 13 ≤ p ∧ p ≤ 1048576
  · have hlo := hp.1
    have hhi := hp.2
    have w1 : wrap64 (p - 1) = p - 1 := w64 (by omega) (by omega)
    have t8 : Int.tmod p 8 = p % 8 := Int.tmod_eq_emod_of_nonneg (by clear w1; omega)
    simp only [hp.1, hp.2, and_self, decide_true, if_true, w1, t8]
    clear t8
    by_cases h8 : p % 8 = 5
    · simp only [if_pos h8]
      obtain ⟨bp, bp1, bp2, sp, ip⟩ := primes_eq p
      obtain ⟨bq, bq1, bq2, sq, iq⟩ := primes_eq l
      by_cases hd : 2 ≤ d ∧ d ≤ p - 1
      · by_cases hl5 : 5 ≤ l ∧ l ≤ 2097152
        · simp only [hd.1, hd.2, hl5.1, hl5.2, and_self, decide_true, if_true]
          cases bp with
          | false =>
            refine ⟨false, Ev.bind sp ?_, Ev.bind ip ?_, fun k => by cases k⟩
            · simpa using sj
            · simpa using ij
          | true =>
            have hP := bp1 rfl
            have w2 : wrap64 (Int.tdiv (p - 1) 2) = (p - 1) / 2 := by rw [Int.tdiv_eq_ediv_of_nonneg (by clear w1; omega), w64 (by clear w1; omega) (by clear w1; omega)]
            have s1 := specPow_eq (a := d) (e := (p - 1) / 2) (m := p) (by clear w1 w2; omega) (by clear w1 w2; omega) (by clear w1 w2; omega) (by clear w1 w2; omega) (by clear w1 w2; omega)
            have i1 := implPow_eq (a := d) (e := (p - 1) / 2) (m := p) (by clear w1 w2; omega) (by clear w1 w2; omega) (by clear w1 w2; omega) (by clear w1 w2; omega) (by clear w1 w2; omega)
            have pw := pow_two_ways hP hlo (show 0 < d by clear w1 w2; omega) (show d < p by clear w1 w2; omega)
            cases bq with
            | false =>
              refine ⟨false, Ev.bind sp ?_, Ev.bind ip ?_, fun k => by cases k⟩
              · simp only [if_true, w2]
                refine Ev.bind s1 ?_
                by_cases hw : d ^ ((p - 1) / 2).toNat % p = p - 1
                · simp only [if_pos hw]
                  exact Ev.bind sq (by simpa using sj)
                · simp only [if_neg hw]
                  exact sj
              · simp only [if_true]
                exact Ev.bind iq (by simpa using ij)
            | true =>
              by_cases hw : d ^ ((p - 1) / 2).toNat % p = p - 1
              · have hN : EdNum p d := ⟨hP, hlo, hhi, h8, by clear w1 w2; omega, by clear w1 w2; omega, hw⟩
                have hne : ¬ p - 1 = 1 := by clear w1 w2; omega
                obtain ⟨K⟩ := fldOf_exists hP
                have so := specOn_eq (l := l) (bx := bx) (by' := by') (x := bx) (y := by') hlo hhi (show 0 ≤ d by clear w1 w2; omega) (show d < p by clear w1 w2; omega)
                have io := implOn_eq (l := l) (bx := bx) (by' := by') (x := bx) (y := by') hlo hhi (show 0 ≤ d by clear w1 w2; omega) (show d < p by clear w1 w2; omega)
                -- behind the numbers' own tests
                obtain ⟨r, e1, e2, hr⟩ : ∃ r, Ev (fun k => spec_EdOk.j0 k false p d l bx by') r ∧ Ev (fun k => impl_EdOk.j0 k false p d l bx by') r ∧ (r = true → onEd p d bx by' = true) := by
                  cases ho : onEd p d bx by' with
                  | false =>
                    refine ⟨false, Ev.step (fun k => by rw [spec_EdOk.j0]) ?_, Ev.step (fun k => by rw [impl_EdOk.j0]) ?_, fun k => by cases k⟩
                    · simp only [Bool.false_eq_true, if_false, so, ho, Option.bind_some]
                      exact Ev.now _
                    · simp only [Bool.false_eq_true, if_false, w1, w2]
                      refine Ev.bind i1 ?_
                      simp only [hw, if_neg hne, impl_Ed_base.f, Option.bind_some, io, ho, Bool.false_eq_true, if_false]
                      exact ij1
                  | true =>
                    by_cases hz : bx = 0 ∧ by' = 1
                    · obtain ⟨rfl, rfl⟩ := hz
                      refine ⟨false, Ev.step (fun k => by rw [spec_EdOk.j0]) ?_, Ev.step (fun k => by rw [impl_EdOk.j0]) ?_, fun k => by cases k⟩
                      · simp only [Bool.false_eq_true, if_false, so, ho, Option.bind_some, if_true]
                        simpa using Ev.now false
                      · simp only [Bool.false_eq_true, if_false, w1, w2]
                        refine Ev.bind i1 ?_
                        simp only [hw, if_neg hne, impl_Ed_base.f, Option.bind_some, io, ho, if_true]
                        simpa using ij1
                    · have hb := (onEd_iff hN K).1 ho
                      obtain ⟨r, s, hr, fr, er⟩ := specTimes_eq (l := l) (bx := bx) (by' := by') (n := l) hN K (by clear w1 w2; omega) hl.2 hb
                      obtain ⟨r', s', hr', fr', er'⟩ := implTimes_eq (l := l) (bx := bx) (by' := by') (n := l) hN K (by clear w1 w2; omega) hl.2 hb
                      obtain ⟨rfl, rfl⟩ := hr.same hr' (by rw [fr, fr'])
                      have hz1 : (!(bx == 0) || !(by' == 1)) = true := by
                        by_cases h1 : bx = 0
                        · have : ¬ by' = 1 := fun k => hz ⟨h1, k⟩
                          simp [this]
                        · simp [h1]
                      have hz2 : (bx == 0 && by' == 1) = false := by
                        by_cases h1 : bx = 0
                        · have : ¬ by' = 1 := fun k => hz ⟨h1, k⟩
                          simp [this]
                        · simp [h1]
                      refine ⟨r == 0 && s == 1, Ev.step (fun k => by rw [spec_EdOk.j0]) ?_, Ev.step (fun k => by rw [impl_EdOk.j0]) ?_, fun _ => rfl⟩
                      · simp only [Bool.false_eq_true, if_false, so, ho, Option.bind_some, if_true, hz1]
                        exact Ev.bind er (Ev.now _)
                      · simp only [Bool.false_eq_true, if_false, w1, w2]
                        refine Ev.bind i1 ?_
                        simp only [hw, if_neg hne, impl_Ed_base.f, Option.bind_some, io, ho, if_true, hz2]
                        refine Ev.step (fun k => by rw [impl_EdOk.j1]) ?_
                        simp only [Bool.false_eq_true, if_false, impl_Ed_base.f, Option.bind_some]
                        exact Ev.bind er' (Ev.now _)
                refine ⟨r, Ev.bind sp ?_, Ev.bind ip ?_, fun k => ⟨⟨hN, hl5.1, hl5.2⟩, fun K => (onEd_iff hN K).1 (hr k)⟩⟩
                · simp only [if_true, w2]
                  refine Ev.bind s1 ?_
                  simp only [if_pos hw]
                  exact Ev.bind sq (by simpa using e1)
                · simp only [if_true]
                  exact Ev.bind iq (by simpa using e2)
              · have hw1 : d ^ ((p - 1) / 2).toNat % p = 1 := by
                  rcases pw with k | k
                  · exact k
                  · exact absurd k hw
                refine ⟨false, Ev.bind sp ?_, Ev.bind ip ?_, fun k => by cases k⟩
                · simp only [if_true, w2]
                  refine Ev.bind s1 ?_
                  simp only [if_neg hw]
                  exact sj
                · simp only [if_true]
                  refine Ev.bind iq ?_
                  simp only [Bool.not_true]
                  refine Ev.step (fun k => by rw [impl_EdOk.j0]) ?_
                  simp only [Bool.false_eq_true, if_false, w1, w2]
                  refine Ev.bind i1 ?_
                  simp only [hw1, if_true]
                  exact ij1
        · refine ⟨false, Ev.bind sp ?_, ?_, fun k => by cases k⟩
          · cases bp with
            | false => simpa using sj
            | true =>
              have w2 : wrap64 (Int.tdiv (p - 1) 2) = (p - 1) / 2 := by rw [Int.tdiv_eq_ediv_of_nonneg (by clear w1; omega), w64 (by clear w1; omega) (by clear w1; omega)]
              have s1 := specPow_eq (a := d) (e := (p - 1) / 2) (m := p) (by clear w1 w2; omega) (by clear w1 w2; omega) (by clear w1 w2; omega) (by clear w1 w2; omega) (by clear w1 w2; omega)
              simp only [if_true, hd.1, hd.2, and_self, decide_true, w2]
              refine Ev.bind s1 ?_
              by_cases hw : d ^ ((p - 1) / 2).toNat % p = p - 1
              · simp only [if_pos hw, hl5, decide_false]
                simpa using sj
              · simp only [if_neg hw]
                exact sj
          · simp only [hd.1, hd.2, and_self, decide_true, if_true, hl5, decide_false]
            simpa using ij
      · refine ⟨false, Ev.bind sp ?_, ?_, fun k => by cases k⟩
        · cases bp with
          | false => simpa using sj
          | true => simp only [if_true, hd, decide_false]; simpa using sj
        · simp only [hd, decide_false]
          simpa using ij
    · simp only [if_neg h8]
      exact ⟨false, sj, ij, fun k => by cases k⟩
  · simp only [hp, decide_false]
    exact ⟨false, by simpa using sj, by simpa using ij, fun k => by cases k⟩

theorem irt_step {a p i : Int} (h3 : 3 ≤ p) (hp : p ≤ 1048576) (h0 : 0 ≤ i) (h1 : i < p) : 0 ≤ i * i ∧ wrap64 (i * i) = i * i ∧ wrap64 (i + 1) = i + 1 := by
  have e0 : 0 ≤ i * i := Int.mul_nonneg h0 h0
  have e1 : i * i ≤ 1048576 * 1048576 := Int.mul_le_mul (by omega) (by omega) h0 (by omega)
  exact ⟨e0, w64 (by omega) (by omega), w64 (by omega) (by omega)⟩

theorem implRoot_find {a p r : Int} (h3 : 3 ≤ p) (hp : p ≤ 1048576) (r1 : r < p) (hr : r * r % p = a) (hl : ∀ j, 0 ≤ j → j < r → ¬ j * j % p = a) : ∀ (d : Nat) (i : Int), 0 ≤ i → r - i = d →
    Ev (fun k => impl_rootInt.l0 k a p p i) (r, true) := by
  intro d
  induction d with
  | zero =>
    intro i h0 hd
    obtain rfl : i = r := by omega
    obtain ⟨s0, s1, s2⟩ := irt_step (a := a) h3 hp h0 r1
    refine Ev.step (fun k => by rw [impl_rootInt.l0]) ?_
    simp only [if_pos r1, if_neg (show ¬ p = 0 by clear s1 s2; omega), s1, Int.tmod_eq_emod_of_nonneg s0, hr, if_true]
    exact Ev.now _
  | succ d ih =>
    intro i h0 hd
    obtain ⟨s0, s1, s2⟩ := irt_step (a := a) h3 hp h0 (show i < p by omega)
    have hi := hl i h0 (by clear s1 s2; omega)
    have := ih (i + 1) (by clear s1 s2; omega) (by clear s1 s2; omega)
    refine Ev.step (fun k => by rw [impl_rootInt.l0]) ?_
    simp only [if_pos (show i < p by clear s1 s2; omega), if_neg (show ¬ p = 0 by clear s1 s2; omega), s1, Int.tmod_eq_emod_of_nonneg s0, if_neg hi, s2]
    exact this

theorem implRoot_none {a p : Int} (h3 : 3 ≤ p) (hp : p ≤ 1048576) (hl : ∀ j, 0 ≤ j → j < p → ¬ j * j % p = a) : ∀ (d : Nat) (i : Int), 0 ≤ i → p - i = d →
    Ev (fun k => impl_rootInt.l0 k a p p i) (0, false) := by
  intro d
  induction d with
  | zero =>
    intro i h0 hd
    refine Ev.step (fun k => by rw [impl_rootInt.l0]) ?_
    simp only [if_neg (show ¬ i < p by omega)]
    exact Ev.now _
  | succ d ih =>
    intro i h0 hd
    obtain ⟨s0, s1, s2⟩ := irt_step (a := a) h3 hp h0 (show i < p by omega)
    have hi := hl i h0 (by clear s1 s2; omega)
    have := ih (i + 1) (by clear s1 s2; omega) (by clear s1 s2; omega)
    refine Ev.step (fun k => by rw [impl_rootInt.l0]) ?_
    simp only [if_pos (show i < p by clear s1 s2; omega), if_neg (show ¬ p = 0 by clear s1 s2; omega), s1, Int.tmod_eq_emod_of_nonneg s0, if_neg hi, s2]
    exact this

/-- The least root, or none. -/
def RootIs (a p r : Int) (b : Bool) : Prop := (b = true ∧ 0 ≤ r ∧ r < p ∧ r * r % p = a ∧ ∀ j, 0 ≤ j → j < r → ¬ j * j % p = a) ∨ (b = false ∧ r = 0 ∧ ∀ j, 0 ≤ j → j < p → ¬ j * j % p = a)

theorem rootIs_exists (a : Int) {p : Int} (hp : 3 ≤ p) : ∃ r b, RootIs a p r b := by
  by_cases h : ∃ x, 0 ≤ x ∧ x < p ∧ x * x % p = a
  · obtain ⟨x, x0, x1, hx⟩ := h
    obtain ⟨r, r0, r1, r2, r3⟩ := least (fun x => x * x % p = a) x.toNat x x0 (Nat.le_refl _) hx
    exact ⟨r, true, .inl ⟨rfl, r0, by omega, r2, r3⟩⟩
  · exact ⟨0, false, .inr ⟨rfl, rfl, fun j h1 h2 h3 => h ⟨j, h1, h2, h3⟩⟩⟩

theorem implRoot_eq {a p r : Int} {b : Bool} (hp : Prm p) (h3 : 3 ≤ p) (hp' : p ≤ 1048576) (h0 : 0 ≤ a) (h1 : a < p) (hr : RootIs a p r b) : Ev (fun k => impl_rootInt.f k a p) (r, b) := by
  unfold impl_rootInt.f
  have ho := prm_odd hp h3
  have j0 : Ev (fun k => impl_rootInt.j0 k a p false) (r, b) := by
    refine Ev.step (fun k => by rw [impl_rootInt.j0]) ?_
    simp only [Bool.false_eq_true, if_false]
    rcases hr with ⟨rfl, r0, r1, r2, r3⟩ | ⟨rfl, rfl, r3⟩
    · exact implRoot_find h3 hp' r1 r2 r3 r.toNat 0 (by omega) (by omega)
    · exact implRoot_none h3 hp' r3 p.toNat 0 (by omega) (by omega)
  by_cases ha : a = 0
  · simp only [if_pos ha]
    exact j0
  · simp only [if_neg ha]
    have e1 : wrap64 (Int.tdiv (wrap64 (p - 1)) 2) = (p - 1) / 2 := by
      rw [w64 (n := p - 1) (by omega) (by omega), Int.tdiv_eq_ediv_of_nonneg (by omega), w64 (by omega) (by omega)]
    rw [e1]
    clear e1
    refine Ev.bind (implPow_eq h0 (by omega) (by omega) (by omega) (by omega)) ?_
    rcases hr with ⟨rfl, r0, r1, r2, r3⟩ | ⟨rfl, rfl, r3⟩
    · have := square_pow hp h3 ho r2 ha ((p - 1) / 2).toNat (by omega)
      rw [this]
      exact j0
    · by_cases hq : a ^ ((p - 1) / 2).toNat % p = 1
      · rw [hq]; exact j0
      · have : (a ^ ((p - 1) / 2).toNat % p != 1) = true := by simpa using hq
        rw [this]
        refine Ev.step (fun k => by rw [impl_rootInt.j0]) ?_
        simp only [if_true]
        exact Ev.now _

theorem or_comm' (k : IntKind) (x y : Int) : Go.bits .or k x y = Go.bits .or k y x := by
  unfold Go.bits
  simp only [BitVec.or_comm]

/-- What has no bit in common is joined by a sum. -/
theorem orI {x y : Int} (i : Nat) (hi : i ≤ 60) (x0 : 0 ≤ x) (hx : x % 2 ^ i = 0) (x1 : x < 1152921504606846976) (y0 : 0 ≤ y) (hy : y < 2 ^ i) : Go.bits .or .i64 x y = x + y := by
  have h2 : (2 : Int) ^ i ≤ 2 ^ 60 := by
    have := Nat.pow_le_pow_right (show 0 < 2 by omega) hi
    rw [← two_pow_int, ← two_pow_int]
    exact_mod_cast this
  have e60 : (2 : Int) ^ 60 = 1152921504606846976 := by decide
  exact bits_join .i64 63 (by decide) (fun n a b => by rw [IntKind.wrap_i64]; omega) i x y x0 hx (by omega) y0 hy (by omega)

theorem implEdBytes_eq {x y : Int} (x0 : 0 ≤ x) (y0 : 0 ≤ y) (y1 : y < 1048576) : impl_edBytes.f x y = some [y % 256, y / 256 % 256, (y / 65536 + 128 * (x % 2)) % 256] := by
  unfold impl_edBytes.f
  rw [Int.tmod_eq_emod_of_nonneg x0, w64 (by omega) (by omega), or_comm', orI 7 (by omega) (by omega) (by omega) (by omega) (by omega) (by omega), show x % 2 * 128 + y / 65536 = y / 65536 + 128 * (x % 2) by omega]


theorem strOf_inj {a b : List Int} (ha : ∀ x ∈ a, 0 ≤ x ∧ x ≤ 255) (hb : ∀ x ∈ b, 0 ≤ x ∧ x ≤ 255) : (strOfNums a).toList = (strOfNums b).toList ↔ a = b := by
  constructor
  · intro h
    have h2 : (strOfNums a).data.toList = (strOfNums b).data.toList := by
      rw [Go.ByteArray.toList_eq, Go.ByteArray.toList_eq] at h
      exact h
    rw [strOfNums_data, strOfNums_data] at h2
    apply List.ext_getElem (by have := congrArg List.length h2; simpa using this)
    intro i h3 h4
    have h5 := List.getElem_of_eq h2 (i := i) (by simpa using h3)
    simp only [List.getElem_map] at h5
    have b1 := ha _ (List.getElem_mem h3)
    have b2 := hb _ (List.getElem_mem h4)
    have h6 := congrArg UInt8.toNat h5
    simp only [UInt8.toNat_ofNat'] at h6
    omega
  · intro h; rw [h]

theorem bytesEqual_eq {a b : List Int} (ha : ∀ x ∈ a, 0 ≤ x ∧ x ≤ 255) (hb : ∀ x ∈ b, 0 ≤ x ∧ x ≤ 255) : bytes_Equal.f a b = some (decide (a = b)) := by
  unfold bytes_Equal.f
  congr 1
  rw [Bool.eq_iff_iff]
  simp only [beq_iff_eq, decide_eq_true_iff]
  exact strOf_inj ha hb

theorem specY {a b c : Int} (a0 : 0 ≤ a) (a1 : a ≤ 255) (b0 : 0 ≤ b) (b1 : b ≤ 255) (c0 : 0 ≤ c) (c1 : c ≤ 255) :
    wrap64 (wrap64 (wrap64 a + wrap64 (wrap64 b * 256)) + wrap64 (wrap64 (Int.tmod c 128) * 65536)) = a + b * 256 + c % 128 * 65536 := by
  rw [w64 (n := a) (by omega) (by omega), w64 (n := b) (by omega) (by omega), w64 (n := b * 256) (by omega) (by omega), w64 (n := a + b * 256) (by omega) (by omega), Int.tmod_eq_emod_of_nonneg c0, w64 (n := c % 128) (by omega) (by omega), w64 (n := c % 128 * 65536) (by omega) (by omega), w64 (by omega) (by omega)]

theorem implY {a b c : Int} (a0 : 0 ≤ a) (a1 : a ≤ 255) (b0 : 0 ≤ b) (b1 : b ≤ 255) (c0 : 0 ≤ c) (c1 : c ≤ 255) :
    Go.bits .or .i64 (Go.bits .or .i64 (wrap64 a) (wrap64 (wrap64 b * 256))) (wrap64 (wrap64 (Go.bits .and .u8 c 127) * 65536)) = a + b * 256 + c % 128 * 65536 := by
  have h := bits_mask .u8 8 (by decide) (fun n h0 h1 => by rw [IntKind.wrap_u8]; omega) 7 (by decide) c c0 (by omega)
  rw [show ((2 : Int) ^ 7 - 1) = 127 by decide, show ((2 : Int) ^ 7) = 128 by decide] at h
  rw [h, w64 (n := a) (by omega) (by omega), w64 (n := b) (by omega) (by omega), w64 (n := b * 256) (by omega) (by omega), w64 (n := c % 128) (by omega) (by omega), w64 (n := c % 128 * 65536) (by omega) (by omega),
    or_comm' _ a, orI (x := b * 256) (y := a) 8 (by omega) (by omega) (by omega) (by omega) (by omega) (by omega),
    or_comm', orI (x := c % 128 * 65536) (y := b * 256 + a) 16 (by omega) (by omega) (by omega) (by omega) (by omega) (by omega)]
  omega

theorem specJ {p d l bx by' Y o x : Int} (hlo : 13 ≤ p) (hhi : p ≤ 1048576) (d0 : 0 ≤ d) (d1 : d < p) (x0 : 0 ≤ x) (x1 : x < p) :
    Ev (fun k => spec_l4Read.j0 k Y o x p d l bx by') (if x % 2 = o then (if onEd p d x Y = true then (x, Y, true) else (0, 0, false)) else (if onEd p d ((-x) % p) Y = true then (if (-x) % p % 2 = o then ((-x) % p, Y, true) else (0, 0, false)) else (0, 0, false))) := by
  refine Ev.step (fun k => by rw [spec_l4Read.j0]) ?_
  have b := md (x := -x) (p := p) (by omega)
  simp only [Int.tmod_eq_emod_of_nonneg x0, specOn_eq hlo hhi d0 d1, Option.bind_some]
  by_cases h : x % 2 = o
  · simp only [if_pos h]
    by_cases h1 : onEd p d x Y = true
    · simp only [if_pos h1]; exact Ev.now _
    · simp only [if_neg h1]; exact Ev.now _
  · simp only [if_neg h]
    rw [w64 (n := -x) (by omega) (by omega), left_eq (by omega) (by omega)]
    simp only [Option.bind_some, specOn_eq hlo hhi d0 d1, Int.tmod_eq_emod_of_nonneg b.1]
    by_cases h1 : onEd p d ((-x) % p) Y = true
    · simp only [if_pos h1]
      by_cases h2 : (-x) % p % 2 = o
      · simp only [if_pos h2]; exact Ev.now _
      · simp only [if_neg h2]; exact Ev.now _
    · simp only [if_neg h1]; exact Ev.now _

theorem implJ {p d l bx by' Y x : Int} {bs : List Int} (hb : ∀ x ∈ bs, 0 ≤ x ∧ x ≤ 255) (hlo : 13 ≤ p) (hhi : p ≤ 1048576) (d0 : 0 ≤ d) (d1 : d < p) (x0 : 0 ≤ x) (y0 : 0 ≤ Y) (y1 : Y < p) :
    Ev (fun k => impl_Ed_edRead.j0 k bs Y x p d l bx by') (if onEd p d x Y = true then (if [Y % 256, Y / 256 % 256, (Y / 65536 + 128 * (x % 2)) % 256] = bs then (x, Y, true) else (0, 0, false)) else (0, 0, false)) := by
  refine Ev.step (fun k => by rw [impl_Ed_edRead.j0]) ?_
  simp only [implOn_eq hlo hhi d0 d1, Option.bind_some]
  by_cases h1 : onEd p d x Y = true
  · simp only [if_pos h1, implEdBytes_eq x0 y0 (show Y < 1048576 by omega), Option.bind_some]
    rw [bytesEqual_eq (by intro z hz; simp at hz; rcases hz with rfl | rfl | rfl <;> omega) hb]
    simp only [Option.bind_some]
    by_cases h2 : [Y % 256, Y / 256 % 256, (Y / 65536 + 128 * (x % 2)) % 256] = bs
    · simp only [h2, decide_true, if_true]; exact Ev.now _
    · simp only [h2, decide_false, if_false, Bool.false_eq_true]; exact Ev.now _
  · simp only [if_neg h1]; exact Ev.now _

theorem InvIs.bd {a m r : Int} {b : Bool} (h : InvIs a m r b) (hm : 2 ≤ m) : 0 ≤ r ∧ r < m := by
  rcases h with ⟨_, h1, h2, _⟩ | ⟨_, h1, _⟩ <;> omega

/-- A pair is on the curve where its x is a root. -/
theorem on_root {p d Y W r x : Int} {b : Bool} (h : EdNum p d) (y0 : 0 ≤ Y) (y1 : Y < p) (hr : InvIs (1 + d * (Y * Y % p)) p r b) (hW : (Y * Y % p - 1) % p * r % p = W) (x0 : 0 ≤ x) (x1 : x < p) :
    onEd p d x Y = true ↔ x * x % p = W := by
  obtain ⟨K⟩ := fldOf_exists h.prm
  have hlo := h.lo
  rw [onEd_iff h K]
  have hs := h.slope K (toF Y)
  obtain ⟨_, _, _, hi⟩ := inv_of K h.prm hr (by rw [toF_add, toF_one, toF_mul, K.emod, toF_mul]; exact hs)
  have hq : (toF (1 + d * (Y * Y % p)) : K.F) = 1 + toF d * (toF Y * toF Y) := by rw [toF_add, toF_one, toF_mul, K.emod, toF_mul]
  rw [hq] at hi
  have eW : (toF W : K.F) = (toF Y * toF Y - 1) * (1 + toF d * (toF Y * toF Y))⁻¹ := by
    rw [← hW, K.emod, toF_mul, K.emod, toF_sub, K.emod, toF_mul, toF_one, hi]
  have b1 := md (x := x * x) (p := p) (by omega)
  have b2 := md (x := (Y * Y % p - 1) % p * r) (p := p) (by omega)
  rw [hW] at b2
  constructor
  · intro k
    have on := k.on
    unfold EdOn at on
    apply K.inj b1.1 b1.2 b2.1 b2.2
    rw [K.emod, toF_mul, eW]
    grind
  · intro k
    refine ⟨x0, x1, y0, y1, ?_⟩
    have : (toF x : K.F) * toF x = toF W := by rw [← toF_mul, ← K.emod, k]
    unfold EdOn
    rw [eW] at this
    generalize (toF x : K.F) = xx at *
    generalize (toF Y : K.F) = yy at *
    generalize (toF d : K.F) = dd at *
    have e2 : xx * xx * (1 + dd * (yy * yy)) = yy * yy - 1 := by rw [this]; grind
    grind

/-- The roots of a number by a prime. -/
theorem two_roots {p x z : Int} (hp : Prm p) (x0 : 0 ≤ x) (x1 : x < p) (z0 : 0 ≤ z) (z1 : z < p) (h : x * x % p = z * z % p) : z = x ∨ z + x = p ∨ (z = 0 ∧ x = 0) := by
  have hd : p ∣ (x - z) * (x + z) := by
    have e : (x - z) * (x + z) = x * x - z * z := by grind
    rw [e]
    exact Int.dvd_of_emod_eq_zero (by rw [Int.sub_emod, h, Int.sub_self, Int.zero_emod])
  rcases hp.mul hd with k | k
  · left
    have := Int.eq_zero_of_dvd_of_natAbs_lt_natAbs k (by omega)
    omega
  · right
    obtain ⟨c, hc⟩ := k
    have : c = 0 ∨ c = 1 := by
      rcases Int.lt_or_le c 0 with k1 | k1
      · exfalso
        have : p * c ≤ p * (-1) := Int.mul_le_mul_of_nonneg_left (by omega) (by omega)
        omega
      · rcases Int.lt_or_le 1 c with k2 | k2
        · exfalso
          have : p * 2 ≤ p * c := Int.mul_le_mul_of_nonneg_left (by omega) (by omega)
          omega
        · omega
    rcases this with rfl | rfl
    · right; omega
    · left; omega

theorem neg_mod {p x : Int} (x0 : 0 < x) (x1 : x < p) : (-x) % p = p - x := by
  have : -x = (p - x) + p * (-1) := by omega
  rw [this, Int.add_mul_emod_self_left, Int.emod_eq_of_lt (by omega) (by omega)]

theorem spec_pick {p d W : Int} (h : EdNum p d) (W0 : 0 ≤ W) (W1 : W < p) : ∃ xs, 0 ≤ xs ∧ xs < p ∧ ((∃ s, s * s % p = W) → xs * xs % p = W) ∧
    ((xs = W ^ ((p + 3) / 8).toNat % p ∧ xs * xs % p = W) ∨ (¬ (W ^ ((p + 3) / 8).toNat % p) * (W ^ ((p + 3) / 8).toNat % p) % p = W ∧ xs = (W ^ ((p + 3) / 8).toNat % p) * (2 ^ ((p - 1) / 4).toNat % p) % p)) := by
  obtain ⟨K⟩ := fldOf_exists h.prm
  have hlo := h.lo
  have b1 := md (x := W ^ ((p + 3) / 8).toNat) (p := p) (by omega)
  have b2 := md (x := (W ^ ((p + 3) / 8).toNat % p) * (2 ^ ((p - 1) / 4).toNat % p)) (p := p) (by omega)
  by_cases k : (W ^ ((p + 3) / 8).toNat % p) * (W ^ ((p + 3) / 8).toNat % p) % p = W
  · exact ⟨_, b1.1, b1.2, fun _ => k, .inl ⟨rfl, k⟩⟩
  · refine ⟨_, b2.1, b2.2, fun ⟨s, hs⟩ => ?_, .inr ⟨k, rfl⟩⟩
    have hF : (toF s : K.F) * toF s = toF W := by rw [← toF_mul, ← K.emod, hs]
    have e1 : ∀ z : Int, (toF z : K.F) * toF z = toF W → z * z % p = W := by
      intro z hz
      have b := md (x := z * z) (p := p) (by omega)
      exact K.inj b.1 b.2 W0 W1 (by rw [K.emod, toF_mul, hz])
    rcases h.root K hF with q | q
    · exact absurd (e1 _ (by rw [K.emod, toF_pow]; exact q)) k
    · exact e1 _ (by rw [K.emod, toF_mul, K.emod, K.emod, toF_pow, toF_pow, toF_two]; exact q)

theorem both_read (p d l bx by' : Int) (hE : EdPre p d l) (bs : List Int) (hb : ∀ x ∈ bs, 0 ≤ x ∧ x ≤ 255) :
    ∃ r s t, Ev (fun k => spec_l4Read.f k p d l bx by' bs) (r, s, t) ∧ Ev (fun k => impl_Ed_edRead.f k p d l bx by' bs) (r, s, t) := by
  have hN := hE.num
  have hlo := hN.lo
  have hhi := hN.hi
  have d0 : 0 ≤ d := by have := hN.d0; omega
  have d1 := hN.d1
  unfold spec_l4Read.f impl_Ed_edRead.f
  by_cases h3 : (bs.length : Int) = 3
  rotate_left
  · simp only [if_neg h3]
    exact ⟨0, 0, false, Ev.now _, Ev.now _⟩
  obtain ⟨a, b, c, rfl⟩ : ∃ a b c, bs = [a, b, c] := by
    match bs, h3 with
    | [a, b, c], _ => exact ⟨a, b, c, rfl⟩
    | [], h => simp at h
    | [_], h => simp at h
    | [_, _], h => simp at h
    | _ :: _ :: _ :: _ :: _, h => simp at h; omega
  obtain ⟨a0, a1⟩ := hb a (by simp)
  obtain ⟨b0, b1⟩ := hb b (by simp)
  obtain ⟨c0, c1⟩ := hb c (by simp)
  have r0 : rd [a, b, c] 0 = a := rfl
  have r1 : rd [a, b, c] 1 = b := rfl
  have r2 : rd [a, b, c] 2 = c := rfl
  simp only [if_pos h3, if_pos (show 0 < (([a, b, c] : List Int).length : Int) by simp), if_pos (show 1 < (([a, b, c] : List Int).length : Int) by simp), if_pos (show 2 < (([a, b, c] : List Int).length : Int) by simp), r0, r1, r2, specY a0 a1 b0 b1 c0 c1, implY a0 a1 b0 b1 c0 c1]
  clear r0 r1 r2
  obtain ⟨Y, hY⟩ : ∃ Y, a + b * 256 + c % 128 * 65536 = Y := ⟨_, rfl⟩
  rw [hY]
  by_cases hge : Y ≥ p
  · simp only [if_pos hge]
    exact ⟨0, 0, false, Ev.now _, Ev.now _⟩
  have y0 : 0 ≤ Y := by omega
  have y1 : Y < p := by omega
  have p1 : 1 ≤ p := by omega
  have q := md (x := Y * Y) p1
  have u := md (x := Y * Y % p - 1) p1
  obtain ⟨m1, m2⟩ := mm p1 hhi d0 d1 q.1 q.2
  obtain ⟨r, br, ir, er⟩ := specInv_eq (1 + d * (Y * Y % p)) (m := p) (by omega) (by omega)
  obtain ⟨r', br', ir', er'⟩ := implInv_eq (1 + d * (Y * Y % p)) (m := p) (by omega) (by omega)
  obtain ⟨rfl, rfl⟩ := ir.unique ir'
  have rb := InvIs.bd ir (by omega)
  obtain ⟨W, hW⟩ : ∃ W, (Y * Y % p - 1) % p * r % p = W := ⟨_, rfl⟩
  have Wb : 0 ≤ W ∧ W < p := by rw [← hW]; exact md p1
  have eA : wrap64 (1 + wrap64 (d * (Y * Y % p))) = 1 + d * (Y * Y % p) := by rw [w64 (n := d * (Y * Y % p)) (by omega) (by omega), w64 (by omega) (by omega)]
  have eB : wrap64 (wrap64 (d * (Y * Y % p)) + 1) = 1 + d * (Y * Y % p) := by rw [w64 (n := d * (Y * Y % p)) (by omega) (by omega), w64 (by omega) (by omega)]; clear eA; omega
  have eC : wrap64 (Y * Y % p - 1) = Y * Y % p - 1 := by clear eA eB; exact w64 (by omega) (by omega)
  have eD : wrap64 (Int.tdiv (p + 3) 8) = (p + 3) / 8 := by clear eA eB eC; rw [Int.tdiv_eq_ediv_of_nonneg (by omega), w64 (by omega) (by omega)]
  have eE : wrap64 (p + 3) = p + 3 := by clear eA eB eC eD; exact w64 (by omega) (by omega)
  have eF : wrap64 (Int.tdiv (p - 1) 4) = (p - 1) / 4 := by clear eA eB eC eD eE; rw [Int.tdiv_eq_ediv_of_nonneg (by omega), w64 (by omega) (by omega)]
  have eG : wrap64 (p - 1) = p - 1 := by clear eA eB eC eD eE eF; exact w64 (by omega) (by omega)
  have eH : wrap64 (Int.tdiv (wrap64 c) 128) = c / 128 := by clear eA eB eC eD eE eF eG; rw [w64 (n := c) (by omega) (by omega), Int.tdiv_eq_ediv_of_nonneg c0, w64 (by omega) (by omega)]
  have eI : wrap64 (c / 128) = c / 128 := by clear eA eB eC eD eE eF eG eH; exact w64 (by omega) (by omega)
  have yy := mulm p1 hhi y0 y1 y0 y1
  have uw := mulm p1 hhi u.1 u.2 rb.1 rb.2
  rw [hW] at uw
  have sp : Ev (fun k => spec_l2Pow.f k W ((p + 3) / 8) p) (W ^ ((p + 3) / 8).toNat % p) := by
    clear eA eB eC eD eE eF eG eH eI
    exact specPow_eq Wb.1 (by omega) (by omega) (by omega) (by omega)
  have sp2 : Ev (fun k => spec_l2Pow.f k 2 ((p - 1) / 4) p) (2 ^ ((p - 1) / 4).toNat % p) := by
    clear eA eB eC eD eE eF eG eH eI
    exact specPow_eq (by omega) (by omega) (by omega) (by omega) (by omega)
  obtain ⟨x, bb, hx⟩ := rootIs_exists W (p := p) (by omega)
  have ri := implRoot_eq hN.prm (by omega) hhi Wb.1 Wb.2 hx
  obtain ⟨xs, xs0, xs1, xsr, xsc⟩ := spec_pick hN Wb.1 Wb.2
  have bz := md (x := W ^ ((p + 3) / 8).toNat) p1
  have b2z := md (x := (2 : Int) ^ ((p - 1) / 4).toNat) p1
  have on := fun z z0 z1 => on_root (x := z) hN y0 y1 ir hW z0 z1
  have hnz : ¬ p = 0 := by clear eA eB eC eD eE eF eG eH eI; omega
  -- what the second code comes to
  have sEv : ∀ R, Ev (fun k => spec_l4Read.j0 k Y (c / 128) xs p d l bx by') R → Ev (fun k => if Y ≥ p then some (0, 0, false) else if p = 0 then none else (spec_l2Left.f (wrap64 (Int.tmod (wrap64 (Y * Y)) p - 1)) p).bind fun t152 =>
      (spec_l2Inv.f k (wrap64 (1 + wrap64 (d * Int.tmod (wrap64 (Y * Y)) p))) p).bind fun t153 => (spec_l2Pow.f k (Int.tmod (wrap64 (t152 * t153)) p) (wrap64 (Int.tdiv (wrap64 (p + 3)) 8)) p).bind fun t154 =>
      if Int.tmod (wrap64 (t154 * t154)) p = Int.tmod (wrap64 (t152 * t153)) p then spec_l4Read.j0 k Y (wrap64 (Int.tdiv (wrap64 c) 128)) t154 p d l bx by'
      else (spec_l2Pow.f k 2 (wrap64 (Int.tdiv (wrap64 (p - 1)) 4)) p).bind fun t155 => spec_l4Read.j0 k Y (wrap64 (Int.tdiv (wrap64 c) 128)) (Int.tmod (wrap64 (t154 * t155)) p) p d l bx by') R := by
    intro R hR
    simp only [if_neg hge, if_neg hnz, yy, eC, eA, eD, eE, eF, eG, eH, left_eq (a := Y * Y % p - 1) (m := p) (by clear eA eB eC eD eE eF eG eH eI; omega) (by clear eA eB eC eD eE eF eG eH eI; omega), Option.bind_some]
    refine Ev.bind er ?_
    simp only [uw]
    refine Ev.bind sp ?_
    rw [mulm p1 hhi bz.1 bz.2 bz.1 bz.2]
    rcases xsc with ⟨rfl, k⟩ | ⟨k, rfl⟩
    · simp only [if_pos k]
      exact hR
    · simp only [if_neg k]
      refine Ev.bind sp2 ?_
      rw [mulm p1 hhi bz.1 bz.2 b2z.1 b2z.2]
      exact hR
  have iEv : ∀ R, Ev (fun k => if bb = true then (if x % 2 = c / 128 then impl_Ed_edRead.j0 k [a, b, c] Y x p d l bx by' else impl_Ed_edRead.j0 k [a, b, c] Y ((p - x) % p) p d l bx by') else some (0, 0, false)) R →
      Ev (fun k => if Y ≥ p then some (0, 0, false) else if p = 0 then none else (impl_InvInt.f k (wrap64 (wrap64 (d * Int.tmod (wrap64 (Y * Y)) p) + 1)) p).bind fun bt223 => (impl_rest.f (wrap64 (Int.tmod (wrap64 (Y * Y)) p - 1)) p).bind fun t225 =>
      (impl_rootInt.f k (Int.tmod (wrap64 (t225 * bt223.1)) p) p).bind fun bt226 => if bt226.2 = true then (if Int.tmod bt226.1 2 = wrap64 (c / 128) then impl_Ed_edRead.j0 k [a, b, c] Y bt226.1 p d l bx by' else impl_Ed_edRead.j0 k [a, b, c] Y (Int.tmod (wrap64 (p - bt226.1)) p) p d l bx by') else some (0, 0, false)) R := by
    intro R hR
    have xb : 0 ≤ x ∧ x < p := by
      clear eA eB eC eD eE eF eG eH eI
      rcases hx with ⟨_, h1, h2, _⟩ | ⟨_, h1, _⟩ <;> omega
    have eJ : Int.tmod (wrap64 (p - x)) p = (p - x) % p := by clear eA eB eC eD eE eF eG eH eI; rw [w64 (by omega) (by omega), Int.tmod_eq_emod_of_nonneg (by omega)]
    simp only [if_neg hge, if_neg hnz, yy, eB, eC, rest_eq (a := Y * Y % p - 1) (m := p) (by clear eA eB eC eD eE eF eG eH eI; omega) (by clear eA eB eC eD eE eF eG eH eI; omega)]
    refine Ev.bind er' ?_
    simp only [Option.bind_some, uw]
    refine Ev.bind ri ?_
    simp only [Int.tmod_eq_emod_of_nonneg xb.1, eI, eJ]
    exact hR
  clear eA eB eC eD eE eF eG eH eI
  have fin : ∃ R : Int × Int × Bool, Ev (fun k => spec_l4Read.j0 k Y (c / 128) xs p d l bx by') R ∧
      Ev (fun k => if bb = true then (if x % 2 = c / 128 then impl_Ed_edRead.j0 k [a, b, c] Y x p d l bx by' else impl_Ed_edRead.j0 k [a, b, c] Y ((p - x) % p) p d l bx by') else some (0, 0, false)) R := by
    have sj := specJ (l := l) (bx := bx) (by' := by') (Y := Y) (o := c / 128) hlo hhi d0 d1 xs0 xs1
    have ho := prm_odd hN.prm (by omega)
    rcases hx with ⟨rfl, x0, x1, x2, x3⟩ | ⟨rfl, rfl, x3⟩
    · have hxs := xsr ⟨x, x2⟩
      have ij := fun z z0 => implJ (l := l) (bx := bx) (by' := by') (Y := Y) (x := z) hb hlo hhi d0 d1 z0 y0 y1
      have bytes : ∀ z, [Y % 256, Y / 256 % 256, (Y / 65536 + 128 * (z % 2)) % 256] = [a, b, c] ↔ z % 2 = c / 128 := by
        intro z
        constructor
        · intro k
          simp at k
          omega
        · intro k
          have e1 : Y % 256 = a := by omega
          have e2 : Y / 256 % 256 = b := by omega
          have e3 : (Y / 65536 + 128 * (z % 2)) % 256 = c := by omega
          rw [e1, e2, e3]
      by_cases hz : xs = 0
      · have hx0 : x = 0 := by
          rcases two_roots hN.prm x0 x1 xs0 xs1 (by rw [x2, hxs]) with k | k | k <;> omega
        subst hz
        subst hx0
        have on0 := (on 0 (by omega) (by omega)).2 x2
        by_cases hc : (0 : Int) % 2 = c / 128
        · refine ⟨(0, Y, true), ?_, ?_⟩
          · rw [if_pos hc, if_pos on0] at sj; exact sj
          · simp only [if_true, if_pos hc]
            have := ij 0 (by omega)
            rw [if_pos on0, if_pos ((bytes 0).2 hc)] at this
            exact this
        · refine ⟨(0, 0, false), ?_, ?_⟩
          · rw [if_neg hc, show (-(0 : Int)) % p = 0 by simp, if_pos on0, if_neg hc] at sj; exact sj
          · simp only [if_true, if_neg hc]
            have := ij 0 (by omega)
            rw [if_pos on0, if_neg (fun k => hc ((bytes 0).1 k))] at this
            rw [show (p - 0) % p = 0 by simp]
            exact this
      · have hx0 : x ≠ 0 := by
          rcases two_roots hN.prm x0 x1 xs0 xs1 (by rw [x2, hxs]) with k | k | k <;> omega
        have hneg : ∀ z, 0 < z → z < p → z * z % p = W → onEd p d (p - z) Y = true := by
          intro z z0 z1 hz2
          refine (on (p - z) (by omega) (by omega)).2 ?_
          have : (p - z) * (p - z) = z * z + p * (p - 2 * z) := by grind
          rw [this, Int.add_mul_emod_self_left, hz2]
        have onx := (on x x0 x1).2 x2
        have onxs := (on xs xs0 xs1).2 hxs
        have npx : (p - x) % p = p - x := Int.emod_eq_of_lt (by omega) (by omega)
        have nx := neg_mod (p := p) (x := xs) (by omega) xs1
        -- the root of the right side
        have key : ∃ z, (z = x ∨ z = p - x) ∧ z % 2 = c / 128 := by
          by_cases k : x % 2 = c / 128
          · exact ⟨x, .inl rfl, k⟩
          · exact ⟨p - x, .inr rfl, by omega⟩
        obtain ⟨z, hz1, hz2⟩ := key
        refine ⟨(z, Y, true), ?_, ?_⟩
        · by_cases k : xs % 2 = c / 128
          · rw [if_pos k, if_pos onxs] at sj
            have : xs = z := by
              rcases two_roots hN.prm x0 x1 xs0 xs1 (by rw [x2, hxs]) with q | q | q <;> omega
            rw [← this]
            exact sj
          · rw [if_neg k, nx, if_pos (hneg xs (by omega) xs1 hxs), if_pos (by omega)] at sj
            have : p - xs = z := by
              rcases two_roots hN.prm x0 x1 xs0 xs1 (by rw [x2, hxs]) with q | q | q <;> omega
            rw [← this]
            exact sj
        · simp only [if_true]
          by_cases k : x % 2 = c / 128
          · simp only [if_pos k]
            have := ij x x0
            rw [if_pos onx, if_pos ((bytes x).2 k)] at this
            have e : x = z := by omega
            rw [← e]
            exact this
          · simp only [if_neg k, npx]
            have := ij (p - x) (by omega)
            rw [if_pos (hneg x (by omega) x1 x2), if_pos ((bytes (p - x)).2 (by omega))] at this
            have e : p - x = z := by omega
            rw [← e]
            exact this
    · have no : ∀ z, 0 ≤ z → z < p → onEd p d z Y = false := by
        intro z z0 z1
        cases k : onEd p d z Y with
        | false => rfl
        | true => exact absurd ((on z z0 z1).1 k) (x3 z z0 z1)
      have b := md (x := -xs) p1
      rw [no xs xs0 xs1, no _ b.1 b.2] at sj
      refine ⟨(0, 0, false), ?_, ?_⟩
      · by_cases k : xs % 2 = c / 128
        · rw [if_pos k, if_neg (by decide)] at sj; exact sj
        · rw [if_neg k, if_neg (by decide)] at sj; exact sj
      · simpa using Ev.now ((0 : Int), (0 : Int), false)
  obtain ⟨⟨r1, s1, t1⟩, f1, f2⟩ := fin
  exact ⟨r1, s1, t1, sEv _ f1, iEv _ f2⟩

theorem wfu8 {l : List Int} (h : ∀ x ∈ l, (Lit.int .u8 x).wf = true) : ∀ x ∈ l, 0 ≤ x ∧ x ≤ 255 := by
  intro x hx
  have := h x hx
  simpa [Lit.wf, IntKind.min, IntKind.max, IntKind.signed, IntKind.bits] using this

theorem toByteS_loop (l : List Int) (hl : l.length ≤ 1099511627776) : ∀ (d : Nat) (x : List Int) (i : Int), 0 ≤ i → (l.length : Int) - i = d → x.length = l.length → (∀ j : Nat, (j : Int) < i → x.getD j 0 = l.getD j 0) →
    Ev (fun k => laws_toByteS.l0 k l x i) l := by
  intro d
  induction d with
  | zero =>
    intro x i h0 hd hx he
    refine Ev.step (fun k => by rw [laws_toByteS.l0]) ?_
    simp only [if_neg (show ¬ i < (l.length : Int) by omega)]
    have : x = l := by
      apply List.ext_getElem hx
      intro j h1 h2
      have := he j (by omega)
      rwa [List.getD_eq_getElem?_getD, List.getD_eq_getElem?_getD, List.getElem?_eq_getElem h1, List.getElem?_eq_getElem h2] at this
    rw [this]
    exact Ev.now _
  | succ d ih =>
    intro x i h0 hd hx he
    refine Ev.step (fun k => by rw [laws_toByteS.l0]) ?_
    simp only [if_pos (show i < (l.length : Int) by omega), if_pos h0, hx]
    rw [w64 (n := i + 1) (by omega) (by omega)]
    refine ih _ (i + 1) (by omega) (by omega) (by simpa using hx) (fun j hj => ?_)
    unfold rd
    rw [List.getD_eq_getElem?_getD, List.getElem?_set]
    by_cases hji : i.toNat = j
    · subst hji
      rw [if_pos rfl, if_pos (by omega)]
      rfl
    · rw [if_neg hji, ← List.getD_eq_getElem?_getD]
      exact he j (by omega)

theorem toByteS_eq (l : List Int) (hl : l.length ≤ 1099511627776) : Ev (fun k => laws_toByteS.f k l) l := by
  unfold laws_toByteS.f
  simp only [if_pos (show 0 ≤ (l.length : Int) by omega), if_pos (show ((l.length : Int)).toNat ≤ 281474976710656 by omega)]
  exact toByteS_loop l hl l.length _ 0 (by omega) (by omega) (by simp) (fun j hj => by omega)

theorem eqByteS_loop (l : List Int) (hl : l.length ≤ 1099511627776) : ∀ (d : Nat) (i : Int), 0 ≤ i → (l.length : Int) - i = d → Ev (fun k => laws_eqByteS.l0 k l l i) true := by
  intro d
  induction d with
  | zero =>
    intro i h0 hd
    refine Ev.step (fun k => by rw [laws_eqByteS.l0]) ?_
    simp only [if_neg (show ¬ i < (l.length : Int) by omega)]
    exact Ev.now _
  | succ d ih =>
    intro i h0 hd
    refine Ev.step (fun k => by rw [laws_eqByteS.l0]) ?_
    simp only [if_pos (show i < (l.length : Int) by omega), if_pos h0, if_true]
    rw [w64 (n := i + 1) (by omega) (by omega)]
    exact ih (i + 1) (by omega) (by omega)

theorem eqByteS_eq (l : List Int) (hl : l.length ≤ 1099511627776) : Ev (fun k => laws_eqByteS.f k l l) true := by
  unfold laws_eqByteS.f
  simp only [if_true]
  exact eqByteS_loop l hl l.length 0 (by omega) (by omega)

theorem FnExactEdRead : laws_FnExactEdRead.Pure := by
  intro p d l bx by' bs _ _ hl _ _ _ _ hw
  have hw := wfu8 hw
  refine Ev.rounds (r := true) ?_
  obtain ⟨t, e1, e2, ht⟩ := both_ok p d l bx by' (wf64 hl)
  obtain ⟨r, s, b, f1, f2⟩ : ∃ r s b, Ev (fun k => spec_EdRead.f k p d l bx by' bs) (r, s, b) ∧ Ev (fun k => impl_EdRead.f k p d l bx by' bs) (r, s, b) := by
    unfold spec_EdRead.f impl_EdRead.f
    cases t with
    | false =>
      refine ⟨0, 0, false, Ev.bind e1 ?_, Ev.bind e2 ?_⟩
      · simpa using Ev.now ((0 : Int), (0 : Int), false)
      · simpa using Ev.now ((0 : Int), (0 : Int), false)
    | true =>
      obtain ⟨r, s, b, g1, g2⟩ := both_read p d l bx by' (ht rfl).1 bs hw
      refine ⟨r, s, b, Ev.bind e1 ?_, Ev.bind e2 ?_⟩
      · simp only [if_true]; exact Ev.bind g1 (Ev.now _)
      · simp only [if_true]; exact Ev.bind g2 (Ev.now _)
  unfold laws_FnExactEdRead.f laws_toEd.f
  by_cases h : (bs.length : Int) > 1048576
  · simp only [if_pos h]; exact Ev.now _
  simp only [if_neg h, Option.bind_some]
  have tb := toByteS_eq bs (by omega)
  have eb := eqByteS_eq bs (by omega)
  have ep : laws_eqPair.f r s r s = some true := by unfold laws_eqPair.f; rw [if_pos rfl, if_pos rfl]
  refine Ev.bind tb (Ev.bind f1 (Ev.bind tb (Ev.bind f2 ?_)))
  simp only [ep, Option.bind_some, if_true, bne_self_eq_false]
  refine Ev.step (fun k => by rw [laws_FnExactEdRead.j0]) ?_
  simp only [Bool.false_eq_true, if_false]
  refine Ev.bind tb (Ev.bind eb ?_)
  simp only [if_true]
  exact Ev.now _

end Go.Proofs.Ytadmkolopcdffab.Pure
