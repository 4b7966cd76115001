/- The law FnTwisted answers true at all bytes: the pairs of a drawn twisted curve are a group, and come back from their bytes. -/
import Derived.Test.YtfdlblckmlbhoaaPFnTwistedx8
import Derived.Test.YtfdlblckmlbhoaaMBits
import Derived.Test.YtfdlblckmlbhoaaMInv
import Derived.Test.YtfdlblckmlbhoaaMField
import Derived.Test.YtfdlblckmlbhoaaMRoot
import Derived.Test.YtfdlblckmlbhoaaMEd
import Derived.Test.YtfdlblckmlbhoaaMGrp
import Derived.Test.YtfdlblckmlbhoaaMEdP
import Derived.Test.YtfdlblckmlbhoaaMEdR
namespace Go.Proofs.Ytfdlblckmlbhoaa.Pure
open Go.RowKit Go.Proofs.Ytfdlblckmlbhoaa.PFnTwisted Go.Proofs.YtfdlblckmlbhoaaW.PrintWords Go.Proofs.YtfdlblckmlbhoaaW.PrintLast Go.Proofs.Ytfdlblckmlbhoaa.Plain

set_option linter.unusedVariables false
set_option linter.unusedSimpArgs false

theorem w64 {n : Int} (h : -9223372036854775808 ≤ n) (h' : n ≤ 9223372036854775807) : wrap64 n = n := by
  unfold wrap64
  omega

theorem wf64 {n : Int} (h : (Lit.int .i64 n).wf = true) : -9223372036854775808 ≤ n ∧ n ≤ 9223372036854775807 := by
  simpa [Lit.wf, IntKind.min, IntKind.max, IntKind.signed, IntKind.bits] using h

theorem wsucc {i : Nat} (h : i ≤ 1099511627776) : wrap64 ((i : Int) + 1) = ((i + 1 : Nat) : Int) := by
  rw [w64 (by omega) (by omega)]
  omega

theorem wpred {i : Nat} (h : i ≤ 1099511627776) : wrap64 (((i + 1 : Nat) : Int) - 1) = (i : Int) := by
  rw [w64 (by omega) (by omega)]
  omega

theorem in_eq (n a b : Int) : spec_l1In.f n a b = some (decide (a ≤ n ∧ n ≤ b)) := by
  unfold spec_l1In.f
  by_cases h : n ≥ a
  · rw [if_pos h]
    have : a ≤ n := h
    simp [this]
  · rw [if_neg h]
    have : ¬ a ≤ n := h
    simp [this]

theorem within_eq (n a b : Int) : impl_within.f n a b = some (decide (a ≤ n ∧ n ≤ b)) := by
  unfold impl_within.f
  by_cases h : n ≥ a
  · rw [if_pos h]
    have : a ≤ n := h
    simp [this]
  · rw [if_neg h]
    have : ¬ a ≤ n := h
    simp [this]

theorem left_eq {a m : Int} (h1 : 0 < m) (h2 : m ≤ 4611686018427387904) : spec_l2Left.f a m = some (a % m) := by
  unfold spec_l2Left.f
  rw [if_neg (by omega)]
  have e0 := Int.tmod_lt_of_pos a h1
  have e1 := Int.lt_tmod_of_pos a h1
  rw [w64 (by omega) (by omega), Int.tmod_eq_emod_of_nonneg (by omega), Int.tmod_eq_emod]
  congr 1
  split
  · simp
  · rw [show a % m - ((m.natAbs : Nat) : Int) + m = a % m by omega, Int.emod_emod]

theorem rest_eq {a m : Int} (h1 : 0 < m) (h2 : m ≤ 4611686018427387904) : impl_rest.f a m = some (a % m) := by
  unfold impl_rest.f
  rw [if_neg (by omega)]
  have e0 := Int.tmod_lt_of_pos a h1
  have e1 := Int.lt_tmod_of_pos a h1
  rw [w64 (by omega) (by omega), Int.tmod_eq_emod_of_nonneg (by omega), Int.tmod_eq_emod]
  congr 1
  split
  · simp
  · rw [show a % m - ((m.natAbs : Nat) : Int) + m = a % m by omega, Int.emod_emod]

theorem specinv_loop (a m : Int) (hm : 2 ≤ m) (hM : m ≤ 1073741824) : ∀ (n : Nat) (last left before now : Int), left.toNat ≤ n → EuInv a m last left before now →
    -m ≤ before → before ≤ m → ∃ r b, InvIs a m r b ∧ Ev (fun k => spec_l2Inv.l0 k m last left before now) r := by
  intro n
  induction n with
  | zero =>
    intro last left before now hn h hb hb'
    have := h.l0
    obtain rfl : left = 0 := by omega
    by_cases h1 : last = 1
    · refine ⟨before % m, true, h.one hm h1, Ev.step (fun k => by rw [spec_l2Inv.l0]) ?_⟩
      subst h1
      simp [left_eq (show 0 < m by omega) (show m ≤ 4611686018427387904 by omega)]
      exact Ev.now _
    · refine ⟨0, false, h.more h1, Ev.step (fun k => by rw [spec_l2Inv.l0]) ?_⟩
      simp [h1]
      exact Ev.now _
  | succ n ih =>
    intro last left before now hn h hb hb'
    by_cases h0 : left = 0
    · exact ih last left before now (by omega) h hb hb'
    · have hp : 0 < left := by have := h.l0; omega
      have h' := h.step hp
      have b1 := h.now_le
      have b2 := h'.now_le
      have l1 := h.l1
      have hl := h.lm
      have q0 : 0 ≤ last / left := Int.ediv_nonneg (by omega) (by omega)
      have q1 : last / left ≤ last := Int.ediv_le_self _ (by omega)
      obtain ⟨r, b, hr, ev⟩ := ih left (last % left) now (before - last / left * now) (by have := h'.lt; have := h'.l0; omega) h' (by omega) (by omega)
      refine ⟨r, b, hr, Ev.step (fun k => by rw [spec_l2Inv.l0]) ?_⟩
      rw [tdiv_of_nonneg (by omega), tmod_of_nonneg (by omega), w64 (n := last / left) (by omega) (by omega), w64 (n := last / left * now) (by omega) (by omega), w64 (by omega) (by omega)]
      simpa [h0, hp] using ev

theorem implinv_loop (a m : Int) (hm : 2 ≤ m) (hM : m ≤ 1073741824) : ∀ (n : Nat) (last left before now : Int), left.toNat ≤ n → EuInv a m last left before now →
    -m ≤ before → before ≤ m → ∃ r b, InvIs a m r b ∧ Ev (fun k => impl_InvInt.l0 k m last left before now) (r,b) := by
  intro n
  induction n with
  | zero =>
    intro last left before now hn h hb hb'
    have := h.l0
    obtain rfl : left = 0 := by omega
    by_cases h1 : last = 1
    · refine ⟨before % m, true, h.one hm h1, Ev.step (fun k => by rw [impl_InvInt.l0]) ?_⟩
      subst h1
      simp [rest_eq (show 0 < m by omega) (show m ≤ 4611686018427387904 by omega)]
      exact Ev.now _
    · refine ⟨0, false, h.more h1, Ev.step (fun k => by rw [impl_InvInt.l0]) ?_⟩
      simp [h1]
      exact Ev.now _
  | succ n ih =>
    intro last left before now hn h hb hb'
    by_cases h0 : left = 0
    · exact ih last left before now (by omega) h hb hb'
    · have hp : 0 < left := by have := h.l0; omega
      have h' := h.step hp
      have b1 := h.now_le
      have b2 := h'.now_le
      have l1 := h.l1
      have hl := h.lm
      have q0 : 0 ≤ last / left := Int.ediv_nonneg (by omega) (by omega)
      have q1 : last / left ≤ last := Int.ediv_le_self _ (by omega)
      obtain ⟨r, b, hr, ev⟩ := ih left (last % left) now (before - last / left * now) (by have := h'.lt; have := h'.l0; omega) h' (by omega) (by omega)
      refine ⟨r, b, hr, Ev.step (fun k => by rw [impl_InvInt.l0]) ?_⟩
      rw [tdiv_of_nonneg (by omega), tmod_of_nonneg (by omega), w64 (n := last / left) (by omega) (by omega), w64 (n := last / left * now) (by omega) (by omega), w64 (by omega) (by omega)]
      simpa [h0, hp] using ev

theorem implInv_eq (a : Int) {m : Int} (h : 2 ≤ m) (h' : m ≤ 1073741824) : ∃ r b, InvIs a m r b ∧ Ev (fun k => impl_InvInt.f k a m) (r, b) := by
  obtain ⟨r, b, hr, e⟩ := implinv_loop a m h h' (a % m).toNat m (a % m) 0 1 (Nat.le_refl _) (EuInv.start h) (by omega) (by omega)
  refine ⟨r, b, hr, ?_⟩
  unfold impl_InvInt.f
  simp only [within_eq, h, h', and_self, decide_true, if_true, rest_eq (a := a) (m := m) (by omega) (by omega), Option.bind_some]
  exact e

theorem specInv_eq (a : Int) {m : Int} (h : 2 ≤ m) (h' : m ≤ 1073741824) : ∃ r b, InvIs a m r b ∧ Ev (fun k => spec_l2Inv.f k a m) r := by
  obtain ⟨r, b, hr, e⟩ := specinv_loop a m h h' (a % m).toNat m (a % m) 0 1 (Nat.le_refl _) (EuInv.start h) (by omega) (by omega)
  refine ⟨r, b, hr, ?_⟩
  unfold spec_l2Inv.f
  simp only [left_eq (a := a) (m := m) (by omega) (by omega), Option.bind_some]
  exact e

def tab8 : ByteArray := ⟨#[0, 1, 2, 2, 3, 3, 3, 3, 4, 4, 4, 4, 4, 4, 4, 4, 5, 5, 5, 5, 5, 5, 5, 5, 5, 5, 5, 5, 5, 5, 5, 5, 6, 6, 6, 6, 6, 6, 6, 6, 6, 6, 6, 6, 6, 6, 6, 6, 6, 6, 6, 6, 6, 6, 6, 6, 6, 6, 6, 6, 6, 6, 6, 6, 7, 7, 7, 7, 7, 7, 7, 7, 7, 7, 7, 7, 7, 7, 7, 7, 7, 7, 7, 7, 7, 7, 7, 7, 7, 7, 7, 7, 7, 7, 7, 7, 7, 7, 7, 7, 7, 7, 7, 7, 7, 7, 7, 7, 7, 7, 7, 7, 7, 7, 7, 7, 7, 7, 7, 7, 7, 7, 7, 7, 7, 7, 7, 7, 8, 8, 8, 8, 8, 8, 8, 8, 8, 8, 8, 8, 8, 8, 8, 8, 8, 8, 8, 8, 8, 8, 8, 8, 8, 8, 8, 8, 8, 8, 8, 8, 8, 8, 8, 8, 8, 8, 8, 8, 8, 8, 8, 8, 8, 8, 8, 8, 8, 8, 8, 8, 8, 8, 8, 8, 8, 8, 8, 8, 8, 8, 8, 8, 8, 8, 8, 8, 8, 8, 8, 8, 8, 8, 8, 8, 8, 8, 8, 8, 8, 8, 8, 8, 8, 8, 8, 8, 8, 8, 8, 8, 8, 8, 8, 8, 8, 8, 8, 8, 8, 8, 8, 8, 8, 8, 8, 8, 8, 8, 8, 8, 8, 8, 8, 8, 8, 8, 8, 8, 8, 8, 8, 8, 8, 8, 8, 8]⟩

theorem tab8_all : ∀ n : Fin 256, bt tab8 ((n.val : Nat) : Int) = ((bl n.val : Nat) : Int) := by decide +kernel

set_option maxRecDepth 100000 in
theorem tab8_eq {x : Int} (h0 : 0 ≤ x) (h1 : x < 256) : bt (⟨#[0, 1, 2, 2, 3, 3, 3, 3, 4, 4, 4, 4, 4, 4, 4, 4, 5, 5, 5, 5, 5, 5, 5, 5, 5, 5, 5, 5, 5, 5, 5, 5, 6, 6, 6, 6, 6, 6, 6, 6, 6, 6, 6, 6, 6, 6, 6, 6, 6, 6, 6, 6, 6, 6, 6, 6, 6, 6, 6, 6, 6, 6, 6, 6, 7, 7, 7, 7, 7, 7, 7, 7, 7, 7, 7, 7, 7, 7, 7, 7, 7, 7, 7, 7, 7, 7, 7, 7, 7, 7, 7, 7, 7, 7, 7, 7, 7, 7, 7, 7, 7, 7, 7, 7, 7, 7, 7, 7, 7, 7, 7, 7, 7, 7, 7, 7, 7, 7, 7, 7, 7, 7, 7, 7, 7, 7, 7, 7, 8, 8, 8, 8, 8, 8, 8, 8, 8, 8, 8, 8, 8, 8, 8, 8, 8, 8, 8, 8, 8, 8, 8, 8, 8, 8, 8, 8, 8, 8, 8, 8, 8, 8, 8, 8, 8, 8, 8, 8, 8, 8, 8, 8, 8, 8, 8, 8, 8, 8, 8, 8, 8, 8, 8, 8, 8, 8, 8, 8, 8, 8, 8, 8, 8, 8, 8, 8, 8, 8, 8, 8, 8, 8, 8, 8, 8, 8, 8, 8, 8, 8, 8, 8, 8, 8, 8, 8, 8, 8, 8, 8, 8, 8, 8, 8, 8, 8, 8, 8, 8, 8, 8, 8, 8, 8, 8, 8, 8, 8, 8, 8, 8, 8, 8, 8, 8, 8, 8, 8, 8, 8, 8, 8, 8, 8, 8, 8]⟩ : ByteArray) x = ((bl x.toNat : Nat) : Int) := by
  have := tab8_all ⟨x.toNat, by omega⟩
  unfold tab8 at this
  rw [show (((⟨x.toNat, by omega⟩ : Fin 256).val : Nat) : Int) = x from by simp; omega] at this
  exact this

theorem blI {x : Int} (k : Nat) (h : (2 : Int) ^ k ≤ x) : ((bl x.toNat : Nat) : Int) = ((bl (x / 2 ^ k).toNat : Nat) : Int) + k := by
  have h1 := bl_shift k x.toNat (by have := two_pow_int k; omega)
  have h2 : (x / 2 ^ k).toNat = x.toNat / 2 ^ k := by
    have h3 : 0 < (2 : Int) ^ k := Int.pow_pos (by omega)
    obtain ⟨n, rfl⟩ : ∃ n : Nat, x = n := ⟨x.toNat, by omega⟩
    rw [← two_pow_int, Int.toNat_natCast, ← Int.natCast_ediv, Int.toNat_natCast]
  rw [h2, h1]
  omega

set_option maxRecDepth 100000 in
theorem len64_j0 {x c : Int} (h0 : 0 ≤ x) (h1 : x < 4294967296) (c0 : 0 ≤ c) (c1 : c ≤ 1000) : Ev (fun k => bits_Len64.j0 k x c) (c + ((bl x.toNat : Nat) : Int)) := by
  refine Ev.step (fun k => by rw [bits_Len64.j0]) ?_
  have blb : ∀ y : Int, 0 ≤ y → y < 256 → ((bl y.toNat : Nat) : Int) ≤ 8 := by
    intro y y0 y1
    have := bl_le (n := y.toNat) (k := 8) (by omega)
    omega
  by_cases p1 : x ≥ 65536
  · simp only [if_pos p1]
    have e1 := blI (x := x) 16 (by omega)
    by_cases p2 : x / 65536 ≥ 256
    · have e2 := blI (x := x / 65536) 8 (by omega)
      have r0 : 0 ≤ x / 65536 / 256 := by omega
      have r1 : x / 65536 / 256 < 256 := by omega
      have r2 : x / 65536 / 256 % 256 = x / 65536 / 256 := by omega
      have b := blb (x / 65536 / 256) (by omega) (by omega)
      simp only [if_pos p2, r2, if_pos r0, if_pos r1, tab8_eq r0 r1]
      rw [w64 (n := ((bl (x / 65536 / 256).toNat : Nat) : Int)) (by omega) (by omega), w64 (n := c + 16) (by omega) (by omega), w64 (n := c + 16 + 8) (by omega) (by omega), w64 (by omega) (by omega),
        show c + 16 + 8 + ((bl (x / 65536 / 256).toNat : Nat) : Int) = c + ((bl x.toNat : Nat) : Int) by simp only [show ((2 : Int) ^ 16) = 65536 by decide, show ((2 : Int) ^ 8) = 256 by decide] at e1 e2; omega]
      exact Ev.now _
    · have r0 : 0 ≤ x / 65536 := by omega
      have r1 : x / 65536 < 256 := by omega
      have r2 : x / 65536 % 256 = x / 65536 := by omega
      have b := blb (x / 65536) (by omega) (by omega)
      simp only [if_neg p2, r2, if_pos r0, if_pos r1, tab8_eq r0 r1]
      rw [w64 (n := ((bl (x / 65536).toNat : Nat) : Int)) (by omega) (by omega), w64 (n := c + 16) (by omega) (by omega), w64 (by omega) (by omega),
        show c + 16 + ((bl (x / 65536).toNat : Nat) : Int) = c + ((bl x.toNat : Nat) : Int) by simp only [show ((2 : Int) ^ 16) = 65536 by decide] at e1; omega]
      exact Ev.now _
  · simp only [if_neg p1]
    by_cases p2 : x ≥ 256
    · have e2 := blI (x := x) 8 (by omega)
      have r0 : 0 ≤ x / 256 := by omega
      have r1 : x / 256 < 256 := by omega
      have r2 : x / 256 % 256 = x / 256 := by omega
      have b := blb (x / 256) (by omega) (by omega)
      simp only [if_pos p2, r2, if_pos r0, if_pos r1, tab8_eq r0 r1]
      rw [w64 (n := ((bl (x / 256).toNat : Nat) : Int)) (by omega) (by omega), w64 (n := c + 8) (by omega) (by omega), w64 (by omega) (by omega),
        show c + 8 + ((bl (x / 256).toNat : Nat) : Int) = c + ((bl x.toNat : Nat) : Int) by simp only [show ((2 : Int) ^ 8) = 256 by decide] at e2; omega]
      exact Ev.now _
    · have r0 : 0 ≤ x := by omega
      have r1 : x < 256 := by omega
      have r2 : x % 256 = x := by omega
      have b := blb x (by omega) (by omega)
      simp only [if_neg p2, r2, if_pos r0, if_pos r1, tab8_eq r0 r1]
      rw [w64 (n := ((bl x.toNat : Nat) : Int)) (by omega) (by omega), w64 (by omega) (by omega)]
      exact Ev.now _

theorem len_eq {x : Int} (h0 : 0 ≤ x) (h1 : x < 18446744073709551616) : Ev (fun k => bits_Len.f k x) ((bl x.toNat : Nat) : Int) := by
  unfold bits_Len.f bits_Len64.f
  by_cases p : x ≥ 4294967296
  · simp only [if_pos p]
    have e := blI (x := x) 32 (by omega)
    have := len64_j0 (x := x / 4294967296) (c := 32) (by omega) (by omega) (by omega) (by omega)
    rw [show 32 + ((bl (x / 4294967296).toNat : Nat) : Int) = ((bl x.toNat : Nat) : Int) by simp only [show ((2 : Int) ^ 32) = 4294967296 by decide] at e; omega] at this
    exact Ev.bind this (Ev.now _)
  · simp only [if_neg p]
    have := len64_j0 (x := x) (c := 0) (by omega) (by omega) (by omega) (by omega)
    rw [Int.zero_add] at this
    exact Ev.bind this (Ev.now _)

theorem u64w {x : Int} (h0 : 0 ≤ x) (h1 : x < 18446744073709551616) : IntKind.u64.wrap x = x := by
  rw [show IntKind.u64.wrap x = x % 18446744073709551616 from by simp [IntKind.wrap, IntKind.bits, IntKind.signed]]
  omega

theorem and1 {x : Int} (h0 : 0 ≤ x) (h1 : x < 9223372036854775808) : Go.bits .and .i64 x 1 = x % 2 := by
  have := bits_mask .i64 63 (by decide) (fun n a b => by rw [IntKind.wrap_i64]; omega) 1 (by decide) x h0 (by simpa using h1)
  simpa using this

theorem mulmod (x y m : Int) : x % m * (y % m) % m = x * y % m := (Int.mul_emod x y m).symm

theorem mod_bd (x : Int) {m : Int} (h : 1 ≤ m) (h' : m ≤ 1073741824) : 0 ≤ x % m ∧ x % m < m := ⟨Int.emod_nonneg _ (by omega), Int.emod_lt_of_pos _ (by omega)⟩

theorem mul_small {x y : Int} (hx : 0 ≤ x) (hx' : x < 1073741824) (hy : 0 ≤ y) (hy' : y < 1073741824) : 0 ≤ x * y ∧ wrap64 (x * y) = x * y := by
  have h1 : 0 ≤ x * y := Int.mul_nonneg hx hy
  have h2 : x * y ≤ 1073741823 * 1073741823 := Int.mul_le_mul (by omega) (by omega) hy (by omega)
  exact ⟨h1, w64 (by omega) (by omega)⟩

theorem one_mod' {m : Int} (h : 1 ≤ m) : (1 : Int) % m = 1 % m := rfl

theorem implPow_loop (a m : Int) (E : Nat) (hE : E < 9223372036854775808) (hm : 1 ≤ m) (hm' : m ≤ 1073741824) : ∀ (n : Nat), n ≤ 64 →
    Ev (fun k => impl_powInt.l0 k (a % m) (E : Int) m (a ^ (E / 2 ^ n) % m) ((n : Int) - 1)) (a ^ E % m) := by
  intro n
  induction n with
  | zero =>
    intro _
    refine Ev.step (fun k => by rw [impl_powInt.l0]) ?_
    simp only [if_neg (show ¬ ((0 : Nat) : Int) - 1 ≥ 0 by omega), Nat.pow_zero, Nat.div_one]
    exact Ev.now _
  | succ n ih =>
    intro hn
    have ih := ih (by omega)
    have st := div_step E n
    have b1 := mod_bd (a ^ (E / 2 ^ (n + 1))) hm hm'
    have b2 := mod_bd a hm hm'
    have b3 := mod_bd (a ^ (E / 2 ^ (n + 1)) * a ^ (E / 2 ^ (n + 1))) hm hm'
    obtain ⟨p0, w0⟩ := mul_small b1.1 (by omega) b1.1 (by omega)
    obtain ⟨p1, w1⟩ := mul_small b3.1 (by omega) b2.1 (by omega)
    have sh : shr .i64 (E : Int) (n : Int) = ((E / 2 ^ n : Nat) : Int) := by
      unfold shr
      rw [Int.toNat_natCast, Nat.min_eq_left (by simp [IntKind.bits]; omega), ← two_pow_int]
      exact (Int.natCast_ediv _ _).symm
    have le : E / 2 ^ n ≤ E := Nat.div_le_self _ _
    have an := and1 (x := ((E / 2 ^ n : Nat) : Int)) (by omega) (by clear w0 w1 st; omega)
    have q0 : ((n + 1 : Nat) : Int) - 1 = (n : Int) := by clear w0 w1 sh an; omega
    have q1 : (n : Int) ≥ 0 := by clear w0 w1 sh an; omega
    have q2 : ¬ m = 0 := by clear w0 w1 sh an; omega
    have q3 : 0 ≤ (n : Int) := by clear w0 w1 sh an; omega
    have q4 : wrap64 ((n : Int) - 1) = (n : Int) - 1 := by clear w0 w1 sh an; exact w64 (by omega) (by omega)
    refine Ev.step (fun k => by rw [impl_powInt.l0]) ?_
    simp only [q0, if_pos q1, if_neg q2, if_pos q3, sh, an, q4, w0, Int.tmod_eq_emod_of_nonneg p0, mulmod, w1, Int.tmod_eq_emod_of_nonneg p1]
    rcases Nat.mod_two_eq_zero_or_one (E / 2 ^ n) with hb | hb
    · rw [hb, Nat.add_zero] at st
      simp only [if_neg (show ¬ ((E / 2 ^ n : Nat) : Int) % 2 = 1 by clear w0 w1 sh an q4; omega)]
      rw [st, Nat.two_mul, Int.pow_add] at ih
      exact ih
    · rw [hb] at st
      simp only [if_pos (show ((E / 2 ^ n : Nat) : Int) % 2 = 1 by clear w0 w1 sh an q4; omega)]
      rw [st, Nat.two_mul, Int.pow_add, Int.pow_add, Int.pow_one] at ih
      exact ih

theorem implPow_eq {a e m : Int} (ha : 0 ≤ a) (he : 0 ≤ e) (he' : e ≤ 9223372036854775807) (hm : 1 ≤ m) (hm' : m ≤ 1073741824) : Ev (fun k => impl_powInt.f k a e m) (a ^ e.toNat % m) := by
  obtain ⟨E, rfl⟩ : ∃ E : Nat, e = E := ⟨e.toNat, by omega⟩
  unfold impl_powInt.f
  simp only [if_neg (show ¬ m = 0 by omega), Int.toNat_natCast]
  rw [u64w he (by omega), Int.tmod_eq_emod_of_nonneg ha]
  refine Ev.bind (len_eq he (by omega)) ?_
  rw [Int.toNat_natCast]
  have hl := bl_le (n := E) (k := 64) (by omega)
  have := implPow_loop a m E (by omega) hm hm' (bl E) (by omega)
  rw [Nat.div_eq_of_lt (bl_lt E), Int.pow_zero] at this
  rw [w64 (by omega) (by omega)]
  exact this

theorem specPow_loop (m : Int) (hm : 1 ≤ m) (hm' : m ≤ 1073741824) : ∀ (n E : Nat) (x y : Int), E ≤ n → E < 9223372036854775808 →
    Ev (fun k => spec_l2Pow.l0 k (E : Int) m (x % m) (y % m)) (x * y ^ E % m) := by
  intro n
  induction n with
  | zero =>
    intro E x y hE hE'
    obtain rfl : E = 0 := by omega
    refine Ev.step (fun k => by rw [spec_l2Pow.l0]) ?_
    simp only [if_neg (show ¬ ((0 : Nat) : Int) > 0 by omega), Int.pow_zero, Int.mul_one]
    exact Ev.now _
  | succ n ih =>
    intro E x y hE hE'
    by_cases h0 : E = 0
    · subst h0; exact ih 0 x y (by omega) (by omega)
    · have b1 := mod_bd x hm hm'
      have b2 := mod_bd y hm hm'
      obtain ⟨p0, w0⟩ := mul_small b1.1 (by omega) b2.1 (by omega)
      obtain ⟨p1, w1⟩ := mul_small b2.1 (by omega) b2.1 (by omega)
      have q0 : (E : Int) > 0 := by clear w0 w1; omega
      have q1 : ¬ m = 0 := by clear w0 w1; omega
      have q2 : wrap64 (Int.tdiv (E : Int) 2) = ((E / 2 : Nat) : Int) := by
        rw [Int.tdiv_eq_ediv_of_nonneg (by clear w0 w1; omega), w64 (by clear w0 w1; omega) (by clear w0 w1; omega)]
        clear w0 w1; omega
      have q3 : Int.tmod (E : Int) 2 = ((E % 2 : Nat) : Int) := by rw [Int.tmod_eq_emod_of_nonneg (by clear w0 w1 q2; omega)]; clear w0 w1 q2; omega
      refine Ev.step (fun k => by rw [spec_l2Pow.l0]) ?_
      simp only [if_pos q0, if_neg q1, q2, q3, w0, w1, Int.tmod_eq_emod_of_nonneg p0, Int.tmod_eq_emod_of_nonneg p1, mulmod]
      clear q2 q3 w0 w1
      have hyy : (y * y) ^ (E / 2) = y ^ (2 * (E / 2)) := by rw [Nat.two_mul, Int.pow_add, Int.mul_pow]
      rcases Nat.mod_two_eq_zero_or_one E with hb | hb
      · simp only [hb, if_neg (show ¬ ((0 : Nat) : Int) = 1 by omega)]
        have := ih (E / 2) x (y * y) (by omega) (by omega)
        rw [hyy, show 2 * (E / 2) = E by omega] at this
        exact this
      · simp only [hb, if_pos (show ((1 : Nat) : Int) = 1 by omega)]
        have := ih (E / 2) (x * y) (y * y) (by omega) (by omega)
        rw [hyy, Int.mul_assoc, ← Int.pow_succ', show 2 * (E / 2) + 1 = E by omega] at this
        exact this

theorem specPow_eq {a e m : Int} (ha : 0 ≤ a) (he : 0 ≤ e) (he' : e ≤ 9223372036854775807) (hm : 1 ≤ m) (hm' : m ≤ 1073741824) : Ev (fun k => spec_l2Pow.f k a e m) (a ^ e.toNat % m) := by
  obtain ⟨E, rfl⟩ : ∃ E : Nat, e = E := ⟨e.toNat, by omega⟩
  unfold spec_l2Pow.f
  simp only [if_neg (show ¬ m = 0 by omega), Int.toNat_natCast]
  rw [Int.tmod_eq_emod_of_nonneg ha]
  have := specPow_loop m hm hm' E E 1 a (Nat.le_refl _) (by omega)
  rw [Int.one_mul] at this
  exact this

theorem sprime_loop (n : Int) (hn : n ≤ 1099511627776) (h2 : 2 ≤ n) : ∀ (m : Nat) (d : Int), 2 ≤ d → (1048580 - d).toNat ≤ m → d ≤ 1048577 → (∀ c, 2 ≤ c → c < d → ¬ c ∣ n) →
    ∃ r, (r = true → Prm n) ∧ (r = false → ¬ Prm n) ∧ Ev (fun k => spec_PrimeInt.l0 k n d) r := by
  intro m
  induction m with
  | zero => intro d h h1 h2; omega
  | succ m ih =>
    intro d h h1 h3 hc
    have e0 : 0 ≤ d * d := Int.mul_nonneg (by omega) (by omega)
    have e1 : d * d ≤ 1048577 * 1048577 := Int.mul_le_mul h3 h3 (by omega) (by omega)
    have h5 : d * d ≤ n → d ≤ 1048576 := by
      intro k
      rcases Int.lt_or_le 1048576 d with h6 | h6
      · have : (1048577 : Int) * 1048577 ≤ d * d := Int.mul_le_mul h6 h6 (by omega) (by omega)
        omega
      · exact h6
    have ew : wrap64 (d * d) = d * d := w64 (by omega) (by omega)
    by_cases h6 : d * d ≤ n
    · have hd := h5 h6
      by_cases h4 : n % d = 0
      · refine ⟨false, fun k => (by cases k), fun _ k => k.2 d h h6 (Int.dvd_of_emod_eq_zero h4), Ev.step (fun k => by rw [spec_PrimeInt.l0]) ?_⟩
        simp only [ew, if_pos h6, if_neg (show ¬ d = 0 by clear ew; omega), Int.tmod_eq_emod_of_nonneg (show 0 ≤ n by clear ew; omega), if_pos h4]
        exact Ev.now _
      · obtain ⟨r, r1, r2, e⟩ := ih (d + 1) (by clear ew; omega) (by clear ew; omega) (by clear ew; omega) (fun c c0 c1 => by
          by_cases hcd : c = d
          · subst hcd; intro k; exact h4 (Int.emod_eq_zero_of_dvd k)
          · exact hc c c0 (by clear ew; omega))
        refine ⟨r, r1, r2, Ev.step (fun k => by rw [spec_PrimeInt.l0]) ?_⟩
        simp only [ew, if_pos h6, if_neg (show ¬ d = 0 by clear ew; omega), Int.tmod_eq_emod_of_nonneg (show 0 ≤ n by clear ew; omega), if_neg h4]
        clear ew
        rw [w64 (n := d + 1) (by omega) (by omega)]
        exact e
    · refine ⟨true, fun _ => ⟨h2, fun c c0 c1 c2 => ?_⟩, fun k => (by cases k), Ev.step (fun k => by rw [spec_PrimeInt.l0]) ?_⟩
      · refine hc c c0 ?_ c2
        rcases Int.lt_or_le c d with h7 | h7
        · exact h7
        · have : d * d ≤ c * c := Int.mul_le_mul h7 h7 (by clear ew; omega) (by clear ew; omega)
          clear ew; omega
      · simp only [ew, if_neg h6]
        exact Ev.now _

theorem sprime_eq (n : Int) : ∃ r, (r = true → Prm n ∧ n ≤ 1099511627776) ∧ (r = false → ¬ (Prm n ∧ n ≤ 1099511627776)) ∧ Ev (fun k => spec_PrimeInt.f k n) r := by
  unfold spec_PrimeInt.f
  simp only [in_eq, Option.bind_some]
  by_cases h : 2 ≤ n ∧ n ≤ 1099511627776
  · obtain ⟨r, r1, r2, e⟩ := sprime_loop n h.2 h.1 1048578 2 (by omega) (by omega) (by omega) (fun c c0 c1 => by omega)
    refine ⟨r, fun k => ⟨r1 k, h.2⟩, fun k q => r2 k q.1, ?_⟩
    simp only [h.1, h.2, and_self, decide_true, if_true]
    exact e
  · refine ⟨false, fun k => (by cases k), fun _ q => h ⟨q.1.1, q.2⟩, ?_⟩
    simp only [h, decide_false]
    simpa using Ev.now false

theorem iprime_loop (n : Int) (hn : n ≤ 1099511627776) (h2 : 2 ≤ n) : ∀ (m : Nat) (d : Int), 2 ≤ d → (1048580 - d).toNat ≤ m → d ≤ 1048577 → (∀ c, 2 ≤ c → c < d → ¬ c ∣ n) →
    ∃ r, (r = true → Prm n) ∧ (r = false → ¬ Prm n) ∧ Ev (fun k => impl_PrimeInt.l0 k n d) r := by
  intro m
  induction m with
  | zero => intro d h h1 h2; omega
  | succ m ih =>
    intro d h h1 h3 hc
    have e0 : 0 ≤ d * d := Int.mul_nonneg (by omega) (by omega)
    have e1 : d * d ≤ 1048577 * 1048577 := Int.mul_le_mul h3 h3 (by omega) (by omega)
    have h5 : d * d ≤ n → d ≤ 1048576 := by
      intro k
      rcases Int.lt_or_le 1048576 d with h6 | h6
      · have : (1048577 : Int) * 1048577 ≤ d * d := Int.mul_le_mul h6 h6 (by omega) (by omega)
        omega
      · exact h6
    have ew : wrap64 (d * d) = d * d := w64 (by omega) (by omega)
    by_cases h6 : d * d ≤ n
    · have hd := h5 h6
      by_cases h4 : n % d = 0
      · refine ⟨false, fun k => (by cases k), fun _ k => k.2 d h h6 (Int.dvd_of_emod_eq_zero h4), Ev.step (fun k => by rw [impl_PrimeInt.l0]) ?_⟩
        simp only [ew, if_pos h6, if_neg (show ¬ d = 0 by clear ew; omega), Int.tmod_eq_emod_of_nonneg (show 0 ≤ n by clear ew; omega), if_pos h4]
        exact Ev.now _
      · obtain ⟨r, r1, r2, e⟩ := ih (d + 1) (by clear ew; omega) (by clear ew; omega) (by clear ew; omega) (fun c c0 c1 => by
          by_cases hcd : c = d
          · subst hcd; intro k; exact h4 (Int.emod_eq_zero_of_dvd k)
          · exact hc c c0 (by clear ew; omega))
        refine ⟨r, r1, r2, Ev.step (fun k => by rw [impl_PrimeInt.l0]) ?_⟩
        simp only [ew, if_pos h6, if_neg (show ¬ d = 0 by clear ew; omega), Int.tmod_eq_emod_of_nonneg (show 0 ≤ n by clear ew; omega), if_neg h4]
        clear ew
        rw [w64 (n := d + 1) (by omega) (by omega)]
        exact e
    · refine ⟨true, fun _ => ⟨h2, fun c c0 c1 c2 => ?_⟩, fun k => (by cases k), Ev.step (fun k => by rw [impl_PrimeInt.l0]) ?_⟩
      · refine hc c c0 ?_ c2
        rcases Int.lt_or_le c d with h7 | h7
        · exact h7
        · have : d * d ≤ c * c := Int.mul_le_mul h7 h7 (by clear ew; omega) (by clear ew; omega)
          clear ew; omega
      · simp only [ew, if_neg h6]
        exact Ev.now _

theorem iprime_eq (n : Int) : ∃ r, (r = true → Prm n ∧ n ≤ 1099511627776) ∧ (r = false → ¬ (Prm n ∧ n ≤ 1099511627776)) ∧ Ev (fun k => impl_PrimeInt.f k n) r := by
  unfold impl_PrimeInt.f
  simp only [within_eq, Option.bind_some]
  by_cases h : 2 ≤ n ∧ n ≤ 1099511627776
  · obtain ⟨r, r1, r2, e⟩ := iprime_loop n h.2 h.1 1048578 2 (by omega) (by omega) (by omega) (fun c c0 c1 => by omega)
    refine ⟨r, fun k => ⟨r1 k, h.2⟩, fun k q => r2 k q.1, ?_⟩
    simp only [h.1, h.2, and_self, decide_true, if_true]
    exact e
  · refine ⟨false, fun k => (by cases k), fun _ q => h ⟨q.1.1, q.2⟩, ?_⟩
    simp only [h, decide_false]
    simpa using Ev.now false

theorem primes_eq (n : Int) : ∃ r, (r = true → Prm n) ∧ (r = false → n ≤ 1099511627776 → ¬ Prm n) ∧ Ev (fun k => spec_PrimeInt.f k n) r ∧ Ev (fun k => impl_PrimeInt.f k n) r := by
  obtain ⟨r, r1, r2, e⟩ := sprime_eq n
  obtain ⟨q, q1, q2, f⟩ := iprime_eq n
  obtain rfl : r = q := by
    cases r <;> cases q
    · rfl
    · exact absurd (q1 rfl) (r2 rfl)
    · exact absurd (r1 rfl) (q2 rfl)
    · rfl
  exact ⟨r, fun k => (r1 k).1, fun k h1 h2 => r2 k ⟨h2, h1⟩, e, f⟩

/-- A pair of numbers by p. -/
structure EdPt (p : Int) (d : Int) (K : Fld p) (x y : Int) : Prop where
  x0 : 0 ≤ x
  x1 : x < p
  y0 : 0 ≤ y
  y1 : y < p
  on : EdOn (toF d : K.F) (toF x) (toF y)

theorem mm {x y p : Int} (hp : 1 ≤ p) (hp' : p ≤ 1048576) (x0 : 0 ≤ x) (x1 : x < p) (y0 : 0 ≤ y) (y1 : y < p) : 0 ≤ x * y ∧ x * y ≤ 1099511627776 := by
  have h1 : 0 ≤ x * y := Int.mul_nonneg x0 y0
  have h2 : x * y ≤ 1048576 * 1048576 := Int.mul_le_mul (by omega) (by omega) y0 (by omega)
  omega

theorem md {x p : Int} (hp : 1 ≤ p) : 0 ≤ x % p ∧ x % p < p := ⟨Int.emod_nonneg _ (by omega), Int.emod_lt_of_pos _ (by omega)⟩

/-- A product's rest, as the code makes it. -/
theorem mulm {x y p : Int} (hp : 1 ≤ p) (hp' : p ≤ 1048576) (x0 : 0 ≤ x) (x1 : x < p) (y0 : 0 ≤ y) (y1 : y < p) : Int.tmod (wrap64 (x * y)) p = x * y % p := by
  obtain ⟨h1, h2⟩ := mm hp hp' x0 x1 y0 y1
  rw [w64 (by omega) (by omega), Int.tmod_eq_emod_of_nonneg h1]

theorem summ {x y z w p : Int} (hp : 1 ≤ p) (hp' : p ≤ 1048576) (x0 : 0 ≤ x) (x1 : x < p) (y0 : 0 ≤ y) (y1 : y < p) (z0 : 0 ≤ z) (z1 : z < p) (w0 : 0 ≤ w) (w1 : w < p) :
    Int.tmod (wrap64 (wrap64 (x * y) + wrap64 (z * w))) p = (x * y + z * w) % p := by
  obtain ⟨h1, h2⟩ := mm hp hp' x0 x1 y0 y1
  obtain ⟨h3, h4⟩ := mm hp hp' z0 z1 w0 w1
  rw [w64 (n := x * y) (by omega) (by omega), w64 (n := z * w) (by omega) (by omega), w64 (by omega) (by omega), Int.tmod_eq_emod_of_nonneg (by omega)]

theorem implSum_eq {p d l bx y0' x y u v : Int} (h : EdNum p d) (K : Fld p) (hp : EdPt p d K x y) (hq : EdPt p d K u v) :
    ∃ r s, EdPt p d K r s ∧ ((toF r : K.F), (toF s : K.F)) = edAdd (toF d) (toF x, toF y) (toF u, toF v) ∧ Ev (fun k => impl_Ed_sum.f k p d l bx y0' x y u v) (r, s) := by
  have hlo := h.lo
  have hhi := h.hi
  have g := h.good K
  have p1 : 1 ≤ p := by omega
  have m1 := md (x := d * x) p1
  have m2 := md (x := d * x % p * u) p1
  have m3 := md (x := d * x % p * u % p * y) p1
  have m4 := md (x := d * x % p * u % p * y % p * v) p1
  have hm : (toF (d * x % p * u % p * y % p * v % p) : K.F) = toF d * toF x * toF u * toF y * toF v := by simp only [K.emod, toF_mul]
  obtain ⟨n1, n2⟩ := ed_den g hp.on hq.on
  generalize hmm : d * x % p * u % p * y % p * v % p = m at *
  obtain ⟨r1, b1, i1, e1⟩ := implInv_eq (1 + m) (m := p) (by omega) (by omega)
  obtain ⟨r2, b2, i2, e2⟩ := implInv_eq (1 - m) (m := p) (by omega) (by omega)
  obtain ⟨_, r10, r11, t1⟩ := inv_of K h.prm i1 (by rw [toF_add, toF_one, hm]; exact n1)
  obtain ⟨_, r20, r21, t2⟩ := inv_of K h.prm i2 (by rw [toF_sub, toF_one, hm]; exact n2)
  have q1 := md (x := x * v + y * u) p1
  have q2 := md (x := y * v + x * u) p1
  refine ⟨(x * v + y * u) % p * r1 % p, (y * v + x * u) % p * r2 % p, ?_, ?_, ?_⟩
  rotate_left
  · unfold edAdd
    simp only [K.emod, toF_mul, toF_add, t1, t2, toF_sub, toF_one, hm]
  · unfold impl_Ed_sum.f
    simp only [if_neg (show ¬ p = 0 by omega)]
    rw [mulm p1 hhi (by have := h.d0; omega) h.d1 hp.x0 hp.x1, mulm p1 hhi m1.1 m1.2 hq.x0 hq.x1, mulm p1 hhi m2.1 m2.2 hp.y0 hp.y1, mulm p1 hhi m3.1 m3.2 hq.y0 hq.y1, hmm,
      w64 (n := 1 + m) (by omega) (by omega), w64 (n := 1 - m) (by omega) (by omega),
      summ p1 hhi hp.x0 hp.x1 hq.y0 hq.y1 hp.y0 hp.y1 hq.x0 hq.x1, summ p1 hhi hp.y0 hp.y1 hq.y0 hq.y1 hp.x0 hp.x1 hq.x0 hq.x1]
    refine Ev.bind e1 (Ev.bind e2 ?_)
    simp only
    rw [mulm p1 hhi q1.1 q1.2 (by omega) r11, mulm p1 hhi q2.1 q2.2 (by omega) r21]
    exact Ev.now _
  · have z1 := md (x := (x * v + y * u) % p * r1) p1
    have z2 := md (x := (y * v + x * u) % p * r2) p1
    refine ⟨z1.1, z1.2, z2.1, z2.2, ?_⟩
    have := ed_on g (p := (toF x, toF y)) (q := (toF u, toF v)) hp.on hq.on
    unfold edAdd at this
    simp only [K.emod, toF_mul, toF_add, t1, t2, toF_sub, toF_one, hm]
    exact this

theorem EdPt.same {p d : Int} {K : Fld p} {x y u v : Int} (h : EdPt p d K x y) (k : EdPt p d K u v) (e : ((toF x : K.F), (toF y : K.F)) = (toF u, toF v)) : x = u ∧ y = v := by
  injection e with e1 e2
  exact ⟨K.inj h.x0 h.x1 k.x0 k.x1 e1, K.inj h.y0 h.y1 k.y0 k.y1 e2⟩

theorem EdPt.zero {p d : Int} (h : EdNum p d) (K : Fld p) : EdPt p d K 0 1 := by
  have hlo := h.lo
  refine ⟨by omega, by omega, by omega, by omega, ?_⟩
  rw [toF_zero, toF_one]
  exact (edGrp (h.good K)).on_zero

theorem specSum_eq {p d l bx y0' x y u v : Int} (h : EdNum p d) (K : Fld p) (hp : EdPt p d K x y) (hq : EdPt p d K u v) :
    ∃ r s, EdPt p d K r s ∧ ((toF r : K.F), (toF s : K.F)) = edAdd (toF d) (toF x, toF y) (toF u, toF v) ∧ Ev (fun k => spec_l4Add.f k p d l bx y0' x y u v) (r, s) := by
  have hlo := h.lo
  have hhi := h.hi
  have g := h.good K
  have p1 : 1 ≤ p := by omega
  have hd0 := h.d0
  have m1 := md (x := x * u) p1
  have m2 := md (x := y * v) p1
  have m3 := md (x := d * (x * u % p)) p1
  have m4 := md (x := d * (x * u % p) % p * (y * v % p)) p1
  have hm : (toF (d * (x * u % p) % p * (y * v % p) % p) : K.F) = toF d * toF x * toF u * toF y * toF v := by simp only [K.emod, toF_mul]; grind
  obtain ⟨n1, n2⟩ := ed_den g hp.on hq.on
  generalize hmm : d * (x * u % p) % p * (y * v % p) % p = m at *
  obtain ⟨r1, b1, i1, e1⟩ := specInv_eq (1 + m) (m := p) (by omega) (by omega)
  obtain ⟨r2, b2, i2, e2⟩ := specInv_eq (1 - m) (m := p) (by omega) (by omega)
  obtain ⟨_, r10, r11, t1⟩ := inv_of K h.prm i1 (by rw [toF_add, toF_one, hm]; exact n1)
  obtain ⟨_, r20, r21, t2⟩ := inv_of K h.prm i2 (by rw [toF_sub, toF_one, hm]; exact n2)
  have q1 := md (x := x * v + y * u) p1
  have q2 := md (x := y * v % p + x * u % p) p1
  refine ⟨(x * v + y * u) % p * r1 % p, (y * v % p + x * u % p) % p * r2 % p, ?_, ?_, ?_⟩
  rotate_left
  · unfold edAdd
    simp only [K.emod, toF_mul, toF_add, t1, t2, toF_sub, toF_one, hm]
  · unfold spec_l4Add.f
    simp only [if_neg (show ¬ p = 0 by omega)]
    rw [mulm p1 hhi hp.x0 hp.x1 hq.x0 hq.x1, mulm p1 hhi hp.y0 hp.y1 hq.y0 hq.y1, mulm p1 hhi (by omega) h.d1 m1.1 m1.2, mulm p1 hhi m3.1 m3.2 m2.1 m2.2, hmm,
      w64 (n := 1 + m) (by omega) (by omega), w64 (n := 1 - m) (by omega) (by omega),
      summ p1 hhi hp.x0 hp.x1 hq.y0 hq.y1 hp.y0 hp.y1 hq.x0 hq.x1, w64 (n := y * v % p + x * u % p) (by omega) (by omega), Int.tmod_eq_emod_of_nonneg (show 0 ≤ y * v % p + x * u % p by omega)]
    refine Ev.bind e1 (Ev.bind e2 ?_)
    rw [mulm p1 hhi q1.1 q1.2 (by omega) r11, mulm p1 hhi q2.1 q2.2 (by omega) r21]
    exact Ev.now _
  · have z1 := md (x := (x * v + y * u) % p * r1) p1
    have z2 := md (x := (y * v % p + x * u % p) % p * r2) p1
    refine ⟨z1.1, z1.2, z2.1, z2.2, ?_⟩
    have := ed_on g (p := (toF x, toF y)) (q := (toF u, toF v)) hp.on hq.on
    unfold edAdd at this
    simp only [K.emod, toF_mul, toF_add, t1, t2, toF_sub, toF_one, hm]
    exact this

theorem specTimes_loop {p d l bx by' : Int} (h : EdNum p d) (K : Fld p) : ∀ (m E : Nat) (x y u v : Int), E ≤ m → E < 9223372036854775808 → EdPt p d K x y → EdPt p d K u v →
    ∃ r s, EdPt p d K r s ∧ ((toF r : K.F), (toF s : K.F)) = (edGrp (h.good K)).add (toF u, toF v) ((edGrp (h.good K)).smul E (toF x, toF y)) ∧ Ev (fun k => spec_l4Mul.l0 k (E : Int) p d l bx by' x y u v) (r, s) := by
  intro m
  induction m with
  | zero =>
    intro E x y u v hE hE' hp hq
    obtain rfl : E = 0 := by omega
    refine ⟨u, v, hq, ?_, Ev.step (fun k => by rw [spec_l4Mul.l0]) ?_⟩
    · exact ((edGrp (h.good K)).add_zero (p := (toF u, toF v)) hq.on).symm
    · simp only [if_neg (show ¬ ((0 : Nat) : Int) > 0 by omega)]
      exact Ev.now _
  | succ m ih =>
    intro E x y u v hE hE' hp hq
    by_cases h0 : E = 0
    · subst h0; exact ih 0 x y u v (by omega) (by omega) hp hq
    · have q0 : (E : Int) > 0 := by omega
      have q2 : wrap64 (Int.tdiv (E : Int) 2) = ((E / 2 : Nat) : Int) := by
        rw [Int.tdiv_eq_ediv_of_nonneg (by omega), w64 (by omega) (by omega)]
        omega
      have q3 : Int.tmod (E : Int) 2 = ((E % 2 : Nat) : Int) := by rw [Int.tmod_eq_emod_of_nonneg (by omega)]; clear q2; omega
      obtain ⟨x2, y2, hp2, f2, e2⟩ := specSum_eq (l := l) (bx := bx) (y0' := by') h K hp hp
      rcases Nat.mod_two_eq_zero_or_one E with hb | hb
      · obtain ⟨r, s, hr, fr, er⟩ := ih (E / 2) x2 y2 u v (by clear q2 q3; omega) (by clear q2 q3; omega) hp2 hq
        refine ⟨r, s, hr, ?_, Ev.step (fun k => by rw [spec_l4Mul.l0]) ?_⟩
        · rw [fr, f2]
          have := (edGrp (h.good K)).step_down (o := (toF u, toF v)) (p := (toF x, toF y)) hp.on (E / 2)
          rw [show 2 * (E / 2) = E by clear q2 q3; omega] at this
          exact this
        · simp only [if_pos q0, q2, q3, hb, if_neg (show ¬ ((0 : Nat) : Int) = 1 by omega)]
          exact Ev.bind e2 er
      · obtain ⟨u2, v2, hq2, g2, d2⟩ := specSum_eq (l := l) (bx := bx) (y0' := by') h K hq hp
        obtain ⟨r, s, hr, fr, er⟩ := ih (E / 2) x2 y2 u2 v2 (by clear q2 q3; omega) (by clear q2 q3; omega) hp2 hq2
        refine ⟨r, s, hr, ?_, Ev.step (fun k => by rw [spec_l4Mul.l0]) ?_⟩
        · rw [fr, f2, g2]
          have := (edGrp (h.good K)).step_down1 (o := (toF u, toF v)) (p := (toF x, toF y)) hq.on hp.on (E / 2)
          rw [show 2 * (E / 2) + 1 = E by clear q2 q3; omega] at this
          exact this
        · simp only [if_pos q0, q2, q3, hb, if_pos (show ((1 : Nat) : Int) = 1 by omega)]
          exact Ev.bind d2 (Ev.bind e2 er)

theorem specTimes_eq {p d l bx by' n x y : Int} (h : EdNum p d) (K : Fld p) (hn : 0 ≤ n) (hn' : n ≤ 9223372036854775807) (hp : EdPt p d K x y) :
    ∃ r s, EdPt p d K r s ∧ ((toF r : K.F), (toF s : K.F)) = (edGrp (h.good K)).smul n.toNat (toF x, toF y) ∧ Ev (fun k => spec_l4Mul.f k p d l bx by' n x y) (r, s) := by
  obtain ⟨E, rfl⟩ : ∃ E : Nat, n = E := ⟨n.toNat, by omega⟩
  obtain ⟨r, s, hr, fr, er⟩ := specTimes_loop (l := l) (bx := bx) (by' := by') h K E E x y 0 1 (Nat.le_refl _) (by omega) hp (EdPt.zero h K)
  refine ⟨r, s, hr, ?_, er⟩
  rw [fr, toF_zero, toF_one, Int.toNat_natCast]
  exact (edGrp (h.good K)).zero_add ((edGrp (h.good K)).on_smul (p := (toF x, toF y)) hp.on E)

theorem implTimes_loop {p d l bx by' x y : Int} (h : EdNum p d) (K : Fld p) (hp : EdPt p d K x y) (E : Nat) (hE : E < 9223372036854775808) : ∀ (n : Nat) (u v : Int), n ≤ 64 → EdPt p d K u v →
    ((toF u : K.F), (toF v : K.F)) = (edGrp (h.good K)).smul (E / 2 ^ n) (toF x, toF y) →
    ∃ r s, EdPt p d K r s ∧ ((toF r : K.F), (toF s : K.F)) = (edGrp (h.good K)).smul E (toF x, toF y) ∧ Ev (fun k => impl_Ed_times.l0 k (E : Int) ((n : Int) - 1) p d l bx by' x y u v) (r, s) := by
  intro n
  induction n with
  | zero =>
    intro u v _ hq e
    refine ⟨u, v, hq, by rw [e, Nat.pow_zero, Nat.div_one], Ev.step (fun k => by rw [impl_Ed_times.l0]) ?_⟩
    simp only [if_neg (show ¬ ((0 : Nat) : Int) - 1 ≥ 0 by omega)]
    exact Ev.now _
  | succ n ih =>
    intro u v hn hq e
    have st := div_step E n
    obtain ⟨u2, v2, hq2, f2, e2⟩ := implSum_eq (l := l) (bx := bx) (y0' := by') h K hq hq
    have sh : shr .i64 (E : Int) (n : Int) = ((E / 2 ^ n : Nat) : Int) := by
      unfold shr
      rw [Int.toNat_natCast, Nat.min_eq_left (by simp [IntKind.bits]; omega), ← two_pow_int]
      exact (Int.natCast_ediv _ _).symm
    have le : E / 2 ^ n ≤ E := Nat.div_le_self _ _
    have an := and1 (x := ((E / 2 ^ n : Nat) : Int)) (by omega) (by clear st; omega)
    have q0 : ((n + 1 : Nat) : Int) - 1 = (n : Int) := by clear sh an; omega
    have q1 : (n : Int) ≥ 0 := by clear sh an; omega
    have q3 : 0 ≤ (n : Int) := by clear sh an; omega
    have q4 : wrap64 ((n : Int) - 1) = (n : Int) - 1 := by clear sh an; exact w64 (by omega) (by omega)
    rcases Nat.mod_two_eq_zero_or_one (E / 2 ^ n) with hb | hb
    · obtain ⟨r, s, hr, fr, er⟩ := ih u2 v2 (by clear sh an q4; omega) hq2 (by
        rw [f2, e, st, hb, Nat.add_zero]
        exact (edGrp (h.good K)).step_up (p := (toF x, toF y)) hp.on _)
      refine ⟨r, s, hr, fr, Ev.step (fun k => by rw [impl_Ed_times.l0]) ?_⟩
      simp only [q0, if_pos q1, if_pos q3, sh, an, q4, if_neg (show ¬ ((E / 2 ^ n : Nat) : Int) % 2 = 1 by clear sh an q4; omega)]
      exact Ev.bind e2 er
    · obtain ⟨u3, v3, hq3, f3, e3⟩ := implSum_eq (l := l) (bx := bx) (y0' := by') h K hq2 hp
      obtain ⟨r, s, hr, fr, er⟩ := ih u3 v3 (by clear sh an q4; omega) hq3 (by
        rw [f3, f2, e, st, hb]
        exact (edGrp (h.good K)).step_up1 (p := (toF x, toF y)) hp.on _)
      refine ⟨r, s, hr, fr, Ev.step (fun k => by rw [impl_Ed_times.l0]) ?_⟩
      simp only [q0, if_pos q1, if_pos q3, sh, an, q4, if_pos (show ((E / 2 ^ n : Nat) : Int) % 2 = 1 by clear sh an q4; omega)]
      exact Ev.bind e2 (Ev.bind e3 er)

theorem implTimes_eq {p d l bx by' n x y : Int} (h : EdNum p d) (K : Fld p) (hn : 0 ≤ n) (hn' : n ≤ 9223372036854775807) (hp : EdPt p d K x y) :
    ∃ r s, EdPt p d K r s ∧ ((toF r : K.F), (toF s : K.F)) = (edGrp (h.good K)).smul n.toNat (toF x, toF y) ∧ Ev (fun k => impl_Ed_times.f k p d l bx by' n x y) (r, s) := by
  obtain ⟨E, rfl⟩ : ∃ E : Nat, n = E := ⟨n.toNat, by omega⟩
  have hl := bl_le (n := E) (k := 64) (by omega)
  obtain ⟨r, s, hr, fr, er⟩ := implTimes_loop (l := l) (bx := bx) (by' := by') h K hp E (by omega) (bl E) 0 1 hl (EdPt.zero h K) (by
    rw [Nat.div_eq_of_lt (bl_lt E), toF_zero, toF_one]
    rfl)
  refine ⟨r, s, hr, by rw [fr, Int.toNat_natCast], ?_⟩
  unfold impl_Ed_times.f
  rw [u64w hn (by omega)]
  refine Ev.bind (len_eq hn (by omega)) ?_
  rw [Int.toNat_natCast, w64 (by omega) (by omega)]
  exact er

/-- The test on a pair, with no field in sight. -/
def onEd (p d x y : Int) : Bool := decide (0 ≤ x ∧ x ≤ p - 1) && decide (0 ≤ y ∧ y ≤ p - 1) && decide ((y * y % p - x * x % p) % p = (1 + d * (x * x % p) % p * (y * y % p)) % p)

theorem onEd_iff {p d x y : Int} (h : EdNum p d) (K : Fld p) : onEd p d x y = true ↔ EdPt p d K x y := by
  have hlo := h.lo
  unfold onEd
  rw [Bool.and_eq_true, Bool.and_eq_true, decide_eq_true_iff, decide_eq_true_iff, decide_eq_true_iff]
  have key : (y * y % p - x * x % p) % p = (1 + d * (x * x % p) % p * (y * y % p)) % p ↔ EdOn (toF d : K.F) (toF x) (toF y) := by
    unfold EdOn
    have e1 : (toF ((y * y % p - x * x % p) % p) : K.F) = toF y * toF y - toF x * toF x := by simp only [K.emod, toF_mul, toF_sub]
    have e2 : (toF ((1 + d * (x * x % p) % p * (y * y % p)) % p) : K.F) = 1 + toF d * toF x * toF x * toF y * toF y := by simp only [K.emod, toF_mul, toF_add, toF_one]; grind
    rw [← e1, ← e2]
    constructor
    · intro k; rw [k]
    · intro k
      have b1 := md (x := y * y % p - x * x % p) (p := p) (by omega)
      have b2 := md (x := 1 + d * (x * x % p) % p * (y * y % p)) (p := p) (by omega)
      exact K.inj b1.1 b1.2 b2.1 b2.2 k
  rw [key]
  constructor
  · rintro ⟨⟨⟨a, b⟩, c, e⟩, f⟩; exact ⟨a, by omega, c, by omega, f⟩
  · rintro ⟨a, b, c, e, f⟩; exact ⟨⟨⟨a, by omega⟩, c, by omega⟩, f⟩

theorem on_arith {p d x y : Int} (hlo : 13 ≤ p) (hhi : p ≤ 1048576) (d0 : 0 ≤ d) (d1 : d < p) (x0 : 0 ≤ x) (x1 : x ≤ p - 1) (y0 : 0 ≤ y) (y1 : y ≤ p - 1) :
    Int.tmod (wrap64 (x * x)) p = x * x % p ∧ Int.tmod (wrap64 (y * y)) p = y * y % p ∧ wrap64 (y * y % p - x * x % p) = y * y % p - x * x % p ∧ Int.tmod (wrap64 (d * (x * x % p))) p = d * (x * x % p) % p ∧
    Int.tmod (wrap64 (1 + wrap64 (d * (x * x % p) % p * (y * y % p)))) p = (1 + d * (x * x % p) % p * (y * y % p)) % p := by
  have p1 : 1 ≤ p := by omega
  have b1 := md (x := x * x) p1
  have b2 := md (x := y * y) p1
  have b3 := md (x := d * (x * x % p)) p1
  obtain ⟨h1, h2⟩ := mm p1 hhi b3.1 b3.2 b2.1 b2.2
  refine ⟨mulm p1 hhi x0 (by omega) x0 (by omega), mulm p1 hhi y0 (by omega) y0 (by omega), w64 (by omega) (by omega), mulm p1 hhi d0 d1 b1.1 b1.2, ?_⟩
  rw [w64 (n := d * (x * x % p) % p * (y * y % p)) (by omega) (by omega), w64 (by omega) (by omega), Int.tmod_eq_emod_of_nonneg (by omega)]

theorem implOn_eq {p d l bx by' x y : Int} (hlo : 13 ≤ p) (hhi : p ≤ 1048576) (d0 : 0 ≤ d) (d1 : d < p) : impl_Ed_isPair.f p d l bx by' x y = some (onEd p d x y) := by
  unfold impl_Ed_isPair.f onEd
  rw [w64 (n := p - 1) (by omega) (by omega)]
  simp only [within_eq, Option.bind_some]
  by_cases hx : 0 ≤ x ∧ x ≤ p - 1
  · simp only [hx.1, hx.2, and_self, decide_true, if_true, Bool.true_and]
    by_cases hy : 0 ≤ y ∧ y ≤ p - 1
    · simp only [hy.1, hy.2, and_self, decide_true, if_true, Bool.true_and, if_neg (show ¬ p = 0 by omega)]
      obtain ⟨a1, a2, a3, a4, a5⟩ := on_arith hlo hhi d0 d1 hx.1 hx.2 hy.1 hy.2
      rw [a1, a2, a3, a4, a5, rest_eq (by omega) (by omega)]
      simp only [Option.bind_some]
      rfl
    · simp only [hy, decide_false, Bool.false_and]
      rfl
  · simp only [hx, decide_false, Bool.false_and]
    rfl

theorem specOn_eq {p d l bx by' x y : Int} (hlo : 13 ≤ p) (hhi : p ≤ 1048576) (d0 : 0 ≤ d) (d1 : d < p) : spec_l4On.f p d l bx by' x y = some (onEd p d x y) := by
  unfold spec_l4On.f onEd
  rw [w64 (n := p - 1) (by omega) (by omega)]
  simp only [in_eq, Option.bind_some]
  by_cases hx : 0 ≤ x ∧ x ≤ p - 1
  · simp only [hx.1, hx.2, and_self, decide_true, if_true, Bool.true_and]
    by_cases hy : 0 ≤ y ∧ y ≤ p - 1
    · simp only [hy.1, hy.2, and_self, decide_true, if_true, Bool.true_and, if_neg (show ¬ p = 0 by omega)]
      obtain ⟨a1, a2, a3, a4, a5⟩ := on_arith hlo hhi d0 d1 hx.1 hx.2 hy.1 hy.2
      rw [a1, a2, a3, a4, a5, left_eq (by omega) (by omega)]
      simp only [Option.bind_some]
      rfl
    · simp only [hy, decide_false, Bool.false_and]
      rfl
  · simp only [hx, decide_false, Bool.false_and]
    rfl

/-- A right twisted curve: what is asked ahead of the multiple. -/
structure EdPre (p d l : Int) : Prop where
  num : EdNum p d
  l0 : 5 ≤ l
  l1 : l ≤ 2097152

theorem pow_two_ways {p d : Int} (hp : Prm p) (hlo : 13 ≤ p) (d0 : 0 < d) (d1 : d < p) : d ^ ((p - 1) / 2).toNat % p = 1 ∨ d ^ ((p - 1) / 2).toNat % p = p - 1 := by
  obtain ⟨K⟩ := fldOf_exists hp
  have ho := prm_odd hp (by omega)
  have hz : (toF d : K.F) ≠ 0 := by
    intro e
    rw [K.ker] at e
    have := Int.le_of_dvd d0 e
    omega
  have hf := K.fermat _ hz
  have b := md (x := d ^ ((p - 1) / 2).toNat) (p := p) (by omega)
  have e1 : (toF (d ^ ((p - 1) / 2).toNat % p) : K.F) * toF (d ^ ((p - 1) / 2).toNat % p) = 1 := by
    rw [K.emod, toF_pow, ← pow_add', show ((p - 1) / 2).toNat + ((p - 1) / 2).toNat = (p - 1).toNat by omega, hf]
  generalize d ^ ((p - 1) / 2).toNat % p = q at *
  have e2 : ((toF q : K.F) - 1) * (toF q + 1) = 0 := by grind
  have e3 : (toF q : K.F) = 1 ∨ (toF q : K.F) = -1 := by
    by_cases k : (toF q : K.F) - 1 = 0
    · left; grind
    · right; grind
  rcases e3 with k | k
  · left
    rw [← toF_one] at k
    exact K.inj b.1 b.2 (by omega) (by omega) k
  · right
    rw [← toF_pm K (by omega)] at k
    exact K.inj b.1 b.2 (by omega) (by omega) k

theorem both_ok (p d l bx by' : Int) (hl : -9223372036854775808 ≤ l ∧ l ≤ 9223372036854775807) : ∃ r, Ev (fun k => spec_EdOk.f k p d l bx by') r ∧ Ev (fun k => impl_EdOk.f k p d l bx by') r ∧
    (r = true → EdPre p d l ∧ ∀ K : Fld p, EdPt p d K bx by') := by
  have sj : Ev (fun k => spec_EdOk.j0 k true p d l bx by') false := Ev.step (fun k => by rw [spec_EdOk.j0]) (by simp only [if_true]; exact Ev.now _)
  have ij : Ev (fun k => impl_EdOk.j0 k true p d l bx by') false := Ev.step (fun k => by rw [impl_EdOk.j0]) (by simp only [if_true]; exact Ev.now _)
  have ij1 : Ev (fun k => impl_EdOk.j1 k true p d l bx by') false := Ev.step (fun k => by rw [impl_EdOk.j1]) (by simp only [if_true]; exact Ev.now _)
  unfold spec_EdOk.f impl_EdOk.f
  simp only [in_eq, within_eq, Option.bind_some]
  by_cases hp : 13 ≤ p ∧ p ≤ 1048576
  · have hlo := hp.1
    have hhi := hp.2
    have w1 : wrap64 (p - 1) = p - 1 := w64 (by omega) (by omega)
    have t8 : Int.tmod p 8 = p % 8 := Int.tmod_eq_emod_of_nonneg (by clear w1; omega)
    simp only [hp.1, hp.2, and_self, decide_true, if_true, w1, t8]
    clear t8
    by_cases h8 : p % 8 = 5
    · simp only [if_pos h8]
      obtain ⟨bp, bp1, bp2, sp, ip⟩ := primes_eq p
      obtain ⟨bq, bq1, bq2, sq, iq⟩ := primes_eq l
      by_cases hd : 2 ≤ d ∧ d ≤ p - 1
      · by_cases hl5 : 5 ≤ l ∧ l ≤ 2097152
        · simp only [hd.1, hd.2, hl5.1, hl5.2, and_self, decide_true, if_true]
          cases bp with
          | false =>
            refine ⟨false, Ev.bind sp ?_, Ev.bind ip ?_, fun k => by cases k⟩
            · simpa using sj
            · simpa using ij
          | true =>
            have hP := bp1 rfl
            have w2 : wrap64 (Int.tdiv (p - 1) 2) = (p - 1) / 2 := by rw [Int.tdiv_eq_ediv_of_nonneg (by clear w1; omega), w64 (by clear w1; omega) (by clear w1; omega)]
            have s1 := specPow_eq (a := d) (e := (p - 1) / 2) (m := p) (by clear w1 w2; omega) (by clear w1 w2; omega) (by clear w1 w2; omega) (by clear w1 w2; omega) (by clear w1 w2; omega)
            have i1 := implPow_eq (a := d) (e := (p - 1) / 2) (m := p) (by clear w1 w2; omega) (by clear w1 w2; omega) (by clear w1 w2; omega) (by clear w1 w2; omega) (by clear w1 w2; omega)
            have pw := pow_two_ways hP hlo (show 0 < d by clear w1 w2; omega) (show d < p by clear w1 w2; omega)
            cases bq with
            | false =>
              refine ⟨false, Ev.bind sp ?_, Ev.bind ip ?_, fun k => by cases k⟩
              · simp only [if_true, w2]
                refine Ev.bind s1 ?_
                by_cases hw : d ^ ((p - 1) / 2).toNat % p = p - 1
                · simp only [if_pos hw]
                  exact Ev.bind sq (by simpa using sj)
                · simp only [if_neg hw]
                  exact sj
              · simp only [if_true]
                exact Ev.bind iq (by simpa using ij)
            | true =>
              by_cases hw : d ^ ((p - 1) / 2).toNat % p = p - 1
              · have hN : EdNum p d := ⟨hP, hlo, hhi, h8, by clear w1 w2; omega, by clear w1 w2; omega, hw⟩
                have hne : ¬ p - 1 = 1 := by clear w1 w2; omega
                obtain ⟨K⟩ := fldOf_exists hP
                have so := specOn_eq (l := l) (bx := bx) (by' := by') (x := bx) (y := by') hlo hhi (show 0 ≤ d by clear w1 w2; omega) (show d < p by clear w1 w2; omega)
                have io := implOn_eq (l := l) (bx := bx) (by' := by') (x := bx) (y := by') hlo hhi (show 0 ≤ d by clear w1 w2; omega) (show d < p by clear w1 w2; omega)
                -- behind the numbers' own tests
                obtain ⟨r, e1, e2, hr⟩ : ∃ r, Ev (fun k => spec_EdOk.j0 k false p d l bx by') r ∧ Ev (fun k => impl_EdOk.j0 k false p d l bx by') r ∧ (r = true → onEd p d bx by' = true) := by
                  cases ho : onEd p d bx by' with
                  | false =>
                    refine ⟨false, Ev.step (fun k => by rw [spec_EdOk.j0]) ?_, Ev.step (fun k => by rw [impl_EdOk.j0]) ?_, fun k => by cases k⟩
                    · simp only [Bool.false_eq_true, if_false, so, ho, Option.bind_some]
                      exact Ev.now _
                    · simp only [Bool.false_eq_true, if_false, w1, w2]
                      refine Ev.bind i1 ?_
                      simp only [hw, if_neg hne, impl_Ed_base.f, Option.bind_some, io, ho, Bool.false_eq_true, if_false]
                      exact ij1
                  | true =>
                    by_cases hz : bx = 0 ∧ by' = 1
                    · obtain ⟨rfl, rfl⟩ := hz
                      refine ⟨false, Ev.step (fun k => by rw [spec_EdOk.j0]) ?_, Ev.step (fun k => by rw [impl_EdOk.j0]) ?_, fun k => by cases k⟩
                      · simp only [Bool.false_eq_true, if_false, so, ho, Option.bind_some, if_true]
                        simpa using Ev.now false
                      · simp only [Bool.false_eq_true, if_false, w1, w2]
                        refine Ev.bind i1 ?_
                        simp only [hw, if_neg hne, impl_Ed_base.f, Option.bind_some, io, ho, if_true]
                        simpa using ij1
                    · have hb := (onEd_iff hN K).1 ho
                      obtain ⟨r, s, hr, fr, er⟩ := specTimes_eq (l := l) (bx := bx) (by' := by') (n := l) hN K (by clear w1 w2; omega) hl.2 hb
                      obtain ⟨r', s', hr', fr', er'⟩ := implTimes_eq (l := l) (bx := bx) (by' := by') (n := l) hN K (by clear w1 w2; omega) hl.2 hb
                      obtain ⟨rfl, rfl⟩ := hr.same hr' (by rw [fr, fr'])
                      have hz1 : (!(bx == 0) || !(by' == 1)) = true := by
                        by_cases h1 : bx = 0
                        · have : ¬ by' = 1 := fun k => hz ⟨h1, k⟩
                          simp [this]
                        · simp [h1]
                      have hz2 : (bx == 0 && by' == 1) = false := by
                        by_cases h1 : bx = 0
                        · have : ¬ by' = 1 := fun k => hz ⟨h1, k⟩
                          simp [this]
                        · simp [h1]
                      refine ⟨r == 0 && s == 1, Ev.step (fun k => by rw [spec_EdOk.j0]) ?_, Ev.step (fun k => by rw [impl_EdOk.j0]) ?_, fun _ => rfl⟩
                      · simp only [Bool.false_eq_true, if_false, so, ho, Option.bind_some, if_true, hz1]
                        exact Ev.bind er (Ev.now _)
                      · simp only [Bool.false_eq_true, if_false, w1, w2]
                        refine Ev.bind i1 ?_
                        simp only [hw, if_neg hne, impl_Ed_base.f, Option.bind_some, io, ho, if_true, hz2]
                        refine Ev.step (fun k => by rw [impl_EdOk.j1]) ?_
                        simp only [Bool.false_eq_true, if_false, impl_Ed_base.f, Option.bind_some]
                        exact Ev.bind er' (Ev.now _)
                refine ⟨r, Ev.bind sp ?_, Ev.bind ip ?_, fun k => ⟨⟨hN, hl5.1, hl5.2⟩, fun K => (onEd_iff hN K).1 (hr k)⟩⟩
                · simp only [if_true, w2]
                  refine Ev.bind s1 ?_
                  simp only [if_pos hw]
                  exact Ev.bind sq (by simpa using e1)
                · simp only [if_true]
                  exact Ev.bind iq (by simpa using e2)
              · have hw1 : d ^ ((p - 1) / 2).toNat % p = 1 := by
                  rcases pw with k | k
                  · exact k
                  · exact absurd k hw
                refine ⟨false, Ev.bind sp ?_, Ev.bind ip ?_, fun k => by cases k⟩
                · simp only [if_true, w2]
                  refine Ev.bind s1 ?_
                  simp only [if_neg hw]
                  exact sj
                · simp only [if_true]
                  refine Ev.bind iq ?_
                  simp only [Bool.not_true]
                  refine Ev.step (fun k => by rw [impl_EdOk.j0]) ?_
                  simp only [Bool.false_eq_true, if_false, w1, w2]
                  refine Ev.bind i1 ?_
                  simp only [hw1, if_true]
                  exact ij1
        · refine ⟨false, Ev.bind sp ?_, ?_, fun k => by cases k⟩
          · cases bp with
            | false => simpa using sj
            | true =>
              have w2 : wrap64 (Int.tdiv (p - 1) 2) = (p - 1) / 2 := by rw [Int.tdiv_eq_ediv_of_nonneg (by clear w1; omega), w64 (by clear w1; omega) (by clear w1; omega)]
              have s1 := specPow_eq (a := d) (e := (p - 1) / 2) (m := p) (by clear w1 w2; omega) (by clear w1 w2; omega) (by clear w1 w2; omega) (by clear w1 w2; omega) (by clear w1 w2; omega)
              simp only [if_true, hd.1, hd.2, and_self, decide_true, w2]
              refine Ev.bind s1 ?_
              by_cases hw : d ^ ((p - 1) / 2).toNat % p = p - 1
              · simp only [if_pos hw, hl5, decide_false]
                simpa using sj
              · simp only [if_neg hw]
                exact sj
          · simp only [hd.1, hd.2, and_self, decide_true, if_true, hl5, decide_false]
            simpa using ij
      · refine ⟨false, Ev.bind sp ?_, ?_, fun k => by cases k⟩
        · cases bp with
          | false => simpa using sj
          | true => simp only [if_true, hd, decide_false]; simpa using sj
        · simp only [hd, decide_false]
          simpa using ij
    · simp only [if_neg h8]
      exact ⟨false, sj, ij, fun k => by cases k⟩
  · simp only [hp, decide_false]
    exact ⟨false, by simpa using sj, by simpa using ij, fun k => by cases k⟩

theorem both_pair (p d l bx by' x y : Int) (hl : -9223372036854775808 ≤ l ∧ l ≤ 9223372036854775807) : ∃ r, Ev (fun k => spec_PairOk.f k p d l bx by' x y) r ∧ Ev (fun k => impl_PairOk.f k p d l bx by' x y) r ∧
    (r = true → EdPre p d l ∧ (∀ K : Fld p, EdPt p d K bx by') ∧ ∀ K : Fld p, EdPt p d K x y) := by
  obtain ⟨r, e1, e2, hr⟩ := both_ok p d l bx by' hl
  unfold spec_PairOk.f impl_PairOk.f
  cases r with
  | false =>
    refine ⟨false, Ev.bind e1 ?_, Ev.bind e2 ?_, fun k => by cases k⟩
    · simpa using Ev.now false
    · simpa using Ev.now false
  | true =>
    obtain ⟨hE, hb⟩ := hr rfl
    have hN := hE.num
    have d0 := hN.d0
    refine ⟨onEd p d x y, Ev.bind e1 ?_, Ev.bind e2 ?_, fun k => ⟨hE, hb, fun K => (onEd_iff hN K).1 k⟩⟩
    · simp only [if_true, specOn_eq hN.lo hN.hi (show 0 ≤ d by omega) hN.d1, Option.bind_some]
      exact Ev.now _
    · simp only [if_true, implOn_eq hN.lo hN.hi (show 0 ≤ d by omega) hN.d1, Option.bind_some]
      exact Ev.now _

theorem irt_step {a p i : Int} (h3 : 3 ≤ p) (hp : p ≤ 1048576) (h0 : 0 ≤ i) (h1 : i < p) : 0 ≤ i * i ∧ wrap64 (i * i) = i * i ∧ wrap64 (i + 1) = i + 1 := by
  have e0 : 0 ≤ i * i := Int.mul_nonneg h0 h0
  have e1 : i * i ≤ 1048576 * 1048576 := Int.mul_le_mul (by omega) (by omega) h0 (by omega)
  exact ⟨e0, w64 (by omega) (by omega), w64 (by omega) (by omega)⟩

theorem implRoot_find {a p r : Int} (h3 : 3 ≤ p) (hp : p ≤ 1048576) (r1 : r < p) (hr : r * r % p = a) (hl : ∀ j, 0 ≤ j → j < r → ¬ j * j % p = a) : ∀ (d : Nat) (i : Int), 0 ≤ i → r - i = d →
    Ev (fun k => impl_rootInt.l0 k a p p i) (r, true) := by
  intro d
  induction d with
  | zero =>
    intro i h0 hd
    obtain rfl : i = r := by omega
    obtain ⟨s0, s1, s2⟩ := irt_step (a := a) h3 hp h0 r1
    refine Ev.step (fun k => by rw [impl_rootInt.l0]) ?_
    simp only [if_pos r1, if_neg (show ¬ p = 0 by clear s1 s2; omega), s1, Int.tmod_eq_emod_of_nonneg s0, hr, if_true]
    exact Ev.now _
  | succ d ih =>
    intro i h0 hd
    obtain ⟨s0, s1, s2⟩ := irt_step (a := a) h3 hp h0 (show i < p by omega)
    have hi := hl i h0 (by clear s1 s2; omega)
    have := ih (i + 1) (by clear s1 s2; omega) (by clear s1 s2; omega)
    refine Ev.step (fun k => by rw [impl_rootInt.l0]) ?_
    simp only [if_pos (show i < p by clear s1 s2; omega), if_neg (show ¬ p = 0 by clear s1 s2; omega), s1, Int.tmod_eq_emod_of_nonneg s0, if_neg hi, s2]
    exact this

theorem implRoot_none {a p : Int} (h3 : 3 ≤ p) (hp : p ≤ 1048576) (hl : ∀ j, 0 ≤ j → j < p → ¬ j * j % p = a) : ∀ (d : Nat) (i : Int), 0 ≤ i → p - i = d →
    Ev (fun k => impl_rootInt.l0 k a p p i) (0, false) := by
  intro d
  induction d with
  | zero =>
    intro i h0 hd
    refine Ev.step (fun k => by rw [impl_rootInt.l0]) ?_
    simp only [if_neg (show ¬ i < p by omega)]
    exact Ev.now _
  | succ d ih =>
    intro i h0 hd
    obtain ⟨s0, s1, s2⟩ := irt_step (a := a) h3 hp h0 (show i < p by omega)
    have hi := hl i h0 (by clear s1 s2; omega)
    have := ih (i + 1) (by clear s1 s2; omega) (by clear s1 s2; omega)
    refine Ev.step (fun k => by rw [impl_rootInt.l0]) ?_
    simp only [if_pos (show i < p by clear s1 s2; omega), if_neg (show ¬ p = 0 by clear s1 s2; omega), s1, Int.tmod_eq_emod_of_nonneg s0, if_neg hi, s2]
    exact this

/-- The least root, or none. -/
def RootIs (a p r : Int) (b : Bool) : Prop := (b = true ∧ 0 ≤ r ∧ r < p ∧ r * r % p = a ∧ ∀ j, 0 ≤ j → j < r → ¬ j * j % p = a) ∨ (b = false ∧ r = 0 ∧ ∀ j, 0 ≤ j → j < p → ¬ j * j % p = a)

theorem rootIs_exists (a : Int) {p : Int} (hp : 3 ≤ p) : ∃ r b, RootIs a p r b := by
  by_cases h : ∃ x, 0 ≤ x ∧ x < p ∧ x * x % p = a
  · obtain ⟨x, x0, x1, hx⟩ := h
    obtain ⟨r, r0, r1, r2, r3⟩ := least (fun x => x * x % p = a) x.toNat x x0 (Nat.le_refl _) hx
    exact ⟨r, true, .inl ⟨rfl, r0, by omega, r2, r3⟩⟩
  · exact ⟨0, false, .inr ⟨rfl, rfl, fun j h1 h2 h3 => h ⟨j, h1, h2, h3⟩⟩⟩

theorem implRoot_eq {a p r : Int} {b : Bool} (hp : Prm p) (h3 : 3 ≤ p) (hp' : p ≤ 1048576) (h0 : 0 ≤ a) (h1 : a < p) (hr : RootIs a p r b) : Ev (fun k => impl_rootInt.f k a p) (r, b) := by
  unfold impl_rootInt.f
  have ho := prm_odd hp h3
  have j0 : Ev (fun k => impl_rootInt.j0 k a p false) (r, b) := by
    refine Ev.step (fun k => by rw [impl_rootInt.j0]) ?_
    simp only [Bool.false_eq_true, if_false]
    rcases hr with ⟨rfl, r0, r1, r2, r3⟩ | ⟨rfl, rfl, r3⟩
    · exact implRoot_find h3 hp' r1 r2 r3 r.toNat 0 (by omega) (by omega)
    · exact implRoot_none h3 hp' r3 p.toNat 0 (by omega) (by omega)
  by_cases ha : a = 0
  · simp only [if_pos ha]
    exact j0
  · simp only [if_neg ha]
    have e1 : wrap64 (Int.tdiv (wrap64 (p - 1)) 2) = (p - 1) / 2 := by
      rw [w64 (n := p - 1) (by omega) (by omega), Int.tdiv_eq_ediv_of_nonneg (by omega), w64 (by omega) (by omega)]
    rw [e1]
    clear e1
    refine Ev.bind (implPow_eq h0 (by omega) (by omega) (by omega) (by omega)) ?_
    rcases hr with ⟨rfl, r0, r1, r2, r3⟩ | ⟨rfl, rfl, r3⟩
    · have := square_pow hp h3 ho r2 ha ((p - 1) / 2).toNat (by omega)
      rw [this]
      exact j0
    · by_cases hq : a ^ ((p - 1) / 2).toNat % p = 1
      · rw [hq]; exact j0
      · have : (a ^ ((p - 1) / 2).toNat % p != 1) = true := by simpa using hq
        rw [this]
        refine Ev.step (fun k => by rw [impl_rootInt.j0]) ?_
        simp only [if_true]
        exact Ev.now _

theorem or_comm' (k : IntKind) (x y : Int) : Go.bits .or k x y = Go.bits .or k y x := by
  unfold Go.bits
  simp only [BitVec.or_comm]

/-- What has no bit in common is joined by a sum. -/
theorem orI {x y : Int} (i : Nat) (hi : i ≤ 60) (x0 : 0 ≤ x) (hx : x % 2 ^ i = 0) (x1 : x < 1152921504606846976) (y0 : 0 ≤ y) (hy : y < 2 ^ i) : Go.bits .or .i64 x y = x + y := by
  have h2 : (2 : Int) ^ i ≤ 2 ^ 60 := by
    have := Nat.pow_le_pow_right (show 0 < 2 by omega) hi
    rw [← two_pow_int, ← two_pow_int]
    exact_mod_cast this
  have e60 : (2 : Int) ^ 60 = 1152921504606846976 := by decide
  exact bits_join .i64 63 (by decide) (fun n a b => by rw [IntKind.wrap_i64]; omega) i x y x0 hx (by omega) y0 hy (by omega)

theorem implEdBytes_eq {x y : Int} (x0 : 0 ≤ x) (y0 : 0 ≤ y) (y1 : y < 1048576) : impl_edBytes.f x y = some [y % 256, y / 256 % 256, (y / 65536 + 128 * (x % 2)) % 256] := by
  unfold impl_edBytes.f
  rw [Int.tmod_eq_emod_of_nonneg x0, w64 (by omega) (by omega), or_comm', orI 7 (by omega) (by omega) (by omega) (by omega) (by omega) (by omega), show x % 2 * 128 + y / 65536 = y / 65536 + 128 * (x % 2) by omega]


theorem strOf_inj {a b : List Int} (ha : ∀ x ∈ a, 0 ≤ x ∧ x ≤ 255) (hb : ∀ x ∈ b, 0 ≤ x ∧ x ≤ 255) : (strOfNums a).toList = (strOfNums b).toList ↔ a = b := by
  constructor
  · intro h
    have h2 : (strOfNums a).data.toList = (strOfNums b).data.toList := by
      rw [Go.ByteArray.toList_eq, Go.ByteArray.toList_eq] at h
      exact h
    rw [strOfNums_data, strOfNums_data] at h2
    apply List.ext_getElem (by have := congrArg List.length h2; simpa using this)
    intro i h3 h4
    have h5 := List.getElem_of_eq h2 (i := i) (by simpa using h3)
    simp only [List.getElem_map] at h5
    have b1 := ha _ (List.getElem_mem h3)
    have b2 := hb _ (List.getElem_mem h4)
    have h6 := congrArg UInt8.toNat h5
    simp only [UInt8.toNat_ofNat'] at h6
    omega
  · intro h; rw [h]

theorem bytesEqual_eq {a b : List Int} (ha : ∀ x ∈ a, 0 ≤ x ∧ x ≤ 255) (hb : ∀ x ∈ b, 0 ≤ x ∧ x ≤ 255) : bytes_Equal.f a b = some (decide (a = b)) := by
  unfold bytes_Equal.f
  congr 1
  rw [Bool.eq_iff_iff]
  simp only [beq_iff_eq, decide_eq_true_iff]
  exact strOf_inj ha hb

theorem implY {a b c : Int} (a0 : 0 ≤ a) (a1 : a ≤ 255) (b0 : 0 ≤ b) (b1 : b ≤ 255) (c0 : 0 ≤ c) (c1 : c ≤ 255) :
    Go.bits .or .i64 (Go.bits .or .i64 (wrap64 a) (wrap64 (wrap64 b * 256))) (wrap64 (wrap64 (Go.bits .and .u8 c 127) * 65536)) = a + b * 256 + c % 128 * 65536 := by
  have h := bits_mask .u8 8 (by decide) (fun n h0 h1 => by rw [IntKind.wrap_u8]; omega) 7 (by decide) c c0 (by omega)
  rw [show ((2 : Int) ^ 7 - 1) = 127 by decide, show ((2 : Int) ^ 7) = 128 by decide] at h
  rw [h, w64 (n := a) (by omega) (by omega), w64 (n := b) (by omega) (by omega), w64 (n := b * 256) (by omega) (by omega), w64 (n := c % 128) (by omega) (by omega), w64 (n := c % 128 * 65536) (by omega) (by omega),
    or_comm' _ a, orI (x := b * 256) (y := a) 8 (by omega) (by omega) (by omega) (by omega) (by omega) (by omega),
    or_comm', orI (x := c % 128 * 65536) (y := b * 256 + a) 16 (by omega) (by omega) (by omega) (by omega) (by omega) (by omega)]
  omega

theorem implJ {p d l bx by' Y x : Int} {bs : List Int} (hb : ∀ x ∈ bs, 0 ≤ x ∧ x ≤ 255) (hlo : 13 ≤ p) (hhi : p ≤ 1048576) (d0 : 0 ≤ d) (d1 : d < p) (x0 : 0 ≤ x) (y0 : 0 ≤ Y) (y1 : Y < p) :
    Ev (fun k => impl_Ed_edRead.j0 k bs Y x p d l bx by') (if onEd p d x Y = true then (if [Y % 256, Y / 256 % 256, (Y / 65536 + 128 * (x % 2)) % 256] = bs then (x, Y, true) else (0, 0, false)) else (0, 0, false)) := by
  refine Ev.step (fun k => by rw [impl_Ed_edRead.j0]) ?_
  simp only [implOn_eq hlo hhi d0 d1, Option.bind_some]
  by_cases h1 : onEd p d x Y = true
  · simp only [if_pos h1, implEdBytes_eq x0 y0 (show Y < 1048576 by omega), Option.bind_some]
    rw [bytesEqual_eq (by intro z hz; simp at hz; rcases hz with rfl | rfl | rfl <;> omega) hb]
    simp only [Option.bind_some]
    by_cases h2 : [Y % 256, Y / 256 % 256, (Y / 65536 + 128 * (x % 2)) % 256] = bs
    · simp only [h2, decide_true, if_true]; exact Ev.now _
    · simp only [h2, decide_false, if_false, Bool.false_eq_true]; exact Ev.now _
  · simp only [if_neg h1]; exact Ev.now _

theorem InvIs.bd {a m r : Int} {b : Bool} (h : InvIs a m r b) (hm : 2 ≤ m) : 0 ≤ r ∧ r < m := by
  rcases h with ⟨_, h1, h2, _⟩ | ⟨_, h1, _⟩ <;> omega

/-- A pair is on the curve where its x is a root. -/
theorem on_root {p d Y W r x : Int} {b : Bool} (h : EdNum p d) (y0 : 0 ≤ Y) (y1 : Y < p) (hr : InvIs (1 + d * (Y * Y % p)) p r b) (hW : (Y * Y % p - 1) % p * r % p = W) (x0 : 0 ≤ x) (x1 : x < p) :
    onEd p d x Y = true ↔ x * x % p = W := by
  obtain ⟨K⟩ := fldOf_exists h.prm
  have hlo := h.lo
  rw [onEd_iff h K]
  have hs := h.slope K (toF Y)
  obtain ⟨_, _, _, hi⟩ := inv_of K h.prm hr (by rw [toF_add, toF_one, toF_mul, K.emod, toF_mul]; exact hs)
  have hq : (toF (1 + d * (Y * Y % p)) : K.F) = 1 + toF d * (toF Y * toF Y) := by rw [toF_add, toF_one, toF_mul, K.emod, toF_mul]
  rw [hq] at hi
  have eW : (toF W : K.F) = (toF Y * toF Y - 1) * (1 + toF d * (toF Y * toF Y))⁻¹ := by
    rw [← hW, K.emod, toF_mul, K.emod, toF_sub, K.emod, toF_mul, toF_one, hi]
  have b1 := md (x := x * x) (p := p) (by omega)
  have b2 := md (x := (Y * Y % p - 1) % p * r) (p := p) (by omega)
  rw [hW] at b2
  constructor
  · intro k
    have on := k.on
    unfold EdOn at on
    apply K.inj b1.1 b1.2 b2.1 b2.2
    rw [K.emod, toF_mul, eW]
    grind
  · intro k
    refine ⟨x0, x1, y0, y1, ?_⟩
    have : (toF x : K.F) * toF x = toF W := by rw [← toF_mul, ← K.emod, k]
    unfold EdOn
    rw [eW] at this
    generalize (toF x : K.F) = xx at *
    generalize (toF Y : K.F) = yy at *
    generalize (toF d : K.F) = dd at *
    have e2 : xx * xx * (1 + dd * (yy * yy)) = yy * yy - 1 := by rw [this]; grind
    grind

/-- The roots of a number by a prime. -/
theorem two_roots {p x z : Int} (hp : Prm p) (x0 : 0 ≤ x) (x1 : x < p) (z0 : 0 ≤ z) (z1 : z < p) (h : x * x % p = z * z % p) : z = x ∨ z + x = p ∨ (z = 0 ∧ x = 0) := by
  have hd : p ∣ (x - z) * (x + z) := by
    have e : (x - z) * (x + z) = x * x - z * z := by grind
    rw [e]
    exact Int.dvd_of_emod_eq_zero (by rw [Int.sub_emod, h, Int.sub_self, Int.zero_emod])
  rcases hp.mul hd with k | k
  · left
    have := Int.eq_zero_of_dvd_of_natAbs_lt_natAbs k (by omega)
    omega
  · right
    obtain ⟨c, hc⟩ := k
    have : c = 0 ∨ c = 1 := by
      rcases Int.lt_or_le c 0 with k1 | k1
      · exfalso
        have : p * c ≤ p * (-1) := Int.mul_le_mul_of_nonneg_left (by omega) (by omega)
        omega
      · rcases Int.lt_or_le 1 c with k2 | k2
        · exfalso
          have : p * 2 ≤ p * c := Int.mul_le_mul_of_nonneg_left (by omega) (by omega)
          omega
        · omega
    rcases this with rfl | rfl
    · right; omega
    · left; omega


/-- What the reading comes to. -/
def edEnd (p d Y z : Int) (bs : List Int) : Int × Int × Bool := if onEd p d z Y = true then (if [Y % 256, Y / 256 % 256, (Y / 65536 + 128 * (z % 2)) % 256] = bs then (z, Y, true) else (0, 0, false)) else (0, 0, false)

theorem read_run {p d l bx by' : Int} (hE : EdPre p d l) {a b c : Int} (hb : ∀ x ∈ [a, b, c], 0 ≤ x ∧ x ≤ 255) {Y : Int} (hY : a + b * 256 + c % 128 * 65536 = Y) (y0 : 0 ≤ Y) (y1 : Y < p) :
    ∃ W x bb, RootIs W p x bb ∧ (∀ z, 0 ≤ z → z < p → (onEd p d z Y = true ↔ z * z % p = W)) ∧
      Ev (fun k => impl_Ed_edRead.f k p d l bx by' [a, b, c]) (if bb = true then edEnd p d Y (if x % 2 = c / 128 then x else (p - x) % p) [a, b, c] else (0, 0, false)) := by
  have hN := hE.num
  have hlo := hN.lo
  have hhi := hN.hi
  have d0 : 0 ≤ d := by have := hN.d0; omega
  have d1 := hN.d1
  have h3 : (([a, b, c] : List Int).length : Int) = 3 := rfl
  obtain ⟨a0, a1⟩ := hb a (by simp)
  obtain ⟨b0, b1⟩ := hb b (by simp)
  obtain ⟨c0, c1⟩ := hb c (by simp)
  have r0 : rd [a, b, c] 0 = a := rfl
  have r1 : rd [a, b, c] 1 = b := rfl
  have r2 : rd [a, b, c] 2 = c := rfl
  unfold impl_Ed_edRead.f
  simp only [if_pos h3, if_pos (show 0 < (([a, b, c] : List Int).length : Int) by simp), if_pos (show 1 < (([a, b, c] : List Int).length : Int) by simp), if_pos (show 2 < (([a, b, c] : List Int).length : Int) by simp), r0, r1, r2, implY a0 a1 b0 b1 c0 c1]
  clear r0 r1 r2
  rw [hY]
  have hge : ¬ Y ≥ p := by omega
  have p1 : 1 ≤ p := by omega
  have q := md (x := Y * Y) p1
  have u := md (x := Y * Y % p - 1) p1
  obtain ⟨m1, m2⟩ := mm p1 hhi d0 d1 q.1 q.2
  obtain ⟨r, br, ir, er⟩ := implInv_eq (1 + d * (Y * Y % p)) (m := p) (by omega) (by omega)
  have rb := InvIs.bd ir (by omega)
  obtain ⟨W, hW⟩ : ∃ W, (Y * Y % p - 1) % p * r % p = W := ⟨_, rfl⟩
  have Wb : 0 ≤ W ∧ W < p := by rw [← hW]; exact md p1
  have eB : wrap64 (wrap64 (d * (Y * Y % p)) + 1) = 1 + d * (Y * Y % p) := by
    rw [w64 (n := d * (Y * Y % p)) (by omega) (by omega), w64 (by omega) (by omega)]; omega
  have eC : wrap64 (Y * Y % p - 1) = Y * Y % p - 1 := by clear eB; exact w64 (by omega) (by omega)
  have eI : wrap64 (c / 128) = c / 128 := by clear eB eC; exact w64 (by omega) (by omega)
  have yy := mulm p1 hhi y0 y1 y0 y1
  have uw := mulm p1 hhi u.1 u.2 rb.1 rb.2
  rw [hW] at uw
  obtain ⟨x, bb, hx⟩ := rootIs_exists W (p := p) (by omega)
  have ri := implRoot_eq hN.prm (by omega) hhi Wb.1 Wb.2 hx
  have xb : 0 ≤ x ∧ x < p := by
    clear eB eC eI
    rcases hx with ⟨_, h1, h2, _⟩ | ⟨_, h1, _⟩ <;> omega
  have eJ : Int.tmod (wrap64 (p - x)) p = (p - x) % p := by clear eB eC eI; rw [w64 (by omega) (by omega), Int.tmod_eq_emod_of_nonneg (by omega)]
  have hnz : ¬ p = 0 := by clear eB eC eI eJ; omega
  refine ⟨W, x, bb, hx, fun z z0 z1 => on_root (x := z) hN y0 y1 ir hW z0 z1, ?_⟩
  simp only [if_neg hge, if_neg hnz, yy, eB, eC, rest_eq (a := Y * Y % p - 1) (m := p) (by clear eB eC eI eJ; omega) (by clear eB eC eI eJ; omega)]
  refine Ev.bind er ?_
  simp only [Option.bind_some, uw]
  refine Ev.bind ri ?_
  simp only [Int.tmod_eq_emod_of_nonneg xb.1, eI, eJ]
  clear eB eC eI eJ
  have nb := md (x := p - x) p1
  cases bb with
  | false => simp only [Bool.false_eq_true, if_false]; exact Ev.now _
  | true =>
    simp only [if_true]
    unfold edEnd
    by_cases h : x % 2 = c / 128
    · simp only [if_pos h]
      exact implJ hb hlo hhi d0 d1 xb.1 y0 y1
    · simp only [if_neg h]
      exact implJ hb hlo hhi d0 d1 nb.1 y0 y1

/-- A pair that is read has these bytes. -/
theorem read_some {p d l bx by' : Int} (hE : EdPre p d l) (bs : List Int) (hb : ∀ x ∈ bs, 0 ≤ x ∧ x ≤ 255) : ∃ r s t, Ev (fun k => impl_Ed_edRead.f k p d l bx by' bs) (r, s, t) ∧ (t = false → r = 0 ∧ s = 0) ∧
    (t = true → onEd p d r s = true ∧ [s % 256, s / 256 % 256, (s / 65536 + 128 * (r % 2)) % 256] = bs) := by
  have no : Ev (fun k => impl_Ed_edRead.f k p d l bx by' bs) (0, 0, false) → ∃ r s t, Ev (fun k => impl_Ed_edRead.f k p d l bx by' bs) (r, s, t) ∧ (t = false → r = 0 ∧ s = 0) ∧
    (t = true → onEd p d r s = true ∧ [s % 256, s / 256 % 256, (s / 65536 + 128 * (r % 2)) % 256] = bs) := fun e => ⟨0, 0, false, e, fun _ => ⟨rfl, rfl⟩, fun k => by cases k⟩
  by_cases h3 : (bs.length : Int) = 3
  rotate_left
  · apply no
    unfold impl_Ed_edRead.f
    simp only [if_neg h3]
    exact Ev.now _
  obtain ⟨a, b, c, rfl⟩ : ∃ a b c, bs = [a, b, c] := by
    match bs, h3 with
    | [a, b, c], _ => exact ⟨a, b, c, rfl⟩
    | [], h => simp at h
    | [_], h => simp at h
    | [_, _], h => simp at h
    | _ :: _ :: _ :: _ :: _, h => simp at h; omega
  obtain ⟨a0, a1⟩ := hb a (by simp)
  obtain ⟨b0, b1⟩ := hb b (by simp)
  obtain ⟨c0, c1⟩ := hb c (by simp)
  obtain ⟨Y, hY⟩ : ∃ Y, a + b * 256 + c % 128 * 65536 = Y := ⟨_, rfl⟩
  by_cases hge : Y ≥ p
  · apply no
    have r0 : rd [a, b, c] 0 = a := rfl
    have r1 : rd [a, b, c] 1 = b := rfl
    have r2 : rd [a, b, c] 2 = c := rfl
    unfold impl_Ed_edRead.f
    simp only [if_pos h3, if_pos (show 0 < (([a, b, c] : List Int).length : Int) by simp), if_pos (show 1 < (([a, b, c] : List Int).length : Int) by simp), if_pos (show 2 < (([a, b, c] : List Int).length : Int) by simp), r0, r1, r2, implY a0 a1 b0 b1 c0 c1]
    rw [hY]
    simp only [if_pos hge]
    exact Ev.now _
  · obtain ⟨W, x, bb, hx, on, ev⟩ := read_run (bx := bx) (by' := by') hE hb hY (by omega) (by omega)
    cases bb with
    | false => exact no (by simpa using ev)
    | true =>
      simp only [if_true] at ev
      generalize (if x % 2 = c / 128 then x else (p - x) % p) = z at ev
      unfold edEnd at ev
      by_cases h1 : onEd p d z Y = true
      · by_cases h2 : [Y % 256, Y / 256 % 256, (Y / 65536 + 128 * (z % 2)) % 256] = [a, b, c]
        · rw [if_pos h1, if_pos h2] at ev
          exact ⟨z, Y, true, ev, fun k => (by cases k), fun _ => ⟨h1, h2⟩⟩
        · rw [if_pos h1, if_neg h2] at ev
          exact no ev
      · rw [if_neg h1] at ev
        exact no ev

/-- A pair comes back from its bytes. -/
theorem read_back {p d l bx by' x y : Int} (hE : EdPre p d l) (x0 : 0 ≤ x) (x1 : x < p) (y0 : 0 ≤ y) (y1 : y < p) (h : onEd p d x y = true) :
    Ev (fun k => impl_Ed_edRead.f k p d l bx by' [y % 256, y / 256 % 256, (y / 65536 + 128 * (x % 2)) % 256]) (x, y, true) := by
  have hN := hE.num
  have hlo := hN.lo
  have hhi := hN.hi
  have hb : ∀ z ∈ [y % 256, y / 256 % 256, (y / 65536 + 128 * (x % 2)) % 256], 0 ≤ z ∧ z ≤ 255 := by
    intro z hz
    simp at hz
    rcases hz with rfl | rfl | rfl <;> omega
  obtain ⟨W, r, bb, hr, on, ev⟩ := read_run (bx := bx) (by' := by') hE hb (Y := y) (by omega) y0 y1
  have hx := (on x x0 x1).1 h
  have ho := prm_odd hN.prm (by omega)
  rcases hr with ⟨rfl, r0, r1, r2, r3⟩ | ⟨_, _, r3⟩
  · have hc : (y / 65536 + 128 * (x % 2)) % 256 / 128 = x % 2 := by omega
    have hz : (if r % 2 = (y / 65536 + 128 * (x % 2)) % 256 / 128 then r else (p - r) % p) = x := by
      rw [hc]
      rcases two_roots hN.prm r0 r1 x0 x1 (by rw [r2, hx]) with k | k | ⟨k1, k2⟩
      · rw [if_pos (by rw [k]), k]
      · have : ¬ r % 2 = x % 2 := by omega
        rw [if_neg this]
        by_cases hr0 : r = 0
        · exfalso; omega
        · rw [Int.emod_eq_of_lt (by omega) (by omega)]; omega
      · rw [if_pos (by rw [k1, k2]), k1, k2]
    simp only [if_true, hz] at ev
    unfold edEnd at ev
    rw [if_pos h, if_pos rfl] at ev
    exact ev
  · exact absurd hx (r3 x x0 x1)

theorem at_some {l : List Int} (hw : ∀ x ∈ l, 0 ≤ x ∧ x ≤ 255) (hl : l.length ≤ 1048576) {i : Int} (h0 : 0 ≤ i) (h1 : i ≤ 1000) : ∃ v, laws_at.f l i = some v ∧ 0 ≤ v ∧ v ≤ 255 := by
  unfold laws_at.f
  by_cases h : i < (l.length : Int)
  · rw [if_pos h, if_pos h0]
    have hm := hw (rd l i) (by
      unfold rd
      rw [List.getD_eq_getElem?_getD, List.getElem?_eq_getElem (by omega), Option.getD_some]
      exact List.getElem_mem _)
    exact ⟨_, rfl, by rw [w64 (by omega) (by omega)]; omega, by rw [w64 (by omega) (by omega)]; omega⟩
  · rw [if_neg h]
    refine ⟨_, rfl, ?_⟩
    rw [w64 (n := i * 7) (by omega) (by omega), w64 (by omega) (by omega), Int.tmod_eq_emod_of_nonneg (by omega)]
    omega

theorem wfu8 {l : List Int} (h : ∀ x ∈ l, (Lit.int .u8 x).wf = true) : ∀ x ∈ l, 0 ≤ x ∧ x ≤ 255 := by
  intro x hx
  have := h x hx
  simpa [Lit.wf, IntKind.min, IntKind.max, IntKind.signed, IntKind.bits] using this

theorem and255 (x : Int) : 0 ≤ Go.bits .and .i64 x 255 ∧ Go.bits .and .i64 x 255 ≤ 255 := by
  unfold Go.bits
  simp only [BitVec.toNat_and]
  have h : (BitVec.ofInt IntKind.i64.bits 255).toNat = 255 := by decide
  rw [h]
  have h2 : (BitVec.ofInt IntKind.i64.bits x).toNat &&& 255 ≤ 255 := Nat.and_le_right
  generalize (BitVec.ofInt IntKind.i64.bits x).toNat &&& 255 = n at *
  rw [IntKind.wrap_i64]
  omega

/-- The cursor stands in its bytes. -/
def Cur (b : List Int) (i : Int) : Prop := 0 ≤ i ∧ i ≤ b.length ∧ b.length ≤ 1099511627776

theorem byte_some {b : List Int} {i : Int} (h : Int) (c : Cur b i) : ∃ v i' h', spec_l1Byte.f b i h = some (v, i', h') ∧ 0 ≤ v ∧ v ≤ 255 ∧ Cur b i' := by
  unfold spec_l1Byte.f
  obtain ⟨c0, c1, c2⟩ := c
  by_cases hi : i < (b.length : Int)
  · rw [if_pos hi, if_pos c0]
    refine ⟨_, _, _, rfl, (and255 _).1, (and255 _).2, ?_⟩
    rw [w64 (by omega) (by omega)]
    exact ⟨by omega, by omega, c2⟩
  · rw [if_neg hi]
    exact ⟨_, _, _, rfl, (and255 _).1, (and255 _).2, c0, c1, c2⟩

theorem below_some {b : List Int} {i : Int} (h : Int) (c : Cur b i) {n : Int} (hn : 0 < n) (hn' : n ≤ 4611686018427387904) : ∃ v i' h', spec_l1Below.f b i h n = some (v, i', h') ∧ 0 ≤ v ∧ v < n ∧ Cur b i' := by
  unfold spec_l1Below.f
  rw [if_neg (by omega)]
  by_cases h1 : n ≤ 256
  · rw [if_pos h1]
    obtain ⟨v, i', h', e, v0, v1, c'⟩ := byte_some h c
    rw [e]
    simp only [Option.bind_some, if_neg (show ¬ n = 0 by omega), Int.tmod_eq_emod_of_nonneg v0]
    exact ⟨_, _, _, rfl, Int.emod_nonneg _ (by omega), Int.emod_lt_of_pos _ hn, c'⟩
  · rw [if_neg h1]
    obtain ⟨v, i', h', e, v0, v1, c'⟩ := byte_some h c
    obtain ⟨w, j, g, f, w0, w1, d⟩ := byte_some h' c'
    obtain ⟨x, j', g', f', x0, x1, d'⟩ := byte_some g d
    obtain ⟨y, j2, g2, f2, y0, y1, d2⟩ := byte_some g' d'
    rw [e]
    simp only [Option.bind_some, f, f', f2, if_neg (show ¬ n = 0 by omega)]
    rw [w64 (n := v * 16777216) (by omega) (by omega), w64 (n := w * 65536) (by omega) (by omega), w64 (n := v * 16777216 + w * 65536) (by omega) (by omega), w64 (n := x * 256) (by omega) (by omega), w64 (n := v * 16777216 + w * 65536 + x * 256) (by omega) (by omega), w64 (by omega) (by omega), Int.tmod_eq_emod_of_nonneg (by omega)]
    exact ⟨_, _, _, rfl, Int.emod_nonneg _ (by omega), Int.emod_lt_of_pos _ hn, d2⟩

theorem new_loop (l : List Int) (hl : l.length ≤ 1099511627776) : ∀ (d : Nat) (h i : Int), 0 ≤ i → (l.length : Int) - i = d → ∃ h', Ev (fun k => spec_l1New.l0 k l h i) (l, 0, h') := by
  intro d
  induction d with
  | zero =>
    intro h i h0 hd
    refine ⟨h, Ev.step (fun k => by rw [spec_l1New.l0]) ?_⟩
    simp only [if_neg (show ¬ i < (l.length : Int) by omega)]
    exact Ev.now _
  | succ d ih =>
    intro h i h0 hd
    by_cases h1 : i < 4000
    · obtain ⟨h', e⟩ := ih (Go.bits .and .i64 (wrap64 ((wrap64 ((wrap64 (h * 131)) + (wrap64 (rd l i)))) + 7)) 1073741823) (i + 1) (by omega) (by omega)
      refine ⟨h', Ev.step (fun k => by rw [spec_l1New.l0]) ?_⟩
      simp only [if_pos (show i < (l.length : Int) by omega), if_pos h1, if_pos h0]
      rw [w64 (n := i + 1) (by omega) (by omega)]
      exact e
    · refine ⟨h, Ev.step (fun k => by rw [spec_l1New.l0]) ?_⟩
      simp only [if_pos (show i < (l.length : Int) by omega), if_neg h1]
      exact Ev.now _

theorem new_some (l : List Int) (hl : l.length ≤ 1099511627776) : ∃ h', Ev (fun k => spec_l1New.f k l) (l, 0, h') ∧ Cur l 0 := by
  obtain ⟨h', e⟩ := new_loop l hl l.length (wrap64 (148148 + (l.length : Int))) 0 (by omega) (by omega)
  exact ⟨h', e, by unfold Cur; omega⟩

theorem pick_some {b : List Int} {i : Int} (h : Int) (c : Cur b i) {l : List Int} (hl : 0 < l.length) (hl' : l.length ≤ 1000) : ∃ v i' h', spec_l1PickInt.f b i h l = some (v, i', h') ∧ v ∈ l ∧ Cur b i' := by
  unfold spec_l1PickInt.f
  obtain ⟨v, i', h', e, v0, v1, c'⟩ := below_some h c (n := (l.length : Int)) (by omega) (by omega)
  rw [e]
  simp only [Option.bind_some, if_pos v0, if_pos v1]
  refine ⟨_, _, _, rfl, ?_, c'⟩
  unfold rd
  rw [List.getD_eq_getElem?_getD, List.getElem?_eq_getElem (by omega), Option.getD_some]
  exact List.getElem_mem _


theorem Ev.unique {α : Type} {g : Nat → Option α} {r s : α} (h : Ev g r) (h' : Ev g s) : r = s := by
  obtain ⟨K, h⟩ := h
  obtain ⟨L, h'⟩ := h'
  have e1 := h (K + L) (by omega)
  have e2 := h' (K + L) (by omega)
  rw [e1] at e2
  exact Option.some.inj e2

/-- A right twisted curve, and its pair. -/
structure EBase (p d l bx by' : Int) : Prop where
  pre : EdPre p d l
  ok : Ev (fun k => impl_EdOk.f k p d l bx by') true
  pt : ∀ K : Fld p, EdPt p d K bx by'

theorem ebase_of {p d l bx by' : Int} (hl : 0 ≤ l ∧ l ≤ 2097152) (h1 : impl_EdOk.f 300 p d l bx by' = some true) : EBase p d l bx by' := by
  have e1 : Ev (fun k => impl_EdOk.f k p d l bx by') true := Ev.of (fun k => impl_EdOk.mono p d l bx by' k) h1
  obtain ⟨r, _, e3, h⟩ := both_ok p d l bx by' ⟨by omega, by omega⟩
  obtain rfl := Ev.unique e1 e3
  obtain ⟨hp, hg⟩ := h rfl
  exact ⟨hp, e1, hg⟩

theorem ebase0 : EBase 101 12 11 76 22 := ebase_of (by omega) (by kernel_rfl)
theorem ebase1 : EBase 1021 6 263 87 232 := ebase_of (by omega) (by kernel_rfl)
theorem ebase2 : EBase 10037 3 1279 8662 1422 := ebase_of (by omega) (by kernel_rfl)

theorem bases_cases {v : Int} (v0 : 0 ≤ v) (v1 : v < 3) : v = 0 ∨ v = 1 ∨ v = 2 := by omega

theorem drawMul_some {p d l bx by' m : Int} (B : EBase p d l bx by') (m0 : 0 ≤ m) (m1 : m ≤ 1099511627776) : ∃ x y, Ev (fun k => spec_l4Mul.f k p d l bx by' m bx by') (x, y) ∧ ∀ K : Fld p, EdPt p d K x y := by
  obtain ⟨K⟩ := fldOf_exists B.pre.num.prm
  obtain ⟨x, y, hr, fr, er⟩ := specTimes_eq (l := l) (bx := bx) (by' := by') (n := m) B.pre.num K m0 (by omega) (B.pt K)
  refine ⟨x, y, er, fun K' => ?_⟩
  obtain ⟨x', y', hr', fr', er'⟩ := specTimes_eq (l := l) (bx := bx) (by' := by') (n := m) B.pre.num K' m0 (by omega) (B.pt K')
  have e := Ev.unique er er'
  injection e with q1 q2
  subst q1 q2
  exact hr'

theorem drawEd_some (c : List Int) (hl : c.length ≤ 1048576) : ∃ p d l bx by' x y u v, Ev (fun k => spec_DrawEd.f k c) (p, d, l, bx, by', x, y, u, v) ∧ EBase p d l bx by' ∧ (∀ K : Fld p, EdPt p d K x y) ∧ ∀ K : Fld p, EdPt p d K u v := by
  obtain ⟨h, e, c0⟩ := new_some c (by omega)
  obtain ⟨w, i1, h1, e1, w0, w1, c1⟩ := below_some h c0 (n := 3) (by omega) (by omega)
  obtain ⟨m, i2, h2, e2, m0, m1, c2⟩ := below_some h1 c1 (n := 3000) (by omega) (by omega)
  obtain ⟨q, i3, h3, e3, q0, q1, c3⟩ := below_some h2 c2 (n := 300) (by omega) (by omega)
  have go : ∀ p d l bx by', EBase p d l bx by' → rd_T25 ([(⟨101, 12, 11, 76, 22⟩ : S25), (⟨1021, 6, 263, 87, 232⟩ : S25), (⟨10037, 3, 1279, 8662, 1422⟩ : S25)] : List S25) w = ⟨p, d, l, bx, by'⟩ →
      ∃ p d l bx by' x y u v, Ev (fun k => spec_DrawEd.f k c) (p, d, l, bx, by', x, y, u, v) ∧ EBase p d l bx by' ∧ (∀ K : Fld p, EdPt p d K x y) ∧ ∀ K : Fld p, EdPt p d K u v := by
    intro p d l bx by' B hr
    obtain ⟨x, y, er, hx⟩ := drawMul_some B m0 (by omega)
    obtain ⟨u, v, er', hu⟩ := drawMul_some B q0 (by omega)
    refine ⟨p, d, l, bx, by', x, y, u, v, ?_, B, hx, hu⟩
    unfold spec_DrawEd.f spec_l4Bases.f
    refine Ev.bind e ?_
    have w2 : w < (([(⟨101, 12, 11, 76, 22⟩ : S25), (⟨1021, 6, 263, 87, 232⟩ : S25), (⟨10037, 3, 1279, 8662, 1422⟩ : S25)] : List S25).length : Int) := by simp; omega
    simp only [Option.bind_some, e1, if_pos w0, if_pos w2, hr, e2]
    refine Ev.bind er ?_
    simp only [e3, Option.bind_some]
    exact Ev.bind er' (Ev.now _)
  rcases bases_cases w0 w1 with rfl | rfl | rfl
  · exact go 101 12 11 76 22 ebase0 rfl
  · exact go 1021 6 263 87 232 ebase1 rfl
  · exact go 10037 3 1279 8662 1422 ebase2 rfl

section
variable {p d l bx by' : Int}
theorem pairOk_ev (B : EBase p d l bx by') {K : Fld p} {x y : Int} (h : EdPt p d K x y) : Ev (fun k => impl_PairOk.f k p d l bx by' x y) true := by
  have hN := B.pre.num
  have d0 := hN.d0
  unfold impl_PairOk.f
  refine Ev.bind B.ok ?_
  simp only [if_true, implOn_eq hN.lo hN.hi (show 0 ≤ d by omega) hN.d1, Option.bind_some, (onEd_iff hN K).2 h]
  exact Ev.now _

theorem add_ev (B : EBase p d l bx by') {K : Fld p} {x y u v : Int} (h : EdPt p d K x y) (h' : EdPt p d K u v) : ∃ r s, EdPt p d K r s ∧ ((toF r : K.F), (toF s : K.F)) = edAdd (toF d) (toF x, toF y) (toF u, toF v) ∧
    Ev (fun k => impl_EdAdd.f k p d l bx by' x y u v) (r, s, true) := by
  have hN := B.pre.num
  have d0 := hN.d0
  obtain ⟨r, s, hr, fr, er⟩ := implSum_eq (l := l) (bx := bx) (y0' := by') hN K h h'
  refine ⟨r, s, hr, fr, ?_⟩
  unfold impl_EdAdd.f
  refine Ev.bind (pairOk_ev B h) ?_
  simp only [if_true, implOn_eq hN.lo hN.hi (show 0 ≤ d by omega) hN.d1, Option.bind_some, (onEd_iff hN K).2 h']
  exact Ev.bind er (Ev.now _)

theorem mul_ev (B : EBase p d l bx by') {K : Fld p} {x y m : Int} (h : EdPt p d K x y) (m0 : 0 ≤ m) (m1 : m ≤ 1099511627776) : ∃ r s, EdPt p d K r s ∧ ((toF r : K.F), (toF s : K.F)) = (edGrp (B.pre.num.good K)).smul m.toNat (toF x, toF y) ∧
    Ev (fun k => impl_EdMul.f k p d l bx by' m x y) (r, s, true) := by
  have hN := B.pre.num
  obtain ⟨r, s, hr, fr, er⟩ := implTimes_eq (l := l) (bx := bx) (by' := by') (n := m) hN K m0 (by omega) h
  refine ⟨r, s, hr, fr, ?_⟩
  unfold impl_EdMul.f
  refine Ev.bind (pairOk_ev B h) ?_
  simp only [if_true, within_eq, Option.bind_some, m0, m1, and_self, decide_true]
  exact Ev.bind er (Ev.now _)

theorem bytes_ev (B : EBase p d l bx by') {K : Fld p} {x y : Int} (h : EdPt p d K x y) : Ev (fun k => impl_EdBytes.f k p d l bx by' x y) ([y % 256, y / 256 % 256, (y / 65536 + 128 * (x % 2)) % 256], true) := by
  have hN := B.pre.num
  have hhi := hN.hi
  have h1 := h.y1
  unfold impl_EdBytes.f
  refine Ev.bind (pairOk_ev B h) ?_
  simp only [if_true, implEdBytes_eq h.x0 h.y0 (show y < 1048576 by omega), Option.bind_some]
  exact Ev.now _

theorem ed_neg (B : EBase p d l bx by') {K : Fld p} {x y : Int} (h : EdPt p d K x y) : EdPt p d K ((p - x) % p) y ∧ edAdd (toF d : K.F) (toF x, toF y) (toF ((p - x) % p), toF y) = (0, 1) := by
  have hN := B.pre.num
  have hlo := hN.lo
  have hF : (toF p : K.F) = 0 := (K.ker p).2 (Int.dvd_refl p)
  have e : (toF ((p - x) % p) : K.F) = -toF x := by
    rw [K.emod, toF_sub, hF]
    grind
  have on := h.on
  have hn : EdPt p d K ((p - x) % p) y := by
    refine ⟨Int.emod_nonneg _ (by omega), Int.emod_lt_of_pos _ (by omega), h.y0, h.y1, ?_⟩
    rw [e]
    unfold EdOn at *
    grind
  refine ⟨hn, ?_⟩
  obtain ⟨n1, n2⟩ := ed_den (hN.good K) h.on hn.on
  rw [e] at n1 n2 ⊢
  generalize (toF x : K.F) = xx at *
  generalize (toF y : K.F) = yy at *
  generalize (toF d : K.F) = dd at *
  unfold EdOn at on
  unfold edAdd
  simp only
  clear hn hF e
  have e1 : xx * yy + yy * -xx = 0 := by grind
  have e2 : yy * yy + xx * -xx = 1 - dd * xx * -xx * yy * yy := by grind
  rw [e1, e2]
  congr 1
  · grind
  · exact Lean.Grind.Field.mul_inv_cancel n2
end

theorem specAdd_some {p : Int} (d l bx by' x y u v : Int) (hp : 2 ≤ p) (hp' : p ≤ 1048576) : ∃ r s, Ev (fun k => spec_l4Add.f k p d l bx by' x y u v) (r, s) := by
  unfold spec_l4Add.f
  simp only [if_neg (show ¬ p = 0 by omega)]
  obtain ⟨r1, b1, _, e1⟩ := specInv_eq (wrap64 (1 + (Int.tmod (wrap64 ((Int.tmod (wrap64 (d * (Int.tmod (wrap64 (x * u)) p))) p) * (Int.tmod (wrap64 (y * v)) p))) p))) (m := p) hp (by omega)
  obtain ⟨r2, b2, _, e2⟩ := specInv_eq (wrap64 (1 - (Int.tmod (wrap64 ((Int.tmod (wrap64 (d * (Int.tmod (wrap64 (x * u)) p))) p) * (Int.tmod (wrap64 (y * v)) p))) p))) (m := p) hp (by omega)
  exact ⟨_, _, Ev.bind e1 (Ev.bind e2 (Ev.now _))⟩

theorem specMul_some {p : Int} (d l bx by' : Int) (hp : 2 ≤ p) (hp' : p ≤ 1048576) : ∀ (m E : Nat) (x y u v : Int), E ≤ m → E < 9223372036854775808 → ∃ r s, Ev (fun k => spec_l4Mul.l0 k (E : Int) p d l bx by' x y u v) (r, s) := by
  intro m
  induction m with
  | zero =>
    intro E x y u v hE hE'
    obtain rfl : E = 0 := by omega
    refine ⟨u, v, Ev.step (fun k => by rw [spec_l4Mul.l0]) ?_⟩
    simp only [if_neg (show ¬ ((0 : Nat) : Int) > 0 by omega)]
    exact Ev.now _
  | succ m ih =>
    intro E x y u v hE hE'
    by_cases h0 : E = 0
    · exact ih E x y u v (by omega) hE'
    · have q0 : (E : Int) > 0 := by omega
      have q2 : wrap64 (Int.tdiv (E : Int) 2) = ((E / 2 : Nat) : Int) := by
        rw [Int.tdiv_eq_ediv_of_nonneg (by omega), w64 (by omega) (by omega)]
        omega
      obtain ⟨x2, y2, e2⟩ := specAdd_some d l bx by' x y x y hp hp'
      by_cases hb : Int.tmod (E : Int) 2 = 1
      · obtain ⟨u2, v2, d2⟩ := specAdd_some d l bx by' u v x y hp hp'
        obtain ⟨r, s, er⟩ := ih (E / 2) x2 y2 u2 v2 (by clear q2; omega) (by clear q2; omega)
        refine ⟨r, s, Ev.step (fun k => by rw [spec_l4Mul.l0]) ?_⟩
        simp only [if_pos q0, q2, if_pos hb]
        exact Ev.bind d2 (Ev.bind e2 er)
      · obtain ⟨r, s, er⟩ := ih (E / 2) x2 y2 u v (by clear q2; omega) (by clear q2; omega)
        refine ⟨r, s, Ev.step (fun k => by rw [spec_l4Mul.l0]) ?_⟩
        simp only [if_pos q0, q2, if_neg hb]
        exact Ev.bind e2 er

theorem specOn_some (p d l bx by' x y : Int) (hp : 2 ≤ p) : ∃ t, spec_l4On.f p d l bx by' x y = some t := by
  unfold spec_l4On.f spec_l2Left.f
  simp only [in_eq, Option.bind_some, if_neg (show ¬ p = 0 by omega)]
  split
  · split
    · exact ⟨_, rfl⟩
    · exact ⟨_, rfl⟩
  · exact ⟨_, rfl⟩

theorem drawPair_some (p d l bx by' : Int) {c : List Int} {i : Int} (h : Int) (hc : Cur c i) : ∃ x y i' h', Ev (fun k => spec_l4DrawPair.f k c i h p d l bx by') (x, y, i', h') ∧ Cur c i' := by
  have j1 : ∀ x y i h, Cur c i → ∃ x' y' i' h', Ev (fun k => spec_l4DrawPair.j1 k c i h p d l bx by' x y) (x', y', i', h') ∧ Cur c i' := by
    intro x y i h hc
    obtain ⟨v, i1, h1, e1, _, _, c1⟩ := below_some h hc (n := 20) (by omega) (by omega)
    obtain ⟨w, i2, h2, e2, _, c2⟩ := pick_some h1 c1 (l := [-1, p]) (by simp) (by simp)
    by_cases v0 : v = 0
    · refine ⟨x, wrap64 (y + 1), i1, h1, Ev.step (fun k => by rw [spec_l4DrawPair.j1]) ?_, c1⟩
      simp only [e1, Option.bind_some, if_pos v0]
      exact Ev.now _
    · by_cases v1 : v = 1
      · refine ⟨0, wrap64 (p - 1), i1, h1, Ev.step (fun k => by rw [spec_l4DrawPair.j1]) ?_, c1⟩
        simp only [e1, Option.bind_some, if_neg v0, if_pos v1]
        exact Ev.now _
      · by_cases v2 : v = 2
        · refine ⟨w, y, i2, h2, Ev.step (fun k => by rw [spec_l4DrawPair.j1]) ?_, c2⟩
          simp only [e1, Option.bind_some, if_neg v0, if_neg v1, if_pos v2, e2]
          exact Ev.now _
        · refine ⟨x, y, i1, h1, Ev.step (fun k => by rw [spec_l4DrawPair.j1]) ?_, c1⟩
          simp only [e1, Option.bind_some, if_neg v0, if_neg v1, if_neg v2]
          exact Ev.now _
  have jf : ∃ x' y' i' h', Ev (fun k => spec_l4DrawPair.j0 k false c i h p d l bx by' 0 1 bx by') (x', y', i', h') ∧ Cur c i' := by
    obtain ⟨x', y', i', h', e, c'⟩ := j1 0 1 i h hc
    refine ⟨x', y', i', h', Ev.step (fun k => by rw [spec_l4DrawPair.j0]) ?_, c'⟩
    simp only [Bool.false_eq_true, if_false]
    exact e
  unfold spec_l4DrawPair.f
  simp only [in_eq, Option.bind_some]
  by_cases hp : 13 ≤ p ∧ p ≤ 1048576
  · simp only [hp.1, hp.2, and_self, decide_true, if_true]
    obtain ⟨bp, _, _, sp, _⟩ := primes_eq p
    cases bp with
    | false =>
      obtain ⟨x', y', i', h', e, c'⟩ := jf
      exact ⟨x', y', i', h', Ev.bind sp (by simpa using e), c'⟩
    | true =>
      obtain ⟨t, et⟩ := specOn_some p d l bx by' bx by' (by omega)
      cases t with
      | false =>
        obtain ⟨x', y', i', h', e, c'⟩ := jf
        exact ⟨x', y', i', h', Ev.bind sp (by simpa [et] using e), c'⟩
      | true =>
        obtain ⟨v, i1, h1, e1, v0, v1, c1⟩ := below_some h hc (n := 300) (by omega) (by omega)
        obtain ⟨r, s, er⟩ := specMul_some d l bx by' (by omega) hp.2 v.toNat v.toNat bx by' 0 1 (Nat.le_refl _) (by omega)
        rw [show ((v.toNat : Nat) : Int) = v by omega] at er
        obtain ⟨x', y', i', h', e, c'⟩ := j1 r s i1 h1 c1
        refine ⟨x', y', i', h', Ev.bind sp ?_, c'⟩
        simp only [if_true, et, Option.bind_some]
        refine Ev.step (fun k => by rw [spec_l4DrawPair.j0]) ?_
        simp only [if_true, e1, Option.bind_some]
        exact Ev.bind (show Ev (fun k => spec_l4Mul.f k p d l bx by' v bx by') (r, s) from er) e
  · obtain ⟨x', y', i', h', e, c'⟩ := jf
    refine ⟨x', y', i', h', ?_, c'⟩
    simpa [hp] using e

theorem drawAny_some {c : List Int} {i : Int} (h : Int) (hc : Cur c i) : ∃ p d l bx by' i' h', spec_l4DrawAny.f c i h = some (p, d, l, bx, by', i', h') ∧ (0 ≤ l ∧ l ≤ 2000) ∧ Cur c i' := by
  obtain ⟨w, i1, h1, e1, w0, w1, c1⟩ := below_some h hc (n := 3) (by omega) (by omega)
  obtain ⟨v, i2, h2, e2, v0, v1, c2⟩ := below_some h1 c1 (n := 25) (by omega) (by omega)
  have go : ∀ p d l bx by', (0 ≤ l ∧ l ≤ 2000) → rd_T25 ([(⟨101, 12, 11, 76, 22⟩ : S25), (⟨1021, 6, 263, 87, 232⟩ : S25), (⟨10037, 3, 1279, 8662, 1422⟩ : S25)] : List S25) w = ⟨p, d, l, bx, by'⟩ →
      ∃ p d l bx by' i' h', spec_l4DrawAny.f c i h = some (p, d, l, bx, by', i', h') ∧ (0 ≤ l ∧ l ≤ 2000) ∧ Cur c i' := by
    intro p d l bx by' hl hr
    obtain ⟨x0, j0, g0, f0, _, d0⟩ := pick_some h2 c2 (l := [0, 13, 103, 1021, 1048573, 21]) (by simp) (by simp)
    obtain ⟨x1, j1, g1, f1, _, d1⟩ := pick_some h2 c2 (l := [1, 2, 4, p]) (by simp) (by simp)
    obtain ⟨x2, j2, g2, f2, m2, d2⟩ := pick_some h2 c2 (l := [0, 5, 12, 263]) (by simp) (by simp)
    unfold spec_l4DrawAny.f spec_l4Bases.f
    have w2 : w < (([(⟨101, 12, 11, 76, 22⟩ : S25), (⟨1021, 6, 263, 87, 232⟩ : S25), (⟨10037, 3, 1279, 8662, 1422⟩ : S25)] : List S25).length : Int) := by simp; omega
    simp only [Option.bind_some, e1, if_pos w0, if_pos w2, hr, e2]
    by_cases q0 : v = 0
    · simp only [if_pos q0, f0, Option.bind_some]
      exact ⟨_, _, _, _, _, _, _, rfl, hl, d0⟩
    by_cases q1 : v = 1
    · simp only [if_neg q0, if_pos q1, f1, Option.bind_some]
      exact ⟨_, _, _, _, _, _, _, rfl, hl, d1⟩
    by_cases q2 : v = 2
    · simp only [if_neg q0, if_neg q1, if_pos q2, f2, Option.bind_some]
      refine ⟨_, _, _, _, _, _, _, rfl, ?_, d2⟩
      simp at m2
      rcases m2 with rfl | rfl | rfl | rfl <;> omega
    by_cases q3 : v = 3
    · simp only [if_neg q0, if_neg q1, if_neg q2, if_pos q3]
      exact ⟨_, _, _, _, _, _, _, rfl, hl, c2⟩
    by_cases q4 : v = 4
    · simp only [if_neg q0, if_neg q1, if_neg q2, if_neg q3, if_pos q4]
      exact ⟨_, _, _, _, _, _, _, rfl, hl, c2⟩
    · simp only [if_neg q0, if_neg q1, if_neg q2, if_neg q3, if_neg q4]
      exact ⟨_, _, _, _, _, _, _, rfl, hl, c2⟩
  rcases bases_cases w0 w1 with rfl | rfl | rfl
  · exact go 101 12 11 76 22 (by omega) rfl
  · exact go 1021 6 263 87 232 (by omega) rfl
  · exact go 10037 3 1279 8662 1422 (by omega) rfl

theorem specBytes_some (p d l bx by' x y : Int) (hl : -9223372036854775808 ≤ l ∧ l ≤ 9223372036854775807) : ∃ r b, (r = [] ∨ ∃ a b c, r = [a, b, c]) ∧ (∀ z ∈ r, 0 ≤ z ∧ z ≤ 255) ∧ Ev (fun k => spec_EdBytes.f k p d l bx by' x y) (r, b) := by
  obtain ⟨t, e1, e2, ht⟩ := both_pair p d l bx by' x y hl
  unfold spec_EdBytes.f
  cases t with
  | false =>
    refine ⟨[], false, .inl rfl, by simp, Ev.bind e1 ?_⟩
    simpa using Ev.now (([] : List Int), false)
  | true =>
    refine ⟨_, true, .inr ⟨_, _, _, rfl⟩, ?_, Ev.bind e1 (by simp only [if_true]; exact Ev.now _)⟩
    intro z hz
    simp only [List.mem_cons, List.not_mem_nil, or_false] at hz
    rcases hz with rfl | rfl | rfl <;> omega

theorem u8_bits (o : BinOp) (x y : Int) : 0 ≤ Go.bits o .u8 x y ∧ Go.bits o .u8 x y ≤ 255 := by
  unfold Go.bits
  rw [IntKind.wrap_u8]
  omega

theorem set_byte {r : List Int} (hr : ∀ z ∈ r, 0 ≤ z ∧ z ≤ 255) (i : Nat) {x : Int} (hx : 0 ≤ x ∧ x ≤ 255) : ∀ z ∈ r.set i x, 0 ≤ z ∧ z ≤ 255 := by
  intro z hz
  rcases List.mem_or_eq_of_mem_set hz with k | k
  · exact hr z k
  · rw [k]; exact hx

theorem drawEdRead_some (c : List Int) (hl : c.length ≤ 1048576) : ∃ p d l bx by' bs, Ev (fun k => spec_DrawEdRead.f k c) (p, d, l, bx, by', bs) ∧ (0 ≤ l ∧ l ≤ 2000) ∧ ∀ z ∈ bs, 0 ≤ z ∧ z ≤ 255 := by
  obtain ⟨h, e, c0⟩ := new_some c (by omega)
  obtain ⟨p, d, l, bx, by', i1, h1, e1, L, c1⟩ := drawAny_some h c0
  obtain ⟨x, y, i2, h2, e2, c2⟩ := drawPair_some p d l bx by' h1 c1
  obtain ⟨r, b, hr, hb, e3⟩ := specBytes_some p d l bx by' x y (by omega)
  have fin : ∀ bs, (∀ z ∈ bs, 0 ≤ z ∧ z ≤ 255) → Ev (fun k => spec_DrawEdRead.f k c) (p, d, l, bx, by', bs) →
      ∃ p d l bx by' bs, Ev (fun k => spec_DrawEdRead.f k c) (p, d, l, bx, by', bs) ∧ (0 ≤ l ∧ l ≤ 2000) ∧ ∀ z ∈ bs, 0 ≤ z ∧ z ≤ 255 := fun bs hbs he => ⟨p, d, l, bx, by', bs, he, L, hbs⟩
  rcases hr with rfl | ⟨a1, a2, a3, rfl⟩
  · refine fin [] (by simp) ?_
    unfold spec_DrawEdRead.f
    refine Ev.bind e ?_
    simp only [e1, Option.bind_some]
    refine Ev.bind e2 (Ev.bind e3 ?_)
    exact Ev.now _
  · have len : (([a1, a2, a3] : List Int).length : Int) = 3 := rfl
    obtain ⟨v, i3, h3, f3, v0, v1, c3⟩ := below_some h2 c2 (n := 6) (by omega) (by omega)
    obtain ⟨w, i4, h4, f4, w0, w1, c4⟩ := below_some h3 c3 (n := 3) (by omega) (by omega)
    obtain ⟨u, i5, h5, f5, u0, u1, c5⟩ := byte_some h4 c4
    obtain ⟨u', i6, h6, f6, u0', u1', c6⟩ := byte_some h3 c3
    by_cases q0 : v = 0
    · refine fin ([a1, a2, a3].set w.toNat (u % 256)) (set_byte hb _ (by omega)) ?_
      unfold spec_DrawEdRead.f
      refine Ev.bind e ?_
      simp only [e1, Option.bind_some]
      refine Ev.bind e2 (Ev.bind e3 ?_)
      simp only [len, if_pos (show (3 : Int) > 0 by omega), f3, Option.bind_some, if_pos q0, f4, f5, if_pos w0, if_pos w1]
      exact Ev.now _
    by_cases q1 : v = 1
    · refine fin ([a1, a2, a3].take w.toNat) (fun z hz => hb z (List.mem_of_mem_take hz)) ?_
      unfold spec_DrawEdRead.f
      refine Ev.bind e ?_
      simp only [e1, Option.bind_some]
      refine Ev.bind e2 (Ev.bind e3 ?_)
      simp only [len, if_pos (show (3 : Int) > 0 by omega), f3, Option.bind_some, if_neg q0, if_pos q1, f4, if_pos w0, if_pos (show w ≤ 3 by omega)]
      exact Ev.now _
    by_cases q2 : v = 2
    · refine fin ([a1, a2, a3].set (2 : Int).toNat (Go.bits .xor .u8 (rd [a1, a2, a3] 2) 128)) (set_byte hb _ (u8_bits _ _ _)) ?_
      unfold spec_DrawEdRead.f
      refine Ev.bind e ?_
      simp only [e1, Option.bind_some]
      refine Ev.bind e2 (Ev.bind e3 ?_)
      simp only [len, if_pos (show (3 : Int) > 0 by omega), f3, Option.bind_some, if_neg q0, if_neg q1, if_pos q2, if_pos (show (2 : Int) < 3 by omega)]
      exact Ev.now _
    by_cases q3 : v = 3
    · refine fin ([a1, a2, a3].set (0 : Int).toNat (u' % 256)) (set_byte hb _ (by omega)) ?_
      unfold spec_DrawEdRead.f
      refine Ev.bind e ?_
      simp only [e1, Option.bind_some]
      refine Ev.bind e2 (Ev.bind e3 ?_)
      simp only [len, if_pos (show (3 : Int) > 0 by omega), f3, Option.bind_some, if_neg q0, if_neg q1, if_neg q2, if_pos q3, f6, if_pos (show (0 : Int) < 3 by omega)]
      exact Ev.now _
    · refine fin [a1, a2, a3] hb ?_
      unfold spec_DrawEdRead.f
      refine Ev.bind e ?_
      simp only [e1, Option.bind_some]
      refine Ev.bind e2 (Ev.bind e3 ?_)
      simp only [len, if_pos (show (3 : Int) > 0 by omega), f3, Option.bind_some, if_neg q0, if_neg q1, if_neg q2, if_neg q3]
      exact Ev.now _

/-- What is read of drawn bytes. -/
theorem readBack (l : List Int) (hl : l.length ≤ 1048576) : ∃ p d q bx by' bs r s t, Ev (fun k => spec_DrawEdRead.f k l) (p, d, q, bx, by', bs) ∧ Ev (fun k => impl_EdRead.f k p d q bx by' bs) (r, s, t) ∧ (t = false → r = 0 ∧ s = 0) ∧ (t = true → Ev (fun k => impl_EdBytes.f k p d q bx by' r s) (bs, true)) := by
  obtain ⟨p, d, q, bx, by', bs, e, hq, hb⟩ := drawEdRead_some l hl
  obtain ⟨t, _, e1, ht⟩ := both_ok p d q bx by' (by omega)
  cases t with
  | false =>
    refine ⟨p, d, q, bx, by', bs, 0, 0, false, e, ?_, fun _ => ⟨rfl, rfl⟩, fun h => by cases h⟩
    unfold impl_EdRead.f
    refine Ev.bind e1 ?_
    simpa using Ev.now _
  | true =>
    obtain ⟨hE, hg⟩ := ht rfl
    obtain ⟨r, s, t, er, h0, h1⟩ := read_some (bx := bx) (by' := by') hE bs hb
    refine ⟨p, d, q, bx, by', bs, r, s, t, e, ?_, h0, fun h => ?_⟩
    · unfold impl_EdRead.f
      refine Ev.bind e1 ?_
      simp only [if_true]
      exact Ev.bind er (Ev.now _)
    · obtain ⟨h2, h3⟩ := h1 h
      obtain ⟨K⟩ := fldOf_exists hE.num.prm
      have B : EBase p d q bx by' := ⟨hE, e1, hg⟩
      have be := bytes_ev B (K := K) ((onEd_iff hE.num K).1 h2)
      rw [h3] at be
      exact be

/-- The law answers true at all bytes. -/
theorem law (a0 : Option Addr) (len0 cap0 : Nat) (z0 : List Int) (w : World) (w0 : (a0 = none ∧ len0 = 0 ∧ cap0 = 0 ∧ z0 = []) ∨ ∃ x, a0 = some x ∧ len0 ≤ cap0 ∧ cap0 ≤ maxLen ∧ z0.length = cap0 ∧ (∀ i, i < z0.length → w.cell? (x.add i) = some (.int .u8 (z0.getD i 0))) ∧ ∀ n ∈ z0, (Lit.int .u8 n).wf = true) :
    Calls Try.prog 3 #[.slice a0 len0 cap0] w fun e w' => e = .returned (.bool true) ∧ Below w.heap.size w w' := by
  obtain ⟨l, rfl, hr0, hm0, hw0, hc0⟩ := ReadsInt.ofRowC w0
  have hC := Kd.C_of_reads (d := (0 : Int)) (h1 := fun _ => rfl) hr0
  have hw := wfu8 hw0
  by_cases h : (l.length : Int) > 1048576
  · exact lawBig a0 cap0 l w hC hc0 (by unfold laws_big.f; rw [decide_eq_true h])
  have hbig : laws_big.f l = some false := by unfold laws_big.f; rw [decide_eq_false h]
  obtain ⟨p, d, q, bx, by', x, y, u, v, e, B, hA, hB⟩ := drawEd_some l (by omega)
  obtain ⟨K⟩ := fldOf_exists B.pre.num.prm
  have hA := hA K
  have hB := hB K
  have hG := B.pt K
  have hN := B.pre.num
  have hlo := hN.lo
  have hhi := hN.hi
  have gd := hN.good K
  obtain ⟨c0, e0, z0, z1⟩ := at_some hw (by omega) (i := 0) (by omega) (by omega)
  obtain ⟨c1, e1, z2, z3⟩ := at_some hw (by omega) (i := 1) (by omega) (by omega)
  have k1 : 0 ≤ c0 * c1 := Int.mul_nonneg z0 z2
  have k2 : c0 * c1 ≤ 255 * 255 := Int.mul_le_mul z1 z3 z2 (by omega)
  obtain ⟨m, hm⟩ : ∃ m, c0 * c1 = m := ⟨_, rfl⟩
  rw [hm] at k1 k2
  have w1 : wrap64 (c0 * c1) = m := by rw [hm]; exact w64 (by omega) (by omega)
  have w2 : wrap64 (m + 1) = m + 1 := by clear w1; exact w64 (by omega) (by omega)
  have w3 : Int.tmod (wrap64 (p - x)) p = (p - x) % p := by
    clear w1 w2
    have := hA.x0
    have := hA.x1
    rw [w64 (by omega) (by omega), Int.tmod_eq_emod_of_nonneg (by omega)]
  obtain ⟨hn, fn⟩ := ed_neg B hA
  obtain ⟨x1, y1, h1, g1, E1⟩ := add_ev B hA hB
  obtain ⟨x2, y2, h2, g2, E2⟩ := add_ev B hB hA
  obtain ⟨x3, y3, h3, g3, E3⟩ := add_ev B h1 hG
  obtain ⟨x4, y4, h4, g4, E4⟩ := add_ev B hB hG
  obtain ⟨x5, y5, h5, g5, E5⟩ := add_ev B hA h4
  obtain ⟨x6, y6, h6, g6, E6⟩ := add_ev B hA hn
  obtain ⟨x7, y7, h7, g7, E7⟩ := mul_ev B hA (m := m) k1 (by clear w1 w2 w3; omega)
  obtain ⟨x8, y8, h8, g8, E8⟩ := mul_ev B hA (m := m + 1) (by clear w1 w2 w3; omega) (by clear w1 w2 w3; omega)
  obtain ⟨x9, y9, h9, g9, E9⟩ := add_ev B h7 hA
  obtain ⟨xa, ya, ha, ga, Ea⟩ := mul_ev B hA (m := 8) (by omega) (by omega)
  have Eb := bytes_ev B hA
  have hr := read_back (bx := bx) (by' := by') B.pre hA.x0 hA.x1 hA.y0 hA.y1 ((onEd_iff hN K).2 hA)
  have s1 : x1 = x2 ∧ y1 = y2 := h1.same h2 (by rw [g1, g2]; exact edAdd_comm _ _ _)
  have s2 : x3 = x5 ∧ y3 = y5 := h3.same h5 (by rw [g3, g5, g1, g4]; exact ed_assoc gd hA.on hB.on hG.on)
  have s3 : x6 = 0 ∧ y6 = 1 := h6.same (EdPt.zero hN K) (by rw [g6, fn, toF_zero, toF_one])
  have s4 : x8 = x9 ∧ y8 = y9 := h8.same h9 (by
    rw [g8, g9, g7, show (m + 1).toNat = m.toNat + 1 by clear w1 w2 w3; omega]
    rfl)
  obtain ⟨rfl, rfl⟩ := s1
  obtain ⟨rfl, rfl⟩ := s2
  obtain ⟨rfl, rfl⟩ := s3
  obtain ⟨rfl, rfl⟩ := s4
  have Er : Ev (fun k => impl_EdRead.f k p d q bx by' [y % 256, y / 256 % 256, (y / 65536 + 128 * (x % 2)) % 256]) (x, y, true) := by
    unfold impl_EdRead.f
    refine Ev.bind B.ok ?_
    simp only [if_true]
    exact Ev.bind hr (Ev.now _)
  have Ec : Ev (fun k => impl_EdCofactor.f k p d q bx by' x y) (xa, ya, true) := by
    unfold impl_EdCofactor.f
    exact Ev.bind Ea (Ev.now _)
  obtain ⟨p2, d2, q2, bx2, by2, bs2, r, s, t, F1, F2, F3, F4⟩ := readBack l (by omega)
  rw [← w3] at E6
  rw [← w2, ← w1] at E8
  rw [← w1] at E7
  obtain ⟨j0, e⟩ := e.rounds
  obtain ⟨j1, Eo⟩ := B.ok.rounds
  obtain ⟨j2, Ep⟩ := (pairOk_ev B hA).rounds
  obtain ⟨i1, E1⟩ := E1.rounds
  obtain ⟨i2, E2⟩ := E2.rounds
  obtain ⟨i3, E3⟩ := E3.rounds
  obtain ⟨i4, E4⟩ := E4.rounds
  obtain ⟨i5, E5⟩ := E5.rounds
  obtain ⟨i6, E6⟩ := E6.rounds
  obtain ⟨i7, E7⟩ := E7.rounds
  obtain ⟨i8, E8⟩ := E8.rounds
  obtain ⟨i9, E9⟩ := E9.rounds
  obtain ⟨ia, Ea⟩ := Ea.rounds
  obtain ⟨ib, Eb⟩ := Eb.rounds
  obtain ⟨ic, Ec⟩ := Ec.rounds
  obtain ⟨ie, Er⟩ := Er.rounds
  obtain ⟨f1, F1⟩ := F1.rounds
  obtain ⟨f2, F2⟩ := F2.rounds
  have hp : ¬ p = 0 := by clear w1 w2 w3; omega
  clear w1 w2 w3
  refine lawGood a0 cap0 l w p d q bx by' x y u v x1 y1 x3 y3 x4 y4 x7 y7 x8 y8 xa ya c0 c1 [y % 256, y / 256 % 256, (y / 65536 + 128 * (x % 2)) % 256] p2 d2 q2 bx2 by2 r s t bs2 hp
    ⟨fun W hb => (laws_big.calls a0 cap0 l _ W (Kd.C_below hC hb) hc0 hbig).mono fun e w' ⟨he, hd⟩ => ⟨he, hd.below⟩⟩
    ⟨fun W hb => spec_DrawEd.calls j0 a0 cap0 l _ _ _ _ _ _ _ _ _ W (Kd.C_below hC hb) hc0 e⟩
    ⟨fun W => impl_EdOk.calls j1 _ _ _ _ _ _ W Eo⟩
    ⟨fun W => impl_PairOk.calls j2 _ _ _ _ _ _ _ _ W Ep⟩
    ⟨fun W => impl_EdAdd.calls i1 _ _ _ _ _ _ _ _ _ _ _ _ W E1⟩
    ⟨fun W => impl_EdAdd.calls i2 _ _ _ _ _ _ _ _ _ _ _ _ W E2⟩
    ⟨fun W => impl_EdAdd.calls i3 _ _ _ _ _ _ _ _ _ _ _ _ W E3⟩
    ⟨fun W => impl_EdAdd.calls i4 _ _ _ _ _ _ _ _ _ _ _ _ W E4⟩
    ⟨fun W => impl_EdAdd.calls i5 _ _ _ _ _ _ _ _ _ _ _ _ W E5⟩
    ⟨fun W => impl_EdAdd.calls i6 _ _ _ _ _ _ _ _ _ _ _ _ W E6⟩
    ⟨fun W => impl_EdAdd.calls i9 _ _ _ _ _ _ _ _ _ _ _ _ W E9⟩
    ⟨fun W hb => (laws_at.calls a0 cap0 l 0 _ W (Kd.C_below hC hb) hc0 e0).mono fun e w' ⟨he, hd⟩ => ⟨he, hd.below⟩⟩
    ⟨fun W hb => (laws_at.calls a0 cap0 l 1 _ W (Kd.C_below hC hb) hc0 e1).mono fun e w' ⟨he, hd⟩ => ⟨he, hd.below⟩⟩
    ⟨fun W => impl_EdMul.calls i7 _ _ _ _ _ _ _ _ _ _ _ W E7⟩
    ⟨fun W => impl_EdMul.calls i8 _ _ _ _ _ _ _ _ _ _ _ W E8⟩
    ⟨fun W => impl_EdMul.calls ia _ _ _ _ _ _ _ _ _ _ _ W Ea⟩
    ⟨fun W => impl_EdCofactor.calls ic _ _ _ _ _ _ _ _ _ _ W Ec⟩
    ⟨fun W => (impl_EdBytes.calls ib _ _ _ _ _ _ _ _ _ W Eb).mono fun e w' ⟨v0, he, ho, hb⟩ => ?_⟩
    ⟨fun W A c hA hc => impl_EdRead.calls ie _ _ _ _ _ A c _ _ _ _ W hA hc Er⟩
    ⟨fun W hb => (spec_DrawEdRead.calls f1 a0 cap0 l _ _ _ _ _ _ W (Kd.C_below hC hb) hc0 F1).mono fun e w' ⟨v0, he, ho, hb⟩ => ?_⟩
    ⟨fun W A c hA hc => impl_EdRead.calls f2 _ _ _ _ _ A c _ _ _ _ W hA hc F2⟩
    ⟨fun ht W => ?_⟩ ⟨F3⟩
  · obtain ⟨Av, cv, rfl⟩ := Kd.R_slice ho
    exact ⟨Av, cv, he, RdB.of_R ho, (Kd.R_reads' ho).2.1, hb⟩
  · obtain ⟨Av, cv, rfl⟩ := Kd.R_slice ho
    exact ⟨Av, cv, he, RdB.of_R ho, (Kd.R_reads' ho).2.1, hb⟩
  · obtain ⟨f4, F4⟩ := (F4 ht).rounds
    refine (impl_EdBytes.calls f4 _ _ _ _ _ _ _ _ _ W F4).mono fun e w' ⟨v0, he, ho, hb⟩ => ?_
    obtain ⟨Av, cv, rfl⟩ := Kd.R_slice ho
    exact ⟨Av, cv, he, RdB.of_R ho, (Kd.R_reads' ho).2.1, hb⟩

end Go.Proofs.Ytfdlblckmlbhoaa.Pure
