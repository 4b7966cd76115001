/- The law FnExactPowInt answers true at all numbers: both ways come to what is left of the power. -/
import Derived.Test.YtohplbcbkggjaaaPFnExactPowIntx1
import Derived.Test.YtohplbcbkggjaaaMBits
namespace Go.Proofs.Ytohplbcbkggjaaa.Pure
open Go.RowKit Go.Proofs.Ytohplbcbkggjaaa.PFnExactPowInt Go.Proofs.YtohplbcbkggjaaaW.PrintWords Go.Proofs.YtohplbcbkggjaaaW.PrintLast Go.Proofs.Ytohplbcbkggjaaa.Plain

set_option linter.unusedVariables false
set_option linter.unusedSimpArgs false

theorem w64 {n : Int} (h : -9223372036854775808 ≤ n) (h' : n ≤ 9223372036854775807) : wrap64 n = n := by
  unfold wrap64
  omega

theorem wf64 {n : Int} (h : (Lit.int .i64 n).wf = true) : -9223372036854775808 ≤ n ∧ n ≤ 9223372036854775807 := by
  simpa [Lit.wf, IntKind.min, IntKind.max, IntKind.signed, IntKind.bits] using h

theorem wsucc {i : Nat} (h : i ≤ 1099511627776) : wrap64 ((i : Int) + 1) = ((i + 1 : Nat) : Int) := by
  rw [w64 (by omega) (by omega)]
  omega

theorem wpred {i : Nat} (h : i ≤ 1099511627776) : wrap64 (((i + 1 : Nat) : Int) - 1) = (i : Int) := by
  rw [w64 (by omega) (by omega)]
  omega

theorem in_eq (n a b : Int) : spec_l1In.f n a b = some (decide (a ≤ n ∧ n ≤ b)) := by
  unfold spec_l1In.f
  by_cases h : n ≥ a
  · rw [if_pos h]
    have : a ≤ n := h
    simp [this]
  · rw [if_neg h]
    have : ¬ a ≤ n := h
    simp [this]

theorem within_eq (n a b : Int) : impl_within.f n a b = some (decide (a ≤ n ∧ n ≤ b)) := by
  unfold impl_within.f
  by_cases h : n ≥ a
  · rw [if_pos h]
    have : a ≤ n := h
    simp [this]
  · rw [if_neg h]
    have : ¬ a ≤ n := h
    simp [this]

def tab8 : ByteArray := ⟨#[0, 1, 2, 2, 3, 3, 3, 3, 4, 4, 4, 4, 4, 4, 4, 4, 5, 5, 5, 5, 5, 5, 5, 5, 5, 5, 5, 5, 5, 5, 5, 5, 6, 6, 6, 6, 6, 6, 6, 6, 6, 6, 6, 6, 6, 6, 6, 6, 6, 6, 6, 6, 6, 6, 6, 6, 6, 6, 6, 6, 6, 6, 6, 6, 7, 7, 7, 7, 7, 7, 7, 7, 7, 7, 7, 7, 7, 7, 7, 7, 7, 7, 7, 7, 7, 7, 7, 7, 7, 7, 7, 7, 7, 7, 7, 7, 7, 7, 7, 7, 7, 7, 7, 7, 7, 7, 7, 7, 7, 7, 7, 7, 7, 7, 7, 7, 7, 7, 7, 7, 7, 7, 7, 7, 7, 7, 7, 7, 8, 8, 8, 8, 8, 8, 8, 8, 8, 8, 8, 8, 8, 8, 8, 8, 8, 8, 8, 8, 8, 8, 8, 8, 8, 8, 8, 8, 8, 8, 8, 8, 8, 8, 8, 8, 8, 8, 8, 8, 8, 8, 8, 8, 8, 8, 8, 8, 8, 8, 8, 8, 8, 8, 8, 8, 8, 8, 8, 8, 8, 8, 8, 8, 8, 8, 8, 8, 8, 8, 8, 8, 8, 8, 8, 8, 8, 8, 8, 8, 8, 8, 8, 8, 8, 8, 8, 8, 8, 8, 8, 8, 8, 8, 8, 8, 8, 8, 8, 8, 8, 8, 8, 8, 8, 8, 8, 8, 8, 8, 8, 8, 8, 8, 8, 8, 8, 8, 8, 8, 8, 8, 8, 8, 8, 8, 8, 8]⟩

theorem tab8_all : ∀ n : Fin 256, bt tab8 ((n.val : Nat) : Int) = ((bl n.val : Nat) : Int) := by decide +kernel

set_option maxRecDepth 100000 in
theorem tab8_eq {x : Int} (h0 : 0 ≤ x) (h1 : x < 256) : bt (⟨#[0, 1, 2, 2, 3, 3, 3, 3, 4, 4, 4, 4, 4, 4, 4, 4, 5, 5, 5, 5, 5, 5, 5, 5, 5, 5, 5, 5, 5, 5, 5, 5, 6, 6, 6, 6, 6, 6, 6, 6, 6, 6, 6, 6, 6, 6, 6, 6, 6, 6, 6, 6, 6, 6, 6, 6, 6, 6, 6, 6, 6, 6, 6, 6, 7, 7, 7, 7, 7, 7, 7, 7, 7, 7, 7, 7, 7, 7, 7, 7, 7, 7, 7, 7, 7, 7, 7, 7, 7, 7, 7, 7, 7, 7, 7, 7, 7, 7, 7, 7, 7, 7, 7, 7, 7, 7, 7, 7, 7, 7, 7, 7, 7, 7, 7, 7, 7, 7, 7, 7, 7, 7, 7, 7, 7, 7, 7, 7, 8, 8, 8, 8, 8, 8, 8, 8, 8, 8, 8, 8, 8, 8, 8, 8, 8, 8, 8, 8, 8, 8, 8, 8, 8, 8, 8, 8, 8, 8, 8, 8, 8, 8, 8, 8, 8, 8, 8, 8, 8, 8, 8, 8, 8, 8, 8, 8, 8, 8, 8, 8, 8, 8, 8, 8, 8, 8, 8, 8, 8, 8, 8, 8, 8, 8, 8, 8, 8, 8, 8, 8, 8, 8, 8, 8, 8, 8, 8, 8, 8, 8, 8, 8, 8, 8, 8, 8, 8, 8, 8, 8, 8, 8, 8, 8, 8, 8, 8, 8, 8, 8, 8, 8, 8, 8, 8, 8, 8, 8, 8, 8, 8, 8, 8, 8, 8, 8, 8, 8, 8, 8, 8, 8, 8, 8, 8, 8]⟩ : ByteArray) x = ((bl x.toNat : Nat) : Int) := by
  have := tab8_all ⟨x.toNat, by omega⟩
  unfold tab8 at this
  rw [show (((⟨x.toNat, by omega⟩ : Fin 256).val : Nat) : Int) = x from by simp; omega] at this
  exact this

theorem blI {x : Int} (k : Nat) (h : (2 : Int) ^ k ≤ x) : ((bl x.toNat : Nat) : Int) = ((bl (x / 2 ^ k).toNat : Nat) : Int) + k := by
  have h1 := bl_shift k x.toNat (by have := two_pow_int k; omega)
  have h2 : (x / 2 ^ k).toNat = x.toNat / 2 ^ k := by
    have h3 : 0 < (2 : Int) ^ k := Int.pow_pos (by omega)
    obtain ⟨n, rfl⟩ : ∃ n : Nat, x = n := ⟨x.toNat, by omega⟩
    rw [← two_pow_int, Int.toNat_natCast, ← Int.natCast_ediv, Int.toNat_natCast]
  rw [h2, h1]
  omega

set_option maxRecDepth 100000 in
theorem len64_j0 {x c : Int} (h0 : 0 ≤ x) (h1 : x < 4294967296) (c0 : 0 ≤ c) (c1 : c ≤ 1000) : Ev (fun k => bits_Len64.j0 k x c) (c + ((bl x.toNat : Nat) : Int)) := by
  refine Ev.step (fun k => by rw [bits_Len64.j0]) ?_
  have blb : ∀ y : Int, 0 ≤ y → y < 256 → ((bl y.toNat : Nat) : Int) ≤ 8 := by
    intro y y0 y1
    have := bl_le (n := y.toNat) (k := 8) (by omega)
    omega
  by_cases p1 : x ≥ 65536
  · simp only [if_pos p1]
    have e1 := blI (x := x) 16 (by omega)
    by_cases p2 : x / 65536 ≥ 256
    · have e2 := blI (x := x / 65536) 8 (by omega)
      have r0 : 0 ≤ x / 65536 / 256 := by omega
      have r1 : x / 65536 / 256 < 256 := by omega
      have r2 : x / 65536 / 256 % 256 = x / 65536 / 256 := by omega
      have b := blb (x / 65536 / 256) (by omega) (by omega)
      simp only [if_pos p2, r2, if_pos r0, if_pos r1, tab8_eq r0 r1]
      rw [w64 (n := ((bl (x / 65536 / 256).toNat : Nat) : Int)) (by omega) (by omega), w64 (n := c + 16) (by omega) (by omega), w64 (n := c + 16 + 8) (by omega) (by omega), w64 (by omega) (by omega),
        show c + 16 + 8 + ((bl (x / 65536 / 256).toNat : Nat) : Int) = c + ((bl x.toNat : Nat) : Int) by simp only [show ((2 : Int) ^ 16) = 65536 by decide, show ((2 : Int) ^ 8) = 256 by decide] at e1 e2; omega]
      exact Ev.now _
    · have r0 : 0 ≤ x / 65536 := by omega
      have r1 : x / 65536 < 256 := by omega
      have r2 : x / 65536 % 256 = x / 65536 := by omega
      have b := blb (x / 65536) (by omega) (by omega)
      simp only [if_neg p2, r2, if_pos r0, if_pos r1, tab8_eq r0 r1]
      rw [w64 (n := ((bl (x / 65536).toNat : Nat) : Int)) (by omega) (by omega), w64 (n := c + 16) (by omega) (by omega), w64 (by omega) (by omega),
        show c + 16 + ((bl (x / 65536).toNat : Nat) : Int) = c + ((bl x.toNat : Nat) : Int) by simp only [show ((2 : Int) ^ 16) = 65536 by decide] at e1; omega]
      exact Ev.now _
  · simp only [if_neg p1]
    by_cases p2 : x ≥ 256
    · have e2 := blI (x := x) 8 (by omega)
      have r0 : 0 ≤ x / 256 := by omega
      have r1 : x / 256 < 256 := by omega
      have r2 : x / 256 % 256 = x / 256 := by omega
      have b := blb (x / 256) (by omega) (by omega)
      simp only [if_pos p2, r2, if_pos r0, if_pos r1, tab8_eq r0 r1]
      rw [w64 (n := ((bl (x / 256).toNat : Nat) : Int)) (by omega) (by omega), w64 (n := c + 8) (by omega) (by omega), w64 (by omega) (by omega),
        show c + 8 + ((bl (x / 256).toNat : Nat) : Int) = c + ((bl x.toNat : Nat) : Int) by simp only [show ((2 : Int) ^ 8) = 256 by decide] at e2; omega]
      exact Ev.now _
    · have r0 : 0 ≤ x := by omega
      have r1 : x < 256 := by omega
      have r2 : x % 256 = x := by omega
      have b := blb x (by omega) (by omega)
      simp only [if_neg p2, r2, if_pos r0, if_pos r1, tab8_eq r0 r1]
      rw [w64 (n := ((bl x.toNat : Nat) : Int)) (by omega) (by omega), w64 (by omega) (by omega)]
      exact Ev.now _

theorem len_eq {x : Int} (h0 : 0 ≤ x) (h1 : x < 18446744073709551616) : Ev (fun k => bits_Len.f k x) ((bl x.toNat : Nat) : Int) := by
  unfold bits_Len.f bits_Len64.f
  by_cases p : x ≥ 4294967296
  · simp only [if_pos p]
    have e := blI (x := x) 32 (by omega)
    have := len64_j0 (x := x / 4294967296) (c := 32) (by omega) (by omega) (by omega) (by omega)
    rw [show 32 + ((bl (x / 4294967296).toNat : Nat) : Int) = ((bl x.toNat : Nat) : Int) by simp only [show ((2 : Int) ^ 32) = 4294967296 by decide] at e; omega] at this
    exact Ev.bind this (Ev.now _)
  · simp only [if_neg p]
    have := len64_j0 (x := x) (c := 0) (by omega) (by omega) (by omega) (by omega)
    rw [Int.zero_add] at this
    exact Ev.bind this (Ev.now _)

theorem u64w {x : Int} (h0 : 0 ≤ x) (h1 : x < 18446744073709551616) : IntKind.u64.wrap x = x := by
  rw [show IntKind.u64.wrap x = x % 18446744073709551616 from by simp [IntKind.wrap, IntKind.bits, IntKind.signed]]
  omega

theorem and1 {x : Int} (h0 : 0 ≤ x) (h1 : x < 9223372036854775808) : Go.bits .and .i64 x 1 = x % 2 := by
  have := bits_mask .i64 63 (by decide) (fun n a b => by rw [IntKind.wrap_i64]; omega) 1 (by decide) x h0 (by simpa using h1)
  simpa using this

theorem mulmod (x y m : Int) : x % m * (y % m) % m = x * y % m := (Int.mul_emod x y m).symm

theorem mod_bd (x : Int) {m : Int} (h : 1 ≤ m) (h' : m ≤ 1073741824) : 0 ≤ x % m ∧ x % m < m := ⟨Int.emod_nonneg _ (by omega), Int.emod_lt_of_pos _ (by omega)⟩

theorem mul_small {x y : Int} (hx : 0 ≤ x) (hx' : x < 1073741824) (hy : 0 ≤ y) (hy' : y < 1073741824) : 0 ≤ x * y ∧ wrap64 (x * y) = x * y := by
  have h1 : 0 ≤ x * y := Int.mul_nonneg hx hy
  have h2 : x * y ≤ 1073741823 * 1073741823 := Int.mul_le_mul (by omega) (by omega) hy (by omega)
  exact ⟨h1, w64 (by omega) (by omega)⟩

theorem one_mod' {m : Int} (h : 1 ≤ m) : (1 : Int) % m = 1 % m := rfl

theorem implPow_loop (a m : Int) (E : Nat) (hE : E < 9223372036854775808) (hm : 1 ≤ m) (hm' : m ≤ 1073741824) : ∀ (n : Nat), n ≤ 64 →
    Ev (fun k => impl_powInt.l0 k (a % m) (E : Int) m (a ^ (E / 2 ^ n) % m) ((n : Int) - 1)) (a ^ E % m) := by
  intro n
  induction n with
  | zero =>
    intro _
    refine Ev.step (fun k => by rw [impl_powInt.l0]) ?_
    simp only [if_neg (show ¬ ((0 : Nat) : Int) - 1 ≥ 0 by omega), Nat.pow_zero, Nat.div_one]
    exact Ev.now _
  | succ n ih =>
    intro hn
    have ih := ih (by omega)
    have st := div_step E n
    have b1 := mod_bd (a ^ (E / 2 ^ (n + 1))) hm hm'
    have b2 := mod_bd a hm hm'
    have b3 := mod_bd (a ^ (E / 2 ^ (n + 1)) * a ^ (E / 2 ^ (n + 1))) hm hm'
    obtain ⟨p0, w0⟩ := mul_small b1.1 (by omega) b1.1 (by omega)
    obtain ⟨p1, w1⟩ := mul_small b3.1 (by omega) b2.1 (by omega)
    have sh : shr .i64 (E : Int) (n : Int) = ((E / 2 ^ n : Nat) : Int) := by
      unfold shr
      rw [Int.toNat_natCast, Nat.min_eq_left (by simp [IntKind.bits]; omega), ← two_pow_int]
      exact (Int.natCast_ediv _ _).symm
    have le : E / 2 ^ n ≤ E := Nat.div_le_self _ _
    have an := and1 (x := ((E / 2 ^ n : Nat) : Int)) (by omega) (by clear w0 w1 st; omega)
    have q0 : ((n + 1 : Nat) : Int) - 1 = (n : Int) := by clear w0 w1 sh an; omega
    have q1 : (n : Int) ≥ 0 := by clear w0 w1 sh an; omega
    have q2 : ¬ m = 0 := by clear w0 w1 sh an; omega
    have q3 : 0 ≤ (n : Int) := by clear w0 w1 sh an; omega
    have q4 : wrap64 ((n : Int) - 1) = (n : Int) - 1 := by clear w0 w1 sh an; exact w64 (by omega) (by omega)
    refine Ev.step (fun k => by rw [impl_powInt.l0]) ?_
    simp only [q0, if_pos q1, if_neg q2, if_pos q3, sh, an, q4, w0, Int.tmod_eq_emod_of_nonneg p0, mulmod, w1, Int.tmod_eq_emod_of_nonneg p1]
    rcases Nat.mod_two_eq_zero_or_one (E / 2 ^ n) with hb | hb
    · rw [hb, Nat.add_zero] at st
      simp only [if_neg (show ¬ ((E / 2 ^ n : Nat) : Int) % 2 = 1 by clear w0 w1 sh an q4; omega)]
      rw [st, Nat.two_mul, Int.pow_add] at ih
      exact ih
    · rw [hb] at st
      simp only [if_pos (show ((E / 2 ^ n : Nat) : Int) % 2 = 1 by clear w0 w1 sh an q4; omega)]
      rw [st, Nat.two_mul, Int.pow_add, Int.pow_add, Int.pow_one] at ih
      exact ih

theorem implPow_eq {a e m : Int} (ha : 0 ≤ a) (he : 0 ≤ e) (he' : e ≤ 9223372036854775807) (hm : 1 ≤ m) (hm' : m ≤ 1073741824) : Ev (fun k => impl_powInt.f k a e m) (a ^ e.toNat % m) := by
  obtain ⟨E, rfl⟩ : ∃ E : Nat, e = E := ⟨e.toNat, by omega⟩
  unfold impl_powInt.f
  simp only [if_neg (show ¬ m = 0 by omega), Int.toNat_natCast]
  rw [u64w he (by omega), Int.tmod_eq_emod_of_nonneg ha]
  refine Ev.bind (len_eq he (by omega)) ?_
  rw [Int.toNat_natCast]
  have hl := bl_le (n := E) (k := 64) (by omega)
  have := implPow_loop a m E (by omega) hm hm' (bl E) (by omega)
  rw [Nat.div_eq_of_lt (bl_lt E), Int.pow_zero] at this
  rw [w64 (by omega) (by omega)]
  exact this

theorem specPow_loop (m : Int) (hm : 1 ≤ m) (hm' : m ≤ 1073741824) : ∀ (n E : Nat) (x y : Int), E ≤ n → E < 9223372036854775808 →
    Ev (fun k => spec_l2Pow.l0 k (E : Int) m (x % m) (y % m)) (x * y ^ E % m) := by
  intro n
  induction n with
  | zero =>
    intro E x y hE hE'
    obtain rfl : E = 0 := by omega
    refine Ev.step (fun k => by rw [spec_l2Pow.l0]) ?_
    simp only [if_neg (show ¬ ((0 : Nat) : Int) > 0 by omega), Int.pow_zero, Int.mul_one]
    exact Ev.now _
  | succ n ih =>
    intro E x y hE hE'
    by_cases h0 : E = 0
    · subst h0; exact ih 0 x y (by omega) (by omega)
    · have b1 := mod_bd x hm hm'
      have b2 := mod_bd y hm hm'
      obtain ⟨p0, w0⟩ := mul_small b1.1 (by omega) b2.1 (by omega)
      obtain ⟨p1, w1⟩ := mul_small b2.1 (by omega) b2.1 (by omega)
      have q0 : (E : Int) > 0 := by clear w0 w1; omega
      have q1 : ¬ m = 0 := by clear w0 w1; omega
      have q2 : wrap64 (Int.tdiv (E : Int) 2) = ((E / 2 : Nat) : Int) := by
        rw [Int.tdiv_eq_ediv_of_nonneg (by clear w0 w1; omega), w64 (by clear w0 w1; omega) (by clear w0 w1; omega)]
        clear w0 w1; omega
      have q3 : Int.tmod (E : Int) 2 = ((E % 2 : Nat) : Int) := by rw [Int.tmod_eq_emod_of_nonneg (by clear w0 w1 q2; omega)]; clear w0 w1 q2; omega
      refine Ev.step (fun k => by rw [spec_l2Pow.l0]) ?_
      simp only [if_pos q0, if_neg q1, q2, q3, w0, w1, Int.tmod_eq_emod_of_nonneg p0, Int.tmod_eq_emod_of_nonneg p1, mulmod]
      clear q2 q3 w0 w1
      have hyy : (y * y) ^ (E / 2) = y ^ (2 * (E / 2)) := by rw [Nat.two_mul, Int.pow_add, Int.mul_pow]
      rcases Nat.mod_two_eq_zero_or_one E with hb | hb
      · simp only [hb, if_neg (show ¬ ((0 : Nat) : Int) = 1 by omega)]
        have := ih (E / 2) x (y * y) (by omega) (by omega)
        rw [hyy, show 2 * (E / 2) = E by omega] at this
        exact this
      · simp only [hb, if_pos (show ((1 : Nat) : Int) = 1 by omega)]
        have := ih (E / 2) (x * y) (y * y) (by omega) (by omega)
        rw [hyy, Int.mul_assoc, ← Int.pow_succ', show 2 * (E / 2) + 1 = E by omega] at this
        exact this

theorem specPow_eq {a e m : Int} (ha : 0 ≤ a) (he : 0 ≤ e) (he' : e ≤ 9223372036854775807) (hm : 1 ≤ m) (hm' : m ≤ 1073741824) : Ev (fun k => spec_l2Pow.f k a e m) (a ^ e.toNat % m) := by
  obtain ⟨E, rfl⟩ : ∃ E : Nat, e = E := ⟨e.toNat, by omega⟩
  unfold spec_l2Pow.f
  simp only [if_neg (show ¬ m = 0 by omega), Int.toNat_natCast]
  rw [Int.tmod_eq_emod_of_nonneg ha]
  have := specPow_loop m hm hm' E E 1 a (Nat.le_refl _) (by omega)
  rw [Int.one_mul] at this
  exact this

theorem FnExactPowInt : laws_FnExactPowInt.Pure := by
  intro a e m ha he hm
  have ha := wf64 ha
  have he := wf64 he
  refine Ev.rounds (r := true) ?_
  unfold laws_FnExactPowInt.f spec_PowInt.f impl_PowInt.f
  by_cases h1 : a < 0
  · simp only [if_pos h1, Option.bind_some, if_true, bne_self_eq_false]
    simpa using Ev.now true
  by_cases h2 : e < 0
  · simp only [if_neg h1, if_pos h2, Option.bind_some, if_true, bne_self_eq_false]
    simpa using Ev.now true
  simp only [if_neg h1, if_neg h2, in_eq, within_eq, Option.bind_some]
  by_cases h3 : 1 ≤ m ∧ m ≤ 1073741824
  · simp only [h3.1, h3.2, and_self, decide_true, if_true]
    refine Ev.bind (Ev.bind (specPow_eq (by omega) (by omega) he.2 h3.1 h3.2) (Ev.now _)) (Ev.bind (Ev.bind (implPow_eq (by omega) (by omega) he.2 h3.1 h3.2) (Ev.now _)) ?_)
    simp only [if_true, bne_self_eq_false]
    simpa using Ev.now true
  · simp only [h3, decide_false]
    simpa using Ev.now true

end Go.Proofs.Ytohplbcbkggjaaa.Pure
