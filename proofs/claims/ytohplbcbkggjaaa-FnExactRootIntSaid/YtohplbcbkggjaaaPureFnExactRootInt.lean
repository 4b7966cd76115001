/- The law FnExactRootInt answers true at all numbers: both come to the least root, or both to none. -/
import Derived.Test.YtohplbcbkggjaaaPFnExactRootIntx2
import Derived.Test.YtohplbcbkggjaaaMBits
import Derived.Test.YtohplbcbkggjaaaMInv
import Derived.Test.YtohplbcbkggjaaaMField
import Derived.Test.YtohplbcbkggjaaaMRoot
namespace Go.Proofs.Ytohplbcbkggjaaa.Pure
open Go.RowKit Go.Proofs.Ytohplbcbkggjaaa.PFnExactRootInt Go.Proofs.YtohplbcbkggjaaaW.PrintWords Go.Proofs.YtohplbcbkggjaaaW.PrintLast Go.Proofs.Ytohplbcbkggjaaa.Plain

set_option linter.unusedVariables false
set_option linter.unusedSimpArgs false

theorem w64 {n : Int} (h : -9223372036854775808 ≤ n) (h' : n ≤ 9223372036854775807) : wrap64 n = n := by
  unfold wrap64
  omega

theorem wf64 {n : Int} (h : (Lit.int .i64 n).wf = true) : -9223372036854775808 ≤ n ∧ n ≤ 9223372036854775807 := by
  simpa [Lit.wf, IntKind.min, IntKind.max, IntKind.signed, IntKind.bits] using h

theorem wsucc {i : Nat} (h : i ≤ 1099511627776) : wrap64 ((i : Int) + 1) = ((i + 1 : Nat) : Int) := by
  rw [w64 (by omega) (by omega)]
  omega

theorem wpred {i : Nat} (h : i ≤ 1099511627776) : wrap64 (((i + 1 : Nat) : Int) - 1) = (i : Int) := by
  rw [w64 (by omega) (by omega)]
  omega

theorem in_eq (n a b : Int) : spec_l1In.f n a b = some (decide (a ≤ n ∧ n ≤ b)) := by
  unfold spec_l1In.f
  by_cases h : n ≥ a
  · rw [if_pos h]
    have : a ≤ n := h
    simp [this]
  · rw [if_neg h]
    have : ¬ a ≤ n := h
    simp [this]

theorem within_eq (n a b : Int) : impl_within.f n a b = some (decide (a ≤ n ∧ n ≤ b)) := by
  unfold impl_within.f
  by_cases h : n ≥ a
  · rw [if_pos h]
    have : a ≤ n := h
    simp [this]
  · rw [if_neg h]
    have : ¬ a ≤ n := h
    simp [this]

def tab8 : ByteArray := ⟨#[0, 1, 2, 2, 3, 3, 3, 3, 4, 4, 4, 4, 4, 4, 4, 4, 5, 5, 5, 5, 5, 5, 5, 5, 5, 5, 5, 5, 5, 5, 5, 5, 6, 6, 6, 6, 6, 6, 6, 6, 6, 6, 6, 6, 6, 6, 6, 6, 6, 6, 6, 6, 6, 6, 6, 6, 6, 6, 6, 6, 6, 6, 6, 6, 7, 7, 7, 7, 7, 7, 7, 7, 7, 7, 7, 7, 7, 7, 7, 7, 7, 7, 7, 7, 7, 7, 7, 7, 7, 7, 7, 7, 7, 7, 7, 7, 7, 7, 7, 7, 7, 7, 7, 7, 7, 7, 7, 7, 7, 7, 7, 7, 7, 7, 7, 7, 7, 7, 7, 7, 7, 7, 7, 7, 7, 7, 7, 7, 8, 8, 8, 8, 8, 8, 8, 8, 8, 8, 8, 8, 8, 8, 8, 8, 8, 8, 8, 8, 8, 8, 8, 8, 8, 8, 8, 8, 8, 8, 8, 8, 8, 8, 8, 8, 8, 8, 8, 8, 8, 8, 8, 8, 8, 8, 8, 8, 8, 8, 8, 8, 8, 8, 8, 8, 8, 8, 8, 8, 8, 8, 8, 8, 8, 8, 8, 8, 8, 8, 8, 8, 8, 8, 8, 8, 8, 8, 8, 8, 8, 8, 8, 8, 8, 8, 8, 8, 8, 8, 8, 8, 8, 8, 8, 8, 8, 8, 8, 8, 8, 8, 8, 8, 8, 8, 8, 8, 8, 8, 8, 8, 8, 8, 8, 8, 8, 8, 8, 8, 8, 8, 8, 8, 8, 8, 8, 8]⟩

theorem tab8_all : ∀ n : Fin 256, bt tab8 ((n.val : Nat) : Int) = ((bl n.val : Nat) : Int) := by decide +kernel

set_option maxRecDepth 100000 in
theorem tab8_eq {x : Int} (h0 : 0 ≤ x) (h1 : x < 256) : bt (⟨#[0, 1, 2, 2, 3, 3, 3, 3, 4, 4, 4, 4, 4, 4, 4, 4, 5, 5, 5, 5, 5, 5, 5, 5, 5, 5, 5, 5, 5, 5, 5, 5, 6, 6, 6, 6, 6, 6, 6, 6, 6, 6, 6, 6, 6, 6, 6, 6, 6, 6, 6, 6, 6, 6, 6, 6, 6, 6, 6, 6, 6, 6, 6, 6, 7, 7, 7, 7, 7, 7, 7, 7, 7, 7, 7, 7, 7, 7, 7, 7, 7, 7, 7, 7, 7, 7, 7, 7, 7, 7, 7, 7, 7, 7, 7, 7, 7, 7, 7, 7, 7, 7, 7, 7, 7, 7, 7, 7, 7, 7, 7, 7, 7, 7, 7, 7, 7, 7, 7, 7, 7, 7, 7, 7, 7, 7, 7, 7, 8, 8, 8, 8, 8, 8, 8, 8, 8, 8, 8, 8, 8, 8, 8, 8, 8, 8, 8, 8, 8, 8, 8, 8, 8, 8, 8, 8, 8, 8, 8, 8, 8, 8, 8, 8, 8, 8, 8, 8, 8, 8, 8, 8, 8, 8, 8, 8, 8, 8, 8, 8, 8, 8, 8, 8, 8, 8, 8, 8, 8, 8, 8, 8, 8, 8, 8, 8, 8, 8, 8, 8, 8, 8, 8, 8, 8, 8, 8, 8, 8, 8, 8, 8, 8, 8, 8, 8, 8, 8, 8, 8, 8, 8, 8, 8, 8, 8, 8, 8, 8, 8, 8, 8, 8, 8, 8, 8, 8, 8, 8, 8, 8, 8, 8, 8, 8, 8, 8, 8, 8, 8, 8, 8, 8, 8, 8, 8]⟩ : ByteArray) x = ((bl x.toNat : Nat) : Int) := by
  have := tab8_all ⟨x.toNat, by omega⟩
  unfold tab8 at this
  rw [show (((⟨x.toNat, by omega⟩ : Fin 256).val : Nat) : Int) = x from by simp; omega] at this
  exact this

theorem blI {x : Int} (k : Nat) (h : (2 : Int) ^ k ≤ x) : ((bl x.toNat : Nat) : Int) = ((bl (x / 2 ^ k).toNat : Nat) : Int) + k := by
  have h1 := bl_shift k x.toNat (by have := two_pow_int k; omega)
  have h2 : (x / 2 ^ k).toNat = x.toNat / 2 ^ k := by
    have h3 : 0 < (2 : Int) ^ k := Int.pow_pos (by omega)
    obtain ⟨n, rfl⟩ : ∃ n : Nat, x = n := ⟨x.toNat, by omega⟩
    rw [← two_pow_int, Int.toNat_natCast, ← Int.natCast_ediv, Int.toNat_natCast]
  rw [h2, h1]
  omega

set_option maxRecDepth 100000 in
theorem len64_j0 {x c : Int} (h0 : 0 ≤ x) (h1 : x < 4294967296) (c0 : 0 ≤ c) (c1 : c ≤ 1000) : Ev (fun k => bits_Len64.j0 k x c) (c + ((bl x.toNat : Nat) : Int)) := by
  refine Ev.step (fun k => by rw [bits_Len64.j0]) ?_
  have blb : ∀ y : Int, 0 ≤ y → y < 256 → ((bl y.toNat : Nat) : Int) ≤ 8 := by
    intro y y0 y1
    have := bl_le (n := y.toNat) (k := 8) (by omega)
    omega
  by_cases p1 : x ≥ 65536
  · simp only [if_pos p1]
    have e1 := blI (x := x) 16 (by omega)
    by_cases p2 : x / 65536 ≥ 256
    · have e2 := blI (x := x / 65536) 8 (by omega)
      have r0 : 0 ≤ x / 65536 / 256 := by omega
      have r1 : x / 65536 / 256 < 256 := by omega
      have r2 : x / 65536 / 256 % 256 = x / 65536 / 256 := by omega
      have b := blb (x / 65536 / 256) (by omega) (by omega)
      simp only [if_pos p2, r2, if_pos r0, if_pos r1, tab8_eq r0 r1]
      rw [w64 (n := ((bl (x / 65536 / 256).toNat : Nat) : Int)) (by omega) (by omega), w64 (n := c + 16) (by omega) (by omega), w64 (n := c + 16 + 8) (by omega) (by omega), w64 (by omega) (by omega),
        show c + 16 + 8 + ((bl (x / 65536 / 256).toNat : Nat) : Int) = c + ((bl x.toNat : Nat) : Int) by simp only [show ((2 : Int) ^ 16) = 65536 by decide, show ((2 : Int) ^ 8) = 256 by decide] at e1 e2; omega]
      exact Ev.now _
    · have r0 : 0 ≤ x / 65536 := by omega
      have r1 : x / 65536 < 256 := by omega
      have r2 : x / 65536 % 256 = x / 65536 := by omega
      have b := blb (x / 65536) (by omega) (by omega)
      simp only [if_neg p2, r2, if_pos r0, if_pos r1, tab8_eq r0 r1]
      rw [w64 (n := ((bl (x / 65536).toNat : Nat) : Int)) (by omega) (by omega), w64 (n := c + 16) (by omega) (by omega), w64 (by omega) (by omega),
        show c + 16 + ((bl (x / 65536).toNat : Nat) : Int) = c + ((bl x.toNat : Nat) : Int) by simp only [show ((2 : Int) ^ 16) = 65536 by decide] at e1; omega]
      exact Ev.now _
  · simp only [if_neg p1]
    by_cases p2 : x ≥ 256
    · have e2 := blI (x := x) 8 (by omega)
      have r0 : 0 ≤ x / 256 := by omega
      have r1 : x / 256 < 256 := by omega
      have r2 : x / 256 % 256 = x / 256 := by omega
      have b := blb (x / 256) (by omega) (by omega)
      simp only [if_pos p2, r2, if_pos r0, if_pos r1, tab8_eq r0 r1]
      rw [w64 (n := ((bl (x / 256).toNat : Nat) : Int)) (by omega) (by omega), w64 (n := c + 8) (by omega) (by omega), w64 (by omega) (by omega),
        show c + 8 + ((bl (x / 256).toNat : Nat) : Int) = c + ((bl x.toNat : Nat) : Int) by simp only [show ((2 : Int) ^ 8) = 256 by decide] at e2; omega]
      exact Ev.now _
    · have r0 : 0 ≤ x := by omega
      have r1 : x < 256 := by omega
      have r2 : x % 256 = x := by omega
      have b := blb x (by omega) (by omega)
      simp only [if_neg p2, r2, if_pos r0, if_pos r1, tab8_eq r0 r1]
      rw [w64 (n := ((bl x.toNat : Nat) : Int)) (by omega) (by omega), w64 (by omega) (by omega)]
      exact Ev.now _

theorem len_eq {x : Int} (h0 : 0 ≤ x) (h1 : x < 18446744073709551616) : Ev (fun k => bits_Len.f k x) ((bl x.toNat : Nat) : Int) := by
  unfold bits_Len.f bits_Len64.f
  by_cases p : x ≥ 4294967296
  · simp only [if_pos p]
    have e := blI (x := x) 32 (by omega)
    have := len64_j0 (x := x / 4294967296) (c := 32) (by omega) (by omega) (by omega) (by omega)
    rw [show 32 + ((bl (x / 4294967296).toNat : Nat) : Int) = ((bl x.toNat : Nat) : Int) by simp only [show ((2 : Int) ^ 32) = 4294967296 by decide] at e; omega] at this
    exact Ev.bind this (Ev.now _)
  · simp only [if_neg p]
    have := len64_j0 (x := x) (c := 0) (by omega) (by omega) (by omega) (by omega)
    rw [Int.zero_add] at this
    exact Ev.bind this (Ev.now _)

theorem u64w {x : Int} (h0 : 0 ≤ x) (h1 : x < 18446744073709551616) : IntKind.u64.wrap x = x := by
  rw [show IntKind.u64.wrap x = x % 18446744073709551616 from by simp [IntKind.wrap, IntKind.bits, IntKind.signed]]
  omega

theorem and1 {x : Int} (h0 : 0 ≤ x) (h1 : x < 9223372036854775808) : Go.bits .and .i64 x 1 = x % 2 := by
  have := bits_mask .i64 63 (by decide) (fun n a b => by rw [IntKind.wrap_i64]; omega) 1 (by decide) x h0 (by simpa using h1)
  simpa using this

theorem mulmod (x y m : Int) : x % m * (y % m) % m = x * y % m := (Int.mul_emod x y m).symm

theorem mod_bd (x : Int) {m : Int} (h : 1 ≤ m) (h' : m ≤ 1073741824) : 0 ≤ x % m ∧ x % m < m := ⟨Int.emod_nonneg _ (by omega), Int.emod_lt_of_pos _ (by omega)⟩

theorem mul_small {x y : Int} (hx : 0 ≤ x) (hx' : x < 1073741824) (hy : 0 ≤ y) (hy' : y < 1073741824) : 0 ≤ x * y ∧ wrap64 (x * y) = x * y := by
  have h1 : 0 ≤ x * y := Int.mul_nonneg hx hy
  have h2 : x * y ≤ 1073741823 * 1073741823 := Int.mul_le_mul (by omega) (by omega) hy (by omega)
  exact ⟨h1, w64 (by omega) (by omega)⟩

theorem one_mod' {m : Int} (h : 1 ≤ m) : (1 : Int) % m = 1 % m := rfl

theorem implPow_loop (a m : Int) (E : Nat) (hE : E < 9223372036854775808) (hm : 1 ≤ m) (hm' : m ≤ 1073741824) : ∀ (n : Nat), n ≤ 64 →
    Ev (fun k => impl_powInt.l0 k (a % m) (E : Int) m (a ^ (E / 2 ^ n) % m) ((n : Int) - 1)) (a ^ E % m) := by
  intro n
  induction n with
  | zero =>
    intro _
    refine Ev.step (fun k => by rw [impl_powInt.l0]) ?_
    simp only [if_neg (show ¬ ((0 : Nat) : Int) - 1 ≥ 0 by omega), Nat.pow_zero, Nat.div_one]
    exact Ev.now _
  | succ n ih =>
    intro hn
    have ih := ih (by omega)
    have st := div_step E n
    have b1 := mod_bd (a ^ (E / 2 ^ (n + 1))) hm hm'
    have b2 := mod_bd a hm hm'
    have b3 := mod_bd (a ^ (E / 2 ^ (n + 1)) * a ^ (E / 2 ^ (n + 1))) hm hm'
    obtain ⟨p0, w0⟩ := mul_small b1.1 (by omega) b1.1 (by omega)
    obtain ⟨p1, w1⟩ := mul_small b3.1 (by omega) b2.1 (by omega)
    have sh : shr .i64 (E : Int) (n : Int) = ((E / 2 ^ n : Nat) : Int) := by
      unfold shr
      rw [Int.toNat_natCast, Nat.min_eq_left (by simp [IntKind.bits]; omega), ← two_pow_int]
      exact (Int.natCast_ediv _ _).symm
    have le : E / 2 ^ n ≤ E := Nat.div_le_self _ _
    have an := and1 (x := ((E / 2 ^ n : Nat) : Int)) (by omega) (by clear w0 w1 st; omega)
    have q0 : ((n + 1 : Nat) : Int) - 1 = (n : Int) := by clear w0 w1 sh an; omega
    have q1 : (n : Int) ≥ 0 := by clear w0 w1 sh an; omega
    have q2 : ¬ m = 0 := by clear w0 w1 sh an; omega
    have q3 : 0 ≤ (n : Int) := by clear w0 w1 sh an; omega
    have q4 : wrap64 ((n : Int) - 1) = (n : Int) - 1 := by clear w0 w1 sh an; exact w64 (by omega) (by omega)
    refine Ev.step (fun k => by rw [impl_powInt.l0]) ?_
    simp only [q0, if_pos q1, if_neg q2, if_pos q3, sh, an, q4, w0, Int.tmod_eq_emod_of_nonneg p0, mulmod, w1, Int.tmod_eq_emod_of_nonneg p1]
    rcases Nat.mod_two_eq_zero_or_one (E / 2 ^ n) with hb | hb
    · rw [hb, Nat.add_zero] at st
      simp only [if_neg (show ¬ ((E / 2 ^ n : Nat) : Int) % 2 = 1 by clear w0 w1 sh an q4; omega)]
      rw [st, Nat.two_mul, Int.pow_add] at ih
      exact ih
    · rw [hb] at st
      simp only [if_pos (show ((E / 2 ^ n : Nat) : Int) % 2 = 1 by clear w0 w1 sh an q4; omega)]
      rw [st, Nat.two_mul, Int.pow_add, Int.pow_add, Int.pow_one] at ih
      exact ih

theorem implPow_eq {a e m : Int} (ha : 0 ≤ a) (he : 0 ≤ e) (he' : e ≤ 9223372036854775807) (hm : 1 ≤ m) (hm' : m ≤ 1073741824) : Ev (fun k => impl_powInt.f k a e m) (a ^ e.toNat % m) := by
  obtain ⟨E, rfl⟩ : ∃ E : Nat, e = E := ⟨e.toNat, by omega⟩
  unfold impl_powInt.f
  simp only [if_neg (show ¬ m = 0 by omega), Int.toNat_natCast]
  rw [u64w he (by omega), Int.tmod_eq_emod_of_nonneg ha]
  refine Ev.bind (len_eq he (by omega)) ?_
  rw [Int.toNat_natCast]
  have hl := bl_le (n := E) (k := 64) (by omega)
  have := implPow_loop a m E (by omega) hm hm' (bl E) (by omega)
  rw [Nat.div_eq_of_lt (bl_lt E), Int.pow_zero] at this
  rw [w64 (by omega) (by omega)]
  exact this

theorem sprime_loop (n : Int) (hn : n ≤ 1099511627776) (h2 : 2 ≤ n) : ∀ (m : Nat) (d : Int), 2 ≤ d → (1048580 - d).toNat ≤ m → d ≤ 1048577 → (∀ c, 2 ≤ c → c < d → ¬ c ∣ n) →
    ∃ r, (r = true → Prm n) ∧ (r = false → ¬ Prm n) ∧ Ev (fun k => spec_PrimeInt.l0 k n d) r := by
  intro m
  induction m with
  | zero => intro d h h1 h2; omega
  | succ m ih =>
    intro d h h1 h3 hc
    have e0 : 0 ≤ d * d := Int.mul_nonneg (by omega) (by omega)
    have e1 : d * d ≤ 1048577 * 1048577 := Int.mul_le_mul h3 h3 (by omega) (by omega)
    have h5 : d * d ≤ n → d ≤ 1048576 := by
      intro k
      rcases Int.lt_or_le 1048576 d with h6 | h6
      · have : (1048577 : Int) * 1048577 ≤ d * d := Int.mul_le_mul h6 h6 (by omega) (by omega)
        omega
      · exact h6
    have ew : wrap64 (d * d) = d * d := w64 (by omega) (by omega)
    by_cases h6 : d * d ≤ n
    · have hd := h5 h6
      by_cases h4 : n % d = 0
      · refine ⟨false, fun k => (by cases k), fun _ k => k.2 d h h6 (Int.dvd_of_emod_eq_zero h4), Ev.step (fun k => by rw [spec_PrimeInt.l0]) ?_⟩
        simp only [ew, if_pos h6, if_neg (show ¬ d = 0 by clear ew; omega), Int.tmod_eq_emod_of_nonneg (show 0 ≤ n by clear ew; omega), if_pos h4]
        exact Ev.now _
      · obtain ⟨r, r1, r2, e⟩ := ih (d + 1) (by clear ew; omega) (by clear ew; omega) (by clear ew; omega) (fun c c0 c1 => by
          by_cases hcd : c = d
          · subst hcd; intro k; exact h4 (Int.emod_eq_zero_of_dvd k)
          · exact hc c c0 (by clear ew; omega))
        refine ⟨r, r1, r2, Ev.step (fun k => by rw [spec_PrimeInt.l0]) ?_⟩
        simp only [ew, if_pos h6, if_neg (show ¬ d = 0 by clear ew; omega), Int.tmod_eq_emod_of_nonneg (show 0 ≤ n by clear ew; omega), if_neg h4]
        clear ew
        rw [w64 (n := d + 1) (by omega) (by omega)]
        exact e
    · refine ⟨true, fun _ => ⟨h2, fun c c0 c1 c2 => ?_⟩, fun k => (by cases k), Ev.step (fun k => by rw [spec_PrimeInt.l0]) ?_⟩
      · refine hc c c0 ?_ c2
        rcases Int.lt_or_le c d with h7 | h7
        · exact h7
        · have : d * d ≤ c * c := Int.mul_le_mul h7 h7 (by clear ew; omega) (by clear ew; omega)
          clear ew; omega
      · simp only [ew, if_neg h6]
        exact Ev.now _

theorem sprime_eq (n : Int) : ∃ r, (r = true → Prm n ∧ n ≤ 1099511627776) ∧ (r = false → ¬ (Prm n ∧ n ≤ 1099511627776)) ∧ Ev (fun k => spec_PrimeInt.f k n) r := by
  unfold spec_PrimeInt.f
  simp only [in_eq, Option.bind_some]
  by_cases h : 2 ≤ n ∧ n ≤ 1099511627776
  · obtain ⟨r, r1, r2, e⟩ := sprime_loop n h.2 h.1 1048578 2 (by omega) (by omega) (by omega) (fun c c0 c1 => by omega)
    refine ⟨r, fun k => ⟨r1 k, h.2⟩, fun k q => r2 k q.1, ?_⟩
    simp only [h.1, h.2, and_self, decide_true, if_true]
    exact e
  · refine ⟨false, fun k => (by cases k), fun _ q => h ⟨q.1.1, q.2⟩, ?_⟩
    simp only [h, decide_false]
    simpa using Ev.now false

theorem iprime_loop (n : Int) (hn : n ≤ 1099511627776) (h2 : 2 ≤ n) : ∀ (m : Nat) (d : Int), 2 ≤ d → (1048580 - d).toNat ≤ m → d ≤ 1048577 → (∀ c, 2 ≤ c → c < d → ¬ c ∣ n) →
    ∃ r, (r = true → Prm n) ∧ (r = false → ¬ Prm n) ∧ Ev (fun k => impl_PrimeInt.l0 k n d) r := by
  intro m
  induction m with
  | zero => intro d h h1 h2; omega
  | succ m ih =>
    intro d h h1 h3 hc
    have e0 : 0 ≤ d * d := Int.mul_nonneg (by omega) (by omega)
    have e1 : d * d ≤ 1048577 * 1048577 := Int.mul_le_mul h3 h3 (by omega) (by omega)
    have h5 : d * d ≤ n → d ≤ 1048576 := by
      intro k
      rcases Int.lt_or_le 1048576 d with h6 | h6
      · have : (1048577 : Int) * 1048577 ≤ d * d := Int.mul_le_mul h6 h6 (by omega) (by omega)
        omega
      · exact h6
    have ew : wrap64 (d * d) = d * d := w64 (by omega) (by omega)
    by_cases h6 : d * d ≤ n
    · have hd := h5 h6
      by_cases h4 : n % d = 0
      · refine ⟨false, fun k => (by cases k), fun _ k => k.2 d h h6 (Int.dvd_of_emod_eq_zero h4), Ev.step (fun k => by rw [impl_PrimeInt.l0]) ?_⟩
        simp only [ew, if_pos h6, if_neg (show ¬ d = 0 by clear ew; omega), Int.tmod_eq_emod_of_nonneg (show 0 ≤ n by clear ew; omega), if_pos h4]
        exact Ev.now _
      · obtain ⟨r, r1, r2, e⟩ := ih (d + 1) (by clear ew; omega) (by clear ew; omega) (by clear ew; omega) (fun c c0 c1 => by
          by_cases hcd : c = d
          · subst hcd; intro k; exact h4 (Int.emod_eq_zero_of_dvd k)
          · exact hc c c0 (by clear ew; omega))
        refine ⟨r, r1, r2, Ev.step (fun k => by rw [impl_PrimeInt.l0]) ?_⟩
        simp only [ew, if_pos h6, if_neg (show ¬ d = 0 by clear ew; omega), Int.tmod_eq_emod_of_nonneg (show 0 ≤ n by clear ew; omega), if_neg h4]
        clear ew
        rw [w64 (n := d + 1) (by omega) (by omega)]
        exact e
    · refine ⟨true, fun _ => ⟨h2, fun c c0 c1 c2 => ?_⟩, fun k => (by cases k), Ev.step (fun k => by rw [impl_PrimeInt.l0]) ?_⟩
      · refine hc c c0 ?_ c2
        rcases Int.lt_or_le c d with h7 | h7
        · exact h7
        · have : d * d ≤ c * c := Int.mul_le_mul h7 h7 (by clear ew; omega) (by clear ew; omega)
          clear ew; omega
      · simp only [ew, if_neg h6]
        exact Ev.now _

theorem iprime_eq (n : Int) : ∃ r, (r = true → Prm n ∧ n ≤ 1099511627776) ∧ (r = false → ¬ (Prm n ∧ n ≤ 1099511627776)) ∧ Ev (fun k => impl_PrimeInt.f k n) r := by
  unfold impl_PrimeInt.f
  simp only [within_eq, Option.bind_some]
  by_cases h : 2 ≤ n ∧ n ≤ 1099511627776
  · obtain ⟨r, r1, r2, e⟩ := iprime_loop n h.2 h.1 1048578 2 (by omega) (by omega) (by omega) (fun c c0 c1 => by omega)
    refine ⟨r, fun k => ⟨r1 k, h.2⟩, fun k q => r2 k q.1, ?_⟩
    simp only [h.1, h.2, and_self, decide_true, if_true]
    exact e
  · refine ⟨false, fun k => (by cases k), fun _ q => h ⟨q.1.1, q.2⟩, ?_⟩
    simp only [h, decide_false]
    simpa using Ev.now false

theorem primes_eq (n : Int) : ∃ r, (r = true → Prm n) ∧ (r = false → n ≤ 1099511627776 → ¬ Prm n) ∧ Ev (fun k => spec_PrimeInt.f k n) r ∧ Ev (fun k => impl_PrimeInt.f k n) r := by
  obtain ⟨r, r1, r2, e⟩ := sprime_eq n
  obtain ⟨q, q1, q2, f⟩ := iprime_eq n
  obtain rfl : r = q := by
    cases r <;> cases q
    · rfl
    · exact absurd (q1 rfl) (r2 rfl)
    · exact absurd (r1 rfl) (q2 rfl)
    · rfl
  exact ⟨r, fun k => (r1 k).1, fun k h1 h2 => r2 k ⟨h2, h1⟩, e, f⟩

theorem irt_step {a p i : Int} (h3 : 3 ≤ p) (hp : p ≤ 1048576) (h0 : 0 ≤ i) (h1 : i < p) : 0 ≤ i * i ∧ wrap64 (i * i) = i * i ∧ wrap64 (i + 1) = i + 1 := by
  have e0 : 0 ≤ i * i := Int.mul_nonneg h0 h0
  have e1 : i * i ≤ 1048576 * 1048576 := Int.mul_le_mul (by omega) (by omega) h0 (by omega)
  exact ⟨e0, w64 (by omega) (by omega), w64 (by omega) (by omega)⟩

theorem implRoot_find {a p r : Int} (h3 : 3 ≤ p) (hp : p ≤ 1048576) (r1 : r < p) (hr : r * r % p = a) (hl : ∀ j, 0 ≤ j → j < r → ¬ j * j % p = a) : ∀ (d : Nat) (i : Int), 0 ≤ i → r - i = d →
    Ev (fun k => impl_rootInt.l0 k a p p i) (r, true) := by
  intro d
  induction d with
  | zero =>
    intro i h0 hd
    obtain rfl : i = r := by omega
    obtain ⟨s0, s1, s2⟩ := irt_step (a := a) h3 hp h0 r1
    refine Ev.step (fun k => by rw [impl_rootInt.l0]) ?_
    simp only [if_pos r1, if_neg (show ¬ p = 0 by clear s1 s2; omega), s1, Int.tmod_eq_emod_of_nonneg s0, hr, if_true]
    exact Ev.now _
  | succ d ih =>
    intro i h0 hd
    obtain ⟨s0, s1, s2⟩ := irt_step (a := a) h3 hp h0 (show i < p by omega)
    have hi := hl i h0 (by clear s1 s2; omega)
    have := ih (i + 1) (by clear s1 s2; omega) (by clear s1 s2; omega)
    refine Ev.step (fun k => by rw [impl_rootInt.l0]) ?_
    simp only [if_pos (show i < p by clear s1 s2; omega), if_neg (show ¬ p = 0 by clear s1 s2; omega), s1, Int.tmod_eq_emod_of_nonneg s0, if_neg hi, s2]
    exact this

theorem implRoot_none {a p : Int} (h3 : 3 ≤ p) (hp : p ≤ 1048576) (hl : ∀ j, 0 ≤ j → j < p → ¬ j * j % p = a) : ∀ (d : Nat) (i : Int), 0 ≤ i → p - i = d →
    Ev (fun k => impl_rootInt.l0 k a p p i) (0, false) := by
  intro d
  induction d with
  | zero =>
    intro i h0 hd
    refine Ev.step (fun k => by rw [impl_rootInt.l0]) ?_
    simp only [if_neg (show ¬ i < p by omega)]
    exact Ev.now _
  | succ d ih =>
    intro i h0 hd
    obtain ⟨s0, s1, s2⟩ := irt_step (a := a) h3 hp h0 (show i < p by omega)
    have hi := hl i h0 (by clear s1 s2; omega)
    have := ih (i + 1) (by clear s1 s2; omega) (by clear s1 s2; omega)
    refine Ev.step (fun k => by rw [impl_rootInt.l0]) ?_
    simp only [if_pos (show i < p by clear s1 s2; omega), if_neg (show ¬ p = 0 by clear s1 s2; omega), s1, Int.tmod_eq_emod_of_nonneg s0, if_neg hi, s2]
    exact this

/-- The least root, or none. -/
def RootIs (a p r : Int) (b : Bool) : Prop := (b = true ∧ 0 ≤ r ∧ r < p ∧ r * r % p = a ∧ ∀ j, 0 ≤ j → j < r → ¬ j * j % p = a) ∨ (b = false ∧ r = 0 ∧ ∀ j, 0 ≤ j → j < p → ¬ j * j % p = a)

theorem rootIs_exists (a : Int) {p : Int} (hp : 3 ≤ p) : ∃ r b, RootIs a p r b := by
  by_cases h : ∃ x, 0 ≤ x ∧ x < p ∧ x * x % p = a
  · obtain ⟨x, x0, x1, hx⟩ := h
    obtain ⟨r, r0, r1, r2, r3⟩ := least (fun x => x * x % p = a) x.toNat x x0 (Nat.le_refl _) hx
    exact ⟨r, true, .inl ⟨rfl, r0, by omega, r2, r3⟩⟩
  · exact ⟨0, false, .inr ⟨rfl, rfl, fun j h1 h2 h3 => h ⟨j, h1, h2, h3⟩⟩⟩

theorem implRoot_eq {a p r : Int} {b : Bool} (hp : Prm p) (h3 : 3 ≤ p) (hp' : p ≤ 1048576) (h0 : 0 ≤ a) (h1 : a < p) (hr : RootIs a p r b) : Ev (fun k => impl_rootInt.f k a p) (r, b) := by
  unfold impl_rootInt.f
  have ho := prm_odd hp h3
  have j0 : Ev (fun k => impl_rootInt.j0 k a p false) (r, b) := by
    refine Ev.step (fun k => by rw [impl_rootInt.j0]) ?_
    simp only [Bool.false_eq_true, if_false]
    rcases hr with ⟨rfl, r0, r1, r2, r3⟩ | ⟨rfl, rfl, r3⟩
    · exact implRoot_find h3 hp' r1 r2 r3 r.toNat 0 (by omega) (by omega)
    · exact implRoot_none h3 hp' r3 p.toNat 0 (by omega) (by omega)
  by_cases ha : a = 0
  · simp only [if_pos ha]
    exact j0
  · simp only [if_neg ha]
    have e1 : wrap64 (Int.tdiv (wrap64 (p - 1)) 2) = (p - 1) / 2 := by
      rw [w64 (n := p - 1) (by omega) (by omega), Int.tdiv_eq_ediv_of_nonneg (by omega), w64 (by omega) (by omega)]
    rw [e1]
    clear e1
    refine Ev.bind (implPow_eq h0 (by omega) (by omega) (by omega) (by omega)) ?_
    rcases hr with ⟨rfl, r0, r1, r2, r3⟩ | ⟨rfl, rfl, r3⟩
    · have := square_pow hp h3 ho r2 ha ((p - 1) / 2).toNat (by omega)
      rw [this]
      exact j0
    · by_cases hq : a ^ ((p - 1) / 2).toNat % p = 1
      · rw [hq]; exact j0
      · have : (a ^ ((p - 1) / 2).toNat % p != 1) = true := by simpa using hq
        rw [this]
        refine Ev.step (fun k => by rw [impl_rootInt.j0]) ?_
        simp only [if_true]
        exact Ev.now _

theorem specRoot_find {a p r : Int} (h3 : 3 ≤ p) (hp : p ≤ 1048576) (r1 : r ≤ p / 2) (hr : r * r % p = a) (hl : ∀ j, 0 ≤ j → j < r → ¬ j * j % p = a) : ∀ (d : Nat) (i : Int), 0 ≤ i → r - i = d →
    Ev (fun k => spec_RootInt.l0 k a p i) (r, true) := by
  have eh : wrap64 (Int.tdiv p 2) = p / 2 := by rw [Int.tdiv_eq_ediv_of_nonneg (by omega), w64 (by omega) (by omega)]
  intro d
  induction d with
  | zero =>
    intro i h0 hd
    obtain rfl : i = r := by clear eh; omega
    obtain ⟨s0, s1, s2⟩ := irt_step (a := a) h3 hp h0 (show i < p by clear eh; omega)
    refine Ev.step (fun k => by rw [spec_RootInt.l0]) ?_
    simp only [eh, if_pos r1, if_neg (show ¬ p = 0 by clear eh s1 s2; omega), s1, Int.tmod_eq_emod_of_nonneg s0, hr, if_true]
    exact Ev.now _
  | succ d ih =>
    intro i h0 hd
    obtain ⟨s0, s1, s2⟩ := irt_step (a := a) h3 hp h0 (show i < p by clear eh; omega)
    have hi := hl i h0 (by clear eh s1 s2; omega)
    have := ih (i + 1) (by clear eh s1 s2; omega) (by clear eh s1 s2; omega)
    refine Ev.step (fun k => by rw [spec_RootInt.l0]) ?_
    simp only [eh, if_pos (show i ≤ p / 2 by clear eh s1 s2; omega), if_neg (show ¬ p = 0 by clear eh s1 s2; omega), s1, Int.tmod_eq_emod_of_nonneg s0, if_neg hi, s2]
    exact this

theorem specRoot_none {a p : Int} (h3 : 3 ≤ p) (hp : p ≤ 1048576) (hl : ∀ j, 0 ≤ j → j < p → ¬ j * j % p = a) : ∀ (d : Nat) (i : Int), 0 ≤ i → p / 2 + 1 - i = d →
    Ev (fun k => spec_RootInt.l0 k a p i) (0, false) := by
  have eh : wrap64 (Int.tdiv p 2) = p / 2 := by rw [Int.tdiv_eq_ediv_of_nonneg (by omega), w64 (by omega) (by omega)]
  intro d
  induction d with
  | zero =>
    intro i h0 hd
    refine Ev.step (fun k => by rw [spec_RootInt.l0]) ?_
    simp only [eh, if_neg (show ¬ i ≤ p / 2 by clear eh; omega)]
    exact Ev.now _
  | succ d ih =>
    intro i h0 hd
    obtain ⟨s0, s1, s2⟩ := irt_step (a := a) h3 hp h0 (show i < p by clear eh; omega)
    have hi := hl i h0 (by clear eh s1 s2; omega)
    have := ih (i + 1) (by clear eh s1 s2; omega) (by clear eh s1 s2; omega)
    refine Ev.step (fun k => by rw [spec_RootInt.l0]) ?_
    simp only [eh, if_pos (show i ≤ p / 2 by clear eh s1 s2; omega), if_neg (show ¬ p = 0 by clear eh s1 s2; omega), s1, Int.tmod_eq_emod_of_nonneg s0, if_neg hi, s2]
    exact this

theorem specRoot_loop {a p r : Int} {b : Bool} (h3 : 3 ≤ p) (hp' : p ≤ 1048576) (hr : RootIs a p r b) : Ev (fun k => spec_RootInt.l0 k a p 0) (r, b) := by
  rcases hr with ⟨rfl, r0, r1, r2, r3⟩ | ⟨rfl, rfl, r3⟩
  · exact specRoot_find h3 hp' (root_half h3 r0 r1 r2 r3) r2 r3 r.toNat 0 (by omega) (by omega)
  · exact specRoot_none h3 hp' r3 (p / 2 + 1).toNat 0 (by omega) (by omega)

theorem FnExactRootInt : laws_FnExactRootInt.Pure := by
  intro a p ha hp
  have ha := wf64 ha
  have hp := wf64 hp
  refine Ev.rounds (r := true) ?_
  have js : Ev (fun k => spec_RootInt.j0 k a p true) (0, false) := Ev.step (fun k => by rw [spec_RootInt.j0]) (by simp only [if_true]; exact Ev.now _)
  obtain ⟨r, b, e1, e2⟩ : ∃ r b, Ev (fun k => spec_RootInt.f k a p) (r, b) ∧ Ev (fun k => impl_RootInt.f k a p) (r, b) := by
    unfold spec_RootInt.f impl_RootInt.f
    simp only [in_eq, within_eq, Option.bind_some]
    by_cases h3 : 3 ≤ p ∧ p ≤ 1048576
    · obtain ⟨t, t1, t2, f1, f2⟩ := primes_eq p
      simp only [h3.1, h3.2, and_self, decide_true, if_true]
      cases t with
      | false =>
        refine ⟨0, false, Ev.bind f1 ?_, Ev.bind f2 ?_⟩
        · simpa using js
        · simpa using Ev.now ((0 : Int), false)
      | true =>
        have hP := t1 rfl
        have ew : wrap64 (p - 1) = p - 1 := w64 (by omega) (by omega)
        by_cases h4 : 0 ≤ a ∧ a ≤ p - 1
        · obtain ⟨r, b, hr⟩ := rootIs_exists a h3.1
          refine ⟨r, b, Ev.bind f1 ?_, Ev.bind f2 ?_⟩
          · simp only [if_true, ew, h4.1, h4.2, and_self, decide_true, Bool.not_true]
            refine Ev.step (fun k => by rw [spec_RootInt.j0]) ?_
            simp only [Bool.false_eq_true, if_false]
            exact specRoot_loop h3.1 h3.2 hr
          · simp only [if_true, ew, h4.1, h4.2, and_self, decide_true]
            exact Ev.bind (implRoot_eq hP h3.1 h3.2 h4.1 (by clear ew; omega) hr) (Ev.now _)
        · refine ⟨0, false, Ev.bind f1 ?_, Ev.bind f2 ?_⟩
          · simp only [if_true, ew, h4, decide_false, Bool.not_false]
            exact js
          · simp only [if_true, ew, h4, decide_false]
            simpa using Ev.now ((0 : Int), false)
    · refine ⟨0, false, ?_, ?_⟩
      · simp only [h3, decide_false]
        simpa using js
      · simp only [h3, decide_false]
        simpa using Ev.now ((0 : Int), false)
  unfold laws_FnExactRootInt.f
  refine Ev.bind e1 (Ev.bind e2 ?_)
  simp only [if_true, bne_self_eq_false]
  simpa using Ev.now true

end Go.Proofs.Ytohplbcbkggjaaa.Pure
