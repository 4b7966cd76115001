/- Roots by a prime that leaves 5 by 8. -/
import Derived.Test.YtfdlblckmlbhoaaMEdP
namespace Go.Proofs.Ytfdlblckmlbhoaa.Plain
set_option linter.unusedVariables false
set_option linter.unusedSimpArgs false

open Lean.Grind

theorem neg_one_pow {F : Type} [Field F] : ∀ n : Nat, (-1 : F) ^ (2 * n + 1) = -1 := by
  intro n
  induction n with
  | zero => rw [Nat.mul_zero, Nat.zero_add, Semiring.pow_succ, Semiring.pow_zero]; grind
  | succ n ih =>
    rw [show 2 * (n + 1) + 1 = 2 * n + 1 + 1 + 1 by omega, Semiring.pow_succ, Semiring.pow_succ, ih]
    grind

theorem mul_pow' {F : Type} [Field F] (x y : F) (n : Nat) : (x * y) ^ n = x ^ n * y ^ n := by
  induction n with
  | zero => rw [Semiring.pow_zero, Semiring.pow_zero, Semiring.pow_zero]; grind
  | succ n ih => rw [Semiring.pow_succ, ih, Semiring.pow_succ, Semiring.pow_succ]; grind

theorem EdNum.two_pow {p d : Int} (h : EdNum p d) (K : Fld p) : (2 : K.F) ^ ((p - 1) / 2).toNat = -1 := by
  have hlo := h.lo
  have h5 := h.five
  have h2 := two_ne K (by omega)
  obtain ⟨i, hi⟩ := (h.good K).i
  have hne : (1 : K.F) + i ≠ 0 := by
    intro e
    have : i = -1 := by grind
    rw [this] at hi
    apply h2
    grind
  have hf := K.fermat _ hne
  rw [show (p - 1).toNat = ((p - 1) / 2).toNat + ((p - 1) / 2).toNat by omega, ← dbl_pow, show (1 + i) * (1 + i) = 2 * i by grind, mul_pow'] at hf
  have e1 : i ^ ((p - 1) / 2).toNat = -1 := by
    rw [show ((p - 1) / 2).toNat = ((p - 1) / 4).toNat + ((p - 1) / 4).toNat by omega, ← dbl_pow, hi, show ((p - 1) / 4).toNat = 2 * ((p - 1) / 8).toNat + 1 by omega]
    exact neg_one_pow _
  rw [e1] at hf
  grind

theorem one_pow' {F : Type} [Field F] (n : Nat) : (1 : F) ^ n = 1 := by
  induction n with
  | zero => exact Semiring.pow_zero _
  | succ n ih => rw [Semiring.pow_succ, ih]; grind

theorem zero_pow' {F : Type} [Field F] {n : Nat} (h : n ≠ 0) : (0 : F) ^ n = 0 := by
  obtain ⟨m, rfl⟩ : ∃ m, n = m + 1 := ⟨n - 1, by omega⟩
  rw [Semiring.pow_succ]
  grind

/-- A square's root, as the second code looks for it. -/
theorem EdNum.root {p d : Int} (h : EdNum p d) (K : Fld p) {w s : K.F} (hs : s * s = w) :
    w ^ ((p + 3) / 8).toNat * w ^ ((p + 3) / 8).toNat = w ∨
    (w ^ ((p + 3) / 8).toNat * 2 ^ ((p - 1) / 4).toNat) * (w ^ ((p + 3) / 8).toNat * 2 ^ ((p - 1) / 4).toNat) = w := by
  have hlo := h.lo
  have h5 := h.five
  by_cases h0 : s = 0
  · left
    have : w = 0 := by grind
    rw [this, zero_pow' (by omega)]
    grind
  · have hf := K.fermat s h0
    rw [show (p - 1).toNat = ((p - 1) / 2).toNat + ((p - 1) / 2).toNat by omega, pow_add'] at hf
    have e1 : w ^ ((p + 3) / 8).toNat * w ^ ((p + 3) / 8).toNat = w * s ^ ((p - 1) / 2).toNat := by
      rw [← hs, dbl_pow, ← pow_add', show ((p + 3) / 8).toNat + ((p + 3) / 8).toNat + (((p + 3) / 8).toNat + ((p + 3) / 8).toNat) = ((p - 1) / 2).toNat + 2 by omega, pow_add', show (2 : Nat) = 0 + 1 + 1 from rfl, Semiring.pow_succ, Semiring.pow_succ, Semiring.pow_zero]
      grind
    have e2 : (2 : K.F) ^ ((p - 1) / 4).toNat * 2 ^ ((p - 1) / 4).toNat = -1 := by
      rw [← pow_add', show ((p - 1) / 4).toNat + ((p - 1) / 4).toNat = ((p - 1) / 2).toNat by omega]
      exact h.two_pow K
    generalize s ^ ((p - 1) / 2).toNat = t at *
    generalize w ^ ((p + 3) / 8).toNat = x at *
    generalize (2 : K.F) ^ ((p - 1) / 4).toNat = y at *
    have e3 : (t - 1) * (t + 1) = 0 := by grind
    by_cases k : t - 1 = 0
    · left; grind
    · right
      have : t = -1 := by grind
      grind

theorem EdNum.slope {p d : Int} (h : EdNum p d) (K : Fld p) (y : K.F) : (1 : K.F) + toF d * (y * y) ≠ 0 := by
  intro e
  have := (h.good K).nosq' (v := 1) (w := y) (by grind)
  grind

end Go.Proofs.Ytfdlblckmlbhoaa.Plain
