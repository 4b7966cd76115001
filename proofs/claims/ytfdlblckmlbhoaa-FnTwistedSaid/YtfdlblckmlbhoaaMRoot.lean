/- A square's power by half of one less than the prime leaves 1; a least root lies in the first half. -/
import Derived.Test.YtfdlblckmlbhoaaMField
namespace Go.Proofs.Ytfdlblckmlbhoaa.Plain
set_option linter.unusedVariables false
set_option linter.unusedSimpArgs false

theorem toF_eq {p : Int} (K : Fld p) {x y : Int} (h : (toF x : K.F) = toF y) : p ∣ x - y := (K.eq x y).1 h

theorem emod_one {p x : Int} (hp : 2 ≤ p) (h : p ∣ x - 1) : x % p = 1 := by
  obtain ⟨c, hc⟩ := h
  have : x = 1 + p * c := by omega
  rw [this, Int.add_mul_emod_self_left]
  exact Int.emod_eq_of_lt (by omega) (by omega)

/-- Fermat: a root's square to half of p - 1 leaves 1. -/
theorem square_pow {p a x : Int} (hp : Prm p) (h3 : 3 ≤ p) (ho : p % 2 = 1) (hx : x * x % p = a) (ha : a ≠ 0) (n : Nat) (hn : (2 * n : Int) = p - 1) : a ^ n % p = 1 := by
  obtain ⟨K⟩ := fldOf_exists hp
  refine emod_one (by omega) ?_
  rw [← K.eq, toF_pow, ← hx, K.emod, toF_mul, toF_one]
  have h1 : (toF x : K.F) ≠ 0 := by
    intro h
    apply ha
    rw [K.ker] at h
    rw [← hx]
    exact Int.emod_eq_zero_of_dvd (Int.dvd_mul_of_dvd_left h)
  have h2 := K.fermat _ h1
  have e : (p - 1).toNat = n + n := by omega
  rw [e] at h2
  have h4 : ∀ (y : K.F) (n : Nat), (y * y) ^ n = y ^ (n + n) := by
    intro y n
    induction n with
    | zero => rw [Lean.Grind.Semiring.pow_zero, Lean.Grind.Semiring.pow_zero]
    | succ n ih =>
      rw [Lean.Grind.Semiring.pow_succ, ih, show n + 1 + (n + 1) = n + n + 1 + 1 by omega, Lean.Grind.Semiring.pow_succ, Lean.Grind.Semiring.pow_succ]
      grind
  rw [h4, h2]

theorem prm_odd {p : Int} (hp : Prm p) (h3 : 3 ≤ p) : p % 2 = 1 := by
  rcases Int.emod_two_eq p with h | h
  · exfalso
    rcases hp.dvd (d := 2) (by omega) ⟨p / 2, by omega⟩ with h1 | h1 <;> omega
  · exact h

/-- The least of what is so. -/
theorem least (P : Int → Prop) : ∀ (n : Nat) (x : Int), 0 ≤ x → x.toNat ≤ n → P x → ∃ r, 0 ≤ r ∧ r ≤ x ∧ P r ∧ ∀ j, 0 ≤ j → j < r → ¬ P j := by
  intro n
  induction n with
  | zero =>
    intro x h0 hn hx
    exact ⟨x, h0, Int.le_refl _, hx, fun j h1 h2 => by omega⟩
  | succ n ih =>
    intro x h0 hn hx
    by_cases h : ∃ j, 0 ≤ j ∧ j < x ∧ P j
    · obtain ⟨j, j0, j1, j2⟩ := h
      obtain ⟨r, r0, r1, r2, r3⟩ := ih j j0 (by omega) j2
      exact ⟨r, r0, by omega, r2, r3⟩
    · exact ⟨x, h0, Int.le_refl _, hx, fun j h1 h2 h3 => h ⟨j, h1, h2, h3⟩⟩

theorem root_half {p a r : Int} (hp : 3 ≤ p) (h0 : 0 ≤ r) (h1 : r < p) (hr : r * r % p = a) (hl : ∀ j, 0 ≤ j → j < r → ¬ j * j % p = a) : r ≤ p / 2 := by
  rcases Int.lt_or_le (p / 2) r with h | h
  · exfalso
    apply hl (p - r) (by omega) (by omega)
    rw [← hr]
    have : (p - r) * (p - r) = r * r + p * (p - 2 * r) := by grind
    rw [this, Int.add_mul_emod_self_left]
  · exact h

end Go.Proofs.Ytfdlblckmlbhoaa.Plain
