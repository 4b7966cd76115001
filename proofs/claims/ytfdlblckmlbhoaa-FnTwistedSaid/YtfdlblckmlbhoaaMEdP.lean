/- A twisted curve over the numbers by a prime that leaves 5 by 8, whose d is no square: its pairs are a group. -/
import Derived.Test.YtfdlblckmlbhoaaMField
import Derived.Test.YtfdlblckmlbhoaaMEd
import Derived.Test.YtfdlblckmlbhoaaMGrp
import Derived.Test.YtfdlblckmlbhoaaMRoot
namespace Go.Proofs.Ytfdlblckmlbhoaa.Plain
set_option linter.unusedVariables false
set_option linter.unusedSimpArgs false

open Lean.Grind

/-- A right twisted curve's numbers. -/
structure EdNum (p d : Int) : Prop where
  prm : Prm p
  lo : 13 ≤ p
  hi : p ≤ 1048576
  five : p % 8 = 5
  d0 : 0 < d
  d1 : d < p
  pow : d ^ ((p - 1) / 2).toNat % p = p - 1

theorem toF_pm {p : Int} (K : Fld p) (hp : 2 ≤ p) : (toF (p - 1) : K.F) = -1 := by
  have h : (toF p : K.F) = 0 := (K.ker p).2 (Int.dvd_refl p)
  rw [toF_sub, h, toF_one]
  grind

theorem dbl_pow {F : Type} [Field F] (y : F) (n : Nat) : (y * y) ^ n = y ^ (n + n) := by
  induction n with
  | zero => rw [Semiring.pow_zero, Semiring.pow_zero]
  | succ n ih =>
    rw [Semiring.pow_succ, ih, show n + 1 + (n + 1) = n + n + 1 + 1 by omega, Semiring.pow_succ, Semiring.pow_succ]
    grind

theorem pow_add' {F : Type} [Field F] (y : F) (m n : Nat) : y ^ (m + n) = y ^ m * y ^ n := by
  induction n with
  | zero => rw [Nat.add_zero, Semiring.pow_zero]; grind
  | succ n ih => rw [← Nat.add_assoc, Semiring.pow_succ, ih, Semiring.pow_succ]; grind

theorem two_ne {p : Int} (K : Fld p) (hp : 3 ≤ p) : (2 : K.F) ≠ 0 := by
  rw [← toF_two]
  intro h
  rw [K.ker] at h
  have := Int.le_of_dvd (by omega) h
  omega

theorem EdNum.good {p d : Int} (h : EdNum p d) (K : Fld p) : EdGood (toF d : K.F) := by
  have hlo := h.lo
  have h5 := h.five
  have hd : (toF d : K.F) ^ ((p - 1) / 2).toNat = -1 := by
    have e : (toF (d ^ ((p - 1) / 2).toNat) : K.F) = toF (p - 1) := by rw [← K.emod, h.pow]
    rw [← toF_pow, e, toF_pm K (by omega)]
  have h2 := two_ne K (by omega)
  refine ⟨h2, fun z hz => ?_, ?_⟩
  · have hz0 : z ≠ 0 := by
      intro e
      have : (toF d : K.F) = 0 := by rw [← hz, e]; grind
      rw [K.ker] at this
      have := Int.le_of_dvd h.d0 this
      have := h.d1
      omega
    have hf := K.fermat z hz0
    rw [← hz, dbl_pow, show ((p - 1) / 2).toNat + ((p - 1) / 2).toNat = (p - 1).toNat by omega, hf] at hd
    grind
  · refine ⟨(toF d : K.F) ^ ((p - 1) / 4).toNat, ?_⟩
    rw [← pow_add', show ((p - 1) / 4).toNat + ((p - 1) / 4).toNat = ((p - 1) / 2).toNat by omega, hd]

theorem edAdd_comm {F : Type} [Field F] (d : F) (p q : F × F) : edAdd d p q = edAdd d q p := by
  unfold edAdd
  congr 1
  · congr 1
    · grind
    · congr 1; grind
  · congr 1
    · grind
    · congr 1; grind

theorem edAdd_zero {F : Type} [Field F] (d : F) (p : F × F) : edAdd d (0, 1) p = p := by
  obtain ⟨x, y⟩ := p
  unfold edAdd
  simp only
  have e1 : (1 + d * 0 * x * 1 * y)⁻¹ = 1 := by grind
  have e2 : (1 - d * 0 * x * 1 * y)⁻¹ = 1 := by grind
  rw [e1, e2]
  congr 1 <;> grind

/-- The group. -/
def edGrp {F : Type} [Field F] {d : F} (h : EdGood d) : Grp (F × F) where
  add := edAdd d
  zero := (0, 1)
  on := fun p => EdOn d p.1 p.2
  on_zero := by unfold EdOn; simp only; grind
  on_add := fun hp hq => ed_on h hp hq
  assoc := fun hp hq hr => ed_assoc h hp hq hr
  comm := fun _ _ => edAdd_comm d _ _
  zero_add := fun _ => edAdd_zero d _

/-- An inverse that is told: it is the field's. -/
theorem inv_toF {p a r : Int} (K : Fld p) (h : p ∣ a * r - 1) : (toF r : K.F) = (toF a)⁻¹ := by
  have : (toF (a * r) : K.F) = toF 1 := (K.eq _ _).2 h
  rw [toF_mul, toF_one] at this
  have h0 : (toF a : K.F) ≠ 0 := by intro e; rw [e] at this; grind
  grind

theorem inv_of {p a r : Int} {b : Bool} (K : Fld p) (hp : Prm p) (h : InvIs a p r b) (h0 : (toF a : K.F) ≠ 0) : b = true ∧ 0 < r ∧ r < p ∧ (toF r : K.F) = (toF a)⁻¹ := by
  rcases h with ⟨hb, r0, r1, hd⟩ | ⟨_, _, hn⟩
  · exact ⟨hb, r0, r1, inv_toF K hd⟩
  · exfalso
    have : ¬ p ∣ a := fun k => h0 ((K.ker a).2 k)
    obtain ⟨x, hx⟩ := hp.inverse this
    exact hn x hx

end Go.Proofs.Ytfdlblckmlbhoaa.Plain
