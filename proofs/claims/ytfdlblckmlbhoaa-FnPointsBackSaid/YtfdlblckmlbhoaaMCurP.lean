/- A curve over the numbers by a prime: its points, as the program has them, are a group's. -/
import Derived.Test.YtfdlblckmlbhoaaMField
import Derived.Test.YtfdlblckmlbhoaaMEdP
import Derived.Test.YtfdlblckmlbhoaaMGrp
import Derived.Test.YtfdlblckmlbhoaaMCurve
namespace Go.Proofs.Ytfdlblckmlbhoaa.Plain
set_option linter.unusedVariables false
set_option linter.unusedSimpArgs false

open Lean.Grind

/-- A right curve's numbers. -/
structure CNum (p a b : Int) : Prop where
  prm : Prm p
  lo : 5 ≤ p
  hi : p ≤ 1048576
  a0 : 0 ≤ a
  a1 : a < p
  b0 : 0 ≤ b
  b1 : b < p
  disc : ¬ (4 * (a * a % p) * a + 27 * (b * b % p)) % p = 0

theorem CNum.disc_ne {p a b : Int} (h : CNum p a b) (K : Fld p) : 4 * (toF a : K.F) * toF a * toF a + 27 * toF b * toF b ≠ 0 := by
  intro e
  apply h.disc
  have hlo := h.lo
  refine K.inj (Int.emod_nonneg _ (by omega)) (Int.emod_lt_of_pos _ (by omega)) (Int.le_refl 0) (by omega) ?_
  have e4 : (toF 4 : K.F) = 4 := toF_nat 4
  have e27 : (toF 27 : K.F) = 27 := toF_nat 27
  rw [K.emod, toF_zero, toF_add, toF_mul, toF_mul, toF_mul, K.emod, K.emod, toF_mul, toF_mul, e4, e27]
  grind

/-- The group. -/
def curGrp {F : Type} [Field F] [DecidableEq F] {a b : F} (h2 : (2 : F) ≠ 0) (hd : 4 * a * a * a + 27 * b * b ≠ 0) : Grp (Pt F) where
  add := Pt.add a
  zero := .far
  on := Pt.on a b
  on_zero := trivial
  on_add := fun hp hq => Pt.on_add hp hq
  assoc := fun hp hq hr => Pt.add_assoc h2 hd hp hq hr
  comm := fun hp hq => Pt.add_comm hp hq
  zero_add := fun _ => Pt.far_add a _

def CNum.grp {p a b : Int} (h : CNum p a b) (K : Fld p) : Grp (Pt K.F) := curGrp (two_ne K (by have := h.lo; omega)) (h.disc_ne K)

def toPt {p : Int} (K : Fld p) (x y : Int) (f : Bool) : Pt K.F := if f = true then .far else .at (toF x) (toF y)

/-- A point of the program. -/
structure CPt (p a b : Int) (K : Fld p) (x y : Int) (f : Bool) : Prop where
  far : f = true → x = 0 ∧ y = 0
  x0 : 0 ≤ x
  x1 : x < p
  y0 : 0 ≤ y
  y1 : y < p
  on : f = false → On (toF a : K.F) (toF b) (toF x) (toF y)

section
variable {p a b : Int} {K : Fld p}
theorem CPt.pt {x y : Int} {f : Bool} (h : CPt p a b K x y f) : (toPt K x y f).on (toF a) (toF b) := by
  cases f with
  | true => exact trivial
  | false => exact h.on rfl

theorem CPt.same {x y u v : Int} {f g : Bool} (h : CPt p a b K x y f) (k : CPt p a b K u v g) (e : toPt K x y f = toPt K u v g) : x = u ∧ y = v ∧ f = g := by
  cases f <;> cases g
  · simp only [toPt, Bool.false_eq_true, if_false, Pt.at.injEq] at e
    exact ⟨K.inj h.x0 h.x1 k.x0 k.x1 e.1, K.inj h.y0 h.y1 k.y0 k.y1 e.2, rfl⟩
  · simp [toPt] at e
  · simp [toPt] at e
  · have h1 := h.far rfl
    have h2 := k.far rfl
    exact ⟨by omega, by omega, rfl⟩

theorem CPt.zero (hp : 0 < p) : CPt p a b K 0 0 true := ⟨fun _ => ⟨rfl, rfl⟩, by omega, by omega, by omega, by omega, fun k => (by cases k)⟩

theorem opp_iff {x y u v : Int} (h : CPt p a b K x y false) (k : CPt p a b K u v false) : (x = u ∧ (y + v) % p = 0) ↔ ((toF x : K.F) = toF u ∧ (toF y : K.F) + toF v = 0) := by
  rw [← toF_add, K.ker, Int.dvd_iff_emod_eq_zero]
  constructor
  · rintro ⟨rfl, e⟩; exact ⟨rfl, e⟩
  · rintro ⟨e, e2⟩; exact ⟨K.inj h.x0 h.x1 k.x0 k.x1 e, e2⟩

theorem cpt_opp {x y u v : Int} (h : CPt p a b K x y false) (k : CPt p a b K u v false) (e : x = u ∧ (y + v) % p = 0) :
    toPt K 0 0 true = Pt.add (toF a) (toPt K x y false) (toPt K u v false) := by
  simp only [toPt, Bool.false_eq_true, if_false, if_true]
  rw [Pt.add, if_pos ((opp_iff h k).1 e)]

theorem cpt_third {x y u v l : Int} (h : CPt p a b K x y false) (k : CPt p a b K u v false) (hp : 0 < p) (hn : ¬ (x = u ∧ (y + v) % p = 0)) (hl : (toF l : K.F) = slope (toF a) (toF x) (toF y) (toF u) (toF v)) :
    CPt p a b K ((l * l - x - u) % p) ((l * (x - (l * l - x - u) % p) - y) % p) false ∧
    toPt K ((l * l - x - u) % p) ((l * (x - (l * l - x - u) % p) - y) % p) false = Pt.add (toF a) (toPt K x y false) (toPt K u v false) := by
  have e : toPt K ((l * l - x - u) % p) ((l * (x - (l * l - x - u) % p) - y) % p) false = Pt.add (toF a) (toPt K x y false) (toPt K u v false) := by
    simp only [toPt, Bool.false_eq_true, if_false]
    rw [Pt.add, if_neg (fun t => hn ((opp_iff h k).2 t))]
    unfold third
    simp only [K.emod, toF_sub, toF_mul, hl]
  refine ⟨⟨fun t => (by cases t), Int.emod_nonneg _ (by omega), Int.emod_lt_of_pos _ hp, Int.emod_nonneg _ (by omega), Int.emod_lt_of_pos _ hp, fun _ => ?_⟩, e⟩
  have := Pt.on_add h.pt k.pt
  rw [← e] at this
  exact this

theorem dbl_ne {x y u v : Int} (h : CPt p a b K x y false) (k : CPt p a b K u v false) (hn : ¬ (x = u ∧ (y + v) % p = 0)) (e : x = u) : y = v ∧ (toF (2 * y) : K.F) ≠ 0 := by
  have hn' : ¬ ((toF x : K.F) = toF u ∧ (toF y : K.F) + toF v = 0) := fun t => hn ((opp_iff h k).2 t)
  have e1 : (toF x : K.F) = toF u := by rw [e]
  have e2 := same_x (h.on rfl) (k.on rfl) e1 hn'
  refine ⟨K.inj h.y0 h.y1 k.y0 k.y1 e2, fun t => hn' ⟨e1, ?_⟩⟩
  rw [toF_mul, toF_two] at t
  rw [← e2]
  grind

theorem slope_dbl {x y u v l i : Int} (e : x = u) (hi : (toF i : K.F) = (toF (2 * y))⁻¹) (hl : (toF l : K.F) = (3 * toF x * toF x + toF a) * toF i) : (toF l : K.F) = slope (toF a) (toF x) (toF y) (toF u) (toF v) := by
  subst e
  unfold slope
  rw [if_pos rfl, hl, hi, toF_mul, toF_two]

theorem sub_inv_flip {F : Type} [Field F] {x u y v : F} (h : x - u ≠ 0) : (v - y) * (u - x)⁻¹ = (y - v) * (x - u)⁻¹ := by
  have h' : u - x ≠ 0 := fun t => h (by grind)
  have i1 : (x - u) * (x - u)⁻¹ = 1 := Field.mul_inv_cancel h
  have i2 : (u - x) * (u - x)⁻¹ = 1 := Field.mul_inv_cancel h'
  generalize (x - u)⁻¹ = i at *
  generalize (u - x)⁻¹ = j at *
  have : j = -i := by
    have e1 : j = j * ((x - u) * i) := by rw [i1]; grind
    have e2 : j * ((x - u) * i) = -(((u - x) * j) * i) := by grind
    rw [e1, e2, i2]; grind
  rw [this]; grind

theorem slope_chord {x y u v l i : Int} (h : CPt p a b K x y false) (k : CPt p a b K u v false) (e : ¬ x = u) (hi : (toF i : K.F) = (toF (u - x))⁻¹) (hl : (toF l : K.F) = toF (v - y) * toF i) : (toF l : K.F) = slope (toF a) (toF x) (toF y) (toF u) (toF v) := by
  have e1 : ¬ (toF x : K.F) = toF u := fun t => e (K.inj h.x0 h.x1 k.x0 k.x1 t)
  unfold slope
  rw [if_neg e1, hl, hi, toF_sub, toF_sub]
  exact sub_inv_flip (fun t => e1 (by grind))

theorem chord_ne {x y u v : Int} (h : CPt p a b K x y false) (k : CPt p a b K u v false) (e : ¬ x = u) : (toF (u - x) : K.F) ≠ 0 := by
  have e1 : ¬ (toF x : K.F) = toF u := fun t => e (K.inj h.x0 h.x1 k.x0 k.x1 t)
  rw [toF_sub]
  exact fun t => e1 (by grind)
end

end Go.Proofs.Ytfdlblckmlbhoaa.Plain
