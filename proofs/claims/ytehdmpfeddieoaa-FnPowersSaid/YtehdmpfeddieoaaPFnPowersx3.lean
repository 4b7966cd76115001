-- Written for this claim by a program of this session.
import Derived.Test.YtehdmpfeddieoaaPFnPowersx0
namespace Go.Proofs.Ytehdmpfeddieoaa.PFnPowers
open Go.RowKit Go.Proofs.YtehdmpfeddieoaaW.PrintWords Go.Proofs.YtehdmpfeddieoaaW.PrintLast Go.Proofs.YtehdmpfeddieoaaW.PrintMore
attribute [local go_sem] max2_int min2_int max_two min_two max_three min_three max_four min_four   -- for this text's walks alone
set_option linter.unusedVariables false
set_option linter.unusedSimpArgs false

/-! ### impl_giveBack: function 87 -/
def impl_giveBack.l0 : Nat → List Int → List Int → Int → Int → Int → Option (List Int)
  | 0, _, _, _, _, _ => none
  | k + 1, x0, x1, x4, x7, x8 => if x8 < x7 then (if 0 ≤ x8 then (if x8 < (x0.length : Int) then (if x8 < (x1.length : Int) then (impl_giveBack.l0 k (x0.set (x8 : Int).toNat (Go.bits .and .i64 (wrap64 ((wrap64 (x4 + (rd x0 x8))) + (rd x1 x8))) 65535)) x1 ((wrap64 ((wrap64 (x4 + (rd x0 x8))) + (rd x1 x8))) / 65536) x7 (wrap64 (x8 + 1))) else (impl_giveBack.l0 k (x0.set (x8 : Int).toNat (Go.bits .and .i64 (wrap64 (x4 + (rd x0 x8))) 65535)) x1 ((wrap64 (x4 + (rd x0 x8))) / 65536) x7 (wrap64 (x8 + 1)))) else (none)) else (none)) else (some x0)
def impl_giveBack.f (k : Nat) (l0 : List Int) (l1 : List Int) : Option (List Int) := impl_giveBack.l0 k l0 l1 0 (l0.length : Int) 0
theorem impl_giveBack.mono_l : ∀ k, (∀ y0 y1 y2 y3 y4, LeO (impl_giveBack.l0 k y0 y1 y2 y3 y4) (impl_giveBack.l0 (k + 1) y0 y1 y2 y3 y4))
  | 0 => fun _ _ _ _ _ r h => by simp [impl_giveBack.l0] at h
  | k + 1 => by
    have ih0 := impl_giveBack.mono_l k
    · intro y0 y1 y2 y3 y4
      unfold impl_giveBack.l0
      repeat' first
      | (with_reducible exact ih0 _ _ _ _ _)
      | (with_reducible exact LeO.refl _)
      | (with_reducible exact LeO.none _)
      | (with_reducible refine LeO.ite ?_ ?_)
      | (with_reducible refine LeO.bind ?_ (fun _ => ?_))
      | exact ih0 _ _ _ _ _
      | exact LeO.none _
      | refine LeO.ite ?_ ?_
      | refine LeO.bind ?_ (fun _ => ?_)
theorem impl_giveBack.mono : ∀ a0 a1 k, LeO (impl_giveBack.f k a0 a1) (impl_giveBack.f (k + 1) a0 a1) := by
  intro a0 a1 k
  have ih0 := impl_giveBack.mono_l k
  unfold impl_giveBack.f
  repeat' first
      | (with_reducible exact ih0 _ _ _ _ _)
      | (with_reducible exact LeO.refl _)
      | (with_reducible exact LeO.none _)
      | (with_reducible refine LeO.ite ?_ ?_)
      | (with_reducible refine LeO.bind ?_ (fun _ => ?_))
      | exact ih0 _ _ _ _ _
      | exact LeO.none _
      | refine LeO.ite ?_ ?_
      | refine LeO.bind ?_ (fun _ => ?_)

end Go.Proofs.Ytehdmpfeddieoaa.PFnPowers
