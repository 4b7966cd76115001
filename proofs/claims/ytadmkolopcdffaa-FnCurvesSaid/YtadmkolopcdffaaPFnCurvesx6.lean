-- Written for this claim by a program of this session.
import Derived.Test.YtadmkolopcdffaaPFnCurvesx0
import Derived.Test.YtadmkolopcdffaaPFnCurvesx1
import Derived.Test.YtadmkolopcdffaaPFnCurvesx3
import Derived.Test.YtadmkolopcdffaaPFnCurvesx4
import Derived.Test.YtadmkolopcdffaaPFnCurvesx5
namespace Go.Proofs.Ytadmkolopcdffaa.PFnCurves
open Go.RowKit Go.Proofs.YtadmkolopcdffaaW.PrintWords Go.Proofs.YtadmkolopcdffaaW.PrintLast Go.Proofs.YtadmkolopcdffaaW.PrintMore
attribute [local go_sem] max2_int min2_int max_two min_two max_three min_three max_four min_four   -- for this text's walks alone
set_option linter.unusedVariables false
set_option linter.unusedSimpArgs false

attribute [local go_sem high] eqA26
attribute [local go_sem] fld_
/-! ### laws_FnCurves: function 6 -/
mutual
def laws_FnCurves.j0 : Nat → List Int → Bool → Int → Int → Int → Int → Int → Int → Int → Int → Bool → Int → Int → Bool → Option (Bool)
  | 0, _, _, _, _, _, _, _, _, _, _, _, _, _, _ => none
  | k + 1, x0, x59, x288000, x288001, x288002, x288003, x288004, x288005, x289000, x289001, x289002, x290000, x290001, x290002 => if x59 = true then (some false) else ((impl_PointAdd.f k x288000 x288001 x288002 x288003 x288004 x288005 x289000 x289001 x289002 x290000 x290001 x290002).bind fun bt294 => ((impl_PointAdd.f k x288000 x288001 x288002 x288003 x288004 x288005 x290000 x290001 x290002 x289000 x289001 x289002).bind fun bt299 => ((impl_PointAdd.f k x288000 x288001 x288002 x288003 x288004 x288005 bt294.1 bt294.2.1 bt294.2.2.1 x288004 x288005 false).bind fun bt304 => ((impl_PointAdd.f k x288000 x288001 x288002 x288003 x288004 x288005 x290000 x290001 x290002 x288004 x288005 false).bind fun bt309 => ((impl_PointAdd.f k x288000 x288001 x288002 x288003 x288004 x288005 x289000 x289001 x289002 bt309.1 bt309.2.1 bt309.2.2.1).bind fun bt314 => (if bt294.2.2.2 = true then (if (!(bt294.1 == bt299.1) || (!(bt294.2.1 == bt299.2.1) || (!(bt294.2.2.1 == bt299.2.2.1)))) = true then (laws_FnCurves.j1 k x0 true x288000 x288001 x288002 x288003 x288004 x288005 x289000 x289001 x289002 x288004 x288005 false) else (if (!(bt304.1 == bt314.1) || (!(bt304.2.1 == bt314.2.1) || (!(bt304.2.2.1 == bt314.2.2.1)))) = true then (laws_FnCurves.j1 k x0 true x288000 x288001 x288002 x288003 x288004 x288005 x289000 x289001 x289002 x288004 x288005 false) else ((impl_PointOk.f k x288000 x288001 x288002 x288003 x288004 x288005 bt294.1 bt294.2.1 bt294.2.2.1).bind fun t319 => (laws_FnCurves.j1 k x0 (!t319) x288000 x288001 x288002 x288003 x288004 x288005 x289000 x289001 x289002 x288004 x288005 false)))) else (laws_FnCurves.j1 k x0 true x288000 x288001 x288002 x288003 x288004 x288005 x289000 x289001 x289002 x288004 x288005 false)))))))
def laws_FnCurves.j1 : Nat → List Int → Bool → Int → Int → Int → Int → Int → Int → Int → Int → Bool → Int → Int → Bool → Option (Bool)
  | 0, _, _, _, _, _, _, _, _, _, _, _, _, _, _ => none
  | k + 1, x0, x117, x288000, x288001, x288002, x288003, x288004, x288005, x289000, x289001, x289002, x294000, x294001, x294002 => if x117 = true then (some false) else (if x289002 = true then (laws_FnCurves.j2 k x0 x288000 x288001 x288002 x288003 x288004 x288005 x289000 x289001 x289002 x294000 x294001 x294002) else (if x288000 = 0 then (none) else ((impl_PointAdd.f k x288000 x288001 x288002 x288003 x288004 x288005 x289000 x289001 x289002 x289000 (Int.tmod (wrap64 (x288000 - x289001)) x288000) false).bind fun bt320 => (if bt320.2.2.1 = true then (laws_FnCurves.j2 k x0 x288000 x288001 x288002 x288003 x288004 x288005 x289000 x289001 x289002 x294000 x294001 x294002) else (some false)))))
def laws_FnCurves.j2 : Nat → List Int → Int → Int → Int → Int → Int → Int → Int → Int → Bool → Int → Int → Bool → Option (Bool)
  | 0, _, _, _, _, _, _, _, _, _, _, _, _, _ => none
  | k + 1, x0, x288000, x288001, x288002, x288003, x288004, x288005, x289000, x289001, x289002, x294000, x294001, x294002 => (laws_at.f x0 0).bind fun t325 => ((laws_at.f x0 1).bind fun t326 => ((laws_at.f x0 2).bind fun t327 => ((impl_PointMul.f k x288000 x288001 x288002 x288003 x288004 x288005 (wrap64 (t325 * t326)) x289000 x289001 x289002).bind fun bt328 => ((impl_PointMul.f k x288000 x288001 x288002 x288003 x288004 x288005 t327 x289000 x289001 x289002).bind fun bt333 => ((impl_PointMul.f k x288000 x288001 x288002 x288003 x288004 x288005 (wrap64 ((wrap64 (t325 * t326)) + t327)) x289000 x289001 x289002).bind fun bt338 => ((impl_PointAdd.f k x288000 x288001 x288002 x288003 x288004 x288005 bt328.1 bt328.2.1 bt328.2.2.1 bt333.1 bt333.2.1 bt333.2.2.1).bind fun bt343 => ((impl_TwoMul.f k x288000 x288001 x288002 x288003 x288004 x288005 (wrap64 (t325 * t326)) t327 x289000 x289001 x289002).bind fun bt348 => ((impl_PointMul.f k x288000 x288001 x288002 x288003 x288004 x288005 (wrap64 (t325 * t326)) x294000 x294001 x294002).bind fun bt353 => ((impl_PointAdd.f k x288000 x288001 x288002 x288003 x288004 x288005 bt353.1 bt353.2.1 bt353.2.2.1 bt333.1 bt333.2.1 bt333.2.2.1).bind fun bt358 => ((impl_PointMul.f k x288000 x288001 x288002 x288003 x288004 x288005 x288003 x289000 x289001 x289002).bind fun bt363 => (if (bt343.1 == bt338.1 && (bt343.2.1 == bt338.2.1 && (bt343.2.2.1 == bt338.2.2.1))) = true then (if bt348.2.2.2 = true then (if (bt348.1 == bt358.1 && (bt348.2.1 == bt358.2.1 && (bt348.2.2.1 == bt358.2.2.1))) = true then (some bt363.2.2.1) else (some false)) else (some false)) else (some false))))))))))))
end
def laws_FnCurves.f (k : Nat) (l0 : List Int) : Option (Bool) := (laws_big.f l0).bind fun t274 => (if t274 = true then (some true) else ((spec_DrawCurve.f k l0).bind fun bt275 => ((impl_CurveOk.f k bt275.1 bt275.2.1 bt275.2.2.1 bt275.2.2.2.1 bt275.2.2.2.2.1 bt275.2.2.2.2.2.1).bind fun t290 => (if t290 = true then ((impl_PointOk.f k bt275.1 bt275.2.1 bt275.2.2.1 bt275.2.2.2.1 bt275.2.2.2.2.1 bt275.2.2.2.2.2.1 bt275.2.2.2.2.2.2.1 bt275.2.2.2.2.2.2.2.1 bt275.2.2.2.2.2.2.2.2.1).bind fun t291 => (if t291 = true then ((impl_PointOk.f k bt275.1 bt275.2.1 bt275.2.2.1 bt275.2.2.2.1 bt275.2.2.2.2.1 bt275.2.2.2.2.2.1 bt275.2.2.2.2.2.2.2.2.2.1 bt275.2.2.2.2.2.2.2.2.2.2.1 bt275.2.2.2.2.2.2.2.2.2.2.2).bind fun t292 => (laws_FnCurves.j0 k l0 (!t292) bt275.1 bt275.2.1 bt275.2.2.1 bt275.2.2.2.1 bt275.2.2.2.2.1 bt275.2.2.2.2.2.1 bt275.2.2.2.2.2.2.1 bt275.2.2.2.2.2.2.2.1 bt275.2.2.2.2.2.2.2.2.1 bt275.2.2.2.2.2.2.2.2.2.1 bt275.2.2.2.2.2.2.2.2.2.2.1 bt275.2.2.2.2.2.2.2.2.2.2.2)) else (laws_FnCurves.j0 k l0 true bt275.1 bt275.2.1 bt275.2.2.1 bt275.2.2.2.1 bt275.2.2.2.2.1 bt275.2.2.2.2.2.1 bt275.2.2.2.2.2.2.1 bt275.2.2.2.2.2.2.2.1 bt275.2.2.2.2.2.2.2.2.1 bt275.2.2.2.2.2.2.2.2.2.1 bt275.2.2.2.2.2.2.2.2.2.2.1 bt275.2.2.2.2.2.2.2.2.2.2.2))) else (laws_FnCurves.j0 k l0 true bt275.1 bt275.2.1 bt275.2.2.1 bt275.2.2.2.1 bt275.2.2.2.2.1 bt275.2.2.2.2.2.1 bt275.2.2.2.2.2.2.1 bt275.2.2.2.2.2.2.2.1 bt275.2.2.2.2.2.2.2.2.1 bt275.2.2.2.2.2.2.2.2.2.1 bt275.2.2.2.2.2.2.2.2.2.2.1 bt275.2.2.2.2.2.2.2.2.2.2.2)))))
theorem laws_FnCurves.mono_l : ∀ k, (∀ y0 y1 y2 y3 y4 y5 y6 y7 y8 y9 y10 y11 y12 y13, LeO (laws_FnCurves.j0 k y0 y1 y2 y3 y4 y5 y6 y7 y8 y9 y10 y11 y12 y13) (laws_FnCurves.j0 (k + 1) y0 y1 y2 y3 y4 y5 y6 y7 y8 y9 y10 y11 y12 y13)) ∧ (∀ y0 y1 y2 y3 y4 y5 y6 y7 y8 y9 y10 y11 y12 y13, LeO (laws_FnCurves.j1 k y0 y1 y2 y3 y4 y5 y6 y7 y8 y9 y10 y11 y12 y13) (laws_FnCurves.j1 (k + 1) y0 y1 y2 y3 y4 y5 y6 y7 y8 y9 y10 y11 y12 y13)) ∧ (∀ y0 y1 y2 y3 y4 y5 y6 y7 y8 y9 y10 y11 y12, LeO (laws_FnCurves.j2 k y0 y1 y2 y3 y4 y5 y6 y7 y8 y9 y10 y11 y12) (laws_FnCurves.j2 (k + 1) y0 y1 y2 y3 y4 y5 y6 y7 y8 y9 y10 y11 y12))
 | 0 => ⟨fun _ _ _ _ _ _ _ _ _ _ _ _ _ _ r h => by simp [laws_FnCurves.j0] at h, fun _ _ _ _ _ _ _ _ _ _ _ _ _ _ r h => by simp [laws_FnCurves.j1] at h, fun _ _ _ _ _ _ _ _ _ _ _ _ _ r h => by simp [laws_FnCurves.j2] at h⟩
 | k + 1 => by
  obtain ⟨ih0, ih1, ih2⟩ := laws_FnCurves.mono_l k
  refine ⟨?_, ?_, ?_⟩
  ·
   intro y0 y1 y2 y3 y4 y5 y6 y7 y8 y9 y10 y11 y12 y13
   unfold laws_FnCurves.j0
   repeat' first
   | (with_reducible exact ih0 _ _ _ _ _ _ _ _ _ _ _ _ _ _)
   | (with_reducible exact ih1 _ _ _ _ _ _ _ _ _ _ _ _ _ _)
   | (with_reducible exact ih2 _ _ _ _ _ _ _ _ _ _ _ _ _)
   | (with_reducible exact impl_CurveOk.mono _ _ _ _ _ _ _)
   | (with_reducible exact impl_PointAdd.mono _ _ _ _ _ _ _ _ _ _ _ _ _)
   | (with_reducible exact impl_PointMul.mono _ _ _ _ _ _ _ _ _ _ _)
   | (with_reducible exact impl_PointOk.mono _ _ _ _ _ _ _ _ _ _)
   | (with_reducible exact impl_TwoMul.mono _ _ _ _ _ _ _ _ _ _ _ _)
   | (with_reducible exact spec_DrawCurve.mono _ _)
   | (with_reducible exact LeO.refl _)
   | (with_reducible exact LeO.none _)
   | (with_reducible refine LeO.ite ?_ ?_)
   | (with_reducible refine LeO.bind ?_ (fun _ => ?_))
   | exact ih0 _ _ _ _ _ _ _ _ _ _ _ _ _ _
   | exact ih1 _ _ _ _ _ _ _ _ _ _ _ _ _ _
   | exact ih2 _ _ _ _ _ _ _ _ _ _ _ _ _
   | exact impl_CurveOk.mono _ _ _ _ _ _ _
   | exact impl_PointAdd.mono _ _ _ _ _ _ _ _ _ _ _ _ _
   | exact impl_PointMul.mono _ _ _ _ _ _ _ _ _ _ _
   | exact impl_PointOk.mono _ _ _ _ _ _ _ _ _ _
   | exact impl_TwoMul.mono _ _ _ _ _ _ _ _ _ _ _ _
   | exact spec_DrawCurve.mono _ _
   | exact LeO.none _
   | refine LeO.ite ?_ ?_
   | refine LeO.bind ?_ (fun _ => ?_)
  ·
   intro y0 y1 y2 y3 y4 y5 y6 y7 y8 y9 y10 y11 y12 y13
   unfold laws_FnCurves.j1
   repeat' first
   | (with_reducible exact ih0 _ _ _ _ _ _ _ _ _ _ _ _ _ _)
   | (with_reducible exact ih1 _ _ _ _ _ _ _ _ _ _ _ _ _ _)
   | (with_reducible exact ih2 _ _ _ _ _ _ _ _ _ _ _ _ _)
   | (with_reducible exact impl_CurveOk.mono _ _ _ _ _ _ _)
   | (with_reducible exact impl_PointAdd.mono _ _ _ _ _ _ _ _ _ _ _ _ _)
   | (with_reducible exact impl_PointMul.mono _ _ _ _ _ _ _ _ _ _ _)
   | (with_reducible exact impl_PointOk.mono _ _ _ _ _ _ _ _ _ _)
   | (with_reducible exact impl_TwoMul.mono _ _ _ _ _ _ _ _ _ _ _ _)
   | (with_reducible exact spec_DrawCurve.mono _ _)
   | (with_reducible exact LeO.refl _)
   | (with_reducible exact LeO.none _)
   | (with_reducible refine LeO.ite ?_ ?_)
   | (with_reducible refine LeO.bind ?_ (fun _ => ?_))
   | exact ih0 _ _ _ _ _ _ _ _ _ _ _ _ _ _
   | exact ih1 _ _ _ _ _ _ _ _ _ _ _ _ _ _
   | exact ih2 _ _ _ _ _ _ _ _ _ _ _ _ _
   | exact impl_CurveOk.mono _ _ _ _ _ _ _
   | exact impl_PointAdd.mono _ _ _ _ _ _ _ _ _ _ _ _ _
   | exact impl_PointMul.mono _ _ _ _ _ _ _ _ _ _ _
   | exact impl_PointOk.mono _ _ _ _ _ _ _ _ _ _
   | exact impl_TwoMul.mono _ _ _ _ _ _ _ _ _ _ _ _
   | exact spec_DrawCurve.mono _ _
   | exact LeO.none _
   | refine LeO.ite ?_ ?_
   | refine LeO.bind ?_ (fun _ => ?_)
  ·
   intro y0 y1 y2 y3 y4 y5 y6 y7 y8 y9 y10 y11 y12
   unfold laws_FnCurves.j2
   repeat' first
   | (with_reducible exact ih0 _ _ _ _ _ _ _ _ _ _ _ _ _ _)
   | (with_reducible exact ih1 _ _ _ _ _ _ _ _ _ _ _ _ _ _)
   | (with_reducible exact ih2 _ _ _ _ _ _ _ _ _ _ _ _ _)
   | (with_reducible exact impl_CurveOk.mono _ _ _ _ _ _ _)
   | (with_reducible exact impl_PointAdd.mono _ _ _ _ _ _ _ _ _ _ _ _ _)
   | (with_reducible exact impl_PointMul.mono _ _ _ _ _ _ _ _ _ _ _)
   | (with_reducible exact impl_PointOk.mono _ _ _ _ _ _ _ _ _ _)
   | (with_reducible exact impl_TwoMul.mono _ _ _ _ _ _ _ _ _ _ _ _)
   | (with_reducible exact spec_DrawCurve.mono _ _)
   | (with_reducible exact LeO.refl _)
   | (with_reducible exact LeO.none _)
   | (with_reducible refine LeO.ite ?_ ?_)
   | (with_reducible refine LeO.bind ?_ (fun _ => ?_))
   | exact ih0 _ _ _ _ _ _ _ _ _ _ _ _ _ _
   | exact ih1 _ _ _ _ _ _ _ _ _ _ _ _ _ _
   | exact ih2 _ _ _ _ _ _ _ _ _ _ _ _ _
   | exact impl_CurveOk.mono _ _ _ _ _ _ _
   | exact impl_PointAdd.mono _ _ _ _ _ _ _ _ _ _ _ _ _
   | exact impl_PointMul.mono _ _ _ _ _ _ _ _ _ _ _
   | exact impl_PointOk.mono _ _ _ _ _ _ _ _ _ _
   | exact impl_TwoMul.mono _ _ _ _ _ _ _ _ _ _ _ _
   | exact spec_DrawCurve.mono _ _
   | exact LeO.none _
   | refine LeO.ite ?_ ?_
   | refine LeO.bind ?_ (fun _ => ?_)
theorem laws_FnCurves.mono : ∀ a0 k, LeO (laws_FnCurves.f k a0) (laws_FnCurves.f (k + 1) a0) := by
 intro a0 k; obtain ⟨ih0, ih1, ih2⟩ := laws_FnCurves.mono_l k
 unfold laws_FnCurves.f
 repeat' first
   | (with_reducible exact ih0 _ _ _ _ _ _ _ _ _ _ _ _ _ _)
   | (with_reducible exact ih1 _ _ _ _ _ _ _ _ _ _ _ _ _ _)
   | (with_reducible exact ih2 _ _ _ _ _ _ _ _ _ _ _ _ _)
   | (with_reducible exact impl_CurveOk.mono _ _ _ _ _ _ _)
   | (with_reducible exact impl_PointAdd.mono _ _ _ _ _ _ _ _ _ _ _ _ _)
   | (with_reducible exact impl_PointMul.mono _ _ _ _ _ _ _ _ _ _ _)
   | (with_reducible exact impl_PointOk.mono _ _ _ _ _ _ _ _ _ _)
   | (with_reducible exact impl_TwoMul.mono _ _ _ _ _ _ _ _ _ _ _ _)
   | (with_reducible exact spec_DrawCurve.mono _ _)
   | (with_reducible exact LeO.refl _)
   | (with_reducible exact LeO.none _)
   | (with_reducible refine LeO.ite ?_ ?_)
   | (with_reducible refine LeO.bind ?_ (fun _ => ?_))
   | exact ih0 _ _ _ _ _ _ _ _ _ _ _ _ _ _
   | exact ih1 _ _ _ _ _ _ _ _ _ _ _ _ _ _
   | exact ih2 _ _ _ _ _ _ _ _ _ _ _ _ _
   | exact impl_CurveOk.mono _ _ _ _ _ _ _
   | exact impl_PointAdd.mono _ _ _ _ _ _ _ _ _ _ _ _ _
   | exact impl_PointMul.mono _ _ _ _ _ _ _ _ _ _ _
   | exact impl_PointOk.mono _ _ _ _ _ _ _ _ _ _
   | exact impl_TwoMul.mono _ _ _ _ _ _ _ _ _ _ _ _
   | exact spec_DrawCurve.mono _ _
   | exact LeO.none _
   | refine LeO.ite ?_ ?_
   | refine LeO.bind ?_ (fun _ => ?_)
def laws_FnCurves.T15 : Bool × List (List Nat × List Nat) := (true, [([], []), ([], []), ([], []), ([2], [2]), ([], []), ([4], [4]), ([], []), ([6], [6]), ([5, 7], [5, 7]), ([], []), ([9], [9]), ([8, 10], [8, 10]), ([3, 11], [3, 11]), ([0, 1, 12], [0, 1, 12]), ([13], [13]), ([14], [14]), ([14], [14]), ([], []), ([17, 15, 13, 0, 1, 2, 3, 4, 5, 6, 7, 8, 9, 10, 11, 12, 13, 14, 15, 17], [15, 17]), ([16, 18, 0, 1, 2, 3, 4, 5, 6, 7, 8, 9, 10, 11, 12, 13, 14, 15, 16, 17, 18], [16])])
def laws_FnCurves.B15 : List Nat := [0, 0, 0, 4, 0, 16, 0, 64, 240, 0, 512, 2032, 4092, 8191, 16383, 32767, 32767, 0, 196607, 524287]
theorem laws_FnCurves.tab15 : rtab .any (opsOf Try.f6 15) = laws_FnCurves.T15 := by kernel_rfl
theorem laws_FnCurves.bits15 : waitsOk laws_FnCurves.T15.2 laws_FnCurves.B15 = true := by kernel_rfl
def laws_FnCurves.CS0 (gb287 : Nat) (gb288 : Nat) (t275 : Int) (t276 : Int) (t277 : Int) (t278 : Int) (t279 : Int) (t280 : Int) (t281 : Int) (t282 : Int) (w' : World) : Prop := w'.cell? ⟨gb287, 0, none⟩ = some (.int .i64 t275) ∧ w'.cell? ⟨gb287, 1, none⟩ = some (.int .i64 t276) ∧ w'.cell? ⟨gb287, 2, none⟩ = some (.int .i64 t277) ∧ w'.cell? ⟨gb287, 3, none⟩ = some (.int .i64 t278) ∧ w'.cell? ⟨gb287, 4, none⟩ = some (.int .i64 t279) ∧ w'.cell? ⟨gb287, 5, none⟩ = some (.int .i64 t280) ∧ w'.cell? ⟨gb288, 0, none⟩ = some (.int .i64 t281) ∧ w'.cell? ⟨gb288, 1, none⟩ = some (.int .i64 t282) ∧ w'.cell? ⟨gb288, 2, none⟩ = some (.bool false)
set_option maxHeartbeats 8000000 in
set_option maxRecDepth 100000 in
noncomputable def laws_FnCurves.calls.cut0 : { T_ : Prop // Nonempty (PLift T_) → ∀ (k : Nat) (A0 : Option Addr) (c0 : Nat) (l0 : List Int) (r : Bool) (w : World) (hr0 : Kd.C (Kd.int .u8) w A0 l0.length l0) (hc0 : l0.length ≤ c0) (h : laws_FnCurves.f k l0 = some r), Calls Try.prog 6 #[.slice A0 l0.length c0] w fun e w' => e = .returned (.bool r) ∧ Below w.heap.size w w' } := ⟨_, fun hT0_ k A0 c0 l0 r w hr0 hc0 h => by
 have hu29 := Try.underlying29; have hu26 := Try.underlying26; have HR0 := Aside0.mk hr0; have HC0 := Aside0.mk hc0; clear hr0 hc0; have HB := Aside0.mk (Below.refl w.heap.size w)
 have H : ((laws_big.f l0).bind fun t274 => (if t274 = true then (some true) else ((spec_DrawCurve.f k l0).bind fun bt275 => ((impl_CurveOk.f k bt275.1 bt275.2.1 bt275.2.2.1 bt275.2.2.2.1 bt275.2.2.2.2.1 bt275.2.2.2.2.2.1).bind fun t290 => (if t290 = true then ((impl_PointOk.f k bt275.1 bt275.2.1 bt275.2.2.1 bt275.2.2.2.1 bt275.2.2.2.2.1 bt275.2.2.2.2.2.1 bt275.2.2.2.2.2.2.1 bt275.2.2.2.2.2.2.2.1 bt275.2.2.2.2.2.2.2.2.1).bind fun t291 => (if t291 = true then ((impl_PointOk.f k bt275.1 bt275.2.1 bt275.2.2.1 bt275.2.2.2.1 bt275.2.2.2.2.1 bt275.2.2.2.2.2.1 bt275.2.2.2.2.2.2.2.2.2.1 bt275.2.2.2.2.2.2.2.2.2.2.1 bt275.2.2.2.2.2.2.2.2.2.2.2).bind fun t292 => (laws_FnCurves.j0 k l0 (!t292) bt275.1 bt275.2.1 bt275.2.2.1 bt275.2.2.2.1 bt275.2.2.2.2.1 bt275.2.2.2.2.2.1 bt275.2.2.2.2.2.2.1 bt275.2.2.2.2.2.2.2.1 bt275.2.2.2.2.2.2.2.2.1 bt275.2.2.2.2.2.2.2.2.2.1 bt275.2.2.2.2.2.2.2.2.2.2.1 bt275.2.2.2.2.2.2.2.2.2.2.2)) else (laws_FnCurves.j0 k l0 true bt275.1 bt275.2.1 bt275.2.2.1 bt275.2.2.2.1 bt275.2.2.2.2.1 bt275.2.2.2.2.2.1 bt275.2.2.2.2.2.2.1 bt275.2.2.2.2.2.2.2.1 bt275.2.2.2.2.2.2.2.2.1 bt275.2.2.2.2.2.2.2.2.2.1 bt275.2.2.2.2.2.2.2.2.2.2.1 bt275.2.2.2.2.2.2.2.2.2.2.2))) else (laws_FnCurves.j0 k l0 true bt275.1 bt275.2.1 bt275.2.2.1 bt275.2.2.2.1 bt275.2.2.2.2.1 bt275.2.2.2.2.2.1 bt275.2.2.2.2.2.2.1 bt275.2.2.2.2.2.2.2.1 bt275.2.2.2.2.2.2.2.2.1 bt275.2.2.2.2.2.2.2.2.2.1 bt275.2.2.2.2.2.2.2.2.2.2.1 bt275.2.2.2.2.2.2.2.2.2.2.2)))))) = some r := h
 clear h; obtain ⟨t274, A20, H⟩ := pb_ H
 have A2 := Aside0.mk A20; clear A20
 by_cases c3 : t274 = true
 ·
  subst c3
  rw [if_pos rfl] at H; obtain rfl := Option.some.inj H
  go_enter Try.func6, Try.ntmps6
  go_wp2_with (first | ((with_reducible refine gate_callee (f := 21) rfl ?_); refine gl_ 38 rfl rfl Try.func21 #[.slice A0 l0.length c0] rfl ?_; (with_reducible refine (laws_big.calls _ _ l0 true _ ?side1 ?side2 A2.out).mono ?_); (case side1 => repeat (first | exact HR0.out | (with_reducible refine Kd.C_alloc ?_ _) | (with_reducible refine Kd.C_drewN ?_ _) | (with_reducible refine Kd.C_drew ?_))); (case side2 => exact HC0.out); rintro e w' ⟨rfl, ⟨nd, rfl⟩⟩; refine ⟨_, rfl, ?_⟩))
  go_ret
  exact ⟨by first | rfl | (simp [errW_none, errW_some] <;> rfl) | (simp [*, errW_none, errW_some] <;> rfl), by repeat (first | (with_reducible first | exact HB.out | apply below_alloc | apply pw_below_drewN | apply below_drew1) | exact HB.out)⟩
 ·
  replace c3 := Bool.eq_false_iff.mpr c3; subst c3
  rw [if_neg (show ¬ (false = true) by decide)] at H; obtain ⟨⟨t275, t276, t277, t278, t279, t280, t281, t282, t283, t284, t285, t286⟩, A40, H⟩ := pb_ H
  have A4 := Aside0.mk A40; clear A40; have HC5 := Aside0.mk H; clear H
  go_enter Try.func6, Try.ntmps6
  go_upto_region 4 with (first | ((with_reducible refine gate_callee (f := 21) rfl ?_); refine gl_ 38 rfl rfl Try.func21 #[.slice A0 l0.length c0] rfl ?_; (with_reducible refine (laws_big.calls _ _ l0 false _ ?side1 ?side2 A2.out).mono ?_); (case side1 => repeat (first | exact HR0.out | (with_reducible refine Kd.C_alloc ?_ _) | (with_reducible refine Kd.C_drewN ?_ _) | (with_reducible refine Kd.C_drew ?_))); (case side2 => exact HC0.out); rintro e w' ⟨rfl, ⟨nd, rfl⟩⟩; refine ⟨_, rfl, ?_⟩) | ((with_reducible refine gate_callee (f := 22) rfl ?_); refine gl_ 41 rfl rfl Try.func22 #[.slice A0 l0.length c0] rfl ?_; (with_reducible refine (spec_DrawCurve.calls k _ _ l0 t275 t276 t277 t278 t279 t280 t281 t282 t283 t284 t285 t286 _ ?side1 ?side2 A4.out).mono ?_); (case side1 => repeat (first | exact HR0.out | (with_reducible refine Kd.C_alloc ?_ _) | (with_reducible refine Kd.C_drewN ?_ _) | (with_reducible refine Kd.C_drew ?_))); (case side2 => exact HC0.out); rintro e w6 ⟨rfl, hb⟩; refine ⟨_, rfl, ?_⟩; replace HB := bs_ HB hb; (try clear hb); (try clear hb2); (try clear hk); (try clear hi)) | ((with_reducible refine gate_dst (N := 3) rfl ?_); refine box_event ?hg (N := 3) ?hd (cs := #[.int .i64 0, .int .i64 0, .int .i64 0, .int .i64 0, .int .i64 0, .int .i64 0]) (t := 29) ?hr ?_; (case hd => rfl); (case hg => rfl); (case hr => first | (go_simp; done) | (go_simp; rfl)); intro gb287 hg w7 hbox hb; have BK287 := Aside0.mk hbox; have GW287 := ge_ HB hg; have GE287 := ge_ HB hg; replace HB := bs_ HB hb; clear hb hbox hg) | ((with_reducible refine gate_dst (N := 4) rfl ?_); refine box_event ?hg (N := 4) ?hd (cs := #[.int .i64 0, .int .i64 0, .bool false]) (t := 26) ?hr ?_; (case hd => rfl); (case hg => rfl); (case hr => first | (go_simp; done) | (go_simp; rfl)); intro gb288 hg w8 hbox hb; have BK288 := Aside0.mk hbox; have GW288 := ge_ HB hg; have GE288 := ge_ HB hg; have NB287_288 := nl_ BK287 hg; have NB288_287 := nr_ BK287 hg; replace BK287 := bb_ BK287 hb; replace HB := bs_ HB hb; clear hb hbox hg) | ((with_reducible refine gate_dst (N := 5) rfl ?_); refine box_event ?hg (N := 5) ?hd (cs := #[.int .i64 0, .int .i64 0, .bool false]) (t := 26) ?hr ?_; (case hd => rfl); (case hg => rfl); (case hr => first | (go_simp; done) | (go_simp; rfl)); intro gb289 hg w9 hbox hb; have BK289 := Aside0.mk hbox; have GW289 := ge_ HB hg; have GE289 := ge_ HB hg; have NB287_289 := nl_ BK287 hg; have NB289_287 := nr_ BK287 hg; have NB288_289 := nl_ BK288 hg; have NB289_288 := nr_ BK288 hg; replace BK287 := bb_ BK287 hb; replace BK288 := bb_ BK288 hb; replace HB := bs_ HB hb; clear hb hbox hg; obtain ⟨hnb10, hnc10⟩ := nn_ NB287_288; obtain ⟨hnb11, hnc11⟩ := nn_ NB287_289; obtain ⟨hcz12_0, hcz12_1, hcz12_2, hcz12_3, hcz12_4, hcz12_5, hfz12_0, hfz12_1, hfz12_2, hfz12_3, hfz12_4, hfz12_5⟩ := bx6_ BK287; obtain ⟨hnb13, hnc13⟩ := nn_ NB288_289; obtain ⟨hcz14_0, hcz14_1, hcz14_2, hfz14_0, hfz14_1, hfz14_2⟩ := bx3_ BK288; obtain ⟨hcz15_0, hcz15_1, hcz15_2, hfz15_0, hfz15_1, hfz15_2⟩ := bx3_ BK289))
  (try simp only [Act.put, sA_, sZ_, sS_])
  go_cut [59] (fun v59 wc => ∃ (kq : Nat) (x59_4 : Bool), v59 = .bool x59_4 ∧ Aside0 (laws_FnCurves.j0 kq l0 x59_4 t275 t276 t277 t278 t279 t280 t281 t282 t283 t284 t285 t286 = some r) ∧ Aside0 (kq ≤ k) ∧ Aside0 (wc.heap[gb287]? = some (.cells #[.int .i64 t275, .int .i64 t276, .int .i64 t277, .int .i64 t278, .int .i64 t279, .int .i64 t280] 29 (0, 0))) ∧ Aside0 (wc.heap[gb288]? = some (.cells #[.int .i64 t281, .int .i64 t282, .bool t283] 26 (0, 0))) ∧ Aside0 (wc.heap[gb289]? = some (.cells #[.int .i64 t284, .int .i64 t285, .bool t286] 26 (0, 0))) ∧ Aside0 (Below w.heap.size w wc))
  case first =>
   have H := HC5.out; clear HC5; obtain ⟨t290, A160, H⟩ := pb_ H
   have A16 := Aside0.mk A160; clear A160
   by_cases c17 : t290 = true
   ·
    subst c17
    rw [if_pos rfl] at H; obtain ⟨t291, A180, H⟩ := pb_ H
    have A18 := Aside0.mk A180; clear A180
    by_cases c19 : t291 = true
    ·
     subst c19
     rw [if_pos rfl] at H; obtain ⟨t292, A200, H⟩ := pb_ H
     have A20 := Aside0.mk A200; clear A200
     have H' := Aside0.mk H
     clear H; obtain ⟨hnb21, hnc21⟩ := nn_ NB287_288; obtain ⟨hnb22, hnc22⟩ := nn_ NB287_289
     obtain ⟨hcz23_0, hcz23_1, hcz23_2, hcz23_3, hcz23_4, hcz23_5, hfz23_0, hfz23_1, hfz23_2, hfz23_3, hfz23_4, hfz23_5⟩ := bx6_ BK287
     go_wp2_with (first | ((with_reducible refine gate_callee (f := 23) rfl ?_); refine gl_ 46 rfl rfl Try.func23 #[.agg #[.int .i64 t275, .int .i64 t276, .int .i64 t277, .int .i64 t278, .int .i64 t279, .int .i64 t280]] rfl ?_; (with_reducible refine (impl_CurveOk.calls k t275 t276 t277 t278 t279 t280 true _ A16.out).mono ?_); rintro e w24 ⟨rfl, hb⟩; refine ⟨_, rfl, ?_⟩; replace BK287 := be_ #[.int .i64 t275, .int .i64 t276, .int .i64 t277, .int .i64 t278, .int .i64 t279, .int .i64 t280] BK287 hb; replace BK288 := be_ #[.int .i64 t281, .int .i64 t282, .bool t283] BK288 hb; replace BK289 := be_ #[.int .i64 t284, .int .i64 t285, .bool t286] BK289 hb; replace HB := bs_ HB hb; (try clear hb); (try clear hb2); (try clear hk); (try clear hi); obtain ⟨hcz25_0, hcz25_1, hcz25_2, hcz25_3, hcz25_4, hcz25_5, hfz25_0, hfz25_1, hfz25_2, hfz25_3, hfz25_4, hfz25_5⟩ := bx6_ BK287; obtain ⟨hnb26, hnc26⟩ := nn_ NB288_289; have hcz27_0 : w24.cell? ⟨gb288, 0, none⟩ = some (.int .i64 t281) := bc_ BK288 0; have hcz27_1 : w24.cell? ⟨gb288, 1, none⟩ = some (.int .i64 t282) := bc_ BK288 1; have hcz27_2 : w24.cell? ⟨gb288, 2, none⟩ = some (.bool t283) := bc_ BK288 2; have hfz27_0 := blk_frozen BK288.out 0; have hfz27_1 := blk_frozen BK288.out 1; have hfz27_2 := blk_frozen BK288.out 2) | (go_at_call 24; (with_reducible refine (impl_PointOk.calls k t275 t276 t277 t278 t279 t280 t281 t282 t283 true _ A18.out).mono ?_); rintro e w28 ⟨rfl, hb⟩; replace BK287 := bb_ BK287 hb; replace BK288 := bb_ BK288 hb; replace BK289 := bb_ BK289 hb; replace HB := bs_ HB hb; (try clear hb); (try clear hb2); (try clear hk); (try clear hi); obtain ⟨hcz29_0, hcz29_1, hcz29_2, hcz29_3, hcz29_4, hcz29_5, hfz29_0, hfz29_1, hfz29_2, hfz29_3, hfz29_4, hfz29_5⟩ := bx6_ BK287; have hcz30_0 : w28.cell? ⟨gb289, 0, none⟩ = some (.int .i64 t284) := bc_ BK289 0; have hcz30_1 : w28.cell? ⟨gb289, 1, none⟩ = some (.int .i64 t285) := bc_ BK289 1; have hcz30_2 : w28.cell? ⟨gb289, 2, none⟩ = some (.bool t286) := bc_ BK289 2; have hfz30_0 := blk_frozen BK289.out 0; have hfz30_1 := blk_frozen BK289.out 1; have hfz30_2 := blk_frozen BK289.out 2) | (go_at_call 24; (with_reducible refine (impl_PointOk.calls k t275 t276 t277 t278 t279 t280 t284 t285 t286 t292 _ A20.out).mono ?_); rintro e w31 ⟨rfl, hb⟩; replace BK287 := bb_ BK287 hb; replace BK288 := bb_ BK288 hb; replace BK289 := bb_ BK289 hb; replace HB := bs_ HB hb; (try clear hb); (try clear hb2); (try clear hk); (try clear hi)))
     go_meet
     case rel => exact ⟨_, (!t292), (by first | rfl | (simp; done) | (simp [*]; done)), H', ⟨by first | omega | exact Nat.le_refl _⟩, ⟨bk_ BK287⟩, ⟨bk_ BK288⟩, ⟨bk_ BK289⟩, ⟨bw_ HB⟩⟩
    ·
     replace c19 := Bool.eq_false_iff.mpr c19; subst c19
     rw [if_neg (show ¬ (false = true) by decide)] at H
     have H' := Aside0.mk H
     clear H; obtain ⟨hnb32, hnc32⟩ := nn_ NB287_288; obtain ⟨hnb33, hnc33⟩ := nn_ NB287_289
     obtain ⟨hcz34_0, hcz34_1, hcz34_2, hcz34_3, hcz34_4, hcz34_5, hfz34_0, hfz34_1, hfz34_2, hfz34_3, hfz34_4, hfz34_5⟩ := bx6_ BK287
     go_wp2_with (first | ((with_reducible refine gate_callee (f := 23) rfl ?_); refine gl_ 46 rfl rfl Try.func23 #[.agg #[.int .i64 t275, .int .i64 t276, .int .i64 t277, .int .i64 t278, .int .i64 t279, .int .i64 t280]] rfl ?_; (with_reducible refine (impl_CurveOk.calls k t275 t276 t277 t278 t279 t280 true _ A16.out).mono ?_); rintro e w35 ⟨rfl, hb⟩; refine ⟨_, rfl, ?_⟩; replace BK287 := be_ #[.int .i64 t275, .int .i64 t276, .int .i64 t277, .int .i64 t278, .int .i64 t279, .int .i64 t280] BK287 hb; replace BK288 := be_ #[.int .i64 t281, .int .i64 t282, .bool t283] BK288 hb; replace BK289 := be_ #[.int .i64 t284, .int .i64 t285, .bool t286] BK289 hb; replace HB := bs_ HB hb; (try clear hb); (try clear hb2); (try clear hk); (try clear hi); obtain ⟨hcz36_0, hcz36_1, hcz36_2, hcz36_3, hcz36_4, hcz36_5, hfz36_0, hfz36_1, hfz36_2, hfz36_3, hfz36_4, hfz36_5⟩ := bx6_ BK287; obtain ⟨hnb37, hnc37⟩ := nn_ NB288_289; have hcz38_0 : w35.cell? ⟨gb288, 0, none⟩ = some (.int .i64 t281) := bc_ BK288 0; have hcz38_1 : w35.cell? ⟨gb288, 1, none⟩ = some (.int .i64 t282) := bc_ BK288 1; have hcz38_2 : w35.cell? ⟨gb288, 2, none⟩ = some (.bool t283) := bc_ BK288 2; have hfz38_0 := blk_frozen BK288.out 0; have hfz38_1 := blk_frozen BK288.out 1; have hfz38_2 := blk_frozen BK288.out 2) | (go_at_call 24; (with_reducible refine (impl_PointOk.calls k t275 t276 t277 t278 t279 t280 t281 t282 t283 false _ A18.out).mono ?_); rintro e w39 ⟨rfl, hb⟩; replace BK287 := bb_ BK287 hb; replace BK288 := bb_ BK288 hb; replace BK289 := bb_ BK289 hb; replace HB := bs_ HB hb; (try clear hb); (try clear hb2); (try clear hk); (try clear hi)))
     go_meet
     case rel => exact ⟨_, (true), (by first | rfl | (simp; done) | (simp [*]; done)), H', ⟨by first | omega | exact Nat.le_refl _⟩, ⟨bk_ BK287⟩, ⟨bk_ BK288⟩, ⟨bk_ BK289⟩, ⟨bw_ HB⟩⟩
   ·
    replace c17 := Bool.eq_false_iff.mpr c17; subst c17
    rw [if_neg (show ¬ (false = true) by decide)] at H
    have H' := Aside0.mk H
    clear H; obtain ⟨hnb40, hnc40⟩ := nn_ NB287_288; obtain ⟨hnb41, hnc41⟩ := nn_ NB287_289
    obtain ⟨hcz42_0, hcz42_1, hcz42_2, hcz42_3, hcz42_4, hcz42_5, hfz42_0, hfz42_1, hfz42_2, hfz42_3, hfz42_4, hfz42_5⟩ := bx6_ BK287
    go_wp2_with (first | ((with_reducible refine gate_callee (f := 23) rfl ?_); refine gl_ 46 rfl rfl Try.func23 #[.agg #[.int .i64 t275, .int .i64 t276, .int .i64 t277, .int .i64 t278, .int .i64 t279, .int .i64 t280]] rfl ?_; (with_reducible refine (impl_CurveOk.calls k t275 t276 t277 t278 t279 t280 false _ A16.out).mono ?_); rintro e w43 ⟨rfl, hb⟩; refine ⟨_, rfl, ?_⟩; replace BK287 := be_ #[.int .i64 t275, .int .i64 t276, .int .i64 t277, .int .i64 t278, .int .i64 t279, .int .i64 t280] BK287 hb; replace BK288 := be_ #[.int .i64 t281, .int .i64 t282, .bool t283] BK288 hb; replace BK289 := be_ #[.int .i64 t284, .int .i64 t285, .bool t286] BK289 hb; replace HB := bs_ HB hb; (try clear hb); (try clear hb2); (try clear hk); (try clear hi)))
    go_meet
    case rel => exact ⟨_, (true), (by first | rfl | (simp; done) | (simp [*]; done)), H', ⟨by first | omega | exact Nat.le_refl _⟩, ⟨bk_ BK287⟩, ⟨bk_ BK288⟩, ⟨bk_ BK289⟩, ⟨bw_ HB⟩⟩
  case rest =>
   clear HC5
   try clear c1
   try clear c2
   try clear p2
   try clear c3
   try clear c4
   try clear c6
   try clear c10
   try clear c11
   try clear c13
   try clear c17
   try clear c19
   try clear c21
   try clear c22
   try clear c23
   try clear c26
   try clear c32
   try clear c33
   try clear c37
   try clear c40
   try clear c41
   try clear hcz12_0 hcz12_1 hcz12_2 hcz12_3 hcz12_4 hcz12_5
   try clear hcz14_0 hcz14_1 hcz14_2
   try clear hcz15_0 hcz15_1 hcz15_2
   try clear hcz23_0 hcz23_1 hcz23_2 hcz23_3 hcz23_4 hcz23_5
   try clear hcz25_0 hcz25_1 hcz25_2 hcz25_3 hcz25_4 hcz25_5
   try clear hcz27_0 hcz27_1 hcz27_2
   try clear hcz29_0 hcz29_1 hcz29_2 hcz29_3 hcz29_4 hcz29_5
   try clear hcz30_0 hcz30_1 hcz30_2
   try clear hcz34_0 hcz34_1 hcz34_2 hcz34_3 hcz34_4 hcz34_5
   try clear hcz36_0 hcz36_1 hcz36_2 hcz36_3 hcz36_4 hcz36_5
   try clear hcz38_0 hcz38_1 hcz38_2
   try clear hcz42_0 hcz42_1 hcz42_2 hcz42_3 hcz42_4 hcz42_5
   try clear hfz12_0 hfz12_1 hfz12_2 hfz12_3 hfz12_4 hfz12_5
   try clear hfz14_0 hfz14_1 hfz14_2
   try clear hfz15_0 hfz15_1 hfz15_2
   try clear hfz23_0 hfz23_1 hfz23_2 hfz23_3 hfz23_4 hfz23_5
   try clear hfz25_0 hfz25_1 hfz25_2 hfz25_3 hfz25_4 hfz25_5
   try clear hfz27_0 hfz27_1 hfz27_2
   try clear hfz29_0 hfz29_1 hfz29_2 hfz29_3 hfz29_4 hfz29_5
   try clear hfz30_0 hfz30_1 hfz30_2
   try clear hfz34_0 hfz34_1 hfz34_2 hfz34_3 hfz34_4 hfz34_5
   try clear hfz36_0 hfz36_1 hfz36_2 hfz36_3 hfz36_4 hfz36_5
   try clear hfz38_0 hfz38_1 hfz38_2
   try clear hfz42_0 hfz42_1 hfz42_2 hfz42_3 hfz42_4 hfz42_5
   obtain ⟨kq, x59_4, rfl, HA, HJ4, BK287, BK288, BK289, HB⟩ := hcut
   cases kq with
   | zero => exact absurd HA.out (by simp [laws_FnCurves.j0])
   | succ kj4 =>
    have H := HA.out; clear HA
    simp only [laws_FnCurves.j0] at H
    by_cases c44 : x59_4 = true
    ·
     subst c44
     rw [if_pos rfl] at H; obtain rfl := Option.some.inj H
     go_wp2
     go_ret
     exact ⟨by first | rfl | (simp [errW_none, errW_some] <;> rfl) | (simp [*, errW_none, errW_some] <;> rfl), by repeat (first | (with_reducible first | exact HB.out | apply below_alloc | apply pw_below_drewN | apply below_drew1 | refine below_set ?_ GE287.out | refine below_set ?_ GE288.out | refine below_set ?_ GE289.out) | exact HB.out)⟩
    ·
     replace c44 := Bool.eq_false_iff.mpr c44; subst c44
     rw [if_neg (show ¬ (false = true) by decide)] at H; obtain ⟨⟨t294, t295, t296, t297⟩, A450, H⟩ := pb_ H
     have A45 := Aside0.mk A450; clear A450; obtain ⟨⟨t299, t300, t301, t302⟩, A460, H⟩ := pb_ H
     have A46 := Aside0.mk A460; clear A460; obtain ⟨⟨t304, t305, t306, t307⟩, A470, H⟩ := pb_ H
     have A47 := Aside0.mk A470; clear A470; obtain ⟨⟨t309, t310, t311, t312⟩, A480, H⟩ := pb_ H
     have A48 := Aside0.mk A480; clear A480; obtain ⟨⟨t314, t315, t316, t317⟩, A490, H⟩ := pb_ H
     have A49 := Aside0.mk A490; clear A490; have HC50 := Aside0.mk H; clear H; obtain ⟨hnb51, hnc51⟩ := nn_ NB287_288; obtain ⟨hnb52, hnc52⟩ := nn_ NB287_289
     obtain ⟨hcz53_0, hcz53_1, hcz53_2, hcz53_3, hcz53_4, hcz53_5, hfz53_0, hfz53_1, hfz53_2, hfz53_3, hfz53_4, hfz53_5⟩ := bx6_ BK287
     go_upto_region 12 with (first | ((with_reducible refine gate_dst (N := 6) rfl ?_); refine box_event ?hg (N := 6) ?hd (cs := #[.int .i64 0, .int .i64 0, .bool false]) (t := 26) ?hr ?_; (case hd => rfl); (case hg => rfl); (case hr => first | (go_simp; done) | (go_simp; rfl)); intro gb293 hg w54 hbox hb; have BK293 := Aside0.mk hbox; have GW293 := ge_ HB hg; have GE293 := ge_ HB hg; have NB287_293 := nl_ BK287 hg; have NB293_287 := nr_ BK287 hg; have NB288_293 := nl_ BK288 hg; have NB293_288 := nr_ BK288 hg; have NB289_293 := nl_ BK289 hg; have NB293_289 := nr_ BK289 hg; replace BK287 := bb_ BK287 hb; replace BK288 := bb_ BK288 hb; replace BK289 := bb_ BK289 hb; replace HB := bs_ HB hb; clear hb hbox hg; obtain ⟨hnb55, hnc55⟩ := nn_ NB293_287; obtain ⟨hnb56, hnc56⟩ := nn_ NB293_288; obtain ⟨hnb57, hnc57⟩ := nn_ NB293_289; obtain ⟨hcz58_0, hcz58_1, hcz58_2, hfz58_0, hfz58_1, hfz58_2⟩ := bx3_ BK293; obtain ⟨hcz59_0, hcz59_1, hcz59_2, hcz59_3, hcz59_4, hcz59_5, hfz59_0, hfz59_1, hfz59_2, hfz59_3, hfz59_4, hfz59_5⟩ := bx6_ BK287; obtain ⟨hnb60, hnc60⟩ := nn_ NB288_289; obtain ⟨hcz61_0, hcz61_1, hcz61_2, hfz61_0, hfz61_1, hfz61_2⟩ := bx3_ BK288; have hcz62_0 : w54.cell? ⟨gb289, 0, none⟩ = some (.int .i64 t284) := bc_ BK289 0; have hcz62_1 : w54.cell? ⟨gb289, 1, none⟩ = some (.int .i64 t285) := bc_ BK289 1; have hcz62_2 : w54.cell? ⟨gb289, 2, none⟩ = some (.bool t286) := bc_ BK289 2; have hfz62_0 := blk_frozen BK289.out 0; have hfz62_1 := blk_frozen BK289.out 1; have hfz62_2 := blk_frozen BK289.out 2) | ((with_reducible refine gate_callee (f := 11) rfl ?_); refine gl_ 69 rfl rfl Try.func11 #[.agg #[.int .i64 t275, .int .i64 t276, .int .i64 t277, .int .i64 t278, .int .i64 t279, .int .i64 t280], .agg #[.int .i64 t281, .int .i64 t282, .bool t283], .agg #[.int .i64 t284, .int .i64 t285, .bool t286]] rfl ?_; (with_reducible refine (impl_PointAdd.calls kj4 t275 t276 t277 t278 t279 t280 t281 t282 t283 t284 t285 t286 t294 t295 t296 t297 _ A45.out).mono ?_); rintro e w63 ⟨rfl, hb⟩; refine ⟨_, rfl, ?_⟩; replace BK287 := bd_ BK287 hb; replace BK288 := bd_ BK288 hb; replace BK289 := bd_ BK289 hb; replace BK293 := be_ #[.int .i64 t279, .int .i64 t280, .bool false] BK293 hb; replace HB := bs_ HB hb; (try clear hb); (try clear hb2); (try clear hk); (try clear hi)) | ((with_reducible refine gate_dst (N := 7) rfl ?_); refine box_event ?hg (N := 7) ?hd (cs := #[.int .i64 0, .int .i64 0, .bool false]) (t := 26) ?hr ?_; (case hd => rfl); (case hg => rfl); (case hr => first | (go_simp; done) | (go_simp; rfl)); intro gb298 hg w64 hbox hb; have BK298 := Aside0.mk hbox; have GW298 := ge_ HB hg; have GE298 := ge_ HB hg; have NB287_298 := nl_ BK287 hg; have NB298_287 := nr_ BK287 hg; have NB288_298 := nl_ BK288 hg; have NB298_288 := nr_ BK288 hg; have NB289_298 := nl_ BK289 hg; have NB298_289 := nr_ BK289 hg; have NB293_298 := nl_ BK293 hg; have NB298_293 := nr_ BK293 hg; replace BK287 := bb_ BK287 hb; replace BK288 := bb_ BK288 hb; replace BK289 := bb_ BK289 hb; replace BK293 := bb_ BK293 hb; replace HB := bs_ HB hb; clear hb hbox hg; obtain ⟨hnb65, hnc65⟩ := nn_ NB298_287; obtain ⟨hnb66, hnc66⟩ := nn_ NB298_288; obtain ⟨hnb67, hnc67⟩ := nn_ NB298_289; obtain ⟨hnb68, hnc68⟩ := nn_ NB298_293; obtain ⟨hcz69_0, hcz69_1, hcz69_2, hfz69_0, hfz69_1, hfz69_2⟩ := bx3_ BK298; obtain ⟨hcz70_0, hcz70_1, hcz70_2, hcz70_3, hcz70_4, hcz70_5, hfz70_0, hfz70_1, hfz70_2, hfz70_3, hfz70_4, hfz70_5⟩ := bx6_ BK287; obtain ⟨hcz71_0, hcz71_1, hcz71_2, hfz71_0, hfz71_1, hfz71_2⟩ := bx3_ BK289; have hcz72_0 : w64.cell? ⟨gb288, 0, none⟩ = some (.int .i64 t281) := bc_ BK288 0; have hcz72_1 : w64.cell? ⟨gb288, 1, none⟩ = some (.int .i64 t282) := bc_ BK288 1; have hcz72_2 : w64.cell? ⟨gb288, 2, none⟩ = some (.bool t283) := bc_ BK288 2; have hfz72_0 := blk_frozen BK288.out 0; have hfz72_1 := blk_frozen BK288.out 1; have hfz72_2 := blk_frozen BK288.out 2) | ((with_reducible refine gate_callee (f := 11) rfl ?_); refine gl_ 76 rfl rfl Try.func11 #[.agg #[.int .i64 t275, .int .i64 t276, .int .i64 t277, .int .i64 t278, .int .i64 t279, .int .i64 t280], .agg #[.int .i64 t284, .int .i64 t285, .bool t286], .agg #[.int .i64 t281, .int .i64 t282, .bool t283]] rfl ?_; (with_reducible refine (impl_PointAdd.calls kj4 t275 t276 t277 t278 t279 t280 t284 t285 t286 t281 t282 t283 t299 t300 t301 t302 _ A46.out).mono ?_); rintro e w73 ⟨rfl, hb⟩; refine ⟨_, rfl, ?_⟩; replace BK287 := bd_ BK287 hb; replace BK288 := bd_ BK288 hb; replace BK289 := bd_ BK289 hb; replace BK293 := bd_ BK293 hb; replace BK298 := be_ #[.int .i64 t294, .int .i64 t295, .bool t296] BK298 hb; replace HB := bs_ HB hb; (try clear hb); (try clear hb2); (try clear hk); (try clear hi)) | ((with_reducible refine gate_dst (N := 9) rfl ?_); refine box_event ?hg (N := 9) ?hd (cs := #[.int .i64 0, .int .i64 0, .bool false]) (t := 26) ?hr ?_; (case hd => rfl); (case hg => rfl); (case hr => first | (go_simp; done) | (go_simp; rfl)); intro gb303 hg w74 hbox hb; have BK303 := Aside0.mk hbox; have GW303 := ge_ HB hg; have GE303 := ge_ HB hg; have NB287_303 := nl_ BK287 hg; have NB303_287 := nr_ BK287 hg; have NB288_303 := nl_ BK288 hg; have NB303_288 := nr_ BK288 hg; have NB289_303 := nl_ BK289 hg; have NB303_289 := nr_ BK289 hg; have NB293_303 := nl_ BK293 hg; have NB303_293 := nr_ BK293 hg; have NB298_303 := nl_ BK298 hg; have NB303_298 := nr_ BK298 hg; replace BK287 := bb_ BK287 hb; replace BK288 := bb_ BK288 hb; replace BK289 := bb_ BK289 hb; replace BK293 := bb_ BK293 hb; replace BK298 := bb_ BK298 hb; replace HB := bs_ HB hb; clear hb hbox hg; obtain ⟨hnb75, hnc75⟩ := nn_ NB303_287; obtain ⟨hnb76, hnc76⟩ := nn_ NB303_288; obtain ⟨hnb77, hnc77⟩ := nn_ NB303_289; obtain ⟨hnb78, hnc78⟩ := nn_ NB303_293; obtain ⟨hnb79, hnc79⟩ := nn_ NB303_298; obtain ⟨hcz80_0, hcz80_1, hcz80_2, hfz80_0, hfz80_1, hfz80_2⟩ := bx3_ BK303; obtain ⟨hcz81_0, hcz81_1, hcz81_2, hcz81_3, hcz81_4, hcz81_5, hfz81_0, hfz81_1, hfz81_2, hfz81_3, hfz81_4, hfz81_5⟩ := bx6_ BK287; obtain ⟨hcz82_0, hcz82_1, hcz82_2, hfz82_0, hfz82_1, hfz82_2⟩ := bx3_ BK298; have hcz83_0 : w74.cell? ⟨gb293, 0, none⟩ = some (.int .i64 t279) := bc_ BK293 0; have hcz83_1 : w74.cell? ⟨gb293, 1, none⟩ = some (.int .i64 t280) := bc_ BK293 1; have hcz83_2 : w74.cell? ⟨gb293, 2, none⟩ = some (.bool false) := bc_ BK293 2; have hfz83_0 := blk_frozen BK293.out 0; have hfz83_1 := blk_frozen BK293.out 1; have hfz83_2 := blk_frozen BK293.out 2) | ((with_reducible refine gate_callee (f := 11) rfl ?_); refine gl_ 83 rfl rfl Try.func11 #[.agg #[.int .i64 t275, .int .i64 t276, .int .i64 t277, .int .i64 t278, .int .i64 t279, .int .i64 t280], .agg #[.int .i64 t294, .int .i64 t295, .bool t296], .agg #[.int .i64 t279, .int .i64 t280, .bool false]] rfl ?_; (with_reducible refine (impl_PointAdd.calls kj4 t275 t276 t277 t278 t279 t280 t294 t295 t296 t279 t280 false t304 t305 t306 t307 _ A47.out).mono ?_); rintro e w84 ⟨rfl, hb⟩; refine ⟨_, rfl, ?_⟩; replace BK287 := bd_ BK287 hb; replace BK288 := bd_ BK288 hb; replace BK289 := bd_ BK289 hb; replace BK293 := bd_ BK293 hb; replace BK298 := bd_ BK298 hb; replace BK303 := be_ #[.int .i64 t299, .int .i64 t300, .bool t301] BK303 hb; replace HB := bs_ HB hb; (try clear hb); (try clear hb2); (try clear hk); (try clear hi)) | ((with_reducible refine gate_dst (N := 11) rfl ?_); refine box_event ?hg (N := 11) ?hd (cs := #[.int .i64 0, .int .i64 0, .bool false]) (t := 26) ?hr ?_; (case hd => rfl); (case hg => rfl); (case hr => first | (go_simp; done) | (go_simp; rfl)); intro gb308 hg w85 hbox hb; have BK308 := Aside0.mk hbox; have GW308 := ge_ HB hg; have GE308 := ge_ HB hg; have NB287_308 := nl_ BK287 hg; have NB308_287 := nr_ BK287 hg; have NB288_308 := nl_ BK288 hg; have NB308_288 := nr_ BK288 hg; have NB289_308 := nl_ BK289 hg; have NB308_289 := nr_ BK289 hg; have NB293_308 := nl_ BK293 hg; have NB308_293 := nr_ BK293 hg; have NB298_308 := nl_ BK298 hg; have NB308_298 := nr_ BK298 hg; have NB303_308 := nl_ BK303 hg; have NB308_303 := nr_ BK303 hg; replace BK287 := bb_ BK287 hb; replace BK288 := bb_ BK288 hb; replace BK289 := bb_ BK289 hb; replace BK293 := bb_ BK293 hb; replace BK298 := bb_ BK298 hb; replace BK303 := bb_ BK303 hb; replace HB := bs_ HB hb; clear hb hbox hg; obtain ⟨hnb86, hnc86⟩ := nn_ NB308_287; obtain ⟨hnb87, hnc87⟩ := nn_ NB308_288; obtain ⟨hnb88, hnc88⟩ := nn_ NB308_289; obtain ⟨hnb89, hnc89⟩ := nn_ NB308_293; obtain ⟨hnb90, hnc90⟩ := nn_ NB308_298; obtain ⟨hnb91, hnc91⟩ := nn_ NB308_303; obtain ⟨hcz92_0, hcz92_1, hcz92_2, hfz92_0, hfz92_1, hfz92_2⟩ := bx3_ BK308; obtain ⟨hcz93_0, hcz93_1, hcz93_2, hcz93_3, hcz93_4, hcz93_5, hfz93_0, hfz93_1, hfz93_2, hfz93_3, hfz93_4, hfz93_5⟩ := bx6_ BK287; obtain ⟨hcz94_0, hcz94_1, hcz94_2, hfz94_0, hfz94_1, hfz94_2⟩ := bx3_ BK289; have hcz95_0 : w85.cell? ⟨gb293, 0, none⟩ = some (.int .i64 t279) := bc_ BK293 0; have hcz95_1 : w85.cell? ⟨gb293, 1, none⟩ = some (.int .i64 t280) := bc_ BK293 1; have hcz95_2 : w85.cell? ⟨gb293, 2, none⟩ = some (.bool false) := bc_ BK293 2; have hfz95_0 := blk_frozen BK293.out 0; have hfz95_1 := blk_frozen BK293.out 1; have hfz95_2 := blk_frozen BK293.out 2) | ((with_reducible refine gate_callee (f := 11) rfl ?_); refine gl_ 90 rfl rfl Try.func11 #[.agg #[.int .i64 t275, .int .i64 t276, .int .i64 t277, .int .i64 t278, .int .i64 t279, .int .i64 t280], .agg #[.int .i64 t284, .int .i64 t285, .bool t286], .agg #[.int .i64 t279, .int .i64 t280, .bool false]] rfl ?_; (with_reducible refine (impl_PointAdd.calls kj4 t275 t276 t277 t278 t279 t280 t284 t285 t286 t279 t280 false t309 t310 t311 t312 _ A48.out).mono ?_); rintro e w96 ⟨rfl, hb⟩; refine ⟨_, rfl, ?_⟩; replace BK287 := bd_ BK287 hb; replace BK288 := bd_ BK288 hb; replace BK289 := bd_ BK289 hb; replace BK293 := bd_ BK293 hb; replace BK298 := bd_ BK298 hb; replace BK303 := bd_ BK303 hb; replace BK308 := be_ #[.int .i64 t304, .int .i64 t305, .bool t306] BK308 hb; replace HB := bs_ HB hb; (try clear hb); (try clear hb2); (try clear hk); (try clear hi)) | ((with_reducible refine gate_dst (N := 13) rfl ?_); refine box_event ?hg (N := 13) ?hd (cs := #[.int .i64 0, .int .i64 0, .bool false]) (t := 26) ?hr ?_; (case hd => rfl); (case hg => rfl); (case hr => first | (go_simp; done) | (go_simp; rfl)); intro gb313 hg w97 hbox hb; have BK313 := Aside0.mk hbox; have GW313 := ge_ HB hg; have GE313 := ge_ HB hg; have NB287_313 := nl_ BK287 hg; have NB313_287 := nr_ BK287 hg; have NB288_313 := nl_ BK288 hg; have NB313_288 := nr_ BK288 hg; have NB289_313 := nl_ BK289 hg; have NB313_289 := nr_ BK289 hg; have NB293_313 := nl_ BK293 hg; have NB313_293 := nr_ BK293 hg; have NB298_313 := nl_ BK298 hg; have NB313_298 := nr_ BK298 hg; have NB303_313 := nl_ BK303 hg; have NB313_303 := nr_ BK303 hg; have NB308_313 := nl_ BK308 hg; have NB313_308 := nr_ BK308 hg; replace BK287 := bb_ BK287 hb; replace BK288 := bb_ BK288 hb; replace BK289 := bb_ BK289 hb; replace BK293 := bb_ BK293 hb; replace BK298 := bb_ BK298 hb; replace BK303 := bb_ BK303 hb; replace BK308 := bb_ BK308 hb; replace HB := bs_ HB hb; clear hb hbox hg; obtain ⟨hnb98, hnc98⟩ := nn_ NB313_287; obtain ⟨hnb99, hnc99⟩ := nn_ NB313_288; obtain ⟨hnb100, hnc100⟩ := nn_ NB313_289; obtain ⟨hnb101, hnc101⟩ := nn_ NB313_293; obtain ⟨hnb102, hnc102⟩ := nn_ NB313_298; obtain ⟨hnb103, hnc103⟩ := nn_ NB313_303; obtain ⟨hnb104, hnc104⟩ := nn_ NB313_308; obtain ⟨hcz105_0, hcz105_1, hcz105_2, hfz105_0, hfz105_1, hfz105_2⟩ := bx3_ BK313; obtain ⟨hcz106_0, hcz106_1, hcz106_2, hcz106_3, hcz106_4, hcz106_5, hfz106_0, hfz106_1, hfz106_2, hfz106_3, hfz106_4, hfz106_5⟩ := bx6_ BK287; have hcz107_0 : w97.cell? ⟨gb288, 0, none⟩ = some (.int .i64 t281) := bc_ BK288 0; have hcz107_1 : w97.cell? ⟨gb288, 1, none⟩ = some (.int .i64 t282) := bc_ BK288 1; have hcz107_2 : w97.cell? ⟨gb288, 2, none⟩ = some (.bool t283) := bc_ BK288 2; have hfz107_0 := blk_frozen BK288.out 0; have hfz107_1 := blk_frozen BK288.out 1; have hfz107_2 := blk_frozen BK288.out 2) | ((with_reducible refine gate_callee (f := 11) rfl ?_); refine gl_ 97 rfl rfl Try.func11 #[.agg #[.int .i64 t275, .int .i64 t276, .int .i64 t277, .int .i64 t278, .int .i64 t279, .int .i64 t280], .agg #[.int .i64 t281, .int .i64 t282, .bool t283], .agg #[.int .i64 t309, .int .i64 t310, .bool t311]] rfl ?_; (with_reducible refine (impl_PointAdd.calls kj4 t275 t276 t277 t278 t279 t280 t281 t282 t283 t309 t310 t311 t314 t315 t316 t317 _ A49.out).mono ?_); rintro e w108 ⟨rfl, hb⟩; refine ⟨_, rfl, ?_⟩; replace BK287 := bd_ BK287 hb; replace BK288 := bd_ BK288 hb; replace BK289 := bd_ BK289 hb; replace BK293 := bd_ BK293 hb; replace BK298 := bd_ BK298 hb; replace BK303 := bd_ BK303 hb; replace BK308 := bd_ BK308 hb; replace BK313 := be_ #[.int .i64 t309, .int .i64 t310, .bool t311] BK313 hb; replace HB := bs_ HB hb; (try clear hb); (try clear hb2); (try clear hk); (try clear hi)) | ((with_reducible refine gate_dst (N := 15) rfl ?_); refine box_event ?hg (N := 15) ?hd (cs := #[.int .i64 0, .int .i64 0, .bool false]) (t := 26) ?hr ?_; (case hd => rfl); (case hg => rfl); (case hr => first | (go_simp; done) | (go_simp; rfl)); intro gb318 hg w109 hbox hb; have BK318 := Aside0.mk hbox; have GW318 := ge_ HB hg; have GE318 := ge_ HB hg; have NB287_318 := nl_ BK287 hg; have NB318_287 := nr_ BK287 hg; have NB288_318 := nl_ BK288 hg; have NB318_288 := nr_ BK288 hg; have NB289_318 := nl_ BK289 hg; have NB318_289 := nr_ BK289 hg; have NB293_318 := nl_ BK293 hg; have NB318_293 := nr_ BK293 hg; have NB298_318 := nl_ BK298 hg; have NB318_298 := nr_ BK298 hg; have NB303_318 := nl_ BK303 hg; have NB318_303 := nr_ BK303 hg; have NB308_318 := nl_ BK308 hg; have NB318_308 := nr_ BK308 hg; have NB313_318 := nl_ BK313 hg; have NB318_313 := nr_ BK313 hg; replace BK287 := bb_ BK287 hb; replace BK288 := bb_ BK288 hb; replace BK289 := bb_ BK289 hb; replace BK293 := bb_ BK293 hb; replace BK298 := bb_ BK298 hb; replace BK303 := bb_ BK303 hb; replace BK308 := bb_ BK308 hb; replace BK313 := bb_ BK313 hb; replace HB := bs_ HB hb; clear hb hbox hg; obtain ⟨hnb110, hnc110⟩ := nn_ NB318_287; obtain ⟨hnb111, hnc111⟩ := nn_ NB318_288; obtain ⟨hnb112, hnc112⟩ := nn_ NB318_289; obtain ⟨hnb113, hnc113⟩ := nn_ NB318_293; obtain ⟨hnb114, hnc114⟩ := nn_ NB318_298; obtain ⟨hnb115, hnc115⟩ := nn_ NB318_303; obtain ⟨hnb116, hnc116⟩ := nn_ NB318_308; obtain ⟨hnb117, hnc117⟩ := nn_ NB318_313; obtain ⟨hcz118_0, hcz118_1, hcz118_2, hfz118_0, hfz118_1, hfz118_2⟩ := bx3_ BK318))
     (try simp only [Act.put, sA_, sZ_, sS_])
     go_cut [117] (fun v117 wc => ∃ (kq : Nat) (x117_49 : Bool), v117 = .bool x117_49 ∧ Aside0 (laws_FnCurves.j1 kq l0 x117_49 t275 t276 t277 t278 t279 t280 t281 t282 t283 t279 t280 false = some r) ∧ Aside0 (kq ≤ kj4) ∧ Aside0 (wc.heap[gb287]? = some (.cells #[.int .i64 t275, .int .i64 t276, .int .i64 t277, .int .i64 t278, .int .i64 t279, .int .i64 t280] 29 (0, 0))) ∧ Aside0 (wc.heap[gb288]? = some (.cells #[.int .i64 t281, .int .i64 t282, .bool t283] 26 (0, 0))) ∧ Aside0 (wc.heap[gb289]? = some (.cells #[.int .i64 t284, .int .i64 t285, .bool t286] 26 (0, 0))) ∧ Aside0 (wc.heap[gb293]? = some (.cells #[.int .i64 t279, .int .i64 t280, .bool false] 26 (0, 0))) ∧ Aside0 (wc.heap[gb298]? = some (.cells #[.int .i64 t294, .int .i64 t295, .bool t296] 26 (0, 0))) ∧ Aside0 (wc.heap[gb303]? = some (.cells #[.int .i64 t299, .int .i64 t300, .bool t301] 26 (0, 0))) ∧ Aside0 (wc.heap[gb308]? = some (.cells #[.int .i64 t304, .int .i64 t305, .bool t306] 26 (0, 0))) ∧ Aside0 (wc.heap[gb313]? = some (.cells #[.int .i64 t309, .int .i64 t310, .bool t311] 26 (0, 0))) ∧ Aside0 (wc.heap[gb318]? = some (.cells #[.int .i64 t314, .int .i64 t315, .bool t316] 26 (0, 0))) ∧ Aside0 (Below w.heap.size w wc))
     case first =>
      have H := HC50.out; clear HC50
      by_cases c119 : t297 = true
      ·
       subst c119; rw [if_pos rfl] at H
       by_cases c120 : (!(t294 == t299) || (!(t295 == t300) || (!(t296 == t301)))) = true
       ·
        rw [if_pos c120] at H
        have c120b0 : (!(t294 == t299) || (!(t295 == t300) || (!(t296 == t301)))) = true := c120
        clear c120
        (first | rw [c120b0] | (simp only [i64_w, i32_w]; rw [c120b0]) | skip)
        have H' := Aside0.mk H
        clear H; obtain ⟨hnb121, hnc121⟩ := nn_ NB298_287; obtain ⟨hnb122, hnc122⟩ := nn_ NB298_288; obtain ⟨hnb123, hnc123⟩ := nn_ NB298_289; obtain ⟨hnb124, hnc124⟩ := nn_ NB298_293; obtain ⟨hnb125, hnc125⟩ := nn_ NB298_303; obtain ⟨hnb126, hnc126⟩ := nn_ NB298_308; obtain ⟨hnb127, hnc127⟩ := nn_ NB298_313; obtain ⟨hnb128, hnc128⟩ := nn_ NB298_318
        obtain ⟨hcz129_0, hcz129_1, hcz129_2, hfz129_0, hfz129_1, hfz129_2⟩ := bx3_ BK298; obtain ⟨hnb130, hnc130⟩ := nn_ NB303_287; obtain ⟨hnb131, hnc131⟩ := nn_ NB303_288; obtain ⟨hnb132, hnc132⟩ := nn_ NB303_289; obtain ⟨hnb133, hnc133⟩ := nn_ NB303_293; obtain ⟨hnb134, hnc134⟩ := nn_ NB303_308; obtain ⟨hnb135, hnc135⟩ := nn_ NB303_313; obtain ⟨hnb136, hnc136⟩ := nn_ NB303_318
        obtain ⟨hcz137_0, hcz137_1, hcz137_2, hfz137_0, hfz137_1, hfz137_2⟩ := bx3_ BK303
        go_wp2
        go_meet
        case rel => exact ⟨_, (true), (by first | rfl | (simp; done) | (simp [*]; done)), H', ⟨by have := HJ4.out; first | omega | exact Nat.le_refl _⟩, ⟨bf_ BK287⟩, ⟨bf_ BK288⟩, ⟨bf_ BK289⟩, ⟨bf_ BK293⟩, ⟨bf_ BK298⟩, ⟨bf_ BK303⟩, ⟨bf_ BK308⟩, ⟨bf_ BK313⟩, ⟨bq_ BK318⟩, ⟨bw_ HB⟩⟩
       ·
        rw [if_neg c120] at H
        have c120b0 : (!(t294 == t299) || (!(t295 == t300) || (!(t296 == t301)))) = false := by simpa using c120
        clear c120
        (first | rw [c120b0] | (simp only [i64_w, i32_w]; rw [c120b0]) | skip)
        by_cases c138 : (!(t304 == t314) || (!(t305 == t315) || (!(t306 == t316)))) = true
        ·
         rw [if_pos c138] at H
         have c138b0 : (!(t304 == t314) || (!(t305 == t315) || (!(t306 == t316)))) = true := c138
         clear c138
         have H' := Aside0.mk H
         clear H; obtain ⟨hnb139, hnc139⟩ := nn_ NB298_287; obtain ⟨hnb140, hnc140⟩ := nn_ NB298_288; obtain ⟨hnb141, hnc141⟩ := nn_ NB298_289; obtain ⟨hnb142, hnc142⟩ := nn_ NB298_293; obtain ⟨hnb143, hnc143⟩ := nn_ NB298_303; obtain ⟨hnb144, hnc144⟩ := nn_ NB298_308; obtain ⟨hnb145, hnc145⟩ := nn_ NB298_313; obtain ⟨hnb146, hnc146⟩ := nn_ NB298_318
         obtain ⟨hcz147_0, hcz147_1, hcz147_2, hfz147_0, hfz147_1, hfz147_2⟩ := bx3_ BK298; obtain ⟨hnb148, hnc148⟩ := nn_ NB303_287; obtain ⟨hnb149, hnc149⟩ := nn_ NB303_288; obtain ⟨hnb150, hnc150⟩ := nn_ NB303_289; obtain ⟨hnb151, hnc151⟩ := nn_ NB303_293; obtain ⟨hnb152, hnc152⟩ := nn_ NB303_308; obtain ⟨hnb153, hnc153⟩ := nn_ NB303_313; obtain ⟨hnb154, hnc154⟩ := nn_ NB303_318
         obtain ⟨hcz155_0, hcz155_1, hcz155_2, hfz155_0, hfz155_1, hfz155_2⟩ := bx3_ BK303; obtain ⟨hnb156, hnc156⟩ := nn_ NB308_287; obtain ⟨hnb157, hnc157⟩ := nn_ NB308_288; obtain ⟨hnb158, hnc158⟩ := nn_ NB308_289; obtain ⟨hnb159, hnc159⟩ := nn_ NB308_293; obtain ⟨hnb160, hnc160⟩ := nn_ NB308_313; obtain ⟨hnb161, hnc161⟩ := nn_ NB308_318
         obtain ⟨hcz162_0, hcz162_1, hcz162_2, hfz162_0, hfz162_1, hfz162_2⟩ := bx3_ BK308; obtain ⟨hnb163, hnc163⟩ := nn_ NB318_287; obtain ⟨hnb164, hnc164⟩ := nn_ NB318_288; obtain ⟨hnb165, hnc165⟩ := nn_ NB318_289; obtain ⟨hnb166, hnc166⟩ := nn_ NB318_293; obtain ⟨hnb167, hnc167⟩ := nn_ NB318_313
         obtain ⟨hcz168_0, hcz168_1, hcz168_2, hfz168_0, hfz168_1, hfz168_2⟩ := bx3_ BK318
         go_wp2
         go_meet
         case rel => exact ⟨_, (true), (by first | rfl | (simp; done) | (simp [*]; done)), H', ⟨by have := HJ4.out; first | omega | exact Nat.le_refl _⟩, ⟨bf_ BK287⟩, ⟨bf_ BK288⟩, ⟨bf_ BK289⟩, ⟨bf_ BK293⟩, ⟨bf_ BK298⟩, ⟨bf_ BK303⟩, ⟨bf_ BK308⟩, ⟨bf_ BK313⟩, ⟨bq_ BK318⟩, ⟨bw_ HB⟩⟩
        ·
         rw [if_neg c138] at H
         have c138b0 : (!(t304 == t314) || (!(t305 == t315) || (!(t306 == t316)))) = false := by simpa using c138
         clear c138; obtain ⟨t319, A1690, H⟩ := pb_ H
         have A169 := Aside0.mk A1690; clear A1690
         have H' := Aside0.mk H
         clear H; obtain ⟨hnb170, hnc170⟩ := nn_ NB298_287; obtain ⟨hnb171, hnc171⟩ := nn_ NB298_288; obtain ⟨hnb172, hnc172⟩ := nn_ NB298_289; obtain ⟨hnb173, hnc173⟩ := nn_ NB298_293; obtain ⟨hnb174, hnc174⟩ := nn_ NB298_303; obtain ⟨hnb175, hnc175⟩ := nn_ NB298_308; obtain ⟨hnb176, hnc176⟩ := nn_ NB298_313; obtain ⟨hnb177, hnc177⟩ := nn_ NB298_318
         obtain ⟨hcz178_0, hcz178_1, hcz178_2, hfz178_0, hfz178_1, hfz178_2⟩ := bx3_ BK298; obtain ⟨hnb179, hnc179⟩ := nn_ NB303_287; obtain ⟨hnb180, hnc180⟩ := nn_ NB303_288; obtain ⟨hnb181, hnc181⟩ := nn_ NB303_289; obtain ⟨hnb182, hnc182⟩ := nn_ NB303_293; obtain ⟨hnb183, hnc183⟩ := nn_ NB303_308; obtain ⟨hnb184, hnc184⟩ := nn_ NB303_313; obtain ⟨hnb185, hnc185⟩ := nn_ NB303_318
         obtain ⟨hcz186_0, hcz186_1, hcz186_2, hfz186_0, hfz186_1, hfz186_2⟩ := bx3_ BK303; obtain ⟨hnb187, hnc187⟩ := nn_ NB308_287; obtain ⟨hnb188, hnc188⟩ := nn_ NB308_288; obtain ⟨hnb189, hnc189⟩ := nn_ NB308_289; obtain ⟨hnb190, hnc190⟩ := nn_ NB308_293; obtain ⟨hnb191, hnc191⟩ := nn_ NB308_313; obtain ⟨hnb192, hnc192⟩ := nn_ NB308_318
         obtain ⟨hcz193_0, hcz193_1, hcz193_2, hfz193_0, hfz193_1, hfz193_2⟩ := bx3_ BK308; obtain ⟨hnb194, hnc194⟩ := nn_ NB318_287; obtain ⟨hnb195, hnc195⟩ := nn_ NB318_288; obtain ⟨hnb196, hnc196⟩ := nn_ NB318_289; obtain ⟨hnb197, hnc197⟩ := nn_ NB318_293; obtain ⟨hnb198, hnc198⟩ := nn_ NB318_313
         obtain ⟨hcz199_0, hcz199_1, hcz199_2, hfz199_0, hfz199_1, hfz199_2⟩ := bx3_ BK318; obtain ⟨hnb200, hnc200⟩ := nn_ NB287_288; obtain ⟨hnb201, hnc201⟩ := nn_ NB287_289; obtain ⟨hnb202, hnc202⟩ := nn_ NB287_293; obtain ⟨hnb203, hnc203⟩ := nn_ NB287_313
         obtain ⟨hcz204_0, hcz204_1, hcz204_2, hcz204_3, hcz204_4, hcz204_5, hfz204_0, hfz204_1, hfz204_2, hfz204_3, hfz204_4, hfz204_5⟩ := bx6_ BK287
         go_wp2_with (first | (go_at_call 24; (with_reducible refine (impl_PointOk.calls kj4 t275 t276 t277 t278 t279 t280 t294 t295 t296 t319 _ A169.out).mono ?_); rintro e w205 ⟨rfl, hb⟩; replace BK287 := bd_ BK287 hb; replace BK288 := bd_ BK288 hb; replace BK289 := bd_ BK289 hb; replace BK293 := bd_ BK293 hb; replace BK298 := bd_ BK298 hb; replace BK303 := bd_ BK303 hb; replace BK308 := bd_ BK308 hb; replace BK313 := bd_ BK313 hb; replace BK318 := be_ #[.int .i64 t314, .int .i64 t315, .bool t316] BK318 hb; replace HB := bs_ HB hb; (try clear hb); (try clear hb2); (try clear hk); (try clear hi)))
         go_meet
         case rel => exact ⟨_, (!t319), (by first | rfl | (simp; done) | (simp [*]; done)), H', ⟨by have := HJ4.out; first | omega | exact Nat.le_refl _⟩, ⟨bk_ BK287⟩, ⟨bk_ BK288⟩, ⟨bk_ BK289⟩, ⟨bk_ BK293⟩, ⟨bk_ BK298⟩, ⟨bk_ BK303⟩, ⟨bk_ BK308⟩, ⟨bk_ BK313⟩, ⟨bk_ BK318⟩, ⟨bw_ HB⟩⟩
      ·
       replace c119 := Bool.eq_false_iff.mpr c119; subst c119
       rw [if_neg (show ¬ (false = true) by decide)] at H
       have H' := Aside0.mk H
       clear H
       go_wp2
       go_meet
       case rel => exact ⟨_, (true), (by first | rfl | (simp; done) | (simp [*]; done)), H', ⟨by have := HJ4.out; first | omega | exact Nat.le_refl _⟩, ⟨bf_ BK287⟩, ⟨bf_ BK288⟩, ⟨bf_ BK289⟩, ⟨bf_ BK293⟩, ⟨bf_ BK298⟩, ⟨bf_ BK303⟩, ⟨bf_ BK308⟩, ⟨bf_ BK313⟩, ⟨bq_ BK318⟩, ⟨bw_ HB⟩⟩
     case rest =>
      rename_i un1_ un2_ un3_ un4_ un5_ un6_ un7_ un8_ un9_ un10_ un11_ un12_ un13_ un14_ un15_ un16_ un17_ un18_ un19_ un20_ un21_ un22_ un23_ un24_ un25_ un26_ un27_ un28_ un29_ un30_ un31_ un32_ un33_ un34_ un35_ un36_ un37_ un38_ un39_ un40_ un41_ un42_ un43_ un44_ un45_ un46_ un47_ un48_ un49_ un50_ un51_ un52_ un53_ un54_ un55_ un56_ un57_ un58_ un59_ un60_ un61_ un62_ un63_ un64_ un65_ un66_ un67_ un68_ un69_ un70_ un71_ un72_ un73_ un74_ un75_ un76_ un77_ un78_ un79_ un80_ un81_ un82_ un83_ un84_ un85_ un86_ un87_ un88_ un89_ un90_ un91_ un92_ un93_ un94_ un95_ un96_ un97_ un98_ un99_ un100_ un101_ un102_ un103_ un104_ un105_ un106_ un107_ un108_ un109_ un110_ un111_ un112_ un113_ un114_ un115_ un116_ un117_ un118_ un119_ un120_ un121_ un122_ un123_ un124_ un125_ un126_ un127_ un128_ un129_ un130_ un131_ un132_ un133_ un134_ un135_ un136_ un137_ un138_ un139_ un140_ un141_ un142_ un143_ un144_ un145_ un146_ un147_ un148_ un149_ un150_ un151_ un152_ un153_ un154_ un155_ un156_ un157_ un158_ un159_ un160_ un161_ un162_ un163_ un164_ un165_ un166_ un167_ un168_ un169_ un170_ un171_ un172_ un173_ un174_ un175_ un176_ un177_ un178_ un179_ un180_ un181_ un182_ un183_ un184_ un185_ un186_ un187_ un188_ un189_ un190_ un191_ un192_ un193_ un194_ un195_ un196_ un197_ un198_ un199_ un200_ un201_ un202_
      revert k A0 c0 l0 r w hu29 hu26 HR0 HC0 un1_ un2_ A2 t275 t276 t277 t278 t279 t280 t281 t282 t283 t284 t285 t286 A4 un3_ nd un4_ w6 gb287 w7 GW287 GE287 gb288 w8 GW288 GE288 NB287_288 NB288_287 gb289 w9 un5_ GW289 GE289 NB287_289 NB289_287 NB288_289 NB289_288 un6_ un7_ un8_ hnb10 hnc10 hnb11 hnc11 hnb13 hnc13 un9_ un10_ un11_ un12_ un13_ un14_ un15_ un16_ un17_ un18_ un19_ un20_ un21_ un22_ un23_ un24_ un25_ un26_ un27_ un28_ un29_ un30_ un31_ un32_ un33_ un34_ un35_ un36_ un37_ un38_ un39_ un40_ un41_ un42_ un43_ un44_ un45_ un46_ un47_ un48_ un49_ un50_ un51_ un52_ un53_ un54_ un55_ un56_ un57_ un58_ un59_ un60_ un61_ un62_ un63_ un64_ un65_ un66_ un67_ un68_ un69_ un70_ un71_ un72_ un73_ un74_ un75_ un76_ un77_ un78_ un79_ un80_ un81_ un82_ un83_ un84_ un85_ un86_ un87_ un88_ un89_ un90_ un91_ un92_ un93_ un94_ un95_ un96_ un97_ un98_ un99_ un100_ un101_ un102_ un103_ un104_ un105_ un106_ un107_ un108_ un109_ un110_ un111_ un112_ un113_ un114_ un115_ un116_ un117_ un118_ un119_ un120_ un121_ un122_ un123_ un124_ un125_ un126_ un127_ un128_ un129_ un130_ un131_ un132_ un133_ un134_ un135_ un136_ un137_ un138_ un139_ un140_ un141_ un142_ un143_ un144_ un145_ un146_ un147_ un148_ un149_ un150_ un151_ un152_ un153_ un154_ un155_ un156_ un157_ un158_ un159_ un160_ un161_ un162_ un163_ un164_ un165_ un166_ un167_ un168_ un169_ un170_ un171_ un172_ un173_ un174_ un175_ un176_ un177_ un178_ un179_ un180_ un181_ un182_ un183_ un184_ un185_ un186_ un187_ un188_ un189_ un190_ un191_ un192_ un193_ un194_ kj4 HJ4 un195_ t294 t295 t296 t297 un196_ A45 t299 t300 t301 t302 un197_ A46 t304 t305 t306 t307 un198_ A47 t309 t310 t311 t312 H A48 t314 t315 t316 t317 A49 HC50 hnb51 hnc51 hnb52 hnc52 hcz53_0 hcz53_1 hcz53_2 hcz53_3 hcz53_4 hcz53_5 hfz53_0 hfz53_1 hfz53_2 hfz53_3 hfz53_4 hfz53_5 gb293 w54 GW293 GE293 NB287_293 NB293_287 NB288_293 NB293_288 NB289_293 NB293_289 hnb55 hnc55 hnb56 hnc56 hnb57 hnc57 hcz58_0 hcz58_1 hcz58_2 hfz58_0 hfz58_1 hfz58_2 hcz59_0 hcz59_1 hcz59_2 hcz59_3 hcz59_4 hcz59_5 hfz59_0 hfz59_1 hfz59_2 hfz59_3 hfz59_4 hfz59_5 hnb60 hnc60 hcz61_0 hcz61_1 hcz61_2 hfz61_0 hfz61_1 hfz61_2 hcz62_0 hcz62_1 hcz62_2 hfz62_0 hfz62_1 hfz62_2 w63 gb298 w64 GW298 GE298 NB287_298 NB298_287 NB288_298 NB298_288 NB289_298 NB298_289 NB293_298 NB298_293 hnb65 hnc65 hnb66 hnc66 hnb67 hnc67 hnb68 hnc68 hcz69_0 hcz69_1 hcz69_2 hfz69_0 hfz69_1 hfz69_2 hcz70_0 hcz70_1 hcz70_2 hcz70_3 hcz70_4 hcz70_5 hfz70_0 hfz70_1 hfz70_2 hfz70_3 hfz70_4 hfz70_5 hcz71_0 hcz71_1 hcz71_2 hfz71_0 hfz71_1 hfz71_2 hcz72_0 hcz72_1 hcz72_2 hfz72_0 hfz72_1 hfz72_2 w73 gb303 w74 GW303 GE303 NB287_303 NB303_287 NB288_303 NB303_288 NB289_303 NB303_289 NB293_303 NB303_293 NB298_303 NB303_298 hnb75 hnc75 hnb76 hnc76 hnb77 hnc77 hnb78 hnc78 hnb79 hnc79 hcz80_0 hcz80_1 hcz80_2 hfz80_0 hfz80_1 hfz80_2 hcz81_0 hcz81_1 hcz81_2 hcz81_3 hcz81_4 hcz81_5 hfz81_0 hfz81_1 hfz81_2 hfz81_3 hfz81_4 hfz81_5 hcz82_0 hcz82_1 hcz82_2 hfz82_0 hfz82_1 hfz82_2 hcz83_0 hcz83_1 hcz83_2 hfz83_0 hfz83_1 hfz83_2 w84 gb308 w85 GW308 GE308 NB287_308 NB308_287 NB288_308 NB308_288 NB289_308 NB308_289 NB293_308 NB308_293 NB298_308 NB308_298 NB303_308 NB308_303 hnb86 hnc86 hnb87 hnc87 hnb88 hnc88 hnb89 hnc89 hnb90 hnc90 hnb91 hnc91 hcz92_0 hcz92_1 hcz92_2 hfz92_0 hfz92_1 hfz92_2 hcz93_0 hcz93_1 hcz93_2 hcz93_3 hcz93_4 hcz93_5 hfz93_0 hfz93_1 hfz93_2 hfz93_3 hfz93_4 hfz93_5 hcz94_0 hcz94_1 hcz94_2 hfz94_0 hfz94_1 hfz94_2 hcz95_0 hcz95_1 hcz95_2 hfz95_0 hfz95_1 hfz95_2 w96 gb313 w97 GW313 GE313 NB287_313 NB313_287 NB288_313 NB313_288 NB289_313 NB313_289 NB293_313 NB313_293 NB298_313 NB313_298 NB303_313 NB313_303 NB308_313 NB313_308 hnb98 hnc98 hnb99 hnc99 hnb100 hnc100 hnb101 hnc101 hnb102 hnc102 hnb103 hnc103 hnb104 hnc104 hcz105_0 hcz105_1 hcz105_2 hfz105_0 hfz105_1 hfz105_2 hcz106_0 hcz106_1 hcz106_2 hcz106_3 hcz106_4 hcz106_5 hfz106_0 hfz106_1 hfz106_2 hfz106_3 hfz106_4 hfz106_5 hcz107_0 hcz107_1 hcz107_2 hfz107_0 hfz107_1 hfz107_2 w108 gb318 w109 BK318 GW318 GE318 NB287_318 NB318_287 NB288_318 NB318_288 NB289_318 NB318_289 NB293_318 NB318_293 NB298_318 NB318_298 NB303_318 NB318_303 NB308_318 NB318_308 NB313_318 NB318_313 BK287 BK288 BK289 BK293 BK298 BK303 BK308 BK313 HB hnb110 hnc110 hnb111 hnc111 hnb112 hnc112 hnb113 hnc113 hnb114 hnc114 hnb115 hnc115 hnb116 hnc116 hnb117 hnc117 hcz118_0 hcz118_1 hcz118_2 hfz118_0 hfz118_1 hfz118_2 un199_ un200_ un201_ un202_ wc u37 u38 u39 u40 u41 u42 u43 u44 u45 u46 u47 u48 u49 u50 u51 u52 u53 u54 u55 u56 u57 u58 u59 u60 u61 u62 u63 u64 u65 u66 u67 u68 u69 u70 u71 u72 u73 u74 u75 u76 u77 u78 u79 u80 u81 u82 u83 u84 u85 u86 u87 u88 u89 u90 u91 u92 u93 u94 u95 u96 u97 u98 u99 u100 u101 u102 u103 u104 u105 u106 u107 u108 u109 u110 u111 u112 u113 u114 u115 u116 u117 u118 u119 u120 u121 u122 u123 u124 u125 u126 u127 u128 u129 u130 u131 u132 u133 u134 u135 u136 u137 u138 u139 u140 u141 u142 u143 u144 u145 u146 u147 u148 u149 u150 u151 u152 u153 u154 u155 u156 u157 u158 u159 u160 u161 u162 u163 u164 u165 u166 u167 u168 u169 u170 u171 u172 u173 u174 u175 u176 u177 u178 u179 u180 u181 u182 u183 u184 u185 u186 u187 u188 u189 u190 u191 u192 u193 u194 u195 u196 u197 u198 u199 u200 u201 u202 u203 u204 u205 u206 u207 u208 u209 u210 u211 u212 u213 u214 u215 u216 u217 u218 u219 u220 u221 u222 hcut
      exact hT0_.elim (fun h_ => h_.down)⟩
end Go.Proofs.Ytadmkolopcdffaa.PFnCurves
