-- Written for this claim by a program of this session.
import Derived.Test.YtadmkolopcdffaaPFnExactPointBytesx0
import Derived.Test.YtadmkolopcdffaaPFnExactPointBytesx2
import Derived.Test.YtadmkolopcdffaaPFnExactPointBytesx4
import Derived.Test.YtadmkolopcdffaaPFnExactPointBytesx9
namespace Go.Proofs.Ytadmkolopcdffaa.PFnExactPointBytes
open Go.RowKit Go.Proofs.YtadmkolopcdffaaW.PrintWords Go.Proofs.YtadmkolopcdffaaW.PrintLast Go.Proofs.YtadmkolopcdffaaW.PrintMore
attribute [local go_sem] max2_int min2_int max_two min_two max_three min_three max_four min_four   -- for this text's walks alone
set_option linter.unusedVariables false
set_option linter.unusedSimpArgs false

attribute [local go_sem] fld_
/-! ### laws_FnExactPointBytes: function 4 -/
mutual
def laws_FnExactPointBytes.j0 : Nat → Bool → List Int → Bool → List Int → Bool → Int → Int → Int → Int → Int → Int → Int → Int → Bool → Option (Bool)
  | 0, _, _, _, _, _, _, _, _, _, _, _, _, _, _ => none
  | k + 1, x2, x7, x8, x9, x41, x284000, x284001, x284002, x284003, x284004, x284005, x285000, x285001, x285002 => if x41 = true then (some false) else ((laws_markByteS.f k x9 1).bind fun bt312 => ((laws_heldByteS.f k bt312.2 1).bind fun t314 => (if t314 < 0 then (some false) else (if t314 = bt312.1 then ((laws_toCurve.f x284000 x284001 x284002 x284003 x284004 x284005).bind fun bt315 => ((laws_toPoint.f x285000 x285001 x285002).bind fun bt321 => ((impl_PointBytes.f k bt315.1 bt315.2.1 bt315.2.2.1 bt315.2.2.2.1 bt315.2.2.2.2.1 bt315.2.2.2.2.2 bt321.1 bt321.2.1 bt321.2.2 x2).bind fun bt324 => ((laws_eqByteS.f k bt324.1 x7).bind fun t328 => (if t328 = true then (laws_FnExactPointBytes.j1 k bt312.2 bt312.1 (bt324.2 != x8)) else (laws_FnExactPointBytes.j1 k bt312.2 bt312.1 true)))))) else (some false)))))
def laws_FnExactPointBytes.j1 : Nat → List Int → Int → Bool → Option (Bool)
  | 0, _, _, _ => none
  | k + 1, x9, x11, x70 => if x70 = true then (some false) else ((laws_heldByteS.f k x9 1).bind fun t329 => (if t329 < 0 then (some false) else (if t329 = x11 then (some true) else (some false))))
end
def laws_FnExactPointBytes.f (k : Nat) (a0_0 : Int) (a0_1 : Int) (a0_2 : Int) (a0_3 : Int) (a0_4 : Int) (a0_5 : Int) (a1_0 : Int) (a1_1 : Int) (a1_2 : Bool) (a2 : Bool) : Option (Bool) := (laws_toCurve.f a0_0 a0_1 a0_2 a0_3 a0_4 a0_5).bind fun bt285 => ((laws_toPoint.f a1_0 a1_1 a1_2).bind fun bt291 => ((spec_PointBytes.f k bt285.1 bt285.2.1 bt285.2.2.1 bt285.2.2.2.1 bt285.2.2.2.2.1 bt285.2.2.2.2.2 bt291.1 bt291.2.1 bt291.2.2 a2).bind fun bt294 => ((laws_toCurve.f a0_0 a0_1 a0_2 a0_3 a0_4 a0_5).bind fun bt298 => ((laws_toPoint.f a1_0 a1_1 a1_2).bind fun bt304 => ((impl_PointBytes.f k bt298.1 bt298.2.1 bt298.2.2.1 bt298.2.2.2.1 bt298.2.2.2.2.1 bt298.2.2.2.2.2 bt304.1 bt304.2.1 bt304.2.2 a2).bind fun bt307 => ((laws_eqByteS.f k bt307.1 bt294.1).bind fun t311 => (if t311 = true then (laws_FnExactPointBytes.j0 k a2 bt294.1 bt294.2 bt307.1 (bt307.2 != bt294.2) a0_0 a0_1 a0_2 a0_3 a0_4 a0_5 a1_0 a1_1 a1_2) else (laws_FnExactPointBytes.j0 k a2 bt294.1 bt294.2 bt307.1 true a0_0 a0_1 a0_2 a0_3 a0_4 a0_5 a1_0 a1_1 a1_2))))))))
theorem laws_FnExactPointBytes.mono_l : ∀ k, (∀ y0 y1 y2 y3 y4 y5 y6 y7 y8 y9 y10 y11 y12 y13, LeO (laws_FnExactPointBytes.j0 k y0 y1 y2 y3 y4 y5 y6 y7 y8 y9 y10 y11 y12 y13) (laws_FnExactPointBytes.j0 (k + 1) y0 y1 y2 y3 y4 y5 y6 y7 y8 y9 y10 y11 y12 y13)) ∧ (∀ y0 y1 y2, LeO (laws_FnExactPointBytes.j1 k y0 y1 y2) (laws_FnExactPointBytes.j1 (k + 1) y0 y1 y2))
 | 0 => ⟨fun _ _ _ _ _ _ _ _ _ _ _ _ _ _ r h => by simp [laws_FnExactPointBytes.j0] at h, fun _ _ _ r h => by simp [laws_FnExactPointBytes.j1] at h⟩
 | k + 1 => by
  obtain ⟨ih0, ih1⟩ := laws_FnExactPointBytes.mono_l k
  refine ⟨?_, ?_⟩
  ·
   intro y0 y1 y2 y3 y4 y5 y6 y7 y8 y9 y10 y11 y12 y13
   unfold laws_FnExactPointBytes.j0
   repeat' first
   | (with_reducible exact ih0 _ _ _ _ _ _ _ _ _ _ _ _ _ _)
   | (with_reducible exact ih1 _ _ _)
   | (with_reducible exact impl_PointBytes.mono _ _ _ _ _ _ _ _ _ _ _)
   | (with_reducible exact laws_eqByteS.mono _ _ _)
   | (with_reducible exact laws_heldByteS.mono _ _ _)
   | (with_reducible exact laws_markByteS.mono _ _ _)
   | (with_reducible exact spec_PointBytes.mono _ _ _ _ _ _ _ _ _ _ _)
   | (with_reducible exact LeO.refl _)
   | (with_reducible exact LeO.none _)
   | (with_reducible refine LeO.ite ?_ ?_)
   | (with_reducible refine LeO.bind ?_ (fun _ => ?_))
   | exact ih0 _ _ _ _ _ _ _ _ _ _ _ _ _ _
   | exact ih1 _ _ _
   | exact impl_PointBytes.mono _ _ _ _ _ _ _ _ _ _ _
   | exact laws_eqByteS.mono _ _ _
   | exact laws_heldByteS.mono _ _ _
   | exact laws_markByteS.mono _ _ _
   | exact spec_PointBytes.mono _ _ _ _ _ _ _ _ _ _ _
   | exact LeO.none _
   | refine LeO.ite ?_ ?_
   | refine LeO.bind ?_ (fun _ => ?_)
  ·
   intro y0 y1 y2
   unfold laws_FnExactPointBytes.j1
   repeat' first
   | (with_reducible exact ih0 _ _ _ _ _ _ _ _ _ _ _ _ _ _)
   | (with_reducible exact ih1 _ _ _)
   | (with_reducible exact impl_PointBytes.mono _ _ _ _ _ _ _ _ _ _ _)
   | (with_reducible exact laws_eqByteS.mono _ _ _)
   | (with_reducible exact laws_heldByteS.mono _ _ _)
   | (with_reducible exact laws_markByteS.mono _ _ _)
   | (with_reducible exact spec_PointBytes.mono _ _ _ _ _ _ _ _ _ _ _)
   | (with_reducible exact LeO.refl _)
   | (with_reducible exact LeO.none _)
   | (with_reducible refine LeO.ite ?_ ?_)
   | (with_reducible refine LeO.bind ?_ (fun _ => ?_))
   | exact ih0 _ _ _ _ _ _ _ _ _ _ _ _ _ _
   | exact ih1 _ _ _
   | exact impl_PointBytes.mono _ _ _ _ _ _ _ _ _ _ _
   | exact laws_eqByteS.mono _ _ _
   | exact laws_heldByteS.mono _ _ _
   | exact laws_markByteS.mono _ _ _
   | exact spec_PointBytes.mono _ _ _ _ _ _ _ _ _ _ _
   | exact LeO.none _
   | refine LeO.ite ?_ ?_
   | refine LeO.bind ?_ (fun _ => ?_)
theorem laws_FnExactPointBytes.mono : ∀ a0 a1 a2 a3 a4 a5 a6 a7 a8 a9 k, LeO (laws_FnExactPointBytes.f k a0 a1 a2 a3 a4 a5 a6 a7 a8 a9) (laws_FnExactPointBytes.f (k + 1) a0 a1 a2 a3 a4 a5 a6 a7 a8 a9) := by
 intro a0 a1 a2 a3 a4 a5 a6 a7 a8 a9 k; obtain ⟨ih0, ih1⟩ := laws_FnExactPointBytes.mono_l k
 unfold laws_FnExactPointBytes.f
 repeat' first
   | (with_reducible exact ih0 _ _ _ _ _ _ _ _ _ _ _ _ _ _)
   | (with_reducible exact ih1 _ _ _)
   | (with_reducible exact impl_PointBytes.mono _ _ _ _ _ _ _ _ _ _ _)
   | (with_reducible exact laws_eqByteS.mono _ _ _)
   | (with_reducible exact laws_heldByteS.mono _ _ _)
   | (with_reducible exact laws_markByteS.mono _ _ _)
   | (with_reducible exact spec_PointBytes.mono _ _ _ _ _ _ _ _ _ _ _)
   | (with_reducible exact LeO.refl _)
   | (with_reducible exact LeO.none _)
   | (with_reducible refine LeO.ite ?_ ?_)
   | (with_reducible refine LeO.bind ?_ (fun _ => ?_))
   | exact ih0 _ _ _ _ _ _ _ _ _ _ _ _ _ _
   | exact ih1 _ _ _
   | exact impl_PointBytes.mono _ _ _ _ _ _ _ _ _ _ _
   | exact laws_eqByteS.mono _ _ _
   | exact laws_heldByteS.mono _ _ _
   | exact laws_markByteS.mono _ _ _
   | exact spec_PointBytes.mono _ _ _ _ _ _ _ _ _ _ _
   | exact LeO.none _
   | refine LeO.ite ?_ ?_
   | refine LeO.bind ?_ (fun _ => ?_)
def laws_FnExactPointBytes.T1 : Bool × List (List Nat × List Nat) := (true, [([], []), ([0], [0]), ([], []), ([2, 1], [2]), ([], []), ([1, 3, 4, 3], [1, 3, 4]), ([5], [5]), ([6], [6]), ([6], [6]), ([7, 5, 0, 1, 2, 3, 4, 5, 6, 7], [7]), ([8, 9, 0, 1, 2, 3, 4, 5, 6, 7, 8, 9], [8])])
def laws_FnExactPointBytes.B1 : List Nat := [0, 1, 0, 7, 0, 31, 63, 127, 127, 255, 1023]
theorem laws_FnExactPointBytes.tab1 : rtab .any (opsOf Try.f4 1) = laws_FnExactPointBytes.T1 := by kernel_rfl
theorem laws_FnExactPointBytes.bits1 : waitsOk laws_FnExactPointBytes.T1.2 laws_FnExactPointBytes.B1 = true := by kernel_rfl
def laws_FnExactPointBytes.T2 : Bool × List (List Nat × List Nat) := (true, [([], []), ([0], [0]), ([], []), ([2, 1], [2]), ([], []), ([1, 3, 4, 3], [1, 3, 4]), ([5], [5]), ([6], [6]), ([6], [6]), ([7, 5, 0, 1, 2, 3, 4, 5, 6, 7], [7]), ([8, 9, 0, 1, 2, 3, 4, 5, 6, 7, 8, 9], [8])])
def laws_FnExactPointBytes.B2 : List Nat := [0, 1, 0, 7, 0, 31, 63, 127, 127, 255, 1023]
theorem laws_FnExactPointBytes.tab2 : rtab .any (opsOf Try.f4 2) = laws_FnExactPointBytes.T2 := by kernel_rfl
theorem laws_FnExactPointBytes.bits2 : waitsOk laws_FnExactPointBytes.T2.2 laws_FnExactPointBytes.B2 = true := by kernel_rfl
def laws_FnExactPointBytes.T13 : Bool × List (List Nat × List Nat) := (true, [([], []), ([0], [0]), ([], []), ([2, 1], [2]), ([], []), ([1, 3, 4, 3], [1, 3, 4]), ([5], [5]), ([6], [6]), ([6], [6]), ([7, 5, 0, 1, 2, 3, 4, 5, 6, 7], [7]), ([8, 9, 0, 1, 2, 3, 4, 5, 6, 7, 8, 9], [8])])
def laws_FnExactPointBytes.B13 : List Nat := [0, 1, 0, 7, 0, 31, 63, 127, 127, 255, 1023]
theorem laws_FnExactPointBytes.tab13 : rtab .any (opsOf Try.f4 13) = laws_FnExactPointBytes.T13 := by kernel_rfl
theorem laws_FnExactPointBytes.bits13 : waitsOk laws_FnExactPointBytes.T13.2 laws_FnExactPointBytes.B13 = true := by kernel_rfl
set_option maxHeartbeats 8000000 in
set_option maxRecDepth 100000 in
theorem laws_FnExactPointBytes.calls (k : Nat) (a0_0 : Int) (a0_1 : Int) (a0_2 : Int) (a0_3 : Int) (a0_4 : Int) (a0_5 : Int) (a1_0 : Int) (a1_1 : Int) (a1_2 : Bool) (a2 : Bool) (r : Bool) (w : World) (h : laws_FnExactPointBytes.f k a0_0 a0_1 a0_2 a0_3 a0_4 a0_5 a1_0 a1_1 a1_2 a2 = some r) :
  Calls Try.prog 4 #[.agg #[.int .i64 a0_0, .int .i64 a0_1, .int .i64 a0_2, .int .i64 a0_3, .int .i64 a0_4, .int .i64 a0_5], .agg #[.int .i64 a1_0, .int .i64 a1_1, .bool a1_2], .bool a2] w fun e w' => e = .returned (.bool r) ∧ Below w.heap.size w w' := by
 have hu23 := Try.underlying23; have hu25 := Try.underlying25; have HB := Aside0.mk (Below.refl w.heap.size w)
 have H : ((laws_toCurve.f a0_0 a0_1 a0_2 a0_3 a0_4 a0_5).bind fun bt285 => ((laws_toPoint.f a1_0 a1_1 a1_2).bind fun bt291 => ((spec_PointBytes.f k bt285.1 bt285.2.1 bt285.2.2.1 bt285.2.2.2.1 bt285.2.2.2.2.1 bt285.2.2.2.2.2 bt291.1 bt291.2.1 bt291.2.2 a2).bind fun bt294 => ((laws_toCurve.f a0_0 a0_1 a0_2 a0_3 a0_4 a0_5).bind fun bt298 => ((laws_toPoint.f a1_0 a1_1 a1_2).bind fun bt304 => ((impl_PointBytes.f k bt298.1 bt298.2.1 bt298.2.2.1 bt298.2.2.2.1 bt298.2.2.2.2.1 bt298.2.2.2.2.2 bt304.1 bt304.2.1 bt304.2.2 a2).bind fun bt307 => ((laws_eqByteS.f k bt307.1 bt294.1).bind fun t311 => (if t311 = true then (laws_FnExactPointBytes.j0 k a2 bt294.1 bt294.2 bt307.1 (bt307.2 != bt294.2) a0_0 a0_1 a0_2 a0_3 a0_4 a0_5 a1_0 a1_1 a1_2) else (laws_FnExactPointBytes.j0 k a2 bt294.1 bt294.2 bt307.1 true a0_0 a0_1 a0_2 a0_3 a0_4 a0_5 a1_0 a1_1 a1_2))))))))) = some r := h
 clear h; replace H := Option.bind_eq_some_iff.mp H; obtain ⟨⟨t285, t286, t287, t288, t289, t290⟩, A40, H⟩ := H
 replace H : ((laws_toPoint.f a1_0 a1_1 a1_2).bind fun bt291 => ((spec_PointBytes.f k t285 t286 t287 t288 t289 t290 bt291.1 bt291.2.1 bt291.2.2 a2).bind fun bt294 => ((laws_toCurve.f a0_0 a0_1 a0_2 a0_3 a0_4 a0_5).bind fun bt298 => ((laws_toPoint.f a1_0 a1_1 a1_2).bind fun bt304 => ((impl_PointBytes.f k bt298.1 bt298.2.1 bt298.2.2.1 bt298.2.2.2.1 bt298.2.2.2.2.1 bt298.2.2.2.2.2 bt304.1 bt304.2.1 bt304.2.2 a2).bind fun bt307 => ((laws_eqByteS.f k bt307.1 bt294.1).bind fun t311 => (if t311 = true then (laws_FnExactPointBytes.j0 k a2 bt294.1 bt294.2 bt307.1 (bt307.2 != bt294.2) a0_0 a0_1 a0_2 a0_3 a0_4 a0_5 a1_0 a1_1 a1_2) else (laws_FnExactPointBytes.j0 k a2 bt294.1 bt294.2 bt307.1 true a0_0 a0_1 a0_2 a0_3 a0_4 a0_5 a1_0 a1_1 a1_2)))))))) = some r := H
 have A4 := Aside0.mk A40; clear A40; replace H := Option.bind_eq_some_iff.mp H; obtain ⟨⟨t291, t292, t293⟩, A50, H⟩ := H
 replace H : ((spec_PointBytes.f k t285 t286 t287 t288 t289 t290 t291 t292 t293 a2).bind fun bt294 => ((laws_toCurve.f a0_0 a0_1 a0_2 a0_3 a0_4 a0_5).bind fun bt298 => ((laws_toPoint.f a1_0 a1_1 a1_2).bind fun bt304 => ((impl_PointBytes.f k bt298.1 bt298.2.1 bt298.2.2.1 bt298.2.2.2.1 bt298.2.2.2.2.1 bt298.2.2.2.2.2 bt304.1 bt304.2.1 bt304.2.2 a2).bind fun bt307 => ((laws_eqByteS.f k bt307.1 bt294.1).bind fun t311 => (if t311 = true then (laws_FnExactPointBytes.j0 k a2 bt294.1 bt294.2 bt307.1 (bt307.2 != bt294.2) a0_0 a0_1 a0_2 a0_3 a0_4 a0_5 a1_0 a1_1 a1_2) else (laws_FnExactPointBytes.j0 k a2 bt294.1 bt294.2 bt307.1 true a0_0 a0_1 a0_2 a0_3 a0_4 a0_5 a1_0 a1_1 a1_2))))))) = some r := H
 have A5 := Aside0.mk A50; clear A50; replace H := Option.bind_eq_some_iff.mp H; obtain ⟨⟨t294, t297⟩, A60, H⟩ := H
 replace H : ((laws_toCurve.f a0_0 a0_1 a0_2 a0_3 a0_4 a0_5).bind fun bt298 => ((laws_toPoint.f a1_0 a1_1 a1_2).bind fun bt304 => ((impl_PointBytes.f k bt298.1 bt298.2.1 bt298.2.2.1 bt298.2.2.2.1 bt298.2.2.2.2.1 bt298.2.2.2.2.2 bt304.1 bt304.2.1 bt304.2.2 a2).bind fun bt307 => ((laws_eqByteS.f k bt307.1 t294).bind fun t311 => (if t311 = true then (laws_FnExactPointBytes.j0 k a2 t294 t297 bt307.1 (bt307.2 != t297) a0_0 a0_1 a0_2 a0_3 a0_4 a0_5 a1_0 a1_1 a1_2) else (laws_FnExactPointBytes.j0 k a2 t294 t297 bt307.1 true a0_0 a0_1 a0_2 a0_3 a0_4 a0_5 a1_0 a1_1 a1_2)))))) = some r := H
 have A6 := Aside0.mk A60; clear A60; replace H := Option.bind_eq_some_iff.mp H; obtain ⟨⟨t298, t299, t300, t301, t302, t303⟩, A70, H⟩ := H
 replace H : ((laws_toPoint.f a1_0 a1_1 a1_2).bind fun bt304 => ((impl_PointBytes.f k t298 t299 t300 t301 t302 t303 bt304.1 bt304.2.1 bt304.2.2 a2).bind fun bt307 => ((laws_eqByteS.f k bt307.1 t294).bind fun t311 => (if t311 = true then (laws_FnExactPointBytes.j0 k a2 t294 t297 bt307.1 (bt307.2 != t297) a0_0 a0_1 a0_2 a0_3 a0_4 a0_5 a1_0 a1_1 a1_2) else (laws_FnExactPointBytes.j0 k a2 t294 t297 bt307.1 true a0_0 a0_1 a0_2 a0_3 a0_4 a0_5 a1_0 a1_1 a1_2))))) = some r := H
 have A7 := Aside0.mk A70; clear A70; replace H := Option.bind_eq_some_iff.mp H; obtain ⟨⟨t304, t305, t306⟩, A80, H⟩ := H
 replace H : ((impl_PointBytes.f k t298 t299 t300 t301 t302 t303 t304 t305 t306 a2).bind fun bt307 => ((laws_eqByteS.f k bt307.1 t294).bind fun t311 => (if t311 = true then (laws_FnExactPointBytes.j0 k a2 t294 t297 bt307.1 (bt307.2 != t297) a0_0 a0_1 a0_2 a0_3 a0_4 a0_5 a1_0 a1_1 a1_2) else (laws_FnExactPointBytes.j0 k a2 t294 t297 bt307.1 true a0_0 a0_1 a0_2 a0_3 a0_4 a0_5 a1_0 a1_1 a1_2)))) = some r := H
 have A8 := Aside0.mk A80; clear A80; replace H := Option.bind_eq_some_iff.mp H; obtain ⟨⟨t307, t310⟩, A90, H⟩ := H
 replace H : ((laws_eqByteS.f k t307 t294).bind fun t311 => (if t311 = true then (laws_FnExactPointBytes.j0 k a2 t294 t297 t307 (t310 != t297) a0_0 a0_1 a0_2 a0_3 a0_4 a0_5 a1_0 a1_1 a1_2) else (laws_FnExactPointBytes.j0 k a2 t294 t297 t307 true a0_0 a0_1 a0_2 a0_3 a0_4 a0_5 a1_0 a1_1 a1_2))) = some r := H
 have A9 := Aside0.mk A90; clear A90; have HC10 := Aside0.mk H; clear H
 go_enter Try.func4, Try.ntmps4
 try go_wp2_with (first | ((with_reducible refine gate_dst (N := 3) rfl ?_); refine box_event ?hg (N := 3) ?hd (cs := #[.int .i64 a0_0, .int .i64 a0_1, .int .i64 a0_2, .int .i64 a0_3, .int .i64 a0_4, .int .i64 a0_5]) (t := 23) ?hr ?_; (case hd => rfl); (case hg => rfl); (case hr => first | (go_simp; done) | (go_simp; rfl)); intro gb283 hg w11 hbox hb; have n0_ := bs_ HB hb; have n1_ := Aside0.mk hbox; have n2_ := ge_ HB hg; have n3_ := ge_ HB hg; clear HB; have HB := n0_; have BK283 := n1_; have GW283 := n2_; have GE283 := n3_; clear n0_ n1_ n2_ n3_; clear hb hbox hg) | ((with_reducible refine gate_dst (N := 4) rfl ?_); refine box_event ?hg (N := 4) ?hd (cs := #[.int .i64 a1_0, .int .i64 a1_1, .bool a1_2]) (t := 25) ?hr ?_; (case hd => rfl); (case hg => rfl); (case hr => first | (go_simp; done) | (go_simp; rfl)); intro gb284 hg w12 hbox hb; have n0_ := bb_ BK283 hb; have n1_ := bs_ HB hb; have n2_ := Aside0.mk hbox; have n3_ := ge_ HB hg; have n4_ := ge_ HB hg; have n5_ := nl_ BK283 hg; have n6_ := nr_ BK283 hg; clear BK283; clear HB; have BK283 := n0_; have HB := n1_; have BK284 := n2_; have GW284 := n3_; have GE284 := n4_; have NB283_284 := n5_; have NB284_283 := n6_; clear n0_ n1_ n2_ n3_ n4_ n5_ n6_; clear hb hbox hg))
 replace BK283 := Aside0.mk (blk_drew BK283.out); replace BK284 := Aside0.mk (blk_drew BK284.out); replace HB := Aside0.mk (below_drew1 HB.out); refine start_ (n := 11) (S := fun w' => w'.cell? ⟨gb283, 0, none⟩ = some (.int .i64 a0_0) ∧ w'.cell? ⟨gb283, 1, none⟩ = some (.int .i64 a0_1) ∧ w'.cell? ⟨gb283, 2, none⟩ = some (.int .i64 a0_2) ∧ w'.cell? ⟨gb283, 3, none⟩ = some (.int .i64 a0_3) ∧ w'.cell? ⟨gb283, 4, none⟩ = some (.int .i64 a0_4) ∧ w'.cell? ⟨gb283, 5, none⟩ = some (.int .i64 a0_5) ∧ w'.cell? ⟨gb284, 0, none⟩ = some (.int .i64 a1_0) ∧ w'.cell? ⟨gb284, 1, none⟩ = some (.int .i64 a1_1) ∧ w'.cell? ⟨gb284, 2, none⟩ = some (.bool a1_2)) (ds := []) #[false,false,false,false,false,false,false,false,false,false,false] (by kernel_rfl) rfl rfl ⟨bc_ BK283 0, bc_ BK283 1, bc_ BK283 2, bc_ BK283 3, bc_ BK283 4, bc_ BK283 5, bc_ BK284 0, bc_ BK284 1, bc_ BK284 2⟩ (fun hHeld => ?_); refine with_tabW laws_FnExactPointBytes.tab1 laws_FnExactPointBytes.bits1 (fun HT_ HW_ => ?_)
 generalize w12.drew = w13 at BK283 BK284 HB hHeld ⊢
 refine pure_ (i := 4) (N := some 20) (v := ?_) (a' := ?_) #[false,false,false,false,true,false,false,false,false,false,false] rfl rfl (any_of HT_.out (by kernel_rfl)) (fun _ _ _ h => h) (Or.inl ⟨by rfl, ?_⟩) ?_ ?_; rotate_left
 ·
  intro w'; go_simp
  with_reducible rfl
 rotate_left
 · simp only [Act.put, sA_, sZ_, sS_, i64_w, i32_w]; rfl
 refine take_ (i := 0) (N := some 16) (v := ?_) (a' := ?_) #[true,false,false,false,true,false,false,false,false,false,false] rfl rfl (take_ofW HT_.out HW_.out (by kernel_rfl)) (fun _ _ _ h => h) (Or.inl ⟨by rfl, ?_⟩) hHeld ?_ ?_; rotate_left
 ·
  rintro w' ⟨s0, s1, s2, s3, s4, s5, s6, s7, s8⟩; go_simp
  with_reducible rfl
 rotate_left
 · simp only [Act.put, sA_, sZ_, sS_, i64_w, i32_w]; rfl
 refine take_ (i := 2) (N := some 18) (v := ?_) (a' := ?_) #[true,false,true,false,true,false,false,false,false,false,false] rfl rfl (take_ofW HT_.out HW_.out (by kernel_rfl)) (fun _ _ _ h => h) (Or.inl ⟨by rfl, ?_⟩) hHeld ?_ ?_; rotate_left
 ·
  rintro w' ⟨s0, s1, s2, s3, s4, s5, s6, s7, s8⟩; go_simp
  with_reducible rfl
 rotate_left
 · simp only [Act.put, sA_, sZ_, sS_, i64_w, i32_w]; rfl
 refine one_ (i := 1) (N := some 17) #[true,true,true,false,true,false,false,false,false,false,false] rfl rfl (one_of HT_.out (by kernel_rfl)) (by decide) (fun K hK => ?_); refine gs_ Try.func9 #[.agg #[.int .i64 a0_0, .int .i64 a0_1, .int .i64 a0_2, .int .i64 a0_3, .int .i64 a0_4, .int .i64 a0_5]] ?_
 with_reducible refine (laws_toCurve.calls a0_0 a0_1 a0_2 a0_3 a0_4 a0_5 t285 t286 t287 t288 t289 t290 _ A4.out).mono ?_
 rintro e w14 ⟨rfl, hb⟩; refine ⟨_, rfl, ?_⟩; replace BK283 := bb_ BK283 hb; replace BK284 := bb_ BK284 hb; replace HB := bs_ HB hb; (try clear hb); (try clear hk); refine hK.out _ _ ⟨bc_ BK283 0, bc_ BK283 1, bc_ BK283 2, bc_ BK283 3, bc_ BK283 4, bc_ BK283 5, bc_ BK284 0, bc_ BK284 1, bc_ BK284 2⟩ (fun hHeld => ?_); clear hK K
 apply norm_
 · show Act.put _ (some 17) _ = _; simp only [Act.put, sA_, sZ_, sS_, i64_w, i32_w]; rfl
 refine one_ (i := 3) (N := some 19) #[true,true,true,true,true,false,false,false,false,false,false] rfl rfl (one_of HT_.out (by kernel_rfl)) (by decide) (fun K hK => ?_); refine gs_ Try.func10 #[.agg #[.int .i64 a1_0, .int .i64 a1_1, .bool a1_2]] ?_
 with_reducible refine (laws_toPoint.calls a1_0 a1_1 a1_2 t291 t292 t293 _ A5.out).mono ?_
 rintro e w15 ⟨rfl, hb⟩; refine ⟨_, rfl, ?_⟩; replace BK283 := bb_ BK283 hb; replace BK284 := bb_ BK284 hb; replace HB := bs_ HB hb; (try clear hb); (try clear hk); refine hK.out _ _ ⟨bc_ BK283 0, bc_ BK283 1, bc_ BK283 2, bc_ BK283 3, bc_ BK283 4, bc_ BK283 5, bc_ BK284 0, bc_ BK284 1, bc_ BK284 2⟩ (fun hHeld => ?_); clear hK K
 apply norm_
 · show Act.put _ (some 19) _ = _; simp only [Act.put, sA_, sZ_, sS_, i64_w, i32_w]; rfl
 refine one_ (i := 5) (N := some 21) #[true,true,true,true,true,true,false,false,false,false,false] rfl rfl (one_of HT_.out (by kernel_rfl)) (by decide) (fun K hK => ?_); refine gs_ Try.func13 #[.agg #[.int .i64 t285, .int .i64 t286, .int .i64 t287, .int .i64 t288, .int .i64 t289, .int .i64 t290], .agg #[.int .i64 t291, .int .i64 t292, .bool t293], .bool a2] ?_
 with_reducible refine (spec_PointBytes.calls k t285 t286 t287 t288 t289 t290 t291 t292 t293 a2 t294 t297 _ A6.out).mono ?_
 rintro e w16 ⟨v295, rfl, ho0, hb⟩; refine ⟨_, rfl, ?_⟩; have HO296 := Aside0.mk (Kd.R_lower ho0 (below_size (bw_ HB))); replace BK283 := bb_ BK283 hb; replace BK284 := bb_ BK284 hb; replace HB := bs_ HB hb; (try clear hb); (try clear hk); (try clear ho0); refine hK.out _ _ ⟨bc_ BK283 0, bc_ BK283 1, bc_ BK283 2, bc_ BK283 3, bc_ BK283 4, bc_ BK283 5, bc_ BK284 0, bc_ BK284 1, bc_ BK284 2⟩ (fun hHeld => ?_); clear hK K
 apply norm_
 · show Act.put _ (some 21) _ = _; simp only [Act.put, sA_, sZ_, sS_, i64_w, i32_w]; rfl
 refine pure_ (i := 6) (N := some 15) (v := ?_) (a' := ?_) #[true,true,true,true,true,true,true,false,false,false,false] rfl rfl (any_of HT_.out (by kernel_rfl)) (fun _ _ _ h => h) (Or.inl ⟨by rfl, ?_⟩) ?_ ?_; rotate_left
 ·
  intro w'; go_simp
  with_reducible rfl
 rotate_left
 · simp only [Act.put, sA_, sZ_, sS_, i64_w, i32_w]; rfl
 refine pure_ (i := 7) (N := some 22) (v := ?_) (a' := ?_) #[true,true,true,true,true,true,true,true,false,false,false] rfl rfl (any_of HT_.out (by kernel_rfl)) (fun _ _ _ h => h) (Or.inl ⟨by rfl, ?_⟩) ?_ ?_; rotate_left
 ·
  intro w'; go_simp
  with_reducible rfl
 rotate_left
 · simp only [Act.put, sA_, sZ_, sS_, i64_w, i32_w]; rfl
 refine pure_ (i := 8) (N := some 23) (v := ?_) (a' := ?_) #[true,true,true,true,true,true,true,true,true,false,false] rfl rfl (any_of HT_.out (by kernel_rfl)) (fun _ _ _ h => h) (Or.inl ⟨by rfl, ?_⟩) ?_ ?_; rotate_left
 ·
  intro w'; go_simp
  with_reducible rfl
 rotate_left
 · simp only [Act.put, sA_, sZ_, sS_, i64_w, i32_w]; rfl
 refine pure_ (i := 9) (N := some 7) (v := ?_) (a' := ?_) #[true,true,true,true,true,true,true,true,true,true,false] rfl rfl (any_of HT_.out (by kernel_rfl)) (fun _ _ _ h => h) (Or.inl ⟨by rfl, ?_⟩) ?_ ?_; rotate_left
 ·
  intro w'; go_simp
  with_reducible rfl
 rotate_left
 · simp only [Act.put, sA_, sZ_, sS_, i64_w, i32_w]; rfl
 refine pure_ (i := 10) (N := some 8) (v := ?_) (a' := ?_) #[true,true,true,true,true,true,true,true,true,true,true] rfl rfl (any_of HT_.out (by kernel_rfl)) (fun _ _ _ h => h) (Or.inl ⟨by rfl, ?_⟩) ?_ ?_; rotate_left
 ·
  intro w'; go_simp
  with_reducible rfl
 rotate_left
 · simp only [Act.put, sA_, sZ_, sS_, i64_w, i32_w]; rfl
 refine done_ (done_of HT_.out (by kernel_rfl)) ?_
 try go_wp2
 replace HO296 := Aside0.mk (Kd.R_drew HO296.out); replace BK283 := Aside0.mk (blk_drew BK283.out); replace BK284 := Aside0.mk (blk_drew BK284.out); replace HB := Aside0.mk (below_drew1 HB.out); refine start_ (n := 11) (S := fun w' => w'.cell? ⟨gb283, 0, none⟩ = some (.int .i64 a0_0) ∧ w'.cell? ⟨gb283, 1, none⟩ = some (.int .i64 a0_1) ∧ w'.cell? ⟨gb283, 2, none⟩ = some (.int .i64 a0_2) ∧ w'.cell? ⟨gb283, 3, none⟩ = some (.int .i64 a0_3) ∧ w'.cell? ⟨gb283, 4, none⟩ = some (.int .i64 a0_4) ∧ w'.cell? ⟨gb283, 5, none⟩ = some (.int .i64 a0_5) ∧ w'.cell? ⟨gb284, 0, none⟩ = some (.int .i64 a1_0) ∧ w'.cell? ⟨gb284, 1, none⟩ = some (.int .i64 a1_1) ∧ w'.cell? ⟨gb284, 2, none⟩ = some (.bool a1_2)) (ds := []) #[false,false,false,false,false,false,false,false,false,false,false] (by kernel_rfl) rfl rfl ⟨bc_ BK283 0, bc_ BK283 1, bc_ BK283 2, bc_ BK283 3, bc_ BK283 4, bc_ BK283 5, bc_ BK284 0, bc_ BK284 1, bc_ BK284 2⟩ (fun hHeld => ?_); refine with_tabW laws_FnExactPointBytes.tab2 laws_FnExactPointBytes.bits2 (fun HT_ HW_ => ?_)
 generalize w16.drew = w17 at HO296 BK283 BK284 HB hHeld ⊢
 refine pure_ (i := 4) (N := some 29) (v := ?_) (a' := ?_) #[false,false,false,false,true,false,false,false,false,false,false] rfl rfl (any_of HT_.out (by kernel_rfl)) (fun _ _ _ h => h) (Or.inl ⟨by rfl, ?_⟩) ?_ ?_; rotate_left
 ·
  intro w'; go_simp
  with_reducible rfl
 rotate_left
 · simp only [Act.put, sA_, sZ_, sS_, i64_w, i32_w]; rfl
 refine take_ (i := 0) (N := some 25) (v := ?_) (a' := ?_) #[true,false,false,false,true,false,false,false,false,false,false] rfl rfl (take_ofW HT_.out HW_.out (by kernel_rfl)) (fun _ _ _ h => h) (Or.inl ⟨by rfl, ?_⟩) hHeld ?_ ?_; rotate_left
 ·
  rintro w' ⟨s0, s1, s2, s3, s4, s5, s6, s7, s8⟩; go_simp
  with_reducible rfl
 rotate_left
 · simp only [Act.put, sA_, sZ_, sS_, i64_w, i32_w]; rfl
 refine take_ (i := 2) (N := some 27) (v := ?_) (a' := ?_) #[true,false,true,false,true,false,false,false,false,false,false] rfl rfl (take_ofW HT_.out HW_.out (by kernel_rfl)) (fun _ _ _ h => h) (Or.inl ⟨by rfl, ?_⟩) hHeld ?_ ?_; rotate_left
 ·
  rintro w' ⟨s0, s1, s2, s3, s4, s5, s6, s7, s8⟩; go_simp
  with_reducible rfl
 rotate_left
 · simp only [Act.put, sA_, sZ_, sS_, i64_w, i32_w]; rfl
 refine one_ (i := 1) (N := some 26) #[true,true,true,false,true,false,false,false,false,false,false] rfl rfl (one_of HT_.out (by kernel_rfl)) (by decide) (fun K hK => ?_); refine gs_ Try.func9 #[.agg #[.int .i64 a0_0, .int .i64 a0_1, .int .i64 a0_2, .int .i64 a0_3, .int .i64 a0_4, .int .i64 a0_5]] ?_
 with_reducible refine (laws_toCurve.calls a0_0 a0_1 a0_2 a0_3 a0_4 a0_5 t298 t299 t300 t301 t302 t303 _ A7.out).mono ?_
 rintro e w18 ⟨rfl, hb⟩; refine ⟨_, rfl, ?_⟩; replace HO296 := Aside0.mk (Kd.R_below (by (with_reducible repeat (first | apply Kd.R_alloc | apply Kd.R_drewN | apply Kd.R_drew)); exact HO296.out) hb); replace BK283 := bb_ BK283 hb; replace BK284 := bb_ BK284 hb; replace HB := bs_ HB hb; (try clear hb); (try clear hk); refine hK.out _ _ ⟨bc_ BK283 0, bc_ BK283 1, bc_ BK283 2, bc_ BK283 3, bc_ BK283 4, bc_ BK283 5, bc_ BK284 0, bc_ BK284 1, bc_ BK284 2⟩ (fun hHeld => ?_); clear hK K
 apply norm_
 · show Act.put _ (some 26) _ = _; simp only [Act.put, sA_, sZ_, sS_, i64_w, i32_w]; rfl
 refine one_ (i := 3) (N := some 28) #[true,true,true,true,true,false,false,false,false,false,false] rfl rfl (one_of HT_.out (by kernel_rfl)) (by decide) (fun K hK => ?_); refine gs_ Try.func10 #[.agg #[.int .i64 a1_0, .int .i64 a1_1, .bool a1_2]] ?_
 with_reducible refine (laws_toPoint.calls a1_0 a1_1 a1_2 t304 t305 t306 _ A8.out).mono ?_
 rintro e w19 ⟨rfl, hb⟩; refine ⟨_, rfl, ?_⟩; replace HO296 := Aside0.mk (Kd.R_below (by (with_reducible repeat (first | apply Kd.R_alloc | apply Kd.R_drewN | apply Kd.R_drew)); exact HO296.out) hb); replace BK283 := bb_ BK283 hb; replace BK284 := bb_ BK284 hb; replace HB := bs_ HB hb; (try clear hb); (try clear hk); refine hK.out _ _ ⟨bc_ BK283 0, bc_ BK283 1, bc_ BK283 2, bc_ BK283 3, bc_ BK283 4, bc_ BK283 5, bc_ BK284 0, bc_ BK284 1, bc_ BK284 2⟩ (fun hHeld => ?_); clear hK K
 apply norm_
 · show Act.put _ (some 28) _ = _; simp only [Act.put, sA_, sZ_, sS_, i64_w, i32_w]; rfl
 refine one_ (i := 5) (N := some 30) #[true,true,true,true,true,true,false,false,false,false,false] rfl rfl (one_of HT_.out (by kernel_rfl)) (by decide) (fun K hK => ?_); refine gs_ Try.func14 #[.agg #[.int .i64 t298, .int .i64 t299, .int .i64 t300, .int .i64 t301, .int .i64 t302, .int .i64 t303], .agg #[.int .i64 t304, .int .i64 t305, .bool t306], .bool a2] ?_
 with_reducible refine (impl_PointBytes.calls k t298 t299 t300 t301 t302 t303 t304 t305 t306 a2 t307 t310 _ A9.out).mono ?_
 rintro e w20 ⟨v308, rfl, ho0, hb⟩; refine ⟨_, rfl, ?_⟩; have HO309 := Aside0.mk (Kd.R_lower (Kd.R_new' ho0 (Kd.R_lt (by (with_reducible repeat (first | apply Kd.R_alloc | apply Kd.R_drewN | apply Kd.R_drew)); exact HO296.out))) (below_size (bw_ HB))); replace HO296 := Aside0.mk (Kd.R_elder' (by (with_reducible repeat (first | apply Kd.R_alloc | apply Kd.R_drewN | apply Kd.R_drew)); exact HO296.out) (Kd.R_base ho0) hb); replace BK283 := bb_ BK283 hb; replace BK284 := bb_ BK284 hb; replace HB := bs_ HB hb; (try clear hb); (try clear hk); (try clear ho0); refine hK.out _ _ ⟨bc_ BK283 0, bc_ BK283 1, bc_ BK283 2, bc_ BK283 3, bc_ BK283 4, bc_ BK283 5, bc_ BK284 0, bc_ BK284 1, bc_ BK284 2⟩ (fun hHeld => ?_); clear hK K
 apply norm_
 · show Act.put _ (some 30) _ = _; simp only [Act.put, sA_, sZ_, sS_, i64_w, i32_w]; rfl
 refine pure_ (i := 6) (N := some 24) (v := ?_) (a' := ?_) #[true,true,true,true,true,true,true,false,false,false,false] rfl rfl (any_of HT_.out (by kernel_rfl)) (fun _ _ _ h => h) (Or.inl ⟨by rfl, ?_⟩) ?_ ?_; rotate_left
 ·
  intro w'; go_simp
  with_reducible rfl
 rotate_left
 · simp only [Act.put, sA_, sZ_, sS_, i64_w, i32_w]; rfl
 refine pure_ (i := 7) (N := some 31) (v := ?_) (a' := ?_) #[true,true,true,true,true,true,true,true,false,false,false] rfl rfl (any_of HT_.out (by kernel_rfl)) (fun _ _ _ h => h) (Or.inl ⟨by rfl, ?_⟩) ?_ ?_; rotate_left
 ·
  intro w'; go_simp
  with_reducible rfl
 rotate_left
 · simp only [Act.put, sA_, sZ_, sS_, i64_w, i32_w]; rfl
 refine pure_ (i := 8) (N := some 32) (v := ?_) (a' := ?_) #[true,true,true,true,true,true,true,true,true,false,false] rfl rfl (any_of HT_.out (by kernel_rfl)) (fun _ _ _ h => h) (Or.inl ⟨by rfl, ?_⟩) ?_ ?_; rotate_left
 ·
  intro w'; go_simp
  with_reducible rfl
 rotate_left
 · simp only [Act.put, sA_, sZ_, sS_, i64_w, i32_w]; rfl
 refine pure_ (i := 9) (N := some 9) (v := ?_) (a' := ?_) #[true,true,true,true,true,true,true,true,true,true,false] rfl rfl (any_of HT_.out (by kernel_rfl)) (fun _ _ _ h => h) (Or.inl ⟨by rfl, ?_⟩) ?_ ?_; rotate_left
 ·
  intro w'; go_simp
  with_reducible rfl
 rotate_left
 · simp only [Act.put, sA_, sZ_, sS_, i64_w, i32_w]; rfl
 refine pure_ (i := 10) (N := some 10) (v := ?_) (a' := ?_) #[true,true,true,true,true,true,true,true,true,true,true] rfl rfl (any_of HT_.out (by kernel_rfl)) (fun _ _ _ h => h) (Or.inl ⟨by rfl, ?_⟩) ?_ ?_; rotate_left
 ·
  intro w'; go_simp
  with_reducible rfl
 rotate_left
 · simp only [Act.put, sA_, sZ_, sS_, i64_w, i32_w]; rfl
 refine done_ (done_of HT_.out (by kernel_rfl)) ?_
 go_upto_region 3 with (fail)
 go_cut [41] (fun v41 wc => ∃ (kq : Nat) (x41_9 : Bool), v41 = .bool x41_9 ∧ Aside0 (laws_FnExactPointBytes.j0 kq a2 t294 t297 t307 x41_9 a0_0 a0_1 a0_2 a0_3 a0_4 a0_5 a1_0 a1_1 a1_2 = some r) ∧ Aside0 (kq ≤ k) ∧ Aside0 (Kd.R (Kd.int .u8) 5 wc w.heap.size (fun k_ => some k_ ≠ (v308 : Value).ownBlock) v295 t294) ∧ Aside0 (Kd.R (Kd.int .u8) 5 wc w.heap.size (fun k_ => some k_ ≠ (v295 : Value).ownBlock) v308 t307) ∧ Aside0 (wc.heap[gb283]? = some (.cells #[.int .i64 a0_0, .int .i64 a0_1, .int .i64 a0_2, .int .i64 a0_3, .int .i64 a0_4, .int .i64 a0_5] 23 (0, 0))) ∧ Aside0 (wc.heap[gb284]? = some (.cells #[.int .i64 a1_0, .int .i64 a1_1, .bool a1_2] 25 (0, 0))) ∧ Aside0 (Below w.heap.size w wc))
 case first =>
  have H := HC10.out; clear HC10; replace H := Option.bind_eq_some_iff.mp H; obtain ⟨t311, A210, H⟩ := H
  replace H : (if t311 = true then (laws_FnExactPointBytes.j0 k a2 t294 t297 t307 (t310 != t297) a0_0 a0_1 a0_2 a0_3 a0_4 a0_5 a1_0 a1_1 a1_2) else (laws_FnExactPointBytes.j0 k a2 t294 t297 t307 true a0_0 a0_1 a0_2 a0_3 a0_4 a0_5 a1_0 a1_1 a1_2)) = some r := H
  have A21 := Aside0.mk A210; clear A210
  by_cases c22 : t311 = true
  ·
   subst c22
   have H1 : (laws_FnExactPointBytes.j0 k a2 t294 t297 t307 (t310 != t297) a0_0 a0_1 a0_2 a0_3 a0_4 a0_5 a1_0 a1_1 a1_2) = some r := by rw [if_pos rfl] at H; exact H
   clear H; have H := H1; clear H1
   have H' := Aside0.mk H
   clear H; obtain ⟨Ao23, co23, eo23⟩ := Kd.R_slice HO309.out; subst eo23; obtain ⟨Ao24, co24, eo24⟩ := Kd.R_slice HO296.out; subst eo24
   go_wp2_with (first | ((with_reducible refine gate_callee (f := 15) rfl ?_); refine goesL_ (some 35) rfl rfl Try.func15 (by kernel_rfl) rfl #[.slice Ao23 t307.length co23, .slice Ao24 t294.length co24] rfl (by (try simp only [List.map_toArray, List.map_cons, List.map_nil]); first | done | rfl | (simp only [List.length_drop, List.length_take]; rfl)) ?_; (with_reducible refine (laws_eqByteS.calls k _ _ t307 _ _ t294 true _ ?side1 ?side2 ?side3 ?side4 A21.out).mono ?_); (case side1 => repeat (first | exact (Kd.R_reads' HO309.out).2.2 | (with_reducible refine Kd.C_alloc ?_ _) | (with_reducible refine Kd.C_drewN ?_ _) | (with_reducible refine Kd.C_drew ?_))); (case side2 => exact (Kd.R_reads' HO309.out).2.1); (case side3 => repeat (first | exact (Kd.R_reads' HO296.out).2.2 | (with_reducible refine Kd.C_alloc ?_ _) | (with_reducible refine Kd.C_drewN ?_ _) | (with_reducible refine Kd.C_drew ?_))); (case side4 => exact (Kd.R_reads' HO296.out).2.1); rintro e w' ⟨rfl, ⟨nd, rfl⟩⟩; refine ⟨_, rfl, ?_⟩))
   go_meet
   case rel => exact ⟨_, ((t310 != t297)), (by first | rfl | (simp; done) | (simp [*]; done)), H', ⟨by first | omega | exact Nat.le_refl _⟩, ⟨by (with_reducible repeat (first | apply Kd.R_alloc | apply Kd.R_drewN | apply Kd.R_drew)); exact Kd.R_mono HO296.out (fun _ hk => hk.2)⟩, ⟨by (with_reducible repeat (first | apply Kd.R_alloc | apply Kd.R_drewN | apply Kd.R_drew)); exact Kd.R_mono HO309.out (fun _ hk => hk.2)⟩, ⟨by (with_reducible repeat (first | refine blk_drewN ?_ _ | refine blk_drew ?_ | refine blk_alloc ?_ _)); exact BK283.out⟩, ⟨by (with_reducible repeat (first | refine blk_drewN ?_ _ | refine blk_drew ?_ | refine blk_alloc ?_ _)); exact BK284.out⟩, ⟨by repeat (first | (with_reducible first | exact HB.out | apply below_alloc | apply pw_below_drewN | apply below_drew1 | refine below_set ?_ GE283.out | refine below_set ?_ GE284.out) | exact HB.out)⟩⟩
  ·
   replace c22 := Bool.eq_false_iff.mpr c22; subst c22
   have H1 : (laws_FnExactPointBytes.j0 k a2 t294 t297 t307 true a0_0 a0_1 a0_2 a0_3 a0_4 a0_5 a1_0 a1_1 a1_2) = some r := by rw [if_neg (show ¬ (false = true) by decide)] at H; exact H
   clear H; have H := H1; clear H1
   have H' := Aside0.mk H
   clear H; obtain ⟨Ao25, co25, eo25⟩ := Kd.R_slice HO309.out; subst eo25; obtain ⟨Ao26, co26, eo26⟩ := Kd.R_slice HO296.out; subst eo26
   go_wp2_with (first | ((with_reducible refine gate_callee (f := 15) rfl ?_); refine goesL_ (some 35) rfl rfl Try.func15 (by kernel_rfl) rfl #[.slice Ao25 t307.length co25, .slice Ao26 t294.length co26] rfl (by (try simp only [List.map_toArray, List.map_cons, List.map_nil]); first | done | rfl | (simp only [List.length_drop, List.length_take]; rfl)) ?_; (with_reducible refine (laws_eqByteS.calls k _ _ t307 _ _ t294 false _ ?side1 ?side2 ?side3 ?side4 A21.out).mono ?_); (case side1 => repeat (first | exact (Kd.R_reads' HO309.out).2.2 | (with_reducible refine Kd.C_alloc ?_ _) | (with_reducible refine Kd.C_drewN ?_ _) | (with_reducible refine Kd.C_drew ?_))); (case side2 => exact (Kd.R_reads' HO309.out).2.1); (case side3 => repeat (first | exact (Kd.R_reads' HO296.out).2.2 | (with_reducible refine Kd.C_alloc ?_ _) | (with_reducible refine Kd.C_drewN ?_ _) | (with_reducible refine Kd.C_drew ?_))); (case side4 => exact (Kd.R_reads' HO296.out).2.1); rintro e w' ⟨rfl, ⟨nd, rfl⟩⟩; refine ⟨_, rfl, ?_⟩))
   go_meet
   case rel => exact ⟨_, (true), (by first | rfl | (simp; done) | (simp [*]; done)), H', ⟨by first | omega | exact Nat.le_refl _⟩, ⟨by (with_reducible repeat (first | apply Kd.R_alloc | apply Kd.R_drewN | apply Kd.R_drew)); exact Kd.R_mono HO296.out (fun _ hk => hk.2)⟩, ⟨by (with_reducible repeat (first | apply Kd.R_alloc | apply Kd.R_drewN | apply Kd.R_drew)); exact Kd.R_mono HO309.out (fun _ hk => hk.2)⟩, ⟨by (with_reducible repeat (first | refine blk_drewN ?_ _ | refine blk_drew ?_ | refine blk_alloc ?_ _)); exact BK283.out⟩, ⟨by (with_reducible repeat (first | refine blk_drewN ?_ _ | refine blk_drew ?_ | refine blk_alloc ?_ _)); exact BK284.out⟩, ⟨by repeat (first | (with_reducible first | exact HB.out | apply below_alloc | apply pw_below_drewN | apply below_drew1 | refine below_set ?_ GE283.out | refine below_set ?_ GE284.out) | exact HB.out)⟩⟩
 case rest =>
  clear HC10
  try clear c1
  try clear c2
  try clear p2
  try clear c4
  try clear c9
  try clear c10
  try clear c13
  try clear c14
  try clear c15
  try clear c22
  obtain ⟨kq, x41_9, rfl, HA, HJ9, HO_7, HO_9, BK283, BK284, HB⟩ := hcut
  cases kq with
  | zero => exact absurd HA.out (by simp [laws_FnExactPointBytes.j0])
  | succ kj9 =>
   have H := HA.out; clear HA
   simp only [laws_FnExactPointBytes.j0] at H
   by_cases c27 : x41_9 = true
   ·
    subst c27
    have H1 : (some false) = some r := by rw [if_pos rfl] at H; exact H
    clear H; have H := H1; clear H1; obtain rfl := Option.some.inj H
    go_wp2
    go_ret
    exact ⟨by first | rfl | (simp [errW_none, errW_some] <;> rfl) | (simp [*, errW_none, errW_some] <;> rfl), by repeat (first | (with_reducible first | exact HB.out | apply below_alloc | apply pw_below_drewN | apply below_drew1 | refine below_set ?_ GE283.out | refine below_set ?_ GE284.out) | exact HB.out)⟩
   ·
    replace c27 := Bool.eq_false_iff.mpr c27; subst c27
    have H1 : ((laws_markByteS.f kj9 t307 1).bind fun bt312 => ((laws_heldByteS.f kj9 bt312.2 1).bind fun t314 => (if t314 < 0 then (some false) else (if t314 = bt312.1 then ((laws_toCurve.f a0_0 a0_1 a0_2 a0_3 a0_4 a0_5).bind fun bt315 => ((laws_toPoint.f a1_0 a1_1 a1_2).bind fun bt321 => ((impl_PointBytes.f kj9 bt315.1 bt315.2.1 bt315.2.2.1 bt315.2.2.2.1 bt315.2.2.2.2.1 bt315.2.2.2.2.2 bt321.1 bt321.2.1 bt321.2.2 a2).bind fun bt324 => ((laws_eqByteS.f kj9 bt324.1 t294).bind fun t328 => (if t328 = true then (laws_FnExactPointBytes.j1 kj9 bt312.2 bt312.1 (bt324.2 != t297)) else (laws_FnExactPointBytes.j1 kj9 bt312.2 bt312.1 true)))))) else (some false))))) = some r := by rw [if_neg (show ¬ (false = true) by decide)] at H; exact H
    clear H; have H := H1; clear H1; replace H := Option.bind_eq_some_iff.mp H; obtain ⟨⟨t312, t313⟩, A280, H⟩ := H
    replace H : ((laws_heldByteS.f kj9 t313 1).bind fun t314 => (if t314 < 0 then (some false) else (if t314 = t312 then ((laws_toCurve.f a0_0 a0_1 a0_2 a0_3 a0_4 a0_5).bind fun bt315 => ((laws_toPoint.f a1_0 a1_1 a1_2).bind fun bt321 => ((impl_PointBytes.f kj9 bt315.1 bt315.2.1 bt315.2.2.1 bt315.2.2.2.1 bt315.2.2.2.2.1 bt315.2.2.2.2.2 bt321.1 bt321.2.1 bt321.2.2 a2).bind fun bt324 => ((laws_eqByteS.f kj9 bt324.1 t294).bind fun t328 => (if t328 = true then (laws_FnExactPointBytes.j1 kj9 t313 t312 (bt324.2 != t297)) else (laws_FnExactPointBytes.j1 kj9 t313 t312 true)))))) else (some false)))) = some r := H
    have A28 := Aside0.mk A280; clear A280; replace H := Option.bind_eq_some_iff.mp H; obtain ⟨t314, A290, H⟩ := H
    replace H : (if t314 < 0 then (some false) else (if t314 = t312 then ((laws_toCurve.f a0_0 a0_1 a0_2 a0_3 a0_4 a0_5).bind fun bt315 => ((laws_toPoint.f a1_0 a1_1 a1_2).bind fun bt321 => ((impl_PointBytes.f kj9 bt315.1 bt315.2.1 bt315.2.2.1 bt315.2.2.2.1 bt315.2.2.2.2.1 bt315.2.2.2.2.2 bt321.1 bt321.2.1 bt321.2.2 a2).bind fun bt324 => ((laws_eqByteS.f kj9 bt324.1 t294).bind fun t328 => (if t328 = true then (laws_FnExactPointBytes.j1 kj9 t313 t312 (bt324.2 != t297)) else (laws_FnExactPointBytes.j1 kj9 t313 t312 true)))))) else (some false))) = some r := H
    have A29 := Aside0.mk A290; clear A290
    by_cases c30 : t314 < 0
    ·
     rw [if_pos c30] at H
     have c30b0 : decide (t314 < 0) = true := decide_eq_true c30
     clear c30; obtain rfl := Option.some.inj H; obtain ⟨Ao31, co31, eo31⟩ := Kd.R_slice HO_9.out; subst eo31
     go_wp2_with (first | ((with_reducible refine gate_callee (f := 16) rfl ?_); refine goesL_ (some 44) rfl rfl Try.func16 (by kernel_rfl) rfl #[.slice Ao31 t307.length co31, .int .i64 1] rfl (by (try simp only [List.map_toArray, List.map_cons, List.map_nil]); first | done | rfl | (simp only [List.length_drop, List.length_take]; rfl)) ?_; (with_reducible refine (laws_markByteS.calls kj9 (fun k_ => some k_ = (.slice Ao31 t307.length co31 : Value).ownBlock) (.slice Ao31 t307.length co31) t307 1 t312 t313 w _ ?side1 ?side2 A28.out).mono ?_); (case side1 => repeat (first | (with_reducible first | exact HB.out | apply below_alloc | apply pw_below_drewN | apply below_drew1 | refine below_set ?_ GE283.out | refine below_set ?_ GE284.out) | exact HB.out)); (case side2 => exact Kd.R_tight rfl HO_9.out); rintro e w32 ⟨rfl, hy0, hb, hkp⟩; refine ⟨_, rfl, ?_⟩; have n0_ := Aside0.mk (Kd.R_mono (ok' := fun k_ => some k_ ≠ (.slice Ao31 t307.length co31 : Value).ownBlock) (Kd.R_keptB (HO_7.out) hkp (fun k_ hk_ hs_ => (hk_) hs_)) (fun k_ hk_ => hk_.1)); have n1_ := Aside0.mk (Kd.R_reok rfl hy0 (fun k_ e_ => HO_9.out.1 k_ e_)); have n2_ := Aside0.mk (blk_kept (bk_ BK283) hkp (fun hs_ => (fun e_ => (Kd.R_ne HO_9.out BK283.out (by decide)) e_) hs_)); have n3_ := Aside0.mk (blk_kept (bk_ BK284) hkp (fun hs_ => (fun e_ => (Kd.R_ne HO_9.out BK284.out (by decide)) e_) hs_)); have n4_ := Aside0.mk hb; clear HO_7; clear HO_9; clear BK283; clear BK284; clear HB; have HO_7 := n0_; have HO_9 := n1_; have BK283 := n2_; have BK284 := n3_; have HB := n4_; clear n0_ n1_ n2_ n3_ n4_; (try clear hb); (try clear hkp); (try clear hy0)) | ((with_reducible refine gate_callee (f := 17) rfl ?_); refine goesL_ (some 47) rfl rfl Try.func17 (by kernel_rfl) rfl #[.slice Ao31 t313.length co31, .int .i64 1] rfl (by (try simp only [List.map_toArray, List.map_cons, List.map_nil]); first | done | (rw [show t313.length = t307.length from (Kd.R_reads' HO_9.out).1.symm] <;> rfl) | rfl | (simp only [List.length_drop, List.length_take]; rfl)) ?_; (with_reducible refine (laws_heldByteS.calls kj9 _ _ t313 1 t314 _ ?side1 ?side2 A29.out).mono ?_); (case side1 => repeat (first | exact (Kd.R_reads' HO_9.out).2.2 | (with_reducible refine Kd.C_alloc ?_ _) | (with_reducible refine Kd.C_drewN ?_ _) | (with_reducible refine Kd.C_drew ?_))); (case side2 => rw [show t313.length = t307.length from (Kd.R_reads' HO_9.out).1.symm]; exact (Kd.R_reads' HO_9.out).2.1); rintro e w' ⟨rfl, ⟨nd, rfl⟩⟩; refine ⟨_, rfl, ?_⟩))
     go_ret
     exact ⟨by first | rfl | (simp [errW_none, errW_some] <;> rfl) | (simp [*, errW_none, errW_some] <;> rfl), by repeat (first | (with_reducible first | exact HB.out | apply below_alloc | apply pw_below_drewN | apply below_drew1 | refine below_set ?_ GE283.out | refine below_set ?_ GE284.out) | exact HB.out)⟩
    ·
     rw [if_neg c30] at H
     have c30b0 : decide (t314 < 0) = false := decide_eq_false c30
     clear c30
     by_cases c33 : t314 = t312
     ·
      rw [if_pos c33] at H
      have c33b0 : (t314 == t312) = true := beq_iff_eq.mpr c33
      have c33b1 : (t314 != t312) = false := bne_eq_false_iff_eq.mpr c33
      clear c33; replace H := Option.bind_eq_some_iff.mp H; obtain ⟨⟨t315, t316, t317, t318, t319, t320⟩, A340, H⟩ := H
      replace H : ((laws_toPoint.f a1_0 a1_1 a1_2).bind fun bt321 => ((impl_PointBytes.f kj9 t315 t316 t317 t318 t319 t320 bt321.1 bt321.2.1 bt321.2.2 a2).bind fun bt324 => ((laws_eqByteS.f kj9 bt324.1 t294).bind fun t328 => (if t328 = true then (laws_FnExactPointBytes.j1 kj9 t313 t312 (bt324.2 != t297)) else (laws_FnExactPointBytes.j1 kj9 t313 t312 true))))) = some r := H
      have A34 := Aside0.mk A340; clear A340; replace H := Option.bind_eq_some_iff.mp H; obtain ⟨⟨t321, t322, t323⟩, A350, H⟩ := H
      replace H : ((impl_PointBytes.f kj9 t315 t316 t317 t318 t319 t320 t321 t322 t323 a2).bind fun bt324 => ((laws_eqByteS.f kj9 bt324.1 t294).bind fun t328 => (if t328 = true then (laws_FnExactPointBytes.j1 kj9 t313 t312 (bt324.2 != t297)) else (laws_FnExactPointBytes.j1 kj9 t313 t312 true)))) = some r := H
      have A35 := Aside0.mk A350; clear A350; replace H := Option.bind_eq_some_iff.mp H; obtain ⟨⟨t324, t327⟩, A360, H⟩ := H
      replace H : ((laws_eqByteS.f kj9 t324 t294).bind fun t328 => (if t328 = true then (laws_FnExactPointBytes.j1 kj9 t313 t312 (t327 != t297)) else (laws_FnExactPointBytes.j1 kj9 t313 t312 true))) = some r := H
      have A36 := Aside0.mk A360; clear A360; have HC37 := Aside0.mk H; clear H; obtain ⟨Ao38, co38, eo38⟩ := Kd.R_slice HO_9.out; subst eo38
      try go_wp2_with (first | ((with_reducible refine gate_callee (f := 16) rfl ?_); refine goesL_ (some 44) rfl rfl Try.func16 (by kernel_rfl) rfl #[.slice Ao38 t307.length co38, .int .i64 1] rfl (by (try simp only [List.map_toArray, List.map_cons, List.map_nil]); first | done | rfl | (simp only [List.length_drop, List.length_take]; rfl)) ?_; (with_reducible refine (laws_markByteS.calls kj9 (fun k_ => some k_ = (.slice Ao38 t307.length co38 : Value).ownBlock) (.slice Ao38 t307.length co38) t307 1 t312 t313 w _ ?side1 ?side2 A28.out).mono ?_); (case side1 => repeat (first | (with_reducible first | exact HB.out | apply below_alloc | apply pw_below_drewN | apply below_drew1 | refine below_set ?_ GE283.out | refine below_set ?_ GE284.out) | exact HB.out)); (case side2 => exact Kd.R_tight rfl HO_9.out); rintro e w39 ⟨rfl, hy0, hb, hkp⟩; refine ⟨_, rfl, ?_⟩; have n0_ := Aside0.mk (Kd.R_mono (ok' := fun k_ => some k_ ≠ (.slice Ao38 t307.length co38 : Value).ownBlock) (Kd.R_keptB (HO_7.out) hkp (fun k_ hk_ hs_ => (hk_) hs_)) (fun k_ hk_ => hk_.1)); have n1_ := Aside0.mk (Kd.R_reok rfl hy0 (fun k_ e_ => HO_9.out.1 k_ e_)); have n2_ := Aside0.mk (blk_kept (bk_ BK283) hkp (fun hs_ => (fun e_ => (Kd.R_ne HO_9.out BK283.out (by decide)) e_) hs_)); have n3_ := Aside0.mk (blk_kept (bk_ BK284) hkp (fun hs_ => (fun e_ => (Kd.R_ne HO_9.out BK284.out (by decide)) e_) hs_)); have n4_ := Aside0.mk hb; clear HO_7; clear HO_9; clear BK283; clear BK284; clear HB; have HO_7 := n0_; have HO_9 := n1_; have BK283 := n2_; have BK284 := n3_; have HB := n4_; clear n0_ n1_ n2_ n3_ n4_; (try clear hb); (try clear hkp); (try clear hy0)) | ((with_reducible refine gate_callee (f := 17) rfl ?_); refine goesL_ (some 47) rfl rfl Try.func17 (by kernel_rfl) rfl #[.slice Ao38 t313.length co38, .int .i64 1] rfl (by (try simp only [List.map_toArray, List.map_cons, List.map_nil]); first | done | (rw [show t313.length = t307.length from (Kd.R_reads' HO_9.out).1.symm] <;> rfl) | rfl | (simp only [List.length_drop, List.length_take]; rfl)) ?_; (with_reducible refine (laws_heldByteS.calls kj9 _ _ t313 1 t314 _ ?side1 ?side2 A29.out).mono ?_); (case side1 => repeat (first | exact (Kd.R_reads' HO_9.out).2.2 | (with_reducible refine Kd.C_alloc ?_ _) | (with_reducible refine Kd.C_drewN ?_ _) | (with_reducible refine Kd.C_drew ?_))); (case side2 => rw [show t313.length = t307.length from (Kd.R_reads' HO_9.out).1.symm]; exact (Kd.R_reads' HO_9.out).2.1); rintro e w' ⟨rfl, ⟨nd, rfl⟩⟩; refine ⟨_, rfl, ?_⟩))
      (try (rw [drewN_self w39]; generalize hq_ : World.drewN w39 _ = w39; have n0_ : Aside0 (Kd.R (Kd.int .u8) 5 w39 w.heap.size (fun k_ => some k_ ≠ (.slice Ao38 t307.length co38 : Value).ownBlock) v295 t294) := ⟨by rw [← hq_]; exact (by (with_reducible repeat (first | apply Kd.R_alloc | apply Kd.R_drewN | apply Kd.R_drew)); exact HO_7.out)⟩; have n1_ : Aside0 (Kd.R (Kd.int .u8) 5 w39 w.heap.size (fun k_ => some k_ ≠ (v295 : Value).ownBlock) (.slice Ao38 t307.length co38) t313) := ⟨by rw [← hq_]; exact (by (with_reducible repeat (first | apply Kd.R_alloc | apply Kd.R_drewN | apply Kd.R_drew)); exact HO_9.out)⟩; have n2_ : Aside0 (w39.heap[gb283]? = some (.cells #[.int .i64 a0_0, .int .i64 a0_1, .int .i64 a0_2, .int .i64 a0_3, .int .i64 a0_4, .int .i64 a0_5] 23 (0, 0))) := ⟨by rw [← hq_]; exact (bk_ BK283)⟩; have n3_ : Aside0 (w39.heap[gb284]? = some (.cells #[.int .i64 a1_0, .int .i64 a1_1, .bool a1_2] 25 (0, 0))) := ⟨by rw [← hq_]; exact (bk_ BK284)⟩; have n4_ : Aside0 (Below w.heap.size w w39) := ⟨by rw [← hq_]; exact (bw_ HB)⟩; clear HO_7 HO_9 BK283 BK284 HB hq_; have HO_7 := n0_; have HO_9 := n1_; have BK283 := n2_; have BK284 := n3_; have HB := n4_; clear n0_ n1_ n2_ n3_ n4_; have hcy283_0 : w39.cell? ⟨gb283, 0, none⟩ = some (.int .i64 a0_0) := bc_ BK283 0; have hcy283_1 : w39.cell? ⟨gb283, 1, none⟩ = some (.int .i64 a0_1) := bc_ BK283 1; have hcy283_2 : w39.cell? ⟨gb283, 2, none⟩ = some (.int .i64 a0_2) := bc_ BK283 2; have hcy283_3 : w39.cell? ⟨gb283, 3, none⟩ = some (.int .i64 a0_3) := bc_ BK283 3; have hcy283_4 : w39.cell? ⟨gb283, 4, none⟩ = some (.int .i64 a0_4) := bc_ BK283 4; have hcy283_5 : w39.cell? ⟨gb283, 5, none⟩ = some (.int .i64 a0_5) := bc_ BK283 5; have hcy284_0 : w39.cell? ⟨gb284, 0, none⟩ = some (.int .i64 a1_0) := bc_ BK284 0; have hcy284_1 : w39.cell? ⟨gb284, 1, none⟩ = some (.int .i64 a1_1) := bc_ BK284 1; have hcy284_2 : w39.cell? ⟨gb284, 2, none⟩ = some (.bool a1_2) := bc_ BK284 2)); replace HO_7 := Aside0.mk (Kd.R_drew HO_7.out); replace HO_9 := Aside0.mk (Kd.R_drew HO_9.out); replace BK283 := Aside0.mk (blk_drew BK283.out); replace BK284 := Aside0.mk (blk_drew BK284.out); replace HB := Aside0.mk (below_drew1 HB.out); refine start_ (n := 11) (S := fun w' => w'.cell? ⟨gb283, 0, none⟩ = some (.int .i64 a0_0) ∧ w'.cell? ⟨gb283, 1, none⟩ = some (.int .i64 a0_1) ∧ w'.cell? ⟨gb283, 2, none⟩ = some (.int .i64 a0_2) ∧ w'.cell? ⟨gb283, 3, none⟩ = some (.int .i64 a0_3) ∧ w'.cell? ⟨gb283, 4, none⟩ = some (.int .i64 a0_4) ∧ w'.cell? ⟨gb283, 5, none⟩ = some (.int .i64 a0_5) ∧ w'.cell? ⟨gb284, 0, none⟩ = some (.int .i64 a1_0) ∧ w'.cell? ⟨gb284, 1, none⟩ = some (.int .i64 a1_1) ∧ w'.cell? ⟨gb284, 2, none⟩ = some (.bool a1_2)) (ds := []) #[false,false,false,false,false,false,false,false,false,false,false] (by kernel_rfl) rfl rfl ⟨bc_ BK283 0, bc_ BK283 1, bc_ BK283 2, bc_ BK283 3, bc_ BK283 4, bc_ BK283 5, bc_ BK284 0, bc_ BK284 1, bc_ BK284 2⟩ (fun hHeld => ?_); refine with_tabW laws_FnExactPointBytes.tab13 laws_FnExactPointBytes.bits13 (fun HT_ HW_ => ?_)
      generalize w39.drew = w40 at HO_7 HO_9 BK283 BK284 HB hHeld ⊢
      refine pure_ (i := 4) (N := some 58) (v := ?_) (a' := ?_) #[false,false,false,false,true,false,false,false,false,false,false] rfl rfl (any_of HT_.out (by kernel_rfl)) (fun _ _ _ h => h) (Or.inl ⟨by rfl, ?_⟩) ?_ ?_; rotate_left
      ·
       intro w'; go_simp
       with_reducible rfl
      rotate_left
      · simp only [Act.put, sA_, sZ_, sS_, i64_w, i32_w]; rfl
      refine take_ (i := 0) (N := some 54) (v := ?_) (a' := ?_) #[true,false,false,false,true,false,false,false,false,false,false] rfl rfl (take_ofW HT_.out HW_.out (by kernel_rfl)) (fun _ _ _ h => h) (Or.inl ⟨by rfl, ?_⟩) hHeld ?_ ?_; rotate_left
      ·
       rintro w' ⟨s0, s1, s2, s3, s4, s5, s6, s7, s8⟩; go_simp
       with_reducible rfl
      rotate_left
      · simp only [Act.put, sA_, sZ_, sS_, i64_w, i32_w]; rfl
      refine take_ (i := 2) (N := some 56) (v := ?_) (a' := ?_) #[true,false,true,false,true,false,false,false,false,false,false] rfl rfl (take_ofW HT_.out HW_.out (by kernel_rfl)) (fun _ _ _ h => h) (Or.inl ⟨by rfl, ?_⟩) hHeld ?_ ?_; rotate_left
      ·
       rintro w' ⟨s0, s1, s2, s3, s4, s5, s6, s7, s8⟩; go_simp
       with_reducible rfl
      rotate_left
      · simp only [Act.put, sA_, sZ_, sS_, i64_w, i32_w]; rfl
      refine one_ (i := 1) (N := some 55) #[true,true,true,false,true,false,false,false,false,false,false] rfl rfl (one_of HT_.out (by kernel_rfl)) (by decide) (fun K hK => ?_); refine gs_ Try.func9 #[.agg #[.int .i64 a0_0, .int .i64 a0_1, .int .i64 a0_2, .int .i64 a0_3, .int .i64 a0_4, .int .i64 a0_5]] ?_
      with_reducible refine (laws_toCurve.calls a0_0 a0_1 a0_2 a0_3 a0_4 a0_5 t315 t316 t317 t318 t319 t320 _ A34.out).mono ?_
      rintro e w41 ⟨rfl, hb⟩; refine ⟨_, rfl, ?_⟩; replace HO_7 := Aside0.mk (Kd.R_below (by (with_reducible repeat (first | apply Kd.R_alloc | apply Kd.R_drewN | apply Kd.R_drew)); exact HO_7.out) hb); replace HO_9 := Aside0.mk (Kd.R_below (by (with_reducible repeat (first | apply Kd.R_alloc | apply Kd.R_drewN | apply Kd.R_drew)); exact HO_9.out) hb); replace BK283 := bb_ BK283 hb; replace BK284 := bb_ BK284 hb; replace HB := bs_ HB hb; (try clear hb); (try clear hk); refine hK.out _ _ ⟨bc_ BK283 0, bc_ BK283 1, bc_ BK283 2, bc_ BK283 3, bc_ BK283 4, bc_ BK283 5, bc_ BK284 0, bc_ BK284 1, bc_ BK284 2⟩ (fun hHeld => ?_); clear hK K
      apply norm_
      · show Act.put _ (some 55) _ = _; simp only [Act.put, sA_, sZ_, sS_, i64_w, i32_w]; rfl
      refine one_ (i := 3) (N := some 57) #[true,true,true,true,true,false,false,false,false,false,false] rfl rfl (one_of HT_.out (by kernel_rfl)) (by decide) (fun K hK => ?_); refine gs_ Try.func10 #[.agg #[.int .i64 a1_0, .int .i64 a1_1, .bool a1_2]] ?_
      with_reducible refine (laws_toPoint.calls a1_0 a1_1 a1_2 t321 t322 t323 _ A35.out).mono ?_
      rintro e w42 ⟨rfl, hb⟩; refine ⟨_, rfl, ?_⟩; replace HO_7 := Aside0.mk (Kd.R_below (by (with_reducible repeat (first | apply Kd.R_alloc | apply Kd.R_drewN | apply Kd.R_drew)); exact HO_7.out) hb); replace HO_9 := Aside0.mk (Kd.R_below (by (with_reducible repeat (first | apply Kd.R_alloc | apply Kd.R_drewN | apply Kd.R_drew)); exact HO_9.out) hb); replace BK283 := bb_ BK283 hb; replace BK284 := bb_ BK284 hb; replace HB := bs_ HB hb; (try clear hb); (try clear hk); refine hK.out _ _ ⟨bc_ BK283 0, bc_ BK283 1, bc_ BK283 2, bc_ BK283 3, bc_ BK283 4, bc_ BK283 5, bc_ BK284 0, bc_ BK284 1, bc_ BK284 2⟩ (fun hHeld => ?_); clear hK K
      apply norm_
      · show Act.put _ (some 57) _ = _; simp only [Act.put, sA_, sZ_, sS_, i64_w, i32_w]; rfl
      refine one_ (i := 5) (N := some 59) #[true,true,true,true,true,true,false,false,false,false,false] rfl rfl (one_of HT_.out (by kernel_rfl)) (by decide) (fun K hK => ?_); refine gs_ Try.func14 #[.agg #[.int .i64 t315, .int .i64 t316, .int .i64 t317, .int .i64 t318, .int .i64 t319, .int .i64 t320], .agg #[.int .i64 t321, .int .i64 t322, .bool t323], .bool a2] ?_
      with_reducible refine (impl_PointBytes.calls kj9 t315 t316 t317 t318 t319 t320 t321 t322 t323 a2 t324 t327 _ A36.out).mono ?_
      rintro e w43 ⟨v325, rfl, ho0, hb⟩; refine ⟨_, rfl, ?_⟩; have HO326 := Aside0.mk (Kd.R_lower (Kd.R_new' (Kd.R_new' ho0 (Kd.R_lt (by (with_reducible repeat (first | apply Kd.R_alloc | apply Kd.R_drewN | apply Kd.R_drew)); exact HO_7.out))) (Kd.R_lt (by (with_reducible repeat (first | apply Kd.R_alloc | apply Kd.R_drewN | apply Kd.R_drew)); exact HO_9.out))) (below_size (bw_ HB))); replace HO_7 := Aside0.mk (Kd.R_elder' (by (with_reducible repeat (first | apply Kd.R_alloc | apply Kd.R_drewN | apply Kd.R_drew)); exact HO_7.out) (Kd.R_base ho0) hb); replace HO_9 := Aside0.mk (Kd.R_elder' (by (with_reducible repeat (first | apply Kd.R_alloc | apply Kd.R_drewN | apply Kd.R_drew)); exact HO_9.out) (Kd.R_base ho0) hb); replace BK283 := bb_ BK283 hb; replace BK284 := bb_ BK284 hb; replace HB := bs_ HB hb; (try clear hb); (try clear hk); (try clear ho0); refine hK.out _ _ ⟨bc_ BK283 0, bc_ BK283 1, bc_ BK283 2, bc_ BK283 3, bc_ BK283 4, bc_ BK283 5, bc_ BK284 0, bc_ BK284 1, bc_ BK284 2⟩ (fun hHeld => ?_); clear hK K
      apply norm_
      · show Act.put _ (some 59) _ = _; simp only [Act.put, sA_, sZ_, sS_, i64_w, i32_w]; rfl
      refine pure_ (i := 6) (N := some 53) (v := ?_) (a' := ?_) #[true,true,true,true,true,true,true,false,false,false,false] rfl rfl (any_of HT_.out (by kernel_rfl)) (fun _ _ _ h => h) (Or.inl ⟨by rfl, ?_⟩) ?_ ?_; rotate_left
      ·
       intro w'; go_simp
       with_reducible rfl
      rotate_left
      · simp only [Act.put, sA_, sZ_, sS_, i64_w, i32_w]; rfl
      refine pure_ (i := 7) (N := some 60) (v := ?_) (a' := ?_) #[true,true,true,true,true,true,true,true,false,false,false] rfl rfl (any_of HT_.out (by kernel_rfl)) (fun _ _ _ h => h) (Or.inl ⟨by rfl, ?_⟩) ?_ ?_; rotate_left
      ·
       intro w'; go_simp
       with_reducible rfl
      rotate_left
      · simp only [Act.put, sA_, sZ_, sS_, i64_w, i32_w]; rfl
      refine pure_ (i := 8) (N := some 61) (v := ?_) (a' := ?_) #[true,true,true,true,true,true,true,true,true,false,false] rfl rfl (any_of HT_.out (by kernel_rfl)) (fun _ _ _ h => h) (Or.inl ⟨by rfl, ?_⟩) ?_ ?_; rotate_left
      ·
       intro w'; go_simp
       with_reducible rfl
      rotate_left
      · simp only [Act.put, sA_, sZ_, sS_, i64_w, i32_w]; rfl
      refine pure_ (i := 9) (N := some 13) (v := ?_) (a' := ?_) #[true,true,true,true,true,true,true,true,true,true,false] rfl rfl (any_of HT_.out (by kernel_rfl)) (fun _ _ _ h => h) (Or.inl ⟨by rfl, ?_⟩) ?_ ?_; rotate_left
      ·
       intro w'; go_simp
       with_reducible rfl
      rotate_left
      · simp only [Act.put, sA_, sZ_, sS_, i64_w, i32_w]; rfl
      refine pure_ (i := 10) (N := some 14) (v := ?_) (a' := ?_) #[true,true,true,true,true,true,true,true,true,true,true] rfl rfl (any_of HT_.out (by kernel_rfl)) (fun _ _ _ h => h) (Or.inl ⟨by rfl, ?_⟩) ?_ ?_; rotate_left
      ·
       intro w'; go_simp
       with_reducible rfl
      rotate_left
      · simp only [Act.put, sA_, sZ_, sS_, i64_w, i32_w]; rfl
      refine done_ (done_of HT_.out (by kernel_rfl)) ?_
      go_upto_region 14 with (fail)
      go_cut [70] (fun v70 wc => ∃ (kq : Nat) (x70_36 : Bool), v70 = .bool x70_36 ∧ Aside0 (laws_FnExactPointBytes.j1 kq t313 t312 x70_36 = some r) ∧ Aside0 (kq ≤ kj9) ∧ Aside0 (Kd.R (Kd.int .u8) 5 wc w.heap.size (fun _ => True) (.slice Ao38 t307.length co38) t313) ∧ Aside0 (wc.heap[gb283]? = some (.cells #[.int .i64 a0_0, .int .i64 a0_1, .int .i64 a0_2, .int .i64 a0_3, .int .i64 a0_4, .int .i64 a0_5] 23 (0, 0))) ∧ Aside0 (wc.heap[gb284]? = some (.cells #[.int .i64 a1_0, .int .i64 a1_1, .bool a1_2] 25 (0, 0))) ∧ Aside0 (Below w.heap.size w wc))
      case first =>
       have H := HC37.out; clear HC37; replace H := Option.bind_eq_some_iff.mp H; obtain ⟨t328, A440, H⟩ := H
       replace H : (if t328 = true then (laws_FnExactPointBytes.j1 kj9 t313 t312 (t327 != t297)) else (laws_FnExactPointBytes.j1 kj9 t313 t312 true)) = some r := H
       have A44 := Aside0.mk A440; clear A440
       by_cases c45 : t328 = true
       ·
        subst c45
        have H1 : (laws_FnExactPointBytes.j1 kj9 t313 t312 (t327 != t297)) = some r := by rw [if_pos rfl] at H; exact H
        clear H; have H := H1; clear H1
        have H' := Aside0.mk H
        clear H; obtain ⟨Ao46, co46, eo46⟩ := Kd.R_slice HO326.out; subst eo46; obtain ⟨Ao47, co47, eo47⟩ := Kd.R_slice HO_7.out; subst eo47
        go_wp2_with (first | ((with_reducible refine gate_callee (f := 15) rfl ?_); refine goesL_ (some 64) rfl rfl Try.func15 (by kernel_rfl) rfl #[.slice Ao46 t324.length co46, .slice Ao47 t294.length co47] rfl (by (try simp only [List.map_toArray, List.map_cons, List.map_nil]); first | done | rfl | (simp only [List.length_drop, List.length_take]; rfl)) ?_; (with_reducible refine (laws_eqByteS.calls kj9 _ _ t324 _ _ t294 true _ ?side1 ?side2 ?side3 ?side4 A44.out).mono ?_); (case side1 => repeat (first | exact (Kd.R_reads' HO326.out).2.2 | (with_reducible refine Kd.C_alloc ?_ _) | (with_reducible refine Kd.C_drewN ?_ _) | (with_reducible refine Kd.C_drew ?_))); (case side2 => exact (Kd.R_reads' HO326.out).2.1); (case side3 => repeat (first | exact (Kd.R_reads' HO_7.out).2.2 | (with_reducible refine Kd.C_alloc ?_ _) | (with_reducible refine Kd.C_drewN ?_ _) | (with_reducible refine Kd.C_drew ?_))); (case side4 => exact (Kd.R_reads' HO_7.out).2.1); rintro e w' ⟨rfl, ⟨nd, rfl⟩⟩; refine ⟨_, rfl, ?_⟩))
        go_meet
        case rel => exact ⟨_, ((t327 != t297)), (by first | rfl | (simp; done) | (simp [*]; done)), H', ⟨by have := HJ9.out; first | omega | exact Nat.le_refl _⟩, ⟨by (with_reducible repeat (first | apply Kd.R_alloc | apply Kd.R_drewN | apply Kd.R_drew)); exact Kd.R_mono HO_9.out (fun _ hk => trivial)⟩, ⟨by (with_reducible repeat (first | refine blk_drewN ?_ _ | refine blk_drew ?_ | refine blk_alloc ?_ _)); exact BK283.out⟩, ⟨by (with_reducible repeat (first | refine blk_drewN ?_ _ | refine blk_drew ?_ | refine blk_alloc ?_ _)); exact BK284.out⟩, ⟨by repeat (first | (with_reducible first | exact HB.out | apply below_alloc | apply pw_below_drewN | apply below_drew1 | refine below_set ?_ GE283.out | refine below_set ?_ GE284.out) | exact HB.out)⟩⟩
       ·
        replace c45 := Bool.eq_false_iff.mpr c45; subst c45
        have H1 : (laws_FnExactPointBytes.j1 kj9 t313 t312 true) = some r := by rw [if_neg (show ¬ (false = true) by decide)] at H; exact H
        clear H; have H := H1; clear H1
        have H' := Aside0.mk H
        clear H; obtain ⟨Ao48, co48, eo48⟩ := Kd.R_slice HO326.out; subst eo48; obtain ⟨Ao49, co49, eo49⟩ := Kd.R_slice HO_7.out; subst eo49
        go_wp2_with (first | ((with_reducible refine gate_callee (f := 15) rfl ?_); refine goesL_ (some 64) rfl rfl Try.func15 (by kernel_rfl) rfl #[.slice Ao48 t324.length co48, .slice Ao49 t294.length co49] rfl (by (try simp only [List.map_toArray, List.map_cons, List.map_nil]); first | done | rfl | (simp only [List.length_drop, List.length_take]; rfl)) ?_; (with_reducible refine (laws_eqByteS.calls kj9 _ _ t324 _ _ t294 false _ ?side1 ?side2 ?side3 ?side4 A44.out).mono ?_); (case side1 => repeat (first | exact (Kd.R_reads' HO326.out).2.2 | (with_reducible refine Kd.C_alloc ?_ _) | (with_reducible refine Kd.C_drewN ?_ _) | (with_reducible refine Kd.C_drew ?_))); (case side2 => exact (Kd.R_reads' HO326.out).2.1); (case side3 => repeat (first | exact (Kd.R_reads' HO_7.out).2.2 | (with_reducible refine Kd.C_alloc ?_ _) | (with_reducible refine Kd.C_drewN ?_ _) | (with_reducible refine Kd.C_drew ?_))); (case side4 => exact (Kd.R_reads' HO_7.out).2.1); rintro e w' ⟨rfl, ⟨nd, rfl⟩⟩; refine ⟨_, rfl, ?_⟩))
        go_meet
        case rel => exact ⟨_, (true), (by first | rfl | (simp; done) | (simp [*]; done)), H', ⟨by have := HJ9.out; first | omega | exact Nat.le_refl _⟩, ⟨by (with_reducible repeat (first | apply Kd.R_alloc | apply Kd.R_drewN | apply Kd.R_drew)); exact Kd.R_mono HO_9.out (fun _ hk => trivial)⟩, ⟨by (with_reducible repeat (first | refine blk_drewN ?_ _ | refine blk_drew ?_ | refine blk_alloc ?_ _)); exact BK283.out⟩, ⟨by (with_reducible repeat (first | refine blk_drewN ?_ _ | refine blk_drew ?_ | refine blk_alloc ?_ _)); exact BK284.out⟩, ⟨by repeat (first | (with_reducible first | exact HB.out | apply below_alloc | apply pw_below_drewN | apply below_drew1 | refine below_set ?_ GE283.out | refine below_set ?_ GE284.out) | exact HB.out)⟩⟩
      case rest =>
       clear HC37
       try clear c1
       try clear c2
       try clear p2
       try clear c3
       try clear c4
       try clear c9
       try clear c10
       try clear c13
       try clear c14
       try clear c15
       try clear c16
       try clear c17
       try clear c22
       try clear c27
       try clear c30
       try clear c30b0
       try clear c33
       try clear c33b0
       try clear c33b1
       try clear c45
       try clear p2
       obtain ⟨kq, x70_36, rfl, HA, HJ36, HO_9, BK283, BK284, HB⟩ := hcut; have hl9_36 := (Kd.R_reads' HO_9.out).1
       rw [hl9_36] at HO_9
       (try simp only [hl9_36]); (try simp only [hl9_36] at BK283); (try simp only [hl9_36] at BK284)
       cases kq with
       | zero => exact absurd HA.out (by simp [laws_FnExactPointBytes.j1])
       | succ kj36 =>
        have H := HA.out; clear HA
        simp only [laws_FnExactPointBytes.j1] at H
        by_cases c50 : x70_36 = true
        ·
         subst c50
         have H1 : (some false) = some r := by rw [if_pos rfl] at H; exact H
         clear H; have H := H1; clear H1; obtain rfl := Option.some.inj H
         go_wp2
         go_ret
         exact ⟨by first | rfl | (simp [errW_none, errW_some] <;> rfl) | (simp [*, errW_none, errW_some] <;> rfl), by repeat (first | (with_reducible first | exact HB.out | apply below_alloc | apply pw_below_drewN | apply below_drew1 | refine below_set ?_ GE283.out | refine below_set ?_ GE284.out) | exact HB.out)⟩
        ·
         replace c50 := Bool.eq_false_iff.mpr c50; subst c50
         have H1 : ((laws_heldByteS.f kj36 t313 1).bind fun t329 => (if t329 < 0 then (some false) else (if t329 = t312 then (some true) else (some false)))) = some r := by rw [if_neg (show ¬ (false = true) by decide)] at H; exact H
         clear H; have H := H1; clear H1; replace H := Option.bind_eq_some_iff.mp H; obtain ⟨t329, A510, H⟩ := H
         replace H : (if t329 < 0 then (some false) else (if t329 = t312 then (some true) else (some false))) = some r := H
         have A51 := Aside0.mk A510; clear A510
         by_cases c52 : t329 < 0
         ·
          rw [if_pos c52] at H
          have c52b0 : decide (t329 < 0) = true := decide_eq_true c52
          clear c52; obtain rfl := Option.some.inj H
          go_wp2_with (first | ((with_reducible refine gate_callee (f := 17) rfl ?_); refine goesL_ (some 73) rfl rfl Try.func17 (by kernel_rfl) rfl #[.slice Ao38 t313.length co38, .int .i64 1] rfl (by (try simp only [List.map_toArray, List.map_cons, List.map_nil]); first | done | rfl | (simp only [List.length_drop, List.length_take]; rfl)) ?_; (with_reducible refine (laws_heldByteS.calls kj36 _ _ t313 1 t329 _ ?side1 ?side2 A51.out).mono ?_); (case side1 => repeat (first | exact (Kd.R_reads' HO_9.out).2.2 | (with_reducible refine Kd.C_alloc ?_ _) | (with_reducible refine Kd.C_drewN ?_ _) | (with_reducible refine Kd.C_drew ?_))); (case side2 => exact (Kd.R_reads' HO_9.out).2.1); rintro e w' ⟨rfl, ⟨nd, rfl⟩⟩; refine ⟨_, rfl, ?_⟩))
          go_ret
          exact ⟨by first | rfl | (simp [errW_none, errW_some] <;> rfl) | (simp [*, errW_none, errW_some] <;> rfl), by repeat (first | (with_reducible first | exact HB.out | apply below_alloc | apply pw_below_drewN | apply below_drew1 | refine below_set ?_ GE283.out | refine below_set ?_ GE284.out) | exact HB.out)⟩
         ·
          rw [if_neg c52] at H
          have c52b0 : decide (t329 < 0) = false := decide_eq_false c52
          clear c52
          by_cases c53 : t329 = t312
          ·
           rw [if_pos c53] at H
           have c53b0 : (t329 == t312) = true := beq_iff_eq.mpr c53
           have c53b1 : (t329 != t312) = false := bne_eq_false_iff_eq.mpr c53
           clear c53; obtain rfl := Option.some.inj H
           go_wp2_with (first | ((with_reducible refine gate_callee (f := 17) rfl ?_); refine goesL_ (some 73) rfl rfl Try.func17 (by kernel_rfl) rfl #[.slice Ao38 t313.length co38, .int .i64 1] rfl (by (try simp only [List.map_toArray, List.map_cons, List.map_nil]); first | done | rfl | (simp only [List.length_drop, List.length_take]; rfl)) ?_; (with_reducible refine (laws_heldByteS.calls kj36 _ _ t313 1 t329 _ ?side1 ?side2 A51.out).mono ?_); (case side1 => repeat (first | exact (Kd.R_reads' HO_9.out).2.2 | (with_reducible refine Kd.C_alloc ?_ _) | (with_reducible refine Kd.C_drewN ?_ _) | (with_reducible refine Kd.C_drew ?_))); (case side2 => exact (Kd.R_reads' HO_9.out).2.1); rintro e w' ⟨rfl, ⟨nd, rfl⟩⟩; refine ⟨_, rfl, ?_⟩))
           go_ret
           exact ⟨by first | rfl | (simp [errW_none, errW_some] <;> rfl) | (simp [*, errW_none, errW_some] <;> rfl), by repeat (first | (with_reducible first | exact HB.out | apply below_alloc | apply pw_below_drewN | apply below_drew1 | refine below_set ?_ GE283.out | refine below_set ?_ GE284.out) | exact HB.out)⟩
          ·
           rw [if_neg c53] at H
           have c53b0 : (t329 == t312) = false := beq_eq_false_iff_ne.mpr c53
           have c53b1 : (t329 != t312) = true := bne_iff_ne.mpr c53
           obtain rfl := Option.some.inj H
           go_wp2_with (first | ((with_reducible refine gate_callee (f := 17) rfl ?_); refine goesL_ (some 73) rfl rfl Try.func17 (by kernel_rfl) rfl #[.slice Ao38 t313.length co38, .int .i64 1] rfl (by (try simp only [List.map_toArray, List.map_cons, List.map_nil]); first | done | rfl | (simp only [List.length_drop, List.length_take]; rfl)) ?_; (with_reducible refine (laws_heldByteS.calls kj36 _ _ t313 1 t329 _ ?side1 ?side2 A51.out).mono ?_); (case side1 => repeat (first | exact (Kd.R_reads' HO_9.out).2.2 | (with_reducible refine Kd.C_alloc ?_ _) | (with_reducible refine Kd.C_drewN ?_ _) | (with_reducible refine Kd.C_drew ?_))); (case side2 => exact (Kd.R_reads' HO_9.out).2.1); rintro e w' ⟨rfl, ⟨nd, rfl⟩⟩; refine ⟨_, rfl, ?_⟩))
           go_ret
           exact ⟨by first | rfl | (simp [errW_none, errW_some] <;> rfl) | (simp [*, errW_none, errW_some] <;> rfl), by repeat (first | (with_reducible first | exact HB.out | apply below_alloc | apply pw_below_drewN | apply below_drew1 | refine below_set ?_ GE283.out | refine below_set ?_ GE284.out) | exact HB.out)⟩
     ·
      rw [if_neg c33] at H
      have c33b0 : (t314 == t312) = false := beq_eq_false_iff_ne.mpr c33
      have c33b1 : (t314 != t312) = true := bne_iff_ne.mpr c33
      obtain rfl := Option.some.inj H; obtain ⟨Ao54, co54, eo54⟩ := Kd.R_slice HO_9.out; subst eo54
      go_wp2_with (first | ((with_reducible refine gate_callee (f := 16) rfl ?_); refine goesL_ (some 44) rfl rfl Try.func16 (by kernel_rfl) rfl #[.slice Ao54 t307.length co54, .int .i64 1] rfl (by (try simp only [List.map_toArray, List.map_cons, List.map_nil]); first | done | rfl | (simp only [List.length_drop, List.length_take]; rfl)) ?_; (with_reducible refine (laws_markByteS.calls kj9 (fun k_ => some k_ = (.slice Ao54 t307.length co54 : Value).ownBlock) (.slice Ao54 t307.length co54) t307 1 t312 t313 w _ ?side1 ?side2 A28.out).mono ?_); (case side1 => repeat (first | (with_reducible first | exact HB.out | apply below_alloc | apply pw_below_drewN | apply below_drew1 | refine below_set ?_ GE283.out | refine below_set ?_ GE284.out) | exact HB.out)); (case side2 => exact Kd.R_tight rfl HO_9.out); rintro e w55 ⟨rfl, hy0, hb, hkp⟩; refine ⟨_, rfl, ?_⟩; have n0_ := Aside0.mk (Kd.R_mono (ok' := fun k_ => some k_ ≠ (.slice Ao54 t307.length co54 : Value).ownBlock) (Kd.R_keptB (HO_7.out) hkp (fun k_ hk_ hs_ => (hk_) hs_)) (fun k_ hk_ => hk_.1)); have n1_ := Aside0.mk (Kd.R_reok rfl hy0 (fun k_ e_ => HO_9.out.1 k_ e_)); have n2_ := Aside0.mk (blk_kept (bk_ BK283) hkp (fun hs_ => (fun e_ => (Kd.R_ne HO_9.out BK283.out (by decide)) e_) hs_)); have n3_ := Aside0.mk (blk_kept (bk_ BK284) hkp (fun hs_ => (fun e_ => (Kd.R_ne HO_9.out BK284.out (by decide)) e_) hs_)); have n4_ := Aside0.mk hb; clear HO_7; clear HO_9; clear BK283; clear BK284; clear HB; have HO_7 := n0_; have HO_9 := n1_; have BK283 := n2_; have BK284 := n3_; have HB := n4_; clear n0_ n1_ n2_ n3_ n4_; (try clear hb); (try clear hkp); (try clear hy0)) | ((with_reducible refine gate_callee (f := 17) rfl ?_); refine goesL_ (some 47) rfl rfl Try.func17 (by kernel_rfl) rfl #[.slice Ao54 t313.length co54, .int .i64 1] rfl (by (try simp only [List.map_toArray, List.map_cons, List.map_nil]); first | done | (rw [show t313.length = t307.length from (Kd.R_reads' HO_9.out).1.symm] <;> rfl) | rfl | (simp only [List.length_drop, List.length_take]; rfl)) ?_; (with_reducible refine (laws_heldByteS.calls kj9 _ _ t313 1 t314 _ ?side1 ?side2 A29.out).mono ?_); (case side1 => repeat (first | exact (Kd.R_reads' HO_9.out).2.2 | (with_reducible refine Kd.C_alloc ?_ _) | (with_reducible refine Kd.C_drewN ?_ _) | (with_reducible refine Kd.C_drew ?_))); (case side2 => rw [show t313.length = t307.length from (Kd.R_reads' HO_9.out).1.symm]; exact (Kd.R_reads' HO_9.out).2.1); rintro e w' ⟨rfl, ⟨nd, rfl⟩⟩; refine ⟨_, rfl, ?_⟩))
      go_ret
      exact ⟨by first | rfl | (simp [errW_none, errW_some] <;> rfl) | (simp [*, errW_none, errW_some] <;> rfl), by repeat (first | (with_reducible first | exact HB.out | apply below_alloc | apply pw_below_drewN | apply below_drew1 | refine below_set ?_ GE283.out | refine below_set ?_ GE284.out) | exact HB.out)⟩

/-- THE ONE PURE STATEMENT of laws_FnExactPointBytes: yours. -/
def laws_FnExactPointBytes.Pure : Prop := ∀ (a0_0 : Int) (a0_1 : Int) (a0_2 : Int) (a0_3 : Int) (a0_4 : Int) (a0_5 : Int) (a1_0 : Int) (a1_1 : Int) (a1_2 : Bool) (a2 : Bool), (Lit.int .i64 a0_0).wf = true → (Lit.int .i64 a0_1).wf = true → (Lit.int .i64 a0_2).wf = true → (Lit.int .i64 a0_3).wf = true → (Lit.int .i64 a0_4).wf = true → (Lit.int .i64 a0_5).wf = true → (Lit.int .i64 a1_0).wf = true → (Lit.int .i64 a1_1).wf = true → ∃ k, laws_FnExactPointBytes.f k a0_0 a0_1 a0_2 a0_3 a0_4 a0_5 a1_0 a1_1 a1_2 a2 = some true
theorem laws_FnExactPointBytes.walk (P : laws_FnExactPointBytes.Pure) (a0_0 : Int) (a0_1 : Int) (a0_2 : Int) (a0_3 : Int) (a0_4 : Int) (a0_5 : Int) (a1_0 : Int) (a1_1 : Int) (a1_2 : Bool) (a2 : Bool) (w : World) (w0_0 : (Lit.int .i64 a0_0).wf = true) (w0_1 : (Lit.int .i64 a0_1).wf = true) (w0_2 : (Lit.int .i64 a0_2).wf = true) (w0_3 : (Lit.int .i64 a0_3).wf = true) (w0_4 : (Lit.int .i64 a0_4).wf = true) (w0_5 : (Lit.int .i64 a0_5).wf = true) (w1_0 : (Lit.int .i64 a1_0).wf = true) (w1_1 : (Lit.int .i64 a1_1).wf = true) :
  Calls Try.prog 4 #[.agg #[.int .i64 a0_0, .int .i64 a0_1, .int .i64 a0_2, .int .i64 a0_3, .int .i64 a0_4, .int .i64 a0_5], .agg #[.int .i64 a1_0, .int .i64 a1_1, .bool a1_2], .bool a2] w fun e w' => e = .returned (.bool true) ∧ Below w.heap.size w w' := by
 obtain ⟨k, h⟩ := P a0_0 a0_1 a0_2 a0_3 a0_4 a0_5 a1_0 a1_1 a1_2 a2 w0_0 w0_1 w0_2 w0_3 w0_4 w0_5 w1_0 w1_1; refine (laws_FnExactPointBytes.calls k a0_0 a0_1 a0_2 a0_3 a0_4 a0_5 a1_0 a1_1 a1_2 a2 true w h).mono ?_; rintro e w' ⟨rfl, hd⟩; exact ⟨rfl, hd⟩

end Go.Proofs.Ytadmkolopcdffaa.PFnExactPointBytes
