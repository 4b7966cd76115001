-- Written for this claim by a program of this session.
import Derived.Test.YtadmkolopcdffaaPFnExactPointAddx0
import Derived.Test.YtadmkolopcdffaaPFnExactPointAddx3
import Derived.Test.YtadmkolopcdffaaPFnExactPointAddx8
namespace Go.Proofs.Ytadmkolopcdffaa.PFnExactPointAdd
open Go.RowKit Go.Proofs.YtadmkolopcdffaaW.PrintWords Go.Proofs.YtadmkolopcdffaaW.PrintLast Go.Proofs.YtadmkolopcdffaaW.PrintMore
attribute [local go_sem] max2_int min2_int max_two min_two max_three min_three max_four min_four   -- for this text's walks alone
set_option linter.unusedVariables false
set_option linter.unusedSimpArgs false

attribute [local go_sem] fld_
/-! ### laws_FnExactPointAdd: function 3 -/
def laws_FnExactPointAdd.f (k : Nat) (a0_0 : Int) (a0_1 : Int) (a0_2 : Int) (a0_3 : Int) (a0_4 : Int) (a0_5 : Int) (a1_0 : Int) (a1_1 : Int) (a1_2 : Bool) (a2_0 : Int) (a2_1 : Int) (a2_2 : Bool) : Option (Bool) := (laws_toCurve.f a0_0 a0_1 a0_2 a0_3 a0_4 a0_5).bind fun bt229 => ((laws_toPoint.f a1_0 a1_1 a1_2).bind fun bt235 => ((laws_toPoint.f a2_0 a2_1 a2_2).bind fun bt238 => ((spec_PointAdd.f k bt229.1 bt229.2.1 bt229.2.2.1 bt229.2.2.2.1 bt229.2.2.2.2.1 bt229.2.2.2.2.2 bt235.1 bt235.2.1 bt235.2.2 bt238.1 bt238.2.1 bt238.2.2).bind fun bt241 => ((laws_toCurve.f a0_0 a0_1 a0_2 a0_3 a0_4 a0_5).bind fun bt246 => ((laws_toPoint.f a1_0 a1_1 a1_2).bind fun bt252 => ((laws_toPoint.f a2_0 a2_1 a2_2).bind fun bt255 => ((impl_PointAdd.f k bt246.1 bt246.2.1 bt246.2.2.1 bt246.2.2.2.1 bt246.2.2.2.2.1 bt246.2.2.2.2.2 bt252.1 bt252.2.1 bt252.2.2 bt255.1 bt255.2.1 bt255.2.2).bind fun bt258 => ((laws_eqPoint.f bt258.1 bt258.2.1 bt258.2.2.1 bt241.1 bt241.2.1 bt241.2.2.1).bind fun t263 => (if t263 = true then (if (bt258.2.2.2 != bt241.2.2.2) = true then (some false) else (some true)) else (some false))))))))))
theorem laws_FnExactPointAdd.mono : ∀ a0 a1 a2 a3 a4 a5 a6 a7 a8 a9 a10 a11 k, LeO (laws_FnExactPointAdd.f k a0 a1 a2 a3 a4 a5 a6 a7 a8 a9 a10 a11) (laws_FnExactPointAdd.f (k + 1) a0 a1 a2 a3 a4 a5 a6 a7 a8 a9 a10 a11) := by
 intro a0 a1 a2 a3 a4 a5 a6 a7 a8 a9 a10 a11 k
 unfold laws_FnExactPointAdd.f
 repeat' first
   | (with_reducible exact impl_PointAdd.mono _ _ _ _ _ _ _ _ _ _ _ _ _)
   | (with_reducible exact spec_PointAdd.mono _ _ _ _ _ _ _ _ _ _ _ _ _)
   | (with_reducible exact LeO.refl _)
   | (with_reducible exact LeO.none _)
   | (with_reducible refine LeO.ite ?_ ?_)
   | (with_reducible refine LeO.bind ?_ (fun _ => ?_))
   | exact impl_PointAdd.mono _ _ _ _ _ _ _ _ _ _ _ _ _
   | exact spec_PointAdd.mono _ _ _ _ _ _ _ _ _ _ _ _ _
   | exact LeO.none _
   | refine LeO.ite ?_ ?_
   | refine LeO.bind ?_ (fun _ => ?_)
def laws_FnExactPointAdd.T1 : Bool × List (List Nat × List Nat) := (true, [([], []), ([0], [0]), ([], []), ([2, 1], [2]), ([], []), ([4, 3], [4]), ([1, 3, 5, 5], [1, 3, 5]), ([6], [6]), ([7], [7]), ([7], [7]), ([], []), ([10, 8, 6, 0, 1, 2, 3, 4, 5, 6, 7, 8, 10], [8, 10]), ([9, 11, 0, 1, 2, 3, 4, 5, 6, 7, 8, 9, 10, 11], [9])])
def laws_FnExactPointAdd.B1 : List Nat := [0, 1, 0, 7, 0, 31, 63, 127, 255, 255, 0, 1535, 4095]
theorem laws_FnExactPointAdd.tab1 : rtab .any (opsOf Try.f3 1) = laws_FnExactPointAdd.T1 := by kernel_rfl
theorem laws_FnExactPointAdd.bits1 : waitsOk laws_FnExactPointAdd.T1.2 laws_FnExactPointAdd.B1 = true := by kernel_rfl
def laws_FnExactPointAdd.T2 : Bool × List (List Nat × List Nat) := (true, [([], []), ([0], [0]), ([], []), ([2, 1], [2]), ([], []), ([4, 3], [4]), ([1, 3, 5, 5], [1, 3, 5]), ([6], [6]), ([7], [7]), ([7], [7]), ([], []), ([10, 8, 6, 0, 1, 2, 3, 4, 5, 6, 7, 8, 10], [8, 10]), ([9, 11, 0, 1, 2, 3, 4, 5, 6, 7, 8, 9, 10, 11], [9])])
def laws_FnExactPointAdd.B2 : List Nat := [0, 1, 0, 7, 0, 31, 63, 127, 255, 255, 0, 1535, 4095]
theorem laws_FnExactPointAdd.tab2 : rtab .any (opsOf Try.f3 2) = laws_FnExactPointAdd.T2 := by kernel_rfl
theorem laws_FnExactPointAdd.bits2 : waitsOk laws_FnExactPointAdd.T2.2 laws_FnExactPointAdd.B2 = true := by kernel_rfl
def laws_FnExactPointAdd.CS0 (gb226 : Nat) (gb227 : Nat) (gb228 : Nat) (a0_0 : Int) (a0_1 : Int) (a0_2 : Int) (a0_3 : Int) (a0_4 : Int) (a0_5 : Int) (a1_0 : Int) (a1_1 : Int) (a1_2 : Bool) (a2_0 : Int) (a2_1 : Int) (a2_2 : Bool) (w' : World) : Prop := w'.cell? ⟨gb226, 0, none⟩ = some (.int .i64 a0_0) ∧ w'.cell? ⟨gb226, 1, none⟩ = some (.int .i64 a0_1) ∧ w'.cell? ⟨gb226, 2, none⟩ = some (.int .i64 a0_2) ∧ w'.cell? ⟨gb226, 3, none⟩ = some (.int .i64 a0_3) ∧ w'.cell? ⟨gb226, 4, none⟩ = some (.int .i64 a0_4) ∧ w'.cell? ⟨gb226, 5, none⟩ = some (.int .i64 a0_5) ∧ w'.cell? ⟨gb227, 0, none⟩ = some (.int .i64 a1_0) ∧ w'.cell? ⟨gb227, 1, none⟩ = some (.int .i64 a1_1) ∧ w'.cell? ⟨gb227, 2, none⟩ = some (.bool a1_2) ∧ w'.cell? ⟨gb228, 0, none⟩ = some (.int .i64 a2_0) ∧ w'.cell? ⟨gb228, 1, none⟩ = some (.int .i64 a2_1) ∧ w'.cell? ⟨gb228, 2, none⟩ = some (.bool a2_2)
set_option maxHeartbeats 8000000 in
set_option maxRecDepth 100000 in
theorem laws_FnExactPointAdd.calls (k : Nat) (a0_0 : Int) (a0_1 : Int) (a0_2 : Int) (a0_3 : Int) (a0_4 : Int) (a0_5 : Int) (a1_0 : Int) (a1_1 : Int) (a1_2 : Bool) (a2_0 : Int) (a2_1 : Int) (a2_2 : Bool) (r : Bool) (w : World) (h : laws_FnExactPointAdd.f k a0_0 a0_1 a0_2 a0_3 a0_4 a0_5 a1_0 a1_1 a1_2 a2_0 a2_1 a2_2 = some r) :
  Calls Try.prog 3 #[.agg #[.int .i64 a0_0, .int .i64 a0_1, .int .i64 a0_2, .int .i64 a0_3, .int .i64 a0_4, .int .i64 a0_5], .agg #[.int .i64 a1_0, .int .i64 a1_1, .bool a1_2], .agg #[.int .i64 a2_0, .int .i64 a2_1, .bool a2_2]] w fun e w' => e = .returned (.bool r) ∧ Below w.heap.size w w' := by
 have hu23 := Try.underlying23; have hu25 := Try.underlying25; have hu26 := Try.underlying26; have HB := Aside0.mk (Below.refl w.heap.size w)
 have H : ((laws_toCurve.f a0_0 a0_1 a0_2 a0_3 a0_4 a0_5).bind fun bt229 => ((laws_toPoint.f a1_0 a1_1 a1_2).bind fun bt235 => ((laws_toPoint.f a2_0 a2_1 a2_2).bind fun bt238 => ((spec_PointAdd.f k bt229.1 bt229.2.1 bt229.2.2.1 bt229.2.2.2.1 bt229.2.2.2.2.1 bt229.2.2.2.2.2 bt235.1 bt235.2.1 bt235.2.2 bt238.1 bt238.2.1 bt238.2.2).bind fun bt241 => ((laws_toCurve.f a0_0 a0_1 a0_2 a0_3 a0_4 a0_5).bind fun bt246 => ((laws_toPoint.f a1_0 a1_1 a1_2).bind fun bt252 => ((laws_toPoint.f a2_0 a2_1 a2_2).bind fun bt255 => ((impl_PointAdd.f k bt246.1 bt246.2.1 bt246.2.2.1 bt246.2.2.2.1 bt246.2.2.2.2.1 bt246.2.2.2.2.2 bt252.1 bt252.2.1 bt252.2.2 bt255.1 bt255.2.1 bt255.2.2).bind fun bt258 => ((laws_eqPoint.f bt258.1 bt258.2.1 bt258.2.2.1 bt241.1 bt241.2.1 bt241.2.2.1).bind fun t263 => (if t263 = true then (if (bt258.2.2.2 != bt241.2.2.2) = true then (some false) else (some true)) else (some false))))))))))) = some r := h
 clear h; replace H := Option.bind_eq_some_iff.mp H; obtain ⟨⟨t229, t230, t231, t232, t233, t234⟩, A40, H⟩ := H
 replace H : ((laws_toPoint.f a1_0 a1_1 a1_2).bind fun bt235 => ((laws_toPoint.f a2_0 a2_1 a2_2).bind fun bt238 => ((spec_PointAdd.f k t229 t230 t231 t232 t233 t234 bt235.1 bt235.2.1 bt235.2.2 bt238.1 bt238.2.1 bt238.2.2).bind fun bt241 => ((laws_toCurve.f a0_0 a0_1 a0_2 a0_3 a0_4 a0_5).bind fun bt246 => ((laws_toPoint.f a1_0 a1_1 a1_2).bind fun bt252 => ((laws_toPoint.f a2_0 a2_1 a2_2).bind fun bt255 => ((impl_PointAdd.f k bt246.1 bt246.2.1 bt246.2.2.1 bt246.2.2.2.1 bt246.2.2.2.2.1 bt246.2.2.2.2.2 bt252.1 bt252.2.1 bt252.2.2 bt255.1 bt255.2.1 bt255.2.2).bind fun bt258 => ((laws_eqPoint.f bt258.1 bt258.2.1 bt258.2.2.1 bt241.1 bt241.2.1 bt241.2.2.1).bind fun t263 => (if t263 = true then (if (bt258.2.2.2 != bt241.2.2.2) = true then (some false) else (some true)) else (some false)))))))))) = some r := H
 have A4 := Aside0.mk A40; clear A40; replace H := Option.bind_eq_some_iff.mp H; obtain ⟨⟨t235, t236, t237⟩, A50, H⟩ := H
 replace H : ((laws_toPoint.f a2_0 a2_1 a2_2).bind fun bt238 => ((spec_PointAdd.f k t229 t230 t231 t232 t233 t234 t235 t236 t237 bt238.1 bt238.2.1 bt238.2.2).bind fun bt241 => ((laws_toCurve.f a0_0 a0_1 a0_2 a0_3 a0_4 a0_5).bind fun bt246 => ((laws_toPoint.f a1_0 a1_1 a1_2).bind fun bt252 => ((laws_toPoint.f a2_0 a2_1 a2_2).bind fun bt255 => ((impl_PointAdd.f k bt246.1 bt246.2.1 bt246.2.2.1 bt246.2.2.2.1 bt246.2.2.2.2.1 bt246.2.2.2.2.2 bt252.1 bt252.2.1 bt252.2.2 bt255.1 bt255.2.1 bt255.2.2).bind fun bt258 => ((laws_eqPoint.f bt258.1 bt258.2.1 bt258.2.2.1 bt241.1 bt241.2.1 bt241.2.2.1).bind fun t263 => (if t263 = true then (if (bt258.2.2.2 != bt241.2.2.2) = true then (some false) else (some true)) else (some false))))))))) = some r := H
 have A5 := Aside0.mk A50; clear A50; replace H := Option.bind_eq_some_iff.mp H; obtain ⟨⟨t238, t239, t240⟩, A60, H⟩ := H
 replace H : ((spec_PointAdd.f k t229 t230 t231 t232 t233 t234 t235 t236 t237 t238 t239 t240).bind fun bt241 => ((laws_toCurve.f a0_0 a0_1 a0_2 a0_3 a0_4 a0_5).bind fun bt246 => ((laws_toPoint.f a1_0 a1_1 a1_2).bind fun bt252 => ((laws_toPoint.f a2_0 a2_1 a2_2).bind fun bt255 => ((impl_PointAdd.f k bt246.1 bt246.2.1 bt246.2.2.1 bt246.2.2.2.1 bt246.2.2.2.2.1 bt246.2.2.2.2.2 bt252.1 bt252.2.1 bt252.2.2 bt255.1 bt255.2.1 bt255.2.2).bind fun bt258 => ((laws_eqPoint.f bt258.1 bt258.2.1 bt258.2.2.1 bt241.1 bt241.2.1 bt241.2.2.1).bind fun t263 => (if t263 = true then (if (bt258.2.2.2 != bt241.2.2.2) = true then (some false) else (some true)) else (some false)))))))) = some r := H
 have A6 := Aside0.mk A60; clear A60; replace H := Option.bind_eq_some_iff.mp H; obtain ⟨⟨t241, t242, t243, t244⟩, A70, H⟩ := H
 replace H : ((laws_toCurve.f a0_0 a0_1 a0_2 a0_3 a0_4 a0_5).bind fun bt246 => ((laws_toPoint.f a1_0 a1_1 a1_2).bind fun bt252 => ((laws_toPoint.f a2_0 a2_1 a2_2).bind fun bt255 => ((impl_PointAdd.f k bt246.1 bt246.2.1 bt246.2.2.1 bt246.2.2.2.1 bt246.2.2.2.2.1 bt246.2.2.2.2.2 bt252.1 bt252.2.1 bt252.2.2 bt255.1 bt255.2.1 bt255.2.2).bind fun bt258 => ((laws_eqPoint.f bt258.1 bt258.2.1 bt258.2.2.1 t241 t242 t243).bind fun t263 => (if t263 = true then (if (bt258.2.2.2 != t244) = true then (some false) else (some true)) else (some false))))))) = some r := H
 have A7 := Aside0.mk A70; clear A70; replace H := Option.bind_eq_some_iff.mp H; obtain ⟨⟨t246, t247, t248, t249, t250, t251⟩, A80, H⟩ := H
 replace H : ((laws_toPoint.f a1_0 a1_1 a1_2).bind fun bt252 => ((laws_toPoint.f a2_0 a2_1 a2_2).bind fun bt255 => ((impl_PointAdd.f k t246 t247 t248 t249 t250 t251 bt252.1 bt252.2.1 bt252.2.2 bt255.1 bt255.2.1 bt255.2.2).bind fun bt258 => ((laws_eqPoint.f bt258.1 bt258.2.1 bt258.2.2.1 t241 t242 t243).bind fun t263 => (if t263 = true then (if (bt258.2.2.2 != t244) = true then (some false) else (some true)) else (some false)))))) = some r := H
 have A8 := Aside0.mk A80; clear A80; replace H := Option.bind_eq_some_iff.mp H; obtain ⟨⟨t252, t253, t254⟩, A90, H⟩ := H
 replace H : ((laws_toPoint.f a2_0 a2_1 a2_2).bind fun bt255 => ((impl_PointAdd.f k t246 t247 t248 t249 t250 t251 t252 t253 t254 bt255.1 bt255.2.1 bt255.2.2).bind fun bt258 => ((laws_eqPoint.f bt258.1 bt258.2.1 bt258.2.2.1 t241 t242 t243).bind fun t263 => (if t263 = true then (if (bt258.2.2.2 != t244) = true then (some false) else (some true)) else (some false))))) = some r := H
 have A9 := Aside0.mk A90; clear A90; replace H := Option.bind_eq_some_iff.mp H; obtain ⟨⟨t255, t256, t257⟩, A100, H⟩ := H
 replace H : ((impl_PointAdd.f k t246 t247 t248 t249 t250 t251 t252 t253 t254 t255 t256 t257).bind fun bt258 => ((laws_eqPoint.f bt258.1 bt258.2.1 bt258.2.2.1 t241 t242 t243).bind fun t263 => (if t263 = true then (if (bt258.2.2.2 != t244) = true then (some false) else (some true)) else (some false)))) = some r := H
 have A10 := Aside0.mk A100; clear A100; replace H := Option.bind_eq_some_iff.mp H; obtain ⟨⟨t258, t259, t260, t261⟩, A110, H⟩ := H
 replace H : ((laws_eqPoint.f t258 t259 t260 t241 t242 t243).bind fun t263 => (if t263 = true then (if (t261 != t244) = true then (some false) else (some true)) else (some false))) = some r := H
 have A11 := Aside0.mk A110; clear A110; replace H := Option.bind_eq_some_iff.mp H; obtain ⟨t263, A120, H⟩ := H
 replace H : (if t263 = true then (if (t261 != t244) = true then (some false) else (some true)) else (some false)) = some r := H
 have A12 := Aside0.mk A120; clear A120
 by_cases c13 : t263 = true
 ·
  subst c13
  have H1 : (if (t261 != t244) = true then (some false) else (some true)) = some r := by rw [if_pos rfl] at H; exact H
  clear H; have H := H1; clear H1
  by_cases c14 : (t261 != t244) = true
  ·
   rw [if_pos c14] at H
   have c14b0 : (t261 != t244) = true := c14
   (try (have c14b1 : decide (t261 = t244) = false := by simpa using c14)); (try (have c14b2 : (t261 == t244) = false := by simpa using c14)); (try (have c14b3 : ¬ (t261 = t244) := by simpa using c14)); clear c14; obtain rfl := Option.some.inj H
   go_enter Try.func3, Try.ntmps3
   try go_wp2_with (first | ((with_reducible refine gate_dst (N := 3) rfl ?_); refine box_event ?hg (N := 3) ?hd (cs := #[.int .i64 a0_0, .int .i64 a0_1, .int .i64 a0_2, .int .i64 a0_3, .int .i64 a0_4, .int .i64 a0_5]) (t := 23) ?hr ?_; (case hd => rfl); (case hg => rfl); (case hr => first | (go_simp; done) | (go_simp; rfl)); intro gb226 hg w15 hbox hb; have BK226 := Aside0.mk hbox; have GW226 := ge_ HB hg; have GE226 := ge_ HB hg; replace HB := bs_ HB hb; clear hb hbox hg) | ((with_reducible refine gate_dst (N := 4) rfl ?_); refine box_event ?hg (N := 4) ?hd (cs := #[.int .i64 a1_0, .int .i64 a1_1, .bool a1_2]) (t := 25) ?hr ?_; (case hd => rfl); (case hg => rfl); (case hr => first | (go_simp; done) | (go_simp; rfl)); intro gb227 hg w16 hbox hb; have BK227 := Aside0.mk hbox; have GW227 := ge_ HB hg; have GE227 := ge_ HB hg; have NB226_227 := nl_ BK226 hg; have NB227_226 := nr_ BK226 hg; replace BK226 := bb_ BK226 hb; replace HB := bs_ HB hb; clear hb hbox hg) | ((with_reducible refine gate_dst (N := 5) rfl ?_); refine box_event ?hg (N := 5) ?hd (cs := #[.int .i64 a2_0, .int .i64 a2_1, .bool a2_2]) (t := 25) ?hr ?_; (case hd => rfl); (case hg => rfl); (case hr => first | (go_simp; done) | (go_simp; rfl)); intro gb228 hg w17 hbox hb; have BK228 := Aside0.mk hbox; have GW228 := ge_ HB hg; have GE228 := ge_ HB hg; have NB226_228 := nl_ BK226 hg; have NB228_226 := nr_ BK226 hg; have NB227_228 := nl_ BK227 hg; have NB228_227 := nr_ BK227 hg; replace BK226 := bb_ BK226 hb; replace BK227 := bb_ BK227 hb; replace HB := bs_ HB hb; clear hb hbox hg))
   replace BK226 := Aside0.mk (blk_drew BK226.out); replace BK227 := Aside0.mk (blk_drew BK227.out); replace BK228 := Aside0.mk (blk_drew BK228.out); replace HB := Aside0.mk (below_drew1 HB.out); refine start_ (n := 13) (S := fun w' => w'.cell? ⟨gb226, 0, none⟩ = some (.int .i64 a0_0) ∧ w'.cell? ⟨gb226, 1, none⟩ = some (.int .i64 a0_1) ∧ w'.cell? ⟨gb226, 2, none⟩ = some (.int .i64 a0_2) ∧ w'.cell? ⟨gb226, 3, none⟩ = some (.int .i64 a0_3) ∧ w'.cell? ⟨gb226, 4, none⟩ = some (.int .i64 a0_4) ∧ w'.cell? ⟨gb226, 5, none⟩ = some (.int .i64 a0_5) ∧ w'.cell? ⟨gb227, 0, none⟩ = some (.int .i64 a1_0) ∧ w'.cell? ⟨gb227, 1, none⟩ = some (.int .i64 a1_1) ∧ w'.cell? ⟨gb227, 2, none⟩ = some (.bool a1_2) ∧ w'.cell? ⟨gb228, 0, none⟩ = some (.int .i64 a2_0) ∧ w'.cell? ⟨gb228, 1, none⟩ = some (.int .i64 a2_1) ∧ w'.cell? ⟨gb228, 2, none⟩ = some (.bool a2_2)) (ds := []) #[false,false,false,false,false,false,false,false,false,false,false,false,false] (by kernel_rfl) rfl rfl ⟨bc_ BK226 0, bc_ BK226 1, bc_ BK226 2, bc_ BK226 3, bc_ BK226 4, bc_ BK226 5, bc_ BK227 0, bc_ BK227 1, bc_ BK227 2, bc_ BK228 0, bc_ BK228 1, bc_ BK228 2⟩ (fun hHeld => ?_); refine with_tabW laws_FnExactPointAdd.tab1 laws_FnExactPointAdd.bits1 (fun HT_ HW_ => ?_)
   generalize w17.drew = w18 at BK226 BK227 BK228 HB hHeld ⊢
   refine take_ (i := 0) (N := some 12) (v := ?_) (a' := ?_) #[true,false,false,false,false,false,false,false,false,false,false,false,false] rfl rfl (take_ofW HT_.out HW_.out (by kernel_rfl)) (fun _ _ _ h => h) (Or.inl ⟨by rfl, ?_⟩) hHeld ?_ ?_; rotate_left
   ·
    rintro w' ⟨s0, s1, s2, s3, s4, s5, s6, s7, s8, s9, s10, s11⟩; go_simp
    with_reducible rfl
   rotate_left
   · simp only [Act.put, sA_, sZ_, sS_, i64_w, i32_w]; rfl
   refine take_ (i := 2) (N := some 14) (v := ?_) (a' := ?_) #[true,false,true,false,false,false,false,false,false,false,false,false,false] rfl rfl (take_ofW HT_.out HW_.out (by kernel_rfl)) (fun _ _ _ h => h) (Or.inl ⟨by rfl, ?_⟩) hHeld ?_ ?_; rotate_left
   ·
    rintro w' ⟨s0, s1, s2, s3, s4, s5, s6, s7, s8, s9, s10, s11⟩; go_simp
    with_reducible rfl
   rotate_left
   · simp only [Act.put, sA_, sZ_, sS_, i64_w, i32_w]; rfl
   refine take_ (i := 4) (N := some 16) (v := ?_) (a' := ?_) #[true,false,true,false,true,false,false,false,false,false,false,false,false] rfl rfl (take_ofW HT_.out HW_.out (by kernel_rfl)) (fun _ _ _ h => h) (Or.inl ⟨by rfl, ?_⟩) hHeld ?_ ?_; rotate_left
   ·
    rintro w' ⟨s0, s1, s2, s3, s4, s5, s6, s7, s8, s9, s10, s11⟩; go_simp
    with_reducible rfl
   rotate_left
   · simp only [Act.put, sA_, sZ_, sS_, i64_w, i32_w]; rfl
   refine join_ (σ := Nat) 2 #[true,true,true,true,true,true,true,true,true,true,true,false,false] (fun s_ => [(13, .agg #[.int .i64 t229, .int .i64 t230, .int .i64 t231, .int .i64 t232, .int .i64 t233, .int .i64 t234]), (15, .agg #[.int .i64 t235, .int .i64 t236, .bool t237]), (17, .agg #[.int .i64 t238, .int .i64 t239, .bool t240]), (18, .tuple #[.agg #[.int .i64 t241, .int .i64 t242, .bool t243], .bool t244]), (7, .pointer (some ⟨s_, 0, none⟩)), (11, .tuple #[.agg #[.int .i64 t241, .int .i64 t242, .bool t243], .bool t244]), (19, .agg #[.int .i64 t241, .int .i64 t242, .bool t243]), (20, .bool t244)]) (fun s_ w' => (CS0 gb226 gb227 gb228 a0_0 a0_1 a0_2 a0_3 a0_4 a0_5 a1_0 a1_1 a1_2 a2_0 a2_1 a2_2 w') ∧ (w'.heap[gb226]? = some (.cells #[.int .i64 a0_0, .int .i64 a0_1, .int .i64 a0_2, .int .i64 a0_3, .int .i64 a0_4, .int .i64 a0_5] 23 (0, 0))) ∧ (w'.heap[gb227]? = some (.cells #[.int .i64 a1_0, .int .i64 a1_1, .bool a1_2] 25 (0, 0))) ∧ (w'.heap[gb228]? = some (.cells #[.int .i64 a2_0, .int .i64 a2_1, .bool a2_2] 25 (0, 0))) ∧ (w'.heap[s_]? = some (.cells #[.int .i64 0, .int .i64 0, .bool false] 26 (0, 0))) ∧ (w.heap.size ≤ s_) ∧ (w.heap.size ≤ s_) ∧ (gb226 ≠ s_) ∧ (s_ ≠ gb226) ∧ (gb227 ≠ s_) ∧ (s_ ≠ gb227) ∧ (gb228 ≠ s_) ∧ (s_ ≠ gb228) ∧ (Below w.heap.size w w')) ?_ ?_; rotate_left
   ·
    intro hJ1_3_5_6_10; refine join_ (σ := Unit) 3 #[true,true,true,true,true,true,true,true,true,true,false,false,false] (fun s_ => [(13, .agg #[.int .i64 t229, .int .i64 t230, .int .i64 t231, .int .i64 t232, .int .i64 t233, .int .i64 t234]), (15, .agg #[.int .i64 t235, .int .i64 t236, .bool t237]), (17, .agg #[.int .i64 t238, .int .i64 t239, .bool t240]), (18, .tuple #[.agg #[.int .i64 t241, .int .i64 t242, .bool t243], .bool t244]), (11, .tuple #[.agg #[.int .i64 t241, .int .i64 t242, .bool t243], .bool t244]), (19, .agg #[.int .i64 t241, .int .i64 t242, .bool t243]), (20, .bool t244)]) (fun s_ w' => (CS0 gb226 gb227 gb228 a0_0 a0_1 a0_2 a0_3 a0_4 a0_5 a1_0 a1_1 a1_2 a2_0 a2_1 a2_2 w') ∧ (w'.heap[gb226]? = some (.cells #[.int .i64 a0_0, .int .i64 a0_1, .int .i64 a0_2, .int .i64 a0_3, .int .i64 a0_4, .int .i64 a0_5] 23 (0, 0))) ∧ (w'.heap[gb227]? = some (.cells #[.int .i64 a1_0, .int .i64 a1_1, .bool a1_2] 25 (0, 0))) ∧ (w'.heap[gb228]? = some (.cells #[.int .i64 a2_0, .int .i64 a2_1, .bool a2_2] 25 (0, 0))) ∧ (Below w.heap.size w w')) ?_ ?_; rotate_left
    ·
     intro hJ1_3_5_6; refine join_ (σ := Nat) 6 #[true,true,true,true,true,true,false,false,false,false,true,false,false] (fun s_ => [(13, .agg #[.int .i64 t229, .int .i64 t230, .int .i64 t231, .int .i64 t232, .int .i64 t233, .int .i64 t234]), (15, .agg #[.int .i64 t235, .int .i64 t236, .bool t237]), (17, .agg #[.int .i64 t238, .int .i64 t239, .bool t240]), (7, .pointer (some ⟨s_, 0, none⟩))]) (fun s_ w' => (CS0 gb226 gb227 gb228 a0_0 a0_1 a0_2 a0_3 a0_4 a0_5 a1_0 a1_1 a1_2 a2_0 a2_1 a2_2 w') ∧ (w'.heap[gb226]? = some (.cells #[.int .i64 a0_0, .int .i64 a0_1, .int .i64 a0_2, .int .i64 a0_3, .int .i64 a0_4, .int .i64 a0_5] 23 (0, 0))) ∧ (w'.heap[gb227]? = some (.cells #[.int .i64 a1_0, .int .i64 a1_1, .bool a1_2] 25 (0, 0))) ∧ (w'.heap[gb228]? = some (.cells #[.int .i64 a2_0, .int .i64 a2_1, .bool a2_2] 25 (0, 0))) ∧ (w'.heap[s_]? = some (.cells #[.int .i64 0, .int .i64 0, .bool false] 26 (0, 0))) ∧ (w.heap.size ≤ s_) ∧ (w.heap.size ≤ s_) ∧ (gb226 ≠ s_) ∧ (s_ ≠ gb226) ∧ (gb227 ≠ s_) ∧ (s_ ≠ gb227) ∧ (gb228 ≠ s_) ∧ (s_ ≠ gb228) ∧ (Below w.heap.size w w')) ?_ ?_; rotate_left
     ·
      intro hJ1_3_5_10; refine join_ (σ := Unit) 7 #[true,true,true,true,true,true,false,false,false,false,false,false,false] (fun s_ => [(13, .agg #[.int .i64 t229, .int .i64 t230, .int .i64 t231, .int .i64 t232, .int .i64 t233, .int .i64 t234]), (15, .agg #[.int .i64 t235, .int .i64 t236, .bool t237]), (17, .agg #[.int .i64 t238, .int .i64 t239, .bool t240])]) (fun s_ w' => (CS0 gb226 gb227 gb228 a0_0 a0_1 a0_2 a0_3 a0_4 a0_5 a1_0 a1_1 a1_2 a2_0 a2_1 a2_2 w') ∧ (w'.heap[gb226]? = some (.cells #[.int .i64 a0_0, .int .i64 a0_1, .int .i64 a0_2, .int .i64 a0_3, .int .i64 a0_4, .int .i64 a0_5] 23 (0, 0))) ∧ (w'.heap[gb227]? = some (.cells #[.int .i64 a1_0, .int .i64 a1_1, .bool a1_2] 25 (0, 0))) ∧ (w'.heap[gb228]? = some (.cells #[.int .i64 a2_0, .int .i64 a2_1, .bool a2_2] 25 (0, 0))) ∧ (Below w.heap.size w w')) ?_ ?_; rotate_left
      ·
       intro hJ1_3_5; refine join_ (σ := Nat) 7 #[true,true,true,true,true,false,false,false,false,false,true,false,false] (fun s_ => [(13, .agg #[.int .i64 t229, .int .i64 t230, .int .i64 t231, .int .i64 t232, .int .i64 t233, .int .i64 t234]), (15, .agg #[.int .i64 t235, .int .i64 t236, .bool t237]), (7, .pointer (some ⟨s_, 0, none⟩))]) (fun s_ w' => (CS0 gb226 gb227 gb228 a0_0 a0_1 a0_2 a0_3 a0_4 a0_5 a1_0 a1_1 a1_2 a2_0 a2_1 a2_2 w') ∧ (w'.heap[gb226]? = some (.cells #[.int .i64 a0_0, .int .i64 a0_1, .int .i64 a0_2, .int .i64 a0_3, .int .i64 a0_4, .int .i64 a0_5] 23 (0, 0))) ∧ (w'.heap[gb227]? = some (.cells #[.int .i64 a1_0, .int .i64 a1_1, .bool a1_2] 25 (0, 0))) ∧ (w'.heap[gb228]? = some (.cells #[.int .i64 a2_0, .int .i64 a2_1, .bool a2_2] 25 (0, 0))) ∧ (w'.heap[s_]? = some (.cells #[.int .i64 0, .int .i64 0, .bool false] 26 (0, 0))) ∧ (w.heap.size ≤ s_) ∧ (w.heap.size ≤ s_) ∧ (gb226 ≠ s_) ∧ (s_ ≠ gb226) ∧ (gb227 ≠ s_) ∧ (s_ ≠ gb227) ∧ (gb228 ≠ s_) ∧ (s_ ≠ gb228) ∧ (Below w.heap.size w w')) ?_ ?_; rotate_left
       ·
        intro hJ1_3_10; refine join_ (σ := Unit) 8 #[true,true,true,true,true,false,false,false,false,false,false,false,false] (fun s_ => [(13, .agg #[.int .i64 t229, .int .i64 t230, .int .i64 t231, .int .i64 t232, .int .i64 t233, .int .i64 t234]), (15, .agg #[.int .i64 t235, .int .i64 t236, .bool t237])]) (fun s_ w' => (CS0 gb226 gb227 gb228 a0_0 a0_1 a0_2 a0_3 a0_4 a0_5 a1_0 a1_1 a1_2 a2_0 a2_1 a2_2 w') ∧ (w'.heap[gb226]? = some (.cells #[.int .i64 a0_0, .int .i64 a0_1, .int .i64 a0_2, .int .i64 a0_3, .int .i64 a0_4, .int .i64 a0_5] 23 (0, 0))) ∧ (w'.heap[gb227]? = some (.cells #[.int .i64 a1_0, .int .i64 a1_1, .bool a1_2] 25 (0, 0))) ∧ (w'.heap[gb228]? = some (.cells #[.int .i64 a2_0, .int .i64 a2_1, .bool a2_2] 25 (0, 0))) ∧ (Below w.heap.size w w')) ?_ ?_; rotate_left
        ·
         intro hJ1_3; refine join_ (σ := Nat) 8 #[true,true,true,false,true,false,false,false,false,false,true,false,false] (fun s_ => [(13, .agg #[.int .i64 t229, .int .i64 t230, .int .i64 t231, .int .i64 t232, .int .i64 t233, .int .i64 t234]), (7, .pointer (some ⟨s_, 0, none⟩))]) (fun s_ w' => (CS0 gb226 gb227 gb228 a0_0 a0_1 a0_2 a0_3 a0_4 a0_5 a1_0 a1_1 a1_2 a2_0 a2_1 a2_2 w') ∧ (w'.heap[gb226]? = some (.cells #[.int .i64 a0_0, .int .i64 a0_1, .int .i64 a0_2, .int .i64 a0_3, .int .i64 a0_4, .int .i64 a0_5] 23 (0, 0))) ∧ (w'.heap[gb227]? = some (.cells #[.int .i64 a1_0, .int .i64 a1_1, .bool a1_2] 25 (0, 0))) ∧ (w'.heap[gb228]? = some (.cells #[.int .i64 a2_0, .int .i64 a2_1, .bool a2_2] 25 (0, 0))) ∧ (w'.heap[s_]? = some (.cells #[.int .i64 0, .int .i64 0, .bool false] 26 (0, 0))) ∧ (w.heap.size ≤ s_) ∧ (w.heap.size ≤ s_) ∧ (gb226 ≠ s_) ∧ (s_ ≠ gb226) ∧ (gb227 ≠ s_) ∧ (s_ ≠ gb227) ∧ (gb228 ≠ s_) ∧ (s_ ≠ gb228) ∧ (Below w.heap.size w w')) ?_ ?_; rotate_left
         ·
          intro hJ1_10; refine join_ (σ := Unit) 9 #[true,true,true,false,true,false,false,false,false,false,false,false,false] (fun s_ => [(13, .agg #[.int .i64 t229, .int .i64 t230, .int .i64 t231, .int .i64 t232, .int .i64 t233, .int .i64 t234])]) (fun s_ w' => (CS0 gb226 gb227 gb228 a0_0 a0_1 a0_2 a0_3 a0_4 a0_5 a1_0 a1_1 a1_2 a2_0 a2_1 a2_2 w') ∧ (w'.heap[gb226]? = some (.cells #[.int .i64 a0_0, .int .i64 a0_1, .int .i64 a0_2, .int .i64 a0_3, .int .i64 a0_4, .int .i64 a0_5] 23 (0, 0))) ∧ (w'.heap[gb227]? = some (.cells #[.int .i64 a1_0, .int .i64 a1_1, .bool a1_2] 25 (0, 0))) ∧ (w'.heap[gb228]? = some (.cells #[.int .i64 a2_0, .int .i64 a2_1, .bool a2_2] 25 (0, 0))) ∧ (Below w.heap.size w w')) ?_ ?_; rotate_left
          ·
           intro hJ1; refine join_ (σ := Nat) 9 #[true,false,true,false,true,false,false,false,false,false,true,false,false] (fun s_ => [(7, .pointer (some ⟨s_, 0, none⟩))]) (fun s_ w' => (CS0 gb226 gb227 gb228 a0_0 a0_1 a0_2 a0_3 a0_4 a0_5 a1_0 a1_1 a1_2 a2_0 a2_1 a2_2 w') ∧ (w'.heap[gb226]? = some (.cells #[.int .i64 a0_0, .int .i64 a0_1, .int .i64 a0_2, .int .i64 a0_3, .int .i64 a0_4, .int .i64 a0_5] 23 (0, 0))) ∧ (w'.heap[gb227]? = some (.cells #[.int .i64 a1_0, .int .i64 a1_1, .bool a1_2] 25 (0, 0))) ∧ (w'.heap[gb228]? = some (.cells #[.int .i64 a2_0, .int .i64 a2_1, .bool a2_2] 25 (0, 0))) ∧ (w'.heap[s_]? = some (.cells #[.int .i64 0, .int .i64 0, .bool false] 26 (0, 0))) ∧ (w.heap.size ≤ s_) ∧ (w.heap.size ≤ s_) ∧ (gb226 ≠ s_) ∧ (s_ ≠ gb226) ∧ (gb227 ≠ s_) ∧ (s_ ≠ gb227) ∧ (gb228 ≠ s_) ∧ (s_ ≠ gb228) ∧ (Below w.heap.size w w')) ?_ ?_; rotate_left
           ·
            intro hJ10; refine two_ (i := 1) (j := 10) (Ni := some 13) (Nj := some 7) #[true,true,true,false,true,false,false,false,false,false,false,false,false] #[true,false,true,false,true,false,false,false,false,false,true,false,false] rfl rfl rfl rfl (two_of HT_.out (by kernel_rfl)) (by decide) (by decide) (fun K hK => ?_) (fun K hK => ?_)
            ·
             refine gs_ Try.func9 #[.agg #[.int .i64 a0_0, .int .i64 a0_1, .int .i64 a0_2, .int .i64 a0_3, .int .i64 a0_4, .int .i64 a0_5]] ?_
             with_reducible refine (laws_toCurve.calls a0_0 a0_1 a0_2 a0_3 a0_4 a0_5 t229 t230 t231 t232 t233 t234 _ A4.out).mono ?_
             rintro e w19 ⟨rfl, hb⟩; refine ⟨_, rfl, ?_⟩; replace BK226 := bb_ BK226 hb; replace BK227 := bb_ BK227 hb; replace BK228 := bb_ BK228 hb; replace HB := bs_ HB hb; (try clear hb); refine hK.out _ _ ⟨bc_ BK226 0, bc_ BK226 1, bc_ BK226 2, bc_ BK226 3, bc_ BK226 4, bc_ BK226 5, bc_ BK227 0, bc_ BK227 1, bc_ BK227 2, bc_ BK228 0, bc_ BK228 1, bc_ BK228 2⟩ (fun hHeld => ?_); clear hK K
             apply norm_
             · show Act.put _ (some 13) _ = _; simp only [Act.put, sA_, sZ_, sS_, i64_w, i32_w]; rfl
             exact nm_ (hJ1 () _ ⟨hHeld, (bk_ BK226), (bk_ BK227), (bk_ BK228), (bw_ HB)⟩)
            ·
             refine box_step ?hg (N := 7) ?hd (cs := #[.int .i64 0, .int .i64 0, .bool false]) (t := 26) ?hr ?_; (case hd => rfl); (case hg => rfl); (case hr => first | (go_simp; done) | (go_simp; rfl))
             intro gb245 hg w19 hbox hb; have BK245 := Aside0.mk hbox; have GW245 := ge_ HB hg; have GE245 := ge_ HB hg; have NB226_245 := nl_ BK226 hg; have NB245_226 := nr_ BK226 hg; have NB227_245 := nl_ BK227 hg; have NB245_227 := nr_ BK227 hg; have NB228_245 := nl_ BK228 hg; have NB245_228 := nr_ BK228 hg; replace BK226 := bb_ BK226 hb; replace BK227 := bb_ BK227 hb; replace BK228 := bb_ BK228 hb; replace HB := bs_ HB hb; clear hb hbox hg; refine hK.out _ _ ⟨bc_ BK226 0, bc_ BK226 1, bc_ BK226 2, bc_ BK226 3, bc_ BK226 4, bc_ BK226 5, bc_ BK227 0, bc_ BK227 1, bc_ BK227 2, bc_ BK228 0, bc_ BK228 1, bc_ BK228 2⟩ (fun hHeld => ?_); clear hK K
             apply norm_
             · show Act.put _ (some 7) _ = _; simp only [Act.put, sA_, sZ_, sS_, i64_w, i32_w]; rfl
             exact nm_ (hJ10 (gb245) _ ⟨hHeld, (bk_ BK226), (bk_ BK227), (bk_ BK228), (bk_ BK245), GW245.out, GE245.out, NB226_245.out, NB245_226.out, NB227_245.out, NB245_227.out, NB228_245.out, NB245_228.out, (bw_ HB)⟩)
           ·
            rintro gb245 w20 ⟨hS_, h0_, h1_, h2_, h3_, h4_, h5_, h6_, h7_, h8_, h9_, h10_, h11_, h12_⟩; replace BK226 := Aside0.mk h0_; replace BK227 := Aside0.mk h1_; replace BK228 := Aside0.mk h2_; have BK245 := Aside0.mk h3_; have GW245 := Aside0.mk h4_; have GE245 := Aside0.mk h5_; have NB226_245 := Aside0.mk h6_; have NB245_226 := Aside0.mk h7_; have NB227_245 := Aside0.mk h8_; have NB245_227 := Aside0.mk h9_; have NB228_245 := Aside0.mk h10_; have NB245_228 := Aside0.mk h11_; replace HB := Aside0.mk h12_; clear h0_ h1_ h2_ h3_ h4_ h5_ h6_ h7_ h8_ h9_ h10_ h11_ h12_; have hHeld := hS_
            apply norm_
            · simp only [putAll, Act.put, sA_, sZ_, sS_]; rfl
            refine one_ (i := 1) (N := some 13) #[true,true,true,false,true,false,false,false,false,false,true,false,false] rfl rfl (one_of HT_.out (by kernel_rfl)) (by decide) (fun K hK => ?_); refine gs_ Try.func9 #[.agg #[.int .i64 a0_0, .int .i64 a0_1, .int .i64 a0_2, .int .i64 a0_3, .int .i64 a0_4, .int .i64 a0_5]] ?_
            with_reducible refine (laws_toCurve.calls a0_0 a0_1 a0_2 a0_3 a0_4 a0_5 t229 t230 t231 t232 t233 t234 _ A4.out).mono ?_
            rintro e w21 ⟨rfl, hb⟩; refine ⟨_, rfl, ?_⟩; replace BK226 := bb_ BK226 hb; replace BK227 := bb_ BK227 hb; replace BK228 := bb_ BK228 hb; replace BK245 := bb_ BK245 hb; replace HB := bs_ HB hb; (try clear hb); refine hK.out _ _ ⟨bc_ BK226 0, bc_ BK226 1, bc_ BK226 2, bc_ BK226 3, bc_ BK226 4, bc_ BK226 5, bc_ BK227 0, bc_ BK227 1, bc_ BK227 2, bc_ BK228 0, bc_ BK228 1, bc_ BK228 2⟩ (fun hHeld => ?_); clear hK K
            apply norm_
            · show Act.put _ (some 13) _ = _; simp only [Act.put, sA_, sZ_, sS_, i64_w, i32_w]; rfl
            exact nm_ (hJ1_10 (gb245) _ ⟨hHeld, (bk_ BK226), (bk_ BK227), (bk_ BK228), (bk_ BK245), GW245.out, GE245.out, NB226_245.out, NB245_226.out, NB227_245.out, NB245_227.out, NB228_245.out, NB245_228.out, (bw_ HB)⟩)
          ·
           rintro _ w20 ⟨hS_, h0_, h1_, h2_, h3_⟩; replace BK226 := Aside0.mk h0_; replace BK227 := Aside0.mk h1_; replace BK228 := Aside0.mk h2_; replace HB := Aside0.mk h3_; clear h0_ h1_ h2_ h3_; have hHeld := hS_
           apply norm_
           · simp only [putAll, Act.put, sA_, sZ_, sS_]; rfl
           refine two_ (i := 3) (j := 10) (Ni := some 15) (Nj := some 7) #[true,true,true,true,true,false,false,false,false,false,false,false,false] #[true,true,true,false,true,false,false,false,false,false,true,false,false] rfl rfl rfl rfl (two_of HT_.out (by kernel_rfl)) (by decide) (by decide) (fun K hK => ?_) (fun K hK => ?_)
           ·
            refine gs_ Try.func10 #[.agg #[.int .i64 a1_0, .int .i64 a1_1, .bool a1_2]] ?_
            with_reducible refine (laws_toPoint.calls a1_0 a1_1 a1_2 t235 t236 t237 _ A5.out).mono ?_
            rintro e w21 ⟨rfl, hb⟩; refine ⟨_, rfl, ?_⟩; replace BK226 := bb_ BK226 hb; replace BK227 := bb_ BK227 hb; replace BK228 := bb_ BK228 hb; replace HB := bs_ HB hb; (try clear hb); refine hK.out _ _ ⟨bc_ BK226 0, bc_ BK226 1, bc_ BK226 2, bc_ BK226 3, bc_ BK226 4, bc_ BK226 5, bc_ BK227 0, bc_ BK227 1, bc_ BK227 2, bc_ BK228 0, bc_ BK228 1, bc_ BK228 2⟩ (fun hHeld => ?_); clear hK K
            apply norm_
            · show Act.put _ (some 15) _ = _; simp only [Act.put, sA_, sZ_, sS_, i64_w, i32_w]; rfl
            exact nm_ (hJ1_3 () _ ⟨hHeld, (bk_ BK226), (bk_ BK227), (bk_ BK228), (bw_ HB)⟩)
           ·
            refine box_step ?hg (N := 7) ?hd (cs := #[.int .i64 0, .int .i64 0, .bool false]) (t := 26) ?hr ?_; (case hd => rfl); (case hg => rfl); (case hr => first | (go_simp; done) | (go_simp; rfl))
            intro gb245 hg w21 hbox hb; have BK245 := Aside0.mk hbox; have GW245 := ge_ HB hg; have GE245 := ge_ HB hg; have NB226_245 := nl_ BK226 hg; have NB245_226 := nr_ BK226 hg; have NB227_245 := nl_ BK227 hg; have NB245_227 := nr_ BK227 hg; have NB228_245 := nl_ BK228 hg; have NB245_228 := nr_ BK228 hg; replace BK226 := bb_ BK226 hb; replace BK227 := bb_ BK227 hb; replace BK228 := bb_ BK228 hb; replace HB := bs_ HB hb; clear hb hbox hg; refine hK.out _ _ ⟨bc_ BK226 0, bc_ BK226 1, bc_ BK226 2, bc_ BK226 3, bc_ BK226 4, bc_ BK226 5, bc_ BK227 0, bc_ BK227 1, bc_ BK227 2, bc_ BK228 0, bc_ BK228 1, bc_ BK228 2⟩ (fun hHeld => ?_); clear hK K
            apply norm_
            · show Act.put _ (some 7) _ = _; simp only [Act.put, sA_, sZ_, sS_, i64_w, i32_w]; rfl
            exact nm_ (hJ1_10 (gb245) _ ⟨hHeld, (bk_ BK226), (bk_ BK227), (bk_ BK228), (bk_ BK245), GW245.out, GE245.out, NB226_245.out, NB245_226.out, NB227_245.out, NB245_227.out, NB228_245.out, NB245_228.out, (bw_ HB)⟩)
         ·
          rintro gb245 w21 ⟨hS_, h0_, h1_, h2_, h3_, h4_, h5_, h6_, h7_, h8_, h9_, h10_, h11_, h12_⟩; replace BK226 := Aside0.mk h0_; replace BK227 := Aside0.mk h1_; replace BK228 := Aside0.mk h2_; have BK245 := Aside0.mk h3_; have GW245 := Aside0.mk h4_; have GE245 := Aside0.mk h5_; have NB226_245 := Aside0.mk h6_; have NB245_226 := Aside0.mk h7_; have NB227_245 := Aside0.mk h8_; have NB245_227 := Aside0.mk h9_; have NB228_245 := Aside0.mk h10_; have NB245_228 := Aside0.mk h11_; replace HB := Aside0.mk h12_; clear h0_ h1_ h2_ h3_ h4_ h5_ h6_ h7_ h8_ h9_ h10_ h11_ h12_; have hHeld := hS_
          apply norm_
          · simp only [putAll, Act.put, sA_, sZ_, sS_]; rfl
          refine one_ (i := 3) (N := some 15) #[true,true,true,true,true,false,false,false,false,false,true,false,false] rfl rfl (one_of HT_.out (by kernel_rfl)) (by decide) (fun K hK => ?_); refine gs_ Try.func10 #[.agg #[.int .i64 a1_0, .int .i64 a1_1, .bool a1_2]] ?_
          with_reducible refine (laws_toPoint.calls a1_0 a1_1 a1_2 t235 t236 t237 _ A5.out).mono ?_
          rintro e w22 ⟨rfl, hb⟩; refine ⟨_, rfl, ?_⟩; replace BK226 := bb_ BK226 hb; replace BK227 := bb_ BK227 hb; replace BK228 := bb_ BK228 hb; replace BK245 := bb_ BK245 hb; replace HB := bs_ HB hb; (try clear hb); refine hK.out _ _ ⟨bc_ BK226 0, bc_ BK226 1, bc_ BK226 2, bc_ BK226 3, bc_ BK226 4, bc_ BK226 5, bc_ BK227 0, bc_ BK227 1, bc_ BK227 2, bc_ BK228 0, bc_ BK228 1, bc_ BK228 2⟩ (fun hHeld => ?_); clear hK K
          apply norm_
          · show Act.put _ (some 15) _ = _; simp only [Act.put, sA_, sZ_, sS_, i64_w, i32_w]; rfl
          exact nm_ (hJ1_3_10 (gb245) _ ⟨hHeld, (bk_ BK226), (bk_ BK227), (bk_ BK228), (bk_ BK245), GW245.out, GE245.out, NB226_245.out, NB245_226.out, NB227_245.out, NB245_227.out, NB228_245.out, NB245_228.out, (bw_ HB)⟩)
        ·
         rintro _ w21 ⟨hS_, h0_, h1_, h2_, h3_⟩; replace BK226 := Aside0.mk h0_; replace BK227 := Aside0.mk h1_; replace BK228 := Aside0.mk h2_; replace HB := Aside0.mk h3_; clear h0_ h1_ h2_ h3_; have hHeld := hS_
         apply norm_
         · simp only [putAll, Act.put, sA_, sZ_, sS_]; rfl
         refine two_ (i := 5) (j := 10) (Ni := some 17) (Nj := some 7) #[true,true,true,true,true,true,false,false,false,false,false,false,false] #[true,true,true,true,true,false,false,false,false,false,true,false,false] rfl rfl rfl rfl (two_of HT_.out (by kernel_rfl)) (by decide) (by decide) (fun K hK => ?_) (fun K hK => ?_)
         ·
          refine gs_ Try.func10 #[.agg #[.int .i64 a2_0, .int .i64 a2_1, .bool a2_2]] ?_
          with_reducible refine (laws_toPoint.calls a2_0 a2_1 a2_2 t238 t239 t240 _ A6.out).mono ?_
          rintro e w22 ⟨rfl, hb⟩; refine ⟨_, rfl, ?_⟩; replace BK226 := bb_ BK226 hb; replace BK227 := bb_ BK227 hb; replace BK228 := bb_ BK228 hb; replace HB := bs_ HB hb; (try clear hb); refine hK.out _ _ ⟨bc_ BK226 0, bc_ BK226 1, bc_ BK226 2, bc_ BK226 3, bc_ BK226 4, bc_ BK226 5, bc_ BK227 0, bc_ BK227 1, bc_ BK227 2, bc_ BK228 0, bc_ BK228 1, bc_ BK228 2⟩ (fun hHeld => ?_); clear hK K
          apply norm_
          · show Act.put _ (some 17) _ = _; simp only [Act.put, sA_, sZ_, sS_, i64_w, i32_w]; rfl
          exact nm_ (hJ1_3_5 () _ ⟨hHeld, (bk_ BK226), (bk_ BK227), (bk_ BK228), (bw_ HB)⟩)
         ·
          refine box_step ?hg (N := 7) ?hd (cs := #[.int .i64 0, .int .i64 0, .bool false]) (t := 26) ?hr ?_; (case hd => rfl); (case hg => rfl); (case hr => first | (go_simp; done) | (go_simp; rfl))
          intro gb245 hg w22 hbox hb; have BK245 := Aside0.mk hbox; have GW245 := ge_ HB hg; have GE245 := ge_ HB hg; have NB226_245 := nl_ BK226 hg; have NB245_226 := nr_ BK226 hg; have NB227_245 := nl_ BK227 hg; have NB245_227 := nr_ BK227 hg; have NB228_245 := nl_ BK228 hg; have NB245_228 := nr_ BK228 hg; replace BK226 := bb_ BK226 hb; replace BK227 := bb_ BK227 hb; replace BK228 := bb_ BK228 hb; replace HB := bs_ HB hb; clear hb hbox hg; refine hK.out _ _ ⟨bc_ BK226 0, bc_ BK226 1, bc_ BK226 2, bc_ BK226 3, bc_ BK226 4, bc_ BK226 5, bc_ BK227 0, bc_ BK227 1, bc_ BK227 2, bc_ BK228 0, bc_ BK228 1, bc_ BK228 2⟩ (fun hHeld => ?_); clear hK K
          apply norm_
          · show Act.put _ (some 7) _ = _; simp only [Act.put, sA_, sZ_, sS_, i64_w, i32_w]; rfl
          exact nm_ (hJ1_3_10 (gb245) _ ⟨hHeld, (bk_ BK226), (bk_ BK227), (bk_ BK228), (bk_ BK245), GW245.out, GE245.out, NB226_245.out, NB245_226.out, NB227_245.out, NB245_227.out, NB228_245.out, NB245_228.out, (bw_ HB)⟩)
       ·
        rintro gb245 w22 ⟨hS_, h0_, h1_, h2_, h3_, h4_, h5_, h6_, h7_, h8_, h9_, h10_, h11_, h12_⟩; replace BK226 := Aside0.mk h0_; replace BK227 := Aside0.mk h1_; replace BK228 := Aside0.mk h2_; have BK245 := Aside0.mk h3_; have GW245 := Aside0.mk h4_; have GE245 := Aside0.mk h5_; have NB226_245 := Aside0.mk h6_; have NB245_226 := Aside0.mk h7_; have NB227_245 := Aside0.mk h8_; have NB245_227 := Aside0.mk h9_; have NB228_245 := Aside0.mk h10_; have NB245_228 := Aside0.mk h11_; replace HB := Aside0.mk h12_; clear h0_ h1_ h2_ h3_ h4_ h5_ h6_ h7_ h8_ h9_ h10_ h11_ h12_; have hHeld := hS_
        apply norm_
        · simp only [putAll, Act.put, sA_, sZ_, sS_]; rfl
        refine one_ (i := 5) (N := some 17) #[true,true,true,true,true,true,false,false,false,false,true,false,false] rfl rfl (one_of HT_.out (by kernel_rfl)) (by decide) (fun K hK => ?_); refine gs_ Try.func10 #[.agg #[.int .i64 a2_0, .int .i64 a2_1, .bool a2_2]] ?_
        with_reducible refine (laws_toPoint.calls a2_0 a2_1 a2_2 t238 t239 t240 _ A6.out).mono ?_
        rintro e w23 ⟨rfl, hb⟩; refine ⟨_, rfl, ?_⟩; replace BK226 := bb_ BK226 hb; replace BK227 := bb_ BK227 hb; replace BK228 := bb_ BK228 hb; replace BK245 := bb_ BK245 hb; replace HB := bs_ HB hb; (try clear hb); refine hK.out _ _ ⟨bc_ BK226 0, bc_ BK226 1, bc_ BK226 2, bc_ BK226 3, bc_ BK226 4, bc_ BK226 5, bc_ BK227 0, bc_ BK227 1, bc_ BK227 2, bc_ BK228 0, bc_ BK228 1, bc_ BK228 2⟩ (fun hHeld => ?_); clear hK K
        apply norm_
        · show Act.put _ (some 17) _ = _; simp only [Act.put, sA_, sZ_, sS_, i64_w, i32_w]; rfl
        exact nm_ (hJ1_3_5_10 (gb245) _ ⟨hHeld, (bk_ BK226), (bk_ BK227), (bk_ BK228), (bk_ BK245), GW245.out, GE245.out, NB226_245.out, NB245_226.out, NB227_245.out, NB245_227.out, NB228_245.out, NB245_228.out, (bw_ HB)⟩)
      ·
       rintro _ w22 ⟨hS_, h0_, h1_, h2_, h3_⟩; replace BK226 := Aside0.mk h0_; replace BK227 := Aside0.mk h1_; replace BK228 := Aside0.mk h2_; replace HB := Aside0.mk h3_; clear h0_ h1_ h2_ h3_; have hHeld := hS_
       apply norm_
       · simp only [putAll, Act.put, sA_, sZ_, sS_]; rfl
       refine two_ (i := 6) (j := 10) (Ni := some 18) (Nj := some 7) #[true,true,true,true,true,true,true,false,false,false,false,false,false] #[true,true,true,true,true,true,false,false,false,false,true,false,false] rfl rfl rfl rfl (two_of HT_.out (by kernel_rfl)) (by decide) (by decide) (fun K hK => ?_) (fun K hK => ?_)
       ·
        refine gs_ Try.func8 #[.agg #[.int .i64 t229, .int .i64 t230, .int .i64 t231, .int .i64 t232, .int .i64 t233, .int .i64 t234], .agg #[.int .i64 t235, .int .i64 t236, .bool t237], .agg #[.int .i64 t238, .int .i64 t239, .bool t240]] ?_
        with_reducible refine (spec_PointAdd.calls k t229 t230 t231 t232 t233 t234 t235 t236 t237 t238 t239 t240 t241 t242 t243 t244 _ A7.out).mono ?_
        rintro e w23 ⟨rfl, hb⟩; refine ⟨_, rfl, ?_⟩; replace BK226 := bb_ BK226 hb; replace BK227 := bb_ BK227 hb; replace BK228 := bb_ BK228 hb; replace HB := bs_ HB hb; (try clear hb); refine hK.out _ _ ⟨bc_ BK226 0, bc_ BK226 1, bc_ BK226 2, bc_ BK226 3, bc_ BK226 4, bc_ BK226 5, bc_ BK227 0, bc_ BK227 1, bc_ BK227 2, bc_ BK228 0, bc_ BK228 1, bc_ BK228 2⟩ (fun hHeld => ?_); clear hK K
        apply norm_
        · show Act.put _ (some 18) _ = _; simp only [Act.put, sA_, sZ_, sS_, i64_w, i32_w]; rfl
        refine pure_ (i := 7) (N := some 11) (v := ?_) (a' := ?_) #[true,true,true,true,true,true,true,true,false,false,false,false,false] rfl rfl (any_of HT_.out (by kernel_rfl)) (fun _ _ _ h => h) (Or.inl ⟨by rfl, ?_⟩) ?_ ?_; rotate_left
        ·
         intro w'; go_simp
         with_reducible rfl
        rotate_left
        · simp only [Act.put, sA_, sZ_, sS_, i64_w, i32_w]; rfl
        refine pure_ (i := 8) (N := some 19) (v := ?_) (a' := ?_) #[true,true,true,true,true,true,true,true,true,false,false,false,false] rfl rfl (any_of HT_.out (by kernel_rfl)) (fun _ _ _ h => h) (Or.inl ⟨by rfl, ?_⟩) ?_ ?_; rotate_left
        ·
         intro w'; go_simp
         with_reducible rfl
        rotate_left
        · simp only [Act.put, sA_, sZ_, sS_, i64_w, i32_w]; rfl
        refine pure_ (i := 9) (N := some 20) (v := ?_) (a' := ?_) #[true,true,true,true,true,true,true,true,true,true,false,false,false] rfl rfl (any_of HT_.out (by kernel_rfl)) (fun _ _ _ h => h) (Or.inl ⟨by rfl, ?_⟩) ?_ ?_; rotate_left
        ·
         intro w'; go_simp
         with_reducible rfl
        rotate_left
        · simp only [Act.put, sA_, sZ_, sS_, i64_w, i32_w]; rfl
        exact nm_ (hJ1_3_5_6 () _ ⟨hHeld, (bk_ BK226), (bk_ BK227), (bk_ BK228), (bw_ HB)⟩)
       ·
        refine box_step ?hg (N := 7) ?hd (cs := #[.int .i64 0, .int .i64 0, .bool false]) (t := 26) ?hr ?_; (case hd => rfl); (case hg => rfl); (case hr => first | (go_simp; done) | (go_simp; rfl))
        intro gb245 hg w23 hbox hb; have BK245 := Aside0.mk hbox; have GW245 := ge_ HB hg; have GE245 := ge_ HB hg; have NB226_245 := nl_ BK226 hg; have NB245_226 := nr_ BK226 hg; have NB227_245 := nl_ BK227 hg; have NB245_227 := nr_ BK227 hg; have NB228_245 := nl_ BK228 hg; have NB245_228 := nr_ BK228 hg; replace BK226 := bb_ BK226 hb; replace BK227 := bb_ BK227 hb; replace BK228 := bb_ BK228 hb; replace HB := bs_ HB hb; clear hb hbox hg; refine hK.out _ _ ⟨bc_ BK226 0, bc_ BK226 1, bc_ BK226 2, bc_ BK226 3, bc_ BK226 4, bc_ BK226 5, bc_ BK227 0, bc_ BK227 1, bc_ BK227 2, bc_ BK228 0, bc_ BK228 1, bc_ BK228 2⟩ (fun hHeld => ?_); clear hK K
        apply norm_
        · show Act.put _ (some 7) _ = _; simp only [Act.put, sA_, sZ_, sS_, i64_w, i32_w]; rfl
        exact nm_ (hJ1_3_5_10 (gb245) _ ⟨hHeld, (bk_ BK226), (bk_ BK227), (bk_ BK228), (bk_ BK245), GW245.out, GE245.out, NB226_245.out, NB245_226.out, NB227_245.out, NB245_227.out, NB228_245.out, NB245_228.out, (bw_ HB)⟩)
     ·
      rintro gb245 w23 ⟨hS_, h0_, h1_, h2_, h3_, h4_, h5_, h6_, h7_, h8_, h9_, h10_, h11_, h12_⟩; replace BK226 := Aside0.mk h0_; replace BK227 := Aside0.mk h1_; replace BK228 := Aside0.mk h2_; have BK245 := Aside0.mk h3_; have GW245 := Aside0.mk h4_; have GE245 := Aside0.mk h5_; have NB226_245 := Aside0.mk h6_; have NB245_226 := Aside0.mk h7_; have NB227_245 := Aside0.mk h8_; have NB245_227 := Aside0.mk h9_; have NB228_245 := Aside0.mk h10_; have NB245_228 := Aside0.mk h11_; replace HB := Aside0.mk h12_; clear h0_ h1_ h2_ h3_ h4_ h5_ h6_ h7_ h8_ h9_ h10_ h11_ h12_; have hHeld := hS_
      apply norm_
      · simp only [putAll, Act.put, sA_, sZ_, sS_]; rfl
      refine one_ (i := 6) (N := some 18) #[true,true,true,true,true,true,true,false,false,false,true,false,false] rfl rfl (one_of HT_.out (by kernel_rfl)) (by decide) (fun K hK => ?_); refine gs_ Try.func8 #[.agg #[.int .i64 t229, .int .i64 t230, .int .i64 t231, .int .i64 t232, .int .i64 t233, .int .i64 t234], .agg #[.int .i64 t235, .int .i64 t236, .bool t237], .agg #[.int .i64 t238, .int .i64 t239, .bool t240]] ?_
      with_reducible refine (spec_PointAdd.calls k t229 t230 t231 t232 t233 t234 t235 t236 t237 t238 t239 t240 t241 t242 t243 t244 _ A7.out).mono ?_
      rintro e w24 ⟨rfl, hb⟩; refine ⟨_, rfl, ?_⟩; replace BK226 := bb_ BK226 hb; replace BK227 := bb_ BK227 hb; replace BK228 := bb_ BK228 hb; replace BK245 := bb_ BK245 hb; replace HB := bs_ HB hb; (try clear hb); refine hK.out _ _ ⟨bc_ BK226 0, bc_ BK226 1, bc_ BK226 2, bc_ BK226 3, bc_ BK226 4, bc_ BK226 5, bc_ BK227 0, bc_ BK227 1, bc_ BK227 2, bc_ BK228 0, bc_ BK228 1, bc_ BK228 2⟩ (fun hHeld => ?_); clear hK K
      apply norm_
      · show Act.put _ (some 18) _ = _; simp only [Act.put, sA_, sZ_, sS_, i64_w, i32_w]; rfl
      refine pure_ (i := 7) (N := some 11) (v := ?_) (a' := ?_) #[true,true,true,true,true,true,true,true,false,false,true,false,false] rfl rfl (any_of HT_.out (by kernel_rfl)) (fun _ _ _ h => h) (Or.inl ⟨by rfl, ?_⟩) ?_ ?_; rotate_left
      ·
       intro w'; go_simp
       with_reducible rfl
      rotate_left
      · simp only [Act.put, sA_, sZ_, sS_, i64_w, i32_w]; rfl
      refine pure_ (i := 8) (N := some 19) (v := ?_) (a' := ?_) #[true,true,true,true,true,true,true,true,true,false,true,false,false] rfl rfl (any_of HT_.out (by kernel_rfl)) (fun _ _ _ h => h) (Or.inl ⟨by rfl, ?_⟩) ?_ ?_; rotate_left
      ·
       intro w'; go_simp
       with_reducible rfl
      rotate_left
      · simp only [Act.put, sA_, sZ_, sS_, i64_w, i32_w]; rfl
      refine pure_ (i := 9) (N := some 20) (v := ?_) (a' := ?_) #[true,true,true,true,true,true,true,true,true,true,true,false,false] rfl rfl (any_of HT_.out (by kernel_rfl)) (fun _ _ _ h => h) (Or.inl ⟨by rfl, ?_⟩) ?_ ?_; rotate_left
      ·
       intro w'; go_simp
       with_reducible rfl
      rotate_left
      · simp only [Act.put, sA_, sZ_, sS_, i64_w, i32_w]; rfl
      exact nm_ (hJ1_3_5_6_10 (gb245) _ ⟨hHeld, (bk_ BK226), (bk_ BK227), (bk_ BK228), (bk_ BK245), GW245.out, GE245.out, NB226_245.out, NB245_226.out, NB227_245.out, NB245_227.out, NB228_245.out, NB245_228.out, (bw_ HB)⟩)
    ·
     rintro _ w23 ⟨hS_, h0_, h1_, h2_, h3_⟩; replace BK226 := Aside0.mk h0_; replace BK227 := Aside0.mk h1_; replace BK228 := Aside0.mk h2_; replace HB := Aside0.mk h3_; clear h0_ h1_ h2_ h3_; have hHeld := hS_
     apply norm_
     · simp only [putAll, Act.put, sA_, sZ_, sS_]; rfl
     refine one_ (i := 10) (N := some 7) #[true,true,true,true,true,true,true,true,true,true,true,false,false] rfl rfl (one_of HT_.out (by kernel_rfl)) (by decide) (fun K hK => ?_); refine box_step ?hg (N := 7) ?hd (cs := #[.int .i64 0, .int .i64 0, .bool false]) (t := 26) ?hr ?_; (case hd => rfl); (case hg => rfl); (case hr => first | (go_simp; done) | (go_simp; rfl))
     intro gb245 hg w24 hbox hb; have BK245 := Aside0.mk hbox; have GW245 := ge_ HB hg; have GE245 := ge_ HB hg; have NB226_245 := nl_ BK226 hg; have NB245_226 := nr_ BK226 hg; have NB227_245 := nl_ BK227 hg; have NB245_227 := nr_ BK227 hg; have NB228_245 := nl_ BK228 hg; have NB245_228 := nr_ BK228 hg; replace BK226 := bb_ BK226 hb; replace BK227 := bb_ BK227 hb; replace BK228 := bb_ BK228 hb; replace HB := bs_ HB hb; clear hb hbox hg; refine hK.out _ _ ⟨bc_ BK226 0, bc_ BK226 1, bc_ BK226 2, bc_ BK226 3, bc_ BK226 4, bc_ BK226 5, bc_ BK227 0, bc_ BK227 1, bc_ BK227 2, bc_ BK228 0, bc_ BK228 1, bc_ BK228 2⟩ (fun hHeld => ?_); clear hK K
     apply norm_
     · show Act.put _ (some 7) _ = _; simp only [Act.put, sA_, sZ_, sS_, i64_w, i32_w]; rfl
     exact nm_ (hJ1_3_5_6_10 (gb245) _ ⟨hHeld, (bk_ BK226), (bk_ BK227), (bk_ BK228), (bk_ BK245), GW245.out, GE245.out, NB226_245.out, NB245_226.out, NB227_245.out, NB245_227.out, NB228_245.out, NB245_228.out, (bw_ HB)⟩)
   rintro gb245 w24 ⟨hS_, h0_, h1_, h2_, h3_, h4_, h5_, h6_, h7_, h8_, h9_, h10_, h11_, h12_⟩; replace BK226 := Aside0.mk h0_; replace BK227 := Aside0.mk h1_; replace BK228 := Aside0.mk h2_; have BK245 := Aside0.mk h3_; have GW245 := Aside0.mk h4_; have GE245 := Aside0.mk h5_; have NB226_245 := Aside0.mk h6_; have NB245_226 := Aside0.mk h7_; have NB227_245 := Aside0.mk h8_; have NB245_227 := Aside0.mk h9_; have NB228_245 := Aside0.mk h10_; have NB245_228 := Aside0.mk h11_; replace HB := Aside0.mk h12_; clear h0_ h1_ h2_ h3_ h4_ h5_ h6_ h7_ h8_ h9_ h10_ h11_ h12_; have hHeld := hS_
   apply norm_
   · simp only [putAll, Act.put, sA_, sZ_, sS_]; rfl
   refine one_ (i := 11) (N := none) #[true,true,true,true,true,true,true,true,true,true,true,true,false] rfl rfl (one_of HT_.out (by kernel_rfl)) (by decide) (fun K hK => ?_)
   have hs25 : w24.cell? ⟨gb245, 0, none⟩ = some (.int .i64 0) := bc_ BK245 0
   have hfs25 := blk_frozen BK245.out 0; have hns25_0 := NB226_245.out; have hns25_1 := NB227_245.out; have hns25_2 := NB228_245.out; have hms25_0 := NB245_226.out; have hms25_1 := NB245_227.out; have hms25_2 := NB245_228.out
   have hs26 : w24.cell? ⟨gb245, 1, none⟩ = some (.int .i64 0) := bc_ BK245 1
   have hfs26 := blk_frozen BK245.out 1; have hns26_0 := NB226_245.out; have hns26_1 := NB227_245.out; have hns26_2 := NB228_245.out; have hms26_0 := NB245_226.out; have hms26_1 := NB245_227.out; have hms26_2 := NB245_228.out
   have hs27 : w24.cell? ⟨gb245, 2, none⟩ = some (.bool false) := bc_ BK245 2
   have hfs27 := blk_frozen BK245.out 2; have hns27_0 := NB226_245.out; have hns27_1 := NB227_245.out; have hns27_2 := NB228_245.out; have hms27_0 := NB245_226.out; have hms27_1 := NB245_227.out; have hms27_2 := NB245_228.out; refine skip_ (w1 := ?_) (by rfl) rfl ?_ ?_; rotate_left
   · go_simp; rfl
   refine hK.out _ _ ⟨((cell_far (p := ⟨gb245, _, none⟩) NB226_245.out _).trans (((cell_far (p := ⟨gb245, _, none⟩) NB226_245.out _).trans (((cell_far (p := ⟨gb245, _, none⟩) NB226_245.out _).trans (hHeld.1)))))), ((cell_far (p := ⟨gb245, _, none⟩) NB226_245.out _).trans (((cell_far (p := ⟨gb245, _, none⟩) NB226_245.out _).trans (((cell_far (p := ⟨gb245, _, none⟩) NB226_245.out _).trans (hHeld.2.1)))))), ((cell_far (p := ⟨gb245, _, none⟩) NB226_245.out _).trans (((cell_far (p := ⟨gb245, _, none⟩) NB226_245.out _).trans (((cell_far (p := ⟨gb245, _, none⟩) NB226_245.out _).trans (hHeld.2.2.1)))))), ((cell_far (p := ⟨gb245, _, none⟩) NB226_245.out _).trans (((cell_far (p := ⟨gb245, _, none⟩) NB226_245.out _).trans (((cell_far (p := ⟨gb245, _, none⟩) NB226_245.out _).trans (hHeld.2.2.2.1)))))), ((cell_far (p := ⟨gb245, _, none⟩) NB226_245.out _).trans (((cell_far (p := ⟨gb245, _, none⟩) NB226_245.out _).trans (((cell_far (p := ⟨gb245, _, none⟩) NB226_245.out _).trans (hHeld.2.2.2.2.1)))))), ((cell_far (p := ⟨gb245, _, none⟩) NB226_245.out _).trans (((cell_far (p := ⟨gb245, _, none⟩) NB226_245.out _).trans (((cell_far (p := ⟨gb245, _, none⟩) NB226_245.out _).trans (hHeld.2.2.2.2.2.1)))))), ((cell_far (p := ⟨gb245, _, none⟩) NB227_245.out _).trans (((cell_far (p := ⟨gb245, _, none⟩) NB227_245.out _).trans (((cell_far (p := ⟨gb245, _, none⟩) NB227_245.out _).trans (hHeld.2.2.2.2.2.2.1)))))), ((cell_far (p := ⟨gb245, _, none⟩) NB227_245.out _).trans (((cell_far (p := ⟨gb245, _, none⟩) NB227_245.out _).trans (((cell_far (p := ⟨gb245, _, none⟩) NB227_245.out _).trans (hHeld.2.2.2.2.2.2.2.1)))))), ((cell_far (p := ⟨gb245, _, none⟩) NB227_245.out _).trans (((cell_far (p := ⟨gb245, _, none⟩) NB227_245.out _).trans (((cell_far (p := ⟨gb245, _, none⟩) NB227_245.out _).trans (hHeld.2.2.2.2.2.2.2.2.1)))))), ((cell_far (p := ⟨gb245, _, none⟩) NB228_245.out _).trans (((cell_far (p := ⟨gb245, _, none⟩) NB228_245.out _).trans (((cell_far (p := ⟨gb245, _, none⟩) NB228_245.out _).trans (hHeld.2.2.2.2.2.2.2.2.2.1)))))), ((cell_far (p := ⟨gb245, _, none⟩) NB228_245.out _).trans (((cell_far (p := ⟨gb245, _, none⟩) NB228_245.out _).trans (((cell_far (p := ⟨gb245, _, none⟩) NB228_245.out _).trans (hHeld.2.2.2.2.2.2.2.2.2.2.1)))))), ((cell_far (p := ⟨gb245, _, none⟩) NB228_245.out _).trans (((cell_far (p := ⟨gb245, _, none⟩) NB228_245.out _).trans (((cell_far (p := ⟨gb245, _, none⟩) NB228_245.out _).trans (hHeld.2.2.2.2.2.2.2.2.2.2.2))))))⟩ (fun hHeld => ?_); clear hK K; refine pure_ (i := 12) (N := some 8) (v := ?_) (a' := ?_) #[true,true,true,true,true,true,true,true,true,true,true,true,true] rfl rfl (any_of HT_.out (by kernel_rfl)) (fun _ _ _ h => h) (Or.inl ⟨by rfl, ?_⟩) ?_ ?_; rotate_left
   ·
    intro w'; go_simp
    with_reducible rfl
   rotate_left
   · simp only [Act.put, sA_, sZ_, sS_, i64_w, i32_w]; rfl
   refine done_ (done_of HT_.out (by kernel_rfl)) ?_
   try go_wp2
   have n0_ : Aside0 ((((w24.setCell ⟨gb245, 0, none⟩ (.int .i64 t241)).setCell ⟨gb245, 1, none⟩ (.int .i64 t242)).setCell ⟨gb245, 2, none⟩ (.bool t243)).heap[gb226]? = some (.cells #[.int .i64 a0_0, .int .i64 a0_1, .int .i64 a0_2, .int .i64 a0_3, .int .i64 a0_4, .int .i64 a0_5] 23 (0, 0))) := ⟨bf_ BK226⟩
   have n1_ : Aside0 ((((w24.setCell ⟨gb245, 0, none⟩ (.int .i64 t241)).setCell ⟨gb245, 1, none⟩ (.int .i64 t242)).setCell ⟨gb245, 2, none⟩ (.bool t243)).heap[gb227]? = some (.cells #[.int .i64 a1_0, .int .i64 a1_1, .bool a1_2] 25 (0, 0))) := ⟨bf_ BK227⟩
   have n2_ : Aside0 ((((w24.setCell ⟨gb245, 0, none⟩ (.int .i64 t241)).setCell ⟨gb245, 1, none⟩ (.int .i64 t242)).setCell ⟨gb245, 2, none⟩ (.bool t243)).heap[gb228]? = some (.cells #[.int .i64 a2_0, .int .i64 a2_1, .bool a2_2] 25 (0, 0))) := ⟨bf_ BK228⟩
   have n3_ : Aside0 ((((w24.setCell ⟨gb245, 0, none⟩ (.int .i64 t241)).setCell ⟨gb245, 1, none⟩ (.int .i64 t242)).setCell ⟨gb245, 2, none⟩ (.bool t243)).heap[gb245]? = some (.cells #[.int .i64 t241, .int .i64 t242, .bool t243] 26 (0, 0))) := ⟨by (with_reducible repeat (first | refine blk_drewN ?_ _ | refine blk_drew ?_ | refine blk_alloc ?_ _)); refine blk_put (cs := #[.int .i64 t241, .int .i64 t242, .bool false]) ?_ 2 _ rfl; (with_reducible repeat (first | refine blk_drewN ?_ _ | refine blk_drew ?_ | refine blk_alloc ?_ _)); refine blk_put (cs := #[.int .i64 t241, .int .i64 0, .bool false]) ?_ 1 _ rfl; (with_reducible repeat (first | refine blk_drewN ?_ _ | refine blk_drew ?_ | refine blk_alloc ?_ _)); refine blk_put (cs := #[.int .i64 0, .int .i64 0, .bool false]) ?_ 0 _ rfl; (with_reducible repeat (first | refine blk_drewN ?_ _ | refine blk_drew ?_ | refine blk_alloc ?_ _)); exact BK245.out⟩
   have n4_ : Aside0 (Below w.heap.size w (((w24.setCell ⟨gb245, 0, none⟩ (.int .i64 t241)).setCell ⟨gb245, 1, none⟩ (.int .i64 t242)).setCell ⟨gb245, 2, none⟩ (.bool t243))) := ⟨bw_ HB⟩
   (try clear BK226); (try clear BK227); (try clear BK228); (try clear BK245); (try clear HB)
   generalize (((w24.setCell ⟨gb245, 0, none⟩ (.int .i64 t241)).setCell ⟨gb245, 1, none⟩ (.int .i64 t242)).setCell ⟨gb245, 2, none⟩ (.bool t243)) = w28 at n0_ n1_ n2_ n3_ n4_ ⊢
   have BK226 := n0_; have BK227 := n1_; have BK228 := n2_; have BK245 := n3_; have HB := n4_; clear n0_ n1_ n2_ n3_ n4_; replace BK226 := Aside0.mk (blk_drew BK226.out); replace BK227 := Aside0.mk (blk_drew BK227.out); replace BK228 := Aside0.mk (blk_drew BK228.out); replace BK245 := Aside0.mk (blk_drew BK245.out); replace HB := Aside0.mk (below_drew1 HB.out); refine start_ (n := 13) (S := fun w' => w'.cell? ⟨gb226, 0, none⟩ = some (.int .i64 a0_0) ∧ w'.cell? ⟨gb226, 1, none⟩ = some (.int .i64 a0_1) ∧ w'.cell? ⟨gb226, 2, none⟩ = some (.int .i64 a0_2) ∧ w'.cell? ⟨gb226, 3, none⟩ = some (.int .i64 a0_3) ∧ w'.cell? ⟨gb226, 4, none⟩ = some (.int .i64 a0_4) ∧ w'.cell? ⟨gb226, 5, none⟩ = some (.int .i64 a0_5) ∧ w'.cell? ⟨gb227, 0, none⟩ = some (.int .i64 a1_0) ∧ w'.cell? ⟨gb227, 1, none⟩ = some (.int .i64 a1_1) ∧ w'.cell? ⟨gb227, 2, none⟩ = some (.bool a1_2) ∧ w'.cell? ⟨gb228, 0, none⟩ = some (.int .i64 a2_0) ∧ w'.cell? ⟨gb228, 1, none⟩ = some (.int .i64 a2_1) ∧ w'.cell? ⟨gb228, 2, none⟩ = some (.bool a2_2)) (ds := []) #[false,false,false,false,false,false,false,false,false,false,false,false,false] (by kernel_rfl) rfl rfl ⟨bc_ BK226 0, bc_ BK226 1, bc_ BK226 2, bc_ BK226 3, bc_ BK226 4, bc_ BK226 5, bc_ BK227 0, bc_ BK227 1, bc_ BK227 2, bc_ BK228 0, bc_ BK228 1, bc_ BK228 2⟩ (fun hHeld => ?_); refine with_tabW laws_FnExactPointAdd.tab2 laws_FnExactPointAdd.bits2 (fun HT_ HW_ => ?_)
   generalize w28.drew = w29 at BK226 BK227 BK228 BK245 HB hHeld ⊢
   refine take_ (i := 0) (N := some 22) (v := ?_) (a' := ?_) #[true,false,false,false,false,false,false,false,false,false,false,false,false] rfl rfl (take_ofW HT_.out HW_.out (by kernel_rfl)) (fun _ _ _ h => h) (Or.inl ⟨by rfl, ?_⟩) hHeld ?_ ?_; rotate_left
   ·
    rintro w' ⟨s0, s1, s2, s3, s4, s5, s6, s7, s8, s9, s10, s11⟩; go_simp
    with_reducible rfl
   rotate_left
   · simp only [Act.put, sA_, sZ_, sS_, i64_w, i32_w]; rfl
   refine take_ (i := 2) (N := some 24) (v := ?_) (a' := ?_) #[true,false,true,false,false,false,false,false,false,false,false,false,false] rfl rfl (take_ofW HT_.out HW_.out (by kernel_rfl)) (fun _ _ _ h => h) (Or.inl ⟨by rfl, ?_⟩) hHeld ?_ ?_; rotate_left
   ·
    rintro w' ⟨s0, s1, s2, s3, s4, s5, s6, s7, s8, s9, s10, s11⟩; go_simp
    with_reducible rfl
   rotate_left
   · simp only [Act.put, sA_, sZ_, sS_, i64_w, i32_w]; rfl
   refine take_ (i := 4) (N := some 26) (v := ?_) (a' := ?_) #[true,false,true,false,true,false,false,false,false,false,false,false,false] rfl rfl (take_ofW HT_.out HW_.out (by kernel_rfl)) (fun _ _ _ h => h) (Or.inl ⟨by rfl, ?_⟩) hHeld ?_ ?_; rotate_left
   ·
    rintro w' ⟨s0, s1, s2, s3, s4, s5, s6, s7, s8, s9, s10, s11⟩; go_simp
    with_reducible rfl
   rotate_left
   · simp only [Act.put, sA_, sZ_, sS_, i64_w, i32_w]; rfl
   refine join_ (σ := Nat) 2 #[true,true,true,true,true,true,true,true,true,true,true,false,false] (fun s_ => [(23, .agg #[.int .i64 t246, .int .i64 t247, .int .i64 t248, .int .i64 t249, .int .i64 t250, .int .i64 t251]), (25, .agg #[.int .i64 t252, .int .i64 t253, .bool t254]), (27, .agg #[.int .i64 t255, .int .i64 t256, .bool t257]), (28, .tuple #[.agg #[.int .i64 t258, .int .i64 t259, .bool t260], .bool t261]), (9, .pointer (some ⟨s_, 0, none⟩)), (21, .tuple #[.agg #[.int .i64 t258, .int .i64 t259, .bool t260], .bool t261]), (29, .agg #[.int .i64 t258, .int .i64 t259, .bool t260]), (30, .bool t261)]) (fun s_ w' => (CS0 gb226 gb227 gb228 a0_0 a0_1 a0_2 a0_3 a0_4 a0_5 a1_0 a1_1 a1_2 a2_0 a2_1 a2_2 w') ∧ (w'.heap[gb226]? = some (.cells #[.int .i64 a0_0, .int .i64 a0_1, .int .i64 a0_2, .int .i64 a0_3, .int .i64 a0_4, .int .i64 a0_5] 23 (0, 0))) ∧ (w'.heap[gb227]? = some (.cells #[.int .i64 a1_0, .int .i64 a1_1, .bool a1_2] 25 (0, 0))) ∧ (w'.heap[gb228]? = some (.cells #[.int .i64 a2_0, .int .i64 a2_1, .bool a2_2] 25 (0, 0))) ∧ (w'.heap[gb245]? = some (.cells #[.int .i64 t241, .int .i64 t242, .bool t243] 26 (0, 0))) ∧ (w'.heap[s_]? = some (.cells #[.int .i64 0, .int .i64 0, .bool false] 26 (0, 0))) ∧ (w.heap.size ≤ s_) ∧ (w.heap.size ≤ s_) ∧ (gb226 ≠ s_) ∧ (s_ ≠ gb226) ∧ (gb227 ≠ s_) ∧ (s_ ≠ gb227) ∧ (gb228 ≠ s_) ∧ (s_ ≠ gb228) ∧ (gb245 ≠ s_) ∧ (s_ ≠ gb245) ∧ (Below w.heap.size w w')) ?_ ?_; rotate_left
   ·
    intro hJ1_3_5_6_10; refine join_ (σ := Unit) 3 #[true,true,true,true,true,true,true,true,true,true,false,false,false] (fun s_ => [(23, .agg #[.int .i64 t246, .int .i64 t247, .int .i64 t248, .int .i64 t249, .int .i64 t250, .int .i64 t251]), (25, .agg #[.int .i64 t252, .int .i64 t253, .bool t254]), (27, .agg #[.int .i64 t255, .int .i64 t256, .bool t257]), (28, .tuple #[.agg #[.int .i64 t258, .int .i64 t259, .bool t260], .bool t261]), (21, .tuple #[.agg #[.int .i64 t258, .int .i64 t259, .bool t260], .bool t261]), (29, .agg #[.int .i64 t258, .int .i64 t259, .bool t260]), (30, .bool t261)]) (fun s_ w' => (CS0 gb226 gb227 gb228 a0_0 a0_1 a0_2 a0_3 a0_4 a0_5 a1_0 a1_1 a1_2 a2_0 a2_1 a2_2 w') ∧ (w'.heap[gb226]? = some (.cells #[.int .i64 a0_0, .int .i64 a0_1, .int .i64 a0_2, .int .i64 a0_3, .int .i64 a0_4, .int .i64 a0_5] 23 (0, 0))) ∧ (w'.heap[gb227]? = some (.cells #[.int .i64 a1_0, .int .i64 a1_1, .bool a1_2] 25 (0, 0))) ∧ (w'.heap[gb228]? = some (.cells #[.int .i64 a2_0, .int .i64 a2_1, .bool a2_2] 25 (0, 0))) ∧ (w'.heap[gb245]? = some (.cells #[.int .i64 t241, .int .i64 t242, .bool t243] 26 (0, 0))) ∧ (Below w.heap.size w w')) ?_ ?_; rotate_left
    ·
     intro hJ1_3_5_6; refine join_ (σ := Nat) 6 #[true,true,true,true,true,true,false,false,false,false,true,false,false] (fun s_ => [(23, .agg #[.int .i64 t246, .int .i64 t247, .int .i64 t248, .int .i64 t249, .int .i64 t250, .int .i64 t251]), (25, .agg #[.int .i64 t252, .int .i64 t253, .bool t254]), (27, .agg #[.int .i64 t255, .int .i64 t256, .bool t257]), (9, .pointer (some ⟨s_, 0, none⟩))]) (fun s_ w' => (CS0 gb226 gb227 gb228 a0_0 a0_1 a0_2 a0_3 a0_4 a0_5 a1_0 a1_1 a1_2 a2_0 a2_1 a2_2 w') ∧ (w'.heap[gb226]? = some (.cells #[.int .i64 a0_0, .int .i64 a0_1, .int .i64 a0_2, .int .i64 a0_3, .int .i64 a0_4, .int .i64 a0_5] 23 (0, 0))) ∧ (w'.heap[gb227]? = some (.cells #[.int .i64 a1_0, .int .i64 a1_1, .bool a1_2] 25 (0, 0))) ∧ (w'.heap[gb228]? = some (.cells #[.int .i64 a2_0, .int .i64 a2_1, .bool a2_2] 25 (0, 0))) ∧ (w'.heap[gb245]? = some (.cells #[.int .i64 t241, .int .i64 t242, .bool t243] 26 (0, 0))) ∧ (w'.heap[s_]? = some (.cells #[.int .i64 0, .int .i64 0, .bool false] 26 (0, 0))) ∧ (w.heap.size ≤ s_) ∧ (w.heap.size ≤ s_) ∧ (gb226 ≠ s_) ∧ (s_ ≠ gb226) ∧ (gb227 ≠ s_) ∧ (s_ ≠ gb227) ∧ (gb228 ≠ s_) ∧ (s_ ≠ gb228) ∧ (gb245 ≠ s_) ∧ (s_ ≠ gb245) ∧ (Below w.heap.size w w')) ?_ ?_; rotate_left
     ·
      intro hJ1_3_5_10; refine join_ (σ := Unit) 7 #[true,true,true,true,true,true,false,false,false,false,false,false,false] (fun s_ => [(23, .agg #[.int .i64 t246, .int .i64 t247, .int .i64 t248, .int .i64 t249, .int .i64 t250, .int .i64 t251]), (25, .agg #[.int .i64 t252, .int .i64 t253, .bool t254]), (27, .agg #[.int .i64 t255, .int .i64 t256, .bool t257])]) (fun s_ w' => (CS0 gb226 gb227 gb228 a0_0 a0_1 a0_2 a0_3 a0_4 a0_5 a1_0 a1_1 a1_2 a2_0 a2_1 a2_2 w') ∧ (w'.heap[gb226]? = some (.cells #[.int .i64 a0_0, .int .i64 a0_1, .int .i64 a0_2, .int .i64 a0_3, .int .i64 a0_4, .int .i64 a0_5] 23 (0, 0))) ∧ (w'.heap[gb227]? = some (.cells #[.int .i64 a1_0, .int .i64 a1_1, .bool a1_2] 25 (0, 0))) ∧ (w'.heap[gb228]? = some (.cells #[.int .i64 a2_0, .int .i64 a2_1, .bool a2_2] 25 (0, 0))) ∧ (w'.heap[gb245]? = some (.cells #[.int .i64 t241, .int .i64 t242, .bool t243] 26 (0, 0))) ∧ (Below w.heap.size w w')) ?_ ?_; rotate_left
      ·
       intro hJ1_3_5; refine join_ (σ := Nat) 7 #[true,true,true,true,true,false,false,false,false,false,true,false,false] (fun s_ => [(23, .agg #[.int .i64 t246, .int .i64 t247, .int .i64 t248, .int .i64 t249, .int .i64 t250, .int .i64 t251]), (25, .agg #[.int .i64 t252, .int .i64 t253, .bool t254]), (9, .pointer (some ⟨s_, 0, none⟩))]) (fun s_ w' => (CS0 gb226 gb227 gb228 a0_0 a0_1 a0_2 a0_3 a0_4 a0_5 a1_0 a1_1 a1_2 a2_0 a2_1 a2_2 w') ∧ (w'.heap[gb226]? = some (.cells #[.int .i64 a0_0, .int .i64 a0_1, .int .i64 a0_2, .int .i64 a0_3, .int .i64 a0_4, .int .i64 a0_5] 23 (0, 0))) ∧ (w'.heap[gb227]? = some (.cells #[.int .i64 a1_0, .int .i64 a1_1, .bool a1_2] 25 (0, 0))) ∧ (w'.heap[gb228]? = some (.cells #[.int .i64 a2_0, .int .i64 a2_1, .bool a2_2] 25 (0, 0))) ∧ (w'.heap[gb245]? = some (.cells #[.int .i64 t241, .int .i64 t242, .bool t243] 26 (0, 0))) ∧ (w'.heap[s_]? = some (.cells #[.int .i64 0, .int .i64 0, .bool false] 26 (0, 0))) ∧ (w.heap.size ≤ s_) ∧ (w.heap.size ≤ s_) ∧ (gb226 ≠ s_) ∧ (s_ ≠ gb226) ∧ (gb227 ≠ s_) ∧ (s_ ≠ gb227) ∧ (gb228 ≠ s_) ∧ (s_ ≠ gb228) ∧ (gb245 ≠ s_) ∧ (s_ ≠ gb245) ∧ (Below w.heap.size w w')) ?_ ?_; rotate_left
       ·
        intro hJ1_3_10; refine join_ (σ := Unit) 8 #[true,true,true,true,true,false,false,false,false,false,false,false,false] (fun s_ => [(23, .agg #[.int .i64 t246, .int .i64 t247, .int .i64 t248, .int .i64 t249, .int .i64 t250, .int .i64 t251]), (25, .agg #[.int .i64 t252, .int .i64 t253, .bool t254])]) (fun s_ w' => (CS0 gb226 gb227 gb228 a0_0 a0_1 a0_2 a0_3 a0_4 a0_5 a1_0 a1_1 a1_2 a2_0 a2_1 a2_2 w') ∧ (w'.heap[gb226]? = some (.cells #[.int .i64 a0_0, .int .i64 a0_1, .int .i64 a0_2, .int .i64 a0_3, .int .i64 a0_4, .int .i64 a0_5] 23 (0, 0))) ∧ (w'.heap[gb227]? = some (.cells #[.int .i64 a1_0, .int .i64 a1_1, .bool a1_2] 25 (0, 0))) ∧ (w'.heap[gb228]? = some (.cells #[.int .i64 a2_0, .int .i64 a2_1, .bool a2_2] 25 (0, 0))) ∧ (w'.heap[gb245]? = some (.cells #[.int .i64 t241, .int .i64 t242, .bool t243] 26 (0, 0))) ∧ (Below w.heap.size w w')) ?_ ?_; rotate_left
        ·
         intro hJ1_3; refine join_ (σ := Nat) 8 #[true,true,true,false,true,false,false,false,false,false,true,false,false] (fun s_ => [(23, .agg #[.int .i64 t246, .int .i64 t247, .int .i64 t248, .int .i64 t249, .int .i64 t250, .int .i64 t251]), (9, .pointer (some ⟨s_, 0, none⟩))]) (fun s_ w' => (CS0 gb226 gb227 gb228 a0_0 a0_1 a0_2 a0_3 a0_4 a0_5 a1_0 a1_1 a1_2 a2_0 a2_1 a2_2 w') ∧ (w'.heap[gb226]? = some (.cells #[.int .i64 a0_0, .int .i64 a0_1, .int .i64 a0_2, .int .i64 a0_3, .int .i64 a0_4, .int .i64 a0_5] 23 (0, 0))) ∧ (w'.heap[gb227]? = some (.cells #[.int .i64 a1_0, .int .i64 a1_1, .bool a1_2] 25 (0, 0))) ∧ (w'.heap[gb228]? = some (.cells #[.int .i64 a2_0, .int .i64 a2_1, .bool a2_2] 25 (0, 0))) ∧ (w'.heap[gb245]? = some (.cells #[.int .i64 t241, .int .i64 t242, .bool t243] 26 (0, 0))) ∧ (w'.heap[s_]? = some (.cells #[.int .i64 0, .int .i64 0, .bool false] 26 (0, 0))) ∧ (w.heap.size ≤ s_) ∧ (w.heap.size ≤ s_) ∧ (gb226 ≠ s_) ∧ (s_ ≠ gb226) ∧ (gb227 ≠ s_) ∧ (s_ ≠ gb227) ∧ (gb228 ≠ s_) ∧ (s_ ≠ gb228) ∧ (gb245 ≠ s_) ∧ (s_ ≠ gb245) ∧ (Below w.heap.size w w')) ?_ ?_; rotate_left
         ·
          intro hJ1_10; refine join_ (σ := Unit) 9 #[true,true,true,false,true,false,false,false,false,false,false,false,false] (fun s_ => [(23, .agg #[.int .i64 t246, .int .i64 t247, .int .i64 t248, .int .i64 t249, .int .i64 t250, .int .i64 t251])]) (fun s_ w' => (CS0 gb226 gb227 gb228 a0_0 a0_1 a0_2 a0_3 a0_4 a0_5 a1_0 a1_1 a1_2 a2_0 a2_1 a2_2 w') ∧ (w'.heap[gb226]? = some (.cells #[.int .i64 a0_0, .int .i64 a0_1, .int .i64 a0_2, .int .i64 a0_3, .int .i64 a0_4, .int .i64 a0_5] 23 (0, 0))) ∧ (w'.heap[gb227]? = some (.cells #[.int .i64 a1_0, .int .i64 a1_1, .bool a1_2] 25 (0, 0))) ∧ (w'.heap[gb228]? = some (.cells #[.int .i64 a2_0, .int .i64 a2_1, .bool a2_2] 25 (0, 0))) ∧ (w'.heap[gb245]? = some (.cells #[.int .i64 t241, .int .i64 t242, .bool t243] 26 (0, 0))) ∧ (Below w.heap.size w w')) ?_ ?_; rotate_left
          ·
           intro hJ1; refine join_ (σ := Nat) 9 #[true,false,true,false,true,false,false,false,false,false,true,false,false] (fun s_ => [(9, .pointer (some ⟨s_, 0, none⟩))]) (fun s_ w' => (CS0 gb226 gb227 gb228 a0_0 a0_1 a0_2 a0_3 a0_4 a0_5 a1_0 a1_1 a1_2 a2_0 a2_1 a2_2 w') ∧ (w'.heap[gb226]? = some (.cells #[.int .i64 a0_0, .int .i64 a0_1, .int .i64 a0_2, .int .i64 a0_3, .int .i64 a0_4, .int .i64 a0_5] 23 (0, 0))) ∧ (w'.heap[gb227]? = some (.cells #[.int .i64 a1_0, .int .i64 a1_1, .bool a1_2] 25 (0, 0))) ∧ (w'.heap[gb228]? = some (.cells #[.int .i64 a2_0, .int .i64 a2_1, .bool a2_2] 25 (0, 0))) ∧ (w'.heap[gb245]? = some (.cells #[.int .i64 t241, .int .i64 t242, .bool t243] 26 (0, 0))) ∧ (w'.heap[s_]? = some (.cells #[.int .i64 0, .int .i64 0, .bool false] 26 (0, 0))) ∧ (w.heap.size ≤ s_) ∧ (w.heap.size ≤ s_) ∧ (gb226 ≠ s_) ∧ (s_ ≠ gb226) ∧ (gb227 ≠ s_) ∧ (s_ ≠ gb227) ∧ (gb228 ≠ s_) ∧ (s_ ≠ gb228) ∧ (gb245 ≠ s_) ∧ (s_ ≠ gb245) ∧ (Below w.heap.size w w')) ?_ ?_; rotate_left
           ·
            intro hJ10; refine two_ (i := 1) (j := 10) (Ni := some 23) (Nj := some 9) #[true,true,true,false,true,false,false,false,false,false,false,false,false] #[true,false,true,false,true,false,false,false,false,false,true,false,false] rfl rfl rfl rfl (two_of HT_.out (by kernel_rfl)) (by decide) (by decide) (fun K hK => ?_) (fun K hK => ?_)
            ·
             refine gs_ Try.func9 #[.agg #[.int .i64 a0_0, .int .i64 a0_1, .int .i64 a0_2, .int .i64 a0_3, .int .i64 a0_4, .int .i64 a0_5]] ?_
             with_reducible refine (laws_toCurve.calls a0_0 a0_1 a0_2 a0_3 a0_4 a0_5 t246 t247 t248 t249 t250 t251 _ A8.out).mono ?_
             rintro e w30 ⟨rfl, hb⟩; refine ⟨_, rfl, ?_⟩; replace BK226 := bb_ BK226 hb; replace BK227 := bb_ BK227 hb; replace BK228 := bb_ BK228 hb; replace BK245 := bb_ BK245 hb; replace HB := bs_ HB hb; (try clear hb); refine hK.out _ _ ⟨bc_ BK226 0, bc_ BK226 1, bc_ BK226 2, bc_ BK226 3, bc_ BK226 4, bc_ BK226 5, bc_ BK227 0, bc_ BK227 1, bc_ BK227 2, bc_ BK228 0, bc_ BK228 1, bc_ BK228 2⟩ (fun hHeld => ?_); clear hK K
             apply norm_
             · show Act.put _ (some 23) _ = _; simp only [Act.put, sA_, sZ_, sS_, i64_w, i32_w]; rfl
             exact nm_ (hJ1 () _ ⟨hHeld, (bk_ BK226), (bk_ BK227), (bk_ BK228), (bk_ BK245), (bw_ HB)⟩)
            ·
             refine box_step ?hg (N := 9) ?hd (cs := #[.int .i64 0, .int .i64 0, .bool false]) (t := 26) ?hr ?_; (case hd => rfl); (case hg => rfl); (case hr => first | (go_simp; done) | (go_simp; rfl))
             intro gb262 hg w30 hbox hb; have BK262 := Aside0.mk hbox; have GW262 := ge_ HB hg; have GE262 := ge_ HB hg; have NB226_262 := nl_ BK226 hg; have NB262_226 := nr_ BK226 hg; have NB227_262 := nl_ BK227 hg; have NB262_227 := nr_ BK227 hg; have NB228_262 := nl_ BK228 hg; have NB262_228 := nr_ BK228 hg; have NB245_262 := nl_ BK245 hg; have NB262_245 := nr_ BK245 hg; replace BK226 := bb_ BK226 hb; replace BK227 := bb_ BK227 hb; replace BK228 := bb_ BK228 hb; replace BK245 := bb_ BK245 hb; replace HB := bs_ HB hb; clear hb hbox hg; refine hK.out _ _ ⟨bc_ BK226 0, bc_ BK226 1, bc_ BK226 2, bc_ BK226 3, bc_ BK226 4, bc_ BK226 5, bc_ BK227 0, bc_ BK227 1, bc_ BK227 2, bc_ BK228 0, bc_ BK228 1, bc_ BK228 2⟩ (fun hHeld => ?_); clear hK K
             apply norm_
             · show Act.put _ (some 9) _ = _; simp only [Act.put, sA_, sZ_, sS_, i64_w, i32_w]; rfl
             exact nm_ (hJ10 (gb262) _ ⟨hHeld, (bk_ BK226), (bk_ BK227), (bk_ BK228), (bk_ BK245), (bk_ BK262), GW262.out, GE262.out, NB226_262.out, NB262_226.out, NB227_262.out, NB262_227.out, NB228_262.out, NB262_228.out, NB245_262.out, NB262_245.out, (bw_ HB)⟩)
           ·
            rintro gb262 w31 ⟨hS_, h0_, h1_, h2_, h3_, h4_, h5_, h6_, h7_, h8_, h9_, h10_, h11_, h12_, h13_, h14_, h15_⟩; replace BK226 := Aside0.mk h0_; replace BK227 := Aside0.mk h1_; replace BK228 := Aside0.mk h2_; replace BK245 := Aside0.mk h3_; have BK262 := Aside0.mk h4_; have GW262 := Aside0.mk h5_; have GE262 := Aside0.mk h6_; have NB226_262 := Aside0.mk h7_; have NB262_226 := Aside0.mk h8_; have NB227_262 := Aside0.mk h9_; have NB262_227 := Aside0.mk h10_; have NB228_262 := Aside0.mk h11_; have NB262_228 := Aside0.mk h12_; have NB245_262 := Aside0.mk h13_; have NB262_245 := Aside0.mk h14_; replace HB := Aside0.mk h15_; clear h0_ h1_ h2_ h3_ h4_ h5_ h6_ h7_ h8_ h9_ h10_ h11_ h12_ h13_ h14_ h15_; have hHeld := hS_
            apply norm_
            · simp only [putAll, Act.put, sA_, sZ_, sS_]; rfl
            refine one_ (i := 1) (N := some 23) #[true,true,true,false,true,false,false,false,false,false,true,false,false] rfl rfl (one_of HT_.out (by kernel_rfl)) (by decide) (fun K hK => ?_); refine gs_ Try.func9 #[.agg #[.int .i64 a0_0, .int .i64 a0_1, .int .i64 a0_2, .int .i64 a0_3, .int .i64 a0_4, .int .i64 a0_5]] ?_
            with_reducible refine (laws_toCurve.calls a0_0 a0_1 a0_2 a0_3 a0_4 a0_5 t246 t247 t248 t249 t250 t251 _ A8.out).mono ?_
            rintro e w32 ⟨rfl, hb⟩; refine ⟨_, rfl, ?_⟩; replace BK226 := bb_ BK226 hb; replace BK227 := bb_ BK227 hb; replace BK228 := bb_ BK228 hb; replace BK245 := bb_ BK245 hb; replace BK262 := bb_ BK262 hb; replace HB := bs_ HB hb; (try clear hb); refine hK.out _ _ ⟨bc_ BK226 0, bc_ BK226 1, bc_ BK226 2, bc_ BK226 3, bc_ BK226 4, bc_ BK226 5, bc_ BK227 0, bc_ BK227 1, bc_ BK227 2, bc_ BK228 0, bc_ BK228 1, bc_ BK228 2⟩ (fun hHeld => ?_); clear hK K
            apply norm_
            · show Act.put _ (some 23) _ = _; simp only [Act.put, sA_, sZ_, sS_, i64_w, i32_w]; rfl
            exact nm_ (hJ1_10 (gb262) _ ⟨hHeld, (bk_ BK226), (bk_ BK227), (bk_ BK228), (bk_ BK245), (bk_ BK262), GW262.out, GE262.out, NB226_262.out, NB262_226.out, NB227_262.out, NB262_227.out, NB228_262.out, NB262_228.out, NB245_262.out, NB262_245.out, (bw_ HB)⟩)
          ·
           rintro _ w31 ⟨hS_, h0_, h1_, h2_, h3_, h4_⟩; replace BK226 := Aside0.mk h0_; replace BK227 := Aside0.mk h1_; replace BK228 := Aside0.mk h2_; replace BK245 := Aside0.mk h3_; replace HB := Aside0.mk h4_; clear h0_ h1_ h2_ h3_ h4_; have hHeld := hS_
           apply norm_
           · simp only [putAll, Act.put, sA_, sZ_, sS_]; rfl
           refine two_ (i := 3) (j := 10) (Ni := some 25) (Nj := some 9) #[true,true,true,true,true,false,false,false,false,false,false,false,false] #[true,true,true,false,true,false,false,false,false,false,true,false,false] rfl rfl rfl rfl (two_of HT_.out (by kernel_rfl)) (by decide) (by decide) (fun K hK => ?_) (fun K hK => ?_)
           ·
            refine gs_ Try.func10 #[.agg #[.int .i64 a1_0, .int .i64 a1_1, .bool a1_2]] ?_
            with_reducible refine (laws_toPoint.calls a1_0 a1_1 a1_2 t252 t253 t254 _ A9.out).mono ?_
            rintro e w32 ⟨rfl, hb⟩; refine ⟨_, rfl, ?_⟩; replace BK226 := bb_ BK226 hb; replace BK227 := bb_ BK227 hb; replace BK228 := bb_ BK228 hb; replace BK245 := bb_ BK245 hb; replace HB := bs_ HB hb; (try clear hb); refine hK.out _ _ ⟨bc_ BK226 0, bc_ BK226 1, bc_ BK226 2, bc_ BK226 3, bc_ BK226 4, bc_ BK226 5, bc_ BK227 0, bc_ BK227 1, bc_ BK227 2, bc_ BK228 0, bc_ BK228 1, bc_ BK228 2⟩ (fun hHeld => ?_); clear hK K
            apply norm_
            · show Act.put _ (some 25) _ = _; simp only [Act.put, sA_, sZ_, sS_, i64_w, i32_w]; rfl
            exact nm_ (hJ1_3 () _ ⟨hHeld, (bk_ BK226), (bk_ BK227), (bk_ BK228), (bk_ BK245), (bw_ HB)⟩)
           ·
            refine box_step ?hg (N := 9) ?hd (cs := #[.int .i64 0, .int .i64 0, .bool false]) (t := 26) ?hr ?_; (case hd => rfl); (case hg => rfl); (case hr => first | (go_simp; done) | (go_simp; rfl))
            intro gb262 hg w32 hbox hb; have BK262 := Aside0.mk hbox; have GW262 := ge_ HB hg; have GE262 := ge_ HB hg; have NB226_262 := nl_ BK226 hg; have NB262_226 := nr_ BK226 hg; have NB227_262 := nl_ BK227 hg; have NB262_227 := nr_ BK227 hg; have NB228_262 := nl_ BK228 hg; have NB262_228 := nr_ BK228 hg; have NB245_262 := nl_ BK245 hg; have NB262_245 := nr_ BK245 hg; replace BK226 := bb_ BK226 hb; replace BK227 := bb_ BK227 hb; replace BK228 := bb_ BK228 hb; replace BK245 := bb_ BK245 hb; replace HB := bs_ HB hb; clear hb hbox hg; refine hK.out _ _ ⟨bc_ BK226 0, bc_ BK226 1, bc_ BK226 2, bc_ BK226 3, bc_ BK226 4, bc_ BK226 5, bc_ BK227 0, bc_ BK227 1, bc_ BK227 2, bc_ BK228 0, bc_ BK228 1, bc_ BK228 2⟩ (fun hHeld => ?_); clear hK K
            apply norm_
            · show Act.put _ (some 9) _ = _; simp only [Act.put, sA_, sZ_, sS_, i64_w, i32_w]; rfl
            exact nm_ (hJ1_10 (gb262) _ ⟨hHeld, (bk_ BK226), (bk_ BK227), (bk_ BK228), (bk_ BK245), (bk_ BK262), GW262.out, GE262.out, NB226_262.out, NB262_226.out, NB227_262.out, NB262_227.out, NB228_262.out, NB262_228.out, NB245_262.out, NB262_245.out, (bw_ HB)⟩)
         ·
          rintro gb262 w32 ⟨hS_, h0_, h1_, h2_, h3_, h4_, h5_, h6_, h7_, h8_, h9_, h10_, h11_, h12_, h13_, h14_, h15_⟩; replace BK226 := Aside0.mk h0_; replace BK227 := Aside0.mk h1_; replace BK228 := Aside0.mk h2_; replace BK245 := Aside0.mk h3_; have BK262 := Aside0.mk h4_; have GW262 := Aside0.mk h5_; have GE262 := Aside0.mk h6_; have NB226_262 := Aside0.mk h7_; have NB262_226 := Aside0.mk h8_; have NB227_262 := Aside0.mk h9_; have NB262_227 := Aside0.mk h10_; have NB228_262 := Aside0.mk h11_; have NB262_228 := Aside0.mk h12_; have NB245_262 := Aside0.mk h13_; have NB262_245 := Aside0.mk h14_; replace HB := Aside0.mk h15_; clear h0_ h1_ h2_ h3_ h4_ h5_ h6_ h7_ h8_ h9_ h10_ h11_ h12_ h13_ h14_ h15_; have hHeld := hS_
          apply norm_
          · simp only [putAll, Act.put, sA_, sZ_, sS_]; rfl
          refine one_ (i := 3) (N := some 25) #[true,true,true,true,true,false,false,false,false,false,true,false,false] rfl rfl (one_of HT_.out (by kernel_rfl)) (by decide) (fun K hK => ?_); refine gs_ Try.func10 #[.agg #[.int .i64 a1_0, .int .i64 a1_1, .bool a1_2]] ?_
          with_reducible refine (laws_toPoint.calls a1_0 a1_1 a1_2 t252 t253 t254 _ A9.out).mono ?_
          rintro e w33 ⟨rfl, hb⟩; refine ⟨_, rfl, ?_⟩; replace BK226 := bb_ BK226 hb; replace BK227 := bb_ BK227 hb; replace BK228 := bb_ BK228 hb; replace BK245 := bb_ BK245 hb; replace BK262 := bb_ BK262 hb; replace HB := bs_ HB hb; (try clear hb); refine hK.out _ _ ⟨bc_ BK226 0, bc_ BK226 1, bc_ BK226 2, bc_ BK226 3, bc_ BK226 4, bc_ BK226 5, bc_ BK227 0, bc_ BK227 1, bc_ BK227 2, bc_ BK228 0, bc_ BK228 1, bc_ BK228 2⟩ (fun hHeld => ?_); clear hK K
          apply norm_
          · show Act.put _ (some 25) _ = _; simp only [Act.put, sA_, sZ_, sS_, i64_w, i32_w]; rfl
          exact nm_ (hJ1_3_10 (gb262) _ ⟨hHeld, (bk_ BK226), (bk_ BK227), (bk_ BK228), (bk_ BK245), (bk_ BK262), GW262.out, GE262.out, NB226_262.out, NB262_226.out, NB227_262.out, NB262_227.out, NB228_262.out, NB262_228.out, NB245_262.out, NB262_245.out, (bw_ HB)⟩)
        ·
         rintro _ w32 ⟨hS_, h0_, h1_, h2_, h3_, h4_⟩; replace BK226 := Aside0.mk h0_; replace BK227 := Aside0.mk h1_; replace BK228 := Aside0.mk h2_; replace BK245 := Aside0.mk h3_; replace HB := Aside0.mk h4_; clear h0_ h1_ h2_ h3_ h4_; have hHeld := hS_
         apply norm_
         · simp only [putAll, Act.put, sA_, sZ_, sS_]; rfl
         refine two_ (i := 5) (j := 10) (Ni := some 27) (Nj := some 9) #[true,true,true,true,true,true,false,false,false,false,false,false,false] #[true,true,true,true,true,false,false,false,false,false,true,false,false] rfl rfl rfl rfl (two_of HT_.out (by kernel_rfl)) (by decide) (by decide) (fun K hK => ?_) (fun K hK => ?_)
         ·
          refine gs_ Try.func10 #[.agg #[.int .i64 a2_0, .int .i64 a2_1, .bool a2_2]] ?_
          with_reducible refine (laws_toPoint.calls a2_0 a2_1 a2_2 t255 t256 t257 _ A10.out).mono ?_
          rintro e w33 ⟨rfl, hb⟩; refine ⟨_, rfl, ?_⟩; replace BK226 := bb_ BK226 hb; replace BK227 := bb_ BK227 hb; replace BK228 := bb_ BK228 hb; replace BK245 := bb_ BK245 hb; replace HB := bs_ HB hb; (try clear hb); refine hK.out _ _ ⟨bc_ BK226 0, bc_ BK226 1, bc_ BK226 2, bc_ BK226 3, bc_ BK226 4, bc_ BK226 5, bc_ BK227 0, bc_ BK227 1, bc_ BK227 2, bc_ BK228 0, bc_ BK228 1, bc_ BK228 2⟩ (fun hHeld => ?_); clear hK K
          apply norm_
          · show Act.put _ (some 27) _ = _; simp only [Act.put, sA_, sZ_, sS_, i64_w, i32_w]; rfl
          exact nm_ (hJ1_3_5 () _ ⟨hHeld, (bk_ BK226), (bk_ BK227), (bk_ BK228), (bk_ BK245), (bw_ HB)⟩)
         ·
          refine box_step ?hg (N := 9) ?hd (cs := #[.int .i64 0, .int .i64 0, .bool false]) (t := 26) ?hr ?_; (case hd => rfl); (case hg => rfl); (case hr => first | (go_simp; done) | (go_simp; rfl))
          intro gb262 hg w33 hbox hb; have BK262 := Aside0.mk hbox; have GW262 := ge_ HB hg; have GE262 := ge_ HB hg; have NB226_262 := nl_ BK226 hg; have NB262_226 := nr_ BK226 hg; have NB227_262 := nl_ BK227 hg; have NB262_227 := nr_ BK227 hg; have NB228_262 := nl_ BK228 hg; have NB262_228 := nr_ BK228 hg; have NB245_262 := nl_ BK245 hg; have NB262_245 := nr_ BK245 hg; replace BK226 := bb_ BK226 hb; replace BK227 := bb_ BK227 hb; replace BK228 := bb_ BK228 hb; replace BK245 := bb_ BK245 hb; replace HB := bs_ HB hb; clear hb hbox hg; refine hK.out _ _ ⟨bc_ BK226 0, bc_ BK226 1, bc_ BK226 2, bc_ BK226 3, bc_ BK226 4, bc_ BK226 5, bc_ BK227 0, bc_ BK227 1, bc_ BK227 2, bc_ BK228 0, bc_ BK228 1, bc_ BK228 2⟩ (fun hHeld => ?_); clear hK K
          apply norm_
          · show Act.put _ (some 9) _ = _; simp only [Act.put, sA_, sZ_, sS_, i64_w, i32_w]; rfl
          exact nm_ (hJ1_3_10 (gb262) _ ⟨hHeld, (bk_ BK226), (bk_ BK227), (bk_ BK228), (bk_ BK245), (bk_ BK262), GW262.out, GE262.out, NB226_262.out, NB262_226.out, NB227_262.out, NB262_227.out, NB228_262.out, NB262_228.out, NB245_262.out, NB262_245.out, (bw_ HB)⟩)
       ·
        rintro gb262 w33 ⟨hS_, h0_, h1_, h2_, h3_, h4_, h5_, h6_, h7_, h8_, h9_, h10_, h11_, h12_, h13_, h14_, h15_⟩; replace BK226 := Aside0.mk h0_; replace BK227 := Aside0.mk h1_; replace BK228 := Aside0.mk h2_; replace BK245 := Aside0.mk h3_; have BK262 := Aside0.mk h4_; have GW262 := Aside0.mk h5_; have GE262 := Aside0.mk h6_; have NB226_262 := Aside0.mk h7_; have NB262_226 := Aside0.mk h8_; have NB227_262 := Aside0.mk h9_; have NB262_227 := Aside0.mk h10_; have NB228_262 := Aside0.mk h11_; have NB262_228 := Aside0.mk h12_; have NB245_262 := Aside0.mk h13_; have NB262_245 := Aside0.mk h14_; replace HB := Aside0.mk h15_; clear h0_ h1_ h2_ h3_ h4_ h5_ h6_ h7_ h8_ h9_ h10_ h11_ h12_ h13_ h14_ h15_; have hHeld := hS_
        apply norm_
        · simp only [putAll, Act.put, sA_, sZ_, sS_]; rfl
        refine one_ (i := 5) (N := some 27) #[true,true,true,true,true,true,false,false,false,false,true,false,false] rfl rfl (one_of HT_.out (by kernel_rfl)) (by decide) (fun K hK => ?_); refine gs_ Try.func10 #[.agg #[.int .i64 a2_0, .int .i64 a2_1, .bool a2_2]] ?_
        with_reducible refine (laws_toPoint.calls a2_0 a2_1 a2_2 t255 t256 t257 _ A10.out).mono ?_
        rintro e w34 ⟨rfl, hb⟩; refine ⟨_, rfl, ?_⟩; replace BK226 := bb_ BK226 hb; replace BK227 := bb_ BK227 hb; replace BK228 := bb_ BK228 hb; replace BK245 := bb_ BK245 hb; replace BK262 := bb_ BK262 hb; replace HB := bs_ HB hb; (try clear hb); refine hK.out _ _ ⟨bc_ BK226 0, bc_ BK226 1, bc_ BK226 2, bc_ BK226 3, bc_ BK226 4, bc_ BK226 5, bc_ BK227 0, bc_ BK227 1, bc_ BK227 2, bc_ BK228 0, bc_ BK228 1, bc_ BK228 2⟩ (fun hHeld => ?_); clear hK K
        apply norm_
        · show Act.put _ (some 27) _ = _; simp only [Act.put, sA_, sZ_, sS_, i64_w, i32_w]; rfl
        exact nm_ (hJ1_3_5_10 (gb262) _ ⟨hHeld, (bk_ BK226), (bk_ BK227), (bk_ BK228), (bk_ BK245), (bk_ BK262), GW262.out, GE262.out, NB226_262.out, NB262_226.out, NB227_262.out, NB262_227.out, NB228_262.out, NB262_228.out, NB245_262.out, NB262_245.out, (bw_ HB)⟩)
      ·
       rintro _ w33 ⟨hS_, h0_, h1_, h2_, h3_, h4_⟩; replace BK226 := Aside0.mk h0_; replace BK227 := Aside0.mk h1_; replace BK228 := Aside0.mk h2_; replace BK245 := Aside0.mk h3_; replace HB := Aside0.mk h4_; clear h0_ h1_ h2_ h3_ h4_; have hHeld := hS_
       apply norm_
       · simp only [putAll, Act.put, sA_, sZ_, sS_]; rfl
       refine two_ (i := 6) (j := 10) (Ni := some 28) (Nj := some 9) #[true,true,true,true,true,true,true,false,false,false,false,false,false] #[true,true,true,true,true,true,false,false,false,false,true,false,false] rfl rfl rfl rfl (two_of HT_.out (by kernel_rfl)) (by decide) (by decide) (fun K hK => ?_) (fun K hK => ?_)
       ·
        refine gs_ Try.func11 #[.agg #[.int .i64 t246, .int .i64 t247, .int .i64 t248, .int .i64 t249, .int .i64 t250, .int .i64 t251], .agg #[.int .i64 t252, .int .i64 t253, .bool t254], .agg #[.int .i64 t255, .int .i64 t256, .bool t257]] ?_
        with_reducible refine (impl_PointAdd.calls k t246 t247 t248 t249 t250 t251 t252 t253 t254 t255 t256 t257 t258 t259 t260 t261 _ A11.out).mono ?_
        rintro e w34 ⟨rfl, hb⟩; refine ⟨_, rfl, ?_⟩; replace BK226 := bb_ BK226 hb; replace BK227 := bb_ BK227 hb; replace BK228 := bb_ BK228 hb; replace BK245 := bb_ BK245 hb; replace HB := bs_ HB hb; (try clear hb); refine hK.out _ _ ⟨bc_ BK226 0, bc_ BK226 1, bc_ BK226 2, bc_ BK226 3, bc_ BK226 4, bc_ BK226 5, bc_ BK227 0, bc_ BK227 1, bc_ BK227 2, bc_ BK228 0, bc_ BK228 1, bc_ BK228 2⟩ (fun hHeld => ?_); clear hK K
        apply norm_
        · show Act.put _ (some 28) _ = _; simp only [Act.put, sA_, sZ_, sS_, i64_w, i32_w]; rfl
        refine pure_ (i := 7) (N := some 21) (v := ?_) (a' := ?_) #[true,true,true,true,true,true,true,true,false,false,false,false,false] rfl rfl (any_of HT_.out (by kernel_rfl)) (fun _ _ _ h => h) (Or.inl ⟨by rfl, ?_⟩) ?_ ?_; rotate_left
        ·
         intro w'; go_simp
         with_reducible rfl
        rotate_left
        · simp only [Act.put, sA_, sZ_, sS_, i64_w, i32_w]; rfl
        refine pure_ (i := 8) (N := some 29) (v := ?_) (a' := ?_) #[true,true,true,true,true,true,true,true,true,false,false,false,false] rfl rfl (any_of HT_.out (by kernel_rfl)) (fun _ _ _ h => h) (Or.inl ⟨by rfl, ?_⟩) ?_ ?_; rotate_left
        ·
         intro w'; go_simp
         with_reducible rfl
        rotate_left
        · simp only [Act.put, sA_, sZ_, sS_, i64_w, i32_w]; rfl
        refine pure_ (i := 9) (N := some 30) (v := ?_) (a' := ?_) #[true,true,true,true,true,true,true,true,true,true,false,false,false] rfl rfl (any_of HT_.out (by kernel_rfl)) (fun _ _ _ h => h) (Or.inl ⟨by rfl, ?_⟩) ?_ ?_; rotate_left
        ·
         intro w'; go_simp
         with_reducible rfl
        rotate_left
        · simp only [Act.put, sA_, sZ_, sS_, i64_w, i32_w]; rfl
        exact nm_ (hJ1_3_5_6 () _ ⟨hHeld, (bk_ BK226), (bk_ BK227), (bk_ BK228), (bk_ BK245), (bw_ HB)⟩)
       ·
        refine box_step ?hg (N := 9) ?hd (cs := #[.int .i64 0, .int .i64 0, .bool false]) (t := 26) ?hr ?_; (case hd => rfl); (case hg => rfl); (case hr => first | (go_simp; done) | (go_simp; rfl))
        intro gb262 hg w34 hbox hb; have BK262 := Aside0.mk hbox; have GW262 := ge_ HB hg; have GE262 := ge_ HB hg; have NB226_262 := nl_ BK226 hg; have NB262_226 := nr_ BK226 hg; have NB227_262 := nl_ BK227 hg; have NB262_227 := nr_ BK227 hg; have NB228_262 := nl_ BK228 hg; have NB262_228 := nr_ BK228 hg; have NB245_262 := nl_ BK245 hg; have NB262_245 := nr_ BK245 hg; replace BK226 := bb_ BK226 hb; replace BK227 := bb_ BK227 hb; replace BK228 := bb_ BK228 hb; replace BK245 := bb_ BK245 hb; replace HB := bs_ HB hb; clear hb hbox hg; refine hK.out _ _ ⟨bc_ BK226 0, bc_ BK226 1, bc_ BK226 2, bc_ BK226 3, bc_ BK226 4, bc_ BK226 5, bc_ BK227 0, bc_ BK227 1, bc_ BK227 2, bc_ BK228 0, bc_ BK228 1, bc_ BK228 2⟩ (fun hHeld => ?_); clear hK K
        apply norm_
        · show Act.put _ (some 9) _ = _; simp only [Act.put, sA_, sZ_, sS_, i64_w, i32_w]; rfl
        exact nm_ (hJ1_3_5_10 (gb262) _ ⟨hHeld, (bk_ BK226), (bk_ BK227), (bk_ BK228), (bk_ BK245), (bk_ BK262), GW262.out, GE262.out, NB226_262.out, NB262_226.out, NB227_262.out, NB262_227.out, NB228_262.out, NB262_228.out, NB245_262.out, NB262_245.out, (bw_ HB)⟩)
     ·
      rintro gb262 w34 ⟨hS_, h0_, h1_, h2_, h3_, h4_, h5_, h6_, h7_, h8_, h9_, h10_, h11_, h12_, h13_, h14_, h15_⟩; replace BK226 := Aside0.mk h0_; replace BK227 := Aside0.mk h1_; replace BK228 := Aside0.mk h2_; replace BK245 := Aside0.mk h3_; have BK262 := Aside0.mk h4_; have GW262 := Aside0.mk h5_; have GE262 := Aside0.mk h6_; have NB226_262 := Aside0.mk h7_; have NB262_226 := Aside0.mk h8_; have NB227_262 := Aside0.mk h9_; have NB262_227 := Aside0.mk h10_; have NB228_262 := Aside0.mk h11_; have NB262_228 := Aside0.mk h12_; have NB245_262 := Aside0.mk h13_; have NB262_245 := Aside0.mk h14_; replace HB := Aside0.mk h15_; clear h0_ h1_ h2_ h3_ h4_ h5_ h6_ h7_ h8_ h9_ h10_ h11_ h12_ h13_ h14_ h15_; have hHeld := hS_
      apply norm_
      · simp only [putAll, Act.put, sA_, sZ_, sS_]; rfl
      refine one_ (i := 6) (N := some 28) #[true,true,true,true,true,true,true,false,false,false,true,false,false] rfl rfl (one_of HT_.out (by kernel_rfl)) (by decide) (fun K hK => ?_); refine gs_ Try.func11 #[.agg #[.int .i64 t246, .int .i64 t247, .int .i64 t248, .int .i64 t249, .int .i64 t250, .int .i64 t251], .agg #[.int .i64 t252, .int .i64 t253, .bool t254], .agg #[.int .i64 t255, .int .i64 t256, .bool t257]] ?_
      with_reducible refine (impl_PointAdd.calls k t246 t247 t248 t249 t250 t251 t252 t253 t254 t255 t256 t257 t258 t259 t260 t261 _ A11.out).mono ?_
      rintro e w35 ⟨rfl, hb⟩; refine ⟨_, rfl, ?_⟩; replace BK226 := bb_ BK226 hb; replace BK227 := bb_ BK227 hb; replace BK228 := bb_ BK228 hb; replace BK245 := bb_ BK245 hb; replace BK262 := bb_ BK262 hb; replace HB := bs_ HB hb; (try clear hb); refine hK.out _ _ ⟨bc_ BK226 0, bc_ BK226 1, bc_ BK226 2, bc_ BK226 3, bc_ BK226 4, bc_ BK226 5, bc_ BK227 0, bc_ BK227 1, bc_ BK227 2, bc_ BK228 0, bc_ BK228 1, bc_ BK228 2⟩ (fun hHeld => ?_); clear hK K
      apply norm_
      · show Act.put _ (some 28) _ = _; simp only [Act.put, sA_, sZ_, sS_, i64_w, i32_w]; rfl
      refine pure_ (i := 7) (N := some 21) (v := ?_) (a' := ?_) #[true,true,true,true,true,true,true,true,false,false,true,false,false] rfl rfl (any_of HT_.out (by kernel_rfl)) (fun _ _ _ h => h) (Or.inl ⟨by rfl, ?_⟩) ?_ ?_; rotate_left
      ·
       intro w'; go_simp
       with_reducible rfl
      rotate_left
      · simp only [Act.put, sA_, sZ_, sS_, i64_w, i32_w]; rfl
      refine pure_ (i := 8) (N := some 29) (v := ?_) (a' := ?_) #[true,true,true,true,true,true,true,true,true,false,true,false,false] rfl rfl (any_of HT_.out (by kernel_rfl)) (fun _ _ _ h => h) (Or.inl ⟨by rfl, ?_⟩) ?_ ?_; rotate_left
      ·
       intro w'; go_simp
       with_reducible rfl
      rotate_left
      · simp only [Act.put, sA_, sZ_, sS_, i64_w, i32_w]; rfl
      refine pure_ (i := 9) (N := some 30) (v := ?_) (a' := ?_) #[true,true,true,true,true,true,true,true,true,true,true,false,false] rfl rfl (any_of HT_.out (by kernel_rfl)) (fun _ _ _ h => h) (Or.inl ⟨by rfl, ?_⟩) ?_ ?_; rotate_left
      ·
       intro w'; go_simp
       with_reducible rfl
      rotate_left
      · simp only [Act.put, sA_, sZ_, sS_, i64_w, i32_w]; rfl
      exact nm_ (hJ1_3_5_6_10 (gb262) _ ⟨hHeld, (bk_ BK226), (bk_ BK227), (bk_ BK228), (bk_ BK245), (bk_ BK262), GW262.out, GE262.out, NB226_262.out, NB262_226.out, NB227_262.out, NB262_227.out, NB228_262.out, NB262_228.out, NB245_262.out, NB262_245.out, (bw_ HB)⟩)
    ·
     rintro _ w34 ⟨hS_, h0_, h1_, h2_, h3_, h4_⟩; replace BK226 := Aside0.mk h0_; replace BK227 := Aside0.mk h1_; replace BK228 := Aside0.mk h2_; replace BK245 := Aside0.mk h3_; replace HB := Aside0.mk h4_; clear h0_ h1_ h2_ h3_ h4_; have hHeld := hS_
     apply norm_
     · simp only [putAll, Act.put, sA_, sZ_, sS_]; rfl
     refine one_ (i := 10) (N := some 9) #[true,true,true,true,true,true,true,true,true,true,true,false,false] rfl rfl (one_of HT_.out (by kernel_rfl)) (by decide) (fun K hK => ?_); refine box_step ?hg (N := 9) ?hd (cs := #[.int .i64 0, .int .i64 0, .bool false]) (t := 26) ?hr ?_; (case hd => rfl); (case hg => rfl); (case hr => first | (go_simp; done) | (go_simp; rfl))
     intro gb262 hg w35 hbox hb; have BK262 := Aside0.mk hbox; have GW262 := ge_ HB hg; have GE262 := ge_ HB hg; have NB226_262 := nl_ BK226 hg; have NB262_226 := nr_ BK226 hg; have NB227_262 := nl_ BK227 hg; have NB262_227 := nr_ BK227 hg; have NB228_262 := nl_ BK228 hg; have NB262_228 := nr_ BK228 hg; have NB245_262 := nl_ BK245 hg; have NB262_245 := nr_ BK245 hg; replace BK226 := bb_ BK226 hb; replace BK227 := bb_ BK227 hb; replace BK228 := bb_ BK228 hb; replace BK245 := bb_ BK245 hb; replace HB := bs_ HB hb; clear hb hbox hg; refine hK.out _ _ ⟨bc_ BK226 0, bc_ BK226 1, bc_ BK226 2, bc_ BK226 3, bc_ BK226 4, bc_ BK226 5, bc_ BK227 0, bc_ BK227 1, bc_ BK227 2, bc_ BK228 0, bc_ BK228 1, bc_ BK228 2⟩ (fun hHeld => ?_); clear hK K
     apply norm_
     · show Act.put _ (some 9) _ = _; simp only [Act.put, sA_, sZ_, sS_, i64_w, i32_w]; rfl
     exact nm_ (hJ1_3_5_6_10 (gb262) _ ⟨hHeld, (bk_ BK226), (bk_ BK227), (bk_ BK228), (bk_ BK245), (bk_ BK262), GW262.out, GE262.out, NB226_262.out, NB262_226.out, NB227_262.out, NB262_227.out, NB228_262.out, NB262_228.out, NB245_262.out, NB262_245.out, (bw_ HB)⟩)
   rintro gb262 w35 ⟨hS_, h0_, h1_, h2_, h3_, h4_, h5_, h6_, h7_, h8_, h9_, h10_, h11_, h12_, h13_, h14_, h15_⟩; replace BK226 := Aside0.mk h0_; replace BK227 := Aside0.mk h1_; replace BK228 := Aside0.mk h2_; replace BK245 := Aside0.mk h3_; have BK262 := Aside0.mk h4_; have GW262 := Aside0.mk h5_; have GE262 := Aside0.mk h6_; have NB226_262 := Aside0.mk h7_; have NB262_226 := Aside0.mk h8_; have NB227_262 := Aside0.mk h9_; have NB262_227 := Aside0.mk h10_; have NB228_262 := Aside0.mk h11_; have NB262_228 := Aside0.mk h12_; have NB245_262 := Aside0.mk h13_; have NB262_245 := Aside0.mk h14_; replace HB := Aside0.mk h15_; clear h0_ h1_ h2_ h3_ h4_ h5_ h6_ h7_ h8_ h9_ h10_ h11_ h12_ h13_ h14_ h15_; have hHeld := hS_
   apply norm_
   · simp only [putAll, Act.put, sA_, sZ_, sS_]; rfl
   refine one_ (i := 11) (N := none) #[true,true,true,true,true,true,true,true,true,true,true,true,false] rfl rfl (one_of HT_.out (by kernel_rfl)) (by decide) (fun K hK => ?_)
   have hs36 : w35.cell? ⟨gb262, 0, none⟩ = some (.int .i64 0) := bc_ BK262 0
   have hfs36 := blk_frozen BK262.out 0; have hns36_0 := NB226_262.out; have hns36_1 := NB227_262.out; have hns36_2 := NB228_262.out; have hns36_3 := NB245_262.out; have hms36_0 := NB262_226.out; have hms36_1 := NB262_227.out; have hms36_2 := NB262_228.out; have hms36_3 := NB262_245.out
   have hs37 : w35.cell? ⟨gb262, 1, none⟩ = some (.int .i64 0) := bc_ BK262 1
   have hfs37 := blk_frozen BK262.out 1; have hns37_0 := NB226_262.out; have hns37_1 := NB227_262.out; have hns37_2 := NB228_262.out; have hns37_3 := NB245_262.out; have hms37_0 := NB262_226.out; have hms37_1 := NB262_227.out; have hms37_2 := NB262_228.out; have hms37_3 := NB262_245.out
   have hs38 : w35.cell? ⟨gb262, 2, none⟩ = some (.bool false) := bc_ BK262 2
   have hfs38 := blk_frozen BK262.out 2; have hns38_0 := NB226_262.out; have hns38_1 := NB227_262.out; have hns38_2 := NB228_262.out; have hns38_3 := NB245_262.out; have hms38_0 := NB262_226.out; have hms38_1 := NB262_227.out; have hms38_2 := NB262_228.out; have hms38_3 := NB262_245.out; refine skip_ (w1 := ?_) (by rfl) rfl ?_ ?_; rotate_left
   · go_simp; rfl
   refine hK.out _ _ ⟨((cell_far (p := ⟨gb262, _, none⟩) NB226_262.out _).trans (((cell_far (p := ⟨gb262, _, none⟩) NB226_262.out _).trans (((cell_far (p := ⟨gb262, _, none⟩) NB226_262.out _).trans (hHeld.1)))))), ((cell_far (p := ⟨gb262, _, none⟩) NB226_262.out _).trans (((cell_far (p := ⟨gb262, _, none⟩) NB226_262.out _).trans (((cell_far (p := ⟨gb262, _, none⟩) NB226_262.out _).trans (hHeld.2.1)))))), ((cell_far (p := ⟨gb262, _, none⟩) NB226_262.out _).trans (((cell_far (p := ⟨gb262, _, none⟩) NB226_262.out _).trans (((cell_far (p := ⟨gb262, _, none⟩) NB226_262.out _).trans (hHeld.2.2.1)))))), ((cell_far (p := ⟨gb262, _, none⟩) NB226_262.out _).trans (((cell_far (p := ⟨gb262, _, none⟩) NB226_262.out _).trans (((cell_far (p := ⟨gb262, _, none⟩) NB226_262.out _).trans (hHeld.2.2.2.1)))))), ((cell_far (p := ⟨gb262, _, none⟩) NB226_262.out _).trans (((cell_far (p := ⟨gb262, _, none⟩) NB226_262.out _).trans (((cell_far (p := ⟨gb262, _, none⟩) NB226_262.out _).trans (hHeld.2.2.2.2.1)))))), ((cell_far (p := ⟨gb262, _, none⟩) NB226_262.out _).trans (((cell_far (p := ⟨gb262, _, none⟩) NB226_262.out _).trans (((cell_far (p := ⟨gb262, _, none⟩) NB226_262.out _).trans (hHeld.2.2.2.2.2.1)))))), ((cell_far (p := ⟨gb262, _, none⟩) NB227_262.out _).trans (((cell_far (p := ⟨gb262, _, none⟩) NB227_262.out _).trans (((cell_far (p := ⟨gb262, _, none⟩) NB227_262.out _).trans (hHeld.2.2.2.2.2.2.1)))))), ((cell_far (p := ⟨gb262, _, none⟩) NB227_262.out _).trans (((cell_far (p := ⟨gb262, _, none⟩) NB227_262.out _).trans (((cell_far (p := ⟨gb262, _, none⟩) NB227_262.out _).trans (hHeld.2.2.2.2.2.2.2.1)))))), ((cell_far (p := ⟨gb262, _, none⟩) NB227_262.out _).trans (((cell_far (p := ⟨gb262, _, none⟩) NB227_262.out _).trans (((cell_far (p := ⟨gb262, _, none⟩) NB227_262.out _).trans (hHeld.2.2.2.2.2.2.2.2.1)))))), ((cell_far (p := ⟨gb262, _, none⟩) NB228_262.out _).trans (((cell_far (p := ⟨gb262, _, none⟩) NB228_262.out _).trans (((cell_far (p := ⟨gb262, _, none⟩) NB228_262.out _).trans (hHeld.2.2.2.2.2.2.2.2.2.1)))))), ((cell_far (p := ⟨gb262, _, none⟩) NB228_262.out _).trans (((cell_far (p := ⟨gb262, _, none⟩) NB228_262.out _).trans (((cell_far (p := ⟨gb262, _, none⟩) NB228_262.out _).trans (hHeld.2.2.2.2.2.2.2.2.2.2.1)))))), ((cell_far (p := ⟨gb262, _, none⟩) NB228_262.out _).trans (((cell_far (p := ⟨gb262, _, none⟩) NB228_262.out _).trans (((cell_far (p := ⟨gb262, _, none⟩) NB228_262.out _).trans (hHeld.2.2.2.2.2.2.2.2.2.2.2))))))⟩ (fun hHeld => ?_); clear hK K; refine pure_ (i := 12) (N := some 10) (v := ?_) (a' := ?_) #[true,true,true,true,true,true,true,true,true,true,true,true,true] rfl rfl (any_of HT_.out (by kernel_rfl)) (fun _ _ _ h => h) (Or.inl ⟨by rfl, ?_⟩) ?_ ?_; rotate_left
   ·
    intro w'; go_simp
    with_reducible rfl
   rotate_left
   · simp only [Act.put, sA_, sZ_, sS_, i64_w, i32_w]; rfl
   refine done_ (done_of HT_.out (by kernel_rfl)) ?_; have hnb39 := NB262_226.out; have hnc39 := NB226_262.out; have hnb40 := NB262_227.out; have hnc40 := NB227_262.out; have hnb41 := NB262_228.out; have hnc41 := NB228_262.out; have hnb42 := NB262_245.out; have hnc42 := NB245_262.out
   have hcz43_0 : w35.cell? ⟨gb262, 0, none⟩ = some (.int .i64 0) := bc_ BK262 0
   have hcz43_1 : w35.cell? ⟨gb262, 1, none⟩ = some (.int .i64 0) := bc_ BK262 1
   have hcz43_2 : w35.cell? ⟨gb262, 2, none⟩ = some (.bool false) := bc_ BK262 2
   have hfz43_0 := blk_frozen BK262.out 0; have hfz43_1 := blk_frozen BK262.out 1; have hfz43_2 := blk_frozen BK262.out 2; have hnb44 := NB245_226.out; have hnc44 := NB226_245.out; have hnb45 := NB245_227.out; have hnc45 := NB227_245.out; have hnb46 := NB245_228.out; have hnc46 := NB228_245.out
   have hcz47_0 : w35.cell? ⟨gb245, 0, none⟩ = some (.int .i64 t241) := bc_ BK245 0
   have hcz47_1 : w35.cell? ⟨gb245, 1, none⟩ = some (.int .i64 t242) := bc_ BK245 1
   have hcz47_2 : w35.cell? ⟨gb245, 2, none⟩ = some (.bool t243) := bc_ BK245 2
   have hfz47_0 := blk_frozen BK245.out 0; have hfz47_1 := blk_frozen BK245.out 1; have hfz47_2 := blk_frozen BK245.out 2
   try go_wp2_with (first | ((with_reducible refine gate_callee (f := 12) rfl ?_); refine goesL_ (some 33) rfl rfl Try.func12 (by kernel_rfl) rfl #[.agg #[.int .i64 t258, .int .i64 t259, .bool t260], .agg #[.int .i64 t241, .int .i64 t242, .bool t243]] rfl (by (try simp only [List.map_toArray, List.map_cons, List.map_nil]); first | done | rfl | (simp only [List.length_drop, List.length_take]; rfl)) ?_; (with_reducible refine (laws_eqPoint.calls t258 t259 t260 t241 t242 t243 true _ A12.out).mono ?_); rintro e w48 ⟨rfl, hb⟩; refine ⟨_, rfl, ?_⟩; have n0_ := Aside0.mk (blk_below (g := gb226) (o := .cells #[.int .i64 a0_0, .int .i64 a0_1, .int .i64 a0_2, .int .i64 a0_3, .int .i64 a0_4, .int .i64 a0_5] 23 (0, 0)) (bf_ BK226) hb); have n1_ := Aside0.mk (blk_below (g := gb227) (o := .cells #[.int .i64 a1_0, .int .i64 a1_1, .bool a1_2] 25 (0, 0)) (bf_ BK227) hb); have n2_ := Aside0.mk (blk_below (g := gb228) (o := .cells #[.int .i64 a2_0, .int .i64 a2_1, .bool a2_2] 25 (0, 0)) (bf_ BK228) hb); have n3_ := Aside0.mk (blk_below (g := gb245) (o := .cells #[.int .i64 t241, .int .i64 t242, .bool t243] 26 (0, 0)) (bf_ BK245) hb); have n4_ := Aside0.mk (blk_below (g := gb262) (o := .cells #[.int .i64 t258, .int .i64 t259, .bool t260] 26 (0, 0)) (by (with_reducible repeat (first | refine blk_drewN ?_ _ | refine blk_drew ?_ | refine blk_alloc ?_ _)); refine blk_put (cs := #[.int .i64 t258, .int .i64 t259, .bool false]) ?_ 2 _ rfl; (with_reducible repeat (first | refine blk_drewN ?_ _ | refine blk_drew ?_ | refine blk_alloc ?_ _)); refine blk_put (cs := #[.int .i64 t258, .int .i64 0, .bool false]) ?_ 1 _ rfl; (with_reducible repeat (first | refine blk_drewN ?_ _ | refine blk_drew ?_ | refine blk_alloc ?_ _)); refine blk_put (cs := #[.int .i64 0, .int .i64 0, .bool false]) ?_ 0 _ rfl; (with_reducible repeat (first | refine blk_drewN ?_ _ | refine blk_drew ?_ | refine blk_alloc ?_ _)); exact BK262.out) hb); have n5_ := bs_ HB hb; clear BK226; clear BK227; clear BK228; clear BK245; clear BK262; clear HB; have BK226 := n0_; have BK227 := n1_; have BK228 := n2_; have BK245 := n3_; have BK262 := n4_; have HB := n5_; clear n0_ n1_ n2_ n3_ n4_ n5_; (try clear hb); (try clear hb2); (try clear hk); (try clear hi)))
   go_ret
   exact ⟨by first | rfl | (simp [errW_none, errW_some] <;> rfl) | (simp [*, errW_none, errW_some] <;> rfl), by repeat (first | (with_reducible first | exact HB.out | apply below_alloc | apply pw_below_drewN | apply below_drew1 | refine below_set ?_ GE226.out | refine below_set ?_ GE227.out | refine below_set ?_ GE228.out | refine below_set ?_ GE245.out | refine below_set ?_ GE262.out) | exact HB.out)⟩
  ·
   rw [if_neg c14] at H
   have c14b0 : (t261 != t244) = false := by simpa using c14
   (try (have c14b1 : decide (t261 = t244) = true := by simpa using c14)); (try (have c14b2 : (t261 == t244) = true := by simpa using c14)); clear c14; obtain rfl := Option.some.inj H
   go_enter Try.func3, Try.ntmps3
   try go_wp2_with (first | ((with_reducible refine gate_dst (N := 3) rfl ?_); refine box_event ?hg (N := 3) ?hd (cs := #[.int .i64 a0_0, .int .i64 a0_1, .int .i64 a0_2, .int .i64 a0_3, .int .i64 a0_4, .int .i64 a0_5]) (t := 23) ?hr ?_; (case hd => rfl); (case hg => rfl); (case hr => first | (go_simp; done) | (go_simp; rfl)); intro gb226 hg w49 hbox hb; have BK226 := Aside0.mk hbox; have GW226 := ge_ HB hg; have GE226 := ge_ HB hg; replace HB := bs_ HB hb; clear hb hbox hg) | ((with_reducible refine gate_dst (N := 4) rfl ?_); refine box_event ?hg (N := 4) ?hd (cs := #[.int .i64 a1_0, .int .i64 a1_1, .bool a1_2]) (t := 25) ?hr ?_; (case hd => rfl); (case hg => rfl); (case hr => first | (go_simp; done) | (go_simp; rfl)); intro gb227 hg w50 hbox hb; have BK227 := Aside0.mk hbox; have GW227 := ge_ HB hg; have GE227 := ge_ HB hg; have NB226_227 := nl_ BK226 hg; have NB227_226 := nr_ BK226 hg; replace BK226 := bb_ BK226 hb; replace HB := bs_ HB hb; clear hb hbox hg) | ((with_reducible refine gate_dst (N := 5) rfl ?_); refine box_event ?hg (N := 5) ?hd (cs := #[.int .i64 a2_0, .int .i64 a2_1, .bool a2_2]) (t := 25) ?hr ?_; (case hd => rfl); (case hg => rfl); (case hr => first | (go_simp; done) | (go_simp; rfl)); intro gb228 hg w51 hbox hb; have BK228 := Aside0.mk hbox; have GW228 := ge_ HB hg; have GE228 := ge_ HB hg; have NB226_228 := nl_ BK226 hg; have NB228_226 := nr_ BK226 hg; have NB227_228 := nl_ BK227 hg; have NB228_227 := nr_ BK227 hg; replace BK226 := bb_ BK226 hb; replace BK227 := bb_ BK227 hb; replace HB := bs_ HB hb; clear hb hbox hg))
   replace BK226 := Aside0.mk (blk_drew BK226.out); replace BK227 := Aside0.mk (blk_drew BK227.out); replace BK228 := Aside0.mk (blk_drew BK228.out); replace HB := Aside0.mk (below_drew1 HB.out); refine start_ (n := 13) (S := fun w' => w'.cell? ⟨gb226, 0, none⟩ = some (.int .i64 a0_0) ∧ w'.cell? ⟨gb226, 1, none⟩ = some (.int .i64 a0_1) ∧ w'.cell? ⟨gb226, 2, none⟩ = some (.int .i64 a0_2) ∧ w'.cell? ⟨gb226, 3, none⟩ = some (.int .i64 a0_3) ∧ w'.cell? ⟨gb226, 4, none⟩ = some (.int .i64 a0_4) ∧ w'.cell? ⟨gb226, 5, none⟩ = some (.int .i64 a0_5) ∧ w'.cell? ⟨gb227, 0, none⟩ = some (.int .i64 a1_0) ∧ w'.cell? ⟨gb227, 1, none⟩ = some (.int .i64 a1_1) ∧ w'.cell? ⟨gb227, 2, none⟩ = some (.bool a1_2) ∧ w'.cell? ⟨gb228, 0, none⟩ = some (.int .i64 a2_0) ∧ w'.cell? ⟨gb228, 1, none⟩ = some (.int .i64 a2_1) ∧ w'.cell? ⟨gb228, 2, none⟩ = some (.bool a2_2)) (ds := []) #[false,false,false,false,false,false,false,false,false,false,false,false,false] (by kernel_rfl) rfl rfl ⟨bc_ BK226 0, bc_ BK226 1, bc_ BK226 2, bc_ BK226 3, bc_ BK226 4, bc_ BK226 5, bc_ BK227 0, bc_ BK227 1, bc_ BK227 2, bc_ BK228 0, bc_ BK228 1, bc_ BK228 2⟩ (fun hHeld => ?_); refine with_tabW laws_FnExactPointAdd.tab1 laws_FnExactPointAdd.bits1 (fun HT_ HW_ => ?_)
   generalize w51.drew = w52 at BK226 BK227 BK228 HB hHeld ⊢
   refine take_ (i := 0) (N := some 12) (v := ?_) (a' := ?_) #[true,false,false,false,false,false,false,false,false,false,false,false,false] rfl rfl (take_ofW HT_.out HW_.out (by kernel_rfl)) (fun _ _ _ h => h) (Or.inl ⟨by rfl, ?_⟩) hHeld ?_ ?_; rotate_left
   ·
    rintro w' ⟨s0, s1, s2, s3, s4, s5, s6, s7, s8, s9, s10, s11⟩; go_simp
    with_reducible rfl
   rotate_left
   · simp only [Act.put, sA_, sZ_, sS_, i64_w, i32_w]; rfl
   refine take_ (i := 2) (N := some 14) (v := ?_) (a' := ?_) #[true,false,true,false,false,false,false,false,false,false,false,false,false] rfl rfl (take_ofW HT_.out HW_.out (by kernel_rfl)) (fun _ _ _ h => h) (Or.inl ⟨by rfl, ?_⟩) hHeld ?_ ?_; rotate_left
   ·
    rintro w' ⟨s0, s1, s2, s3, s4, s5, s6, s7, s8, s9, s10, s11⟩; go_simp
    with_reducible rfl
   rotate_left
   · simp only [Act.put, sA_, sZ_, sS_, i64_w, i32_w]; rfl
   refine take_ (i := 4) (N := some 16) (v := ?_) (a' := ?_) #[true,false,true,false,true,false,false,false,false,false,false,false,false] rfl rfl (take_ofW HT_.out HW_.out (by kernel_rfl)) (fun _ _ _ h => h) (Or.inl ⟨by rfl, ?_⟩) hHeld ?_ ?_; rotate_left
   ·
    rintro w' ⟨s0, s1, s2, s3, s4, s5, s6, s7, s8, s9, s10, s11⟩; go_simp
    with_reducible rfl
   rotate_left
   · simp only [Act.put, sA_, sZ_, sS_, i64_w, i32_w]; rfl
   refine join_ (σ := Nat) 2 #[true,true,true,true,true,true,true,true,true,true,true,false,false] (fun s_ => [(13, .agg #[.int .i64 t229, .int .i64 t230, .int .i64 t231, .int .i64 t232, .int .i64 t233, .int .i64 t234]), (15, .agg #[.int .i64 t235, .int .i64 t236, .bool t237]), (17, .agg #[.int .i64 t238, .int .i64 t239, .bool t240]), (18, .tuple #[.agg #[.int .i64 t241, .int .i64 t242, .bool t243], .bool t244]), (7, .pointer (some ⟨s_, 0, none⟩)), (11, .tuple #[.agg #[.int .i64 t241, .int .i64 t242, .bool t243], .bool t244]), (19, .agg #[.int .i64 t241, .int .i64 t242, .bool t243]), (20, .bool t244)]) (fun s_ w' => (CS0 gb226 gb227 gb228 a0_0 a0_1 a0_2 a0_3 a0_4 a0_5 a1_0 a1_1 a1_2 a2_0 a2_1 a2_2 w') ∧ (w'.heap[gb226]? = some (.cells #[.int .i64 a0_0, .int .i64 a0_1, .int .i64 a0_2, .int .i64 a0_3, .int .i64 a0_4, .int .i64 a0_5] 23 (0, 0))) ∧ (w'.heap[gb227]? = some (.cells #[.int .i64 a1_0, .int .i64 a1_1, .bool a1_2] 25 (0, 0))) ∧ (w'.heap[gb228]? = some (.cells #[.int .i64 a2_0, .int .i64 a2_1, .bool a2_2] 25 (0, 0))) ∧ (w'.heap[s_]? = some (.cells #[.int .i64 0, .int .i64 0, .bool false] 26 (0, 0))) ∧ (w.heap.size ≤ s_) ∧ (w.heap.size ≤ s_) ∧ (gb226 ≠ s_) ∧ (s_ ≠ gb226) ∧ (gb227 ≠ s_) ∧ (s_ ≠ gb227) ∧ (gb228 ≠ s_) ∧ (s_ ≠ gb228) ∧ (Below w.heap.size w w')) ?_ ?_; rotate_left
   ·
    intro hJ1_3_5_6_10; refine join_ (σ := Unit) 3 #[true,true,true,true,true,true,true,true,true,true,false,false,false] (fun s_ => [(13, .agg #[.int .i64 t229, .int .i64 t230, .int .i64 t231, .int .i64 t232, .int .i64 t233, .int .i64 t234]), (15, .agg #[.int .i64 t235, .int .i64 t236, .bool t237]), (17, .agg #[.int .i64 t238, .int .i64 t239, .bool t240]), (18, .tuple #[.agg #[.int .i64 t241, .int .i64 t242, .bool t243], .bool t244]), (11, .tuple #[.agg #[.int .i64 t241, .int .i64 t242, .bool t243], .bool t244]), (19, .agg #[.int .i64 t241, .int .i64 t242, .bool t243]), (20, .bool t244)]) (fun s_ w' => (CS0 gb226 gb227 gb228 a0_0 a0_1 a0_2 a0_3 a0_4 a0_5 a1_0 a1_1 a1_2 a2_0 a2_1 a2_2 w') ∧ (w'.heap[gb226]? = some (.cells #[.int .i64 a0_0, .int .i64 a0_1, .int .i64 a0_2, .int .i64 a0_3, .int .i64 a0_4, .int .i64 a0_5] 23 (0, 0))) ∧ (w'.heap[gb227]? = some (.cells #[.int .i64 a1_0, .int .i64 a1_1, .bool a1_2] 25 (0, 0))) ∧ (w'.heap[gb228]? = some (.cells #[.int .i64 a2_0, .int .i64 a2_1, .bool a2_2] 25 (0, 0))) ∧ (Below w.heap.size w w')) ?_ ?_; rotate_left
    ·
     intro hJ1_3_5_6; refine join_ (σ := Nat) 6 #[true,true,true,true,true,true,false,false,false,false,true,false,false] (fun s_ => [(13, .agg #[.int .i64 t229, .int .i64 t230, .int .i64 t231, .int .i64 t232, .int .i64 t233, .int .i64 t234]), (15, .agg #[.int .i64 t235, .int .i64 t236, .bool t237]), (17, .agg #[.int .i64 t238, .int .i64 t239, .bool t240]), (7, .pointer (some ⟨s_, 0, none⟩))]) (fun s_ w' => (CS0 gb226 gb227 gb228 a0_0 a0_1 a0_2 a0_3 a0_4 a0_5 a1_0 a1_1 a1_2 a2_0 a2_1 a2_2 w') ∧ (w'.heap[gb226]? = some (.cells #[.int .i64 a0_0, .int .i64 a0_1, .int .i64 a0_2, .int .i64 a0_3, .int .i64 a0_4, .int .i64 a0_5] 23 (0, 0))) ∧ (w'.heap[gb227]? = some (.cells #[.int .i64 a1_0, .int .i64 a1_1, .bool a1_2] 25 (0, 0))) ∧ (w'.heap[gb228]? = some (.cells #[.int .i64 a2_0, .int .i64 a2_1, .bool a2_2] 25 (0, 0))) ∧ (w'.heap[s_]? = some (.cells #[.int .i64 0, .int .i64 0, .bool false] 26 (0, 0))) ∧ (w.heap.size ≤ s_) ∧ (w.heap.size ≤ s_) ∧ (gb226 ≠ s_) ∧ (s_ ≠ gb226) ∧ (gb227 ≠ s_) ∧ (s_ ≠ gb227) ∧ (gb228 ≠ s_) ∧ (s_ ≠ gb228) ∧ (Below w.heap.size w w')) ?_ ?_; rotate_left
     ·
      intro hJ1_3_5_10; refine join_ (σ := Unit) 7 #[true,true,true,true,true,true,false,false,false,false,false,false,false] (fun s_ => [(13, .agg #[.int .i64 t229, .int .i64 t230, .int .i64 t231, .int .i64 t232, .int .i64 t233, .int .i64 t234]), (15, .agg #[.int .i64 t235, .int .i64 t236, .bool t237]), (17, .agg #[.int .i64 t238, .int .i64 t239, .bool t240])]) (fun s_ w' => (CS0 gb226 gb227 gb228 a0_0 a0_1 a0_2 a0_3 a0_4 a0_5 a1_0 a1_1 a1_2 a2_0 a2_1 a2_2 w') ∧ (w'.heap[gb226]? = some (.cells #[.int .i64 a0_0, .int .i64 a0_1, .int .i64 a0_2, .int .i64 a0_3, .int .i64 a0_4, .int .i64 a0_5] 23 (0, 0))) ∧ (w'.heap[gb227]? = some (.cells #[.int .i64 a1_0, .int .i64 a1_1, .bool a1_2] 25 (0, 0))) ∧ (w'.heap[gb228]? = some (.cells #[.int .i64 a2_0, .int .i64 a2_1, .bool a2_2] 25 (0, 0))) ∧ (Below w.heap.size w w')) ?_ ?_; rotate_left
      ·
       intro hJ1_3_5; refine join_ (σ := Nat) 7 #[true,true,true,true,true,false,false,false,false,false,true,false,false] (fun s_ => [(13, .agg #[.int .i64 t229, .int .i64 t230, .int .i64 t231, .int .i64 t232, .int .i64 t233, .int .i64 t234]), (15, .agg #[.int .i64 t235, .int .i64 t236, .bool t237]), (7, .pointer (some ⟨s_, 0, none⟩))]) (fun s_ w' => (CS0 gb226 gb227 gb228 a0_0 a0_1 a0_2 a0_3 a0_4 a0_5 a1_0 a1_1 a1_2 a2_0 a2_1 a2_2 w') ∧ (w'.heap[gb226]? = some (.cells #[.int .i64 a0_0, .int .i64 a0_1, .int .i64 a0_2, .int .i64 a0_3, .int .i64 a0_4, .int .i64 a0_5] 23 (0, 0))) ∧ (w'.heap[gb227]? = some (.cells #[.int .i64 a1_0, .int .i64 a1_1, .bool a1_2] 25 (0, 0))) ∧ (w'.heap[gb228]? = some (.cells #[.int .i64 a2_0, .int .i64 a2_1, .bool a2_2] 25 (0, 0))) ∧ (w'.heap[s_]? = some (.cells #[.int .i64 0, .int .i64 0, .bool false] 26 (0, 0))) ∧ (w.heap.size ≤ s_) ∧ (w.heap.size ≤ s_) ∧ (gb226 ≠ s_) ∧ (s_ ≠ gb226) ∧ (gb227 ≠ s_) ∧ (s_ ≠ gb227) ∧ (gb228 ≠ s_) ∧ (s_ ≠ gb228) ∧ (Below w.heap.size w w')) ?_ ?_; rotate_left
       ·
        intro hJ1_3_10; refine join_ (σ := Unit) 8 #[true,true,true,true,true,false,false,false,false,false,false,false,false] (fun s_ => [(13, .agg #[.int .i64 t229, .int .i64 t230, .int .i64 t231, .int .i64 t232, .int .i64 t233, .int .i64 t234]), (15, .agg #[.int .i64 t235, .int .i64 t236, .bool t237])]) (fun s_ w' => (CS0 gb226 gb227 gb228 a0_0 a0_1 a0_2 a0_3 a0_4 a0_5 a1_0 a1_1 a1_2 a2_0 a2_1 a2_2 w') ∧ (w'.heap[gb226]? = some (.cells #[.int .i64 a0_0, .int .i64 a0_1, .int .i64 a0_2, .int .i64 a0_3, .int .i64 a0_4, .int .i64 a0_5] 23 (0, 0))) ∧ (w'.heap[gb227]? = some (.cells #[.int .i64 a1_0, .int .i64 a1_1, .bool a1_2] 25 (0, 0))) ∧ (w'.heap[gb228]? = some (.cells #[.int .i64 a2_0, .int .i64 a2_1, .bool a2_2] 25 (0, 0))) ∧ (Below w.heap.size w w')) ?_ ?_; rotate_left
        ·
         intro hJ1_3; refine join_ (σ := Nat) 8 #[true,true,true,false,true,false,false,false,false,false,true,false,false] (fun s_ => [(13, .agg #[.int .i64 t229, .int .i64 t230, .int .i64 t231, .int .i64 t232, .int .i64 t233, .int .i64 t234]), (7, .pointer (some ⟨s_, 0, none⟩))]) (fun s_ w' => (CS0 gb226 gb227 gb228 a0_0 a0_1 a0_2 a0_3 a0_4 a0_5 a1_0 a1_1 a1_2 a2_0 a2_1 a2_2 w') ∧ (w'.heap[gb226]? = some (.cells #[.int .i64 a0_0, .int .i64 a0_1, .int .i64 a0_2, .int .i64 a0_3, .int .i64 a0_4, .int .i64 a0_5] 23 (0, 0))) ∧ (w'.heap[gb227]? = some (.cells #[.int .i64 a1_0, .int .i64 a1_1, .bool a1_2] 25 (0, 0))) ∧ (w'.heap[gb228]? = some (.cells #[.int .i64 a2_0, .int .i64 a2_1, .bool a2_2] 25 (0, 0))) ∧ (w'.heap[s_]? = some (.cells #[.int .i64 0, .int .i64 0, .bool false] 26 (0, 0))) ∧ (w.heap.size ≤ s_) ∧ (w.heap.size ≤ s_) ∧ (gb226 ≠ s_) ∧ (s_ ≠ gb226) ∧ (gb227 ≠ s_) ∧ (s_ ≠ gb227) ∧ (gb228 ≠ s_) ∧ (s_ ≠ gb228) ∧ (Below w.heap.size w w')) ?_ ?_; rotate_left
         ·
          intro hJ1_10; refine join_ (σ := Unit) 9 #[true,true,true,false,true,false,false,false,false,false,false,false,false] (fun s_ => [(13, .agg #[.int .i64 t229, .int .i64 t230, .int .i64 t231, .int .i64 t232, .int .i64 t233, .int .i64 t234])]) (fun s_ w' => (CS0 gb226 gb227 gb228 a0_0 a0_1 a0_2 a0_3 a0_4 a0_5 a1_0 a1_1 a1_2 a2_0 a2_1 a2_2 w') ∧ (w'.heap[gb226]? = some (.cells #[.int .i64 a0_0, .int .i64 a0_1, .int .i64 a0_2, .int .i64 a0_3, .int .i64 a0_4, .int .i64 a0_5] 23 (0, 0))) ∧ (w'.heap[gb227]? = some (.cells #[.int .i64 a1_0, .int .i64 a1_1, .bool a1_2] 25 (0, 0))) ∧ (w'.heap[gb228]? = some (.cells #[.int .i64 a2_0, .int .i64 a2_1, .bool a2_2] 25 (0, 0))) ∧ (Below w.heap.size w w')) ?_ ?_; rotate_left
          ·
           intro hJ1; refine join_ (σ := Nat) 9 #[true,false,true,false,true,false,false,false,false,false,true,false,false] (fun s_ => [(7, .pointer (some ⟨s_, 0, none⟩))]) (fun s_ w' => (CS0 gb226 gb227 gb228 a0_0 a0_1 a0_2 a0_3 a0_4 a0_5 a1_0 a1_1 a1_2 a2_0 a2_1 a2_2 w') ∧ (w'.heap[gb226]? = some (.cells #[.int .i64 a0_0, .int .i64 a0_1, .int .i64 a0_2, .int .i64 a0_3, .int .i64 a0_4, .int .i64 a0_5] 23 (0, 0))) ∧ (w'.heap[gb227]? = some (.cells #[.int .i64 a1_0, .int .i64 a1_1, .bool a1_2] 25 (0, 0))) ∧ (w'.heap[gb228]? = some (.cells #[.int .i64 a2_0, .int .i64 a2_1, .bool a2_2] 25 (0, 0))) ∧ (w'.heap[s_]? = some (.cells #[.int .i64 0, .int .i64 0, .bool false] 26 (0, 0))) ∧ (w.heap.size ≤ s_) ∧ (w.heap.size ≤ s_) ∧ (gb226 ≠ s_) ∧ (s_ ≠ gb226) ∧ (gb227 ≠ s_) ∧ (s_ ≠ gb227) ∧ (gb228 ≠ s_) ∧ (s_ ≠ gb228) ∧ (Below w.heap.size w w')) ?_ ?_; rotate_left
           ·
            intro hJ10; refine two_ (i := 1) (j := 10) (Ni := some 13) (Nj := some 7) #[true,true,true,false,true,false,false,false,false,false,false,false,false] #[true,false,true,false,true,false,false,false,false,false,true,false,false] rfl rfl rfl rfl (two_of HT_.out (by kernel_rfl)) (by decide) (by decide) (fun K hK => ?_) (fun K hK => ?_)
            ·
             refine gs_ Try.func9 #[.agg #[.int .i64 a0_0, .int .i64 a0_1, .int .i64 a0_2, .int .i64 a0_3, .int .i64 a0_4, .int .i64 a0_5]] ?_
             with_reducible refine (laws_toCurve.calls a0_0 a0_1 a0_2 a0_3 a0_4 a0_5 t229 t230 t231 t232 t233 t234 _ A4.out).mono ?_
             rintro e w53 ⟨rfl, hb⟩; refine ⟨_, rfl, ?_⟩; replace BK226 := bb_ BK226 hb; replace BK227 := bb_ BK227 hb; replace BK228 := bb_ BK228 hb; replace HB := bs_ HB hb; (try clear hb); refine hK.out _ _ ⟨bc_ BK226 0, bc_ BK226 1, bc_ BK226 2, bc_ BK226 3, bc_ BK226 4, bc_ BK226 5, bc_ BK227 0, bc_ BK227 1, bc_ BK227 2, bc_ BK228 0, bc_ BK228 1, bc_ BK228 2⟩ (fun hHeld => ?_); clear hK K
             apply norm_
             · show Act.put _ (some 13) _ = _; simp only [Act.put, sA_, sZ_, sS_, i64_w, i32_w]; rfl
             exact nm_ (hJ1 () _ ⟨hHeld, (bk_ BK226), (bk_ BK227), (bk_ BK228), (bw_ HB)⟩)
            ·
             refine box_step ?hg (N := 7) ?hd (cs := #[.int .i64 0, .int .i64 0, .bool false]) (t := 26) ?hr ?_; (case hd => rfl); (case hg => rfl); (case hr => first | (go_simp; done) | (go_simp; rfl))
             intro gb245 hg w53 hbox hb; have BK245 := Aside0.mk hbox; have GW245 := ge_ HB hg; have GE245 := ge_ HB hg; have NB226_245 := nl_ BK226 hg; have NB245_226 := nr_ BK226 hg; have NB227_245 := nl_ BK227 hg; have NB245_227 := nr_ BK227 hg; have NB228_245 := nl_ BK228 hg; have NB245_228 := nr_ BK228 hg; replace BK226 := bb_ BK226 hb; replace BK227 := bb_ BK227 hb; replace BK228 := bb_ BK228 hb; replace HB := bs_ HB hb; clear hb hbox hg; refine hK.out _ _ ⟨bc_ BK226 0, bc_ BK226 1, bc_ BK226 2, bc_ BK226 3, bc_ BK226 4, bc_ BK226 5, bc_ BK227 0, bc_ BK227 1, bc_ BK227 2, bc_ BK228 0, bc_ BK228 1, bc_ BK228 2⟩ (fun hHeld => ?_); clear hK K
             apply norm_
             · show Act.put _ (some 7) _ = _; simp only [Act.put, sA_, sZ_, sS_, i64_w, i32_w]; rfl
             exact nm_ (hJ10 (gb245) _ ⟨hHeld, (bk_ BK226), (bk_ BK227), (bk_ BK228), (bk_ BK245), GW245.out, GE245.out, NB226_245.out, NB245_226.out, NB227_245.out, NB245_227.out, NB228_245.out, NB245_228.out, (bw_ HB)⟩)
           ·
            rintro gb245 w54 ⟨hS_, h0_, h1_, h2_, h3_, h4_, h5_, h6_, h7_, h8_, h9_, h10_, h11_, h12_⟩; replace BK226 := Aside0.mk h0_; replace BK227 := Aside0.mk h1_; replace BK228 := Aside0.mk h2_; have BK245 := Aside0.mk h3_; have GW245 := Aside0.mk h4_; have GE245 := Aside0.mk h5_; have NB226_245 := Aside0.mk h6_; have NB245_226 := Aside0.mk h7_; have NB227_245 := Aside0.mk h8_; have NB245_227 := Aside0.mk h9_; have NB228_245 := Aside0.mk h10_; have NB245_228 := Aside0.mk h11_; replace HB := Aside0.mk h12_; clear h0_ h1_ h2_ h3_ h4_ h5_ h6_ h7_ h8_ h9_ h10_ h11_ h12_; have hHeld := hS_
            apply norm_
            · simp only [putAll, Act.put, sA_, sZ_, sS_]; rfl
            refine one_ (i := 1) (N := some 13) #[true,true,true,false,true,false,false,false,false,false,true,false,false] rfl rfl (one_of HT_.out (by kernel_rfl)) (by decide) (fun K hK => ?_); refine gs_ Try.func9 #[.agg #[.int .i64 a0_0, .int .i64 a0_1, .int .i64 a0_2, .int .i64 a0_3, .int .i64 a0_4, .int .i64 a0_5]] ?_
            with_reducible refine (laws_toCurve.calls a0_0 a0_1 a0_2 a0_3 a0_4 a0_5 t229 t230 t231 t232 t233 t234 _ A4.out).mono ?_
            rintro e w55 ⟨rfl, hb⟩; refine ⟨_, rfl, ?_⟩; replace BK226 := bb_ BK226 hb; replace BK227 := bb_ BK227 hb; replace BK228 := bb_ BK228 hb; replace BK245 := bb_ BK245 hb; replace HB := bs_ HB hb; (try clear hb); refine hK.out _ _ ⟨bc_ BK226 0, bc_ BK226 1, bc_ BK226 2, bc_ BK226 3, bc_ BK226 4, bc_ BK226 5, bc_ BK227 0, bc_ BK227 1, bc_ BK227 2, bc_ BK228 0, bc_ BK228 1, bc_ BK228 2⟩ (fun hHeld => ?_); clear hK K
            apply norm_
            · show Act.put _ (some 13) _ = _; simp only [Act.put, sA_, sZ_, sS_, i64_w, i32_w]; rfl
            exact nm_ (hJ1_10 (gb245) _ ⟨hHeld, (bk_ BK226), (bk_ BK227), (bk_ BK228), (bk_ BK245), GW245.out, GE245.out, NB226_245.out, NB245_226.out, NB227_245.out, NB245_227.out, NB228_245.out, NB245_228.out, (bw_ HB)⟩)
          ·
           rintro _ w54 ⟨hS_, h0_, h1_, h2_, h3_⟩; replace BK226 := Aside0.mk h0_; replace BK227 := Aside0.mk h1_; replace BK228 := Aside0.mk h2_; replace HB := Aside0.mk h3_; clear h0_ h1_ h2_ h3_; have hHeld := hS_
           apply norm_
           · simp only [putAll, Act.put, sA_, sZ_, sS_]; rfl
           refine two_ (i := 3) (j := 10) (Ni := some 15) (Nj := some 7) #[true,true,true,true,true,false,false,false,false,false,false,false,false] #[true,true,true,false,true,false,false,false,false,false,true,false,false] rfl rfl rfl rfl (two_of HT_.out (by kernel_rfl)) (by decide) (by decide) (fun K hK => ?_) (fun K hK => ?_)
           ·
            refine gs_ Try.func10 #[.agg #[.int .i64 a1_0, .int .i64 a1_1, .bool a1_2]] ?_
            with_reducible refine (laws_toPoint.calls a1_0 a1_1 a1_2 t235 t236 t237 _ A5.out).mono ?_
            rintro e w55 ⟨rfl, hb⟩; refine ⟨_, rfl, ?_⟩; replace BK226 := bb_ BK226 hb; replace BK227 := bb_ BK227 hb; replace BK228 := bb_ BK228 hb; replace HB := bs_ HB hb; (try clear hb); refine hK.out _ _ ⟨bc_ BK226 0, bc_ BK226 1, bc_ BK226 2, bc_ BK226 3, bc_ BK226 4, bc_ BK226 5, bc_ BK227 0, bc_ BK227 1, bc_ BK227 2, bc_ BK228 0, bc_ BK228 1, bc_ BK228 2⟩ (fun hHeld => ?_); clear hK K
            apply norm_
            · show Act.put _ (some 15) _ = _; simp only [Act.put, sA_, sZ_, sS_, i64_w, i32_w]; rfl
            exact nm_ (hJ1_3 () _ ⟨hHeld, (bk_ BK226), (bk_ BK227), (bk_ BK228), (bw_ HB)⟩)
           ·
            refine box_step ?hg (N := 7) ?hd (cs := #[.int .i64 0, .int .i64 0, .bool false]) (t := 26) ?hr ?_; (case hd => rfl); (case hg => rfl); (case hr => first | (go_simp; done) | (go_simp; rfl))
            intro gb245 hg w55 hbox hb; have BK245 := Aside0.mk hbox; have GW245 := ge_ HB hg; have GE245 := ge_ HB hg; have NB226_245 := nl_ BK226 hg; have NB245_226 := nr_ BK226 hg; have NB227_245 := nl_ BK227 hg; have NB245_227 := nr_ BK227 hg; have NB228_245 := nl_ BK228 hg; have NB245_228 := nr_ BK228 hg; replace BK226 := bb_ BK226 hb; replace BK227 := bb_ BK227 hb; replace BK228 := bb_ BK228 hb; replace HB := bs_ HB hb; clear hb hbox hg; refine hK.out _ _ ⟨bc_ BK226 0, bc_ BK226 1, bc_ BK226 2, bc_ BK226 3, bc_ BK226 4, bc_ BK226 5, bc_ BK227 0, bc_ BK227 1, bc_ BK227 2, bc_ BK228 0, bc_ BK228 1, bc_ BK228 2⟩ (fun hHeld => ?_); clear hK K
            apply norm_
            · show Act.put _ (some 7) _ = _; simp only [Act.put, sA_, sZ_, sS_, i64_w, i32_w]; rfl
            exact nm_ (hJ1_10 (gb245) _ ⟨hHeld, (bk_ BK226), (bk_ BK227), (bk_ BK228), (bk_ BK245), GW245.out, GE245.out, NB226_245.out, NB245_226.out, NB227_245.out, NB245_227.out, NB228_245.out, NB245_228.out, (bw_ HB)⟩)
         ·
          rintro gb245 w55 ⟨hS_, h0_, h1_, h2_, h3_, h4_, h5_, h6_, h7_, h8_, h9_, h10_, h11_, h12_⟩; replace BK226 := Aside0.mk h0_; replace BK227 := Aside0.mk h1_; replace BK228 := Aside0.mk h2_; have BK245 := Aside0.mk h3_; have GW245 := Aside0.mk h4_; have GE245 := Aside0.mk h5_; have NB226_245 := Aside0.mk h6_; have NB245_226 := Aside0.mk h7_; have NB227_245 := Aside0.mk h8_; have NB245_227 := Aside0.mk h9_; have NB228_245 := Aside0.mk h10_; have NB245_228 := Aside0.mk h11_; replace HB := Aside0.mk h12_; clear h0_ h1_ h2_ h3_ h4_ h5_ h6_ h7_ h8_ h9_ h10_ h11_ h12_; have hHeld := hS_
          apply norm_
          · simp only [putAll, Act.put, sA_, sZ_, sS_]; rfl
          refine one_ (i := 3) (N := some 15) #[true,true,true,true,true,false,false,false,false,false,true,false,false] rfl rfl (one_of HT_.out (by kernel_rfl)) (by decide) (fun K hK => ?_); refine gs_ Try.func10 #[.agg #[.int .i64 a1_0, .int .i64 a1_1, .bool a1_2]] ?_
          with_reducible refine (laws_toPoint.calls a1_0 a1_1 a1_2 t235 t236 t237 _ A5.out).mono ?_
          rintro e w56 ⟨rfl, hb⟩; refine ⟨_, rfl, ?_⟩; replace BK226 := bb_ BK226 hb; replace BK227 := bb_ BK227 hb; replace BK228 := bb_ BK228 hb; replace BK245 := bb_ BK245 hb; replace HB := bs_ HB hb; (try clear hb); refine hK.out _ _ ⟨bc_ BK226 0, bc_ BK226 1, bc_ BK226 2, bc_ BK226 3, bc_ BK226 4, bc_ BK226 5, bc_ BK227 0, bc_ BK227 1, bc_ BK227 2, bc_ BK228 0, bc_ BK228 1, bc_ BK228 2⟩ (fun hHeld => ?_); clear hK K
          apply norm_
          · show Act.put _ (some 15) _ = _; simp only [Act.put, sA_, sZ_, sS_, i64_w, i32_w]; rfl
          exact nm_ (hJ1_3_10 (gb245) _ ⟨hHeld, (bk_ BK226), (bk_ BK227), (bk_ BK228), (bk_ BK245), GW245.out, GE245.out, NB226_245.out, NB245_226.out, NB227_245.out, NB245_227.out, NB228_245.out, NB245_228.out, (bw_ HB)⟩)
        ·
         rintro _ w55 ⟨hS_, h0_, h1_, h2_, h3_⟩; replace BK226 := Aside0.mk h0_; replace BK227 := Aside0.mk h1_; replace BK228 := Aside0.mk h2_; replace HB := Aside0.mk h3_; clear h0_ h1_ h2_ h3_; have hHeld := hS_
         apply norm_
         · simp only [putAll, Act.put, sA_, sZ_, sS_]; rfl
         refine two_ (i := 5) (j := 10) (Ni := some 17) (Nj := some 7) #[true,true,true,true,true,true,false,false,false,false,false,false,false] #[true,true,true,true,true,false,false,false,false,false,true,false,false] rfl rfl rfl rfl (two_of HT_.out (by kernel_rfl)) (by decide) (by decide) (fun K hK => ?_) (fun K hK => ?_)
         ·
          refine gs_ Try.func10 #[.agg #[.int .i64 a2_0, .int .i64 a2_1, .bool a2_2]] ?_
          with_reducible refine (laws_toPoint.calls a2_0 a2_1 a2_2 t238 t239 t240 _ A6.out).mono ?_
          rintro e w56 ⟨rfl, hb⟩; refine ⟨_, rfl, ?_⟩; replace BK226 := bb_ BK226 hb; replace BK227 := bb_ BK227 hb; replace BK228 := bb_ BK228 hb; replace HB := bs_ HB hb; (try clear hb); refine hK.out _ _ ⟨bc_ BK226 0, bc_ BK226 1, bc_ BK226 2, bc_ BK226 3, bc_ BK226 4, bc_ BK226 5, bc_ BK227 0, bc_ BK227 1, bc_ BK227 2, bc_ BK228 0, bc_ BK228 1, bc_ BK228 2⟩ (fun hHeld => ?_); clear hK K
          apply norm_
          · show Act.put _ (some 17) _ = _; simp only [Act.put, sA_, sZ_, sS_, i64_w, i32_w]; rfl
          exact nm_ (hJ1_3_5 () _ ⟨hHeld, (bk_ BK226), (bk_ BK227), (bk_ BK228), (bw_ HB)⟩)
         ·
          refine box_step ?hg (N := 7) ?hd (cs := #[.int .i64 0, .int .i64 0, .bool false]) (t := 26) ?hr ?_; (case hd => rfl); (case hg => rfl); (case hr => first | (go_simp; done) | (go_simp; rfl))
          intro gb245 hg w56 hbox hb; have BK245 := Aside0.mk hbox; have GW245 := ge_ HB hg; have GE245 := ge_ HB hg; have NB226_245 := nl_ BK226 hg; have NB245_226 := nr_ BK226 hg; have NB227_245 := nl_ BK227 hg; have NB245_227 := nr_ BK227 hg; have NB228_245 := nl_ BK228 hg; have NB245_228 := nr_ BK228 hg; replace BK226 := bb_ BK226 hb; replace BK227 := bb_ BK227 hb; replace BK228 := bb_ BK228 hb; replace HB := bs_ HB hb; clear hb hbox hg; refine hK.out _ _ ⟨bc_ BK226 0, bc_ BK226 1, bc_ BK226 2, bc_ BK226 3, bc_ BK226 4, bc_ BK226 5, bc_ BK227 0, bc_ BK227 1, bc_ BK227 2, bc_ BK228 0, bc_ BK228 1, bc_ BK228 2⟩ (fun hHeld => ?_); clear hK K
          apply norm_
          · show Act.put _ (some 7) _ = _; simp only [Act.put, sA_, sZ_, sS_, i64_w, i32_w]; rfl
          exact nm_ (hJ1_3_10 (gb245) _ ⟨hHeld, (bk_ BK226), (bk_ BK227), (bk_ BK228), (bk_ BK245), GW245.out, GE245.out, NB226_245.out, NB245_226.out, NB227_245.out, NB245_227.out, NB228_245.out, NB245_228.out, (bw_ HB)⟩)
       ·
        rintro gb245 w56 ⟨hS_, h0_, h1_, h2_, h3_, h4_, h5_, h6_, h7_, h8_, h9_, h10_, h11_, h12_⟩; replace BK226 := Aside0.mk h0_; replace BK227 := Aside0.mk h1_; replace BK228 := Aside0.mk h2_; have BK245 := Aside0.mk h3_; have GW245 := Aside0.mk h4_; have GE245 := Aside0.mk h5_; have NB226_245 := Aside0.mk h6_; have NB245_226 := Aside0.mk h7_; have NB227_245 := Aside0.mk h8_; have NB245_227 := Aside0.mk h9_; have NB228_245 := Aside0.mk h10_; have NB245_228 := Aside0.mk h11_; replace HB := Aside0.mk h12_; clear h0_ h1_ h2_ h3_ h4_ h5_ h6_ h7_ h8_ h9_ h10_ h11_ h12_; have hHeld := hS_
        apply norm_
        · simp only [putAll, Act.put, sA_, sZ_, sS_]; rfl
        refine one_ (i := 5) (N := some 17) #[true,true,true,true,true,true,false,false,false,false,true,false,false] rfl rfl (one_of HT_.out (by kernel_rfl)) (by decide) (fun K hK => ?_); refine gs_ Try.func10 #[.agg #[.int .i64 a2_0, .int .i64 a2_1, .bool a2_2]] ?_
        with_reducible refine (laws_toPoint.calls a2_0 a2_1 a2_2 t238 t239 t240 _ A6.out).mono ?_
        rintro e w57 ⟨rfl, hb⟩; refine ⟨_, rfl, ?_⟩; replace BK226 := bb_ BK226 hb; replace BK227 := bb_ BK227 hb; replace BK228 := bb_ BK228 hb; replace BK245 := bb_ BK245 hb; replace HB := bs_ HB hb; (try clear hb); refine hK.out _ _ ⟨bc_ BK226 0, bc_ BK226 1, bc_ BK226 2, bc_ BK226 3, bc_ BK226 4, bc_ BK226 5, bc_ BK227 0, bc_ BK227 1, bc_ BK227 2, bc_ BK228 0, bc_ BK228 1, bc_ BK228 2⟩ (fun hHeld => ?_); clear hK K
        apply norm_
        · show Act.put _ (some 17) _ = _; simp only [Act.put, sA_, sZ_, sS_, i64_w, i32_w]; rfl
        exact nm_ (hJ1_3_5_10 (gb245) _ ⟨hHeld, (bk_ BK226), (bk_ BK227), (bk_ BK228), (bk_ BK245), GW245.out, GE245.out, NB226_245.out, NB245_226.out, NB227_245.out, NB245_227.out, NB228_245.out, NB245_228.out, (bw_ HB)⟩)
      ·
       rintro _ w56 ⟨hS_, h0_, h1_, h2_, h3_⟩; replace BK226 := Aside0.mk h0_; replace BK227 := Aside0.mk h1_; replace BK228 := Aside0.mk h2_; replace HB := Aside0.mk h3_; clear h0_ h1_ h2_ h3_; have hHeld := hS_
       apply norm_
       · simp only [putAll, Act.put, sA_, sZ_, sS_]; rfl
       refine two_ (i := 6) (j := 10) (Ni := some 18) (Nj := some 7) #[true,true,true,true,true,true,true,false,false,false,false,false,false] #[true,true,true,true,true,true,false,false,false,false,true,false,false] rfl rfl rfl rfl (two_of HT_.out (by kernel_rfl)) (by decide) (by decide) (fun K hK => ?_) (fun K hK => ?_)
       ·
        refine gs_ Try.func8 #[.agg #[.int .i64 t229, .int .i64 t230, .int .i64 t231, .int .i64 t232, .int .i64 t233, .int .i64 t234], .agg #[.int .i64 t235, .int .i64 t236, .bool t237], .agg #[.int .i64 t238, .int .i64 t239, .bool t240]] ?_
        with_reducible refine (spec_PointAdd.calls k t229 t230 t231 t232 t233 t234 t235 t236 t237 t238 t239 t240 t241 t242 t243 t244 _ A7.out).mono ?_
        rintro e w57 ⟨rfl, hb⟩; refine ⟨_, rfl, ?_⟩; replace BK226 := bb_ BK226 hb; replace BK227 := bb_ BK227 hb; replace BK228 := bb_ BK228 hb; replace HB := bs_ HB hb; (try clear hb); refine hK.out _ _ ⟨bc_ BK226 0, bc_ BK226 1, bc_ BK226 2, bc_ BK226 3, bc_ BK226 4, bc_ BK226 5, bc_ BK227 0, bc_ BK227 1, bc_ BK227 2, bc_ BK228 0, bc_ BK228 1, bc_ BK228 2⟩ (fun hHeld => ?_); clear hK K
        apply norm_
        · show Act.put _ (some 18) _ = _; simp only [Act.put, sA_, sZ_, sS_, i64_w, i32_w]; rfl
        refine pure_ (i := 7) (N := some 11) (v := ?_) (a' := ?_) #[true,true,true,true,true,true,true,true,false,false,false,false,false] rfl rfl (any_of HT_.out (by kernel_rfl)) (fun _ _ _ h => h) (Or.inl ⟨by rfl, ?_⟩) ?_ ?_; rotate_left
        ·
         intro w'; go_simp
         with_reducible rfl
        rotate_left
        · simp only [Act.put, sA_, sZ_, sS_, i64_w, i32_w]; rfl
        refine pure_ (i := 8) (N := some 19) (v := ?_) (a' := ?_) #[true,true,true,true,true,true,true,true,true,false,false,false,false] rfl rfl (any_of HT_.out (by kernel_rfl)) (fun _ _ _ h => h) (Or.inl ⟨by rfl, ?_⟩) ?_ ?_; rotate_left
        ·
         intro w'; go_simp
         with_reducible rfl
        rotate_left
        · simp only [Act.put, sA_, sZ_, sS_, i64_w, i32_w]; rfl
        refine pure_ (i := 9) (N := some 20) (v := ?_) (a' := ?_) #[true,true,true,true,true,true,true,true,true,true,false,false,false] rfl rfl (any_of HT_.out (by kernel_rfl)) (fun _ _ _ h => h) (Or.inl ⟨by rfl, ?_⟩) ?_ ?_; rotate_left
        ·
         intro w'; go_simp
         with_reducible rfl
        rotate_left
        · simp only [Act.put, sA_, sZ_, sS_, i64_w, i32_w]; rfl
        exact nm_ (hJ1_3_5_6 () _ ⟨hHeld, (bk_ BK226), (bk_ BK227), (bk_ BK228), (bw_ HB)⟩)
       ·
        refine box_step ?hg (N := 7) ?hd (cs := #[.int .i64 0, .int .i64 0, .bool false]) (t := 26) ?hr ?_; (case hd => rfl); (case hg => rfl); (case hr => first | (go_simp; done) | (go_simp; rfl))
        intro gb245 hg w57 hbox hb; have BK245 := Aside0.mk hbox; have GW245 := ge_ HB hg; have GE245 := ge_ HB hg; have NB226_245 := nl_ BK226 hg; have NB245_226 := nr_ BK226 hg; have NB227_245 := nl_ BK227 hg; have NB245_227 := nr_ BK227 hg; have NB228_245 := nl_ BK228 hg; have NB245_228 := nr_ BK228 hg; replace BK226 := bb_ BK226 hb; replace BK227 := bb_ BK227 hb; replace BK228 := bb_ BK228 hb; replace HB := bs_ HB hb; clear hb hbox hg; refine hK.out _ _ ⟨bc_ BK226 0, bc_ BK226 1, bc_ BK226 2, bc_ BK226 3, bc_ BK226 4, bc_ BK226 5, bc_ BK227 0, bc_ BK227 1, bc_ BK227 2, bc_ BK228 0, bc_ BK228 1, bc_ BK228 2⟩ (fun hHeld => ?_); clear hK K
        apply norm_
        · show Act.put _ (some 7) _ = _; simp only [Act.put, sA_, sZ_, sS_, i64_w, i32_w]; rfl
        exact nm_ (hJ1_3_5_10 (gb245) _ ⟨hHeld, (bk_ BK226), (bk_ BK227), (bk_ BK228), (bk_ BK245), GW245.out, GE245.out, NB226_245.out, NB245_226.out, NB227_245.out, NB245_227.out, NB228_245.out, NB245_228.out, (bw_ HB)⟩)
     ·
      rintro gb245 w57 ⟨hS_, h0_, h1_, h2_, h3_, h4_, h5_, h6_, h7_, h8_, h9_, h10_, h11_, h12_⟩; replace BK226 := Aside0.mk h0_; replace BK227 := Aside0.mk h1_; replace BK228 := Aside0.mk h2_; have BK245 := Aside0.mk h3_; have GW245 := Aside0.mk h4_; have GE245 := Aside0.mk h5_; have NB226_245 := Aside0.mk h6_; have NB245_226 := Aside0.mk h7_; have NB227_245 := Aside0.mk h8_; have NB245_227 := Aside0.mk h9_; have NB228_245 := Aside0.mk h10_; have NB245_228 := Aside0.mk h11_; replace HB := Aside0.mk h12_; clear h0_ h1_ h2_ h3_ h4_ h5_ h6_ h7_ h8_ h9_ h10_ h11_ h12_; have hHeld := hS_
      apply norm_
      · simp only [putAll, Act.put, sA_, sZ_, sS_]; rfl
      refine one_ (i := 6) (N := some 18) #[true,true,true,true,true,true,true,false,false,false,true,false,false] rfl rfl (one_of HT_.out (by kernel_rfl)) (by decide) (fun K hK => ?_); refine gs_ Try.func8 #[.agg #[.int .i64 t229, .int .i64 t230, .int .i64 t231, .int .i64 t232, .int .i64 t233, .int .i64 t234], .agg #[.int .i64 t235, .int .i64 t236, .bool t237], .agg #[.int .i64 t238, .int .i64 t239, .bool t240]] ?_
      with_reducible refine (spec_PointAdd.calls k t229 t230 t231 t232 t233 t234 t235 t236 t237 t238 t239 t240 t241 t242 t243 t244 _ A7.out).mono ?_
      rintro e w58 ⟨rfl, hb⟩; refine ⟨_, rfl, ?_⟩; replace BK226 := bb_ BK226 hb; replace BK227 := bb_ BK227 hb; replace BK228 := bb_ BK228 hb; replace BK245 := bb_ BK245 hb; replace HB := bs_ HB hb; (try clear hb); refine hK.out _ _ ⟨bc_ BK226 0, bc_ BK226 1, bc_ BK226 2, bc_ BK226 3, bc_ BK226 4, bc_ BK226 5, bc_ BK227 0, bc_ BK227 1, bc_ BK227 2, bc_ BK228 0, bc_ BK228 1, bc_ BK228 2⟩ (fun hHeld => ?_); clear hK K
      apply norm_
      · show Act.put _ (some 18) _ = _; simp only [Act.put, sA_, sZ_, sS_, i64_w, i32_w]; rfl
      refine pure_ (i := 7) (N := some 11) (v := ?_) (a' := ?_) #[true,true,true,true,true,true,true,true,false,false,true,false,false] rfl rfl (any_of HT_.out (by kernel_rfl)) (fun _ _ _ h => h) (Or.inl ⟨by rfl, ?_⟩) ?_ ?_; rotate_left
      ·
       intro w'; go_simp
       with_reducible rfl
      rotate_left
      · simp only [Act.put, sA_, sZ_, sS_, i64_w, i32_w]; rfl
      refine pure_ (i := 8) (N := some 19) (v := ?_) (a' := ?_) #[true,true,true,true,true,true,true,true,true,false,true,false,false] rfl rfl (any_of HT_.out (by kernel_rfl)) (fun _ _ _ h => h) (Or.inl ⟨by rfl, ?_⟩) ?_ ?_; rotate_left
      ·
       intro w'; go_simp
       with_reducible rfl
      rotate_left
      · simp only [Act.put, sA_, sZ_, sS_, i64_w, i32_w]; rfl
      refine pure_ (i := 9) (N := some 20) (v := ?_) (a' := ?_) #[true,true,true,true,true,true,true,true,true,true,true,false,false] rfl rfl (any_of HT_.out (by kernel_rfl)) (fun _ _ _ h => h) (Or.inl ⟨by rfl, ?_⟩) ?_ ?_; rotate_left
      ·
       intro w'; go_simp
       with_reducible rfl
      rotate_left
      · simp only [Act.put, sA_, sZ_, sS_, i64_w, i32_w]; rfl
      exact nm_ (hJ1_3_5_6_10 (gb245) _ ⟨hHeld, (bk_ BK226), (bk_ BK227), (bk_ BK228), (bk_ BK245), GW245.out, GE245.out, NB226_245.out, NB245_226.out, NB227_245.out, NB245_227.out, NB228_245.out, NB245_228.out, (bw_ HB)⟩)
    ·
     rintro _ w57 ⟨hS_, h0_, h1_, h2_, h3_⟩; replace BK226 := Aside0.mk h0_; replace BK227 := Aside0.mk h1_; replace BK228 := Aside0.mk h2_; replace HB := Aside0.mk h3_; clear h0_ h1_ h2_ h3_; have hHeld := hS_
     apply norm_
     · simp only [putAll, Act.put, sA_, sZ_, sS_]; rfl
     refine one_ (i := 10) (N := some 7) #[true,true,true,true,true,true,true,true,true,true,true,false,false] rfl rfl (one_of HT_.out (by kernel_rfl)) (by decide) (fun K hK => ?_); refine box_step ?hg (N := 7) ?hd (cs := #[.int .i64 0, .int .i64 0, .bool false]) (t := 26) ?hr ?_; (case hd => rfl); (case hg => rfl); (case hr => first | (go_simp; done) | (go_simp; rfl))
     intro gb245 hg w58 hbox hb; have BK245 := Aside0.mk hbox; have GW245 := ge_ HB hg; have GE245 := ge_ HB hg; have NB226_245 := nl_ BK226 hg; have NB245_226 := nr_ BK226 hg; have NB227_245 := nl_ BK227 hg; have NB245_227 := nr_ BK227 hg; have NB228_245 := nl_ BK228 hg; have NB245_228 := nr_ BK228 hg; replace BK226 := bb_ BK226 hb; replace BK227 := bb_ BK227 hb; replace BK228 := bb_ BK228 hb; replace HB := bs_ HB hb; clear hb hbox hg; refine hK.out _ _ ⟨bc_ BK226 0, bc_ BK226 1, bc_ BK226 2, bc_ BK226 3, bc_ BK226 4, bc_ BK226 5, bc_ BK227 0, bc_ BK227 1, bc_ BK227 2, bc_ BK228 0, bc_ BK228 1, bc_ BK228 2⟩ (fun hHeld => ?_); clear hK K
     apply norm_
     · show Act.put _ (some 7) _ = _; simp only [Act.put, sA_, sZ_, sS_, i64_w, i32_w]; rfl
     exact nm_ (hJ1_3_5_6_10 (gb245) _ ⟨hHeld, (bk_ BK226), (bk_ BK227), (bk_ BK228), (bk_ BK245), GW245.out, GE245.out, NB226_245.out, NB245_226.out, NB227_245.out, NB245_227.out, NB228_245.out, NB245_228.out, (bw_ HB)⟩)
   rintro gb245 w58 ⟨hS_, h0_, h1_, h2_, h3_, h4_, h5_, h6_, h7_, h8_, h9_, h10_, h11_, h12_⟩; replace BK226 := Aside0.mk h0_; replace BK227 := Aside0.mk h1_; replace BK228 := Aside0.mk h2_; have BK245 := Aside0.mk h3_; have GW245 := Aside0.mk h4_; have GE245 := Aside0.mk h5_; have NB226_245 := Aside0.mk h6_; have NB245_226 := Aside0.mk h7_; have NB227_245 := Aside0.mk h8_; have NB245_227 := Aside0.mk h9_; have NB228_245 := Aside0.mk h10_; have NB245_228 := Aside0.mk h11_; replace HB := Aside0.mk h12_; clear h0_ h1_ h2_ h3_ h4_ h5_ h6_ h7_ h8_ h9_ h10_ h11_ h12_; have hHeld := hS_
   apply norm_
   · simp only [putAll, Act.put, sA_, sZ_, sS_]; rfl
   refine one_ (i := 11) (N := none) #[true,true,true,true,true,true,true,true,true,true,true,true,false] rfl rfl (one_of HT_.out (by kernel_rfl)) (by decide) (fun K hK => ?_)
   have hs59 : w58.cell? ⟨gb245, 0, none⟩ = some (.int .i64 0) := bc_ BK245 0
   have hfs59 := blk_frozen BK245.out 0; have hns59_0 := NB226_245.out; have hns59_1 := NB227_245.out; have hns59_2 := NB228_245.out; have hms59_0 := NB245_226.out; have hms59_1 := NB245_227.out; have hms59_2 := NB245_228.out
   have hs60 : w58.cell? ⟨gb245, 1, none⟩ = some (.int .i64 0) := bc_ BK245 1
   have hfs60 := blk_frozen BK245.out 1; have hns60_0 := NB226_245.out; have hns60_1 := NB227_245.out; have hns60_2 := NB228_245.out; have hms60_0 := NB245_226.out; have hms60_1 := NB245_227.out; have hms60_2 := NB245_228.out
   have hs61 : w58.cell? ⟨gb245, 2, none⟩ = some (.bool false) := bc_ BK245 2
   have hfs61 := blk_frozen BK245.out 2; have hns61_0 := NB226_245.out; have hns61_1 := NB227_245.out; have hns61_2 := NB228_245.out; have hms61_0 := NB245_226.out; have hms61_1 := NB245_227.out; have hms61_2 := NB245_228.out; refine skip_ (w1 := ?_) (by rfl) rfl ?_ ?_; rotate_left
   · go_simp; rfl
   refine hK.out _ _ ⟨((cell_far (p := ⟨gb245, _, none⟩) NB226_245.out _).trans (((cell_far (p := ⟨gb245, _, none⟩) NB226_245.out _).trans (((cell_far (p := ⟨gb245, _, none⟩) NB226_245.out _).trans (hHeld.1)))))), ((cell_far (p := ⟨gb245, _, none⟩) NB226_245.out _).trans (((cell_far (p := ⟨gb245, _, none⟩) NB226_245.out _).trans (((cell_far (p := ⟨gb245, _, none⟩) NB226_245.out _).trans (hHeld.2.1)))))), ((cell_far (p := ⟨gb245, _, none⟩) NB226_245.out _).trans (((cell_far (p := ⟨gb245, _, none⟩) NB226_245.out _).trans (((cell_far (p := ⟨gb245, _, none⟩) NB226_245.out _).trans (hHeld.2.2.1)))))), ((cell_far (p := ⟨gb245, _, none⟩) NB226_245.out _).trans (((cell_far (p := ⟨gb245, _, none⟩) NB226_245.out _).trans (((cell_far (p := ⟨gb245, _, none⟩) NB226_245.out _).trans (hHeld.2.2.2.1)))))), ((cell_far (p := ⟨gb245, _, none⟩) NB226_245.out _).trans (((cell_far (p := ⟨gb245, _, none⟩) NB226_245.out _).trans (((cell_far (p := ⟨gb245, _, none⟩) NB226_245.out _).trans (hHeld.2.2.2.2.1)))))), ((cell_far (p := ⟨gb245, _, none⟩) NB226_245.out _).trans (((cell_far (p := ⟨gb245, _, none⟩) NB226_245.out _).trans (((cell_far (p := ⟨gb245, _, none⟩) NB226_245.out _).trans (hHeld.2.2.2.2.2.1)))))), ((cell_far (p := ⟨gb245, _, none⟩) NB227_245.out _).trans (((cell_far (p := ⟨gb245, _, none⟩) NB227_245.out _).trans (((cell_far (p := ⟨gb245, _, none⟩) NB227_245.out _).trans (hHeld.2.2.2.2.2.2.1)))))), ((cell_far (p := ⟨gb245, _, none⟩) NB227_245.out _).trans (((cell_far (p := ⟨gb245, _, none⟩) NB227_245.out _).trans (((cell_far (p := ⟨gb245, _, none⟩) NB227_245.out _).trans (hHeld.2.2.2.2.2.2.2.1)))))), ((cell_far (p := ⟨gb245, _, none⟩) NB227_245.out _).trans (((cell_far (p := ⟨gb245, _, none⟩) NB227_245.out _).trans (((cell_far (p := ⟨gb245, _, none⟩) NB227_245.out _).trans (hHeld.2.2.2.2.2.2.2.2.1)))))), ((cell_far (p := ⟨gb245, _, none⟩) NB228_245.out _).trans (((cell_far (p := ⟨gb245, _, none⟩) NB228_245.out _).trans (((cell_far (p := ⟨gb245, _, none⟩) NB228_245.out _).trans (hHeld.2.2.2.2.2.2.2.2.2.1)))))), ((cell_far (p := ⟨gb245, _, none⟩) NB228_245.out _).trans (((cell_far (p := ⟨gb245, _, none⟩) NB228_245.out _).trans (((cell_far (p := ⟨gb245, _, none⟩) NB228_245.out _).trans (hHeld.2.2.2.2.2.2.2.2.2.2.1)))))), ((cell_far (p := ⟨gb245, _, none⟩) NB228_245.out _).trans (((cell_far (p := ⟨gb245, _, none⟩) NB228_245.out _).trans (((cell_far (p := ⟨gb245, _, none⟩) NB228_245.out _).trans (hHeld.2.2.2.2.2.2.2.2.2.2.2))))))⟩ (fun hHeld => ?_); clear hK K; refine pure_ (i := 12) (N := some 8) (v := ?_) (a' := ?_) #[true,true,true,true,true,true,true,true,true,true,true,true,true] rfl rfl (any_of HT_.out (by kernel_rfl)) (fun _ _ _ h => h) (Or.inl ⟨by rfl, ?_⟩) ?_ ?_; rotate_left
   ·
    intro w'; go_simp
    with_reducible rfl
   rotate_left
   · simp only [Act.put, sA_, sZ_, sS_, i64_w, i32_w]; rfl
   refine done_ (done_of HT_.out (by kernel_rfl)) ?_
   try go_wp2
   have n0_ : Aside0 ((((w58.setCell ⟨gb245, 0, none⟩ (.int .i64 t241)).setCell ⟨gb245, 1, none⟩ (.int .i64 t242)).setCell ⟨gb245, 2, none⟩ (.bool t243)).heap[gb226]? = some (.cells #[.int .i64 a0_0, .int .i64 a0_1, .int .i64 a0_2, .int .i64 a0_3, .int .i64 a0_4, .int .i64 a0_5] 23 (0, 0))) := ⟨bf_ BK226⟩
   have n1_ : Aside0 ((((w58.setCell ⟨gb245, 0, none⟩ (.int .i64 t241)).setCell ⟨gb245, 1, none⟩ (.int .i64 t242)).setCell ⟨gb245, 2, none⟩ (.bool t243)).heap[gb227]? = some (.cells #[.int .i64 a1_0, .int .i64 a1_1, .bool a1_2] 25 (0, 0))) := ⟨bf_ BK227⟩
   have n2_ : Aside0 ((((w58.setCell ⟨gb245, 0, none⟩ (.int .i64 t241)).setCell ⟨gb245, 1, none⟩ (.int .i64 t242)).setCell ⟨gb245, 2, none⟩ (.bool t243)).heap[gb228]? = some (.cells #[.int .i64 a2_0, .int .i64 a2_1, .bool a2_2] 25 (0, 0))) := ⟨bf_ BK228⟩
   have n3_ : Aside0 ((((w58.setCell ⟨gb245, 0, none⟩ (.int .i64 t241)).setCell ⟨gb245, 1, none⟩ (.int .i64 t242)).setCell ⟨gb245, 2, none⟩ (.bool t243)).heap[gb245]? = some (.cells #[.int .i64 t241, .int .i64 t242, .bool t243] 26 (0, 0))) := ⟨by (with_reducible repeat (first | refine blk_drewN ?_ _ | refine blk_drew ?_ | refine blk_alloc ?_ _)); refine blk_put (cs := #[.int .i64 t241, .int .i64 t242, .bool false]) ?_ 2 _ rfl; (with_reducible repeat (first | refine blk_drewN ?_ _ | refine blk_drew ?_ | refine blk_alloc ?_ _)); refine blk_put (cs := #[.int .i64 t241, .int .i64 0, .bool false]) ?_ 1 _ rfl; (with_reducible repeat (first | refine blk_drewN ?_ _ | refine blk_drew ?_ | refine blk_alloc ?_ _)); refine blk_put (cs := #[.int .i64 0, .int .i64 0, .bool false]) ?_ 0 _ rfl; (with_reducible repeat (first | refine blk_drewN ?_ _ | refine blk_drew ?_ | refine blk_alloc ?_ _)); exact BK245.out⟩
   have n4_ : Aside0 (Below w.heap.size w (((w58.setCell ⟨gb245, 0, none⟩ (.int .i64 t241)).setCell ⟨gb245, 1, none⟩ (.int .i64 t242)).setCell ⟨gb245, 2, none⟩ (.bool t243))) := ⟨bw_ HB⟩
   (try clear BK226); (try clear BK227); (try clear BK228); (try clear BK245); (try clear HB)
   generalize (((w58.setCell ⟨gb245, 0, none⟩ (.int .i64 t241)).setCell ⟨gb245, 1, none⟩ (.int .i64 t242)).setCell ⟨gb245, 2, none⟩ (.bool t243)) = w62 at n0_ n1_ n2_ n3_ n4_ ⊢
   have BK226 := n0_; have BK227 := n1_; have BK228 := n2_; have BK245 := n3_; have HB := n4_; clear n0_ n1_ n2_ n3_ n4_; replace BK226 := Aside0.mk (blk_drew BK226.out); replace BK227 := Aside0.mk (blk_drew BK227.out); replace BK228 := Aside0.mk (blk_drew BK228.out); replace BK245 := Aside0.mk (blk_drew BK245.out); replace HB := Aside0.mk (below_drew1 HB.out); refine start_ (n := 13) (S := fun w' => w'.cell? ⟨gb226, 0, none⟩ = some (.int .i64 a0_0) ∧ w'.cell? ⟨gb226, 1, none⟩ = some (.int .i64 a0_1) ∧ w'.cell? ⟨gb226, 2, none⟩ = some (.int .i64 a0_2) ∧ w'.cell? ⟨gb226, 3, none⟩ = some (.int .i64 a0_3) ∧ w'.cell? ⟨gb226, 4, none⟩ = some (.int .i64 a0_4) ∧ w'.cell? ⟨gb226, 5, none⟩ = some (.int .i64 a0_5) ∧ w'.cell? ⟨gb227, 0, none⟩ = some (.int .i64 a1_0) ∧ w'.cell? ⟨gb227, 1, none⟩ = some (.int .i64 a1_1) ∧ w'.cell? ⟨gb227, 2, none⟩ = some (.bool a1_2) ∧ w'.cell? ⟨gb228, 0, none⟩ = some (.int .i64 a2_0) ∧ w'.cell? ⟨gb228, 1, none⟩ = some (.int .i64 a2_1) ∧ w'.cell? ⟨gb228, 2, none⟩ = some (.bool a2_2)) (ds := []) #[false,false,false,false,false,false,false,false,false,false,false,false,false] (by kernel_rfl) rfl rfl ⟨bc_ BK226 0, bc_ BK226 1, bc_ BK226 2, bc_ BK226 3, bc_ BK226 4, bc_ BK226 5, bc_ BK227 0, bc_ BK227 1, bc_ BK227 2, bc_ BK228 0, bc_ BK228 1, bc_ BK228 2⟩ (fun hHeld => ?_); refine with_tabW laws_FnExactPointAdd.tab2 laws_FnExactPointAdd.bits2 (fun HT_ HW_ => ?_)
   generalize w62.drew = w63 at BK226 BK227 BK228 BK245 HB hHeld ⊢
   refine take_ (i := 0) (N := some 22) (v := ?_) (a' := ?_) #[true,false,false,false,false,false,false,false,false,false,false,false,false] rfl rfl (take_ofW HT_.out HW_.out (by kernel_rfl)) (fun _ _ _ h => h) (Or.inl ⟨by rfl, ?_⟩) hHeld ?_ ?_; rotate_left
   ·
    rintro w' ⟨s0, s1, s2, s3, s4, s5, s6, s7, s8, s9, s10, s11⟩; go_simp
    with_reducible rfl
   rotate_left
   · simp only [Act.put, sA_, sZ_, sS_, i64_w, i32_w]; rfl
   refine take_ (i := 2) (N := some 24) (v := ?_) (a' := ?_) #[true,false,true,false,false,false,false,false,false,false,false,false,false] rfl rfl (take_ofW HT_.out HW_.out (by kernel_rfl)) (fun _ _ _ h => h) (Or.inl ⟨by rfl, ?_⟩) hHeld ?_ ?_; rotate_left
   ·
    rintro w' ⟨s0, s1, s2, s3, s4, s5, s6, s7, s8, s9, s10, s11⟩; go_simp
    with_reducible rfl
   rotate_left
   · simp only [Act.put, sA_, sZ_, sS_, i64_w, i32_w]; rfl
   refine take_ (i := 4) (N := some 26) (v := ?_) (a' := ?_) #[true,false,true,false,true,false,false,false,false,false,false,false,false] rfl rfl (take_ofW HT_.out HW_.out (by kernel_rfl)) (fun _ _ _ h => h) (Or.inl ⟨by rfl, ?_⟩) hHeld ?_ ?_; rotate_left
   ·
    rintro w' ⟨s0, s1, s2, s3, s4, s5, s6, s7, s8, s9, s10, s11⟩; go_simp
    with_reducible rfl
   rotate_left
   · simp only [Act.put, sA_, sZ_, sS_, i64_w, i32_w]; rfl
   refine join_ (σ := Nat) 2 #[true,true,true,true,true,true,true,true,true,true,true,false,false] (fun s_ => [(23, .agg #[.int .i64 t246, .int .i64 t247, .int .i64 t248, .int .i64 t249, .int .i64 t250, .int .i64 t251]), (25, .agg #[.int .i64 t252, .int .i64 t253, .bool t254]), (27, .agg #[.int .i64 t255, .int .i64 t256, .bool t257]), (28, .tuple #[.agg #[.int .i64 t258, .int .i64 t259, .bool t260], .bool t261]), (9, .pointer (some ⟨s_, 0, none⟩)), (21, .tuple #[.agg #[.int .i64 t258, .int .i64 t259, .bool t260], .bool t261]), (29, .agg #[.int .i64 t258, .int .i64 t259, .bool t260]), (30, .bool t261)]) (fun s_ w' => (CS0 gb226 gb227 gb228 a0_0 a0_1 a0_2 a0_3 a0_4 a0_5 a1_0 a1_1 a1_2 a2_0 a2_1 a2_2 w') ∧ (w'.heap[gb226]? = some (.cells #[.int .i64 a0_0, .int .i64 a0_1, .int .i64 a0_2, .int .i64 a0_3, .int .i64 a0_4, .int .i64 a0_5] 23 (0, 0))) ∧ (w'.heap[gb227]? = some (.cells #[.int .i64 a1_0, .int .i64 a1_1, .bool a1_2] 25 (0, 0))) ∧ (w'.heap[gb228]? = some (.cells #[.int .i64 a2_0, .int .i64 a2_1, .bool a2_2] 25 (0, 0))) ∧ (w'.heap[gb245]? = some (.cells #[.int .i64 t241, .int .i64 t242, .bool t243] 26 (0, 0))) ∧ (w'.heap[s_]? = some (.cells #[.int .i64 0, .int .i64 0, .bool false] 26 (0, 0))) ∧ (w.heap.size ≤ s_) ∧ (w.heap.size ≤ s_) ∧ (gb226 ≠ s_) ∧ (s_ ≠ gb226) ∧ (gb227 ≠ s_) ∧ (s_ ≠ gb227) ∧ (gb228 ≠ s_) ∧ (s_ ≠ gb228) ∧ (gb245 ≠ s_) ∧ (s_ ≠ gb245) ∧ (Below w.heap.size w w')) ?_ ?_; rotate_left
   ·
    intro hJ1_3_5_6_10; refine join_ (σ := Unit) 3 #[true,true,true,true,true,true,true,true,true,true,false,false,false] (fun s_ => [(23, .agg #[.int .i64 t246, .int .i64 t247, .int .i64 t248, .int .i64 t249, .int .i64 t250, .int .i64 t251]), (25, .agg #[.int .i64 t252, .int .i64 t253, .bool t254]), (27, .agg #[.int .i64 t255, .int .i64 t256, .bool t257]), (28, .tuple #[.agg #[.int .i64 t258, .int .i64 t259, .bool t260], .bool t261]), (21, .tuple #[.agg #[.int .i64 t258, .int .i64 t259, .bool t260], .bool t261]), (29, .agg #[.int .i64 t258, .int .i64 t259, .bool t260]), (30, .bool t261)]) (fun s_ w' => (CS0 gb226 gb227 gb228 a0_0 a0_1 a0_2 a0_3 a0_4 a0_5 a1_0 a1_1 a1_2 a2_0 a2_1 a2_2 w') ∧ (w'.heap[gb226]? = some (.cells #[.int .i64 a0_0, .int .i64 a0_1, .int .i64 a0_2, .int .i64 a0_3, .int .i64 a0_4, .int .i64 a0_5] 23 (0, 0))) ∧ (w'.heap[gb227]? = some (.cells #[.int .i64 a1_0, .int .i64 a1_1, .bool a1_2] 25 (0, 0))) ∧ (w'.heap[gb228]? = some (.cells #[.int .i64 a2_0, .int .i64 a2_1, .bool a2_2] 25 (0, 0))) ∧ (w'.heap[gb245]? = some (.cells #[.int .i64 t241, .int .i64 t242, .bool t243] 26 (0, 0))) ∧ (Below w.heap.size w w')) ?_ ?_; rotate_left
    ·
     intro hJ1_3_5_6; refine join_ (σ := Nat) 6 #[true,true,true,true,true,true,false,false,false,false,true,false,false] (fun s_ => [(23, .agg #[.int .i64 t246, .int .i64 t247, .int .i64 t248, .int .i64 t249, .int .i64 t250, .int .i64 t251]), (25, .agg #[.int .i64 t252, .int .i64 t253, .bool t254]), (27, .agg #[.int .i64 t255, .int .i64 t256, .bool t257]), (9, .pointer (some ⟨s_, 0, none⟩))]) (fun s_ w' => (CS0 gb226 gb227 gb228 a0_0 a0_1 a0_2 a0_3 a0_4 a0_5 a1_0 a1_1 a1_2 a2_0 a2_1 a2_2 w') ∧ (w'.heap[gb226]? = some (.cells #[.int .i64 a0_0, .int .i64 a0_1, .int .i64 a0_2, .int .i64 a0_3, .int .i64 a0_4, .int .i64 a0_5] 23 (0, 0))) ∧ (w'.heap[gb227]? = some (.cells #[.int .i64 a1_0, .int .i64 a1_1, .bool a1_2] 25 (0, 0))) ∧ (w'.heap[gb228]? = some (.cells #[.int .i64 a2_0, .int .i64 a2_1, .bool a2_2] 25 (0, 0))) ∧ (w'.heap[gb245]? = some (.cells #[.int .i64 t241, .int .i64 t242, .bool t243] 26 (0, 0))) ∧ (w'.heap[s_]? = some (.cells #[.int .i64 0, .int .i64 0, .bool false] 26 (0, 0))) ∧ (w.heap.size ≤ s_) ∧ (w.heap.size ≤ s_) ∧ (gb226 ≠ s_) ∧ (s_ ≠ gb226) ∧ (gb227 ≠ s_) ∧ (s_ ≠ gb227) ∧ (gb228 ≠ s_) ∧ (s_ ≠ gb228) ∧ (gb245 ≠ s_) ∧ (s_ ≠ gb245) ∧ (Below w.heap.size w w')) ?_ ?_; rotate_left
     ·
      intro hJ1_3_5_10; refine join_ (σ := Unit) 7 #[true,true,true,true,true,true,false,false,false,false,false,false,false] (fun s_ => [(23, .agg #[.int .i64 t246, .int .i64 t247, .int .i64 t248, .int .i64 t249, .int .i64 t250, .int .i64 t251]), (25, .agg #[.int .i64 t252, .int .i64 t253, .bool t254]), (27, .agg #[.int .i64 t255, .int .i64 t256, .bool t257])]) (fun s_ w' => (CS0 gb226 gb227 gb228 a0_0 a0_1 a0_2 a0_3 a0_4 a0_5 a1_0 a1_1 a1_2 a2_0 a2_1 a2_2 w') ∧ (w'.heap[gb226]? = some (.cells #[.int .i64 a0_0, .int .i64 a0_1, .int .i64 a0_2, .int .i64 a0_3, .int .i64 a0_4, .int .i64 a0_5] 23 (0, 0))) ∧ (w'.heap[gb227]? = some (.cells #[.int .i64 a1_0, .int .i64 a1_1, .bool a1_2] 25 (0, 0))) ∧ (w'.heap[gb228]? = some (.cells #[.int .i64 a2_0, .int .i64 a2_1, .bool a2_2] 25 (0, 0))) ∧ (w'.heap[gb245]? = some (.cells #[.int .i64 t241, .int .i64 t242, .bool t243] 26 (0, 0))) ∧ (Below w.heap.size w w')) ?_ ?_; rotate_left
      ·
       intro hJ1_3_5; refine join_ (σ := Nat) 7 #[true,true,true,true,true,false,false,false,false,false,true,false,false] (fun s_ => [(23, .agg #[.int .i64 t246, .int .i64 t247, .int .i64 t248, .int .i64 t249, .int .i64 t250, .int .i64 t251]), (25, .agg #[.int .i64 t252, .int .i64 t253, .bool t254]), (9, .pointer (some ⟨s_, 0, none⟩))]) (fun s_ w' => (CS0 gb226 gb227 gb228 a0_0 a0_1 a0_2 a0_3 a0_4 a0_5 a1_0 a1_1 a1_2 a2_0 a2_1 a2_2 w') ∧ (w'.heap[gb226]? = some (.cells #[.int .i64 a0_0, .int .i64 a0_1, .int .i64 a0_2, .int .i64 a0_3, .int .i64 a0_4, .int .i64 a0_5] 23 (0, 0))) ∧ (w'.heap[gb227]? = some (.cells #[.int .i64 a1_0, .int .i64 a1_1, .bool a1_2] 25 (0, 0))) ∧ (w'.heap[gb228]? = some (.cells #[.int .i64 a2_0, .int .i64 a2_1, .bool a2_2] 25 (0, 0))) ∧ (w'.heap[gb245]? = some (.cells #[.int .i64 t241, .int .i64 t242, .bool t243] 26 (0, 0))) ∧ (w'.heap[s_]? = some (.cells #[.int .i64 0, .int .i64 0, .bool false] 26 (0, 0))) ∧ (w.heap.size ≤ s_) ∧ (w.heap.size ≤ s_) ∧ (gb226 ≠ s_) ∧ (s_ ≠ gb226) ∧ (gb227 ≠ s_) ∧ (s_ ≠ gb227) ∧ (gb228 ≠ s_) ∧ (s_ ≠ gb228) ∧ (gb245 ≠ s_) ∧ (s_ ≠ gb245) ∧ (Below w.heap.size w w')) ?_ ?_; rotate_left
       ·
        intro hJ1_3_10; refine join_ (σ := Unit) 8 #[true,true,true,true,true,false,false,false,false,false,false,false,false] (fun s_ => [(23, .agg #[.int .i64 t246, .int .i64 t247, .int .i64 t248, .int .i64 t249, .int .i64 t250, .int .i64 t251]), (25, .agg #[.int .i64 t252, .int .i64 t253, .bool t254])]) (fun s_ w' => (CS0 gb226 gb227 gb228 a0_0 a0_1 a0_2 a0_3 a0_4 a0_5 a1_0 a1_1 a1_2 a2_0 a2_1 a2_2 w') ∧ (w'.heap[gb226]? = some (.cells #[.int .i64 a0_0, .int .i64 a0_1, .int .i64 a0_2, .int .i64 a0_3, .int .i64 a0_4, .int .i64 a0_5] 23 (0, 0))) ∧ (w'.heap[gb227]? = some (.cells #[.int .i64 a1_0, .int .i64 a1_1, .bool a1_2] 25 (0, 0))) ∧ (w'.heap[gb228]? = some (.cells #[.int .i64 a2_0, .int .i64 a2_1, .bool a2_2] 25 (0, 0))) ∧ (w'.heap[gb245]? = some (.cells #[.int .i64 t241, .int .i64 t242, .bool t243] 26 (0, 0))) ∧ (Below w.heap.size w w')) ?_ ?_; rotate_left
        ·
         intro hJ1_3; refine join_ (σ := Nat) 8 #[true,true,true,false,true,false,false,false,false,false,true,false,false] (fun s_ => [(23, .agg #[.int .i64 t246, .int .i64 t247, .int .i64 t248, .int .i64 t249, .int .i64 t250, .int .i64 t251]), (9, .pointer (some ⟨s_, 0, none⟩))]) (fun s_ w' => (CS0 gb226 gb227 gb228 a0_0 a0_1 a0_2 a0_3 a0_4 a0_5 a1_0 a1_1 a1_2 a2_0 a2_1 a2_2 w') ∧ (w'.heap[gb226]? = some (.cells #[.int .i64 a0_0, .int .i64 a0_1, .int .i64 a0_2, .int .i64 a0_3, .int .i64 a0_4, .int .i64 a0_5] 23 (0, 0))) ∧ (w'.heap[gb227]? = some (.cells #[.int .i64 a1_0, .int .i64 a1_1, .bool a1_2] 25 (0, 0))) ∧ (w'.heap[gb228]? = some (.cells #[.int .i64 a2_0, .int .i64 a2_1, .bool a2_2] 25 (0, 0))) ∧ (w'.heap[gb245]? = some (.cells #[.int .i64 t241, .int .i64 t242, .bool t243] 26 (0, 0))) ∧ (w'.heap[s_]? = some (.cells #[.int .i64 0, .int .i64 0, .bool false] 26 (0, 0))) ∧ (w.heap.size ≤ s_) ∧ (w.heap.size ≤ s_) ∧ (gb226 ≠ s_) ∧ (s_ ≠ gb226) ∧ (gb227 ≠ s_) ∧ (s_ ≠ gb227) ∧ (gb228 ≠ s_) ∧ (s_ ≠ gb228) ∧ (gb245 ≠ s_) ∧ (s_ ≠ gb245) ∧ (Below w.heap.size w w')) ?_ ?_; rotate_left
         ·
          intro hJ1_10; refine join_ (σ := Unit) 9 #[true,true,true,false,true,false,false,false,false,false,false,false,false] (fun s_ => [(23, .agg #[.int .i64 t246, .int .i64 t247, .int .i64 t248, .int .i64 t249, .int .i64 t250, .int .i64 t251])]) (fun s_ w' => (CS0 gb226 gb227 gb228 a0_0 a0_1 a0_2 a0_3 a0_4 a0_5 a1_0 a1_1 a1_2 a2_0 a2_1 a2_2 w') ∧ (w'.heap[gb226]? = some (.cells #[.int .i64 a0_0, .int .i64 a0_1, .int .i64 a0_2, .int .i64 a0_3, .int .i64 a0_4, .int .i64 a0_5] 23 (0, 0))) ∧ (w'.heap[gb227]? = some (.cells #[.int .i64 a1_0, .int .i64 a1_1, .bool a1_2] 25 (0, 0))) ∧ (w'.heap[gb228]? = some (.cells #[.int .i64 a2_0, .int .i64 a2_1, .bool a2_2] 25 (0, 0))) ∧ (w'.heap[gb245]? = some (.cells #[.int .i64 t241, .int .i64 t242, .bool t243] 26 (0, 0))) ∧ (Below w.heap.size w w')) ?_ ?_; rotate_left
          ·
           intro hJ1; refine join_ (σ := Nat) 9 #[true,false,true,false,true,false,false,false,false,false,true,false,false] (fun s_ => [(9, .pointer (some ⟨s_, 0, none⟩))]) (fun s_ w' => (CS0 gb226 gb227 gb228 a0_0 a0_1 a0_2 a0_3 a0_4 a0_5 a1_0 a1_1 a1_2 a2_0 a2_1 a2_2 w') ∧ (w'.heap[gb226]? = some (.cells #[.int .i64 a0_0, .int .i64 a0_1, .int .i64 a0_2, .int .i64 a0_3, .int .i64 a0_4, .int .i64 a0_5] 23 (0, 0))) ∧ (w'.heap[gb227]? = some (.cells #[.int .i64 a1_0, .int .i64 a1_1, .bool a1_2] 25 (0, 0))) ∧ (w'.heap[gb228]? = some (.cells #[.int .i64 a2_0, .int .i64 a2_1, .bool a2_2] 25 (0, 0))) ∧ (w'.heap[gb245]? = some (.cells #[.int .i64 t241, .int .i64 t242, .bool t243] 26 (0, 0))) ∧ (w'.heap[s_]? = some (.cells #[.int .i64 0, .int .i64 0, .bool false] 26 (0, 0))) ∧ (w.heap.size ≤ s_) ∧ (w.heap.size ≤ s_) ∧ (gb226 ≠ s_) ∧ (s_ ≠ gb226) ∧ (gb227 ≠ s_) ∧ (s_ ≠ gb227) ∧ (gb228 ≠ s_) ∧ (s_ ≠ gb228) ∧ (gb245 ≠ s_) ∧ (s_ ≠ gb245) ∧ (Below w.heap.size w w')) ?_ ?_; rotate_left
           ·
            intro hJ10; refine two_ (i := 1) (j := 10) (Ni := some 23) (Nj := some 9) #[true,true,true,false,true,false,false,false,false,false,false,false,false] #[true,false,true,false,true,false,false,false,false,false,true,false,false] rfl rfl rfl rfl (two_of HT_.out (by kernel_rfl)) (by decide) (by decide) (fun K hK => ?_) (fun K hK => ?_)
            ·
             refine gs_ Try.func9 #[.agg #[.int .i64 a0_0, .int .i64 a0_1, .int .i64 a0_2, .int .i64 a0_3, .int .i64 a0_4, .int .i64 a0_5]] ?_
             with_reducible refine (laws_toCurve.calls a0_0 a0_1 a0_2 a0_3 a0_4 a0_5 t246 t247 t248 t249 t250 t251 _ A8.out).mono ?_
             rintro e w64 ⟨rfl, hb⟩; refine ⟨_, rfl, ?_⟩; replace BK226 := bb_ BK226 hb; replace BK227 := bb_ BK227 hb; replace BK228 := bb_ BK228 hb; replace BK245 := bb_ BK245 hb; replace HB := bs_ HB hb; (try clear hb); refine hK.out _ _ ⟨bc_ BK226 0, bc_ BK226 1, bc_ BK226 2, bc_ BK226 3, bc_ BK226 4, bc_ BK226 5, bc_ BK227 0, bc_ BK227 1, bc_ BK227 2, bc_ BK228 0, bc_ BK228 1, bc_ BK228 2⟩ (fun hHeld => ?_); clear hK K
             apply norm_
             · show Act.put _ (some 23) _ = _; simp only [Act.put, sA_, sZ_, sS_, i64_w, i32_w]; rfl
             exact nm_ (hJ1 () _ ⟨hHeld, (bk_ BK226), (bk_ BK227), (bk_ BK228), (bk_ BK245), (bw_ HB)⟩)
            ·
             refine box_step ?hg (N := 9) ?hd (cs := #[.int .i64 0, .int .i64 0, .bool false]) (t := 26) ?hr ?_; (case hd => rfl); (case hg => rfl); (case hr => first | (go_simp; done) | (go_simp; rfl))
             intro gb262 hg w64 hbox hb; have BK262 := Aside0.mk hbox; have GW262 := ge_ HB hg; have GE262 := ge_ HB hg; have NB226_262 := nl_ BK226 hg; have NB262_226 := nr_ BK226 hg; have NB227_262 := nl_ BK227 hg; have NB262_227 := nr_ BK227 hg; have NB228_262 := nl_ BK228 hg; have NB262_228 := nr_ BK228 hg; have NB245_262 := nl_ BK245 hg; have NB262_245 := nr_ BK245 hg; replace BK226 := bb_ BK226 hb; replace BK227 := bb_ BK227 hb; replace BK228 := bb_ BK228 hb; replace BK245 := bb_ BK245 hb; replace HB := bs_ HB hb; clear hb hbox hg; refine hK.out _ _ ⟨bc_ BK226 0, bc_ BK226 1, bc_ BK226 2, bc_ BK226 3, bc_ BK226 4, bc_ BK226 5, bc_ BK227 0, bc_ BK227 1, bc_ BK227 2, bc_ BK228 0, bc_ BK228 1, bc_ BK228 2⟩ (fun hHeld => ?_); clear hK K
             apply norm_
             · show Act.put _ (some 9) _ = _; simp only [Act.put, sA_, sZ_, sS_, i64_w, i32_w]; rfl
             exact nm_ (hJ10 (gb262) _ ⟨hHeld, (bk_ BK226), (bk_ BK227), (bk_ BK228), (bk_ BK245), (bk_ BK262), GW262.out, GE262.out, NB226_262.out, NB262_226.out, NB227_262.out, NB262_227.out, NB228_262.out, NB262_228.out, NB245_262.out, NB262_245.out, (bw_ HB)⟩)
           ·
            rintro gb262 w65 ⟨hS_, h0_, h1_, h2_, h3_, h4_, h5_, h6_, h7_, h8_, h9_, h10_, h11_, h12_, h13_, h14_, h15_⟩; replace BK226 := Aside0.mk h0_; replace BK227 := Aside0.mk h1_; replace BK228 := Aside0.mk h2_; replace BK245 := Aside0.mk h3_; have BK262 := Aside0.mk h4_; have GW262 := Aside0.mk h5_; have GE262 := Aside0.mk h6_; have NB226_262 := Aside0.mk h7_; have NB262_226 := Aside0.mk h8_; have NB227_262 := Aside0.mk h9_; have NB262_227 := Aside0.mk h10_; have NB228_262 := Aside0.mk h11_; have NB262_228 := Aside0.mk h12_; have NB245_262 := Aside0.mk h13_; have NB262_245 := Aside0.mk h14_; replace HB := Aside0.mk h15_; clear h0_ h1_ h2_ h3_ h4_ h5_ h6_ h7_ h8_ h9_ h10_ h11_ h12_ h13_ h14_ h15_; have hHeld := hS_
            apply norm_
            · simp only [putAll, Act.put, sA_, sZ_, sS_]; rfl
            refine one_ (i := 1) (N := some 23) #[true,true,true,false,true,false,false,false,false,false,true,false,false] rfl rfl (one_of HT_.out (by kernel_rfl)) (by decide) (fun K hK => ?_); refine gs_ Try.func9 #[.agg #[.int .i64 a0_0, .int .i64 a0_1, .int .i64 a0_2, .int .i64 a0_3, .int .i64 a0_4, .int .i64 a0_5]] ?_
            with_reducible refine (laws_toCurve.calls a0_0 a0_1 a0_2 a0_3 a0_4 a0_5 t246 t247 t248 t249 t250 t251 _ A8.out).mono ?_
            rintro e w66 ⟨rfl, hb⟩; refine ⟨_, rfl, ?_⟩; replace BK226 := bb_ BK226 hb; replace BK227 := bb_ BK227 hb; replace BK228 := bb_ BK228 hb; replace BK245 := bb_ BK245 hb; replace BK262 := bb_ BK262 hb; replace HB := bs_ HB hb; (try clear hb); refine hK.out _ _ ⟨bc_ BK226 0, bc_ BK226 1, bc_ BK226 2, bc_ BK226 3, bc_ BK226 4, bc_ BK226 5, bc_ BK227 0, bc_ BK227 1, bc_ BK227 2, bc_ BK228 0, bc_ BK228 1, bc_ BK228 2⟩ (fun hHeld => ?_); clear hK K
            apply norm_
            · show Act.put _ (some 23) _ = _; simp only [Act.put, sA_, sZ_, sS_, i64_w, i32_w]; rfl
            exact nm_ (hJ1_10 (gb262) _ ⟨hHeld, (bk_ BK226), (bk_ BK227), (bk_ BK228), (bk_ BK245), (bk_ BK262), GW262.out, GE262.out, NB226_262.out, NB262_226.out, NB227_262.out, NB262_227.out, NB228_262.out, NB262_228.out, NB245_262.out, NB262_245.out, (bw_ HB)⟩)
          ·
           rintro _ w65 ⟨hS_, h0_, h1_, h2_, h3_, h4_⟩; replace BK226 := Aside0.mk h0_; replace BK227 := Aside0.mk h1_; replace BK228 := Aside0.mk h2_; replace BK245 := Aside0.mk h3_; replace HB := Aside0.mk h4_; clear h0_ h1_ h2_ h3_ h4_; have hHeld := hS_
           apply norm_
           · simp only [putAll, Act.put, sA_, sZ_, sS_]; rfl
           refine two_ (i := 3) (j := 10) (Ni := some 25) (Nj := some 9) #[true,true,true,true,true,false,false,false,false,false,false,false,false] #[true,true,true,false,true,false,false,false,false,false,true,false,false] rfl rfl rfl rfl (two_of HT_.out (by kernel_rfl)) (by decide) (by decide) (fun K hK => ?_) (fun K hK => ?_)
           ·
            refine gs_ Try.func10 #[.agg #[.int .i64 a1_0, .int .i64 a1_1, .bool a1_2]] ?_
            with_reducible refine (laws_toPoint.calls a1_0 a1_1 a1_2 t252 t253 t254 _ A9.out).mono ?_
            rintro e w66 ⟨rfl, hb⟩; refine ⟨_, rfl, ?_⟩; replace BK226 := bb_ BK226 hb; replace BK227 := bb_ BK227 hb; replace BK228 := bb_ BK228 hb; replace BK245 := bb_ BK245 hb; replace HB := bs_ HB hb; (try clear hb); refine hK.out _ _ ⟨bc_ BK226 0, bc_ BK226 1, bc_ BK226 2, bc_ BK226 3, bc_ BK226 4, bc_ BK226 5, bc_ BK227 0, bc_ BK227 1, bc_ BK227 2, bc_ BK228 0, bc_ BK228 1, bc_ BK228 2⟩ (fun hHeld => ?_); clear hK K
            apply norm_
            · show Act.put _ (some 25) _ = _; simp only [Act.put, sA_, sZ_, sS_, i64_w, i32_w]; rfl
            exact nm_ (hJ1_3 () _ ⟨hHeld, (bk_ BK226), (bk_ BK227), (bk_ BK228), (bk_ BK245), (bw_ HB)⟩)
           ·
            refine box_step ?hg (N := 9) ?hd (cs := #[.int .i64 0, .int .i64 0, .bool false]) (t := 26) ?hr ?_; (case hd => rfl); (case hg => rfl); (case hr => first | (go_simp; done) | (go_simp; rfl))
            intro gb262 hg w66 hbox hb; have BK262 := Aside0.mk hbox; have GW262 := ge_ HB hg; have GE262 := ge_ HB hg; have NB226_262 := nl_ BK226 hg; have NB262_226 := nr_ BK226 hg; have NB227_262 := nl_ BK227 hg; have NB262_227 := nr_ BK227 hg; have NB228_262 := nl_ BK228 hg; have NB262_228 := nr_ BK228 hg; have NB245_262 := nl_ BK245 hg; have NB262_245 := nr_ BK245 hg; replace BK226 := bb_ BK226 hb; replace BK227 := bb_ BK227 hb; replace BK228 := bb_ BK228 hb; replace BK245 := bb_ BK245 hb; replace HB := bs_ HB hb; clear hb hbox hg; refine hK.out _ _ ⟨bc_ BK226 0, bc_ BK226 1, bc_ BK226 2, bc_ BK226 3, bc_ BK226 4, bc_ BK226 5, bc_ BK227 0, bc_ BK227 1, bc_ BK227 2, bc_ BK228 0, bc_ BK228 1, bc_ BK228 2⟩ (fun hHeld => ?_); clear hK K
            apply norm_
            · show Act.put _ (some 9) _ = _; simp only [Act.put, sA_, sZ_, sS_, i64_w, i32_w]; rfl
            exact nm_ (hJ1_10 (gb262) _ ⟨hHeld, (bk_ BK226), (bk_ BK227), (bk_ BK228), (bk_ BK245), (bk_ BK262), GW262.out, GE262.out, NB226_262.out, NB262_226.out, NB227_262.out, NB262_227.out, NB228_262.out, NB262_228.out, NB245_262.out, NB262_245.out, (bw_ HB)⟩)
         ·
          rintro gb262 w66 ⟨hS_, h0_, h1_, h2_, h3_, h4_, h5_, h6_, h7_, h8_, h9_, h10_, h11_, h12_, h13_, h14_, h15_⟩; replace BK226 := Aside0.mk h0_; replace BK227 := Aside0.mk h1_; replace BK228 := Aside0.mk h2_; replace BK245 := Aside0.mk h3_; have BK262 := Aside0.mk h4_; have GW262 := Aside0.mk h5_; have GE262 := Aside0.mk h6_; have NB226_262 := Aside0.mk h7_; have NB262_226 := Aside0.mk h8_; have NB227_262 := Aside0.mk h9_; have NB262_227 := Aside0.mk h10_; have NB228_262 := Aside0.mk h11_; have NB262_228 := Aside0.mk h12_; have NB245_262 := Aside0.mk h13_; have NB262_245 := Aside0.mk h14_; replace HB := Aside0.mk h15_; clear h0_ h1_ h2_ h3_ h4_ h5_ h6_ h7_ h8_ h9_ h10_ h11_ h12_ h13_ h14_ h15_; have hHeld := hS_
          apply norm_
          · simp only [putAll, Act.put, sA_, sZ_, sS_]; rfl
          refine one_ (i := 3) (N := some 25) #[true,true,true,true,true,false,false,false,false,false,true,false,false] rfl rfl (one_of HT_.out (by kernel_rfl)) (by decide) (fun K hK => ?_); refine gs_ Try.func10 #[.agg #[.int .i64 a1_0, .int .i64 a1_1, .bool a1_2]] ?_
          with_reducible refine (laws_toPoint.calls a1_0 a1_1 a1_2 t252 t253 t254 _ A9.out).mono ?_
          rintro e w67 ⟨rfl, hb⟩; refine ⟨_, rfl, ?_⟩; replace BK226 := bb_ BK226 hb; replace BK227 := bb_ BK227 hb; replace BK228 := bb_ BK228 hb; replace BK245 := bb_ BK245 hb; replace BK262 := bb_ BK262 hb; replace HB := bs_ HB hb; (try clear hb); refine hK.out _ _ ⟨bc_ BK226 0, bc_ BK226 1, bc_ BK226 2, bc_ BK226 3, bc_ BK226 4, bc_ BK226 5, bc_ BK227 0, bc_ BK227 1, bc_ BK227 2, bc_ BK228 0, bc_ BK228 1, bc_ BK228 2⟩ (fun hHeld => ?_); clear hK K
          apply norm_
          · show Act.put _ (some 25) _ = _; simp only [Act.put, sA_, sZ_, sS_, i64_w, i32_w]; rfl
          exact nm_ (hJ1_3_10 (gb262) _ ⟨hHeld, (bk_ BK226), (bk_ BK227), (bk_ BK228), (bk_ BK245), (bk_ BK262), GW262.out, GE262.out, NB226_262.out, NB262_226.out, NB227_262.out, NB262_227.out, NB228_262.out, NB262_228.out, NB245_262.out, NB262_245.out, (bw_ HB)⟩)
        ·
         rintro _ w66 ⟨hS_, h0_, h1_, h2_, h3_, h4_⟩; replace BK226 := Aside0.mk h0_; replace BK227 := Aside0.mk h1_; replace BK228 := Aside0.mk h2_; replace BK245 := Aside0.mk h3_; replace HB := Aside0.mk h4_; clear h0_ h1_ h2_ h3_ h4_; have hHeld := hS_
         apply norm_
         · simp only [putAll, Act.put, sA_, sZ_, sS_]; rfl
         refine two_ (i := 5) (j := 10) (Ni := some 27) (Nj := some 9) #[true,true,true,true,true,true,false,false,false,false,false,false,false] #[true,true,true,true,true,false,false,false,false,false,true,false,false] rfl rfl rfl rfl (two_of HT_.out (by kernel_rfl)) (by decide) (by decide) (fun K hK => ?_) (fun K hK => ?_)
         ·
          refine gs_ Try.func10 #[.agg #[.int .i64 a2_0, .int .i64 a2_1, .bool a2_2]] ?_
          with_reducible refine (laws_toPoint.calls a2_0 a2_1 a2_2 t255 t256 t257 _ A10.out).mono ?_
          rintro e w67 ⟨rfl, hb⟩; refine ⟨_, rfl, ?_⟩; replace BK226 := bb_ BK226 hb; replace BK227 := bb_ BK227 hb; replace BK228 := bb_ BK228 hb; replace BK245 := bb_ BK245 hb; replace HB := bs_ HB hb; (try clear hb); refine hK.out _ _ ⟨bc_ BK226 0, bc_ BK226 1, bc_ BK226 2, bc_ BK226 3, bc_ BK226 4, bc_ BK226 5, bc_ BK227 0, bc_ BK227 1, bc_ BK227 2, bc_ BK228 0, bc_ BK228 1, bc_ BK228 2⟩ (fun hHeld => ?_); clear hK K
          apply norm_
          · show Act.put _ (some 27) _ = _; simp only [Act.put, sA_, sZ_, sS_, i64_w, i32_w]; rfl
          exact nm_ (hJ1_3_5 () _ ⟨hHeld, (bk_ BK226), (bk_ BK227), (bk_ BK228), (bk_ BK245), (bw_ HB)⟩)
         ·
          refine box_step ?hg (N := 9) ?hd (cs := #[.int .i64 0, .int .i64 0, .bool false]) (t := 26) ?hr ?_; (case hd => rfl); (case hg => rfl); (case hr => first | (go_simp; done) | (go_simp; rfl))
          intro gb262 hg w67 hbox hb; have BK262 := Aside0.mk hbox; have GW262 := ge_ HB hg; have GE262 := ge_ HB hg; have NB226_262 := nl_ BK226 hg; have NB262_226 := nr_ BK226 hg; have NB227_262 := nl_ BK227 hg; have NB262_227 := nr_ BK227 hg; have NB228_262 := nl_ BK228 hg; have NB262_228 := nr_ BK228 hg; have NB245_262 := nl_ BK245 hg; have NB262_245 := nr_ BK245 hg; replace BK226 := bb_ BK226 hb; replace BK227 := bb_ BK227 hb; replace BK228 := bb_ BK228 hb; replace BK245 := bb_ BK245 hb; replace HB := bs_ HB hb; clear hb hbox hg; refine hK.out _ _ ⟨bc_ BK226 0, bc_ BK226 1, bc_ BK226 2, bc_ BK226 3, bc_ BK226 4, bc_ BK226 5, bc_ BK227 0, bc_ BK227 1, bc_ BK227 2, bc_ BK228 0, bc_ BK228 1, bc_ BK228 2⟩ (fun hHeld => ?_); clear hK K
          apply norm_
          · show Act.put _ (some 9) _ = _; simp only [Act.put, sA_, sZ_, sS_, i64_w, i32_w]; rfl
          exact nm_ (hJ1_3_10 (gb262) _ ⟨hHeld, (bk_ BK226), (bk_ BK227), (bk_ BK228), (bk_ BK245), (bk_ BK262), GW262.out, GE262.out, NB226_262.out, NB262_226.out, NB227_262.out, NB262_227.out, NB228_262.out, NB262_228.out, NB245_262.out, NB262_245.out, (bw_ HB)⟩)
       ·
        rintro gb262 w67 ⟨hS_, h0_, h1_, h2_, h3_, h4_, h5_, h6_, h7_, h8_, h9_, h10_, h11_, h12_, h13_, h14_, h15_⟩; replace BK226 := Aside0.mk h0_; replace BK227 := Aside0.mk h1_; replace BK228 := Aside0.mk h2_; replace BK245 := Aside0.mk h3_; have BK262 := Aside0.mk h4_; have GW262 := Aside0.mk h5_; have GE262 := Aside0.mk h6_; have NB226_262 := Aside0.mk h7_; have NB262_226 := Aside0.mk h8_; have NB227_262 := Aside0.mk h9_; have NB262_227 := Aside0.mk h10_; have NB228_262 := Aside0.mk h11_; have NB262_228 := Aside0.mk h12_; have NB245_262 := Aside0.mk h13_; have NB262_245 := Aside0.mk h14_; replace HB := Aside0.mk h15_; clear h0_ h1_ h2_ h3_ h4_ h5_ h6_ h7_ h8_ h9_ h10_ h11_ h12_ h13_ h14_ h15_; have hHeld := hS_
        apply norm_
        · simp only [putAll, Act.put, sA_, sZ_, sS_]; rfl
        refine one_ (i := 5) (N := some 27) #[true,true,true,true,true,true,false,false,false,false,true,false,false] rfl rfl (one_of HT_.out (by kernel_rfl)) (by decide) (fun K hK => ?_); refine gs_ Try.func10 #[.agg #[.int .i64 a2_0, .int .i64 a2_1, .bool a2_2]] ?_
        with_reducible refine (laws_toPoint.calls a2_0 a2_1 a2_2 t255 t256 t257 _ A10.out).mono ?_
        rintro e w68 ⟨rfl, hb⟩; refine ⟨_, rfl, ?_⟩; replace BK226 := bb_ BK226 hb; replace BK227 := bb_ BK227 hb; replace BK228 := bb_ BK228 hb; replace BK245 := bb_ BK245 hb; replace BK262 := bb_ BK262 hb; replace HB := bs_ HB hb; (try clear hb); refine hK.out _ _ ⟨bc_ BK226 0, bc_ BK226 1, bc_ BK226 2, bc_ BK226 3, bc_ BK226 4, bc_ BK226 5, bc_ BK227 0, bc_ BK227 1, bc_ BK227 2, bc_ BK228 0, bc_ BK228 1, bc_ BK228 2⟩ (fun hHeld => ?_); clear hK K
        apply norm_
        · show Act.put _ (some 27) _ = _; simp only [Act.put, sA_, sZ_, sS_, i64_w, i32_w]; rfl
        exact nm_ (hJ1_3_5_10 (gb262) _ ⟨hHeld, (bk_ BK226), (bk_ BK227), (bk_ BK228), (bk_ BK245), (bk_ BK262), GW262.out, GE262.out, NB226_262.out, NB262_226.out, NB227_262.out, NB262_227.out, NB228_262.out, NB262_228.out, NB245_262.out, NB262_245.out, (bw_ HB)⟩)
      ·
       rintro _ w67 ⟨hS_, h0_, h1_, h2_, h3_, h4_⟩; replace BK226 := Aside0.mk h0_; replace BK227 := Aside0.mk h1_; replace BK228 := Aside0.mk h2_; replace BK245 := Aside0.mk h3_; replace HB := Aside0.mk h4_; clear h0_ h1_ h2_ h3_ h4_; have hHeld := hS_
       apply norm_
       · simp only [putAll, Act.put, sA_, sZ_, sS_]; rfl
       refine two_ (i := 6) (j := 10) (Ni := some 28) (Nj := some 9) #[true,true,true,true,true,true,true,false,false,false,false,false,false] #[true,true,true,true,true,true,false,false,false,false,true,false,false] rfl rfl rfl rfl (two_of HT_.out (by kernel_rfl)) (by decide) (by decide) (fun K hK => ?_) (fun K hK => ?_)
       ·
        refine gs_ Try.func11 #[.agg #[.int .i64 t246, .int .i64 t247, .int .i64 t248, .int .i64 t249, .int .i64 t250, .int .i64 t251], .agg #[.int .i64 t252, .int .i64 t253, .bool t254], .agg #[.int .i64 t255, .int .i64 t256, .bool t257]] ?_
        with_reducible refine (impl_PointAdd.calls k t246 t247 t248 t249 t250 t251 t252 t253 t254 t255 t256 t257 t258 t259 t260 t261 _ A11.out).mono ?_
        rintro e w68 ⟨rfl, hb⟩; refine ⟨_, rfl, ?_⟩; replace BK226 := bb_ BK226 hb; replace BK227 := bb_ BK227 hb; replace BK228 := bb_ BK228 hb; replace BK245 := bb_ BK245 hb; replace HB := bs_ HB hb; (try clear hb); refine hK.out _ _ ⟨bc_ BK226 0, bc_ BK226 1, bc_ BK226 2, bc_ BK226 3, bc_ BK226 4, bc_ BK226 5, bc_ BK227 0, bc_ BK227 1, bc_ BK227 2, bc_ BK228 0, bc_ BK228 1, bc_ BK228 2⟩ (fun hHeld => ?_); clear hK K
        apply norm_
        · show Act.put _ (some 28) _ = _; simp only [Act.put, sA_, sZ_, sS_, i64_w, i32_w]; rfl
        refine pure_ (i := 7) (N := some 21) (v := ?_) (a' := ?_) #[true,true,true,true,true,true,true,true,false,false,false,false,false] rfl rfl (any_of HT_.out (by kernel_rfl)) (fun _ _ _ h => h) (Or.inl ⟨by rfl, ?_⟩) ?_ ?_; rotate_left
        ·
         intro w'; go_simp
         with_reducible rfl
        rotate_left
        · simp only [Act.put, sA_, sZ_, sS_, i64_w, i32_w]; rfl
        refine pure_ (i := 8) (N := some 29) (v := ?_) (a' := ?_) #[true,true,true,true,true,true,true,true,true,false,false,false,false] rfl rfl (any_of HT_.out (by kernel_rfl)) (fun _ _ _ h => h) (Or.inl ⟨by rfl, ?_⟩) ?_ ?_; rotate_left
        ·
         intro w'; go_simp
         with_reducible rfl
        rotate_left
        · simp only [Act.put, sA_, sZ_, sS_, i64_w, i32_w]; rfl
        refine pure_ (i := 9) (N := some 30) (v := ?_) (a' := ?_) #[true,true,true,true,true,true,true,true,true,true,false,false,false] rfl rfl (any_of HT_.out (by kernel_rfl)) (fun _ _ _ h => h) (Or.inl ⟨by rfl, ?_⟩) ?_ ?_; rotate_left
        ·
         intro w'; go_simp
         with_reducible rfl
        rotate_left
        · simp only [Act.put, sA_, sZ_, sS_, i64_w, i32_w]; rfl
        exact nm_ (hJ1_3_5_6 () _ ⟨hHeld, (bk_ BK226), (bk_ BK227), (bk_ BK228), (bk_ BK245), (bw_ HB)⟩)
       ·
        refine box_step ?hg (N := 9) ?hd (cs := #[.int .i64 0, .int .i64 0, .bool false]) (t := 26) ?hr ?_; (case hd => rfl); (case hg => rfl); (case hr => first | (go_simp; done) | (go_simp; rfl))
        intro gb262 hg w68 hbox hb; have BK262 := Aside0.mk hbox; have GW262 := ge_ HB hg; have GE262 := ge_ HB hg; have NB226_262 := nl_ BK226 hg; have NB262_226 := nr_ BK226 hg; have NB227_262 := nl_ BK227 hg; have NB262_227 := nr_ BK227 hg; have NB228_262 := nl_ BK228 hg; have NB262_228 := nr_ BK228 hg; have NB245_262 := nl_ BK245 hg; have NB262_245 := nr_ BK245 hg; replace BK226 := bb_ BK226 hb; replace BK227 := bb_ BK227 hb; replace BK228 := bb_ BK228 hb; replace BK245 := bb_ BK245 hb; replace HB := bs_ HB hb; clear hb hbox hg; refine hK.out _ _ ⟨bc_ BK226 0, bc_ BK226 1, bc_ BK226 2, bc_ BK226 3, bc_ BK226 4, bc_ BK226 5, bc_ BK227 0, bc_ BK227 1, bc_ BK227 2, bc_ BK228 0, bc_ BK228 1, bc_ BK228 2⟩ (fun hHeld => ?_); clear hK K
        apply norm_
        · show Act.put _ (some 9) _ = _; simp only [Act.put, sA_, sZ_, sS_, i64_w, i32_w]; rfl
        exact nm_ (hJ1_3_5_10 (gb262) _ ⟨hHeld, (bk_ BK226), (bk_ BK227), (bk_ BK228), (bk_ BK245), (bk_ BK262), GW262.out, GE262.out, NB226_262.out, NB262_226.out, NB227_262.out, NB262_227.out, NB228_262.out, NB262_228.out, NB245_262.out, NB262_245.out, (bw_ HB)⟩)
     ·
      rintro gb262 w68 ⟨hS_, h0_, h1_, h2_, h3_, h4_, h5_, h6_, h7_, h8_, h9_, h10_, h11_, h12_, h13_, h14_, h15_⟩; replace BK226 := Aside0.mk h0_; replace BK227 := Aside0.mk h1_; replace BK228 := Aside0.mk h2_; replace BK245 := Aside0.mk h3_; have BK262 := Aside0.mk h4_; have GW262 := Aside0.mk h5_; have GE262 := Aside0.mk h6_; have NB226_262 := Aside0.mk h7_; have NB262_226 := Aside0.mk h8_; have NB227_262 := Aside0.mk h9_; have NB262_227 := Aside0.mk h10_; have NB228_262 := Aside0.mk h11_; have NB262_228 := Aside0.mk h12_; have NB245_262 := Aside0.mk h13_; have NB262_245 := Aside0.mk h14_; replace HB := Aside0.mk h15_; clear h0_ h1_ h2_ h3_ h4_ h5_ h6_ h7_ h8_ h9_ h10_ h11_ h12_ h13_ h14_ h15_; have hHeld := hS_
      apply norm_
      · simp only [putAll, Act.put, sA_, sZ_, sS_]; rfl
      refine one_ (i := 6) (N := some 28) #[true,true,true,true,true,true,true,false,false,false,true,false,false] rfl rfl (one_of HT_.out (by kernel_rfl)) (by decide) (fun K hK => ?_); refine gs_ Try.func11 #[.agg #[.int .i64 t246, .int .i64 t247, .int .i64 t248, .int .i64 t249, .int .i64 t250, .int .i64 t251], .agg #[.int .i64 t252, .int .i64 t253, .bool t254], .agg #[.int .i64 t255, .int .i64 t256, .bool t257]] ?_
      with_reducible refine (impl_PointAdd.calls k t246 t247 t248 t249 t250 t251 t252 t253 t254 t255 t256 t257 t258 t259 t260 t261 _ A11.out).mono ?_
      rintro e w69 ⟨rfl, hb⟩; refine ⟨_, rfl, ?_⟩; replace BK226 := bb_ BK226 hb; replace BK227 := bb_ BK227 hb; replace BK228 := bb_ BK228 hb; replace BK245 := bb_ BK245 hb; replace BK262 := bb_ BK262 hb; replace HB := bs_ HB hb; (try clear hb); refine hK.out _ _ ⟨bc_ BK226 0, bc_ BK226 1, bc_ BK226 2, bc_ BK226 3, bc_ BK226 4, bc_ BK226 5, bc_ BK227 0, bc_ BK227 1, bc_ BK227 2, bc_ BK228 0, bc_ BK228 1, bc_ BK228 2⟩ (fun hHeld => ?_); clear hK K
      apply norm_
      · show Act.put _ (some 28) _ = _; simp only [Act.put, sA_, sZ_, sS_, i64_w, i32_w]; rfl
      refine pure_ (i := 7) (N := some 21) (v := ?_) (a' := ?_) #[true,true,true,true,true,true,true,true,false,false,true,false,false] rfl rfl (any_of HT_.out (by kernel_rfl)) (fun _ _ _ h => h) (Or.inl ⟨by rfl, ?_⟩) ?_ ?_; rotate_left
      ·
       intro w'; go_simp
       with_reducible rfl
      rotate_left
      · simp only [Act.put, sA_, sZ_, sS_, i64_w, i32_w]; rfl
      refine pure_ (i := 8) (N := some 29) (v := ?_) (a' := ?_) #[true,true,true,true,true,true,true,true,true,false,true,false,false] rfl rfl (any_of HT_.out (by kernel_rfl)) (fun _ _ _ h => h) (Or.inl ⟨by rfl, ?_⟩) ?_ ?_; rotate_left
      ·
       intro w'; go_simp
       with_reducible rfl
      rotate_left
      · simp only [Act.put, sA_, sZ_, sS_, i64_w, i32_w]; rfl
      refine pure_ (i := 9) (N := some 30) (v := ?_) (a' := ?_) #[true,true,true,true,true,true,true,true,true,true,true,false,false] rfl rfl (any_of HT_.out (by kernel_rfl)) (fun _ _ _ h => h) (Or.inl ⟨by rfl, ?_⟩) ?_ ?_; rotate_left
      ·
       intro w'; go_simp
       with_reducible rfl
      rotate_left
      · simp only [Act.put, sA_, sZ_, sS_, i64_w, i32_w]; rfl
      exact nm_ (hJ1_3_5_6_10 (gb262) _ ⟨hHeld, (bk_ BK226), (bk_ BK227), (bk_ BK228), (bk_ BK245), (bk_ BK262), GW262.out, GE262.out, NB226_262.out, NB262_226.out, NB227_262.out, NB262_227.out, NB228_262.out, NB262_228.out, NB245_262.out, NB262_245.out, (bw_ HB)⟩)
    ·
     rintro _ w68 ⟨hS_, h0_, h1_, h2_, h3_, h4_⟩; replace BK226 := Aside0.mk h0_; replace BK227 := Aside0.mk h1_; replace BK228 := Aside0.mk h2_; replace BK245 := Aside0.mk h3_; replace HB := Aside0.mk h4_; clear h0_ h1_ h2_ h3_ h4_; have hHeld := hS_
     apply norm_
     · simp only [putAll, Act.put, sA_, sZ_, sS_]; rfl
     refine one_ (i := 10) (N := some 9) #[true,true,true,true,true,true,true,true,true,true,true,false,false] rfl rfl (one_of HT_.out (by kernel_rfl)) (by decide) (fun K hK => ?_); refine box_step ?hg (N := 9) ?hd (cs := #[.int .i64 0, .int .i64 0, .bool false]) (t := 26) ?hr ?_; (case hd => rfl); (case hg => rfl); (case hr => first | (go_simp; done) | (go_simp; rfl))
     intro gb262 hg w69 hbox hb; have BK262 := Aside0.mk hbox; have GW262 := ge_ HB hg; have GE262 := ge_ HB hg; have NB226_262 := nl_ BK226 hg; have NB262_226 := nr_ BK226 hg; have NB227_262 := nl_ BK227 hg; have NB262_227 := nr_ BK227 hg; have NB228_262 := nl_ BK228 hg; have NB262_228 := nr_ BK228 hg; have NB245_262 := nl_ BK245 hg; have NB262_245 := nr_ BK245 hg; replace BK226 := bb_ BK226 hb; replace BK227 := bb_ BK227 hb; replace BK228 := bb_ BK228 hb; replace BK245 := bb_ BK245 hb; replace HB := bs_ HB hb; clear hb hbox hg; refine hK.out _ _ ⟨bc_ BK226 0, bc_ BK226 1, bc_ BK226 2, bc_ BK226 3, bc_ BK226 4, bc_ BK226 5, bc_ BK227 0, bc_ BK227 1, bc_ BK227 2, bc_ BK228 0, bc_ BK228 1, bc_ BK228 2⟩ (fun hHeld => ?_); clear hK K
     apply norm_
     · show Act.put _ (some 9) _ = _; simp only [Act.put, sA_, sZ_, sS_, i64_w, i32_w]; rfl
     exact nm_ (hJ1_3_5_6_10 (gb262) _ ⟨hHeld, (bk_ BK226), (bk_ BK227), (bk_ BK228), (bk_ BK245), (bk_ BK262), GW262.out, GE262.out, NB226_262.out, NB262_226.out, NB227_262.out, NB262_227.out, NB228_262.out, NB262_228.out, NB245_262.out, NB262_245.out, (bw_ HB)⟩)
   rintro gb262 w69 ⟨hS_, h0_, h1_, h2_, h3_, h4_, h5_, h6_, h7_, h8_, h9_, h10_, h11_, h12_, h13_, h14_, h15_⟩; replace BK226 := Aside0.mk h0_; replace BK227 := Aside0.mk h1_; replace BK228 := Aside0.mk h2_; replace BK245 := Aside0.mk h3_; have BK262 := Aside0.mk h4_; have GW262 := Aside0.mk h5_; have GE262 := Aside0.mk h6_; have NB226_262 := Aside0.mk h7_; have NB262_226 := Aside0.mk h8_; have NB227_262 := Aside0.mk h9_; have NB262_227 := Aside0.mk h10_; have NB228_262 := Aside0.mk h11_; have NB262_228 := Aside0.mk h12_; have NB245_262 := Aside0.mk h13_; have NB262_245 := Aside0.mk h14_; replace HB := Aside0.mk h15_; clear h0_ h1_ h2_ h3_ h4_ h5_ h6_ h7_ h8_ h9_ h10_ h11_ h12_ h13_ h14_ h15_; have hHeld := hS_
   apply norm_
   · simp only [putAll, Act.put, sA_, sZ_, sS_]; rfl
   refine one_ (i := 11) (N := none) #[true,true,true,true,true,true,true,true,true,true,true,true,false] rfl rfl (one_of HT_.out (by kernel_rfl)) (by decide) (fun K hK => ?_)
   have hs70 : w69.cell? ⟨gb262, 0, none⟩ = some (.int .i64 0) := bc_ BK262 0
   have hfs70 := blk_frozen BK262.out 0; have hns70_0 := NB226_262.out; have hns70_1 := NB227_262.out; have hns70_2 := NB228_262.out; have hns70_3 := NB245_262.out; have hms70_0 := NB262_226.out; have hms70_1 := NB262_227.out; have hms70_2 := NB262_228.out; have hms70_3 := NB262_245.out
   have hs71 : w69.cell? ⟨gb262, 1, none⟩ = some (.int .i64 0) := bc_ BK262 1
   have hfs71 := blk_frozen BK262.out 1; have hns71_0 := NB226_262.out; have hns71_1 := NB227_262.out; have hns71_2 := NB228_262.out; have hns71_3 := NB245_262.out; have hms71_0 := NB262_226.out; have hms71_1 := NB262_227.out; have hms71_2 := NB262_228.out; have hms71_3 := NB262_245.out
   have hs72 : w69.cell? ⟨gb262, 2, none⟩ = some (.bool false) := bc_ BK262 2
   have hfs72 := blk_frozen BK262.out 2; have hns72_0 := NB226_262.out; have hns72_1 := NB227_262.out; have hns72_2 := NB228_262.out; have hns72_3 := NB245_262.out; have hms72_0 := NB262_226.out; have hms72_1 := NB262_227.out; have hms72_2 := NB262_228.out; have hms72_3 := NB262_245.out; refine skip_ (w1 := ?_) (by rfl) rfl ?_ ?_; rotate_left
   · go_simp; rfl
   refine hK.out _ _ ⟨((cell_far (p := ⟨gb262, _, none⟩) NB226_262.out _).trans (((cell_far (p := ⟨gb262, _, none⟩) NB226_262.out _).trans (((cell_far (p := ⟨gb262, _, none⟩) NB226_262.out _).trans (hHeld.1)))))), ((cell_far (p := ⟨gb262, _, none⟩) NB226_262.out _).trans (((cell_far (p := ⟨gb262, _, none⟩) NB226_262.out _).trans (((cell_far (p := ⟨gb262, _, none⟩) NB226_262.out _).trans (hHeld.2.1)))))), ((cell_far (p := ⟨gb262, _, none⟩) NB226_262.out _).trans (((cell_far (p := ⟨gb262, _, none⟩) NB226_262.out _).trans (((cell_far (p := ⟨gb262, _, none⟩) NB226_262.out _).trans (hHeld.2.2.1)))))), ((cell_far (p := ⟨gb262, _, none⟩) NB226_262.out _).trans (((cell_far (p := ⟨gb262, _, none⟩) NB226_262.out _).trans (((cell_far (p := ⟨gb262, _, none⟩) NB226_262.out _).trans (hHeld.2.2.2.1)))))), ((cell_far (p := ⟨gb262, _, none⟩) NB226_262.out _).trans (((cell_far (p := ⟨gb262, _, none⟩) NB226_262.out _).trans (((cell_far (p := ⟨gb262, _, none⟩) NB226_262.out _).trans (hHeld.2.2.2.2.1)))))), ((cell_far (p := ⟨gb262, _, none⟩) NB226_262.out _).trans (((cell_far (p := ⟨gb262, _, none⟩) NB226_262.out _).trans (((cell_far (p := ⟨gb262, _, none⟩) NB226_262.out _).trans (hHeld.2.2.2.2.2.1)))))), ((cell_far (p := ⟨gb262, _, none⟩) NB227_262.out _).trans (((cell_far (p := ⟨gb262, _, none⟩) NB227_262.out _).trans (((cell_far (p := ⟨gb262, _, none⟩) NB227_262.out _).trans (hHeld.2.2.2.2.2.2.1)))))), ((cell_far (p := ⟨gb262, _, none⟩) NB227_262.out _).trans (((cell_far (p := ⟨gb262, _, none⟩) NB227_262.out _).trans (((cell_far (p := ⟨gb262, _, none⟩) NB227_262.out _).trans (hHeld.2.2.2.2.2.2.2.1)))))), ((cell_far (p := ⟨gb262, _, none⟩) NB227_262.out _).trans (((cell_far (p := ⟨gb262, _, none⟩) NB227_262.out _).trans (((cell_far (p := ⟨gb262, _, none⟩) NB227_262.out _).trans (hHeld.2.2.2.2.2.2.2.2.1)))))), ((cell_far (p := ⟨gb262, _, none⟩) NB228_262.out _).trans (((cell_far (p := ⟨gb262, _, none⟩) NB228_262.out _).trans (((cell_far (p := ⟨gb262, _, none⟩) NB228_262.out _).trans (hHeld.2.2.2.2.2.2.2.2.2.1)))))), ((cell_far (p := ⟨gb262, _, none⟩) NB228_262.out _).trans (((cell_far (p := ⟨gb262, _, none⟩) NB228_262.out _).trans (((cell_far (p := ⟨gb262, _, none⟩) NB228_262.out _).trans (hHeld.2.2.2.2.2.2.2.2.2.2.1)))))), ((cell_far (p := ⟨gb262, _, none⟩) NB228_262.out _).trans (((cell_far (p := ⟨gb262, _, none⟩) NB228_262.out _).trans (((cell_far (p := ⟨gb262, _, none⟩) NB228_262.out _).trans (hHeld.2.2.2.2.2.2.2.2.2.2.2))))))⟩ (fun hHeld => ?_); clear hK K; refine pure_ (i := 12) (N := some 10) (v := ?_) (a' := ?_) #[true,true,true,true,true,true,true,true,true,true,true,true,true] rfl rfl (any_of HT_.out (by kernel_rfl)) (fun _ _ _ h => h) (Or.inl ⟨by rfl, ?_⟩) ?_ ?_; rotate_left
   ·
    intro w'; go_simp
    with_reducible rfl
   rotate_left
   · simp only [Act.put, sA_, sZ_, sS_, i64_w, i32_w]; rfl
   refine done_ (done_of HT_.out (by kernel_rfl)) ?_; have hnb73 := NB262_226.out; have hnc73 := NB226_262.out; have hnb74 := NB262_227.out; have hnc74 := NB227_262.out; have hnb75 := NB262_228.out; have hnc75 := NB228_262.out; have hnb76 := NB262_245.out; have hnc76 := NB245_262.out
   have hcz77_0 : w69.cell? ⟨gb262, 0, none⟩ = some (.int .i64 0) := bc_ BK262 0
   have hcz77_1 : w69.cell? ⟨gb262, 1, none⟩ = some (.int .i64 0) := bc_ BK262 1
   have hcz77_2 : w69.cell? ⟨gb262, 2, none⟩ = some (.bool false) := bc_ BK262 2
   have hfz77_0 := blk_frozen BK262.out 0; have hfz77_1 := blk_frozen BK262.out 1; have hfz77_2 := blk_frozen BK262.out 2; have hnb78 := NB245_226.out; have hnc78 := NB226_245.out; have hnb79 := NB245_227.out; have hnc79 := NB227_245.out; have hnb80 := NB245_228.out; have hnc80 := NB228_245.out
   have hcz81_0 : w69.cell? ⟨gb245, 0, none⟩ = some (.int .i64 t241) := bc_ BK245 0
   have hcz81_1 : w69.cell? ⟨gb245, 1, none⟩ = some (.int .i64 t242) := bc_ BK245 1
   have hcz81_2 : w69.cell? ⟨gb245, 2, none⟩ = some (.bool t243) := bc_ BK245 2
   have hfz81_0 := blk_frozen BK245.out 0; have hfz81_1 := blk_frozen BK245.out 1; have hfz81_2 := blk_frozen BK245.out 2
   try go_wp2_with (first | ((with_reducible refine gate_callee (f := 12) rfl ?_); refine goesL_ (some 33) rfl rfl Try.func12 (by kernel_rfl) rfl #[.agg #[.int .i64 t258, .int .i64 t259, .bool t260], .agg #[.int .i64 t241, .int .i64 t242, .bool t243]] rfl (by (try simp only [List.map_toArray, List.map_cons, List.map_nil]); first | done | rfl | (simp only [List.length_drop, List.length_take]; rfl)) ?_; (with_reducible refine (laws_eqPoint.calls t258 t259 t260 t241 t242 t243 true _ A12.out).mono ?_); rintro e w82 ⟨rfl, hb⟩; refine ⟨_, rfl, ?_⟩; have n0_ := Aside0.mk (blk_below (g := gb226) (o := .cells #[.int .i64 a0_0, .int .i64 a0_1, .int .i64 a0_2, .int .i64 a0_3, .int .i64 a0_4, .int .i64 a0_5] 23 (0, 0)) (bf_ BK226) hb); have n1_ := Aside0.mk (blk_below (g := gb227) (o := .cells #[.int .i64 a1_0, .int .i64 a1_1, .bool a1_2] 25 (0, 0)) (bf_ BK227) hb); have n2_ := Aside0.mk (blk_below (g := gb228) (o := .cells #[.int .i64 a2_0, .int .i64 a2_1, .bool a2_2] 25 (0, 0)) (bf_ BK228) hb); have n3_ := Aside0.mk (blk_below (g := gb245) (o := .cells #[.int .i64 t241, .int .i64 t242, .bool t243] 26 (0, 0)) (bf_ BK245) hb); have n4_ := Aside0.mk (blk_below (g := gb262) (o := .cells #[.int .i64 t258, .int .i64 t259, .bool t260] 26 (0, 0)) (by (with_reducible repeat (first | refine blk_drewN ?_ _ | refine blk_drew ?_ | refine blk_alloc ?_ _)); refine blk_put (cs := #[.int .i64 t258, .int .i64 t259, .bool false]) ?_ 2 _ rfl; (with_reducible repeat (first | refine blk_drewN ?_ _ | refine blk_drew ?_ | refine blk_alloc ?_ _)); refine blk_put (cs := #[.int .i64 t258, .int .i64 0, .bool false]) ?_ 1 _ rfl; (with_reducible repeat (first | refine blk_drewN ?_ _ | refine blk_drew ?_ | refine blk_alloc ?_ _)); refine blk_put (cs := #[.int .i64 0, .int .i64 0, .bool false]) ?_ 0 _ rfl; (with_reducible repeat (first | refine blk_drewN ?_ _ | refine blk_drew ?_ | refine blk_alloc ?_ _)); exact BK262.out) hb); have n5_ := bs_ HB hb; clear BK226; clear BK227; clear BK228; clear BK245; clear BK262; clear HB; have BK226 := n0_; have BK227 := n1_; have BK228 := n2_; have BK245 := n3_; have BK262 := n4_; have HB := n5_; clear n0_ n1_ n2_ n3_ n4_ n5_; (try clear hb); (try clear hb2); (try clear hk); (try clear hi)))
   go_ret
   exact ⟨by first | rfl | (simp [errW_none, errW_some] <;> rfl) | (simp [*, errW_none, errW_some] <;> rfl), by repeat (first | (with_reducible first | exact HB.out | apply below_alloc | apply pw_below_drewN | apply below_drew1 | refine below_set ?_ GE226.out | refine below_set ?_ GE227.out | refine below_set ?_ GE228.out | refine below_set ?_ GE245.out | refine below_set ?_ GE262.out) | exact HB.out)⟩
 ·
  replace c13 := Bool.eq_false_iff.mpr c13; subst c13
  have H1 : (some false) = some r := by rw [if_neg (show ¬ (false = true) by decide)] at H; exact H
  clear H; have H := H1; clear H1; obtain rfl := Option.some.inj H
  go_enter Try.func3, Try.ntmps3
  try go_wp2_with (first | ((with_reducible refine gate_dst (N := 3) rfl ?_); refine box_event ?hg (N := 3) ?hd (cs := #[.int .i64 a0_0, .int .i64 a0_1, .int .i64 a0_2, .int .i64 a0_3, .int .i64 a0_4, .int .i64 a0_5]) (t := 23) ?hr ?_; (case hd => rfl); (case hg => rfl); (case hr => first | (go_simp; done) | (go_simp; rfl)); intro gb226 hg w83 hbox hb; have BK226 := Aside0.mk hbox; have GW226 := ge_ HB hg; have GE226 := ge_ HB hg; replace HB := bs_ HB hb; clear hb hbox hg) | ((with_reducible refine gate_dst (N := 4) rfl ?_); refine box_event ?hg (N := 4) ?hd (cs := #[.int .i64 a1_0, .int .i64 a1_1, .bool a1_2]) (t := 25) ?hr ?_; (case hd => rfl); (case hg => rfl); (case hr => first | (go_simp; done) | (go_simp; rfl)); intro gb227 hg w84 hbox hb; have BK227 := Aside0.mk hbox; have GW227 := ge_ HB hg; have GE227 := ge_ HB hg; have NB226_227 := nl_ BK226 hg; have NB227_226 := nr_ BK226 hg; replace BK226 := bb_ BK226 hb; replace HB := bs_ HB hb; clear hb hbox hg) | ((with_reducible refine gate_dst (N := 5) rfl ?_); refine box_event ?hg (N := 5) ?hd (cs := #[.int .i64 a2_0, .int .i64 a2_1, .bool a2_2]) (t := 25) ?hr ?_; (case hd => rfl); (case hg => rfl); (case hr => first | (go_simp; done) | (go_simp; rfl)); intro gb228 hg w85 hbox hb; have BK228 := Aside0.mk hbox; have GW228 := ge_ HB hg; have GE228 := ge_ HB hg; have NB226_228 := nl_ BK226 hg; have NB228_226 := nr_ BK226 hg; have NB227_228 := nl_ BK227 hg; have NB228_227 := nr_ BK227 hg; replace BK226 := bb_ BK226 hb; replace BK227 := bb_ BK227 hb; replace HB := bs_ HB hb; clear hb hbox hg))
  replace BK226 := Aside0.mk (blk_drew BK226.out); replace BK227 := Aside0.mk (blk_drew BK227.out); replace BK228 := Aside0.mk (blk_drew BK228.out); replace HB := Aside0.mk (below_drew1 HB.out); refine start_ (n := 13) (S := fun w' => w'.cell? ⟨gb226, 0, none⟩ = some (.int .i64 a0_0) ∧ w'.cell? ⟨gb226, 1, none⟩ = some (.int .i64 a0_1) ∧ w'.cell? ⟨gb226, 2, none⟩ = some (.int .i64 a0_2) ∧ w'.cell? ⟨gb226, 3, none⟩ = some (.int .i64 a0_3) ∧ w'.cell? ⟨gb226, 4, none⟩ = some (.int .i64 a0_4) ∧ w'.cell? ⟨gb226, 5, none⟩ = some (.int .i64 a0_5) ∧ w'.cell? ⟨gb227, 0, none⟩ = some (.int .i64 a1_0) ∧ w'.cell? ⟨gb227, 1, none⟩ = some (.int .i64 a1_1) ∧ w'.cell? ⟨gb227, 2, none⟩ = some (.bool a1_2) ∧ w'.cell? ⟨gb228, 0, none⟩ = some (.int .i64 a2_0) ∧ w'.cell? ⟨gb228, 1, none⟩ = some (.int .i64 a2_1) ∧ w'.cell? ⟨gb228, 2, none⟩ = some (.bool a2_2)) (ds := []) #[false,false,false,false,false,false,false,false,false,false,false,false,false] (by kernel_rfl) rfl rfl ⟨bc_ BK226 0, bc_ BK226 1, bc_ BK226 2, bc_ BK226 3, bc_ BK226 4, bc_ BK226 5, bc_ BK227 0, bc_ BK227 1, bc_ BK227 2, bc_ BK228 0, bc_ BK228 1, bc_ BK228 2⟩ (fun hHeld => ?_); refine with_tabW laws_FnExactPointAdd.tab1 laws_FnExactPointAdd.bits1 (fun HT_ HW_ => ?_)
  generalize w85.drew = w86 at BK226 BK227 BK228 HB hHeld ⊢
  refine take_ (i := 0) (N := some 12) (v := ?_) (a' := ?_) #[true,false,false,false,false,false,false,false,false,false,false,false,false] rfl rfl (take_ofW HT_.out HW_.out (by kernel_rfl)) (fun _ _ _ h => h) (Or.inl ⟨by rfl, ?_⟩) hHeld ?_ ?_; rotate_left
  ·
   rintro w' ⟨s0, s1, s2, s3, s4, s5, s6, s7, s8, s9, s10, s11⟩; go_simp
   with_reducible rfl
  rotate_left
  · simp only [Act.put, sA_, sZ_, sS_, i64_w, i32_w]; rfl
  refine take_ (i := 2) (N := some 14) (v := ?_) (a' := ?_) #[true,false,true,false,false,false,false,false,false,false,false,false,false] rfl rfl (take_ofW HT_.out HW_.out (by kernel_rfl)) (fun _ _ _ h => h) (Or.inl ⟨by rfl, ?_⟩) hHeld ?_ ?_; rotate_left
  ·
   rintro w' ⟨s0, s1, s2, s3, s4, s5, s6, s7, s8, s9, s10, s11⟩; go_simp
   with_reducible rfl
  rotate_left
  · simp only [Act.put, sA_, sZ_, sS_, i64_w, i32_w]; rfl
  refine take_ (i := 4) (N := some 16) (v := ?_) (a' := ?_) #[true,false,true,false,true,false,false,false,false,false,false,false,false] rfl rfl (take_ofW HT_.out HW_.out (by kernel_rfl)) (fun _ _ _ h => h) (Or.inl ⟨by rfl, ?_⟩) hHeld ?_ ?_; rotate_left
  ·
   rintro w' ⟨s0, s1, s2, s3, s4, s5, s6, s7, s8, s9, s10, s11⟩; go_simp
   with_reducible rfl
  rotate_left
  · simp only [Act.put, sA_, sZ_, sS_, i64_w, i32_w]; rfl
  refine join_ (σ := Nat) 2 #[true,true,true,true,true,true,true,true,true,true,true,false,false] (fun s_ => [(13, .agg #[.int .i64 t229, .int .i64 t230, .int .i64 t231, .int .i64 t232, .int .i64 t233, .int .i64 t234]), (15, .agg #[.int .i64 t235, .int .i64 t236, .bool t237]), (17, .agg #[.int .i64 t238, .int .i64 t239, .bool t240]), (18, .tuple #[.agg #[.int .i64 t241, .int .i64 t242, .bool t243], .bool t244]), (7, .pointer (some ⟨s_, 0, none⟩)), (11, .tuple #[.agg #[.int .i64 t241, .int .i64 t242, .bool t243], .bool t244]), (19, .agg #[.int .i64 t241, .int .i64 t242, .bool t243]), (20, .bool t244)]) (fun s_ w' => (CS0 gb226 gb227 gb228 a0_0 a0_1 a0_2 a0_3 a0_4 a0_5 a1_0 a1_1 a1_2 a2_0 a2_1 a2_2 w') ∧ (w'.heap[gb226]? = some (.cells #[.int .i64 a0_0, .int .i64 a0_1, .int .i64 a0_2, .int .i64 a0_3, .int .i64 a0_4, .int .i64 a0_5] 23 (0, 0))) ∧ (w'.heap[gb227]? = some (.cells #[.int .i64 a1_0, .int .i64 a1_1, .bool a1_2] 25 (0, 0))) ∧ (w'.heap[gb228]? = some (.cells #[.int .i64 a2_0, .int .i64 a2_1, .bool a2_2] 25 (0, 0))) ∧ (w'.heap[s_]? = some (.cells #[.int .i64 0, .int .i64 0, .bool false] 26 (0, 0))) ∧ (w.heap.size ≤ s_) ∧ (w.heap.size ≤ s_) ∧ (gb226 ≠ s_) ∧ (s_ ≠ gb226) ∧ (gb227 ≠ s_) ∧ (s_ ≠ gb227) ∧ (gb228 ≠ s_) ∧ (s_ ≠ gb228) ∧ (Below w.heap.size w w')) ?_ ?_; rotate_left
  ·
   intro hJ1_3_5_6_10; refine join_ (σ := Unit) 3 #[true,true,true,true,true,true,true,true,true,true,false,false,false] (fun s_ => [(13, .agg #[.int .i64 t229, .int .i64 t230, .int .i64 t231, .int .i64 t232, .int .i64 t233, .int .i64 t234]), (15, .agg #[.int .i64 t235, .int .i64 t236, .bool t237]), (17, .agg #[.int .i64 t238, .int .i64 t239, .bool t240]), (18, .tuple #[.agg #[.int .i64 t241, .int .i64 t242, .bool t243], .bool t244]), (11, .tuple #[.agg #[.int .i64 t241, .int .i64 t242, .bool t243], .bool t244]), (19, .agg #[.int .i64 t241, .int .i64 t242, .bool t243]), (20, .bool t244)]) (fun s_ w' => (CS0 gb226 gb227 gb228 a0_0 a0_1 a0_2 a0_3 a0_4 a0_5 a1_0 a1_1 a1_2 a2_0 a2_1 a2_2 w') ∧ (w'.heap[gb226]? = some (.cells #[.int .i64 a0_0, .int .i64 a0_1, .int .i64 a0_2, .int .i64 a0_3, .int .i64 a0_4, .int .i64 a0_5] 23 (0, 0))) ∧ (w'.heap[gb227]? = some (.cells #[.int .i64 a1_0, .int .i64 a1_1, .bool a1_2] 25 (0, 0))) ∧ (w'.heap[gb228]? = some (.cells #[.int .i64 a2_0, .int .i64 a2_1, .bool a2_2] 25 (0, 0))) ∧ (Below w.heap.size w w')) ?_ ?_; rotate_left
   ·
    intro hJ1_3_5_6; refine join_ (σ := Nat) 6 #[true,true,true,true,true,true,false,false,false,false,true,false,false] (fun s_ => [(13, .agg #[.int .i64 t229, .int .i64 t230, .int .i64 t231, .int .i64 t232, .int .i64 t233, .int .i64 t234]), (15, .agg #[.int .i64 t235, .int .i64 t236, .bool t237]), (17, .agg #[.int .i64 t238, .int .i64 t239, .bool t240]), (7, .pointer (some ⟨s_, 0, none⟩))]) (fun s_ w' => (CS0 gb226 gb227 gb228 a0_0 a0_1 a0_2 a0_3 a0_4 a0_5 a1_0 a1_1 a1_2 a2_0 a2_1 a2_2 w') ∧ (w'.heap[gb226]? = some (.cells #[.int .i64 a0_0, .int .i64 a0_1, .int .i64 a0_2, .int .i64 a0_3, .int .i64 a0_4, .int .i64 a0_5] 23 (0, 0))) ∧ (w'.heap[gb227]? = some (.cells #[.int .i64 a1_0, .int .i64 a1_1, .bool a1_2] 25 (0, 0))) ∧ (w'.heap[gb228]? = some (.cells #[.int .i64 a2_0, .int .i64 a2_1, .bool a2_2] 25 (0, 0))) ∧ (w'.heap[s_]? = some (.cells #[.int .i64 0, .int .i64 0, .bool false] 26 (0, 0))) ∧ (w.heap.size ≤ s_) ∧ (w.heap.size ≤ s_) ∧ (gb226 ≠ s_) ∧ (s_ ≠ gb226) ∧ (gb227 ≠ s_) ∧ (s_ ≠ gb227) ∧ (gb228 ≠ s_) ∧ (s_ ≠ gb228) ∧ (Below w.heap.size w w')) ?_ ?_; rotate_left
    ·
     intro hJ1_3_5_10; refine join_ (σ := Unit) 7 #[true,true,true,true,true,true,false,false,false,false,false,false,false] (fun s_ => [(13, .agg #[.int .i64 t229, .int .i64 t230, .int .i64 t231, .int .i64 t232, .int .i64 t233, .int .i64 t234]), (15, .agg #[.int .i64 t235, .int .i64 t236, .bool t237]), (17, .agg #[.int .i64 t238, .int .i64 t239, .bool t240])]) (fun s_ w' => (CS0 gb226 gb227 gb228 a0_0 a0_1 a0_2 a0_3 a0_4 a0_5 a1_0 a1_1 a1_2 a2_0 a2_1 a2_2 w') ∧ (w'.heap[gb226]? = some (.cells #[.int .i64 a0_0, .int .i64 a0_1, .int .i64 a0_2, .int .i64 a0_3, .int .i64 a0_4, .int .i64 a0_5] 23 (0, 0))) ∧ (w'.heap[gb227]? = some (.cells #[.int .i64 a1_0, .int .i64 a1_1, .bool a1_2] 25 (0, 0))) ∧ (w'.heap[gb228]? = some (.cells #[.int .i64 a2_0, .int .i64 a2_1, .bool a2_2] 25 (0, 0))) ∧ (Below w.heap.size w w')) ?_ ?_; rotate_left
     ·
      intro hJ1_3_5; refine join_ (σ := Nat) 7 #[true,true,true,true,true,false,false,false,false,false,true,false,false] (fun s_ => [(13, .agg #[.int .i64 t229, .int .i64 t230, .int .i64 t231, .int .i64 t232, .int .i64 t233, .int .i64 t234]), (15, .agg #[.int .i64 t235, .int .i64 t236, .bool t237]), (7, .pointer (some ⟨s_, 0, none⟩))]) (fun s_ w' => (CS0 gb226 gb227 gb228 a0_0 a0_1 a0_2 a0_3 a0_4 a0_5 a1_0 a1_1 a1_2 a2_0 a2_1 a2_2 w') ∧ (w'.heap[gb226]? = some (.cells #[.int .i64 a0_0, .int .i64 a0_1, .int .i64 a0_2, .int .i64 a0_3, .int .i64 a0_4, .int .i64 a0_5] 23 (0, 0))) ∧ (w'.heap[gb227]? = some (.cells #[.int .i64 a1_0, .int .i64 a1_1, .bool a1_2] 25 (0, 0))) ∧ (w'.heap[gb228]? = some (.cells #[.int .i64 a2_0, .int .i64 a2_1, .bool a2_2] 25 (0, 0))) ∧ (w'.heap[s_]? = some (.cells #[.int .i64 0, .int .i64 0, .bool false] 26 (0, 0))) ∧ (w.heap.size ≤ s_) ∧ (w.heap.size ≤ s_) ∧ (gb226 ≠ s_) ∧ (s_ ≠ gb226) ∧ (gb227 ≠ s_) ∧ (s_ ≠ gb227) ∧ (gb228 ≠ s_) ∧ (s_ ≠ gb228) ∧ (Below w.heap.size w w')) ?_ ?_; rotate_left
      ·
       intro hJ1_3_10; refine join_ (σ := Unit) 8 #[true,true,true,true,true,false,false,false,false,false,false,false,false] (fun s_ => [(13, .agg #[.int .i64 t229, .int .i64 t230, .int .i64 t231, .int .i64 t232, .int .i64 t233, .int .i64 t234]), (15, .agg #[.int .i64 t235, .int .i64 t236, .bool t237])]) (fun s_ w' => (CS0 gb226 gb227 gb228 a0_0 a0_1 a0_2 a0_3 a0_4 a0_5 a1_0 a1_1 a1_2 a2_0 a2_1 a2_2 w') ∧ (w'.heap[gb226]? = some (.cells #[.int .i64 a0_0, .int .i64 a0_1, .int .i64 a0_2, .int .i64 a0_3, .int .i64 a0_4, .int .i64 a0_5] 23 (0, 0))) ∧ (w'.heap[gb227]? = some (.cells #[.int .i64 a1_0, .int .i64 a1_1, .bool a1_2] 25 (0, 0))) ∧ (w'.heap[gb228]? = some (.cells #[.int .i64 a2_0, .int .i64 a2_1, .bool a2_2] 25 (0, 0))) ∧ (Below w.heap.size w w')) ?_ ?_; rotate_left
       ·
        intro hJ1_3; refine join_ (σ := Nat) 8 #[true,true,true,false,true,false,false,false,false,false,true,false,false] (fun s_ => [(13, .agg #[.int .i64 t229, .int .i64 t230, .int .i64 t231, .int .i64 t232, .int .i64 t233, .int .i64 t234]), (7, .pointer (some ⟨s_, 0, none⟩))]) (fun s_ w' => (CS0 gb226 gb227 gb228 a0_0 a0_1 a0_2 a0_3 a0_4 a0_5 a1_0 a1_1 a1_2 a2_0 a2_1 a2_2 w') ∧ (w'.heap[gb226]? = some (.cells #[.int .i64 a0_0, .int .i64 a0_1, .int .i64 a0_2, .int .i64 a0_3, .int .i64 a0_4, .int .i64 a0_5] 23 (0, 0))) ∧ (w'.heap[gb227]? = some (.cells #[.int .i64 a1_0, .int .i64 a1_1, .bool a1_2] 25 (0, 0))) ∧ (w'.heap[gb228]? = some (.cells #[.int .i64 a2_0, .int .i64 a2_1, .bool a2_2] 25 (0, 0))) ∧ (w'.heap[s_]? = some (.cells #[.int .i64 0, .int .i64 0, .bool false] 26 (0, 0))) ∧ (w.heap.size ≤ s_) ∧ (w.heap.size ≤ s_) ∧ (gb226 ≠ s_) ∧ (s_ ≠ gb226) ∧ (gb227 ≠ s_) ∧ (s_ ≠ gb227) ∧ (gb228 ≠ s_) ∧ (s_ ≠ gb228) ∧ (Below w.heap.size w w')) ?_ ?_; rotate_left
        ·
         intro hJ1_10; refine join_ (σ := Unit) 9 #[true,true,true,false,true,false,false,false,false,false,false,false,false] (fun s_ => [(13, .agg #[.int .i64 t229, .int .i64 t230, .int .i64 t231, .int .i64 t232, .int .i64 t233, .int .i64 t234])]) (fun s_ w' => (CS0 gb226 gb227 gb228 a0_0 a0_1 a0_2 a0_3 a0_4 a0_5 a1_0 a1_1 a1_2 a2_0 a2_1 a2_2 w') ∧ (w'.heap[gb226]? = some (.cells #[.int .i64 a0_0, .int .i64 a0_1, .int .i64 a0_2, .int .i64 a0_3, .int .i64 a0_4, .int .i64 a0_5] 23 (0, 0))) ∧ (w'.heap[gb227]? = some (.cells #[.int .i64 a1_0, .int .i64 a1_1, .bool a1_2] 25 (0, 0))) ∧ (w'.heap[gb228]? = some (.cells #[.int .i64 a2_0, .int .i64 a2_1, .bool a2_2] 25 (0, 0))) ∧ (Below w.heap.size w w')) ?_ ?_; rotate_left
         ·
          intro hJ1; refine join_ (σ := Nat) 9 #[true,false,true,false,true,false,false,false,false,false,true,false,false] (fun s_ => [(7, .pointer (some ⟨s_, 0, none⟩))]) (fun s_ w' => (CS0 gb226 gb227 gb228 a0_0 a0_1 a0_2 a0_3 a0_4 a0_5 a1_0 a1_1 a1_2 a2_0 a2_1 a2_2 w') ∧ (w'.heap[gb226]? = some (.cells #[.int .i64 a0_0, .int .i64 a0_1, .int .i64 a0_2, .int .i64 a0_3, .int .i64 a0_4, .int .i64 a0_5] 23 (0, 0))) ∧ (w'.heap[gb227]? = some (.cells #[.int .i64 a1_0, .int .i64 a1_1, .bool a1_2] 25 (0, 0))) ∧ (w'.heap[gb228]? = some (.cells #[.int .i64 a2_0, .int .i64 a2_1, .bool a2_2] 25 (0, 0))) ∧ (w'.heap[s_]? = some (.cells #[.int .i64 0, .int .i64 0, .bool false] 26 (0, 0))) ∧ (w.heap.size ≤ s_) ∧ (w.heap.size ≤ s_) ∧ (gb226 ≠ s_) ∧ (s_ ≠ gb226) ∧ (gb227 ≠ s_) ∧ (s_ ≠ gb227) ∧ (gb228 ≠ s_) ∧ (s_ ≠ gb228) ∧ (Below w.heap.size w w')) ?_ ?_; rotate_left
          ·
           intro hJ10; refine two_ (i := 1) (j := 10) (Ni := some 13) (Nj := some 7) #[true,true,true,false,true,false,false,false,false,false,false,false,false] #[true,false,true,false,true,false,false,false,false,false,true,false,false] rfl rfl rfl rfl (two_of HT_.out (by kernel_rfl)) (by decide) (by decide) (fun K hK => ?_) (fun K hK => ?_)
           ·
            refine gs_ Try.func9 #[.agg #[.int .i64 a0_0, .int .i64 a0_1, .int .i64 a0_2, .int .i64 a0_3, .int .i64 a0_4, .int .i64 a0_5]] ?_
            with_reducible refine (laws_toCurve.calls a0_0 a0_1 a0_2 a0_3 a0_4 a0_5 t229 t230 t231 t232 t233 t234 _ A4.out).mono ?_
            rintro e w87 ⟨rfl, hb⟩; refine ⟨_, rfl, ?_⟩; replace BK226 := bb_ BK226 hb; replace BK227 := bb_ BK227 hb; replace BK228 := bb_ BK228 hb; replace HB := bs_ HB hb; (try clear hb); refine hK.out _ _ ⟨bc_ BK226 0, bc_ BK226 1, bc_ BK226 2, bc_ BK226 3, bc_ BK226 4, bc_ BK226 5, bc_ BK227 0, bc_ BK227 1, bc_ BK227 2, bc_ BK228 0, bc_ BK228 1, bc_ BK228 2⟩ (fun hHeld => ?_); clear hK K
            apply norm_
            · show Act.put _ (some 13) _ = _; simp only [Act.put, sA_, sZ_, sS_, i64_w, i32_w]; rfl
            exact nm_ (hJ1 () _ ⟨hHeld, (bk_ BK226), (bk_ BK227), (bk_ BK228), (bw_ HB)⟩)
           ·
            refine box_step ?hg (N := 7) ?hd (cs := #[.int .i64 0, .int .i64 0, .bool false]) (t := 26) ?hr ?_; (case hd => rfl); (case hg => rfl); (case hr => first | (go_simp; done) | (go_simp; rfl))
            intro gb245 hg w87 hbox hb; have BK245 := Aside0.mk hbox; have GW245 := ge_ HB hg; have GE245 := ge_ HB hg; have NB226_245 := nl_ BK226 hg; have NB245_226 := nr_ BK226 hg; have NB227_245 := nl_ BK227 hg; have NB245_227 := nr_ BK227 hg; have NB228_245 := nl_ BK228 hg; have NB245_228 := nr_ BK228 hg; replace BK226 := bb_ BK226 hb; replace BK227 := bb_ BK227 hb; replace BK228 := bb_ BK228 hb; replace HB := bs_ HB hb; clear hb hbox hg; refine hK.out _ _ ⟨bc_ BK226 0, bc_ BK226 1, bc_ BK226 2, bc_ BK226 3, bc_ BK226 4, bc_ BK226 5, bc_ BK227 0, bc_ BK227 1, bc_ BK227 2, bc_ BK228 0, bc_ BK228 1, bc_ BK228 2⟩ (fun hHeld => ?_); clear hK K
            apply norm_
            · show Act.put _ (some 7) _ = _; simp only [Act.put, sA_, sZ_, sS_, i64_w, i32_w]; rfl
            exact nm_ (hJ10 (gb245) _ ⟨hHeld, (bk_ BK226), (bk_ BK227), (bk_ BK228), (bk_ BK245), GW245.out, GE245.out, NB226_245.out, NB245_226.out, NB227_245.out, NB245_227.out, NB228_245.out, NB245_228.out, (bw_ HB)⟩)
          ·
           rintro gb245 w88 ⟨hS_, h0_, h1_, h2_, h3_, h4_, h5_, h6_, h7_, h8_, h9_, h10_, h11_, h12_⟩; replace BK226 := Aside0.mk h0_; replace BK227 := Aside0.mk h1_; replace BK228 := Aside0.mk h2_; have BK245 := Aside0.mk h3_; have GW245 := Aside0.mk h4_; have GE245 := Aside0.mk h5_; have NB226_245 := Aside0.mk h6_; have NB245_226 := Aside0.mk h7_; have NB227_245 := Aside0.mk h8_; have NB245_227 := Aside0.mk h9_; have NB228_245 := Aside0.mk h10_; have NB245_228 := Aside0.mk h11_; replace HB := Aside0.mk h12_; clear h0_ h1_ h2_ h3_ h4_ h5_ h6_ h7_ h8_ h9_ h10_ h11_ h12_; have hHeld := hS_
           apply norm_
           · simp only [putAll, Act.put, sA_, sZ_, sS_]; rfl
           refine one_ (i := 1) (N := some 13) #[true,true,true,false,true,false,false,false,false,false,true,false,false] rfl rfl (one_of HT_.out (by kernel_rfl)) (by decide) (fun K hK => ?_); refine gs_ Try.func9 #[.agg #[.int .i64 a0_0, .int .i64 a0_1, .int .i64 a0_2, .int .i64 a0_3, .int .i64 a0_4, .int .i64 a0_5]] ?_
           with_reducible refine (laws_toCurve.calls a0_0 a0_1 a0_2 a0_3 a0_4 a0_5 t229 t230 t231 t232 t233 t234 _ A4.out).mono ?_
           rintro e w89 ⟨rfl, hb⟩; refine ⟨_, rfl, ?_⟩; replace BK226 := bb_ BK226 hb; replace BK227 := bb_ BK227 hb; replace BK228 := bb_ BK228 hb; replace BK245 := bb_ BK245 hb; replace HB := bs_ HB hb; (try clear hb); refine hK.out _ _ ⟨bc_ BK226 0, bc_ BK226 1, bc_ BK226 2, bc_ BK226 3, bc_ BK226 4, bc_ BK226 5, bc_ BK227 0, bc_ BK227 1, bc_ BK227 2, bc_ BK228 0, bc_ BK228 1, bc_ BK228 2⟩ (fun hHeld => ?_); clear hK K
           apply norm_
           · show Act.put _ (some 13) _ = _; simp only [Act.put, sA_, sZ_, sS_, i64_w, i32_w]; rfl
           exact nm_ (hJ1_10 (gb245) _ ⟨hHeld, (bk_ BK226), (bk_ BK227), (bk_ BK228), (bk_ BK245), GW245.out, GE245.out, NB226_245.out, NB245_226.out, NB227_245.out, NB245_227.out, NB228_245.out, NB245_228.out, (bw_ HB)⟩)
         ·
          rintro _ w88 ⟨hS_, h0_, h1_, h2_, h3_⟩; replace BK226 := Aside0.mk h0_; replace BK227 := Aside0.mk h1_; replace BK228 := Aside0.mk h2_; replace HB := Aside0.mk h3_; clear h0_ h1_ h2_ h3_; have hHeld := hS_
          apply norm_
          · simp only [putAll, Act.put, sA_, sZ_, sS_]; rfl
          refine two_ (i := 3) (j := 10) (Ni := some 15) (Nj := some 7) #[true,true,true,true,true,false,false,false,false,false,false,false,false] #[true,true,true,false,true,false,false,false,false,false,true,false,false] rfl rfl rfl rfl (two_of HT_.out (by kernel_rfl)) (by decide) (by decide) (fun K hK => ?_) (fun K hK => ?_)
          ·
           refine gs_ Try.func10 #[.agg #[.int .i64 a1_0, .int .i64 a1_1, .bool a1_2]] ?_
           with_reducible refine (laws_toPoint.calls a1_0 a1_1 a1_2 t235 t236 t237 _ A5.out).mono ?_
           rintro e w89 ⟨rfl, hb⟩; refine ⟨_, rfl, ?_⟩; replace BK226 := bb_ BK226 hb; replace BK227 := bb_ BK227 hb; replace BK228 := bb_ BK228 hb; replace HB := bs_ HB hb; (try clear hb); refine hK.out _ _ ⟨bc_ BK226 0, bc_ BK226 1, bc_ BK226 2, bc_ BK226 3, bc_ BK226 4, bc_ BK226 5, bc_ BK227 0, bc_ BK227 1, bc_ BK227 2, bc_ BK228 0, bc_ BK228 1, bc_ BK228 2⟩ (fun hHeld => ?_); clear hK K
           apply norm_
           · show Act.put _ (some 15) _ = _; simp only [Act.put, sA_, sZ_, sS_, i64_w, i32_w]; rfl
           exact nm_ (hJ1_3 () _ ⟨hHeld, (bk_ BK226), (bk_ BK227), (bk_ BK228), (bw_ HB)⟩)
          ·
           refine box_step ?hg (N := 7) ?hd (cs := #[.int .i64 0, .int .i64 0, .bool false]) (t := 26) ?hr ?_; (case hd => rfl); (case hg => rfl); (case hr => first | (go_simp; done) | (go_simp; rfl))
           intro gb245 hg w89 hbox hb; have BK245 := Aside0.mk hbox; have GW245 := ge_ HB hg; have GE245 := ge_ HB hg; have NB226_245 := nl_ BK226 hg; have NB245_226 := nr_ BK226 hg; have NB227_245 := nl_ BK227 hg; have NB245_227 := nr_ BK227 hg; have NB228_245 := nl_ BK228 hg; have NB245_228 := nr_ BK228 hg; replace BK226 := bb_ BK226 hb; replace BK227 := bb_ BK227 hb; replace BK228 := bb_ BK228 hb; replace HB := bs_ HB hb; clear hb hbox hg; refine hK.out _ _ ⟨bc_ BK226 0, bc_ BK226 1, bc_ BK226 2, bc_ BK226 3, bc_ BK226 4, bc_ BK226 5, bc_ BK227 0, bc_ BK227 1, bc_ BK227 2, bc_ BK228 0, bc_ BK228 1, bc_ BK228 2⟩ (fun hHeld => ?_); clear hK K
           apply norm_
           · show Act.put _ (some 7) _ = _; simp only [Act.put, sA_, sZ_, sS_, i64_w, i32_w]; rfl
           exact nm_ (hJ1_10 (gb245) _ ⟨hHeld, (bk_ BK226), (bk_ BK227), (bk_ BK228), (bk_ BK245), GW245.out, GE245.out, NB226_245.out, NB245_226.out, NB227_245.out, NB245_227.out, NB228_245.out, NB245_228.out, (bw_ HB)⟩)
        ·
         rintro gb245 w89 ⟨hS_, h0_, h1_, h2_, h3_, h4_, h5_, h6_, h7_, h8_, h9_, h10_, h11_, h12_⟩; replace BK226 := Aside0.mk h0_; replace BK227 := Aside0.mk h1_; replace BK228 := Aside0.mk h2_; have BK245 := Aside0.mk h3_; have GW245 := Aside0.mk h4_; have GE245 := Aside0.mk h5_; have NB226_245 := Aside0.mk h6_; have NB245_226 := Aside0.mk h7_; have NB227_245 := Aside0.mk h8_; have NB245_227 := Aside0.mk h9_; have NB228_245 := Aside0.mk h10_; have NB245_228 := Aside0.mk h11_; replace HB := Aside0.mk h12_; clear h0_ h1_ h2_ h3_ h4_ h5_ h6_ h7_ h8_ h9_ h10_ h11_ h12_; have hHeld := hS_
         apply norm_
         · simp only [putAll, Act.put, sA_, sZ_, sS_]; rfl
         refine one_ (i := 3) (N := some 15) #[true,true,true,true,true,false,false,false,false,false,true,false,false] rfl rfl (one_of HT_.out (by kernel_rfl)) (by decide) (fun K hK => ?_); refine gs_ Try.func10 #[.agg #[.int .i64 a1_0, .int .i64 a1_1, .bool a1_2]] ?_
         with_reducible refine (laws_toPoint.calls a1_0 a1_1 a1_2 t235 t236 t237 _ A5.out).mono ?_
         rintro e w90 ⟨rfl, hb⟩; refine ⟨_, rfl, ?_⟩; replace BK226 := bb_ BK226 hb; replace BK227 := bb_ BK227 hb; replace BK228 := bb_ BK228 hb; replace BK245 := bb_ BK245 hb; replace HB := bs_ HB hb; (try clear hb); refine hK.out _ _ ⟨bc_ BK226 0, bc_ BK226 1, bc_ BK226 2, bc_ BK226 3, bc_ BK226 4, bc_ BK226 5, bc_ BK227 0, bc_ BK227 1, bc_ BK227 2, bc_ BK228 0, bc_ BK228 1, bc_ BK228 2⟩ (fun hHeld => ?_); clear hK K
         apply norm_
         · show Act.put _ (some 15) _ = _; simp only [Act.put, sA_, sZ_, sS_, i64_w, i32_w]; rfl
         exact nm_ (hJ1_3_10 (gb245) _ ⟨hHeld, (bk_ BK226), (bk_ BK227), (bk_ BK228), (bk_ BK245), GW245.out, GE245.out, NB226_245.out, NB245_226.out, NB227_245.out, NB245_227.out, NB228_245.out, NB245_228.out, (bw_ HB)⟩)
       ·
        rintro _ w89 ⟨hS_, h0_, h1_, h2_, h3_⟩; replace BK226 := Aside0.mk h0_; replace BK227 := Aside0.mk h1_; replace BK228 := Aside0.mk h2_; replace HB := Aside0.mk h3_; clear h0_ h1_ h2_ h3_; have hHeld := hS_
        apply norm_
        · simp only [putAll, Act.put, sA_, sZ_, sS_]; rfl
        refine two_ (i := 5) (j := 10) (Ni := some 17) (Nj := some 7) #[true,true,true,true,true,true,false,false,false,false,false,false,false] #[true,true,true,true,true,false,false,false,false,false,true,false,false] rfl rfl rfl rfl (two_of HT_.out (by kernel_rfl)) (by decide) (by decide) (fun K hK => ?_) (fun K hK => ?_)
        ·
         refine gs_ Try.func10 #[.agg #[.int .i64 a2_0, .int .i64 a2_1, .bool a2_2]] ?_
         with_reducible refine (laws_toPoint.calls a2_0 a2_1 a2_2 t238 t239 t240 _ A6.out).mono ?_
         rintro e w90 ⟨rfl, hb⟩; refine ⟨_, rfl, ?_⟩; replace BK226 := bb_ BK226 hb; replace BK227 := bb_ BK227 hb; replace BK228 := bb_ BK228 hb; replace HB := bs_ HB hb; (try clear hb); refine hK.out _ _ ⟨bc_ BK226 0, bc_ BK226 1, bc_ BK226 2, bc_ BK226 3, bc_ BK226 4, bc_ BK226 5, bc_ BK227 0, bc_ BK227 1, bc_ BK227 2, bc_ BK228 0, bc_ BK228 1, bc_ BK228 2⟩ (fun hHeld => ?_); clear hK K
         apply norm_
         · show Act.put _ (some 17) _ = _; simp only [Act.put, sA_, sZ_, sS_, i64_w, i32_w]; rfl
         exact nm_ (hJ1_3_5 () _ ⟨hHeld, (bk_ BK226), (bk_ BK227), (bk_ BK228), (bw_ HB)⟩)
        ·
         refine box_step ?hg (N := 7) ?hd (cs := #[.int .i64 0, .int .i64 0, .bool false]) (t := 26) ?hr ?_; (case hd => rfl); (case hg => rfl); (case hr => first | (go_simp; done) | (go_simp; rfl))
         intro gb245 hg w90 hbox hb; have BK245 := Aside0.mk hbox; have GW245 := ge_ HB hg; have GE245 := ge_ HB hg; have NB226_245 := nl_ BK226 hg; have NB245_226 := nr_ BK226 hg; have NB227_245 := nl_ BK227 hg; have NB245_227 := nr_ BK227 hg; have NB228_245 := nl_ BK228 hg; have NB245_228 := nr_ BK228 hg; replace BK226 := bb_ BK226 hb; replace BK227 := bb_ BK227 hb; replace BK228 := bb_ BK228 hb; replace HB := bs_ HB hb; clear hb hbox hg; refine hK.out _ _ ⟨bc_ BK226 0, bc_ BK226 1, bc_ BK226 2, bc_ BK226 3, bc_ BK226 4, bc_ BK226 5, bc_ BK227 0, bc_ BK227 1, bc_ BK227 2, bc_ BK228 0, bc_ BK228 1, bc_ BK228 2⟩ (fun hHeld => ?_); clear hK K
         apply norm_
         · show Act.put _ (some 7) _ = _; simp only [Act.put, sA_, sZ_, sS_, i64_w, i32_w]; rfl
         exact nm_ (hJ1_3_10 (gb245) _ ⟨hHeld, (bk_ BK226), (bk_ BK227), (bk_ BK228), (bk_ BK245), GW245.out, GE245.out, NB226_245.out, NB245_226.out, NB227_245.out, NB245_227.out, NB228_245.out, NB245_228.out, (bw_ HB)⟩)
      ·
       rintro gb245 w90 ⟨hS_, h0_, h1_, h2_, h3_, h4_, h5_, h6_, h7_, h8_, h9_, h10_, h11_, h12_⟩; replace BK226 := Aside0.mk h0_; replace BK227 := Aside0.mk h1_; replace BK228 := Aside0.mk h2_; have BK245 := Aside0.mk h3_; have GW245 := Aside0.mk h4_; have GE245 := Aside0.mk h5_; have NB226_245 := Aside0.mk h6_; have NB245_226 := Aside0.mk h7_; have NB227_245 := Aside0.mk h8_; have NB245_227 := Aside0.mk h9_; have NB228_245 := Aside0.mk h10_; have NB245_228 := Aside0.mk h11_; replace HB := Aside0.mk h12_; clear h0_ h1_ h2_ h3_ h4_ h5_ h6_ h7_ h8_ h9_ h10_ h11_ h12_; have hHeld := hS_
       apply norm_
       · simp only [putAll, Act.put, sA_, sZ_, sS_]; rfl
       refine one_ (i := 5) (N := some 17) #[true,true,true,true,true,true,false,false,false,false,true,false,false] rfl rfl (one_of HT_.out (by kernel_rfl)) (by decide) (fun K hK => ?_); refine gs_ Try.func10 #[.agg #[.int .i64 a2_0, .int .i64 a2_1, .bool a2_2]] ?_
       with_reducible refine (laws_toPoint.calls a2_0 a2_1 a2_2 t238 t239 t240 _ A6.out).mono ?_
       rintro e w91 ⟨rfl, hb⟩; refine ⟨_, rfl, ?_⟩; replace BK226 := bb_ BK226 hb; replace BK227 := bb_ BK227 hb; replace BK228 := bb_ BK228 hb; replace BK245 := bb_ BK245 hb; replace HB := bs_ HB hb; (try clear hb); refine hK.out _ _ ⟨bc_ BK226 0, bc_ BK226 1, bc_ BK226 2, bc_ BK226 3, bc_ BK226 4, bc_ BK226 5, bc_ BK227 0, bc_ BK227 1, bc_ BK227 2, bc_ BK228 0, bc_ BK228 1, bc_ BK228 2⟩ (fun hHeld => ?_); clear hK K
       apply norm_
       · show Act.put _ (some 17) _ = _; simp only [Act.put, sA_, sZ_, sS_, i64_w, i32_w]; rfl
       exact nm_ (hJ1_3_5_10 (gb245) _ ⟨hHeld, (bk_ BK226), (bk_ BK227), (bk_ BK228), (bk_ BK245), GW245.out, GE245.out, NB226_245.out, NB245_226.out, NB227_245.out, NB245_227.out, NB228_245.out, NB245_228.out, (bw_ HB)⟩)
     ·
      rintro _ w90 ⟨hS_, h0_, h1_, h2_, h3_⟩; replace BK226 := Aside0.mk h0_; replace BK227 := Aside0.mk h1_; replace BK228 := Aside0.mk h2_; replace HB := Aside0.mk h3_; clear h0_ h1_ h2_ h3_; have hHeld := hS_
      apply norm_
      · simp only [putAll, Act.put, sA_, sZ_, sS_]; rfl
      refine two_ (i := 6) (j := 10) (Ni := some 18) (Nj := some 7) #[true,true,true,true,true,true,true,false,false,false,false,false,false] #[true,true,true,true,true,true,false,false,false,false,true,false,false] rfl rfl rfl rfl (two_of HT_.out (by kernel_rfl)) (by decide) (by decide) (fun K hK => ?_) (fun K hK => ?_)
      ·
       refine gs_ Try.func8 #[.agg #[.int .i64 t229, .int .i64 t230, .int .i64 t231, .int .i64 t232, .int .i64 t233, .int .i64 t234], .agg #[.int .i64 t235, .int .i64 t236, .bool t237], .agg #[.int .i64 t238, .int .i64 t239, .bool t240]] ?_
       with_reducible refine (spec_PointAdd.calls k t229 t230 t231 t232 t233 t234 t235 t236 t237 t238 t239 t240 t241 t242 t243 t244 _ A7.out).mono ?_
       rintro e w91 ⟨rfl, hb⟩; refine ⟨_, rfl, ?_⟩; replace BK226 := bb_ BK226 hb; replace BK227 := bb_ BK227 hb; replace BK228 := bb_ BK228 hb; replace HB := bs_ HB hb; (try clear hb); refine hK.out _ _ ⟨bc_ BK226 0, bc_ BK226 1, bc_ BK226 2, bc_ BK226 3, bc_ BK226 4, bc_ BK226 5, bc_ BK227 0, bc_ BK227 1, bc_ BK227 2, bc_ BK228 0, bc_ BK228 1, bc_ BK228 2⟩ (fun hHeld => ?_); clear hK K
       apply norm_
       · show Act.put _ (some 18) _ = _; simp only [Act.put, sA_, sZ_, sS_, i64_w, i32_w]; rfl
       refine pure_ (i := 7) (N := some 11) (v := ?_) (a' := ?_) #[true,true,true,true,true,true,true,true,false,false,false,false,false] rfl rfl (any_of HT_.out (by kernel_rfl)) (fun _ _ _ h => h) (Or.inl ⟨by rfl, ?_⟩) ?_ ?_; rotate_left
       ·
        intro w'; go_simp
        with_reducible rfl
       rotate_left
       · simp only [Act.put, sA_, sZ_, sS_, i64_w, i32_w]; rfl
       refine pure_ (i := 8) (N := some 19) (v := ?_) (a' := ?_) #[true,true,true,true,true,true,true,true,true,false,false,false,false] rfl rfl (any_of HT_.out (by kernel_rfl)) (fun _ _ _ h => h) (Or.inl ⟨by rfl, ?_⟩) ?_ ?_; rotate_left
       ·
        intro w'; go_simp
        with_reducible rfl
       rotate_left
       · simp only [Act.put, sA_, sZ_, sS_, i64_w, i32_w]; rfl
       refine pure_ (i := 9) (N := some 20) (v := ?_) (a' := ?_) #[true,true,true,true,true,true,true,true,true,true,false,false,false] rfl rfl (any_of HT_.out (by kernel_rfl)) (fun _ _ _ h => h) (Or.inl ⟨by rfl, ?_⟩) ?_ ?_; rotate_left
       ·
        intro w'; go_simp
        with_reducible rfl
       rotate_left
       · simp only [Act.put, sA_, sZ_, sS_, i64_w, i32_w]; rfl
       exact nm_ (hJ1_3_5_6 () _ ⟨hHeld, (bk_ BK226), (bk_ BK227), (bk_ BK228), (bw_ HB)⟩)
      ·
       refine box_step ?hg (N := 7) ?hd (cs := #[.int .i64 0, .int .i64 0, .bool false]) (t := 26) ?hr ?_; (case hd => rfl); (case hg => rfl); (case hr => first | (go_simp; done) | (go_simp; rfl))
       intro gb245 hg w91 hbox hb; have BK245 := Aside0.mk hbox; have GW245 := ge_ HB hg; have GE245 := ge_ HB hg; have NB226_245 := nl_ BK226 hg; have NB245_226 := nr_ BK226 hg; have NB227_245 := nl_ BK227 hg; have NB245_227 := nr_ BK227 hg; have NB228_245 := nl_ BK228 hg; have NB245_228 := nr_ BK228 hg; replace BK226 := bb_ BK226 hb; replace BK227 := bb_ BK227 hb; replace BK228 := bb_ BK228 hb; replace HB := bs_ HB hb; clear hb hbox hg; refine hK.out _ _ ⟨bc_ BK226 0, bc_ BK226 1, bc_ BK226 2, bc_ BK226 3, bc_ BK226 4, bc_ BK226 5, bc_ BK227 0, bc_ BK227 1, bc_ BK227 2, bc_ BK228 0, bc_ BK228 1, bc_ BK228 2⟩ (fun hHeld => ?_); clear hK K
       apply norm_
       · show Act.put _ (some 7) _ = _; simp only [Act.put, sA_, sZ_, sS_, i64_w, i32_w]; rfl
       exact nm_ (hJ1_3_5_10 (gb245) _ ⟨hHeld, (bk_ BK226), (bk_ BK227), (bk_ BK228), (bk_ BK245), GW245.out, GE245.out, NB226_245.out, NB245_226.out, NB227_245.out, NB245_227.out, NB228_245.out, NB245_228.out, (bw_ HB)⟩)
    ·
     rintro gb245 w91 ⟨hS_, h0_, h1_, h2_, h3_, h4_, h5_, h6_, h7_, h8_, h9_, h10_, h11_, h12_⟩; replace BK226 := Aside0.mk h0_; replace BK227 := Aside0.mk h1_; replace BK228 := Aside0.mk h2_; have BK245 := Aside0.mk h3_; have GW245 := Aside0.mk h4_; have GE245 := Aside0.mk h5_; have NB226_245 := Aside0.mk h6_; have NB245_226 := Aside0.mk h7_; have NB227_245 := Aside0.mk h8_; have NB245_227 := Aside0.mk h9_; have NB228_245 := Aside0.mk h10_; have NB245_228 := Aside0.mk h11_; replace HB := Aside0.mk h12_; clear h0_ h1_ h2_ h3_ h4_ h5_ h6_ h7_ h8_ h9_ h10_ h11_ h12_; have hHeld := hS_
     apply norm_
     · simp only [putAll, Act.put, sA_, sZ_, sS_]; rfl
     refine one_ (i := 6) (N := some 18) #[true,true,true,true,true,true,true,false,false,false,true,false,false] rfl rfl (one_of HT_.out (by kernel_rfl)) (by decide) (fun K hK => ?_); refine gs_ Try.func8 #[.agg #[.int .i64 t229, .int .i64 t230, .int .i64 t231, .int .i64 t232, .int .i64 t233, .int .i64 t234], .agg #[.int .i64 t235, .int .i64 t236, .bool t237], .agg #[.int .i64 t238, .int .i64 t239, .bool t240]] ?_
     with_reducible refine (spec_PointAdd.calls k t229 t230 t231 t232 t233 t234 t235 t236 t237 t238 t239 t240 t241 t242 t243 t244 _ A7.out).mono ?_
     rintro e w92 ⟨rfl, hb⟩; refine ⟨_, rfl, ?_⟩; replace BK226 := bb_ BK226 hb; replace BK227 := bb_ BK227 hb; replace BK228 := bb_ BK228 hb; replace BK245 := bb_ BK245 hb; replace HB := bs_ HB hb; (try clear hb); refine hK.out _ _ ⟨bc_ BK226 0, bc_ BK226 1, bc_ BK226 2, bc_ BK226 3, bc_ BK226 4, bc_ BK226 5, bc_ BK227 0, bc_ BK227 1, bc_ BK227 2, bc_ BK228 0, bc_ BK228 1, bc_ BK228 2⟩ (fun hHeld => ?_); clear hK K
     apply norm_
     · show Act.put _ (some 18) _ = _; simp only [Act.put, sA_, sZ_, sS_, i64_w, i32_w]; rfl
     refine pure_ (i := 7) (N := some 11) (v := ?_) (a' := ?_) #[true,true,true,true,true,true,true,true,false,false,true,false,false] rfl rfl (any_of HT_.out (by kernel_rfl)) (fun _ _ _ h => h) (Or.inl ⟨by rfl, ?_⟩) ?_ ?_; rotate_left
     ·
      intro w'; go_simp
      with_reducible rfl
     rotate_left
     · simp only [Act.put, sA_, sZ_, sS_, i64_w, i32_w]; rfl
     refine pure_ (i := 8) (N := some 19) (v := ?_) (a' := ?_) #[true,true,true,true,true,true,true,true,true,false,true,false,false] rfl rfl (any_of HT_.out (by kernel_rfl)) (fun _ _ _ h => h) (Or.inl ⟨by rfl, ?_⟩) ?_ ?_; rotate_left
     ·
      intro w'; go_simp
      with_reducible rfl
     rotate_left
     · simp only [Act.put, sA_, sZ_, sS_, i64_w, i32_w]; rfl
     refine pure_ (i := 9) (N := some 20) (v := ?_) (a' := ?_) #[true,true,true,true,true,true,true,true,true,true,true,false,false] rfl rfl (any_of HT_.out (by kernel_rfl)) (fun _ _ _ h => h) (Or.inl ⟨by rfl, ?_⟩) ?_ ?_; rotate_left
     ·
      intro w'; go_simp
      with_reducible rfl
     rotate_left
     · simp only [Act.put, sA_, sZ_, sS_, i64_w, i32_w]; rfl
     exact nm_ (hJ1_3_5_6_10 (gb245) _ ⟨hHeld, (bk_ BK226), (bk_ BK227), (bk_ BK228), (bk_ BK245), GW245.out, GE245.out, NB226_245.out, NB245_226.out, NB227_245.out, NB245_227.out, NB228_245.out, NB245_228.out, (bw_ HB)⟩)
   ·
    rintro _ w91 ⟨hS_, h0_, h1_, h2_, h3_⟩; replace BK226 := Aside0.mk h0_; replace BK227 := Aside0.mk h1_; replace BK228 := Aside0.mk h2_; replace HB := Aside0.mk h3_; clear h0_ h1_ h2_ h3_; have hHeld := hS_
    apply norm_
    · simp only [putAll, Act.put, sA_, sZ_, sS_]; rfl
    refine one_ (i := 10) (N := some 7) #[true,true,true,true,true,true,true,true,true,true,true,false,false] rfl rfl (one_of HT_.out (by kernel_rfl)) (by decide) (fun K hK => ?_); refine box_step ?hg (N := 7) ?hd (cs := #[.int .i64 0, .int .i64 0, .bool false]) (t := 26) ?hr ?_; (case hd => rfl); (case hg => rfl); (case hr => first | (go_simp; done) | (go_simp; rfl))
    intro gb245 hg w92 hbox hb; have BK245 := Aside0.mk hbox; have GW245 := ge_ HB hg; have GE245 := ge_ HB hg; have NB226_245 := nl_ BK226 hg; have NB245_226 := nr_ BK226 hg; have NB227_245 := nl_ BK227 hg; have NB245_227 := nr_ BK227 hg; have NB228_245 := nl_ BK228 hg; have NB245_228 := nr_ BK228 hg; replace BK226 := bb_ BK226 hb; replace BK227 := bb_ BK227 hb; replace BK228 := bb_ BK228 hb; replace HB := bs_ HB hb; clear hb hbox hg; refine hK.out _ _ ⟨bc_ BK226 0, bc_ BK226 1, bc_ BK226 2, bc_ BK226 3, bc_ BK226 4, bc_ BK226 5, bc_ BK227 0, bc_ BK227 1, bc_ BK227 2, bc_ BK228 0, bc_ BK228 1, bc_ BK228 2⟩ (fun hHeld => ?_); clear hK K
    apply norm_
    · show Act.put _ (some 7) _ = _; simp only [Act.put, sA_, sZ_, sS_, i64_w, i32_w]; rfl
    exact nm_ (hJ1_3_5_6_10 (gb245) _ ⟨hHeld, (bk_ BK226), (bk_ BK227), (bk_ BK228), (bk_ BK245), GW245.out, GE245.out, NB226_245.out, NB245_226.out, NB227_245.out, NB245_227.out, NB228_245.out, NB245_228.out, (bw_ HB)⟩)
  rintro gb245 w92 ⟨hS_, h0_, h1_, h2_, h3_, h4_, h5_, h6_, h7_, h8_, h9_, h10_, h11_, h12_⟩; replace BK226 := Aside0.mk h0_; replace BK227 := Aside0.mk h1_; replace BK228 := Aside0.mk h2_; have BK245 := Aside0.mk h3_; have GW245 := Aside0.mk h4_; have GE245 := Aside0.mk h5_; have NB226_245 := Aside0.mk h6_; have NB245_226 := Aside0.mk h7_; have NB227_245 := Aside0.mk h8_; have NB245_227 := Aside0.mk h9_; have NB228_245 := Aside0.mk h10_; have NB245_228 := Aside0.mk h11_; replace HB := Aside0.mk h12_; clear h0_ h1_ h2_ h3_ h4_ h5_ h6_ h7_ h8_ h9_ h10_ h11_ h12_; have hHeld := hS_
  apply norm_
  · simp only [putAll, Act.put, sA_, sZ_, sS_]; rfl
  refine one_ (i := 11) (N := none) #[true,true,true,true,true,true,true,true,true,true,true,true,false] rfl rfl (one_of HT_.out (by kernel_rfl)) (by decide) (fun K hK => ?_)
  have hs93 : w92.cell? ⟨gb245, 0, none⟩ = some (.int .i64 0) := bc_ BK245 0
  have hfs93 := blk_frozen BK245.out 0; have hns93_0 := NB226_245.out; have hns93_1 := NB227_245.out; have hns93_2 := NB228_245.out; have hms93_0 := NB245_226.out; have hms93_1 := NB245_227.out; have hms93_2 := NB245_228.out
  have hs94 : w92.cell? ⟨gb245, 1, none⟩ = some (.int .i64 0) := bc_ BK245 1
  have hfs94 := blk_frozen BK245.out 1; have hns94_0 := NB226_245.out; have hns94_1 := NB227_245.out; have hns94_2 := NB228_245.out; have hms94_0 := NB245_226.out; have hms94_1 := NB245_227.out; have hms94_2 := NB245_228.out
  have hs95 : w92.cell? ⟨gb245, 2, none⟩ = some (.bool false) := bc_ BK245 2
  have hfs95 := blk_frozen BK245.out 2; have hns95_0 := NB226_245.out; have hns95_1 := NB227_245.out; have hns95_2 := NB228_245.out; have hms95_0 := NB245_226.out; have hms95_1 := NB245_227.out; have hms95_2 := NB245_228.out; refine skip_ (w1 := ?_) (by rfl) rfl ?_ ?_; rotate_left
  · go_simp; rfl
  refine hK.out _ _ ⟨((cell_far (p := ⟨gb245, _, none⟩) NB226_245.out _).trans (((cell_far (p := ⟨gb245, _, none⟩) NB226_245.out _).trans (((cell_far (p := ⟨gb245, _, none⟩) NB226_245.out _).trans (hHeld.1)))))), ((cell_far (p := ⟨gb245, _, none⟩) NB226_245.out _).trans (((cell_far (p := ⟨gb245, _, none⟩) NB226_245.out _).trans (((cell_far (p := ⟨gb245, _, none⟩) NB226_245.out _).trans (hHeld.2.1)))))), ((cell_far (p := ⟨gb245, _, none⟩) NB226_245.out _).trans (((cell_far (p := ⟨gb245, _, none⟩) NB226_245.out _).trans (((cell_far (p := ⟨gb245, _, none⟩) NB226_245.out _).trans (hHeld.2.2.1)))))), ((cell_far (p := ⟨gb245, _, none⟩) NB226_245.out _).trans (((cell_far (p := ⟨gb245, _, none⟩) NB226_245.out _).trans (((cell_far (p := ⟨gb245, _, none⟩) NB226_245.out _).trans (hHeld.2.2.2.1)))))), ((cell_far (p := ⟨gb245, _, none⟩) NB226_245.out _).trans (((cell_far (p := ⟨gb245, _, none⟩) NB226_245.out _).trans (((cell_far (p := ⟨gb245, _, none⟩) NB226_245.out _).trans (hHeld.2.2.2.2.1)))))), ((cell_far (p := ⟨gb245, _, none⟩) NB226_245.out _).trans (((cell_far (p := ⟨gb245, _, none⟩) NB226_245.out _).trans (((cell_far (p := ⟨gb245, _, none⟩) NB226_245.out _).trans (hHeld.2.2.2.2.2.1)))))), ((cell_far (p := ⟨gb245, _, none⟩) NB227_245.out _).trans (((cell_far (p := ⟨gb245, _, none⟩) NB227_245.out _).trans (((cell_far (p := ⟨gb245, _, none⟩) NB227_245.out _).trans (hHeld.2.2.2.2.2.2.1)))))), ((cell_far (p := ⟨gb245, _, none⟩) NB227_245.out _).trans (((cell_far (p := ⟨gb245, _, none⟩) NB227_245.out _).trans (((cell_far (p := ⟨gb245, _, none⟩) NB227_245.out _).trans (hHeld.2.2.2.2.2.2.2.1)))))), ((cell_far (p := ⟨gb245, _, none⟩) NB227_245.out _).trans (((cell_far (p := ⟨gb245, _, none⟩) NB227_245.out _).trans (((cell_far (p := ⟨gb245, _, none⟩) NB227_245.out _).trans (hHeld.2.2.2.2.2.2.2.2.1)))))), ((cell_far (p := ⟨gb245, _, none⟩) NB228_245.out _).trans (((cell_far (p := ⟨gb245, _, none⟩) NB228_245.out _).trans (((cell_far (p := ⟨gb245, _, none⟩) NB228_245.out _).trans (hHeld.2.2.2.2.2.2.2.2.2.1)))))), ((cell_far (p := ⟨gb245, _, none⟩) NB228_245.out _).trans (((cell_far (p := ⟨gb245, _, none⟩) NB228_245.out _).trans (((cell_far (p := ⟨gb245, _, none⟩) NB228_245.out _).trans (hHeld.2.2.2.2.2.2.2.2.2.2.1)))))), ((cell_far (p := ⟨gb245, _, none⟩) NB228_245.out _).trans (((cell_far (p := ⟨gb245, _, none⟩) NB228_245.out _).trans (((cell_far (p := ⟨gb245, _, none⟩) NB228_245.out _).trans (hHeld.2.2.2.2.2.2.2.2.2.2.2))))))⟩ (fun hHeld => ?_); clear hK K; refine pure_ (i := 12) (N := some 8) (v := ?_) (a' := ?_) #[true,true,true,true,true,true,true,true,true,true,true,true,true] rfl rfl (any_of HT_.out (by kernel_rfl)) (fun _ _ _ h => h) (Or.inl ⟨by rfl, ?_⟩) ?_ ?_; rotate_left
  ·
   intro w'; go_simp
   with_reducible rfl
  rotate_left
  · simp only [Act.put, sA_, sZ_, sS_, i64_w, i32_w]; rfl
  refine done_ (done_of HT_.out (by kernel_rfl)) ?_
  try go_wp2
  have n0_ : Aside0 ((((w92.setCell ⟨gb245, 0, none⟩ (.int .i64 t241)).setCell ⟨gb245, 1, none⟩ (.int .i64 t242)).setCell ⟨gb245, 2, none⟩ (.bool t243)).heap[gb226]? = some (.cells #[.int .i64 a0_0, .int .i64 a0_1, .int .i64 a0_2, .int .i64 a0_3, .int .i64 a0_4, .int .i64 a0_5] 23 (0, 0))) := ⟨bf_ BK226⟩
  have n1_ : Aside0 ((((w92.setCell ⟨gb245, 0, none⟩ (.int .i64 t241)).setCell ⟨gb245, 1, none⟩ (.int .i64 t242)).setCell ⟨gb245, 2, none⟩ (.bool t243)).heap[gb227]? = some (.cells #[.int .i64 a1_0, .int .i64 a1_1, .bool a1_2] 25 (0, 0))) := ⟨bf_ BK227⟩
  have n2_ : Aside0 ((((w92.setCell ⟨gb245, 0, none⟩ (.int .i64 t241)).setCell ⟨gb245, 1, none⟩ (.int .i64 t242)).setCell ⟨gb245, 2, none⟩ (.bool t243)).heap[gb228]? = some (.cells #[.int .i64 a2_0, .int .i64 a2_1, .bool a2_2] 25 (0, 0))) := ⟨bf_ BK228⟩
  have n3_ : Aside0 ((((w92.setCell ⟨gb245, 0, none⟩ (.int .i64 t241)).setCell ⟨gb245, 1, none⟩ (.int .i64 t242)).setCell ⟨gb245, 2, none⟩ (.bool t243)).heap[gb245]? = some (.cells #[.int .i64 t241, .int .i64 t242, .bool t243] 26 (0, 0))) := ⟨by (with_reducible repeat (first | refine blk_drewN ?_ _ | refine blk_drew ?_ | refine blk_alloc ?_ _)); refine blk_put (cs := #[.int .i64 t241, .int .i64 t242, .bool false]) ?_ 2 _ rfl; (with_reducible repeat (first | refine blk_drewN ?_ _ | refine blk_drew ?_ | refine blk_alloc ?_ _)); refine blk_put (cs := #[.int .i64 t241, .int .i64 0, .bool false]) ?_ 1 _ rfl; (with_reducible repeat (first | refine blk_drewN ?_ _ | refine blk_drew ?_ | refine blk_alloc ?_ _)); refine blk_put (cs := #[.int .i64 0, .int .i64 0, .bool false]) ?_ 0 _ rfl; (with_reducible repeat (first | refine blk_drewN ?_ _ | refine blk_drew ?_ | refine blk_alloc ?_ _)); exact BK245.out⟩
  have n4_ : Aside0 (Below w.heap.size w (((w92.setCell ⟨gb245, 0, none⟩ (.int .i64 t241)).setCell ⟨gb245, 1, none⟩ (.int .i64 t242)).setCell ⟨gb245, 2, none⟩ (.bool t243))) := ⟨bw_ HB⟩
  (try clear BK226); (try clear BK227); (try clear BK228); (try clear BK245); (try clear HB)
  generalize (((w92.setCell ⟨gb245, 0, none⟩ (.int .i64 t241)).setCell ⟨gb245, 1, none⟩ (.int .i64 t242)).setCell ⟨gb245, 2, none⟩ (.bool t243)) = w96 at n0_ n1_ n2_ n3_ n4_ ⊢
  have BK226 := n0_; have BK227 := n1_; have BK228 := n2_; have BK245 := n3_; have HB := n4_; clear n0_ n1_ n2_ n3_ n4_; replace BK226 := Aside0.mk (blk_drew BK226.out); replace BK227 := Aside0.mk (blk_drew BK227.out); replace BK228 := Aside0.mk (blk_drew BK228.out); replace BK245 := Aside0.mk (blk_drew BK245.out); replace HB := Aside0.mk (below_drew1 HB.out); refine start_ (n := 13) (S := fun w' => w'.cell? ⟨gb226, 0, none⟩ = some (.int .i64 a0_0) ∧ w'.cell? ⟨gb226, 1, none⟩ = some (.int .i64 a0_1) ∧ w'.cell? ⟨gb226, 2, none⟩ = some (.int .i64 a0_2) ∧ w'.cell? ⟨gb226, 3, none⟩ = some (.int .i64 a0_3) ∧ w'.cell? ⟨gb226, 4, none⟩ = some (.int .i64 a0_4) ∧ w'.cell? ⟨gb226, 5, none⟩ = some (.int .i64 a0_5) ∧ w'.cell? ⟨gb227, 0, none⟩ = some (.int .i64 a1_0) ∧ w'.cell? ⟨gb227, 1, none⟩ = some (.int .i64 a1_1) ∧ w'.cell? ⟨gb227, 2, none⟩ = some (.bool a1_2) ∧ w'.cell? ⟨gb228, 0, none⟩ = some (.int .i64 a2_0) ∧ w'.cell? ⟨gb228, 1, none⟩ = some (.int .i64 a2_1) ∧ w'.cell? ⟨gb228, 2, none⟩ = some (.bool a2_2)) (ds := []) #[false,false,false,false,false,false,false,false,false,false,false,false,false] (by kernel_rfl) rfl rfl ⟨bc_ BK226 0, bc_ BK226 1, bc_ BK226 2, bc_ BK226 3, bc_ BK226 4, bc_ BK226 5, bc_ BK227 0, bc_ BK227 1, bc_ BK227 2, bc_ BK228 0, bc_ BK228 1, bc_ BK228 2⟩ (fun hHeld => ?_); refine with_tabW laws_FnExactPointAdd.tab2 laws_FnExactPointAdd.bits2 (fun HT_ HW_ => ?_)
  generalize w96.drew = w97 at BK226 BK227 BK228 BK245 HB hHeld ⊢
  refine take_ (i := 0) (N := some 22) (v := ?_) (a' := ?_) #[true,false,false,false,false,false,false,false,false,false,false,false,false] rfl rfl (take_ofW HT_.out HW_.out (by kernel_rfl)) (fun _ _ _ h => h) (Or.inl ⟨by rfl, ?_⟩) hHeld ?_ ?_; rotate_left
  ·
   rintro w' ⟨s0, s1, s2, s3, s4, s5, s6, s7, s8, s9, s10, s11⟩; go_simp
   with_reducible rfl
  rotate_left
  · simp only [Act.put, sA_, sZ_, sS_, i64_w, i32_w]; rfl
  refine take_ (i := 2) (N := some 24) (v := ?_) (a' := ?_) #[true,false,true,false,false,false,false,false,false,false,false,false,false] rfl rfl (take_ofW HT_.out HW_.out (by kernel_rfl)) (fun _ _ _ h => h) (Or.inl ⟨by rfl, ?_⟩) hHeld ?_ ?_; rotate_left
  ·
   rintro w' ⟨s0, s1, s2, s3, s4, s5, s6, s7, s8, s9, s10, s11⟩; go_simp
   with_reducible rfl
  rotate_left
  · simp only [Act.put, sA_, sZ_, sS_, i64_w, i32_w]; rfl
  refine take_ (i := 4) (N := some 26) (v := ?_) (a' := ?_) #[true,false,true,false,true,false,false,false,false,false,false,false,false] rfl rfl (take_ofW HT_.out HW_.out (by kernel_rfl)) (fun _ _ _ h => h) (Or.inl ⟨by rfl, ?_⟩) hHeld ?_ ?_; rotate_left
  ·
   rintro w' ⟨s0, s1, s2, s3, s4, s5, s6, s7, s8, s9, s10, s11⟩; go_simp
   with_reducible rfl
  rotate_left
  · simp only [Act.put, sA_, sZ_, sS_, i64_w, i32_w]; rfl
  refine join_ (σ := Nat) 2 #[true,true,true,true,true,true,true,true,true,true,true,false,false] (fun s_ => [(23, .agg #[.int .i64 t246, .int .i64 t247, .int .i64 t248, .int .i64 t249, .int .i64 t250, .int .i64 t251]), (25, .agg #[.int .i64 t252, .int .i64 t253, .bool t254]), (27, .agg #[.int .i64 t255, .int .i64 t256, .bool t257]), (28, .tuple #[.agg #[.int .i64 t258, .int .i64 t259, .bool t260], .bool t261]), (9, .pointer (some ⟨s_, 0, none⟩)), (21, .tuple #[.agg #[.int .i64 t258, .int .i64 t259, .bool t260], .bool t261]), (29, .agg #[.int .i64 t258, .int .i64 t259, .bool t260]), (30, .bool t261)]) (fun s_ w' => (CS0 gb226 gb227 gb228 a0_0 a0_1 a0_2 a0_3 a0_4 a0_5 a1_0 a1_1 a1_2 a2_0 a2_1 a2_2 w') ∧ (w'.heap[gb226]? = some (.cells #[.int .i64 a0_0, .int .i64 a0_1, .int .i64 a0_2, .int .i64 a0_3, .int .i64 a0_4, .int .i64 a0_5] 23 (0, 0))) ∧ (w'.heap[gb227]? = some (.cells #[.int .i64 a1_0, .int .i64 a1_1, .bool a1_2] 25 (0, 0))) ∧ (w'.heap[gb228]? = some (.cells #[.int .i64 a2_0, .int .i64 a2_1, .bool a2_2] 25 (0, 0))) ∧ (w'.heap[gb245]? = some (.cells #[.int .i64 t241, .int .i64 t242, .bool t243] 26 (0, 0))) ∧ (w'.heap[s_]? = some (.cells #[.int .i64 0, .int .i64 0, .bool false] 26 (0, 0))) ∧ (w.heap.size ≤ s_) ∧ (w.heap.size ≤ s_) ∧ (gb226 ≠ s_) ∧ (s_ ≠ gb226) ∧ (gb227 ≠ s_) ∧ (s_ ≠ gb227) ∧ (gb228 ≠ s_) ∧ (s_ ≠ gb228) ∧ (gb245 ≠ s_) ∧ (s_ ≠ gb245) ∧ (Below w.heap.size w w')) ?_ ?_; rotate_left
  ·
   intro hJ1_3_5_6_10; refine join_ (σ := Unit) 3 #[true,true,true,true,true,true,true,true,true,true,false,false,false] (fun s_ => [(23, .agg #[.int .i64 t246, .int .i64 t247, .int .i64 t248, .int .i64 t249, .int .i64 t250, .int .i64 t251]), (25, .agg #[.int .i64 t252, .int .i64 t253, .bool t254]), (27, .agg #[.int .i64 t255, .int .i64 t256, .bool t257]), (28, .tuple #[.agg #[.int .i64 t258, .int .i64 t259, .bool t260], .bool t261]), (21, .tuple #[.agg #[.int .i64 t258, .int .i64 t259, .bool t260], .bool t261]), (29, .agg #[.int .i64 t258, .int .i64 t259, .bool t260]), (30, .bool t261)]) (fun s_ w' => (CS0 gb226 gb227 gb228 a0_0 a0_1 a0_2 a0_3 a0_4 a0_5 a1_0 a1_1 a1_2 a2_0 a2_1 a2_2 w') ∧ (w'.heap[gb226]? = some (.cells #[.int .i64 a0_0, .int .i64 a0_1, .int .i64 a0_2, .int .i64 a0_3, .int .i64 a0_4, .int .i64 a0_5] 23 (0, 0))) ∧ (w'.heap[gb227]? = some (.cells #[.int .i64 a1_0, .int .i64 a1_1, .bool a1_2] 25 (0, 0))) ∧ (w'.heap[gb228]? = some (.cells #[.int .i64 a2_0, .int .i64 a2_1, .bool a2_2] 25 (0, 0))) ∧ (w'.heap[gb245]? = some (.cells #[.int .i64 t241, .int .i64 t242, .bool t243] 26 (0, 0))) ∧ (Below w.heap.size w w')) ?_ ?_; rotate_left
   ·
    intro hJ1_3_5_6; refine join_ (σ := Nat) 6 #[true,true,true,true,true,true,false,false,false,false,true,false,false] (fun s_ => [(23, .agg #[.int .i64 t246, .int .i64 t247, .int .i64 t248, .int .i64 t249, .int .i64 t250, .int .i64 t251]), (25, .agg #[.int .i64 t252, .int .i64 t253, .bool t254]), (27, .agg #[.int .i64 t255, .int .i64 t256, .bool t257]), (9, .pointer (some ⟨s_, 0, none⟩))]) (fun s_ w' => (CS0 gb226 gb227 gb228 a0_0 a0_1 a0_2 a0_3 a0_4 a0_5 a1_0 a1_1 a1_2 a2_0 a2_1 a2_2 w') ∧ (w'.heap[gb226]? = some (.cells #[.int .i64 a0_0, .int .i64 a0_1, .int .i64 a0_2, .int .i64 a0_3, .int .i64 a0_4, .int .i64 a0_5] 23 (0, 0))) ∧ (w'.heap[gb227]? = some (.cells #[.int .i64 a1_0, .int .i64 a1_1, .bool a1_2] 25 (0, 0))) ∧ (w'.heap[gb228]? = some (.cells #[.int .i64 a2_0, .int .i64 a2_1, .bool a2_2] 25 (0, 0))) ∧ (w'.heap[gb245]? = some (.cells #[.int .i64 t241, .int .i64 t242, .bool t243] 26 (0, 0))) ∧ (w'.heap[s_]? = some (.cells #[.int .i64 0, .int .i64 0, .bool false] 26 (0, 0))) ∧ (w.heap.size ≤ s_) ∧ (w.heap.size ≤ s_) ∧ (gb226 ≠ s_) ∧ (s_ ≠ gb226) ∧ (gb227 ≠ s_) ∧ (s_ ≠ gb227) ∧ (gb228 ≠ s_) ∧ (s_ ≠ gb228) ∧ (gb245 ≠ s_) ∧ (s_ ≠ gb245) ∧ (Below w.heap.size w w')) ?_ ?_; rotate_left
    ·
     intro hJ1_3_5_10; refine join_ (σ := Unit) 7 #[true,true,true,true,true,true,false,false,false,false,false,false,false] (fun s_ => [(23, .agg #[.int .i64 t246, .int .i64 t247, .int .i64 t248, .int .i64 t249, .int .i64 t250, .int .i64 t251]), (25, .agg #[.int .i64 t252, .int .i64 t253, .bool t254]), (27, .agg #[.int .i64 t255, .int .i64 t256, .bool t257])]) (fun s_ w' => (CS0 gb226 gb227 gb228 a0_0 a0_1 a0_2 a0_3 a0_4 a0_5 a1_0 a1_1 a1_2 a2_0 a2_1 a2_2 w') ∧ (w'.heap[gb226]? = some (.cells #[.int .i64 a0_0, .int .i64 a0_1, .int .i64 a0_2, .int .i64 a0_3, .int .i64 a0_4, .int .i64 a0_5] 23 (0, 0))) ∧ (w'.heap[gb227]? = some (.cells #[.int .i64 a1_0, .int .i64 a1_1, .bool a1_2] 25 (0, 0))) ∧ (w'.heap[gb228]? = some (.cells #[.int .i64 a2_0, .int .i64 a2_1, .bool a2_2] 25 (0, 0))) ∧ (w'.heap[gb245]? = some (.cells #[.int .i64 t241, .int .i64 t242, .bool t243] 26 (0, 0))) ∧ (Below w.heap.size w w')) ?_ ?_; rotate_left
     ·
      intro hJ1_3_5; refine join_ (σ := Nat) 7 #[true,true,true,true,true,false,false,false,false,false,true,false,false] (fun s_ => [(23, .agg #[.int .i64 t246, .int .i64 t247, .int .i64 t248, .int .i64 t249, .int .i64 t250, .int .i64 t251]), (25, .agg #[.int .i64 t252, .int .i64 t253, .bool t254]), (9, .pointer (some ⟨s_, 0, none⟩))]) (fun s_ w' => (CS0 gb226 gb227 gb228 a0_0 a0_1 a0_2 a0_3 a0_4 a0_5 a1_0 a1_1 a1_2 a2_0 a2_1 a2_2 w') ∧ (w'.heap[gb226]? = some (.cells #[.int .i64 a0_0, .int .i64 a0_1, .int .i64 a0_2, .int .i64 a0_3, .int .i64 a0_4, .int .i64 a0_5] 23 (0, 0))) ∧ (w'.heap[gb227]? = some (.cells #[.int .i64 a1_0, .int .i64 a1_1, .bool a1_2] 25 (0, 0))) ∧ (w'.heap[gb228]? = some (.cells #[.int .i64 a2_0, .int .i64 a2_1, .bool a2_2] 25 (0, 0))) ∧ (w'.heap[gb245]? = some (.cells #[.int .i64 t241, .int .i64 t242, .bool t243] 26 (0, 0))) ∧ (w'.heap[s_]? = some (.cells #[.int .i64 0, .int .i64 0, .bool false] 26 (0, 0))) ∧ (w.heap.size ≤ s_) ∧ (w.heap.size ≤ s_) ∧ (gb226 ≠ s_) ∧ (s_ ≠ gb226) ∧ (gb227 ≠ s_) ∧ (s_ ≠ gb227) ∧ (gb228 ≠ s_) ∧ (s_ ≠ gb228) ∧ (gb245 ≠ s_) ∧ (s_ ≠ gb245) ∧ (Below w.heap.size w w')) ?_ ?_; rotate_left
      ·
       intro hJ1_3_10; refine join_ (σ := Unit) 8 #[true,true,true,true,true,false,false,false,false,false,false,false,false] (fun s_ => [(23, .agg #[.int .i64 t246, .int .i64 t247, .int .i64 t248, .int .i64 t249, .int .i64 t250, .int .i64 t251]), (25, .agg #[.int .i64 t252, .int .i64 t253, .bool t254])]) (fun s_ w' => (CS0 gb226 gb227 gb228 a0_0 a0_1 a0_2 a0_3 a0_4 a0_5 a1_0 a1_1 a1_2 a2_0 a2_1 a2_2 w') ∧ (w'.heap[gb226]? = some (.cells #[.int .i64 a0_0, .int .i64 a0_1, .int .i64 a0_2, .int .i64 a0_3, .int .i64 a0_4, .int .i64 a0_5] 23 (0, 0))) ∧ (w'.heap[gb227]? = some (.cells #[.int .i64 a1_0, .int .i64 a1_1, .bool a1_2] 25 (0, 0))) ∧ (w'.heap[gb228]? = some (.cells #[.int .i64 a2_0, .int .i64 a2_1, .bool a2_2] 25 (0, 0))) ∧ (w'.heap[gb245]? = some (.cells #[.int .i64 t241, .int .i64 t242, .bool t243] 26 (0, 0))) ∧ (Below w.heap.size w w')) ?_ ?_; rotate_left
       ·
        intro hJ1_3; refine join_ (σ := Nat) 8 #[true,true,true,false,true,false,false,false,false,false,true,false,false] (fun s_ => [(23, .agg #[.int .i64 t246, .int .i64 t247, .int .i64 t248, .int .i64 t249, .int .i64 t250, .int .i64 t251]), (9, .pointer (some ⟨s_, 0, none⟩))]) (fun s_ w' => (CS0 gb226 gb227 gb228 a0_0 a0_1 a0_2 a0_3 a0_4 a0_5 a1_0 a1_1 a1_2 a2_0 a2_1 a2_2 w') ∧ (w'.heap[gb226]? = some (.cells #[.int .i64 a0_0, .int .i64 a0_1, .int .i64 a0_2, .int .i64 a0_3, .int .i64 a0_4, .int .i64 a0_5] 23 (0, 0))) ∧ (w'.heap[gb227]? = some (.cells #[.int .i64 a1_0, .int .i64 a1_1, .bool a1_2] 25 (0, 0))) ∧ (w'.heap[gb228]? = some (.cells #[.int .i64 a2_0, .int .i64 a2_1, .bool a2_2] 25 (0, 0))) ∧ (w'.heap[gb245]? = some (.cells #[.int .i64 t241, .int .i64 t242, .bool t243] 26 (0, 0))) ∧ (w'.heap[s_]? = some (.cells #[.int .i64 0, .int .i64 0, .bool false] 26 (0, 0))) ∧ (w.heap.size ≤ s_) ∧ (w.heap.size ≤ s_) ∧ (gb226 ≠ s_) ∧ (s_ ≠ gb226) ∧ (gb227 ≠ s_) ∧ (s_ ≠ gb227) ∧ (gb228 ≠ s_) ∧ (s_ ≠ gb228) ∧ (gb245 ≠ s_) ∧ (s_ ≠ gb245) ∧ (Below w.heap.size w w')) ?_ ?_; rotate_left
        ·
         intro hJ1_10; refine join_ (σ := Unit) 9 #[true,true,true,false,true,false,false,false,false,false,false,false,false] (fun s_ => [(23, .agg #[.int .i64 t246, .int .i64 t247, .int .i64 t248, .int .i64 t249, .int .i64 t250, .int .i64 t251])]) (fun s_ w' => (CS0 gb226 gb227 gb228 a0_0 a0_1 a0_2 a0_3 a0_4 a0_5 a1_0 a1_1 a1_2 a2_0 a2_1 a2_2 w') ∧ (w'.heap[gb226]? = some (.cells #[.int .i64 a0_0, .int .i64 a0_1, .int .i64 a0_2, .int .i64 a0_3, .int .i64 a0_4, .int .i64 a0_5] 23 (0, 0))) ∧ (w'.heap[gb227]? = some (.cells #[.int .i64 a1_0, .int .i64 a1_1, .bool a1_2] 25 (0, 0))) ∧ (w'.heap[gb228]? = some (.cells #[.int .i64 a2_0, .int .i64 a2_1, .bool a2_2] 25 (0, 0))) ∧ (w'.heap[gb245]? = some (.cells #[.int .i64 t241, .int .i64 t242, .bool t243] 26 (0, 0))) ∧ (Below w.heap.size w w')) ?_ ?_; rotate_left
         ·
          intro hJ1; refine join_ (σ := Nat) 9 #[true,false,true,false,true,false,false,false,false,false,true,false,false] (fun s_ => [(9, .pointer (some ⟨s_, 0, none⟩))]) (fun s_ w' => (CS0 gb226 gb227 gb228 a0_0 a0_1 a0_2 a0_3 a0_4 a0_5 a1_0 a1_1 a1_2 a2_0 a2_1 a2_2 w') ∧ (w'.heap[gb226]? = some (.cells #[.int .i64 a0_0, .int .i64 a0_1, .int .i64 a0_2, .int .i64 a0_3, .int .i64 a0_4, .int .i64 a0_5] 23 (0, 0))) ∧ (w'.heap[gb227]? = some (.cells #[.int .i64 a1_0, .int .i64 a1_1, .bool a1_2] 25 (0, 0))) ∧ (w'.heap[gb228]? = some (.cells #[.int .i64 a2_0, .int .i64 a2_1, .bool a2_2] 25 (0, 0))) ∧ (w'.heap[gb245]? = some (.cells #[.int .i64 t241, .int .i64 t242, .bool t243] 26 (0, 0))) ∧ (w'.heap[s_]? = some (.cells #[.int .i64 0, .int .i64 0, .bool false] 26 (0, 0))) ∧ (w.heap.size ≤ s_) ∧ (w.heap.size ≤ s_) ∧ (gb226 ≠ s_) ∧ (s_ ≠ gb226) ∧ (gb227 ≠ s_) ∧ (s_ ≠ gb227) ∧ (gb228 ≠ s_) ∧ (s_ ≠ gb228) ∧ (gb245 ≠ s_) ∧ (s_ ≠ gb245) ∧ (Below w.heap.size w w')) ?_ ?_; rotate_left
          ·
           intro hJ10; refine two_ (i := 1) (j := 10) (Ni := some 23) (Nj := some 9) #[true,true,true,false,true,false,false,false,false,false,false,false,false] #[true,false,true,false,true,false,false,false,false,false,true,false,false] rfl rfl rfl rfl (two_of HT_.out (by kernel_rfl)) (by decide) (by decide) (fun K hK => ?_) (fun K hK => ?_)
           ·
            refine gs_ Try.func9 #[.agg #[.int .i64 a0_0, .int .i64 a0_1, .int .i64 a0_2, .int .i64 a0_3, .int .i64 a0_4, .int .i64 a0_5]] ?_
            with_reducible refine (laws_toCurve.calls a0_0 a0_1 a0_2 a0_3 a0_4 a0_5 t246 t247 t248 t249 t250 t251 _ A8.out).mono ?_
            rintro e w98 ⟨rfl, hb⟩; refine ⟨_, rfl, ?_⟩; replace BK226 := bb_ BK226 hb; replace BK227 := bb_ BK227 hb; replace BK228 := bb_ BK228 hb; replace BK245 := bb_ BK245 hb; replace HB := bs_ HB hb; (try clear hb); refine hK.out _ _ ⟨bc_ BK226 0, bc_ BK226 1, bc_ BK226 2, bc_ BK226 3, bc_ BK226 4, bc_ BK226 5, bc_ BK227 0, bc_ BK227 1, bc_ BK227 2, bc_ BK228 0, bc_ BK228 1, bc_ BK228 2⟩ (fun hHeld => ?_); clear hK K
            apply norm_
            · show Act.put _ (some 23) _ = _; simp only [Act.put, sA_, sZ_, sS_, i64_w, i32_w]; rfl
            exact nm_ (hJ1 () _ ⟨hHeld, (bk_ BK226), (bk_ BK227), (bk_ BK228), (bk_ BK245), (bw_ HB)⟩)
           ·
            refine box_step ?hg (N := 9) ?hd (cs := #[.int .i64 0, .int .i64 0, .bool false]) (t := 26) ?hr ?_; (case hd => rfl); (case hg => rfl); (case hr => first | (go_simp; done) | (go_simp; rfl))
            intro gb262 hg w98 hbox hb; have BK262 := Aside0.mk hbox; have GW262 := ge_ HB hg; have GE262 := ge_ HB hg; have NB226_262 := nl_ BK226 hg; have NB262_226 := nr_ BK226 hg; have NB227_262 := nl_ BK227 hg; have NB262_227 := nr_ BK227 hg; have NB228_262 := nl_ BK228 hg; have NB262_228 := nr_ BK228 hg; have NB245_262 := nl_ BK245 hg; have NB262_245 := nr_ BK245 hg; replace BK226 := bb_ BK226 hb; replace BK227 := bb_ BK227 hb; replace BK228 := bb_ BK228 hb; replace BK245 := bb_ BK245 hb; replace HB := bs_ HB hb; clear hb hbox hg; refine hK.out _ _ ⟨bc_ BK226 0, bc_ BK226 1, bc_ BK226 2, bc_ BK226 3, bc_ BK226 4, bc_ BK226 5, bc_ BK227 0, bc_ BK227 1, bc_ BK227 2, bc_ BK228 0, bc_ BK228 1, bc_ BK228 2⟩ (fun hHeld => ?_); clear hK K
            apply norm_
            · show Act.put _ (some 9) _ = _; simp only [Act.put, sA_, sZ_, sS_, i64_w, i32_w]; rfl
            exact nm_ (hJ10 (gb262) _ ⟨hHeld, (bk_ BK226), (bk_ BK227), (bk_ BK228), (bk_ BK245), (bk_ BK262), GW262.out, GE262.out, NB226_262.out, NB262_226.out, NB227_262.out, NB262_227.out, NB228_262.out, NB262_228.out, NB245_262.out, NB262_245.out, (bw_ HB)⟩)
          ·
           rintro gb262 w99 ⟨hS_, h0_, h1_, h2_, h3_, h4_, h5_, h6_, h7_, h8_, h9_, h10_, h11_, h12_, h13_, h14_, h15_⟩; replace BK226 := Aside0.mk h0_; replace BK227 := Aside0.mk h1_; replace BK228 := Aside0.mk h2_; replace BK245 := Aside0.mk h3_; have BK262 := Aside0.mk h4_; have GW262 := Aside0.mk h5_; have GE262 := Aside0.mk h6_; have NB226_262 := Aside0.mk h7_; have NB262_226 := Aside0.mk h8_; have NB227_262 := Aside0.mk h9_; have NB262_227 := Aside0.mk h10_; have NB228_262 := Aside0.mk h11_; have NB262_228 := Aside0.mk h12_; have NB245_262 := Aside0.mk h13_; have NB262_245 := Aside0.mk h14_; replace HB := Aside0.mk h15_; clear h0_ h1_ h2_ h3_ h4_ h5_ h6_ h7_ h8_ h9_ h10_ h11_ h12_ h13_ h14_ h15_; have hHeld := hS_
           apply norm_
           · simp only [putAll, Act.put, sA_, sZ_, sS_]; rfl
           refine one_ (i := 1) (N := some 23) #[true,true,true,false,true,false,false,false,false,false,true,false,false] rfl rfl (one_of HT_.out (by kernel_rfl)) (by decide) (fun K hK => ?_); refine gs_ Try.func9 #[.agg #[.int .i64 a0_0, .int .i64 a0_1, .int .i64 a0_2, .int .i64 a0_3, .int .i64 a0_4, .int .i64 a0_5]] ?_
           with_reducible refine (laws_toCurve.calls a0_0 a0_1 a0_2 a0_3 a0_4 a0_5 t246 t247 t248 t249 t250 t251 _ A8.out).mono ?_
           rintro e w100 ⟨rfl, hb⟩; refine ⟨_, rfl, ?_⟩; replace BK226 := bb_ BK226 hb; replace BK227 := bb_ BK227 hb; replace BK228 := bb_ BK228 hb; replace BK245 := bb_ BK245 hb; replace BK262 := bb_ BK262 hb; replace HB := bs_ HB hb; (try clear hb); refine hK.out _ _ ⟨bc_ BK226 0, bc_ BK226 1, bc_ BK226 2, bc_ BK226 3, bc_ BK226 4, bc_ BK226 5, bc_ BK227 0, bc_ BK227 1, bc_ BK227 2, bc_ BK228 0, bc_ BK228 1, bc_ BK228 2⟩ (fun hHeld => ?_); clear hK K
           apply norm_
           · show Act.put _ (some 23) _ = _; simp only [Act.put, sA_, sZ_, sS_, i64_w, i32_w]; rfl
           exact nm_ (hJ1_10 (gb262) _ ⟨hHeld, (bk_ BK226), (bk_ BK227), (bk_ BK228), (bk_ BK245), (bk_ BK262), GW262.out, GE262.out, NB226_262.out, NB262_226.out, NB227_262.out, NB262_227.out, NB228_262.out, NB262_228.out, NB245_262.out, NB262_245.out, (bw_ HB)⟩)
         ·
          rintro _ w99 ⟨hS_, h0_, h1_, h2_, h3_, h4_⟩; replace BK226 := Aside0.mk h0_; replace BK227 := Aside0.mk h1_; replace BK228 := Aside0.mk h2_; replace BK245 := Aside0.mk h3_; replace HB := Aside0.mk h4_; clear h0_ h1_ h2_ h3_ h4_; have hHeld := hS_
          apply norm_
          · simp only [putAll, Act.put, sA_, sZ_, sS_]; rfl
          refine two_ (i := 3) (j := 10) (Ni := some 25) (Nj := some 9) #[true,true,true,true,true,false,false,false,false,false,false,false,false] #[true,true,true,false,true,false,false,false,false,false,true,false,false] rfl rfl rfl rfl (two_of HT_.out (by kernel_rfl)) (by decide) (by decide) (fun K hK => ?_) (fun K hK => ?_)
          ·
           refine gs_ Try.func10 #[.agg #[.int .i64 a1_0, .int .i64 a1_1, .bool a1_2]] ?_
           with_reducible refine (laws_toPoint.calls a1_0 a1_1 a1_2 t252 t253 t254 _ A9.out).mono ?_
           rintro e w100 ⟨rfl, hb⟩; refine ⟨_, rfl, ?_⟩; replace BK226 := bb_ BK226 hb; replace BK227 := bb_ BK227 hb; replace BK228 := bb_ BK228 hb; replace BK245 := bb_ BK245 hb; replace HB := bs_ HB hb; (try clear hb); refine hK.out _ _ ⟨bc_ BK226 0, bc_ BK226 1, bc_ BK226 2, bc_ BK226 3, bc_ BK226 4, bc_ BK226 5, bc_ BK227 0, bc_ BK227 1, bc_ BK227 2, bc_ BK228 0, bc_ BK228 1, bc_ BK228 2⟩ (fun hHeld => ?_); clear hK K
           apply norm_
           · show Act.put _ (some 25) _ = _; simp only [Act.put, sA_, sZ_, sS_, i64_w, i32_w]; rfl
           exact nm_ (hJ1_3 () _ ⟨hHeld, (bk_ BK226), (bk_ BK227), (bk_ BK228), (bk_ BK245), (bw_ HB)⟩)
          ·
           refine box_step ?hg (N := 9) ?hd (cs := #[.int .i64 0, .int .i64 0, .bool false]) (t := 26) ?hr ?_; (case hd => rfl); (case hg => rfl); (case hr => first | (go_simp; done) | (go_simp; rfl))
           intro gb262 hg w100 hbox hb; have BK262 := Aside0.mk hbox; have GW262 := ge_ HB hg; have GE262 := ge_ HB hg; have NB226_262 := nl_ BK226 hg; have NB262_226 := nr_ BK226 hg; have NB227_262 := nl_ BK227 hg; have NB262_227 := nr_ BK227 hg; have NB228_262 := nl_ BK228 hg; have NB262_228 := nr_ BK228 hg; have NB245_262 := nl_ BK245 hg; have NB262_245 := nr_ BK245 hg; replace BK226 := bb_ BK226 hb; replace BK227 := bb_ BK227 hb; replace BK228 := bb_ BK228 hb; replace BK245 := bb_ BK245 hb; replace HB := bs_ HB hb; clear hb hbox hg; refine hK.out _ _ ⟨bc_ BK226 0, bc_ BK226 1, bc_ BK226 2, bc_ BK226 3, bc_ BK226 4, bc_ BK226 5, bc_ BK227 0, bc_ BK227 1, bc_ BK227 2, bc_ BK228 0, bc_ BK228 1, bc_ BK228 2⟩ (fun hHeld => ?_); clear hK K
           apply norm_
           · show Act.put _ (some 9) _ = _; simp only [Act.put, sA_, sZ_, sS_, i64_w, i32_w]; rfl
           exact nm_ (hJ1_10 (gb262) _ ⟨hHeld, (bk_ BK226), (bk_ BK227), (bk_ BK228), (bk_ BK245), (bk_ BK262), GW262.out, GE262.out, NB226_262.out, NB262_226.out, NB227_262.out, NB262_227.out, NB228_262.out, NB262_228.out, NB245_262.out, NB262_245.out, (bw_ HB)⟩)
        ·
         rintro gb262 w100 ⟨hS_, h0_, h1_, h2_, h3_, h4_, h5_, h6_, h7_, h8_, h9_, h10_, h11_, h12_, h13_, h14_, h15_⟩; replace BK226 := Aside0.mk h0_; replace BK227 := Aside0.mk h1_; replace BK228 := Aside0.mk h2_; replace BK245 := Aside0.mk h3_; have BK262 := Aside0.mk h4_; have GW262 := Aside0.mk h5_; have GE262 := Aside0.mk h6_; have NB226_262 := Aside0.mk h7_; have NB262_226 := Aside0.mk h8_; have NB227_262 := Aside0.mk h9_; have NB262_227 := Aside0.mk h10_; have NB228_262 := Aside0.mk h11_; have NB262_228 := Aside0.mk h12_; have NB245_262 := Aside0.mk h13_; have NB262_245 := Aside0.mk h14_; replace HB := Aside0.mk h15_; clear h0_ h1_ h2_ h3_ h4_ h5_ h6_ h7_ h8_ h9_ h10_ h11_ h12_ h13_ h14_ h15_; have hHeld := hS_
         apply norm_
         · simp only [putAll, Act.put, sA_, sZ_, sS_]; rfl
         refine one_ (i := 3) (N := some 25) #[true,true,true,true,true,false,false,false,false,false,true,false,false] rfl rfl (one_of HT_.out (by kernel_rfl)) (by decide) (fun K hK => ?_); refine gs_ Try.func10 #[.agg #[.int .i64 a1_0, .int .i64 a1_1, .bool a1_2]] ?_
         with_reducible refine (laws_toPoint.calls a1_0 a1_1 a1_2 t252 t253 t254 _ A9.out).mono ?_
         rintro e w101 ⟨rfl, hb⟩; refine ⟨_, rfl, ?_⟩; replace BK226 := bb_ BK226 hb; replace BK227 := bb_ BK227 hb; replace BK228 := bb_ BK228 hb; replace BK245 := bb_ BK245 hb; replace BK262 := bb_ BK262 hb; replace HB := bs_ HB hb; (try clear hb); refine hK.out _ _ ⟨bc_ BK226 0, bc_ BK226 1, bc_ BK226 2, bc_ BK226 3, bc_ BK226 4, bc_ BK226 5, bc_ BK227 0, bc_ BK227 1, bc_ BK227 2, bc_ BK228 0, bc_ BK228 1, bc_ BK228 2⟩ (fun hHeld => ?_); clear hK K
         apply norm_
         · show Act.put _ (some 25) _ = _; simp only [Act.put, sA_, sZ_, sS_, i64_w, i32_w]; rfl
         exact nm_ (hJ1_3_10 (gb262) _ ⟨hHeld, (bk_ BK226), (bk_ BK227), (bk_ BK228), (bk_ BK245), (bk_ BK262), GW262.out, GE262.out, NB226_262.out, NB262_226.out, NB227_262.out, NB262_227.out, NB228_262.out, NB262_228.out, NB245_262.out, NB262_245.out, (bw_ HB)⟩)
       ·
        rintro _ w100 ⟨hS_, h0_, h1_, h2_, h3_, h4_⟩; replace BK226 := Aside0.mk h0_; replace BK227 := Aside0.mk h1_; replace BK228 := Aside0.mk h2_; replace BK245 := Aside0.mk h3_; replace HB := Aside0.mk h4_; clear h0_ h1_ h2_ h3_ h4_; have hHeld := hS_
        apply norm_
        · simp only [putAll, Act.put, sA_, sZ_, sS_]; rfl
        refine two_ (i := 5) (j := 10) (Ni := some 27) (Nj := some 9) #[true,true,true,true,true,true,false,false,false,false,false,false,false] #[true,true,true,true,true,false,false,false,false,false,true,false,false] rfl rfl rfl rfl (two_of HT_.out (by kernel_rfl)) (by decide) (by decide) (fun K hK => ?_) (fun K hK => ?_)
        ·
         refine gs_ Try.func10 #[.agg #[.int .i64 a2_0, .int .i64 a2_1, .bool a2_2]] ?_
         with_reducible refine (laws_toPoint.calls a2_0 a2_1 a2_2 t255 t256 t257 _ A10.out).mono ?_
         rintro e w101 ⟨rfl, hb⟩; refine ⟨_, rfl, ?_⟩; replace BK226 := bb_ BK226 hb; replace BK227 := bb_ BK227 hb; replace BK228 := bb_ BK228 hb; replace BK245 := bb_ BK245 hb; replace HB := bs_ HB hb; (try clear hb); refine hK.out _ _ ⟨bc_ BK226 0, bc_ BK226 1, bc_ BK226 2, bc_ BK226 3, bc_ BK226 4, bc_ BK226 5, bc_ BK227 0, bc_ BK227 1, bc_ BK227 2, bc_ BK228 0, bc_ BK228 1, bc_ BK228 2⟩ (fun hHeld => ?_); clear hK K
         apply norm_
         · show Act.put _ (some 27) _ = _; simp only [Act.put, sA_, sZ_, sS_, i64_w, i32_w]; rfl
         exact nm_ (hJ1_3_5 () _ ⟨hHeld, (bk_ BK226), (bk_ BK227), (bk_ BK228), (bk_ BK245), (bw_ HB)⟩)
        ·
         refine box_step ?hg (N := 9) ?hd (cs := #[.int .i64 0, .int .i64 0, .bool false]) (t := 26) ?hr ?_; (case hd => rfl); (case hg => rfl); (case hr => first | (go_simp; done) | (go_simp; rfl))
         intro gb262 hg w101 hbox hb; have BK262 := Aside0.mk hbox; have GW262 := ge_ HB hg; have GE262 := ge_ HB hg; have NB226_262 := nl_ BK226 hg; have NB262_226 := nr_ BK226 hg; have NB227_262 := nl_ BK227 hg; have NB262_227 := nr_ BK227 hg; have NB228_262 := nl_ BK228 hg; have NB262_228 := nr_ BK228 hg; have NB245_262 := nl_ BK245 hg; have NB262_245 := nr_ BK245 hg; replace BK226 := bb_ BK226 hb; replace BK227 := bb_ BK227 hb; replace BK228 := bb_ BK228 hb; replace BK245 := bb_ BK245 hb; replace HB := bs_ HB hb; clear hb hbox hg; refine hK.out _ _ ⟨bc_ BK226 0, bc_ BK226 1, bc_ BK226 2, bc_ BK226 3, bc_ BK226 4, bc_ BK226 5, bc_ BK227 0, bc_ BK227 1, bc_ BK227 2, bc_ BK228 0, bc_ BK228 1, bc_ BK228 2⟩ (fun hHeld => ?_); clear hK K
         apply norm_
         · show Act.put _ (some 9) _ = _; simp only [Act.put, sA_, sZ_, sS_, i64_w, i32_w]; rfl
         exact nm_ (hJ1_3_10 (gb262) _ ⟨hHeld, (bk_ BK226), (bk_ BK227), (bk_ BK228), (bk_ BK245), (bk_ BK262), GW262.out, GE262.out, NB226_262.out, NB262_226.out, NB227_262.out, NB262_227.out, NB228_262.out, NB262_228.out, NB245_262.out, NB262_245.out, (bw_ HB)⟩)
      ·
       rintro gb262 w101 ⟨hS_, h0_, h1_, h2_, h3_, h4_, h5_, h6_, h7_, h8_, h9_, h10_, h11_, h12_, h13_, h14_, h15_⟩; replace BK226 := Aside0.mk h0_; replace BK227 := Aside0.mk h1_; replace BK228 := Aside0.mk h2_; replace BK245 := Aside0.mk h3_; have BK262 := Aside0.mk h4_; have GW262 := Aside0.mk h5_; have GE262 := Aside0.mk h6_; have NB226_262 := Aside0.mk h7_; have NB262_226 := Aside0.mk h8_; have NB227_262 := Aside0.mk h9_; have NB262_227 := Aside0.mk h10_; have NB228_262 := Aside0.mk h11_; have NB262_228 := Aside0.mk h12_; have NB245_262 := Aside0.mk h13_; have NB262_245 := Aside0.mk h14_; replace HB := Aside0.mk h15_; clear h0_ h1_ h2_ h3_ h4_ h5_ h6_ h7_ h8_ h9_ h10_ h11_ h12_ h13_ h14_ h15_; have hHeld := hS_
       apply norm_
       · simp only [putAll, Act.put, sA_, sZ_, sS_]; rfl
       refine one_ (i := 5) (N := some 27) #[true,true,true,true,true,true,false,false,false,false,true,false,false] rfl rfl (one_of HT_.out (by kernel_rfl)) (by decide) (fun K hK => ?_); refine gs_ Try.func10 #[.agg #[.int .i64 a2_0, .int .i64 a2_1, .bool a2_2]] ?_
       with_reducible refine (laws_toPoint.calls a2_0 a2_1 a2_2 t255 t256 t257 _ A10.out).mono ?_
       rintro e w102 ⟨rfl, hb⟩; refine ⟨_, rfl, ?_⟩; replace BK226 := bb_ BK226 hb; replace BK227 := bb_ BK227 hb; replace BK228 := bb_ BK228 hb; replace BK245 := bb_ BK245 hb; replace BK262 := bb_ BK262 hb; replace HB := bs_ HB hb; (try clear hb); refine hK.out _ _ ⟨bc_ BK226 0, bc_ BK226 1, bc_ BK226 2, bc_ BK226 3, bc_ BK226 4, bc_ BK226 5, bc_ BK227 0, bc_ BK227 1, bc_ BK227 2, bc_ BK228 0, bc_ BK228 1, bc_ BK228 2⟩ (fun hHeld => ?_); clear hK K
       apply norm_
       · show Act.put _ (some 27) _ = _; simp only [Act.put, sA_, sZ_, sS_, i64_w, i32_w]; rfl
       exact nm_ (hJ1_3_5_10 (gb262) _ ⟨hHeld, (bk_ BK226), (bk_ BK227), (bk_ BK228), (bk_ BK245), (bk_ BK262), GW262.out, GE262.out, NB226_262.out, NB262_226.out, NB227_262.out, NB262_227.out, NB228_262.out, NB262_228.out, NB245_262.out, NB262_245.out, (bw_ HB)⟩)
     ·
      rintro _ w101 ⟨hS_, h0_, h1_, h2_, h3_, h4_⟩; replace BK226 := Aside0.mk h0_; replace BK227 := Aside0.mk h1_; replace BK228 := Aside0.mk h2_; replace BK245 := Aside0.mk h3_; replace HB := Aside0.mk h4_; clear h0_ h1_ h2_ h3_ h4_; have hHeld := hS_
      apply norm_
      · simp only [putAll, Act.put, sA_, sZ_, sS_]; rfl
      refine two_ (i := 6) (j := 10) (Ni := some 28) (Nj := some 9) #[true,true,true,true,true,true,true,false,false,false,false,false,false] #[true,true,true,true,true,true,false,false,false,false,true,false,false] rfl rfl rfl rfl (two_of HT_.out (by kernel_rfl)) (by decide) (by decide) (fun K hK => ?_) (fun K hK => ?_)
      ·
       refine gs_ Try.func11 #[.agg #[.int .i64 t246, .int .i64 t247, .int .i64 t248, .int .i64 t249, .int .i64 t250, .int .i64 t251], .agg #[.int .i64 t252, .int .i64 t253, .bool t254], .agg #[.int .i64 t255, .int .i64 t256, .bool t257]] ?_
       with_reducible refine (impl_PointAdd.calls k t246 t247 t248 t249 t250 t251 t252 t253 t254 t255 t256 t257 t258 t259 t260 t261 _ A11.out).mono ?_
       rintro e w102 ⟨rfl, hb⟩; refine ⟨_, rfl, ?_⟩; replace BK226 := bb_ BK226 hb; replace BK227 := bb_ BK227 hb; replace BK228 := bb_ BK228 hb; replace BK245 := bb_ BK245 hb; replace HB := bs_ HB hb; (try clear hb); refine hK.out _ _ ⟨bc_ BK226 0, bc_ BK226 1, bc_ BK226 2, bc_ BK226 3, bc_ BK226 4, bc_ BK226 5, bc_ BK227 0, bc_ BK227 1, bc_ BK227 2, bc_ BK228 0, bc_ BK228 1, bc_ BK228 2⟩ (fun hHeld => ?_); clear hK K
       apply norm_
       · show Act.put _ (some 28) _ = _; simp only [Act.put, sA_, sZ_, sS_, i64_w, i32_w]; rfl
       refine pure_ (i := 7) (N := some 21) (v := ?_) (a' := ?_) #[true,true,true,true,true,true,true,true,false,false,false,false,false] rfl rfl (any_of HT_.out (by kernel_rfl)) (fun _ _ _ h => h) (Or.inl ⟨by rfl, ?_⟩) ?_ ?_; rotate_left
       ·
        intro w'; go_simp
        with_reducible rfl
       rotate_left
       · simp only [Act.put, sA_, sZ_, sS_, i64_w, i32_w]; rfl
       refine pure_ (i := 8) (N := some 29) (v := ?_) (a' := ?_) #[true,true,true,true,true,true,true,true,true,false,false,false,false] rfl rfl (any_of HT_.out (by kernel_rfl)) (fun _ _ _ h => h) (Or.inl ⟨by rfl, ?_⟩) ?_ ?_; rotate_left
       ·
        intro w'; go_simp
        with_reducible rfl
       rotate_left
       · simp only [Act.put, sA_, sZ_, sS_, i64_w, i32_w]; rfl
       refine pure_ (i := 9) (N := some 30) (v := ?_) (a' := ?_) #[true,true,true,true,true,true,true,true,true,true,false,false,false] rfl rfl (any_of HT_.out (by kernel_rfl)) (fun _ _ _ h => h) (Or.inl ⟨by rfl, ?_⟩) ?_ ?_; rotate_left
       ·
        intro w'; go_simp
        with_reducible rfl
       rotate_left
       · simp only [Act.put, sA_, sZ_, sS_, i64_w, i32_w]; rfl
       exact nm_ (hJ1_3_5_6 () _ ⟨hHeld, (bk_ BK226), (bk_ BK227), (bk_ BK228), (bk_ BK245), (bw_ HB)⟩)
      ·
       refine box_step ?hg (N := 9) ?hd (cs := #[.int .i64 0, .int .i64 0, .bool false]) (t := 26) ?hr ?_; (case hd => rfl); (case hg => rfl); (case hr => first | (go_simp; done) | (go_simp; rfl))
       intro gb262 hg w102 hbox hb; have BK262 := Aside0.mk hbox; have GW262 := ge_ HB hg; have GE262 := ge_ HB hg; have NB226_262 := nl_ BK226 hg; have NB262_226 := nr_ BK226 hg; have NB227_262 := nl_ BK227 hg; have NB262_227 := nr_ BK227 hg; have NB228_262 := nl_ BK228 hg; have NB262_228 := nr_ BK228 hg; have NB245_262 := nl_ BK245 hg; have NB262_245 := nr_ BK245 hg; replace BK226 := bb_ BK226 hb; replace BK227 := bb_ BK227 hb; replace BK228 := bb_ BK228 hb; replace BK245 := bb_ BK245 hb; replace HB := bs_ HB hb; clear hb hbox hg; refine hK.out _ _ ⟨bc_ BK226 0, bc_ BK226 1, bc_ BK226 2, bc_ BK226 3, bc_ BK226 4, bc_ BK226 5, bc_ BK227 0, bc_ BK227 1, bc_ BK227 2, bc_ BK228 0, bc_ BK228 1, bc_ BK228 2⟩ (fun hHeld => ?_); clear hK K
       apply norm_
       · show Act.put _ (some 9) _ = _; simp only [Act.put, sA_, sZ_, sS_, i64_w, i32_w]; rfl
       exact nm_ (hJ1_3_5_10 (gb262) _ ⟨hHeld, (bk_ BK226), (bk_ BK227), (bk_ BK228), (bk_ BK245), (bk_ BK262), GW262.out, GE262.out, NB226_262.out, NB262_226.out, NB227_262.out, NB262_227.out, NB228_262.out, NB262_228.out, NB245_262.out, NB262_245.out, (bw_ HB)⟩)
    ·
     rintro gb262 w102 ⟨hS_, h0_, h1_, h2_, h3_, h4_, h5_, h6_, h7_, h8_, h9_, h10_, h11_, h12_, h13_, h14_, h15_⟩; replace BK226 := Aside0.mk h0_; replace BK227 := Aside0.mk h1_; replace BK228 := Aside0.mk h2_; replace BK245 := Aside0.mk h3_; have BK262 := Aside0.mk h4_; have GW262 := Aside0.mk h5_; have GE262 := Aside0.mk h6_; have NB226_262 := Aside0.mk h7_; have NB262_226 := Aside0.mk h8_; have NB227_262 := Aside0.mk h9_; have NB262_227 := Aside0.mk h10_; have NB228_262 := Aside0.mk h11_; have NB262_228 := Aside0.mk h12_; have NB245_262 := Aside0.mk h13_; have NB262_245 := Aside0.mk h14_; replace HB := Aside0.mk h15_; clear h0_ h1_ h2_ h3_ h4_ h5_ h6_ h7_ h8_ h9_ h10_ h11_ h12_ h13_ h14_ h15_; have hHeld := hS_
     apply norm_
     · simp only [putAll, Act.put, sA_, sZ_, sS_]; rfl
     refine one_ (i := 6) (N := some 28) #[true,true,true,true,true,true,true,false,false,false,true,false,false] rfl rfl (one_of HT_.out (by kernel_rfl)) (by decide) (fun K hK => ?_); refine gs_ Try.func11 #[.agg #[.int .i64 t246, .int .i64 t247, .int .i64 t248, .int .i64 t249, .int .i64 t250, .int .i64 t251], .agg #[.int .i64 t252, .int .i64 t253, .bool t254], .agg #[.int .i64 t255, .int .i64 t256, .bool t257]] ?_
     with_reducible refine (impl_PointAdd.calls k t246 t247 t248 t249 t250 t251 t252 t253 t254 t255 t256 t257 t258 t259 t260 t261 _ A11.out).mono ?_
     rintro e w103 ⟨rfl, hb⟩; refine ⟨_, rfl, ?_⟩; replace BK226 := bb_ BK226 hb; replace BK227 := bb_ BK227 hb; replace BK228 := bb_ BK228 hb; replace BK245 := bb_ BK245 hb; replace BK262 := bb_ BK262 hb; replace HB := bs_ HB hb; (try clear hb); refine hK.out _ _ ⟨bc_ BK226 0, bc_ BK226 1, bc_ BK226 2, bc_ BK226 3, bc_ BK226 4, bc_ BK226 5, bc_ BK227 0, bc_ BK227 1, bc_ BK227 2, bc_ BK228 0, bc_ BK228 1, bc_ BK228 2⟩ (fun hHeld => ?_); clear hK K
     apply norm_
     · show Act.put _ (some 28) _ = _; simp only [Act.put, sA_, sZ_, sS_, i64_w, i32_w]; rfl
     refine pure_ (i := 7) (N := some 21) (v := ?_) (a' := ?_) #[true,true,true,true,true,true,true,true,false,false,true,false,false] rfl rfl (any_of HT_.out (by kernel_rfl)) (fun _ _ _ h => h) (Or.inl ⟨by rfl, ?_⟩) ?_ ?_; rotate_left
     ·
      intro w'; go_simp
      with_reducible rfl
     rotate_left
     · simp only [Act.put, sA_, sZ_, sS_, i64_w, i32_w]; rfl
     refine pure_ (i := 8) (N := some 29) (v := ?_) (a' := ?_) #[true,true,true,true,true,true,true,true,true,false,true,false,false] rfl rfl (any_of HT_.out (by kernel_rfl)) (fun _ _ _ h => h) (Or.inl ⟨by rfl, ?_⟩) ?_ ?_; rotate_left
     ·
      intro w'; go_simp
      with_reducible rfl
     rotate_left
     · simp only [Act.put, sA_, sZ_, sS_, i64_w, i32_w]; rfl
     refine pure_ (i := 9) (N := some 30) (v := ?_) (a' := ?_) #[true,true,true,true,true,true,true,true,true,true,true,false,false] rfl rfl (any_of HT_.out (by kernel_rfl)) (fun _ _ _ h => h) (Or.inl ⟨by rfl, ?_⟩) ?_ ?_; rotate_left
     ·
      intro w'; go_simp
      with_reducible rfl
     rotate_left
     · simp only [Act.put, sA_, sZ_, sS_, i64_w, i32_w]; rfl
     exact nm_ (hJ1_3_5_6_10 (gb262) _ ⟨hHeld, (bk_ BK226), (bk_ BK227), (bk_ BK228), (bk_ BK245), (bk_ BK262), GW262.out, GE262.out, NB226_262.out, NB262_226.out, NB227_262.out, NB262_227.out, NB228_262.out, NB262_228.out, NB245_262.out, NB262_245.out, (bw_ HB)⟩)
   ·
    rintro _ w102 ⟨hS_, h0_, h1_, h2_, h3_, h4_⟩; replace BK226 := Aside0.mk h0_; replace BK227 := Aside0.mk h1_; replace BK228 := Aside0.mk h2_; replace BK245 := Aside0.mk h3_; replace HB := Aside0.mk h4_; clear h0_ h1_ h2_ h3_ h4_; have hHeld := hS_
    apply norm_
    · simp only [putAll, Act.put, sA_, sZ_, sS_]; rfl
    refine one_ (i := 10) (N := some 9) #[true,true,true,true,true,true,true,true,true,true,true,false,false] rfl rfl (one_of HT_.out (by kernel_rfl)) (by decide) (fun K hK => ?_); refine box_step ?hg (N := 9) ?hd (cs := #[.int .i64 0, .int .i64 0, .bool false]) (t := 26) ?hr ?_; (case hd => rfl); (case hg => rfl); (case hr => first | (go_simp; done) | (go_simp; rfl))
    intro gb262 hg w103 hbox hb; have BK262 := Aside0.mk hbox; have GW262 := ge_ HB hg; have GE262 := ge_ HB hg; have NB226_262 := nl_ BK226 hg; have NB262_226 := nr_ BK226 hg; have NB227_262 := nl_ BK227 hg; have NB262_227 := nr_ BK227 hg; have NB228_262 := nl_ BK228 hg; have NB262_228 := nr_ BK228 hg; have NB245_262 := nl_ BK245 hg; have NB262_245 := nr_ BK245 hg; replace BK226 := bb_ BK226 hb; replace BK227 := bb_ BK227 hb; replace BK228 := bb_ BK228 hb; replace BK245 := bb_ BK245 hb; replace HB := bs_ HB hb; clear hb hbox hg; refine hK.out _ _ ⟨bc_ BK226 0, bc_ BK226 1, bc_ BK226 2, bc_ BK226 3, bc_ BK226 4, bc_ BK226 5, bc_ BK227 0, bc_ BK227 1, bc_ BK227 2, bc_ BK228 0, bc_ BK228 1, bc_ BK228 2⟩ (fun hHeld => ?_); clear hK K
    apply norm_
    · show Act.put _ (some 9) _ = _; simp only [Act.put, sA_, sZ_, sS_, i64_w, i32_w]; rfl
    exact nm_ (hJ1_3_5_6_10 (gb262) _ ⟨hHeld, (bk_ BK226), (bk_ BK227), (bk_ BK228), (bk_ BK245), (bk_ BK262), GW262.out, GE262.out, NB226_262.out, NB262_226.out, NB227_262.out, NB262_227.out, NB228_262.out, NB262_228.out, NB245_262.out, NB262_245.out, (bw_ HB)⟩)
  rintro gb262 w103 ⟨hS_, h0_, h1_, h2_, h3_, h4_, h5_, h6_, h7_, h8_, h9_, h10_, h11_, h12_, h13_, h14_, h15_⟩; replace BK226 := Aside0.mk h0_; replace BK227 := Aside0.mk h1_; replace BK228 := Aside0.mk h2_; replace BK245 := Aside0.mk h3_; have BK262 := Aside0.mk h4_; have GW262 := Aside0.mk h5_; have GE262 := Aside0.mk h6_; have NB226_262 := Aside0.mk h7_; have NB262_226 := Aside0.mk h8_; have NB227_262 := Aside0.mk h9_; have NB262_227 := Aside0.mk h10_; have NB228_262 := Aside0.mk h11_; have NB262_228 := Aside0.mk h12_; have NB245_262 := Aside0.mk h13_; have NB262_245 := Aside0.mk h14_; replace HB := Aside0.mk h15_; clear h0_ h1_ h2_ h3_ h4_ h5_ h6_ h7_ h8_ h9_ h10_ h11_ h12_ h13_ h14_ h15_; have hHeld := hS_
  apply norm_
  · simp only [putAll, Act.put, sA_, sZ_, sS_]; rfl
  refine one_ (i := 11) (N := none) #[true,true,true,true,true,true,true,true,true,true,true,true,false] rfl rfl (one_of HT_.out (by kernel_rfl)) (by decide) (fun K hK => ?_)
  have hs104 : w103.cell? ⟨gb262, 0, none⟩ = some (.int .i64 0) := bc_ BK262 0
  have hfs104 := blk_frozen BK262.out 0; have hns104_0 := NB226_262.out; have hns104_1 := NB227_262.out; have hns104_2 := NB228_262.out; have hns104_3 := NB245_262.out; have hms104_0 := NB262_226.out; have hms104_1 := NB262_227.out; have hms104_2 := NB262_228.out; have hms104_3 := NB262_245.out
  have hs105 : w103.cell? ⟨gb262, 1, none⟩ = some (.int .i64 0) := bc_ BK262 1
  have hfs105 := blk_frozen BK262.out 1; have hns105_0 := NB226_262.out; have hns105_1 := NB227_262.out; have hns105_2 := NB228_262.out; have hns105_3 := NB245_262.out; have hms105_0 := NB262_226.out; have hms105_1 := NB262_227.out; have hms105_2 := NB262_228.out; have hms105_3 := NB262_245.out
  have hs106 : w103.cell? ⟨gb262, 2, none⟩ = some (.bool false) := bc_ BK262 2
  have hfs106 := blk_frozen BK262.out 2; have hns106_0 := NB226_262.out; have hns106_1 := NB227_262.out; have hns106_2 := NB228_262.out; have hns106_3 := NB245_262.out; have hms106_0 := NB262_226.out; have hms106_1 := NB262_227.out; have hms106_2 := NB262_228.out; have hms106_3 := NB262_245.out; refine skip_ (w1 := ?_) (by rfl) rfl ?_ ?_; rotate_left
  · go_simp; rfl
  refine hK.out _ _ ⟨((cell_far (p := ⟨gb262, _, none⟩) NB226_262.out _).trans (((cell_far (p := ⟨gb262, _, none⟩) NB226_262.out _).trans (((cell_far (p := ⟨gb262, _, none⟩) NB226_262.out _).trans (hHeld.1)))))), ((cell_far (p := ⟨gb262, _, none⟩) NB226_262.out _).trans (((cell_far (p := ⟨gb262, _, none⟩) NB226_262.out _).trans (((cell_far (p := ⟨gb262, _, none⟩) NB226_262.out _).trans (hHeld.2.1)))))), ((cell_far (p := ⟨gb262, _, none⟩) NB226_262.out _).trans (((cell_far (p := ⟨gb262, _, none⟩) NB226_262.out _).trans (((cell_far (p := ⟨gb262, _, none⟩) NB226_262.out _).trans (hHeld.2.2.1)))))), ((cell_far (p := ⟨gb262, _, none⟩) NB226_262.out _).trans (((cell_far (p := ⟨gb262, _, none⟩) NB226_262.out _).trans (((cell_far (p := ⟨gb262, _, none⟩) NB226_262.out _).trans (hHeld.2.2.2.1)))))), ((cell_far (p := ⟨gb262, _, none⟩) NB226_262.out _).trans (((cell_far (p := ⟨gb262, _, none⟩) NB226_262.out _).trans (((cell_far (p := ⟨gb262, _, none⟩) NB226_262.out _).trans (hHeld.2.2.2.2.1)))))), ((cell_far (p := ⟨gb262, _, none⟩) NB226_262.out _).trans (((cell_far (p := ⟨gb262, _, none⟩) NB226_262.out _).trans (((cell_far (p := ⟨gb262, _, none⟩) NB226_262.out _).trans (hHeld.2.2.2.2.2.1)))))), ((cell_far (p := ⟨gb262, _, none⟩) NB227_262.out _).trans (((cell_far (p := ⟨gb262, _, none⟩) NB227_262.out _).trans (((cell_far (p := ⟨gb262, _, none⟩) NB227_262.out _).trans (hHeld.2.2.2.2.2.2.1)))))), ((cell_far (p := ⟨gb262, _, none⟩) NB227_262.out _).trans (((cell_far (p := ⟨gb262, _, none⟩) NB227_262.out _).trans (((cell_far (p := ⟨gb262, _, none⟩) NB227_262.out _).trans (hHeld.2.2.2.2.2.2.2.1)))))), ((cell_far (p := ⟨gb262, _, none⟩) NB227_262.out _).trans (((cell_far (p := ⟨gb262, _, none⟩) NB227_262.out _).trans (((cell_far (p := ⟨gb262, _, none⟩) NB227_262.out _).trans (hHeld.2.2.2.2.2.2.2.2.1)))))), ((cell_far (p := ⟨gb262, _, none⟩) NB228_262.out _).trans (((cell_far (p := ⟨gb262, _, none⟩) NB228_262.out _).trans (((cell_far (p := ⟨gb262, _, none⟩) NB228_262.out _).trans (hHeld.2.2.2.2.2.2.2.2.2.1)))))), ((cell_far (p := ⟨gb262, _, none⟩) NB228_262.out _).trans (((cell_far (p := ⟨gb262, _, none⟩) NB228_262.out _).trans (((cell_far (p := ⟨gb262, _, none⟩) NB228_262.out _).trans (hHeld.2.2.2.2.2.2.2.2.2.2.1)))))), ((cell_far (p := ⟨gb262, _, none⟩) NB228_262.out _).trans (((cell_far (p := ⟨gb262, _, none⟩) NB228_262.out _).trans (((cell_far (p := ⟨gb262, _, none⟩) NB228_262.out _).trans (hHeld.2.2.2.2.2.2.2.2.2.2.2))))))⟩ (fun hHeld => ?_); clear hK K; refine pure_ (i := 12) (N := some 10) (v := ?_) (a' := ?_) #[true,true,true,true,true,true,true,true,true,true,true,true,true] rfl rfl (any_of HT_.out (by kernel_rfl)) (fun _ _ _ h => h) (Or.inl ⟨by rfl, ?_⟩) ?_ ?_; rotate_left
  ·
   intro w'; go_simp
   with_reducible rfl
  rotate_left
  · simp only [Act.put, sA_, sZ_, sS_, i64_w, i32_w]; rfl
  refine done_ (done_of HT_.out (by kernel_rfl)) ?_; have hnb107 := NB262_226.out; have hnc107 := NB226_262.out; have hnb108 := NB262_227.out; have hnc108 := NB227_262.out; have hnb109 := NB262_228.out; have hnc109 := NB228_262.out; have hnb110 := NB262_245.out; have hnc110 := NB245_262.out
  have hcz111_0 : w103.cell? ⟨gb262, 0, none⟩ = some (.int .i64 0) := bc_ BK262 0
  have hcz111_1 : w103.cell? ⟨gb262, 1, none⟩ = some (.int .i64 0) := bc_ BK262 1
  have hcz111_2 : w103.cell? ⟨gb262, 2, none⟩ = some (.bool false) := bc_ BK262 2
  have hfz111_0 := blk_frozen BK262.out 0; have hfz111_1 := blk_frozen BK262.out 1; have hfz111_2 := blk_frozen BK262.out 2; have hnb112 := NB245_226.out; have hnc112 := NB226_245.out; have hnb113 := NB245_227.out; have hnc113 := NB227_245.out; have hnb114 := NB245_228.out; have hnc114 := NB228_245.out
  have hcz115_0 : w103.cell? ⟨gb245, 0, none⟩ = some (.int .i64 t241) := bc_ BK245 0
  have hcz115_1 : w103.cell? ⟨gb245, 1, none⟩ = some (.int .i64 t242) := bc_ BK245 1
  have hcz115_2 : w103.cell? ⟨gb245, 2, none⟩ = some (.bool t243) := bc_ BK245 2
  have hfz115_0 := blk_frozen BK245.out 0; have hfz115_1 := blk_frozen BK245.out 1; have hfz115_2 := blk_frozen BK245.out 2
  try go_wp2_with (first | ((with_reducible refine gate_callee (f := 12) rfl ?_); refine goesL_ (some 33) rfl rfl Try.func12 (by kernel_rfl) rfl #[.agg #[.int .i64 t258, .int .i64 t259, .bool t260], .agg #[.int .i64 t241, .int .i64 t242, .bool t243]] rfl (by (try simp only [List.map_toArray, List.map_cons, List.map_nil]); first | done | rfl | (simp only [List.length_drop, List.length_take]; rfl)) ?_; (with_reducible refine (laws_eqPoint.calls t258 t259 t260 t241 t242 t243 false _ A12.out).mono ?_); rintro e w116 ⟨rfl, hb⟩; refine ⟨_, rfl, ?_⟩; have n0_ := Aside0.mk (blk_below (g := gb226) (o := .cells #[.int .i64 a0_0, .int .i64 a0_1, .int .i64 a0_2, .int .i64 a0_3, .int .i64 a0_4, .int .i64 a0_5] 23 (0, 0)) (bf_ BK226) hb); have n1_ := Aside0.mk (blk_below (g := gb227) (o := .cells #[.int .i64 a1_0, .int .i64 a1_1, .bool a1_2] 25 (0, 0)) (bf_ BK227) hb); have n2_ := Aside0.mk (blk_below (g := gb228) (o := .cells #[.int .i64 a2_0, .int .i64 a2_1, .bool a2_2] 25 (0, 0)) (bf_ BK228) hb); have n3_ := Aside0.mk (blk_below (g := gb245) (o := .cells #[.int .i64 t241, .int .i64 t242, .bool t243] 26 (0, 0)) (bf_ BK245) hb); have n4_ := Aside0.mk (blk_below (g := gb262) (o := .cells #[.int .i64 t258, .int .i64 t259, .bool t260] 26 (0, 0)) (by (with_reducible repeat (first | refine blk_drewN ?_ _ | refine blk_drew ?_ | refine blk_alloc ?_ _)); refine blk_put (cs := #[.int .i64 t258, .int .i64 t259, .bool false]) ?_ 2 _ rfl; (with_reducible repeat (first | refine blk_drewN ?_ _ | refine blk_drew ?_ | refine blk_alloc ?_ _)); refine blk_put (cs := #[.int .i64 t258, .int .i64 0, .bool false]) ?_ 1 _ rfl; (with_reducible repeat (first | refine blk_drewN ?_ _ | refine blk_drew ?_ | refine blk_alloc ?_ _)); refine blk_put (cs := #[.int .i64 0, .int .i64 0, .bool false]) ?_ 0 _ rfl; (with_reducible repeat (first | refine blk_drewN ?_ _ | refine blk_drew ?_ | refine blk_alloc ?_ _)); exact BK262.out) hb); have n5_ := bs_ HB hb; clear BK226; clear BK227; clear BK228; clear BK245; clear BK262; clear HB; have BK226 := n0_; have BK227 := n1_; have BK228 := n2_; have BK245 := n3_; have BK262 := n4_; have HB := n5_; clear n0_ n1_ n2_ n3_ n4_ n5_; (try clear hb); (try clear hb2); (try clear hk); (try clear hi)))
  go_ret
  exact ⟨by first | rfl | (simp [errW_none, errW_some] <;> rfl) | (simp [*, errW_none, errW_some] <;> rfl), by repeat (first | (with_reducible first | exact HB.out | apply below_alloc | apply pw_below_drewN | apply below_drew1 | refine below_set ?_ GE226.out | refine below_set ?_ GE227.out | refine below_set ?_ GE228.out | refine below_set ?_ GE245.out | refine below_set ?_ GE262.out) | exact HB.out)⟩

/-- THE ONE PURE STATEMENT of laws_FnExactPointAdd: yours. -/
def laws_FnExactPointAdd.Pure : Prop := ∀ (a0_0 : Int) (a0_1 : Int) (a0_2 : Int) (a0_3 : Int) (a0_4 : Int) (a0_5 : Int) (a1_0 : Int) (a1_1 : Int) (a1_2 : Bool) (a2_0 : Int) (a2_1 : Int) (a2_2 : Bool), (Lit.int .i64 a0_0).wf = true → (Lit.int .i64 a0_1).wf = true → (Lit.int .i64 a0_2).wf = true → (Lit.int .i64 a0_3).wf = true → (Lit.int .i64 a0_4).wf = true → (Lit.int .i64 a0_5).wf = true → (Lit.int .i64 a1_0).wf = true → (Lit.int .i64 a1_1).wf = true → (Lit.int .i64 a2_0).wf = true → (Lit.int .i64 a2_1).wf = true → ∃ k, laws_FnExactPointAdd.f k a0_0 a0_1 a0_2 a0_3 a0_4 a0_5 a1_0 a1_1 a1_2 a2_0 a2_1 a2_2 = some true
theorem laws_FnExactPointAdd.walk (P : laws_FnExactPointAdd.Pure) (a0_0 : Int) (a0_1 : Int) (a0_2 : Int) (a0_3 : Int) (a0_4 : Int) (a0_5 : Int) (a1_0 : Int) (a1_1 : Int) (a1_2 : Bool) (a2_0 : Int) (a2_1 : Int) (a2_2 : Bool) (w : World) (w0_0 : (Lit.int .i64 a0_0).wf = true) (w0_1 : (Lit.int .i64 a0_1).wf = true) (w0_2 : (Lit.int .i64 a0_2).wf = true) (w0_3 : (Lit.int .i64 a0_3).wf = true) (w0_4 : (Lit.int .i64 a0_4).wf = true) (w0_5 : (Lit.int .i64 a0_5).wf = true) (w1_0 : (Lit.int .i64 a1_0).wf = true) (w1_1 : (Lit.int .i64 a1_1).wf = true) (w2_0 : (Lit.int .i64 a2_0).wf = true) (w2_1 : (Lit.int .i64 a2_1).wf = true) :
  Calls Try.prog 3 #[.agg #[.int .i64 a0_0, .int .i64 a0_1, .int .i64 a0_2, .int .i64 a0_3, .int .i64 a0_4, .int .i64 a0_5], .agg #[.int .i64 a1_0, .int .i64 a1_1, .bool a1_2], .agg #[.int .i64 a2_0, .int .i64 a2_1, .bool a2_2]] w fun e w' => e = .returned (.bool true) ∧ Below w.heap.size w w' := by
 obtain ⟨k, h⟩ := P a0_0 a0_1 a0_2 a0_3 a0_4 a0_5 a1_0 a1_1 a1_2 a2_0 a2_1 a2_2 w0_0 w0_1 w0_2 w0_3 w0_4 w0_5 w1_0 w1_1 w2_0 w2_1; refine (laws_FnExactPointAdd.calls k a0_0 a0_1 a0_2 a0_3 a0_4 a0_5 a1_0 a1_1 a1_2 a2_0 a2_1 a2_2 true w h).mono ?_; rintro e w' ⟨rfl, hd⟩; exact ⟨rfl, hd⟩

end Go.Proofs.Ytadmkolopcdffaa.PFnExactPointAdd
