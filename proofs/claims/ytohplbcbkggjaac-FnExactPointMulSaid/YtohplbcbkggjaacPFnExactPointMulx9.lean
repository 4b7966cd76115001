-- Written for this claim by a program of this session.
import Derived.Test.YtohplbcbkggjaacPFnExactPointMulx0
import Derived.Test.YtohplbcbkggjaacPFnExactPointMulx2
import Derived.Test.YtohplbcbkggjaacPFnExactPointMulx3
import Derived.Test.YtohplbcbkggjaacPFnExactPointMulx8
namespace Go.Proofs.Ytohplbcbkggjaac.PFnExactPointMul
open Go.RowKit Go.Proofs.YtohplbcbkggjaacW.PrintWords Go.Proofs.YtohplbcbkggjaacW.PrintLast Go.Proofs.YtohplbcbkggjaacW.PrintMore
attribute [local go_sem] max2_int min2_int max_two min_two max_three min_three max_four min_four   -- for this text's walks alone
set_option linter.unusedVariables false
set_option linter.unusedSimpArgs false

attribute [local go_sem] fld_
/-! ### laws_FnExactPointMul: function 4 -/
def laws_FnExactPointMul.f (k : Nat) (a0_0 : Int) (a0_1 : Int) (a0_2 : Int) (a0_3 : Int) (a0_4 : Int) (a0_5 : Int) (a1 : Int) (a2_0 : Int) (a2_1 : Int) (a2_2 : Bool) : Option (Bool) := (laws_toCurve.f a0_0 a0_1 a0_2 a0_3 a0_4 a0_5).bind fun bt226 => ((laws_toPoint.f a2_0 a2_1 a2_2).bind fun bt232 => ((spec_PointMul.f k bt226.1 bt226.2.1 bt226.2.2.1 bt226.2.2.2.1 bt226.2.2.2.2.1 bt226.2.2.2.2.2 a1 bt232.1 bt232.2.1 bt232.2.2).bind fun bt235 => ((laws_toCurve.f a0_0 a0_1 a0_2 a0_3 a0_4 a0_5).bind fun bt240 => ((laws_toPoint.f a2_0 a2_1 a2_2).bind fun bt246 => ((impl_PointMul.f k bt240.1 bt240.2.1 bt240.2.2.1 bt240.2.2.2.1 bt240.2.2.2.2.1 bt240.2.2.2.2.2 a1 bt246.1 bt246.2.1 bt246.2.2).bind fun bt249 => ((laws_eqPoint.f bt249.1 bt249.2.1 bt249.2.2.1 bt235.1 bt235.2.1 bt235.2.2.1).bind fun t254 => (if t254 = true then (if (bt249.2.2.2 != bt235.2.2.2) = true then (some false) else (some true)) else (some false))))))))
theorem laws_FnExactPointMul.mono : ∀ a0 a1 a2 a3 a4 a5 a6 a7 a8 a9 k, LeO (laws_FnExactPointMul.f k a0 a1 a2 a3 a4 a5 a6 a7 a8 a9) (laws_FnExactPointMul.f (k + 1) a0 a1 a2 a3 a4 a5 a6 a7 a8 a9) := by
 intro a0 a1 a2 a3 a4 a5 a6 a7 a8 a9 k
 unfold laws_FnExactPointMul.f
 repeat' first
   | (with_reducible exact impl_PointMul.mono _ _ _ _ _ _ _ _ _ _ _)
   | (with_reducible exact spec_PointMul.mono _ _ _ _ _ _ _ _ _ _ _)
   | (with_reducible exact LeO.refl _)
   | (with_reducible exact LeO.none _)
   | (with_reducible refine LeO.ite ?_ ?_)
   | (with_reducible refine LeO.bind ?_ (fun _ => ?_))
   | exact impl_PointMul.mono _ _ _ _ _ _ _ _ _ _ _
   | exact spec_PointMul.mono _ _ _ _ _ _ _ _ _ _ _
   | exact LeO.none _
   | refine LeO.ite ?_ ?_
   | refine LeO.bind ?_ (fun _ => ?_)
def laws_FnExactPointMul.T1 : Bool × List (List Nat × List Nat) := (true, [([], []), ([0], [0]), ([], []), ([], []), ([3, 1], [3]), ([1, 2, 4, 4], [1, 2, 4]), ([5], [5]), ([6], [6]), ([6], [6]), ([], []), ([9, 7, 5, 0, 1, 2, 3, 4, 5, 6, 7, 9], [7, 9]), ([8, 10, 0, 1, 2, 3, 4, 5, 6, 7, 8, 9, 10], [8])])
def laws_FnExactPointMul.B1 : List Nat := [0, 1, 0, 0, 11, 31, 63, 127, 127, 0, 767, 2047]
theorem laws_FnExactPointMul.tab1 : rtab .any (opsOf Try.f4 1) = laws_FnExactPointMul.T1 := by kernel_rfl
theorem laws_FnExactPointMul.bits1 : waitsOk laws_FnExactPointMul.T1.2 laws_FnExactPointMul.B1 = true := by kernel_rfl
def laws_FnExactPointMul.T2 : Bool × List (List Nat × List Nat) := (true, [([], []), ([0], [0]), ([], []), ([], []), ([3, 1], [3]), ([1, 2, 4, 4], [1, 2, 4]), ([5], [5]), ([6], [6]), ([6], [6]), ([], []), ([9, 7, 5, 0, 1, 2, 3, 4, 5, 6, 7, 9], [7, 9]), ([8, 10, 0, 1, 2, 3, 4, 5, 6, 7, 8, 9, 10], [8])])
def laws_FnExactPointMul.B2 : List Nat := [0, 1, 0, 0, 11, 31, 63, 127, 127, 0, 767, 2047]
theorem laws_FnExactPointMul.tab2 : rtab .any (opsOf Try.f4 2) = laws_FnExactPointMul.T2 := by kernel_rfl
theorem laws_FnExactPointMul.bits2 : waitsOk laws_FnExactPointMul.T2.2 laws_FnExactPointMul.B2 = true := by kernel_rfl
set_option maxHeartbeats 8000000 in
set_option maxRecDepth 100000 in
theorem laws_FnExactPointMul.calls (k : Nat) (a0_0 : Int) (a0_1 : Int) (a0_2 : Int) (a0_3 : Int) (a0_4 : Int) (a0_5 : Int) (a1 : Int) (a2_0 : Int) (a2_1 : Int) (a2_2 : Bool) (r : Bool) (w : World) (h : laws_FnExactPointMul.f k a0_0 a0_1 a0_2 a0_3 a0_4 a0_5 a1 a2_0 a2_1 a2_2 = some r) :
  Calls Try.prog 4 #[.agg #[.int .i64 a0_0, .int .i64 a0_1, .int .i64 a0_2, .int .i64 a0_3, .int .i64 a0_4, .int .i64 a0_5], .int .i64 a1, .agg #[.int .i64 a2_0, .int .i64 a2_1, .bool a2_2]] w fun e w' => e = .returned (.bool r) ∧ Below w.heap.size w w' := by
 have hu23 := Try.underlying23; have hu25 := Try.underlying25; have hu26 := Try.underlying26; have HB := Aside0.mk (Below.refl w.heap.size w)
 have H : ((laws_toCurve.f a0_0 a0_1 a0_2 a0_3 a0_4 a0_5).bind fun bt226 => ((laws_toPoint.f a2_0 a2_1 a2_2).bind fun bt232 => ((spec_PointMul.f k bt226.1 bt226.2.1 bt226.2.2.1 bt226.2.2.2.1 bt226.2.2.2.2.1 bt226.2.2.2.2.2 a1 bt232.1 bt232.2.1 bt232.2.2).bind fun bt235 => ((laws_toCurve.f a0_0 a0_1 a0_2 a0_3 a0_4 a0_5).bind fun bt240 => ((laws_toPoint.f a2_0 a2_1 a2_2).bind fun bt246 => ((impl_PointMul.f k bt240.1 bt240.2.1 bt240.2.2.1 bt240.2.2.2.1 bt240.2.2.2.2.1 bt240.2.2.2.2.2 a1 bt246.1 bt246.2.1 bt246.2.2).bind fun bt249 => ((laws_eqPoint.f bt249.1 bt249.2.1 bt249.2.2.1 bt235.1 bt235.2.1 bt235.2.2.1).bind fun t254 => (if t254 = true then (if (bt249.2.2.2 != bt235.2.2.2) = true then (some false) else (some true)) else (some false))))))))) = some r := h
 clear h; replace H := Option.bind_eq_some_iff.mp H; obtain ⟨⟨t226, t227, t228, t229, t230, t231⟩, A40, H⟩ := H
 replace H : ((laws_toPoint.f a2_0 a2_1 a2_2).bind fun bt232 => ((spec_PointMul.f k t226 t227 t228 t229 t230 t231 a1 bt232.1 bt232.2.1 bt232.2.2).bind fun bt235 => ((laws_toCurve.f a0_0 a0_1 a0_2 a0_3 a0_4 a0_5).bind fun bt240 => ((laws_toPoint.f a2_0 a2_1 a2_2).bind fun bt246 => ((impl_PointMul.f k bt240.1 bt240.2.1 bt240.2.2.1 bt240.2.2.2.1 bt240.2.2.2.2.1 bt240.2.2.2.2.2 a1 bt246.1 bt246.2.1 bt246.2.2).bind fun bt249 => ((laws_eqPoint.f bt249.1 bt249.2.1 bt249.2.2.1 bt235.1 bt235.2.1 bt235.2.2.1).bind fun t254 => (if t254 = true then (if (bt249.2.2.2 != bt235.2.2.2) = true then (some false) else (some true)) else (some false)))))))) = some r := H
 have A4 := Aside0.mk A40; clear A40; replace H := Option.bind_eq_some_iff.mp H; obtain ⟨⟨t232, t233, t234⟩, A50, H⟩ := H
 replace H : ((spec_PointMul.f k t226 t227 t228 t229 t230 t231 a1 t232 t233 t234).bind fun bt235 => ((laws_toCurve.f a0_0 a0_1 a0_2 a0_3 a0_4 a0_5).bind fun bt240 => ((laws_toPoint.f a2_0 a2_1 a2_2).bind fun bt246 => ((impl_PointMul.f k bt240.1 bt240.2.1 bt240.2.2.1 bt240.2.2.2.1 bt240.2.2.2.2.1 bt240.2.2.2.2.2 a1 bt246.1 bt246.2.1 bt246.2.2).bind fun bt249 => ((laws_eqPoint.f bt249.1 bt249.2.1 bt249.2.2.1 bt235.1 bt235.2.1 bt235.2.2.1).bind fun t254 => (if t254 = true then (if (bt249.2.2.2 != bt235.2.2.2) = true then (some false) else (some true)) else (some false))))))) = some r := H
 have A5 := Aside0.mk A50; clear A50; replace H := Option.bind_eq_some_iff.mp H; obtain ⟨⟨t235, t236, t237, t238⟩, A60, H⟩ := H
 replace H : ((laws_toCurve.f a0_0 a0_1 a0_2 a0_3 a0_4 a0_5).bind fun bt240 => ((laws_toPoint.f a2_0 a2_1 a2_2).bind fun bt246 => ((impl_PointMul.f k bt240.1 bt240.2.1 bt240.2.2.1 bt240.2.2.2.1 bt240.2.2.2.2.1 bt240.2.2.2.2.2 a1 bt246.1 bt246.2.1 bt246.2.2).bind fun bt249 => ((laws_eqPoint.f bt249.1 bt249.2.1 bt249.2.2.1 t235 t236 t237).bind fun t254 => (if t254 = true then (if (bt249.2.2.2 != t238) = true then (some false) else (some true)) else (some false)))))) = some r := H
 have A6 := Aside0.mk A60; clear A60; replace H := Option.bind_eq_some_iff.mp H; obtain ⟨⟨t240, t241, t242, t243, t244, t245⟩, A70, H⟩ := H
 replace H : ((laws_toPoint.f a2_0 a2_1 a2_2).bind fun bt246 => ((impl_PointMul.f k t240 t241 t242 t243 t244 t245 a1 bt246.1 bt246.2.1 bt246.2.2).bind fun bt249 => ((laws_eqPoint.f bt249.1 bt249.2.1 bt249.2.2.1 t235 t236 t237).bind fun t254 => (if t254 = true then (if (bt249.2.2.2 != t238) = true then (some false) else (some true)) else (some false))))) = some r := H
 have A7 := Aside0.mk A70; clear A70; replace H := Option.bind_eq_some_iff.mp H; obtain ⟨⟨t246, t247, t248⟩, A80, H⟩ := H
 replace H : ((impl_PointMul.f k t240 t241 t242 t243 t244 t245 a1 t246 t247 t248).bind fun bt249 => ((laws_eqPoint.f bt249.1 bt249.2.1 bt249.2.2.1 t235 t236 t237).bind fun t254 => (if t254 = true then (if (bt249.2.2.2 != t238) = true then (some false) else (some true)) else (some false)))) = some r := H
 have A8 := Aside0.mk A80; clear A80; replace H := Option.bind_eq_some_iff.mp H; obtain ⟨⟨t249, t250, t251, t252⟩, A90, H⟩ := H
 replace H : ((laws_eqPoint.f t249 t250 t251 t235 t236 t237).bind fun t254 => (if t254 = true then (if (t252 != t238) = true then (some false) else (some true)) else (some false))) = some r := H
 have A9 := Aside0.mk A90; clear A90; replace H := Option.bind_eq_some_iff.mp H; obtain ⟨t254, A100, H⟩ := H
 replace H : (if t254 = true then (if (t252 != t238) = true then (some false) else (some true)) else (some false)) = some r := H
 have A10 := Aside0.mk A100; clear A100
 by_cases c11 : t254 = true
 ·
  subst c11
  have H1 : (if (t252 != t238) = true then (some false) else (some true)) = some r := by rw [if_pos rfl] at H; exact H
  clear H; have H := H1; clear H1
  by_cases c12 : (t252 != t238) = true
  ·
   rw [if_pos c12] at H
   have c12b0 : (t252 != t238) = true := c12
   (try (have c12b1 : decide (t252 = t238) = false := by simpa using c12)); (try (have c12b2 : (t252 == t238) = false := by simpa using c12)); (try (have c12b3 : ¬ (t252 = t238) := by simpa using c12)); clear c12; obtain rfl := Option.some.inj H
   go_enter Try.func4, Try.ntmps4
   try go_wp2_with (first | ((with_reducible refine gate_dst (N := 3) rfl ?_); refine box_event ?hg (N := 3) ?hd (cs := #[.int .i64 a0_0, .int .i64 a0_1, .int .i64 a0_2, .int .i64 a0_3, .int .i64 a0_4, .int .i64 a0_5]) (t := 23) ?hr ?_; (case hd => rfl); (case hg => rfl); (case hr => first | (go_simp; done) | (go_simp; rfl)); intro gb224 hg w13 hbox hb; have n0_ := bs_ HB hb; have n1_ := Aside0.mk hbox; have n2_ := ge_ HB hg; have n3_ := ge_ HB hg; clear HB; have HB := n0_; have BK224 := n1_; have GW224 := n2_; have GE224 := n3_; clear n0_ n1_ n2_ n3_; clear hb hbox hg) | ((with_reducible refine gate_dst (N := 5) rfl ?_); refine box_event ?hg (N := 5) ?hd (cs := #[.int .i64 a2_0, .int .i64 a2_1, .bool a2_2]) (t := 25) ?hr ?_; (case hd => rfl); (case hg => rfl); (case hr => first | (go_simp; done) | (go_simp; rfl)); intro gb225 hg w14 hbox hb; have n0_ := bb_ BK224 hb; have n1_ := bs_ HB hb; have n2_ := Aside0.mk hbox; have n3_ := ge_ HB hg; have n4_ := ge_ HB hg; have n5_ := nl_ BK224 hg; have n6_ := nr_ BK224 hg; clear BK224; clear HB; have BK224 := n0_; have HB := n1_; have BK225 := n2_; have GW225 := n3_; have GE225 := n4_; have NB224_225 := n5_; have NB225_224 := n6_; clear n0_ n1_ n2_ n3_ n4_ n5_ n6_; clear hb hbox hg))
   replace BK224 := Aside0.mk (blk_drew BK224.out); replace BK225 := Aside0.mk (blk_drew BK225.out); replace HB := Aside0.mk (below_drew1 HB.out); refine start_ (n := 12) (S := fun w' => w'.cell? ⟨gb224, 0, none⟩ = some (.int .i64 a0_0) ∧ w'.cell? ⟨gb224, 1, none⟩ = some (.int .i64 a0_1) ∧ w'.cell? ⟨gb224, 2, none⟩ = some (.int .i64 a0_2) ∧ w'.cell? ⟨gb224, 3, none⟩ = some (.int .i64 a0_3) ∧ w'.cell? ⟨gb224, 4, none⟩ = some (.int .i64 a0_4) ∧ w'.cell? ⟨gb224, 5, none⟩ = some (.int .i64 a0_5) ∧ w'.cell? ⟨gb225, 0, none⟩ = some (.int .i64 a2_0) ∧ w'.cell? ⟨gb225, 1, none⟩ = some (.int .i64 a2_1) ∧ w'.cell? ⟨gb225, 2, none⟩ = some (.bool a2_2)) (ds := []) #[false,false,false,false,false,false,false,false,false,false,false,false] (by kernel_rfl) rfl rfl ⟨bc_ BK224 0, bc_ BK224 1, bc_ BK224 2, bc_ BK224 3, bc_ BK224 4, bc_ BK224 5, bc_ BK225 0, bc_ BK225 1, bc_ BK225 2⟩ (fun hHeld => ?_); refine with_tabW laws_FnExactPointMul.tab1 laws_FnExactPointMul.bits1 (fun HT_ HW_ => ?_)
   generalize w14.drew = w15 at BK224 BK225 HB hHeld ⊢
   refine pure_ (i := 2) (N := some 14) (v := ?_) (a' := ?_) #[false,false,true,false,false,false,false,false,false,false,false,false] rfl rfl (any_of HT_.out (by kernel_rfl)) (fun _ _ _ h => h) (Or.inl ⟨by rfl, ?_⟩) ?_ ?_; rotate_left
   ·
    intro w'; go_simp
    with_reducible rfl
   rotate_left
   · simp only [Act.put, sA_, sZ_, sS_, i64_w, i32_w]; rfl
   refine take_ (i := 0) (N := some 12) (v := ?_) (a' := ?_) #[true,false,true,false,false,false,false,false,false,false,false,false] rfl rfl (take_ofW HT_.out HW_.out (by kernel_rfl)) (fun _ _ _ h => h) (Or.inl ⟨by rfl, ?_⟩) hHeld ?_ ?_; rotate_left
   ·
    rintro w' ⟨s0, s1, s2, s3, s4, s5, s6, s7, s8⟩; go_simp
    with_reducible rfl
   rotate_left
   · simp only [Act.put, sA_, sZ_, sS_, i64_w, i32_w]; rfl
   refine take_ (i := 3) (N := some 15) (v := ?_) (a' := ?_) #[true,false,true,true,false,false,false,false,false,false,false,false] rfl rfl (take_ofW HT_.out HW_.out (by kernel_rfl)) (fun _ _ _ h => h) (Or.inl ⟨by rfl, ?_⟩) hHeld ?_ ?_; rotate_left
   ·
    rintro w' ⟨s0, s1, s2, s3, s4, s5, s6, s7, s8⟩; go_simp
    with_reducible rfl
   rotate_left
   · simp only [Act.put, sA_, sZ_, sS_, i64_w, i32_w]; rfl
   refine join_ (σ := Nat) 2 #[true,true,true,true,true,true,true,true,true,true,false,false] (fun s_ => [(13, .agg #[.int .i64 t226, .int .i64 t227, .int .i64 t228, .int .i64 t229, .int .i64 t230, .int .i64 t231]), (16, .agg #[.int .i64 t232, .int .i64 t233, .bool t234]), (17, .tuple #[.agg #[.int .i64 t235, .int .i64 t236, .bool t237], .bool t238]), (7, .pointer (some ⟨s_, 0, none⟩)), (11, .tuple #[.agg #[.int .i64 t235, .int .i64 t236, .bool t237], .bool t238]), (18, .agg #[.int .i64 t235, .int .i64 t236, .bool t237]), (19, .bool t238)]) (fun s_ w' => (w'.cell? ⟨gb224, 0, none⟩ = some (.int .i64 a0_0) ∧ w'.cell? ⟨gb224, 1, none⟩ = some (.int .i64 a0_1) ∧ w'.cell? ⟨gb224, 2, none⟩ = some (.int .i64 a0_2) ∧ w'.cell? ⟨gb224, 3, none⟩ = some (.int .i64 a0_3) ∧ w'.cell? ⟨gb224, 4, none⟩ = some (.int .i64 a0_4) ∧ w'.cell? ⟨gb224, 5, none⟩ = some (.int .i64 a0_5) ∧ w'.cell? ⟨gb225, 0, none⟩ = some (.int .i64 a2_0) ∧ w'.cell? ⟨gb225, 1, none⟩ = some (.int .i64 a2_1) ∧ w'.cell? ⟨gb225, 2, none⟩ = some (.bool a2_2)) ∧ (w'.heap[gb224]? = some (.cells #[.int .i64 a0_0, .int .i64 a0_1, .int .i64 a0_2, .int .i64 a0_3, .int .i64 a0_4, .int .i64 a0_5] 23 (0, 0))) ∧ (w'.heap[gb225]? = some (.cells #[.int .i64 a2_0, .int .i64 a2_1, .bool a2_2] 25 (0, 0))) ∧ (w'.heap[s_]? = some (.cells #[.int .i64 0, .int .i64 0, .bool false] 26 (0, 0))) ∧ (w.heap.size ≤ s_) ∧ (w.heap.size ≤ s_) ∧ (gb224 ≠ s_) ∧ (s_ ≠ gb224) ∧ (gb225 ≠ s_) ∧ (s_ ≠ gb225) ∧ (Below w.heap.size w w')) ?_ ?_; rotate_left
   ·
    intro hCont; refine two_ (i := 1) (j := 9) (Ni := some 13) (Nj := some 7) #[true,true,true,true,false,false,false,false,false,false,false,false] #[true,false,true,true,false,false,false,false,false,true,false,false] rfl rfl rfl rfl (two_of HT_.out (by kernel_rfl)) (by decide) (by decide) (fun K hK => ?_) (fun K hK => ?_)
    ·
     refine gs_ Try.func15 #[.agg #[.int .i64 a0_0, .int .i64 a0_1, .int .i64 a0_2, .int .i64 a0_3, .int .i64 a0_4, .int .i64 a0_5]] ?_
     with_reducible refine (laws_toCurve.calls a0_0 a0_1 a0_2 a0_3 a0_4 a0_5 t226 t227 t228 t229 t230 t231 _ A4.out).mono ?_
     rintro e w16 ⟨rfl, hb⟩; refine ⟨_, rfl, ?_⟩; replace BK224 := bb_ BK224 hb; replace BK225 := bb_ BK225 hb; replace HB := bs_ HB hb; (try clear hb); refine hK.out _ _ ⟨bc_ BK224 0, bc_ BK224 1, bc_ BK224 2, bc_ BK224 3, bc_ BK224 4, bc_ BK224 5, bc_ BK225 0, bc_ BK225 1, bc_ BK225 2⟩ (fun hHeld => ?_); clear hK K
     apply norm_
     · show Act.put _ (some 13) _ = _; simp only [Act.put, sA_, sZ_, sS_, i64_w, i32_w]; rfl
     refine two_ (i := 4) (j := 9) (Ni := some 16) (Nj := some 7) #[true,true,true,true,true,false,false,false,false,false,false,false] #[true,true,true,true,false,false,false,false,false,true,false,false] rfl rfl rfl rfl (two_of HT_.out (by kernel_rfl)) (by decide) (by decide) (fun K hK => ?_) (fun K hK => ?_)
     ·
      refine gs_ Try.func16 #[.agg #[.int .i64 a2_0, .int .i64 a2_1, .bool a2_2]] ?_
      with_reducible refine (laws_toPoint.calls a2_0 a2_1 a2_2 t232 t233 t234 _ A5.out).mono ?_
      rintro e w17 ⟨rfl, hb⟩; refine ⟨_, rfl, ?_⟩; replace BK224 := bb_ BK224 hb; replace BK225 := bb_ BK225 hb; replace HB := bs_ HB hb; (try clear hb); refine hK.out _ _ ⟨bc_ BK224 0, bc_ BK224 1, bc_ BK224 2, bc_ BK224 3, bc_ BK224 4, bc_ BK224 5, bc_ BK225 0, bc_ BK225 1, bc_ BK225 2⟩ (fun hHeld => ?_); clear hK K
      apply norm_
      · show Act.put _ (some 16) _ = _; simp only [Act.put, sA_, sZ_, sS_, i64_w, i32_w]; rfl
      refine two_ (i := 5) (j := 9) (Ni := some 17) (Nj := some 7) #[true,true,true,true,true,true,false,false,false,false,false,false] #[true,true,true,true,true,false,false,false,false,true,false,false] rfl rfl rfl rfl (two_of HT_.out (by kernel_rfl)) (by decide) (by decide) (fun K hK => ?_) (fun K hK => ?_)
      ·
       refine gs_ Try.func19 #[.agg #[.int .i64 t226, .int .i64 t227, .int .i64 t228, .int .i64 t229, .int .i64 t230, .int .i64 t231], .int .i64 a1, .agg #[.int .i64 t232, .int .i64 t233, .bool t234]] ?_
       with_reducible refine (spec_PointMul.calls k t226 t227 t228 t229 t230 t231 a1 t232 t233 t234 t235 t236 t237 t238 _ A6.out).mono ?_
       rintro e w18 ⟨rfl, hb⟩; refine ⟨_, rfl, ?_⟩; replace BK224 := bb_ BK224 hb; replace BK225 := bb_ BK225 hb; replace HB := bs_ HB hb; (try clear hb); refine hK.out _ _ ⟨bc_ BK224 0, bc_ BK224 1, bc_ BK224 2, bc_ BK224 3, bc_ BK224 4, bc_ BK224 5, bc_ BK225 0, bc_ BK225 1, bc_ BK225 2⟩ (fun hHeld => ?_); clear hK K
       apply norm_
       · show Act.put _ (some 17) _ = _; simp only [Act.put, sA_, sZ_, sS_, i64_w, i32_w]; rfl
       refine pure_ (i := 6) (N := some 11) (v := ?_) (a' := ?_) #[true,true,true,true,true,true,true,false,false,false,false,false] rfl rfl (any_of HT_.out (by kernel_rfl)) (fun _ _ _ h => h) (Or.inl ⟨by rfl, ?_⟩) ?_ ?_; rotate_left
       ·
        intro w'; go_simp
        with_reducible rfl
       rotate_left
       · simp only [Act.put, sA_, sZ_, sS_, i64_w, i32_w]; rfl
       refine pure_ (i := 7) (N := some 18) (v := ?_) (a' := ?_) #[true,true,true,true,true,true,true,true,false,false,false,false] rfl rfl (any_of HT_.out (by kernel_rfl)) (fun _ _ _ h => h) (Or.inl ⟨by rfl, ?_⟩) ?_ ?_; rotate_left
       ·
        intro w'; go_simp
        with_reducible rfl
       rotate_left
       · simp only [Act.put, sA_, sZ_, sS_, i64_w, i32_w]; rfl
       refine pure_ (i := 8) (N := some 19) (v := ?_) (a' := ?_) #[true,true,true,true,true,true,true,true,true,false,false,false] rfl rfl (any_of HT_.out (by kernel_rfl)) (fun _ _ _ h => h) (Or.inl ⟨by rfl, ?_⟩) ?_ ?_; rotate_left
       ·
        intro w'; go_simp
        with_reducible rfl
       rotate_left
       · simp only [Act.put, sA_, sZ_, sS_, i64_w, i32_w]; rfl
       refine one_ (i := 9) (N := some 7) #[true,true,true,true,true,true,true,true,true,true,false,false] rfl rfl (one_of HT_.out (by kernel_rfl)) (by decide) (fun K hK => ?_); refine box_step ?hg (N := 7) ?hd (cs := #[.int .i64 0, .int .i64 0, .bool false]) (t := 26) ?hr ?_; (case hd => rfl); (case hg => rfl); (case hr => first | (go_simp; done) | (go_simp; rfl))
       intro gb239 hg w19 hbox hb; have n0_ := bb_ BK224 hb; have n1_ := bb_ BK225 hb; have n2_ := bs_ HB hb; have n3_ := Aside0.mk hbox; have n4_ := ge_ HB hg; have n5_ := ge_ HB hg; have n6_ := nl_ BK224 hg; have n7_ := nr_ BK224 hg; have n8_ := nl_ BK225 hg; have n9_ := nr_ BK225 hg; clear BK224 BK225 HB; have BK224 := n0_; have BK225 := n1_; have HB := n2_; have BK239 := n3_; have GW239 := n4_; have GE239 := n5_; have NB224_239 := n6_; have NB239_224 := n7_; have NB225_239 := n8_; have NB239_225 := n9_; clear n0_ n1_ n2_ n3_ n4_ n5_ n6_ n7_ n8_ n9_; clear hb hbox hg; refine hK.out _ _ ⟨bc_ BK224 0, bc_ BK224 1, bc_ BK224 2, bc_ BK224 3, bc_ BK224 4, bc_ BK224 5, bc_ BK225 0, bc_ BK225 1, bc_ BK225 2⟩ (fun hHeld => ?_); clear hK K
       apply norm_
       · show Act.put _ (some 7) _ = _; simp only [Act.put, sA_, sZ_, sS_, i64_w, i32_w]; rfl
       exact norm_ (by simp only [putAll, Act.put, sA_, sZ_, sS_]) (hCont (gb239) _ ⟨hHeld, (bk_ BK224), (bk_ BK225), (bk_ BK239), GW239.out, GE239.out, NB224_239.out, NB239_224.out, NB225_239.out, NB239_225.out, (bw_ HB)⟩)
      ·
       refine box_step ?hg (N := 7) ?hd (cs := #[.int .i64 0, .int .i64 0, .bool false]) (t := 26) ?hr ?_; (case hd => rfl); (case hg => rfl); (case hr => first | (go_simp; done) | (go_simp; rfl))
       intro gb239 hg w18 hbox hb; have n0_ := bb_ BK224 hb; have n1_ := bb_ BK225 hb; have n2_ := bs_ HB hb; have n3_ := Aside0.mk hbox; have n4_ := ge_ HB hg; have n5_ := ge_ HB hg; have n6_ := nl_ BK224 hg; have n7_ := nr_ BK224 hg; have n8_ := nl_ BK225 hg; have n9_ := nr_ BK225 hg; clear BK224 BK225 HB; have BK224 := n0_; have BK225 := n1_; have HB := n2_; have BK239 := n3_; have GW239 := n4_; have GE239 := n5_; have NB224_239 := n6_; have NB239_224 := n7_; have NB225_239 := n8_; have NB239_225 := n9_; clear n0_ n1_ n2_ n3_ n4_ n5_ n6_ n7_ n8_ n9_; clear hb hbox hg; refine hK.out _ _ ⟨bc_ BK224 0, bc_ BK224 1, bc_ BK224 2, bc_ BK224 3, bc_ BK224 4, bc_ BK224 5, bc_ BK225 0, bc_ BK225 1, bc_ BK225 2⟩ (fun hHeld => ?_); clear hK K
       apply norm_
       · show Act.put _ (some 7) _ = _; simp only [Act.put, sA_, sZ_, sS_, i64_w, i32_w]; rfl
       refine one_ (i := 5) (N := some 17) #[true,true,true,true,true,true,false,false,false,true,false,false] rfl rfl (one_of HT_.out (by kernel_rfl)) (by decide) (fun K hK => ?_); refine gs_ Try.func19 #[.agg #[.int .i64 t226, .int .i64 t227, .int .i64 t228, .int .i64 t229, .int .i64 t230, .int .i64 t231], .int .i64 a1, .agg #[.int .i64 t232, .int .i64 t233, .bool t234]] ?_
       with_reducible refine (spec_PointMul.calls k t226 t227 t228 t229 t230 t231 a1 t232 t233 t234 t235 t236 t237 t238 _ A6.out).mono ?_
       rintro e w19 ⟨rfl, hb⟩; refine ⟨_, rfl, ?_⟩; replace BK224 := bb_ BK224 hb; replace BK225 := bb_ BK225 hb; replace BK239 := bb_ BK239 hb; replace HB := bs_ HB hb; (try clear hb); refine hK.out _ _ ⟨bc_ BK224 0, bc_ BK224 1, bc_ BK224 2, bc_ BK224 3, bc_ BK224 4, bc_ BK224 5, bc_ BK225 0, bc_ BK225 1, bc_ BK225 2⟩ (fun hHeld => ?_); clear hK K
       apply norm_
       · show Act.put _ (some 17) _ = _; simp only [Act.put, sA_, sZ_, sS_, i64_w, i32_w]; rfl
       refine pure_ (i := 6) (N := some 11) (v := ?_) (a' := ?_) #[true,true,true,true,true,true,true,false,false,true,false,false] rfl rfl (any_of HT_.out (by kernel_rfl)) (fun _ _ _ h => h) (Or.inl ⟨by rfl, ?_⟩) ?_ ?_; rotate_left
       ·
        intro w'; go_simp
        with_reducible rfl
       rotate_left
       · simp only [Act.put, sA_, sZ_, sS_, i64_w, i32_w]; rfl
       refine pure_ (i := 7) (N := some 18) (v := ?_) (a' := ?_) #[true,true,true,true,true,true,true,true,false,true,false,false] rfl rfl (any_of HT_.out (by kernel_rfl)) (fun _ _ _ h => h) (Or.inl ⟨by rfl, ?_⟩) ?_ ?_; rotate_left
       ·
        intro w'; go_simp
        with_reducible rfl
       rotate_left
       · simp only [Act.put, sA_, sZ_, sS_, i64_w, i32_w]; rfl
       refine pure_ (i := 8) (N := some 19) (v := ?_) (a' := ?_) #[true,true,true,true,true,true,true,true,true,true,false,false] rfl rfl (any_of HT_.out (by kernel_rfl)) (fun _ _ _ h => h) (Or.inl ⟨by rfl, ?_⟩) ?_ ?_; rotate_left
       ·
        intro w'; go_simp
        with_reducible rfl
       rotate_left
       · simp only [Act.put, sA_, sZ_, sS_, i64_w, i32_w]; rfl
       exact norm_ (by simp only [putAll, Act.put, sA_, sZ_, sS_]) (hCont (gb239) _ ⟨hHeld, (bk_ BK224), (bk_ BK225), (bk_ BK239), GW239.out, GE239.out, NB224_239.out, NB239_224.out, NB225_239.out, NB239_225.out, (bw_ HB)⟩)
     ·
      refine box_step ?hg (N := 7) ?hd (cs := #[.int .i64 0, .int .i64 0, .bool false]) (t := 26) ?hr ?_; (case hd => rfl); (case hg => rfl); (case hr => first | (go_simp; done) | (go_simp; rfl))
      intro gb239 hg w17 hbox hb; have n0_ := bb_ BK224 hb; have n1_ := bb_ BK225 hb; have n2_ := bs_ HB hb; have n3_ := Aside0.mk hbox; have n4_ := ge_ HB hg; have n5_ := ge_ HB hg; have n6_ := nl_ BK224 hg; have n7_ := nr_ BK224 hg; have n8_ := nl_ BK225 hg; have n9_ := nr_ BK225 hg; clear BK224 BK225 HB; have BK224 := n0_; have BK225 := n1_; have HB := n2_; have BK239 := n3_; have GW239 := n4_; have GE239 := n5_; have NB224_239 := n6_; have NB239_224 := n7_; have NB225_239 := n8_; have NB239_225 := n9_; clear n0_ n1_ n2_ n3_ n4_ n5_ n6_ n7_ n8_ n9_; clear hb hbox hg; refine hK.out _ _ ⟨bc_ BK224 0, bc_ BK224 1, bc_ BK224 2, bc_ BK224 3, bc_ BK224 4, bc_ BK224 5, bc_ BK225 0, bc_ BK225 1, bc_ BK225 2⟩ (fun hHeld => ?_); clear hK K
      apply norm_
      · show Act.put _ (some 7) _ = _; simp only [Act.put, sA_, sZ_, sS_, i64_w, i32_w]; rfl
      refine one_ (i := 4) (N := some 16) #[true,true,true,true,true,false,false,false,false,true,false,false] rfl rfl (one_of HT_.out (by kernel_rfl)) (by decide) (fun K hK => ?_); refine gs_ Try.func16 #[.agg #[.int .i64 a2_0, .int .i64 a2_1, .bool a2_2]] ?_
      with_reducible refine (laws_toPoint.calls a2_0 a2_1 a2_2 t232 t233 t234 _ A5.out).mono ?_
      rintro e w18 ⟨rfl, hb⟩; refine ⟨_, rfl, ?_⟩; replace BK224 := bb_ BK224 hb; replace BK225 := bb_ BK225 hb; replace BK239 := bb_ BK239 hb; replace HB := bs_ HB hb; (try clear hb); refine hK.out _ _ ⟨bc_ BK224 0, bc_ BK224 1, bc_ BK224 2, bc_ BK224 3, bc_ BK224 4, bc_ BK224 5, bc_ BK225 0, bc_ BK225 1, bc_ BK225 2⟩ (fun hHeld => ?_); clear hK K
      apply norm_
      · show Act.put _ (some 16) _ = _; simp only [Act.put, sA_, sZ_, sS_, i64_w, i32_w]; rfl
      refine one_ (i := 5) (N := some 17) #[true,true,true,true,true,true,false,false,false,true,false,false] rfl rfl (one_of HT_.out (by kernel_rfl)) (by decide) (fun K hK => ?_); refine gs_ Try.func19 #[.agg #[.int .i64 t226, .int .i64 t227, .int .i64 t228, .int .i64 t229, .int .i64 t230, .int .i64 t231], .int .i64 a1, .agg #[.int .i64 t232, .int .i64 t233, .bool t234]] ?_
      with_reducible refine (spec_PointMul.calls k t226 t227 t228 t229 t230 t231 a1 t232 t233 t234 t235 t236 t237 t238 _ A6.out).mono ?_
      rintro e w19 ⟨rfl, hb⟩; refine ⟨_, rfl, ?_⟩; replace BK224 := bb_ BK224 hb; replace BK225 := bb_ BK225 hb; replace BK239 := bb_ BK239 hb; replace HB := bs_ HB hb; (try clear hb); refine hK.out _ _ ⟨bc_ BK224 0, bc_ BK224 1, bc_ BK224 2, bc_ BK224 3, bc_ BK224 4, bc_ BK224 5, bc_ BK225 0, bc_ BK225 1, bc_ BK225 2⟩ (fun hHeld => ?_); clear hK K
      apply norm_
      · show Act.put _ (some 17) _ = _; simp only [Act.put, sA_, sZ_, sS_, i64_w, i32_w]; rfl
      refine pure_ (i := 6) (N := some 11) (v := ?_) (a' := ?_) #[true,true,true,true,true,true,true,false,false,true,false,false] rfl rfl (any_of HT_.out (by kernel_rfl)) (fun _ _ _ h => h) (Or.inl ⟨by rfl, ?_⟩) ?_ ?_; rotate_left
      ·
       intro w'; go_simp
       with_reducible rfl
      rotate_left
      · simp only [Act.put, sA_, sZ_, sS_, i64_w, i32_w]; rfl
      refine pure_ (i := 7) (N := some 18) (v := ?_) (a' := ?_) #[true,true,true,true,true,true,true,true,false,true,false,false] rfl rfl (any_of HT_.out (by kernel_rfl)) (fun _ _ _ h => h) (Or.inl ⟨by rfl, ?_⟩) ?_ ?_; rotate_left
      ·
       intro w'; go_simp
       with_reducible rfl
      rotate_left
      · simp only [Act.put, sA_, sZ_, sS_, i64_w, i32_w]; rfl
      refine pure_ (i := 8) (N := some 19) (v := ?_) (a' := ?_) #[true,true,true,true,true,true,true,true,true,true,false,false] rfl rfl (any_of HT_.out (by kernel_rfl)) (fun _ _ _ h => h) (Or.inl ⟨by rfl, ?_⟩) ?_ ?_; rotate_left
      ·
       intro w'; go_simp
       with_reducible rfl
      rotate_left
      · simp only [Act.put, sA_, sZ_, sS_, i64_w, i32_w]; rfl
      exact norm_ (by simp only [putAll, Act.put, sA_, sZ_, sS_]) (hCont (gb239) _ ⟨hHeld, (bk_ BK224), (bk_ BK225), (bk_ BK239), GW239.out, GE239.out, NB224_239.out, NB239_224.out, NB225_239.out, NB239_225.out, (bw_ HB)⟩)
    ·
     refine box_step ?hg (N := 7) ?hd (cs := #[.int .i64 0, .int .i64 0, .bool false]) (t := 26) ?hr ?_; (case hd => rfl); (case hg => rfl); (case hr => first | (go_simp; done) | (go_simp; rfl))
     intro gb239 hg w16 hbox hb; have n0_ := bb_ BK224 hb; have n1_ := bb_ BK225 hb; have n2_ := bs_ HB hb; have n3_ := Aside0.mk hbox; have n4_ := ge_ HB hg; have n5_ := ge_ HB hg; have n6_ := nl_ BK224 hg; have n7_ := nr_ BK224 hg; have n8_ := nl_ BK225 hg; have n9_ := nr_ BK225 hg; clear BK224 BK225 HB; have BK224 := n0_; have BK225 := n1_; have HB := n2_; have BK239 := n3_; have GW239 := n4_; have GE239 := n5_; have NB224_239 := n6_; have NB239_224 := n7_; have NB225_239 := n8_; have NB239_225 := n9_; clear n0_ n1_ n2_ n3_ n4_ n5_ n6_ n7_ n8_ n9_; clear hb hbox hg; refine hK.out _ _ ⟨bc_ BK224 0, bc_ BK224 1, bc_ BK224 2, bc_ BK224 3, bc_ BK224 4, bc_ BK224 5, bc_ BK225 0, bc_ BK225 1, bc_ BK225 2⟩ (fun hHeld => ?_); clear hK K
     apply norm_
     · show Act.put _ (some 7) _ = _; simp only [Act.put, sA_, sZ_, sS_, i64_w, i32_w]; rfl
     refine one_ (i := 1) (N := some 13) #[true,true,true,true,false,false,false,false,false,true,false,false] rfl rfl (one_of HT_.out (by kernel_rfl)) (by decide) (fun K hK => ?_); refine gs_ Try.func15 #[.agg #[.int .i64 a0_0, .int .i64 a0_1, .int .i64 a0_2, .int .i64 a0_3, .int .i64 a0_4, .int .i64 a0_5]] ?_
     with_reducible refine (laws_toCurve.calls a0_0 a0_1 a0_2 a0_3 a0_4 a0_5 t226 t227 t228 t229 t230 t231 _ A4.out).mono ?_
     rintro e w17 ⟨rfl, hb⟩; refine ⟨_, rfl, ?_⟩; replace BK224 := bb_ BK224 hb; replace BK225 := bb_ BK225 hb; replace BK239 := bb_ BK239 hb; replace HB := bs_ HB hb; (try clear hb); refine hK.out _ _ ⟨bc_ BK224 0, bc_ BK224 1, bc_ BK224 2, bc_ BK224 3, bc_ BK224 4, bc_ BK224 5, bc_ BK225 0, bc_ BK225 1, bc_ BK225 2⟩ (fun hHeld => ?_); clear hK K
     apply norm_
     · show Act.put _ (some 13) _ = _; simp only [Act.put, sA_, sZ_, sS_, i64_w, i32_w]; rfl
     refine one_ (i := 4) (N := some 16) #[true,true,true,true,true,false,false,false,false,true,false,false] rfl rfl (one_of HT_.out (by kernel_rfl)) (by decide) (fun K hK => ?_); refine gs_ Try.func16 #[.agg #[.int .i64 a2_0, .int .i64 a2_1, .bool a2_2]] ?_
     with_reducible refine (laws_toPoint.calls a2_0 a2_1 a2_2 t232 t233 t234 _ A5.out).mono ?_
     rintro e w18 ⟨rfl, hb⟩; refine ⟨_, rfl, ?_⟩; replace BK224 := bb_ BK224 hb; replace BK225 := bb_ BK225 hb; replace BK239 := bb_ BK239 hb; replace HB := bs_ HB hb; (try clear hb); refine hK.out _ _ ⟨bc_ BK224 0, bc_ BK224 1, bc_ BK224 2, bc_ BK224 3, bc_ BK224 4, bc_ BK224 5, bc_ BK225 0, bc_ BK225 1, bc_ BK225 2⟩ (fun hHeld => ?_); clear hK K
     apply norm_
     · show Act.put _ (some 16) _ = _; simp only [Act.put, sA_, sZ_, sS_, i64_w, i32_w]; rfl
     refine one_ (i := 5) (N := some 17) #[true,true,true,true,true,true,false,false,false,true,false,false] rfl rfl (one_of HT_.out (by kernel_rfl)) (by decide) (fun K hK => ?_); refine gs_ Try.func19 #[.agg #[.int .i64 t226, .int .i64 t227, .int .i64 t228, .int .i64 t229, .int .i64 t230, .int .i64 t231], .int .i64 a1, .agg #[.int .i64 t232, .int .i64 t233, .bool t234]] ?_
     with_reducible refine (spec_PointMul.calls k t226 t227 t228 t229 t230 t231 a1 t232 t233 t234 t235 t236 t237 t238 _ A6.out).mono ?_
     rintro e w19 ⟨rfl, hb⟩; refine ⟨_, rfl, ?_⟩; replace BK224 := bb_ BK224 hb; replace BK225 := bb_ BK225 hb; replace BK239 := bb_ BK239 hb; replace HB := bs_ HB hb; (try clear hb); refine hK.out _ _ ⟨bc_ BK224 0, bc_ BK224 1, bc_ BK224 2, bc_ BK224 3, bc_ BK224 4, bc_ BK224 5, bc_ BK225 0, bc_ BK225 1, bc_ BK225 2⟩ (fun hHeld => ?_); clear hK K
     apply norm_
     · show Act.put _ (some 17) _ = _; simp only [Act.put, sA_, sZ_, sS_, i64_w, i32_w]; rfl
     refine pure_ (i := 6) (N := some 11) (v := ?_) (a' := ?_) #[true,true,true,true,true,true,true,false,false,true,false,false] rfl rfl (any_of HT_.out (by kernel_rfl)) (fun _ _ _ h => h) (Or.inl ⟨by rfl, ?_⟩) ?_ ?_; rotate_left
     ·
      intro w'; go_simp
      with_reducible rfl
     rotate_left
     · simp only [Act.put, sA_, sZ_, sS_, i64_w, i32_w]; rfl
     refine pure_ (i := 7) (N := some 18) (v := ?_) (a' := ?_) #[true,true,true,true,true,true,true,true,false,true,false,false] rfl rfl (any_of HT_.out (by kernel_rfl)) (fun _ _ _ h => h) (Or.inl ⟨by rfl, ?_⟩) ?_ ?_; rotate_left
     ·
      intro w'; go_simp
      with_reducible rfl
     rotate_left
     · simp only [Act.put, sA_, sZ_, sS_, i64_w, i32_w]; rfl
     refine pure_ (i := 8) (N := some 19) (v := ?_) (a' := ?_) #[true,true,true,true,true,true,true,true,true,true,false,false] rfl rfl (any_of HT_.out (by kernel_rfl)) (fun _ _ _ h => h) (Or.inl ⟨by rfl, ?_⟩) ?_ ?_; rotate_left
     ·
      intro w'; go_simp
      with_reducible rfl
     rotate_left
     · simp only [Act.put, sA_, sZ_, sS_, i64_w, i32_w]; rfl
     exact norm_ (by simp only [putAll, Act.put, sA_, sZ_, sS_]) (hCont (gb239) _ ⟨hHeld, (bk_ BK224), (bk_ BK225), (bk_ BK239), GW239.out, GE239.out, NB224_239.out, NB239_224.out, NB225_239.out, NB239_225.out, (bw_ HB)⟩)
   rintro gb239 w20 ⟨hS_, h0_, h1_, h2_, h3_, h4_, h5_, h6_, h7_, h8_, h9_⟩; replace BK224 := Aside0.mk h0_; replace BK225 := Aside0.mk h1_; have BK239 := Aside0.mk h2_; have GW239 := Aside0.mk h3_; have GE239 := Aside0.mk h4_; have NB224_239 := Aside0.mk h5_; have NB239_224 := Aside0.mk h6_; have NB225_239 := Aside0.mk h7_; have NB239_225 := Aside0.mk h8_; replace HB := Aside0.mk h9_; clear h0_ h1_ h2_ h3_ h4_ h5_ h6_ h7_ h8_ h9_; have hHeld := hS_
   apply norm_
   · simp only [putAll, Act.put, sA_, sZ_, sS_]; rfl
   refine one_ (i := 10) (N := none) #[true,true,true,true,true,true,true,true,true,true,true,false] rfl rfl (one_of HT_.out (by kernel_rfl)) (by decide) (fun K hK => ?_)
   have hs21 : w20.cell? ⟨gb239, 0, none⟩ = some (.int .i64 0) := bc_ BK239 0
   have hfs21 := blk_frozen BK239.out 0; have hns21_0 := NB224_239.out; have hns21_1 := NB225_239.out; have hms21_0 := NB239_224.out; have hms21_1 := NB239_225.out
   have hs22 : w20.cell? ⟨gb239, 1, none⟩ = some (.int .i64 0) := bc_ BK239 1
   have hfs22 := blk_frozen BK239.out 1; have hns22_0 := NB224_239.out; have hns22_1 := NB225_239.out; have hms22_0 := NB239_224.out; have hms22_1 := NB239_225.out
   have hs23 : w20.cell? ⟨gb239, 2, none⟩ = some (.bool false) := bc_ BK239 2
   have hfs23 := blk_frozen BK239.out 2; have hns23_0 := NB224_239.out; have hns23_1 := NB225_239.out; have hms23_0 := NB239_224.out; have hms23_1 := NB239_225.out; refine skip_ (w1 := ?_) (by rfl) rfl ?_ ?_; rotate_left
   · go_simp; rfl
   refine hK.out _ _ ⟨((cell_far (p := ⟨gb239, _, none⟩) NB224_239.out _).trans (((cell_far (p := ⟨gb239, _, none⟩) NB224_239.out _).trans (((cell_far (p := ⟨gb239, _, none⟩) NB224_239.out _).trans (hHeld.1)))))), ((cell_far (p := ⟨gb239, _, none⟩) NB224_239.out _).trans (((cell_far (p := ⟨gb239, _, none⟩) NB224_239.out _).trans (((cell_far (p := ⟨gb239, _, none⟩) NB224_239.out _).trans (hHeld.2.1)))))), ((cell_far (p := ⟨gb239, _, none⟩) NB224_239.out _).trans (((cell_far (p := ⟨gb239, _, none⟩) NB224_239.out _).trans (((cell_far (p := ⟨gb239, _, none⟩) NB224_239.out _).trans (hHeld.2.2.1)))))), ((cell_far (p := ⟨gb239, _, none⟩) NB224_239.out _).trans (((cell_far (p := ⟨gb239, _, none⟩) NB224_239.out _).trans (((cell_far (p := ⟨gb239, _, none⟩) NB224_239.out _).trans (hHeld.2.2.2.1)))))), ((cell_far (p := ⟨gb239, _, none⟩) NB224_239.out _).trans (((cell_far (p := ⟨gb239, _, none⟩) NB224_239.out _).trans (((cell_far (p := ⟨gb239, _, none⟩) NB224_239.out _).trans (hHeld.2.2.2.2.1)))))), ((cell_far (p := ⟨gb239, _, none⟩) NB224_239.out _).trans (((cell_far (p := ⟨gb239, _, none⟩) NB224_239.out _).trans (((cell_far (p := ⟨gb239, _, none⟩) NB224_239.out _).trans (hHeld.2.2.2.2.2.1)))))), ((cell_far (p := ⟨gb239, _, none⟩) NB225_239.out _).trans (((cell_far (p := ⟨gb239, _, none⟩) NB225_239.out _).trans (((cell_far (p := ⟨gb239, _, none⟩) NB225_239.out _).trans (hHeld.2.2.2.2.2.2.1)))))), ((cell_far (p := ⟨gb239, _, none⟩) NB225_239.out _).trans (((cell_far (p := ⟨gb239, _, none⟩) NB225_239.out _).trans (((cell_far (p := ⟨gb239, _, none⟩) NB225_239.out _).trans (hHeld.2.2.2.2.2.2.2.1)))))), ((cell_far (p := ⟨gb239, _, none⟩) NB225_239.out _).trans (((cell_far (p := ⟨gb239, _, none⟩) NB225_239.out _).trans (((cell_far (p := ⟨gb239, _, none⟩) NB225_239.out _).trans (hHeld.2.2.2.2.2.2.2.2))))))⟩ (fun hHeld => ?_); clear hK K; refine pure_ (i := 11) (N := some 8) (v := ?_) (a' := ?_) #[true,true,true,true,true,true,true,true,true,true,true,true] rfl rfl (any_of HT_.out (by kernel_rfl)) (fun _ _ _ h => h) (Or.inl ⟨by rfl, ?_⟩) ?_ ?_; rotate_left
   ·
    intro w'; go_simp
    with_reducible rfl
   rotate_left
   · simp only [Act.put, sA_, sZ_, sS_, i64_w, i32_w]; rfl
   refine done_ (done_of HT_.out (by kernel_rfl)) ?_
   try go_wp2
   have n0_ : Aside0 ((((w20.setCell ⟨gb239, 0, none⟩ (.int .i64 t235)).setCell ⟨gb239, 1, none⟩ (.int .i64 t236)).setCell ⟨gb239, 2, none⟩ (.bool t237)).heap[gb224]? = some (.cells #[.int .i64 a0_0, .int .i64 a0_1, .int .i64 a0_2, .int .i64 a0_3, .int .i64 a0_4, .int .i64 a0_5] 23 (0, 0))) := ⟨by (with_reducible repeat (first | refine blk_drewN ?_ _ | refine blk_drew ?_ | refine blk_alloc ?_ _)); refine blk_far ?_ NB224_239.out _; (with_reducible repeat (first | refine blk_drewN ?_ _ | refine blk_drew ?_ | refine blk_alloc ?_ _)); refine blk_far ?_ NB224_239.out _; (with_reducible repeat (first | refine blk_drewN ?_ _ | refine blk_drew ?_ | refine blk_alloc ?_ _)); refine blk_far ?_ NB224_239.out _; (with_reducible repeat (first | refine blk_drewN ?_ _ | refine blk_drew ?_ | refine blk_alloc ?_ _)); exact BK224.out⟩
   have n1_ : Aside0 ((((w20.setCell ⟨gb239, 0, none⟩ (.int .i64 t235)).setCell ⟨gb239, 1, none⟩ (.int .i64 t236)).setCell ⟨gb239, 2, none⟩ (.bool t237)).heap[gb225]? = some (.cells #[.int .i64 a2_0, .int .i64 a2_1, .bool a2_2] 25 (0, 0))) := ⟨by (with_reducible repeat (first | refine blk_drewN ?_ _ | refine blk_drew ?_ | refine blk_alloc ?_ _)); refine blk_far ?_ NB225_239.out _; (with_reducible repeat (first | refine blk_drewN ?_ _ | refine blk_drew ?_ | refine blk_alloc ?_ _)); refine blk_far ?_ NB225_239.out _; (with_reducible repeat (first | refine blk_drewN ?_ _ | refine blk_drew ?_ | refine blk_alloc ?_ _)); refine blk_far ?_ NB225_239.out _; (with_reducible repeat (first | refine blk_drewN ?_ _ | refine blk_drew ?_ | refine blk_alloc ?_ _)); exact BK225.out⟩
   have n2_ : Aside0 ((((w20.setCell ⟨gb239, 0, none⟩ (.int .i64 t235)).setCell ⟨gb239, 1, none⟩ (.int .i64 t236)).setCell ⟨gb239, 2, none⟩ (.bool t237)).heap[gb239]? = some (.cells #[.int .i64 t235, .int .i64 t236, .bool t237] 26 (0, 0))) := ⟨by (with_reducible repeat (first | refine blk_drewN ?_ _ | refine blk_drew ?_ | refine blk_alloc ?_ _)); refine blk_put (cs := #[.int .i64 t235, .int .i64 t236, .bool false]) ?_ 2 _ rfl; (with_reducible repeat (first | refine blk_drewN ?_ _ | refine blk_drew ?_ | refine blk_alloc ?_ _)); refine blk_put (cs := #[.int .i64 t235, .int .i64 0, .bool false]) ?_ 1 _ rfl; (with_reducible repeat (first | refine blk_drewN ?_ _ | refine blk_drew ?_ | refine blk_alloc ?_ _)); refine blk_put (cs := #[.int .i64 0, .int .i64 0, .bool false]) ?_ 0 _ rfl; (with_reducible repeat (first | refine blk_drewN ?_ _ | refine blk_drew ?_ | refine blk_alloc ?_ _)); exact BK239.out⟩
   have n3_ : Aside0 (Below w.heap.size w (((w20.setCell ⟨gb239, 0, none⟩ (.int .i64 t235)).setCell ⟨gb239, 1, none⟩ (.int .i64 t236)).setCell ⟨gb239, 2, none⟩ (.bool t237))) := ⟨by repeat (first | (with_reducible first | exact HB.out | apply below_alloc | apply pw_below_drewN | apply below_drew1 | refine below_set ?_ GE224.out | refine below_set ?_ GE225.out | refine below_set ?_ GE239.out) | exact HB.out)⟩
   (try clear BK224); (try clear BK225); (try clear BK239); (try clear HB)
   generalize (((w20.setCell ⟨gb239, 0, none⟩ (.int .i64 t235)).setCell ⟨gb239, 1, none⟩ (.int .i64 t236)).setCell ⟨gb239, 2, none⟩ (.bool t237)) = w24 at n0_ n1_ n2_ n3_ ⊢
   have BK224 := n0_; have BK225 := n1_; have BK239 := n2_; have HB := n3_; clear n0_ n1_ n2_ n3_; replace BK224 := Aside0.mk (blk_drew BK224.out); replace BK225 := Aside0.mk (blk_drew BK225.out); replace BK239 := Aside0.mk (blk_drew BK239.out); replace HB := Aside0.mk (below_drew1 HB.out); refine start_ (n := 12) (S := fun w' => w'.cell? ⟨gb224, 0, none⟩ = some (.int .i64 a0_0) ∧ w'.cell? ⟨gb224, 1, none⟩ = some (.int .i64 a0_1) ∧ w'.cell? ⟨gb224, 2, none⟩ = some (.int .i64 a0_2) ∧ w'.cell? ⟨gb224, 3, none⟩ = some (.int .i64 a0_3) ∧ w'.cell? ⟨gb224, 4, none⟩ = some (.int .i64 a0_4) ∧ w'.cell? ⟨gb224, 5, none⟩ = some (.int .i64 a0_5) ∧ w'.cell? ⟨gb225, 0, none⟩ = some (.int .i64 a2_0) ∧ w'.cell? ⟨gb225, 1, none⟩ = some (.int .i64 a2_1) ∧ w'.cell? ⟨gb225, 2, none⟩ = some (.bool a2_2)) (ds := []) #[false,false,false,false,false,false,false,false,false,false,false,false] (by kernel_rfl) rfl rfl ⟨bc_ BK224 0, bc_ BK224 1, bc_ BK224 2, bc_ BK224 3, bc_ BK224 4, bc_ BK224 5, bc_ BK225 0, bc_ BK225 1, bc_ BK225 2⟩ (fun hHeld => ?_); refine with_tabW laws_FnExactPointMul.tab2 laws_FnExactPointMul.bits2 (fun HT_ HW_ => ?_)
   generalize w24.drew = w25 at BK224 BK225 BK239 HB hHeld ⊢
   refine pure_ (i := 2) (N := some 23) (v := ?_) (a' := ?_) #[false,false,true,false,false,false,false,false,false,false,false,false] rfl rfl (any_of HT_.out (by kernel_rfl)) (fun _ _ _ h => h) (Or.inl ⟨by rfl, ?_⟩) ?_ ?_; rotate_left
   ·
    intro w'; go_simp
    with_reducible rfl
   rotate_left
   · simp only [Act.put, sA_, sZ_, sS_, i64_w, i32_w]; rfl
   refine take_ (i := 0) (N := some 21) (v := ?_) (a' := ?_) #[true,false,true,false,false,false,false,false,false,false,false,false] rfl rfl (take_ofW HT_.out HW_.out (by kernel_rfl)) (fun _ _ _ h => h) (Or.inl ⟨by rfl, ?_⟩) hHeld ?_ ?_; rotate_left
   ·
    rintro w' ⟨s0, s1, s2, s3, s4, s5, s6, s7, s8⟩; go_simp
    with_reducible rfl
   rotate_left
   · simp only [Act.put, sA_, sZ_, sS_, i64_w, i32_w]; rfl
   refine take_ (i := 3) (N := some 24) (v := ?_) (a' := ?_) #[true,false,true,true,false,false,false,false,false,false,false,false] rfl rfl (take_ofW HT_.out HW_.out (by kernel_rfl)) (fun _ _ _ h => h) (Or.inl ⟨by rfl, ?_⟩) hHeld ?_ ?_; rotate_left
   ·
    rintro w' ⟨s0, s1, s2, s3, s4, s5, s6, s7, s8⟩; go_simp
    with_reducible rfl
   rotate_left
   · simp only [Act.put, sA_, sZ_, sS_, i64_w, i32_w]; rfl
   refine join_ (σ := Nat) 2 #[true,true,true,true,true,true,true,true,true,true,false,false] (fun s_ => [(22, .agg #[.int .i64 t240, .int .i64 t241, .int .i64 t242, .int .i64 t243, .int .i64 t244, .int .i64 t245]), (25, .agg #[.int .i64 t246, .int .i64 t247, .bool t248]), (26, .tuple #[.agg #[.int .i64 t249, .int .i64 t250, .bool t251], .bool t252]), (9, .pointer (some ⟨s_, 0, none⟩)), (20, .tuple #[.agg #[.int .i64 t249, .int .i64 t250, .bool t251], .bool t252]), (27, .agg #[.int .i64 t249, .int .i64 t250, .bool t251]), (28, .bool t252)]) (fun s_ w' => (w'.cell? ⟨gb224, 0, none⟩ = some (.int .i64 a0_0) ∧ w'.cell? ⟨gb224, 1, none⟩ = some (.int .i64 a0_1) ∧ w'.cell? ⟨gb224, 2, none⟩ = some (.int .i64 a0_2) ∧ w'.cell? ⟨gb224, 3, none⟩ = some (.int .i64 a0_3) ∧ w'.cell? ⟨gb224, 4, none⟩ = some (.int .i64 a0_4) ∧ w'.cell? ⟨gb224, 5, none⟩ = some (.int .i64 a0_5) ∧ w'.cell? ⟨gb225, 0, none⟩ = some (.int .i64 a2_0) ∧ w'.cell? ⟨gb225, 1, none⟩ = some (.int .i64 a2_1) ∧ w'.cell? ⟨gb225, 2, none⟩ = some (.bool a2_2)) ∧ (w'.heap[gb224]? = some (.cells #[.int .i64 a0_0, .int .i64 a0_1, .int .i64 a0_2, .int .i64 a0_3, .int .i64 a0_4, .int .i64 a0_5] 23 (0, 0))) ∧ (w'.heap[gb225]? = some (.cells #[.int .i64 a2_0, .int .i64 a2_1, .bool a2_2] 25 (0, 0))) ∧ (w'.heap[gb239]? = some (.cells #[.int .i64 t235, .int .i64 t236, .bool t237] 26 (0, 0))) ∧ (w'.heap[s_]? = some (.cells #[.int .i64 0, .int .i64 0, .bool false] 26 (0, 0))) ∧ (w.heap.size ≤ s_) ∧ (w.heap.size ≤ s_) ∧ (gb224 ≠ s_) ∧ (s_ ≠ gb224) ∧ (gb225 ≠ s_) ∧ (s_ ≠ gb225) ∧ (gb239 ≠ s_) ∧ (s_ ≠ gb239) ∧ (Below w.heap.size w w')) ?_ ?_; rotate_left
   ·
    intro hCont; refine two_ (i := 1) (j := 9) (Ni := some 22) (Nj := some 9) #[true,true,true,true,false,false,false,false,false,false,false,false] #[true,false,true,true,false,false,false,false,false,true,false,false] rfl rfl rfl rfl (two_of HT_.out (by kernel_rfl)) (by decide) (by decide) (fun K hK => ?_) (fun K hK => ?_)
    ·
     refine gs_ Try.func15 #[.agg #[.int .i64 a0_0, .int .i64 a0_1, .int .i64 a0_2, .int .i64 a0_3, .int .i64 a0_4, .int .i64 a0_5]] ?_
     with_reducible refine (laws_toCurve.calls a0_0 a0_1 a0_2 a0_3 a0_4 a0_5 t240 t241 t242 t243 t244 t245 _ A7.out).mono ?_
     rintro e w26 ⟨rfl, hb⟩; refine ⟨_, rfl, ?_⟩; replace BK224 := bb_ BK224 hb; replace BK225 := bb_ BK225 hb; replace BK239 := bb_ BK239 hb; replace HB := bs_ HB hb; (try clear hb); refine hK.out _ _ ⟨bc_ BK224 0, bc_ BK224 1, bc_ BK224 2, bc_ BK224 3, bc_ BK224 4, bc_ BK224 5, bc_ BK225 0, bc_ BK225 1, bc_ BK225 2⟩ (fun hHeld => ?_); clear hK K
     apply norm_
     · show Act.put _ (some 22) _ = _; simp only [Act.put, sA_, sZ_, sS_, i64_w, i32_w]; rfl
     refine two_ (i := 4) (j := 9) (Ni := some 25) (Nj := some 9) #[true,true,true,true,true,false,false,false,false,false,false,false] #[true,true,true,true,false,false,false,false,false,true,false,false] rfl rfl rfl rfl (two_of HT_.out (by kernel_rfl)) (by decide) (by decide) (fun K hK => ?_) (fun K hK => ?_)
     ·
      refine gs_ Try.func16 #[.agg #[.int .i64 a2_0, .int .i64 a2_1, .bool a2_2]] ?_
      with_reducible refine (laws_toPoint.calls a2_0 a2_1 a2_2 t246 t247 t248 _ A8.out).mono ?_
      rintro e w27 ⟨rfl, hb⟩; refine ⟨_, rfl, ?_⟩; replace BK224 := bb_ BK224 hb; replace BK225 := bb_ BK225 hb; replace BK239 := bb_ BK239 hb; replace HB := bs_ HB hb; (try clear hb); refine hK.out _ _ ⟨bc_ BK224 0, bc_ BK224 1, bc_ BK224 2, bc_ BK224 3, bc_ BK224 4, bc_ BK224 5, bc_ BK225 0, bc_ BK225 1, bc_ BK225 2⟩ (fun hHeld => ?_); clear hK K
      apply norm_
      · show Act.put _ (some 25) _ = _; simp only [Act.put, sA_, sZ_, sS_, i64_w, i32_w]; rfl
      refine two_ (i := 5) (j := 9) (Ni := some 26) (Nj := some 9) #[true,true,true,true,true,true,false,false,false,false,false,false] #[true,true,true,true,true,false,false,false,false,true,false,false] rfl rfl rfl rfl (two_of HT_.out (by kernel_rfl)) (by decide) (by decide) (fun K hK => ?_) (fun K hK => ?_)
      ·
       refine gs_ Try.func20 #[.agg #[.int .i64 t240, .int .i64 t241, .int .i64 t242, .int .i64 t243, .int .i64 t244, .int .i64 t245], .int .i64 a1, .agg #[.int .i64 t246, .int .i64 t247, .bool t248]] ?_
       with_reducible refine (impl_PointMul.calls k t240 t241 t242 t243 t244 t245 a1 t246 t247 t248 t249 t250 t251 t252 _ A9.out).mono ?_
       rintro e w28 ⟨rfl, hb⟩; refine ⟨_, rfl, ?_⟩; replace BK224 := bb_ BK224 hb; replace BK225 := bb_ BK225 hb; replace BK239 := bb_ BK239 hb; replace HB := bs_ HB hb; (try clear hb); refine hK.out _ _ ⟨bc_ BK224 0, bc_ BK224 1, bc_ BK224 2, bc_ BK224 3, bc_ BK224 4, bc_ BK224 5, bc_ BK225 0, bc_ BK225 1, bc_ BK225 2⟩ (fun hHeld => ?_); clear hK K
       apply norm_
       · show Act.put _ (some 26) _ = _; simp only [Act.put, sA_, sZ_, sS_, i64_w, i32_w]; rfl
       refine pure_ (i := 6) (N := some 20) (v := ?_) (a' := ?_) #[true,true,true,true,true,true,true,false,false,false,false,false] rfl rfl (any_of HT_.out (by kernel_rfl)) (fun _ _ _ h => h) (Or.inl ⟨by rfl, ?_⟩) ?_ ?_; rotate_left
       ·
        intro w'; go_simp
        with_reducible rfl
       rotate_left
       · simp only [Act.put, sA_, sZ_, sS_, i64_w, i32_w]; rfl
       refine pure_ (i := 7) (N := some 27) (v := ?_) (a' := ?_) #[true,true,true,true,true,true,true,true,false,false,false,false] rfl rfl (any_of HT_.out (by kernel_rfl)) (fun _ _ _ h => h) (Or.inl ⟨by rfl, ?_⟩) ?_ ?_; rotate_left
       ·
        intro w'; go_simp
        with_reducible rfl
       rotate_left
       · simp only [Act.put, sA_, sZ_, sS_, i64_w, i32_w]; rfl
       refine pure_ (i := 8) (N := some 28) (v := ?_) (a' := ?_) #[true,true,true,true,true,true,true,true,true,false,false,false] rfl rfl (any_of HT_.out (by kernel_rfl)) (fun _ _ _ h => h) (Or.inl ⟨by rfl, ?_⟩) ?_ ?_; rotate_left
       ·
        intro w'; go_simp
        with_reducible rfl
       rotate_left
       · simp only [Act.put, sA_, sZ_, sS_, i64_w, i32_w]; rfl
       refine one_ (i := 9) (N := some 9) #[true,true,true,true,true,true,true,true,true,true,false,false] rfl rfl (one_of HT_.out (by kernel_rfl)) (by decide) (fun K hK => ?_); refine box_step ?hg (N := 9) ?hd (cs := #[.int .i64 0, .int .i64 0, .bool false]) (t := 26) ?hr ?_; (case hd => rfl); (case hg => rfl); (case hr => first | (go_simp; done) | (go_simp; rfl))
       intro gb253 hg w29 hbox hb; have n0_ := bb_ BK224 hb; have n1_ := bb_ BK225 hb; have n2_ := bb_ BK239 hb; have n3_ := bs_ HB hb; have n4_ := Aside0.mk hbox; have n5_ := ge_ HB hg; have n6_ := ge_ HB hg; have n7_ := nl_ BK224 hg; have n8_ := nr_ BK224 hg; have n9_ := nl_ BK225 hg; have n10_ := nr_ BK225 hg; have n11_ := nl_ BK239 hg; have n12_ := nr_ BK239 hg; clear BK224 BK225 BK239 HB; have BK224 := n0_; have BK225 := n1_; have BK239 := n2_; have HB := n3_; have BK253 := n4_; have GW253 := n5_; have GE253 := n6_; have NB224_253 := n7_; have NB253_224 := n8_; have NB225_253 := n9_; have NB253_225 := n10_; have NB239_253 := n11_; have NB253_239 := n12_; clear n0_ n1_ n2_ n3_ n4_ n5_ n6_ n7_ n8_ n9_ n10_ n11_ n12_; clear hb hbox hg; refine hK.out _ _ ⟨bc_ BK224 0, bc_ BK224 1, bc_ BK224 2, bc_ BK224 3, bc_ BK224 4, bc_ BK224 5, bc_ BK225 0, bc_ BK225 1, bc_ BK225 2⟩ (fun hHeld => ?_); clear hK K
       apply norm_
       · show Act.put _ (some 9) _ = _; simp only [Act.put, sA_, sZ_, sS_, i64_w, i32_w]; rfl
       exact norm_ (by simp only [putAll, Act.put, sA_, sZ_, sS_]) (hCont (gb253) _ ⟨hHeld, (bk_ BK224), (bk_ BK225), (bk_ BK239), (bk_ BK253), GW253.out, GE253.out, NB224_253.out, NB253_224.out, NB225_253.out, NB253_225.out, NB239_253.out, NB253_239.out, (bw_ HB)⟩)
      ·
       refine box_step ?hg (N := 9) ?hd (cs := #[.int .i64 0, .int .i64 0, .bool false]) (t := 26) ?hr ?_; (case hd => rfl); (case hg => rfl); (case hr => first | (go_simp; done) | (go_simp; rfl))
       intro gb253 hg w28 hbox hb; have n0_ := bb_ BK224 hb; have n1_ := bb_ BK225 hb; have n2_ := bb_ BK239 hb; have n3_ := bs_ HB hb; have n4_ := Aside0.mk hbox; have n5_ := ge_ HB hg; have n6_ := ge_ HB hg; have n7_ := nl_ BK224 hg; have n8_ := nr_ BK224 hg; have n9_ := nl_ BK225 hg; have n10_ := nr_ BK225 hg; have n11_ := nl_ BK239 hg; have n12_ := nr_ BK239 hg; clear BK224 BK225 BK239 HB; have BK224 := n0_; have BK225 := n1_; have BK239 := n2_; have HB := n3_; have BK253 := n4_; have GW253 := n5_; have GE253 := n6_; have NB224_253 := n7_; have NB253_224 := n8_; have NB225_253 := n9_; have NB253_225 := n10_; have NB239_253 := n11_; have NB253_239 := n12_; clear n0_ n1_ n2_ n3_ n4_ n5_ n6_ n7_ n8_ n9_ n10_ n11_ n12_; clear hb hbox hg; refine hK.out _ _ ⟨bc_ BK224 0, bc_ BK224 1, bc_ BK224 2, bc_ BK224 3, bc_ BK224 4, bc_ BK224 5, bc_ BK225 0, bc_ BK225 1, bc_ BK225 2⟩ (fun hHeld => ?_); clear hK K
       apply norm_
       · show Act.put _ (some 9) _ = _; simp only [Act.put, sA_, sZ_, sS_, i64_w, i32_w]; rfl
       refine one_ (i := 5) (N := some 26) #[true,true,true,true,true,true,false,false,false,true,false,false] rfl rfl (one_of HT_.out (by kernel_rfl)) (by decide) (fun K hK => ?_); refine gs_ Try.func20 #[.agg #[.int .i64 t240, .int .i64 t241, .int .i64 t242, .int .i64 t243, .int .i64 t244, .int .i64 t245], .int .i64 a1, .agg #[.int .i64 t246, .int .i64 t247, .bool t248]] ?_
       with_reducible refine (impl_PointMul.calls k t240 t241 t242 t243 t244 t245 a1 t246 t247 t248 t249 t250 t251 t252 _ A9.out).mono ?_
       rintro e w29 ⟨rfl, hb⟩; refine ⟨_, rfl, ?_⟩; replace BK224 := bb_ BK224 hb; replace BK225 := bb_ BK225 hb; replace BK239 := bb_ BK239 hb; replace BK253 := bb_ BK253 hb; replace HB := bs_ HB hb; (try clear hb); refine hK.out _ _ ⟨bc_ BK224 0, bc_ BK224 1, bc_ BK224 2, bc_ BK224 3, bc_ BK224 4, bc_ BK224 5, bc_ BK225 0, bc_ BK225 1, bc_ BK225 2⟩ (fun hHeld => ?_); clear hK K
       apply norm_
       · show Act.put _ (some 26) _ = _; simp only [Act.put, sA_, sZ_, sS_, i64_w, i32_w]; rfl
       refine pure_ (i := 6) (N := some 20) (v := ?_) (a' := ?_) #[true,true,true,true,true,true,true,false,false,true,false,false] rfl rfl (any_of HT_.out (by kernel_rfl)) (fun _ _ _ h => h) (Or.inl ⟨by rfl, ?_⟩) ?_ ?_; rotate_left
       ·
        intro w'; go_simp
        with_reducible rfl
       rotate_left
       · simp only [Act.put, sA_, sZ_, sS_, i64_w, i32_w]; rfl
       refine pure_ (i := 7) (N := some 27) (v := ?_) (a' := ?_) #[true,true,true,true,true,true,true,true,false,true,false,false] rfl rfl (any_of HT_.out (by kernel_rfl)) (fun _ _ _ h => h) (Or.inl ⟨by rfl, ?_⟩) ?_ ?_; rotate_left
       ·
        intro w'; go_simp
        with_reducible rfl
       rotate_left
       · simp only [Act.put, sA_, sZ_, sS_, i64_w, i32_w]; rfl
       refine pure_ (i := 8) (N := some 28) (v := ?_) (a' := ?_) #[true,true,true,true,true,true,true,true,true,true,false,false] rfl rfl (any_of HT_.out (by kernel_rfl)) (fun _ _ _ h => h) (Or.inl ⟨by rfl, ?_⟩) ?_ ?_; rotate_left
       ·
        intro w'; go_simp
        with_reducible rfl
       rotate_left
       · simp only [Act.put, sA_, sZ_, sS_, i64_w, i32_w]; rfl
       exact norm_ (by simp only [putAll, Act.put, sA_, sZ_, sS_]) (hCont (gb253) _ ⟨hHeld, (bk_ BK224), (bk_ BK225), (bk_ BK239), (bk_ BK253), GW253.out, GE253.out, NB224_253.out, NB253_224.out, NB225_253.out, NB253_225.out, NB239_253.out, NB253_239.out, (bw_ HB)⟩)
     ·
      refine box_step ?hg (N := 9) ?hd (cs := #[.int .i64 0, .int .i64 0, .bool false]) (t := 26) ?hr ?_; (case hd => rfl); (case hg => rfl); (case hr => first | (go_simp; done) | (go_simp; rfl))
      intro gb253 hg w27 hbox hb; have n0_ := bb_ BK224 hb; have n1_ := bb_ BK225 hb; have n2_ := bb_ BK239 hb; have n3_ := bs_ HB hb; have n4_ := Aside0.mk hbox; have n5_ := ge_ HB hg; have n6_ := ge_ HB hg; have n7_ := nl_ BK224 hg; have n8_ := nr_ BK224 hg; have n9_ := nl_ BK225 hg; have n10_ := nr_ BK225 hg; have n11_ := nl_ BK239 hg; have n12_ := nr_ BK239 hg; clear BK224 BK225 BK239 HB; have BK224 := n0_; have BK225 := n1_; have BK239 := n2_; have HB := n3_; have BK253 := n4_; have GW253 := n5_; have GE253 := n6_; have NB224_253 := n7_; have NB253_224 := n8_; have NB225_253 := n9_; have NB253_225 := n10_; have NB239_253 := n11_; have NB253_239 := n12_; clear n0_ n1_ n2_ n3_ n4_ n5_ n6_ n7_ n8_ n9_ n10_ n11_ n12_; clear hb hbox hg; refine hK.out _ _ ⟨bc_ BK224 0, bc_ BK224 1, bc_ BK224 2, bc_ BK224 3, bc_ BK224 4, bc_ BK224 5, bc_ BK225 0, bc_ BK225 1, bc_ BK225 2⟩ (fun hHeld => ?_); clear hK K
      apply norm_
      · show Act.put _ (some 9) _ = _; simp only [Act.put, sA_, sZ_, sS_, i64_w, i32_w]; rfl
      refine one_ (i := 4) (N := some 25) #[true,true,true,true,true,false,false,false,false,true,false,false] rfl rfl (one_of HT_.out (by kernel_rfl)) (by decide) (fun K hK => ?_); refine gs_ Try.func16 #[.agg #[.int .i64 a2_0, .int .i64 a2_1, .bool a2_2]] ?_
      with_reducible refine (laws_toPoint.calls a2_0 a2_1 a2_2 t246 t247 t248 _ A8.out).mono ?_
      rintro e w28 ⟨rfl, hb⟩; refine ⟨_, rfl, ?_⟩; replace BK224 := bb_ BK224 hb; replace BK225 := bb_ BK225 hb; replace BK239 := bb_ BK239 hb; replace BK253 := bb_ BK253 hb; replace HB := bs_ HB hb; (try clear hb); refine hK.out _ _ ⟨bc_ BK224 0, bc_ BK224 1, bc_ BK224 2, bc_ BK224 3, bc_ BK224 4, bc_ BK224 5, bc_ BK225 0, bc_ BK225 1, bc_ BK225 2⟩ (fun hHeld => ?_); clear hK K
      apply norm_
      · show Act.put _ (some 25) _ = _; simp only [Act.put, sA_, sZ_, sS_, i64_w, i32_w]; rfl
      refine one_ (i := 5) (N := some 26) #[true,true,true,true,true,true,false,false,false,true,false,false] rfl rfl (one_of HT_.out (by kernel_rfl)) (by decide) (fun K hK => ?_); refine gs_ Try.func20 #[.agg #[.int .i64 t240, .int .i64 t241, .int .i64 t242, .int .i64 t243, .int .i64 t244, .int .i64 t245], .int .i64 a1, .agg #[.int .i64 t246, .int .i64 t247, .bool t248]] ?_
      with_reducible refine (impl_PointMul.calls k t240 t241 t242 t243 t244 t245 a1 t246 t247 t248 t249 t250 t251 t252 _ A9.out).mono ?_
      rintro e w29 ⟨rfl, hb⟩; refine ⟨_, rfl, ?_⟩; replace BK224 := bb_ BK224 hb; replace BK225 := bb_ BK225 hb; replace BK239 := bb_ BK239 hb; replace BK253 := bb_ BK253 hb; replace HB := bs_ HB hb; (try clear hb); refine hK.out _ _ ⟨bc_ BK224 0, bc_ BK224 1, bc_ BK224 2, bc_ BK224 3, bc_ BK224 4, bc_ BK224 5, bc_ BK225 0, bc_ BK225 1, bc_ BK225 2⟩ (fun hHeld => ?_); clear hK K
      apply norm_
      · show Act.put _ (some 26) _ = _; simp only [Act.put, sA_, sZ_, sS_, i64_w, i32_w]; rfl
      refine pure_ (i := 6) (N := some 20) (v := ?_) (a' := ?_) #[true,true,true,true,true,true,true,false,false,true,false,false] rfl rfl (any_of HT_.out (by kernel_rfl)) (fun _ _ _ h => h) (Or.inl ⟨by rfl, ?_⟩) ?_ ?_; rotate_left
      ·
       intro w'; go_simp
       with_reducible rfl
      rotate_left
      · simp only [Act.put, sA_, sZ_, sS_, i64_w, i32_w]; rfl
      refine pure_ (i := 7) (N := some 27) (v := ?_) (a' := ?_) #[true,true,true,true,true,true,true,true,false,true,false,false] rfl rfl (any_of HT_.out (by kernel_rfl)) (fun _ _ _ h => h) (Or.inl ⟨by rfl, ?_⟩) ?_ ?_; rotate_left
      ·
       intro w'; go_simp
       with_reducible rfl
      rotate_left
      · simp only [Act.put, sA_, sZ_, sS_, i64_w, i32_w]; rfl
      refine pure_ (i := 8) (N := some 28) (v := ?_) (a' := ?_) #[true,true,true,true,true,true,true,true,true,true,false,false] rfl rfl (any_of HT_.out (by kernel_rfl)) (fun _ _ _ h => h) (Or.inl ⟨by rfl, ?_⟩) ?_ ?_; rotate_left
      ·
       intro w'; go_simp
       with_reducible rfl
      rotate_left
      · simp only [Act.put, sA_, sZ_, sS_, i64_w, i32_w]; rfl
      exact norm_ (by simp only [putAll, Act.put, sA_, sZ_, sS_]) (hCont (gb253) _ ⟨hHeld, (bk_ BK224), (bk_ BK225), (bk_ BK239), (bk_ BK253), GW253.out, GE253.out, NB224_253.out, NB253_224.out, NB225_253.out, NB253_225.out, NB239_253.out, NB253_239.out, (bw_ HB)⟩)
    ·
     refine box_step ?hg (N := 9) ?hd (cs := #[.int .i64 0, .int .i64 0, .bool false]) (t := 26) ?hr ?_; (case hd => rfl); (case hg => rfl); (case hr => first | (go_simp; done) | (go_simp; rfl))
     intro gb253 hg w26 hbox hb; have n0_ := bb_ BK224 hb; have n1_ := bb_ BK225 hb; have n2_ := bb_ BK239 hb; have n3_ := bs_ HB hb; have n4_ := Aside0.mk hbox; have n5_ := ge_ HB hg; have n6_ := ge_ HB hg; have n7_ := nl_ BK224 hg; have n8_ := nr_ BK224 hg; have n9_ := nl_ BK225 hg; have n10_ := nr_ BK225 hg; have n11_ := nl_ BK239 hg; have n12_ := nr_ BK239 hg; clear BK224 BK225 BK239 HB; have BK224 := n0_; have BK225 := n1_; have BK239 := n2_; have HB := n3_; have BK253 := n4_; have GW253 := n5_; have GE253 := n6_; have NB224_253 := n7_; have NB253_224 := n8_; have NB225_253 := n9_; have NB253_225 := n10_; have NB239_253 := n11_; have NB253_239 := n12_; clear n0_ n1_ n2_ n3_ n4_ n5_ n6_ n7_ n8_ n9_ n10_ n11_ n12_; clear hb hbox hg; refine hK.out _ _ ⟨bc_ BK224 0, bc_ BK224 1, bc_ BK224 2, bc_ BK224 3, bc_ BK224 4, bc_ BK224 5, bc_ BK225 0, bc_ BK225 1, bc_ BK225 2⟩ (fun hHeld => ?_); clear hK K
     apply norm_
     · show Act.put _ (some 9) _ = _; simp only [Act.put, sA_, sZ_, sS_, i64_w, i32_w]; rfl
     refine one_ (i := 1) (N := some 22) #[true,true,true,true,false,false,false,false,false,true,false,false] rfl rfl (one_of HT_.out (by kernel_rfl)) (by decide) (fun K hK => ?_); refine gs_ Try.func15 #[.agg #[.int .i64 a0_0, .int .i64 a0_1, .int .i64 a0_2, .int .i64 a0_3, .int .i64 a0_4, .int .i64 a0_5]] ?_
     with_reducible refine (laws_toCurve.calls a0_0 a0_1 a0_2 a0_3 a0_4 a0_5 t240 t241 t242 t243 t244 t245 _ A7.out).mono ?_
     rintro e w27 ⟨rfl, hb⟩; refine ⟨_, rfl, ?_⟩; replace BK224 := bb_ BK224 hb; replace BK225 := bb_ BK225 hb; replace BK239 := bb_ BK239 hb; replace BK253 := bb_ BK253 hb; replace HB := bs_ HB hb; (try clear hb); refine hK.out _ _ ⟨bc_ BK224 0, bc_ BK224 1, bc_ BK224 2, bc_ BK224 3, bc_ BK224 4, bc_ BK224 5, bc_ BK225 0, bc_ BK225 1, bc_ BK225 2⟩ (fun hHeld => ?_); clear hK K
     apply norm_
     · show Act.put _ (some 22) _ = _; simp only [Act.put, sA_, sZ_, sS_, i64_w, i32_w]; rfl
     refine one_ (i := 4) (N := some 25) #[true,true,true,true,true,false,false,false,false,true,false,false] rfl rfl (one_of HT_.out (by kernel_rfl)) (by decide) (fun K hK => ?_); refine gs_ Try.func16 #[.agg #[.int .i64 a2_0, .int .i64 a2_1, .bool a2_2]] ?_
     with_reducible refine (laws_toPoint.calls a2_0 a2_1 a2_2 t246 t247 t248 _ A8.out).mono ?_
     rintro e w28 ⟨rfl, hb⟩; refine ⟨_, rfl, ?_⟩; replace BK224 := bb_ BK224 hb; replace BK225 := bb_ BK225 hb; replace BK239 := bb_ BK239 hb; replace BK253 := bb_ BK253 hb; replace HB := bs_ HB hb; (try clear hb); refine hK.out _ _ ⟨bc_ BK224 0, bc_ BK224 1, bc_ BK224 2, bc_ BK224 3, bc_ BK224 4, bc_ BK224 5, bc_ BK225 0, bc_ BK225 1, bc_ BK225 2⟩ (fun hHeld => ?_); clear hK K
     apply norm_
     · show Act.put _ (some 25) _ = _; simp only [Act.put, sA_, sZ_, sS_, i64_w, i32_w]; rfl
     refine one_ (i := 5) (N := some 26) #[true,true,true,true,true,true,false,false,false,true,false,false] rfl rfl (one_of HT_.out (by kernel_rfl)) (by decide) (fun K hK => ?_); refine gs_ Try.func20 #[.agg #[.int .i64 t240, .int .i64 t241, .int .i64 t242, .int .i64 t243, .int .i64 t244, .int .i64 t245], .int .i64 a1, .agg #[.int .i64 t246, .int .i64 t247, .bool t248]] ?_
     with_reducible refine (impl_PointMul.calls k t240 t241 t242 t243 t244 t245 a1 t246 t247 t248 t249 t250 t251 t252 _ A9.out).mono ?_
     rintro e w29 ⟨rfl, hb⟩; refine ⟨_, rfl, ?_⟩; replace BK224 := bb_ BK224 hb; replace BK225 := bb_ BK225 hb; replace BK239 := bb_ BK239 hb; replace BK253 := bb_ BK253 hb; replace HB := bs_ HB hb; (try clear hb); refine hK.out _ _ ⟨bc_ BK224 0, bc_ BK224 1, bc_ BK224 2, bc_ BK224 3, bc_ BK224 4, bc_ BK224 5, bc_ BK225 0, bc_ BK225 1, bc_ BK225 2⟩ (fun hHeld => ?_); clear hK K
     apply norm_
     · show Act.put _ (some 26) _ = _; simp only [Act.put, sA_, sZ_, sS_, i64_w, i32_w]; rfl
     refine pure_ (i := 6) (N := some 20) (v := ?_) (a' := ?_) #[true,true,true,true,true,true,true,false,false,true,false,false] rfl rfl (any_of HT_.out (by kernel_rfl)) (fun _ _ _ h => h) (Or.inl ⟨by rfl, ?_⟩) ?_ ?_; rotate_left
     ·
      intro w'; go_simp
      with_reducible rfl
     rotate_left
     · simp only [Act.put, sA_, sZ_, sS_, i64_w, i32_w]; rfl
     refine pure_ (i := 7) (N := some 27) (v := ?_) (a' := ?_) #[true,true,true,true,true,true,true,true,false,true,false,false] rfl rfl (any_of HT_.out (by kernel_rfl)) (fun _ _ _ h => h) (Or.inl ⟨by rfl, ?_⟩) ?_ ?_; rotate_left
     ·
      intro w'; go_simp
      with_reducible rfl
     rotate_left
     · simp only [Act.put, sA_, sZ_, sS_, i64_w, i32_w]; rfl
     refine pure_ (i := 8) (N := some 28) (v := ?_) (a' := ?_) #[true,true,true,true,true,true,true,true,true,true,false,false] rfl rfl (any_of HT_.out (by kernel_rfl)) (fun _ _ _ h => h) (Or.inl ⟨by rfl, ?_⟩) ?_ ?_; rotate_left
     ·
      intro w'; go_simp
      with_reducible rfl
     rotate_left
     · simp only [Act.put, sA_, sZ_, sS_, i64_w, i32_w]; rfl
     exact norm_ (by simp only [putAll, Act.put, sA_, sZ_, sS_]) (hCont (gb253) _ ⟨hHeld, (bk_ BK224), (bk_ BK225), (bk_ BK239), (bk_ BK253), GW253.out, GE253.out, NB224_253.out, NB253_224.out, NB225_253.out, NB253_225.out, NB239_253.out, NB253_239.out, (bw_ HB)⟩)
   rintro gb253 w30 ⟨hS_, h0_, h1_, h2_, h3_, h4_, h5_, h6_, h7_, h8_, h9_, h10_, h11_, h12_⟩; replace BK224 := Aside0.mk h0_; replace BK225 := Aside0.mk h1_; replace BK239 := Aside0.mk h2_; have BK253 := Aside0.mk h3_; have GW253 := Aside0.mk h4_; have GE253 := Aside0.mk h5_; have NB224_253 := Aside0.mk h6_; have NB253_224 := Aside0.mk h7_; have NB225_253 := Aside0.mk h8_; have NB253_225 := Aside0.mk h9_; have NB239_253 := Aside0.mk h10_; have NB253_239 := Aside0.mk h11_; replace HB := Aside0.mk h12_; clear h0_ h1_ h2_ h3_ h4_ h5_ h6_ h7_ h8_ h9_ h10_ h11_ h12_; have hHeld := hS_
   apply norm_
   · simp only [putAll, Act.put, sA_, sZ_, sS_]; rfl
   refine one_ (i := 10) (N := none) #[true,true,true,true,true,true,true,true,true,true,true,false] rfl rfl (one_of HT_.out (by kernel_rfl)) (by decide) (fun K hK => ?_)
   have hs31 : w30.cell? ⟨gb253, 0, none⟩ = some (.int .i64 0) := bc_ BK253 0
   have hfs31 := blk_frozen BK253.out 0; have hns31_0 := NB224_253.out; have hns31_1 := NB225_253.out; have hns31_2 := NB239_253.out; have hms31_0 := NB253_224.out; have hms31_1 := NB253_225.out; have hms31_2 := NB253_239.out
   have hs32 : w30.cell? ⟨gb253, 1, none⟩ = some (.int .i64 0) := bc_ BK253 1
   have hfs32 := blk_frozen BK253.out 1; have hns32_0 := NB224_253.out; have hns32_1 := NB225_253.out; have hns32_2 := NB239_253.out; have hms32_0 := NB253_224.out; have hms32_1 := NB253_225.out; have hms32_2 := NB253_239.out
   have hs33 : w30.cell? ⟨gb253, 2, none⟩ = some (.bool false) := bc_ BK253 2
   have hfs33 := blk_frozen BK253.out 2; have hns33_0 := NB224_253.out; have hns33_1 := NB225_253.out; have hns33_2 := NB239_253.out; have hms33_0 := NB253_224.out; have hms33_1 := NB253_225.out; have hms33_2 := NB253_239.out; refine skip_ (w1 := ?_) (by rfl) rfl ?_ ?_; rotate_left
   · go_simp; rfl
   refine hK.out _ _ ⟨((cell_far (p := ⟨gb253, _, none⟩) NB224_253.out _).trans (((cell_far (p := ⟨gb253, _, none⟩) NB224_253.out _).trans (((cell_far (p := ⟨gb253, _, none⟩) NB224_253.out _).trans (hHeld.1)))))), ((cell_far (p := ⟨gb253, _, none⟩) NB224_253.out _).trans (((cell_far (p := ⟨gb253, _, none⟩) NB224_253.out _).trans (((cell_far (p := ⟨gb253, _, none⟩) NB224_253.out _).trans (hHeld.2.1)))))), ((cell_far (p := ⟨gb253, _, none⟩) NB224_253.out _).trans (((cell_far (p := ⟨gb253, _, none⟩) NB224_253.out _).trans (((cell_far (p := ⟨gb253, _, none⟩) NB224_253.out _).trans (hHeld.2.2.1)))))), ((cell_far (p := ⟨gb253, _, none⟩) NB224_253.out _).trans (((cell_far (p := ⟨gb253, _, none⟩) NB224_253.out _).trans (((cell_far (p := ⟨gb253, _, none⟩) NB224_253.out _).trans (hHeld.2.2.2.1)))))), ((cell_far (p := ⟨gb253, _, none⟩) NB224_253.out _).trans (((cell_far (p := ⟨gb253, _, none⟩) NB224_253.out _).trans (((cell_far (p := ⟨gb253, _, none⟩) NB224_253.out _).trans (hHeld.2.2.2.2.1)))))), ((cell_far (p := ⟨gb253, _, none⟩) NB224_253.out _).trans (((cell_far (p := ⟨gb253, _, none⟩) NB224_253.out _).trans (((cell_far (p := ⟨gb253, _, none⟩) NB224_253.out _).trans (hHeld.2.2.2.2.2.1)))))), ((cell_far (p := ⟨gb253, _, none⟩) NB225_253.out _).trans (((cell_far (p := ⟨gb253, _, none⟩) NB225_253.out _).trans (((cell_far (p := ⟨gb253, _, none⟩) NB225_253.out _).trans (hHeld.2.2.2.2.2.2.1)))))), ((cell_far (p := ⟨gb253, _, none⟩) NB225_253.out _).trans (((cell_far (p := ⟨gb253, _, none⟩) NB225_253.out _).trans (((cell_far (p := ⟨gb253, _, none⟩) NB225_253.out _).trans (hHeld.2.2.2.2.2.2.2.1)))))), ((cell_far (p := ⟨gb253, _, none⟩) NB225_253.out _).trans (((cell_far (p := ⟨gb253, _, none⟩) NB225_253.out _).trans (((cell_far (p := ⟨gb253, _, none⟩) NB225_253.out _).trans (hHeld.2.2.2.2.2.2.2.2))))))⟩ (fun hHeld => ?_); clear hK K; refine pure_ (i := 11) (N := some 10) (v := ?_) (a' := ?_) #[true,true,true,true,true,true,true,true,true,true,true,true] rfl rfl (any_of HT_.out (by kernel_rfl)) (fun _ _ _ h => h) (Or.inl ⟨by rfl, ?_⟩) ?_ ?_; rotate_left
   ·
    intro w'; go_simp
    with_reducible rfl
   rotate_left
   · simp only [Act.put, sA_, sZ_, sS_, i64_w, i32_w]; rfl
   refine done_ (done_of HT_.out (by kernel_rfl)) ?_; have hnb34 := NB253_224.out; have hnc34 := NB224_253.out; have hnb35 := NB253_225.out; have hnc35 := NB225_253.out; have hnb36 := NB253_239.out; have hnc36 := NB239_253.out
   have hcz37_0 : w30.cell? ⟨gb253, 0, none⟩ = some (.int .i64 0) := bc_ BK253 0
   have hcz37_1 : w30.cell? ⟨gb253, 1, none⟩ = some (.int .i64 0) := bc_ BK253 1
   have hcz37_2 : w30.cell? ⟨gb253, 2, none⟩ = some (.bool false) := bc_ BK253 2
   have hfz37_0 := blk_frozen BK253.out 0; have hfz37_1 := blk_frozen BK253.out 1; have hfz37_2 := blk_frozen BK253.out 2; have hnb38 := NB239_224.out; have hnc38 := NB224_239.out; have hnb39 := NB239_225.out; have hnc39 := NB225_239.out
   have hcz40_0 : w30.cell? ⟨gb239, 0, none⟩ = some (.int .i64 t235) := bc_ BK239 0
   have hcz40_1 : w30.cell? ⟨gb239, 1, none⟩ = some (.int .i64 t236) := bc_ BK239 1
   have hcz40_2 : w30.cell? ⟨gb239, 2, none⟩ = some (.bool t237) := bc_ BK239 2
   have hfz40_0 := blk_frozen BK239.out 0; have hfz40_1 := blk_frozen BK239.out 1; have hfz40_2 := blk_frozen BK239.out 2
   try go_wp2_with (first | ((with_reducible refine gate_callee (f := 18) rfl ?_); refine goesL_ (some 31) rfl rfl Try.func18 (by kernel_rfl) rfl #[.agg #[.int .i64 t249, .int .i64 t250, .bool t251], .agg #[.int .i64 t235, .int .i64 t236, .bool t237]] rfl (by (try simp only [List.map_toArray, List.map_cons, List.map_nil]); first | done | rfl | (simp only [List.length_drop, List.length_take]; rfl)) ?_; (with_reducible refine (laws_eqPoint.calls t249 t250 t251 t235 t236 t237 true _ A10.out).mono ?_); rintro e w41 ⟨rfl, hb⟩; refine ⟨_, rfl, ?_⟩; have n0_ := Aside0.mk (blk_below (g := gb224) (o := .cells #[.int .i64 a0_0, .int .i64 a0_1, .int .i64 a0_2, .int .i64 a0_3, .int .i64 a0_4, .int .i64 a0_5] 23 (0, 0)) (by (with_reducible repeat (first | refine blk_drewN ?_ _ | refine blk_drew ?_ | refine blk_alloc ?_ _)); refine blk_far ?_ NB224_253.out _; (with_reducible repeat (first | refine blk_drewN ?_ _ | refine blk_drew ?_ | refine blk_alloc ?_ _)); refine blk_far ?_ NB224_253.out _; (with_reducible repeat (first | refine blk_drewN ?_ _ | refine blk_drew ?_ | refine blk_alloc ?_ _)); refine blk_far ?_ NB224_253.out _; (with_reducible repeat (first | refine blk_drewN ?_ _ | refine blk_drew ?_ | refine blk_alloc ?_ _)); exact BK224.out) hb); have n1_ := Aside0.mk (blk_below (g := gb225) (o := .cells #[.int .i64 a2_0, .int .i64 a2_1, .bool a2_2] 25 (0, 0)) (by (with_reducible repeat (first | refine blk_drewN ?_ _ | refine blk_drew ?_ | refine blk_alloc ?_ _)); refine blk_far ?_ NB225_253.out _; (with_reducible repeat (first | refine blk_drewN ?_ _ | refine blk_drew ?_ | refine blk_alloc ?_ _)); refine blk_far ?_ NB225_253.out _; (with_reducible repeat (first | refine blk_drewN ?_ _ | refine blk_drew ?_ | refine blk_alloc ?_ _)); refine blk_far ?_ NB225_253.out _; (with_reducible repeat (first | refine blk_drewN ?_ _ | refine blk_drew ?_ | refine blk_alloc ?_ _)); exact BK225.out) hb); have n2_ := Aside0.mk (blk_below (g := gb239) (o := .cells #[.int .i64 t235, .int .i64 t236, .bool t237] 26 (0, 0)) (by (with_reducible repeat (first | refine blk_drewN ?_ _ | refine blk_drew ?_ | refine blk_alloc ?_ _)); refine blk_far ?_ NB239_253.out _; (with_reducible repeat (first | refine blk_drewN ?_ _ | refine blk_drew ?_ | refine blk_alloc ?_ _)); refine blk_far ?_ NB239_253.out _; (with_reducible repeat (first | refine blk_drewN ?_ _ | refine blk_drew ?_ | refine blk_alloc ?_ _)); refine blk_far ?_ NB239_253.out _; (with_reducible repeat (first | refine blk_drewN ?_ _ | refine blk_drew ?_ | refine blk_alloc ?_ _)); exact BK239.out) hb); have n3_ := Aside0.mk (blk_below (g := gb253) (o := .cells #[.int .i64 t249, .int .i64 t250, .bool t251] 26 (0, 0)) (by (with_reducible repeat (first | refine blk_drewN ?_ _ | refine blk_drew ?_ | refine blk_alloc ?_ _)); refine blk_put (cs := #[.int .i64 t249, .int .i64 t250, .bool false]) ?_ 2 _ rfl; (with_reducible repeat (first | refine blk_drewN ?_ _ | refine blk_drew ?_ | refine blk_alloc ?_ _)); refine blk_put (cs := #[.int .i64 t249, .int .i64 0, .bool false]) ?_ 1 _ rfl; (with_reducible repeat (first | refine blk_drewN ?_ _ | refine blk_drew ?_ | refine blk_alloc ?_ _)); refine blk_put (cs := #[.int .i64 0, .int .i64 0, .bool false]) ?_ 0 _ rfl; (with_reducible repeat (first | refine blk_drewN ?_ _ | refine blk_drew ?_ | refine blk_alloc ?_ _)); exact BK253.out) hb); have n4_ := bs_ HB hb; clear BK224; clear BK225; clear BK239; clear BK253; clear HB; have BK224 := n0_; have BK225 := n1_; have BK239 := n2_; have BK253 := n3_; have HB := n4_; clear n0_ n1_ n2_ n3_ n4_; (try clear hb); (try clear hb2); (try clear hk); (try clear hi)))
   go_ret
   exact ⟨by first | rfl | (simp [errW_none, errW_some] <;> rfl) | (simp [*, errW_none, errW_some] <;> rfl), by repeat (first | (with_reducible first | exact HB.out | apply below_alloc | apply pw_below_drewN | apply below_drew1 | refine below_set ?_ GE224.out | refine below_set ?_ GE225.out | refine below_set ?_ GE239.out | refine below_set ?_ GE253.out) | exact HB.out)⟩
  ·
   rw [if_neg c12] at H
   have c12b0 : (t252 != t238) = false := by simpa using c12
   (try (have c12b1 : decide (t252 = t238) = true := by simpa using c12)); (try (have c12b2 : (t252 == t238) = true := by simpa using c12)); clear c12; obtain rfl := Option.some.inj H
   go_enter Try.func4, Try.ntmps4
   try go_wp2_with (first | ((with_reducible refine gate_dst (N := 3) rfl ?_); refine box_event ?hg (N := 3) ?hd (cs := #[.int .i64 a0_0, .int .i64 a0_1, .int .i64 a0_2, .int .i64 a0_3, .int .i64 a0_4, .int .i64 a0_5]) (t := 23) ?hr ?_; (case hd => rfl); (case hg => rfl); (case hr => first | (go_simp; done) | (go_simp; rfl)); intro gb224 hg w42 hbox hb; have n0_ := bs_ HB hb; have n1_ := Aside0.mk hbox; have n2_ := ge_ HB hg; have n3_ := ge_ HB hg; clear HB; have HB := n0_; have BK224 := n1_; have GW224 := n2_; have GE224 := n3_; clear n0_ n1_ n2_ n3_; clear hb hbox hg) | ((with_reducible refine gate_dst (N := 5) rfl ?_); refine box_event ?hg (N := 5) ?hd (cs := #[.int .i64 a2_0, .int .i64 a2_1, .bool a2_2]) (t := 25) ?hr ?_; (case hd => rfl); (case hg => rfl); (case hr => first | (go_simp; done) | (go_simp; rfl)); intro gb225 hg w43 hbox hb; have n0_ := bb_ BK224 hb; have n1_ := bs_ HB hb; have n2_ := Aside0.mk hbox; have n3_ := ge_ HB hg; have n4_ := ge_ HB hg; have n5_ := nl_ BK224 hg; have n6_ := nr_ BK224 hg; clear BK224; clear HB; have BK224 := n0_; have HB := n1_; have BK225 := n2_; have GW225 := n3_; have GE225 := n4_; have NB224_225 := n5_; have NB225_224 := n6_; clear n0_ n1_ n2_ n3_ n4_ n5_ n6_; clear hb hbox hg))
   replace BK224 := Aside0.mk (blk_drew BK224.out); replace BK225 := Aside0.mk (blk_drew BK225.out); replace HB := Aside0.mk (below_drew1 HB.out); refine start_ (n := 12) (S := fun w' => w'.cell? ⟨gb224, 0, none⟩ = some (.int .i64 a0_0) ∧ w'.cell? ⟨gb224, 1, none⟩ = some (.int .i64 a0_1) ∧ w'.cell? ⟨gb224, 2, none⟩ = some (.int .i64 a0_2) ∧ w'.cell? ⟨gb224, 3, none⟩ = some (.int .i64 a0_3) ∧ w'.cell? ⟨gb224, 4, none⟩ = some (.int .i64 a0_4) ∧ w'.cell? ⟨gb224, 5, none⟩ = some (.int .i64 a0_5) ∧ w'.cell? ⟨gb225, 0, none⟩ = some (.int .i64 a2_0) ∧ w'.cell? ⟨gb225, 1, none⟩ = some (.int .i64 a2_1) ∧ w'.cell? ⟨gb225, 2, none⟩ = some (.bool a2_2)) (ds := []) #[false,false,false,false,false,false,false,false,false,false,false,false] (by kernel_rfl) rfl rfl ⟨bc_ BK224 0, bc_ BK224 1, bc_ BK224 2, bc_ BK224 3, bc_ BK224 4, bc_ BK224 5, bc_ BK225 0, bc_ BK225 1, bc_ BK225 2⟩ (fun hHeld => ?_); refine with_tabW laws_FnExactPointMul.tab1 laws_FnExactPointMul.bits1 (fun HT_ HW_ => ?_)
   generalize w43.drew = w44 at BK224 BK225 HB hHeld ⊢
   refine pure_ (i := 2) (N := some 14) (v := ?_) (a' := ?_) #[false,false,true,false,false,false,false,false,false,false,false,false] rfl rfl (any_of HT_.out (by kernel_rfl)) (fun _ _ _ h => h) (Or.inl ⟨by rfl, ?_⟩) ?_ ?_; rotate_left
   ·
    intro w'; go_simp
    with_reducible rfl
   rotate_left
   · simp only [Act.put, sA_, sZ_, sS_, i64_w, i32_w]; rfl
   refine take_ (i := 0) (N := some 12) (v := ?_) (a' := ?_) #[true,false,true,false,false,false,false,false,false,false,false,false] rfl rfl (take_ofW HT_.out HW_.out (by kernel_rfl)) (fun _ _ _ h => h) (Or.inl ⟨by rfl, ?_⟩) hHeld ?_ ?_; rotate_left
   ·
    rintro w' ⟨s0, s1, s2, s3, s4, s5, s6, s7, s8⟩; go_simp
    with_reducible rfl
   rotate_left
   · simp only [Act.put, sA_, sZ_, sS_, i64_w, i32_w]; rfl
   refine take_ (i := 3) (N := some 15) (v := ?_) (a' := ?_) #[true,false,true,true,false,false,false,false,false,false,false,false] rfl rfl (take_ofW HT_.out HW_.out (by kernel_rfl)) (fun _ _ _ h => h) (Or.inl ⟨by rfl, ?_⟩) hHeld ?_ ?_; rotate_left
   ·
    rintro w' ⟨s0, s1, s2, s3, s4, s5, s6, s7, s8⟩; go_simp
    with_reducible rfl
   rotate_left
   · simp only [Act.put, sA_, sZ_, sS_, i64_w, i32_w]; rfl
   refine join_ (σ := Nat) 2 #[true,true,true,true,true,true,true,true,true,true,false,false] (fun s_ => [(13, .agg #[.int .i64 t226, .int .i64 t227, .int .i64 t228, .int .i64 t229, .int .i64 t230, .int .i64 t231]), (16, .agg #[.int .i64 t232, .int .i64 t233, .bool t234]), (17, .tuple #[.agg #[.int .i64 t235, .int .i64 t236, .bool t237], .bool t238]), (7, .pointer (some ⟨s_, 0, none⟩)), (11, .tuple #[.agg #[.int .i64 t235, .int .i64 t236, .bool t237], .bool t238]), (18, .agg #[.int .i64 t235, .int .i64 t236, .bool t237]), (19, .bool t238)]) (fun s_ w' => (w'.cell? ⟨gb224, 0, none⟩ = some (.int .i64 a0_0) ∧ w'.cell? ⟨gb224, 1, none⟩ = some (.int .i64 a0_1) ∧ w'.cell? ⟨gb224, 2, none⟩ = some (.int .i64 a0_2) ∧ w'.cell? ⟨gb224, 3, none⟩ = some (.int .i64 a0_3) ∧ w'.cell? ⟨gb224, 4, none⟩ = some (.int .i64 a0_4) ∧ w'.cell? ⟨gb224, 5, none⟩ = some (.int .i64 a0_5) ∧ w'.cell? ⟨gb225, 0, none⟩ = some (.int .i64 a2_0) ∧ w'.cell? ⟨gb225, 1, none⟩ = some (.int .i64 a2_1) ∧ w'.cell? ⟨gb225, 2, none⟩ = some (.bool a2_2)) ∧ (w'.heap[gb224]? = some (.cells #[.int .i64 a0_0, .int .i64 a0_1, .int .i64 a0_2, .int .i64 a0_3, .int .i64 a0_4, .int .i64 a0_5] 23 (0, 0))) ∧ (w'.heap[gb225]? = some (.cells #[.int .i64 a2_0, .int .i64 a2_1, .bool a2_2] 25 (0, 0))) ∧ (w'.heap[s_]? = some (.cells #[.int .i64 0, .int .i64 0, .bool false] 26 (0, 0))) ∧ (w.heap.size ≤ s_) ∧ (w.heap.size ≤ s_) ∧ (gb224 ≠ s_) ∧ (s_ ≠ gb224) ∧ (gb225 ≠ s_) ∧ (s_ ≠ gb225) ∧ (Below w.heap.size w w')) ?_ ?_; rotate_left
   ·
    intro hCont; refine two_ (i := 1) (j := 9) (Ni := some 13) (Nj := some 7) #[true,true,true,true,false,false,false,false,false,false,false,false] #[true,false,true,true,false,false,false,false,false,true,false,false] rfl rfl rfl rfl (two_of HT_.out (by kernel_rfl)) (by decide) (by decide) (fun K hK => ?_) (fun K hK => ?_)
    ·
     refine gs_ Try.func15 #[.agg #[.int .i64 a0_0, .int .i64 a0_1, .int .i64 a0_2, .int .i64 a0_3, .int .i64 a0_4, .int .i64 a0_5]] ?_
     with_reducible refine (laws_toCurve.calls a0_0 a0_1 a0_2 a0_3 a0_4 a0_5 t226 t227 t228 t229 t230 t231 _ A4.out).mono ?_
     rintro e w45 ⟨rfl, hb⟩; refine ⟨_, rfl, ?_⟩; replace BK224 := bb_ BK224 hb; replace BK225 := bb_ BK225 hb; replace HB := bs_ HB hb; (try clear hb); refine hK.out _ _ ⟨bc_ BK224 0, bc_ BK224 1, bc_ BK224 2, bc_ BK224 3, bc_ BK224 4, bc_ BK224 5, bc_ BK225 0, bc_ BK225 1, bc_ BK225 2⟩ (fun hHeld => ?_); clear hK K
     apply norm_
     · show Act.put _ (some 13) _ = _; simp only [Act.put, sA_, sZ_, sS_, i64_w, i32_w]; rfl
     refine two_ (i := 4) (j := 9) (Ni := some 16) (Nj := some 7) #[true,true,true,true,true,false,false,false,false,false,false,false] #[true,true,true,true,false,false,false,false,false,true,false,false] rfl rfl rfl rfl (two_of HT_.out (by kernel_rfl)) (by decide) (by decide) (fun K hK => ?_) (fun K hK => ?_)
     ·
      refine gs_ Try.func16 #[.agg #[.int .i64 a2_0, .int .i64 a2_1, .bool a2_2]] ?_
      with_reducible refine (laws_toPoint.calls a2_0 a2_1 a2_2 t232 t233 t234 _ A5.out).mono ?_
      rintro e w46 ⟨rfl, hb⟩; refine ⟨_, rfl, ?_⟩; replace BK224 := bb_ BK224 hb; replace BK225 := bb_ BK225 hb; replace HB := bs_ HB hb; (try clear hb); refine hK.out _ _ ⟨bc_ BK224 0, bc_ BK224 1, bc_ BK224 2, bc_ BK224 3, bc_ BK224 4, bc_ BK224 5, bc_ BK225 0, bc_ BK225 1, bc_ BK225 2⟩ (fun hHeld => ?_); clear hK K
      apply norm_
      · show Act.put _ (some 16) _ = _; simp only [Act.put, sA_, sZ_, sS_, i64_w, i32_w]; rfl
      refine two_ (i := 5) (j := 9) (Ni := some 17) (Nj := some 7) #[true,true,true,true,true,true,false,false,false,false,false,false] #[true,true,true,true,true,false,false,false,false,true,false,false] rfl rfl rfl rfl (two_of HT_.out (by kernel_rfl)) (by decide) (by decide) (fun K hK => ?_) (fun K hK => ?_)
      ·
       refine gs_ Try.func19 #[.agg #[.int .i64 t226, .int .i64 t227, .int .i64 t228, .int .i64 t229, .int .i64 t230, .int .i64 t231], .int .i64 a1, .agg #[.int .i64 t232, .int .i64 t233, .bool t234]] ?_
       with_reducible refine (spec_PointMul.calls k t226 t227 t228 t229 t230 t231 a1 t232 t233 t234 t235 t236 t237 t238 _ A6.out).mono ?_
       rintro e w47 ⟨rfl, hb⟩; refine ⟨_, rfl, ?_⟩; replace BK224 := bb_ BK224 hb; replace BK225 := bb_ BK225 hb; replace HB := bs_ HB hb; (try clear hb); refine hK.out _ _ ⟨bc_ BK224 0, bc_ BK224 1, bc_ BK224 2, bc_ BK224 3, bc_ BK224 4, bc_ BK224 5, bc_ BK225 0, bc_ BK225 1, bc_ BK225 2⟩ (fun hHeld => ?_); clear hK K
       apply norm_
       · show Act.put _ (some 17) _ = _; simp only [Act.put, sA_, sZ_, sS_, i64_w, i32_w]; rfl
       refine pure_ (i := 6) (N := some 11) (v := ?_) (a' := ?_) #[true,true,true,true,true,true,true,false,false,false,false,false] rfl rfl (any_of HT_.out (by kernel_rfl)) (fun _ _ _ h => h) (Or.inl ⟨by rfl, ?_⟩) ?_ ?_; rotate_left
       ·
        intro w'; go_simp
        with_reducible rfl
       rotate_left
       · simp only [Act.put, sA_, sZ_, sS_, i64_w, i32_w]; rfl
       refine pure_ (i := 7) (N := some 18) (v := ?_) (a' := ?_) #[true,true,true,true,true,true,true,true,false,false,false,false] rfl rfl (any_of HT_.out (by kernel_rfl)) (fun _ _ _ h => h) (Or.inl ⟨by rfl, ?_⟩) ?_ ?_; rotate_left
       ·
        intro w'; go_simp
        with_reducible rfl
       rotate_left
       · simp only [Act.put, sA_, sZ_, sS_, i64_w, i32_w]; rfl
       refine pure_ (i := 8) (N := some 19) (v := ?_) (a' := ?_) #[true,true,true,true,true,true,true,true,true,false,false,false] rfl rfl (any_of HT_.out (by kernel_rfl)) (fun _ _ _ h => h) (Or.inl ⟨by rfl, ?_⟩) ?_ ?_; rotate_left
       ·
        intro w'; go_simp
        with_reducible rfl
       rotate_left
       · simp only [Act.put, sA_, sZ_, sS_, i64_w, i32_w]; rfl
       refine one_ (i := 9) (N := some 7) #[true,true,true,true,true,true,true,true,true,true,false,false] rfl rfl (one_of HT_.out (by kernel_rfl)) (by decide) (fun K hK => ?_); refine box_step ?hg (N := 7) ?hd (cs := #[.int .i64 0, .int .i64 0, .bool false]) (t := 26) ?hr ?_; (case hd => rfl); (case hg => rfl); (case hr => first | (go_simp; done) | (go_simp; rfl))
       intro gb239 hg w48 hbox hb; have n0_ := bb_ BK224 hb; have n1_ := bb_ BK225 hb; have n2_ := bs_ HB hb; have n3_ := Aside0.mk hbox; have n4_ := ge_ HB hg; have n5_ := ge_ HB hg; have n6_ := nl_ BK224 hg; have n7_ := nr_ BK224 hg; have n8_ := nl_ BK225 hg; have n9_ := nr_ BK225 hg; clear BK224 BK225 HB; have BK224 := n0_; have BK225 := n1_; have HB := n2_; have BK239 := n3_; have GW239 := n4_; have GE239 := n5_; have NB224_239 := n6_; have NB239_224 := n7_; have NB225_239 := n8_; have NB239_225 := n9_; clear n0_ n1_ n2_ n3_ n4_ n5_ n6_ n7_ n8_ n9_; clear hb hbox hg; refine hK.out _ _ ⟨bc_ BK224 0, bc_ BK224 1, bc_ BK224 2, bc_ BK224 3, bc_ BK224 4, bc_ BK224 5, bc_ BK225 0, bc_ BK225 1, bc_ BK225 2⟩ (fun hHeld => ?_); clear hK K
       apply norm_
       · show Act.put _ (some 7) _ = _; simp only [Act.put, sA_, sZ_, sS_, i64_w, i32_w]; rfl
       exact norm_ (by simp only [putAll, Act.put, sA_, sZ_, sS_]) (hCont (gb239) _ ⟨hHeld, (bk_ BK224), (bk_ BK225), (bk_ BK239), GW239.out, GE239.out, NB224_239.out, NB239_224.out, NB225_239.out, NB239_225.out, (bw_ HB)⟩)
      ·
       refine box_step ?hg (N := 7) ?hd (cs := #[.int .i64 0, .int .i64 0, .bool false]) (t := 26) ?hr ?_; (case hd => rfl); (case hg => rfl); (case hr => first | (go_simp; done) | (go_simp; rfl))
       intro gb239 hg w47 hbox hb; have n0_ := bb_ BK224 hb; have n1_ := bb_ BK225 hb; have n2_ := bs_ HB hb; have n3_ := Aside0.mk hbox; have n4_ := ge_ HB hg; have n5_ := ge_ HB hg; have n6_ := nl_ BK224 hg; have n7_ := nr_ BK224 hg; have n8_ := nl_ BK225 hg; have n9_ := nr_ BK225 hg; clear BK224 BK225 HB; have BK224 := n0_; have BK225 := n1_; have HB := n2_; have BK239 := n3_; have GW239 := n4_; have GE239 := n5_; have NB224_239 := n6_; have NB239_224 := n7_; have NB225_239 := n8_; have NB239_225 := n9_; clear n0_ n1_ n2_ n3_ n4_ n5_ n6_ n7_ n8_ n9_; clear hb hbox hg; refine hK.out _ _ ⟨bc_ BK224 0, bc_ BK224 1, bc_ BK224 2, bc_ BK224 3, bc_ BK224 4, bc_ BK224 5, bc_ BK225 0, bc_ BK225 1, bc_ BK225 2⟩ (fun hHeld => ?_); clear hK K
       apply norm_
       · show Act.put _ (some 7) _ = _; simp only [Act.put, sA_, sZ_, sS_, i64_w, i32_w]; rfl
       refine one_ (i := 5) (N := some 17) #[true,true,true,true,true,true,false,false,false,true,false,false] rfl rfl (one_of HT_.out (by kernel_rfl)) (by decide) (fun K hK => ?_); refine gs_ Try.func19 #[.agg #[.int .i64 t226, .int .i64 t227, .int .i64 t228, .int .i64 t229, .int .i64 t230, .int .i64 t231], .int .i64 a1, .agg #[.int .i64 t232, .int .i64 t233, .bool t234]] ?_
       with_reducible refine (spec_PointMul.calls k t226 t227 t228 t229 t230 t231 a1 t232 t233 t234 t235 t236 t237 t238 _ A6.out).mono ?_
       rintro e w48 ⟨rfl, hb⟩; refine ⟨_, rfl, ?_⟩; replace BK224 := bb_ BK224 hb; replace BK225 := bb_ BK225 hb; replace BK239 := bb_ BK239 hb; replace HB := bs_ HB hb; (try clear hb); refine hK.out _ _ ⟨bc_ BK224 0, bc_ BK224 1, bc_ BK224 2, bc_ BK224 3, bc_ BK224 4, bc_ BK224 5, bc_ BK225 0, bc_ BK225 1, bc_ BK225 2⟩ (fun hHeld => ?_); clear hK K
       apply norm_
       · show Act.put _ (some 17) _ = _; simp only [Act.put, sA_, sZ_, sS_, i64_w, i32_w]; rfl
       refine pure_ (i := 6) (N := some 11) (v := ?_) (a' := ?_) #[true,true,true,true,true,true,true,false,false,true,false,false] rfl rfl (any_of HT_.out (by kernel_rfl)) (fun _ _ _ h => h) (Or.inl ⟨by rfl, ?_⟩) ?_ ?_; rotate_left
       ·
        intro w'; go_simp
        with_reducible rfl
       rotate_left
       · simp only [Act.put, sA_, sZ_, sS_, i64_w, i32_w]; rfl
       refine pure_ (i := 7) (N := some 18) (v := ?_) (a' := ?_) #[true,true,true,true,true,true,true,true,false,true,false,false] rfl rfl (any_of HT_.out (by kernel_rfl)) (fun _ _ _ h => h) (Or.inl ⟨by rfl, ?_⟩) ?_ ?_; rotate_left
       ·
        intro w'; go_simp
        with_reducible rfl
       rotate_left
       · simp only [Act.put, sA_, sZ_, sS_, i64_w, i32_w]; rfl
       refine pure_ (i := 8) (N := some 19) (v := ?_) (a' := ?_) #[true,true,true,true,true,true,true,true,true,true,false,false] rfl rfl (any_of HT_.out (by kernel_rfl)) (fun _ _ _ h => h) (Or.inl ⟨by rfl, ?_⟩) ?_ ?_; rotate_left
       ·
        intro w'; go_simp
        with_reducible rfl
       rotate_left
       · simp only [Act.put, sA_, sZ_, sS_, i64_w, i32_w]; rfl
       exact norm_ (by simp only [putAll, Act.put, sA_, sZ_, sS_]) (hCont (gb239) _ ⟨hHeld, (bk_ BK224), (bk_ BK225), (bk_ BK239), GW239.out, GE239.out, NB224_239.out, NB239_224.out, NB225_239.out, NB239_225.out, (bw_ HB)⟩)
     ·
      refine box_step ?hg (N := 7) ?hd (cs := #[.int .i64 0, .int .i64 0, .bool false]) (t := 26) ?hr ?_; (case hd => rfl); (case hg => rfl); (case hr => first | (go_simp; done) | (go_simp; rfl))
      intro gb239 hg w46 hbox hb; have n0_ := bb_ BK224 hb; have n1_ := bb_ BK225 hb; have n2_ := bs_ HB hb; have n3_ := Aside0.mk hbox; have n4_ := ge_ HB hg; have n5_ := ge_ HB hg; have n6_ := nl_ BK224 hg; have n7_ := nr_ BK224 hg; have n8_ := nl_ BK225 hg; have n9_ := nr_ BK225 hg; clear BK224 BK225 HB; have BK224 := n0_; have BK225 := n1_; have HB := n2_; have BK239 := n3_; have GW239 := n4_; have GE239 := n5_; have NB224_239 := n6_; have NB239_224 := n7_; have NB225_239 := n8_; have NB239_225 := n9_; clear n0_ n1_ n2_ n3_ n4_ n5_ n6_ n7_ n8_ n9_; clear hb hbox hg; refine hK.out _ _ ⟨bc_ BK224 0, bc_ BK224 1, bc_ BK224 2, bc_ BK224 3, bc_ BK224 4, bc_ BK224 5, bc_ BK225 0, bc_ BK225 1, bc_ BK225 2⟩ (fun hHeld => ?_); clear hK K
      apply norm_
      · show Act.put _ (some 7) _ = _; simp only [Act.put, sA_, sZ_, sS_, i64_w, i32_w]; rfl
      refine one_ (i := 4) (N := some 16) #[true,true,true,true,true,false,false,false,false,true,false,false] rfl rfl (one_of HT_.out (by kernel_rfl)) (by decide) (fun K hK => ?_); refine gs_ Try.func16 #[.agg #[.int .i64 a2_0, .int .i64 a2_1, .bool a2_2]] ?_
      with_reducible refine (laws_toPoint.calls a2_0 a2_1 a2_2 t232 t233 t234 _ A5.out).mono ?_
      rintro e w47 ⟨rfl, hb⟩; refine ⟨_, rfl, ?_⟩; replace BK224 := bb_ BK224 hb; replace BK225 := bb_ BK225 hb; replace BK239 := bb_ BK239 hb; replace HB := bs_ HB hb; (try clear hb); refine hK.out _ _ ⟨bc_ BK224 0, bc_ BK224 1, bc_ BK224 2, bc_ BK224 3, bc_ BK224 4, bc_ BK224 5, bc_ BK225 0, bc_ BK225 1, bc_ BK225 2⟩ (fun hHeld => ?_); clear hK K
      apply norm_
      · show Act.put _ (some 16) _ = _; simp only [Act.put, sA_, sZ_, sS_, i64_w, i32_w]; rfl
      refine one_ (i := 5) (N := some 17) #[true,true,true,true,true,true,false,false,false,true,false,false] rfl rfl (one_of HT_.out (by kernel_rfl)) (by decide) (fun K hK => ?_); refine gs_ Try.func19 #[.agg #[.int .i64 t226, .int .i64 t227, .int .i64 t228, .int .i64 t229, .int .i64 t230, .int .i64 t231], .int .i64 a1, .agg #[.int .i64 t232, .int .i64 t233, .bool t234]] ?_
      with_reducible refine (spec_PointMul.calls k t226 t227 t228 t229 t230 t231 a1 t232 t233 t234 t235 t236 t237 t238 _ A6.out).mono ?_
      rintro e w48 ⟨rfl, hb⟩; refine ⟨_, rfl, ?_⟩; replace BK224 := bb_ BK224 hb; replace BK225 := bb_ BK225 hb; replace BK239 := bb_ BK239 hb; replace HB := bs_ HB hb; (try clear hb); refine hK.out _ _ ⟨bc_ BK224 0, bc_ BK224 1, bc_ BK224 2, bc_ BK224 3, bc_ BK224 4, bc_ BK224 5, bc_ BK225 0, bc_ BK225 1, bc_ BK225 2⟩ (fun hHeld => ?_); clear hK K
      apply norm_
      · show Act.put _ (some 17) _ = _; simp only [Act.put, sA_, sZ_, sS_, i64_w, i32_w]; rfl
      refine pure_ (i := 6) (N := some 11) (v := ?_) (a' := ?_) #[true,true,true,true,true,true,true,false,false,true,false,false] rfl rfl (any_of HT_.out (by kernel_rfl)) (fun _ _ _ h => h) (Or.inl ⟨by rfl, ?_⟩) ?_ ?_; rotate_left
      ·
       intro w'; go_simp
       with_reducible rfl
      rotate_left
      · simp only [Act.put, sA_, sZ_, sS_, i64_w, i32_w]; rfl
      refine pure_ (i := 7) (N := some 18) (v := ?_) (a' := ?_) #[true,true,true,true,true,true,true,true,false,true,false,false] rfl rfl (any_of HT_.out (by kernel_rfl)) (fun _ _ _ h => h) (Or.inl ⟨by rfl, ?_⟩) ?_ ?_; rotate_left
      ·
       intro w'; go_simp
       with_reducible rfl
      rotate_left
      · simp only [Act.put, sA_, sZ_, sS_, i64_w, i32_w]; rfl
      refine pure_ (i := 8) (N := some 19) (v := ?_) (a' := ?_) #[true,true,true,true,true,true,true,true,true,true,false,false] rfl rfl (any_of HT_.out (by kernel_rfl)) (fun _ _ _ h => h) (Or.inl ⟨by rfl, ?_⟩) ?_ ?_; rotate_left
      ·
       intro w'; go_simp
       with_reducible rfl
      rotate_left
      · simp only [Act.put, sA_, sZ_, sS_, i64_w, i32_w]; rfl
      exact norm_ (by simp only [putAll, Act.put, sA_, sZ_, sS_]) (hCont (gb239) _ ⟨hHeld, (bk_ BK224), (bk_ BK225), (bk_ BK239), GW239.out, GE239.out, NB224_239.out, NB239_224.out, NB225_239.out, NB239_225.out, (bw_ HB)⟩)
    ·
     refine box_step ?hg (N := 7) ?hd (cs := #[.int .i64 0, .int .i64 0, .bool false]) (t := 26) ?hr ?_; (case hd => rfl); (case hg => rfl); (case hr => first | (go_simp; done) | (go_simp; rfl))
     intro gb239 hg w45 hbox hb; have n0_ := bb_ BK224 hb; have n1_ := bb_ BK225 hb; have n2_ := bs_ HB hb; have n3_ := Aside0.mk hbox; have n4_ := ge_ HB hg; have n5_ := ge_ HB hg; have n6_ := nl_ BK224 hg; have n7_ := nr_ BK224 hg; have n8_ := nl_ BK225 hg; have n9_ := nr_ BK225 hg; clear BK224 BK225 HB; have BK224 := n0_; have BK225 := n1_; have HB := n2_; have BK239 := n3_; have GW239 := n4_; have GE239 := n5_; have NB224_239 := n6_; have NB239_224 := n7_; have NB225_239 := n8_; have NB239_225 := n9_; clear n0_ n1_ n2_ n3_ n4_ n5_ n6_ n7_ n8_ n9_; clear hb hbox hg; refine hK.out _ _ ⟨bc_ BK224 0, bc_ BK224 1, bc_ BK224 2, bc_ BK224 3, bc_ BK224 4, bc_ BK224 5, bc_ BK225 0, bc_ BK225 1, bc_ BK225 2⟩ (fun hHeld => ?_); clear hK K
     apply norm_
     · show Act.put _ (some 7) _ = _; simp only [Act.put, sA_, sZ_, sS_, i64_w, i32_w]; rfl
     refine one_ (i := 1) (N := some 13) #[true,true,true,true,false,false,false,false,false,true,false,false] rfl rfl (one_of HT_.out (by kernel_rfl)) (by decide) (fun K hK => ?_); refine gs_ Try.func15 #[.agg #[.int .i64 a0_0, .int .i64 a0_1, .int .i64 a0_2, .int .i64 a0_3, .int .i64 a0_4, .int .i64 a0_5]] ?_
     with_reducible refine (laws_toCurve.calls a0_0 a0_1 a0_2 a0_3 a0_4 a0_5 t226 t227 t228 t229 t230 t231 _ A4.out).mono ?_
     rintro e w46 ⟨rfl, hb⟩; refine ⟨_, rfl, ?_⟩; replace BK224 := bb_ BK224 hb; replace BK225 := bb_ BK225 hb; replace BK239 := bb_ BK239 hb; replace HB := bs_ HB hb; (try clear hb); refine hK.out _ _ ⟨bc_ BK224 0, bc_ BK224 1, bc_ BK224 2, bc_ BK224 3, bc_ BK224 4, bc_ BK224 5, bc_ BK225 0, bc_ BK225 1, bc_ BK225 2⟩ (fun hHeld => ?_); clear hK K
     apply norm_
     · show Act.put _ (some 13) _ = _; simp only [Act.put, sA_, sZ_, sS_, i64_w, i32_w]; rfl
     refine one_ (i := 4) (N := some 16) #[true,true,true,true,true,false,false,false,false,true,false,false] rfl rfl (one_of HT_.out (by kernel_rfl)) (by decide) (fun K hK => ?_); refine gs_ Try.func16 #[.agg #[.int .i64 a2_0, .int .i64 a2_1, .bool a2_2]] ?_
     with_reducible refine (laws_toPoint.calls a2_0 a2_1 a2_2 t232 t233 t234 _ A5.out).mono ?_
     rintro e w47 ⟨rfl, hb⟩; refine ⟨_, rfl, ?_⟩; replace BK224 := bb_ BK224 hb; replace BK225 := bb_ BK225 hb; replace BK239 := bb_ BK239 hb; replace HB := bs_ HB hb; (try clear hb); refine hK.out _ _ ⟨bc_ BK224 0, bc_ BK224 1, bc_ BK224 2, bc_ BK224 3, bc_ BK224 4, bc_ BK224 5, bc_ BK225 0, bc_ BK225 1, bc_ BK225 2⟩ (fun hHeld => ?_); clear hK K
     apply norm_
     · show Act.put _ (some 16) _ = _; simp only [Act.put, sA_, sZ_, sS_, i64_w, i32_w]; rfl
     refine one_ (i := 5) (N := some 17) #[true,true,true,true,true,true,false,false,false,true,false,false] rfl rfl (one_of HT_.out (by kernel_rfl)) (by decide) (fun K hK => ?_); refine gs_ Try.func19 #[.agg #[.int .i64 t226, .int .i64 t227, .int .i64 t228, .int .i64 t229, .int .i64 t230, .int .i64 t231], .int .i64 a1, .agg #[.int .i64 t232, .int .i64 t233, .bool t234]] ?_
     with_reducible refine (spec_PointMul.calls k t226 t227 t228 t229 t230 t231 a1 t232 t233 t234 t235 t236 t237 t238 _ A6.out).mono ?_
     rintro e w48 ⟨rfl, hb⟩; refine ⟨_, rfl, ?_⟩; replace BK224 := bb_ BK224 hb; replace BK225 := bb_ BK225 hb; replace BK239 := bb_ BK239 hb; replace HB := bs_ HB hb; (try clear hb); refine hK.out _ _ ⟨bc_ BK224 0, bc_ BK224 1, bc_ BK224 2, bc_ BK224 3, bc_ BK224 4, bc_ BK224 5, bc_ BK225 0, bc_ BK225 1, bc_ BK225 2⟩ (fun hHeld => ?_); clear hK K
     apply norm_
     · show Act.put _ (some 17) _ = _; simp only [Act.put, sA_, sZ_, sS_, i64_w, i32_w]; rfl
     refine pure_ (i := 6) (N := some 11) (v := ?_) (a' := ?_) #[true,true,true,true,true,true,true,false,false,true,false,false] rfl rfl (any_of HT_.out (by kernel_rfl)) (fun _ _ _ h => h) (Or.inl ⟨by rfl, ?_⟩) ?_ ?_; rotate_left
     ·
      intro w'; go_simp
      with_reducible rfl
     rotate_left
     · simp only [Act.put, sA_, sZ_, sS_, i64_w, i32_w]; rfl
     refine pure_ (i := 7) (N := some 18) (v := ?_) (a' := ?_) #[true,true,true,true,true,true,true,true,false,true,false,false] rfl rfl (any_of HT_.out (by kernel_rfl)) (fun _ _ _ h => h) (Or.inl ⟨by rfl, ?_⟩) ?_ ?_; rotate_left
     ·
      intro w'; go_simp
      with_reducible rfl
     rotate_left
     · simp only [Act.put, sA_, sZ_, sS_, i64_w, i32_w]; rfl
     refine pure_ (i := 8) (N := some 19) (v := ?_) (a' := ?_) #[true,true,true,true,true,true,true,true,true,true,false,false] rfl rfl (any_of HT_.out (by kernel_rfl)) (fun _ _ _ h => h) (Or.inl ⟨by rfl, ?_⟩) ?_ ?_; rotate_left
     ·
      intro w'; go_simp
      with_reducible rfl
     rotate_left
     · simp only [Act.put, sA_, sZ_, sS_, i64_w, i32_w]; rfl
     exact norm_ (by simp only [putAll, Act.put, sA_, sZ_, sS_]) (hCont (gb239) _ ⟨hHeld, (bk_ BK224), (bk_ BK225), (bk_ BK239), GW239.out, GE239.out, NB224_239.out, NB239_224.out, NB225_239.out, NB239_225.out, (bw_ HB)⟩)
   rintro gb239 w49 ⟨hS_, h0_, h1_, h2_, h3_, h4_, h5_, h6_, h7_, h8_, h9_⟩; replace BK224 := Aside0.mk h0_; replace BK225 := Aside0.mk h1_; have BK239 := Aside0.mk h2_; have GW239 := Aside0.mk h3_; have GE239 := Aside0.mk h4_; have NB224_239 := Aside0.mk h5_; have NB239_224 := Aside0.mk h6_; have NB225_239 := Aside0.mk h7_; have NB239_225 := Aside0.mk h8_; replace HB := Aside0.mk h9_; clear h0_ h1_ h2_ h3_ h4_ h5_ h6_ h7_ h8_ h9_; have hHeld := hS_
   apply norm_
   · simp only [putAll, Act.put, sA_, sZ_, sS_]; rfl
   refine one_ (i := 10) (N := none) #[true,true,true,true,true,true,true,true,true,true,true,false] rfl rfl (one_of HT_.out (by kernel_rfl)) (by decide) (fun K hK => ?_)
   have hs50 : w49.cell? ⟨gb239, 0, none⟩ = some (.int .i64 0) := bc_ BK239 0
   have hfs50 := blk_frozen BK239.out 0; have hns50_0 := NB224_239.out; have hns50_1 := NB225_239.out; have hms50_0 := NB239_224.out; have hms50_1 := NB239_225.out
   have hs51 : w49.cell? ⟨gb239, 1, none⟩ = some (.int .i64 0) := bc_ BK239 1
   have hfs51 := blk_frozen BK239.out 1; have hns51_0 := NB224_239.out; have hns51_1 := NB225_239.out; have hms51_0 := NB239_224.out; have hms51_1 := NB239_225.out
   have hs52 : w49.cell? ⟨gb239, 2, none⟩ = some (.bool false) := bc_ BK239 2
   have hfs52 := blk_frozen BK239.out 2; have hns52_0 := NB224_239.out; have hns52_1 := NB225_239.out; have hms52_0 := NB239_224.out; have hms52_1 := NB239_225.out; refine skip_ (w1 := ?_) (by rfl) rfl ?_ ?_; rotate_left
   · go_simp; rfl
   refine hK.out _ _ ⟨((cell_far (p := ⟨gb239, _, none⟩) NB224_239.out _).trans (((cell_far (p := ⟨gb239, _, none⟩) NB224_239.out _).trans (((cell_far (p := ⟨gb239, _, none⟩) NB224_239.out _).trans (hHeld.1)))))), ((cell_far (p := ⟨gb239, _, none⟩) NB224_239.out _).trans (((cell_far (p := ⟨gb239, _, none⟩) NB224_239.out _).trans (((cell_far (p := ⟨gb239, _, none⟩) NB224_239.out _).trans (hHeld.2.1)))))), ((cell_far (p := ⟨gb239, _, none⟩) NB224_239.out _).trans (((cell_far (p := ⟨gb239, _, none⟩) NB224_239.out _).trans (((cell_far (p := ⟨gb239, _, none⟩) NB224_239.out _).trans (hHeld.2.2.1)))))), ((cell_far (p := ⟨gb239, _, none⟩) NB224_239.out _).trans (((cell_far (p := ⟨gb239, _, none⟩) NB224_239.out _).trans (((cell_far (p := ⟨gb239, _, none⟩) NB224_239.out _).trans (hHeld.2.2.2.1)))))), ((cell_far (p := ⟨gb239, _, none⟩) NB224_239.out _).trans (((cell_far (p := ⟨gb239, _, none⟩) NB224_239.out _).trans (((cell_far (p := ⟨gb239, _, none⟩) NB224_239.out _).trans (hHeld.2.2.2.2.1)))))), ((cell_far (p := ⟨gb239, _, none⟩) NB224_239.out _).trans (((cell_far (p := ⟨gb239, _, none⟩) NB224_239.out _).trans (((cell_far (p := ⟨gb239, _, none⟩) NB224_239.out _).trans (hHeld.2.2.2.2.2.1)))))), ((cell_far (p := ⟨gb239, _, none⟩) NB225_239.out _).trans (((cell_far (p := ⟨gb239, _, none⟩) NB225_239.out _).trans (((cell_far (p := ⟨gb239, _, none⟩) NB225_239.out _).trans (hHeld.2.2.2.2.2.2.1)))))), ((cell_far (p := ⟨gb239, _, none⟩) NB225_239.out _).trans (((cell_far (p := ⟨gb239, _, none⟩) NB225_239.out _).trans (((cell_far (p := ⟨gb239, _, none⟩) NB225_239.out _).trans (hHeld.2.2.2.2.2.2.2.1)))))), ((cell_far (p := ⟨gb239, _, none⟩) NB225_239.out _).trans (((cell_far (p := ⟨gb239, _, none⟩) NB225_239.out _).trans (((cell_far (p := ⟨gb239, _, none⟩) NB225_239.out _).trans (hHeld.2.2.2.2.2.2.2.2))))))⟩ (fun hHeld => ?_); clear hK K; refine pure_ (i := 11) (N := some 8) (v := ?_) (a' := ?_) #[true,true,true,true,true,true,true,true,true,true,true,true] rfl rfl (any_of HT_.out (by kernel_rfl)) (fun _ _ _ h => h) (Or.inl ⟨by rfl, ?_⟩) ?_ ?_; rotate_left
   ·
    intro w'; go_simp
    with_reducible rfl
   rotate_left
   · simp only [Act.put, sA_, sZ_, sS_, i64_w, i32_w]; rfl
   refine done_ (done_of HT_.out (by kernel_rfl)) ?_
   try go_wp2
   have n0_ : Aside0 ((((w49.setCell ⟨gb239, 0, none⟩ (.int .i64 t235)).setCell ⟨gb239, 1, none⟩ (.int .i64 t236)).setCell ⟨gb239, 2, none⟩ (.bool t237)).heap[gb224]? = some (.cells #[.int .i64 a0_0, .int .i64 a0_1, .int .i64 a0_2, .int .i64 a0_3, .int .i64 a0_4, .int .i64 a0_5] 23 (0, 0))) := ⟨by (with_reducible repeat (first | refine blk_drewN ?_ _ | refine blk_drew ?_ | refine blk_alloc ?_ _)); refine blk_far ?_ NB224_239.out _; (with_reducible repeat (first | refine blk_drewN ?_ _ | refine blk_drew ?_ | refine blk_alloc ?_ _)); refine blk_far ?_ NB224_239.out _; (with_reducible repeat (first | refine blk_drewN ?_ _ | refine blk_drew ?_ | refine blk_alloc ?_ _)); refine blk_far ?_ NB224_239.out _; (with_reducible repeat (first | refine blk_drewN ?_ _ | refine blk_drew ?_ | refine blk_alloc ?_ _)); exact BK224.out⟩
   have n1_ : Aside0 ((((w49.setCell ⟨gb239, 0, none⟩ (.int .i64 t235)).setCell ⟨gb239, 1, none⟩ (.int .i64 t236)).setCell ⟨gb239, 2, none⟩ (.bool t237)).heap[gb225]? = some (.cells #[.int .i64 a2_0, .int .i64 a2_1, .bool a2_2] 25 (0, 0))) := ⟨by (with_reducible repeat (first | refine blk_drewN ?_ _ | refine blk_drew ?_ | refine blk_alloc ?_ _)); refine blk_far ?_ NB225_239.out _; (with_reducible repeat (first | refine blk_drewN ?_ _ | refine blk_drew ?_ | refine blk_alloc ?_ _)); refine blk_far ?_ NB225_239.out _; (with_reducible repeat (first | refine blk_drewN ?_ _ | refine blk_drew ?_ | refine blk_alloc ?_ _)); refine blk_far ?_ NB225_239.out _; (with_reducible repeat (first | refine blk_drewN ?_ _ | refine blk_drew ?_ | refine blk_alloc ?_ _)); exact BK225.out⟩
   have n2_ : Aside0 ((((w49.setCell ⟨gb239, 0, none⟩ (.int .i64 t235)).setCell ⟨gb239, 1, none⟩ (.int .i64 t236)).setCell ⟨gb239, 2, none⟩ (.bool t237)).heap[gb239]? = some (.cells #[.int .i64 t235, .int .i64 t236, .bool t237] 26 (0, 0))) := ⟨by (with_reducible repeat (first | refine blk_drewN ?_ _ | refine blk_drew ?_ | refine blk_alloc ?_ _)); refine blk_put (cs := #[.int .i64 t235, .int .i64 t236, .bool false]) ?_ 2 _ rfl; (with_reducible repeat (first | refine blk_drewN ?_ _ | refine blk_drew ?_ | refine blk_alloc ?_ _)); refine blk_put (cs := #[.int .i64 t235, .int .i64 0, .bool false]) ?_ 1 _ rfl; (with_reducible repeat (first | refine blk_drewN ?_ _ | refine blk_drew ?_ | refine blk_alloc ?_ _)); refine blk_put (cs := #[.int .i64 0, .int .i64 0, .bool false]) ?_ 0 _ rfl; (with_reducible repeat (first | refine blk_drewN ?_ _ | refine blk_drew ?_ | refine blk_alloc ?_ _)); exact BK239.out⟩
   have n3_ : Aside0 (Below w.heap.size w (((w49.setCell ⟨gb239, 0, none⟩ (.int .i64 t235)).setCell ⟨gb239, 1, none⟩ (.int .i64 t236)).setCell ⟨gb239, 2, none⟩ (.bool t237))) := ⟨by repeat (first | (with_reducible first | exact HB.out | apply below_alloc | apply pw_below_drewN | apply below_drew1 | refine below_set ?_ GE224.out | refine below_set ?_ GE225.out | refine below_set ?_ GE239.out) | exact HB.out)⟩
   (try clear BK224); (try clear BK225); (try clear BK239); (try clear HB)
   generalize (((w49.setCell ⟨gb239, 0, none⟩ (.int .i64 t235)).setCell ⟨gb239, 1, none⟩ (.int .i64 t236)).setCell ⟨gb239, 2, none⟩ (.bool t237)) = w53 at n0_ n1_ n2_ n3_ ⊢
   have BK224 := n0_; have BK225 := n1_; have BK239 := n2_; have HB := n3_; clear n0_ n1_ n2_ n3_; replace BK224 := Aside0.mk (blk_drew BK224.out); replace BK225 := Aside0.mk (blk_drew BK225.out); replace BK239 := Aside0.mk (blk_drew BK239.out); replace HB := Aside0.mk (below_drew1 HB.out); refine start_ (n := 12) (S := fun w' => w'.cell? ⟨gb224, 0, none⟩ = some (.int .i64 a0_0) ∧ w'.cell? ⟨gb224, 1, none⟩ = some (.int .i64 a0_1) ∧ w'.cell? ⟨gb224, 2, none⟩ = some (.int .i64 a0_2) ∧ w'.cell? ⟨gb224, 3, none⟩ = some (.int .i64 a0_3) ∧ w'.cell? ⟨gb224, 4, none⟩ = some (.int .i64 a0_4) ∧ w'.cell? ⟨gb224, 5, none⟩ = some (.int .i64 a0_5) ∧ w'.cell? ⟨gb225, 0, none⟩ = some (.int .i64 a2_0) ∧ w'.cell? ⟨gb225, 1, none⟩ = some (.int .i64 a2_1) ∧ w'.cell? ⟨gb225, 2, none⟩ = some (.bool a2_2)) (ds := []) #[false,false,false,false,false,false,false,false,false,false,false,false] (by kernel_rfl) rfl rfl ⟨bc_ BK224 0, bc_ BK224 1, bc_ BK224 2, bc_ BK224 3, bc_ BK224 4, bc_ BK224 5, bc_ BK225 0, bc_ BK225 1, bc_ BK225 2⟩ (fun hHeld => ?_); refine with_tabW laws_FnExactPointMul.tab2 laws_FnExactPointMul.bits2 (fun HT_ HW_ => ?_)
   generalize w53.drew = w54 at BK224 BK225 BK239 HB hHeld ⊢
   refine pure_ (i := 2) (N := some 23) (v := ?_) (a' := ?_) #[false,false,true,false,false,false,false,false,false,false,false,false] rfl rfl (any_of HT_.out (by kernel_rfl)) (fun _ _ _ h => h) (Or.inl ⟨by rfl, ?_⟩) ?_ ?_; rotate_left
   ·
    intro w'; go_simp
    with_reducible rfl
   rotate_left
   · simp only [Act.put, sA_, sZ_, sS_, i64_w, i32_w]; rfl
   refine take_ (i := 0) (N := some 21) (v := ?_) (a' := ?_) #[true,false,true,false,false,false,false,false,false,false,false,false] rfl rfl (take_ofW HT_.out HW_.out (by kernel_rfl)) (fun _ _ _ h => h) (Or.inl ⟨by rfl, ?_⟩) hHeld ?_ ?_; rotate_left
   ·
    rintro w' ⟨s0, s1, s2, s3, s4, s5, s6, s7, s8⟩; go_simp
    with_reducible rfl
   rotate_left
   · simp only [Act.put, sA_, sZ_, sS_, i64_w, i32_w]; rfl
   refine take_ (i := 3) (N := some 24) (v := ?_) (a' := ?_) #[true,false,true,true,false,false,false,false,false,false,false,false] rfl rfl (take_ofW HT_.out HW_.out (by kernel_rfl)) (fun _ _ _ h => h) (Or.inl ⟨by rfl, ?_⟩) hHeld ?_ ?_; rotate_left
   ·
    rintro w' ⟨s0, s1, s2, s3, s4, s5, s6, s7, s8⟩; go_simp
    with_reducible rfl
   rotate_left
   · simp only [Act.put, sA_, sZ_, sS_, i64_w, i32_w]; rfl
   refine join_ (σ := Nat) 2 #[true,true,true,true,true,true,true,true,true,true,false,false] (fun s_ => [(22, .agg #[.int .i64 t240, .int .i64 t241, .int .i64 t242, .int .i64 t243, .int .i64 t244, .int .i64 t245]), (25, .agg #[.int .i64 t246, .int .i64 t247, .bool t248]), (26, .tuple #[.agg #[.int .i64 t249, .int .i64 t250, .bool t251], .bool t252]), (9, .pointer (some ⟨s_, 0, none⟩)), (20, .tuple #[.agg #[.int .i64 t249, .int .i64 t250, .bool t251], .bool t252]), (27, .agg #[.int .i64 t249, .int .i64 t250, .bool t251]), (28, .bool t252)]) (fun s_ w' => (w'.cell? ⟨gb224, 0, none⟩ = some (.int .i64 a0_0) ∧ w'.cell? ⟨gb224, 1, none⟩ = some (.int .i64 a0_1) ∧ w'.cell? ⟨gb224, 2, none⟩ = some (.int .i64 a0_2) ∧ w'.cell? ⟨gb224, 3, none⟩ = some (.int .i64 a0_3) ∧ w'.cell? ⟨gb224, 4, none⟩ = some (.int .i64 a0_4) ∧ w'.cell? ⟨gb224, 5, none⟩ = some (.int .i64 a0_5) ∧ w'.cell? ⟨gb225, 0, none⟩ = some (.int .i64 a2_0) ∧ w'.cell? ⟨gb225, 1, none⟩ = some (.int .i64 a2_1) ∧ w'.cell? ⟨gb225, 2, none⟩ = some (.bool a2_2)) ∧ (w'.heap[gb224]? = some (.cells #[.int .i64 a0_0, .int .i64 a0_1, .int .i64 a0_2, .int .i64 a0_3, .int .i64 a0_4, .int .i64 a0_5] 23 (0, 0))) ∧ (w'.heap[gb225]? = some (.cells #[.int .i64 a2_0, .int .i64 a2_1, .bool a2_2] 25 (0, 0))) ∧ (w'.heap[gb239]? = some (.cells #[.int .i64 t235, .int .i64 t236, .bool t237] 26 (0, 0))) ∧ (w'.heap[s_]? = some (.cells #[.int .i64 0, .int .i64 0, .bool false] 26 (0, 0))) ∧ (w.heap.size ≤ s_) ∧ (w.heap.size ≤ s_) ∧ (gb224 ≠ s_) ∧ (s_ ≠ gb224) ∧ (gb225 ≠ s_) ∧ (s_ ≠ gb225) ∧ (gb239 ≠ s_) ∧ (s_ ≠ gb239) ∧ (Below w.heap.size w w')) ?_ ?_; rotate_left
   ·
    intro hCont; refine two_ (i := 1) (j := 9) (Ni := some 22) (Nj := some 9) #[true,true,true,true,false,false,false,false,false,false,false,false] #[true,false,true,true,false,false,false,false,false,true,false,false] rfl rfl rfl rfl (two_of HT_.out (by kernel_rfl)) (by decide) (by decide) (fun K hK => ?_) (fun K hK => ?_)
    ·
     refine gs_ Try.func15 #[.agg #[.int .i64 a0_0, .int .i64 a0_1, .int .i64 a0_2, .int .i64 a0_3, .int .i64 a0_4, .int .i64 a0_5]] ?_
     with_reducible refine (laws_toCurve.calls a0_0 a0_1 a0_2 a0_3 a0_4 a0_5 t240 t241 t242 t243 t244 t245 _ A7.out).mono ?_
     rintro e w55 ⟨rfl, hb⟩; refine ⟨_, rfl, ?_⟩; replace BK224 := bb_ BK224 hb; replace BK225 := bb_ BK225 hb; replace BK239 := bb_ BK239 hb; replace HB := bs_ HB hb; (try clear hb); refine hK.out _ _ ⟨bc_ BK224 0, bc_ BK224 1, bc_ BK224 2, bc_ BK224 3, bc_ BK224 4, bc_ BK224 5, bc_ BK225 0, bc_ BK225 1, bc_ BK225 2⟩ (fun hHeld => ?_); clear hK K
     apply norm_
     · show Act.put _ (some 22) _ = _; simp only [Act.put, sA_, sZ_, sS_, i64_w, i32_w]; rfl
     refine two_ (i := 4) (j := 9) (Ni := some 25) (Nj := some 9) #[true,true,true,true,true,false,false,false,false,false,false,false] #[true,true,true,true,false,false,false,false,false,true,false,false] rfl rfl rfl rfl (two_of HT_.out (by kernel_rfl)) (by decide) (by decide) (fun K hK => ?_) (fun K hK => ?_)
     ·
      refine gs_ Try.func16 #[.agg #[.int .i64 a2_0, .int .i64 a2_1, .bool a2_2]] ?_
      with_reducible refine (laws_toPoint.calls a2_0 a2_1 a2_2 t246 t247 t248 _ A8.out).mono ?_
      rintro e w56 ⟨rfl, hb⟩; refine ⟨_, rfl, ?_⟩; replace BK224 := bb_ BK224 hb; replace BK225 := bb_ BK225 hb; replace BK239 := bb_ BK239 hb; replace HB := bs_ HB hb; (try clear hb); refine hK.out _ _ ⟨bc_ BK224 0, bc_ BK224 1, bc_ BK224 2, bc_ BK224 3, bc_ BK224 4, bc_ BK224 5, bc_ BK225 0, bc_ BK225 1, bc_ BK225 2⟩ (fun hHeld => ?_); clear hK K
      apply norm_
      · show Act.put _ (some 25) _ = _; simp only [Act.put, sA_, sZ_, sS_, i64_w, i32_w]; rfl
      refine two_ (i := 5) (j := 9) (Ni := some 26) (Nj := some 9) #[true,true,true,true,true,true,false,false,false,false,false,false] #[true,true,true,true,true,false,false,false,false,true,false,false] rfl rfl rfl rfl (two_of HT_.out (by kernel_rfl)) (by decide) (by decide) (fun K hK => ?_) (fun K hK => ?_)
      ·
       refine gs_ Try.func20 #[.agg #[.int .i64 t240, .int .i64 t241, .int .i64 t242, .int .i64 t243, .int .i64 t244, .int .i64 t245], .int .i64 a1, .agg #[.int .i64 t246, .int .i64 t247, .bool t248]] ?_
       with_reducible refine (impl_PointMul.calls k t240 t241 t242 t243 t244 t245 a1 t246 t247 t248 t249 t250 t251 t252 _ A9.out).mono ?_
       rintro e w57 ⟨rfl, hb⟩; refine ⟨_, rfl, ?_⟩; replace BK224 := bb_ BK224 hb; replace BK225 := bb_ BK225 hb; replace BK239 := bb_ BK239 hb; replace HB := bs_ HB hb; (try clear hb); refine hK.out _ _ ⟨bc_ BK224 0, bc_ BK224 1, bc_ BK224 2, bc_ BK224 3, bc_ BK224 4, bc_ BK224 5, bc_ BK225 0, bc_ BK225 1, bc_ BK225 2⟩ (fun hHeld => ?_); clear hK K
       apply norm_
       · show Act.put _ (some 26) _ = _; simp only [Act.put, sA_, sZ_, sS_, i64_w, i32_w]; rfl
       refine pure_ (i := 6) (N := some 20) (v := ?_) (a' := ?_) #[true,true,true,true,true,true,true,false,false,false,false,false] rfl rfl (any_of HT_.out (by kernel_rfl)) (fun _ _ _ h => h) (Or.inl ⟨by rfl, ?_⟩) ?_ ?_; rotate_left
       ·
        intro w'; go_simp
        with_reducible rfl
       rotate_left
       · simp only [Act.put, sA_, sZ_, sS_, i64_w, i32_w]; rfl
       refine pure_ (i := 7) (N := some 27) (v := ?_) (a' := ?_) #[true,true,true,true,true,true,true,true,false,false,false,false] rfl rfl (any_of HT_.out (by kernel_rfl)) (fun _ _ _ h => h) (Or.inl ⟨by rfl, ?_⟩) ?_ ?_; rotate_left
       ·
        intro w'; go_simp
        with_reducible rfl
       rotate_left
       · simp only [Act.put, sA_, sZ_, sS_, i64_w, i32_w]; rfl
       refine pure_ (i := 8) (N := some 28) (v := ?_) (a' := ?_) #[true,true,true,true,true,true,true,true,true,false,false,false] rfl rfl (any_of HT_.out (by kernel_rfl)) (fun _ _ _ h => h) (Or.inl ⟨by rfl, ?_⟩) ?_ ?_; rotate_left
       ·
        intro w'; go_simp
        with_reducible rfl
       rotate_left
       · simp only [Act.put, sA_, sZ_, sS_, i64_w, i32_w]; rfl
       refine one_ (i := 9) (N := some 9) #[true,true,true,true,true,true,true,true,true,true,false,false] rfl rfl (one_of HT_.out (by kernel_rfl)) (by decide) (fun K hK => ?_); refine box_step ?hg (N := 9) ?hd (cs := #[.int .i64 0, .int .i64 0, .bool false]) (t := 26) ?hr ?_; (case hd => rfl); (case hg => rfl); (case hr => first | (go_simp; done) | (go_simp; rfl))
       intro gb253 hg w58 hbox hb; have n0_ := bb_ BK224 hb; have n1_ := bb_ BK225 hb; have n2_ := bb_ BK239 hb; have n3_ := bs_ HB hb; have n4_ := Aside0.mk hbox; have n5_ := ge_ HB hg; have n6_ := ge_ HB hg; have n7_ := nl_ BK224 hg; have n8_ := nr_ BK224 hg; have n9_ := nl_ BK225 hg; have n10_ := nr_ BK225 hg; have n11_ := nl_ BK239 hg; have n12_ := nr_ BK239 hg; clear BK224 BK225 BK239 HB; have BK224 := n0_; have BK225 := n1_; have BK239 := n2_; have HB := n3_; have BK253 := n4_; have GW253 := n5_; have GE253 := n6_; have NB224_253 := n7_; have NB253_224 := n8_; have NB225_253 := n9_; have NB253_225 := n10_; have NB239_253 := n11_; have NB253_239 := n12_; clear n0_ n1_ n2_ n3_ n4_ n5_ n6_ n7_ n8_ n9_ n10_ n11_ n12_; clear hb hbox hg; refine hK.out _ _ ⟨bc_ BK224 0, bc_ BK224 1, bc_ BK224 2, bc_ BK224 3, bc_ BK224 4, bc_ BK224 5, bc_ BK225 0, bc_ BK225 1, bc_ BK225 2⟩ (fun hHeld => ?_); clear hK K
       apply norm_
       · show Act.put _ (some 9) _ = _; simp only [Act.put, sA_, sZ_, sS_, i64_w, i32_w]; rfl
       exact norm_ (by simp only [putAll, Act.put, sA_, sZ_, sS_]) (hCont (gb253) _ ⟨hHeld, (bk_ BK224), (bk_ BK225), (bk_ BK239), (bk_ BK253), GW253.out, GE253.out, NB224_253.out, NB253_224.out, NB225_253.out, NB253_225.out, NB239_253.out, NB253_239.out, (bw_ HB)⟩)
      ·
       refine box_step ?hg (N := 9) ?hd (cs := #[.int .i64 0, .int .i64 0, .bool false]) (t := 26) ?hr ?_; (case hd => rfl); (case hg => rfl); (case hr => first | (go_simp; done) | (go_simp; rfl))
       intro gb253 hg w57 hbox hb; have n0_ := bb_ BK224 hb; have n1_ := bb_ BK225 hb; have n2_ := bb_ BK239 hb; have n3_ := bs_ HB hb; have n4_ := Aside0.mk hbox; have n5_ := ge_ HB hg; have n6_ := ge_ HB hg; have n7_ := nl_ BK224 hg; have n8_ := nr_ BK224 hg; have n9_ := nl_ BK225 hg; have n10_ := nr_ BK225 hg; have n11_ := nl_ BK239 hg; have n12_ := nr_ BK239 hg; clear BK224 BK225 BK239 HB; have BK224 := n0_; have BK225 := n1_; have BK239 := n2_; have HB := n3_; have BK253 := n4_; have GW253 := n5_; have GE253 := n6_; have NB224_253 := n7_; have NB253_224 := n8_; have NB225_253 := n9_; have NB253_225 := n10_; have NB239_253 := n11_; have NB253_239 := n12_; clear n0_ n1_ n2_ n3_ n4_ n5_ n6_ n7_ n8_ n9_ n10_ n11_ n12_; clear hb hbox hg; refine hK.out _ _ ⟨bc_ BK224 0, bc_ BK224 1, bc_ BK224 2, bc_ BK224 3, bc_ BK224 4, bc_ BK224 5, bc_ BK225 0, bc_ BK225 1, bc_ BK225 2⟩ (fun hHeld => ?_); clear hK K
       apply norm_
       · show Act.put _ (some 9) _ = _; simp only [Act.put, sA_, sZ_, sS_, i64_w, i32_w]; rfl
       refine one_ (i := 5) (N := some 26) #[true,true,true,true,true,true,false,false,false,true,false,false] rfl rfl (one_of HT_.out (by kernel_rfl)) (by decide) (fun K hK => ?_); refine gs_ Try.func20 #[.agg #[.int .i64 t240, .int .i64 t241, .int .i64 t242, .int .i64 t243, .int .i64 t244, .int .i64 t245], .int .i64 a1, .agg #[.int .i64 t246, .int .i64 t247, .bool t248]] ?_
       with_reducible refine (impl_PointMul.calls k t240 t241 t242 t243 t244 t245 a1 t246 t247 t248 t249 t250 t251 t252 _ A9.out).mono ?_
       rintro e w58 ⟨rfl, hb⟩; refine ⟨_, rfl, ?_⟩; replace BK224 := bb_ BK224 hb; replace BK225 := bb_ BK225 hb; replace BK239 := bb_ BK239 hb; replace BK253 := bb_ BK253 hb; replace HB := bs_ HB hb; (try clear hb); refine hK.out _ _ ⟨bc_ BK224 0, bc_ BK224 1, bc_ BK224 2, bc_ BK224 3, bc_ BK224 4, bc_ BK224 5, bc_ BK225 0, bc_ BK225 1, bc_ BK225 2⟩ (fun hHeld => ?_); clear hK K
       apply norm_
       · show Act.put _ (some 26) _ = _; simp only [Act.put, sA_, sZ_, sS_, i64_w, i32_w]; rfl
       refine pure_ (i := 6) (N := some 20) (v := ?_) (a' := ?_) #[true,true,true,true,true,true,true,false,false,true,false,false] rfl rfl (any_of HT_.out (by kernel_rfl)) (fun _ _ _ h => h) (Or.inl ⟨by rfl, ?_⟩) ?_ ?_; rotate_left
       ·
        intro w'; go_simp
        with_reducible rfl
       rotate_left
       · simp only [Act.put, sA_, sZ_, sS_, i64_w, i32_w]; rfl
       refine pure_ (i := 7) (N := some 27) (v := ?_) (a' := ?_) #[true,true,true,true,true,true,true,true,false,true,false,false] rfl rfl (any_of HT_.out (by kernel_rfl)) (fun _ _ _ h => h) (Or.inl ⟨by rfl, ?_⟩) ?_ ?_; rotate_left
       ·
        intro w'; go_simp
        with_reducible rfl
       rotate_left
       · simp only [Act.put, sA_, sZ_, sS_, i64_w, i32_w]; rfl
       refine pure_ (i := 8) (N := some 28) (v := ?_) (a' := ?_) #[true,true,true,true,true,true,true,true,true,true,false,false] rfl rfl (any_of HT_.out (by kernel_rfl)) (fun _ _ _ h => h) (Or.inl ⟨by rfl, ?_⟩) ?_ ?_; rotate_left
       ·
        intro w'; go_simp
        with_reducible rfl
       rotate_left
       · simp only [Act.put, sA_, sZ_, sS_, i64_w, i32_w]; rfl
       exact norm_ (by simp only [putAll, Act.put, sA_, sZ_, sS_]) (hCont (gb253) _ ⟨hHeld, (bk_ BK224), (bk_ BK225), (bk_ BK239), (bk_ BK253), GW253.out, GE253.out, NB224_253.out, NB253_224.out, NB225_253.out, NB253_225.out, NB239_253.out, NB253_239.out, (bw_ HB)⟩)
     ·
      refine box_step ?hg (N := 9) ?hd (cs := #[.int .i64 0, .int .i64 0, .bool false]) (t := 26) ?hr ?_; (case hd => rfl); (case hg => rfl); (case hr => first | (go_simp; done) | (go_simp; rfl))
      intro gb253 hg w56 hbox hb; have n0_ := bb_ BK224 hb; have n1_ := bb_ BK225 hb; have n2_ := bb_ BK239 hb; have n3_ := bs_ HB hb; have n4_ := Aside0.mk hbox; have n5_ := ge_ HB hg; have n6_ := ge_ HB hg; have n7_ := nl_ BK224 hg; have n8_ := nr_ BK224 hg; have n9_ := nl_ BK225 hg; have n10_ := nr_ BK225 hg; have n11_ := nl_ BK239 hg; have n12_ := nr_ BK239 hg; clear BK224 BK225 BK239 HB; have BK224 := n0_; have BK225 := n1_; have BK239 := n2_; have HB := n3_; have BK253 := n4_; have GW253 := n5_; have GE253 := n6_; have NB224_253 := n7_; have NB253_224 := n8_; have NB225_253 := n9_; have NB253_225 := n10_; have NB239_253 := n11_; have NB253_239 := n12_; clear n0_ n1_ n2_ n3_ n4_ n5_ n6_ n7_ n8_ n9_ n10_ n11_ n12_; clear hb hbox hg; refine hK.out _ _ ⟨bc_ BK224 0, bc_ BK224 1, bc_ BK224 2, bc_ BK224 3, bc_ BK224 4, bc_ BK224 5, bc_ BK225 0, bc_ BK225 1, bc_ BK225 2⟩ (fun hHeld => ?_); clear hK K
      apply norm_
      · show Act.put _ (some 9) _ = _; simp only [Act.put, sA_, sZ_, sS_, i64_w, i32_w]; rfl
      refine one_ (i := 4) (N := some 25) #[true,true,true,true,true,false,false,false,false,true,false,false] rfl rfl (one_of HT_.out (by kernel_rfl)) (by decide) (fun K hK => ?_); refine gs_ Try.func16 #[.agg #[.int .i64 a2_0, .int .i64 a2_1, .bool a2_2]] ?_
      with_reducible refine (laws_toPoint.calls a2_0 a2_1 a2_2 t246 t247 t248 _ A8.out).mono ?_
      rintro e w57 ⟨rfl, hb⟩; refine ⟨_, rfl, ?_⟩; replace BK224 := bb_ BK224 hb; replace BK225 := bb_ BK225 hb; replace BK239 := bb_ BK239 hb; replace BK253 := bb_ BK253 hb; replace HB := bs_ HB hb; (try clear hb); refine hK.out _ _ ⟨bc_ BK224 0, bc_ BK224 1, bc_ BK224 2, bc_ BK224 3, bc_ BK224 4, bc_ BK224 5, bc_ BK225 0, bc_ BK225 1, bc_ BK225 2⟩ (fun hHeld => ?_); clear hK K
      apply norm_
      · show Act.put _ (some 25) _ = _; simp only [Act.put, sA_, sZ_, sS_, i64_w, i32_w]; rfl
      refine one_ (i := 5) (N := some 26) #[true,true,true,true,true,true,false,false,false,true,false,false] rfl rfl (one_of HT_.out (by kernel_rfl)) (by decide) (fun K hK => ?_); refine gs_ Try.func20 #[.agg #[.int .i64 t240, .int .i64 t241, .int .i64 t242, .int .i64 t243, .int .i64 t244, .int .i64 t245], .int .i64 a1, .agg #[.int .i64 t246, .int .i64 t247, .bool t248]] ?_
      with_reducible refine (impl_PointMul.calls k t240 t241 t242 t243 t244 t245 a1 t246 t247 t248 t249 t250 t251 t252 _ A9.out).mono ?_
      rintro e w58 ⟨rfl, hb⟩; refine ⟨_, rfl, ?_⟩; replace BK224 := bb_ BK224 hb; replace BK225 := bb_ BK225 hb; replace BK239 := bb_ BK239 hb; replace BK253 := bb_ BK253 hb; replace HB := bs_ HB hb; (try clear hb); refine hK.out _ _ ⟨bc_ BK224 0, bc_ BK224 1, bc_ BK224 2, bc_ BK224 3, bc_ BK224 4, bc_ BK224 5, bc_ BK225 0, bc_ BK225 1, bc_ BK225 2⟩ (fun hHeld => ?_); clear hK K
      apply norm_
      · show Act.put _ (some 26) _ = _; simp only [Act.put, sA_, sZ_, sS_, i64_w, i32_w]; rfl
      refine pure_ (i := 6) (N := some 20) (v := ?_) (a' := ?_) #[true,true,true,true,true,true,true,false,false,true,false,false] rfl rfl (any_of HT_.out (by kernel_rfl)) (fun _ _ _ h => h) (Or.inl ⟨by rfl, ?_⟩) ?_ ?_; rotate_left
      ·
       intro w'; go_simp
       with_reducible rfl
      rotate_left
      · simp only [Act.put, sA_, sZ_, sS_, i64_w, i32_w]; rfl
      refine pure_ (i := 7) (N := some 27) (v := ?_) (a' := ?_) #[true,true,true,true,true,true,true,true,false,true,false,false] rfl rfl (any_of HT_.out (by kernel_rfl)) (fun _ _ _ h => h) (Or.inl ⟨by rfl, ?_⟩) ?_ ?_; rotate_left
      ·
       intro w'; go_simp
       with_reducible rfl
      rotate_left
      · simp only [Act.put, sA_, sZ_, sS_, i64_w, i32_w]; rfl
      refine pure_ (i := 8) (N := some 28) (v := ?_) (a' := ?_) #[true,true,true,true,true,true,true,true,true,true,false,false] rfl rfl (any_of HT_.out (by kernel_rfl)) (fun _ _ _ h => h) (Or.inl ⟨by rfl, ?_⟩) ?_ ?_; rotate_left
      ·
       intro w'; go_simp
       with_reducible rfl
      rotate_left
      · simp only [Act.put, sA_, sZ_, sS_, i64_w, i32_w]; rfl
      exact norm_ (by simp only [putAll, Act.put, sA_, sZ_, sS_]) (hCont (gb253) _ ⟨hHeld, (bk_ BK224), (bk_ BK225), (bk_ BK239), (bk_ BK253), GW253.out, GE253.out, NB224_253.out, NB253_224.out, NB225_253.out, NB253_225.out, NB239_253.out, NB253_239.out, (bw_ HB)⟩)
    ·
     refine box_step ?hg (N := 9) ?hd (cs := #[.int .i64 0, .int .i64 0, .bool false]) (t := 26) ?hr ?_; (case hd => rfl); (case hg => rfl); (case hr => first | (go_simp; done) | (go_simp; rfl))
     intro gb253 hg w55 hbox hb; have n0_ := bb_ BK224 hb; have n1_ := bb_ BK225 hb; have n2_ := bb_ BK239 hb; have n3_ := bs_ HB hb; have n4_ := Aside0.mk hbox; have n5_ := ge_ HB hg; have n6_ := ge_ HB hg; have n7_ := nl_ BK224 hg; have n8_ := nr_ BK224 hg; have n9_ := nl_ BK225 hg; have n10_ := nr_ BK225 hg; have n11_ := nl_ BK239 hg; have n12_ := nr_ BK239 hg; clear BK224 BK225 BK239 HB; have BK224 := n0_; have BK225 := n1_; have BK239 := n2_; have HB := n3_; have BK253 := n4_; have GW253 := n5_; have GE253 := n6_; have NB224_253 := n7_; have NB253_224 := n8_; have NB225_253 := n9_; have NB253_225 := n10_; have NB239_253 := n11_; have NB253_239 := n12_; clear n0_ n1_ n2_ n3_ n4_ n5_ n6_ n7_ n8_ n9_ n10_ n11_ n12_; clear hb hbox hg; refine hK.out _ _ ⟨bc_ BK224 0, bc_ BK224 1, bc_ BK224 2, bc_ BK224 3, bc_ BK224 4, bc_ BK224 5, bc_ BK225 0, bc_ BK225 1, bc_ BK225 2⟩ (fun hHeld => ?_); clear hK K
     apply norm_
     · show Act.put _ (some 9) _ = _; simp only [Act.put, sA_, sZ_, sS_, i64_w, i32_w]; rfl
     refine one_ (i := 1) (N := some 22) #[true,true,true,true,false,false,false,false,false,true,false,false] rfl rfl (one_of HT_.out (by kernel_rfl)) (by decide) (fun K hK => ?_); refine gs_ Try.func15 #[.agg #[.int .i64 a0_0, .int .i64 a0_1, .int .i64 a0_2, .int .i64 a0_3, .int .i64 a0_4, .int .i64 a0_5]] ?_
     with_reducible refine (laws_toCurve.calls a0_0 a0_1 a0_2 a0_3 a0_4 a0_5 t240 t241 t242 t243 t244 t245 _ A7.out).mono ?_
     rintro e w56 ⟨rfl, hb⟩; refine ⟨_, rfl, ?_⟩; replace BK224 := bb_ BK224 hb; replace BK225 := bb_ BK225 hb; replace BK239 := bb_ BK239 hb; replace BK253 := bb_ BK253 hb; replace HB := bs_ HB hb; (try clear hb); refine hK.out _ _ ⟨bc_ BK224 0, bc_ BK224 1, bc_ BK224 2, bc_ BK224 3, bc_ BK224 4, bc_ BK224 5, bc_ BK225 0, bc_ BK225 1, bc_ BK225 2⟩ (fun hHeld => ?_); clear hK K
     apply norm_
     · show Act.put _ (some 22) _ = _; simp only [Act.put, sA_, sZ_, sS_, i64_w, i32_w]; rfl
     refine one_ (i := 4) (N := some 25) #[true,true,true,true,true,false,false,false,false,true,false,false] rfl rfl (one_of HT_.out (by kernel_rfl)) (by decide) (fun K hK => ?_); refine gs_ Try.func16 #[.agg #[.int .i64 a2_0, .int .i64 a2_1, .bool a2_2]] ?_
     with_reducible refine (laws_toPoint.calls a2_0 a2_1 a2_2 t246 t247 t248 _ A8.out).mono ?_
     rintro e w57 ⟨rfl, hb⟩; refine ⟨_, rfl, ?_⟩; replace BK224 := bb_ BK224 hb; replace BK225 := bb_ BK225 hb; replace BK239 := bb_ BK239 hb; replace BK253 := bb_ BK253 hb; replace HB := bs_ HB hb; (try clear hb); refine hK.out _ _ ⟨bc_ BK224 0, bc_ BK224 1, bc_ BK224 2, bc_ BK224 3, bc_ BK224 4, bc_ BK224 5, bc_ BK225 0, bc_ BK225 1, bc_ BK225 2⟩ (fun hHeld => ?_); clear hK K
     apply norm_
     · show Act.put _ (some 25) _ = _; simp only [Act.put, sA_, sZ_, sS_, i64_w, i32_w]; rfl
     refine one_ (i := 5) (N := some 26) #[true,true,true,true,true,true,false,false,false,true,false,false] rfl rfl (one_of HT_.out (by kernel_rfl)) (by decide) (fun K hK => ?_); refine gs_ Try.func20 #[.agg #[.int .i64 t240, .int .i64 t241, .int .i64 t242, .int .i64 t243, .int .i64 t244, .int .i64 t245], .int .i64 a1, .agg #[.int .i64 t246, .int .i64 t247, .bool t248]] ?_
     with_reducible refine (impl_PointMul.calls k t240 t241 t242 t243 t244 t245 a1 t246 t247 t248 t249 t250 t251 t252 _ A9.out).mono ?_
     rintro e w58 ⟨rfl, hb⟩; refine ⟨_, rfl, ?_⟩; replace BK224 := bb_ BK224 hb; replace BK225 := bb_ BK225 hb; replace BK239 := bb_ BK239 hb; replace BK253 := bb_ BK253 hb; replace HB := bs_ HB hb; (try clear hb); refine hK.out _ _ ⟨bc_ BK224 0, bc_ BK224 1, bc_ BK224 2, bc_ BK224 3, bc_ BK224 4, bc_ BK224 5, bc_ BK225 0, bc_ BK225 1, bc_ BK225 2⟩ (fun hHeld => ?_); clear hK K
     apply norm_
     · show Act.put _ (some 26) _ = _; simp only [Act.put, sA_, sZ_, sS_, i64_w, i32_w]; rfl
     refine pure_ (i := 6) (N := some 20) (v := ?_) (a' := ?_) #[true,true,true,true,true,true,true,false,false,true,false,false] rfl rfl (any_of HT_.out (by kernel_rfl)) (fun _ _ _ h => h) (Or.inl ⟨by rfl, ?_⟩) ?_ ?_; rotate_left
     ·
      intro w'; go_simp
      with_reducible rfl
     rotate_left
     · simp only [Act.put, sA_, sZ_, sS_, i64_w, i32_w]; rfl
     refine pure_ (i := 7) (N := some 27) (v := ?_) (a' := ?_) #[true,true,true,true,true,true,true,true,false,true,false,false] rfl rfl (any_of HT_.out (by kernel_rfl)) (fun _ _ _ h => h) (Or.inl ⟨by rfl, ?_⟩) ?_ ?_; rotate_left
     ·
      intro w'; go_simp
      with_reducible rfl
     rotate_left
     · simp only [Act.put, sA_, sZ_, sS_, i64_w, i32_w]; rfl
     refine pure_ (i := 8) (N := some 28) (v := ?_) (a' := ?_) #[true,true,true,true,true,true,true,true,true,true,false,false] rfl rfl (any_of HT_.out (by kernel_rfl)) (fun _ _ _ h => h) (Or.inl ⟨by rfl, ?_⟩) ?_ ?_; rotate_left
     ·
      intro w'; go_simp
      with_reducible rfl
     rotate_left
     · simp only [Act.put, sA_, sZ_, sS_, i64_w, i32_w]; rfl
     exact norm_ (by simp only [putAll, Act.put, sA_, sZ_, sS_]) (hCont (gb253) _ ⟨hHeld, (bk_ BK224), (bk_ BK225), (bk_ BK239), (bk_ BK253), GW253.out, GE253.out, NB224_253.out, NB253_224.out, NB225_253.out, NB253_225.out, NB239_253.out, NB253_239.out, (bw_ HB)⟩)
   rintro gb253 w59 ⟨hS_, h0_, h1_, h2_, h3_, h4_, h5_, h6_, h7_, h8_, h9_, h10_, h11_, h12_⟩; replace BK224 := Aside0.mk h0_; replace BK225 := Aside0.mk h1_; replace BK239 := Aside0.mk h2_; have BK253 := Aside0.mk h3_; have GW253 := Aside0.mk h4_; have GE253 := Aside0.mk h5_; have NB224_253 := Aside0.mk h6_; have NB253_224 := Aside0.mk h7_; have NB225_253 := Aside0.mk h8_; have NB253_225 := Aside0.mk h9_; have NB239_253 := Aside0.mk h10_; have NB253_239 := Aside0.mk h11_; replace HB := Aside0.mk h12_; clear h0_ h1_ h2_ h3_ h4_ h5_ h6_ h7_ h8_ h9_ h10_ h11_ h12_; have hHeld := hS_
   apply norm_
   · simp only [putAll, Act.put, sA_, sZ_, sS_]; rfl
   refine one_ (i := 10) (N := none) #[true,true,true,true,true,true,true,true,true,true,true,false] rfl rfl (one_of HT_.out (by kernel_rfl)) (by decide) (fun K hK => ?_)
   have hs60 : w59.cell? ⟨gb253, 0, none⟩ = some (.int .i64 0) := bc_ BK253 0
   have hfs60 := blk_frozen BK253.out 0; have hns60_0 := NB224_253.out; have hns60_1 := NB225_253.out; have hns60_2 := NB239_253.out; have hms60_0 := NB253_224.out; have hms60_1 := NB253_225.out; have hms60_2 := NB253_239.out
   have hs61 : w59.cell? ⟨gb253, 1, none⟩ = some (.int .i64 0) := bc_ BK253 1
   have hfs61 := blk_frozen BK253.out 1; have hns61_0 := NB224_253.out; have hns61_1 := NB225_253.out; have hns61_2 := NB239_253.out; have hms61_0 := NB253_224.out; have hms61_1 := NB253_225.out; have hms61_2 := NB253_239.out
   have hs62 : w59.cell? ⟨gb253, 2, none⟩ = some (.bool false) := bc_ BK253 2
   have hfs62 := blk_frozen BK253.out 2; have hns62_0 := NB224_253.out; have hns62_1 := NB225_253.out; have hns62_2 := NB239_253.out; have hms62_0 := NB253_224.out; have hms62_1 := NB253_225.out; have hms62_2 := NB253_239.out; refine skip_ (w1 := ?_) (by rfl) rfl ?_ ?_; rotate_left
   · go_simp; rfl
   refine hK.out _ _ ⟨((cell_far (p := ⟨gb253, _, none⟩) NB224_253.out _).trans (((cell_far (p := ⟨gb253, _, none⟩) NB224_253.out _).trans (((cell_far (p := ⟨gb253, _, none⟩) NB224_253.out _).trans (hHeld.1)))))), ((cell_far (p := ⟨gb253, _, none⟩) NB224_253.out _).trans (((cell_far (p := ⟨gb253, _, none⟩) NB224_253.out _).trans (((cell_far (p := ⟨gb253, _, none⟩) NB224_253.out _).trans (hHeld.2.1)))))), ((cell_far (p := ⟨gb253, _, none⟩) NB224_253.out _).trans (((cell_far (p := ⟨gb253, _, none⟩) NB224_253.out _).trans (((cell_far (p := ⟨gb253, _, none⟩) NB224_253.out _).trans (hHeld.2.2.1)))))), ((cell_far (p := ⟨gb253, _, none⟩) NB224_253.out _).trans (((cell_far (p := ⟨gb253, _, none⟩) NB224_253.out _).trans (((cell_far (p := ⟨gb253, _, none⟩) NB224_253.out _).trans (hHeld.2.2.2.1)))))), ((cell_far (p := ⟨gb253, _, none⟩) NB224_253.out _).trans (((cell_far (p := ⟨gb253, _, none⟩) NB224_253.out _).trans (((cell_far (p := ⟨gb253, _, none⟩) NB224_253.out _).trans (hHeld.2.2.2.2.1)))))), ((cell_far (p := ⟨gb253, _, none⟩) NB224_253.out _).trans (((cell_far (p := ⟨gb253, _, none⟩) NB224_253.out _).trans (((cell_far (p := ⟨gb253, _, none⟩) NB224_253.out _).trans (hHeld.2.2.2.2.2.1)))))), ((cell_far (p := ⟨gb253, _, none⟩) NB225_253.out _).trans (((cell_far (p := ⟨gb253, _, none⟩) NB225_253.out _).trans (((cell_far (p := ⟨gb253, _, none⟩) NB225_253.out _).trans (hHeld.2.2.2.2.2.2.1)))))), ((cell_far (p := ⟨gb253, _, none⟩) NB225_253.out _).trans (((cell_far (p := ⟨gb253, _, none⟩) NB225_253.out _).trans (((cell_far (p := ⟨gb253, _, none⟩) NB225_253.out _).trans (hHeld.2.2.2.2.2.2.2.1)))))), ((cell_far (p := ⟨gb253, _, none⟩) NB225_253.out _).trans (((cell_far (p := ⟨gb253, _, none⟩) NB225_253.out _).trans (((cell_far (p := ⟨gb253, _, none⟩) NB225_253.out _).trans (hHeld.2.2.2.2.2.2.2.2))))))⟩ (fun hHeld => ?_); clear hK K; refine pure_ (i := 11) (N := some 10) (v := ?_) (a' := ?_) #[true,true,true,true,true,true,true,true,true,true,true,true] rfl rfl (any_of HT_.out (by kernel_rfl)) (fun _ _ _ h => h) (Or.inl ⟨by rfl, ?_⟩) ?_ ?_; rotate_left
   ·
    intro w'; go_simp
    with_reducible rfl
   rotate_left
   · simp only [Act.put, sA_, sZ_, sS_, i64_w, i32_w]; rfl
   refine done_ (done_of HT_.out (by kernel_rfl)) ?_; have hnb63 := NB253_224.out; have hnc63 := NB224_253.out; have hnb64 := NB253_225.out; have hnc64 := NB225_253.out; have hnb65 := NB253_239.out; have hnc65 := NB239_253.out
   have hcz66_0 : w59.cell? ⟨gb253, 0, none⟩ = some (.int .i64 0) := bc_ BK253 0
   have hcz66_1 : w59.cell? ⟨gb253, 1, none⟩ = some (.int .i64 0) := bc_ BK253 1
   have hcz66_2 : w59.cell? ⟨gb253, 2, none⟩ = some (.bool false) := bc_ BK253 2
   have hfz66_0 := blk_frozen BK253.out 0; have hfz66_1 := blk_frozen BK253.out 1; have hfz66_2 := blk_frozen BK253.out 2; have hnb67 := NB239_224.out; have hnc67 := NB224_239.out; have hnb68 := NB239_225.out; have hnc68 := NB225_239.out
   have hcz69_0 : w59.cell? ⟨gb239, 0, none⟩ = some (.int .i64 t235) := bc_ BK239 0
   have hcz69_1 : w59.cell? ⟨gb239, 1, none⟩ = some (.int .i64 t236) := bc_ BK239 1
   have hcz69_2 : w59.cell? ⟨gb239, 2, none⟩ = some (.bool t237) := bc_ BK239 2
   have hfz69_0 := blk_frozen BK239.out 0; have hfz69_1 := blk_frozen BK239.out 1; have hfz69_2 := blk_frozen BK239.out 2
   try go_wp2_with (first | ((with_reducible refine gate_callee (f := 18) rfl ?_); refine goesL_ (some 31) rfl rfl Try.func18 (by kernel_rfl) rfl #[.agg #[.int .i64 t249, .int .i64 t250, .bool t251], .agg #[.int .i64 t235, .int .i64 t236, .bool t237]] rfl (by (try simp only [List.map_toArray, List.map_cons, List.map_nil]); first | done | rfl | (simp only [List.length_drop, List.length_take]; rfl)) ?_; (with_reducible refine (laws_eqPoint.calls t249 t250 t251 t235 t236 t237 true _ A10.out).mono ?_); rintro e w70 ⟨rfl, hb⟩; refine ⟨_, rfl, ?_⟩; have n0_ := Aside0.mk (blk_below (g := gb224) (o := .cells #[.int .i64 a0_0, .int .i64 a0_1, .int .i64 a0_2, .int .i64 a0_3, .int .i64 a0_4, .int .i64 a0_5] 23 (0, 0)) (by (with_reducible repeat (first | refine blk_drewN ?_ _ | refine blk_drew ?_ | refine blk_alloc ?_ _)); refine blk_far ?_ NB224_253.out _; (with_reducible repeat (first | refine blk_drewN ?_ _ | refine blk_drew ?_ | refine blk_alloc ?_ _)); refine blk_far ?_ NB224_253.out _; (with_reducible repeat (first | refine blk_drewN ?_ _ | refine blk_drew ?_ | refine blk_alloc ?_ _)); refine blk_far ?_ NB224_253.out _; (with_reducible repeat (first | refine blk_drewN ?_ _ | refine blk_drew ?_ | refine blk_alloc ?_ _)); exact BK224.out) hb); have n1_ := Aside0.mk (blk_below (g := gb225) (o := .cells #[.int .i64 a2_0, .int .i64 a2_1, .bool a2_2] 25 (0, 0)) (by (with_reducible repeat (first | refine blk_drewN ?_ _ | refine blk_drew ?_ | refine blk_alloc ?_ _)); refine blk_far ?_ NB225_253.out _; (with_reducible repeat (first | refine blk_drewN ?_ _ | refine blk_drew ?_ | refine blk_alloc ?_ _)); refine blk_far ?_ NB225_253.out _; (with_reducible repeat (first | refine blk_drewN ?_ _ | refine blk_drew ?_ | refine blk_alloc ?_ _)); refine blk_far ?_ NB225_253.out _; (with_reducible repeat (first | refine blk_drewN ?_ _ | refine blk_drew ?_ | refine blk_alloc ?_ _)); exact BK225.out) hb); have n2_ := Aside0.mk (blk_below (g := gb239) (o := .cells #[.int .i64 t235, .int .i64 t236, .bool t237] 26 (0, 0)) (by (with_reducible repeat (first | refine blk_drewN ?_ _ | refine blk_drew ?_ | refine blk_alloc ?_ _)); refine blk_far ?_ NB239_253.out _; (with_reducible repeat (first | refine blk_drewN ?_ _ | refine blk_drew ?_ | refine blk_alloc ?_ _)); refine blk_far ?_ NB239_253.out _; (with_reducible repeat (first | refine blk_drewN ?_ _ | refine blk_drew ?_ | refine blk_alloc ?_ _)); refine blk_far ?_ NB239_253.out _; (with_reducible repeat (first | refine blk_drewN ?_ _ | refine blk_drew ?_ | refine blk_alloc ?_ _)); exact BK239.out) hb); have n3_ := Aside0.mk (blk_below (g := gb253) (o := .cells #[.int .i64 t249, .int .i64 t250, .bool t251] 26 (0, 0)) (by (with_reducible repeat (first | refine blk_drewN ?_ _ | refine blk_drew ?_ | refine blk_alloc ?_ _)); refine blk_put (cs := #[.int .i64 t249, .int .i64 t250, .bool false]) ?_ 2 _ rfl; (with_reducible repeat (first | refine blk_drewN ?_ _ | refine blk_drew ?_ | refine blk_alloc ?_ _)); refine blk_put (cs := #[.int .i64 t249, .int .i64 0, .bool false]) ?_ 1 _ rfl; (with_reducible repeat (first | refine blk_drewN ?_ _ | refine blk_drew ?_ | refine blk_alloc ?_ _)); refine blk_put (cs := #[.int .i64 0, .int .i64 0, .bool false]) ?_ 0 _ rfl; (with_reducible repeat (first | refine blk_drewN ?_ _ | refine blk_drew ?_ | refine blk_alloc ?_ _)); exact BK253.out) hb); have n4_ := bs_ HB hb; clear BK224; clear BK225; clear BK239; clear BK253; clear HB; have BK224 := n0_; have BK225 := n1_; have BK239 := n2_; have BK253 := n3_; have HB := n4_; clear n0_ n1_ n2_ n3_ n4_; (try clear hb); (try clear hb2); (try clear hk); (try clear hi)))
   go_ret
   exact ⟨by first | rfl | (simp [errW_none, errW_some] <;> rfl) | (simp [*, errW_none, errW_some] <;> rfl), by repeat (first | (with_reducible first | exact HB.out | apply below_alloc | apply pw_below_drewN | apply below_drew1 | refine below_set ?_ GE224.out | refine below_set ?_ GE225.out | refine below_set ?_ GE239.out | refine below_set ?_ GE253.out) | exact HB.out)⟩
 ·
  replace c11 := Bool.eq_false_iff.mpr c11; subst c11
  have H1 : (some false) = some r := by rw [if_neg (show ¬ (false = true) by decide)] at H; exact H
  clear H; have H := H1; clear H1; obtain rfl := Option.some.inj H
  go_enter Try.func4, Try.ntmps4
  try go_wp2_with (first | ((with_reducible refine gate_dst (N := 3) rfl ?_); refine box_event ?hg (N := 3) ?hd (cs := #[.int .i64 a0_0, .int .i64 a0_1, .int .i64 a0_2, .int .i64 a0_3, .int .i64 a0_4, .int .i64 a0_5]) (t := 23) ?hr ?_; (case hd => rfl); (case hg => rfl); (case hr => first | (go_simp; done) | (go_simp; rfl)); intro gb224 hg w71 hbox hb; have n0_ := bs_ HB hb; have n1_ := Aside0.mk hbox; have n2_ := ge_ HB hg; have n3_ := ge_ HB hg; clear HB; have HB := n0_; have BK224 := n1_; have GW224 := n2_; have GE224 := n3_; clear n0_ n1_ n2_ n3_; clear hb hbox hg) | ((with_reducible refine gate_dst (N := 5) rfl ?_); refine box_event ?hg (N := 5) ?hd (cs := #[.int .i64 a2_0, .int .i64 a2_1, .bool a2_2]) (t := 25) ?hr ?_; (case hd => rfl); (case hg => rfl); (case hr => first | (go_simp; done) | (go_simp; rfl)); intro gb225 hg w72 hbox hb; have n0_ := bb_ BK224 hb; have n1_ := bs_ HB hb; have n2_ := Aside0.mk hbox; have n3_ := ge_ HB hg; have n4_ := ge_ HB hg; have n5_ := nl_ BK224 hg; have n6_ := nr_ BK224 hg; clear BK224; clear HB; have BK224 := n0_; have HB := n1_; have BK225 := n2_; have GW225 := n3_; have GE225 := n4_; have NB224_225 := n5_; have NB225_224 := n6_; clear n0_ n1_ n2_ n3_ n4_ n5_ n6_; clear hb hbox hg))
  replace BK224 := Aside0.mk (blk_drew BK224.out); replace BK225 := Aside0.mk (blk_drew BK225.out); replace HB := Aside0.mk (below_drew1 HB.out); refine start_ (n := 12) (S := fun w' => w'.cell? ⟨gb224, 0, none⟩ = some (.int .i64 a0_0) ∧ w'.cell? ⟨gb224, 1, none⟩ = some (.int .i64 a0_1) ∧ w'.cell? ⟨gb224, 2, none⟩ = some (.int .i64 a0_2) ∧ w'.cell? ⟨gb224, 3, none⟩ = some (.int .i64 a0_3) ∧ w'.cell? ⟨gb224, 4, none⟩ = some (.int .i64 a0_4) ∧ w'.cell? ⟨gb224, 5, none⟩ = some (.int .i64 a0_5) ∧ w'.cell? ⟨gb225, 0, none⟩ = some (.int .i64 a2_0) ∧ w'.cell? ⟨gb225, 1, none⟩ = some (.int .i64 a2_1) ∧ w'.cell? ⟨gb225, 2, none⟩ = some (.bool a2_2)) (ds := []) #[false,false,false,false,false,false,false,false,false,false,false,false] (by kernel_rfl) rfl rfl ⟨bc_ BK224 0, bc_ BK224 1, bc_ BK224 2, bc_ BK224 3, bc_ BK224 4, bc_ BK224 5, bc_ BK225 0, bc_ BK225 1, bc_ BK225 2⟩ (fun hHeld => ?_); refine with_tabW laws_FnExactPointMul.tab1 laws_FnExactPointMul.bits1 (fun HT_ HW_ => ?_)
  generalize w72.drew = w73 at BK224 BK225 HB hHeld ⊢
  refine pure_ (i := 2) (N := some 14) (v := ?_) (a' := ?_) #[false,false,true,false,false,false,false,false,false,false,false,false] rfl rfl (any_of HT_.out (by kernel_rfl)) (fun _ _ _ h => h) (Or.inl ⟨by rfl, ?_⟩) ?_ ?_; rotate_left
  ·
   intro w'; go_simp
   with_reducible rfl
  rotate_left
  · simp only [Act.put, sA_, sZ_, sS_, i64_w, i32_w]; rfl
  refine take_ (i := 0) (N := some 12) (v := ?_) (a' := ?_) #[true,false,true,false,false,false,false,false,false,false,false,false] rfl rfl (take_ofW HT_.out HW_.out (by kernel_rfl)) (fun _ _ _ h => h) (Or.inl ⟨by rfl, ?_⟩) hHeld ?_ ?_; rotate_left
  ·
   rintro w' ⟨s0, s1, s2, s3, s4, s5, s6, s7, s8⟩; go_simp
   with_reducible rfl
  rotate_left
  · simp only [Act.put, sA_, sZ_, sS_, i64_w, i32_w]; rfl
  refine take_ (i := 3) (N := some 15) (v := ?_) (a' := ?_) #[true,false,true,true,false,false,false,false,false,false,false,false] rfl rfl (take_ofW HT_.out HW_.out (by kernel_rfl)) (fun _ _ _ h => h) (Or.inl ⟨by rfl, ?_⟩) hHeld ?_ ?_; rotate_left
  ·
   rintro w' ⟨s0, s1, s2, s3, s4, s5, s6, s7, s8⟩; go_simp
   with_reducible rfl
  rotate_left
  · simp only [Act.put, sA_, sZ_, sS_, i64_w, i32_w]; rfl
  refine join_ (σ := Nat) 2 #[true,true,true,true,true,true,true,true,true,true,false,false] (fun s_ => [(13, .agg #[.int .i64 t226, .int .i64 t227, .int .i64 t228, .int .i64 t229, .int .i64 t230, .int .i64 t231]), (16, .agg #[.int .i64 t232, .int .i64 t233, .bool t234]), (17, .tuple #[.agg #[.int .i64 t235, .int .i64 t236, .bool t237], .bool t238]), (7, .pointer (some ⟨s_, 0, none⟩)), (11, .tuple #[.agg #[.int .i64 t235, .int .i64 t236, .bool t237], .bool t238]), (18, .agg #[.int .i64 t235, .int .i64 t236, .bool t237]), (19, .bool t238)]) (fun s_ w' => (w'.cell? ⟨gb224, 0, none⟩ = some (.int .i64 a0_0) ∧ w'.cell? ⟨gb224, 1, none⟩ = some (.int .i64 a0_1) ∧ w'.cell? ⟨gb224, 2, none⟩ = some (.int .i64 a0_2) ∧ w'.cell? ⟨gb224, 3, none⟩ = some (.int .i64 a0_3) ∧ w'.cell? ⟨gb224, 4, none⟩ = some (.int .i64 a0_4) ∧ w'.cell? ⟨gb224, 5, none⟩ = some (.int .i64 a0_5) ∧ w'.cell? ⟨gb225, 0, none⟩ = some (.int .i64 a2_0) ∧ w'.cell? ⟨gb225, 1, none⟩ = some (.int .i64 a2_1) ∧ w'.cell? ⟨gb225, 2, none⟩ = some (.bool a2_2)) ∧ (w'.heap[gb224]? = some (.cells #[.int .i64 a0_0, .int .i64 a0_1, .int .i64 a0_2, .int .i64 a0_3, .int .i64 a0_4, .int .i64 a0_5] 23 (0, 0))) ∧ (w'.heap[gb225]? = some (.cells #[.int .i64 a2_0, .int .i64 a2_1, .bool a2_2] 25 (0, 0))) ∧ (w'.heap[s_]? = some (.cells #[.int .i64 0, .int .i64 0, .bool false] 26 (0, 0))) ∧ (w.heap.size ≤ s_) ∧ (w.heap.size ≤ s_) ∧ (gb224 ≠ s_) ∧ (s_ ≠ gb224) ∧ (gb225 ≠ s_) ∧ (s_ ≠ gb225) ∧ (Below w.heap.size w w')) ?_ ?_; rotate_left
  ·
   intro hCont; refine two_ (i := 1) (j := 9) (Ni := some 13) (Nj := some 7) #[true,true,true,true,false,false,false,false,false,false,false,false] #[true,false,true,true,false,false,false,false,false,true,false,false] rfl rfl rfl rfl (two_of HT_.out (by kernel_rfl)) (by decide) (by decide) (fun K hK => ?_) (fun K hK => ?_)
   ·
    refine gs_ Try.func15 #[.agg #[.int .i64 a0_0, .int .i64 a0_1, .int .i64 a0_2, .int .i64 a0_3, .int .i64 a0_4, .int .i64 a0_5]] ?_
    with_reducible refine (laws_toCurve.calls a0_0 a0_1 a0_2 a0_3 a0_4 a0_5 t226 t227 t228 t229 t230 t231 _ A4.out).mono ?_
    rintro e w74 ⟨rfl, hb⟩; refine ⟨_, rfl, ?_⟩; replace BK224 := bb_ BK224 hb; replace BK225 := bb_ BK225 hb; replace HB := bs_ HB hb; (try clear hb); refine hK.out _ _ ⟨bc_ BK224 0, bc_ BK224 1, bc_ BK224 2, bc_ BK224 3, bc_ BK224 4, bc_ BK224 5, bc_ BK225 0, bc_ BK225 1, bc_ BK225 2⟩ (fun hHeld => ?_); clear hK K
    apply norm_
    · show Act.put _ (some 13) _ = _; simp only [Act.put, sA_, sZ_, sS_, i64_w, i32_w]; rfl
    refine two_ (i := 4) (j := 9) (Ni := some 16) (Nj := some 7) #[true,true,true,true,true,false,false,false,false,false,false,false] #[true,true,true,true,false,false,false,false,false,true,false,false] rfl rfl rfl rfl (two_of HT_.out (by kernel_rfl)) (by decide) (by decide) (fun K hK => ?_) (fun K hK => ?_)
    ·
     refine gs_ Try.func16 #[.agg #[.int .i64 a2_0, .int .i64 a2_1, .bool a2_2]] ?_
     with_reducible refine (laws_toPoint.calls a2_0 a2_1 a2_2 t232 t233 t234 _ A5.out).mono ?_
     rintro e w75 ⟨rfl, hb⟩; refine ⟨_, rfl, ?_⟩; replace BK224 := bb_ BK224 hb; replace BK225 := bb_ BK225 hb; replace HB := bs_ HB hb; (try clear hb); refine hK.out _ _ ⟨bc_ BK224 0, bc_ BK224 1, bc_ BK224 2, bc_ BK224 3, bc_ BK224 4, bc_ BK224 5, bc_ BK225 0, bc_ BK225 1, bc_ BK225 2⟩ (fun hHeld => ?_); clear hK K
     apply norm_
     · show Act.put _ (some 16) _ = _; simp only [Act.put, sA_, sZ_, sS_, i64_w, i32_w]; rfl
     refine two_ (i := 5) (j := 9) (Ni := some 17) (Nj := some 7) #[true,true,true,true,true,true,false,false,false,false,false,false] #[true,true,true,true,true,false,false,false,false,true,false,false] rfl rfl rfl rfl (two_of HT_.out (by kernel_rfl)) (by decide) (by decide) (fun K hK => ?_) (fun K hK => ?_)
     ·
      refine gs_ Try.func19 #[.agg #[.int .i64 t226, .int .i64 t227, .int .i64 t228, .int .i64 t229, .int .i64 t230, .int .i64 t231], .int .i64 a1, .agg #[.int .i64 t232, .int .i64 t233, .bool t234]] ?_
      with_reducible refine (spec_PointMul.calls k t226 t227 t228 t229 t230 t231 a1 t232 t233 t234 t235 t236 t237 t238 _ A6.out).mono ?_
      rintro e w76 ⟨rfl, hb⟩; refine ⟨_, rfl, ?_⟩; replace BK224 := bb_ BK224 hb; replace BK225 := bb_ BK225 hb; replace HB := bs_ HB hb; (try clear hb); refine hK.out _ _ ⟨bc_ BK224 0, bc_ BK224 1, bc_ BK224 2, bc_ BK224 3, bc_ BK224 4, bc_ BK224 5, bc_ BK225 0, bc_ BK225 1, bc_ BK225 2⟩ (fun hHeld => ?_); clear hK K
      apply norm_
      · show Act.put _ (some 17) _ = _; simp only [Act.put, sA_, sZ_, sS_, i64_w, i32_w]; rfl
      refine pure_ (i := 6) (N := some 11) (v := ?_) (a' := ?_) #[true,true,true,true,true,true,true,false,false,false,false,false] rfl rfl (any_of HT_.out (by kernel_rfl)) (fun _ _ _ h => h) (Or.inl ⟨by rfl, ?_⟩) ?_ ?_; rotate_left
      ·
       intro w'; go_simp
       with_reducible rfl
      rotate_left
      · simp only [Act.put, sA_, sZ_, sS_, i64_w, i32_w]; rfl
      refine pure_ (i := 7) (N := some 18) (v := ?_) (a' := ?_) #[true,true,true,true,true,true,true,true,false,false,false,false] rfl rfl (any_of HT_.out (by kernel_rfl)) (fun _ _ _ h => h) (Or.inl ⟨by rfl, ?_⟩) ?_ ?_; rotate_left
      ·
       intro w'; go_simp
       with_reducible rfl
      rotate_left
      · simp only [Act.put, sA_, sZ_, sS_, i64_w, i32_w]; rfl
      refine pure_ (i := 8) (N := some 19) (v := ?_) (a' := ?_) #[true,true,true,true,true,true,true,true,true,false,false,false] rfl rfl (any_of HT_.out (by kernel_rfl)) (fun _ _ _ h => h) (Or.inl ⟨by rfl, ?_⟩) ?_ ?_; rotate_left
      ·
       intro w'; go_simp
       with_reducible rfl
      rotate_left
      · simp only [Act.put, sA_, sZ_, sS_, i64_w, i32_w]; rfl
      refine one_ (i := 9) (N := some 7) #[true,true,true,true,true,true,true,true,true,true,false,false] rfl rfl (one_of HT_.out (by kernel_rfl)) (by decide) (fun K hK => ?_); refine box_step ?hg (N := 7) ?hd (cs := #[.int .i64 0, .int .i64 0, .bool false]) (t := 26) ?hr ?_; (case hd => rfl); (case hg => rfl); (case hr => first | (go_simp; done) | (go_simp; rfl))
      intro gb239 hg w77 hbox hb; have n0_ := bb_ BK224 hb; have n1_ := bb_ BK225 hb; have n2_ := bs_ HB hb; have n3_ := Aside0.mk hbox; have n4_ := ge_ HB hg; have n5_ := ge_ HB hg; have n6_ := nl_ BK224 hg; have n7_ := nr_ BK224 hg; have n8_ := nl_ BK225 hg; have n9_ := nr_ BK225 hg; clear BK224 BK225 HB; have BK224 := n0_; have BK225 := n1_; have HB := n2_; have BK239 := n3_; have GW239 := n4_; have GE239 := n5_; have NB224_239 := n6_; have NB239_224 := n7_; have NB225_239 := n8_; have NB239_225 := n9_; clear n0_ n1_ n2_ n3_ n4_ n5_ n6_ n7_ n8_ n9_; clear hb hbox hg; refine hK.out _ _ ⟨bc_ BK224 0, bc_ BK224 1, bc_ BK224 2, bc_ BK224 3, bc_ BK224 4, bc_ BK224 5, bc_ BK225 0, bc_ BK225 1, bc_ BK225 2⟩ (fun hHeld => ?_); clear hK K
      apply norm_
      · show Act.put _ (some 7) _ = _; simp only [Act.put, sA_, sZ_, sS_, i64_w, i32_w]; rfl
      exact norm_ (by simp only [putAll, Act.put, sA_, sZ_, sS_]) (hCont (gb239) _ ⟨hHeld, (bk_ BK224), (bk_ BK225), (bk_ BK239), GW239.out, GE239.out, NB224_239.out, NB239_224.out, NB225_239.out, NB239_225.out, (bw_ HB)⟩)
     ·
      refine box_step ?hg (N := 7) ?hd (cs := #[.int .i64 0, .int .i64 0, .bool false]) (t := 26) ?hr ?_; (case hd => rfl); (case hg => rfl); (case hr => first | (go_simp; done) | (go_simp; rfl))
      intro gb239 hg w76 hbox hb; have n0_ := bb_ BK224 hb; have n1_ := bb_ BK225 hb; have n2_ := bs_ HB hb; have n3_ := Aside0.mk hbox; have n4_ := ge_ HB hg; have n5_ := ge_ HB hg; have n6_ := nl_ BK224 hg; have n7_ := nr_ BK224 hg; have n8_ := nl_ BK225 hg; have n9_ := nr_ BK225 hg; clear BK224 BK225 HB; have BK224 := n0_; have BK225 := n1_; have HB := n2_; have BK239 := n3_; have GW239 := n4_; have GE239 := n5_; have NB224_239 := n6_; have NB239_224 := n7_; have NB225_239 := n8_; have NB239_225 := n9_; clear n0_ n1_ n2_ n3_ n4_ n5_ n6_ n7_ n8_ n9_; clear hb hbox hg; refine hK.out _ _ ⟨bc_ BK224 0, bc_ BK224 1, bc_ BK224 2, bc_ BK224 3, bc_ BK224 4, bc_ BK224 5, bc_ BK225 0, bc_ BK225 1, bc_ BK225 2⟩ (fun hHeld => ?_); clear hK K
      apply norm_
      · show Act.put _ (some 7) _ = _; simp only [Act.put, sA_, sZ_, sS_, i64_w, i32_w]; rfl
      refine one_ (i := 5) (N := some 17) #[true,true,true,true,true,true,false,false,false,true,false,false] rfl rfl (one_of HT_.out (by kernel_rfl)) (by decide) (fun K hK => ?_); refine gs_ Try.func19 #[.agg #[.int .i64 t226, .int .i64 t227, .int .i64 t228, .int .i64 t229, .int .i64 t230, .int .i64 t231], .int .i64 a1, .agg #[.int .i64 t232, .int .i64 t233, .bool t234]] ?_
      with_reducible refine (spec_PointMul.calls k t226 t227 t228 t229 t230 t231 a1 t232 t233 t234 t235 t236 t237 t238 _ A6.out).mono ?_
      rintro e w77 ⟨rfl, hb⟩; refine ⟨_, rfl, ?_⟩; replace BK224 := bb_ BK224 hb; replace BK225 := bb_ BK225 hb; replace BK239 := bb_ BK239 hb; replace HB := bs_ HB hb; (try clear hb); refine hK.out _ _ ⟨bc_ BK224 0, bc_ BK224 1, bc_ BK224 2, bc_ BK224 3, bc_ BK224 4, bc_ BK224 5, bc_ BK225 0, bc_ BK225 1, bc_ BK225 2⟩ (fun hHeld => ?_); clear hK K
      apply norm_
      · show Act.put _ (some 17) _ = _; simp only [Act.put, sA_, sZ_, sS_, i64_w, i32_w]; rfl
      refine pure_ (i := 6) (N := some 11) (v := ?_) (a' := ?_) #[true,true,true,true,true,true,true,false,false,true,false,false] rfl rfl (any_of HT_.out (by kernel_rfl)) (fun _ _ _ h => h) (Or.inl ⟨by rfl, ?_⟩) ?_ ?_; rotate_left
      ·
       intro w'; go_simp
       with_reducible rfl
      rotate_left
      · simp only [Act.put, sA_, sZ_, sS_, i64_w, i32_w]; rfl
      refine pure_ (i := 7) (N := some 18) (v := ?_) (a' := ?_) #[true,true,true,true,true,true,true,true,false,true,false,false] rfl rfl (any_of HT_.out (by kernel_rfl)) (fun _ _ _ h => h) (Or.inl ⟨by rfl, ?_⟩) ?_ ?_; rotate_left
      ·
       intro w'; go_simp
       with_reducible rfl
      rotate_left
      · simp only [Act.put, sA_, sZ_, sS_, i64_w, i32_w]; rfl
      refine pure_ (i := 8) (N := some 19) (v := ?_) (a' := ?_) #[true,true,true,true,true,true,true,true,true,true,false,false] rfl rfl (any_of HT_.out (by kernel_rfl)) (fun _ _ _ h => h) (Or.inl ⟨by rfl, ?_⟩) ?_ ?_; rotate_left
      ·
       intro w'; go_simp
       with_reducible rfl
      rotate_left
      · simp only [Act.put, sA_, sZ_, sS_, i64_w, i32_w]; rfl
      exact norm_ (by simp only [putAll, Act.put, sA_, sZ_, sS_]) (hCont (gb239) _ ⟨hHeld, (bk_ BK224), (bk_ BK225), (bk_ BK239), GW239.out, GE239.out, NB224_239.out, NB239_224.out, NB225_239.out, NB239_225.out, (bw_ HB)⟩)
    ·
     refine box_step ?hg (N := 7) ?hd (cs := #[.int .i64 0, .int .i64 0, .bool false]) (t := 26) ?hr ?_; (case hd => rfl); (case hg => rfl); (case hr => first | (go_simp; done) | (go_simp; rfl))
     intro gb239 hg w75 hbox hb; have n0_ := bb_ BK224 hb; have n1_ := bb_ BK225 hb; have n2_ := bs_ HB hb; have n3_ := Aside0.mk hbox; have n4_ := ge_ HB hg; have n5_ := ge_ HB hg; have n6_ := nl_ BK224 hg; have n7_ := nr_ BK224 hg; have n8_ := nl_ BK225 hg; have n9_ := nr_ BK225 hg; clear BK224 BK225 HB; have BK224 := n0_; have BK225 := n1_; have HB := n2_; have BK239 := n3_; have GW239 := n4_; have GE239 := n5_; have NB224_239 := n6_; have NB239_224 := n7_; have NB225_239 := n8_; have NB239_225 := n9_; clear n0_ n1_ n2_ n3_ n4_ n5_ n6_ n7_ n8_ n9_; clear hb hbox hg; refine hK.out _ _ ⟨bc_ BK224 0, bc_ BK224 1, bc_ BK224 2, bc_ BK224 3, bc_ BK224 4, bc_ BK224 5, bc_ BK225 0, bc_ BK225 1, bc_ BK225 2⟩ (fun hHeld => ?_); clear hK K
     apply norm_
     · show Act.put _ (some 7) _ = _; simp only [Act.put, sA_, sZ_, sS_, i64_w, i32_w]; rfl
     refine one_ (i := 4) (N := some 16) #[true,true,true,true,true,false,false,false,false,true,false,false] rfl rfl (one_of HT_.out (by kernel_rfl)) (by decide) (fun K hK => ?_); refine gs_ Try.func16 #[.agg #[.int .i64 a2_0, .int .i64 a2_1, .bool a2_2]] ?_
     with_reducible refine (laws_toPoint.calls a2_0 a2_1 a2_2 t232 t233 t234 _ A5.out).mono ?_
     rintro e w76 ⟨rfl, hb⟩; refine ⟨_, rfl, ?_⟩; replace BK224 := bb_ BK224 hb; replace BK225 := bb_ BK225 hb; replace BK239 := bb_ BK239 hb; replace HB := bs_ HB hb; (try clear hb); refine hK.out _ _ ⟨bc_ BK224 0, bc_ BK224 1, bc_ BK224 2, bc_ BK224 3, bc_ BK224 4, bc_ BK224 5, bc_ BK225 0, bc_ BK225 1, bc_ BK225 2⟩ (fun hHeld => ?_); clear hK K
     apply norm_
     · show Act.put _ (some 16) _ = _; simp only [Act.put, sA_, sZ_, sS_, i64_w, i32_w]; rfl
     refine one_ (i := 5) (N := some 17) #[true,true,true,true,true,true,false,false,false,true,false,false] rfl rfl (one_of HT_.out (by kernel_rfl)) (by decide) (fun K hK => ?_); refine gs_ Try.func19 #[.agg #[.int .i64 t226, .int .i64 t227, .int .i64 t228, .int .i64 t229, .int .i64 t230, .int .i64 t231], .int .i64 a1, .agg #[.int .i64 t232, .int .i64 t233, .bool t234]] ?_
     with_reducible refine (spec_PointMul.calls k t226 t227 t228 t229 t230 t231 a1 t232 t233 t234 t235 t236 t237 t238 _ A6.out).mono ?_
     rintro e w77 ⟨rfl, hb⟩; refine ⟨_, rfl, ?_⟩; replace BK224 := bb_ BK224 hb; replace BK225 := bb_ BK225 hb; replace BK239 := bb_ BK239 hb; replace HB := bs_ HB hb; (try clear hb); refine hK.out _ _ ⟨bc_ BK224 0, bc_ BK224 1, bc_ BK224 2, bc_ BK224 3, bc_ BK224 4, bc_ BK224 5, bc_ BK225 0, bc_ BK225 1, bc_ BK225 2⟩ (fun hHeld => ?_); clear hK K
     apply norm_
     · show Act.put _ (some 17) _ = _; simp only [Act.put, sA_, sZ_, sS_, i64_w, i32_w]; rfl
     refine pure_ (i := 6) (N := some 11) (v := ?_) (a' := ?_) #[true,true,true,true,true,true,true,false,false,true,false,false] rfl rfl (any_of HT_.out (by kernel_rfl)) (fun _ _ _ h => h) (Or.inl ⟨by rfl, ?_⟩) ?_ ?_; rotate_left
     ·
      intro w'; go_simp
      with_reducible rfl
     rotate_left
     · simp only [Act.put, sA_, sZ_, sS_, i64_w, i32_w]; rfl
     refine pure_ (i := 7) (N := some 18) (v := ?_) (a' := ?_) #[true,true,true,true,true,true,true,true,false,true,false,false] rfl rfl (any_of HT_.out (by kernel_rfl)) (fun _ _ _ h => h) (Or.inl ⟨by rfl, ?_⟩) ?_ ?_; rotate_left
     ·
      intro w'; go_simp
      with_reducible rfl
     rotate_left
     · simp only [Act.put, sA_, sZ_, sS_, i64_w, i32_w]; rfl
     refine pure_ (i := 8) (N := some 19) (v := ?_) (a' := ?_) #[true,true,true,true,true,true,true,true,true,true,false,false] rfl rfl (any_of HT_.out (by kernel_rfl)) (fun _ _ _ h => h) (Or.inl ⟨by rfl, ?_⟩) ?_ ?_; rotate_left
     ·
      intro w'; go_simp
      with_reducible rfl
     rotate_left
     · simp only [Act.put, sA_, sZ_, sS_, i64_w, i32_w]; rfl
     exact norm_ (by simp only [putAll, Act.put, sA_, sZ_, sS_]) (hCont (gb239) _ ⟨hHeld, (bk_ BK224), (bk_ BK225), (bk_ BK239), GW239.out, GE239.out, NB224_239.out, NB239_224.out, NB225_239.out, NB239_225.out, (bw_ HB)⟩)
   ·
    refine box_step ?hg (N := 7) ?hd (cs := #[.int .i64 0, .int .i64 0, .bool false]) (t := 26) ?hr ?_; (case hd => rfl); (case hg => rfl); (case hr => first | (go_simp; done) | (go_simp; rfl))
    intro gb239 hg w74 hbox hb; have n0_ := bb_ BK224 hb; have n1_ := bb_ BK225 hb; have n2_ := bs_ HB hb; have n3_ := Aside0.mk hbox; have n4_ := ge_ HB hg; have n5_ := ge_ HB hg; have n6_ := nl_ BK224 hg; have n7_ := nr_ BK224 hg; have n8_ := nl_ BK225 hg; have n9_ := nr_ BK225 hg; clear BK224 BK225 HB; have BK224 := n0_; have BK225 := n1_; have HB := n2_; have BK239 := n3_; have GW239 := n4_; have GE239 := n5_; have NB224_239 := n6_; have NB239_224 := n7_; have NB225_239 := n8_; have NB239_225 := n9_; clear n0_ n1_ n2_ n3_ n4_ n5_ n6_ n7_ n8_ n9_; clear hb hbox hg; refine hK.out _ _ ⟨bc_ BK224 0, bc_ BK224 1, bc_ BK224 2, bc_ BK224 3, bc_ BK224 4, bc_ BK224 5, bc_ BK225 0, bc_ BK225 1, bc_ BK225 2⟩ (fun hHeld => ?_); clear hK K
    apply norm_
    · show Act.put _ (some 7) _ = _; simp only [Act.put, sA_, sZ_, sS_, i64_w, i32_w]; rfl
    refine one_ (i := 1) (N := some 13) #[true,true,true,true,false,false,false,false,false,true,false,false] rfl rfl (one_of HT_.out (by kernel_rfl)) (by decide) (fun K hK => ?_); refine gs_ Try.func15 #[.agg #[.int .i64 a0_0, .int .i64 a0_1, .int .i64 a0_2, .int .i64 a0_3, .int .i64 a0_4, .int .i64 a0_5]] ?_
    with_reducible refine (laws_toCurve.calls a0_0 a0_1 a0_2 a0_3 a0_4 a0_5 t226 t227 t228 t229 t230 t231 _ A4.out).mono ?_
    rintro e w75 ⟨rfl, hb⟩; refine ⟨_, rfl, ?_⟩; replace BK224 := bb_ BK224 hb; replace BK225 := bb_ BK225 hb; replace BK239 := bb_ BK239 hb; replace HB := bs_ HB hb; (try clear hb); refine hK.out _ _ ⟨bc_ BK224 0, bc_ BK224 1, bc_ BK224 2, bc_ BK224 3, bc_ BK224 4, bc_ BK224 5, bc_ BK225 0, bc_ BK225 1, bc_ BK225 2⟩ (fun hHeld => ?_); clear hK K
    apply norm_
    · show Act.put _ (some 13) _ = _; simp only [Act.put, sA_, sZ_, sS_, i64_w, i32_w]; rfl
    refine one_ (i := 4) (N := some 16) #[true,true,true,true,true,false,false,false,false,true,false,false] rfl rfl (one_of HT_.out (by kernel_rfl)) (by decide) (fun K hK => ?_); refine gs_ Try.func16 #[.agg #[.int .i64 a2_0, .int .i64 a2_1, .bool a2_2]] ?_
    with_reducible refine (laws_toPoint.calls a2_0 a2_1 a2_2 t232 t233 t234 _ A5.out).mono ?_
    rintro e w76 ⟨rfl, hb⟩; refine ⟨_, rfl, ?_⟩; replace BK224 := bb_ BK224 hb; replace BK225 := bb_ BK225 hb; replace BK239 := bb_ BK239 hb; replace HB := bs_ HB hb; (try clear hb); refine hK.out _ _ ⟨bc_ BK224 0, bc_ BK224 1, bc_ BK224 2, bc_ BK224 3, bc_ BK224 4, bc_ BK224 5, bc_ BK225 0, bc_ BK225 1, bc_ BK225 2⟩ (fun hHeld => ?_); clear hK K
    apply norm_
    · show Act.put _ (some 16) _ = _; simp only [Act.put, sA_, sZ_, sS_, i64_w, i32_w]; rfl
    refine one_ (i := 5) (N := some 17) #[true,true,true,true,true,true,false,false,false,true,false,false] rfl rfl (one_of HT_.out (by kernel_rfl)) (by decide) (fun K hK => ?_); refine gs_ Try.func19 #[.agg #[.int .i64 t226, .int .i64 t227, .int .i64 t228, .int .i64 t229, .int .i64 t230, .int .i64 t231], .int .i64 a1, .agg #[.int .i64 t232, .int .i64 t233, .bool t234]] ?_
    with_reducible refine (spec_PointMul.calls k t226 t227 t228 t229 t230 t231 a1 t232 t233 t234 t235 t236 t237 t238 _ A6.out).mono ?_
    rintro e w77 ⟨rfl, hb⟩; refine ⟨_, rfl, ?_⟩; replace BK224 := bb_ BK224 hb; replace BK225 := bb_ BK225 hb; replace BK239 := bb_ BK239 hb; replace HB := bs_ HB hb; (try clear hb); refine hK.out _ _ ⟨bc_ BK224 0, bc_ BK224 1, bc_ BK224 2, bc_ BK224 3, bc_ BK224 4, bc_ BK224 5, bc_ BK225 0, bc_ BK225 1, bc_ BK225 2⟩ (fun hHeld => ?_); clear hK K
    apply norm_
    · show Act.put _ (some 17) _ = _; simp only [Act.put, sA_, sZ_, sS_, i64_w, i32_w]; rfl
    refine pure_ (i := 6) (N := some 11) (v := ?_) (a' := ?_) #[true,true,true,true,true,true,true,false,false,true,false,false] rfl rfl (any_of HT_.out (by kernel_rfl)) (fun _ _ _ h => h) (Or.inl ⟨by rfl, ?_⟩) ?_ ?_; rotate_left
    ·
     intro w'; go_simp
     with_reducible rfl
    rotate_left
    · simp only [Act.put, sA_, sZ_, sS_, i64_w, i32_w]; rfl
    refine pure_ (i := 7) (N := some 18) (v := ?_) (a' := ?_) #[true,true,true,true,true,true,true,true,false,true,false,false] rfl rfl (any_of HT_.out (by kernel_rfl)) (fun _ _ _ h => h) (Or.inl ⟨by rfl, ?_⟩) ?_ ?_; rotate_left
    ·
     intro w'; go_simp
     with_reducible rfl
    rotate_left
    · simp only [Act.put, sA_, sZ_, sS_, i64_w, i32_w]; rfl
    refine pure_ (i := 8) (N := some 19) (v := ?_) (a' := ?_) #[true,true,true,true,true,true,true,true,true,true,false,false] rfl rfl (any_of HT_.out (by kernel_rfl)) (fun _ _ _ h => h) (Or.inl ⟨by rfl, ?_⟩) ?_ ?_; rotate_left
    ·
     intro w'; go_simp
     with_reducible rfl
    rotate_left
    · simp only [Act.put, sA_, sZ_, sS_, i64_w, i32_w]; rfl
    exact norm_ (by simp only [putAll, Act.put, sA_, sZ_, sS_]) (hCont (gb239) _ ⟨hHeld, (bk_ BK224), (bk_ BK225), (bk_ BK239), GW239.out, GE239.out, NB224_239.out, NB239_224.out, NB225_239.out, NB239_225.out, (bw_ HB)⟩)
  rintro gb239 w78 ⟨hS_, h0_, h1_, h2_, h3_, h4_, h5_, h6_, h7_, h8_, h9_⟩; replace BK224 := Aside0.mk h0_; replace BK225 := Aside0.mk h1_; have BK239 := Aside0.mk h2_; have GW239 := Aside0.mk h3_; have GE239 := Aside0.mk h4_; have NB224_239 := Aside0.mk h5_; have NB239_224 := Aside0.mk h6_; have NB225_239 := Aside0.mk h7_; have NB239_225 := Aside0.mk h8_; replace HB := Aside0.mk h9_; clear h0_ h1_ h2_ h3_ h4_ h5_ h6_ h7_ h8_ h9_; have hHeld := hS_
  apply norm_
  · simp only [putAll, Act.put, sA_, sZ_, sS_]; rfl
  refine one_ (i := 10) (N := none) #[true,true,true,true,true,true,true,true,true,true,true,false] rfl rfl (one_of HT_.out (by kernel_rfl)) (by decide) (fun K hK => ?_)
  have hs79 : w78.cell? ⟨gb239, 0, none⟩ = some (.int .i64 0) := bc_ BK239 0
  have hfs79 := blk_frozen BK239.out 0; have hns79_0 := NB224_239.out; have hns79_1 := NB225_239.out; have hms79_0 := NB239_224.out; have hms79_1 := NB239_225.out
  have hs80 : w78.cell? ⟨gb239, 1, none⟩ = some (.int .i64 0) := bc_ BK239 1
  have hfs80 := blk_frozen BK239.out 1; have hns80_0 := NB224_239.out; have hns80_1 := NB225_239.out; have hms80_0 := NB239_224.out; have hms80_1 := NB239_225.out
  have hs81 : w78.cell? ⟨gb239, 2, none⟩ = some (.bool false) := bc_ BK239 2
  have hfs81 := blk_frozen BK239.out 2; have hns81_0 := NB224_239.out; have hns81_1 := NB225_239.out; have hms81_0 := NB239_224.out; have hms81_1 := NB239_225.out; refine skip_ (w1 := ?_) (by rfl) rfl ?_ ?_; rotate_left
  · go_simp; rfl
  refine hK.out _ _ ⟨((cell_far (p := ⟨gb239, _, none⟩) NB224_239.out _).trans (((cell_far (p := ⟨gb239, _, none⟩) NB224_239.out _).trans (((cell_far (p := ⟨gb239, _, none⟩) NB224_239.out _).trans (hHeld.1)))))), ((cell_far (p := ⟨gb239, _, none⟩) NB224_239.out _).trans (((cell_far (p := ⟨gb239, _, none⟩) NB224_239.out _).trans (((cell_far (p := ⟨gb239, _, none⟩) NB224_239.out _).trans (hHeld.2.1)))))), ((cell_far (p := ⟨gb239, _, none⟩) NB224_239.out _).trans (((cell_far (p := ⟨gb239, _, none⟩) NB224_239.out _).trans (((cell_far (p := ⟨gb239, _, none⟩) NB224_239.out _).trans (hHeld.2.2.1)))))), ((cell_far (p := ⟨gb239, _, none⟩) NB224_239.out _).trans (((cell_far (p := ⟨gb239, _, none⟩) NB224_239.out _).trans (((cell_far (p := ⟨gb239, _, none⟩) NB224_239.out _).trans (hHeld.2.2.2.1)))))), ((cell_far (p := ⟨gb239, _, none⟩) NB224_239.out _).trans (((cell_far (p := ⟨gb239, _, none⟩) NB224_239.out _).trans (((cell_far (p := ⟨gb239, _, none⟩) NB224_239.out _).trans (hHeld.2.2.2.2.1)))))), ((cell_far (p := ⟨gb239, _, none⟩) NB224_239.out _).trans (((cell_far (p := ⟨gb239, _, none⟩) NB224_239.out _).trans (((cell_far (p := ⟨gb239, _, none⟩) NB224_239.out _).trans (hHeld.2.2.2.2.2.1)))))), ((cell_far (p := ⟨gb239, _, none⟩) NB225_239.out _).trans (((cell_far (p := ⟨gb239, _, none⟩) NB225_239.out _).trans (((cell_far (p := ⟨gb239, _, none⟩) NB225_239.out _).trans (hHeld.2.2.2.2.2.2.1)))))), ((cell_far (p := ⟨gb239, _, none⟩) NB225_239.out _).trans (((cell_far (p := ⟨gb239, _, none⟩) NB225_239.out _).trans (((cell_far (p := ⟨gb239, _, none⟩) NB225_239.out _).trans (hHeld.2.2.2.2.2.2.2.1)))))), ((cell_far (p := ⟨gb239, _, none⟩) NB225_239.out _).trans (((cell_far (p := ⟨gb239, _, none⟩) NB225_239.out _).trans (((cell_far (p := ⟨gb239, _, none⟩) NB225_239.out _).trans (hHeld.2.2.2.2.2.2.2.2))))))⟩ (fun hHeld => ?_); clear hK K; refine pure_ (i := 11) (N := some 8) (v := ?_) (a' := ?_) #[true,true,true,true,true,true,true,true,true,true,true,true] rfl rfl (any_of HT_.out (by kernel_rfl)) (fun _ _ _ h => h) (Or.inl ⟨by rfl, ?_⟩) ?_ ?_; rotate_left
  ·
   intro w'; go_simp
   with_reducible rfl
  rotate_left
  · simp only [Act.put, sA_, sZ_, sS_, i64_w, i32_w]; rfl
  refine done_ (done_of HT_.out (by kernel_rfl)) ?_
  try go_wp2
  have n0_ : Aside0 ((((w78.setCell ⟨gb239, 0, none⟩ (.int .i64 t235)).setCell ⟨gb239, 1, none⟩ (.int .i64 t236)).setCell ⟨gb239, 2, none⟩ (.bool t237)).heap[gb224]? = some (.cells #[.int .i64 a0_0, .int .i64 a0_1, .int .i64 a0_2, .int .i64 a0_3, .int .i64 a0_4, .int .i64 a0_5] 23 (0, 0))) := ⟨by (with_reducible repeat (first | refine blk_drewN ?_ _ | refine blk_drew ?_ | refine blk_alloc ?_ _)); refine blk_far ?_ NB224_239.out _; (with_reducible repeat (first | refine blk_drewN ?_ _ | refine blk_drew ?_ | refine blk_alloc ?_ _)); refine blk_far ?_ NB224_239.out _; (with_reducible repeat (first | refine blk_drewN ?_ _ | refine blk_drew ?_ | refine blk_alloc ?_ _)); refine blk_far ?_ NB224_239.out _; (with_reducible repeat (first | refine blk_drewN ?_ _ | refine blk_drew ?_ | refine blk_alloc ?_ _)); exact BK224.out⟩
  have n1_ : Aside0 ((((w78.setCell ⟨gb239, 0, none⟩ (.int .i64 t235)).setCell ⟨gb239, 1, none⟩ (.int .i64 t236)).setCell ⟨gb239, 2, none⟩ (.bool t237)).heap[gb225]? = some (.cells #[.int .i64 a2_0, .int .i64 a2_1, .bool a2_2] 25 (0, 0))) := ⟨by (with_reducible repeat (first | refine blk_drewN ?_ _ | refine blk_drew ?_ | refine blk_alloc ?_ _)); refine blk_far ?_ NB225_239.out _; (with_reducible repeat (first | refine blk_drewN ?_ _ | refine blk_drew ?_ | refine blk_alloc ?_ _)); refine blk_far ?_ NB225_239.out _; (with_reducible repeat (first | refine blk_drewN ?_ _ | refine blk_drew ?_ | refine blk_alloc ?_ _)); refine blk_far ?_ NB225_239.out _; (with_reducible repeat (first | refine blk_drewN ?_ _ | refine blk_drew ?_ | refine blk_alloc ?_ _)); exact BK225.out⟩
  have n2_ : Aside0 ((((w78.setCell ⟨gb239, 0, none⟩ (.int .i64 t235)).setCell ⟨gb239, 1, none⟩ (.int .i64 t236)).setCell ⟨gb239, 2, none⟩ (.bool t237)).heap[gb239]? = some (.cells #[.int .i64 t235, .int .i64 t236, .bool t237] 26 (0, 0))) := ⟨by (with_reducible repeat (first | refine blk_drewN ?_ _ | refine blk_drew ?_ | refine blk_alloc ?_ _)); refine blk_put (cs := #[.int .i64 t235, .int .i64 t236, .bool false]) ?_ 2 _ rfl; (with_reducible repeat (first | refine blk_drewN ?_ _ | refine blk_drew ?_ | refine blk_alloc ?_ _)); refine blk_put (cs := #[.int .i64 t235, .int .i64 0, .bool false]) ?_ 1 _ rfl; (with_reducible repeat (first | refine blk_drewN ?_ _ | refine blk_drew ?_ | refine blk_alloc ?_ _)); refine blk_put (cs := #[.int .i64 0, .int .i64 0, .bool false]) ?_ 0 _ rfl; (with_reducible repeat (first | refine blk_drewN ?_ _ | refine blk_drew ?_ | refine blk_alloc ?_ _)); exact BK239.out⟩
  have n3_ : Aside0 (Below w.heap.size w (((w78.setCell ⟨gb239, 0, none⟩ (.int .i64 t235)).setCell ⟨gb239, 1, none⟩ (.int .i64 t236)).setCell ⟨gb239, 2, none⟩ (.bool t237))) := ⟨by repeat (first | (with_reducible first | exact HB.out | apply below_alloc | apply pw_below_drewN | apply below_drew1 | refine below_set ?_ GE224.out | refine below_set ?_ GE225.out | refine below_set ?_ GE239.out) | exact HB.out)⟩
  (try clear BK224); (try clear BK225); (try clear BK239); (try clear HB)
  generalize (((w78.setCell ⟨gb239, 0, none⟩ (.int .i64 t235)).setCell ⟨gb239, 1, none⟩ (.int .i64 t236)).setCell ⟨gb239, 2, none⟩ (.bool t237)) = w82 at n0_ n1_ n2_ n3_ ⊢
  have BK224 := n0_; have BK225 := n1_; have BK239 := n2_; have HB := n3_; clear n0_ n1_ n2_ n3_; replace BK224 := Aside0.mk (blk_drew BK224.out); replace BK225 := Aside0.mk (blk_drew BK225.out); replace BK239 := Aside0.mk (blk_drew BK239.out); replace HB := Aside0.mk (below_drew1 HB.out); refine start_ (n := 12) (S := fun w' => w'.cell? ⟨gb224, 0, none⟩ = some (.int .i64 a0_0) ∧ w'.cell? ⟨gb224, 1, none⟩ = some (.int .i64 a0_1) ∧ w'.cell? ⟨gb224, 2, none⟩ = some (.int .i64 a0_2) ∧ w'.cell? ⟨gb224, 3, none⟩ = some (.int .i64 a0_3) ∧ w'.cell? ⟨gb224, 4, none⟩ = some (.int .i64 a0_4) ∧ w'.cell? ⟨gb224, 5, none⟩ = some (.int .i64 a0_5) ∧ w'.cell? ⟨gb225, 0, none⟩ = some (.int .i64 a2_0) ∧ w'.cell? ⟨gb225, 1, none⟩ = some (.int .i64 a2_1) ∧ w'.cell? ⟨gb225, 2, none⟩ = some (.bool a2_2)) (ds := []) #[false,false,false,false,false,false,false,false,false,false,false,false] (by kernel_rfl) rfl rfl ⟨bc_ BK224 0, bc_ BK224 1, bc_ BK224 2, bc_ BK224 3, bc_ BK224 4, bc_ BK224 5, bc_ BK225 0, bc_ BK225 1, bc_ BK225 2⟩ (fun hHeld => ?_); refine with_tabW laws_FnExactPointMul.tab2 laws_FnExactPointMul.bits2 (fun HT_ HW_ => ?_)
  generalize w82.drew = w83 at BK224 BK225 BK239 HB hHeld ⊢
  refine pure_ (i := 2) (N := some 23) (v := ?_) (a' := ?_) #[false,false,true,false,false,false,false,false,false,false,false,false] rfl rfl (any_of HT_.out (by kernel_rfl)) (fun _ _ _ h => h) (Or.inl ⟨by rfl, ?_⟩) ?_ ?_; rotate_left
  ·
   intro w'; go_simp
   with_reducible rfl
  rotate_left
  · simp only [Act.put, sA_, sZ_, sS_, i64_w, i32_w]; rfl
  refine take_ (i := 0) (N := some 21) (v := ?_) (a' := ?_) #[true,false,true,false,false,false,false,false,false,false,false,false] rfl rfl (take_ofW HT_.out HW_.out (by kernel_rfl)) (fun _ _ _ h => h) (Or.inl ⟨by rfl, ?_⟩) hHeld ?_ ?_; rotate_left
  ·
   rintro w' ⟨s0, s1, s2, s3, s4, s5, s6, s7, s8⟩; go_simp
   with_reducible rfl
  rotate_left
  · simp only [Act.put, sA_, sZ_, sS_, i64_w, i32_w]; rfl
  refine take_ (i := 3) (N := some 24) (v := ?_) (a' := ?_) #[true,false,true,true,false,false,false,false,false,false,false,false] rfl rfl (take_ofW HT_.out HW_.out (by kernel_rfl)) (fun _ _ _ h => h) (Or.inl ⟨by rfl, ?_⟩) hHeld ?_ ?_; rotate_left
  ·
   rintro w' ⟨s0, s1, s2, s3, s4, s5, s6, s7, s8⟩; go_simp
   with_reducible rfl
  rotate_left
  · simp only [Act.put, sA_, sZ_, sS_, i64_w, i32_w]; rfl
  refine join_ (σ := Nat) 2 #[true,true,true,true,true,true,true,true,true,true,false,false] (fun s_ => [(22, .agg #[.int .i64 t240, .int .i64 t241, .int .i64 t242, .int .i64 t243, .int .i64 t244, .int .i64 t245]), (25, .agg #[.int .i64 t246, .int .i64 t247, .bool t248]), (26, .tuple #[.agg #[.int .i64 t249, .int .i64 t250, .bool t251], .bool t252]), (9, .pointer (some ⟨s_, 0, none⟩)), (20, .tuple #[.agg #[.int .i64 t249, .int .i64 t250, .bool t251], .bool t252]), (27, .agg #[.int .i64 t249, .int .i64 t250, .bool t251]), (28, .bool t252)]) (fun s_ w' => (w'.cell? ⟨gb224, 0, none⟩ = some (.int .i64 a0_0) ∧ w'.cell? ⟨gb224, 1, none⟩ = some (.int .i64 a0_1) ∧ w'.cell? ⟨gb224, 2, none⟩ = some (.int .i64 a0_2) ∧ w'.cell? ⟨gb224, 3, none⟩ = some (.int .i64 a0_3) ∧ w'.cell? ⟨gb224, 4, none⟩ = some (.int .i64 a0_4) ∧ w'.cell? ⟨gb224, 5, none⟩ = some (.int .i64 a0_5) ∧ w'.cell? ⟨gb225, 0, none⟩ = some (.int .i64 a2_0) ∧ w'.cell? ⟨gb225, 1, none⟩ = some (.int .i64 a2_1) ∧ w'.cell? ⟨gb225, 2, none⟩ = some (.bool a2_2)) ∧ (w'.heap[gb224]? = some (.cells #[.int .i64 a0_0, .int .i64 a0_1, .int .i64 a0_2, .int .i64 a0_3, .int .i64 a0_4, .int .i64 a0_5] 23 (0, 0))) ∧ (w'.heap[gb225]? = some (.cells #[.int .i64 a2_0, .int .i64 a2_1, .bool a2_2] 25 (0, 0))) ∧ (w'.heap[gb239]? = some (.cells #[.int .i64 t235, .int .i64 t236, .bool t237] 26 (0, 0))) ∧ (w'.heap[s_]? = some (.cells #[.int .i64 0, .int .i64 0, .bool false] 26 (0, 0))) ∧ (w.heap.size ≤ s_) ∧ (w.heap.size ≤ s_) ∧ (gb224 ≠ s_) ∧ (s_ ≠ gb224) ∧ (gb225 ≠ s_) ∧ (s_ ≠ gb225) ∧ (gb239 ≠ s_) ∧ (s_ ≠ gb239) ∧ (Below w.heap.size w w')) ?_ ?_; rotate_left
  ·
   intro hCont; refine two_ (i := 1) (j := 9) (Ni := some 22) (Nj := some 9) #[true,true,true,true,false,false,false,false,false,false,false,false] #[true,false,true,true,false,false,false,false,false,true,false,false] rfl rfl rfl rfl (two_of HT_.out (by kernel_rfl)) (by decide) (by decide) (fun K hK => ?_) (fun K hK => ?_)
   ·
    refine gs_ Try.func15 #[.agg #[.int .i64 a0_0, .int .i64 a0_1, .int .i64 a0_2, .int .i64 a0_3, .int .i64 a0_4, .int .i64 a0_5]] ?_
    with_reducible refine (laws_toCurve.calls a0_0 a0_1 a0_2 a0_3 a0_4 a0_5 t240 t241 t242 t243 t244 t245 _ A7.out).mono ?_
    rintro e w84 ⟨rfl, hb⟩; refine ⟨_, rfl, ?_⟩; replace BK224 := bb_ BK224 hb; replace BK225 := bb_ BK225 hb; replace BK239 := bb_ BK239 hb; replace HB := bs_ HB hb; (try clear hb); refine hK.out _ _ ⟨bc_ BK224 0, bc_ BK224 1, bc_ BK224 2, bc_ BK224 3, bc_ BK224 4, bc_ BK224 5, bc_ BK225 0, bc_ BK225 1, bc_ BK225 2⟩ (fun hHeld => ?_); clear hK K
    apply norm_
    · show Act.put _ (some 22) _ = _; simp only [Act.put, sA_, sZ_, sS_, i64_w, i32_w]; rfl
    refine two_ (i := 4) (j := 9) (Ni := some 25) (Nj := some 9) #[true,true,true,true,true,false,false,false,false,false,false,false] #[true,true,true,true,false,false,false,false,false,true,false,false] rfl rfl rfl rfl (two_of HT_.out (by kernel_rfl)) (by decide) (by decide) (fun K hK => ?_) (fun K hK => ?_)
    ·
     refine gs_ Try.func16 #[.agg #[.int .i64 a2_0, .int .i64 a2_1, .bool a2_2]] ?_
     with_reducible refine (laws_toPoint.calls a2_0 a2_1 a2_2 t246 t247 t248 _ A8.out).mono ?_
     rintro e w85 ⟨rfl, hb⟩; refine ⟨_, rfl, ?_⟩; replace BK224 := bb_ BK224 hb; replace BK225 := bb_ BK225 hb; replace BK239 := bb_ BK239 hb; replace HB := bs_ HB hb; (try clear hb); refine hK.out _ _ ⟨bc_ BK224 0, bc_ BK224 1, bc_ BK224 2, bc_ BK224 3, bc_ BK224 4, bc_ BK224 5, bc_ BK225 0, bc_ BK225 1, bc_ BK225 2⟩ (fun hHeld => ?_); clear hK K
     apply norm_
     · show Act.put _ (some 25) _ = _; simp only [Act.put, sA_, sZ_, sS_, i64_w, i32_w]; rfl
     refine two_ (i := 5) (j := 9) (Ni := some 26) (Nj := some 9) #[true,true,true,true,true,true,false,false,false,false,false,false] #[true,true,true,true,true,false,false,false,false,true,false,false] rfl rfl rfl rfl (two_of HT_.out (by kernel_rfl)) (by decide) (by decide) (fun K hK => ?_) (fun K hK => ?_)
     ·
      refine gs_ Try.func20 #[.agg #[.int .i64 t240, .int .i64 t241, .int .i64 t242, .int .i64 t243, .int .i64 t244, .int .i64 t245], .int .i64 a1, .agg #[.int .i64 t246, .int .i64 t247, .bool t248]] ?_
      with_reducible refine (impl_PointMul.calls k t240 t241 t242 t243 t244 t245 a1 t246 t247 t248 t249 t250 t251 t252 _ A9.out).mono ?_
      rintro e w86 ⟨rfl, hb⟩; refine ⟨_, rfl, ?_⟩; replace BK224 := bb_ BK224 hb; replace BK225 := bb_ BK225 hb; replace BK239 := bb_ BK239 hb; replace HB := bs_ HB hb; (try clear hb); refine hK.out _ _ ⟨bc_ BK224 0, bc_ BK224 1, bc_ BK224 2, bc_ BK224 3, bc_ BK224 4, bc_ BK224 5, bc_ BK225 0, bc_ BK225 1, bc_ BK225 2⟩ (fun hHeld => ?_); clear hK K
      apply norm_
      · show Act.put _ (some 26) _ = _; simp only [Act.put, sA_, sZ_, sS_, i64_w, i32_w]; rfl
      refine pure_ (i := 6) (N := some 20) (v := ?_) (a' := ?_) #[true,true,true,true,true,true,true,false,false,false,false,false] rfl rfl (any_of HT_.out (by kernel_rfl)) (fun _ _ _ h => h) (Or.inl ⟨by rfl, ?_⟩) ?_ ?_; rotate_left
      ·
       intro w'; go_simp
       with_reducible rfl
      rotate_left
      · simp only [Act.put, sA_, sZ_, sS_, i64_w, i32_w]; rfl
      refine pure_ (i := 7) (N := some 27) (v := ?_) (a' := ?_) #[true,true,true,true,true,true,true,true,false,false,false,false] rfl rfl (any_of HT_.out (by kernel_rfl)) (fun _ _ _ h => h) (Or.inl ⟨by rfl, ?_⟩) ?_ ?_; rotate_left
      ·
       intro w'; go_simp
       with_reducible rfl
      rotate_left
      · simp only [Act.put, sA_, sZ_, sS_, i64_w, i32_w]; rfl
      refine pure_ (i := 8) (N := some 28) (v := ?_) (a' := ?_) #[true,true,true,true,true,true,true,true,true,false,false,false] rfl rfl (any_of HT_.out (by kernel_rfl)) (fun _ _ _ h => h) (Or.inl ⟨by rfl, ?_⟩) ?_ ?_; rotate_left
      ·
       intro w'; go_simp
       with_reducible rfl
      rotate_left
      · simp only [Act.put, sA_, sZ_, sS_, i64_w, i32_w]; rfl
      refine one_ (i := 9) (N := some 9) #[true,true,true,true,true,true,true,true,true,true,false,false] rfl rfl (one_of HT_.out (by kernel_rfl)) (by decide) (fun K hK => ?_); refine box_step ?hg (N := 9) ?hd (cs := #[.int .i64 0, .int .i64 0, .bool false]) (t := 26) ?hr ?_; (case hd => rfl); (case hg => rfl); (case hr => first | (go_simp; done) | (go_simp; rfl))
      intro gb253 hg w87 hbox hb; have n0_ := bb_ BK224 hb; have n1_ := bb_ BK225 hb; have n2_ := bb_ BK239 hb; have n3_ := bs_ HB hb; have n4_ := Aside0.mk hbox; have n5_ := ge_ HB hg; have n6_ := ge_ HB hg; have n7_ := nl_ BK224 hg; have n8_ := nr_ BK224 hg; have n9_ := nl_ BK225 hg; have n10_ := nr_ BK225 hg; have n11_ := nl_ BK239 hg; have n12_ := nr_ BK239 hg; clear BK224 BK225 BK239 HB; have BK224 := n0_; have BK225 := n1_; have BK239 := n2_; have HB := n3_; have BK253 := n4_; have GW253 := n5_; have GE253 := n6_; have NB224_253 := n7_; have NB253_224 := n8_; have NB225_253 := n9_; have NB253_225 := n10_; have NB239_253 := n11_; have NB253_239 := n12_; clear n0_ n1_ n2_ n3_ n4_ n5_ n6_ n7_ n8_ n9_ n10_ n11_ n12_; clear hb hbox hg; refine hK.out _ _ ⟨bc_ BK224 0, bc_ BK224 1, bc_ BK224 2, bc_ BK224 3, bc_ BK224 4, bc_ BK224 5, bc_ BK225 0, bc_ BK225 1, bc_ BK225 2⟩ (fun hHeld => ?_); clear hK K
      apply norm_
      · show Act.put _ (some 9) _ = _; simp only [Act.put, sA_, sZ_, sS_, i64_w, i32_w]; rfl
      exact norm_ (by simp only [putAll, Act.put, sA_, sZ_, sS_]) (hCont (gb253) _ ⟨hHeld, (bk_ BK224), (bk_ BK225), (bk_ BK239), (bk_ BK253), GW253.out, GE253.out, NB224_253.out, NB253_224.out, NB225_253.out, NB253_225.out, NB239_253.out, NB253_239.out, (bw_ HB)⟩)
     ·
      refine box_step ?hg (N := 9) ?hd (cs := #[.int .i64 0, .int .i64 0, .bool false]) (t := 26) ?hr ?_; (case hd => rfl); (case hg => rfl); (case hr => first | (go_simp; done) | (go_simp; rfl))
      intro gb253 hg w86 hbox hb; have n0_ := bb_ BK224 hb; have n1_ := bb_ BK225 hb; have n2_ := bb_ BK239 hb; have n3_ := bs_ HB hb; have n4_ := Aside0.mk hbox; have n5_ := ge_ HB hg; have n6_ := ge_ HB hg; have n7_ := nl_ BK224 hg; have n8_ := nr_ BK224 hg; have n9_ := nl_ BK225 hg; have n10_ := nr_ BK225 hg; have n11_ := nl_ BK239 hg; have n12_ := nr_ BK239 hg; clear BK224 BK225 BK239 HB; have BK224 := n0_; have BK225 := n1_; have BK239 := n2_; have HB := n3_; have BK253 := n4_; have GW253 := n5_; have GE253 := n6_; have NB224_253 := n7_; have NB253_224 := n8_; have NB225_253 := n9_; have NB253_225 := n10_; have NB239_253 := n11_; have NB253_239 := n12_; clear n0_ n1_ n2_ n3_ n4_ n5_ n6_ n7_ n8_ n9_ n10_ n11_ n12_; clear hb hbox hg; refine hK.out _ _ ⟨bc_ BK224 0, bc_ BK224 1, bc_ BK224 2, bc_ BK224 3, bc_ BK224 4, bc_ BK224 5, bc_ BK225 0, bc_ BK225 1, bc_ BK225 2⟩ (fun hHeld => ?_); clear hK K
      apply norm_
      · show Act.put _ (some 9) _ = _; simp only [Act.put, sA_, sZ_, sS_, i64_w, i32_w]; rfl
      refine one_ (i := 5) (N := some 26) #[true,true,true,true,true,true,false,false,false,true,false,false] rfl rfl (one_of HT_.out (by kernel_rfl)) (by decide) (fun K hK => ?_); refine gs_ Try.func20 #[.agg #[.int .i64 t240, .int .i64 t241, .int .i64 t242, .int .i64 t243, .int .i64 t244, .int .i64 t245], .int .i64 a1, .agg #[.int .i64 t246, .int .i64 t247, .bool t248]] ?_
      with_reducible refine (impl_PointMul.calls k t240 t241 t242 t243 t244 t245 a1 t246 t247 t248 t249 t250 t251 t252 _ A9.out).mono ?_
      rintro e w87 ⟨rfl, hb⟩; refine ⟨_, rfl, ?_⟩; replace BK224 := bb_ BK224 hb; replace BK225 := bb_ BK225 hb; replace BK239 := bb_ BK239 hb; replace BK253 := bb_ BK253 hb; replace HB := bs_ HB hb; (try clear hb); refine hK.out _ _ ⟨bc_ BK224 0, bc_ BK224 1, bc_ BK224 2, bc_ BK224 3, bc_ BK224 4, bc_ BK224 5, bc_ BK225 0, bc_ BK225 1, bc_ BK225 2⟩ (fun hHeld => ?_); clear hK K
      apply norm_
      · show Act.put _ (some 26) _ = _; simp only [Act.put, sA_, sZ_, sS_, i64_w, i32_w]; rfl
      refine pure_ (i := 6) (N := some 20) (v := ?_) (a' := ?_) #[true,true,true,true,true,true,true,false,false,true,false,false] rfl rfl (any_of HT_.out (by kernel_rfl)) (fun _ _ _ h => h) (Or.inl ⟨by rfl, ?_⟩) ?_ ?_; rotate_left
      ·
       intro w'; go_simp
       with_reducible rfl
      rotate_left
      · simp only [Act.put, sA_, sZ_, sS_, i64_w, i32_w]; rfl
      refine pure_ (i := 7) (N := some 27) (v := ?_) (a' := ?_) #[true,true,true,true,true,true,true,true,false,true,false,false] rfl rfl (any_of HT_.out (by kernel_rfl)) (fun _ _ _ h => h) (Or.inl ⟨by rfl, ?_⟩) ?_ ?_; rotate_left
      ·
       intro w'; go_simp
       with_reducible rfl
      rotate_left
      · simp only [Act.put, sA_, sZ_, sS_, i64_w, i32_w]; rfl
      refine pure_ (i := 8) (N := some 28) (v := ?_) (a' := ?_) #[true,true,true,true,true,true,true,true,true,true,false,false] rfl rfl (any_of HT_.out (by kernel_rfl)) (fun _ _ _ h => h) (Or.inl ⟨by rfl, ?_⟩) ?_ ?_; rotate_left
      ·
       intro w'; go_simp
       with_reducible rfl
      rotate_left
      · simp only [Act.put, sA_, sZ_, sS_, i64_w, i32_w]; rfl
      exact norm_ (by simp only [putAll, Act.put, sA_, sZ_, sS_]) (hCont (gb253) _ ⟨hHeld, (bk_ BK224), (bk_ BK225), (bk_ BK239), (bk_ BK253), GW253.out, GE253.out, NB224_253.out, NB253_224.out, NB225_253.out, NB253_225.out, NB239_253.out, NB253_239.out, (bw_ HB)⟩)
    ·
     refine box_step ?hg (N := 9) ?hd (cs := #[.int .i64 0, .int .i64 0, .bool false]) (t := 26) ?hr ?_; (case hd => rfl); (case hg => rfl); (case hr => first | (go_simp; done) | (go_simp; rfl))
     intro gb253 hg w85 hbox hb; have n0_ := bb_ BK224 hb; have n1_ := bb_ BK225 hb; have n2_ := bb_ BK239 hb; have n3_ := bs_ HB hb; have n4_ := Aside0.mk hbox; have n5_ := ge_ HB hg; have n6_ := ge_ HB hg; have n7_ := nl_ BK224 hg; have n8_ := nr_ BK224 hg; have n9_ := nl_ BK225 hg; have n10_ := nr_ BK225 hg; have n11_ := nl_ BK239 hg; have n12_ := nr_ BK239 hg; clear BK224 BK225 BK239 HB; have BK224 := n0_; have BK225 := n1_; have BK239 := n2_; have HB := n3_; have BK253 := n4_; have GW253 := n5_; have GE253 := n6_; have NB224_253 := n7_; have NB253_224 := n8_; have NB225_253 := n9_; have NB253_225 := n10_; have NB239_253 := n11_; have NB253_239 := n12_; clear n0_ n1_ n2_ n3_ n4_ n5_ n6_ n7_ n8_ n9_ n10_ n11_ n12_; clear hb hbox hg; refine hK.out _ _ ⟨bc_ BK224 0, bc_ BK224 1, bc_ BK224 2, bc_ BK224 3, bc_ BK224 4, bc_ BK224 5, bc_ BK225 0, bc_ BK225 1, bc_ BK225 2⟩ (fun hHeld => ?_); clear hK K
     apply norm_
     · show Act.put _ (some 9) _ = _; simp only [Act.put, sA_, sZ_, sS_, i64_w, i32_w]; rfl
     refine one_ (i := 4) (N := some 25) #[true,true,true,true,true,false,false,false,false,true,false,false] rfl rfl (one_of HT_.out (by kernel_rfl)) (by decide) (fun K hK => ?_); refine gs_ Try.func16 #[.agg #[.int .i64 a2_0, .int .i64 a2_1, .bool a2_2]] ?_
     with_reducible refine (laws_toPoint.calls a2_0 a2_1 a2_2 t246 t247 t248 _ A8.out).mono ?_
     rintro e w86 ⟨rfl, hb⟩; refine ⟨_, rfl, ?_⟩; replace BK224 := bb_ BK224 hb; replace BK225 := bb_ BK225 hb; replace BK239 := bb_ BK239 hb; replace BK253 := bb_ BK253 hb; replace HB := bs_ HB hb; (try clear hb); refine hK.out _ _ ⟨bc_ BK224 0, bc_ BK224 1, bc_ BK224 2, bc_ BK224 3, bc_ BK224 4, bc_ BK224 5, bc_ BK225 0, bc_ BK225 1, bc_ BK225 2⟩ (fun hHeld => ?_); clear hK K
     apply norm_
     · show Act.put _ (some 25) _ = _; simp only [Act.put, sA_, sZ_, sS_, i64_w, i32_w]; rfl
     refine one_ (i := 5) (N := some 26) #[true,true,true,true,true,true,false,false,false,true,false,false] rfl rfl (one_of HT_.out (by kernel_rfl)) (by decide) (fun K hK => ?_); refine gs_ Try.func20 #[.agg #[.int .i64 t240, .int .i64 t241, .int .i64 t242, .int .i64 t243, .int .i64 t244, .int .i64 t245], .int .i64 a1, .agg #[.int .i64 t246, .int .i64 t247, .bool t248]] ?_
     with_reducible refine (impl_PointMul.calls k t240 t241 t242 t243 t244 t245 a1 t246 t247 t248 t249 t250 t251 t252 _ A9.out).mono ?_
     rintro e w87 ⟨rfl, hb⟩; refine ⟨_, rfl, ?_⟩; replace BK224 := bb_ BK224 hb; replace BK225 := bb_ BK225 hb; replace BK239 := bb_ BK239 hb; replace BK253 := bb_ BK253 hb; replace HB := bs_ HB hb; (try clear hb); refine hK.out _ _ ⟨bc_ BK224 0, bc_ BK224 1, bc_ BK224 2, bc_ BK224 3, bc_ BK224 4, bc_ BK224 5, bc_ BK225 0, bc_ BK225 1, bc_ BK225 2⟩ (fun hHeld => ?_); clear hK K
     apply norm_
     · show Act.put _ (some 26) _ = _; simp only [Act.put, sA_, sZ_, sS_, i64_w, i32_w]; rfl
     refine pure_ (i := 6) (N := some 20) (v := ?_) (a' := ?_) #[true,true,true,true,true,true,true,false,false,true,false,false] rfl rfl (any_of HT_.out (by kernel_rfl)) (fun _ _ _ h => h) (Or.inl ⟨by rfl, ?_⟩) ?_ ?_; rotate_left
     ·
      intro w'; go_simp
      with_reducible rfl
     rotate_left
     · simp only [Act.put, sA_, sZ_, sS_, i64_w, i32_w]; rfl
     refine pure_ (i := 7) (N := some 27) (v := ?_) (a' := ?_) #[true,true,true,true,true,true,true,true,false,true,false,false] rfl rfl (any_of HT_.out (by kernel_rfl)) (fun _ _ _ h => h) (Or.inl ⟨by rfl, ?_⟩) ?_ ?_; rotate_left
     ·
      intro w'; go_simp
      with_reducible rfl
     rotate_left
     · simp only [Act.put, sA_, sZ_, sS_, i64_w, i32_w]; rfl
     refine pure_ (i := 8) (N := some 28) (v := ?_) (a' := ?_) #[true,true,true,true,true,true,true,true,true,true,false,false] rfl rfl (any_of HT_.out (by kernel_rfl)) (fun _ _ _ h => h) (Or.inl ⟨by rfl, ?_⟩) ?_ ?_; rotate_left
     ·
      intro w'; go_simp
      with_reducible rfl
     rotate_left
     · simp only [Act.put, sA_, sZ_, sS_, i64_w, i32_w]; rfl
     exact norm_ (by simp only [putAll, Act.put, sA_, sZ_, sS_]) (hCont (gb253) _ ⟨hHeld, (bk_ BK224), (bk_ BK225), (bk_ BK239), (bk_ BK253), GW253.out, GE253.out, NB224_253.out, NB253_224.out, NB225_253.out, NB253_225.out, NB239_253.out, NB253_239.out, (bw_ HB)⟩)
   ·
    refine box_step ?hg (N := 9) ?hd (cs := #[.int .i64 0, .int .i64 0, .bool false]) (t := 26) ?hr ?_; (case hd => rfl); (case hg => rfl); (case hr => first | (go_simp; done) | (go_simp; rfl))
    intro gb253 hg w84 hbox hb; have n0_ := bb_ BK224 hb; have n1_ := bb_ BK225 hb; have n2_ := bb_ BK239 hb; have n3_ := bs_ HB hb; have n4_ := Aside0.mk hbox; have n5_ := ge_ HB hg; have n6_ := ge_ HB hg; have n7_ := nl_ BK224 hg; have n8_ := nr_ BK224 hg; have n9_ := nl_ BK225 hg; have n10_ := nr_ BK225 hg; have n11_ := nl_ BK239 hg; have n12_ := nr_ BK239 hg; clear BK224 BK225 BK239 HB; have BK224 := n0_; have BK225 := n1_; have BK239 := n2_; have HB := n3_; have BK253 := n4_; have GW253 := n5_; have GE253 := n6_; have NB224_253 := n7_; have NB253_224 := n8_; have NB225_253 := n9_; have NB253_225 := n10_; have NB239_253 := n11_; have NB253_239 := n12_; clear n0_ n1_ n2_ n3_ n4_ n5_ n6_ n7_ n8_ n9_ n10_ n11_ n12_; clear hb hbox hg; refine hK.out _ _ ⟨bc_ BK224 0, bc_ BK224 1, bc_ BK224 2, bc_ BK224 3, bc_ BK224 4, bc_ BK224 5, bc_ BK225 0, bc_ BK225 1, bc_ BK225 2⟩ (fun hHeld => ?_); clear hK K
    apply norm_
    · show Act.put _ (some 9) _ = _; simp only [Act.put, sA_, sZ_, sS_, i64_w, i32_w]; rfl
    refine one_ (i := 1) (N := some 22) #[true,true,true,true,false,false,false,false,false,true,false,false] rfl rfl (one_of HT_.out (by kernel_rfl)) (by decide) (fun K hK => ?_); refine gs_ Try.func15 #[.agg #[.int .i64 a0_0, .int .i64 a0_1, .int .i64 a0_2, .int .i64 a0_3, .int .i64 a0_4, .int .i64 a0_5]] ?_
    with_reducible refine (laws_toCurve.calls a0_0 a0_1 a0_2 a0_3 a0_4 a0_5 t240 t241 t242 t243 t244 t245 _ A7.out).mono ?_
    rintro e w85 ⟨rfl, hb⟩; refine ⟨_, rfl, ?_⟩; replace BK224 := bb_ BK224 hb; replace BK225 := bb_ BK225 hb; replace BK239 := bb_ BK239 hb; replace BK253 := bb_ BK253 hb; replace HB := bs_ HB hb; (try clear hb); refine hK.out _ _ ⟨bc_ BK224 0, bc_ BK224 1, bc_ BK224 2, bc_ BK224 3, bc_ BK224 4, bc_ BK224 5, bc_ BK225 0, bc_ BK225 1, bc_ BK225 2⟩ (fun hHeld => ?_); clear hK K
    apply norm_
    · show Act.put _ (some 22) _ = _; simp only [Act.put, sA_, sZ_, sS_, i64_w, i32_w]; rfl
    refine one_ (i := 4) (N := some 25) #[true,true,true,true,true,false,false,false,false,true,false,false] rfl rfl (one_of HT_.out (by kernel_rfl)) (by decide) (fun K hK => ?_); refine gs_ Try.func16 #[.agg #[.int .i64 a2_0, .int .i64 a2_1, .bool a2_2]] ?_
    with_reducible refine (laws_toPoint.calls a2_0 a2_1 a2_2 t246 t247 t248 _ A8.out).mono ?_
    rintro e w86 ⟨rfl, hb⟩; refine ⟨_, rfl, ?_⟩; replace BK224 := bb_ BK224 hb; replace BK225 := bb_ BK225 hb; replace BK239 := bb_ BK239 hb; replace BK253 := bb_ BK253 hb; replace HB := bs_ HB hb; (try clear hb); refine hK.out _ _ ⟨bc_ BK224 0, bc_ BK224 1, bc_ BK224 2, bc_ BK224 3, bc_ BK224 4, bc_ BK224 5, bc_ BK225 0, bc_ BK225 1, bc_ BK225 2⟩ (fun hHeld => ?_); clear hK K
    apply norm_
    · show Act.put _ (some 25) _ = _; simp only [Act.put, sA_, sZ_, sS_, i64_w, i32_w]; rfl
    refine one_ (i := 5) (N := some 26) #[true,true,true,true,true,true,false,false,false,true,false,false] rfl rfl (one_of HT_.out (by kernel_rfl)) (by decide) (fun K hK => ?_); refine gs_ Try.func20 #[.agg #[.int .i64 t240, .int .i64 t241, .int .i64 t242, .int .i64 t243, .int .i64 t244, .int .i64 t245], .int .i64 a1, .agg #[.int .i64 t246, .int .i64 t247, .bool t248]] ?_
    with_reducible refine (impl_PointMul.calls k t240 t241 t242 t243 t244 t245 a1 t246 t247 t248 t249 t250 t251 t252 _ A9.out).mono ?_
    rintro e w87 ⟨rfl, hb⟩; refine ⟨_, rfl, ?_⟩; replace BK224 := bb_ BK224 hb; replace BK225 := bb_ BK225 hb; replace BK239 := bb_ BK239 hb; replace BK253 := bb_ BK253 hb; replace HB := bs_ HB hb; (try clear hb); refine hK.out _ _ ⟨bc_ BK224 0, bc_ BK224 1, bc_ BK224 2, bc_ BK224 3, bc_ BK224 4, bc_ BK224 5, bc_ BK225 0, bc_ BK225 1, bc_ BK225 2⟩ (fun hHeld => ?_); clear hK K
    apply norm_
    · show Act.put _ (some 26) _ = _; simp only [Act.put, sA_, sZ_, sS_, i64_w, i32_w]; rfl
    refine pure_ (i := 6) (N := some 20) (v := ?_) (a' := ?_) #[true,true,true,true,true,true,true,false,false,true,false,false] rfl rfl (any_of HT_.out (by kernel_rfl)) (fun _ _ _ h => h) (Or.inl ⟨by rfl, ?_⟩) ?_ ?_; rotate_left
    ·
     intro w'; go_simp
     with_reducible rfl
    rotate_left
    · simp only [Act.put, sA_, sZ_, sS_, i64_w, i32_w]; rfl
    refine pure_ (i := 7) (N := some 27) (v := ?_) (a' := ?_) #[true,true,true,true,true,true,true,true,false,true,false,false] rfl rfl (any_of HT_.out (by kernel_rfl)) (fun _ _ _ h => h) (Or.inl ⟨by rfl, ?_⟩) ?_ ?_; rotate_left
    ·
     intro w'; go_simp
     with_reducible rfl
    rotate_left
    · simp only [Act.put, sA_, sZ_, sS_, i64_w, i32_w]; rfl
    refine pure_ (i := 8) (N := some 28) (v := ?_) (a' := ?_) #[true,true,true,true,true,true,true,true,true,true,false,false] rfl rfl (any_of HT_.out (by kernel_rfl)) (fun _ _ _ h => h) (Or.inl ⟨by rfl, ?_⟩) ?_ ?_; rotate_left
    ·
     intro w'; go_simp
     with_reducible rfl
    rotate_left
    · simp only [Act.put, sA_, sZ_, sS_, i64_w, i32_w]; rfl
    exact norm_ (by simp only [putAll, Act.put, sA_, sZ_, sS_]) (hCont (gb253) _ ⟨hHeld, (bk_ BK224), (bk_ BK225), (bk_ BK239), (bk_ BK253), GW253.out, GE253.out, NB224_253.out, NB253_224.out, NB225_253.out, NB253_225.out, NB239_253.out, NB253_239.out, (bw_ HB)⟩)
  rintro gb253 w88 ⟨hS_, h0_, h1_, h2_, h3_, h4_, h5_, h6_, h7_, h8_, h9_, h10_, h11_, h12_⟩; replace BK224 := Aside0.mk h0_; replace BK225 := Aside0.mk h1_; replace BK239 := Aside0.mk h2_; have BK253 := Aside0.mk h3_; have GW253 := Aside0.mk h4_; have GE253 := Aside0.mk h5_; have NB224_253 := Aside0.mk h6_; have NB253_224 := Aside0.mk h7_; have NB225_253 := Aside0.mk h8_; have NB253_225 := Aside0.mk h9_; have NB239_253 := Aside0.mk h10_; have NB253_239 := Aside0.mk h11_; replace HB := Aside0.mk h12_; clear h0_ h1_ h2_ h3_ h4_ h5_ h6_ h7_ h8_ h9_ h10_ h11_ h12_; have hHeld := hS_
  apply norm_
  · simp only [putAll, Act.put, sA_, sZ_, sS_]; rfl
  refine one_ (i := 10) (N := none) #[true,true,true,true,true,true,true,true,true,true,true,false] rfl rfl (one_of HT_.out (by kernel_rfl)) (by decide) (fun K hK => ?_)
  have hs89 : w88.cell? ⟨gb253, 0, none⟩ = some (.int .i64 0) := bc_ BK253 0
  have hfs89 := blk_frozen BK253.out 0; have hns89_0 := NB224_253.out; have hns89_1 := NB225_253.out; have hns89_2 := NB239_253.out; have hms89_0 := NB253_224.out; have hms89_1 := NB253_225.out; have hms89_2 := NB253_239.out
  have hs90 : w88.cell? ⟨gb253, 1, none⟩ = some (.int .i64 0) := bc_ BK253 1
  have hfs90 := blk_frozen BK253.out 1; have hns90_0 := NB224_253.out; have hns90_1 := NB225_253.out; have hns90_2 := NB239_253.out; have hms90_0 := NB253_224.out; have hms90_1 := NB253_225.out; have hms90_2 := NB253_239.out
  have hs91 : w88.cell? ⟨gb253, 2, none⟩ = some (.bool false) := bc_ BK253 2
  have hfs91 := blk_frozen BK253.out 2; have hns91_0 := NB224_253.out; have hns91_1 := NB225_253.out; have hns91_2 := NB239_253.out; have hms91_0 := NB253_224.out; have hms91_1 := NB253_225.out; have hms91_2 := NB253_239.out; refine skip_ (w1 := ?_) (by rfl) rfl ?_ ?_; rotate_left
  · go_simp; rfl
  refine hK.out _ _ ⟨((cell_far (p := ⟨gb253, _, none⟩) NB224_253.out _).trans (((cell_far (p := ⟨gb253, _, none⟩) NB224_253.out _).trans (((cell_far (p := ⟨gb253, _, none⟩) NB224_253.out _).trans (hHeld.1)))))), ((cell_far (p := ⟨gb253, _, none⟩) NB224_253.out _).trans (((cell_far (p := ⟨gb253, _, none⟩) NB224_253.out _).trans (((cell_far (p := ⟨gb253, _, none⟩) NB224_253.out _).trans (hHeld.2.1)))))), ((cell_far (p := ⟨gb253, _, none⟩) NB224_253.out _).trans (((cell_far (p := ⟨gb253, _, none⟩) NB224_253.out _).trans (((cell_far (p := ⟨gb253, _, none⟩) NB224_253.out _).trans (hHeld.2.2.1)))))), ((cell_far (p := ⟨gb253, _, none⟩) NB224_253.out _).trans (((cell_far (p := ⟨gb253, _, none⟩) NB224_253.out _).trans (((cell_far (p := ⟨gb253, _, none⟩) NB224_253.out _).trans (hHeld.2.2.2.1)))))), ((cell_far (p := ⟨gb253, _, none⟩) NB224_253.out _).trans (((cell_far (p := ⟨gb253, _, none⟩) NB224_253.out _).trans (((cell_far (p := ⟨gb253, _, none⟩) NB224_253.out _).trans (hHeld.2.2.2.2.1)))))), ((cell_far (p := ⟨gb253, _, none⟩) NB224_253.out _).trans (((cell_far (p := ⟨gb253, _, none⟩) NB224_253.out _).trans (((cell_far (p := ⟨gb253, _, none⟩) NB224_253.out _).trans (hHeld.2.2.2.2.2.1)))))), ((cell_far (p := ⟨gb253, _, none⟩) NB225_253.out _).trans (((cell_far (p := ⟨gb253, _, none⟩) NB225_253.out _).trans (((cell_far (p := ⟨gb253, _, none⟩) NB225_253.out _).trans (hHeld.2.2.2.2.2.2.1)))))), ((cell_far (p := ⟨gb253, _, none⟩) NB225_253.out _).trans (((cell_far (p := ⟨gb253, _, none⟩) NB225_253.out _).trans (((cell_far (p := ⟨gb253, _, none⟩) NB225_253.out _).trans (hHeld.2.2.2.2.2.2.2.1)))))), ((cell_far (p := ⟨gb253, _, none⟩) NB225_253.out _).trans (((cell_far (p := ⟨gb253, _, none⟩) NB225_253.out _).trans (((cell_far (p := ⟨gb253, _, none⟩) NB225_253.out _).trans (hHeld.2.2.2.2.2.2.2.2))))))⟩ (fun hHeld => ?_); clear hK K; refine pure_ (i := 11) (N := some 10) (v := ?_) (a' := ?_) #[true,true,true,true,true,true,true,true,true,true,true,true] rfl rfl (any_of HT_.out (by kernel_rfl)) (fun _ _ _ h => h) (Or.inl ⟨by rfl, ?_⟩) ?_ ?_; rotate_left
  ·
   intro w'; go_simp
   with_reducible rfl
  rotate_left
  · simp only [Act.put, sA_, sZ_, sS_, i64_w, i32_w]; rfl
  refine done_ (done_of HT_.out (by kernel_rfl)) ?_; have hnb92 := NB253_224.out; have hnc92 := NB224_253.out; have hnb93 := NB253_225.out; have hnc93 := NB225_253.out; have hnb94 := NB253_239.out; have hnc94 := NB239_253.out
  have hcz95_0 : w88.cell? ⟨gb253, 0, none⟩ = some (.int .i64 0) := bc_ BK253 0
  have hcz95_1 : w88.cell? ⟨gb253, 1, none⟩ = some (.int .i64 0) := bc_ BK253 1
  have hcz95_2 : w88.cell? ⟨gb253, 2, none⟩ = some (.bool false) := bc_ BK253 2
  have hfz95_0 := blk_frozen BK253.out 0; have hfz95_1 := blk_frozen BK253.out 1; have hfz95_2 := blk_frozen BK253.out 2; have hnb96 := NB239_224.out; have hnc96 := NB224_239.out; have hnb97 := NB239_225.out; have hnc97 := NB225_239.out
  have hcz98_0 : w88.cell? ⟨gb239, 0, none⟩ = some (.int .i64 t235) := bc_ BK239 0
  have hcz98_1 : w88.cell? ⟨gb239, 1, none⟩ = some (.int .i64 t236) := bc_ BK239 1
  have hcz98_2 : w88.cell? ⟨gb239, 2, none⟩ = some (.bool t237) := bc_ BK239 2
  have hfz98_0 := blk_frozen BK239.out 0; have hfz98_1 := blk_frozen BK239.out 1; have hfz98_2 := blk_frozen BK239.out 2
  try go_wp2_with (first | ((with_reducible refine gate_callee (f := 18) rfl ?_); refine goesL_ (some 31) rfl rfl Try.func18 (by kernel_rfl) rfl #[.agg #[.int .i64 t249, .int .i64 t250, .bool t251], .agg #[.int .i64 t235, .int .i64 t236, .bool t237]] rfl (by (try simp only [List.map_toArray, List.map_cons, List.map_nil]); first | done | rfl | (simp only [List.length_drop, List.length_take]; rfl)) ?_; (with_reducible refine (laws_eqPoint.calls t249 t250 t251 t235 t236 t237 false _ A10.out).mono ?_); rintro e w99 ⟨rfl, hb⟩; refine ⟨_, rfl, ?_⟩; have n0_ := Aside0.mk (blk_below (g := gb224) (o := .cells #[.int .i64 a0_0, .int .i64 a0_1, .int .i64 a0_2, .int .i64 a0_3, .int .i64 a0_4, .int .i64 a0_5] 23 (0, 0)) (by (with_reducible repeat (first | refine blk_drewN ?_ _ | refine blk_drew ?_ | refine blk_alloc ?_ _)); refine blk_far ?_ NB224_253.out _; (with_reducible repeat (first | refine blk_drewN ?_ _ | refine blk_drew ?_ | refine blk_alloc ?_ _)); refine blk_far ?_ NB224_253.out _; (with_reducible repeat (first | refine blk_drewN ?_ _ | refine blk_drew ?_ | refine blk_alloc ?_ _)); refine blk_far ?_ NB224_253.out _; (with_reducible repeat (first | refine blk_drewN ?_ _ | refine blk_drew ?_ | refine blk_alloc ?_ _)); exact BK224.out) hb); have n1_ := Aside0.mk (blk_below (g := gb225) (o := .cells #[.int .i64 a2_0, .int .i64 a2_1, .bool a2_2] 25 (0, 0)) (by (with_reducible repeat (first | refine blk_drewN ?_ _ | refine blk_drew ?_ | refine blk_alloc ?_ _)); refine blk_far ?_ NB225_253.out _; (with_reducible repeat (first | refine blk_drewN ?_ _ | refine blk_drew ?_ | refine blk_alloc ?_ _)); refine blk_far ?_ NB225_253.out _; (with_reducible repeat (first | refine blk_drewN ?_ _ | refine blk_drew ?_ | refine blk_alloc ?_ _)); refine blk_far ?_ NB225_253.out _; (with_reducible repeat (first | refine blk_drewN ?_ _ | refine blk_drew ?_ | refine blk_alloc ?_ _)); exact BK225.out) hb); have n2_ := Aside0.mk (blk_below (g := gb239) (o := .cells #[.int .i64 t235, .int .i64 t236, .bool t237] 26 (0, 0)) (by (with_reducible repeat (first | refine blk_drewN ?_ _ | refine blk_drew ?_ | refine blk_alloc ?_ _)); refine blk_far ?_ NB239_253.out _; (with_reducible repeat (first | refine blk_drewN ?_ _ | refine blk_drew ?_ | refine blk_alloc ?_ _)); refine blk_far ?_ NB239_253.out _; (with_reducible repeat (first | refine blk_drewN ?_ _ | refine blk_drew ?_ | refine blk_alloc ?_ _)); refine blk_far ?_ NB239_253.out _; (with_reducible repeat (first | refine blk_drewN ?_ _ | refine blk_drew ?_ | refine blk_alloc ?_ _)); exact BK239.out) hb); have n3_ := Aside0.mk (blk_below (g := gb253) (o := .cells #[.int .i64 t249, .int .i64 t250, .bool t251] 26 (0, 0)) (by (with_reducible repeat (first | refine blk_drewN ?_ _ | refine blk_drew ?_ | refine blk_alloc ?_ _)); refine blk_put (cs := #[.int .i64 t249, .int .i64 t250, .bool false]) ?_ 2 _ rfl; (with_reducible repeat (first | refine blk_drewN ?_ _ | refine blk_drew ?_ | refine blk_alloc ?_ _)); refine blk_put (cs := #[.int .i64 t249, .int .i64 0, .bool false]) ?_ 1 _ rfl; (with_reducible repeat (first | refine blk_drewN ?_ _ | refine blk_drew ?_ | refine blk_alloc ?_ _)); refine blk_put (cs := #[.int .i64 0, .int .i64 0, .bool false]) ?_ 0 _ rfl; (with_reducible repeat (first | refine blk_drewN ?_ _ | refine blk_drew ?_ | refine blk_alloc ?_ _)); exact BK253.out) hb); have n4_ := bs_ HB hb; clear BK224; clear BK225; clear BK239; clear BK253; clear HB; have BK224 := n0_; have BK225 := n1_; have BK239 := n2_; have BK253 := n3_; have HB := n4_; clear n0_ n1_ n2_ n3_ n4_; (try clear hb); (try clear hb2); (try clear hk); (try clear hi)))
  go_ret
  exact ⟨by first | rfl | (simp [errW_none, errW_some] <;> rfl) | (simp [*, errW_none, errW_some] <;> rfl), by repeat (first | (with_reducible first | exact HB.out | apply below_alloc | apply pw_below_drewN | apply below_drew1 | refine below_set ?_ GE224.out | refine below_set ?_ GE225.out | refine below_set ?_ GE239.out | refine below_set ?_ GE253.out) | exact HB.out)⟩

/-- THE ONE PURE STATEMENT of laws_FnExactPointMul: yours. -/
def laws_FnExactPointMul.Pure : Prop := ∀ (a0_0 : Int) (a0_1 : Int) (a0_2 : Int) (a0_3 : Int) (a0_4 : Int) (a0_5 : Int) (a1 : Int) (a2_0 : Int) (a2_1 : Int) (a2_2 : Bool), (Lit.int .i64 a0_0).wf = true → (Lit.int .i64 a0_1).wf = true → (Lit.int .i64 a0_2).wf = true → (Lit.int .i64 a0_3).wf = true → (Lit.int .i64 a0_4).wf = true → (Lit.int .i64 a0_5).wf = true → (Lit.int .i64 a1).wf = true → (Lit.int .i64 a2_0).wf = true → (Lit.int .i64 a2_1).wf = true → ∃ k, laws_FnExactPointMul.f k a0_0 a0_1 a0_2 a0_3 a0_4 a0_5 a1 a2_0 a2_1 a2_2 = some true
theorem laws_FnExactPointMul.walk (P : laws_FnExactPointMul.Pure) (a0_0 : Int) (a0_1 : Int) (a0_2 : Int) (a0_3 : Int) (a0_4 : Int) (a0_5 : Int) (a1 : Int) (a2_0 : Int) (a2_1 : Int) (a2_2 : Bool) (w : World) (w0_0 : (Lit.int .i64 a0_0).wf = true) (w0_1 : (Lit.int .i64 a0_1).wf = true) (w0_2 : (Lit.int .i64 a0_2).wf = true) (w0_3 : (Lit.int .i64 a0_3).wf = true) (w0_4 : (Lit.int .i64 a0_4).wf = true) (w0_5 : (Lit.int .i64 a0_5).wf = true) (w1 : (Lit.int .i64 a1).wf = true) (w2_0 : (Lit.int .i64 a2_0).wf = true) (w2_1 : (Lit.int .i64 a2_1).wf = true) :
  Calls Try.prog 4 #[.agg #[.int .i64 a0_0, .int .i64 a0_1, .int .i64 a0_2, .int .i64 a0_3, .int .i64 a0_4, .int .i64 a0_5], .int .i64 a1, .agg #[.int .i64 a2_0, .int .i64 a2_1, .bool a2_2]] w fun e w' => e = .returned (.bool true) ∧ Below w.heap.size w w' := by
 obtain ⟨k, h⟩ := P a0_0 a0_1 a0_2 a0_3 a0_4 a0_5 a1 a2_0 a2_1 a2_2 w0_0 w0_1 w0_2 w0_3 w0_4 w0_5 w1 w2_0 w2_1; refine (laws_FnExactPointMul.calls k a0_0 a0_1 a0_2 a0_3 a0_4 a0_5 a1 a2_0 a2_1 a2_2 true w h).mono ?_; rintro e w' ⟨rfl, hd⟩; exact ⟨rfl, hd⟩

end Go.Proofs.Ytohplbcbkggjaac.PFnExactPointMul
