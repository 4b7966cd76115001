-- Written for this claim by a program of this session.
import Derived.Test.YtohplbcbkggjaacPFnExactTwoMulx0
import Derived.Test.YtohplbcbkggjaacPFnExactTwoMulx2
import Derived.Test.YtohplbcbkggjaacPFnExactTwoMulx4
import Derived.Test.YtohplbcbkggjaacPFnExactTwoMulx9
namespace Go.Proofs.Ytohplbcbkggjaac.PFnExactTwoMul
open Go.RowKit Go.Proofs.YtohplbcbkggjaacW.PrintWords Go.Proofs.YtohplbcbkggjaacW.PrintLast Go.Proofs.YtohplbcbkggjaacW.PrintMore
attribute [local go_sem] max2_int min2_int max_two min_two max_three min_three max_four min_four   -- for this text's walks alone
set_option linter.unusedVariables false
set_option linter.unusedSimpArgs false

attribute [local go_sem] fld_
/-! ### laws_FnExactTwoMul: function 5 -/
def laws_FnExactTwoMul.f (k : Nat) (a0_0 : Int) (a0_1 : Int) (a0_2 : Int) (a0_3 : Int) (a0_4 : Int) (a0_5 : Int) (a1 : Int) (a2 : Int) (a3_0 : Int) (a3_1 : Int) (a3_2 : Bool) : Option (Bool) := (laws_toCurve.f a0_0 a0_1 a0_2 a0_3 a0_4 a0_5).bind fun bt243 => ((laws_toPoint.f a3_0 a3_1 a3_2).bind fun bt249 => ((spec_TwoMul.f k bt243.1 bt243.2.1 bt243.2.2.1 bt243.2.2.2.1 bt243.2.2.2.2.1 bt243.2.2.2.2.2 a1 a2 bt249.1 bt249.2.1 bt249.2.2).bind fun bt252 => ((laws_toCurve.f a0_0 a0_1 a0_2 a0_3 a0_4 a0_5).bind fun bt257 => ((laws_toPoint.f a3_0 a3_1 a3_2).bind fun bt263 => ((impl_TwoMul.f k bt257.1 bt257.2.1 bt257.2.2.1 bt257.2.2.2.1 bt257.2.2.2.2.1 bt257.2.2.2.2.2 a1 a2 bt263.1 bt263.2.1 bt263.2.2).bind fun bt266 => ((laws_eqPoint.f bt266.1 bt266.2.1 bt266.2.2.1 bt252.1 bt252.2.1 bt252.2.2.1).bind fun t271 => (if t271 = true then (if (bt266.2.2.2 != bt252.2.2.2) = true then (some false) else (some true)) else (some false))))))))
theorem laws_FnExactTwoMul.mono : ∀ a0 a1 a2 a3 a4 a5 a6 a7 a8 a9 a10 k, LeO (laws_FnExactTwoMul.f k a0 a1 a2 a3 a4 a5 a6 a7 a8 a9 a10) (laws_FnExactTwoMul.f (k + 1) a0 a1 a2 a3 a4 a5 a6 a7 a8 a9 a10) := by
 intro a0 a1 a2 a3 a4 a5 a6 a7 a8 a9 a10 k
 unfold laws_FnExactTwoMul.f
 repeat' first
   | (with_reducible exact impl_TwoMul.mono _ _ _ _ _ _ _ _ _ _ _ _)
   | (with_reducible exact spec_TwoMul.mono _ _ _ _ _ _ _ _ _ _ _ _)
   | (with_reducible exact LeO.refl _)
   | (with_reducible exact LeO.none _)
   | (with_reducible refine LeO.ite ?_ ?_)
   | (with_reducible refine LeO.bind ?_ (fun _ => ?_))
   | exact impl_TwoMul.mono _ _ _ _ _ _ _ _ _ _ _ _
   | exact spec_TwoMul.mono _ _ _ _ _ _ _ _ _ _ _ _
   | exact LeO.none _
   | refine LeO.ite ?_ ?_
   | refine LeO.bind ?_ (fun _ => ?_)
def laws_FnExactTwoMul.T1 : Bool × List (List Nat × List Nat) := (true, [([], []), ([0], [0]), ([], []), ([], []), ([], []), ([4, 1], [4]), ([1, 2, 3, 5, 5], [1, 2, 3, 5]), ([6], [6]), ([7], [7]), ([7], [7]), ([], []), ([10, 8, 6, 0, 1, 2, 3, 4, 5, 6, 7, 8, 10], [8, 10]), ([9, 11, 0, 1, 2, 3, 4, 5, 6, 7, 8, 9, 10, 11], [9])])
def laws_FnExactTwoMul.B1 : List Nat := [0, 1, 0, 0, 0, 19, 63, 127, 255, 255, 0, 1535, 4095]
theorem laws_FnExactTwoMul.tab1 : rtab .any (opsOf Try.f5 1) = laws_FnExactTwoMul.T1 := by kernel_rfl
theorem laws_FnExactTwoMul.bits1 : waitsOk laws_FnExactTwoMul.T1.2 laws_FnExactTwoMul.B1 = true := by kernel_rfl
def laws_FnExactTwoMul.T2 : Bool × List (List Nat × List Nat) := (true, [([], []), ([0], [0]), ([], []), ([], []), ([], []), ([4, 1], [4]), ([1, 2, 3, 5, 5], [1, 2, 3, 5]), ([6], [6]), ([7], [7]), ([7], [7]), ([], []), ([10, 8, 6, 0, 1, 2, 3, 4, 5, 6, 7, 8, 10], [8, 10]), ([9, 11, 0, 1, 2, 3, 4, 5, 6, 7, 8, 9, 10, 11], [9])])
def laws_FnExactTwoMul.B2 : List Nat := [0, 1, 0, 0, 0, 19, 63, 127, 255, 255, 0, 1535, 4095]
theorem laws_FnExactTwoMul.tab2 : rtab .any (opsOf Try.f5 2) = laws_FnExactTwoMul.T2 := by kernel_rfl
theorem laws_FnExactTwoMul.bits2 : waitsOk laws_FnExactTwoMul.T2.2 laws_FnExactTwoMul.B2 = true := by kernel_rfl
set_option maxHeartbeats 8000000 in
set_option maxRecDepth 100000 in
theorem laws_FnExactTwoMul.calls (k : Nat) (a0_0 : Int) (a0_1 : Int) (a0_2 : Int) (a0_3 : Int) (a0_4 : Int) (a0_5 : Int) (a1 : Int) (a2 : Int) (a3_0 : Int) (a3_1 : Int) (a3_2 : Bool) (r : Bool) (w : World) (h : laws_FnExactTwoMul.f k a0_0 a0_1 a0_2 a0_3 a0_4 a0_5 a1 a2 a3_0 a3_1 a3_2 = some r) :
  Calls Try.prog 5 #[.agg #[.int .i64 a0_0, .int .i64 a0_1, .int .i64 a0_2, .int .i64 a0_3, .int .i64 a0_4, .int .i64 a0_5], .int .i64 a1, .int .i64 a2, .agg #[.int .i64 a3_0, .int .i64 a3_1, .bool a3_2]] w fun e w' => e = .returned (.bool r) ∧ Below w.heap.size w w' := by
 have hu23 := Try.underlying23; have hu25 := Try.underlying25; have hu26 := Try.underlying26; have HB := Aside0.mk (Below.refl w.heap.size w)
 have H : ((laws_toCurve.f a0_0 a0_1 a0_2 a0_3 a0_4 a0_5).bind fun bt243 => ((laws_toPoint.f a3_0 a3_1 a3_2).bind fun bt249 => ((spec_TwoMul.f k bt243.1 bt243.2.1 bt243.2.2.1 bt243.2.2.2.1 bt243.2.2.2.2.1 bt243.2.2.2.2.2 a1 a2 bt249.1 bt249.2.1 bt249.2.2).bind fun bt252 => ((laws_toCurve.f a0_0 a0_1 a0_2 a0_3 a0_4 a0_5).bind fun bt257 => ((laws_toPoint.f a3_0 a3_1 a3_2).bind fun bt263 => ((impl_TwoMul.f k bt257.1 bt257.2.1 bt257.2.2.1 bt257.2.2.2.1 bt257.2.2.2.2.1 bt257.2.2.2.2.2 a1 a2 bt263.1 bt263.2.1 bt263.2.2).bind fun bt266 => ((laws_eqPoint.f bt266.1 bt266.2.1 bt266.2.2.1 bt252.1 bt252.2.1 bt252.2.2.1).bind fun t271 => (if t271 = true then (if (bt266.2.2.2 != bt252.2.2.2) = true then (some false) else (some true)) else (some false))))))))) = some r := h
 clear h; replace H := Option.bind_eq_some_iff.mp H; obtain ⟨⟨t243, t244, t245, t246, t247, t248⟩, A50, H⟩ := H
 replace H : ((laws_toPoint.f a3_0 a3_1 a3_2).bind fun bt249 => ((spec_TwoMul.f k t243 t244 t245 t246 t247 t248 a1 a2 bt249.1 bt249.2.1 bt249.2.2).bind fun bt252 => ((laws_toCurve.f a0_0 a0_1 a0_2 a0_3 a0_4 a0_5).bind fun bt257 => ((laws_toPoint.f a3_0 a3_1 a3_2).bind fun bt263 => ((impl_TwoMul.f k bt257.1 bt257.2.1 bt257.2.2.1 bt257.2.2.2.1 bt257.2.2.2.2.1 bt257.2.2.2.2.2 a1 a2 bt263.1 bt263.2.1 bt263.2.2).bind fun bt266 => ((laws_eqPoint.f bt266.1 bt266.2.1 bt266.2.2.1 bt252.1 bt252.2.1 bt252.2.2.1).bind fun t271 => (if t271 = true then (if (bt266.2.2.2 != bt252.2.2.2) = true then (some false) else (some true)) else (some false)))))))) = some r := H
 have A5 := Aside0.mk A50; clear A50; replace H := Option.bind_eq_some_iff.mp H; obtain ⟨⟨t249, t250, t251⟩, A60, H⟩ := H
 replace H : ((spec_TwoMul.f k t243 t244 t245 t246 t247 t248 a1 a2 t249 t250 t251).bind fun bt252 => ((laws_toCurve.f a0_0 a0_1 a0_2 a0_3 a0_4 a0_5).bind fun bt257 => ((laws_toPoint.f a3_0 a3_1 a3_2).bind fun bt263 => ((impl_TwoMul.f k bt257.1 bt257.2.1 bt257.2.2.1 bt257.2.2.2.1 bt257.2.2.2.2.1 bt257.2.2.2.2.2 a1 a2 bt263.1 bt263.2.1 bt263.2.2).bind fun bt266 => ((laws_eqPoint.f bt266.1 bt266.2.1 bt266.2.2.1 bt252.1 bt252.2.1 bt252.2.2.1).bind fun t271 => (if t271 = true then (if (bt266.2.2.2 != bt252.2.2.2) = true then (some false) else (some true)) else (some false))))))) = some r := H
 have A6 := Aside0.mk A60; clear A60; replace H := Option.bind_eq_some_iff.mp H; obtain ⟨⟨t252, t253, t254, t255⟩, A70, H⟩ := H
 replace H : ((laws_toCurve.f a0_0 a0_1 a0_2 a0_3 a0_4 a0_5).bind fun bt257 => ((laws_toPoint.f a3_0 a3_1 a3_2).bind fun bt263 => ((impl_TwoMul.f k bt257.1 bt257.2.1 bt257.2.2.1 bt257.2.2.2.1 bt257.2.2.2.2.1 bt257.2.2.2.2.2 a1 a2 bt263.1 bt263.2.1 bt263.2.2).bind fun bt266 => ((laws_eqPoint.f bt266.1 bt266.2.1 bt266.2.2.1 t252 t253 t254).bind fun t271 => (if t271 = true then (if (bt266.2.2.2 != t255) = true then (some false) else (some true)) else (some false)))))) = some r := H
 have A7 := Aside0.mk A70; clear A70; replace H := Option.bind_eq_some_iff.mp H; obtain ⟨⟨t257, t258, t259, t260, t261, t262⟩, A80, H⟩ := H
 replace H : ((laws_toPoint.f a3_0 a3_1 a3_2).bind fun bt263 => ((impl_TwoMul.f k t257 t258 t259 t260 t261 t262 a1 a2 bt263.1 bt263.2.1 bt263.2.2).bind fun bt266 => ((laws_eqPoint.f bt266.1 bt266.2.1 bt266.2.2.1 t252 t253 t254).bind fun t271 => (if t271 = true then (if (bt266.2.2.2 != t255) = true then (some false) else (some true)) else (some false))))) = some r := H
 have A8 := Aside0.mk A80; clear A80; replace H := Option.bind_eq_some_iff.mp H; obtain ⟨⟨t263, t264, t265⟩, A90, H⟩ := H
 replace H : ((impl_TwoMul.f k t257 t258 t259 t260 t261 t262 a1 a2 t263 t264 t265).bind fun bt266 => ((laws_eqPoint.f bt266.1 bt266.2.1 bt266.2.2.1 t252 t253 t254).bind fun t271 => (if t271 = true then (if (bt266.2.2.2 != t255) = true then (some false) else (some true)) else (some false)))) = some r := H
 have A9 := Aside0.mk A90; clear A90; replace H := Option.bind_eq_some_iff.mp H; obtain ⟨⟨t266, t267, t268, t269⟩, A100, H⟩ := H
 replace H : ((laws_eqPoint.f t266 t267 t268 t252 t253 t254).bind fun t271 => (if t271 = true then (if (t269 != t255) = true then (some false) else (some true)) else (some false))) = some r := H
 have A10 := Aside0.mk A100; clear A100; replace H := Option.bind_eq_some_iff.mp H; obtain ⟨t271, A110, H⟩ := H
 replace H : (if t271 = true then (if (t269 != t255) = true then (some false) else (some true)) else (some false)) = some r := H
 have A11 := Aside0.mk A110; clear A110
 by_cases c12 : t271 = true
 ·
  subst c12
  have H1 : (if (t269 != t255) = true then (some false) else (some true)) = some r := by rw [if_pos rfl] at H; exact H
  clear H; have H := H1; clear H1
  by_cases c13 : (t269 != t255) = true
  ·
   rw [if_pos c13] at H
   have c13b0 : (t269 != t255) = true := c13
   (try (have c13b1 : decide (t269 = t255) = false := by simpa using c13)); (try (have c13b2 : (t269 == t255) = false := by simpa using c13)); (try (have c13b3 : ¬ (t269 = t255) := by simpa using c13)); clear c13; obtain rfl := Option.some.inj H
   go_enter Try.func5, Try.ntmps5
   try go_wp2_with (first | ((with_reducible refine gate_dst (N := 4) rfl ?_); refine box_event ?hg (N := 4) ?hd (cs := #[.int .i64 a0_0, .int .i64 a0_1, .int .i64 a0_2, .int .i64 a0_3, .int .i64 a0_4, .int .i64 a0_5]) (t := 23) ?hr ?_; (case hd => rfl); (case hg => rfl); (case hr => first | (go_simp; done) | (go_simp; rfl)); intro gb241 hg w14 hbox hb; have n0_ := bs_ HB hb; have n1_ := Aside0.mk hbox; have n2_ := ge_ HB hg; have n3_ := ge_ HB hg; clear HB; have HB := n0_; have BK241 := n1_; have GW241 := n2_; have GE241 := n3_; clear n0_ n1_ n2_ n3_; clear hb hbox hg) | ((with_reducible refine gate_dst (N := 7) rfl ?_); refine box_event ?hg (N := 7) ?hd (cs := #[.int .i64 a3_0, .int .i64 a3_1, .bool a3_2]) (t := 25) ?hr ?_; (case hd => rfl); (case hg => rfl); (case hr => first | (go_simp; done) | (go_simp; rfl)); intro gb242 hg w15 hbox hb; have n0_ := bb_ BK241 hb; have n1_ := bs_ HB hb; have n2_ := Aside0.mk hbox; have n3_ := ge_ HB hg; have n4_ := ge_ HB hg; have n5_ := nl_ BK241 hg; have n6_ := nr_ BK241 hg; clear BK241; clear HB; have BK241 := n0_; have HB := n1_; have BK242 := n2_; have GW242 := n3_; have GE242 := n4_; have NB241_242 := n5_; have NB242_241 := n6_; clear n0_ n1_ n2_ n3_ n4_ n5_ n6_; clear hb hbox hg))
   replace BK241 := Aside0.mk (blk_drew BK241.out); replace BK242 := Aside0.mk (blk_drew BK242.out); replace HB := Aside0.mk (below_drew1 HB.out); refine start_ (n := 13) (S := fun w' => w'.cell? ⟨gb241, 0, none⟩ = some (.int .i64 a0_0) ∧ w'.cell? ⟨gb241, 1, none⟩ = some (.int .i64 a0_1) ∧ w'.cell? ⟨gb241, 2, none⟩ = some (.int .i64 a0_2) ∧ w'.cell? ⟨gb241, 3, none⟩ = some (.int .i64 a0_3) ∧ w'.cell? ⟨gb241, 4, none⟩ = some (.int .i64 a0_4) ∧ w'.cell? ⟨gb241, 5, none⟩ = some (.int .i64 a0_5) ∧ w'.cell? ⟨gb242, 0, none⟩ = some (.int .i64 a3_0) ∧ w'.cell? ⟨gb242, 1, none⟩ = some (.int .i64 a3_1) ∧ w'.cell? ⟨gb242, 2, none⟩ = some (.bool a3_2)) (ds := []) #[false,false,false,false,false,false,false,false,false,false,false,false,false] (by kernel_rfl) rfl rfl ⟨bc_ BK241 0, bc_ BK241 1, bc_ BK241 2, bc_ BK241 3, bc_ BK241 4, bc_ BK241 5, bc_ BK242 0, bc_ BK242 1, bc_ BK242 2⟩ (fun hHeld => ?_); refine with_tabW laws_FnExactTwoMul.tab1 laws_FnExactTwoMul.bits1 (fun HT_ HW_ => ?_)
   generalize w15.drew = w16 at BK241 BK242 HB hHeld ⊢
   refine pure_ (i := 2) (N := some 16) (v := ?_) (a' := ?_) #[false,false,true,false,false,false,false,false,false,false,false,false,false] rfl rfl (any_of HT_.out (by kernel_rfl)) (fun _ _ _ h => h) (Or.inl ⟨by rfl, ?_⟩) ?_ ?_; rotate_left
   ·
    intro w'; go_simp
    with_reducible rfl
   rotate_left
   · simp only [Act.put, sA_, sZ_, sS_, i64_w, i32_w]; rfl
   refine pure_ (i := 3) (N := some 17) (v := ?_) (a' := ?_) #[false,false,true,true,false,false,false,false,false,false,false,false,false] rfl rfl (any_of HT_.out (by kernel_rfl)) (fun _ _ _ h => h) (Or.inl ⟨by rfl, ?_⟩) ?_ ?_; rotate_left
   ·
    intro w'; go_simp
    with_reducible rfl
   rotate_left
   · simp only [Act.put, sA_, sZ_, sS_, i64_w, i32_w]; rfl
   refine take_ (i := 0) (N := some 14) (v := ?_) (a' := ?_) #[true,false,true,true,false,false,false,false,false,false,false,false,false] rfl rfl (take_ofW HT_.out HW_.out (by kernel_rfl)) (fun _ _ _ h => h) (Or.inl ⟨by rfl, ?_⟩) hHeld ?_ ?_; rotate_left
   ·
    rintro w' ⟨s0, s1, s2, s3, s4, s5, s6, s7, s8⟩; go_simp
    with_reducible rfl
   rotate_left
   · simp only [Act.put, sA_, sZ_, sS_, i64_w, i32_w]; rfl
   refine take_ (i := 4) (N := some 18) (v := ?_) (a' := ?_) #[true,false,true,true,true,false,false,false,false,false,false,false,false] rfl rfl (take_ofW HT_.out HW_.out (by kernel_rfl)) (fun _ _ _ h => h) (Or.inl ⟨by rfl, ?_⟩) hHeld ?_ ?_; rotate_left
   ·
    rintro w' ⟨s0, s1, s2, s3, s4, s5, s6, s7, s8⟩; go_simp
    with_reducible rfl
   rotate_left
   · simp only [Act.put, sA_, sZ_, sS_, i64_w, i32_w]; rfl
   refine join_ (σ := Nat) 2 #[true,true,true,true,true,true,true,true,true,true,true,false,false] (fun s_ => [(15, .agg #[.int .i64 t243, .int .i64 t244, .int .i64 t245, .int .i64 t246, .int .i64 t247, .int .i64 t248]), (19, .agg #[.int .i64 t249, .int .i64 t250, .bool t251]), (20, .tuple #[.agg #[.int .i64 t252, .int .i64 t253, .bool t254], .bool t255]), (9, .pointer (some ⟨s_, 0, none⟩)), (13, .tuple #[.agg #[.int .i64 t252, .int .i64 t253, .bool t254], .bool t255]), (21, .agg #[.int .i64 t252, .int .i64 t253, .bool t254]), (22, .bool t255)]) (fun s_ w' => (w'.cell? ⟨gb241, 0, none⟩ = some (.int .i64 a0_0) ∧ w'.cell? ⟨gb241, 1, none⟩ = some (.int .i64 a0_1) ∧ w'.cell? ⟨gb241, 2, none⟩ = some (.int .i64 a0_2) ∧ w'.cell? ⟨gb241, 3, none⟩ = some (.int .i64 a0_3) ∧ w'.cell? ⟨gb241, 4, none⟩ = some (.int .i64 a0_4) ∧ w'.cell? ⟨gb241, 5, none⟩ = some (.int .i64 a0_5) ∧ w'.cell? ⟨gb242, 0, none⟩ = some (.int .i64 a3_0) ∧ w'.cell? ⟨gb242, 1, none⟩ = some (.int .i64 a3_1) ∧ w'.cell? ⟨gb242, 2, none⟩ = some (.bool a3_2)) ∧ (w'.heap[gb241]? = some (.cells #[.int .i64 a0_0, .int .i64 a0_1, .int .i64 a0_2, .int .i64 a0_3, .int .i64 a0_4, .int .i64 a0_5] 23 (0, 0))) ∧ (w'.heap[gb242]? = some (.cells #[.int .i64 a3_0, .int .i64 a3_1, .bool a3_2] 25 (0, 0))) ∧ (w'.heap[s_]? = some (.cells #[.int .i64 0, .int .i64 0, .bool false] 26 (0, 0))) ∧ (w.heap.size ≤ s_) ∧ (w.heap.size ≤ s_) ∧ (gb241 ≠ s_) ∧ (s_ ≠ gb241) ∧ (gb242 ≠ s_) ∧ (s_ ≠ gb242) ∧ (Below w.heap.size w w')) ?_ ?_; rotate_left
   ·
    intro hCont; refine two_ (i := 1) (j := 10) (Ni := some 15) (Nj := some 9) #[true,true,true,true,true,false,false,false,false,false,false,false,false] #[true,false,true,true,true,false,false,false,false,false,true,false,false] rfl rfl rfl rfl (two_of HT_.out (by kernel_rfl)) (by decide) (by decide) (fun K hK => ?_) (fun K hK => ?_)
    ·
     refine gs_ Try.func15 #[.agg #[.int .i64 a0_0, .int .i64 a0_1, .int .i64 a0_2, .int .i64 a0_3, .int .i64 a0_4, .int .i64 a0_5]] ?_
     with_reducible refine (laws_toCurve.calls a0_0 a0_1 a0_2 a0_3 a0_4 a0_5 t243 t244 t245 t246 t247 t248 _ A5.out).mono ?_
     rintro e w17 ⟨rfl, hb⟩; refine ⟨_, rfl, ?_⟩; replace BK241 := bb_ BK241 hb; replace BK242 := bb_ BK242 hb; replace HB := bs_ HB hb; (try clear hb); refine hK.out _ _ ⟨bc_ BK241 0, bc_ BK241 1, bc_ BK241 2, bc_ BK241 3, bc_ BK241 4, bc_ BK241 5, bc_ BK242 0, bc_ BK242 1, bc_ BK242 2⟩ (fun hHeld => ?_); clear hK K
     apply norm_
     · show Act.put _ (some 15) _ = _; simp only [Act.put, sA_, sZ_, sS_, i64_w, i32_w]; rfl
     refine two_ (i := 5) (j := 10) (Ni := some 19) (Nj := some 9) #[true,true,true,true,true,true,false,false,false,false,false,false,false] #[true,true,true,true,true,false,false,false,false,false,true,false,false] rfl rfl rfl rfl (two_of HT_.out (by kernel_rfl)) (by decide) (by decide) (fun K hK => ?_) (fun K hK => ?_)
     ·
      refine gs_ Try.func16 #[.agg #[.int .i64 a3_0, .int .i64 a3_1, .bool a3_2]] ?_
      with_reducible refine (laws_toPoint.calls a3_0 a3_1 a3_2 t249 t250 t251 _ A6.out).mono ?_
      rintro e w18 ⟨rfl, hb⟩; refine ⟨_, rfl, ?_⟩; replace BK241 := bb_ BK241 hb; replace BK242 := bb_ BK242 hb; replace HB := bs_ HB hb; (try clear hb); refine hK.out _ _ ⟨bc_ BK241 0, bc_ BK241 1, bc_ BK241 2, bc_ BK241 3, bc_ BK241 4, bc_ BK241 5, bc_ BK242 0, bc_ BK242 1, bc_ BK242 2⟩ (fun hHeld => ?_); clear hK K
      apply norm_
      · show Act.put _ (some 19) _ = _; simp only [Act.put, sA_, sZ_, sS_, i64_w, i32_w]; rfl
      refine two_ (i := 6) (j := 10) (Ni := some 20) (Nj := some 9) #[true,true,true,true,true,true,true,false,false,false,false,false,false] #[true,true,true,true,true,true,false,false,false,false,true,false,false] rfl rfl rfl rfl (two_of HT_.out (by kernel_rfl)) (by decide) (by decide) (fun K hK => ?_) (fun K hK => ?_)
      ·
       refine gs_ Try.func21 #[.agg #[.int .i64 t243, .int .i64 t244, .int .i64 t245, .int .i64 t246, .int .i64 t247, .int .i64 t248], .int .i64 a1, .int .i64 a2, .agg #[.int .i64 t249, .int .i64 t250, .bool t251]] ?_
       with_reducible refine (spec_TwoMul.calls k t243 t244 t245 t246 t247 t248 a1 a2 t249 t250 t251 t252 t253 t254 t255 _ A7.out).mono ?_
       rintro e w19 ⟨rfl, hb⟩; refine ⟨_, rfl, ?_⟩; replace BK241 := bb_ BK241 hb; replace BK242 := bb_ BK242 hb; replace HB := bs_ HB hb; (try clear hb); refine hK.out _ _ ⟨bc_ BK241 0, bc_ BK241 1, bc_ BK241 2, bc_ BK241 3, bc_ BK241 4, bc_ BK241 5, bc_ BK242 0, bc_ BK242 1, bc_ BK242 2⟩ (fun hHeld => ?_); clear hK K
       apply norm_
       · show Act.put _ (some 20) _ = _; simp only [Act.put, sA_, sZ_, sS_, i64_w, i32_w]; rfl
       refine pure_ (i := 7) (N := some 13) (v := ?_) (a' := ?_) #[true,true,true,true,true,true,true,true,false,false,false,false,false] rfl rfl (any_of HT_.out (by kernel_rfl)) (fun _ _ _ h => h) (Or.inl ⟨by rfl, ?_⟩) ?_ ?_; rotate_left
       ·
        intro w'; go_simp
        with_reducible rfl
       rotate_left
       · simp only [Act.put, sA_, sZ_, sS_, i64_w, i32_w]; rfl
       refine pure_ (i := 8) (N := some 21) (v := ?_) (a' := ?_) #[true,true,true,true,true,true,true,true,true,false,false,false,false] rfl rfl (any_of HT_.out (by kernel_rfl)) (fun _ _ _ h => h) (Or.inl ⟨by rfl, ?_⟩) ?_ ?_; rotate_left
       ·
        intro w'; go_simp
        with_reducible rfl
       rotate_left
       · simp only [Act.put, sA_, sZ_, sS_, i64_w, i32_w]; rfl
       refine pure_ (i := 9) (N := some 22) (v := ?_) (a' := ?_) #[true,true,true,true,true,true,true,true,true,true,false,false,false] rfl rfl (any_of HT_.out (by kernel_rfl)) (fun _ _ _ h => h) (Or.inl ⟨by rfl, ?_⟩) ?_ ?_; rotate_left
       ·
        intro w'; go_simp
        with_reducible rfl
       rotate_left
       · simp only [Act.put, sA_, sZ_, sS_, i64_w, i32_w]; rfl
       refine one_ (i := 10) (N := some 9) #[true,true,true,true,true,true,true,true,true,true,true,false,false] rfl rfl (one_of HT_.out (by kernel_rfl)) (by decide) (fun K hK => ?_); refine box_step ?hg (N := 9) ?hd (cs := #[.int .i64 0, .int .i64 0, .bool false]) (t := 26) ?hr ?_; (case hd => rfl); (case hg => rfl); (case hr => first | (go_simp; done) | (go_simp; rfl))
       intro gb256 hg w20 hbox hb; have n0_ := bb_ BK241 hb; have n1_ := bb_ BK242 hb; have n2_ := bs_ HB hb; have n3_ := Aside0.mk hbox; have n4_ := ge_ HB hg; have n5_ := ge_ HB hg; have n6_ := nl_ BK241 hg; have n7_ := nr_ BK241 hg; have n8_ := nl_ BK242 hg; have n9_ := nr_ BK242 hg; clear BK241 BK242 HB; have BK241 := n0_; have BK242 := n1_; have HB := n2_; have BK256 := n3_; have GW256 := n4_; have GE256 := n5_; have NB241_256 := n6_; have NB256_241 := n7_; have NB242_256 := n8_; have NB256_242 := n9_; clear n0_ n1_ n2_ n3_ n4_ n5_ n6_ n7_ n8_ n9_; clear hb hbox hg; refine hK.out _ _ ⟨bc_ BK241 0, bc_ BK241 1, bc_ BK241 2, bc_ BK241 3, bc_ BK241 4, bc_ BK241 5, bc_ BK242 0, bc_ BK242 1, bc_ BK242 2⟩ (fun hHeld => ?_); clear hK K
       apply norm_
       · show Act.put _ (some 9) _ = _; simp only [Act.put, sA_, sZ_, sS_, i64_w, i32_w]; rfl
       exact norm_ (by simp only [putAll, Act.put, sA_, sZ_, sS_]) (hCont (gb256) _ ⟨hHeld, (bk_ BK241), (bk_ BK242), (bk_ BK256), GW256.out, GE256.out, NB241_256.out, NB256_241.out, NB242_256.out, NB256_242.out, (bw_ HB)⟩)
      ·
       refine box_step ?hg (N := 9) ?hd (cs := #[.int .i64 0, .int .i64 0, .bool false]) (t := 26) ?hr ?_; (case hd => rfl); (case hg => rfl); (case hr => first | (go_simp; done) | (go_simp; rfl))
       intro gb256 hg w19 hbox hb; have n0_ := bb_ BK241 hb; have n1_ := bb_ BK242 hb; have n2_ := bs_ HB hb; have n3_ := Aside0.mk hbox; have n4_ := ge_ HB hg; have n5_ := ge_ HB hg; have n6_ := nl_ BK241 hg; have n7_ := nr_ BK241 hg; have n8_ := nl_ BK242 hg; have n9_ := nr_ BK242 hg; clear BK241 BK242 HB; have BK241 := n0_; have BK242 := n1_; have HB := n2_; have BK256 := n3_; have GW256 := n4_; have GE256 := n5_; have NB241_256 := n6_; have NB256_241 := n7_; have NB242_256 := n8_; have NB256_242 := n9_; clear n0_ n1_ n2_ n3_ n4_ n5_ n6_ n7_ n8_ n9_; clear hb hbox hg; refine hK.out _ _ ⟨bc_ BK241 0, bc_ BK241 1, bc_ BK241 2, bc_ BK241 3, bc_ BK241 4, bc_ BK241 5, bc_ BK242 0, bc_ BK242 1, bc_ BK242 2⟩ (fun hHeld => ?_); clear hK K
       apply norm_
       · show Act.put _ (some 9) _ = _; simp only [Act.put, sA_, sZ_, sS_, i64_w, i32_w]; rfl
       refine one_ (i := 6) (N := some 20) #[true,true,true,true,true,true,true,false,false,false,true,false,false] rfl rfl (one_of HT_.out (by kernel_rfl)) (by decide) (fun K hK => ?_); refine gs_ Try.func21 #[.agg #[.int .i64 t243, .int .i64 t244, .int .i64 t245, .int .i64 t246, .int .i64 t247, .int .i64 t248], .int .i64 a1, .int .i64 a2, .agg #[.int .i64 t249, .int .i64 t250, .bool t251]] ?_
       with_reducible refine (spec_TwoMul.calls k t243 t244 t245 t246 t247 t248 a1 a2 t249 t250 t251 t252 t253 t254 t255 _ A7.out).mono ?_
       rintro e w20 ⟨rfl, hb⟩; refine ⟨_, rfl, ?_⟩; replace BK241 := bb_ BK241 hb; replace BK242 := bb_ BK242 hb; replace BK256 := bb_ BK256 hb; replace HB := bs_ HB hb; (try clear hb); refine hK.out _ _ ⟨bc_ BK241 0, bc_ BK241 1, bc_ BK241 2, bc_ BK241 3, bc_ BK241 4, bc_ BK241 5, bc_ BK242 0, bc_ BK242 1, bc_ BK242 2⟩ (fun hHeld => ?_); clear hK K
       apply norm_
       · show Act.put _ (some 20) _ = _; simp only [Act.put, sA_, sZ_, sS_, i64_w, i32_w]; rfl
       refine pure_ (i := 7) (N := some 13) (v := ?_) (a' := ?_) #[true,true,true,true,true,true,true,true,false,false,true,false,false] rfl rfl (any_of HT_.out (by kernel_rfl)) (fun _ _ _ h => h) (Or.inl ⟨by rfl, ?_⟩) ?_ ?_; rotate_left
       ·
        intro w'; go_simp
        with_reducible rfl
       rotate_left
       · simp only [Act.put, sA_, sZ_, sS_, i64_w, i32_w]; rfl
       refine pure_ (i := 8) (N := some 21) (v := ?_) (a' := ?_) #[true,true,true,true,true,true,true,true,true,false,true,false,false] rfl rfl (any_of HT_.out (by kernel_rfl)) (fun _ _ _ h => h) (Or.inl ⟨by rfl, ?_⟩) ?_ ?_; rotate_left
       ·
        intro w'; go_simp
        with_reducible rfl
       rotate_left
       · simp only [Act.put, sA_, sZ_, sS_, i64_w, i32_w]; rfl
       refine pure_ (i := 9) (N := some 22) (v := ?_) (a' := ?_) #[true,true,true,true,true,true,true,true,true,true,true,false,false] rfl rfl (any_of HT_.out (by kernel_rfl)) (fun _ _ _ h => h) (Or.inl ⟨by rfl, ?_⟩) ?_ ?_; rotate_left
       ·
        intro w'; go_simp
        with_reducible rfl
       rotate_left
       · simp only [Act.put, sA_, sZ_, sS_, i64_w, i32_w]; rfl
       exact norm_ (by simp only [putAll, Act.put, sA_, sZ_, sS_]) (hCont (gb256) _ ⟨hHeld, (bk_ BK241), (bk_ BK242), (bk_ BK256), GW256.out, GE256.out, NB241_256.out, NB256_241.out, NB242_256.out, NB256_242.out, (bw_ HB)⟩)
     ·
      refine box_step ?hg (N := 9) ?hd (cs := #[.int .i64 0, .int .i64 0, .bool false]) (t := 26) ?hr ?_; (case hd => rfl); (case hg => rfl); (case hr => first | (go_simp; done) | (go_simp; rfl))
      intro gb256 hg w18 hbox hb; have n0_ := bb_ BK241 hb; have n1_ := bb_ BK242 hb; have n2_ := bs_ HB hb; have n3_ := Aside0.mk hbox; have n4_ := ge_ HB hg; have n5_ := ge_ HB hg; have n6_ := nl_ BK241 hg; have n7_ := nr_ BK241 hg; have n8_ := nl_ BK242 hg; have n9_ := nr_ BK242 hg; clear BK241 BK242 HB; have BK241 := n0_; have BK242 := n1_; have HB := n2_; have BK256 := n3_; have GW256 := n4_; have GE256 := n5_; have NB241_256 := n6_; have NB256_241 := n7_; have NB242_256 := n8_; have NB256_242 := n9_; clear n0_ n1_ n2_ n3_ n4_ n5_ n6_ n7_ n8_ n9_; clear hb hbox hg; refine hK.out _ _ ⟨bc_ BK241 0, bc_ BK241 1, bc_ BK241 2, bc_ BK241 3, bc_ BK241 4, bc_ BK241 5, bc_ BK242 0, bc_ BK242 1, bc_ BK242 2⟩ (fun hHeld => ?_); clear hK K
      apply norm_
      · show Act.put _ (some 9) _ = _; simp only [Act.put, sA_, sZ_, sS_, i64_w, i32_w]; rfl
      refine one_ (i := 5) (N := some 19) #[true,true,true,true,true,true,false,false,false,false,true,false,false] rfl rfl (one_of HT_.out (by kernel_rfl)) (by decide) (fun K hK => ?_); refine gs_ Try.func16 #[.agg #[.int .i64 a3_0, .int .i64 a3_1, .bool a3_2]] ?_
      with_reducible refine (laws_toPoint.calls a3_0 a3_1 a3_2 t249 t250 t251 _ A6.out).mono ?_
      rintro e w19 ⟨rfl, hb⟩; refine ⟨_, rfl, ?_⟩; replace BK241 := bb_ BK241 hb; replace BK242 := bb_ BK242 hb; replace BK256 := bb_ BK256 hb; replace HB := bs_ HB hb; (try clear hb); refine hK.out _ _ ⟨bc_ BK241 0, bc_ BK241 1, bc_ BK241 2, bc_ BK241 3, bc_ BK241 4, bc_ BK241 5, bc_ BK242 0, bc_ BK242 1, bc_ BK242 2⟩ (fun hHeld => ?_); clear hK K
      apply norm_
      · show Act.put _ (some 19) _ = _; simp only [Act.put, sA_, sZ_, sS_, i64_w, i32_w]; rfl
      refine one_ (i := 6) (N := some 20) #[true,true,true,true,true,true,true,false,false,false,true,false,false] rfl rfl (one_of HT_.out (by kernel_rfl)) (by decide) (fun K hK => ?_); refine gs_ Try.func21 #[.agg #[.int .i64 t243, .int .i64 t244, .int .i64 t245, .int .i64 t246, .int .i64 t247, .int .i64 t248], .int .i64 a1, .int .i64 a2, .agg #[.int .i64 t249, .int .i64 t250, .bool t251]] ?_
      with_reducible refine (spec_TwoMul.calls k t243 t244 t245 t246 t247 t248 a1 a2 t249 t250 t251 t252 t253 t254 t255 _ A7.out).mono ?_
      rintro e w20 ⟨rfl, hb⟩; refine ⟨_, rfl, ?_⟩; replace BK241 := bb_ BK241 hb; replace BK242 := bb_ BK242 hb; replace BK256 := bb_ BK256 hb; replace HB := bs_ HB hb; (try clear hb); refine hK.out _ _ ⟨bc_ BK241 0, bc_ BK241 1, bc_ BK241 2, bc_ BK241 3, bc_ BK241 4, bc_ BK241 5, bc_ BK242 0, bc_ BK242 1, bc_ BK242 2⟩ (fun hHeld => ?_); clear hK K
      apply norm_
      · show Act.put _ (some 20) _ = _; simp only [Act.put, sA_, sZ_, sS_, i64_w, i32_w]; rfl
      refine pure_ (i := 7) (N := some 13) (v := ?_) (a' := ?_) #[true,true,true,true,true,true,true,true,false,false,true,false,false] rfl rfl (any_of HT_.out (by kernel_rfl)) (fun _ _ _ h => h) (Or.inl ⟨by rfl, ?_⟩) ?_ ?_; rotate_left
      ·
       intro w'; go_simp
       with_reducible rfl
      rotate_left
      · simp only [Act.put, sA_, sZ_, sS_, i64_w, i32_w]; rfl
      refine pure_ (i := 8) (N := some 21) (v := ?_) (a' := ?_) #[true,true,true,true,true,true,true,true,true,false,true,false,false] rfl rfl (any_of HT_.out (by kernel_rfl)) (fun _ _ _ h => h) (Or.inl ⟨by rfl, ?_⟩) ?_ ?_; rotate_left
      ·
       intro w'; go_simp
       with_reducible rfl
      rotate_left
      · simp only [Act.put, sA_, sZ_, sS_, i64_w, i32_w]; rfl
      refine pure_ (i := 9) (N := some 22) (v := ?_) (a' := ?_) #[true,true,true,true,true,true,true,true,true,true,true,false,false] rfl rfl (any_of HT_.out (by kernel_rfl)) (fun _ _ _ h => h) (Or.inl ⟨by rfl, ?_⟩) ?_ ?_; rotate_left
      ·
       intro w'; go_simp
       with_reducible rfl
      rotate_left
      · simp only [Act.put, sA_, sZ_, sS_, i64_w, i32_w]; rfl
      exact norm_ (by simp only [putAll, Act.put, sA_, sZ_, sS_]) (hCont (gb256) _ ⟨hHeld, (bk_ BK241), (bk_ BK242), (bk_ BK256), GW256.out, GE256.out, NB241_256.out, NB256_241.out, NB242_256.out, NB256_242.out, (bw_ HB)⟩)
    ·
     refine box_step ?hg (N := 9) ?hd (cs := #[.int .i64 0, .int .i64 0, .bool false]) (t := 26) ?hr ?_; (case hd => rfl); (case hg => rfl); (case hr => first | (go_simp; done) | (go_simp; rfl))
     intro gb256 hg w17 hbox hb; have n0_ := bb_ BK241 hb; have n1_ := bb_ BK242 hb; have n2_ := bs_ HB hb; have n3_ := Aside0.mk hbox; have n4_ := ge_ HB hg; have n5_ := ge_ HB hg; have n6_ := nl_ BK241 hg; have n7_ := nr_ BK241 hg; have n8_ := nl_ BK242 hg; have n9_ := nr_ BK242 hg; clear BK241 BK242 HB; have BK241 := n0_; have BK242 := n1_; have HB := n2_; have BK256 := n3_; have GW256 := n4_; have GE256 := n5_; have NB241_256 := n6_; have NB256_241 := n7_; have NB242_256 := n8_; have NB256_242 := n9_; clear n0_ n1_ n2_ n3_ n4_ n5_ n6_ n7_ n8_ n9_; clear hb hbox hg; refine hK.out _ _ ⟨bc_ BK241 0, bc_ BK241 1, bc_ BK241 2, bc_ BK241 3, bc_ BK241 4, bc_ BK241 5, bc_ BK242 0, bc_ BK242 1, bc_ BK242 2⟩ (fun hHeld => ?_); clear hK K
     apply norm_
     · show Act.put _ (some 9) _ = _; simp only [Act.put, sA_, sZ_, sS_, i64_w, i32_w]; rfl
     refine one_ (i := 1) (N := some 15) #[true,true,true,true,true,false,false,false,false,false,true,false,false] rfl rfl (one_of HT_.out (by kernel_rfl)) (by decide) (fun K hK => ?_); refine gs_ Try.func15 #[.agg #[.int .i64 a0_0, .int .i64 a0_1, .int .i64 a0_2, .int .i64 a0_3, .int .i64 a0_4, .int .i64 a0_5]] ?_
     with_reducible refine (laws_toCurve.calls a0_0 a0_1 a0_2 a0_3 a0_4 a0_5 t243 t244 t245 t246 t247 t248 _ A5.out).mono ?_
     rintro e w18 ⟨rfl, hb⟩; refine ⟨_, rfl, ?_⟩; replace BK241 := bb_ BK241 hb; replace BK242 := bb_ BK242 hb; replace BK256 := bb_ BK256 hb; replace HB := bs_ HB hb; (try clear hb); refine hK.out _ _ ⟨bc_ BK241 0, bc_ BK241 1, bc_ BK241 2, bc_ BK241 3, bc_ BK241 4, bc_ BK241 5, bc_ BK242 0, bc_ BK242 1, bc_ BK242 2⟩ (fun hHeld => ?_); clear hK K
     apply norm_
     · show Act.put _ (some 15) _ = _; simp only [Act.put, sA_, sZ_, sS_, i64_w, i32_w]; rfl
     refine one_ (i := 5) (N := some 19) #[true,true,true,true,true,true,false,false,false,false,true,false,false] rfl rfl (one_of HT_.out (by kernel_rfl)) (by decide) (fun K hK => ?_); refine gs_ Try.func16 #[.agg #[.int .i64 a3_0, .int .i64 a3_1, .bool a3_2]] ?_
     with_reducible refine (laws_toPoint.calls a3_0 a3_1 a3_2 t249 t250 t251 _ A6.out).mono ?_
     rintro e w19 ⟨rfl, hb⟩; refine ⟨_, rfl, ?_⟩; replace BK241 := bb_ BK241 hb; replace BK242 := bb_ BK242 hb; replace BK256 := bb_ BK256 hb; replace HB := bs_ HB hb; (try clear hb); refine hK.out _ _ ⟨bc_ BK241 0, bc_ BK241 1, bc_ BK241 2, bc_ BK241 3, bc_ BK241 4, bc_ BK241 5, bc_ BK242 0, bc_ BK242 1, bc_ BK242 2⟩ (fun hHeld => ?_); clear hK K
     apply norm_
     · show Act.put _ (some 19) _ = _; simp only [Act.put, sA_, sZ_, sS_, i64_w, i32_w]; rfl
     refine one_ (i := 6) (N := some 20) #[true,true,true,true,true,true,true,false,false,false,true,false,false] rfl rfl (one_of HT_.out (by kernel_rfl)) (by decide) (fun K hK => ?_); refine gs_ Try.func21 #[.agg #[.int .i64 t243, .int .i64 t244, .int .i64 t245, .int .i64 t246, .int .i64 t247, .int .i64 t248], .int .i64 a1, .int .i64 a2, .agg #[.int .i64 t249, .int .i64 t250, .bool t251]] ?_
     with_reducible refine (spec_TwoMul.calls k t243 t244 t245 t246 t247 t248 a1 a2 t249 t250 t251 t252 t253 t254 t255 _ A7.out).mono ?_
     rintro e w20 ⟨rfl, hb⟩; refine ⟨_, rfl, ?_⟩; replace BK241 := bb_ BK241 hb; replace BK242 := bb_ BK242 hb; replace BK256 := bb_ BK256 hb; replace HB := bs_ HB hb; (try clear hb); refine hK.out _ _ ⟨bc_ BK241 0, bc_ BK241 1, bc_ BK241 2, bc_ BK241 3, bc_ BK241 4, bc_ BK241 5, bc_ BK242 0, bc_ BK242 1, bc_ BK242 2⟩ (fun hHeld => ?_); clear hK K
     apply norm_
     · show Act.put _ (some 20) _ = _; simp only [Act.put, sA_, sZ_, sS_, i64_w, i32_w]; rfl
     refine pure_ (i := 7) (N := some 13) (v := ?_) (a' := ?_) #[true,true,true,true,true,true,true,true,false,false,true,false,false] rfl rfl (any_of HT_.out (by kernel_rfl)) (fun _ _ _ h => h) (Or.inl ⟨by rfl, ?_⟩) ?_ ?_; rotate_left
     ·
      intro w'; go_simp
      with_reducible rfl
     rotate_left
     · simp only [Act.put, sA_, sZ_, sS_, i64_w, i32_w]; rfl
     refine pure_ (i := 8) (N := some 21) (v := ?_) (a' := ?_) #[true,true,true,true,true,true,true,true,true,false,true,false,false] rfl rfl (any_of HT_.out (by kernel_rfl)) (fun _ _ _ h => h) (Or.inl ⟨by rfl, ?_⟩) ?_ ?_; rotate_left
     ·
      intro w'; go_simp
      with_reducible rfl
     rotate_left
     · simp only [Act.put, sA_, sZ_, sS_, i64_w, i32_w]; rfl
     refine pure_ (i := 9) (N := some 22) (v := ?_) (a' := ?_) #[true,true,true,true,true,true,true,true,true,true,true,false,false] rfl rfl (any_of HT_.out (by kernel_rfl)) (fun _ _ _ h => h) (Or.inl ⟨by rfl, ?_⟩) ?_ ?_; rotate_left
     ·
      intro w'; go_simp
      with_reducible rfl
     rotate_left
     · simp only [Act.put, sA_, sZ_, sS_, i64_w, i32_w]; rfl
     exact norm_ (by simp only [putAll, Act.put, sA_, sZ_, sS_]) (hCont (gb256) _ ⟨hHeld, (bk_ BK241), (bk_ BK242), (bk_ BK256), GW256.out, GE256.out, NB241_256.out, NB256_241.out, NB242_256.out, NB256_242.out, (bw_ HB)⟩)
   rintro gb256 w21 ⟨hS_, h0_, h1_, h2_, h3_, h4_, h5_, h6_, h7_, h8_, h9_⟩; replace BK241 := Aside0.mk h0_; replace BK242 := Aside0.mk h1_; have BK256 := Aside0.mk h2_; have GW256 := Aside0.mk h3_; have GE256 := Aside0.mk h4_; have NB241_256 := Aside0.mk h5_; have NB256_241 := Aside0.mk h6_; have NB242_256 := Aside0.mk h7_; have NB256_242 := Aside0.mk h8_; replace HB := Aside0.mk h9_; clear h0_ h1_ h2_ h3_ h4_ h5_ h6_ h7_ h8_ h9_; have hHeld := hS_
   apply norm_
   · simp only [putAll, Act.put, sA_, sZ_, sS_]; rfl
   refine one_ (i := 11) (N := none) #[true,true,true,true,true,true,true,true,true,true,true,true,false] rfl rfl (one_of HT_.out (by kernel_rfl)) (by decide) (fun K hK => ?_)
   have hs22 : w21.cell? ⟨gb256, 0, none⟩ = some (.int .i64 0) := bc_ BK256 0
   have hfs22 := blk_frozen BK256.out 0; have hns22_0 := NB241_256.out; have hns22_1 := NB242_256.out; have hms22_0 := NB256_241.out; have hms22_1 := NB256_242.out
   have hs23 : w21.cell? ⟨gb256, 1, none⟩ = some (.int .i64 0) := bc_ BK256 1
   have hfs23 := blk_frozen BK256.out 1; have hns23_0 := NB241_256.out; have hns23_1 := NB242_256.out; have hms23_0 := NB256_241.out; have hms23_1 := NB256_242.out
   have hs24 : w21.cell? ⟨gb256, 2, none⟩ = some (.bool false) := bc_ BK256 2
   have hfs24 := blk_frozen BK256.out 2; have hns24_0 := NB241_256.out; have hns24_1 := NB242_256.out; have hms24_0 := NB256_241.out; have hms24_1 := NB256_242.out; refine skip_ (w1 := ?_) (by rfl) rfl ?_ ?_; rotate_left
   · go_simp; rfl
   refine hK.out _ _ ⟨((cell_far (p := ⟨gb256, _, none⟩) NB241_256.out _).trans (((cell_far (p := ⟨gb256, _, none⟩) NB241_256.out _).trans (((cell_far (p := ⟨gb256, _, none⟩) NB241_256.out _).trans (hHeld.1)))))), ((cell_far (p := ⟨gb256, _, none⟩) NB241_256.out _).trans (((cell_far (p := ⟨gb256, _, none⟩) NB241_256.out _).trans (((cell_far (p := ⟨gb256, _, none⟩) NB241_256.out _).trans (hHeld.2.1)))))), ((cell_far (p := ⟨gb256, _, none⟩) NB241_256.out _).trans (((cell_far (p := ⟨gb256, _, none⟩) NB241_256.out _).trans (((cell_far (p := ⟨gb256, _, none⟩) NB241_256.out _).trans (hHeld.2.2.1)))))), ((cell_far (p := ⟨gb256, _, none⟩) NB241_256.out _).trans (((cell_far (p := ⟨gb256, _, none⟩) NB241_256.out _).trans (((cell_far (p := ⟨gb256, _, none⟩) NB241_256.out _).trans (hHeld.2.2.2.1)))))), ((cell_far (p := ⟨gb256, _, none⟩) NB241_256.out _).trans (((cell_far (p := ⟨gb256, _, none⟩) NB241_256.out _).trans (((cell_far (p := ⟨gb256, _, none⟩) NB241_256.out _).trans (hHeld.2.2.2.2.1)))))), ((cell_far (p := ⟨gb256, _, none⟩) NB241_256.out _).trans (((cell_far (p := ⟨gb256, _, none⟩) NB241_256.out _).trans (((cell_far (p := ⟨gb256, _, none⟩) NB241_256.out _).trans (hHeld.2.2.2.2.2.1)))))), ((cell_far (p := ⟨gb256, _, none⟩) NB242_256.out _).trans (((cell_far (p := ⟨gb256, _, none⟩) NB242_256.out _).trans (((cell_far (p := ⟨gb256, _, none⟩) NB242_256.out _).trans (hHeld.2.2.2.2.2.2.1)))))), ((cell_far (p := ⟨gb256, _, none⟩) NB242_256.out _).trans (((cell_far (p := ⟨gb256, _, none⟩) NB242_256.out _).trans (((cell_far (p := ⟨gb256, _, none⟩) NB242_256.out _).trans (hHeld.2.2.2.2.2.2.2.1)))))), ((cell_far (p := ⟨gb256, _, none⟩) NB242_256.out _).trans (((cell_far (p := ⟨gb256, _, none⟩) NB242_256.out _).trans (((cell_far (p := ⟨gb256, _, none⟩) NB242_256.out _).trans (hHeld.2.2.2.2.2.2.2.2))))))⟩ (fun hHeld => ?_); clear hK K; refine pure_ (i := 12) (N := some 10) (v := ?_) (a' := ?_) #[true,true,true,true,true,true,true,true,true,true,true,true,true] rfl rfl (any_of HT_.out (by kernel_rfl)) (fun _ _ _ h => h) (Or.inl ⟨by rfl, ?_⟩) ?_ ?_; rotate_left
   ·
    intro w'; go_simp
    with_reducible rfl
   rotate_left
   · simp only [Act.put, sA_, sZ_, sS_, i64_w, i32_w]; rfl
   refine done_ (done_of HT_.out (by kernel_rfl)) ?_
   try go_wp2
   have n0_ : Aside0 ((((w21.setCell ⟨gb256, 0, none⟩ (.int .i64 t252)).setCell ⟨gb256, 1, none⟩ (.int .i64 t253)).setCell ⟨gb256, 2, none⟩ (.bool t254)).heap[gb241]? = some (.cells #[.int .i64 a0_0, .int .i64 a0_1, .int .i64 a0_2, .int .i64 a0_3, .int .i64 a0_4, .int .i64 a0_5] 23 (0, 0))) := ⟨by (with_reducible repeat (first | refine blk_drewN ?_ _ | refine blk_drew ?_ | refine blk_alloc ?_ _)); refine blk_far ?_ NB241_256.out _; (with_reducible repeat (first | refine blk_drewN ?_ _ | refine blk_drew ?_ | refine blk_alloc ?_ _)); refine blk_far ?_ NB241_256.out _; (with_reducible repeat (first | refine blk_drewN ?_ _ | refine blk_drew ?_ | refine blk_alloc ?_ _)); refine blk_far ?_ NB241_256.out _; (with_reducible repeat (first | refine blk_drewN ?_ _ | refine blk_drew ?_ | refine blk_alloc ?_ _)); exact BK241.out⟩
   have n1_ : Aside0 ((((w21.setCell ⟨gb256, 0, none⟩ (.int .i64 t252)).setCell ⟨gb256, 1, none⟩ (.int .i64 t253)).setCell ⟨gb256, 2, none⟩ (.bool t254)).heap[gb242]? = some (.cells #[.int .i64 a3_0, .int .i64 a3_1, .bool a3_2] 25 (0, 0))) := ⟨by (with_reducible repeat (first | refine blk_drewN ?_ _ | refine blk_drew ?_ | refine blk_alloc ?_ _)); refine blk_far ?_ NB242_256.out _; (with_reducible repeat (first | refine blk_drewN ?_ _ | refine blk_drew ?_ | refine blk_alloc ?_ _)); refine blk_far ?_ NB242_256.out _; (with_reducible repeat (first | refine blk_drewN ?_ _ | refine blk_drew ?_ | refine blk_alloc ?_ _)); refine blk_far ?_ NB242_256.out _; (with_reducible repeat (first | refine blk_drewN ?_ _ | refine blk_drew ?_ | refine blk_alloc ?_ _)); exact BK242.out⟩
   have n2_ : Aside0 ((((w21.setCell ⟨gb256, 0, none⟩ (.int .i64 t252)).setCell ⟨gb256, 1, none⟩ (.int .i64 t253)).setCell ⟨gb256, 2, none⟩ (.bool t254)).heap[gb256]? = some (.cells #[.int .i64 t252, .int .i64 t253, .bool t254] 26 (0, 0))) := ⟨by (with_reducible repeat (first | refine blk_drewN ?_ _ | refine blk_drew ?_ | refine blk_alloc ?_ _)); refine blk_put (cs := #[.int .i64 t252, .int .i64 t253, .bool false]) ?_ 2 _ rfl; (with_reducible repeat (first | refine blk_drewN ?_ _ | refine blk_drew ?_ | refine blk_alloc ?_ _)); refine blk_put (cs := #[.int .i64 t252, .int .i64 0, .bool false]) ?_ 1 _ rfl; (with_reducible repeat (first | refine blk_drewN ?_ _ | refine blk_drew ?_ | refine blk_alloc ?_ _)); refine blk_put (cs := #[.int .i64 0, .int .i64 0, .bool false]) ?_ 0 _ rfl; (with_reducible repeat (first | refine blk_drewN ?_ _ | refine blk_drew ?_ | refine blk_alloc ?_ _)); exact BK256.out⟩
   have n3_ : Aside0 (Below w.heap.size w (((w21.setCell ⟨gb256, 0, none⟩ (.int .i64 t252)).setCell ⟨gb256, 1, none⟩ (.int .i64 t253)).setCell ⟨gb256, 2, none⟩ (.bool t254))) := ⟨by repeat (first | (with_reducible first | exact HB.out | apply below_alloc | apply pw_below_drewN | apply below_drew1 | refine below_set ?_ GE241.out | refine below_set ?_ GE242.out | refine below_set ?_ GE256.out) | exact HB.out)⟩
   (try clear BK241); (try clear BK242); (try clear BK256); (try clear HB)
   generalize (((w21.setCell ⟨gb256, 0, none⟩ (.int .i64 t252)).setCell ⟨gb256, 1, none⟩ (.int .i64 t253)).setCell ⟨gb256, 2, none⟩ (.bool t254)) = w25 at n0_ n1_ n2_ n3_ ⊢
   have BK241 := n0_; have BK242 := n1_; have BK256 := n2_; have HB := n3_; clear n0_ n1_ n2_ n3_; replace BK241 := Aside0.mk (blk_drew BK241.out); replace BK242 := Aside0.mk (blk_drew BK242.out); replace BK256 := Aside0.mk (blk_drew BK256.out); replace HB := Aside0.mk (below_drew1 HB.out); refine start_ (n := 13) (S := fun w' => w'.cell? ⟨gb241, 0, none⟩ = some (.int .i64 a0_0) ∧ w'.cell? ⟨gb241, 1, none⟩ = some (.int .i64 a0_1) ∧ w'.cell? ⟨gb241, 2, none⟩ = some (.int .i64 a0_2) ∧ w'.cell? ⟨gb241, 3, none⟩ = some (.int .i64 a0_3) ∧ w'.cell? ⟨gb241, 4, none⟩ = some (.int .i64 a0_4) ∧ w'.cell? ⟨gb241, 5, none⟩ = some (.int .i64 a0_5) ∧ w'.cell? ⟨gb242, 0, none⟩ = some (.int .i64 a3_0) ∧ w'.cell? ⟨gb242, 1, none⟩ = some (.int .i64 a3_1) ∧ w'.cell? ⟨gb242, 2, none⟩ = some (.bool a3_2)) (ds := []) #[false,false,false,false,false,false,false,false,false,false,false,false,false] (by kernel_rfl) rfl rfl ⟨bc_ BK241 0, bc_ BK241 1, bc_ BK241 2, bc_ BK241 3, bc_ BK241 4, bc_ BK241 5, bc_ BK242 0, bc_ BK242 1, bc_ BK242 2⟩ (fun hHeld => ?_); refine with_tabW laws_FnExactTwoMul.tab2 laws_FnExactTwoMul.bits2 (fun HT_ HW_ => ?_)
   generalize w25.drew = w26 at BK241 BK242 BK256 HB hHeld ⊢
   refine pure_ (i := 2) (N := some 26) (v := ?_) (a' := ?_) #[false,false,true,false,false,false,false,false,false,false,false,false,false] rfl rfl (any_of HT_.out (by kernel_rfl)) (fun _ _ _ h => h) (Or.inl ⟨by rfl, ?_⟩) ?_ ?_; rotate_left
   ·
    intro w'; go_simp
    with_reducible rfl
   rotate_left
   · simp only [Act.put, sA_, sZ_, sS_, i64_w, i32_w]; rfl
   refine pure_ (i := 3) (N := some 27) (v := ?_) (a' := ?_) #[false,false,true,true,false,false,false,false,false,false,false,false,false] rfl rfl (any_of HT_.out (by kernel_rfl)) (fun _ _ _ h => h) (Or.inl ⟨by rfl, ?_⟩) ?_ ?_; rotate_left
   ·
    intro w'; go_simp
    with_reducible rfl
   rotate_left
   · simp only [Act.put, sA_, sZ_, sS_, i64_w, i32_w]; rfl
   refine take_ (i := 0) (N := some 24) (v := ?_) (a' := ?_) #[true,false,true,true,false,false,false,false,false,false,false,false,false] rfl rfl (take_ofW HT_.out HW_.out (by kernel_rfl)) (fun _ _ _ h => h) (Or.inl ⟨by rfl, ?_⟩) hHeld ?_ ?_; rotate_left
   ·
    rintro w' ⟨s0, s1, s2, s3, s4, s5, s6, s7, s8⟩; go_simp
    with_reducible rfl
   rotate_left
   · simp only [Act.put, sA_, sZ_, sS_, i64_w, i32_w]; rfl
   refine take_ (i := 4) (N := some 28) (v := ?_) (a' := ?_) #[true,false,true,true,true,false,false,false,false,false,false,false,false] rfl rfl (take_ofW HT_.out HW_.out (by kernel_rfl)) (fun _ _ _ h => h) (Or.inl ⟨by rfl, ?_⟩) hHeld ?_ ?_; rotate_left
   ·
    rintro w' ⟨s0, s1, s2, s3, s4, s5, s6, s7, s8⟩; go_simp
    with_reducible rfl
   rotate_left
   · simp only [Act.put, sA_, sZ_, sS_, i64_w, i32_w]; rfl
   refine join_ (σ := Nat) 2 #[true,true,true,true,true,true,true,true,true,true,true,false,false] (fun s_ => [(25, .agg #[.int .i64 t257, .int .i64 t258, .int .i64 t259, .int .i64 t260, .int .i64 t261, .int .i64 t262]), (29, .agg #[.int .i64 t263, .int .i64 t264, .bool t265]), (30, .tuple #[.agg #[.int .i64 t266, .int .i64 t267, .bool t268], .bool t269]), (11, .pointer (some ⟨s_, 0, none⟩)), (23, .tuple #[.agg #[.int .i64 t266, .int .i64 t267, .bool t268], .bool t269]), (31, .agg #[.int .i64 t266, .int .i64 t267, .bool t268]), (32, .bool t269)]) (fun s_ w' => (w'.cell? ⟨gb241, 0, none⟩ = some (.int .i64 a0_0) ∧ w'.cell? ⟨gb241, 1, none⟩ = some (.int .i64 a0_1) ∧ w'.cell? ⟨gb241, 2, none⟩ = some (.int .i64 a0_2) ∧ w'.cell? ⟨gb241, 3, none⟩ = some (.int .i64 a0_3) ∧ w'.cell? ⟨gb241, 4, none⟩ = some (.int .i64 a0_4) ∧ w'.cell? ⟨gb241, 5, none⟩ = some (.int .i64 a0_5) ∧ w'.cell? ⟨gb242, 0, none⟩ = some (.int .i64 a3_0) ∧ w'.cell? ⟨gb242, 1, none⟩ = some (.int .i64 a3_1) ∧ w'.cell? ⟨gb242, 2, none⟩ = some (.bool a3_2)) ∧ (w'.heap[gb241]? = some (.cells #[.int .i64 a0_0, .int .i64 a0_1, .int .i64 a0_2, .int .i64 a0_3, .int .i64 a0_4, .int .i64 a0_5] 23 (0, 0))) ∧ (w'.heap[gb242]? = some (.cells #[.int .i64 a3_0, .int .i64 a3_1, .bool a3_2] 25 (0, 0))) ∧ (w'.heap[gb256]? = some (.cells #[.int .i64 t252, .int .i64 t253, .bool t254] 26 (0, 0))) ∧ (w'.heap[s_]? = some (.cells #[.int .i64 0, .int .i64 0, .bool false] 26 (0, 0))) ∧ (w.heap.size ≤ s_) ∧ (w.heap.size ≤ s_) ∧ (gb241 ≠ s_) ∧ (s_ ≠ gb241) ∧ (gb242 ≠ s_) ∧ (s_ ≠ gb242) ∧ (gb256 ≠ s_) ∧ (s_ ≠ gb256) ∧ (Below w.heap.size w w')) ?_ ?_; rotate_left
   ·
    intro hCont; refine two_ (i := 1) (j := 10) (Ni := some 25) (Nj := some 11) #[true,true,true,true,true,false,false,false,false,false,false,false,false] #[true,false,true,true,true,false,false,false,false,false,true,false,false] rfl rfl rfl rfl (two_of HT_.out (by kernel_rfl)) (by decide) (by decide) (fun K hK => ?_) (fun K hK => ?_)
    ·
     refine gs_ Try.func15 #[.agg #[.int .i64 a0_0, .int .i64 a0_1, .int .i64 a0_2, .int .i64 a0_3, .int .i64 a0_4, .int .i64 a0_5]] ?_
     with_reducible refine (laws_toCurve.calls a0_0 a0_1 a0_2 a0_3 a0_4 a0_5 t257 t258 t259 t260 t261 t262 _ A8.out).mono ?_
     rintro e w27 ⟨rfl, hb⟩; refine ⟨_, rfl, ?_⟩; replace BK241 := bb_ BK241 hb; replace BK242 := bb_ BK242 hb; replace BK256 := bb_ BK256 hb; replace HB := bs_ HB hb; (try clear hb); refine hK.out _ _ ⟨bc_ BK241 0, bc_ BK241 1, bc_ BK241 2, bc_ BK241 3, bc_ BK241 4, bc_ BK241 5, bc_ BK242 0, bc_ BK242 1, bc_ BK242 2⟩ (fun hHeld => ?_); clear hK K
     apply norm_
     · show Act.put _ (some 25) _ = _; simp only [Act.put, sA_, sZ_, sS_, i64_w, i32_w]; rfl
     refine two_ (i := 5) (j := 10) (Ni := some 29) (Nj := some 11) #[true,true,true,true,true,true,false,false,false,false,false,false,false] #[true,true,true,true,true,false,false,false,false,false,true,false,false] rfl rfl rfl rfl (two_of HT_.out (by kernel_rfl)) (by decide) (by decide) (fun K hK => ?_) (fun K hK => ?_)
     ·
      refine gs_ Try.func16 #[.agg #[.int .i64 a3_0, .int .i64 a3_1, .bool a3_2]] ?_
      with_reducible refine (laws_toPoint.calls a3_0 a3_1 a3_2 t263 t264 t265 _ A9.out).mono ?_
      rintro e w28 ⟨rfl, hb⟩; refine ⟨_, rfl, ?_⟩; replace BK241 := bb_ BK241 hb; replace BK242 := bb_ BK242 hb; replace BK256 := bb_ BK256 hb; replace HB := bs_ HB hb; (try clear hb); refine hK.out _ _ ⟨bc_ BK241 0, bc_ BK241 1, bc_ BK241 2, bc_ BK241 3, bc_ BK241 4, bc_ BK241 5, bc_ BK242 0, bc_ BK242 1, bc_ BK242 2⟩ (fun hHeld => ?_); clear hK K
      apply norm_
      · show Act.put _ (some 29) _ = _; simp only [Act.put, sA_, sZ_, sS_, i64_w, i32_w]; rfl
      refine two_ (i := 6) (j := 10) (Ni := some 30) (Nj := some 11) #[true,true,true,true,true,true,true,false,false,false,false,false,false] #[true,true,true,true,true,true,false,false,false,false,true,false,false] rfl rfl rfl rfl (two_of HT_.out (by kernel_rfl)) (by decide) (by decide) (fun K hK => ?_) (fun K hK => ?_)
      ·
       refine gs_ Try.func22 #[.agg #[.int .i64 t257, .int .i64 t258, .int .i64 t259, .int .i64 t260, .int .i64 t261, .int .i64 t262], .int .i64 a1, .int .i64 a2, .agg #[.int .i64 t263, .int .i64 t264, .bool t265]] ?_
       with_reducible refine (impl_TwoMul.calls k t257 t258 t259 t260 t261 t262 a1 a2 t263 t264 t265 t266 t267 t268 t269 _ A10.out).mono ?_
       rintro e w29 ⟨rfl, hb⟩; refine ⟨_, rfl, ?_⟩; replace BK241 := bb_ BK241 hb; replace BK242 := bb_ BK242 hb; replace BK256 := bb_ BK256 hb; replace HB := bs_ HB hb; (try clear hb); refine hK.out _ _ ⟨bc_ BK241 0, bc_ BK241 1, bc_ BK241 2, bc_ BK241 3, bc_ BK241 4, bc_ BK241 5, bc_ BK242 0, bc_ BK242 1, bc_ BK242 2⟩ (fun hHeld => ?_); clear hK K
       apply norm_
       · show Act.put _ (some 30) _ = _; simp only [Act.put, sA_, sZ_, sS_, i64_w, i32_w]; rfl
       refine pure_ (i := 7) (N := some 23) (v := ?_) (a' := ?_) #[true,true,true,true,true,true,true,true,false,false,false,false,false] rfl rfl (any_of HT_.out (by kernel_rfl)) (fun _ _ _ h => h) (Or.inl ⟨by rfl, ?_⟩) ?_ ?_; rotate_left
       ·
        intro w'; go_simp
        with_reducible rfl
       rotate_left
       · simp only [Act.put, sA_, sZ_, sS_, i64_w, i32_w]; rfl
       refine pure_ (i := 8) (N := some 31) (v := ?_) (a' := ?_) #[true,true,true,true,true,true,true,true,true,false,false,false,false] rfl rfl (any_of HT_.out (by kernel_rfl)) (fun _ _ _ h => h) (Or.inl ⟨by rfl, ?_⟩) ?_ ?_; rotate_left
       ·
        intro w'; go_simp
        with_reducible rfl
       rotate_left
       · simp only [Act.put, sA_, sZ_, sS_, i64_w, i32_w]; rfl
       refine pure_ (i := 9) (N := some 32) (v := ?_) (a' := ?_) #[true,true,true,true,true,true,true,true,true,true,false,false,false] rfl rfl (any_of HT_.out (by kernel_rfl)) (fun _ _ _ h => h) (Or.inl ⟨by rfl, ?_⟩) ?_ ?_; rotate_left
       ·
        intro w'; go_simp
        with_reducible rfl
       rotate_left
       · simp only [Act.put, sA_, sZ_, sS_, i64_w, i32_w]; rfl
       refine one_ (i := 10) (N := some 11) #[true,true,true,true,true,true,true,true,true,true,true,false,false] rfl rfl (one_of HT_.out (by kernel_rfl)) (by decide) (fun K hK => ?_); refine box_step ?hg (N := 11) ?hd (cs := #[.int .i64 0, .int .i64 0, .bool false]) (t := 26) ?hr ?_; (case hd => rfl); (case hg => rfl); (case hr => first | (go_simp; done) | (go_simp; rfl))
       intro gb270 hg w30 hbox hb; have n0_ := bb_ BK241 hb; have n1_ := bb_ BK242 hb; have n2_ := bb_ BK256 hb; have n3_ := bs_ HB hb; have n4_ := Aside0.mk hbox; have n5_ := ge_ HB hg; have n6_ := ge_ HB hg; have n7_ := nl_ BK241 hg; have n8_ := nr_ BK241 hg; have n9_ := nl_ BK242 hg; have n10_ := nr_ BK242 hg; have n11_ := nl_ BK256 hg; have n12_ := nr_ BK256 hg; clear BK241 BK242 BK256 HB; have BK241 := n0_; have BK242 := n1_; have BK256 := n2_; have HB := n3_; have BK270 := n4_; have GW270 := n5_; have GE270 := n6_; have NB241_270 := n7_; have NB270_241 := n8_; have NB242_270 := n9_; have NB270_242 := n10_; have NB256_270 := n11_; have NB270_256 := n12_; clear n0_ n1_ n2_ n3_ n4_ n5_ n6_ n7_ n8_ n9_ n10_ n11_ n12_; clear hb hbox hg; refine hK.out _ _ ⟨bc_ BK241 0, bc_ BK241 1, bc_ BK241 2, bc_ BK241 3, bc_ BK241 4, bc_ BK241 5, bc_ BK242 0, bc_ BK242 1, bc_ BK242 2⟩ (fun hHeld => ?_); clear hK K
       apply norm_
       · show Act.put _ (some 11) _ = _; simp only [Act.put, sA_, sZ_, sS_, i64_w, i32_w]; rfl
       exact norm_ (by simp only [putAll, Act.put, sA_, sZ_, sS_]) (hCont (gb270) _ ⟨hHeld, (bk_ BK241), (bk_ BK242), (bk_ BK256), (bk_ BK270), GW270.out, GE270.out, NB241_270.out, NB270_241.out, NB242_270.out, NB270_242.out, NB256_270.out, NB270_256.out, (bw_ HB)⟩)
      ·
       refine box_step ?hg (N := 11) ?hd (cs := #[.int .i64 0, .int .i64 0, .bool false]) (t := 26) ?hr ?_; (case hd => rfl); (case hg => rfl); (case hr => first | (go_simp; done) | (go_simp; rfl))
       intro gb270 hg w29 hbox hb; have n0_ := bb_ BK241 hb; have n1_ := bb_ BK242 hb; have n2_ := bb_ BK256 hb; have n3_ := bs_ HB hb; have n4_ := Aside0.mk hbox; have n5_ := ge_ HB hg; have n6_ := ge_ HB hg; have n7_ := nl_ BK241 hg; have n8_ := nr_ BK241 hg; have n9_ := nl_ BK242 hg; have n10_ := nr_ BK242 hg; have n11_ := nl_ BK256 hg; have n12_ := nr_ BK256 hg; clear BK241 BK242 BK256 HB; have BK241 := n0_; have BK242 := n1_; have BK256 := n2_; have HB := n3_; have BK270 := n4_; have GW270 := n5_; have GE270 := n6_; have NB241_270 := n7_; have NB270_241 := n8_; have NB242_270 := n9_; have NB270_242 := n10_; have NB256_270 := n11_; have NB270_256 := n12_; clear n0_ n1_ n2_ n3_ n4_ n5_ n6_ n7_ n8_ n9_ n10_ n11_ n12_; clear hb hbox hg; refine hK.out _ _ ⟨bc_ BK241 0, bc_ BK241 1, bc_ BK241 2, bc_ BK241 3, bc_ BK241 4, bc_ BK241 5, bc_ BK242 0, bc_ BK242 1, bc_ BK242 2⟩ (fun hHeld => ?_); clear hK K
       apply norm_
       · show Act.put _ (some 11) _ = _; simp only [Act.put, sA_, sZ_, sS_, i64_w, i32_w]; rfl
       refine one_ (i := 6) (N := some 30) #[true,true,true,true,true,true,true,false,false,false,true,false,false] rfl rfl (one_of HT_.out (by kernel_rfl)) (by decide) (fun K hK => ?_); refine gs_ Try.func22 #[.agg #[.int .i64 t257, .int .i64 t258, .int .i64 t259, .int .i64 t260, .int .i64 t261, .int .i64 t262], .int .i64 a1, .int .i64 a2, .agg #[.int .i64 t263, .int .i64 t264, .bool t265]] ?_
       with_reducible refine (impl_TwoMul.calls k t257 t258 t259 t260 t261 t262 a1 a2 t263 t264 t265 t266 t267 t268 t269 _ A10.out).mono ?_
       rintro e w30 ⟨rfl, hb⟩; refine ⟨_, rfl, ?_⟩; replace BK241 := bb_ BK241 hb; replace BK242 := bb_ BK242 hb; replace BK256 := bb_ BK256 hb; replace BK270 := bb_ BK270 hb; replace HB := bs_ HB hb; (try clear hb); refine hK.out _ _ ⟨bc_ BK241 0, bc_ BK241 1, bc_ BK241 2, bc_ BK241 3, bc_ BK241 4, bc_ BK241 5, bc_ BK242 0, bc_ BK242 1, bc_ BK242 2⟩ (fun hHeld => ?_); clear hK K
       apply norm_
       · show Act.put _ (some 30) _ = _; simp only [Act.put, sA_, sZ_, sS_, i64_w, i32_w]; rfl
       refine pure_ (i := 7) (N := some 23) (v := ?_) (a' := ?_) #[true,true,true,true,true,true,true,true,false,false,true,false,false] rfl rfl (any_of HT_.out (by kernel_rfl)) (fun _ _ _ h => h) (Or.inl ⟨by rfl, ?_⟩) ?_ ?_; rotate_left
       ·
        intro w'; go_simp
        with_reducible rfl
       rotate_left
       · simp only [Act.put, sA_, sZ_, sS_, i64_w, i32_w]; rfl
       refine pure_ (i := 8) (N := some 31) (v := ?_) (a' := ?_) #[true,true,true,true,true,true,true,true,true,false,true,false,false] rfl rfl (any_of HT_.out (by kernel_rfl)) (fun _ _ _ h => h) (Or.inl ⟨by rfl, ?_⟩) ?_ ?_; rotate_left
       ·
        intro w'; go_simp
        with_reducible rfl
       rotate_left
       · simp only [Act.put, sA_, sZ_, sS_, i64_w, i32_w]; rfl
       refine pure_ (i := 9) (N := some 32) (v := ?_) (a' := ?_) #[true,true,true,true,true,true,true,true,true,true,true,false,false] rfl rfl (any_of HT_.out (by kernel_rfl)) (fun _ _ _ h => h) (Or.inl ⟨by rfl, ?_⟩) ?_ ?_; rotate_left
       ·
        intro w'; go_simp
        with_reducible rfl
       rotate_left
       · simp only [Act.put, sA_, sZ_, sS_, i64_w, i32_w]; rfl
       exact norm_ (by simp only [putAll, Act.put, sA_, sZ_, sS_]) (hCont (gb270) _ ⟨hHeld, (bk_ BK241), (bk_ BK242), (bk_ BK256), (bk_ BK270), GW270.out, GE270.out, NB241_270.out, NB270_241.out, NB242_270.out, NB270_242.out, NB256_270.out, NB270_256.out, (bw_ HB)⟩)
     ·
      refine box_step ?hg (N := 11) ?hd (cs := #[.int .i64 0, .int .i64 0, .bool false]) (t := 26) ?hr ?_; (case hd => rfl); (case hg => rfl); (case hr => first | (go_simp; done) | (go_simp; rfl))
      intro gb270 hg w28 hbox hb; have n0_ := bb_ BK241 hb; have n1_ := bb_ BK242 hb; have n2_ := bb_ BK256 hb; have n3_ := bs_ HB hb; have n4_ := Aside0.mk hbox; have n5_ := ge_ HB hg; have n6_ := ge_ HB hg; have n7_ := nl_ BK241 hg; have n8_ := nr_ BK241 hg; have n9_ := nl_ BK242 hg; have n10_ := nr_ BK242 hg; have n11_ := nl_ BK256 hg; have n12_ := nr_ BK256 hg; clear BK241 BK242 BK256 HB; have BK241 := n0_; have BK242 := n1_; have BK256 := n2_; have HB := n3_; have BK270 := n4_; have GW270 := n5_; have GE270 := n6_; have NB241_270 := n7_; have NB270_241 := n8_; have NB242_270 := n9_; have NB270_242 := n10_; have NB256_270 := n11_; have NB270_256 := n12_; clear n0_ n1_ n2_ n3_ n4_ n5_ n6_ n7_ n8_ n9_ n10_ n11_ n12_; clear hb hbox hg; refine hK.out _ _ ⟨bc_ BK241 0, bc_ BK241 1, bc_ BK241 2, bc_ BK241 3, bc_ BK241 4, bc_ BK241 5, bc_ BK242 0, bc_ BK242 1, bc_ BK242 2⟩ (fun hHeld => ?_); clear hK K
      apply norm_
      · show Act.put _ (some 11) _ = _; simp only [Act.put, sA_, sZ_, sS_, i64_w, i32_w]; rfl
      refine one_ (i := 5) (N := some 29) #[true,true,true,true,true,true,false,false,false,false,true,false,false] rfl rfl (one_of HT_.out (by kernel_rfl)) (by decide) (fun K hK => ?_); refine gs_ Try.func16 #[.agg #[.int .i64 a3_0, .int .i64 a3_1, .bool a3_2]] ?_
      with_reducible refine (laws_toPoint.calls a3_0 a3_1 a3_2 t263 t264 t265 _ A9.out).mono ?_
      rintro e w29 ⟨rfl, hb⟩; refine ⟨_, rfl, ?_⟩; replace BK241 := bb_ BK241 hb; replace BK242 := bb_ BK242 hb; replace BK256 := bb_ BK256 hb; replace BK270 := bb_ BK270 hb; replace HB := bs_ HB hb; (try clear hb); refine hK.out _ _ ⟨bc_ BK241 0, bc_ BK241 1, bc_ BK241 2, bc_ BK241 3, bc_ BK241 4, bc_ BK241 5, bc_ BK242 0, bc_ BK242 1, bc_ BK242 2⟩ (fun hHeld => ?_); clear hK K
      apply norm_
      · show Act.put _ (some 29) _ = _; simp only [Act.put, sA_, sZ_, sS_, i64_w, i32_w]; rfl
      refine one_ (i := 6) (N := some 30) #[true,true,true,true,true,true,true,false,false,false,true,false,false] rfl rfl (one_of HT_.out (by kernel_rfl)) (by decide) (fun K hK => ?_); refine gs_ Try.func22 #[.agg #[.int .i64 t257, .int .i64 t258, .int .i64 t259, .int .i64 t260, .int .i64 t261, .int .i64 t262], .int .i64 a1, .int .i64 a2, .agg #[.int .i64 t263, .int .i64 t264, .bool t265]] ?_
      with_reducible refine (impl_TwoMul.calls k t257 t258 t259 t260 t261 t262 a1 a2 t263 t264 t265 t266 t267 t268 t269 _ A10.out).mono ?_
      rintro e w30 ⟨rfl, hb⟩; refine ⟨_, rfl, ?_⟩; replace BK241 := bb_ BK241 hb; replace BK242 := bb_ BK242 hb; replace BK256 := bb_ BK256 hb; replace BK270 := bb_ BK270 hb; replace HB := bs_ HB hb; (try clear hb); refine hK.out _ _ ⟨bc_ BK241 0, bc_ BK241 1, bc_ BK241 2, bc_ BK241 3, bc_ BK241 4, bc_ BK241 5, bc_ BK242 0, bc_ BK242 1, bc_ BK242 2⟩ (fun hHeld => ?_); clear hK K
      apply norm_
      · show Act.put _ (some 30) _ = _; simp only [Act.put, sA_, sZ_, sS_, i64_w, i32_w]; rfl
      refine pure_ (i := 7) (N := some 23) (v := ?_) (a' := ?_) #[true,true,true,true,true,true,true,true,false,false,true,false,false] rfl rfl (any_of HT_.out (by kernel_rfl)) (fun _ _ _ h => h) (Or.inl ⟨by rfl, ?_⟩) ?_ ?_; rotate_left
      ·
       intro w'; go_simp
       with_reducible rfl
      rotate_left
      · simp only [Act.put, sA_, sZ_, sS_, i64_w, i32_w]; rfl
      refine pure_ (i := 8) (N := some 31) (v := ?_) (a' := ?_) #[true,true,true,true,true,true,true,true,true,false,true,false,false] rfl rfl (any_of HT_.out (by kernel_rfl)) (fun _ _ _ h => h) (Or.inl ⟨by rfl, ?_⟩) ?_ ?_; rotate_left
      ·
       intro w'; go_simp
       with_reducible rfl
      rotate_left
      · simp only [Act.put, sA_, sZ_, sS_, i64_w, i32_w]; rfl
      refine pure_ (i := 9) (N := some 32) (v := ?_) (a' := ?_) #[true,true,true,true,true,true,true,true,true,true,true,false,false] rfl rfl (any_of HT_.out (by kernel_rfl)) (fun _ _ _ h => h) (Or.inl ⟨by rfl, ?_⟩) ?_ ?_; rotate_left
      ·
       intro w'; go_simp
       with_reducible rfl
      rotate_left
      · simp only [Act.put, sA_, sZ_, sS_, i64_w, i32_w]; rfl
      exact norm_ (by simp only [putAll, Act.put, sA_, sZ_, sS_]) (hCont (gb270) _ ⟨hHeld, (bk_ BK241), (bk_ BK242), (bk_ BK256), (bk_ BK270), GW270.out, GE270.out, NB241_270.out, NB270_241.out, NB242_270.out, NB270_242.out, NB256_270.out, NB270_256.out, (bw_ HB)⟩)
    ·
     refine box_step ?hg (N := 11) ?hd (cs := #[.int .i64 0, .int .i64 0, .bool false]) (t := 26) ?hr ?_; (case hd => rfl); (case hg => rfl); (case hr => first | (go_simp; done) | (go_simp; rfl))
     intro gb270 hg w27 hbox hb; have n0_ := bb_ BK241 hb; have n1_ := bb_ BK242 hb; have n2_ := bb_ BK256 hb; have n3_ := bs_ HB hb; have n4_ := Aside0.mk hbox; have n5_ := ge_ HB hg; have n6_ := ge_ HB hg; have n7_ := nl_ BK241 hg; have n8_ := nr_ BK241 hg; have n9_ := nl_ BK242 hg; have n10_ := nr_ BK242 hg; have n11_ := nl_ BK256 hg; have n12_ := nr_ BK256 hg; clear BK241 BK242 BK256 HB; have BK241 := n0_; have BK242 := n1_; have BK256 := n2_; have HB := n3_; have BK270 := n4_; have GW270 := n5_; have GE270 := n6_; have NB241_270 := n7_; have NB270_241 := n8_; have NB242_270 := n9_; have NB270_242 := n10_; have NB256_270 := n11_; have NB270_256 := n12_; clear n0_ n1_ n2_ n3_ n4_ n5_ n6_ n7_ n8_ n9_ n10_ n11_ n12_; clear hb hbox hg; refine hK.out _ _ ⟨bc_ BK241 0, bc_ BK241 1, bc_ BK241 2, bc_ BK241 3, bc_ BK241 4, bc_ BK241 5, bc_ BK242 0, bc_ BK242 1, bc_ BK242 2⟩ (fun hHeld => ?_); clear hK K
     apply norm_
     · show Act.put _ (some 11) _ = _; simp only [Act.put, sA_, sZ_, sS_, i64_w, i32_w]; rfl
     refine one_ (i := 1) (N := some 25) #[true,true,true,true,true,false,false,false,false,false,true,false,false] rfl rfl (one_of HT_.out (by kernel_rfl)) (by decide) (fun K hK => ?_); refine gs_ Try.func15 #[.agg #[.int .i64 a0_0, .int .i64 a0_1, .int .i64 a0_2, .int .i64 a0_3, .int .i64 a0_4, .int .i64 a0_5]] ?_
     with_reducible refine (laws_toCurve.calls a0_0 a0_1 a0_2 a0_3 a0_4 a0_5 t257 t258 t259 t260 t261 t262 _ A8.out).mono ?_
     rintro e w28 ⟨rfl, hb⟩; refine ⟨_, rfl, ?_⟩; replace BK241 := bb_ BK241 hb; replace BK242 := bb_ BK242 hb; replace BK256 := bb_ BK256 hb; replace BK270 := bb_ BK270 hb; replace HB := bs_ HB hb; (try clear hb); refine hK.out _ _ ⟨bc_ BK241 0, bc_ BK241 1, bc_ BK241 2, bc_ BK241 3, bc_ BK241 4, bc_ BK241 5, bc_ BK242 0, bc_ BK242 1, bc_ BK242 2⟩ (fun hHeld => ?_); clear hK K
     apply norm_
     · show Act.put _ (some 25) _ = _; simp only [Act.put, sA_, sZ_, sS_, i64_w, i32_w]; rfl
     refine one_ (i := 5) (N := some 29) #[true,true,true,true,true,true,false,false,false,false,true,false,false] rfl rfl (one_of HT_.out (by kernel_rfl)) (by decide) (fun K hK => ?_); refine gs_ Try.func16 #[.agg #[.int .i64 a3_0, .int .i64 a3_1, .bool a3_2]] ?_
     with_reducible refine (laws_toPoint.calls a3_0 a3_1 a3_2 t263 t264 t265 _ A9.out).mono ?_
     rintro e w29 ⟨rfl, hb⟩; refine ⟨_, rfl, ?_⟩; replace BK241 := bb_ BK241 hb; replace BK242 := bb_ BK242 hb; replace BK256 := bb_ BK256 hb; replace BK270 := bb_ BK270 hb; replace HB := bs_ HB hb; (try clear hb); refine hK.out _ _ ⟨bc_ BK241 0, bc_ BK241 1, bc_ BK241 2, bc_ BK241 3, bc_ BK241 4, bc_ BK241 5, bc_ BK242 0, bc_ BK242 1, bc_ BK242 2⟩ (fun hHeld => ?_); clear hK K
     apply norm_
     · show Act.put _ (some 29) _ = _; simp only [Act.put, sA_, sZ_, sS_, i64_w, i32_w]; rfl
     refine one_ (i := 6) (N := some 30) #[true,true,true,true,true,true,true,false,false,false,true,false,false] rfl rfl (one_of HT_.out (by kernel_rfl)) (by decide) (fun K hK => ?_); refine gs_ Try.func22 #[.agg #[.int .i64 t257, .int .i64 t258, .int .i64 t259, .int .i64 t260, .int .i64 t261, .int .i64 t262], .int .i64 a1, .int .i64 a2, .agg #[.int .i64 t263, .int .i64 t264, .bool t265]] ?_
     with_reducible refine (impl_TwoMul.calls k t257 t258 t259 t260 t261 t262 a1 a2 t263 t264 t265 t266 t267 t268 t269 _ A10.out).mono ?_
     rintro e w30 ⟨rfl, hb⟩; refine ⟨_, rfl, ?_⟩; replace BK241 := bb_ BK241 hb; replace BK242 := bb_ BK242 hb; replace BK256 := bb_ BK256 hb; replace BK270 := bb_ BK270 hb; replace HB := bs_ HB hb; (try clear hb); refine hK.out _ _ ⟨bc_ BK241 0, bc_ BK241 1, bc_ BK241 2, bc_ BK241 3, bc_ BK241 4, bc_ BK241 5, bc_ BK242 0, bc_ BK242 1, bc_ BK242 2⟩ (fun hHeld => ?_); clear hK K
     apply norm_
     · show Act.put _ (some 30) _ = _; simp only [Act.put, sA_, sZ_, sS_, i64_w, i32_w]; rfl
     refine pure_ (i := 7) (N := some 23) (v := ?_) (a' := ?_) #[true,true,true,true,true,true,true,true,false,false,true,false,false] rfl rfl (any_of HT_.out (by kernel_rfl)) (fun _ _ _ h => h) (Or.inl ⟨by rfl, ?_⟩) ?_ ?_; rotate_left
     ·
      intro w'; go_simp
      with_reducible rfl
     rotate_left
     · simp only [Act.put, sA_, sZ_, sS_, i64_w, i32_w]; rfl
     refine pure_ (i := 8) (N := some 31) (v := ?_) (a' := ?_) #[true,true,true,true,true,true,true,true,true,false,true,false,false] rfl rfl (any_of HT_.out (by kernel_rfl)) (fun _ _ _ h => h) (Or.inl ⟨by rfl, ?_⟩) ?_ ?_; rotate_left
     ·
      intro w'; go_simp
      with_reducible rfl
     rotate_left
     · simp only [Act.put, sA_, sZ_, sS_, i64_w, i32_w]; rfl
     refine pure_ (i := 9) (N := some 32) (v := ?_) (a' := ?_) #[true,true,true,true,true,true,true,true,true,true,true,false,false] rfl rfl (any_of HT_.out (by kernel_rfl)) (fun _ _ _ h => h) (Or.inl ⟨by rfl, ?_⟩) ?_ ?_; rotate_left
     ·
      intro w'; go_simp
      with_reducible rfl
     rotate_left
     · simp only [Act.put, sA_, sZ_, sS_, i64_w, i32_w]; rfl
     exact norm_ (by simp only [putAll, Act.put, sA_, sZ_, sS_]) (hCont (gb270) _ ⟨hHeld, (bk_ BK241), (bk_ BK242), (bk_ BK256), (bk_ BK270), GW270.out, GE270.out, NB241_270.out, NB270_241.out, NB242_270.out, NB270_242.out, NB256_270.out, NB270_256.out, (bw_ HB)⟩)
   rintro gb270 w31 ⟨hS_, h0_, h1_, h2_, h3_, h4_, h5_, h6_, h7_, h8_, h9_, h10_, h11_, h12_⟩; replace BK241 := Aside0.mk h0_; replace BK242 := Aside0.mk h1_; replace BK256 := Aside0.mk h2_; have BK270 := Aside0.mk h3_; have GW270 := Aside0.mk h4_; have GE270 := Aside0.mk h5_; have NB241_270 := Aside0.mk h6_; have NB270_241 := Aside0.mk h7_; have NB242_270 := Aside0.mk h8_; have NB270_242 := Aside0.mk h9_; have NB256_270 := Aside0.mk h10_; have NB270_256 := Aside0.mk h11_; replace HB := Aside0.mk h12_; clear h0_ h1_ h2_ h3_ h4_ h5_ h6_ h7_ h8_ h9_ h10_ h11_ h12_; have hHeld := hS_
   apply norm_
   · simp only [putAll, Act.put, sA_, sZ_, sS_]; rfl
   refine one_ (i := 11) (N := none) #[true,true,true,true,true,true,true,true,true,true,true,true,false] rfl rfl (one_of HT_.out (by kernel_rfl)) (by decide) (fun K hK => ?_)
   have hs32 : w31.cell? ⟨gb270, 0, none⟩ = some (.int .i64 0) := bc_ BK270 0
   have hfs32 := blk_frozen BK270.out 0; have hns32_0 := NB241_270.out; have hns32_1 := NB242_270.out; have hns32_2 := NB256_270.out; have hms32_0 := NB270_241.out; have hms32_1 := NB270_242.out; have hms32_2 := NB270_256.out
   have hs33 : w31.cell? ⟨gb270, 1, none⟩ = some (.int .i64 0) := bc_ BK270 1
   have hfs33 := blk_frozen BK270.out 1; have hns33_0 := NB241_270.out; have hns33_1 := NB242_270.out; have hns33_2 := NB256_270.out; have hms33_0 := NB270_241.out; have hms33_1 := NB270_242.out; have hms33_2 := NB270_256.out
   have hs34 : w31.cell? ⟨gb270, 2, none⟩ = some (.bool false) := bc_ BK270 2
   have hfs34 := blk_frozen BK270.out 2; have hns34_0 := NB241_270.out; have hns34_1 := NB242_270.out; have hns34_2 := NB256_270.out; have hms34_0 := NB270_241.out; have hms34_1 := NB270_242.out; have hms34_2 := NB270_256.out; refine skip_ (w1 := ?_) (by rfl) rfl ?_ ?_; rotate_left
   · go_simp; rfl
   refine hK.out _ _ ⟨((cell_far (p := ⟨gb270, _, none⟩) NB241_270.out _).trans (((cell_far (p := ⟨gb270, _, none⟩) NB241_270.out _).trans (((cell_far (p := ⟨gb270, _, none⟩) NB241_270.out _).trans (hHeld.1)))))), ((cell_far (p := ⟨gb270, _, none⟩) NB241_270.out _).trans (((cell_far (p := ⟨gb270, _, none⟩) NB241_270.out _).trans (((cell_far (p := ⟨gb270, _, none⟩) NB241_270.out _).trans (hHeld.2.1)))))), ((cell_far (p := ⟨gb270, _, none⟩) NB241_270.out _).trans (((cell_far (p := ⟨gb270, _, none⟩) NB241_270.out _).trans (((cell_far (p := ⟨gb270, _, none⟩) NB241_270.out _).trans (hHeld.2.2.1)))))), ((cell_far (p := ⟨gb270, _, none⟩) NB241_270.out _).trans (((cell_far (p := ⟨gb270, _, none⟩) NB241_270.out _).trans (((cell_far (p := ⟨gb270, _, none⟩) NB241_270.out _).trans (hHeld.2.2.2.1)))))), ((cell_far (p := ⟨gb270, _, none⟩) NB241_270.out _).trans (((cell_far (p := ⟨gb270, _, none⟩) NB241_270.out _).trans (((cell_far (p := ⟨gb270, _, none⟩) NB241_270.out _).trans (hHeld.2.2.2.2.1)))))), ((cell_far (p := ⟨gb270, _, none⟩) NB241_270.out _).trans (((cell_far (p := ⟨gb270, _, none⟩) NB241_270.out _).trans (((cell_far (p := ⟨gb270, _, none⟩) NB241_270.out _).trans (hHeld.2.2.2.2.2.1)))))), ((cell_far (p := ⟨gb270, _, none⟩) NB242_270.out _).trans (((cell_far (p := ⟨gb270, _, none⟩) NB242_270.out _).trans (((cell_far (p := ⟨gb270, _, none⟩) NB242_270.out _).trans (hHeld.2.2.2.2.2.2.1)))))), ((cell_far (p := ⟨gb270, _, none⟩) NB242_270.out _).trans (((cell_far (p := ⟨gb270, _, none⟩) NB242_270.out _).trans (((cell_far (p := ⟨gb270, _, none⟩) NB242_270.out _).trans (hHeld.2.2.2.2.2.2.2.1)))))), ((cell_far (p := ⟨gb270, _, none⟩) NB242_270.out _).trans (((cell_far (p := ⟨gb270, _, none⟩) NB242_270.out _).trans (((cell_far (p := ⟨gb270, _, none⟩) NB242_270.out _).trans (hHeld.2.2.2.2.2.2.2.2))))))⟩ (fun hHeld => ?_); clear hK K; refine pure_ (i := 12) (N := some 12) (v := ?_) (a' := ?_) #[true,true,true,true,true,true,true,true,true,true,true,true,true] rfl rfl (any_of HT_.out (by kernel_rfl)) (fun _ _ _ h => h) (Or.inl ⟨by rfl, ?_⟩) ?_ ?_; rotate_left
   ·
    intro w'; go_simp
    with_reducible rfl
   rotate_left
   · simp only [Act.put, sA_, sZ_, sS_, i64_w, i32_w]; rfl
   refine done_ (done_of HT_.out (by kernel_rfl)) ?_; have hnb35 := NB270_241.out; have hnc35 := NB241_270.out; have hnb36 := NB270_242.out; have hnc36 := NB242_270.out; have hnb37 := NB270_256.out; have hnc37 := NB256_270.out
   have hcz38_0 : w31.cell? ⟨gb270, 0, none⟩ = some (.int .i64 0) := bc_ BK270 0
   have hcz38_1 : w31.cell? ⟨gb270, 1, none⟩ = some (.int .i64 0) := bc_ BK270 1
   have hcz38_2 : w31.cell? ⟨gb270, 2, none⟩ = some (.bool false) := bc_ BK270 2
   have hfz38_0 := blk_frozen BK270.out 0; have hfz38_1 := blk_frozen BK270.out 1; have hfz38_2 := blk_frozen BK270.out 2; have hnb39 := NB256_241.out; have hnc39 := NB241_256.out; have hnb40 := NB256_242.out; have hnc40 := NB242_256.out
   have hcz41_0 : w31.cell? ⟨gb256, 0, none⟩ = some (.int .i64 t252) := bc_ BK256 0
   have hcz41_1 : w31.cell? ⟨gb256, 1, none⟩ = some (.int .i64 t253) := bc_ BK256 1
   have hcz41_2 : w31.cell? ⟨gb256, 2, none⟩ = some (.bool t254) := bc_ BK256 2
   have hfz41_0 := blk_frozen BK256.out 0; have hfz41_1 := blk_frozen BK256.out 1; have hfz41_2 := blk_frozen BK256.out 2
   try go_wp2_with (first | ((with_reducible refine gate_callee (f := 18) rfl ?_); refine goesL_ (some 35) rfl rfl Try.func18 (by kernel_rfl) rfl #[.agg #[.int .i64 t266, .int .i64 t267, .bool t268], .agg #[.int .i64 t252, .int .i64 t253, .bool t254]] rfl (by (try simp only [List.map_toArray, List.map_cons, List.map_nil]); first | done | rfl | (simp only [List.length_drop, List.length_take]; rfl)) ?_; (with_reducible refine (laws_eqPoint.calls t266 t267 t268 t252 t253 t254 true _ A11.out).mono ?_); rintro e w42 ⟨rfl, hb⟩; refine ⟨_, rfl, ?_⟩; have n0_ := Aside0.mk (blk_below (g := gb241) (o := .cells #[.int .i64 a0_0, .int .i64 a0_1, .int .i64 a0_2, .int .i64 a0_3, .int .i64 a0_4, .int .i64 a0_5] 23 (0, 0)) (by (with_reducible repeat (first | refine blk_drewN ?_ _ | refine blk_drew ?_ | refine blk_alloc ?_ _)); refine blk_far ?_ NB241_270.out _; (with_reducible repeat (first | refine blk_drewN ?_ _ | refine blk_drew ?_ | refine blk_alloc ?_ _)); refine blk_far ?_ NB241_270.out _; (with_reducible repeat (first | refine blk_drewN ?_ _ | refine blk_drew ?_ | refine blk_alloc ?_ _)); refine blk_far ?_ NB241_270.out _; (with_reducible repeat (first | refine blk_drewN ?_ _ | refine blk_drew ?_ | refine blk_alloc ?_ _)); exact BK241.out) hb); have n1_ := Aside0.mk (blk_below (g := gb242) (o := .cells #[.int .i64 a3_0, .int .i64 a3_1, .bool a3_2] 25 (0, 0)) (by (with_reducible repeat (first | refine blk_drewN ?_ _ | refine blk_drew ?_ | refine blk_alloc ?_ _)); refine blk_far ?_ NB242_270.out _; (with_reducible repeat (first | refine blk_drewN ?_ _ | refine blk_drew ?_ | refine blk_alloc ?_ _)); refine blk_far ?_ NB242_270.out _; (with_reducible repeat (first | refine blk_drewN ?_ _ | refine blk_drew ?_ | refine blk_alloc ?_ _)); refine blk_far ?_ NB242_270.out _; (with_reducible repeat (first | refine blk_drewN ?_ _ | refine blk_drew ?_ | refine blk_alloc ?_ _)); exact BK242.out) hb); have n2_ := Aside0.mk (blk_below (g := gb256) (o := .cells #[.int .i64 t252, .int .i64 t253, .bool t254] 26 (0, 0)) (by (with_reducible repeat (first | refine blk_drewN ?_ _ | refine blk_drew ?_ | refine blk_alloc ?_ _)); refine blk_far ?_ NB256_270.out _; (with_reducible repeat (first | refine blk_drewN ?_ _ | refine blk_drew ?_ | refine blk_alloc ?_ _)); refine blk_far ?_ NB256_270.out _; (with_reducible repeat (first | refine blk_drewN ?_ _ | refine blk_drew ?_ | refine blk_alloc ?_ _)); refine blk_far ?_ NB256_270.out _; (with_reducible repeat (first | refine blk_drewN ?_ _ | refine blk_drew ?_ | refine blk_alloc ?_ _)); exact BK256.out) hb); have n3_ := Aside0.mk (blk_below (g := gb270) (o := .cells #[.int .i64 t266, .int .i64 t267, .bool t268] 26 (0, 0)) (by (with_reducible repeat (first | refine blk_drewN ?_ _ | refine blk_drew ?_ | refine blk_alloc ?_ _)); refine blk_put (cs := #[.int .i64 t266, .int .i64 t267, .bool false]) ?_ 2 _ rfl; (with_reducible repeat (first | refine blk_drewN ?_ _ | refine blk_drew ?_ | refine blk_alloc ?_ _)); refine blk_put (cs := #[.int .i64 t266, .int .i64 0, .bool false]) ?_ 1 _ rfl; (with_reducible repeat (first | refine blk_drewN ?_ _ | refine blk_drew ?_ | refine blk_alloc ?_ _)); refine blk_put (cs := #[.int .i64 0, .int .i64 0, .bool false]) ?_ 0 _ rfl; (with_reducible repeat (first | refine blk_drewN ?_ _ | refine blk_drew ?_ | refine blk_alloc ?_ _)); exact BK270.out) hb); have n4_ := bs_ HB hb; clear BK241; clear BK242; clear BK256; clear BK270; clear HB; have BK241 := n0_; have BK242 := n1_; have BK256 := n2_; have BK270 := n3_; have HB := n4_; clear n0_ n1_ n2_ n3_ n4_; (try clear hb); (try clear hb2); (try clear hk); (try clear hi)))
   go_ret
   exact ⟨by first | rfl | (simp [errW_none, errW_some] <;> rfl) | (simp [*, errW_none, errW_some] <;> rfl), by repeat (first | (with_reducible first | exact HB.out | apply below_alloc | apply pw_below_drewN | apply below_drew1 | refine below_set ?_ GE241.out | refine below_set ?_ GE242.out | refine below_set ?_ GE256.out | refine below_set ?_ GE270.out) | exact HB.out)⟩
  ·
   rw [if_neg c13] at H
   have c13b0 : (t269 != t255) = false := by simpa using c13
   (try (have c13b1 : decide (t269 = t255) = true := by simpa using c13)); (try (have c13b2 : (t269 == t255) = true := by simpa using c13)); clear c13; obtain rfl := Option.some.inj H
   go_enter Try.func5, Try.ntmps5
   try go_wp2_with (first | ((with_reducible refine gate_dst (N := 4) rfl ?_); refine box_event ?hg (N := 4) ?hd (cs := #[.int .i64 a0_0, .int .i64 a0_1, .int .i64 a0_2, .int .i64 a0_3, .int .i64 a0_4, .int .i64 a0_5]) (t := 23) ?hr ?_; (case hd => rfl); (case hg => rfl); (case hr => first | (go_simp; done) | (go_simp; rfl)); intro gb241 hg w43 hbox hb; have n0_ := bs_ HB hb; have n1_ := Aside0.mk hbox; have n2_ := ge_ HB hg; have n3_ := ge_ HB hg; clear HB; have HB := n0_; have BK241 := n1_; have GW241 := n2_; have GE241 := n3_; clear n0_ n1_ n2_ n3_; clear hb hbox hg) | ((with_reducible refine gate_dst (N := 7) rfl ?_); refine box_event ?hg (N := 7) ?hd (cs := #[.int .i64 a3_0, .int .i64 a3_1, .bool a3_2]) (t := 25) ?hr ?_; (case hd => rfl); (case hg => rfl); (case hr => first | (go_simp; done) | (go_simp; rfl)); intro gb242 hg w44 hbox hb; have n0_ := bb_ BK241 hb; have n1_ := bs_ HB hb; have n2_ := Aside0.mk hbox; have n3_ := ge_ HB hg; have n4_ := ge_ HB hg; have n5_ := nl_ BK241 hg; have n6_ := nr_ BK241 hg; clear BK241; clear HB; have BK241 := n0_; have HB := n1_; have BK242 := n2_; have GW242 := n3_; have GE242 := n4_; have NB241_242 := n5_; have NB242_241 := n6_; clear n0_ n1_ n2_ n3_ n4_ n5_ n6_; clear hb hbox hg))
   replace BK241 := Aside0.mk (blk_drew BK241.out); replace BK242 := Aside0.mk (blk_drew BK242.out); replace HB := Aside0.mk (below_drew1 HB.out); refine start_ (n := 13) (S := fun w' => w'.cell? ⟨gb241, 0, none⟩ = some (.int .i64 a0_0) ∧ w'.cell? ⟨gb241, 1, none⟩ = some (.int .i64 a0_1) ∧ w'.cell? ⟨gb241, 2, none⟩ = some (.int .i64 a0_2) ∧ w'.cell? ⟨gb241, 3, none⟩ = some (.int .i64 a0_3) ∧ w'.cell? ⟨gb241, 4, none⟩ = some (.int .i64 a0_4) ∧ w'.cell? ⟨gb241, 5, none⟩ = some (.int .i64 a0_5) ∧ w'.cell? ⟨gb242, 0, none⟩ = some (.int .i64 a3_0) ∧ w'.cell? ⟨gb242, 1, none⟩ = some (.int .i64 a3_1) ∧ w'.cell? ⟨gb242, 2, none⟩ = some (.bool a3_2)) (ds := []) #[false,false,false,false,false,false,false,false,false,false,false,false,false] (by kernel_rfl) rfl rfl ⟨bc_ BK241 0, bc_ BK241 1, bc_ BK241 2, bc_ BK241 3, bc_ BK241 4, bc_ BK241 5, bc_ BK242 0, bc_ BK242 1, bc_ BK242 2⟩ (fun hHeld => ?_); refine with_tabW laws_FnExactTwoMul.tab1 laws_FnExactTwoMul.bits1 (fun HT_ HW_ => ?_)
   generalize w44.drew = w45 at BK241 BK242 HB hHeld ⊢
   refine pure_ (i := 2) (N := some 16) (v := ?_) (a' := ?_) #[false,false,true,false,false,false,false,false,false,false,false,false,false] rfl rfl (any_of HT_.out (by kernel_rfl)) (fun _ _ _ h => h) (Or.inl ⟨by rfl, ?_⟩) ?_ ?_; rotate_left
   ·
    intro w'; go_simp
    with_reducible rfl
   rotate_left
   · simp only [Act.put, sA_, sZ_, sS_, i64_w, i32_w]; rfl
   refine pure_ (i := 3) (N := some 17) (v := ?_) (a' := ?_) #[false,false,true,true,false,false,false,false,false,false,false,false,false] rfl rfl (any_of HT_.out (by kernel_rfl)) (fun _ _ _ h => h) (Or.inl ⟨by rfl, ?_⟩) ?_ ?_; rotate_left
   ·
    intro w'; go_simp
    with_reducible rfl
   rotate_left
   · simp only [Act.put, sA_, sZ_, sS_, i64_w, i32_w]; rfl
   refine take_ (i := 0) (N := some 14) (v := ?_) (a' := ?_) #[true,false,true,true,false,false,false,false,false,false,false,false,false] rfl rfl (take_ofW HT_.out HW_.out (by kernel_rfl)) (fun _ _ _ h => h) (Or.inl ⟨by rfl, ?_⟩) hHeld ?_ ?_; rotate_left
   ·
    rintro w' ⟨s0, s1, s2, s3, s4, s5, s6, s7, s8⟩; go_simp
    with_reducible rfl
   rotate_left
   · simp only [Act.put, sA_, sZ_, sS_, i64_w, i32_w]; rfl
   refine take_ (i := 4) (N := some 18) (v := ?_) (a' := ?_) #[true,false,true,true,true,false,false,false,false,false,false,false,false] rfl rfl (take_ofW HT_.out HW_.out (by kernel_rfl)) (fun _ _ _ h => h) (Or.inl ⟨by rfl, ?_⟩) hHeld ?_ ?_; rotate_left
   ·
    rintro w' ⟨s0, s1, s2, s3, s4, s5, s6, s7, s8⟩; go_simp
    with_reducible rfl
   rotate_left
   · simp only [Act.put, sA_, sZ_, sS_, i64_w, i32_w]; rfl
   refine join_ (σ := Nat) 2 #[true,true,true,true,true,true,true,true,true,true,true,false,false] (fun s_ => [(15, .agg #[.int .i64 t243, .int .i64 t244, .int .i64 t245, .int .i64 t246, .int .i64 t247, .int .i64 t248]), (19, .agg #[.int .i64 t249, .int .i64 t250, .bool t251]), (20, .tuple #[.agg #[.int .i64 t252, .int .i64 t253, .bool t254], .bool t255]), (9, .pointer (some ⟨s_, 0, none⟩)), (13, .tuple #[.agg #[.int .i64 t252, .int .i64 t253, .bool t254], .bool t255]), (21, .agg #[.int .i64 t252, .int .i64 t253, .bool t254]), (22, .bool t255)]) (fun s_ w' => (w'.cell? ⟨gb241, 0, none⟩ = some (.int .i64 a0_0) ∧ w'.cell? ⟨gb241, 1, none⟩ = some (.int .i64 a0_1) ∧ w'.cell? ⟨gb241, 2, none⟩ = some (.int .i64 a0_2) ∧ w'.cell? ⟨gb241, 3, none⟩ = some (.int .i64 a0_3) ∧ w'.cell? ⟨gb241, 4, none⟩ = some (.int .i64 a0_4) ∧ w'.cell? ⟨gb241, 5, none⟩ = some (.int .i64 a0_5) ∧ w'.cell? ⟨gb242, 0, none⟩ = some (.int .i64 a3_0) ∧ w'.cell? ⟨gb242, 1, none⟩ = some (.int .i64 a3_1) ∧ w'.cell? ⟨gb242, 2, none⟩ = some (.bool a3_2)) ∧ (w'.heap[gb241]? = some (.cells #[.int .i64 a0_0, .int .i64 a0_1, .int .i64 a0_2, .int .i64 a0_3, .int .i64 a0_4, .int .i64 a0_5] 23 (0, 0))) ∧ (w'.heap[gb242]? = some (.cells #[.int .i64 a3_0, .int .i64 a3_1, .bool a3_2] 25 (0, 0))) ∧ (w'.heap[s_]? = some (.cells #[.int .i64 0, .int .i64 0, .bool false] 26 (0, 0))) ∧ (w.heap.size ≤ s_) ∧ (w.heap.size ≤ s_) ∧ (gb241 ≠ s_) ∧ (s_ ≠ gb241) ∧ (gb242 ≠ s_) ∧ (s_ ≠ gb242) ∧ (Below w.heap.size w w')) ?_ ?_; rotate_left
   ·
    intro hCont; refine two_ (i := 1) (j := 10) (Ni := some 15) (Nj := some 9) #[true,true,true,true,true,false,false,false,false,false,false,false,false] #[true,false,true,true,true,false,false,false,false,false,true,false,false] rfl rfl rfl rfl (two_of HT_.out (by kernel_rfl)) (by decide) (by decide) (fun K hK => ?_) (fun K hK => ?_)
    ·
     refine gs_ Try.func15 #[.agg #[.int .i64 a0_0, .int .i64 a0_1, .int .i64 a0_2, .int .i64 a0_3, .int .i64 a0_4, .int .i64 a0_5]] ?_
     with_reducible refine (laws_toCurve.calls a0_0 a0_1 a0_2 a0_3 a0_4 a0_5 t243 t244 t245 t246 t247 t248 _ A5.out).mono ?_
     rintro e w46 ⟨rfl, hb⟩; refine ⟨_, rfl, ?_⟩; replace BK241 := bb_ BK241 hb; replace BK242 := bb_ BK242 hb; replace HB := bs_ HB hb; (try clear hb); refine hK.out _ _ ⟨bc_ BK241 0, bc_ BK241 1, bc_ BK241 2, bc_ BK241 3, bc_ BK241 4, bc_ BK241 5, bc_ BK242 0, bc_ BK242 1, bc_ BK242 2⟩ (fun hHeld => ?_); clear hK K
     apply norm_
     · show Act.put _ (some 15) _ = _; simp only [Act.put, sA_, sZ_, sS_, i64_w, i32_w]; rfl
     refine two_ (i := 5) (j := 10) (Ni := some 19) (Nj := some 9) #[true,true,true,true,true,true,false,false,false,false,false,false,false] #[true,true,true,true,true,false,false,false,false,false,true,false,false] rfl rfl rfl rfl (two_of HT_.out (by kernel_rfl)) (by decide) (by decide) (fun K hK => ?_) (fun K hK => ?_)
     ·
      refine gs_ Try.func16 #[.agg #[.int .i64 a3_0, .int .i64 a3_1, .bool a3_2]] ?_
      with_reducible refine (laws_toPoint.calls a3_0 a3_1 a3_2 t249 t250 t251 _ A6.out).mono ?_
      rintro e w47 ⟨rfl, hb⟩; refine ⟨_, rfl, ?_⟩; replace BK241 := bb_ BK241 hb; replace BK242 := bb_ BK242 hb; replace HB := bs_ HB hb; (try clear hb); refine hK.out _ _ ⟨bc_ BK241 0, bc_ BK241 1, bc_ BK241 2, bc_ BK241 3, bc_ BK241 4, bc_ BK241 5, bc_ BK242 0, bc_ BK242 1, bc_ BK242 2⟩ (fun hHeld => ?_); clear hK K
      apply norm_
      · show Act.put _ (some 19) _ = _; simp only [Act.put, sA_, sZ_, sS_, i64_w, i32_w]; rfl
      refine two_ (i := 6) (j := 10) (Ni := some 20) (Nj := some 9) #[true,true,true,true,true,true,true,false,false,false,false,false,false] #[true,true,true,true,true,true,false,false,false,false,true,false,false] rfl rfl rfl rfl (two_of HT_.out (by kernel_rfl)) (by decide) (by decide) (fun K hK => ?_) (fun K hK => ?_)
      ·
       refine gs_ Try.func21 #[.agg #[.int .i64 t243, .int .i64 t244, .int .i64 t245, .int .i64 t246, .int .i64 t247, .int .i64 t248], .int .i64 a1, .int .i64 a2, .agg #[.int .i64 t249, .int .i64 t250, .bool t251]] ?_
       with_reducible refine (spec_TwoMul.calls k t243 t244 t245 t246 t247 t248 a1 a2 t249 t250 t251 t252 t253 t254 t255 _ A7.out).mono ?_
       rintro e w48 ⟨rfl, hb⟩; refine ⟨_, rfl, ?_⟩; replace BK241 := bb_ BK241 hb; replace BK242 := bb_ BK242 hb; replace HB := bs_ HB hb; (try clear hb); refine hK.out _ _ ⟨bc_ BK241 0, bc_ BK241 1, bc_ BK241 2, bc_ BK241 3, bc_ BK241 4, bc_ BK241 5, bc_ BK242 0, bc_ BK242 1, bc_ BK242 2⟩ (fun hHeld => ?_); clear hK K
       apply norm_
       · show Act.put _ (some 20) _ = _; simp only [Act.put, sA_, sZ_, sS_, i64_w, i32_w]; rfl
       refine pure_ (i := 7) (N := some 13) (v := ?_) (a' := ?_) #[true,true,true,true,true,true,true,true,false,false,false,false,false] rfl rfl (any_of HT_.out (by kernel_rfl)) (fun _ _ _ h => h) (Or.inl ⟨by rfl, ?_⟩) ?_ ?_; rotate_left
       ·
        intro w'; go_simp
        with_reducible rfl
       rotate_left
       · simp only [Act.put, sA_, sZ_, sS_, i64_w, i32_w]; rfl
       refine pure_ (i := 8) (N := some 21) (v := ?_) (a' := ?_) #[true,true,true,true,true,true,true,true,true,false,false,false,false] rfl rfl (any_of HT_.out (by kernel_rfl)) (fun _ _ _ h => h) (Or.inl ⟨by rfl, ?_⟩) ?_ ?_; rotate_left
       ·
        intro w'; go_simp
        with_reducible rfl
       rotate_left
       · simp only [Act.put, sA_, sZ_, sS_, i64_w, i32_w]; rfl
       refine pure_ (i := 9) (N := some 22) (v := ?_) (a' := ?_) #[true,true,true,true,true,true,true,true,true,true,false,false,false] rfl rfl (any_of HT_.out (by kernel_rfl)) (fun _ _ _ h => h) (Or.inl ⟨by rfl, ?_⟩) ?_ ?_; rotate_left
       ·
        intro w'; go_simp
        with_reducible rfl
       rotate_left
       · simp only [Act.put, sA_, sZ_, sS_, i64_w, i32_w]; rfl
       refine one_ (i := 10) (N := some 9) #[true,true,true,true,true,true,true,true,true,true,true,false,false] rfl rfl (one_of HT_.out (by kernel_rfl)) (by decide) (fun K hK => ?_); refine box_step ?hg (N := 9) ?hd (cs := #[.int .i64 0, .int .i64 0, .bool false]) (t := 26) ?hr ?_; (case hd => rfl); (case hg => rfl); (case hr => first | (go_simp; done) | (go_simp; rfl))
       intro gb256 hg w49 hbox hb; have n0_ := bb_ BK241 hb; have n1_ := bb_ BK242 hb; have n2_ := bs_ HB hb; have n3_ := Aside0.mk hbox; have n4_ := ge_ HB hg; have n5_ := ge_ HB hg; have n6_ := nl_ BK241 hg; have n7_ := nr_ BK241 hg; have n8_ := nl_ BK242 hg; have n9_ := nr_ BK242 hg; clear BK241 BK242 HB; have BK241 := n0_; have BK242 := n1_; have HB := n2_; have BK256 := n3_; have GW256 := n4_; have GE256 := n5_; have NB241_256 := n6_; have NB256_241 := n7_; have NB242_256 := n8_; have NB256_242 := n9_; clear n0_ n1_ n2_ n3_ n4_ n5_ n6_ n7_ n8_ n9_; clear hb hbox hg; refine hK.out _ _ ⟨bc_ BK241 0, bc_ BK241 1, bc_ BK241 2, bc_ BK241 3, bc_ BK241 4, bc_ BK241 5, bc_ BK242 0, bc_ BK242 1, bc_ BK242 2⟩ (fun hHeld => ?_); clear hK K
       apply norm_
       · show Act.put _ (some 9) _ = _; simp only [Act.put, sA_, sZ_, sS_, i64_w, i32_w]; rfl
       exact norm_ (by simp only [putAll, Act.put, sA_, sZ_, sS_]) (hCont (gb256) _ ⟨hHeld, (bk_ BK241), (bk_ BK242), (bk_ BK256), GW256.out, GE256.out, NB241_256.out, NB256_241.out, NB242_256.out, NB256_242.out, (bw_ HB)⟩)
      ·
       refine box_step ?hg (N := 9) ?hd (cs := #[.int .i64 0, .int .i64 0, .bool false]) (t := 26) ?hr ?_; (case hd => rfl); (case hg => rfl); (case hr => first | (go_simp; done) | (go_simp; rfl))
       intro gb256 hg w48 hbox hb; have n0_ := bb_ BK241 hb; have n1_ := bb_ BK242 hb; have n2_ := bs_ HB hb; have n3_ := Aside0.mk hbox; have n4_ := ge_ HB hg; have n5_ := ge_ HB hg; have n6_ := nl_ BK241 hg; have n7_ := nr_ BK241 hg; have n8_ := nl_ BK242 hg; have n9_ := nr_ BK242 hg; clear BK241 BK242 HB; have BK241 := n0_; have BK242 := n1_; have HB := n2_; have BK256 := n3_; have GW256 := n4_; have GE256 := n5_; have NB241_256 := n6_; have NB256_241 := n7_; have NB242_256 := n8_; have NB256_242 := n9_; clear n0_ n1_ n2_ n3_ n4_ n5_ n6_ n7_ n8_ n9_; clear hb hbox hg; refine hK.out _ _ ⟨bc_ BK241 0, bc_ BK241 1, bc_ BK241 2, bc_ BK241 3, bc_ BK241 4, bc_ BK241 5, bc_ BK242 0, bc_ BK242 1, bc_ BK242 2⟩ (fun hHeld => ?_); clear hK K
       apply norm_
       · show Act.put _ (some 9) _ = _; simp only [Act.put, sA_, sZ_, sS_, i64_w, i32_w]; rfl
       refine one_ (i := 6) (N := some 20) #[true,true,true,true,true,true,true,false,false,false,true,false,false] rfl rfl (one_of HT_.out (by kernel_rfl)) (by decide) (fun K hK => ?_); refine gs_ Try.func21 #[.agg #[.int .i64 t243, .int .i64 t244, .int .i64 t245, .int .i64 t246, .int .i64 t247, .int .i64 t248], .int .i64 a1, .int .i64 a2, .agg #[.int .i64 t249, .int .i64 t250, .bool t251]] ?_
       with_reducible refine (spec_TwoMul.calls k t243 t244 t245 t246 t247 t248 a1 a2 t249 t250 t251 t252 t253 t254 t255 _ A7.out).mono ?_
       rintro e w49 ⟨rfl, hb⟩; refine ⟨_, rfl, ?_⟩; replace BK241 := bb_ BK241 hb; replace BK242 := bb_ BK242 hb; replace BK256 := bb_ BK256 hb; replace HB := bs_ HB hb; (try clear hb); refine hK.out _ _ ⟨bc_ BK241 0, bc_ BK241 1, bc_ BK241 2, bc_ BK241 3, bc_ BK241 4, bc_ BK241 5, bc_ BK242 0, bc_ BK242 1, bc_ BK242 2⟩ (fun hHeld => ?_); clear hK K
       apply norm_
       · show Act.put _ (some 20) _ = _; simp only [Act.put, sA_, sZ_, sS_, i64_w, i32_w]; rfl
       refine pure_ (i := 7) (N := some 13) (v := ?_) (a' := ?_) #[true,true,true,true,true,true,true,true,false,false,true,false,false] rfl rfl (any_of HT_.out (by kernel_rfl)) (fun _ _ _ h => h) (Or.inl ⟨by rfl, ?_⟩) ?_ ?_; rotate_left
       ·
        intro w'; go_simp
        with_reducible rfl
       rotate_left
       · simp only [Act.put, sA_, sZ_, sS_, i64_w, i32_w]; rfl
       refine pure_ (i := 8) (N := some 21) (v := ?_) (a' := ?_) #[true,true,true,true,true,true,true,true,true,false,true,false,false] rfl rfl (any_of HT_.out (by kernel_rfl)) (fun _ _ _ h => h) (Or.inl ⟨by rfl, ?_⟩) ?_ ?_; rotate_left
       ·
        intro w'; go_simp
        with_reducible rfl
       rotate_left
       · simp only [Act.put, sA_, sZ_, sS_, i64_w, i32_w]; rfl
       refine pure_ (i := 9) (N := some 22) (v := ?_) (a' := ?_) #[true,true,true,true,true,true,true,true,true,true,true,false,false] rfl rfl (any_of HT_.out (by kernel_rfl)) (fun _ _ _ h => h) (Or.inl ⟨by rfl, ?_⟩) ?_ ?_; rotate_left
       ·
        intro w'; go_simp
        with_reducible rfl
       rotate_left
       · simp only [Act.put, sA_, sZ_, sS_, i64_w, i32_w]; rfl
       exact norm_ (by simp only [putAll, Act.put, sA_, sZ_, sS_]) (hCont (gb256) _ ⟨hHeld, (bk_ BK241), (bk_ BK242), (bk_ BK256), GW256.out, GE256.out, NB241_256.out, NB256_241.out, NB242_256.out, NB256_242.out, (bw_ HB)⟩)
     ·
      refine box_step ?hg (N := 9) ?hd (cs := #[.int .i64 0, .int .i64 0, .bool false]) (t := 26) ?hr ?_; (case hd => rfl); (case hg => rfl); (case hr => first | (go_simp; done) | (go_simp; rfl))
      intro gb256 hg w47 hbox hb; have n0_ := bb_ BK241 hb; have n1_ := bb_ BK242 hb; have n2_ := bs_ HB hb; have n3_ := Aside0.mk hbox; have n4_ := ge_ HB hg; have n5_ := ge_ HB hg; have n6_ := nl_ BK241 hg; have n7_ := nr_ BK241 hg; have n8_ := nl_ BK242 hg; have n9_ := nr_ BK242 hg; clear BK241 BK242 HB; have BK241 := n0_; have BK242 := n1_; have HB := n2_; have BK256 := n3_; have GW256 := n4_; have GE256 := n5_; have NB241_256 := n6_; have NB256_241 := n7_; have NB242_256 := n8_; have NB256_242 := n9_; clear n0_ n1_ n2_ n3_ n4_ n5_ n6_ n7_ n8_ n9_; clear hb hbox hg; refine hK.out _ _ ⟨bc_ BK241 0, bc_ BK241 1, bc_ BK241 2, bc_ BK241 3, bc_ BK241 4, bc_ BK241 5, bc_ BK242 0, bc_ BK242 1, bc_ BK242 2⟩ (fun hHeld => ?_); clear hK K
      apply norm_
      · show Act.put _ (some 9) _ = _; simp only [Act.put, sA_, sZ_, sS_, i64_w, i32_w]; rfl
      refine one_ (i := 5) (N := some 19) #[true,true,true,true,true,true,false,false,false,false,true,false,false] rfl rfl (one_of HT_.out (by kernel_rfl)) (by decide) (fun K hK => ?_); refine gs_ Try.func16 #[.agg #[.int .i64 a3_0, .int .i64 a3_1, .bool a3_2]] ?_
      with_reducible refine (laws_toPoint.calls a3_0 a3_1 a3_2 t249 t250 t251 _ A6.out).mono ?_
      rintro e w48 ⟨rfl, hb⟩; refine ⟨_, rfl, ?_⟩; replace BK241 := bb_ BK241 hb; replace BK242 := bb_ BK242 hb; replace BK256 := bb_ BK256 hb; replace HB := bs_ HB hb; (try clear hb); refine hK.out _ _ ⟨bc_ BK241 0, bc_ BK241 1, bc_ BK241 2, bc_ BK241 3, bc_ BK241 4, bc_ BK241 5, bc_ BK242 0, bc_ BK242 1, bc_ BK242 2⟩ (fun hHeld => ?_); clear hK K
      apply norm_
      · show Act.put _ (some 19) _ = _; simp only [Act.put, sA_, sZ_, sS_, i64_w, i32_w]; rfl
      refine one_ (i := 6) (N := some 20) #[true,true,true,true,true,true,true,false,false,false,true,false,false] rfl rfl (one_of HT_.out (by kernel_rfl)) (by decide) (fun K hK => ?_); refine gs_ Try.func21 #[.agg #[.int .i64 t243, .int .i64 t244, .int .i64 t245, .int .i64 t246, .int .i64 t247, .int .i64 t248], .int .i64 a1, .int .i64 a2, .agg #[.int .i64 t249, .int .i64 t250, .bool t251]] ?_
      with_reducible refine (spec_TwoMul.calls k t243 t244 t245 t246 t247 t248 a1 a2 t249 t250 t251 t252 t253 t254 t255 _ A7.out).mono ?_
      rintro e w49 ⟨rfl, hb⟩; refine ⟨_, rfl, ?_⟩; replace BK241 := bb_ BK241 hb; replace BK242 := bb_ BK242 hb; replace BK256 := bb_ BK256 hb; replace HB := bs_ HB hb; (try clear hb); refine hK.out _ _ ⟨bc_ BK241 0, bc_ BK241 1, bc_ BK241 2, bc_ BK241 3, bc_ BK241 4, bc_ BK241 5, bc_ BK242 0, bc_ BK242 1, bc_ BK242 2⟩ (fun hHeld => ?_); clear hK K
      apply norm_
      · show Act.put _ (some 20) _ = _; simp only [Act.put, sA_, sZ_, sS_, i64_w, i32_w]; rfl
      refine pure_ (i := 7) (N := some 13) (v := ?_) (a' := ?_) #[true,true,true,true,true,true,true,true,false,false,true,false,false] rfl rfl (any_of HT_.out (by kernel_rfl)) (fun _ _ _ h => h) (Or.inl ⟨by rfl, ?_⟩) ?_ ?_; rotate_left
      ·
       intro w'; go_simp
       with_reducible rfl
      rotate_left
      · simp only [Act.put, sA_, sZ_, sS_, i64_w, i32_w]; rfl
      refine pure_ (i := 8) (N := some 21) (v := ?_) (a' := ?_) #[true,true,true,true,true,true,true,true,true,false,true,false,false] rfl rfl (any_of HT_.out (by kernel_rfl)) (fun _ _ _ h => h) (Or.inl ⟨by rfl, ?_⟩) ?_ ?_; rotate_left
      ·
       intro w'; go_simp
       with_reducible rfl
      rotate_left
      · simp only [Act.put, sA_, sZ_, sS_, i64_w, i32_w]; rfl
      refine pure_ (i := 9) (N := some 22) (v := ?_) (a' := ?_) #[true,true,true,true,true,true,true,true,true,true,true,false,false] rfl rfl (any_of HT_.out (by kernel_rfl)) (fun _ _ _ h => h) (Or.inl ⟨by rfl, ?_⟩) ?_ ?_; rotate_left
      ·
       intro w'; go_simp
       with_reducible rfl
      rotate_left
      · simp only [Act.put, sA_, sZ_, sS_, i64_w, i32_w]; rfl
      exact norm_ (by simp only [putAll, Act.put, sA_, sZ_, sS_]) (hCont (gb256) _ ⟨hHeld, (bk_ BK241), (bk_ BK242), (bk_ BK256), GW256.out, GE256.out, NB241_256.out, NB256_241.out, NB242_256.out, NB256_242.out, (bw_ HB)⟩)
    ·
     refine box_step ?hg (N := 9) ?hd (cs := #[.int .i64 0, .int .i64 0, .bool false]) (t := 26) ?hr ?_; (case hd => rfl); (case hg => rfl); (case hr => first | (go_simp; done) | (go_simp; rfl))
     intro gb256 hg w46 hbox hb; have n0_ := bb_ BK241 hb; have n1_ := bb_ BK242 hb; have n2_ := bs_ HB hb; have n3_ := Aside0.mk hbox; have n4_ := ge_ HB hg; have n5_ := ge_ HB hg; have n6_ := nl_ BK241 hg; have n7_ := nr_ BK241 hg; have n8_ := nl_ BK242 hg; have n9_ := nr_ BK242 hg; clear BK241 BK242 HB; have BK241 := n0_; have BK242 := n1_; have HB := n2_; have BK256 := n3_; have GW256 := n4_; have GE256 := n5_; have NB241_256 := n6_; have NB256_241 := n7_; have NB242_256 := n8_; have NB256_242 := n9_; clear n0_ n1_ n2_ n3_ n4_ n5_ n6_ n7_ n8_ n9_; clear hb hbox hg; refine hK.out _ _ ⟨bc_ BK241 0, bc_ BK241 1, bc_ BK241 2, bc_ BK241 3, bc_ BK241 4, bc_ BK241 5, bc_ BK242 0, bc_ BK242 1, bc_ BK242 2⟩ (fun hHeld => ?_); clear hK K
     apply norm_
     · show Act.put _ (some 9) _ = _; simp only [Act.put, sA_, sZ_, sS_, i64_w, i32_w]; rfl
     refine one_ (i := 1) (N := some 15) #[true,true,true,true,true,false,false,false,false,false,true,false,false] rfl rfl (one_of HT_.out (by kernel_rfl)) (by decide) (fun K hK => ?_); refine gs_ Try.func15 #[.agg #[.int .i64 a0_0, .int .i64 a0_1, .int .i64 a0_2, .int .i64 a0_3, .int .i64 a0_4, .int .i64 a0_5]] ?_
     with_reducible refine (laws_toCurve.calls a0_0 a0_1 a0_2 a0_3 a0_4 a0_5 t243 t244 t245 t246 t247 t248 _ A5.out).mono ?_
     rintro e w47 ⟨rfl, hb⟩; refine ⟨_, rfl, ?_⟩; replace BK241 := bb_ BK241 hb; replace BK242 := bb_ BK242 hb; replace BK256 := bb_ BK256 hb; replace HB := bs_ HB hb; (try clear hb); refine hK.out _ _ ⟨bc_ BK241 0, bc_ BK241 1, bc_ BK241 2, bc_ BK241 3, bc_ BK241 4, bc_ BK241 5, bc_ BK242 0, bc_ BK242 1, bc_ BK242 2⟩ (fun hHeld => ?_); clear hK K
     apply norm_
     · show Act.put _ (some 15) _ = _; simp only [Act.put, sA_, sZ_, sS_, i64_w, i32_w]; rfl
     refine one_ (i := 5) (N := some 19) #[true,true,true,true,true,true,false,false,false,false,true,false,false] rfl rfl (one_of HT_.out (by kernel_rfl)) (by decide) (fun K hK => ?_); refine gs_ Try.func16 #[.agg #[.int .i64 a3_0, .int .i64 a3_1, .bool a3_2]] ?_
     with_reducible refine (laws_toPoint.calls a3_0 a3_1 a3_2 t249 t250 t251 _ A6.out).mono ?_
     rintro e w48 ⟨rfl, hb⟩; refine ⟨_, rfl, ?_⟩; replace BK241 := bb_ BK241 hb; replace BK242 := bb_ BK242 hb; replace BK256 := bb_ BK256 hb; replace HB := bs_ HB hb; (try clear hb); refine hK.out _ _ ⟨bc_ BK241 0, bc_ BK241 1, bc_ BK241 2, bc_ BK241 3, bc_ BK241 4, bc_ BK241 5, bc_ BK242 0, bc_ BK242 1, bc_ BK242 2⟩ (fun hHeld => ?_); clear hK K
     apply norm_
     · show Act.put _ (some 19) _ = _; simp only [Act.put, sA_, sZ_, sS_, i64_w, i32_w]; rfl
     refine one_ (i := 6) (N := some 20) #[true,true,true,true,true,true,true,false,false,false,true,false,false] rfl rfl (one_of HT_.out (by kernel_rfl)) (by decide) (fun K hK => ?_); refine gs_ Try.func21 #[.agg #[.int .i64 t243, .int .i64 t244, .int .i64 t245, .int .i64 t246, .int .i64 t247, .int .i64 t248], .int .i64 a1, .int .i64 a2, .agg #[.int .i64 t249, .int .i64 t250, .bool t251]] ?_
     with_reducible refine (spec_TwoMul.calls k t243 t244 t245 t246 t247 t248 a1 a2 t249 t250 t251 t252 t253 t254 t255 _ A7.out).mono ?_
     rintro e w49 ⟨rfl, hb⟩; refine ⟨_, rfl, ?_⟩; replace BK241 := bb_ BK241 hb; replace BK242 := bb_ BK242 hb; replace BK256 := bb_ BK256 hb; replace HB := bs_ HB hb; (try clear hb); refine hK.out _ _ ⟨bc_ BK241 0, bc_ BK241 1, bc_ BK241 2, bc_ BK241 3, bc_ BK241 4, bc_ BK241 5, bc_ BK242 0, bc_ BK242 1, bc_ BK242 2⟩ (fun hHeld => ?_); clear hK K
     apply norm_
     · show Act.put _ (some 20) _ = _; simp only [Act.put, sA_, sZ_, sS_, i64_w, i32_w]; rfl
     refine pure_ (i := 7) (N := some 13) (v := ?_) (a' := ?_) #[true,true,true,true,true,true,true,true,false,false,true,false,false] rfl rfl (any_of HT_.out (by kernel_rfl)) (fun _ _ _ h => h) (Or.inl ⟨by rfl, ?_⟩) ?_ ?_; rotate_left
     ·
      intro w'; go_simp
      with_reducible rfl
     rotate_left
     · simp only [Act.put, sA_, sZ_, sS_, i64_w, i32_w]; rfl
     refine pure_ (i := 8) (N := some 21) (v := ?_) (a' := ?_) #[true,true,true,true,true,true,true,true,true,false,true,false,false] rfl rfl (any_of HT_.out (by kernel_rfl)) (fun _ _ _ h => h) (Or.inl ⟨by rfl, ?_⟩) ?_ ?_; rotate_left
     ·
      intro w'; go_simp
      with_reducible rfl
     rotate_left
     · simp only [Act.put, sA_, sZ_, sS_, i64_w, i32_w]; rfl
     refine pure_ (i := 9) (N := some 22) (v := ?_) (a' := ?_) #[true,true,true,true,true,true,true,true,true,true,true,false,false] rfl rfl (any_of HT_.out (by kernel_rfl)) (fun _ _ _ h => h) (Or.inl ⟨by rfl, ?_⟩) ?_ ?_; rotate_left
     ·
      intro w'; go_simp
      with_reducible rfl
     rotate_left
     · simp only [Act.put, sA_, sZ_, sS_, i64_w, i32_w]; rfl
     exact norm_ (by simp only [putAll, Act.put, sA_, sZ_, sS_]) (hCont (gb256) _ ⟨hHeld, (bk_ BK241), (bk_ BK242), (bk_ BK256), GW256.out, GE256.out, NB241_256.out, NB256_241.out, NB242_256.out, NB256_242.out, (bw_ HB)⟩)
   rintro gb256 w50 ⟨hS_, h0_, h1_, h2_, h3_, h4_, h5_, h6_, h7_, h8_, h9_⟩; replace BK241 := Aside0.mk h0_; replace BK242 := Aside0.mk h1_; have BK256 := Aside0.mk h2_; have GW256 := Aside0.mk h3_; have GE256 := Aside0.mk h4_; have NB241_256 := Aside0.mk h5_; have NB256_241 := Aside0.mk h6_; have NB242_256 := Aside0.mk h7_; have NB256_242 := Aside0.mk h8_; replace HB := Aside0.mk h9_; clear h0_ h1_ h2_ h3_ h4_ h5_ h6_ h7_ h8_ h9_; have hHeld := hS_
   apply norm_
   · simp only [putAll, Act.put, sA_, sZ_, sS_]; rfl
   refine one_ (i := 11) (N := none) #[true,true,true,true,true,true,true,true,true,true,true,true,false] rfl rfl (one_of HT_.out (by kernel_rfl)) (by decide) (fun K hK => ?_)
   have hs51 : w50.cell? ⟨gb256, 0, none⟩ = some (.int .i64 0) := bc_ BK256 0
   have hfs51 := blk_frozen BK256.out 0; have hns51_0 := NB241_256.out; have hns51_1 := NB242_256.out; have hms51_0 := NB256_241.out; have hms51_1 := NB256_242.out
   have hs52 : w50.cell? ⟨gb256, 1, none⟩ = some (.int .i64 0) := bc_ BK256 1
   have hfs52 := blk_frozen BK256.out 1; have hns52_0 := NB241_256.out; have hns52_1 := NB242_256.out; have hms52_0 := NB256_241.out; have hms52_1 := NB256_242.out
   have hs53 : w50.cell? ⟨gb256, 2, none⟩ = some (.bool false) := bc_ BK256 2
   have hfs53 := blk_frozen BK256.out 2; have hns53_0 := NB241_256.out; have hns53_1 := NB242_256.out; have hms53_0 := NB256_241.out; have hms53_1 := NB256_242.out; refine skip_ (w1 := ?_) (by rfl) rfl ?_ ?_; rotate_left
   · go_simp; rfl
   refine hK.out _ _ ⟨((cell_far (p := ⟨gb256, _, none⟩) NB241_256.out _).trans (((cell_far (p := ⟨gb256, _, none⟩) NB241_256.out _).trans (((cell_far (p := ⟨gb256, _, none⟩) NB241_256.out _).trans (hHeld.1)))))), ((cell_far (p := ⟨gb256, _, none⟩) NB241_256.out _).trans (((cell_far (p := ⟨gb256, _, none⟩) NB241_256.out _).trans (((cell_far (p := ⟨gb256, _, none⟩) NB241_256.out _).trans (hHeld.2.1)))))), ((cell_far (p := ⟨gb256, _, none⟩) NB241_256.out _).trans (((cell_far (p := ⟨gb256, _, none⟩) NB241_256.out _).trans (((cell_far (p := ⟨gb256, _, none⟩) NB241_256.out _).trans (hHeld.2.2.1)))))), ((cell_far (p := ⟨gb256, _, none⟩) NB241_256.out _).trans (((cell_far (p := ⟨gb256, _, none⟩) NB241_256.out _).trans (((cell_far (p := ⟨gb256, _, none⟩) NB241_256.out _).trans (hHeld.2.2.2.1)))))), ((cell_far (p := ⟨gb256, _, none⟩) NB241_256.out _).trans (((cell_far (p := ⟨gb256, _, none⟩) NB241_256.out _).trans (((cell_far (p := ⟨gb256, _, none⟩) NB241_256.out _).trans (hHeld.2.2.2.2.1)))))), ((cell_far (p := ⟨gb256, _, none⟩) NB241_256.out _).trans (((cell_far (p := ⟨gb256, _, none⟩) NB241_256.out _).trans (((cell_far (p := ⟨gb256, _, none⟩) NB241_256.out _).trans (hHeld.2.2.2.2.2.1)))))), ((cell_far (p := ⟨gb256, _, none⟩) NB242_256.out _).trans (((cell_far (p := ⟨gb256, _, none⟩) NB242_256.out _).trans (((cell_far (p := ⟨gb256, _, none⟩) NB242_256.out _).trans (hHeld.2.2.2.2.2.2.1)))))), ((cell_far (p := ⟨gb256, _, none⟩) NB242_256.out _).trans (((cell_far (p := ⟨gb256, _, none⟩) NB242_256.out _).trans (((cell_far (p := ⟨gb256, _, none⟩) NB242_256.out _).trans (hHeld.2.2.2.2.2.2.2.1)))))), ((cell_far (p := ⟨gb256, _, none⟩) NB242_256.out _).trans (((cell_far (p := ⟨gb256, _, none⟩) NB242_256.out _).trans (((cell_far (p := ⟨gb256, _, none⟩) NB242_256.out _).trans (hHeld.2.2.2.2.2.2.2.2))))))⟩ (fun hHeld => ?_); clear hK K; refine pure_ (i := 12) (N := some 10) (v := ?_) (a' := ?_) #[true,true,true,true,true,true,true,true,true,true,true,true,true] rfl rfl (any_of HT_.out (by kernel_rfl)) (fun _ _ _ h => h) (Or.inl ⟨by rfl, ?_⟩) ?_ ?_; rotate_left
   ·
    intro w'; go_simp
    with_reducible rfl
   rotate_left
   · simp only [Act.put, sA_, sZ_, sS_, i64_w, i32_w]; rfl
   refine done_ (done_of HT_.out (by kernel_rfl)) ?_
   try go_wp2
   have n0_ : Aside0 ((((w50.setCell ⟨gb256, 0, none⟩ (.int .i64 t252)).setCell ⟨gb256, 1, none⟩ (.int .i64 t253)).setCell ⟨gb256, 2, none⟩ (.bool t254)).heap[gb241]? = some (.cells #[.int .i64 a0_0, .int .i64 a0_1, .int .i64 a0_2, .int .i64 a0_3, .int .i64 a0_4, .int .i64 a0_5] 23 (0, 0))) := ⟨by (with_reducible repeat (first | refine blk_drewN ?_ _ | refine blk_drew ?_ | refine blk_alloc ?_ _)); refine blk_far ?_ NB241_256.out _; (with_reducible repeat (first | refine blk_drewN ?_ _ | refine blk_drew ?_ | refine blk_alloc ?_ _)); refine blk_far ?_ NB241_256.out _; (with_reducible repeat (first | refine blk_drewN ?_ _ | refine blk_drew ?_ | refine blk_alloc ?_ _)); refine blk_far ?_ NB241_256.out _; (with_reducible repeat (first | refine blk_drewN ?_ _ | refine blk_drew ?_ | refine blk_alloc ?_ _)); exact BK241.out⟩
   have n1_ : Aside0 ((((w50.setCell ⟨gb256, 0, none⟩ (.int .i64 t252)).setCell ⟨gb256, 1, none⟩ (.int .i64 t253)).setCell ⟨gb256, 2, none⟩ (.bool t254)).heap[gb242]? = some (.cells #[.int .i64 a3_0, .int .i64 a3_1, .bool a3_2] 25 (0, 0))) := ⟨by (with_reducible repeat (first | refine blk_drewN ?_ _ | refine blk_drew ?_ | refine blk_alloc ?_ _)); refine blk_far ?_ NB242_256.out _; (with_reducible repeat (first | refine blk_drewN ?_ _ | refine blk_drew ?_ | refine blk_alloc ?_ _)); refine blk_far ?_ NB242_256.out _; (with_reducible repeat (first | refine blk_drewN ?_ _ | refine blk_drew ?_ | refine blk_alloc ?_ _)); refine blk_far ?_ NB242_256.out _; (with_reducible repeat (first | refine blk_drewN ?_ _ | refine blk_drew ?_ | refine blk_alloc ?_ _)); exact BK242.out⟩
   have n2_ : Aside0 ((((w50.setCell ⟨gb256, 0, none⟩ (.int .i64 t252)).setCell ⟨gb256, 1, none⟩ (.int .i64 t253)).setCell ⟨gb256, 2, none⟩ (.bool t254)).heap[gb256]? = some (.cells #[.int .i64 t252, .int .i64 t253, .bool t254] 26 (0, 0))) := ⟨by (with_reducible repeat (first | refine blk_drewN ?_ _ | refine blk_drew ?_ | refine blk_alloc ?_ _)); refine blk_put (cs := #[.int .i64 t252, .int .i64 t253, .bool false]) ?_ 2 _ rfl; (with_reducible repeat (first | refine blk_drewN ?_ _ | refine blk_drew ?_ | refine blk_alloc ?_ _)); refine blk_put (cs := #[.int .i64 t252, .int .i64 0, .bool false]) ?_ 1 _ rfl; (with_reducible repeat (first | refine blk_drewN ?_ _ | refine blk_drew ?_ | refine blk_alloc ?_ _)); refine blk_put (cs := #[.int .i64 0, .int .i64 0, .bool false]) ?_ 0 _ rfl; (with_reducible repeat (first | refine blk_drewN ?_ _ | refine blk_drew ?_ | refine blk_alloc ?_ _)); exact BK256.out⟩
   have n3_ : Aside0 (Below w.heap.size w (((w50.setCell ⟨gb256, 0, none⟩ (.int .i64 t252)).setCell ⟨gb256, 1, none⟩ (.int .i64 t253)).setCell ⟨gb256, 2, none⟩ (.bool t254))) := ⟨by repeat (first | (with_reducible first | exact HB.out | apply below_alloc | apply pw_below_drewN | apply below_drew1 | refine below_set ?_ GE241.out | refine below_set ?_ GE242.out | refine below_set ?_ GE256.out) | exact HB.out)⟩
   (try clear BK241); (try clear BK242); (try clear BK256); (try clear HB)
   generalize (((w50.setCell ⟨gb256, 0, none⟩ (.int .i64 t252)).setCell ⟨gb256, 1, none⟩ (.int .i64 t253)).setCell ⟨gb256, 2, none⟩ (.bool t254)) = w54 at n0_ n1_ n2_ n3_ ⊢
   have BK241 := n0_; have BK242 := n1_; have BK256 := n2_; have HB := n3_; clear n0_ n1_ n2_ n3_; replace BK241 := Aside0.mk (blk_drew BK241.out); replace BK242 := Aside0.mk (blk_drew BK242.out); replace BK256 := Aside0.mk (blk_drew BK256.out); replace HB := Aside0.mk (below_drew1 HB.out); refine start_ (n := 13) (S := fun w' => w'.cell? ⟨gb241, 0, none⟩ = some (.int .i64 a0_0) ∧ w'.cell? ⟨gb241, 1, none⟩ = some (.int .i64 a0_1) ∧ w'.cell? ⟨gb241, 2, none⟩ = some (.int .i64 a0_2) ∧ w'.cell? ⟨gb241, 3, none⟩ = some (.int .i64 a0_3) ∧ w'.cell? ⟨gb241, 4, none⟩ = some (.int .i64 a0_4) ∧ w'.cell? ⟨gb241, 5, none⟩ = some (.int .i64 a0_5) ∧ w'.cell? ⟨gb242, 0, none⟩ = some (.int .i64 a3_0) ∧ w'.cell? ⟨gb242, 1, none⟩ = some (.int .i64 a3_1) ∧ w'.cell? ⟨gb242, 2, none⟩ = some (.bool a3_2)) (ds := []) #[false,false,false,false,false,false,false,false,false,false,false,false,false] (by kernel_rfl) rfl rfl ⟨bc_ BK241 0, bc_ BK241 1, bc_ BK241 2, bc_ BK241 3, bc_ BK241 4, bc_ BK241 5, bc_ BK242 0, bc_ BK242 1, bc_ BK242 2⟩ (fun hHeld => ?_); refine with_tabW laws_FnExactTwoMul.tab2 laws_FnExactTwoMul.bits2 (fun HT_ HW_ => ?_)
   generalize w54.drew = w55 at BK241 BK242 BK256 HB hHeld ⊢
   refine pure_ (i := 2) (N := some 26) (v := ?_) (a' := ?_) #[false,false,true,false,false,false,false,false,false,false,false,false,false] rfl rfl (any_of HT_.out (by kernel_rfl)) (fun _ _ _ h => h) (Or.inl ⟨by rfl, ?_⟩) ?_ ?_; rotate_left
   ·
    intro w'; go_simp
    with_reducible rfl
   rotate_left
   · simp only [Act.put, sA_, sZ_, sS_, i64_w, i32_w]; rfl
   refine pure_ (i := 3) (N := some 27) (v := ?_) (a' := ?_) #[false,false,true,true,false,false,false,false,false,false,false,false,false] rfl rfl (any_of HT_.out (by kernel_rfl)) (fun _ _ _ h => h) (Or.inl ⟨by rfl, ?_⟩) ?_ ?_; rotate_left
   ·
    intro w'; go_simp
    with_reducible rfl
   rotate_left
   · simp only [Act.put, sA_, sZ_, sS_, i64_w, i32_w]; rfl
   refine take_ (i := 0) (N := some 24) (v := ?_) (a' := ?_) #[true,false,true,true,false,false,false,false,false,false,false,false,false] rfl rfl (take_ofW HT_.out HW_.out (by kernel_rfl)) (fun _ _ _ h => h) (Or.inl ⟨by rfl, ?_⟩) hHeld ?_ ?_; rotate_left
   ·
    rintro w' ⟨s0, s1, s2, s3, s4, s5, s6, s7, s8⟩; go_simp
    with_reducible rfl
   rotate_left
   · simp only [Act.put, sA_, sZ_, sS_, i64_w, i32_w]; rfl
   refine take_ (i := 4) (N := some 28) (v := ?_) (a' := ?_) #[true,false,true,true,true,false,false,false,false,false,false,false,false] rfl rfl (take_ofW HT_.out HW_.out (by kernel_rfl)) (fun _ _ _ h => h) (Or.inl ⟨by rfl, ?_⟩) hHeld ?_ ?_; rotate_left
   ·
    rintro w' ⟨s0, s1, s2, s3, s4, s5, s6, s7, s8⟩; go_simp
    with_reducible rfl
   rotate_left
   · simp only [Act.put, sA_, sZ_, sS_, i64_w, i32_w]; rfl
   refine join_ (σ := Nat) 2 #[true,true,true,true,true,true,true,true,true,true,true,false,false] (fun s_ => [(25, .agg #[.int .i64 t257, .int .i64 t258, .int .i64 t259, .int .i64 t260, .int .i64 t261, .int .i64 t262]), (29, .agg #[.int .i64 t263, .int .i64 t264, .bool t265]), (30, .tuple #[.agg #[.int .i64 t266, .int .i64 t267, .bool t268], .bool t269]), (11, .pointer (some ⟨s_, 0, none⟩)), (23, .tuple #[.agg #[.int .i64 t266, .int .i64 t267, .bool t268], .bool t269]), (31, .agg #[.int .i64 t266, .int .i64 t267, .bool t268]), (32, .bool t269)]) (fun s_ w' => (w'.cell? ⟨gb241, 0, none⟩ = some (.int .i64 a0_0) ∧ w'.cell? ⟨gb241, 1, none⟩ = some (.int .i64 a0_1) ∧ w'.cell? ⟨gb241, 2, none⟩ = some (.int .i64 a0_2) ∧ w'.cell? ⟨gb241, 3, none⟩ = some (.int .i64 a0_3) ∧ w'.cell? ⟨gb241, 4, none⟩ = some (.int .i64 a0_4) ∧ w'.cell? ⟨gb241, 5, none⟩ = some (.int .i64 a0_5) ∧ w'.cell? ⟨gb242, 0, none⟩ = some (.int .i64 a3_0) ∧ w'.cell? ⟨gb242, 1, none⟩ = some (.int .i64 a3_1) ∧ w'.cell? ⟨gb242, 2, none⟩ = some (.bool a3_2)) ∧ (w'.heap[gb241]? = some (.cells #[.int .i64 a0_0, .int .i64 a0_1, .int .i64 a0_2, .int .i64 a0_3, .int .i64 a0_4, .int .i64 a0_5] 23 (0, 0))) ∧ (w'.heap[gb242]? = some (.cells #[.int .i64 a3_0, .int .i64 a3_1, .bool a3_2] 25 (0, 0))) ∧ (w'.heap[gb256]? = some (.cells #[.int .i64 t252, .int .i64 t253, .bool t254] 26 (0, 0))) ∧ (w'.heap[s_]? = some (.cells #[.int .i64 0, .int .i64 0, .bool false] 26 (0, 0))) ∧ (w.heap.size ≤ s_) ∧ (w.heap.size ≤ s_) ∧ (gb241 ≠ s_) ∧ (s_ ≠ gb241) ∧ (gb242 ≠ s_) ∧ (s_ ≠ gb242) ∧ (gb256 ≠ s_) ∧ (s_ ≠ gb256) ∧ (Below w.heap.size w w')) ?_ ?_; rotate_left
   ·
    intro hCont; refine two_ (i := 1) (j := 10) (Ni := some 25) (Nj := some 11) #[true,true,true,true,true,false,false,false,false,false,false,false,false] #[true,false,true,true,true,false,false,false,false,false,true,false,false] rfl rfl rfl rfl (two_of HT_.out (by kernel_rfl)) (by decide) (by decide) (fun K hK => ?_) (fun K hK => ?_)
    ·
     refine gs_ Try.func15 #[.agg #[.int .i64 a0_0, .int .i64 a0_1, .int .i64 a0_2, .int .i64 a0_3, .int .i64 a0_4, .int .i64 a0_5]] ?_
     with_reducible refine (laws_toCurve.calls a0_0 a0_1 a0_2 a0_3 a0_4 a0_5 t257 t258 t259 t260 t261 t262 _ A8.out).mono ?_
     rintro e w56 ⟨rfl, hb⟩; refine ⟨_, rfl, ?_⟩; replace BK241 := bb_ BK241 hb; replace BK242 := bb_ BK242 hb; replace BK256 := bb_ BK256 hb; replace HB := bs_ HB hb; (try clear hb); refine hK.out _ _ ⟨bc_ BK241 0, bc_ BK241 1, bc_ BK241 2, bc_ BK241 3, bc_ BK241 4, bc_ BK241 5, bc_ BK242 0, bc_ BK242 1, bc_ BK242 2⟩ (fun hHeld => ?_); clear hK K
     apply norm_
     · show Act.put _ (some 25) _ = _; simp only [Act.put, sA_, sZ_, sS_, i64_w, i32_w]; rfl
     refine two_ (i := 5) (j := 10) (Ni := some 29) (Nj := some 11) #[true,true,true,true,true,true,false,false,false,false,false,false,false] #[true,true,true,true,true,false,false,false,false,false,true,false,false] rfl rfl rfl rfl (two_of HT_.out (by kernel_rfl)) (by decide) (by decide) (fun K hK => ?_) (fun K hK => ?_)
     ·
      refine gs_ Try.func16 #[.agg #[.int .i64 a3_0, .int .i64 a3_1, .bool a3_2]] ?_
      with_reducible refine (laws_toPoint.calls a3_0 a3_1 a3_2 t263 t264 t265 _ A9.out).mono ?_
      rintro e w57 ⟨rfl, hb⟩; refine ⟨_, rfl, ?_⟩; replace BK241 := bb_ BK241 hb; replace BK242 := bb_ BK242 hb; replace BK256 := bb_ BK256 hb; replace HB := bs_ HB hb; (try clear hb); refine hK.out _ _ ⟨bc_ BK241 0, bc_ BK241 1, bc_ BK241 2, bc_ BK241 3, bc_ BK241 4, bc_ BK241 5, bc_ BK242 0, bc_ BK242 1, bc_ BK242 2⟩ (fun hHeld => ?_); clear hK K
      apply norm_
      · show Act.put _ (some 29) _ = _; simp only [Act.put, sA_, sZ_, sS_, i64_w, i32_w]; rfl
      refine two_ (i := 6) (j := 10) (Ni := some 30) (Nj := some 11) #[true,true,true,true,true,true,true,false,false,false,false,false,false] #[true,true,true,true,true,true,false,false,false,false,true,false,false] rfl rfl rfl rfl (two_of HT_.out (by kernel_rfl)) (by decide) (by decide) (fun K hK => ?_) (fun K hK => ?_)
      ·
       refine gs_ Try.func22 #[.agg #[.int .i64 t257, .int .i64 t258, .int .i64 t259, .int .i64 t260, .int .i64 t261, .int .i64 t262], .int .i64 a1, .int .i64 a2, .agg #[.int .i64 t263, .int .i64 t264, .bool t265]] ?_
       with_reducible refine (impl_TwoMul.calls k t257 t258 t259 t260 t261 t262 a1 a2 t263 t264 t265 t266 t267 t268 t269 _ A10.out).mono ?_
       rintro e w58 ⟨rfl, hb⟩; refine ⟨_, rfl, ?_⟩; replace BK241 := bb_ BK241 hb; replace BK242 := bb_ BK242 hb; replace BK256 := bb_ BK256 hb; replace HB := bs_ HB hb; (try clear hb); refine hK.out _ _ ⟨bc_ BK241 0, bc_ BK241 1, bc_ BK241 2, bc_ BK241 3, bc_ BK241 4, bc_ BK241 5, bc_ BK242 0, bc_ BK242 1, bc_ BK242 2⟩ (fun hHeld => ?_); clear hK K
       apply norm_
       · show Act.put _ (some 30) _ = _; simp only [Act.put, sA_, sZ_, sS_, i64_w, i32_w]; rfl
       refine pure_ (i := 7) (N := some 23) (v := ?_) (a' := ?_) #[true,true,true,true,true,true,true,true,false,false,false,false,false] rfl rfl (any_of HT_.out (by kernel_rfl)) (fun _ _ _ h => h) (Or.inl ⟨by rfl, ?_⟩) ?_ ?_; rotate_left
       ·
        intro w'; go_simp
        with_reducible rfl
       rotate_left
       · simp only [Act.put, sA_, sZ_, sS_, i64_w, i32_w]; rfl
       refine pure_ (i := 8) (N := some 31) (v := ?_) (a' := ?_) #[true,true,true,true,true,true,true,true,true,false,false,false,false] rfl rfl (any_of HT_.out (by kernel_rfl)) (fun _ _ _ h => h) (Or.inl ⟨by rfl, ?_⟩) ?_ ?_; rotate_left
       ·
        intro w'; go_simp
        with_reducible rfl
       rotate_left
       · simp only [Act.put, sA_, sZ_, sS_, i64_w, i32_w]; rfl
       refine pure_ (i := 9) (N := some 32) (v := ?_) (a' := ?_) #[true,true,true,true,true,true,true,true,true,true,false,false,false] rfl rfl (any_of HT_.out (by kernel_rfl)) (fun _ _ _ h => h) (Or.inl ⟨by rfl, ?_⟩) ?_ ?_; rotate_left
       ·
        intro w'; go_simp
        with_reducible rfl
       rotate_left
       · simp only [Act.put, sA_, sZ_, sS_, i64_w, i32_w]; rfl
       refine one_ (i := 10) (N := some 11) #[true,true,true,true,true,true,true,true,true,true,true,false,false] rfl rfl (one_of HT_.out (by kernel_rfl)) (by decide) (fun K hK => ?_); refine box_step ?hg (N := 11) ?hd (cs := #[.int .i64 0, .int .i64 0, .bool false]) (t := 26) ?hr ?_; (case hd => rfl); (case hg => rfl); (case hr => first | (go_simp; done) | (go_simp; rfl))
       intro gb270 hg w59 hbox hb; have n0_ := bb_ BK241 hb; have n1_ := bb_ BK242 hb; have n2_ := bb_ BK256 hb; have n3_ := bs_ HB hb; have n4_ := Aside0.mk hbox; have n5_ := ge_ HB hg; have n6_ := ge_ HB hg; have n7_ := nl_ BK241 hg; have n8_ := nr_ BK241 hg; have n9_ := nl_ BK242 hg; have n10_ := nr_ BK242 hg; have n11_ := nl_ BK256 hg; have n12_ := nr_ BK256 hg; clear BK241 BK242 BK256 HB; have BK241 := n0_; have BK242 := n1_; have BK256 := n2_; have HB := n3_; have BK270 := n4_; have GW270 := n5_; have GE270 := n6_; have NB241_270 := n7_; have NB270_241 := n8_; have NB242_270 := n9_; have NB270_242 := n10_; have NB256_270 := n11_; have NB270_256 := n12_; clear n0_ n1_ n2_ n3_ n4_ n5_ n6_ n7_ n8_ n9_ n10_ n11_ n12_; clear hb hbox hg; refine hK.out _ _ ⟨bc_ BK241 0, bc_ BK241 1, bc_ BK241 2, bc_ BK241 3, bc_ BK241 4, bc_ BK241 5, bc_ BK242 0, bc_ BK242 1, bc_ BK242 2⟩ (fun hHeld => ?_); clear hK K
       apply norm_
       · show Act.put _ (some 11) _ = _; simp only [Act.put, sA_, sZ_, sS_, i64_w, i32_w]; rfl
       exact norm_ (by simp only [putAll, Act.put, sA_, sZ_, sS_]) (hCont (gb270) _ ⟨hHeld, (bk_ BK241), (bk_ BK242), (bk_ BK256), (bk_ BK270), GW270.out, GE270.out, NB241_270.out, NB270_241.out, NB242_270.out, NB270_242.out, NB256_270.out, NB270_256.out, (bw_ HB)⟩)
      ·
       refine box_step ?hg (N := 11) ?hd (cs := #[.int .i64 0, .int .i64 0, .bool false]) (t := 26) ?hr ?_; (case hd => rfl); (case hg => rfl); (case hr => first | (go_simp; done) | (go_simp; rfl))
       intro gb270 hg w58 hbox hb; have n0_ := bb_ BK241 hb; have n1_ := bb_ BK242 hb; have n2_ := bb_ BK256 hb; have n3_ := bs_ HB hb; have n4_ := Aside0.mk hbox; have n5_ := ge_ HB hg; have n6_ := ge_ HB hg; have n7_ := nl_ BK241 hg; have n8_ := nr_ BK241 hg; have n9_ := nl_ BK242 hg; have n10_ := nr_ BK242 hg; have n11_ := nl_ BK256 hg; have n12_ := nr_ BK256 hg; clear BK241 BK242 BK256 HB; have BK241 := n0_; have BK242 := n1_; have BK256 := n2_; have HB := n3_; have BK270 := n4_; have GW270 := n5_; have GE270 := n6_; have NB241_270 := n7_; have NB270_241 := n8_; have NB242_270 := n9_; have NB270_242 := n10_; have NB256_270 := n11_; have NB270_256 := n12_; clear n0_ n1_ n2_ n3_ n4_ n5_ n6_ n7_ n8_ n9_ n10_ n11_ n12_; clear hb hbox hg; refine hK.out _ _ ⟨bc_ BK241 0, bc_ BK241 1, bc_ BK241 2, bc_ BK241 3, bc_ BK241 4, bc_ BK241 5, bc_ BK242 0, bc_ BK242 1, bc_ BK242 2⟩ (fun hHeld => ?_); clear hK K
       apply norm_
       · show Act.put _ (some 11) _ = _; simp only [Act.put, sA_, sZ_, sS_, i64_w, i32_w]; rfl
       refine one_ (i := 6) (N := some 30) #[true,true,true,true,true,true,true,false,false,false,true,false,false] rfl rfl (one_of HT_.out (by kernel_rfl)) (by decide) (fun K hK => ?_); refine gs_ Try.func22 #[.agg #[.int .i64 t257, .int .i64 t258, .int .i64 t259, .int .i64 t260, .int .i64 t261, .int .i64 t262], .int .i64 a1, .int .i64 a2, .agg #[.int .i64 t263, .int .i64 t264, .bool t265]] ?_
       with_reducible refine (impl_TwoMul.calls k t257 t258 t259 t260 t261 t262 a1 a2 t263 t264 t265 t266 t267 t268 t269 _ A10.out).mono ?_
       rintro e w59 ⟨rfl, hb⟩; refine ⟨_, rfl, ?_⟩; replace BK241 := bb_ BK241 hb; replace BK242 := bb_ BK242 hb; replace BK256 := bb_ BK256 hb; replace BK270 := bb_ BK270 hb; replace HB := bs_ HB hb; (try clear hb); refine hK.out _ _ ⟨bc_ BK241 0, bc_ BK241 1, bc_ BK241 2, bc_ BK241 3, bc_ BK241 4, bc_ BK241 5, bc_ BK242 0, bc_ BK242 1, bc_ BK242 2⟩ (fun hHeld => ?_); clear hK K
       apply norm_
       · show Act.put _ (some 30) _ = _; simp only [Act.put, sA_, sZ_, sS_, i64_w, i32_w]; rfl
       refine pure_ (i := 7) (N := some 23) (v := ?_) (a' := ?_) #[true,true,true,true,true,true,true,true,false,false,true,false,false] rfl rfl (any_of HT_.out (by kernel_rfl)) (fun _ _ _ h => h) (Or.inl ⟨by rfl, ?_⟩) ?_ ?_; rotate_left
       ·
        intro w'; go_simp
        with_reducible rfl
       rotate_left
       · simp only [Act.put, sA_, sZ_, sS_, i64_w, i32_w]; rfl
       refine pure_ (i := 8) (N := some 31) (v := ?_) (a' := ?_) #[true,true,true,true,true,true,true,true,true,false,true,false,false] rfl rfl (any_of HT_.out (by kernel_rfl)) (fun _ _ _ h => h) (Or.inl ⟨by rfl, ?_⟩) ?_ ?_; rotate_left
       ·
        intro w'; go_simp
        with_reducible rfl
       rotate_left
       · simp only [Act.put, sA_, sZ_, sS_, i64_w, i32_w]; rfl
       refine pure_ (i := 9) (N := some 32) (v := ?_) (a' := ?_) #[true,true,true,true,true,true,true,true,true,true,true,false,false] rfl rfl (any_of HT_.out (by kernel_rfl)) (fun _ _ _ h => h) (Or.inl ⟨by rfl, ?_⟩) ?_ ?_; rotate_left
       ·
        intro w'; go_simp
        with_reducible rfl
       rotate_left
       · simp only [Act.put, sA_, sZ_, sS_, i64_w, i32_w]; rfl
       exact norm_ (by simp only [putAll, Act.put, sA_, sZ_, sS_]) (hCont (gb270) _ ⟨hHeld, (bk_ BK241), (bk_ BK242), (bk_ BK256), (bk_ BK270), GW270.out, GE270.out, NB241_270.out, NB270_241.out, NB242_270.out, NB270_242.out, NB256_270.out, NB270_256.out, (bw_ HB)⟩)
     ·
      refine box_step ?hg (N := 11) ?hd (cs := #[.int .i64 0, .int .i64 0, .bool false]) (t := 26) ?hr ?_; (case hd => rfl); (case hg => rfl); (case hr => first | (go_simp; done) | (go_simp; rfl))
      intro gb270 hg w57 hbox hb; have n0_ := bb_ BK241 hb; have n1_ := bb_ BK242 hb; have n2_ := bb_ BK256 hb; have n3_ := bs_ HB hb; have n4_ := Aside0.mk hbox; have n5_ := ge_ HB hg; have n6_ := ge_ HB hg; have n7_ := nl_ BK241 hg; have n8_ := nr_ BK241 hg; have n9_ := nl_ BK242 hg; have n10_ := nr_ BK242 hg; have n11_ := nl_ BK256 hg; have n12_ := nr_ BK256 hg; clear BK241 BK242 BK256 HB; have BK241 := n0_; have BK242 := n1_; have BK256 := n2_; have HB := n3_; have BK270 := n4_; have GW270 := n5_; have GE270 := n6_; have NB241_270 := n7_; have NB270_241 := n8_; have NB242_270 := n9_; have NB270_242 := n10_; have NB256_270 := n11_; have NB270_256 := n12_; clear n0_ n1_ n2_ n3_ n4_ n5_ n6_ n7_ n8_ n9_ n10_ n11_ n12_; clear hb hbox hg; refine hK.out _ _ ⟨bc_ BK241 0, bc_ BK241 1, bc_ BK241 2, bc_ BK241 3, bc_ BK241 4, bc_ BK241 5, bc_ BK242 0, bc_ BK242 1, bc_ BK242 2⟩ (fun hHeld => ?_); clear hK K
      apply norm_
      · show Act.put _ (some 11) _ = _; simp only [Act.put, sA_, sZ_, sS_, i64_w, i32_w]; rfl
      refine one_ (i := 5) (N := some 29) #[true,true,true,true,true,true,false,false,false,false,true,false,false] rfl rfl (one_of HT_.out (by kernel_rfl)) (by decide) (fun K hK => ?_); refine gs_ Try.func16 #[.agg #[.int .i64 a3_0, .int .i64 a3_1, .bool a3_2]] ?_
      with_reducible refine (laws_toPoint.calls a3_0 a3_1 a3_2 t263 t264 t265 _ A9.out).mono ?_
      rintro e w58 ⟨rfl, hb⟩; refine ⟨_, rfl, ?_⟩; replace BK241 := bb_ BK241 hb; replace BK242 := bb_ BK242 hb; replace BK256 := bb_ BK256 hb; replace BK270 := bb_ BK270 hb; replace HB := bs_ HB hb; (try clear hb); refine hK.out _ _ ⟨bc_ BK241 0, bc_ BK241 1, bc_ BK241 2, bc_ BK241 3, bc_ BK241 4, bc_ BK241 5, bc_ BK242 0, bc_ BK242 1, bc_ BK242 2⟩ (fun hHeld => ?_); clear hK K
      apply norm_
      · show Act.put _ (some 29) _ = _; simp only [Act.put, sA_, sZ_, sS_, i64_w, i32_w]; rfl
      refine one_ (i := 6) (N := some 30) #[true,true,true,true,true,true,true,false,false,false,true,false,false] rfl rfl (one_of HT_.out (by kernel_rfl)) (by decide) (fun K hK => ?_); refine gs_ Try.func22 #[.agg #[.int .i64 t257, .int .i64 t258, .int .i64 t259, .int .i64 t260, .int .i64 t261, .int .i64 t262], .int .i64 a1, .int .i64 a2, .agg #[.int .i64 t263, .int .i64 t264, .bool t265]] ?_
      with_reducible refine (impl_TwoMul.calls k t257 t258 t259 t260 t261 t262 a1 a2 t263 t264 t265 t266 t267 t268 t269 _ A10.out).mono ?_
      rintro e w59 ⟨rfl, hb⟩; refine ⟨_, rfl, ?_⟩; replace BK241 := bb_ BK241 hb; replace BK242 := bb_ BK242 hb; replace BK256 := bb_ BK256 hb; replace BK270 := bb_ BK270 hb; replace HB := bs_ HB hb; (try clear hb); refine hK.out _ _ ⟨bc_ BK241 0, bc_ BK241 1, bc_ BK241 2, bc_ BK241 3, bc_ BK241 4, bc_ BK241 5, bc_ BK242 0, bc_ BK242 1, bc_ BK242 2⟩ (fun hHeld => ?_); clear hK K
      apply norm_
      · show Act.put _ (some 30) _ = _; simp only [Act.put, sA_, sZ_, sS_, i64_w, i32_w]; rfl
      refine pure_ (i := 7) (N := some 23) (v := ?_) (a' := ?_) #[true,true,true,true,true,true,true,true,false,false,true,false,false] rfl rfl (any_of HT_.out (by kernel_rfl)) (fun _ _ _ h => h) (Or.inl ⟨by rfl, ?_⟩) ?_ ?_; rotate_left
      ·
       intro w'; go_simp
       with_reducible rfl
      rotate_left
      · simp only [Act.put, sA_, sZ_, sS_, i64_w, i32_w]; rfl
      refine pure_ (i := 8) (N := some 31) (v := ?_) (a' := ?_) #[true,true,true,true,true,true,true,true,true,false,true,false,false] rfl rfl (any_of HT_.out (by kernel_rfl)) (fun _ _ _ h => h) (Or.inl ⟨by rfl, ?_⟩) ?_ ?_; rotate_left
      ·
       intro w'; go_simp
       with_reducible rfl
      rotate_left
      · simp only [Act.put, sA_, sZ_, sS_, i64_w, i32_w]; rfl
      refine pure_ (i := 9) (N := some 32) (v := ?_) (a' := ?_) #[true,true,true,true,true,true,true,true,true,true,true,false,false] rfl rfl (any_of HT_.out (by kernel_rfl)) (fun _ _ _ h => h) (Or.inl ⟨by rfl, ?_⟩) ?_ ?_; rotate_left
      ·
       intro w'; go_simp
       with_reducible rfl
      rotate_left
      · simp only [Act.put, sA_, sZ_, sS_, i64_w, i32_w]; rfl
      exact norm_ (by simp only [putAll, Act.put, sA_, sZ_, sS_]) (hCont (gb270) _ ⟨hHeld, (bk_ BK241), (bk_ BK242), (bk_ BK256), (bk_ BK270), GW270.out, GE270.out, NB241_270.out, NB270_241.out, NB242_270.out, NB270_242.out, NB256_270.out, NB270_256.out, (bw_ HB)⟩)
    ·
     refine box_step ?hg (N := 11) ?hd (cs := #[.int .i64 0, .int .i64 0, .bool false]) (t := 26) ?hr ?_; (case hd => rfl); (case hg => rfl); (case hr => first | (go_simp; done) | (go_simp; rfl))
     intro gb270 hg w56 hbox hb; have n0_ := bb_ BK241 hb; have n1_ := bb_ BK242 hb; have n2_ := bb_ BK256 hb; have n3_ := bs_ HB hb; have n4_ := Aside0.mk hbox; have n5_ := ge_ HB hg; have n6_ := ge_ HB hg; have n7_ := nl_ BK241 hg; have n8_ := nr_ BK241 hg; have n9_ := nl_ BK242 hg; have n10_ := nr_ BK242 hg; have n11_ := nl_ BK256 hg; have n12_ := nr_ BK256 hg; clear BK241 BK242 BK256 HB; have BK241 := n0_; have BK242 := n1_; have BK256 := n2_; have HB := n3_; have BK270 := n4_; have GW270 := n5_; have GE270 := n6_; have NB241_270 := n7_; have NB270_241 := n8_; have NB242_270 := n9_; have NB270_242 := n10_; have NB256_270 := n11_; have NB270_256 := n12_; clear n0_ n1_ n2_ n3_ n4_ n5_ n6_ n7_ n8_ n9_ n10_ n11_ n12_; clear hb hbox hg; refine hK.out _ _ ⟨bc_ BK241 0, bc_ BK241 1, bc_ BK241 2, bc_ BK241 3, bc_ BK241 4, bc_ BK241 5, bc_ BK242 0, bc_ BK242 1, bc_ BK242 2⟩ (fun hHeld => ?_); clear hK K
     apply norm_
     · show Act.put _ (some 11) _ = _; simp only [Act.put, sA_, sZ_, sS_, i64_w, i32_w]; rfl
     refine one_ (i := 1) (N := some 25) #[true,true,true,true,true,false,false,false,false,false,true,false,false] rfl rfl (one_of HT_.out (by kernel_rfl)) (by decide) (fun K hK => ?_); refine gs_ Try.func15 #[.agg #[.int .i64 a0_0, .int .i64 a0_1, .int .i64 a0_2, .int .i64 a0_3, .int .i64 a0_4, .int .i64 a0_5]] ?_
     with_reducible refine (laws_toCurve.calls a0_0 a0_1 a0_2 a0_3 a0_4 a0_5 t257 t258 t259 t260 t261 t262 _ A8.out).mono ?_
     rintro e w57 ⟨rfl, hb⟩; refine ⟨_, rfl, ?_⟩; replace BK241 := bb_ BK241 hb; replace BK242 := bb_ BK242 hb; replace BK256 := bb_ BK256 hb; replace BK270 := bb_ BK270 hb; replace HB := bs_ HB hb; (try clear hb); refine hK.out _ _ ⟨bc_ BK241 0, bc_ BK241 1, bc_ BK241 2, bc_ BK241 3, bc_ BK241 4, bc_ BK241 5, bc_ BK242 0, bc_ BK242 1, bc_ BK242 2⟩ (fun hHeld => ?_); clear hK K
     apply norm_
     · show Act.put _ (some 25) _ = _; simp only [Act.put, sA_, sZ_, sS_, i64_w, i32_w]; rfl
     refine one_ (i := 5) (N := some 29) #[true,true,true,true,true,true,false,false,false,false,true,false,false] rfl rfl (one_of HT_.out (by kernel_rfl)) (by decide) (fun K hK => ?_); refine gs_ Try.func16 #[.agg #[.int .i64 a3_0, .int .i64 a3_1, .bool a3_2]] ?_
     with_reducible refine (laws_toPoint.calls a3_0 a3_1 a3_2 t263 t264 t265 _ A9.out).mono ?_
     rintro e w58 ⟨rfl, hb⟩; refine ⟨_, rfl, ?_⟩; replace BK241 := bb_ BK241 hb; replace BK242 := bb_ BK242 hb; replace BK256 := bb_ BK256 hb; replace BK270 := bb_ BK270 hb; replace HB := bs_ HB hb; (try clear hb); refine hK.out _ _ ⟨bc_ BK241 0, bc_ BK241 1, bc_ BK241 2, bc_ BK241 3, bc_ BK241 4, bc_ BK241 5, bc_ BK242 0, bc_ BK242 1, bc_ BK242 2⟩ (fun hHeld => ?_); clear hK K
     apply norm_
     · show Act.put _ (some 29) _ = _; simp only [Act.put, sA_, sZ_, sS_, i64_w, i32_w]; rfl
     refine one_ (i := 6) (N := some 30) #[true,true,true,true,true,true,true,false,false,false,true,false,false] rfl rfl (one_of HT_.out (by kernel_rfl)) (by decide) (fun K hK => ?_); refine gs_ Try.func22 #[.agg #[.int .i64 t257, .int .i64 t258, .int .i64 t259, .int .i64 t260, .int .i64 t261, .int .i64 t262], .int .i64 a1, .int .i64 a2, .agg #[.int .i64 t263, .int .i64 t264, .bool t265]] ?_
     with_reducible refine (impl_TwoMul.calls k t257 t258 t259 t260 t261 t262 a1 a2 t263 t264 t265 t266 t267 t268 t269 _ A10.out).mono ?_
     rintro e w59 ⟨rfl, hb⟩; refine ⟨_, rfl, ?_⟩; replace BK241 := bb_ BK241 hb; replace BK242 := bb_ BK242 hb; replace BK256 := bb_ BK256 hb; replace BK270 := bb_ BK270 hb; replace HB := bs_ HB hb; (try clear hb); refine hK.out _ _ ⟨bc_ BK241 0, bc_ BK241 1, bc_ BK241 2, bc_ BK241 3, bc_ BK241 4, bc_ BK241 5, bc_ BK242 0, bc_ BK242 1, bc_ BK242 2⟩ (fun hHeld => ?_); clear hK K
     apply norm_
     · show Act.put _ (some 30) _ = _; simp only [Act.put, sA_, sZ_, sS_, i64_w, i32_w]; rfl
     refine pure_ (i := 7) (N := some 23) (v := ?_) (a' := ?_) #[true,true,true,true,true,true,true,true,false,false,true,false,false] rfl rfl (any_of HT_.out (by kernel_rfl)) (fun _ _ _ h => h) (Or.inl ⟨by rfl, ?_⟩) ?_ ?_; rotate_left
     ·
      intro w'; go_simp
      with_reducible rfl
     rotate_left
     · simp only [Act.put, sA_, sZ_, sS_, i64_w, i32_w]; rfl
     refine pure_ (i := 8) (N := some 31) (v := ?_) (a' := ?_) #[true,true,true,true,true,true,true,true,true,false,true,false,false] rfl rfl (any_of HT_.out (by kernel_rfl)) (fun _ _ _ h => h) (Or.inl ⟨by rfl, ?_⟩) ?_ ?_; rotate_left
     ·
      intro w'; go_simp
      with_reducible rfl
     rotate_left
     · simp only [Act.put, sA_, sZ_, sS_, i64_w, i32_w]; rfl
     refine pure_ (i := 9) (N := some 32) (v := ?_) (a' := ?_) #[true,true,true,true,true,true,true,true,true,true,true,false,false] rfl rfl (any_of HT_.out (by kernel_rfl)) (fun _ _ _ h => h) (Or.inl ⟨by rfl, ?_⟩) ?_ ?_; rotate_left
     ·
      intro w'; go_simp
      with_reducible rfl
     rotate_left
     · simp only [Act.put, sA_, sZ_, sS_, i64_w, i32_w]; rfl
     exact norm_ (by simp only [putAll, Act.put, sA_, sZ_, sS_]) (hCont (gb270) _ ⟨hHeld, (bk_ BK241), (bk_ BK242), (bk_ BK256), (bk_ BK270), GW270.out, GE270.out, NB241_270.out, NB270_241.out, NB242_270.out, NB270_242.out, NB256_270.out, NB270_256.out, (bw_ HB)⟩)
   rintro gb270 w60 ⟨hS_, h0_, h1_, h2_, h3_, h4_, h5_, h6_, h7_, h8_, h9_, h10_, h11_, h12_⟩; replace BK241 := Aside0.mk h0_; replace BK242 := Aside0.mk h1_; replace BK256 := Aside0.mk h2_; have BK270 := Aside0.mk h3_; have GW270 := Aside0.mk h4_; have GE270 := Aside0.mk h5_; have NB241_270 := Aside0.mk h6_; have NB270_241 := Aside0.mk h7_; have NB242_270 := Aside0.mk h8_; have NB270_242 := Aside0.mk h9_; have NB256_270 := Aside0.mk h10_; have NB270_256 := Aside0.mk h11_; replace HB := Aside0.mk h12_; clear h0_ h1_ h2_ h3_ h4_ h5_ h6_ h7_ h8_ h9_ h10_ h11_ h12_; have hHeld := hS_
   apply norm_
   · simp only [putAll, Act.put, sA_, sZ_, sS_]; rfl
   refine one_ (i := 11) (N := none) #[true,true,true,true,true,true,true,true,true,true,true,true,false] rfl rfl (one_of HT_.out (by kernel_rfl)) (by decide) (fun K hK => ?_)
   have hs61 : w60.cell? ⟨gb270, 0, none⟩ = some (.int .i64 0) := bc_ BK270 0
   have hfs61 := blk_frozen BK270.out 0; have hns61_0 := NB241_270.out; have hns61_1 := NB242_270.out; have hns61_2 := NB256_270.out; have hms61_0 := NB270_241.out; have hms61_1 := NB270_242.out; have hms61_2 := NB270_256.out
   have hs62 : w60.cell? ⟨gb270, 1, none⟩ = some (.int .i64 0) := bc_ BK270 1
   have hfs62 := blk_frozen BK270.out 1; have hns62_0 := NB241_270.out; have hns62_1 := NB242_270.out; have hns62_2 := NB256_270.out; have hms62_0 := NB270_241.out; have hms62_1 := NB270_242.out; have hms62_2 := NB270_256.out
   have hs63 : w60.cell? ⟨gb270, 2, none⟩ = some (.bool false) := bc_ BK270 2
   have hfs63 := blk_frozen BK270.out 2; have hns63_0 := NB241_270.out; have hns63_1 := NB242_270.out; have hns63_2 := NB256_270.out; have hms63_0 := NB270_241.out; have hms63_1 := NB270_242.out; have hms63_2 := NB270_256.out; refine skip_ (w1 := ?_) (by rfl) rfl ?_ ?_; rotate_left
   · go_simp; rfl
   refine hK.out _ _ ⟨((cell_far (p := ⟨gb270, _, none⟩) NB241_270.out _).trans (((cell_far (p := ⟨gb270, _, none⟩) NB241_270.out _).trans (((cell_far (p := ⟨gb270, _, none⟩) NB241_270.out _).trans (hHeld.1)))))), ((cell_far (p := ⟨gb270, _, none⟩) NB241_270.out _).trans (((cell_far (p := ⟨gb270, _, none⟩) NB241_270.out _).trans (((cell_far (p := ⟨gb270, _, none⟩) NB241_270.out _).trans (hHeld.2.1)))))), ((cell_far (p := ⟨gb270, _, none⟩) NB241_270.out _).trans (((cell_far (p := ⟨gb270, _, none⟩) NB241_270.out _).trans (((cell_far (p := ⟨gb270, _, none⟩) NB241_270.out _).trans (hHeld.2.2.1)))))), ((cell_far (p := ⟨gb270, _, none⟩) NB241_270.out _).trans (((cell_far (p := ⟨gb270, _, none⟩) NB241_270.out _).trans (((cell_far (p := ⟨gb270, _, none⟩) NB241_270.out _).trans (hHeld.2.2.2.1)))))), ((cell_far (p := ⟨gb270, _, none⟩) NB241_270.out _).trans (((cell_far (p := ⟨gb270, _, none⟩) NB241_270.out _).trans (((cell_far (p := ⟨gb270, _, none⟩) NB241_270.out _).trans (hHeld.2.2.2.2.1)))))), ((cell_far (p := ⟨gb270, _, none⟩) NB241_270.out _).trans (((cell_far (p := ⟨gb270, _, none⟩) NB241_270.out _).trans (((cell_far (p := ⟨gb270, _, none⟩) NB241_270.out _).trans (hHeld.2.2.2.2.2.1)))))), ((cell_far (p := ⟨gb270, _, none⟩) NB242_270.out _).trans (((cell_far (p := ⟨gb270, _, none⟩) NB242_270.out _).trans (((cell_far (p := ⟨gb270, _, none⟩) NB242_270.out _).trans (hHeld.2.2.2.2.2.2.1)))))), ((cell_far (p := ⟨gb270, _, none⟩) NB242_270.out _).trans (((cell_far (p := ⟨gb270, _, none⟩) NB242_270.out _).trans (((cell_far (p := ⟨gb270, _, none⟩) NB242_270.out _).trans (hHeld.2.2.2.2.2.2.2.1)))))), ((cell_far (p := ⟨gb270, _, none⟩) NB242_270.out _).trans (((cell_far (p := ⟨gb270, _, none⟩) NB242_270.out _).trans (((cell_far (p := ⟨gb270, _, none⟩) NB242_270.out _).trans (hHeld.2.2.2.2.2.2.2.2))))))⟩ (fun hHeld => ?_); clear hK K; refine pure_ (i := 12) (N := some 12) (v := ?_) (a' := ?_) #[true,true,true,true,true,true,true,true,true,true,true,true,true] rfl rfl (any_of HT_.out (by kernel_rfl)) (fun _ _ _ h => h) (Or.inl ⟨by rfl, ?_⟩) ?_ ?_; rotate_left
   ·
    intro w'; go_simp
    with_reducible rfl
   rotate_left
   · simp only [Act.put, sA_, sZ_, sS_, i64_w, i32_w]; rfl
   refine done_ (done_of HT_.out (by kernel_rfl)) ?_; have hnb64 := NB270_241.out; have hnc64 := NB241_270.out; have hnb65 := NB270_242.out; have hnc65 := NB242_270.out; have hnb66 := NB270_256.out; have hnc66 := NB256_270.out
   have hcz67_0 : w60.cell? ⟨gb270, 0, none⟩ = some (.int .i64 0) := bc_ BK270 0
   have hcz67_1 : w60.cell? ⟨gb270, 1, none⟩ = some (.int .i64 0) := bc_ BK270 1
   have hcz67_2 : w60.cell? ⟨gb270, 2, none⟩ = some (.bool false) := bc_ BK270 2
   have hfz67_0 := blk_frozen BK270.out 0; have hfz67_1 := blk_frozen BK270.out 1; have hfz67_2 := blk_frozen BK270.out 2; have hnb68 := NB256_241.out; have hnc68 := NB241_256.out; have hnb69 := NB256_242.out; have hnc69 := NB242_256.out
   have hcz70_0 : w60.cell? ⟨gb256, 0, none⟩ = some (.int .i64 t252) := bc_ BK256 0
   have hcz70_1 : w60.cell? ⟨gb256, 1, none⟩ = some (.int .i64 t253) := bc_ BK256 1
   have hcz70_2 : w60.cell? ⟨gb256, 2, none⟩ = some (.bool t254) := bc_ BK256 2
   have hfz70_0 := blk_frozen BK256.out 0; have hfz70_1 := blk_frozen BK256.out 1; have hfz70_2 := blk_frozen BK256.out 2
   try go_wp2_with (first | ((with_reducible refine gate_callee (f := 18) rfl ?_); refine goesL_ (some 35) rfl rfl Try.func18 (by kernel_rfl) rfl #[.agg #[.int .i64 t266, .int .i64 t267, .bool t268], .agg #[.int .i64 t252, .int .i64 t253, .bool t254]] rfl (by (try simp only [List.map_toArray, List.map_cons, List.map_nil]); first | done | rfl | (simp only [List.length_drop, List.length_take]; rfl)) ?_; (with_reducible refine (laws_eqPoint.calls t266 t267 t268 t252 t253 t254 true _ A11.out).mono ?_); rintro e w71 ⟨rfl, hb⟩; refine ⟨_, rfl, ?_⟩; have n0_ := Aside0.mk (blk_below (g := gb241) (o := .cells #[.int .i64 a0_0, .int .i64 a0_1, .int .i64 a0_2, .int .i64 a0_3, .int .i64 a0_4, .int .i64 a0_5] 23 (0, 0)) (by (with_reducible repeat (first | refine blk_drewN ?_ _ | refine blk_drew ?_ | refine blk_alloc ?_ _)); refine blk_far ?_ NB241_270.out _; (with_reducible repeat (first | refine blk_drewN ?_ _ | refine blk_drew ?_ | refine blk_alloc ?_ _)); refine blk_far ?_ NB241_270.out _; (with_reducible repeat (first | refine blk_drewN ?_ _ | refine blk_drew ?_ | refine blk_alloc ?_ _)); refine blk_far ?_ NB241_270.out _; (with_reducible repeat (first | refine blk_drewN ?_ _ | refine blk_drew ?_ | refine blk_alloc ?_ _)); exact BK241.out) hb); have n1_ := Aside0.mk (blk_below (g := gb242) (o := .cells #[.int .i64 a3_0, .int .i64 a3_1, .bool a3_2] 25 (0, 0)) (by (with_reducible repeat (first | refine blk_drewN ?_ _ | refine blk_drew ?_ | refine blk_alloc ?_ _)); refine blk_far ?_ NB242_270.out _; (with_reducible repeat (first | refine blk_drewN ?_ _ | refine blk_drew ?_ | refine blk_alloc ?_ _)); refine blk_far ?_ NB242_270.out _; (with_reducible repeat (first | refine blk_drewN ?_ _ | refine blk_drew ?_ | refine blk_alloc ?_ _)); refine blk_far ?_ NB242_270.out _; (with_reducible repeat (first | refine blk_drewN ?_ _ | refine blk_drew ?_ | refine blk_alloc ?_ _)); exact BK242.out) hb); have n2_ := Aside0.mk (blk_below (g := gb256) (o := .cells #[.int .i64 t252, .int .i64 t253, .bool t254] 26 (0, 0)) (by (with_reducible repeat (first | refine blk_drewN ?_ _ | refine blk_drew ?_ | refine blk_alloc ?_ _)); refine blk_far ?_ NB256_270.out _; (with_reducible repeat (first | refine blk_drewN ?_ _ | refine blk_drew ?_ | refine blk_alloc ?_ _)); refine blk_far ?_ NB256_270.out _; (with_reducible repeat (first | refine blk_drewN ?_ _ | refine blk_drew ?_ | refine blk_alloc ?_ _)); refine blk_far ?_ NB256_270.out _; (with_reducible repeat (first | refine blk_drewN ?_ _ | refine blk_drew ?_ | refine blk_alloc ?_ _)); exact BK256.out) hb); have n3_ := Aside0.mk (blk_below (g := gb270) (o := .cells #[.int .i64 t266, .int .i64 t267, .bool t268] 26 (0, 0)) (by (with_reducible repeat (first | refine blk_drewN ?_ _ | refine blk_drew ?_ | refine blk_alloc ?_ _)); refine blk_put (cs := #[.int .i64 t266, .int .i64 t267, .bool false]) ?_ 2 _ rfl; (with_reducible repeat (first | refine blk_drewN ?_ _ | refine blk_drew ?_ | refine blk_alloc ?_ _)); refine blk_put (cs := #[.int .i64 t266, .int .i64 0, .bool false]) ?_ 1 _ rfl; (with_reducible repeat (first | refine blk_drewN ?_ _ | refine blk_drew ?_ | refine blk_alloc ?_ _)); refine blk_put (cs := #[.int .i64 0, .int .i64 0, .bool false]) ?_ 0 _ rfl; (with_reducible repeat (first | refine blk_drewN ?_ _ | refine blk_drew ?_ | refine blk_alloc ?_ _)); exact BK270.out) hb); have n4_ := bs_ HB hb; clear BK241; clear BK242; clear BK256; clear BK270; clear HB; have BK241 := n0_; have BK242 := n1_; have BK256 := n2_; have BK270 := n3_; have HB := n4_; clear n0_ n1_ n2_ n3_ n4_; (try clear hb); (try clear hb2); (try clear hk); (try clear hi)))
   go_ret
   exact ⟨by first | rfl | (simp [errW_none, errW_some] <;> rfl) | (simp [*, errW_none, errW_some] <;> rfl), by repeat (first | (with_reducible first | exact HB.out | apply below_alloc | apply pw_below_drewN | apply below_drew1 | refine below_set ?_ GE241.out | refine below_set ?_ GE242.out | refine below_set ?_ GE256.out | refine below_set ?_ GE270.out) | exact HB.out)⟩
 ·
  replace c12 := Bool.eq_false_iff.mpr c12; subst c12
  have H1 : (some false) = some r := by rw [if_neg (show ¬ (false = true) by decide)] at H; exact H
  clear H; have H := H1; clear H1; obtain rfl := Option.some.inj H
  go_enter Try.func5, Try.ntmps5
  try go_wp2_with (first | ((with_reducible refine gate_dst (N := 4) rfl ?_); refine box_event ?hg (N := 4) ?hd (cs := #[.int .i64 a0_0, .int .i64 a0_1, .int .i64 a0_2, .int .i64 a0_3, .int .i64 a0_4, .int .i64 a0_5]) (t := 23) ?hr ?_; (case hd => rfl); (case hg => rfl); (case hr => first | (go_simp; done) | (go_simp; rfl)); intro gb241 hg w72 hbox hb; have n0_ := bs_ HB hb; have n1_ := Aside0.mk hbox; have n2_ := ge_ HB hg; have n3_ := ge_ HB hg; clear HB; have HB := n0_; have BK241 := n1_; have GW241 := n2_; have GE241 := n3_; clear n0_ n1_ n2_ n3_; clear hb hbox hg) | ((with_reducible refine gate_dst (N := 7) rfl ?_); refine box_event ?hg (N := 7) ?hd (cs := #[.int .i64 a3_0, .int .i64 a3_1, .bool a3_2]) (t := 25) ?hr ?_; (case hd => rfl); (case hg => rfl); (case hr => first | (go_simp; done) | (go_simp; rfl)); intro gb242 hg w73 hbox hb; have n0_ := bb_ BK241 hb; have n1_ := bs_ HB hb; have n2_ := Aside0.mk hbox; have n3_ := ge_ HB hg; have n4_ := ge_ HB hg; have n5_ := nl_ BK241 hg; have n6_ := nr_ BK241 hg; clear BK241; clear HB; have BK241 := n0_; have HB := n1_; have BK242 := n2_; have GW242 := n3_; have GE242 := n4_; have NB241_242 := n5_; have NB242_241 := n6_; clear n0_ n1_ n2_ n3_ n4_ n5_ n6_; clear hb hbox hg))
  replace BK241 := Aside0.mk (blk_drew BK241.out); replace BK242 := Aside0.mk (blk_drew BK242.out); replace HB := Aside0.mk (below_drew1 HB.out); refine start_ (n := 13) (S := fun w' => w'.cell? ⟨gb241, 0, none⟩ = some (.int .i64 a0_0) ∧ w'.cell? ⟨gb241, 1, none⟩ = some (.int .i64 a0_1) ∧ w'.cell? ⟨gb241, 2, none⟩ = some (.int .i64 a0_2) ∧ w'.cell? ⟨gb241, 3, none⟩ = some (.int .i64 a0_3) ∧ w'.cell? ⟨gb241, 4, none⟩ = some (.int .i64 a0_4) ∧ w'.cell? ⟨gb241, 5, none⟩ = some (.int .i64 a0_5) ∧ w'.cell? ⟨gb242, 0, none⟩ = some (.int .i64 a3_0) ∧ w'.cell? ⟨gb242, 1, none⟩ = some (.int .i64 a3_1) ∧ w'.cell? ⟨gb242, 2, none⟩ = some (.bool a3_2)) (ds := []) #[false,false,false,false,false,false,false,false,false,false,false,false,false] (by kernel_rfl) rfl rfl ⟨bc_ BK241 0, bc_ BK241 1, bc_ BK241 2, bc_ BK241 3, bc_ BK241 4, bc_ BK241 5, bc_ BK242 0, bc_ BK242 1, bc_ BK242 2⟩ (fun hHeld => ?_); refine with_tabW laws_FnExactTwoMul.tab1 laws_FnExactTwoMul.bits1 (fun HT_ HW_ => ?_)
  generalize w73.drew = w74 at BK241 BK242 HB hHeld ⊢
  refine pure_ (i := 2) (N := some 16) (v := ?_) (a' := ?_) #[false,false,true,false,false,false,false,false,false,false,false,false,false] rfl rfl (any_of HT_.out (by kernel_rfl)) (fun _ _ _ h => h) (Or.inl ⟨by rfl, ?_⟩) ?_ ?_; rotate_left
  ·
   intro w'; go_simp
   with_reducible rfl
  rotate_left
  · simp only [Act.put, sA_, sZ_, sS_, i64_w, i32_w]; rfl
  refine pure_ (i := 3) (N := some 17) (v := ?_) (a' := ?_) #[false,false,true,true,false,false,false,false,false,false,false,false,false] rfl rfl (any_of HT_.out (by kernel_rfl)) (fun _ _ _ h => h) (Or.inl ⟨by rfl, ?_⟩) ?_ ?_; rotate_left
  ·
   intro w'; go_simp
   with_reducible rfl
  rotate_left
  · simp only [Act.put, sA_, sZ_, sS_, i64_w, i32_w]; rfl
  refine take_ (i := 0) (N := some 14) (v := ?_) (a' := ?_) #[true,false,true,true,false,false,false,false,false,false,false,false,false] rfl rfl (take_ofW HT_.out HW_.out (by kernel_rfl)) (fun _ _ _ h => h) (Or.inl ⟨by rfl, ?_⟩) hHeld ?_ ?_; rotate_left
  ·
   rintro w' ⟨s0, s1, s2, s3, s4, s5, s6, s7, s8⟩; go_simp
   with_reducible rfl
  rotate_left
  · simp only [Act.put, sA_, sZ_, sS_, i64_w, i32_w]; rfl
  refine take_ (i := 4) (N := some 18) (v := ?_) (a' := ?_) #[true,false,true,true,true,false,false,false,false,false,false,false,false] rfl rfl (take_ofW HT_.out HW_.out (by kernel_rfl)) (fun _ _ _ h => h) (Or.inl ⟨by rfl, ?_⟩) hHeld ?_ ?_; rotate_left
  ·
   rintro w' ⟨s0, s1, s2, s3, s4, s5, s6, s7, s8⟩; go_simp
   with_reducible rfl
  rotate_left
  · simp only [Act.put, sA_, sZ_, sS_, i64_w, i32_w]; rfl
  refine join_ (σ := Nat) 2 #[true,true,true,true,true,true,true,true,true,true,true,false,false] (fun s_ => [(15, .agg #[.int .i64 t243, .int .i64 t244, .int .i64 t245, .int .i64 t246, .int .i64 t247, .int .i64 t248]), (19, .agg #[.int .i64 t249, .int .i64 t250, .bool t251]), (20, .tuple #[.agg #[.int .i64 t252, .int .i64 t253, .bool t254], .bool t255]), (9, .pointer (some ⟨s_, 0, none⟩)), (13, .tuple #[.agg #[.int .i64 t252, .int .i64 t253, .bool t254], .bool t255]), (21, .agg #[.int .i64 t252, .int .i64 t253, .bool t254]), (22, .bool t255)]) (fun s_ w' => (w'.cell? ⟨gb241, 0, none⟩ = some (.int .i64 a0_0) ∧ w'.cell? ⟨gb241, 1, none⟩ = some (.int .i64 a0_1) ∧ w'.cell? ⟨gb241, 2, none⟩ = some (.int .i64 a0_2) ∧ w'.cell? ⟨gb241, 3, none⟩ = some (.int .i64 a0_3) ∧ w'.cell? ⟨gb241, 4, none⟩ = some (.int .i64 a0_4) ∧ w'.cell? ⟨gb241, 5, none⟩ = some (.int .i64 a0_5) ∧ w'.cell? ⟨gb242, 0, none⟩ = some (.int .i64 a3_0) ∧ w'.cell? ⟨gb242, 1, none⟩ = some (.int .i64 a3_1) ∧ w'.cell? ⟨gb242, 2, none⟩ = some (.bool a3_2)) ∧ (w'.heap[gb241]? = some (.cells #[.int .i64 a0_0, .int .i64 a0_1, .int .i64 a0_2, .int .i64 a0_3, .int .i64 a0_4, .int .i64 a0_5] 23 (0, 0))) ∧ (w'.heap[gb242]? = some (.cells #[.int .i64 a3_0, .int .i64 a3_1, .bool a3_2] 25 (0, 0))) ∧ (w'.heap[s_]? = some (.cells #[.int .i64 0, .int .i64 0, .bool false] 26 (0, 0))) ∧ (w.heap.size ≤ s_) ∧ (w.heap.size ≤ s_) ∧ (gb241 ≠ s_) ∧ (s_ ≠ gb241) ∧ (gb242 ≠ s_) ∧ (s_ ≠ gb242) ∧ (Below w.heap.size w w')) ?_ ?_; rotate_left
  ·
   intro hCont; refine two_ (i := 1) (j := 10) (Ni := some 15) (Nj := some 9) #[true,true,true,true,true,false,false,false,false,false,false,false,false] #[true,false,true,true,true,false,false,false,false,false,true,false,false] rfl rfl rfl rfl (two_of HT_.out (by kernel_rfl)) (by decide) (by decide) (fun K hK => ?_) (fun K hK => ?_)
   ·
    refine gs_ Try.func15 #[.agg #[.int .i64 a0_0, .int .i64 a0_1, .int .i64 a0_2, .int .i64 a0_3, .int .i64 a0_4, .int .i64 a0_5]] ?_
    with_reducible refine (laws_toCurve.calls a0_0 a0_1 a0_2 a0_3 a0_4 a0_5 t243 t244 t245 t246 t247 t248 _ A5.out).mono ?_
    rintro e w75 ⟨rfl, hb⟩; refine ⟨_, rfl, ?_⟩; replace BK241 := bb_ BK241 hb; replace BK242 := bb_ BK242 hb; replace HB := bs_ HB hb; (try clear hb); refine hK.out _ _ ⟨bc_ BK241 0, bc_ BK241 1, bc_ BK241 2, bc_ BK241 3, bc_ BK241 4, bc_ BK241 5, bc_ BK242 0, bc_ BK242 1, bc_ BK242 2⟩ (fun hHeld => ?_); clear hK K
    apply norm_
    · show Act.put _ (some 15) _ = _; simp only [Act.put, sA_, sZ_, sS_, i64_w, i32_w]; rfl
    refine two_ (i := 5) (j := 10) (Ni := some 19) (Nj := some 9) #[true,true,true,true,true,true,false,false,false,false,false,false,false] #[true,true,true,true,true,false,false,false,false,false,true,false,false] rfl rfl rfl rfl (two_of HT_.out (by kernel_rfl)) (by decide) (by decide) (fun K hK => ?_) (fun K hK => ?_)
    ·
     refine gs_ Try.func16 #[.agg #[.int .i64 a3_0, .int .i64 a3_1, .bool a3_2]] ?_
     with_reducible refine (laws_toPoint.calls a3_0 a3_1 a3_2 t249 t250 t251 _ A6.out).mono ?_
     rintro e w76 ⟨rfl, hb⟩; refine ⟨_, rfl, ?_⟩; replace BK241 := bb_ BK241 hb; replace BK242 := bb_ BK242 hb; replace HB := bs_ HB hb; (try clear hb); refine hK.out _ _ ⟨bc_ BK241 0, bc_ BK241 1, bc_ BK241 2, bc_ BK241 3, bc_ BK241 4, bc_ BK241 5, bc_ BK242 0, bc_ BK242 1, bc_ BK242 2⟩ (fun hHeld => ?_); clear hK K
     apply norm_
     · show Act.put _ (some 19) _ = _; simp only [Act.put, sA_, sZ_, sS_, i64_w, i32_w]; rfl
     refine two_ (i := 6) (j := 10) (Ni := some 20) (Nj := some 9) #[true,true,true,true,true,true,true,false,false,false,false,false,false] #[true,true,true,true,true,true,false,false,false,false,true,false,false] rfl rfl rfl rfl (two_of HT_.out (by kernel_rfl)) (by decide) (by decide) (fun K hK => ?_) (fun K hK => ?_)
     ·
      refine gs_ Try.func21 #[.agg #[.int .i64 t243, .int .i64 t244, .int .i64 t245, .int .i64 t246, .int .i64 t247, .int .i64 t248], .int .i64 a1, .int .i64 a2, .agg #[.int .i64 t249, .int .i64 t250, .bool t251]] ?_
      with_reducible refine (spec_TwoMul.calls k t243 t244 t245 t246 t247 t248 a1 a2 t249 t250 t251 t252 t253 t254 t255 _ A7.out).mono ?_
      rintro e w77 ⟨rfl, hb⟩; refine ⟨_, rfl, ?_⟩; replace BK241 := bb_ BK241 hb; replace BK242 := bb_ BK242 hb; replace HB := bs_ HB hb; (try clear hb); refine hK.out _ _ ⟨bc_ BK241 0, bc_ BK241 1, bc_ BK241 2, bc_ BK241 3, bc_ BK241 4, bc_ BK241 5, bc_ BK242 0, bc_ BK242 1, bc_ BK242 2⟩ (fun hHeld => ?_); clear hK K
      apply norm_
      · show Act.put _ (some 20) _ = _; simp only [Act.put, sA_, sZ_, sS_, i64_w, i32_w]; rfl
      refine pure_ (i := 7) (N := some 13) (v := ?_) (a' := ?_) #[true,true,true,true,true,true,true,true,false,false,false,false,false] rfl rfl (any_of HT_.out (by kernel_rfl)) (fun _ _ _ h => h) (Or.inl ⟨by rfl, ?_⟩) ?_ ?_; rotate_left
      ·
       intro w'; go_simp
       with_reducible rfl
      rotate_left
      · simp only [Act.put, sA_, sZ_, sS_, i64_w, i32_w]; rfl
      refine pure_ (i := 8) (N := some 21) (v := ?_) (a' := ?_) #[true,true,true,true,true,true,true,true,true,false,false,false,false] rfl rfl (any_of HT_.out (by kernel_rfl)) (fun _ _ _ h => h) (Or.inl ⟨by rfl, ?_⟩) ?_ ?_; rotate_left
      ·
       intro w'; go_simp
       with_reducible rfl
      rotate_left
      · simp only [Act.put, sA_, sZ_, sS_, i64_w, i32_w]; rfl
      refine pure_ (i := 9) (N := some 22) (v := ?_) (a' := ?_) #[true,true,true,true,true,true,true,true,true,true,false,false,false] rfl rfl (any_of HT_.out (by kernel_rfl)) (fun _ _ _ h => h) (Or.inl ⟨by rfl, ?_⟩) ?_ ?_; rotate_left
      ·
       intro w'; go_simp
       with_reducible rfl
      rotate_left
      · simp only [Act.put, sA_, sZ_, sS_, i64_w, i32_w]; rfl
      refine one_ (i := 10) (N := some 9) #[true,true,true,true,true,true,true,true,true,true,true,false,false] rfl rfl (one_of HT_.out (by kernel_rfl)) (by decide) (fun K hK => ?_); refine box_step ?hg (N := 9) ?hd (cs := #[.int .i64 0, .int .i64 0, .bool false]) (t := 26) ?hr ?_; (case hd => rfl); (case hg => rfl); (case hr => first | (go_simp; done) | (go_simp; rfl))
      intro gb256 hg w78 hbox hb; have n0_ := bb_ BK241 hb; have n1_ := bb_ BK242 hb; have n2_ := bs_ HB hb; have n3_ := Aside0.mk hbox; have n4_ := ge_ HB hg; have n5_ := ge_ HB hg; have n6_ := nl_ BK241 hg; have n7_ := nr_ BK241 hg; have n8_ := nl_ BK242 hg; have n9_ := nr_ BK242 hg; clear BK241 BK242 HB; have BK241 := n0_; have BK242 := n1_; have HB := n2_; have BK256 := n3_; have GW256 := n4_; have GE256 := n5_; have NB241_256 := n6_; have NB256_241 := n7_; have NB242_256 := n8_; have NB256_242 := n9_; clear n0_ n1_ n2_ n3_ n4_ n5_ n6_ n7_ n8_ n9_; clear hb hbox hg; refine hK.out _ _ ⟨bc_ BK241 0, bc_ BK241 1, bc_ BK241 2, bc_ BK241 3, bc_ BK241 4, bc_ BK241 5, bc_ BK242 0, bc_ BK242 1, bc_ BK242 2⟩ (fun hHeld => ?_); clear hK K
      apply norm_
      · show Act.put _ (some 9) _ = _; simp only [Act.put, sA_, sZ_, sS_, i64_w, i32_w]; rfl
      exact norm_ (by simp only [putAll, Act.put, sA_, sZ_, sS_]) (hCont (gb256) _ ⟨hHeld, (bk_ BK241), (bk_ BK242), (bk_ BK256), GW256.out, GE256.out, NB241_256.out, NB256_241.out, NB242_256.out, NB256_242.out, (bw_ HB)⟩)
     ·
      refine box_step ?hg (N := 9) ?hd (cs := #[.int .i64 0, .int .i64 0, .bool false]) (t := 26) ?hr ?_; (case hd => rfl); (case hg => rfl); (case hr => first | (go_simp; done) | (go_simp; rfl))
      intro gb256 hg w77 hbox hb; have n0_ := bb_ BK241 hb; have n1_ := bb_ BK242 hb; have n2_ := bs_ HB hb; have n3_ := Aside0.mk hbox; have n4_ := ge_ HB hg; have n5_ := ge_ HB hg; have n6_ := nl_ BK241 hg; have n7_ := nr_ BK241 hg; have n8_ := nl_ BK242 hg; have n9_ := nr_ BK242 hg; clear BK241 BK242 HB; have BK241 := n0_; have BK242 := n1_; have HB := n2_; have BK256 := n3_; have GW256 := n4_; have GE256 := n5_; have NB241_256 := n6_; have NB256_241 := n7_; have NB242_256 := n8_; have NB256_242 := n9_; clear n0_ n1_ n2_ n3_ n4_ n5_ n6_ n7_ n8_ n9_; clear hb hbox hg; refine hK.out _ _ ⟨bc_ BK241 0, bc_ BK241 1, bc_ BK241 2, bc_ BK241 3, bc_ BK241 4, bc_ BK241 5, bc_ BK242 0, bc_ BK242 1, bc_ BK242 2⟩ (fun hHeld => ?_); clear hK K
      apply norm_
      · show Act.put _ (some 9) _ = _; simp only [Act.put, sA_, sZ_, sS_, i64_w, i32_w]; rfl
      refine one_ (i := 6) (N := some 20) #[true,true,true,true,true,true,true,false,false,false,true,false,false] rfl rfl (one_of HT_.out (by kernel_rfl)) (by decide) (fun K hK => ?_); refine gs_ Try.func21 #[.agg #[.int .i64 t243, .int .i64 t244, .int .i64 t245, .int .i64 t246, .int .i64 t247, .int .i64 t248], .int .i64 a1, .int .i64 a2, .agg #[.int .i64 t249, .int .i64 t250, .bool t251]] ?_
      with_reducible refine (spec_TwoMul.calls k t243 t244 t245 t246 t247 t248 a1 a2 t249 t250 t251 t252 t253 t254 t255 _ A7.out).mono ?_
      rintro e w78 ⟨rfl, hb⟩; refine ⟨_, rfl, ?_⟩; replace BK241 := bb_ BK241 hb; replace BK242 := bb_ BK242 hb; replace BK256 := bb_ BK256 hb; replace HB := bs_ HB hb; (try clear hb); refine hK.out _ _ ⟨bc_ BK241 0, bc_ BK241 1, bc_ BK241 2, bc_ BK241 3, bc_ BK241 4, bc_ BK241 5, bc_ BK242 0, bc_ BK242 1, bc_ BK242 2⟩ (fun hHeld => ?_); clear hK K
      apply norm_
      · show Act.put _ (some 20) _ = _; simp only [Act.put, sA_, sZ_, sS_, i64_w, i32_w]; rfl
      refine pure_ (i := 7) (N := some 13) (v := ?_) (a' := ?_) #[true,true,true,true,true,true,true,true,false,false,true,false,false] rfl rfl (any_of HT_.out (by kernel_rfl)) (fun _ _ _ h => h) (Or.inl ⟨by rfl, ?_⟩) ?_ ?_; rotate_left
      ·
       intro w'; go_simp
       with_reducible rfl
      rotate_left
      · simp only [Act.put, sA_, sZ_, sS_, i64_w, i32_w]; rfl
      refine pure_ (i := 8) (N := some 21) (v := ?_) (a' := ?_) #[true,true,true,true,true,true,true,true,true,false,true,false,false] rfl rfl (any_of HT_.out (by kernel_rfl)) (fun _ _ _ h => h) (Or.inl ⟨by rfl, ?_⟩) ?_ ?_; rotate_left
      ·
       intro w'; go_simp
       with_reducible rfl
      rotate_left
      · simp only [Act.put, sA_, sZ_, sS_, i64_w, i32_w]; rfl
      refine pure_ (i := 9) (N := some 22) (v := ?_) (a' := ?_) #[true,true,true,true,true,true,true,true,true,true,true,false,false] rfl rfl (any_of HT_.out (by kernel_rfl)) (fun _ _ _ h => h) (Or.inl ⟨by rfl, ?_⟩) ?_ ?_; rotate_left
      ·
       intro w'; go_simp
       with_reducible rfl
      rotate_left
      · simp only [Act.put, sA_, sZ_, sS_, i64_w, i32_w]; rfl
      exact norm_ (by simp only [putAll, Act.put, sA_, sZ_, sS_]) (hCont (gb256) _ ⟨hHeld, (bk_ BK241), (bk_ BK242), (bk_ BK256), GW256.out, GE256.out, NB241_256.out, NB256_241.out, NB242_256.out, NB256_242.out, (bw_ HB)⟩)
    ·
     refine box_step ?hg (N := 9) ?hd (cs := #[.int .i64 0, .int .i64 0, .bool false]) (t := 26) ?hr ?_; (case hd => rfl); (case hg => rfl); (case hr => first | (go_simp; done) | (go_simp; rfl))
     intro gb256 hg w76 hbox hb; have n0_ := bb_ BK241 hb; have n1_ := bb_ BK242 hb; have n2_ := bs_ HB hb; have n3_ := Aside0.mk hbox; have n4_ := ge_ HB hg; have n5_ := ge_ HB hg; have n6_ := nl_ BK241 hg; have n7_ := nr_ BK241 hg; have n8_ := nl_ BK242 hg; have n9_ := nr_ BK242 hg; clear BK241 BK242 HB; have BK241 := n0_; have BK242 := n1_; have HB := n2_; have BK256 := n3_; have GW256 := n4_; have GE256 := n5_; have NB241_256 := n6_; have NB256_241 := n7_; have NB242_256 := n8_; have NB256_242 := n9_; clear n0_ n1_ n2_ n3_ n4_ n5_ n6_ n7_ n8_ n9_; clear hb hbox hg; refine hK.out _ _ ⟨bc_ BK241 0, bc_ BK241 1, bc_ BK241 2, bc_ BK241 3, bc_ BK241 4, bc_ BK241 5, bc_ BK242 0, bc_ BK242 1, bc_ BK242 2⟩ (fun hHeld => ?_); clear hK K
     apply norm_
     · show Act.put _ (some 9) _ = _; simp only [Act.put, sA_, sZ_, sS_, i64_w, i32_w]; rfl
     refine one_ (i := 5) (N := some 19) #[true,true,true,true,true,true,false,false,false,false,true,false,false] rfl rfl (one_of HT_.out (by kernel_rfl)) (by decide) (fun K hK => ?_); refine gs_ Try.func16 #[.agg #[.int .i64 a3_0, .int .i64 a3_1, .bool a3_2]] ?_
     with_reducible refine (laws_toPoint.calls a3_0 a3_1 a3_2 t249 t250 t251 _ A6.out).mono ?_
     rintro e w77 ⟨rfl, hb⟩; refine ⟨_, rfl, ?_⟩; replace BK241 := bb_ BK241 hb; replace BK242 := bb_ BK242 hb; replace BK256 := bb_ BK256 hb; replace HB := bs_ HB hb; (try clear hb); refine hK.out _ _ ⟨bc_ BK241 0, bc_ BK241 1, bc_ BK241 2, bc_ BK241 3, bc_ BK241 4, bc_ BK241 5, bc_ BK242 0, bc_ BK242 1, bc_ BK242 2⟩ (fun hHeld => ?_); clear hK K
     apply norm_
     · show Act.put _ (some 19) _ = _; simp only [Act.put, sA_, sZ_, sS_, i64_w, i32_w]; rfl
     refine one_ (i := 6) (N := some 20) #[true,true,true,true,true,true,true,false,false,false,true,false,false] rfl rfl (one_of HT_.out (by kernel_rfl)) (by decide) (fun K hK => ?_); refine gs_ Try.func21 #[.agg #[.int .i64 t243, .int .i64 t244, .int .i64 t245, .int .i64 t246, .int .i64 t247, .int .i64 t248], .int .i64 a1, .int .i64 a2, .agg #[.int .i64 t249, .int .i64 t250, .bool t251]] ?_
     with_reducible refine (spec_TwoMul.calls k t243 t244 t245 t246 t247 t248 a1 a2 t249 t250 t251 t252 t253 t254 t255 _ A7.out).mono ?_
     rintro e w78 ⟨rfl, hb⟩; refine ⟨_, rfl, ?_⟩; replace BK241 := bb_ BK241 hb; replace BK242 := bb_ BK242 hb; replace BK256 := bb_ BK256 hb; replace HB := bs_ HB hb; (try clear hb); refine hK.out _ _ ⟨bc_ BK241 0, bc_ BK241 1, bc_ BK241 2, bc_ BK241 3, bc_ BK241 4, bc_ BK241 5, bc_ BK242 0, bc_ BK242 1, bc_ BK242 2⟩ (fun hHeld => ?_); clear hK K
     apply norm_
     · show Act.put _ (some 20) _ = _; simp only [Act.put, sA_, sZ_, sS_, i64_w, i32_w]; rfl
     refine pure_ (i := 7) (N := some 13) (v := ?_) (a' := ?_) #[true,true,true,true,true,true,true,true,false,false,true,false,false] rfl rfl (any_of HT_.out (by kernel_rfl)) (fun _ _ _ h => h) (Or.inl ⟨by rfl, ?_⟩) ?_ ?_; rotate_left
     ·
      intro w'; go_simp
      with_reducible rfl
     rotate_left
     · simp only [Act.put, sA_, sZ_, sS_, i64_w, i32_w]; rfl
     refine pure_ (i := 8) (N := some 21) (v := ?_) (a' := ?_) #[true,true,true,true,true,true,true,true,true,false,true,false,false] rfl rfl (any_of HT_.out (by kernel_rfl)) (fun _ _ _ h => h) (Or.inl ⟨by rfl, ?_⟩) ?_ ?_; rotate_left
     ·
      intro w'; go_simp
      with_reducible rfl
     rotate_left
     · simp only [Act.put, sA_, sZ_, sS_, i64_w, i32_w]; rfl
     refine pure_ (i := 9) (N := some 22) (v := ?_) (a' := ?_) #[true,true,true,true,true,true,true,true,true,true,true,false,false] rfl rfl (any_of HT_.out (by kernel_rfl)) (fun _ _ _ h => h) (Or.inl ⟨by rfl, ?_⟩) ?_ ?_; rotate_left
     ·
      intro w'; go_simp
      with_reducible rfl
     rotate_left
     · simp only [Act.put, sA_, sZ_, sS_, i64_w, i32_w]; rfl
     exact norm_ (by simp only [putAll, Act.put, sA_, sZ_, sS_]) (hCont (gb256) _ ⟨hHeld, (bk_ BK241), (bk_ BK242), (bk_ BK256), GW256.out, GE256.out, NB241_256.out, NB256_241.out, NB242_256.out, NB256_242.out, (bw_ HB)⟩)
   ·
    refine box_step ?hg (N := 9) ?hd (cs := #[.int .i64 0, .int .i64 0, .bool false]) (t := 26) ?hr ?_; (case hd => rfl); (case hg => rfl); (case hr => first | (go_simp; done) | (go_simp; rfl))
    intro gb256 hg w75 hbox hb; have n0_ := bb_ BK241 hb; have n1_ := bb_ BK242 hb; have n2_ := bs_ HB hb; have n3_ := Aside0.mk hbox; have n4_ := ge_ HB hg; have n5_ := ge_ HB hg; have n6_ := nl_ BK241 hg; have n7_ := nr_ BK241 hg; have n8_ := nl_ BK242 hg; have n9_ := nr_ BK242 hg; clear BK241 BK242 HB; have BK241 := n0_; have BK242 := n1_; have HB := n2_; have BK256 := n3_; have GW256 := n4_; have GE256 := n5_; have NB241_256 := n6_; have NB256_241 := n7_; have NB242_256 := n8_; have NB256_242 := n9_; clear n0_ n1_ n2_ n3_ n4_ n5_ n6_ n7_ n8_ n9_; clear hb hbox hg; refine hK.out _ _ ⟨bc_ BK241 0, bc_ BK241 1, bc_ BK241 2, bc_ BK241 3, bc_ BK241 4, bc_ BK241 5, bc_ BK242 0, bc_ BK242 1, bc_ BK242 2⟩ (fun hHeld => ?_); clear hK K
    apply norm_
    · show Act.put _ (some 9) _ = _; simp only [Act.put, sA_, sZ_, sS_, i64_w, i32_w]; rfl
    refine one_ (i := 1) (N := some 15) #[true,true,true,true,true,false,false,false,false,false,true,false,false] rfl rfl (one_of HT_.out (by kernel_rfl)) (by decide) (fun K hK => ?_); refine gs_ Try.func15 #[.agg #[.int .i64 a0_0, .int .i64 a0_1, .int .i64 a0_2, .int .i64 a0_3, .int .i64 a0_4, .int .i64 a0_5]] ?_
    with_reducible refine (laws_toCurve.calls a0_0 a0_1 a0_2 a0_3 a0_4 a0_5 t243 t244 t245 t246 t247 t248 _ A5.out).mono ?_
    rintro e w76 ⟨rfl, hb⟩; refine ⟨_, rfl, ?_⟩; replace BK241 := bb_ BK241 hb; replace BK242 := bb_ BK242 hb; replace BK256 := bb_ BK256 hb; replace HB := bs_ HB hb; (try clear hb); refine hK.out _ _ ⟨bc_ BK241 0, bc_ BK241 1, bc_ BK241 2, bc_ BK241 3, bc_ BK241 4, bc_ BK241 5, bc_ BK242 0, bc_ BK242 1, bc_ BK242 2⟩ (fun hHeld => ?_); clear hK K
    apply norm_
    · show Act.put _ (some 15) _ = _; simp only [Act.put, sA_, sZ_, sS_, i64_w, i32_w]; rfl
    refine one_ (i := 5) (N := some 19) #[true,true,true,true,true,true,false,false,false,false,true,false,false] rfl rfl (one_of HT_.out (by kernel_rfl)) (by decide) (fun K hK => ?_); refine gs_ Try.func16 #[.agg #[.int .i64 a3_0, .int .i64 a3_1, .bool a3_2]] ?_
    with_reducible refine (laws_toPoint.calls a3_0 a3_1 a3_2 t249 t250 t251 _ A6.out).mono ?_
    rintro e w77 ⟨rfl, hb⟩; refine ⟨_, rfl, ?_⟩; replace BK241 := bb_ BK241 hb; replace BK242 := bb_ BK242 hb; replace BK256 := bb_ BK256 hb; replace HB := bs_ HB hb; (try clear hb); refine hK.out _ _ ⟨bc_ BK241 0, bc_ BK241 1, bc_ BK241 2, bc_ BK241 3, bc_ BK241 4, bc_ BK241 5, bc_ BK242 0, bc_ BK242 1, bc_ BK242 2⟩ (fun hHeld => ?_); clear hK K
    apply norm_
    · show Act.put _ (some 19) _ = _; simp only [Act.put, sA_, sZ_, sS_, i64_w, i32_w]; rfl
    refine one_ (i := 6) (N := some 20) #[true,true,true,true,true,true,true,false,false,false,true,false,false] rfl rfl (one_of HT_.out (by kernel_rfl)) (by decide) (fun K hK => ?_); refine gs_ Try.func21 #[.agg #[.int .i64 t243, .int .i64 t244, .int .i64 t245, .int .i64 t246, .int .i64 t247, .int .i64 t248], .int .i64 a1, .int .i64 a2, .agg #[.int .i64 t249, .int .i64 t250, .bool t251]] ?_
    with_reducible refine (spec_TwoMul.calls k t243 t244 t245 t246 t247 t248 a1 a2 t249 t250 t251 t252 t253 t254 t255 _ A7.out).mono ?_
    rintro e w78 ⟨rfl, hb⟩; refine ⟨_, rfl, ?_⟩; replace BK241 := bb_ BK241 hb; replace BK242 := bb_ BK242 hb; replace BK256 := bb_ BK256 hb; replace HB := bs_ HB hb; (try clear hb); refine hK.out _ _ ⟨bc_ BK241 0, bc_ BK241 1, bc_ BK241 2, bc_ BK241 3, bc_ BK241 4, bc_ BK241 5, bc_ BK242 0, bc_ BK242 1, bc_ BK242 2⟩ (fun hHeld => ?_); clear hK K
    apply norm_
    · show Act.put _ (some 20) _ = _; simp only [Act.put, sA_, sZ_, sS_, i64_w, i32_w]; rfl
    refine pure_ (i := 7) (N := some 13) (v := ?_) (a' := ?_) #[true,true,true,true,true,true,true,true,false,false,true,false,false] rfl rfl (any_of HT_.out (by kernel_rfl)) (fun _ _ _ h => h) (Or.inl ⟨by rfl, ?_⟩) ?_ ?_; rotate_left
    ·
     intro w'; go_simp
     with_reducible rfl
    rotate_left
    · simp only [Act.put, sA_, sZ_, sS_, i64_w, i32_w]; rfl
    refine pure_ (i := 8) (N := some 21) (v := ?_) (a' := ?_) #[true,true,true,true,true,true,true,true,true,false,true,false,false] rfl rfl (any_of HT_.out (by kernel_rfl)) (fun _ _ _ h => h) (Or.inl ⟨by rfl, ?_⟩) ?_ ?_; rotate_left
    ·
     intro w'; go_simp
     with_reducible rfl
    rotate_left
    · simp only [Act.put, sA_, sZ_, sS_, i64_w, i32_w]; rfl
    refine pure_ (i := 9) (N := some 22) (v := ?_) (a' := ?_) #[true,true,true,true,true,true,true,true,true,true,true,false,false] rfl rfl (any_of HT_.out (by kernel_rfl)) (fun _ _ _ h => h) (Or.inl ⟨by rfl, ?_⟩) ?_ ?_; rotate_left
    ·
     intro w'; go_simp
     with_reducible rfl
    rotate_left
    · simp only [Act.put, sA_, sZ_, sS_, i64_w, i32_w]; rfl
    exact norm_ (by simp only [putAll, Act.put, sA_, sZ_, sS_]) (hCont (gb256) _ ⟨hHeld, (bk_ BK241), (bk_ BK242), (bk_ BK256), GW256.out, GE256.out, NB241_256.out, NB256_241.out, NB242_256.out, NB256_242.out, (bw_ HB)⟩)
  rintro gb256 w79 ⟨hS_, h0_, h1_, h2_, h3_, h4_, h5_, h6_, h7_, h8_, h9_⟩; replace BK241 := Aside0.mk h0_; replace BK242 := Aside0.mk h1_; have BK256 := Aside0.mk h2_; have GW256 := Aside0.mk h3_; have GE256 := Aside0.mk h4_; have NB241_256 := Aside0.mk h5_; have NB256_241 := Aside0.mk h6_; have NB242_256 := Aside0.mk h7_; have NB256_242 := Aside0.mk h8_; replace HB := Aside0.mk h9_; clear h0_ h1_ h2_ h3_ h4_ h5_ h6_ h7_ h8_ h9_; have hHeld := hS_
  apply norm_
  · simp only [putAll, Act.put, sA_, sZ_, sS_]; rfl
  refine one_ (i := 11) (N := none) #[true,true,true,true,true,true,true,true,true,true,true,true,false] rfl rfl (one_of HT_.out (by kernel_rfl)) (by decide) (fun K hK => ?_)
  have hs80 : w79.cell? ⟨gb256, 0, none⟩ = some (.int .i64 0) := bc_ BK256 0
  have hfs80 := blk_frozen BK256.out 0; have hns80_0 := NB241_256.out; have hns80_1 := NB242_256.out; have hms80_0 := NB256_241.out; have hms80_1 := NB256_242.out
  have hs81 : w79.cell? ⟨gb256, 1, none⟩ = some (.int .i64 0) := bc_ BK256 1
  have hfs81 := blk_frozen BK256.out 1; have hns81_0 := NB241_256.out; have hns81_1 := NB242_256.out; have hms81_0 := NB256_241.out; have hms81_1 := NB256_242.out
  have hs82 : w79.cell? ⟨gb256, 2, none⟩ = some (.bool false) := bc_ BK256 2
  have hfs82 := blk_frozen BK256.out 2; have hns82_0 := NB241_256.out; have hns82_1 := NB242_256.out; have hms82_0 := NB256_241.out; have hms82_1 := NB256_242.out; refine skip_ (w1 := ?_) (by rfl) rfl ?_ ?_; rotate_left
  · go_simp; rfl
  refine hK.out _ _ ⟨((cell_far (p := ⟨gb256, _, none⟩) NB241_256.out _).trans (((cell_far (p := ⟨gb256, _, none⟩) NB241_256.out _).trans (((cell_far (p := ⟨gb256, _, none⟩) NB241_256.out _).trans (hHeld.1)))))), ((cell_far (p := ⟨gb256, _, none⟩) NB241_256.out _).trans (((cell_far (p := ⟨gb256, _, none⟩) NB241_256.out _).trans (((cell_far (p := ⟨gb256, _, none⟩) NB241_256.out _).trans (hHeld.2.1)))))), ((cell_far (p := ⟨gb256, _, none⟩) NB241_256.out _).trans (((cell_far (p := ⟨gb256, _, none⟩) NB241_256.out _).trans (((cell_far (p := ⟨gb256, _, none⟩) NB241_256.out _).trans (hHeld.2.2.1)))))), ((cell_far (p := ⟨gb256, _, none⟩) NB241_256.out _).trans (((cell_far (p := ⟨gb256, _, none⟩) NB241_256.out _).trans (((cell_far (p := ⟨gb256, _, none⟩) NB241_256.out _).trans (hHeld.2.2.2.1)))))), ((cell_far (p := ⟨gb256, _, none⟩) NB241_256.out _).trans (((cell_far (p := ⟨gb256, _, none⟩) NB241_256.out _).trans (((cell_far (p := ⟨gb256, _, none⟩) NB241_256.out _).trans (hHeld.2.2.2.2.1)))))), ((cell_far (p := ⟨gb256, _, none⟩) NB241_256.out _).trans (((cell_far (p := ⟨gb256, _, none⟩) NB241_256.out _).trans (((cell_far (p := ⟨gb256, _, none⟩) NB241_256.out _).trans (hHeld.2.2.2.2.2.1)))))), ((cell_far (p := ⟨gb256, _, none⟩) NB242_256.out _).trans (((cell_far (p := ⟨gb256, _, none⟩) NB242_256.out _).trans (((cell_far (p := ⟨gb256, _, none⟩) NB242_256.out _).trans (hHeld.2.2.2.2.2.2.1)))))), ((cell_far (p := ⟨gb256, _, none⟩) NB242_256.out _).trans (((cell_far (p := ⟨gb256, _, none⟩) NB242_256.out _).trans (((cell_far (p := ⟨gb256, _, none⟩) NB242_256.out _).trans (hHeld.2.2.2.2.2.2.2.1)))))), ((cell_far (p := ⟨gb256, _, none⟩) NB242_256.out _).trans (((cell_far (p := ⟨gb256, _, none⟩) NB242_256.out _).trans (((cell_far (p := ⟨gb256, _, none⟩) NB242_256.out _).trans (hHeld.2.2.2.2.2.2.2.2))))))⟩ (fun hHeld => ?_); clear hK K; refine pure_ (i := 12) (N := some 10) (v := ?_) (a' := ?_) #[true,true,true,true,true,true,true,true,true,true,true,true,true] rfl rfl (any_of HT_.out (by kernel_rfl)) (fun _ _ _ h => h) (Or.inl ⟨by rfl, ?_⟩) ?_ ?_; rotate_left
  ·
   intro w'; go_simp
   with_reducible rfl
  rotate_left
  · simp only [Act.put, sA_, sZ_, sS_, i64_w, i32_w]; rfl
  refine done_ (done_of HT_.out (by kernel_rfl)) ?_
  try go_wp2
  have n0_ : Aside0 ((((w79.setCell ⟨gb256, 0, none⟩ (.int .i64 t252)).setCell ⟨gb256, 1, none⟩ (.int .i64 t253)).setCell ⟨gb256, 2, none⟩ (.bool t254)).heap[gb241]? = some (.cells #[.int .i64 a0_0, .int .i64 a0_1, .int .i64 a0_2, .int .i64 a0_3, .int .i64 a0_4, .int .i64 a0_5] 23 (0, 0))) := ⟨by (with_reducible repeat (first | refine blk_drewN ?_ _ | refine blk_drew ?_ | refine blk_alloc ?_ _)); refine blk_far ?_ NB241_256.out _; (with_reducible repeat (first | refine blk_drewN ?_ _ | refine blk_drew ?_ | refine blk_alloc ?_ _)); refine blk_far ?_ NB241_256.out _; (with_reducible repeat (first | refine blk_drewN ?_ _ | refine blk_drew ?_ | refine blk_alloc ?_ _)); refine blk_far ?_ NB241_256.out _; (with_reducible repeat (first | refine blk_drewN ?_ _ | refine blk_drew ?_ | refine blk_alloc ?_ _)); exact BK241.out⟩
  have n1_ : Aside0 ((((w79.setCell ⟨gb256, 0, none⟩ (.int .i64 t252)).setCell ⟨gb256, 1, none⟩ (.int .i64 t253)).setCell ⟨gb256, 2, none⟩ (.bool t254)).heap[gb242]? = some (.cells #[.int .i64 a3_0, .int .i64 a3_1, .bool a3_2] 25 (0, 0))) := ⟨by (with_reducible repeat (first | refine blk_drewN ?_ _ | refine blk_drew ?_ | refine blk_alloc ?_ _)); refine blk_far ?_ NB242_256.out _; (with_reducible repeat (first | refine blk_drewN ?_ _ | refine blk_drew ?_ | refine blk_alloc ?_ _)); refine blk_far ?_ NB242_256.out _; (with_reducible repeat (first | refine blk_drewN ?_ _ | refine blk_drew ?_ | refine blk_alloc ?_ _)); refine blk_far ?_ NB242_256.out _; (with_reducible repeat (first | refine blk_drewN ?_ _ | refine blk_drew ?_ | refine blk_alloc ?_ _)); exact BK242.out⟩
  have n2_ : Aside0 ((((w79.setCell ⟨gb256, 0, none⟩ (.int .i64 t252)).setCell ⟨gb256, 1, none⟩ (.int .i64 t253)).setCell ⟨gb256, 2, none⟩ (.bool t254)).heap[gb256]? = some (.cells #[.int .i64 t252, .int .i64 t253, .bool t254] 26 (0, 0))) := ⟨by (with_reducible repeat (first | refine blk_drewN ?_ _ | refine blk_drew ?_ | refine blk_alloc ?_ _)); refine blk_put (cs := #[.int .i64 t252, .int .i64 t253, .bool false]) ?_ 2 _ rfl; (with_reducible repeat (first | refine blk_drewN ?_ _ | refine blk_drew ?_ | refine blk_alloc ?_ _)); refine blk_put (cs := #[.int .i64 t252, .int .i64 0, .bool false]) ?_ 1 _ rfl; (with_reducible repeat (first | refine blk_drewN ?_ _ | refine blk_drew ?_ | refine blk_alloc ?_ _)); refine blk_put (cs := #[.int .i64 0, .int .i64 0, .bool false]) ?_ 0 _ rfl; (with_reducible repeat (first | refine blk_drewN ?_ _ | refine blk_drew ?_ | refine blk_alloc ?_ _)); exact BK256.out⟩
  have n3_ : Aside0 (Below w.heap.size w (((w79.setCell ⟨gb256, 0, none⟩ (.int .i64 t252)).setCell ⟨gb256, 1, none⟩ (.int .i64 t253)).setCell ⟨gb256, 2, none⟩ (.bool t254))) := ⟨by repeat (first | (with_reducible first | exact HB.out | apply below_alloc | apply pw_below_drewN | apply below_drew1 | refine below_set ?_ GE241.out | refine below_set ?_ GE242.out | refine below_set ?_ GE256.out) | exact HB.out)⟩
  (try clear BK241); (try clear BK242); (try clear BK256); (try clear HB)
  generalize (((w79.setCell ⟨gb256, 0, none⟩ (.int .i64 t252)).setCell ⟨gb256, 1, none⟩ (.int .i64 t253)).setCell ⟨gb256, 2, none⟩ (.bool t254)) = w83 at n0_ n1_ n2_ n3_ ⊢
  have BK241 := n0_; have BK242 := n1_; have BK256 := n2_; have HB := n3_; clear n0_ n1_ n2_ n3_; replace BK241 := Aside0.mk (blk_drew BK241.out); replace BK242 := Aside0.mk (blk_drew BK242.out); replace BK256 := Aside0.mk (blk_drew BK256.out); replace HB := Aside0.mk (below_drew1 HB.out); refine start_ (n := 13) (S := fun w' => w'.cell? ⟨gb241, 0, none⟩ = some (.int .i64 a0_0) ∧ w'.cell? ⟨gb241, 1, none⟩ = some (.int .i64 a0_1) ∧ w'.cell? ⟨gb241, 2, none⟩ = some (.int .i64 a0_2) ∧ w'.cell? ⟨gb241, 3, none⟩ = some (.int .i64 a0_3) ∧ w'.cell? ⟨gb241, 4, none⟩ = some (.int .i64 a0_4) ∧ w'.cell? ⟨gb241, 5, none⟩ = some (.int .i64 a0_5) ∧ w'.cell? ⟨gb242, 0, none⟩ = some (.int .i64 a3_0) ∧ w'.cell? ⟨gb242, 1, none⟩ = some (.int .i64 a3_1) ∧ w'.cell? ⟨gb242, 2, none⟩ = some (.bool a3_2)) (ds := []) #[false,false,false,false,false,false,false,false,false,false,false,false,false] (by kernel_rfl) rfl rfl ⟨bc_ BK241 0, bc_ BK241 1, bc_ BK241 2, bc_ BK241 3, bc_ BK241 4, bc_ BK241 5, bc_ BK242 0, bc_ BK242 1, bc_ BK242 2⟩ (fun hHeld => ?_); refine with_tabW laws_FnExactTwoMul.tab2 laws_FnExactTwoMul.bits2 (fun HT_ HW_ => ?_)
  generalize w83.drew = w84 at BK241 BK242 BK256 HB hHeld ⊢
  refine pure_ (i := 2) (N := some 26) (v := ?_) (a' := ?_) #[false,false,true,false,false,false,false,false,false,false,false,false,false] rfl rfl (any_of HT_.out (by kernel_rfl)) (fun _ _ _ h => h) (Or.inl ⟨by rfl, ?_⟩) ?_ ?_; rotate_left
  ·
   intro w'; go_simp
   with_reducible rfl
  rotate_left
  · simp only [Act.put, sA_, sZ_, sS_, i64_w, i32_w]; rfl
  refine pure_ (i := 3) (N := some 27) (v := ?_) (a' := ?_) #[false,false,true,true,false,false,false,false,false,false,false,false,false] rfl rfl (any_of HT_.out (by kernel_rfl)) (fun _ _ _ h => h) (Or.inl ⟨by rfl, ?_⟩) ?_ ?_; rotate_left
  ·
   intro w'; go_simp
   with_reducible rfl
  rotate_left
  · simp only [Act.put, sA_, sZ_, sS_, i64_w, i32_w]; rfl
  refine take_ (i := 0) (N := some 24) (v := ?_) (a' := ?_) #[true,false,true,true,false,false,false,false,false,false,false,false,false] rfl rfl (take_ofW HT_.out HW_.out (by kernel_rfl)) (fun _ _ _ h => h) (Or.inl ⟨by rfl, ?_⟩) hHeld ?_ ?_; rotate_left
  ·
   rintro w' ⟨s0, s1, s2, s3, s4, s5, s6, s7, s8⟩; go_simp
   with_reducible rfl
  rotate_left
  · simp only [Act.put, sA_, sZ_, sS_, i64_w, i32_w]; rfl
  refine take_ (i := 4) (N := some 28) (v := ?_) (a' := ?_) #[true,false,true,true,true,false,false,false,false,false,false,false,false] rfl rfl (take_ofW HT_.out HW_.out (by kernel_rfl)) (fun _ _ _ h => h) (Or.inl ⟨by rfl, ?_⟩) hHeld ?_ ?_; rotate_left
  ·
   rintro w' ⟨s0, s1, s2, s3, s4, s5, s6, s7, s8⟩; go_simp
   with_reducible rfl
  rotate_left
  · simp only [Act.put, sA_, sZ_, sS_, i64_w, i32_w]; rfl
  refine join_ (σ := Nat) 2 #[true,true,true,true,true,true,true,true,true,true,true,false,false] (fun s_ => [(25, .agg #[.int .i64 t257, .int .i64 t258, .int .i64 t259, .int .i64 t260, .int .i64 t261, .int .i64 t262]), (29, .agg #[.int .i64 t263, .int .i64 t264, .bool t265]), (30, .tuple #[.agg #[.int .i64 t266, .int .i64 t267, .bool t268], .bool t269]), (11, .pointer (some ⟨s_, 0, none⟩)), (23, .tuple #[.agg #[.int .i64 t266, .int .i64 t267, .bool t268], .bool t269]), (31, .agg #[.int .i64 t266, .int .i64 t267, .bool t268]), (32, .bool t269)]) (fun s_ w' => (w'.cell? ⟨gb241, 0, none⟩ = some (.int .i64 a0_0) ∧ w'.cell? ⟨gb241, 1, none⟩ = some (.int .i64 a0_1) ∧ w'.cell? ⟨gb241, 2, none⟩ = some (.int .i64 a0_2) ∧ w'.cell? ⟨gb241, 3, none⟩ = some (.int .i64 a0_3) ∧ w'.cell? ⟨gb241, 4, none⟩ = some (.int .i64 a0_4) ∧ w'.cell? ⟨gb241, 5, none⟩ = some (.int .i64 a0_5) ∧ w'.cell? ⟨gb242, 0, none⟩ = some (.int .i64 a3_0) ∧ w'.cell? ⟨gb242, 1, none⟩ = some (.int .i64 a3_1) ∧ w'.cell? ⟨gb242, 2, none⟩ = some (.bool a3_2)) ∧ (w'.heap[gb241]? = some (.cells #[.int .i64 a0_0, .int .i64 a0_1, .int .i64 a0_2, .int .i64 a0_3, .int .i64 a0_4, .int .i64 a0_5] 23 (0, 0))) ∧ (w'.heap[gb242]? = some (.cells #[.int .i64 a3_0, .int .i64 a3_1, .bool a3_2] 25 (0, 0))) ∧ (w'.heap[gb256]? = some (.cells #[.int .i64 t252, .int .i64 t253, .bool t254] 26 (0, 0))) ∧ (w'.heap[s_]? = some (.cells #[.int .i64 0, .int .i64 0, .bool false] 26 (0, 0))) ∧ (w.heap.size ≤ s_) ∧ (w.heap.size ≤ s_) ∧ (gb241 ≠ s_) ∧ (s_ ≠ gb241) ∧ (gb242 ≠ s_) ∧ (s_ ≠ gb242) ∧ (gb256 ≠ s_) ∧ (s_ ≠ gb256) ∧ (Below w.heap.size w w')) ?_ ?_; rotate_left
  ·
   intro hCont; refine two_ (i := 1) (j := 10) (Ni := some 25) (Nj := some 11) #[true,true,true,true,true,false,false,false,false,false,false,false,false] #[true,false,true,true,true,false,false,false,false,false,true,false,false] rfl rfl rfl rfl (two_of HT_.out (by kernel_rfl)) (by decide) (by decide) (fun K hK => ?_) (fun K hK => ?_)
   ·
    refine gs_ Try.func15 #[.agg #[.int .i64 a0_0, .int .i64 a0_1, .int .i64 a0_2, .int .i64 a0_3, .int .i64 a0_4, .int .i64 a0_5]] ?_
    with_reducible refine (laws_toCurve.calls a0_0 a0_1 a0_2 a0_3 a0_4 a0_5 t257 t258 t259 t260 t261 t262 _ A8.out).mono ?_
    rintro e w85 ⟨rfl, hb⟩; refine ⟨_, rfl, ?_⟩; replace BK241 := bb_ BK241 hb; replace BK242 := bb_ BK242 hb; replace BK256 := bb_ BK256 hb; replace HB := bs_ HB hb; (try clear hb); refine hK.out _ _ ⟨bc_ BK241 0, bc_ BK241 1, bc_ BK241 2, bc_ BK241 3, bc_ BK241 4, bc_ BK241 5, bc_ BK242 0, bc_ BK242 1, bc_ BK242 2⟩ (fun hHeld => ?_); clear hK K
    apply norm_
    · show Act.put _ (some 25) _ = _; simp only [Act.put, sA_, sZ_, sS_, i64_w, i32_w]; rfl
    refine two_ (i := 5) (j := 10) (Ni := some 29) (Nj := some 11) #[true,true,true,true,true,true,false,false,false,false,false,false,false] #[true,true,true,true,true,false,false,false,false,false,true,false,false] rfl rfl rfl rfl (two_of HT_.out (by kernel_rfl)) (by decide) (by decide) (fun K hK => ?_) (fun K hK => ?_)
    ·
     refine gs_ Try.func16 #[.agg #[.int .i64 a3_0, .int .i64 a3_1, .bool a3_2]] ?_
     with_reducible refine (laws_toPoint.calls a3_0 a3_1 a3_2 t263 t264 t265 _ A9.out).mono ?_
     rintro e w86 ⟨rfl, hb⟩; refine ⟨_, rfl, ?_⟩; replace BK241 := bb_ BK241 hb; replace BK242 := bb_ BK242 hb; replace BK256 := bb_ BK256 hb; replace HB := bs_ HB hb; (try clear hb); refine hK.out _ _ ⟨bc_ BK241 0, bc_ BK241 1, bc_ BK241 2, bc_ BK241 3, bc_ BK241 4, bc_ BK241 5, bc_ BK242 0, bc_ BK242 1, bc_ BK242 2⟩ (fun hHeld => ?_); clear hK K
     apply norm_
     · show Act.put _ (some 29) _ = _; simp only [Act.put, sA_, sZ_, sS_, i64_w, i32_w]; rfl
     refine two_ (i := 6) (j := 10) (Ni := some 30) (Nj := some 11) #[true,true,true,true,true,true,true,false,false,false,false,false,false] #[true,true,true,true,true,true,false,false,false,false,true,false,false] rfl rfl rfl rfl (two_of HT_.out (by kernel_rfl)) (by decide) (by decide) (fun K hK => ?_) (fun K hK => ?_)
     ·
      refine gs_ Try.func22 #[.agg #[.int .i64 t257, .int .i64 t258, .int .i64 t259, .int .i64 t260, .int .i64 t261, .int .i64 t262], .int .i64 a1, .int .i64 a2, .agg #[.int .i64 t263, .int .i64 t264, .bool t265]] ?_
      with_reducible refine (impl_TwoMul.calls k t257 t258 t259 t260 t261 t262 a1 a2 t263 t264 t265 t266 t267 t268 t269 _ A10.out).mono ?_
      rintro e w87 ⟨rfl, hb⟩; refine ⟨_, rfl, ?_⟩; replace BK241 := bb_ BK241 hb; replace BK242 := bb_ BK242 hb; replace BK256 := bb_ BK256 hb; replace HB := bs_ HB hb; (try clear hb); refine hK.out _ _ ⟨bc_ BK241 0, bc_ BK241 1, bc_ BK241 2, bc_ BK241 3, bc_ BK241 4, bc_ BK241 5, bc_ BK242 0, bc_ BK242 1, bc_ BK242 2⟩ (fun hHeld => ?_); clear hK K
      apply norm_
      · show Act.put _ (some 30) _ = _; simp only [Act.put, sA_, sZ_, sS_, i64_w, i32_w]; rfl
      refine pure_ (i := 7) (N := some 23) (v := ?_) (a' := ?_) #[true,true,true,true,true,true,true,true,false,false,false,false,false] rfl rfl (any_of HT_.out (by kernel_rfl)) (fun _ _ _ h => h) (Or.inl ⟨by rfl, ?_⟩) ?_ ?_; rotate_left
      ·
       intro w'; go_simp
       with_reducible rfl
      rotate_left
      · simp only [Act.put, sA_, sZ_, sS_, i64_w, i32_w]; rfl
      refine pure_ (i := 8) (N := some 31) (v := ?_) (a' := ?_) #[true,true,true,true,true,true,true,true,true,false,false,false,false] rfl rfl (any_of HT_.out (by kernel_rfl)) (fun _ _ _ h => h) (Or.inl ⟨by rfl, ?_⟩) ?_ ?_; rotate_left
      ·
       intro w'; go_simp
       with_reducible rfl
      rotate_left
      · simp only [Act.put, sA_, sZ_, sS_, i64_w, i32_w]; rfl
      refine pure_ (i := 9) (N := some 32) (v := ?_) (a' := ?_) #[true,true,true,true,true,true,true,true,true,true,false,false,false] rfl rfl (any_of HT_.out (by kernel_rfl)) (fun _ _ _ h => h) (Or.inl ⟨by rfl, ?_⟩) ?_ ?_; rotate_left
      ·
       intro w'; go_simp
       with_reducible rfl
      rotate_left
      · simp only [Act.put, sA_, sZ_, sS_, i64_w, i32_w]; rfl
      refine one_ (i := 10) (N := some 11) #[true,true,true,true,true,true,true,true,true,true,true,false,false] rfl rfl (one_of HT_.out (by kernel_rfl)) (by decide) (fun K hK => ?_); refine box_step ?hg (N := 11) ?hd (cs := #[.int .i64 0, .int .i64 0, .bool false]) (t := 26) ?hr ?_; (case hd => rfl); (case hg => rfl); (case hr => first | (go_simp; done) | (go_simp; rfl))
      intro gb270 hg w88 hbox hb; have n0_ := bb_ BK241 hb; have n1_ := bb_ BK242 hb; have n2_ := bb_ BK256 hb; have n3_ := bs_ HB hb; have n4_ := Aside0.mk hbox; have n5_ := ge_ HB hg; have n6_ := ge_ HB hg; have n7_ := nl_ BK241 hg; have n8_ := nr_ BK241 hg; have n9_ := nl_ BK242 hg; have n10_ := nr_ BK242 hg; have n11_ := nl_ BK256 hg; have n12_ := nr_ BK256 hg; clear BK241 BK242 BK256 HB; have BK241 := n0_; have BK242 := n1_; have BK256 := n2_; have HB := n3_; have BK270 := n4_; have GW270 := n5_; have GE270 := n6_; have NB241_270 := n7_; have NB270_241 := n8_; have NB242_270 := n9_; have NB270_242 := n10_; have NB256_270 := n11_; have NB270_256 := n12_; clear n0_ n1_ n2_ n3_ n4_ n5_ n6_ n7_ n8_ n9_ n10_ n11_ n12_; clear hb hbox hg; refine hK.out _ _ ⟨bc_ BK241 0, bc_ BK241 1, bc_ BK241 2, bc_ BK241 3, bc_ BK241 4, bc_ BK241 5, bc_ BK242 0, bc_ BK242 1, bc_ BK242 2⟩ (fun hHeld => ?_); clear hK K
      apply norm_
      · show Act.put _ (some 11) _ = _; simp only [Act.put, sA_, sZ_, sS_, i64_w, i32_w]; rfl
      exact norm_ (by simp only [putAll, Act.put, sA_, sZ_, sS_]) (hCont (gb270) _ ⟨hHeld, (bk_ BK241), (bk_ BK242), (bk_ BK256), (bk_ BK270), GW270.out, GE270.out, NB241_270.out, NB270_241.out, NB242_270.out, NB270_242.out, NB256_270.out, NB270_256.out, (bw_ HB)⟩)
     ·
      refine box_step ?hg (N := 11) ?hd (cs := #[.int .i64 0, .int .i64 0, .bool false]) (t := 26) ?hr ?_; (case hd => rfl); (case hg => rfl); (case hr => first | (go_simp; done) | (go_simp; rfl))
      intro gb270 hg w87 hbox hb; have n0_ := bb_ BK241 hb; have n1_ := bb_ BK242 hb; have n2_ := bb_ BK256 hb; have n3_ := bs_ HB hb; have n4_ := Aside0.mk hbox; have n5_ := ge_ HB hg; have n6_ := ge_ HB hg; have n7_ := nl_ BK241 hg; have n8_ := nr_ BK241 hg; have n9_ := nl_ BK242 hg; have n10_ := nr_ BK242 hg; have n11_ := nl_ BK256 hg; have n12_ := nr_ BK256 hg; clear BK241 BK242 BK256 HB; have BK241 := n0_; have BK242 := n1_; have BK256 := n2_; have HB := n3_; have BK270 := n4_; have GW270 := n5_; have GE270 := n6_; have NB241_270 := n7_; have NB270_241 := n8_; have NB242_270 := n9_; have NB270_242 := n10_; have NB256_270 := n11_; have NB270_256 := n12_; clear n0_ n1_ n2_ n3_ n4_ n5_ n6_ n7_ n8_ n9_ n10_ n11_ n12_; clear hb hbox hg; refine hK.out _ _ ⟨bc_ BK241 0, bc_ BK241 1, bc_ BK241 2, bc_ BK241 3, bc_ BK241 4, bc_ BK241 5, bc_ BK242 0, bc_ BK242 1, bc_ BK242 2⟩ (fun hHeld => ?_); clear hK K
      apply norm_
      · show Act.put _ (some 11) _ = _; simp only [Act.put, sA_, sZ_, sS_, i64_w, i32_w]; rfl
      refine one_ (i := 6) (N := some 30) #[true,true,true,true,true,true,true,false,false,false,true,false,false] rfl rfl (one_of HT_.out (by kernel_rfl)) (by decide) (fun K hK => ?_); refine gs_ Try.func22 #[.agg #[.int .i64 t257, .int .i64 t258, .int .i64 t259, .int .i64 t260, .int .i64 t261, .int .i64 t262], .int .i64 a1, .int .i64 a2, .agg #[.int .i64 t263, .int .i64 t264, .bool t265]] ?_
      with_reducible refine (impl_TwoMul.calls k t257 t258 t259 t260 t261 t262 a1 a2 t263 t264 t265 t266 t267 t268 t269 _ A10.out).mono ?_
      rintro e w88 ⟨rfl, hb⟩; refine ⟨_, rfl, ?_⟩; replace BK241 := bb_ BK241 hb; replace BK242 := bb_ BK242 hb; replace BK256 := bb_ BK256 hb; replace BK270 := bb_ BK270 hb; replace HB := bs_ HB hb; (try clear hb); refine hK.out _ _ ⟨bc_ BK241 0, bc_ BK241 1, bc_ BK241 2, bc_ BK241 3, bc_ BK241 4, bc_ BK241 5, bc_ BK242 0, bc_ BK242 1, bc_ BK242 2⟩ (fun hHeld => ?_); clear hK K
      apply norm_
      · show Act.put _ (some 30) _ = _; simp only [Act.put, sA_, sZ_, sS_, i64_w, i32_w]; rfl
      refine pure_ (i := 7) (N := some 23) (v := ?_) (a' := ?_) #[true,true,true,true,true,true,true,true,false,false,true,false,false] rfl rfl (any_of HT_.out (by kernel_rfl)) (fun _ _ _ h => h) (Or.inl ⟨by rfl, ?_⟩) ?_ ?_; rotate_left
      ·
       intro w'; go_simp
       with_reducible rfl
      rotate_left
      · simp only [Act.put, sA_, sZ_, sS_, i64_w, i32_w]; rfl
      refine pure_ (i := 8) (N := some 31) (v := ?_) (a' := ?_) #[true,true,true,true,true,true,true,true,true,false,true,false,false] rfl rfl (any_of HT_.out (by kernel_rfl)) (fun _ _ _ h => h) (Or.inl ⟨by rfl, ?_⟩) ?_ ?_; rotate_left
      ·
       intro w'; go_simp
       with_reducible rfl
      rotate_left
      · simp only [Act.put, sA_, sZ_, sS_, i64_w, i32_w]; rfl
      refine pure_ (i := 9) (N := some 32) (v := ?_) (a' := ?_) #[true,true,true,true,true,true,true,true,true,true,true,false,false] rfl rfl (any_of HT_.out (by kernel_rfl)) (fun _ _ _ h => h) (Or.inl ⟨by rfl, ?_⟩) ?_ ?_; rotate_left
      ·
       intro w'; go_simp
       with_reducible rfl
      rotate_left
      · simp only [Act.put, sA_, sZ_, sS_, i64_w, i32_w]; rfl
      exact norm_ (by simp only [putAll, Act.put, sA_, sZ_, sS_]) (hCont (gb270) _ ⟨hHeld, (bk_ BK241), (bk_ BK242), (bk_ BK256), (bk_ BK270), GW270.out, GE270.out, NB241_270.out, NB270_241.out, NB242_270.out, NB270_242.out, NB256_270.out, NB270_256.out, (bw_ HB)⟩)
    ·
     refine box_step ?hg (N := 11) ?hd (cs := #[.int .i64 0, .int .i64 0, .bool false]) (t := 26) ?hr ?_; (case hd => rfl); (case hg => rfl); (case hr => first | (go_simp; done) | (go_simp; rfl))
     intro gb270 hg w86 hbox hb; have n0_ := bb_ BK241 hb; have n1_ := bb_ BK242 hb; have n2_ := bb_ BK256 hb; have n3_ := bs_ HB hb; have n4_ := Aside0.mk hbox; have n5_ := ge_ HB hg; have n6_ := ge_ HB hg; have n7_ := nl_ BK241 hg; have n8_ := nr_ BK241 hg; have n9_ := nl_ BK242 hg; have n10_ := nr_ BK242 hg; have n11_ := nl_ BK256 hg; have n12_ := nr_ BK256 hg; clear BK241 BK242 BK256 HB; have BK241 := n0_; have BK242 := n1_; have BK256 := n2_; have HB := n3_; have BK270 := n4_; have GW270 := n5_; have GE270 := n6_; have NB241_270 := n7_; have NB270_241 := n8_; have NB242_270 := n9_; have NB270_242 := n10_; have NB256_270 := n11_; have NB270_256 := n12_; clear n0_ n1_ n2_ n3_ n4_ n5_ n6_ n7_ n8_ n9_ n10_ n11_ n12_; clear hb hbox hg; refine hK.out _ _ ⟨bc_ BK241 0, bc_ BK241 1, bc_ BK241 2, bc_ BK241 3, bc_ BK241 4, bc_ BK241 5, bc_ BK242 0, bc_ BK242 1, bc_ BK242 2⟩ (fun hHeld => ?_); clear hK K
     apply norm_
     · show Act.put _ (some 11) _ = _; simp only [Act.put, sA_, sZ_, sS_, i64_w, i32_w]; rfl
     refine one_ (i := 5) (N := some 29) #[true,true,true,true,true,true,false,false,false,false,true,false,false] rfl rfl (one_of HT_.out (by kernel_rfl)) (by decide) (fun K hK => ?_); refine gs_ Try.func16 #[.agg #[.int .i64 a3_0, .int .i64 a3_1, .bool a3_2]] ?_
     with_reducible refine (laws_toPoint.calls a3_0 a3_1 a3_2 t263 t264 t265 _ A9.out).mono ?_
     rintro e w87 ⟨rfl, hb⟩; refine ⟨_, rfl, ?_⟩; replace BK241 := bb_ BK241 hb; replace BK242 := bb_ BK242 hb; replace BK256 := bb_ BK256 hb; replace BK270 := bb_ BK270 hb; replace HB := bs_ HB hb; (try clear hb); refine hK.out _ _ ⟨bc_ BK241 0, bc_ BK241 1, bc_ BK241 2, bc_ BK241 3, bc_ BK241 4, bc_ BK241 5, bc_ BK242 0, bc_ BK242 1, bc_ BK242 2⟩ (fun hHeld => ?_); clear hK K
     apply norm_
     · show Act.put _ (some 29) _ = _; simp only [Act.put, sA_, sZ_, sS_, i64_w, i32_w]; rfl
     refine one_ (i := 6) (N := some 30) #[true,true,true,true,true,true,true,false,false,false,true,false,false] rfl rfl (one_of HT_.out (by kernel_rfl)) (by decide) (fun K hK => ?_); refine gs_ Try.func22 #[.agg #[.int .i64 t257, .int .i64 t258, .int .i64 t259, .int .i64 t260, .int .i64 t261, .int .i64 t262], .int .i64 a1, .int .i64 a2, .agg #[.int .i64 t263, .int .i64 t264, .bool t265]] ?_
     with_reducible refine (impl_TwoMul.calls k t257 t258 t259 t260 t261 t262 a1 a2 t263 t264 t265 t266 t267 t268 t269 _ A10.out).mono ?_
     rintro e w88 ⟨rfl, hb⟩; refine ⟨_, rfl, ?_⟩; replace BK241 := bb_ BK241 hb; replace BK242 := bb_ BK242 hb; replace BK256 := bb_ BK256 hb; replace BK270 := bb_ BK270 hb; replace HB := bs_ HB hb; (try clear hb); refine hK.out _ _ ⟨bc_ BK241 0, bc_ BK241 1, bc_ BK241 2, bc_ BK241 3, bc_ BK241 4, bc_ BK241 5, bc_ BK242 0, bc_ BK242 1, bc_ BK242 2⟩ (fun hHeld => ?_); clear hK K
     apply norm_
     · show Act.put _ (some 30) _ = _; simp only [Act.put, sA_, sZ_, sS_, i64_w, i32_w]; rfl
     refine pure_ (i := 7) (N := some 23) (v := ?_) (a' := ?_) #[true,true,true,true,true,true,true,true,false,false,true,false,false] rfl rfl (any_of HT_.out (by kernel_rfl)) (fun _ _ _ h => h) (Or.inl ⟨by rfl, ?_⟩) ?_ ?_; rotate_left
     ·
      intro w'; go_simp
      with_reducible rfl
     rotate_left
     · simp only [Act.put, sA_, sZ_, sS_, i64_w, i32_w]; rfl
     refine pure_ (i := 8) (N := some 31) (v := ?_) (a' := ?_) #[true,true,true,true,true,true,true,true,true,false,true,false,false] rfl rfl (any_of HT_.out (by kernel_rfl)) (fun _ _ _ h => h) (Or.inl ⟨by rfl, ?_⟩) ?_ ?_; rotate_left
     ·
      intro w'; go_simp
      with_reducible rfl
     rotate_left
     · simp only [Act.put, sA_, sZ_, sS_, i64_w, i32_w]; rfl
     refine pure_ (i := 9) (N := some 32) (v := ?_) (a' := ?_) #[true,true,true,true,true,true,true,true,true,true,true,false,false] rfl rfl (any_of HT_.out (by kernel_rfl)) (fun _ _ _ h => h) (Or.inl ⟨by rfl, ?_⟩) ?_ ?_; rotate_left
     ·
      intro w'; go_simp
      with_reducible rfl
     rotate_left
     · simp only [Act.put, sA_, sZ_, sS_, i64_w, i32_w]; rfl
     exact norm_ (by simp only [putAll, Act.put, sA_, sZ_, sS_]) (hCont (gb270) _ ⟨hHeld, (bk_ BK241), (bk_ BK242), (bk_ BK256), (bk_ BK270), GW270.out, GE270.out, NB241_270.out, NB270_241.out, NB242_270.out, NB270_242.out, NB256_270.out, NB270_256.out, (bw_ HB)⟩)
   ·
    refine box_step ?hg (N := 11) ?hd (cs := #[.int .i64 0, .int .i64 0, .bool false]) (t := 26) ?hr ?_; (case hd => rfl); (case hg => rfl); (case hr => first | (go_simp; done) | (go_simp; rfl))
    intro gb270 hg w85 hbox hb; have n0_ := bb_ BK241 hb; have n1_ := bb_ BK242 hb; have n2_ := bb_ BK256 hb; have n3_ := bs_ HB hb; have n4_ := Aside0.mk hbox; have n5_ := ge_ HB hg; have n6_ := ge_ HB hg; have n7_ := nl_ BK241 hg; have n8_ := nr_ BK241 hg; have n9_ := nl_ BK242 hg; have n10_ := nr_ BK242 hg; have n11_ := nl_ BK256 hg; have n12_ := nr_ BK256 hg; clear BK241 BK242 BK256 HB; have BK241 := n0_; have BK242 := n1_; have BK256 := n2_; have HB := n3_; have BK270 := n4_; have GW270 := n5_; have GE270 := n6_; have NB241_270 := n7_; have NB270_241 := n8_; have NB242_270 := n9_; have NB270_242 := n10_; have NB256_270 := n11_; have NB270_256 := n12_; clear n0_ n1_ n2_ n3_ n4_ n5_ n6_ n7_ n8_ n9_ n10_ n11_ n12_; clear hb hbox hg; refine hK.out _ _ ⟨bc_ BK241 0, bc_ BK241 1, bc_ BK241 2, bc_ BK241 3, bc_ BK241 4, bc_ BK241 5, bc_ BK242 0, bc_ BK242 1, bc_ BK242 2⟩ (fun hHeld => ?_); clear hK K
    apply norm_
    · show Act.put _ (some 11) _ = _; simp only [Act.put, sA_, sZ_, sS_, i64_w, i32_w]; rfl
    refine one_ (i := 1) (N := some 25) #[true,true,true,true,true,false,false,false,false,false,true,false,false] rfl rfl (one_of HT_.out (by kernel_rfl)) (by decide) (fun K hK => ?_); refine gs_ Try.func15 #[.agg #[.int .i64 a0_0, .int .i64 a0_1, .int .i64 a0_2, .int .i64 a0_3, .int .i64 a0_4, .int .i64 a0_5]] ?_
    with_reducible refine (laws_toCurve.calls a0_0 a0_1 a0_2 a0_3 a0_4 a0_5 t257 t258 t259 t260 t261 t262 _ A8.out).mono ?_
    rintro e w86 ⟨rfl, hb⟩; refine ⟨_, rfl, ?_⟩; replace BK241 := bb_ BK241 hb; replace BK242 := bb_ BK242 hb; replace BK256 := bb_ BK256 hb; replace BK270 := bb_ BK270 hb; replace HB := bs_ HB hb; (try clear hb); refine hK.out _ _ ⟨bc_ BK241 0, bc_ BK241 1, bc_ BK241 2, bc_ BK241 3, bc_ BK241 4, bc_ BK241 5, bc_ BK242 0, bc_ BK242 1, bc_ BK242 2⟩ (fun hHeld => ?_); clear hK K
    apply norm_
    · show Act.put _ (some 25) _ = _; simp only [Act.put, sA_, sZ_, sS_, i64_w, i32_w]; rfl
    refine one_ (i := 5) (N := some 29) #[true,true,true,true,true,true,false,false,false,false,true,false,false] rfl rfl (one_of HT_.out (by kernel_rfl)) (by decide) (fun K hK => ?_); refine gs_ Try.func16 #[.agg #[.int .i64 a3_0, .int .i64 a3_1, .bool a3_2]] ?_
    with_reducible refine (laws_toPoint.calls a3_0 a3_1 a3_2 t263 t264 t265 _ A9.out).mono ?_
    rintro e w87 ⟨rfl, hb⟩; refine ⟨_, rfl, ?_⟩; replace BK241 := bb_ BK241 hb; replace BK242 := bb_ BK242 hb; replace BK256 := bb_ BK256 hb; replace BK270 := bb_ BK270 hb; replace HB := bs_ HB hb; (try clear hb); refine hK.out _ _ ⟨bc_ BK241 0, bc_ BK241 1, bc_ BK241 2, bc_ BK241 3, bc_ BK241 4, bc_ BK241 5, bc_ BK242 0, bc_ BK242 1, bc_ BK242 2⟩ (fun hHeld => ?_); clear hK K
    apply norm_
    · show Act.put _ (some 29) _ = _; simp only [Act.put, sA_, sZ_, sS_, i64_w, i32_w]; rfl
    refine one_ (i := 6) (N := some 30) #[true,true,true,true,true,true,true,false,false,false,true,false,false] rfl rfl (one_of HT_.out (by kernel_rfl)) (by decide) (fun K hK => ?_); refine gs_ Try.func22 #[.agg #[.int .i64 t257, .int .i64 t258, .int .i64 t259, .int .i64 t260, .int .i64 t261, .int .i64 t262], .int .i64 a1, .int .i64 a2, .agg #[.int .i64 t263, .int .i64 t264, .bool t265]] ?_
    with_reducible refine (impl_TwoMul.calls k t257 t258 t259 t260 t261 t262 a1 a2 t263 t264 t265 t266 t267 t268 t269 _ A10.out).mono ?_
    rintro e w88 ⟨rfl, hb⟩; refine ⟨_, rfl, ?_⟩; replace BK241 := bb_ BK241 hb; replace BK242 := bb_ BK242 hb; replace BK256 := bb_ BK256 hb; replace BK270 := bb_ BK270 hb; replace HB := bs_ HB hb; (try clear hb); refine hK.out _ _ ⟨bc_ BK241 0, bc_ BK241 1, bc_ BK241 2, bc_ BK241 3, bc_ BK241 4, bc_ BK241 5, bc_ BK242 0, bc_ BK242 1, bc_ BK242 2⟩ (fun hHeld => ?_); clear hK K
    apply norm_
    · show Act.put _ (some 30) _ = _; simp only [Act.put, sA_, sZ_, sS_, i64_w, i32_w]; rfl
    refine pure_ (i := 7) (N := some 23) (v := ?_) (a' := ?_) #[true,true,true,true,true,true,true,true,false,false,true,false,false] rfl rfl (any_of HT_.out (by kernel_rfl)) (fun _ _ _ h => h) (Or.inl ⟨by rfl, ?_⟩) ?_ ?_; rotate_left
    ·
     intro w'; go_simp
     with_reducible rfl
    rotate_left
    · simp only [Act.put, sA_, sZ_, sS_, i64_w, i32_w]; rfl
    refine pure_ (i := 8) (N := some 31) (v := ?_) (a' := ?_) #[true,true,true,true,true,true,true,true,true,false,true,false,false] rfl rfl (any_of HT_.out (by kernel_rfl)) (fun _ _ _ h => h) (Or.inl ⟨by rfl, ?_⟩) ?_ ?_; rotate_left
    ·
     intro w'; go_simp
     with_reducible rfl
    rotate_left
    · simp only [Act.put, sA_, sZ_, sS_, i64_w, i32_w]; rfl
    refine pure_ (i := 9) (N := some 32) (v := ?_) (a' := ?_) #[true,true,true,true,true,true,true,true,true,true,true,false,false] rfl rfl (any_of HT_.out (by kernel_rfl)) (fun _ _ _ h => h) (Or.inl ⟨by rfl, ?_⟩) ?_ ?_; rotate_left
    ·
     intro w'; go_simp
     with_reducible rfl
    rotate_left
    · simp only [Act.put, sA_, sZ_, sS_, i64_w, i32_w]; rfl
    exact norm_ (by simp only [putAll, Act.put, sA_, sZ_, sS_]) (hCont (gb270) _ ⟨hHeld, (bk_ BK241), (bk_ BK242), (bk_ BK256), (bk_ BK270), GW270.out, GE270.out, NB241_270.out, NB270_241.out, NB242_270.out, NB270_242.out, NB256_270.out, NB270_256.out, (bw_ HB)⟩)
  rintro gb270 w89 ⟨hS_, h0_, h1_, h2_, h3_, h4_, h5_, h6_, h7_, h8_, h9_, h10_, h11_, h12_⟩; replace BK241 := Aside0.mk h0_; replace BK242 := Aside0.mk h1_; replace BK256 := Aside0.mk h2_; have BK270 := Aside0.mk h3_; have GW270 := Aside0.mk h4_; have GE270 := Aside0.mk h5_; have NB241_270 := Aside0.mk h6_; have NB270_241 := Aside0.mk h7_; have NB242_270 := Aside0.mk h8_; have NB270_242 := Aside0.mk h9_; have NB256_270 := Aside0.mk h10_; have NB270_256 := Aside0.mk h11_; replace HB := Aside0.mk h12_; clear h0_ h1_ h2_ h3_ h4_ h5_ h6_ h7_ h8_ h9_ h10_ h11_ h12_; have hHeld := hS_
  apply norm_
  · simp only [putAll, Act.put, sA_, sZ_, sS_]; rfl
  refine one_ (i := 11) (N := none) #[true,true,true,true,true,true,true,true,true,true,true,true,false] rfl rfl (one_of HT_.out (by kernel_rfl)) (by decide) (fun K hK => ?_)
  have hs90 : w89.cell? ⟨gb270, 0, none⟩ = some (.int .i64 0) := bc_ BK270 0
  have hfs90 := blk_frozen BK270.out 0; have hns90_0 := NB241_270.out; have hns90_1 := NB242_270.out; have hns90_2 := NB256_270.out; have hms90_0 := NB270_241.out; have hms90_1 := NB270_242.out; have hms90_2 := NB270_256.out
  have hs91 : w89.cell? ⟨gb270, 1, none⟩ = some (.int .i64 0) := bc_ BK270 1
  have hfs91 := blk_frozen BK270.out 1; have hns91_0 := NB241_270.out; have hns91_1 := NB242_270.out; have hns91_2 := NB256_270.out; have hms91_0 := NB270_241.out; have hms91_1 := NB270_242.out; have hms91_2 := NB270_256.out
  have hs92 : w89.cell? ⟨gb270, 2, none⟩ = some (.bool false) := bc_ BK270 2
  have hfs92 := blk_frozen BK270.out 2; have hns92_0 := NB241_270.out; have hns92_1 := NB242_270.out; have hns92_2 := NB256_270.out; have hms92_0 := NB270_241.out; have hms92_1 := NB270_242.out; have hms92_2 := NB270_256.out; refine skip_ (w1 := ?_) (by rfl) rfl ?_ ?_; rotate_left
  · go_simp; rfl
  refine hK.out _ _ ⟨((cell_far (p := ⟨gb270, _, none⟩) NB241_270.out _).trans (((cell_far (p := ⟨gb270, _, none⟩) NB241_270.out _).trans (((cell_far (p := ⟨gb270, _, none⟩) NB241_270.out _).trans (hHeld.1)))))), ((cell_far (p := ⟨gb270, _, none⟩) NB241_270.out _).trans (((cell_far (p := ⟨gb270, _, none⟩) NB241_270.out _).trans (((cell_far (p := ⟨gb270, _, none⟩) NB241_270.out _).trans (hHeld.2.1)))))), ((cell_far (p := ⟨gb270, _, none⟩) NB241_270.out _).trans (((cell_far (p := ⟨gb270, _, none⟩) NB241_270.out _).trans (((cell_far (p := ⟨gb270, _, none⟩) NB241_270.out _).trans (hHeld.2.2.1)))))), ((cell_far (p := ⟨gb270, _, none⟩) NB241_270.out _).trans (((cell_far (p := ⟨gb270, _, none⟩) NB241_270.out _).trans (((cell_far (p := ⟨gb270, _, none⟩) NB241_270.out _).trans (hHeld.2.2.2.1)))))), ((cell_far (p := ⟨gb270, _, none⟩) NB241_270.out _).trans (((cell_far (p := ⟨gb270, _, none⟩) NB241_270.out _).trans (((cell_far (p := ⟨gb270, _, none⟩) NB241_270.out _).trans (hHeld.2.2.2.2.1)))))), ((cell_far (p := ⟨gb270, _, none⟩) NB241_270.out _).trans (((cell_far (p := ⟨gb270, _, none⟩) NB241_270.out _).trans (((cell_far (p := ⟨gb270, _, none⟩) NB241_270.out _).trans (hHeld.2.2.2.2.2.1)))))), ((cell_far (p := ⟨gb270, _, none⟩) NB242_270.out _).trans (((cell_far (p := ⟨gb270, _, none⟩) NB242_270.out _).trans (((cell_far (p := ⟨gb270, _, none⟩) NB242_270.out _).trans (hHeld.2.2.2.2.2.2.1)))))), ((cell_far (p := ⟨gb270, _, none⟩) NB242_270.out _).trans (((cell_far (p := ⟨gb270, _, none⟩) NB242_270.out _).trans (((cell_far (p := ⟨gb270, _, none⟩) NB242_270.out _).trans (hHeld.2.2.2.2.2.2.2.1)))))), ((cell_far (p := ⟨gb270, _, none⟩) NB242_270.out _).trans (((cell_far (p := ⟨gb270, _, none⟩) NB242_270.out _).trans (((cell_far (p := ⟨gb270, _, none⟩) NB242_270.out _).trans (hHeld.2.2.2.2.2.2.2.2))))))⟩ (fun hHeld => ?_); clear hK K; refine pure_ (i := 12) (N := some 12) (v := ?_) (a' := ?_) #[true,true,true,true,true,true,true,true,true,true,true,true,true] rfl rfl (any_of HT_.out (by kernel_rfl)) (fun _ _ _ h => h) (Or.inl ⟨by rfl, ?_⟩) ?_ ?_; rotate_left
  ·
   intro w'; go_simp
   with_reducible rfl
  rotate_left
  · simp only [Act.put, sA_, sZ_, sS_, i64_w, i32_w]; rfl
  refine done_ (done_of HT_.out (by kernel_rfl)) ?_; have hnb93 := NB270_241.out; have hnc93 := NB241_270.out; have hnb94 := NB270_242.out; have hnc94 := NB242_270.out; have hnb95 := NB270_256.out; have hnc95 := NB256_270.out
  have hcz96_0 : w89.cell? ⟨gb270, 0, none⟩ = some (.int .i64 0) := bc_ BK270 0
  have hcz96_1 : w89.cell? ⟨gb270, 1, none⟩ = some (.int .i64 0) := bc_ BK270 1
  have hcz96_2 : w89.cell? ⟨gb270, 2, none⟩ = some (.bool false) := bc_ BK270 2
  have hfz96_0 := blk_frozen BK270.out 0; have hfz96_1 := blk_frozen BK270.out 1; have hfz96_2 := blk_frozen BK270.out 2; have hnb97 := NB256_241.out; have hnc97 := NB241_256.out; have hnb98 := NB256_242.out; have hnc98 := NB242_256.out
  have hcz99_0 : w89.cell? ⟨gb256, 0, none⟩ = some (.int .i64 t252) := bc_ BK256 0
  have hcz99_1 : w89.cell? ⟨gb256, 1, none⟩ = some (.int .i64 t253) := bc_ BK256 1
  have hcz99_2 : w89.cell? ⟨gb256, 2, none⟩ = some (.bool t254) := bc_ BK256 2
  have hfz99_0 := blk_frozen BK256.out 0; have hfz99_1 := blk_frozen BK256.out 1; have hfz99_2 := blk_frozen BK256.out 2
  try go_wp2_with (first | ((with_reducible refine gate_callee (f := 18) rfl ?_); refine goesL_ (some 35) rfl rfl Try.func18 (by kernel_rfl) rfl #[.agg #[.int .i64 t266, .int .i64 t267, .bool t268], .agg #[.int .i64 t252, .int .i64 t253, .bool t254]] rfl (by (try simp only [List.map_toArray, List.map_cons, List.map_nil]); first | done | rfl | (simp only [List.length_drop, List.length_take]; rfl)) ?_; (with_reducible refine (laws_eqPoint.calls t266 t267 t268 t252 t253 t254 false _ A11.out).mono ?_); rintro e w100 ⟨rfl, hb⟩; refine ⟨_, rfl, ?_⟩; have n0_ := Aside0.mk (blk_below (g := gb241) (o := .cells #[.int .i64 a0_0, .int .i64 a0_1, .int .i64 a0_2, .int .i64 a0_3, .int .i64 a0_4, .int .i64 a0_5] 23 (0, 0)) (by (with_reducible repeat (first | refine blk_drewN ?_ _ | refine blk_drew ?_ | refine blk_alloc ?_ _)); refine blk_far ?_ NB241_270.out _; (with_reducible repeat (first | refine blk_drewN ?_ _ | refine blk_drew ?_ | refine blk_alloc ?_ _)); refine blk_far ?_ NB241_270.out _; (with_reducible repeat (first | refine blk_drewN ?_ _ | refine blk_drew ?_ | refine blk_alloc ?_ _)); refine blk_far ?_ NB241_270.out _; (with_reducible repeat (first | refine blk_drewN ?_ _ | refine blk_drew ?_ | refine blk_alloc ?_ _)); exact BK241.out) hb); have n1_ := Aside0.mk (blk_below (g := gb242) (o := .cells #[.int .i64 a3_0, .int .i64 a3_1, .bool a3_2] 25 (0, 0)) (by (with_reducible repeat (first | refine blk_drewN ?_ _ | refine blk_drew ?_ | refine blk_alloc ?_ _)); refine blk_far ?_ NB242_270.out _; (with_reducible repeat (first | refine blk_drewN ?_ _ | refine blk_drew ?_ | refine blk_alloc ?_ _)); refine blk_far ?_ NB242_270.out _; (with_reducible repeat (first | refine blk_drewN ?_ _ | refine blk_drew ?_ | refine blk_alloc ?_ _)); refine blk_far ?_ NB242_270.out _; (with_reducible repeat (first | refine blk_drewN ?_ _ | refine blk_drew ?_ | refine blk_alloc ?_ _)); exact BK242.out) hb); have n2_ := Aside0.mk (blk_below (g := gb256) (o := .cells #[.int .i64 t252, .int .i64 t253, .bool t254] 26 (0, 0)) (by (with_reducible repeat (first | refine blk_drewN ?_ _ | refine blk_drew ?_ | refine blk_alloc ?_ _)); refine blk_far ?_ NB256_270.out _; (with_reducible repeat (first | refine blk_drewN ?_ _ | refine blk_drew ?_ | refine blk_alloc ?_ _)); refine blk_far ?_ NB256_270.out _; (with_reducible repeat (first | refine blk_drewN ?_ _ | refine blk_drew ?_ | refine blk_alloc ?_ _)); refine blk_far ?_ NB256_270.out _; (with_reducible repeat (first | refine blk_drewN ?_ _ | refine blk_drew ?_ | refine blk_alloc ?_ _)); exact BK256.out) hb); have n3_ := Aside0.mk (blk_below (g := gb270) (o := .cells #[.int .i64 t266, .int .i64 t267, .bool t268] 26 (0, 0)) (by (with_reducible repeat (first | refine blk_drewN ?_ _ | refine blk_drew ?_ | refine blk_alloc ?_ _)); refine blk_put (cs := #[.int .i64 t266, .int .i64 t267, .bool false]) ?_ 2 _ rfl; (with_reducible repeat (first | refine blk_drewN ?_ _ | refine blk_drew ?_ | refine blk_alloc ?_ _)); refine blk_put (cs := #[.int .i64 t266, .int .i64 0, .bool false]) ?_ 1 _ rfl; (with_reducible repeat (first | refine blk_drewN ?_ _ | refine blk_drew ?_ | refine blk_alloc ?_ _)); refine blk_put (cs := #[.int .i64 0, .int .i64 0, .bool false]) ?_ 0 _ rfl; (with_reducible repeat (first | refine blk_drewN ?_ _ | refine blk_drew ?_ | refine blk_alloc ?_ _)); exact BK270.out) hb); have n4_ := bs_ HB hb; clear BK241; clear BK242; clear BK256; clear BK270; clear HB; have BK241 := n0_; have BK242 := n1_; have BK256 := n2_; have BK270 := n3_; have HB := n4_; clear n0_ n1_ n2_ n3_ n4_; (try clear hb); (try clear hb2); (try clear hk); (try clear hi)))
  go_ret
  exact ⟨by first | rfl | (simp [errW_none, errW_some] <;> rfl) | (simp [*, errW_none, errW_some] <;> rfl), by repeat (first | (with_reducible first | exact HB.out | apply below_alloc | apply pw_below_drewN | apply below_drew1 | refine below_set ?_ GE241.out | refine below_set ?_ GE242.out | refine below_set ?_ GE256.out | refine below_set ?_ GE270.out) | exact HB.out)⟩

/-- THE ONE PURE STATEMENT of laws_FnExactTwoMul: yours. -/
def laws_FnExactTwoMul.Pure : Prop := ∀ (a0_0 : Int) (a0_1 : Int) (a0_2 : Int) (a0_3 : Int) (a0_4 : Int) (a0_5 : Int) (a1 : Int) (a2 : Int) (a3_0 : Int) (a3_1 : Int) (a3_2 : Bool), (Lit.int .i64 a0_0).wf = true → (Lit.int .i64 a0_1).wf = true → (Lit.int .i64 a0_2).wf = true → (Lit.int .i64 a0_3).wf = true → (Lit.int .i64 a0_4).wf = true → (Lit.int .i64 a0_5).wf = true → (Lit.int .i64 a1).wf = true → (Lit.int .i64 a2).wf = true → (Lit.int .i64 a3_0).wf = true → (Lit.int .i64 a3_1).wf = true → ∃ k, laws_FnExactTwoMul.f k a0_0 a0_1 a0_2 a0_3 a0_4 a0_5 a1 a2 a3_0 a3_1 a3_2 = some true
theorem laws_FnExactTwoMul.walk (P : laws_FnExactTwoMul.Pure) (a0_0 : Int) (a0_1 : Int) (a0_2 : Int) (a0_3 : Int) (a0_4 : Int) (a0_5 : Int) (a1 : Int) (a2 : Int) (a3_0 : Int) (a3_1 : Int) (a3_2 : Bool) (w : World) (w0_0 : (Lit.int .i64 a0_0).wf = true) (w0_1 : (Lit.int .i64 a0_1).wf = true) (w0_2 : (Lit.int .i64 a0_2).wf = true) (w0_3 : (Lit.int .i64 a0_3).wf = true) (w0_4 : (Lit.int .i64 a0_4).wf = true) (w0_5 : (Lit.int .i64 a0_5).wf = true) (w1 : (Lit.int .i64 a1).wf = true) (w2 : (Lit.int .i64 a2).wf = true) (w3_0 : (Lit.int .i64 a3_0).wf = true) (w3_1 : (Lit.int .i64 a3_1).wf = true) :
  Calls Try.prog 5 #[.agg #[.int .i64 a0_0, .int .i64 a0_1, .int .i64 a0_2, .int .i64 a0_3, .int .i64 a0_4, .int .i64 a0_5], .int .i64 a1, .int .i64 a2, .agg #[.int .i64 a3_0, .int .i64 a3_1, .bool a3_2]] w fun e w' => e = .returned (.bool true) ∧ Below w.heap.size w w' := by
 obtain ⟨k, h⟩ := P a0_0 a0_1 a0_2 a0_3 a0_4 a0_5 a1 a2 a3_0 a3_1 a3_2 w0_0 w0_1 w0_2 w0_3 w0_4 w0_5 w1 w2 w3_0 w3_1; refine (laws_FnExactTwoMul.calls k a0_0 a0_1 a0_2 a0_3 a0_4 a0_5 a1 a2 a3_0 a3_1 a3_2 true w h).mono ?_; rintro e w' ⟨rfl, hd⟩; exact ⟨rfl, hd⟩

end Go.Proofs.Ytohplbcbkggjaac.PFnExactTwoMul
