-- Written for this claim by a program of this session.
import Derived.Test.YtohplbcbkggjaabPFnExactEdMulx0
import Derived.Test.YtohplbcbkggjaabPFnExactEdMulx2
import Derived.Test.YtohplbcbkggjaabPFnExactEdMulx5
import Derived.Test.YtohplbcbkggjaabPFnExactEdMulx8
namespace Go.Proofs.Ytohplbcbkggjaab.PFnExactEdMul
open Go.RowKit Go.Proofs.YtohplbcbkggjaabW.PrintWords Go.Proofs.YtohplbcbkggjaabW.PrintLast Go.Proofs.YtohplbcbkggjaabW.PrintMore
attribute [local go_sem] max2_int min2_int max_two min_two max_three min_three max_four min_four   -- for this text's walks alone
set_option linter.unusedVariables false
set_option linter.unusedSimpArgs false

/-! ### laws_FnExactEdMul: function 12 -/
def laws_FnExactEdMul.f (k : Nat) (a0_0 : Int) (a0_1 : Int) (a0_2 : Int) (a0_3 : Int) (a0_4 : Int) (a1 : Int) (a2_0 : Int) (a2_1 : Int) : Option (Bool) := (laws_toEd.f a0_0 a0_1 a0_2 a0_3 a0_4).bind fun bt214 => ((laws_toPair.f a2_0 a2_1).bind fun bt219 => ((spec_EdMul.f k bt214.1 bt214.2.1 bt214.2.2.1 bt214.2.2.2.1 bt214.2.2.2.2 a1 bt219.1 bt219.2).bind fun bt221 => ((laws_toEd.f a0_0 a0_1 a0_2 a0_3 a0_4).bind fun bt225 => ((laws_toPair.f a2_0 a2_1).bind fun bt230 => ((impl_EdMul.f k bt225.1 bt225.2.1 bt225.2.2.1 bt225.2.2.2.1 bt225.2.2.2.2 a1 bt230.1 bt230.2).bind fun bt232 => ((laws_eqPair.f bt232.1 bt232.2.1 bt221.1 bt221.2.1).bind fun t236 => (if t236 = true then (if (bt232.2.2 != bt221.2.2) = true then (some false) else (some true)) else (some false))))))))
theorem laws_FnExactEdMul.mono : ∀ a0 a1 a2 a3 a4 a5 a6 a7 k, LeO (laws_FnExactEdMul.f k a0 a1 a2 a3 a4 a5 a6 a7) (laws_FnExactEdMul.f (k + 1) a0 a1 a2 a3 a4 a5 a6 a7) := by
 intro a0 a1 a2 a3 a4 a5 a6 a7 k
 unfold laws_FnExactEdMul.f
 repeat' first
   | (with_reducible exact impl_EdMul.mono _ _ _ _ _ _ _ _ _)
   | (with_reducible exact spec_EdMul.mono _ _ _ _ _ _ _ _ _)
   | (with_reducible exact LeO.refl _)
   | (with_reducible exact LeO.none _)
   | (with_reducible refine LeO.ite ?_ ?_)
   | (with_reducible refine LeO.bind ?_ (fun _ => ?_))
   | exact impl_EdMul.mono _ _ _ _ _ _ _ _ _
   | exact spec_EdMul.mono _ _ _ _ _ _ _ _ _
   | exact LeO.none _
   | refine LeO.ite ?_ ?_
   | refine LeO.bind ?_ (fun _ => ?_)
def laws_FnExactEdMul.T1 : Bool × List (List Nat × List Nat) := (true, [([], []), ([0], [0]), ([], []), ([], []), ([3, 1], [3]), ([1, 2, 4, 4], [1, 2, 4]), ([5], [5]), ([6], [6]), ([6], [6]), ([], []), ([9, 7, 5, 0, 1, 2, 3, 4, 5, 6, 7, 9], [7, 9]), ([8, 10, 0, 1, 2, 3, 4, 5, 6, 7, 8, 9, 10], [8])])
def laws_FnExactEdMul.B1 : List Nat := [0, 1, 0, 0, 11, 31, 63, 127, 127, 0, 767, 2047]
theorem laws_FnExactEdMul.tab1 : rtab .any (opsOf Try.f12 1) = laws_FnExactEdMul.T1 := by kernel_rfl
theorem laws_FnExactEdMul.bits1 : waitsOk laws_FnExactEdMul.T1.2 laws_FnExactEdMul.B1 = true := by kernel_rfl
def laws_FnExactEdMul.T2 : Bool × List (List Nat × List Nat) := (true, [([], []), ([0], [0]), ([], []), ([], []), ([3, 1], [3]), ([1, 2, 4, 4], [1, 2, 4]), ([5], [5]), ([6], [6]), ([6], [6]), ([], []), ([9, 7, 5, 0, 1, 2, 3, 4, 5, 6, 7, 9], [7, 9]), ([8, 10, 0, 1, 2, 3, 4, 5, 6, 7, 8, 9, 10], [8])])
def laws_FnExactEdMul.B2 : List Nat := [0, 1, 0, 0, 11, 31, 63, 127, 127, 0, 767, 2047]
theorem laws_FnExactEdMul.tab2 : rtab .any (opsOf Try.f12 2) = laws_FnExactEdMul.T2 := by kernel_rfl
theorem laws_FnExactEdMul.bits2 : waitsOk laws_FnExactEdMul.T2.2 laws_FnExactEdMul.B2 = true := by kernel_rfl
set_option maxHeartbeats 8000000 in
set_option maxRecDepth 100000 in
theorem laws_FnExactEdMul.calls (k : Nat) (a0_0 : Int) (a0_1 : Int) (a0_2 : Int) (a0_3 : Int) (a0_4 : Int) (a1 : Int) (a2_0 : Int) (a2_1 : Int) (r : Bool) (w : World) (h : laws_FnExactEdMul.f k a0_0 a0_1 a0_2 a0_3 a0_4 a1 a2_0 a2_1 = some r) :
  Calls Try.prog 12 #[.agg #[.int .i64 a0_0, .int .i64 a0_1, .int .i64 a0_2, .int .i64 a0_3, .int .i64 a0_4], .int .i64 a1, .agg #[.int .i64 a2_0, .int .i64 a2_1]] w fun e w' => e = .returned (.bool r) ∧ Below w.heap.size w w' := by
 have hu35 := Try.underlying35; have hu47 := Try.underlying47; have hu49 := Try.underlying49; have HB := Aside0.mk (Below.refl w.heap.size w)
 have H : ((laws_toEd.f a0_0 a0_1 a0_2 a0_3 a0_4).bind fun bt214 => ((laws_toPair.f a2_0 a2_1).bind fun bt219 => ((spec_EdMul.f k bt214.1 bt214.2.1 bt214.2.2.1 bt214.2.2.2.1 bt214.2.2.2.2 a1 bt219.1 bt219.2).bind fun bt221 => ((laws_toEd.f a0_0 a0_1 a0_2 a0_3 a0_4).bind fun bt225 => ((laws_toPair.f a2_0 a2_1).bind fun bt230 => ((impl_EdMul.f k bt225.1 bt225.2.1 bt225.2.2.1 bt225.2.2.2.1 bt225.2.2.2.2 a1 bt230.1 bt230.2).bind fun bt232 => ((laws_eqPair.f bt232.1 bt232.2.1 bt221.1 bt221.2.1).bind fun t236 => (if t236 = true then (if (bt232.2.2 != bt221.2.2) = true then (some false) else (some true)) else (some false))))))))) = some r := h
 clear h; replace H := Option.bind_eq_some_iff.mp H; obtain ⟨⟨t214, t215, t216, t217, t218⟩, A40, H⟩ := H
 replace H : ((laws_toPair.f a2_0 a2_1).bind fun bt219 => ((spec_EdMul.f k t214 t215 t216 t217 t218 a1 bt219.1 bt219.2).bind fun bt221 => ((laws_toEd.f a0_0 a0_1 a0_2 a0_3 a0_4).bind fun bt225 => ((laws_toPair.f a2_0 a2_1).bind fun bt230 => ((impl_EdMul.f k bt225.1 bt225.2.1 bt225.2.2.1 bt225.2.2.2.1 bt225.2.2.2.2 a1 bt230.1 bt230.2).bind fun bt232 => ((laws_eqPair.f bt232.1 bt232.2.1 bt221.1 bt221.2.1).bind fun t236 => (if t236 = true then (if (bt232.2.2 != bt221.2.2) = true then (some false) else (some true)) else (some false)))))))) = some r := H
 have A4 := Aside0.mk A40; clear A40; replace H := Option.bind_eq_some_iff.mp H; obtain ⟨⟨t219, t220⟩, A50, H⟩ := H
 replace H : ((spec_EdMul.f k t214 t215 t216 t217 t218 a1 t219 t220).bind fun bt221 => ((laws_toEd.f a0_0 a0_1 a0_2 a0_3 a0_4).bind fun bt225 => ((laws_toPair.f a2_0 a2_1).bind fun bt230 => ((impl_EdMul.f k bt225.1 bt225.2.1 bt225.2.2.1 bt225.2.2.2.1 bt225.2.2.2.2 a1 bt230.1 bt230.2).bind fun bt232 => ((laws_eqPair.f bt232.1 bt232.2.1 bt221.1 bt221.2.1).bind fun t236 => (if t236 = true then (if (bt232.2.2 != bt221.2.2) = true then (some false) else (some true)) else (some false))))))) = some r := H
 have A5 := Aside0.mk A50; clear A50; replace H := Option.bind_eq_some_iff.mp H; obtain ⟨⟨t221, t222, t223⟩, A60, H⟩ := H
 replace H : ((laws_toEd.f a0_0 a0_1 a0_2 a0_3 a0_4).bind fun bt225 => ((laws_toPair.f a2_0 a2_1).bind fun bt230 => ((impl_EdMul.f k bt225.1 bt225.2.1 bt225.2.2.1 bt225.2.2.2.1 bt225.2.2.2.2 a1 bt230.1 bt230.2).bind fun bt232 => ((laws_eqPair.f bt232.1 bt232.2.1 t221 t222).bind fun t236 => (if t236 = true then (if (bt232.2.2 != t223) = true then (some false) else (some true)) else (some false)))))) = some r := H
 have A6 := Aside0.mk A60; clear A60; replace H := Option.bind_eq_some_iff.mp H; obtain ⟨⟨t225, t226, t227, t228, t229⟩, A70, H⟩ := H
 replace H : ((laws_toPair.f a2_0 a2_1).bind fun bt230 => ((impl_EdMul.f k t225 t226 t227 t228 t229 a1 bt230.1 bt230.2).bind fun bt232 => ((laws_eqPair.f bt232.1 bt232.2.1 t221 t222).bind fun t236 => (if t236 = true then (if (bt232.2.2 != t223) = true then (some false) else (some true)) else (some false))))) = some r := H
 have A7 := Aside0.mk A70; clear A70; replace H := Option.bind_eq_some_iff.mp H; obtain ⟨⟨t230, t231⟩, A80, H⟩ := H
 replace H : ((impl_EdMul.f k t225 t226 t227 t228 t229 a1 t230 t231).bind fun bt232 => ((laws_eqPair.f bt232.1 bt232.2.1 t221 t222).bind fun t236 => (if t236 = true then (if (bt232.2.2 != t223) = true then (some false) else (some true)) else (some false)))) = some r := H
 have A8 := Aside0.mk A80; clear A80; replace H := Option.bind_eq_some_iff.mp H; obtain ⟨⟨t232, t233, t234⟩, A90, H⟩ := H
 replace H : ((laws_eqPair.f t232 t233 t221 t222).bind fun t236 => (if t236 = true then (if (t234 != t223) = true then (some false) else (some true)) else (some false))) = some r := H
 have A9 := Aside0.mk A90; clear A90; replace H := Option.bind_eq_some_iff.mp H; obtain ⟨t236, A100, H⟩ := H
 replace H : (if t236 = true then (if (t234 != t223) = true then (some false) else (some true)) else (some false)) = some r := H
 have A10 := Aside0.mk A100; clear A100
 by_cases c11 : t236 = true
 ·
  subst c11
  have H1 : (if (t234 != t223) = true then (some false) else (some true)) = some r := by rw [if_pos rfl] at H; exact H
  clear H; have H := H1; clear H1
  by_cases c12 : (t234 != t223) = true
  ·
   rw [if_pos c12] at H
   have c12b0 : (t234 != t223) = true := c12
   (try (have c12b1 : decide (t234 = t223) = false := by simpa using c12)); (try (have c12b2 : (t234 == t223) = false := by simpa using c12)); (try (have c12b3 : ¬ (t234 = t223) := by simpa using c12)); clear c12; obtain rfl := Option.some.inj H
   go_enter Try.func12, Try.ntmps12
   try go_wp2_with (first | ((with_reducible refine gate_dst (N := 3) rfl ?_); refine box_event ?hg (N := 3) ?hd (cs := #[.int .i64 a0_0, .int .i64 a0_1, .int .i64 a0_2, .int .i64 a0_3, .int .i64 a0_4]) (t := 35) ?hr ?_; (case hd => rfl); (case hg => rfl); (case hr => first | (go_simp; done) | (go_simp; rfl)); intro gb212 hg w13 hbox hb; have n0_ := bs_ HB hb; have n1_ := Aside0.mk hbox; have n2_ := ge_ HB hg; have n3_ := ge_ HB hg; clear HB; have HB := n0_; have BK212 := n1_; have GW212 := n2_; have GE212 := n3_; clear n0_ n1_ n2_ n3_; clear hb hbox hg) | ((with_reducible refine gate_dst (N := 5) rfl ?_); refine box_event ?hg (N := 5) ?hd (cs := #[.int .i64 a2_0, .int .i64 a2_1]) (t := 47) ?hr ?_; (case hd => rfl); (case hg => rfl); (case hr => first | (go_simp; done) | (go_simp; rfl)); intro gb213 hg w14 hbox hb; have n0_ := bb_ BK212 hb; have n1_ := bs_ HB hb; have n2_ := Aside0.mk hbox; have n3_ := ge_ HB hg; have n4_ := ge_ HB hg; have n5_ := nl_ BK212 hg; have n6_ := nr_ BK212 hg; clear BK212; clear HB; have BK212 := n0_; have HB := n1_; have BK213 := n2_; have GW213 := n3_; have GE213 := n4_; have NB212_213 := n5_; have NB213_212 := n6_; clear n0_ n1_ n2_ n3_ n4_ n5_ n6_; clear hb hbox hg))
   replace BK212 := Aside0.mk (blk_drew BK212.out); replace BK213 := Aside0.mk (blk_drew BK213.out); replace HB := Aside0.mk (below_drew1 HB.out); refine start_ (n := 12) (S := fun w' => w'.cell? ⟨gb212, 0, none⟩ = some (.int .i64 a0_0) ∧ w'.cell? ⟨gb212, 1, none⟩ = some (.int .i64 a0_1) ∧ w'.cell? ⟨gb212, 2, none⟩ = some (.int .i64 a0_2) ∧ w'.cell? ⟨gb212, 3, none⟩ = some (.int .i64 a0_3) ∧ w'.cell? ⟨gb212, 4, none⟩ = some (.int .i64 a0_4) ∧ w'.cell? ⟨gb213, 0, none⟩ = some (.int .i64 a2_0) ∧ w'.cell? ⟨gb213, 1, none⟩ = some (.int .i64 a2_1)) (ds := []) #[false,false,false,false,false,false,false,false,false,false,false,false] (by kernel_rfl) rfl rfl ⟨bc_ BK212 0, bc_ BK212 1, bc_ BK212 2, bc_ BK212 3, bc_ BK212 4, bc_ BK213 0, bc_ BK213 1⟩ (fun hHeld => ?_); refine with_tabW laws_FnExactEdMul.tab1 laws_FnExactEdMul.bits1 (fun HT_ HW_ => ?_)
   generalize w14.drew = w15 at BK212 BK213 HB hHeld ⊢
   refine pure_ (i := 2) (N := some 14) (v := ?_) (a' := ?_) #[false,false,true,false,false,false,false,false,false,false,false,false] rfl rfl (any_of HT_.out (by kernel_rfl)) (fun _ _ _ h => h) (Or.inl ⟨by rfl, ?_⟩) ?_ ?_; rotate_left
   ·
    intro w'; go_simp
    with_reducible rfl
   rotate_left
   · simp only [Act.put, sA_, sZ_, sS_, i64_w, i32_w]; rfl
   refine take_ (i := 0) (N := some 12) (v := ?_) (a' := ?_) #[true,false,true,false,false,false,false,false,false,false,false,false] rfl rfl (take_ofW HT_.out HW_.out (by kernel_rfl)) (fun _ _ _ h => h) (Or.inl ⟨by rfl, ?_⟩) hHeld ?_ ?_; rotate_left
   ·
    rintro w' ⟨s0, s1, s2, s3, s4, s5, s6⟩; go_simp
    with_reducible rfl
   rotate_left
   · simp only [Act.put, sA_, sZ_, sS_, i64_w, i32_w]; rfl
   refine take_ (i := 3) (N := some 15) (v := ?_) (a' := ?_) #[true,false,true,true,false,false,false,false,false,false,false,false] rfl rfl (take_ofW HT_.out HW_.out (by kernel_rfl)) (fun _ _ _ h => h) (Or.inl ⟨by rfl, ?_⟩) hHeld ?_ ?_; rotate_left
   ·
    rintro w' ⟨s0, s1, s2, s3, s4, s5, s6⟩; go_simp
    with_reducible rfl
   rotate_left
   · simp only [Act.put, sA_, sZ_, sS_, i64_w, i32_w]; rfl
   refine join_ (σ := Nat) 2 #[true,true,true,true,true,true,true,true,true,true,false,false] (fun s_ => [(13, .agg #[.int .i64 t214, .int .i64 t215, .int .i64 t216, .int .i64 t217, .int .i64 t218]), (16, .agg #[.int .i64 t219, .int .i64 t220]), (17, .tuple #[.agg #[.int .i64 t221, .int .i64 t222], .bool t223]), (7, .pointer (some ⟨s_, 0, none⟩)), (11, .tuple #[.agg #[.int .i64 t221, .int .i64 t222], .bool t223]), (18, .agg #[.int .i64 t221, .int .i64 t222]), (19, .bool t223)]) (fun s_ w' => (w'.cell? ⟨gb212, 0, none⟩ = some (.int .i64 a0_0) ∧ w'.cell? ⟨gb212, 1, none⟩ = some (.int .i64 a0_1) ∧ w'.cell? ⟨gb212, 2, none⟩ = some (.int .i64 a0_2) ∧ w'.cell? ⟨gb212, 3, none⟩ = some (.int .i64 a0_3) ∧ w'.cell? ⟨gb212, 4, none⟩ = some (.int .i64 a0_4) ∧ w'.cell? ⟨gb213, 0, none⟩ = some (.int .i64 a2_0) ∧ w'.cell? ⟨gb213, 1, none⟩ = some (.int .i64 a2_1)) ∧ (w'.heap[gb212]? = some (.cells #[.int .i64 a0_0, .int .i64 a0_1, .int .i64 a0_2, .int .i64 a0_3, .int .i64 a0_4] 35 (0, 0))) ∧ (w'.heap[gb213]? = some (.cells #[.int .i64 a2_0, .int .i64 a2_1] 47 (0, 0))) ∧ (w'.heap[s_]? = some (.cells #[.int .i64 0, .int .i64 0] 49 (0, 0))) ∧ (w.heap.size ≤ s_) ∧ (w.heap.size ≤ s_) ∧ (gb212 ≠ s_) ∧ (s_ ≠ gb212) ∧ (gb213 ≠ s_) ∧ (s_ ≠ gb213) ∧ (Below w.heap.size w w')) ?_ ?_; rotate_left
   ·
    intro hCont; refine two_ (i := 1) (j := 9) (Ni := some 13) (Nj := some 7) #[true,true,true,true,false,false,false,false,false,false,false,false] #[true,false,true,true,false,false,false,false,false,true,false,false] rfl rfl rfl rfl (two_of HT_.out (by kernel_rfl)) (by decide) (by decide) (fun K hK => ?_) (fun K hK => ?_)
    ·
     refine gs_ Try.func28 #[.agg #[.int .i64 a0_0, .int .i64 a0_1, .int .i64 a0_2, .int .i64 a0_3, .int .i64 a0_4]] ?_
     with_reducible refine (laws_toEd.calls a0_0 a0_1 a0_2 a0_3 a0_4 t214 t215 t216 t217 t218 _ A4.out).mono ?_
     rintro e w16 ⟨rfl, hb⟩; refine ⟨_, rfl, ?_⟩; replace BK212 := bb_ BK212 hb; replace BK213 := bb_ BK213 hb; replace HB := bs_ HB hb; (try clear hb); refine hK.out _ _ ⟨bc_ BK212 0, bc_ BK212 1, bc_ BK212 2, bc_ BK212 3, bc_ BK212 4, bc_ BK213 0, bc_ BK213 1⟩ (fun hHeld => ?_); clear hK K
     apply norm_
     · show Act.put _ (some 13) _ = _; simp only [Act.put, sA_, sZ_, sS_, i64_w, i32_w]; rfl
     refine two_ (i := 4) (j := 9) (Ni := some 16) (Nj := some 7) #[true,true,true,true,true,false,false,false,false,false,false,false] #[true,true,true,true,false,false,false,false,false,true,false,false] rfl rfl rfl rfl (two_of HT_.out (by kernel_rfl)) (by decide) (by decide) (fun K hK => ?_) (fun K hK => ?_)
     ·
      refine gs_ Try.func36 #[.agg #[.int .i64 a2_0, .int .i64 a2_1]] ?_
      with_reducible refine (laws_toPair.calls a2_0 a2_1 t219 t220 _ A5.out).mono ?_
      rintro e w17 ⟨rfl, hb⟩; refine ⟨_, rfl, ?_⟩; replace BK212 := bb_ BK212 hb; replace BK213 := bb_ BK213 hb; replace HB := bs_ HB hb; (try clear hb); refine hK.out _ _ ⟨bc_ BK212 0, bc_ BK212 1, bc_ BK212 2, bc_ BK212 3, bc_ BK212 4, bc_ BK213 0, bc_ BK213 1⟩ (fun hHeld => ?_); clear hK K
      apply norm_
      · show Act.put _ (some 16) _ = _; simp only [Act.put, sA_, sZ_, sS_, i64_w, i32_w]; rfl
      refine two_ (i := 5) (j := 9) (Ni := some 17) (Nj := some 7) #[true,true,true,true,true,true,false,false,false,false,false,false] #[true,true,true,true,true,false,false,false,false,true,false,false] rfl rfl rfl rfl (two_of HT_.out (by kernel_rfl)) (by decide) (by decide) (fun K hK => ?_) (fun K hK => ?_)
      ·
       refine gs_ Try.func44 #[.agg #[.int .i64 t214, .int .i64 t215, .int .i64 t216, .int .i64 t217, .int .i64 t218], .int .i64 a1, .agg #[.int .i64 t219, .int .i64 t220]] ?_
       with_reducible refine (spec_EdMul.calls k t214 t215 t216 t217 t218 a1 t219 t220 t221 t222 t223 _ A6.out).mono ?_
       rintro e w18 ⟨rfl, hb⟩; refine ⟨_, rfl, ?_⟩; replace BK212 := bb_ BK212 hb; replace BK213 := bb_ BK213 hb; replace HB := bs_ HB hb; (try clear hb); refine hK.out _ _ ⟨bc_ BK212 0, bc_ BK212 1, bc_ BK212 2, bc_ BK212 3, bc_ BK212 4, bc_ BK213 0, bc_ BK213 1⟩ (fun hHeld => ?_); clear hK K
       apply norm_
       · show Act.put _ (some 17) _ = _; simp only [Act.put, sA_, sZ_, sS_, i64_w, i32_w]; rfl
       refine pure_ (i := 6) (N := some 11) (v := ?_) (a' := ?_) #[true,true,true,true,true,true,true,false,false,false,false,false] rfl rfl (any_of HT_.out (by kernel_rfl)) (fun _ _ _ h => h) (Or.inl ⟨by rfl, ?_⟩) ?_ ?_; rotate_left
       ·
        intro w'; go_simp
        with_reducible rfl
       rotate_left
       · simp only [Act.put, sA_, sZ_, sS_, i64_w, i32_w]; rfl
       refine pure_ (i := 7) (N := some 18) (v := ?_) (a' := ?_) #[true,true,true,true,true,true,true,true,false,false,false,false] rfl rfl (any_of HT_.out (by kernel_rfl)) (fun _ _ _ h => h) (Or.inl ⟨by rfl, ?_⟩) ?_ ?_; rotate_left
       ·
        intro w'; go_simp
        with_reducible rfl
       rotate_left
       · simp only [Act.put, sA_, sZ_, sS_, i64_w, i32_w]; rfl
       refine pure_ (i := 8) (N := some 19) (v := ?_) (a' := ?_) #[true,true,true,true,true,true,true,true,true,false,false,false] rfl rfl (any_of HT_.out (by kernel_rfl)) (fun _ _ _ h => h) (Or.inl ⟨by rfl, ?_⟩) ?_ ?_; rotate_left
       ·
        intro w'; go_simp
        with_reducible rfl
       rotate_left
       · simp only [Act.put, sA_, sZ_, sS_, i64_w, i32_w]; rfl
       refine one_ (i := 9) (N := some 7) #[true,true,true,true,true,true,true,true,true,true,false,false] rfl rfl (one_of HT_.out (by kernel_rfl)) (by decide) (fun K hK => ?_); refine box_step ?hg (N := 7) ?hd (cs := #[.int .i64 0, .int .i64 0]) (t := 49) ?hr ?_; (case hd => rfl); (case hg => rfl); (case hr => first | (go_simp; done) | (go_simp; rfl))
       intro gb224 hg w19 hbox hb; have n0_ := bb_ BK212 hb; have n1_ := bb_ BK213 hb; have n2_ := bs_ HB hb; have n3_ := Aside0.mk hbox; have n4_ := ge_ HB hg; have n5_ := ge_ HB hg; have n6_ := nl_ BK212 hg; have n7_ := nr_ BK212 hg; have n8_ := nl_ BK213 hg; have n9_ := nr_ BK213 hg; clear BK212 BK213 HB; have BK212 := n0_; have BK213 := n1_; have HB := n2_; have BK224 := n3_; have GW224 := n4_; have GE224 := n5_; have NB212_224 := n6_; have NB224_212 := n7_; have NB213_224 := n8_; have NB224_213 := n9_; clear n0_ n1_ n2_ n3_ n4_ n5_ n6_ n7_ n8_ n9_; clear hb hbox hg; refine hK.out _ _ ⟨bc_ BK212 0, bc_ BK212 1, bc_ BK212 2, bc_ BK212 3, bc_ BK212 4, bc_ BK213 0, bc_ BK213 1⟩ (fun hHeld => ?_); clear hK K
       apply norm_
       · show Act.put _ (some 7) _ = _; simp only [Act.put, sA_, sZ_, sS_, i64_w, i32_w]; rfl
       exact norm_ (by simp only [putAll, Act.put, sA_, sZ_, sS_]) (hCont (gb224) _ ⟨hHeld, (bk_ BK212), (bk_ BK213), (bk_ BK224), GW224.out, GE224.out, NB212_224.out, NB224_212.out, NB213_224.out, NB224_213.out, (bw_ HB)⟩)
      ·
       refine box_step ?hg (N := 7) ?hd (cs := #[.int .i64 0, .int .i64 0]) (t := 49) ?hr ?_; (case hd => rfl); (case hg => rfl); (case hr => first | (go_simp; done) | (go_simp; rfl))
       intro gb224 hg w18 hbox hb; have n0_ := bb_ BK212 hb; have n1_ := bb_ BK213 hb; have n2_ := bs_ HB hb; have n3_ := Aside0.mk hbox; have n4_ := ge_ HB hg; have n5_ := ge_ HB hg; have n6_ := nl_ BK212 hg; have n7_ := nr_ BK212 hg; have n8_ := nl_ BK213 hg; have n9_ := nr_ BK213 hg; clear BK212 BK213 HB; have BK212 := n0_; have BK213 := n1_; have HB := n2_; have BK224 := n3_; have GW224 := n4_; have GE224 := n5_; have NB212_224 := n6_; have NB224_212 := n7_; have NB213_224 := n8_; have NB224_213 := n9_; clear n0_ n1_ n2_ n3_ n4_ n5_ n6_ n7_ n8_ n9_; clear hb hbox hg; refine hK.out _ _ ⟨bc_ BK212 0, bc_ BK212 1, bc_ BK212 2, bc_ BK212 3, bc_ BK212 4, bc_ BK213 0, bc_ BK213 1⟩ (fun hHeld => ?_); clear hK K
       apply norm_
       · show Act.put _ (some 7) _ = _; simp only [Act.put, sA_, sZ_, sS_, i64_w, i32_w]; rfl
       refine one_ (i := 5) (N := some 17) #[true,true,true,true,true,true,false,false,false,true,false,false] rfl rfl (one_of HT_.out (by kernel_rfl)) (by decide) (fun K hK => ?_); refine gs_ Try.func44 #[.agg #[.int .i64 t214, .int .i64 t215, .int .i64 t216, .int .i64 t217, .int .i64 t218], .int .i64 a1, .agg #[.int .i64 t219, .int .i64 t220]] ?_
       with_reducible refine (spec_EdMul.calls k t214 t215 t216 t217 t218 a1 t219 t220 t221 t222 t223 _ A6.out).mono ?_
       rintro e w19 ⟨rfl, hb⟩; refine ⟨_, rfl, ?_⟩; replace BK212 := bb_ BK212 hb; replace BK213 := bb_ BK213 hb; replace BK224 := bb_ BK224 hb; replace HB := bs_ HB hb; (try clear hb); refine hK.out _ _ ⟨bc_ BK212 0, bc_ BK212 1, bc_ BK212 2, bc_ BK212 3, bc_ BK212 4, bc_ BK213 0, bc_ BK213 1⟩ (fun hHeld => ?_); clear hK K
       apply norm_
       · show Act.put _ (some 17) _ = _; simp only [Act.put, sA_, sZ_, sS_, i64_w, i32_w]; rfl
       refine pure_ (i := 6) (N := some 11) (v := ?_) (a' := ?_) #[true,true,true,true,true,true,true,false,false,true,false,false] rfl rfl (any_of HT_.out (by kernel_rfl)) (fun _ _ _ h => h) (Or.inl ⟨by rfl, ?_⟩) ?_ ?_; rotate_left
       ·
        intro w'; go_simp
        with_reducible rfl
       rotate_left
       · simp only [Act.put, sA_, sZ_, sS_, i64_w, i32_w]; rfl
       refine pure_ (i := 7) (N := some 18) (v := ?_) (a' := ?_) #[true,true,true,true,true,true,true,true,false,true,false,false] rfl rfl (any_of HT_.out (by kernel_rfl)) (fun _ _ _ h => h) (Or.inl ⟨by rfl, ?_⟩) ?_ ?_; rotate_left
       ·
        intro w'; go_simp
        with_reducible rfl
       rotate_left
       · simp only [Act.put, sA_, sZ_, sS_, i64_w, i32_w]; rfl
       refine pure_ (i := 8) (N := some 19) (v := ?_) (a' := ?_) #[true,true,true,true,true,true,true,true,true,true,false,false] rfl rfl (any_of HT_.out (by kernel_rfl)) (fun _ _ _ h => h) (Or.inl ⟨by rfl, ?_⟩) ?_ ?_; rotate_left
       ·
        intro w'; go_simp
        with_reducible rfl
       rotate_left
       · simp only [Act.put, sA_, sZ_, sS_, i64_w, i32_w]; rfl
       exact norm_ (by simp only [putAll, Act.put, sA_, sZ_, sS_]) (hCont (gb224) _ ⟨hHeld, (bk_ BK212), (bk_ BK213), (bk_ BK224), GW224.out, GE224.out, NB212_224.out, NB224_212.out, NB213_224.out, NB224_213.out, (bw_ HB)⟩)
     ·
      refine box_step ?hg (N := 7) ?hd (cs := #[.int .i64 0, .int .i64 0]) (t := 49) ?hr ?_; (case hd => rfl); (case hg => rfl); (case hr => first | (go_simp; done) | (go_simp; rfl))
      intro gb224 hg w17 hbox hb; have n0_ := bb_ BK212 hb; have n1_ := bb_ BK213 hb; have n2_ := bs_ HB hb; have n3_ := Aside0.mk hbox; have n4_ := ge_ HB hg; have n5_ := ge_ HB hg; have n6_ := nl_ BK212 hg; have n7_ := nr_ BK212 hg; have n8_ := nl_ BK213 hg; have n9_ := nr_ BK213 hg; clear BK212 BK213 HB; have BK212 := n0_; have BK213 := n1_; have HB := n2_; have BK224 := n3_; have GW224 := n4_; have GE224 := n5_; have NB212_224 := n6_; have NB224_212 := n7_; have NB213_224 := n8_; have NB224_213 := n9_; clear n0_ n1_ n2_ n3_ n4_ n5_ n6_ n7_ n8_ n9_; clear hb hbox hg; refine hK.out _ _ ⟨bc_ BK212 0, bc_ BK212 1, bc_ BK212 2, bc_ BK212 3, bc_ BK212 4, bc_ BK213 0, bc_ BK213 1⟩ (fun hHeld => ?_); clear hK K
      apply norm_
      · show Act.put _ (some 7) _ = _; simp only [Act.put, sA_, sZ_, sS_, i64_w, i32_w]; rfl
      refine one_ (i := 4) (N := some 16) #[true,true,true,true,true,false,false,false,false,true,false,false] rfl rfl (one_of HT_.out (by kernel_rfl)) (by decide) (fun K hK => ?_); refine gs_ Try.func36 #[.agg #[.int .i64 a2_0, .int .i64 a2_1]] ?_
      with_reducible refine (laws_toPair.calls a2_0 a2_1 t219 t220 _ A5.out).mono ?_
      rintro e w18 ⟨rfl, hb⟩; refine ⟨_, rfl, ?_⟩; replace BK212 := bb_ BK212 hb; replace BK213 := bb_ BK213 hb; replace BK224 := bb_ BK224 hb; replace HB := bs_ HB hb; (try clear hb); refine hK.out _ _ ⟨bc_ BK212 0, bc_ BK212 1, bc_ BK212 2, bc_ BK212 3, bc_ BK212 4, bc_ BK213 0, bc_ BK213 1⟩ (fun hHeld => ?_); clear hK K
      apply norm_
      · show Act.put _ (some 16) _ = _; simp only [Act.put, sA_, sZ_, sS_, i64_w, i32_w]; rfl
      refine one_ (i := 5) (N := some 17) #[true,true,true,true,true,true,false,false,false,true,false,false] rfl rfl (one_of HT_.out (by kernel_rfl)) (by decide) (fun K hK => ?_); refine gs_ Try.func44 #[.agg #[.int .i64 t214, .int .i64 t215, .int .i64 t216, .int .i64 t217, .int .i64 t218], .int .i64 a1, .agg #[.int .i64 t219, .int .i64 t220]] ?_
      with_reducible refine (spec_EdMul.calls k t214 t215 t216 t217 t218 a1 t219 t220 t221 t222 t223 _ A6.out).mono ?_
      rintro e w19 ⟨rfl, hb⟩; refine ⟨_, rfl, ?_⟩; replace BK212 := bb_ BK212 hb; replace BK213 := bb_ BK213 hb; replace BK224 := bb_ BK224 hb; replace HB := bs_ HB hb; (try clear hb); refine hK.out _ _ ⟨bc_ BK212 0, bc_ BK212 1, bc_ BK212 2, bc_ BK212 3, bc_ BK212 4, bc_ BK213 0, bc_ BK213 1⟩ (fun hHeld => ?_); clear hK K
      apply norm_
      · show Act.put _ (some 17) _ = _; simp only [Act.put, sA_, sZ_, sS_, i64_w, i32_w]; rfl
      refine pure_ (i := 6) (N := some 11) (v := ?_) (a' := ?_) #[true,true,true,true,true,true,true,false,false,true,false,false] rfl rfl (any_of HT_.out (by kernel_rfl)) (fun _ _ _ h => h) (Or.inl ⟨by rfl, ?_⟩) ?_ ?_; rotate_left
      ·
       intro w'; go_simp
       with_reducible rfl
      rotate_left
      · simp only [Act.put, sA_, sZ_, sS_, i64_w, i32_w]; rfl
      refine pure_ (i := 7) (N := some 18) (v := ?_) (a' := ?_) #[true,true,true,true,true,true,true,true,false,true,false,false] rfl rfl (any_of HT_.out (by kernel_rfl)) (fun _ _ _ h => h) (Or.inl ⟨by rfl, ?_⟩) ?_ ?_; rotate_left
      ·
       intro w'; go_simp
       with_reducible rfl
      rotate_left
      · simp only [Act.put, sA_, sZ_, sS_, i64_w, i32_w]; rfl
      refine pure_ (i := 8) (N := some 19) (v := ?_) (a' := ?_) #[true,true,true,true,true,true,true,true,true,true,false,false] rfl rfl (any_of HT_.out (by kernel_rfl)) (fun _ _ _ h => h) (Or.inl ⟨by rfl, ?_⟩) ?_ ?_; rotate_left
      ·
       intro w'; go_simp
       with_reducible rfl
      rotate_left
      · simp only [Act.put, sA_, sZ_, sS_, i64_w, i32_w]; rfl
      exact norm_ (by simp only [putAll, Act.put, sA_, sZ_, sS_]) (hCont (gb224) _ ⟨hHeld, (bk_ BK212), (bk_ BK213), (bk_ BK224), GW224.out, GE224.out, NB212_224.out, NB224_212.out, NB213_224.out, NB224_213.out, (bw_ HB)⟩)
    ·
     refine box_step ?hg (N := 7) ?hd (cs := #[.int .i64 0, .int .i64 0]) (t := 49) ?hr ?_; (case hd => rfl); (case hg => rfl); (case hr => first | (go_simp; done) | (go_simp; rfl))
     intro gb224 hg w16 hbox hb; have n0_ := bb_ BK212 hb; have n1_ := bb_ BK213 hb; have n2_ := bs_ HB hb; have n3_ := Aside0.mk hbox; have n4_ := ge_ HB hg; have n5_ := ge_ HB hg; have n6_ := nl_ BK212 hg; have n7_ := nr_ BK212 hg; have n8_ := nl_ BK213 hg; have n9_ := nr_ BK213 hg; clear BK212 BK213 HB; have BK212 := n0_; have BK213 := n1_; have HB := n2_; have BK224 := n3_; have GW224 := n4_; have GE224 := n5_; have NB212_224 := n6_; have NB224_212 := n7_; have NB213_224 := n8_; have NB224_213 := n9_; clear n0_ n1_ n2_ n3_ n4_ n5_ n6_ n7_ n8_ n9_; clear hb hbox hg; refine hK.out _ _ ⟨bc_ BK212 0, bc_ BK212 1, bc_ BK212 2, bc_ BK212 3, bc_ BK212 4, bc_ BK213 0, bc_ BK213 1⟩ (fun hHeld => ?_); clear hK K
     apply norm_
     · show Act.put _ (some 7) _ = _; simp only [Act.put, sA_, sZ_, sS_, i64_w, i32_w]; rfl
     refine one_ (i := 1) (N := some 13) #[true,true,true,true,false,false,false,false,false,true,false,false] rfl rfl (one_of HT_.out (by kernel_rfl)) (by decide) (fun K hK => ?_); refine gs_ Try.func28 #[.agg #[.int .i64 a0_0, .int .i64 a0_1, .int .i64 a0_2, .int .i64 a0_3, .int .i64 a0_4]] ?_
     with_reducible refine (laws_toEd.calls a0_0 a0_1 a0_2 a0_3 a0_4 t214 t215 t216 t217 t218 _ A4.out).mono ?_
     rintro e w17 ⟨rfl, hb⟩; refine ⟨_, rfl, ?_⟩; replace BK212 := bb_ BK212 hb; replace BK213 := bb_ BK213 hb; replace BK224 := bb_ BK224 hb; replace HB := bs_ HB hb; (try clear hb); refine hK.out _ _ ⟨bc_ BK212 0, bc_ BK212 1, bc_ BK212 2, bc_ BK212 3, bc_ BK212 4, bc_ BK213 0, bc_ BK213 1⟩ (fun hHeld => ?_); clear hK K
     apply norm_
     · show Act.put _ (some 13) _ = _; simp only [Act.put, sA_, sZ_, sS_, i64_w, i32_w]; rfl
     refine one_ (i := 4) (N := some 16) #[true,true,true,true,true,false,false,false,false,true,false,false] rfl rfl (one_of HT_.out (by kernel_rfl)) (by decide) (fun K hK => ?_); refine gs_ Try.func36 #[.agg #[.int .i64 a2_0, .int .i64 a2_1]] ?_
     with_reducible refine (laws_toPair.calls a2_0 a2_1 t219 t220 _ A5.out).mono ?_
     rintro e w18 ⟨rfl, hb⟩; refine ⟨_, rfl, ?_⟩; replace BK212 := bb_ BK212 hb; replace BK213 := bb_ BK213 hb; replace BK224 := bb_ BK224 hb; replace HB := bs_ HB hb; (try clear hb); refine hK.out _ _ ⟨bc_ BK212 0, bc_ BK212 1, bc_ BK212 2, bc_ BK212 3, bc_ BK212 4, bc_ BK213 0, bc_ BK213 1⟩ (fun hHeld => ?_); clear hK K
     apply norm_
     · show Act.put _ (some 16) _ = _; simp only [Act.put, sA_, sZ_, sS_, i64_w, i32_w]; rfl
     refine one_ (i := 5) (N := some 17) #[true,true,true,true,true,true,false,false,false,true,false,false] rfl rfl (one_of HT_.out (by kernel_rfl)) (by decide) (fun K hK => ?_); refine gs_ Try.func44 #[.agg #[.int .i64 t214, .int .i64 t215, .int .i64 t216, .int .i64 t217, .int .i64 t218], .int .i64 a1, .agg #[.int .i64 t219, .int .i64 t220]] ?_
     with_reducible refine (spec_EdMul.calls k t214 t215 t216 t217 t218 a1 t219 t220 t221 t222 t223 _ A6.out).mono ?_
     rintro e w19 ⟨rfl, hb⟩; refine ⟨_, rfl, ?_⟩; replace BK212 := bb_ BK212 hb; replace BK213 := bb_ BK213 hb; replace BK224 := bb_ BK224 hb; replace HB := bs_ HB hb; (try clear hb); refine hK.out _ _ ⟨bc_ BK212 0, bc_ BK212 1, bc_ BK212 2, bc_ BK212 3, bc_ BK212 4, bc_ BK213 0, bc_ BK213 1⟩ (fun hHeld => ?_); clear hK K
     apply norm_
     · show Act.put _ (some 17) _ = _; simp only [Act.put, sA_, sZ_, sS_, i64_w, i32_w]; rfl
     refine pure_ (i := 6) (N := some 11) (v := ?_) (a' := ?_) #[true,true,true,true,true,true,true,false,false,true,false,false] rfl rfl (any_of HT_.out (by kernel_rfl)) (fun _ _ _ h => h) (Or.inl ⟨by rfl, ?_⟩) ?_ ?_; rotate_left
     ·
      intro w'; go_simp
      with_reducible rfl
     rotate_left
     · simp only [Act.put, sA_, sZ_, sS_, i64_w, i32_w]; rfl
     refine pure_ (i := 7) (N := some 18) (v := ?_) (a' := ?_) #[true,true,true,true,true,true,true,true,false,true,false,false] rfl rfl (any_of HT_.out (by kernel_rfl)) (fun _ _ _ h => h) (Or.inl ⟨by rfl, ?_⟩) ?_ ?_; rotate_left
     ·
      intro w'; go_simp
      with_reducible rfl
     rotate_left
     · simp only [Act.put, sA_, sZ_, sS_, i64_w, i32_w]; rfl
     refine pure_ (i := 8) (N := some 19) (v := ?_) (a' := ?_) #[true,true,true,true,true,true,true,true,true,true,false,false] rfl rfl (any_of HT_.out (by kernel_rfl)) (fun _ _ _ h => h) (Or.inl ⟨by rfl, ?_⟩) ?_ ?_; rotate_left
     ·
      intro w'; go_simp
      with_reducible rfl
     rotate_left
     · simp only [Act.put, sA_, sZ_, sS_, i64_w, i32_w]; rfl
     exact norm_ (by simp only [putAll, Act.put, sA_, sZ_, sS_]) (hCont (gb224) _ ⟨hHeld, (bk_ BK212), (bk_ BK213), (bk_ BK224), GW224.out, GE224.out, NB212_224.out, NB224_212.out, NB213_224.out, NB224_213.out, (bw_ HB)⟩)
   rintro gb224 w20 ⟨hS_, h0_, h1_, h2_, h3_, h4_, h5_, h6_, h7_, h8_, h9_⟩; replace BK212 := Aside0.mk h0_; replace BK213 := Aside0.mk h1_; have BK224 := Aside0.mk h2_; have GW224 := Aside0.mk h3_; have GE224 := Aside0.mk h4_; have NB212_224 := Aside0.mk h5_; have NB224_212 := Aside0.mk h6_; have NB213_224 := Aside0.mk h7_; have NB224_213 := Aside0.mk h8_; replace HB := Aside0.mk h9_; clear h0_ h1_ h2_ h3_ h4_ h5_ h6_ h7_ h8_ h9_; have hHeld := hS_
   apply norm_
   · simp only [putAll, Act.put, sA_, sZ_, sS_]; rfl
   refine one_ (i := 10) (N := none) #[true,true,true,true,true,true,true,true,true,true,true,false] rfl rfl (one_of HT_.out (by kernel_rfl)) (by decide) (fun K hK => ?_)
   have hs21 : w20.cell? ⟨gb224, 0, none⟩ = some (.int .i64 0) := bc_ BK224 0
   have hfs21 := blk_frozen BK224.out 0; have hns21_0 := NB212_224.out; have hns21_1 := NB213_224.out; have hms21_0 := NB224_212.out; have hms21_1 := NB224_213.out
   have hs22 : w20.cell? ⟨gb224, 1, none⟩ = some (.int .i64 0) := bc_ BK224 1
   have hfs22 := blk_frozen BK224.out 1; have hns22_0 := NB212_224.out; have hns22_1 := NB213_224.out; have hms22_0 := NB224_212.out; have hms22_1 := NB224_213.out; refine skip_ (w1 := ?_) (by rfl) rfl ?_ ?_; rotate_left
   · go_simp; rfl
   refine hK.out _ _ ⟨((cell_far (p := ⟨gb224, _, none⟩) NB212_224.out _).trans (((cell_far (p := ⟨gb224, _, none⟩) NB212_224.out _).trans (hHeld.1)))), ((cell_far (p := ⟨gb224, _, none⟩) NB212_224.out _).trans (((cell_far (p := ⟨gb224, _, none⟩) NB212_224.out _).trans (hHeld.2.1)))), ((cell_far (p := ⟨gb224, _, none⟩) NB212_224.out _).trans (((cell_far (p := ⟨gb224, _, none⟩) NB212_224.out _).trans (hHeld.2.2.1)))), ((cell_far (p := ⟨gb224, _, none⟩) NB212_224.out _).trans (((cell_far (p := ⟨gb224, _, none⟩) NB212_224.out _).trans (hHeld.2.2.2.1)))), ((cell_far (p := ⟨gb224, _, none⟩) NB212_224.out _).trans (((cell_far (p := ⟨gb224, _, none⟩) NB212_224.out _).trans (hHeld.2.2.2.2.1)))), ((cell_far (p := ⟨gb224, _, none⟩) NB213_224.out _).trans (((cell_far (p := ⟨gb224, _, none⟩) NB213_224.out _).trans (hHeld.2.2.2.2.2.1)))), ((cell_far (p := ⟨gb224, _, none⟩) NB213_224.out _).trans (((cell_far (p := ⟨gb224, _, none⟩) NB213_224.out _).trans (hHeld.2.2.2.2.2.2))))⟩ (fun hHeld => ?_); clear hK K; refine pure_ (i := 11) (N := some 8) (v := ?_) (a' := ?_) #[true,true,true,true,true,true,true,true,true,true,true,true] rfl rfl (any_of HT_.out (by kernel_rfl)) (fun _ _ _ h => h) (Or.inl ⟨by rfl, ?_⟩) ?_ ?_; rotate_left
   ·
    intro w'; go_simp
    with_reducible rfl
   rotate_left
   · simp only [Act.put, sA_, sZ_, sS_, i64_w, i32_w]; rfl
   refine done_ (done_of HT_.out (by kernel_rfl)) ?_
   try go_wp2
   have n0_ : Aside0 (((w20.setCell ⟨gb224, 0, none⟩ (.int .i64 t221)).setCell ⟨gb224, 1, none⟩ (.int .i64 t222)).heap[gb212]? = some (.cells #[.int .i64 a0_0, .int .i64 a0_1, .int .i64 a0_2, .int .i64 a0_3, .int .i64 a0_4] 35 (0, 0))) := ⟨by (with_reducible repeat (first | refine blk_drewN ?_ _ | refine blk_drew ?_ | refine blk_alloc ?_ _)); refine blk_far ?_ NB212_224.out _; (with_reducible repeat (first | refine blk_drewN ?_ _ | refine blk_drew ?_ | refine blk_alloc ?_ _)); refine blk_far ?_ NB212_224.out _; (with_reducible repeat (first | refine blk_drewN ?_ _ | refine blk_drew ?_ | refine blk_alloc ?_ _)); exact BK212.out⟩
   have n1_ : Aside0 (((w20.setCell ⟨gb224, 0, none⟩ (.int .i64 t221)).setCell ⟨gb224, 1, none⟩ (.int .i64 t222)).heap[gb213]? = some (.cells #[.int .i64 a2_0, .int .i64 a2_1] 47 (0, 0))) := ⟨by (with_reducible repeat (first | refine blk_drewN ?_ _ | refine blk_drew ?_ | refine blk_alloc ?_ _)); refine blk_far ?_ NB213_224.out _; (with_reducible repeat (first | refine blk_drewN ?_ _ | refine blk_drew ?_ | refine blk_alloc ?_ _)); refine blk_far ?_ NB213_224.out _; (with_reducible repeat (first | refine blk_drewN ?_ _ | refine blk_drew ?_ | refine blk_alloc ?_ _)); exact BK213.out⟩
   have n2_ : Aside0 (((w20.setCell ⟨gb224, 0, none⟩ (.int .i64 t221)).setCell ⟨gb224, 1, none⟩ (.int .i64 t222)).heap[gb224]? = some (.cells #[.int .i64 t221, .int .i64 t222] 49 (0, 0))) := ⟨by (with_reducible repeat (first | refine blk_drewN ?_ _ | refine blk_drew ?_ | refine blk_alloc ?_ _)); refine blk_put (cs := #[.int .i64 t221, .int .i64 0]) ?_ 1 _ rfl; (with_reducible repeat (first | refine blk_drewN ?_ _ | refine blk_drew ?_ | refine blk_alloc ?_ _)); refine blk_put (cs := #[.int .i64 0, .int .i64 0]) ?_ 0 _ rfl; (with_reducible repeat (first | refine blk_drewN ?_ _ | refine blk_drew ?_ | refine blk_alloc ?_ _)); exact BK224.out⟩
   have n3_ : Aside0 (Below w.heap.size w ((w20.setCell ⟨gb224, 0, none⟩ (.int .i64 t221)).setCell ⟨gb224, 1, none⟩ (.int .i64 t222))) := ⟨by repeat (first | (with_reducible first | exact HB.out | apply below_alloc | apply pw_below_drewN | apply below_drew1 | refine below_set ?_ GE212.out | refine below_set ?_ GE213.out | refine below_set ?_ GE224.out) | exact HB.out)⟩
   (try clear BK212); (try clear BK213); (try clear BK224); (try clear HB)
   generalize ((w20.setCell ⟨gb224, 0, none⟩ (.int .i64 t221)).setCell ⟨gb224, 1, none⟩ (.int .i64 t222)) = w23 at n0_ n1_ n2_ n3_ ⊢
   have BK212 := n0_; have BK213 := n1_; have BK224 := n2_; have HB := n3_; clear n0_ n1_ n2_ n3_; replace BK212 := Aside0.mk (blk_drew BK212.out); replace BK213 := Aside0.mk (blk_drew BK213.out); replace BK224 := Aside0.mk (blk_drew BK224.out); replace HB := Aside0.mk (below_drew1 HB.out); refine start_ (n := 12) (S := fun w' => w'.cell? ⟨gb212, 0, none⟩ = some (.int .i64 a0_0) ∧ w'.cell? ⟨gb212, 1, none⟩ = some (.int .i64 a0_1) ∧ w'.cell? ⟨gb212, 2, none⟩ = some (.int .i64 a0_2) ∧ w'.cell? ⟨gb212, 3, none⟩ = some (.int .i64 a0_3) ∧ w'.cell? ⟨gb212, 4, none⟩ = some (.int .i64 a0_4) ∧ w'.cell? ⟨gb213, 0, none⟩ = some (.int .i64 a2_0) ∧ w'.cell? ⟨gb213, 1, none⟩ = some (.int .i64 a2_1)) (ds := []) #[false,false,false,false,false,false,false,false,false,false,false,false] (by kernel_rfl) rfl rfl ⟨bc_ BK212 0, bc_ BK212 1, bc_ BK212 2, bc_ BK212 3, bc_ BK212 4, bc_ BK213 0, bc_ BK213 1⟩ (fun hHeld => ?_); refine with_tabW laws_FnExactEdMul.tab2 laws_FnExactEdMul.bits2 (fun HT_ HW_ => ?_)
   generalize w23.drew = w24 at BK212 BK213 BK224 HB hHeld ⊢
   refine pure_ (i := 2) (N := some 23) (v := ?_) (a' := ?_) #[false,false,true,false,false,false,false,false,false,false,false,false] rfl rfl (any_of HT_.out (by kernel_rfl)) (fun _ _ _ h => h) (Or.inl ⟨by rfl, ?_⟩) ?_ ?_; rotate_left
   ·
    intro w'; go_simp
    with_reducible rfl
   rotate_left
   · simp only [Act.put, sA_, sZ_, sS_, i64_w, i32_w]; rfl
   refine take_ (i := 0) (N := some 21) (v := ?_) (a' := ?_) #[true,false,true,false,false,false,false,false,false,false,false,false] rfl rfl (take_ofW HT_.out HW_.out (by kernel_rfl)) (fun _ _ _ h => h) (Or.inl ⟨by rfl, ?_⟩) hHeld ?_ ?_; rotate_left
   ·
    rintro w' ⟨s0, s1, s2, s3, s4, s5, s6⟩; go_simp
    with_reducible rfl
   rotate_left
   · simp only [Act.put, sA_, sZ_, sS_, i64_w, i32_w]; rfl
   refine take_ (i := 3) (N := some 24) (v := ?_) (a' := ?_) #[true,false,true,true,false,false,false,false,false,false,false,false] rfl rfl (take_ofW HT_.out HW_.out (by kernel_rfl)) (fun _ _ _ h => h) (Or.inl ⟨by rfl, ?_⟩) hHeld ?_ ?_; rotate_left
   ·
    rintro w' ⟨s0, s1, s2, s3, s4, s5, s6⟩; go_simp
    with_reducible rfl
   rotate_left
   · simp only [Act.put, sA_, sZ_, sS_, i64_w, i32_w]; rfl
   refine join_ (σ := Nat) 2 #[true,true,true,true,true,true,true,true,true,true,false,false] (fun s_ => [(22, .agg #[.int .i64 t225, .int .i64 t226, .int .i64 t227, .int .i64 t228, .int .i64 t229]), (25, .agg #[.int .i64 t230, .int .i64 t231]), (26, .tuple #[.agg #[.int .i64 t232, .int .i64 t233], .bool t234]), (9, .pointer (some ⟨s_, 0, none⟩)), (20, .tuple #[.agg #[.int .i64 t232, .int .i64 t233], .bool t234]), (27, .agg #[.int .i64 t232, .int .i64 t233]), (28, .bool t234)]) (fun s_ w' => (w'.cell? ⟨gb212, 0, none⟩ = some (.int .i64 a0_0) ∧ w'.cell? ⟨gb212, 1, none⟩ = some (.int .i64 a0_1) ∧ w'.cell? ⟨gb212, 2, none⟩ = some (.int .i64 a0_2) ∧ w'.cell? ⟨gb212, 3, none⟩ = some (.int .i64 a0_3) ∧ w'.cell? ⟨gb212, 4, none⟩ = some (.int .i64 a0_4) ∧ w'.cell? ⟨gb213, 0, none⟩ = some (.int .i64 a2_0) ∧ w'.cell? ⟨gb213, 1, none⟩ = some (.int .i64 a2_1)) ∧ (w'.heap[gb212]? = some (.cells #[.int .i64 a0_0, .int .i64 a0_1, .int .i64 a0_2, .int .i64 a0_3, .int .i64 a0_4] 35 (0, 0))) ∧ (w'.heap[gb213]? = some (.cells #[.int .i64 a2_0, .int .i64 a2_1] 47 (0, 0))) ∧ (w'.heap[gb224]? = some (.cells #[.int .i64 t221, .int .i64 t222] 49 (0, 0))) ∧ (w'.heap[s_]? = some (.cells #[.int .i64 0, .int .i64 0] 49 (0, 0))) ∧ (w.heap.size ≤ s_) ∧ (w.heap.size ≤ s_) ∧ (gb212 ≠ s_) ∧ (s_ ≠ gb212) ∧ (gb213 ≠ s_) ∧ (s_ ≠ gb213) ∧ (gb224 ≠ s_) ∧ (s_ ≠ gb224) ∧ (Below w.heap.size w w')) ?_ ?_; rotate_left
   ·
    intro hCont; refine two_ (i := 1) (j := 9) (Ni := some 22) (Nj := some 9) #[true,true,true,true,false,false,false,false,false,false,false,false] #[true,false,true,true,false,false,false,false,false,true,false,false] rfl rfl rfl rfl (two_of HT_.out (by kernel_rfl)) (by decide) (by decide) (fun K hK => ?_) (fun K hK => ?_)
    ·
     refine gs_ Try.func28 #[.agg #[.int .i64 a0_0, .int .i64 a0_1, .int .i64 a0_2, .int .i64 a0_3, .int .i64 a0_4]] ?_
     with_reducible refine (laws_toEd.calls a0_0 a0_1 a0_2 a0_3 a0_4 t225 t226 t227 t228 t229 _ A7.out).mono ?_
     rintro e w25 ⟨rfl, hb⟩; refine ⟨_, rfl, ?_⟩; replace BK212 := bb_ BK212 hb; replace BK213 := bb_ BK213 hb; replace BK224 := bb_ BK224 hb; replace HB := bs_ HB hb; (try clear hb); refine hK.out _ _ ⟨bc_ BK212 0, bc_ BK212 1, bc_ BK212 2, bc_ BK212 3, bc_ BK212 4, bc_ BK213 0, bc_ BK213 1⟩ (fun hHeld => ?_); clear hK K
     apply norm_
     · show Act.put _ (some 22) _ = _; simp only [Act.put, sA_, sZ_, sS_, i64_w, i32_w]; rfl
     refine two_ (i := 4) (j := 9) (Ni := some 25) (Nj := some 9) #[true,true,true,true,true,false,false,false,false,false,false,false] #[true,true,true,true,false,false,false,false,false,true,false,false] rfl rfl rfl rfl (two_of HT_.out (by kernel_rfl)) (by decide) (by decide) (fun K hK => ?_) (fun K hK => ?_)
     ·
      refine gs_ Try.func36 #[.agg #[.int .i64 a2_0, .int .i64 a2_1]] ?_
      with_reducible refine (laws_toPair.calls a2_0 a2_1 t230 t231 _ A8.out).mono ?_
      rintro e w26 ⟨rfl, hb⟩; refine ⟨_, rfl, ?_⟩; replace BK212 := bb_ BK212 hb; replace BK213 := bb_ BK213 hb; replace BK224 := bb_ BK224 hb; replace HB := bs_ HB hb; (try clear hb); refine hK.out _ _ ⟨bc_ BK212 0, bc_ BK212 1, bc_ BK212 2, bc_ BK212 3, bc_ BK212 4, bc_ BK213 0, bc_ BK213 1⟩ (fun hHeld => ?_); clear hK K
      apply norm_
      · show Act.put _ (some 25) _ = _; simp only [Act.put, sA_, sZ_, sS_, i64_w, i32_w]; rfl
      refine two_ (i := 5) (j := 9) (Ni := some 26) (Nj := some 9) #[true,true,true,true,true,true,false,false,false,false,false,false] #[true,true,true,true,true,false,false,false,false,true,false,false] rfl rfl rfl rfl (two_of HT_.out (by kernel_rfl)) (by decide) (by decide) (fun K hK => ?_) (fun K hK => ?_)
      ·
       refine gs_ Try.func45 #[.agg #[.int .i64 t225, .int .i64 t226, .int .i64 t227, .int .i64 t228, .int .i64 t229], .int .i64 a1, .agg #[.int .i64 t230, .int .i64 t231]] ?_
       with_reducible refine (impl_EdMul.calls k t225 t226 t227 t228 t229 a1 t230 t231 t232 t233 t234 _ A9.out).mono ?_
       rintro e w27 ⟨rfl, hb⟩; refine ⟨_, rfl, ?_⟩; replace BK212 := bb_ BK212 hb; replace BK213 := bb_ BK213 hb; replace BK224 := bb_ BK224 hb; replace HB := bs_ HB hb; (try clear hb); refine hK.out _ _ ⟨bc_ BK212 0, bc_ BK212 1, bc_ BK212 2, bc_ BK212 3, bc_ BK212 4, bc_ BK213 0, bc_ BK213 1⟩ (fun hHeld => ?_); clear hK K
       apply norm_
       · show Act.put _ (some 26) _ = _; simp only [Act.put, sA_, sZ_, sS_, i64_w, i32_w]; rfl
       refine pure_ (i := 6) (N := some 20) (v := ?_) (a' := ?_) #[true,true,true,true,true,true,true,false,false,false,false,false] rfl rfl (any_of HT_.out (by kernel_rfl)) (fun _ _ _ h => h) (Or.inl ⟨by rfl, ?_⟩) ?_ ?_; rotate_left
       ·
        intro w'; go_simp
        with_reducible rfl
       rotate_left
       · simp only [Act.put, sA_, sZ_, sS_, i64_w, i32_w]; rfl
       refine pure_ (i := 7) (N := some 27) (v := ?_) (a' := ?_) #[true,true,true,true,true,true,true,true,false,false,false,false] rfl rfl (any_of HT_.out (by kernel_rfl)) (fun _ _ _ h => h) (Or.inl ⟨by rfl, ?_⟩) ?_ ?_; rotate_left
       ·
        intro w'; go_simp
        with_reducible rfl
       rotate_left
       · simp only [Act.put, sA_, sZ_, sS_, i64_w, i32_w]; rfl
       refine pure_ (i := 8) (N := some 28) (v := ?_) (a' := ?_) #[true,true,true,true,true,true,true,true,true,false,false,false] rfl rfl (any_of HT_.out (by kernel_rfl)) (fun _ _ _ h => h) (Or.inl ⟨by rfl, ?_⟩) ?_ ?_; rotate_left
       ·
        intro w'; go_simp
        with_reducible rfl
       rotate_left
       · simp only [Act.put, sA_, sZ_, sS_, i64_w, i32_w]; rfl
       refine one_ (i := 9) (N := some 9) #[true,true,true,true,true,true,true,true,true,true,false,false] rfl rfl (one_of HT_.out (by kernel_rfl)) (by decide) (fun K hK => ?_); refine box_step ?hg (N := 9) ?hd (cs := #[.int .i64 0, .int .i64 0]) (t := 49) ?hr ?_; (case hd => rfl); (case hg => rfl); (case hr => first | (go_simp; done) | (go_simp; rfl))
       intro gb235 hg w28 hbox hb; have n0_ := bb_ BK212 hb; have n1_ := bb_ BK213 hb; have n2_ := bb_ BK224 hb; have n3_ := bs_ HB hb; have n4_ := Aside0.mk hbox; have n5_ := ge_ HB hg; have n6_ := ge_ HB hg; have n7_ := nl_ BK212 hg; have n8_ := nr_ BK212 hg; have n9_ := nl_ BK213 hg; have n10_ := nr_ BK213 hg; have n11_ := nl_ BK224 hg; have n12_ := nr_ BK224 hg; clear BK212 BK213 BK224 HB; have BK212 := n0_; have BK213 := n1_; have BK224 := n2_; have HB := n3_; have BK235 := n4_; have GW235 := n5_; have GE235 := n6_; have NB212_235 := n7_; have NB235_212 := n8_; have NB213_235 := n9_; have NB235_213 := n10_; have NB224_235 := n11_; have NB235_224 := n12_; clear n0_ n1_ n2_ n3_ n4_ n5_ n6_ n7_ n8_ n9_ n10_ n11_ n12_; clear hb hbox hg; refine hK.out _ _ ⟨bc_ BK212 0, bc_ BK212 1, bc_ BK212 2, bc_ BK212 3, bc_ BK212 4, bc_ BK213 0, bc_ BK213 1⟩ (fun hHeld => ?_); clear hK K
       apply norm_
       · show Act.put _ (some 9) _ = _; simp only [Act.put, sA_, sZ_, sS_, i64_w, i32_w]; rfl
       exact norm_ (by simp only [putAll, Act.put, sA_, sZ_, sS_]) (hCont (gb235) _ ⟨hHeld, (bk_ BK212), (bk_ BK213), (bk_ BK224), (bk_ BK235), GW235.out, GE235.out, NB212_235.out, NB235_212.out, NB213_235.out, NB235_213.out, NB224_235.out, NB235_224.out, (bw_ HB)⟩)
      ·
       refine box_step ?hg (N := 9) ?hd (cs := #[.int .i64 0, .int .i64 0]) (t := 49) ?hr ?_; (case hd => rfl); (case hg => rfl); (case hr => first | (go_simp; done) | (go_simp; rfl))
       intro gb235 hg w27 hbox hb; have n0_ := bb_ BK212 hb; have n1_ := bb_ BK213 hb; have n2_ := bb_ BK224 hb; have n3_ := bs_ HB hb; have n4_ := Aside0.mk hbox; have n5_ := ge_ HB hg; have n6_ := ge_ HB hg; have n7_ := nl_ BK212 hg; have n8_ := nr_ BK212 hg; have n9_ := nl_ BK213 hg; have n10_ := nr_ BK213 hg; have n11_ := nl_ BK224 hg; have n12_ := nr_ BK224 hg; clear BK212 BK213 BK224 HB; have BK212 := n0_; have BK213 := n1_; have BK224 := n2_; have HB := n3_; have BK235 := n4_; have GW235 := n5_; have GE235 := n6_; have NB212_235 := n7_; have NB235_212 := n8_; have NB213_235 := n9_; have NB235_213 := n10_; have NB224_235 := n11_; have NB235_224 := n12_; clear n0_ n1_ n2_ n3_ n4_ n5_ n6_ n7_ n8_ n9_ n10_ n11_ n12_; clear hb hbox hg; refine hK.out _ _ ⟨bc_ BK212 0, bc_ BK212 1, bc_ BK212 2, bc_ BK212 3, bc_ BK212 4, bc_ BK213 0, bc_ BK213 1⟩ (fun hHeld => ?_); clear hK K
       apply norm_
       · show Act.put _ (some 9) _ = _; simp only [Act.put, sA_, sZ_, sS_, i64_w, i32_w]; rfl
       refine one_ (i := 5) (N := some 26) #[true,true,true,true,true,true,false,false,false,true,false,false] rfl rfl (one_of HT_.out (by kernel_rfl)) (by decide) (fun K hK => ?_); refine gs_ Try.func45 #[.agg #[.int .i64 t225, .int .i64 t226, .int .i64 t227, .int .i64 t228, .int .i64 t229], .int .i64 a1, .agg #[.int .i64 t230, .int .i64 t231]] ?_
       with_reducible refine (impl_EdMul.calls k t225 t226 t227 t228 t229 a1 t230 t231 t232 t233 t234 _ A9.out).mono ?_
       rintro e w28 ⟨rfl, hb⟩; refine ⟨_, rfl, ?_⟩; replace BK212 := bb_ BK212 hb; replace BK213 := bb_ BK213 hb; replace BK224 := bb_ BK224 hb; replace BK235 := bb_ BK235 hb; replace HB := bs_ HB hb; (try clear hb); refine hK.out _ _ ⟨bc_ BK212 0, bc_ BK212 1, bc_ BK212 2, bc_ BK212 3, bc_ BK212 4, bc_ BK213 0, bc_ BK213 1⟩ (fun hHeld => ?_); clear hK K
       apply norm_
       · show Act.put _ (some 26) _ = _; simp only [Act.put, sA_, sZ_, sS_, i64_w, i32_w]; rfl
       refine pure_ (i := 6) (N := some 20) (v := ?_) (a' := ?_) #[true,true,true,true,true,true,true,false,false,true,false,false] rfl rfl (any_of HT_.out (by kernel_rfl)) (fun _ _ _ h => h) (Or.inl ⟨by rfl, ?_⟩) ?_ ?_; rotate_left
       ·
        intro w'; go_simp
        with_reducible rfl
       rotate_left
       · simp only [Act.put, sA_, sZ_, sS_, i64_w, i32_w]; rfl
       refine pure_ (i := 7) (N := some 27) (v := ?_) (a' := ?_) #[true,true,true,true,true,true,true,true,false,true,false,false] rfl rfl (any_of HT_.out (by kernel_rfl)) (fun _ _ _ h => h) (Or.inl ⟨by rfl, ?_⟩) ?_ ?_; rotate_left
       ·
        intro w'; go_simp
        with_reducible rfl
       rotate_left
       · simp only [Act.put, sA_, sZ_, sS_, i64_w, i32_w]; rfl
       refine pure_ (i := 8) (N := some 28) (v := ?_) (a' := ?_) #[true,true,true,true,true,true,true,true,true,true,false,false] rfl rfl (any_of HT_.out (by kernel_rfl)) (fun _ _ _ h => h) (Or.inl ⟨by rfl, ?_⟩) ?_ ?_; rotate_left
       ·
        intro w'; go_simp
        with_reducible rfl
       rotate_left
       · simp only [Act.put, sA_, sZ_, sS_, i64_w, i32_w]; rfl
       exact norm_ (by simp only [putAll, Act.put, sA_, sZ_, sS_]) (hCont (gb235) _ ⟨hHeld, (bk_ BK212), (bk_ BK213), (bk_ BK224), (bk_ BK235), GW235.out, GE235.out, NB212_235.out, NB235_212.out, NB213_235.out, NB235_213.out, NB224_235.out, NB235_224.out, (bw_ HB)⟩)
     ·
      refine box_step ?hg (N := 9) ?hd (cs := #[.int .i64 0, .int .i64 0]) (t := 49) ?hr ?_; (case hd => rfl); (case hg => rfl); (case hr => first | (go_simp; done) | (go_simp; rfl))
      intro gb235 hg w26 hbox hb; have n0_ := bb_ BK212 hb; have n1_ := bb_ BK213 hb; have n2_ := bb_ BK224 hb; have n3_ := bs_ HB hb; have n4_ := Aside0.mk hbox; have n5_ := ge_ HB hg; have n6_ := ge_ HB hg; have n7_ := nl_ BK212 hg; have n8_ := nr_ BK212 hg; have n9_ := nl_ BK213 hg; have n10_ := nr_ BK213 hg; have n11_ := nl_ BK224 hg; have n12_ := nr_ BK224 hg; clear BK212 BK213 BK224 HB; have BK212 := n0_; have BK213 := n1_; have BK224 := n2_; have HB := n3_; have BK235 := n4_; have GW235 := n5_; have GE235 := n6_; have NB212_235 := n7_; have NB235_212 := n8_; have NB213_235 := n9_; have NB235_213 := n10_; have NB224_235 := n11_; have NB235_224 := n12_; clear n0_ n1_ n2_ n3_ n4_ n5_ n6_ n7_ n8_ n9_ n10_ n11_ n12_; clear hb hbox hg; refine hK.out _ _ ⟨bc_ BK212 0, bc_ BK212 1, bc_ BK212 2, bc_ BK212 3, bc_ BK212 4, bc_ BK213 0, bc_ BK213 1⟩ (fun hHeld => ?_); clear hK K
      apply norm_
      · show Act.put _ (some 9) _ = _; simp only [Act.put, sA_, sZ_, sS_, i64_w, i32_w]; rfl
      refine one_ (i := 4) (N := some 25) #[true,true,true,true,true,false,false,false,false,true,false,false] rfl rfl (one_of HT_.out (by kernel_rfl)) (by decide) (fun K hK => ?_); refine gs_ Try.func36 #[.agg #[.int .i64 a2_0, .int .i64 a2_1]] ?_
      with_reducible refine (laws_toPair.calls a2_0 a2_1 t230 t231 _ A8.out).mono ?_
      rintro e w27 ⟨rfl, hb⟩; refine ⟨_, rfl, ?_⟩; replace BK212 := bb_ BK212 hb; replace BK213 := bb_ BK213 hb; replace BK224 := bb_ BK224 hb; replace BK235 := bb_ BK235 hb; replace HB := bs_ HB hb; (try clear hb); refine hK.out _ _ ⟨bc_ BK212 0, bc_ BK212 1, bc_ BK212 2, bc_ BK212 3, bc_ BK212 4, bc_ BK213 0, bc_ BK213 1⟩ (fun hHeld => ?_); clear hK K
      apply norm_
      · show Act.put _ (some 25) _ = _; simp only [Act.put, sA_, sZ_, sS_, i64_w, i32_w]; rfl
      refine one_ (i := 5) (N := some 26) #[true,true,true,true,true,true,false,false,false,true,false,false] rfl rfl (one_of HT_.out (by kernel_rfl)) (by decide) (fun K hK => ?_); refine gs_ Try.func45 #[.agg #[.int .i64 t225, .int .i64 t226, .int .i64 t227, .int .i64 t228, .int .i64 t229], .int .i64 a1, .agg #[.int .i64 t230, .int .i64 t231]] ?_
      with_reducible refine (impl_EdMul.calls k t225 t226 t227 t228 t229 a1 t230 t231 t232 t233 t234 _ A9.out).mono ?_
      rintro e w28 ⟨rfl, hb⟩; refine ⟨_, rfl, ?_⟩; replace BK212 := bb_ BK212 hb; replace BK213 := bb_ BK213 hb; replace BK224 := bb_ BK224 hb; replace BK235 := bb_ BK235 hb; replace HB := bs_ HB hb; (try clear hb); refine hK.out _ _ ⟨bc_ BK212 0, bc_ BK212 1, bc_ BK212 2, bc_ BK212 3, bc_ BK212 4, bc_ BK213 0, bc_ BK213 1⟩ (fun hHeld => ?_); clear hK K
      apply norm_
      · show Act.put _ (some 26) _ = _; simp only [Act.put, sA_, sZ_, sS_, i64_w, i32_w]; rfl
      refine pure_ (i := 6) (N := some 20) (v := ?_) (a' := ?_) #[true,true,true,true,true,true,true,false,false,true,false,false] rfl rfl (any_of HT_.out (by kernel_rfl)) (fun _ _ _ h => h) (Or.inl ⟨by rfl, ?_⟩) ?_ ?_; rotate_left
      ·
       intro w'; go_simp
       with_reducible rfl
      rotate_left
      · simp only [Act.put, sA_, sZ_, sS_, i64_w, i32_w]; rfl
      refine pure_ (i := 7) (N := some 27) (v := ?_) (a' := ?_) #[true,true,true,true,true,true,true,true,false,true,false,false] rfl rfl (any_of HT_.out (by kernel_rfl)) (fun _ _ _ h => h) (Or.inl ⟨by rfl, ?_⟩) ?_ ?_; rotate_left
      ·
       intro w'; go_simp
       with_reducible rfl
      rotate_left
      · simp only [Act.put, sA_, sZ_, sS_, i64_w, i32_w]; rfl
      refine pure_ (i := 8) (N := some 28) (v := ?_) (a' := ?_) #[true,true,true,true,true,true,true,true,true,true,false,false] rfl rfl (any_of HT_.out (by kernel_rfl)) (fun _ _ _ h => h) (Or.inl ⟨by rfl, ?_⟩) ?_ ?_; rotate_left
      ·
       intro w'; go_simp
       with_reducible rfl
      rotate_left
      · simp only [Act.put, sA_, sZ_, sS_, i64_w, i32_w]; rfl
      exact norm_ (by simp only [putAll, Act.put, sA_, sZ_, sS_]) (hCont (gb235) _ ⟨hHeld, (bk_ BK212), (bk_ BK213), (bk_ BK224), (bk_ BK235), GW235.out, GE235.out, NB212_235.out, NB235_212.out, NB213_235.out, NB235_213.out, NB224_235.out, NB235_224.out, (bw_ HB)⟩)
    ·
     refine box_step ?hg (N := 9) ?hd (cs := #[.int .i64 0, .int .i64 0]) (t := 49) ?hr ?_; (case hd => rfl); (case hg => rfl); (case hr => first | (go_simp; done) | (go_simp; rfl))
     intro gb235 hg w25 hbox hb; have n0_ := bb_ BK212 hb; have n1_ := bb_ BK213 hb; have n2_ := bb_ BK224 hb; have n3_ := bs_ HB hb; have n4_ := Aside0.mk hbox; have n5_ := ge_ HB hg; have n6_ := ge_ HB hg; have n7_ := nl_ BK212 hg; have n8_ := nr_ BK212 hg; have n9_ := nl_ BK213 hg; have n10_ := nr_ BK213 hg; have n11_ := nl_ BK224 hg; have n12_ := nr_ BK224 hg; clear BK212 BK213 BK224 HB; have BK212 := n0_; have BK213 := n1_; have BK224 := n2_; have HB := n3_; have BK235 := n4_; have GW235 := n5_; have GE235 := n6_; have NB212_235 := n7_; have NB235_212 := n8_; have NB213_235 := n9_; have NB235_213 := n10_; have NB224_235 := n11_; have NB235_224 := n12_; clear n0_ n1_ n2_ n3_ n4_ n5_ n6_ n7_ n8_ n9_ n10_ n11_ n12_; clear hb hbox hg; refine hK.out _ _ ⟨bc_ BK212 0, bc_ BK212 1, bc_ BK212 2, bc_ BK212 3, bc_ BK212 4, bc_ BK213 0, bc_ BK213 1⟩ (fun hHeld => ?_); clear hK K
     apply norm_
     · show Act.put _ (some 9) _ = _; simp only [Act.put, sA_, sZ_, sS_, i64_w, i32_w]; rfl
     refine one_ (i := 1) (N := some 22) #[true,true,true,true,false,false,false,false,false,true,false,false] rfl rfl (one_of HT_.out (by kernel_rfl)) (by decide) (fun K hK => ?_); refine gs_ Try.func28 #[.agg #[.int .i64 a0_0, .int .i64 a0_1, .int .i64 a0_2, .int .i64 a0_3, .int .i64 a0_4]] ?_
     with_reducible refine (laws_toEd.calls a0_0 a0_1 a0_2 a0_3 a0_4 t225 t226 t227 t228 t229 _ A7.out).mono ?_
     rintro e w26 ⟨rfl, hb⟩; refine ⟨_, rfl, ?_⟩; replace BK212 := bb_ BK212 hb; replace BK213 := bb_ BK213 hb; replace BK224 := bb_ BK224 hb; replace BK235 := bb_ BK235 hb; replace HB := bs_ HB hb; (try clear hb); refine hK.out _ _ ⟨bc_ BK212 0, bc_ BK212 1, bc_ BK212 2, bc_ BK212 3, bc_ BK212 4, bc_ BK213 0, bc_ BK213 1⟩ (fun hHeld => ?_); clear hK K
     apply norm_
     · show Act.put _ (some 22) _ = _; simp only [Act.put, sA_, sZ_, sS_, i64_w, i32_w]; rfl
     refine one_ (i := 4) (N := some 25) #[true,true,true,true,true,false,false,false,false,true,false,false] rfl rfl (one_of HT_.out (by kernel_rfl)) (by decide) (fun K hK => ?_); refine gs_ Try.func36 #[.agg #[.int .i64 a2_0, .int .i64 a2_1]] ?_
     with_reducible refine (laws_toPair.calls a2_0 a2_1 t230 t231 _ A8.out).mono ?_
     rintro e w27 ⟨rfl, hb⟩; refine ⟨_, rfl, ?_⟩; replace BK212 := bb_ BK212 hb; replace BK213 := bb_ BK213 hb; replace BK224 := bb_ BK224 hb; replace BK235 := bb_ BK235 hb; replace HB := bs_ HB hb; (try clear hb); refine hK.out _ _ ⟨bc_ BK212 0, bc_ BK212 1, bc_ BK212 2, bc_ BK212 3, bc_ BK212 4, bc_ BK213 0, bc_ BK213 1⟩ (fun hHeld => ?_); clear hK K
     apply norm_
     · show Act.put _ (some 25) _ = _; simp only [Act.put, sA_, sZ_, sS_, i64_w, i32_w]; rfl
     refine one_ (i := 5) (N := some 26) #[true,true,true,true,true,true,false,false,false,true,false,false] rfl rfl (one_of HT_.out (by kernel_rfl)) (by decide) (fun K hK => ?_); refine gs_ Try.func45 #[.agg #[.int .i64 t225, .int .i64 t226, .int .i64 t227, .int .i64 t228, .int .i64 t229], .int .i64 a1, .agg #[.int .i64 t230, .int .i64 t231]] ?_
     with_reducible refine (impl_EdMul.calls k t225 t226 t227 t228 t229 a1 t230 t231 t232 t233 t234 _ A9.out).mono ?_
     rintro e w28 ⟨rfl, hb⟩; refine ⟨_, rfl, ?_⟩; replace BK212 := bb_ BK212 hb; replace BK213 := bb_ BK213 hb; replace BK224 := bb_ BK224 hb; replace BK235 := bb_ BK235 hb; replace HB := bs_ HB hb; (try clear hb); refine hK.out _ _ ⟨bc_ BK212 0, bc_ BK212 1, bc_ BK212 2, bc_ BK212 3, bc_ BK212 4, bc_ BK213 0, bc_ BK213 1⟩ (fun hHeld => ?_); clear hK K
     apply norm_
     · show Act.put _ (some 26) _ = _; simp only [Act.put, sA_, sZ_, sS_, i64_w, i32_w]; rfl
     refine pure_ (i := 6) (N := some 20) (v := ?_) (a' := ?_) #[true,true,true,true,true,true,true,false,false,true,false,false] rfl rfl (any_of HT_.out (by kernel_rfl)) (fun _ _ _ h => h) (Or.inl ⟨by rfl, ?_⟩) ?_ ?_; rotate_left
     ·
      intro w'; go_simp
      with_reducible rfl
     rotate_left
     · simp only [Act.put, sA_, sZ_, sS_, i64_w, i32_w]; rfl
     refine pure_ (i := 7) (N := some 27) (v := ?_) (a' := ?_) #[true,true,true,true,true,true,true,true,false,true,false,false] rfl rfl (any_of HT_.out (by kernel_rfl)) (fun _ _ _ h => h) (Or.inl ⟨by rfl, ?_⟩) ?_ ?_; rotate_left
     ·
      intro w'; go_simp
      with_reducible rfl
     rotate_left
     · simp only [Act.put, sA_, sZ_, sS_, i64_w, i32_w]; rfl
     refine pure_ (i := 8) (N := some 28) (v := ?_) (a' := ?_) #[true,true,true,true,true,true,true,true,true,true,false,false] rfl rfl (any_of HT_.out (by kernel_rfl)) (fun _ _ _ h => h) (Or.inl ⟨by rfl, ?_⟩) ?_ ?_; rotate_left
     ·
      intro w'; go_simp
      with_reducible rfl
     rotate_left
     · simp only [Act.put, sA_, sZ_, sS_, i64_w, i32_w]; rfl
     exact norm_ (by simp only [putAll, Act.put, sA_, sZ_, sS_]) (hCont (gb235) _ ⟨hHeld, (bk_ BK212), (bk_ BK213), (bk_ BK224), (bk_ BK235), GW235.out, GE235.out, NB212_235.out, NB235_212.out, NB213_235.out, NB235_213.out, NB224_235.out, NB235_224.out, (bw_ HB)⟩)
   rintro gb235 w29 ⟨hS_, h0_, h1_, h2_, h3_, h4_, h5_, h6_, h7_, h8_, h9_, h10_, h11_, h12_⟩; replace BK212 := Aside0.mk h0_; replace BK213 := Aside0.mk h1_; replace BK224 := Aside0.mk h2_; have BK235 := Aside0.mk h3_; have GW235 := Aside0.mk h4_; have GE235 := Aside0.mk h5_; have NB212_235 := Aside0.mk h6_; have NB235_212 := Aside0.mk h7_; have NB213_235 := Aside0.mk h8_; have NB235_213 := Aside0.mk h9_; have NB224_235 := Aside0.mk h10_; have NB235_224 := Aside0.mk h11_; replace HB := Aside0.mk h12_; clear h0_ h1_ h2_ h3_ h4_ h5_ h6_ h7_ h8_ h9_ h10_ h11_ h12_; have hHeld := hS_
   apply norm_
   · simp only [putAll, Act.put, sA_, sZ_, sS_]; rfl
   refine one_ (i := 10) (N := none) #[true,true,true,true,true,true,true,true,true,true,true,false] rfl rfl (one_of HT_.out (by kernel_rfl)) (by decide) (fun K hK => ?_)
   have hs30 : w29.cell? ⟨gb235, 0, none⟩ = some (.int .i64 0) := bc_ BK235 0
   have hfs30 := blk_frozen BK235.out 0; have hns30_0 := NB212_235.out; have hns30_1 := NB213_235.out; have hns30_2 := NB224_235.out; have hms30_0 := NB235_212.out; have hms30_1 := NB235_213.out; have hms30_2 := NB235_224.out
   have hs31 : w29.cell? ⟨gb235, 1, none⟩ = some (.int .i64 0) := bc_ BK235 1
   have hfs31 := blk_frozen BK235.out 1; have hns31_0 := NB212_235.out; have hns31_1 := NB213_235.out; have hns31_2 := NB224_235.out; have hms31_0 := NB235_212.out; have hms31_1 := NB235_213.out; have hms31_2 := NB235_224.out; refine skip_ (w1 := ?_) (by rfl) rfl ?_ ?_; rotate_left
   · go_simp; rfl
   refine hK.out _ _ ⟨((cell_far (p := ⟨gb235, _, none⟩) NB212_235.out _).trans (((cell_far (p := ⟨gb235, _, none⟩) NB212_235.out _).trans (hHeld.1)))), ((cell_far (p := ⟨gb235, _, none⟩) NB212_235.out _).trans (((cell_far (p := ⟨gb235, _, none⟩) NB212_235.out _).trans (hHeld.2.1)))), ((cell_far (p := ⟨gb235, _, none⟩) NB212_235.out _).trans (((cell_far (p := ⟨gb235, _, none⟩) NB212_235.out _).trans (hHeld.2.2.1)))), ((cell_far (p := ⟨gb235, _, none⟩) NB212_235.out _).trans (((cell_far (p := ⟨gb235, _, none⟩) NB212_235.out _).trans (hHeld.2.2.2.1)))), ((cell_far (p := ⟨gb235, _, none⟩) NB212_235.out _).trans (((cell_far (p := ⟨gb235, _, none⟩) NB212_235.out _).trans (hHeld.2.2.2.2.1)))), ((cell_far (p := ⟨gb235, _, none⟩) NB213_235.out _).trans (((cell_far (p := ⟨gb235, _, none⟩) NB213_235.out _).trans (hHeld.2.2.2.2.2.1)))), ((cell_far (p := ⟨gb235, _, none⟩) NB213_235.out _).trans (((cell_far (p := ⟨gb235, _, none⟩) NB213_235.out _).trans (hHeld.2.2.2.2.2.2))))⟩ (fun hHeld => ?_); clear hK K; refine pure_ (i := 11) (N := some 10) (v := ?_) (a' := ?_) #[true,true,true,true,true,true,true,true,true,true,true,true] rfl rfl (any_of HT_.out (by kernel_rfl)) (fun _ _ _ h => h) (Or.inl ⟨by rfl, ?_⟩) ?_ ?_; rotate_left
   ·
    intro w'; go_simp
    with_reducible rfl
   rotate_left
   · simp only [Act.put, sA_, sZ_, sS_, i64_w, i32_w]; rfl
   refine done_ (done_of HT_.out (by kernel_rfl)) ?_; have hnb32 := NB235_212.out; have hnc32 := NB212_235.out; have hnb33 := NB235_213.out; have hnc33 := NB213_235.out; have hnb34 := NB235_224.out; have hnc34 := NB224_235.out
   have hcz35_0 : w29.cell? ⟨gb235, 0, none⟩ = some (.int .i64 0) := bc_ BK235 0
   have hcz35_1 : w29.cell? ⟨gb235, 1, none⟩ = some (.int .i64 0) := bc_ BK235 1
   have hfz35_0 := blk_frozen BK235.out 0; have hfz35_1 := blk_frozen BK235.out 1; have hnb36 := NB224_212.out; have hnc36 := NB212_224.out; have hnb37 := NB224_213.out; have hnc37 := NB213_224.out
   have hcz38_0 : w29.cell? ⟨gb224, 0, none⟩ = some (.int .i64 t221) := bc_ BK224 0
   have hcz38_1 : w29.cell? ⟨gb224, 1, none⟩ = some (.int .i64 t222) := bc_ BK224 1
   have hfz38_0 := blk_frozen BK224.out 0; have hfz38_1 := blk_frozen BK224.out 1
   try go_wp2_with (first | ((with_reducible refine gate_callee (f := 43) rfl ?_); refine goesL_ (some 31) rfl rfl Try.func43 (by kernel_rfl) rfl #[.agg #[.int .i64 t232, .int .i64 t233], .agg #[.int .i64 t221, .int .i64 t222]] rfl (by (try simp only [List.map_toArray, List.map_cons, List.map_nil]); first | done | rfl | (simp only [List.length_drop, List.length_take]; rfl)) ?_; (with_reducible refine (laws_eqPair.calls t232 t233 t221 t222 true _ A10.out).mono ?_); rintro e w39 ⟨rfl, hb⟩; refine ⟨_, rfl, ?_⟩; have n0_ := Aside0.mk (blk_below (g := gb212) (o := .cells #[.int .i64 a0_0, .int .i64 a0_1, .int .i64 a0_2, .int .i64 a0_3, .int .i64 a0_4] 35 (0, 0)) (by (with_reducible repeat (first | refine blk_drewN ?_ _ | refine blk_drew ?_ | refine blk_alloc ?_ _)); refine blk_far ?_ NB212_235.out _; (with_reducible repeat (first | refine blk_drewN ?_ _ | refine blk_drew ?_ | refine blk_alloc ?_ _)); refine blk_far ?_ NB212_235.out _; (with_reducible repeat (first | refine blk_drewN ?_ _ | refine blk_drew ?_ | refine blk_alloc ?_ _)); exact BK212.out) hb); have n1_ := Aside0.mk (blk_below (g := gb213) (o := .cells #[.int .i64 a2_0, .int .i64 a2_1] 47 (0, 0)) (by (with_reducible repeat (first | refine blk_drewN ?_ _ | refine blk_drew ?_ | refine blk_alloc ?_ _)); refine blk_far ?_ NB213_235.out _; (with_reducible repeat (first | refine blk_drewN ?_ _ | refine blk_drew ?_ | refine blk_alloc ?_ _)); refine blk_far ?_ NB213_235.out _; (with_reducible repeat (first | refine blk_drewN ?_ _ | refine blk_drew ?_ | refine blk_alloc ?_ _)); exact BK213.out) hb); have n2_ := Aside0.mk (blk_below (g := gb224) (o := .cells #[.int .i64 t221, .int .i64 t222] 49 (0, 0)) (by (with_reducible repeat (first | refine blk_drewN ?_ _ | refine blk_drew ?_ | refine blk_alloc ?_ _)); refine blk_far ?_ NB224_235.out _; (with_reducible repeat (first | refine blk_drewN ?_ _ | refine blk_drew ?_ | refine blk_alloc ?_ _)); refine blk_far ?_ NB224_235.out _; (with_reducible repeat (first | refine blk_drewN ?_ _ | refine blk_drew ?_ | refine blk_alloc ?_ _)); exact BK224.out) hb); have n3_ := Aside0.mk (blk_below (g := gb235) (o := .cells #[.int .i64 t232, .int .i64 t233] 49 (0, 0)) (by (with_reducible repeat (first | refine blk_drewN ?_ _ | refine blk_drew ?_ | refine blk_alloc ?_ _)); refine blk_put (cs := #[.int .i64 t232, .int .i64 0]) ?_ 1 _ rfl; (with_reducible repeat (first | refine blk_drewN ?_ _ | refine blk_drew ?_ | refine blk_alloc ?_ _)); refine blk_put (cs := #[.int .i64 0, .int .i64 0]) ?_ 0 _ rfl; (with_reducible repeat (first | refine blk_drewN ?_ _ | refine blk_drew ?_ | refine blk_alloc ?_ _)); exact BK235.out) hb); have n4_ := bs_ HB hb; clear BK212; clear BK213; clear BK224; clear BK235; clear HB; have BK212 := n0_; have BK213 := n1_; have BK224 := n2_; have BK235 := n3_; have HB := n4_; clear n0_ n1_ n2_ n3_ n4_; (try clear hb); (try clear hb2); (try clear hk); (try clear hi)))
   go_ret
   exact ⟨by first | rfl | (simp [errW_none, errW_some] <;> rfl) | (simp [*, errW_none, errW_some] <;> rfl), by repeat (first | (with_reducible first | exact HB.out | apply below_alloc | apply pw_below_drewN | apply below_drew1 | refine below_set ?_ GE212.out | refine below_set ?_ GE213.out | refine below_set ?_ GE224.out | refine below_set ?_ GE235.out) | exact HB.out)⟩
  ·
   rw [if_neg c12] at H
   have c12b0 : (t234 != t223) = false := by simpa using c12
   (try (have c12b1 : decide (t234 = t223) = true := by simpa using c12)); (try (have c12b2 : (t234 == t223) = true := by simpa using c12)); clear c12; obtain rfl := Option.some.inj H
   go_enter Try.func12, Try.ntmps12
   try go_wp2_with (first | ((with_reducible refine gate_dst (N := 3) rfl ?_); refine box_event ?hg (N := 3) ?hd (cs := #[.int .i64 a0_0, .int .i64 a0_1, .int .i64 a0_2, .int .i64 a0_3, .int .i64 a0_4]) (t := 35) ?hr ?_; (case hd => rfl); (case hg => rfl); (case hr => first | (go_simp; done) | (go_simp; rfl)); intro gb212 hg w40 hbox hb; have n0_ := bs_ HB hb; have n1_ := Aside0.mk hbox; have n2_ := ge_ HB hg; have n3_ := ge_ HB hg; clear HB; have HB := n0_; have BK212 := n1_; have GW212 := n2_; have GE212 := n3_; clear n0_ n1_ n2_ n3_; clear hb hbox hg) | ((with_reducible refine gate_dst (N := 5) rfl ?_); refine box_event ?hg (N := 5) ?hd (cs := #[.int .i64 a2_0, .int .i64 a2_1]) (t := 47) ?hr ?_; (case hd => rfl); (case hg => rfl); (case hr => first | (go_simp; done) | (go_simp; rfl)); intro gb213 hg w41 hbox hb; have n0_ := bb_ BK212 hb; have n1_ := bs_ HB hb; have n2_ := Aside0.mk hbox; have n3_ := ge_ HB hg; have n4_ := ge_ HB hg; have n5_ := nl_ BK212 hg; have n6_ := nr_ BK212 hg; clear BK212; clear HB; have BK212 := n0_; have HB := n1_; have BK213 := n2_; have GW213 := n3_; have GE213 := n4_; have NB212_213 := n5_; have NB213_212 := n6_; clear n0_ n1_ n2_ n3_ n4_ n5_ n6_; clear hb hbox hg))
   replace BK212 := Aside0.mk (blk_drew BK212.out); replace BK213 := Aside0.mk (blk_drew BK213.out); replace HB := Aside0.mk (below_drew1 HB.out); refine start_ (n := 12) (S := fun w' => w'.cell? ⟨gb212, 0, none⟩ = some (.int .i64 a0_0) ∧ w'.cell? ⟨gb212, 1, none⟩ = some (.int .i64 a0_1) ∧ w'.cell? ⟨gb212, 2, none⟩ = some (.int .i64 a0_2) ∧ w'.cell? ⟨gb212, 3, none⟩ = some (.int .i64 a0_3) ∧ w'.cell? ⟨gb212, 4, none⟩ = some (.int .i64 a0_4) ∧ w'.cell? ⟨gb213, 0, none⟩ = some (.int .i64 a2_0) ∧ w'.cell? ⟨gb213, 1, none⟩ = some (.int .i64 a2_1)) (ds := []) #[false,false,false,false,false,false,false,false,false,false,false,false] (by kernel_rfl) rfl rfl ⟨bc_ BK212 0, bc_ BK212 1, bc_ BK212 2, bc_ BK212 3, bc_ BK212 4, bc_ BK213 0, bc_ BK213 1⟩ (fun hHeld => ?_); refine with_tabW laws_FnExactEdMul.tab1 laws_FnExactEdMul.bits1 (fun HT_ HW_ => ?_)
   generalize w41.drew = w42 at BK212 BK213 HB hHeld ⊢
   refine pure_ (i := 2) (N := some 14) (v := ?_) (a' := ?_) #[false,false,true,false,false,false,false,false,false,false,false,false] rfl rfl (any_of HT_.out (by kernel_rfl)) (fun _ _ _ h => h) (Or.inl ⟨by rfl, ?_⟩) ?_ ?_; rotate_left
   ·
    intro w'; go_simp
    with_reducible rfl
   rotate_left
   · simp only [Act.put, sA_, sZ_, sS_, i64_w, i32_w]; rfl
   refine take_ (i := 0) (N := some 12) (v := ?_) (a' := ?_) #[true,false,true,false,false,false,false,false,false,false,false,false] rfl rfl (take_ofW HT_.out HW_.out (by kernel_rfl)) (fun _ _ _ h => h) (Or.inl ⟨by rfl, ?_⟩) hHeld ?_ ?_; rotate_left
   ·
    rintro w' ⟨s0, s1, s2, s3, s4, s5, s6⟩; go_simp
    with_reducible rfl
   rotate_left
   · simp only [Act.put, sA_, sZ_, sS_, i64_w, i32_w]; rfl
   refine take_ (i := 3) (N := some 15) (v := ?_) (a' := ?_) #[true,false,true,true,false,false,false,false,false,false,false,false] rfl rfl (take_ofW HT_.out HW_.out (by kernel_rfl)) (fun _ _ _ h => h) (Or.inl ⟨by rfl, ?_⟩) hHeld ?_ ?_; rotate_left
   ·
    rintro w' ⟨s0, s1, s2, s3, s4, s5, s6⟩; go_simp
    with_reducible rfl
   rotate_left
   · simp only [Act.put, sA_, sZ_, sS_, i64_w, i32_w]; rfl
   refine join_ (σ := Nat) 2 #[true,true,true,true,true,true,true,true,true,true,false,false] (fun s_ => [(13, .agg #[.int .i64 t214, .int .i64 t215, .int .i64 t216, .int .i64 t217, .int .i64 t218]), (16, .agg #[.int .i64 t219, .int .i64 t220]), (17, .tuple #[.agg #[.int .i64 t221, .int .i64 t222], .bool t223]), (7, .pointer (some ⟨s_, 0, none⟩)), (11, .tuple #[.agg #[.int .i64 t221, .int .i64 t222], .bool t223]), (18, .agg #[.int .i64 t221, .int .i64 t222]), (19, .bool t223)]) (fun s_ w' => (w'.cell? ⟨gb212, 0, none⟩ = some (.int .i64 a0_0) ∧ w'.cell? ⟨gb212, 1, none⟩ = some (.int .i64 a0_1) ∧ w'.cell? ⟨gb212, 2, none⟩ = some (.int .i64 a0_2) ∧ w'.cell? ⟨gb212, 3, none⟩ = some (.int .i64 a0_3) ∧ w'.cell? ⟨gb212, 4, none⟩ = some (.int .i64 a0_4) ∧ w'.cell? ⟨gb213, 0, none⟩ = some (.int .i64 a2_0) ∧ w'.cell? ⟨gb213, 1, none⟩ = some (.int .i64 a2_1)) ∧ (w'.heap[gb212]? = some (.cells #[.int .i64 a0_0, .int .i64 a0_1, .int .i64 a0_2, .int .i64 a0_3, .int .i64 a0_4] 35 (0, 0))) ∧ (w'.heap[gb213]? = some (.cells #[.int .i64 a2_0, .int .i64 a2_1] 47 (0, 0))) ∧ (w'.heap[s_]? = some (.cells #[.int .i64 0, .int .i64 0] 49 (0, 0))) ∧ (w.heap.size ≤ s_) ∧ (w.heap.size ≤ s_) ∧ (gb212 ≠ s_) ∧ (s_ ≠ gb212) ∧ (gb213 ≠ s_) ∧ (s_ ≠ gb213) ∧ (Below w.heap.size w w')) ?_ ?_; rotate_left
   ·
    intro hCont; refine two_ (i := 1) (j := 9) (Ni := some 13) (Nj := some 7) #[true,true,true,true,false,false,false,false,false,false,false,false] #[true,false,true,true,false,false,false,false,false,true,false,false] rfl rfl rfl rfl (two_of HT_.out (by kernel_rfl)) (by decide) (by decide) (fun K hK => ?_) (fun K hK => ?_)
    ·
     refine gs_ Try.func28 #[.agg #[.int .i64 a0_0, .int .i64 a0_1, .int .i64 a0_2, .int .i64 a0_3, .int .i64 a0_4]] ?_
     with_reducible refine (laws_toEd.calls a0_0 a0_1 a0_2 a0_3 a0_4 t214 t215 t216 t217 t218 _ A4.out).mono ?_
     rintro e w43 ⟨rfl, hb⟩; refine ⟨_, rfl, ?_⟩; replace BK212 := bb_ BK212 hb; replace BK213 := bb_ BK213 hb; replace HB := bs_ HB hb; (try clear hb); refine hK.out _ _ ⟨bc_ BK212 0, bc_ BK212 1, bc_ BK212 2, bc_ BK212 3, bc_ BK212 4, bc_ BK213 0, bc_ BK213 1⟩ (fun hHeld => ?_); clear hK K
     apply norm_
     · show Act.put _ (some 13) _ = _; simp only [Act.put, sA_, sZ_, sS_, i64_w, i32_w]; rfl
     refine two_ (i := 4) (j := 9) (Ni := some 16) (Nj := some 7) #[true,true,true,true,true,false,false,false,false,false,false,false] #[true,true,true,true,false,false,false,false,false,true,false,false] rfl rfl rfl rfl (two_of HT_.out (by kernel_rfl)) (by decide) (by decide) (fun K hK => ?_) (fun K hK => ?_)
     ·
      refine gs_ Try.func36 #[.agg #[.int .i64 a2_0, .int .i64 a2_1]] ?_
      with_reducible refine (laws_toPair.calls a2_0 a2_1 t219 t220 _ A5.out).mono ?_
      rintro e w44 ⟨rfl, hb⟩; refine ⟨_, rfl, ?_⟩; replace BK212 := bb_ BK212 hb; replace BK213 := bb_ BK213 hb; replace HB := bs_ HB hb; (try clear hb); refine hK.out _ _ ⟨bc_ BK212 0, bc_ BK212 1, bc_ BK212 2, bc_ BK212 3, bc_ BK212 4, bc_ BK213 0, bc_ BK213 1⟩ (fun hHeld => ?_); clear hK K
      apply norm_
      · show Act.put _ (some 16) _ = _; simp only [Act.put, sA_, sZ_, sS_, i64_w, i32_w]; rfl
      refine two_ (i := 5) (j := 9) (Ni := some 17) (Nj := some 7) #[true,true,true,true,true,true,false,false,false,false,false,false] #[true,true,true,true,true,false,false,false,false,true,false,false] rfl rfl rfl rfl (two_of HT_.out (by kernel_rfl)) (by decide) (by decide) (fun K hK => ?_) (fun K hK => ?_)
      ·
       refine gs_ Try.func44 #[.agg #[.int .i64 t214, .int .i64 t215, .int .i64 t216, .int .i64 t217, .int .i64 t218], .int .i64 a1, .agg #[.int .i64 t219, .int .i64 t220]] ?_
       with_reducible refine (spec_EdMul.calls k t214 t215 t216 t217 t218 a1 t219 t220 t221 t222 t223 _ A6.out).mono ?_
       rintro e w45 ⟨rfl, hb⟩; refine ⟨_, rfl, ?_⟩; replace BK212 := bb_ BK212 hb; replace BK213 := bb_ BK213 hb; replace HB := bs_ HB hb; (try clear hb); refine hK.out _ _ ⟨bc_ BK212 0, bc_ BK212 1, bc_ BK212 2, bc_ BK212 3, bc_ BK212 4, bc_ BK213 0, bc_ BK213 1⟩ (fun hHeld => ?_); clear hK K
       apply norm_
       · show Act.put _ (some 17) _ = _; simp only [Act.put, sA_, sZ_, sS_, i64_w, i32_w]; rfl
       refine pure_ (i := 6) (N := some 11) (v := ?_) (a' := ?_) #[true,true,true,true,true,true,true,false,false,false,false,false] rfl rfl (any_of HT_.out (by kernel_rfl)) (fun _ _ _ h => h) (Or.inl ⟨by rfl, ?_⟩) ?_ ?_; rotate_left
       ·
        intro w'; go_simp
        with_reducible rfl
       rotate_left
       · simp only [Act.put, sA_, sZ_, sS_, i64_w, i32_w]; rfl
       refine pure_ (i := 7) (N := some 18) (v := ?_) (a' := ?_) #[true,true,true,true,true,true,true,true,false,false,false,false] rfl rfl (any_of HT_.out (by kernel_rfl)) (fun _ _ _ h => h) (Or.inl ⟨by rfl, ?_⟩) ?_ ?_; rotate_left
       ·
        intro w'; go_simp
        with_reducible rfl
       rotate_left
       · simp only [Act.put, sA_, sZ_, sS_, i64_w, i32_w]; rfl
       refine pure_ (i := 8) (N := some 19) (v := ?_) (a' := ?_) #[true,true,true,true,true,true,true,true,true,false,false,false] rfl rfl (any_of HT_.out (by kernel_rfl)) (fun _ _ _ h => h) (Or.inl ⟨by rfl, ?_⟩) ?_ ?_; rotate_left
       ·
        intro w'; go_simp
        with_reducible rfl
       rotate_left
       · simp only [Act.put, sA_, sZ_, sS_, i64_w, i32_w]; rfl
       refine one_ (i := 9) (N := some 7) #[true,true,true,true,true,true,true,true,true,true,false,false] rfl rfl (one_of HT_.out (by kernel_rfl)) (by decide) (fun K hK => ?_); refine box_step ?hg (N := 7) ?hd (cs := #[.int .i64 0, .int .i64 0]) (t := 49) ?hr ?_; (case hd => rfl); (case hg => rfl); (case hr => first | (go_simp; done) | (go_simp; rfl))
       intro gb224 hg w46 hbox hb; have n0_ := bb_ BK212 hb; have n1_ := bb_ BK213 hb; have n2_ := bs_ HB hb; have n3_ := Aside0.mk hbox; have n4_ := ge_ HB hg; have n5_ := ge_ HB hg; have n6_ := nl_ BK212 hg; have n7_ := nr_ BK212 hg; have n8_ := nl_ BK213 hg; have n9_ := nr_ BK213 hg; clear BK212 BK213 HB; have BK212 := n0_; have BK213 := n1_; have HB := n2_; have BK224 := n3_; have GW224 := n4_; have GE224 := n5_; have NB212_224 := n6_; have NB224_212 := n7_; have NB213_224 := n8_; have NB224_213 := n9_; clear n0_ n1_ n2_ n3_ n4_ n5_ n6_ n7_ n8_ n9_; clear hb hbox hg; refine hK.out _ _ ⟨bc_ BK212 0, bc_ BK212 1, bc_ BK212 2, bc_ BK212 3, bc_ BK212 4, bc_ BK213 0, bc_ BK213 1⟩ (fun hHeld => ?_); clear hK K
       apply norm_
       · show Act.put _ (some 7) _ = _; simp only [Act.put, sA_, sZ_, sS_, i64_w, i32_w]; rfl
       exact norm_ (by simp only [putAll, Act.put, sA_, sZ_, sS_]) (hCont (gb224) _ ⟨hHeld, (bk_ BK212), (bk_ BK213), (bk_ BK224), GW224.out, GE224.out, NB212_224.out, NB224_212.out, NB213_224.out, NB224_213.out, (bw_ HB)⟩)
      ·
       refine box_step ?hg (N := 7) ?hd (cs := #[.int .i64 0, .int .i64 0]) (t := 49) ?hr ?_; (case hd => rfl); (case hg => rfl); (case hr => first | (go_simp; done) | (go_simp; rfl))
       intro gb224 hg w45 hbox hb; have n0_ := bb_ BK212 hb; have n1_ := bb_ BK213 hb; have n2_ := bs_ HB hb; have n3_ := Aside0.mk hbox; have n4_ := ge_ HB hg; have n5_ := ge_ HB hg; have n6_ := nl_ BK212 hg; have n7_ := nr_ BK212 hg; have n8_ := nl_ BK213 hg; have n9_ := nr_ BK213 hg; clear BK212 BK213 HB; have BK212 := n0_; have BK213 := n1_; have HB := n2_; have BK224 := n3_; have GW224 := n4_; have GE224 := n5_; have NB212_224 := n6_; have NB224_212 := n7_; have NB213_224 := n8_; have NB224_213 := n9_; clear n0_ n1_ n2_ n3_ n4_ n5_ n6_ n7_ n8_ n9_; clear hb hbox hg; refine hK.out _ _ ⟨bc_ BK212 0, bc_ BK212 1, bc_ BK212 2, bc_ BK212 3, bc_ BK212 4, bc_ BK213 0, bc_ BK213 1⟩ (fun hHeld => ?_); clear hK K
       apply norm_
       · show Act.put _ (some 7) _ = _; simp only [Act.put, sA_, sZ_, sS_, i64_w, i32_w]; rfl
       refine one_ (i := 5) (N := some 17) #[true,true,true,true,true,true,false,false,false,true,false,false] rfl rfl (one_of HT_.out (by kernel_rfl)) (by decide) (fun K hK => ?_); refine gs_ Try.func44 #[.agg #[.int .i64 t214, .int .i64 t215, .int .i64 t216, .int .i64 t217, .int .i64 t218], .int .i64 a1, .agg #[.int .i64 t219, .int .i64 t220]] ?_
       with_reducible refine (spec_EdMul.calls k t214 t215 t216 t217 t218 a1 t219 t220 t221 t222 t223 _ A6.out).mono ?_
       rintro e w46 ⟨rfl, hb⟩; refine ⟨_, rfl, ?_⟩; replace BK212 := bb_ BK212 hb; replace BK213 := bb_ BK213 hb; replace BK224 := bb_ BK224 hb; replace HB := bs_ HB hb; (try clear hb); refine hK.out _ _ ⟨bc_ BK212 0, bc_ BK212 1, bc_ BK212 2, bc_ BK212 3, bc_ BK212 4, bc_ BK213 0, bc_ BK213 1⟩ (fun hHeld => ?_); clear hK K
       apply norm_
       · show Act.put _ (some 17) _ = _; simp only [Act.put, sA_, sZ_, sS_, i64_w, i32_w]; rfl
       refine pure_ (i := 6) (N := some 11) (v := ?_) (a' := ?_) #[true,true,true,true,true,true,true,false,false,true,false,false] rfl rfl (any_of HT_.out (by kernel_rfl)) (fun _ _ _ h => h) (Or.inl ⟨by rfl, ?_⟩) ?_ ?_; rotate_left
       ·
        intro w'; go_simp
        with_reducible rfl
       rotate_left
       · simp only [Act.put, sA_, sZ_, sS_, i64_w, i32_w]; rfl
       refine pure_ (i := 7) (N := some 18) (v := ?_) (a' := ?_) #[true,true,true,true,true,true,true,true,false,true,false,false] rfl rfl (any_of HT_.out (by kernel_rfl)) (fun _ _ _ h => h) (Or.inl ⟨by rfl, ?_⟩) ?_ ?_; rotate_left
       ·
        intro w'; go_simp
        with_reducible rfl
       rotate_left
       · simp only [Act.put, sA_, sZ_, sS_, i64_w, i32_w]; rfl
       refine pure_ (i := 8) (N := some 19) (v := ?_) (a' := ?_) #[true,true,true,true,true,true,true,true,true,true,false,false] rfl rfl (any_of HT_.out (by kernel_rfl)) (fun _ _ _ h => h) (Or.inl ⟨by rfl, ?_⟩) ?_ ?_; rotate_left
       ·
        intro w'; go_simp
        with_reducible rfl
       rotate_left
       · simp only [Act.put, sA_, sZ_, sS_, i64_w, i32_w]; rfl
       exact norm_ (by simp only [putAll, Act.put, sA_, sZ_, sS_]) (hCont (gb224) _ ⟨hHeld, (bk_ BK212), (bk_ BK213), (bk_ BK224), GW224.out, GE224.out, NB212_224.out, NB224_212.out, NB213_224.out, NB224_213.out, (bw_ HB)⟩)
     ·
      refine box_step ?hg (N := 7) ?hd (cs := #[.int .i64 0, .int .i64 0]) (t := 49) ?hr ?_; (case hd => rfl); (case hg => rfl); (case hr => first | (go_simp; done) | (go_simp; rfl))
      intro gb224 hg w44 hbox hb; have n0_ := bb_ BK212 hb; have n1_ := bb_ BK213 hb; have n2_ := bs_ HB hb; have n3_ := Aside0.mk hbox; have n4_ := ge_ HB hg; have n5_ := ge_ HB hg; have n6_ := nl_ BK212 hg; have n7_ := nr_ BK212 hg; have n8_ := nl_ BK213 hg; have n9_ := nr_ BK213 hg; clear BK212 BK213 HB; have BK212 := n0_; have BK213 := n1_; have HB := n2_; have BK224 := n3_; have GW224 := n4_; have GE224 := n5_; have NB212_224 := n6_; have NB224_212 := n7_; have NB213_224 := n8_; have NB224_213 := n9_; clear n0_ n1_ n2_ n3_ n4_ n5_ n6_ n7_ n8_ n9_; clear hb hbox hg; refine hK.out _ _ ⟨bc_ BK212 0, bc_ BK212 1, bc_ BK212 2, bc_ BK212 3, bc_ BK212 4, bc_ BK213 0, bc_ BK213 1⟩ (fun hHeld => ?_); clear hK K
      apply norm_
      · show Act.put _ (some 7) _ = _; simp only [Act.put, sA_, sZ_, sS_, i64_w, i32_w]; rfl
      refine one_ (i := 4) (N := some 16) #[true,true,true,true,true,false,false,false,false,true,false,false] rfl rfl (one_of HT_.out (by kernel_rfl)) (by decide) (fun K hK => ?_); refine gs_ Try.func36 #[.agg #[.int .i64 a2_0, .int .i64 a2_1]] ?_
      with_reducible refine (laws_toPair.calls a2_0 a2_1 t219 t220 _ A5.out).mono ?_
      rintro e w45 ⟨rfl, hb⟩; refine ⟨_, rfl, ?_⟩; replace BK212 := bb_ BK212 hb; replace BK213 := bb_ BK213 hb; replace BK224 := bb_ BK224 hb; replace HB := bs_ HB hb; (try clear hb); refine hK.out _ _ ⟨bc_ BK212 0, bc_ BK212 1, bc_ BK212 2, bc_ BK212 3, bc_ BK212 4, bc_ BK213 0, bc_ BK213 1⟩ (fun hHeld => ?_); clear hK K
      apply norm_
      · show Act.put _ (some 16) _ = _; simp only [Act.put, sA_, sZ_, sS_, i64_w, i32_w]; rfl
      refine one_ (i := 5) (N := some 17) #[true,true,true,true,true,true,false,false,false,true,false,false] rfl rfl (one_of HT_.out (by kernel_rfl)) (by decide) (fun K hK => ?_); refine gs_ Try.func44 #[.agg #[.int .i64 t214, .int .i64 t215, .int .i64 t216, .int .i64 t217, .int .i64 t218], .int .i64 a1, .agg #[.int .i64 t219, .int .i64 t220]] ?_
      with_reducible refine (spec_EdMul.calls k t214 t215 t216 t217 t218 a1 t219 t220 t221 t222 t223 _ A6.out).mono ?_
      rintro e w46 ⟨rfl, hb⟩; refine ⟨_, rfl, ?_⟩; replace BK212 := bb_ BK212 hb; replace BK213 := bb_ BK213 hb; replace BK224 := bb_ BK224 hb; replace HB := bs_ HB hb; (try clear hb); refine hK.out _ _ ⟨bc_ BK212 0, bc_ BK212 1, bc_ BK212 2, bc_ BK212 3, bc_ BK212 4, bc_ BK213 0, bc_ BK213 1⟩ (fun hHeld => ?_); clear hK K
      apply norm_
      · show Act.put _ (some 17) _ = _; simp only [Act.put, sA_, sZ_, sS_, i64_w, i32_w]; rfl
      refine pure_ (i := 6) (N := some 11) (v := ?_) (a' := ?_) #[true,true,true,true,true,true,true,false,false,true,false,false] rfl rfl (any_of HT_.out (by kernel_rfl)) (fun _ _ _ h => h) (Or.inl ⟨by rfl, ?_⟩) ?_ ?_; rotate_left
      ·
       intro w'; go_simp
       with_reducible rfl
      rotate_left
      · simp only [Act.put, sA_, sZ_, sS_, i64_w, i32_w]; rfl
      refine pure_ (i := 7) (N := some 18) (v := ?_) (a' := ?_) #[true,true,true,true,true,true,true,true,false,true,false,false] rfl rfl (any_of HT_.out (by kernel_rfl)) (fun _ _ _ h => h) (Or.inl ⟨by rfl, ?_⟩) ?_ ?_; rotate_left
      ·
       intro w'; go_simp
       with_reducible rfl
      rotate_left
      · simp only [Act.put, sA_, sZ_, sS_, i64_w, i32_w]; rfl
      refine pure_ (i := 8) (N := some 19) (v := ?_) (a' := ?_) #[true,true,true,true,true,true,true,true,true,true,false,false] rfl rfl (any_of HT_.out (by kernel_rfl)) (fun _ _ _ h => h) (Or.inl ⟨by rfl, ?_⟩) ?_ ?_; rotate_left
      ·
       intro w'; go_simp
       with_reducible rfl
      rotate_left
      · simp only [Act.put, sA_, sZ_, sS_, i64_w, i32_w]; rfl
      exact norm_ (by simp only [putAll, Act.put, sA_, sZ_, sS_]) (hCont (gb224) _ ⟨hHeld, (bk_ BK212), (bk_ BK213), (bk_ BK224), GW224.out, GE224.out, NB212_224.out, NB224_212.out, NB213_224.out, NB224_213.out, (bw_ HB)⟩)
    ·
     refine box_step ?hg (N := 7) ?hd (cs := #[.int .i64 0, .int .i64 0]) (t := 49) ?hr ?_; (case hd => rfl); (case hg => rfl); (case hr => first | (go_simp; done) | (go_simp; rfl))
     intro gb224 hg w43 hbox hb; have n0_ := bb_ BK212 hb; have n1_ := bb_ BK213 hb; have n2_ := bs_ HB hb; have n3_ := Aside0.mk hbox; have n4_ := ge_ HB hg; have n5_ := ge_ HB hg; have n6_ := nl_ BK212 hg; have n7_ := nr_ BK212 hg; have n8_ := nl_ BK213 hg; have n9_ := nr_ BK213 hg; clear BK212 BK213 HB; have BK212 := n0_; have BK213 := n1_; have HB := n2_; have BK224 := n3_; have GW224 := n4_; have GE224 := n5_; have NB212_224 := n6_; have NB224_212 := n7_; have NB213_224 := n8_; have NB224_213 := n9_; clear n0_ n1_ n2_ n3_ n4_ n5_ n6_ n7_ n8_ n9_; clear hb hbox hg; refine hK.out _ _ ⟨bc_ BK212 0, bc_ BK212 1, bc_ BK212 2, bc_ BK212 3, bc_ BK212 4, bc_ BK213 0, bc_ BK213 1⟩ (fun hHeld => ?_); clear hK K
     apply norm_
     · show Act.put _ (some 7) _ = _; simp only [Act.put, sA_, sZ_, sS_, i64_w, i32_w]; rfl
     refine one_ (i := 1) (N := some 13) #[true,true,true,true,false,false,false,false,false,true,false,false] rfl rfl (one_of HT_.out (by kernel_rfl)) (by decide) (fun K hK => ?_); refine gs_ Try.func28 #[.agg #[.int .i64 a0_0, .int .i64 a0_1, .int .i64 a0_2, .int .i64 a0_3, .int .i64 a0_4]] ?_
     with_reducible refine (laws_toEd.calls a0_0 a0_1 a0_2 a0_3 a0_4 t214 t215 t216 t217 t218 _ A4.out).mono ?_
     rintro e w44 ⟨rfl, hb⟩; refine ⟨_, rfl, ?_⟩; replace BK212 := bb_ BK212 hb; replace BK213 := bb_ BK213 hb; replace BK224 := bb_ BK224 hb; replace HB := bs_ HB hb; (try clear hb); refine hK.out _ _ ⟨bc_ BK212 0, bc_ BK212 1, bc_ BK212 2, bc_ BK212 3, bc_ BK212 4, bc_ BK213 0, bc_ BK213 1⟩ (fun hHeld => ?_); clear hK K
     apply norm_
     · show Act.put _ (some 13) _ = _; simp only [Act.put, sA_, sZ_, sS_, i64_w, i32_w]; rfl
     refine one_ (i := 4) (N := some 16) #[true,true,true,true,true,false,false,false,false,true,false,false] rfl rfl (one_of HT_.out (by kernel_rfl)) (by decide) (fun K hK => ?_); refine gs_ Try.func36 #[.agg #[.int .i64 a2_0, .int .i64 a2_1]] ?_
     with_reducible refine (laws_toPair.calls a2_0 a2_1 t219 t220 _ A5.out).mono ?_
     rintro e w45 ⟨rfl, hb⟩; refine ⟨_, rfl, ?_⟩; replace BK212 := bb_ BK212 hb; replace BK213 := bb_ BK213 hb; replace BK224 := bb_ BK224 hb; replace HB := bs_ HB hb; (try clear hb); refine hK.out _ _ ⟨bc_ BK212 0, bc_ BK212 1, bc_ BK212 2, bc_ BK212 3, bc_ BK212 4, bc_ BK213 0, bc_ BK213 1⟩ (fun hHeld => ?_); clear hK K
     apply norm_
     · show Act.put _ (some 16) _ = _; simp only [Act.put, sA_, sZ_, sS_, i64_w, i32_w]; rfl
     refine one_ (i := 5) (N := some 17) #[true,true,true,true,true,true,false,false,false,true,false,false] rfl rfl (one_of HT_.out (by kernel_rfl)) (by decide) (fun K hK => ?_); refine gs_ Try.func44 #[.agg #[.int .i64 t214, .int .i64 t215, .int .i64 t216, .int .i64 t217, .int .i64 t218], .int .i64 a1, .agg #[.int .i64 t219, .int .i64 t220]] ?_
     with_reducible refine (spec_EdMul.calls k t214 t215 t216 t217 t218 a1 t219 t220 t221 t222 t223 _ A6.out).mono ?_
     rintro e w46 ⟨rfl, hb⟩; refine ⟨_, rfl, ?_⟩; replace BK212 := bb_ BK212 hb; replace BK213 := bb_ BK213 hb; replace BK224 := bb_ BK224 hb; replace HB := bs_ HB hb; (try clear hb); refine hK.out _ _ ⟨bc_ BK212 0, bc_ BK212 1, bc_ BK212 2, bc_ BK212 3, bc_ BK212 4, bc_ BK213 0, bc_ BK213 1⟩ (fun hHeld => ?_); clear hK K
     apply norm_
     · show Act.put _ (some 17) _ = _; simp only [Act.put, sA_, sZ_, sS_, i64_w, i32_w]; rfl
     refine pure_ (i := 6) (N := some 11) (v := ?_) (a' := ?_) #[true,true,true,true,true,true,true,false,false,true,false,false] rfl rfl (any_of HT_.out (by kernel_rfl)) (fun _ _ _ h => h) (Or.inl ⟨by rfl, ?_⟩) ?_ ?_; rotate_left
     ·
      intro w'; go_simp
      with_reducible rfl
     rotate_left
     · simp only [Act.put, sA_, sZ_, sS_, i64_w, i32_w]; rfl
     refine pure_ (i := 7) (N := some 18) (v := ?_) (a' := ?_) #[true,true,true,true,true,true,true,true,false,true,false,false] rfl rfl (any_of HT_.out (by kernel_rfl)) (fun _ _ _ h => h) (Or.inl ⟨by rfl, ?_⟩) ?_ ?_; rotate_left
     ·
      intro w'; go_simp
      with_reducible rfl
     rotate_left
     · simp only [Act.put, sA_, sZ_, sS_, i64_w, i32_w]; rfl
     refine pure_ (i := 8) (N := some 19) (v := ?_) (a' := ?_) #[true,true,true,true,true,true,true,true,true,true,false,false] rfl rfl (any_of HT_.out (by kernel_rfl)) (fun _ _ _ h => h) (Or.inl ⟨by rfl, ?_⟩) ?_ ?_; rotate_left
     ·
      intro w'; go_simp
      with_reducible rfl
     rotate_left
     · simp only [Act.put, sA_, sZ_, sS_, i64_w, i32_w]; rfl
     exact norm_ (by simp only [putAll, Act.put, sA_, sZ_, sS_]) (hCont (gb224) _ ⟨hHeld, (bk_ BK212), (bk_ BK213), (bk_ BK224), GW224.out, GE224.out, NB212_224.out, NB224_212.out, NB213_224.out, NB224_213.out, (bw_ HB)⟩)
   rintro gb224 w47 ⟨hS_, h0_, h1_, h2_, h3_, h4_, h5_, h6_, h7_, h8_, h9_⟩; replace BK212 := Aside0.mk h0_; replace BK213 := Aside0.mk h1_; have BK224 := Aside0.mk h2_; have GW224 := Aside0.mk h3_; have GE224 := Aside0.mk h4_; have NB212_224 := Aside0.mk h5_; have NB224_212 := Aside0.mk h6_; have NB213_224 := Aside0.mk h7_; have NB224_213 := Aside0.mk h8_; replace HB := Aside0.mk h9_; clear h0_ h1_ h2_ h3_ h4_ h5_ h6_ h7_ h8_ h9_; have hHeld := hS_
   apply norm_
   · simp only [putAll, Act.put, sA_, sZ_, sS_]; rfl
   refine one_ (i := 10) (N := none) #[true,true,true,true,true,true,true,true,true,true,true,false] rfl rfl (one_of HT_.out (by kernel_rfl)) (by decide) (fun K hK => ?_)
   have hs48 : w47.cell? ⟨gb224, 0, none⟩ = some (.int .i64 0) := bc_ BK224 0
   have hfs48 := blk_frozen BK224.out 0; have hns48_0 := NB212_224.out; have hns48_1 := NB213_224.out; have hms48_0 := NB224_212.out; have hms48_1 := NB224_213.out
   have hs49 : w47.cell? ⟨gb224, 1, none⟩ = some (.int .i64 0) := bc_ BK224 1
   have hfs49 := blk_frozen BK224.out 1; have hns49_0 := NB212_224.out; have hns49_1 := NB213_224.out; have hms49_0 := NB224_212.out; have hms49_1 := NB224_213.out; refine skip_ (w1 := ?_) (by rfl) rfl ?_ ?_; rotate_left
   · go_simp; rfl
   refine hK.out _ _ ⟨((cell_far (p := ⟨gb224, _, none⟩) NB212_224.out _).trans (((cell_far (p := ⟨gb224, _, none⟩) NB212_224.out _).trans (hHeld.1)))), ((cell_far (p := ⟨gb224, _, none⟩) NB212_224.out _).trans (((cell_far (p := ⟨gb224, _, none⟩) NB212_224.out _).trans (hHeld.2.1)))), ((cell_far (p := ⟨gb224, _, none⟩) NB212_224.out _).trans (((cell_far (p := ⟨gb224, _, none⟩) NB212_224.out _).trans (hHeld.2.2.1)))), ((cell_far (p := ⟨gb224, _, none⟩) NB212_224.out _).trans (((cell_far (p := ⟨gb224, _, none⟩) NB212_224.out _).trans (hHeld.2.2.2.1)))), ((cell_far (p := ⟨gb224, _, none⟩) NB212_224.out _).trans (((cell_far (p := ⟨gb224, _, none⟩) NB212_224.out _).trans (hHeld.2.2.2.2.1)))), ((cell_far (p := ⟨gb224, _, none⟩) NB213_224.out _).trans (((cell_far (p := ⟨gb224, _, none⟩) NB213_224.out _).trans (hHeld.2.2.2.2.2.1)))), ((cell_far (p := ⟨gb224, _, none⟩) NB213_224.out _).trans (((cell_far (p := ⟨gb224, _, none⟩) NB213_224.out _).trans (hHeld.2.2.2.2.2.2))))⟩ (fun hHeld => ?_); clear hK K; refine pure_ (i := 11) (N := some 8) (v := ?_) (a' := ?_) #[true,true,true,true,true,true,true,true,true,true,true,true] rfl rfl (any_of HT_.out (by kernel_rfl)) (fun _ _ _ h => h) (Or.inl ⟨by rfl, ?_⟩) ?_ ?_; rotate_left
   ·
    intro w'; go_simp
    with_reducible rfl
   rotate_left
   · simp only [Act.put, sA_, sZ_, sS_, i64_w, i32_w]; rfl
   refine done_ (done_of HT_.out (by kernel_rfl)) ?_
   try go_wp2
   have n0_ : Aside0 (((w47.setCell ⟨gb224, 0, none⟩ (.int .i64 t221)).setCell ⟨gb224, 1, none⟩ (.int .i64 t222)).heap[gb212]? = some (.cells #[.int .i64 a0_0, .int .i64 a0_1, .int .i64 a0_2, .int .i64 a0_3, .int .i64 a0_4] 35 (0, 0))) := ⟨by (with_reducible repeat (first | refine blk_drewN ?_ _ | refine blk_drew ?_ | refine blk_alloc ?_ _)); refine blk_far ?_ NB212_224.out _; (with_reducible repeat (first | refine blk_drewN ?_ _ | refine blk_drew ?_ | refine blk_alloc ?_ _)); refine blk_far ?_ NB212_224.out _; (with_reducible repeat (first | refine blk_drewN ?_ _ | refine blk_drew ?_ | refine blk_alloc ?_ _)); exact BK212.out⟩
   have n1_ : Aside0 (((w47.setCell ⟨gb224, 0, none⟩ (.int .i64 t221)).setCell ⟨gb224, 1, none⟩ (.int .i64 t222)).heap[gb213]? = some (.cells #[.int .i64 a2_0, .int .i64 a2_1] 47 (0, 0))) := ⟨by (with_reducible repeat (first | refine blk_drewN ?_ _ | refine blk_drew ?_ | refine blk_alloc ?_ _)); refine blk_far ?_ NB213_224.out _; (with_reducible repeat (first | refine blk_drewN ?_ _ | refine blk_drew ?_ | refine blk_alloc ?_ _)); refine blk_far ?_ NB213_224.out _; (with_reducible repeat (first | refine blk_drewN ?_ _ | refine blk_drew ?_ | refine blk_alloc ?_ _)); exact BK213.out⟩
   have n2_ : Aside0 (((w47.setCell ⟨gb224, 0, none⟩ (.int .i64 t221)).setCell ⟨gb224, 1, none⟩ (.int .i64 t222)).heap[gb224]? = some (.cells #[.int .i64 t221, .int .i64 t222] 49 (0, 0))) := ⟨by (with_reducible repeat (first | refine blk_drewN ?_ _ | refine blk_drew ?_ | refine blk_alloc ?_ _)); refine blk_put (cs := #[.int .i64 t221, .int .i64 0]) ?_ 1 _ rfl; (with_reducible repeat (first | refine blk_drewN ?_ _ | refine blk_drew ?_ | refine blk_alloc ?_ _)); refine blk_put (cs := #[.int .i64 0, .int .i64 0]) ?_ 0 _ rfl; (with_reducible repeat (first | refine blk_drewN ?_ _ | refine blk_drew ?_ | refine blk_alloc ?_ _)); exact BK224.out⟩
   have n3_ : Aside0 (Below w.heap.size w ((w47.setCell ⟨gb224, 0, none⟩ (.int .i64 t221)).setCell ⟨gb224, 1, none⟩ (.int .i64 t222))) := ⟨by repeat (first | (with_reducible first | exact HB.out | apply below_alloc | apply pw_below_drewN | apply below_drew1 | refine below_set ?_ GE212.out | refine below_set ?_ GE213.out | refine below_set ?_ GE224.out) | exact HB.out)⟩
   (try clear BK212); (try clear BK213); (try clear BK224); (try clear HB)
   generalize ((w47.setCell ⟨gb224, 0, none⟩ (.int .i64 t221)).setCell ⟨gb224, 1, none⟩ (.int .i64 t222)) = w50 at n0_ n1_ n2_ n3_ ⊢
   have BK212 := n0_; have BK213 := n1_; have BK224 := n2_; have HB := n3_; clear n0_ n1_ n2_ n3_; replace BK212 := Aside0.mk (blk_drew BK212.out); replace BK213 := Aside0.mk (blk_drew BK213.out); replace BK224 := Aside0.mk (blk_drew BK224.out); replace HB := Aside0.mk (below_drew1 HB.out); refine start_ (n := 12) (S := fun w' => w'.cell? ⟨gb212, 0, none⟩ = some (.int .i64 a0_0) ∧ w'.cell? ⟨gb212, 1, none⟩ = some (.int .i64 a0_1) ∧ w'.cell? ⟨gb212, 2, none⟩ = some (.int .i64 a0_2) ∧ w'.cell? ⟨gb212, 3, none⟩ = some (.int .i64 a0_3) ∧ w'.cell? ⟨gb212, 4, none⟩ = some (.int .i64 a0_4) ∧ w'.cell? ⟨gb213, 0, none⟩ = some (.int .i64 a2_0) ∧ w'.cell? ⟨gb213, 1, none⟩ = some (.int .i64 a2_1)) (ds := []) #[false,false,false,false,false,false,false,false,false,false,false,false] (by kernel_rfl) rfl rfl ⟨bc_ BK212 0, bc_ BK212 1, bc_ BK212 2, bc_ BK212 3, bc_ BK212 4, bc_ BK213 0, bc_ BK213 1⟩ (fun hHeld => ?_); refine with_tabW laws_FnExactEdMul.tab2 laws_FnExactEdMul.bits2 (fun HT_ HW_ => ?_)
   generalize w50.drew = w51 at BK212 BK213 BK224 HB hHeld ⊢
   refine pure_ (i := 2) (N := some 23) (v := ?_) (a' := ?_) #[false,false,true,false,false,false,false,false,false,false,false,false] rfl rfl (any_of HT_.out (by kernel_rfl)) (fun _ _ _ h => h) (Or.inl ⟨by rfl, ?_⟩) ?_ ?_; rotate_left
   ·
    intro w'; go_simp
    with_reducible rfl
   rotate_left
   · simp only [Act.put, sA_, sZ_, sS_, i64_w, i32_w]; rfl
   refine take_ (i := 0) (N := some 21) (v := ?_) (a' := ?_) #[true,false,true,false,false,false,false,false,false,false,false,false] rfl rfl (take_ofW HT_.out HW_.out (by kernel_rfl)) (fun _ _ _ h => h) (Or.inl ⟨by rfl, ?_⟩) hHeld ?_ ?_; rotate_left
   ·
    rintro w' ⟨s0, s1, s2, s3, s4, s5, s6⟩; go_simp
    with_reducible rfl
   rotate_left
   · simp only [Act.put, sA_, sZ_, sS_, i64_w, i32_w]; rfl
   refine take_ (i := 3) (N := some 24) (v := ?_) (a' := ?_) #[true,false,true,true,false,false,false,false,false,false,false,false] rfl rfl (take_ofW HT_.out HW_.out (by kernel_rfl)) (fun _ _ _ h => h) (Or.inl ⟨by rfl, ?_⟩) hHeld ?_ ?_; rotate_left
   ·
    rintro w' ⟨s0, s1, s2, s3, s4, s5, s6⟩; go_simp
    with_reducible rfl
   rotate_left
   · simp only [Act.put, sA_, sZ_, sS_, i64_w, i32_w]; rfl
   refine join_ (σ := Nat) 2 #[true,true,true,true,true,true,true,true,true,true,false,false] (fun s_ => [(22, .agg #[.int .i64 t225, .int .i64 t226, .int .i64 t227, .int .i64 t228, .int .i64 t229]), (25, .agg #[.int .i64 t230, .int .i64 t231]), (26, .tuple #[.agg #[.int .i64 t232, .int .i64 t233], .bool t234]), (9, .pointer (some ⟨s_, 0, none⟩)), (20, .tuple #[.agg #[.int .i64 t232, .int .i64 t233], .bool t234]), (27, .agg #[.int .i64 t232, .int .i64 t233]), (28, .bool t234)]) (fun s_ w' => (w'.cell? ⟨gb212, 0, none⟩ = some (.int .i64 a0_0) ∧ w'.cell? ⟨gb212, 1, none⟩ = some (.int .i64 a0_1) ∧ w'.cell? ⟨gb212, 2, none⟩ = some (.int .i64 a0_2) ∧ w'.cell? ⟨gb212, 3, none⟩ = some (.int .i64 a0_3) ∧ w'.cell? ⟨gb212, 4, none⟩ = some (.int .i64 a0_4) ∧ w'.cell? ⟨gb213, 0, none⟩ = some (.int .i64 a2_0) ∧ w'.cell? ⟨gb213, 1, none⟩ = some (.int .i64 a2_1)) ∧ (w'.heap[gb212]? = some (.cells #[.int .i64 a0_0, .int .i64 a0_1, .int .i64 a0_2, .int .i64 a0_3, .int .i64 a0_4] 35 (0, 0))) ∧ (w'.heap[gb213]? = some (.cells #[.int .i64 a2_0, .int .i64 a2_1] 47 (0, 0))) ∧ (w'.heap[gb224]? = some (.cells #[.int .i64 t221, .int .i64 t222] 49 (0, 0))) ∧ (w'.heap[s_]? = some (.cells #[.int .i64 0, .int .i64 0] 49 (0, 0))) ∧ (w.heap.size ≤ s_) ∧ (w.heap.size ≤ s_) ∧ (gb212 ≠ s_) ∧ (s_ ≠ gb212) ∧ (gb213 ≠ s_) ∧ (s_ ≠ gb213) ∧ (gb224 ≠ s_) ∧ (s_ ≠ gb224) ∧ (Below w.heap.size w w')) ?_ ?_; rotate_left
   ·
    intro hCont; refine two_ (i := 1) (j := 9) (Ni := some 22) (Nj := some 9) #[true,true,true,true,false,false,false,false,false,false,false,false] #[true,false,true,true,false,false,false,false,false,true,false,false] rfl rfl rfl rfl (two_of HT_.out (by kernel_rfl)) (by decide) (by decide) (fun K hK => ?_) (fun K hK => ?_)
    ·
     refine gs_ Try.func28 #[.agg #[.int .i64 a0_0, .int .i64 a0_1, .int .i64 a0_2, .int .i64 a0_3, .int .i64 a0_4]] ?_
     with_reducible refine (laws_toEd.calls a0_0 a0_1 a0_2 a0_3 a0_4 t225 t226 t227 t228 t229 _ A7.out).mono ?_
     rintro e w52 ⟨rfl, hb⟩; refine ⟨_, rfl, ?_⟩; replace BK212 := bb_ BK212 hb; replace BK213 := bb_ BK213 hb; replace BK224 := bb_ BK224 hb; replace HB := bs_ HB hb; (try clear hb); refine hK.out _ _ ⟨bc_ BK212 0, bc_ BK212 1, bc_ BK212 2, bc_ BK212 3, bc_ BK212 4, bc_ BK213 0, bc_ BK213 1⟩ (fun hHeld => ?_); clear hK K
     apply norm_
     · show Act.put _ (some 22) _ = _; simp only [Act.put, sA_, sZ_, sS_, i64_w, i32_w]; rfl
     refine two_ (i := 4) (j := 9) (Ni := some 25) (Nj := some 9) #[true,true,true,true,true,false,false,false,false,false,false,false] #[true,true,true,true,false,false,false,false,false,true,false,false] rfl rfl rfl rfl (two_of HT_.out (by kernel_rfl)) (by decide) (by decide) (fun K hK => ?_) (fun K hK => ?_)
     ·
      refine gs_ Try.func36 #[.agg #[.int .i64 a2_0, .int .i64 a2_1]] ?_
      with_reducible refine (laws_toPair.calls a2_0 a2_1 t230 t231 _ A8.out).mono ?_
      rintro e w53 ⟨rfl, hb⟩; refine ⟨_, rfl, ?_⟩; replace BK212 := bb_ BK212 hb; replace BK213 := bb_ BK213 hb; replace BK224 := bb_ BK224 hb; replace HB := bs_ HB hb; (try clear hb); refine hK.out _ _ ⟨bc_ BK212 0, bc_ BK212 1, bc_ BK212 2, bc_ BK212 3, bc_ BK212 4, bc_ BK213 0, bc_ BK213 1⟩ (fun hHeld => ?_); clear hK K
      apply norm_
      · show Act.put _ (some 25) _ = _; simp only [Act.put, sA_, sZ_, sS_, i64_w, i32_w]; rfl
      refine two_ (i := 5) (j := 9) (Ni := some 26) (Nj := some 9) #[true,true,true,true,true,true,false,false,false,false,false,false] #[true,true,true,true,true,false,false,false,false,true,false,false] rfl rfl rfl rfl (two_of HT_.out (by kernel_rfl)) (by decide) (by decide) (fun K hK => ?_) (fun K hK => ?_)
      ·
       refine gs_ Try.func45 #[.agg #[.int .i64 t225, .int .i64 t226, .int .i64 t227, .int .i64 t228, .int .i64 t229], .int .i64 a1, .agg #[.int .i64 t230, .int .i64 t231]] ?_
       with_reducible refine (impl_EdMul.calls k t225 t226 t227 t228 t229 a1 t230 t231 t232 t233 t234 _ A9.out).mono ?_
       rintro e w54 ⟨rfl, hb⟩; refine ⟨_, rfl, ?_⟩; replace BK212 := bb_ BK212 hb; replace BK213 := bb_ BK213 hb; replace BK224 := bb_ BK224 hb; replace HB := bs_ HB hb; (try clear hb); refine hK.out _ _ ⟨bc_ BK212 0, bc_ BK212 1, bc_ BK212 2, bc_ BK212 3, bc_ BK212 4, bc_ BK213 0, bc_ BK213 1⟩ (fun hHeld => ?_); clear hK K
       apply norm_
       · show Act.put _ (some 26) _ = _; simp only [Act.put, sA_, sZ_, sS_, i64_w, i32_w]; rfl
       refine pure_ (i := 6) (N := some 20) (v := ?_) (a' := ?_) #[true,true,true,true,true,true,true,false,false,false,false,false] rfl rfl (any_of HT_.out (by kernel_rfl)) (fun _ _ _ h => h) (Or.inl ⟨by rfl, ?_⟩) ?_ ?_; rotate_left
       ·
        intro w'; go_simp
        with_reducible rfl
       rotate_left
       · simp only [Act.put, sA_, sZ_, sS_, i64_w, i32_w]; rfl
       refine pure_ (i := 7) (N := some 27) (v := ?_) (a' := ?_) #[true,true,true,true,true,true,true,true,false,false,false,false] rfl rfl (any_of HT_.out (by kernel_rfl)) (fun _ _ _ h => h) (Or.inl ⟨by rfl, ?_⟩) ?_ ?_; rotate_left
       ·
        intro w'; go_simp
        with_reducible rfl
       rotate_left
       · simp only [Act.put, sA_, sZ_, sS_, i64_w, i32_w]; rfl
       refine pure_ (i := 8) (N := some 28) (v := ?_) (a' := ?_) #[true,true,true,true,true,true,true,true,true,false,false,false] rfl rfl (any_of HT_.out (by kernel_rfl)) (fun _ _ _ h => h) (Or.inl ⟨by rfl, ?_⟩) ?_ ?_; rotate_left
       ·
        intro w'; go_simp
        with_reducible rfl
       rotate_left
       · simp only [Act.put, sA_, sZ_, sS_, i64_w, i32_w]; rfl
       refine one_ (i := 9) (N := some 9) #[true,true,true,true,true,true,true,true,true,true,false,false] rfl rfl (one_of HT_.out (by kernel_rfl)) (by decide) (fun K hK => ?_); refine box_step ?hg (N := 9) ?hd (cs := #[.int .i64 0, .int .i64 0]) (t := 49) ?hr ?_; (case hd => rfl); (case hg => rfl); (case hr => first | (go_simp; done) | (go_simp; rfl))
       intro gb235 hg w55 hbox hb; have n0_ := bb_ BK212 hb; have n1_ := bb_ BK213 hb; have n2_ := bb_ BK224 hb; have n3_ := bs_ HB hb; have n4_ := Aside0.mk hbox; have n5_ := ge_ HB hg; have n6_ := ge_ HB hg; have n7_ := nl_ BK212 hg; have n8_ := nr_ BK212 hg; have n9_ := nl_ BK213 hg; have n10_ := nr_ BK213 hg; have n11_ := nl_ BK224 hg; have n12_ := nr_ BK224 hg; clear BK212 BK213 BK224 HB; have BK212 := n0_; have BK213 := n1_; have BK224 := n2_; have HB := n3_; have BK235 := n4_; have GW235 := n5_; have GE235 := n6_; have NB212_235 := n7_; have NB235_212 := n8_; have NB213_235 := n9_; have NB235_213 := n10_; have NB224_235 := n11_; have NB235_224 := n12_; clear n0_ n1_ n2_ n3_ n4_ n5_ n6_ n7_ n8_ n9_ n10_ n11_ n12_; clear hb hbox hg; refine hK.out _ _ ⟨bc_ BK212 0, bc_ BK212 1, bc_ BK212 2, bc_ BK212 3, bc_ BK212 4, bc_ BK213 0, bc_ BK213 1⟩ (fun hHeld => ?_); clear hK K
       apply norm_
       · show Act.put _ (some 9) _ = _; simp only [Act.put, sA_, sZ_, sS_, i64_w, i32_w]; rfl
       exact norm_ (by simp only [putAll, Act.put, sA_, sZ_, sS_]) (hCont (gb235) _ ⟨hHeld, (bk_ BK212), (bk_ BK213), (bk_ BK224), (bk_ BK235), GW235.out, GE235.out, NB212_235.out, NB235_212.out, NB213_235.out, NB235_213.out, NB224_235.out, NB235_224.out, (bw_ HB)⟩)
      ·
       refine box_step ?hg (N := 9) ?hd (cs := #[.int .i64 0, .int .i64 0]) (t := 49) ?hr ?_; (case hd => rfl); (case hg => rfl); (case hr => first | (go_simp; done) | (go_simp; rfl))
       intro gb235 hg w54 hbox hb; have n0_ := bb_ BK212 hb; have n1_ := bb_ BK213 hb; have n2_ := bb_ BK224 hb; have n3_ := bs_ HB hb; have n4_ := Aside0.mk hbox; have n5_ := ge_ HB hg; have n6_ := ge_ HB hg; have n7_ := nl_ BK212 hg; have n8_ := nr_ BK212 hg; have n9_ := nl_ BK213 hg; have n10_ := nr_ BK213 hg; have n11_ := nl_ BK224 hg; have n12_ := nr_ BK224 hg; clear BK212 BK213 BK224 HB; have BK212 := n0_; have BK213 := n1_; have BK224 := n2_; have HB := n3_; have BK235 := n4_; have GW235 := n5_; have GE235 := n6_; have NB212_235 := n7_; have NB235_212 := n8_; have NB213_235 := n9_; have NB235_213 := n10_; have NB224_235 := n11_; have NB235_224 := n12_; clear n0_ n1_ n2_ n3_ n4_ n5_ n6_ n7_ n8_ n9_ n10_ n11_ n12_; clear hb hbox hg; refine hK.out _ _ ⟨bc_ BK212 0, bc_ BK212 1, bc_ BK212 2, bc_ BK212 3, bc_ BK212 4, bc_ BK213 0, bc_ BK213 1⟩ (fun hHeld => ?_); clear hK K
       apply norm_
       · show Act.put _ (some 9) _ = _; simp only [Act.put, sA_, sZ_, sS_, i64_w, i32_w]; rfl
       refine one_ (i := 5) (N := some 26) #[true,true,true,true,true,true,false,false,false,true,false,false] rfl rfl (one_of HT_.out (by kernel_rfl)) (by decide) (fun K hK => ?_); refine gs_ Try.func45 #[.agg #[.int .i64 t225, .int .i64 t226, .int .i64 t227, .int .i64 t228, .int .i64 t229], .int .i64 a1, .agg #[.int .i64 t230, .int .i64 t231]] ?_
       with_reducible refine (impl_EdMul.calls k t225 t226 t227 t228 t229 a1 t230 t231 t232 t233 t234 _ A9.out).mono ?_
       rintro e w55 ⟨rfl, hb⟩; refine ⟨_, rfl, ?_⟩; replace BK212 := bb_ BK212 hb; replace BK213 := bb_ BK213 hb; replace BK224 := bb_ BK224 hb; replace BK235 := bb_ BK235 hb; replace HB := bs_ HB hb; (try clear hb); refine hK.out _ _ ⟨bc_ BK212 0, bc_ BK212 1, bc_ BK212 2, bc_ BK212 3, bc_ BK212 4, bc_ BK213 0, bc_ BK213 1⟩ (fun hHeld => ?_); clear hK K
       apply norm_
       · show Act.put _ (some 26) _ = _; simp only [Act.put, sA_, sZ_, sS_, i64_w, i32_w]; rfl
       refine pure_ (i := 6) (N := some 20) (v := ?_) (a' := ?_) #[true,true,true,true,true,true,true,false,false,true,false,false] rfl rfl (any_of HT_.out (by kernel_rfl)) (fun _ _ _ h => h) (Or.inl ⟨by rfl, ?_⟩) ?_ ?_; rotate_left
       ·
        intro w'; go_simp
        with_reducible rfl
       rotate_left
       · simp only [Act.put, sA_, sZ_, sS_, i64_w, i32_w]; rfl
       refine pure_ (i := 7) (N := some 27) (v := ?_) (a' := ?_) #[true,true,true,true,true,true,true,true,false,true,false,false] rfl rfl (any_of HT_.out (by kernel_rfl)) (fun _ _ _ h => h) (Or.inl ⟨by rfl, ?_⟩) ?_ ?_; rotate_left
       ·
        intro w'; go_simp
        with_reducible rfl
       rotate_left
       · simp only [Act.put, sA_, sZ_, sS_, i64_w, i32_w]; rfl
       refine pure_ (i := 8) (N := some 28) (v := ?_) (a' := ?_) #[true,true,true,true,true,true,true,true,true,true,false,false] rfl rfl (any_of HT_.out (by kernel_rfl)) (fun _ _ _ h => h) (Or.inl ⟨by rfl, ?_⟩) ?_ ?_; rotate_left
       ·
        intro w'; go_simp
        with_reducible rfl
       rotate_left
       · simp only [Act.put, sA_, sZ_, sS_, i64_w, i32_w]; rfl
       exact norm_ (by simp only [putAll, Act.put, sA_, sZ_, sS_]) (hCont (gb235) _ ⟨hHeld, (bk_ BK212), (bk_ BK213), (bk_ BK224), (bk_ BK235), GW235.out, GE235.out, NB212_235.out, NB235_212.out, NB213_235.out, NB235_213.out, NB224_235.out, NB235_224.out, (bw_ HB)⟩)
     ·
      refine box_step ?hg (N := 9) ?hd (cs := #[.int .i64 0, .int .i64 0]) (t := 49) ?hr ?_; (case hd => rfl); (case hg => rfl); (case hr => first | (go_simp; done) | (go_simp; rfl))
      intro gb235 hg w53 hbox hb; have n0_ := bb_ BK212 hb; have n1_ := bb_ BK213 hb; have n2_ := bb_ BK224 hb; have n3_ := bs_ HB hb; have n4_ := Aside0.mk hbox; have n5_ := ge_ HB hg; have n6_ := ge_ HB hg; have n7_ := nl_ BK212 hg; have n8_ := nr_ BK212 hg; have n9_ := nl_ BK213 hg; have n10_ := nr_ BK213 hg; have n11_ := nl_ BK224 hg; have n12_ := nr_ BK224 hg; clear BK212 BK213 BK224 HB; have BK212 := n0_; have BK213 := n1_; have BK224 := n2_; have HB := n3_; have BK235 := n4_; have GW235 := n5_; have GE235 := n6_; have NB212_235 := n7_; have NB235_212 := n8_; have NB213_235 := n9_; have NB235_213 := n10_; have NB224_235 := n11_; have NB235_224 := n12_; clear n0_ n1_ n2_ n3_ n4_ n5_ n6_ n7_ n8_ n9_ n10_ n11_ n12_; clear hb hbox hg; refine hK.out _ _ ⟨bc_ BK212 0, bc_ BK212 1, bc_ BK212 2, bc_ BK212 3, bc_ BK212 4, bc_ BK213 0, bc_ BK213 1⟩ (fun hHeld => ?_); clear hK K
      apply norm_
      · show Act.put _ (some 9) _ = _; simp only [Act.put, sA_, sZ_, sS_, i64_w, i32_w]; rfl
      refine one_ (i := 4) (N := some 25) #[true,true,true,true,true,false,false,false,false,true,false,false] rfl rfl (one_of HT_.out (by kernel_rfl)) (by decide) (fun K hK => ?_); refine gs_ Try.func36 #[.agg #[.int .i64 a2_0, .int .i64 a2_1]] ?_
      with_reducible refine (laws_toPair.calls a2_0 a2_1 t230 t231 _ A8.out).mono ?_
      rintro e w54 ⟨rfl, hb⟩; refine ⟨_, rfl, ?_⟩; replace BK212 := bb_ BK212 hb; replace BK213 := bb_ BK213 hb; replace BK224 := bb_ BK224 hb; replace BK235 := bb_ BK235 hb; replace HB := bs_ HB hb; (try clear hb); refine hK.out _ _ ⟨bc_ BK212 0, bc_ BK212 1, bc_ BK212 2, bc_ BK212 3, bc_ BK212 4, bc_ BK213 0, bc_ BK213 1⟩ (fun hHeld => ?_); clear hK K
      apply norm_
      · show Act.put _ (some 25) _ = _; simp only [Act.put, sA_, sZ_, sS_, i64_w, i32_w]; rfl
      refine one_ (i := 5) (N := some 26) #[true,true,true,true,true,true,false,false,false,true,false,false] rfl rfl (one_of HT_.out (by kernel_rfl)) (by decide) (fun K hK => ?_); refine gs_ Try.func45 #[.agg #[.int .i64 t225, .int .i64 t226, .int .i64 t227, .int .i64 t228, .int .i64 t229], .int .i64 a1, .agg #[.int .i64 t230, .int .i64 t231]] ?_
      with_reducible refine (impl_EdMul.calls k t225 t226 t227 t228 t229 a1 t230 t231 t232 t233 t234 _ A9.out).mono ?_
      rintro e w55 ⟨rfl, hb⟩; refine ⟨_, rfl, ?_⟩; replace BK212 := bb_ BK212 hb; replace BK213 := bb_ BK213 hb; replace BK224 := bb_ BK224 hb; replace BK235 := bb_ BK235 hb; replace HB := bs_ HB hb; (try clear hb); refine hK.out _ _ ⟨bc_ BK212 0, bc_ BK212 1, bc_ BK212 2, bc_ BK212 3, bc_ BK212 4, bc_ BK213 0, bc_ BK213 1⟩ (fun hHeld => ?_); clear hK K
      apply norm_
      · show Act.put _ (some 26) _ = _; simp only [Act.put, sA_, sZ_, sS_, i64_w, i32_w]; rfl
      refine pure_ (i := 6) (N := some 20) (v := ?_) (a' := ?_) #[true,true,true,true,true,true,true,false,false,true,false,false] rfl rfl (any_of HT_.out (by kernel_rfl)) (fun _ _ _ h => h) (Or.inl ⟨by rfl, ?_⟩) ?_ ?_; rotate_left
      ·
       intro w'; go_simp
       with_reducible rfl
      rotate_left
      · simp only [Act.put, sA_, sZ_, sS_, i64_w, i32_w]; rfl
      refine pure_ (i := 7) (N := some 27) (v := ?_) (a' := ?_) #[true,true,true,true,true,true,true,true,false,true,false,false] rfl rfl (any_of HT_.out (by kernel_rfl)) (fun _ _ _ h => h) (Or.inl ⟨by rfl, ?_⟩) ?_ ?_; rotate_left
      ·
       intro w'; go_simp
       with_reducible rfl
      rotate_left
      · simp only [Act.put, sA_, sZ_, sS_, i64_w, i32_w]; rfl
      refine pure_ (i := 8) (N := some 28) (v := ?_) (a' := ?_) #[true,true,true,true,true,true,true,true,true,true,false,false] rfl rfl (any_of HT_.out (by kernel_rfl)) (fun _ _ _ h => h) (Or.inl ⟨by rfl, ?_⟩) ?_ ?_; rotate_left
      ·
       intro w'; go_simp
       with_reducible rfl
      rotate_left
      · simp only [Act.put, sA_, sZ_, sS_, i64_w, i32_w]; rfl
      exact norm_ (by simp only [putAll, Act.put, sA_, sZ_, sS_]) (hCont (gb235) _ ⟨hHeld, (bk_ BK212), (bk_ BK213), (bk_ BK224), (bk_ BK235), GW235.out, GE235.out, NB212_235.out, NB235_212.out, NB213_235.out, NB235_213.out, NB224_235.out, NB235_224.out, (bw_ HB)⟩)
    ·
     refine box_step ?hg (N := 9) ?hd (cs := #[.int .i64 0, .int .i64 0]) (t := 49) ?hr ?_; (case hd => rfl); (case hg => rfl); (case hr => first | (go_simp; done) | (go_simp; rfl))
     intro gb235 hg w52 hbox hb; have n0_ := bb_ BK212 hb; have n1_ := bb_ BK213 hb; have n2_ := bb_ BK224 hb; have n3_ := bs_ HB hb; have n4_ := Aside0.mk hbox; have n5_ := ge_ HB hg; have n6_ := ge_ HB hg; have n7_ := nl_ BK212 hg; have n8_ := nr_ BK212 hg; have n9_ := nl_ BK213 hg; have n10_ := nr_ BK213 hg; have n11_ := nl_ BK224 hg; have n12_ := nr_ BK224 hg; clear BK212 BK213 BK224 HB; have BK212 := n0_; have BK213 := n1_; have BK224 := n2_; have HB := n3_; have BK235 := n4_; have GW235 := n5_; have GE235 := n6_; have NB212_235 := n7_; have NB235_212 := n8_; have NB213_235 := n9_; have NB235_213 := n10_; have NB224_235 := n11_; have NB235_224 := n12_; clear n0_ n1_ n2_ n3_ n4_ n5_ n6_ n7_ n8_ n9_ n10_ n11_ n12_; clear hb hbox hg; refine hK.out _ _ ⟨bc_ BK212 0, bc_ BK212 1, bc_ BK212 2, bc_ BK212 3, bc_ BK212 4, bc_ BK213 0, bc_ BK213 1⟩ (fun hHeld => ?_); clear hK K
     apply norm_
     · show Act.put _ (some 9) _ = _; simp only [Act.put, sA_, sZ_, sS_, i64_w, i32_w]; rfl
     refine one_ (i := 1) (N := some 22) #[true,true,true,true,false,false,false,false,false,true,false,false] rfl rfl (one_of HT_.out (by kernel_rfl)) (by decide) (fun K hK => ?_); refine gs_ Try.func28 #[.agg #[.int .i64 a0_0, .int .i64 a0_1, .int .i64 a0_2, .int .i64 a0_3, .int .i64 a0_4]] ?_
     with_reducible refine (laws_toEd.calls a0_0 a0_1 a0_2 a0_3 a0_4 t225 t226 t227 t228 t229 _ A7.out).mono ?_
     rintro e w53 ⟨rfl, hb⟩; refine ⟨_, rfl, ?_⟩; replace BK212 := bb_ BK212 hb; replace BK213 := bb_ BK213 hb; replace BK224 := bb_ BK224 hb; replace BK235 := bb_ BK235 hb; replace HB := bs_ HB hb; (try clear hb); refine hK.out _ _ ⟨bc_ BK212 0, bc_ BK212 1, bc_ BK212 2, bc_ BK212 3, bc_ BK212 4, bc_ BK213 0, bc_ BK213 1⟩ (fun hHeld => ?_); clear hK K
     apply norm_
     · show Act.put _ (some 22) _ = _; simp only [Act.put, sA_, sZ_, sS_, i64_w, i32_w]; rfl
     refine one_ (i := 4) (N := some 25) #[true,true,true,true,true,false,false,false,false,true,false,false] rfl rfl (one_of HT_.out (by kernel_rfl)) (by decide) (fun K hK => ?_); refine gs_ Try.func36 #[.agg #[.int .i64 a2_0, .int .i64 a2_1]] ?_
     with_reducible refine (laws_toPair.calls a2_0 a2_1 t230 t231 _ A8.out).mono ?_
     rintro e w54 ⟨rfl, hb⟩; refine ⟨_, rfl, ?_⟩; replace BK212 := bb_ BK212 hb; replace BK213 := bb_ BK213 hb; replace BK224 := bb_ BK224 hb; replace BK235 := bb_ BK235 hb; replace HB := bs_ HB hb; (try clear hb); refine hK.out _ _ ⟨bc_ BK212 0, bc_ BK212 1, bc_ BK212 2, bc_ BK212 3, bc_ BK212 4, bc_ BK213 0, bc_ BK213 1⟩ (fun hHeld => ?_); clear hK K
     apply norm_
     · show Act.put _ (some 25) _ = _; simp only [Act.put, sA_, sZ_, sS_, i64_w, i32_w]; rfl
     refine one_ (i := 5) (N := some 26) #[true,true,true,true,true,true,false,false,false,true,false,false] rfl rfl (one_of HT_.out (by kernel_rfl)) (by decide) (fun K hK => ?_); refine gs_ Try.func45 #[.agg #[.int .i64 t225, .int .i64 t226, .int .i64 t227, .int .i64 t228, .int .i64 t229], .int .i64 a1, .agg #[.int .i64 t230, .int .i64 t231]] ?_
     with_reducible refine (impl_EdMul.calls k t225 t226 t227 t228 t229 a1 t230 t231 t232 t233 t234 _ A9.out).mono ?_
     rintro e w55 ⟨rfl, hb⟩; refine ⟨_, rfl, ?_⟩; replace BK212 := bb_ BK212 hb; replace BK213 := bb_ BK213 hb; replace BK224 := bb_ BK224 hb; replace BK235 := bb_ BK235 hb; replace HB := bs_ HB hb; (try clear hb); refine hK.out _ _ ⟨bc_ BK212 0, bc_ BK212 1, bc_ BK212 2, bc_ BK212 3, bc_ BK212 4, bc_ BK213 0, bc_ BK213 1⟩ (fun hHeld => ?_); clear hK K
     apply norm_
     · show Act.put _ (some 26) _ = _; simp only [Act.put, sA_, sZ_, sS_, i64_w, i32_w]; rfl
     refine pure_ (i := 6) (N := some 20) (v := ?_) (a' := ?_) #[true,true,true,true,true,true,true,false,false,true,false,false] rfl rfl (any_of HT_.out (by kernel_rfl)) (fun _ _ _ h => h) (Or.inl ⟨by rfl, ?_⟩) ?_ ?_; rotate_left
     ·
      intro w'; go_simp
      with_reducible rfl
     rotate_left
     · simp only [Act.put, sA_, sZ_, sS_, i64_w, i32_w]; rfl
     refine pure_ (i := 7) (N := some 27) (v := ?_) (a' := ?_) #[true,true,true,true,true,true,true,true,false,true,false,false] rfl rfl (any_of HT_.out (by kernel_rfl)) (fun _ _ _ h => h) (Or.inl ⟨by rfl, ?_⟩) ?_ ?_; rotate_left
     ·
      intro w'; go_simp
      with_reducible rfl
     rotate_left
     · simp only [Act.put, sA_, sZ_, sS_, i64_w, i32_w]; rfl
     refine pure_ (i := 8) (N := some 28) (v := ?_) (a' := ?_) #[true,true,true,true,true,true,true,true,true,true,false,false] rfl rfl (any_of HT_.out (by kernel_rfl)) (fun _ _ _ h => h) (Or.inl ⟨by rfl, ?_⟩) ?_ ?_; rotate_left
     ·
      intro w'; go_simp
      with_reducible rfl
     rotate_left
     · simp only [Act.put, sA_, sZ_, sS_, i64_w, i32_w]; rfl
     exact norm_ (by simp only [putAll, Act.put, sA_, sZ_, sS_]) (hCont (gb235) _ ⟨hHeld, (bk_ BK212), (bk_ BK213), (bk_ BK224), (bk_ BK235), GW235.out, GE235.out, NB212_235.out, NB235_212.out, NB213_235.out, NB235_213.out, NB224_235.out, NB235_224.out, (bw_ HB)⟩)
   rintro gb235 w56 ⟨hS_, h0_, h1_, h2_, h3_, h4_, h5_, h6_, h7_, h8_, h9_, h10_, h11_, h12_⟩; replace BK212 := Aside0.mk h0_; replace BK213 := Aside0.mk h1_; replace BK224 := Aside0.mk h2_; have BK235 := Aside0.mk h3_; have GW235 := Aside0.mk h4_; have GE235 := Aside0.mk h5_; have NB212_235 := Aside0.mk h6_; have NB235_212 := Aside0.mk h7_; have NB213_235 := Aside0.mk h8_; have NB235_213 := Aside0.mk h9_; have NB224_235 := Aside0.mk h10_; have NB235_224 := Aside0.mk h11_; replace HB := Aside0.mk h12_; clear h0_ h1_ h2_ h3_ h4_ h5_ h6_ h7_ h8_ h9_ h10_ h11_ h12_; have hHeld := hS_
   apply norm_
   · simp only [putAll, Act.put, sA_, sZ_, sS_]; rfl
   refine one_ (i := 10) (N := none) #[true,true,true,true,true,true,true,true,true,true,true,false] rfl rfl (one_of HT_.out (by kernel_rfl)) (by decide) (fun K hK => ?_)
   have hs57 : w56.cell? ⟨gb235, 0, none⟩ = some (.int .i64 0) := bc_ BK235 0
   have hfs57 := blk_frozen BK235.out 0; have hns57_0 := NB212_235.out; have hns57_1 := NB213_235.out; have hns57_2 := NB224_235.out; have hms57_0 := NB235_212.out; have hms57_1 := NB235_213.out; have hms57_2 := NB235_224.out
   have hs58 : w56.cell? ⟨gb235, 1, none⟩ = some (.int .i64 0) := bc_ BK235 1
   have hfs58 := blk_frozen BK235.out 1; have hns58_0 := NB212_235.out; have hns58_1 := NB213_235.out; have hns58_2 := NB224_235.out; have hms58_0 := NB235_212.out; have hms58_1 := NB235_213.out; have hms58_2 := NB235_224.out; refine skip_ (w1 := ?_) (by rfl) rfl ?_ ?_; rotate_left
   · go_simp; rfl
   refine hK.out _ _ ⟨((cell_far (p := ⟨gb235, _, none⟩) NB212_235.out _).trans (((cell_far (p := ⟨gb235, _, none⟩) NB212_235.out _).trans (hHeld.1)))), ((cell_far (p := ⟨gb235, _, none⟩) NB212_235.out _).trans (((cell_far (p := ⟨gb235, _, none⟩) NB212_235.out _).trans (hHeld.2.1)))), ((cell_far (p := ⟨gb235, _, none⟩) NB212_235.out _).trans (((cell_far (p := ⟨gb235, _, none⟩) NB212_235.out _).trans (hHeld.2.2.1)))), ((cell_far (p := ⟨gb235, _, none⟩) NB212_235.out _).trans (((cell_far (p := ⟨gb235, _, none⟩) NB212_235.out _).trans (hHeld.2.2.2.1)))), ((cell_far (p := ⟨gb235, _, none⟩) NB212_235.out _).trans (((cell_far (p := ⟨gb235, _, none⟩) NB212_235.out _).trans (hHeld.2.2.2.2.1)))), ((cell_far (p := ⟨gb235, _, none⟩) NB213_235.out _).trans (((cell_far (p := ⟨gb235, _, none⟩) NB213_235.out _).trans (hHeld.2.2.2.2.2.1)))), ((cell_far (p := ⟨gb235, _, none⟩) NB213_235.out _).trans (((cell_far (p := ⟨gb235, _, none⟩) NB213_235.out _).trans (hHeld.2.2.2.2.2.2))))⟩ (fun hHeld => ?_); clear hK K; refine pure_ (i := 11) (N := some 10) (v := ?_) (a' := ?_) #[true,true,true,true,true,true,true,true,true,true,true,true] rfl rfl (any_of HT_.out (by kernel_rfl)) (fun _ _ _ h => h) (Or.inl ⟨by rfl, ?_⟩) ?_ ?_; rotate_left
   ·
    intro w'; go_simp
    with_reducible rfl
   rotate_left
   · simp only [Act.put, sA_, sZ_, sS_, i64_w, i32_w]; rfl
   refine done_ (done_of HT_.out (by kernel_rfl)) ?_; have hnb59 := NB235_212.out; have hnc59 := NB212_235.out; have hnb60 := NB235_213.out; have hnc60 := NB213_235.out; have hnb61 := NB235_224.out; have hnc61 := NB224_235.out
   have hcz62_0 : w56.cell? ⟨gb235, 0, none⟩ = some (.int .i64 0) := bc_ BK235 0
   have hcz62_1 : w56.cell? ⟨gb235, 1, none⟩ = some (.int .i64 0) := bc_ BK235 1
   have hfz62_0 := blk_frozen BK235.out 0; have hfz62_1 := blk_frozen BK235.out 1; have hnb63 := NB224_212.out; have hnc63 := NB212_224.out; have hnb64 := NB224_213.out; have hnc64 := NB213_224.out
   have hcz65_0 : w56.cell? ⟨gb224, 0, none⟩ = some (.int .i64 t221) := bc_ BK224 0
   have hcz65_1 : w56.cell? ⟨gb224, 1, none⟩ = some (.int .i64 t222) := bc_ BK224 1
   have hfz65_0 := blk_frozen BK224.out 0; have hfz65_1 := blk_frozen BK224.out 1
   try go_wp2_with (first | ((with_reducible refine gate_callee (f := 43) rfl ?_); refine goesL_ (some 31) rfl rfl Try.func43 (by kernel_rfl) rfl #[.agg #[.int .i64 t232, .int .i64 t233], .agg #[.int .i64 t221, .int .i64 t222]] rfl (by (try simp only [List.map_toArray, List.map_cons, List.map_nil]); first | done | rfl | (simp only [List.length_drop, List.length_take]; rfl)) ?_; (with_reducible refine (laws_eqPair.calls t232 t233 t221 t222 true _ A10.out).mono ?_); rintro e w66 ⟨rfl, hb⟩; refine ⟨_, rfl, ?_⟩; have n0_ := Aside0.mk (blk_below (g := gb212) (o := .cells #[.int .i64 a0_0, .int .i64 a0_1, .int .i64 a0_2, .int .i64 a0_3, .int .i64 a0_4] 35 (0, 0)) (by (with_reducible repeat (first | refine blk_drewN ?_ _ | refine blk_drew ?_ | refine blk_alloc ?_ _)); refine blk_far ?_ NB212_235.out _; (with_reducible repeat (first | refine blk_drewN ?_ _ | refine blk_drew ?_ | refine blk_alloc ?_ _)); refine blk_far ?_ NB212_235.out _; (with_reducible repeat (first | refine blk_drewN ?_ _ | refine blk_drew ?_ | refine blk_alloc ?_ _)); exact BK212.out) hb); have n1_ := Aside0.mk (blk_below (g := gb213) (o := .cells #[.int .i64 a2_0, .int .i64 a2_1] 47 (0, 0)) (by (with_reducible repeat (first | refine blk_drewN ?_ _ | refine blk_drew ?_ | refine blk_alloc ?_ _)); refine blk_far ?_ NB213_235.out _; (with_reducible repeat (first | refine blk_drewN ?_ _ | refine blk_drew ?_ | refine blk_alloc ?_ _)); refine blk_far ?_ NB213_235.out _; (with_reducible repeat (first | refine blk_drewN ?_ _ | refine blk_drew ?_ | refine blk_alloc ?_ _)); exact BK213.out) hb); have n2_ := Aside0.mk (blk_below (g := gb224) (o := .cells #[.int .i64 t221, .int .i64 t222] 49 (0, 0)) (by (with_reducible repeat (first | refine blk_drewN ?_ _ | refine blk_drew ?_ | refine blk_alloc ?_ _)); refine blk_far ?_ NB224_235.out _; (with_reducible repeat (first | refine blk_drewN ?_ _ | refine blk_drew ?_ | refine blk_alloc ?_ _)); refine blk_far ?_ NB224_235.out _; (with_reducible repeat (first | refine blk_drewN ?_ _ | refine blk_drew ?_ | refine blk_alloc ?_ _)); exact BK224.out) hb); have n3_ := Aside0.mk (blk_below (g := gb235) (o := .cells #[.int .i64 t232, .int .i64 t233] 49 (0, 0)) (by (with_reducible repeat (first | refine blk_drewN ?_ _ | refine blk_drew ?_ | refine blk_alloc ?_ _)); refine blk_put (cs := #[.int .i64 t232, .int .i64 0]) ?_ 1 _ rfl; (with_reducible repeat (first | refine blk_drewN ?_ _ | refine blk_drew ?_ | refine blk_alloc ?_ _)); refine blk_put (cs := #[.int .i64 0, .int .i64 0]) ?_ 0 _ rfl; (with_reducible repeat (first | refine blk_drewN ?_ _ | refine blk_drew ?_ | refine blk_alloc ?_ _)); exact BK235.out) hb); have n4_ := bs_ HB hb; clear BK212; clear BK213; clear BK224; clear BK235; clear HB; have BK212 := n0_; have BK213 := n1_; have BK224 := n2_; have BK235 := n3_; have HB := n4_; clear n0_ n1_ n2_ n3_ n4_; (try clear hb); (try clear hb2); (try clear hk); (try clear hi)))
   go_ret
   exact ⟨by first | rfl | (simp [errW_none, errW_some] <;> rfl) | (simp [*, errW_none, errW_some] <;> rfl), by repeat (first | (with_reducible first | exact HB.out | apply below_alloc | apply pw_below_drewN | apply below_drew1 | refine below_set ?_ GE212.out | refine below_set ?_ GE213.out | refine below_set ?_ GE224.out | refine below_set ?_ GE235.out) | exact HB.out)⟩
 ·
  replace c11 := Bool.eq_false_iff.mpr c11; subst c11
  have H1 : (some false) = some r := by rw [if_neg (show ¬ (false = true) by decide)] at H; exact H
  clear H; have H := H1; clear H1; obtain rfl := Option.some.inj H
  go_enter Try.func12, Try.ntmps12
  try go_wp2_with (first | ((with_reducible refine gate_dst (N := 3) rfl ?_); refine box_event ?hg (N := 3) ?hd (cs := #[.int .i64 a0_0, .int .i64 a0_1, .int .i64 a0_2, .int .i64 a0_3, .int .i64 a0_4]) (t := 35) ?hr ?_; (case hd => rfl); (case hg => rfl); (case hr => first | (go_simp; done) | (go_simp; rfl)); intro gb212 hg w67 hbox hb; have n0_ := bs_ HB hb; have n1_ := Aside0.mk hbox; have n2_ := ge_ HB hg; have n3_ := ge_ HB hg; clear HB; have HB := n0_; have BK212 := n1_; have GW212 := n2_; have GE212 := n3_; clear n0_ n1_ n2_ n3_; clear hb hbox hg) | ((with_reducible refine gate_dst (N := 5) rfl ?_); refine box_event ?hg (N := 5) ?hd (cs := #[.int .i64 a2_0, .int .i64 a2_1]) (t := 47) ?hr ?_; (case hd => rfl); (case hg => rfl); (case hr => first | (go_simp; done) | (go_simp; rfl)); intro gb213 hg w68 hbox hb; have n0_ := bb_ BK212 hb; have n1_ := bs_ HB hb; have n2_ := Aside0.mk hbox; have n3_ := ge_ HB hg; have n4_ := ge_ HB hg; have n5_ := nl_ BK212 hg; have n6_ := nr_ BK212 hg; clear BK212; clear HB; have BK212 := n0_; have HB := n1_; have BK213 := n2_; have GW213 := n3_; have GE213 := n4_; have NB212_213 := n5_; have NB213_212 := n6_; clear n0_ n1_ n2_ n3_ n4_ n5_ n6_; clear hb hbox hg))
  replace BK212 := Aside0.mk (blk_drew BK212.out); replace BK213 := Aside0.mk (blk_drew BK213.out); replace HB := Aside0.mk (below_drew1 HB.out); refine start_ (n := 12) (S := fun w' => w'.cell? ⟨gb212, 0, none⟩ = some (.int .i64 a0_0) ∧ w'.cell? ⟨gb212, 1, none⟩ = some (.int .i64 a0_1) ∧ w'.cell? ⟨gb212, 2, none⟩ = some (.int .i64 a0_2) ∧ w'.cell? ⟨gb212, 3, none⟩ = some (.int .i64 a0_3) ∧ w'.cell? ⟨gb212, 4, none⟩ = some (.int .i64 a0_4) ∧ w'.cell? ⟨gb213, 0, none⟩ = some (.int .i64 a2_0) ∧ w'.cell? ⟨gb213, 1, none⟩ = some (.int .i64 a2_1)) (ds := []) #[false,false,false,false,false,false,false,false,false,false,false,false] (by kernel_rfl) rfl rfl ⟨bc_ BK212 0, bc_ BK212 1, bc_ BK212 2, bc_ BK212 3, bc_ BK212 4, bc_ BK213 0, bc_ BK213 1⟩ (fun hHeld => ?_); refine with_tabW laws_FnExactEdMul.tab1 laws_FnExactEdMul.bits1 (fun HT_ HW_ => ?_)
  generalize w68.drew = w69 at BK212 BK213 HB hHeld ⊢
  refine pure_ (i := 2) (N := some 14) (v := ?_) (a' := ?_) #[false,false,true,false,false,false,false,false,false,false,false,false] rfl rfl (any_of HT_.out (by kernel_rfl)) (fun _ _ _ h => h) (Or.inl ⟨by rfl, ?_⟩) ?_ ?_; rotate_left
  ·
   intro w'; go_simp
   with_reducible rfl
  rotate_left
  · simp only [Act.put, sA_, sZ_, sS_, i64_w, i32_w]; rfl
  refine take_ (i := 0) (N := some 12) (v := ?_) (a' := ?_) #[true,false,true,false,false,false,false,false,false,false,false,false] rfl rfl (take_ofW HT_.out HW_.out (by kernel_rfl)) (fun _ _ _ h => h) (Or.inl ⟨by rfl, ?_⟩) hHeld ?_ ?_; rotate_left
  ·
   rintro w' ⟨s0, s1, s2, s3, s4, s5, s6⟩; go_simp
   with_reducible rfl
  rotate_left
  · simp only [Act.put, sA_, sZ_, sS_, i64_w, i32_w]; rfl
  refine take_ (i := 3) (N := some 15) (v := ?_) (a' := ?_) #[true,false,true,true,false,false,false,false,false,false,false,false] rfl rfl (take_ofW HT_.out HW_.out (by kernel_rfl)) (fun _ _ _ h => h) (Or.inl ⟨by rfl, ?_⟩) hHeld ?_ ?_; rotate_left
  ·
   rintro w' ⟨s0, s1, s2, s3, s4, s5, s6⟩; go_simp
   with_reducible rfl
  rotate_left
  · simp only [Act.put, sA_, sZ_, sS_, i64_w, i32_w]; rfl
  refine join_ (σ := Nat) 2 #[true,true,true,true,true,true,true,true,true,true,false,false] (fun s_ => [(13, .agg #[.int .i64 t214, .int .i64 t215, .int .i64 t216, .int .i64 t217, .int .i64 t218]), (16, .agg #[.int .i64 t219, .int .i64 t220]), (17, .tuple #[.agg #[.int .i64 t221, .int .i64 t222], .bool t223]), (7, .pointer (some ⟨s_, 0, none⟩)), (11, .tuple #[.agg #[.int .i64 t221, .int .i64 t222], .bool t223]), (18, .agg #[.int .i64 t221, .int .i64 t222]), (19, .bool t223)]) (fun s_ w' => (w'.cell? ⟨gb212, 0, none⟩ = some (.int .i64 a0_0) ∧ w'.cell? ⟨gb212, 1, none⟩ = some (.int .i64 a0_1) ∧ w'.cell? ⟨gb212, 2, none⟩ = some (.int .i64 a0_2) ∧ w'.cell? ⟨gb212, 3, none⟩ = some (.int .i64 a0_3) ∧ w'.cell? ⟨gb212, 4, none⟩ = some (.int .i64 a0_4) ∧ w'.cell? ⟨gb213, 0, none⟩ = some (.int .i64 a2_0) ∧ w'.cell? ⟨gb213, 1, none⟩ = some (.int .i64 a2_1)) ∧ (w'.heap[gb212]? = some (.cells #[.int .i64 a0_0, .int .i64 a0_1, .int .i64 a0_2, .int .i64 a0_3, .int .i64 a0_4] 35 (0, 0))) ∧ (w'.heap[gb213]? = some (.cells #[.int .i64 a2_0, .int .i64 a2_1] 47 (0, 0))) ∧ (w'.heap[s_]? = some (.cells #[.int .i64 0, .int .i64 0] 49 (0, 0))) ∧ (w.heap.size ≤ s_) ∧ (w.heap.size ≤ s_) ∧ (gb212 ≠ s_) ∧ (s_ ≠ gb212) ∧ (gb213 ≠ s_) ∧ (s_ ≠ gb213) ∧ (Below w.heap.size w w')) ?_ ?_; rotate_left
  ·
   intro hCont; refine two_ (i := 1) (j := 9) (Ni := some 13) (Nj := some 7) #[true,true,true,true,false,false,false,false,false,false,false,false] #[true,false,true,true,false,false,false,false,false,true,false,false] rfl rfl rfl rfl (two_of HT_.out (by kernel_rfl)) (by decide) (by decide) (fun K hK => ?_) (fun K hK => ?_)
   ·
    refine gs_ Try.func28 #[.agg #[.int .i64 a0_0, .int .i64 a0_1, .int .i64 a0_2, .int .i64 a0_3, .int .i64 a0_4]] ?_
    with_reducible refine (laws_toEd.calls a0_0 a0_1 a0_2 a0_3 a0_4 t214 t215 t216 t217 t218 _ A4.out).mono ?_
    rintro e w70 ⟨rfl, hb⟩; refine ⟨_, rfl, ?_⟩; replace BK212 := bb_ BK212 hb; replace BK213 := bb_ BK213 hb; replace HB := bs_ HB hb; (try clear hb); refine hK.out _ _ ⟨bc_ BK212 0, bc_ BK212 1, bc_ BK212 2, bc_ BK212 3, bc_ BK212 4, bc_ BK213 0, bc_ BK213 1⟩ (fun hHeld => ?_); clear hK K
    apply norm_
    · show Act.put _ (some 13) _ = _; simp only [Act.put, sA_, sZ_, sS_, i64_w, i32_w]; rfl
    refine two_ (i := 4) (j := 9) (Ni := some 16) (Nj := some 7) #[true,true,true,true,true,false,false,false,false,false,false,false] #[true,true,true,true,false,false,false,false,false,true,false,false] rfl rfl rfl rfl (two_of HT_.out (by kernel_rfl)) (by decide) (by decide) (fun K hK => ?_) (fun K hK => ?_)
    ·
     refine gs_ Try.func36 #[.agg #[.int .i64 a2_0, .int .i64 a2_1]] ?_
     with_reducible refine (laws_toPair.calls a2_0 a2_1 t219 t220 _ A5.out).mono ?_
     rintro e w71 ⟨rfl, hb⟩; refine ⟨_, rfl, ?_⟩; replace BK212 := bb_ BK212 hb; replace BK213 := bb_ BK213 hb; replace HB := bs_ HB hb; (try clear hb); refine hK.out _ _ ⟨bc_ BK212 0, bc_ BK212 1, bc_ BK212 2, bc_ BK212 3, bc_ BK212 4, bc_ BK213 0, bc_ BK213 1⟩ (fun hHeld => ?_); clear hK K
     apply norm_
     · show Act.put _ (some 16) _ = _; simp only [Act.put, sA_, sZ_, sS_, i64_w, i32_w]; rfl
     refine two_ (i := 5) (j := 9) (Ni := some 17) (Nj := some 7) #[true,true,true,true,true,true,false,false,false,false,false,false] #[true,true,true,true,true,false,false,false,false,true,false,false] rfl rfl rfl rfl (two_of HT_.out (by kernel_rfl)) (by decide) (by decide) (fun K hK => ?_) (fun K hK => ?_)
     ·
      refine gs_ Try.func44 #[.agg #[.int .i64 t214, .int .i64 t215, .int .i64 t216, .int .i64 t217, .int .i64 t218], .int .i64 a1, .agg #[.int .i64 t219, .int .i64 t220]] ?_
      with_reducible refine (spec_EdMul.calls k t214 t215 t216 t217 t218 a1 t219 t220 t221 t222 t223 _ A6.out).mono ?_
      rintro e w72 ⟨rfl, hb⟩; refine ⟨_, rfl, ?_⟩; replace BK212 := bb_ BK212 hb; replace BK213 := bb_ BK213 hb; replace HB := bs_ HB hb; (try clear hb); refine hK.out _ _ ⟨bc_ BK212 0, bc_ BK212 1, bc_ BK212 2, bc_ BK212 3, bc_ BK212 4, bc_ BK213 0, bc_ BK213 1⟩ (fun hHeld => ?_); clear hK K
      apply norm_
      · show Act.put _ (some 17) _ = _; simp only [Act.put, sA_, sZ_, sS_, i64_w, i32_w]; rfl
      refine pure_ (i := 6) (N := some 11) (v := ?_) (a' := ?_) #[true,true,true,true,true,true,true,false,false,false,false,false] rfl rfl (any_of HT_.out (by kernel_rfl)) (fun _ _ _ h => h) (Or.inl ⟨by rfl, ?_⟩) ?_ ?_; rotate_left
      ·
       intro w'; go_simp
       with_reducible rfl
      rotate_left
      · simp only [Act.put, sA_, sZ_, sS_, i64_w, i32_w]; rfl
      refine pure_ (i := 7) (N := some 18) (v := ?_) (a' := ?_) #[true,true,true,true,true,true,true,true,false,false,false,false] rfl rfl (any_of HT_.out (by kernel_rfl)) (fun _ _ _ h => h) (Or.inl ⟨by rfl, ?_⟩) ?_ ?_; rotate_left
      ·
       intro w'; go_simp
       with_reducible rfl
      rotate_left
      · simp only [Act.put, sA_, sZ_, sS_, i64_w, i32_w]; rfl
      refine pure_ (i := 8) (N := some 19) (v := ?_) (a' := ?_) #[true,true,true,true,true,true,true,true,true,false,false,false] rfl rfl (any_of HT_.out (by kernel_rfl)) (fun _ _ _ h => h) (Or.inl ⟨by rfl, ?_⟩) ?_ ?_; rotate_left
      ·
       intro w'; go_simp
       with_reducible rfl
      rotate_left
      · simp only [Act.put, sA_, sZ_, sS_, i64_w, i32_w]; rfl
      refine one_ (i := 9) (N := some 7) #[true,true,true,true,true,true,true,true,true,true,false,false] rfl rfl (one_of HT_.out (by kernel_rfl)) (by decide) (fun K hK => ?_); refine box_step ?hg (N := 7) ?hd (cs := #[.int .i64 0, .int .i64 0]) (t := 49) ?hr ?_; (case hd => rfl); (case hg => rfl); (case hr => first | (go_simp; done) | (go_simp; rfl))
      intro gb224 hg w73 hbox hb; have n0_ := bb_ BK212 hb; have n1_ := bb_ BK213 hb; have n2_ := bs_ HB hb; have n3_ := Aside0.mk hbox; have n4_ := ge_ HB hg; have n5_ := ge_ HB hg; have n6_ := nl_ BK212 hg; have n7_ := nr_ BK212 hg; have n8_ := nl_ BK213 hg; have n9_ := nr_ BK213 hg; clear BK212 BK213 HB; have BK212 := n0_; have BK213 := n1_; have HB := n2_; have BK224 := n3_; have GW224 := n4_; have GE224 := n5_; have NB212_224 := n6_; have NB224_212 := n7_; have NB213_224 := n8_; have NB224_213 := n9_; clear n0_ n1_ n2_ n3_ n4_ n5_ n6_ n7_ n8_ n9_; clear hb hbox hg; refine hK.out _ _ ⟨bc_ BK212 0, bc_ BK212 1, bc_ BK212 2, bc_ BK212 3, bc_ BK212 4, bc_ BK213 0, bc_ BK213 1⟩ (fun hHeld => ?_); clear hK K
      apply norm_
      · show Act.put _ (some 7) _ = _; simp only [Act.put, sA_, sZ_, sS_, i64_w, i32_w]; rfl
      exact norm_ (by simp only [putAll, Act.put, sA_, sZ_, sS_]) (hCont (gb224) _ ⟨hHeld, (bk_ BK212), (bk_ BK213), (bk_ BK224), GW224.out, GE224.out, NB212_224.out, NB224_212.out, NB213_224.out, NB224_213.out, (bw_ HB)⟩)
     ·
      refine box_step ?hg (N := 7) ?hd (cs := #[.int .i64 0, .int .i64 0]) (t := 49) ?hr ?_; (case hd => rfl); (case hg => rfl); (case hr => first | (go_simp; done) | (go_simp; rfl))
      intro gb224 hg w72 hbox hb; have n0_ := bb_ BK212 hb; have n1_ := bb_ BK213 hb; have n2_ := bs_ HB hb; have n3_ := Aside0.mk hbox; have n4_ := ge_ HB hg; have n5_ := ge_ HB hg; have n6_ := nl_ BK212 hg; have n7_ := nr_ BK212 hg; have n8_ := nl_ BK213 hg; have n9_ := nr_ BK213 hg; clear BK212 BK213 HB; have BK212 := n0_; have BK213 := n1_; have HB := n2_; have BK224 := n3_; have GW224 := n4_; have GE224 := n5_; have NB212_224 := n6_; have NB224_212 := n7_; have NB213_224 := n8_; have NB224_213 := n9_; clear n0_ n1_ n2_ n3_ n4_ n5_ n6_ n7_ n8_ n9_; clear hb hbox hg; refine hK.out _ _ ⟨bc_ BK212 0, bc_ BK212 1, bc_ BK212 2, bc_ BK212 3, bc_ BK212 4, bc_ BK213 0, bc_ BK213 1⟩ (fun hHeld => ?_); clear hK K
      apply norm_
      · show Act.put _ (some 7) _ = _; simp only [Act.put, sA_, sZ_, sS_, i64_w, i32_w]; rfl
      refine one_ (i := 5) (N := some 17) #[true,true,true,true,true,true,false,false,false,true,false,false] rfl rfl (one_of HT_.out (by kernel_rfl)) (by decide) (fun K hK => ?_); refine gs_ Try.func44 #[.agg #[.int .i64 t214, .int .i64 t215, .int .i64 t216, .int .i64 t217, .int .i64 t218], .int .i64 a1, .agg #[.int .i64 t219, .int .i64 t220]] ?_
      with_reducible refine (spec_EdMul.calls k t214 t215 t216 t217 t218 a1 t219 t220 t221 t222 t223 _ A6.out).mono ?_
      rintro e w73 ⟨rfl, hb⟩; refine ⟨_, rfl, ?_⟩; replace BK212 := bb_ BK212 hb; replace BK213 := bb_ BK213 hb; replace BK224 := bb_ BK224 hb; replace HB := bs_ HB hb; (try clear hb); refine hK.out _ _ ⟨bc_ BK212 0, bc_ BK212 1, bc_ BK212 2, bc_ BK212 3, bc_ BK212 4, bc_ BK213 0, bc_ BK213 1⟩ (fun hHeld => ?_); clear hK K
      apply norm_
      · show Act.put _ (some 17) _ = _; simp only [Act.put, sA_, sZ_, sS_, i64_w, i32_w]; rfl
      refine pure_ (i := 6) (N := some 11) (v := ?_) (a' := ?_) #[true,true,true,true,true,true,true,false,false,true,false,false] rfl rfl (any_of HT_.out (by kernel_rfl)) (fun _ _ _ h => h) (Or.inl ⟨by rfl, ?_⟩) ?_ ?_; rotate_left
      ·
       intro w'; go_simp
       with_reducible rfl
      rotate_left
      · simp only [Act.put, sA_, sZ_, sS_, i64_w, i32_w]; rfl
      refine pure_ (i := 7) (N := some 18) (v := ?_) (a' := ?_) #[true,true,true,true,true,true,true,true,false,true,false,false] rfl rfl (any_of HT_.out (by kernel_rfl)) (fun _ _ _ h => h) (Or.inl ⟨by rfl, ?_⟩) ?_ ?_; rotate_left
      ·
       intro w'; go_simp
       with_reducible rfl
      rotate_left
      · simp only [Act.put, sA_, sZ_, sS_, i64_w, i32_w]; rfl
      refine pure_ (i := 8) (N := some 19) (v := ?_) (a' := ?_) #[true,true,true,true,true,true,true,true,true,true,false,false] rfl rfl (any_of HT_.out (by kernel_rfl)) (fun _ _ _ h => h) (Or.inl ⟨by rfl, ?_⟩) ?_ ?_; rotate_left
      ·
       intro w'; go_simp
       with_reducible rfl
      rotate_left
      · simp only [Act.put, sA_, sZ_, sS_, i64_w, i32_w]; rfl
      exact norm_ (by simp only [putAll, Act.put, sA_, sZ_, sS_]) (hCont (gb224) _ ⟨hHeld, (bk_ BK212), (bk_ BK213), (bk_ BK224), GW224.out, GE224.out, NB212_224.out, NB224_212.out, NB213_224.out, NB224_213.out, (bw_ HB)⟩)
    ·
     refine box_step ?hg (N := 7) ?hd (cs := #[.int .i64 0, .int .i64 0]) (t := 49) ?hr ?_; (case hd => rfl); (case hg => rfl); (case hr => first | (go_simp; done) | (go_simp; rfl))
     intro gb224 hg w71 hbox hb; have n0_ := bb_ BK212 hb; have n1_ := bb_ BK213 hb; have n2_ := bs_ HB hb; have n3_ := Aside0.mk hbox; have n4_ := ge_ HB hg; have n5_ := ge_ HB hg; have n6_ := nl_ BK212 hg; have n7_ := nr_ BK212 hg; have n8_ := nl_ BK213 hg; have n9_ := nr_ BK213 hg; clear BK212 BK213 HB; have BK212 := n0_; have BK213 := n1_; have HB := n2_; have BK224 := n3_; have GW224 := n4_; have GE224 := n5_; have NB212_224 := n6_; have NB224_212 := n7_; have NB213_224 := n8_; have NB224_213 := n9_; clear n0_ n1_ n2_ n3_ n4_ n5_ n6_ n7_ n8_ n9_; clear hb hbox hg; refine hK.out _ _ ⟨bc_ BK212 0, bc_ BK212 1, bc_ BK212 2, bc_ BK212 3, bc_ BK212 4, bc_ BK213 0, bc_ BK213 1⟩ (fun hHeld => ?_); clear hK K
     apply norm_
     · show Act.put _ (some 7) _ = _; simp only [Act.put, sA_, sZ_, sS_, i64_w, i32_w]; rfl
     refine one_ (i := 4) (N := some 16) #[true,true,true,true,true,false,false,false,false,true,false,false] rfl rfl (one_of HT_.out (by kernel_rfl)) (by decide) (fun K hK => ?_); refine gs_ Try.func36 #[.agg #[.int .i64 a2_0, .int .i64 a2_1]] ?_
     with_reducible refine (laws_toPair.calls a2_0 a2_1 t219 t220 _ A5.out).mono ?_
     rintro e w72 ⟨rfl, hb⟩; refine ⟨_, rfl, ?_⟩; replace BK212 := bb_ BK212 hb; replace BK213 := bb_ BK213 hb; replace BK224 := bb_ BK224 hb; replace HB := bs_ HB hb; (try clear hb); refine hK.out _ _ ⟨bc_ BK212 0, bc_ BK212 1, bc_ BK212 2, bc_ BK212 3, bc_ BK212 4, bc_ BK213 0, bc_ BK213 1⟩ (fun hHeld => ?_); clear hK K
     apply norm_
     · show Act.put _ (some 16) _ = _; simp only [Act.put, sA_, sZ_, sS_, i64_w, i32_w]; rfl
     refine one_ (i := 5) (N := some 17) #[true,true,true,true,true,true,false,false,false,true,false,false] rfl rfl (one_of HT_.out (by kernel_rfl)) (by decide) (fun K hK => ?_); refine gs_ Try.func44 #[.agg #[.int .i64 t214, .int .i64 t215, .int .i64 t216, .int .i64 t217, .int .i64 t218], .int .i64 a1, .agg #[.int .i64 t219, .int .i64 t220]] ?_
     with_reducible refine (spec_EdMul.calls k t214 t215 t216 t217 t218 a1 t219 t220 t221 t222 t223 _ A6.out).mono ?_
     rintro e w73 ⟨rfl, hb⟩; refine ⟨_, rfl, ?_⟩; replace BK212 := bb_ BK212 hb; replace BK213 := bb_ BK213 hb; replace BK224 := bb_ BK224 hb; replace HB := bs_ HB hb; (try clear hb); refine hK.out _ _ ⟨bc_ BK212 0, bc_ BK212 1, bc_ BK212 2, bc_ BK212 3, bc_ BK212 4, bc_ BK213 0, bc_ BK213 1⟩ (fun hHeld => ?_); clear hK K
     apply norm_
     · show Act.put _ (some 17) _ = _; simp only [Act.put, sA_, sZ_, sS_, i64_w, i32_w]; rfl
     refine pure_ (i := 6) (N := some 11) (v := ?_) (a' := ?_) #[true,true,true,true,true,true,true,false,false,true,false,false] rfl rfl (any_of HT_.out (by kernel_rfl)) (fun _ _ _ h => h) (Or.inl ⟨by rfl, ?_⟩) ?_ ?_; rotate_left
     ·
      intro w'; go_simp
      with_reducible rfl
     rotate_left
     · simp only [Act.put, sA_, sZ_, sS_, i64_w, i32_w]; rfl
     refine pure_ (i := 7) (N := some 18) (v := ?_) (a' := ?_) #[true,true,true,true,true,true,true,true,false,true,false,false] rfl rfl (any_of HT_.out (by kernel_rfl)) (fun _ _ _ h => h) (Or.inl ⟨by rfl, ?_⟩) ?_ ?_; rotate_left
     ·
      intro w'; go_simp
      with_reducible rfl
     rotate_left
     · simp only [Act.put, sA_, sZ_, sS_, i64_w, i32_w]; rfl
     refine pure_ (i := 8) (N := some 19) (v := ?_) (a' := ?_) #[true,true,true,true,true,true,true,true,true,true,false,false] rfl rfl (any_of HT_.out (by kernel_rfl)) (fun _ _ _ h => h) (Or.inl ⟨by rfl, ?_⟩) ?_ ?_; rotate_left
     ·
      intro w'; go_simp
      with_reducible rfl
     rotate_left
     · simp only [Act.put, sA_, sZ_, sS_, i64_w, i32_w]; rfl
     exact norm_ (by simp only [putAll, Act.put, sA_, sZ_, sS_]) (hCont (gb224) _ ⟨hHeld, (bk_ BK212), (bk_ BK213), (bk_ BK224), GW224.out, GE224.out, NB212_224.out, NB224_212.out, NB213_224.out, NB224_213.out, (bw_ HB)⟩)
   ·
    refine box_step ?hg (N := 7) ?hd (cs := #[.int .i64 0, .int .i64 0]) (t := 49) ?hr ?_; (case hd => rfl); (case hg => rfl); (case hr => first | (go_simp; done) | (go_simp; rfl))
    intro gb224 hg w70 hbox hb; have n0_ := bb_ BK212 hb; have n1_ := bb_ BK213 hb; have n2_ := bs_ HB hb; have n3_ := Aside0.mk hbox; have n4_ := ge_ HB hg; have n5_ := ge_ HB hg; have n6_ := nl_ BK212 hg; have n7_ := nr_ BK212 hg; have n8_ := nl_ BK213 hg; have n9_ := nr_ BK213 hg; clear BK212 BK213 HB; have BK212 := n0_; have BK213 := n1_; have HB := n2_; have BK224 := n3_; have GW224 := n4_; have GE224 := n5_; have NB212_224 := n6_; have NB224_212 := n7_; have NB213_224 := n8_; have NB224_213 := n9_; clear n0_ n1_ n2_ n3_ n4_ n5_ n6_ n7_ n8_ n9_; clear hb hbox hg; refine hK.out _ _ ⟨bc_ BK212 0, bc_ BK212 1, bc_ BK212 2, bc_ BK212 3, bc_ BK212 4, bc_ BK213 0, bc_ BK213 1⟩ (fun hHeld => ?_); clear hK K
    apply norm_
    · show Act.put _ (some 7) _ = _; simp only [Act.put, sA_, sZ_, sS_, i64_w, i32_w]; rfl
    refine one_ (i := 1) (N := some 13) #[true,true,true,true,false,false,false,false,false,true,false,false] rfl rfl (one_of HT_.out (by kernel_rfl)) (by decide) (fun K hK => ?_); refine gs_ Try.func28 #[.agg #[.int .i64 a0_0, .int .i64 a0_1, .int .i64 a0_2, .int .i64 a0_3, .int .i64 a0_4]] ?_
    with_reducible refine (laws_toEd.calls a0_0 a0_1 a0_2 a0_3 a0_4 t214 t215 t216 t217 t218 _ A4.out).mono ?_
    rintro e w71 ⟨rfl, hb⟩; refine ⟨_, rfl, ?_⟩; replace BK212 := bb_ BK212 hb; replace BK213 := bb_ BK213 hb; replace BK224 := bb_ BK224 hb; replace HB := bs_ HB hb; (try clear hb); refine hK.out _ _ ⟨bc_ BK212 0, bc_ BK212 1, bc_ BK212 2, bc_ BK212 3, bc_ BK212 4, bc_ BK213 0, bc_ BK213 1⟩ (fun hHeld => ?_); clear hK K
    apply norm_
    · show Act.put _ (some 13) _ = _; simp only [Act.put, sA_, sZ_, sS_, i64_w, i32_w]; rfl
    refine one_ (i := 4) (N := some 16) #[true,true,true,true,true,false,false,false,false,true,false,false] rfl rfl (one_of HT_.out (by kernel_rfl)) (by decide) (fun K hK => ?_); refine gs_ Try.func36 #[.agg #[.int .i64 a2_0, .int .i64 a2_1]] ?_
    with_reducible refine (laws_toPair.calls a2_0 a2_1 t219 t220 _ A5.out).mono ?_
    rintro e w72 ⟨rfl, hb⟩; refine ⟨_, rfl, ?_⟩; replace BK212 := bb_ BK212 hb; replace BK213 := bb_ BK213 hb; replace BK224 := bb_ BK224 hb; replace HB := bs_ HB hb; (try clear hb); refine hK.out _ _ ⟨bc_ BK212 0, bc_ BK212 1, bc_ BK212 2, bc_ BK212 3, bc_ BK212 4, bc_ BK213 0, bc_ BK213 1⟩ (fun hHeld => ?_); clear hK K
    apply norm_
    · show Act.put _ (some 16) _ = _; simp only [Act.put, sA_, sZ_, sS_, i64_w, i32_w]; rfl
    refine one_ (i := 5) (N := some 17) #[true,true,true,true,true,true,false,false,false,true,false,false] rfl rfl (one_of HT_.out (by kernel_rfl)) (by decide) (fun K hK => ?_); refine gs_ Try.func44 #[.agg #[.int .i64 t214, .int .i64 t215, .int .i64 t216, .int .i64 t217, .int .i64 t218], .int .i64 a1, .agg #[.int .i64 t219, .int .i64 t220]] ?_
    with_reducible refine (spec_EdMul.calls k t214 t215 t216 t217 t218 a1 t219 t220 t221 t222 t223 _ A6.out).mono ?_
    rintro e w73 ⟨rfl, hb⟩; refine ⟨_, rfl, ?_⟩; replace BK212 := bb_ BK212 hb; replace BK213 := bb_ BK213 hb; replace BK224 := bb_ BK224 hb; replace HB := bs_ HB hb; (try clear hb); refine hK.out _ _ ⟨bc_ BK212 0, bc_ BK212 1, bc_ BK212 2, bc_ BK212 3, bc_ BK212 4, bc_ BK213 0, bc_ BK213 1⟩ (fun hHeld => ?_); clear hK K
    apply norm_
    · show Act.put _ (some 17) _ = _; simp only [Act.put, sA_, sZ_, sS_, i64_w, i32_w]; rfl
    refine pure_ (i := 6) (N := some 11) (v := ?_) (a' := ?_) #[true,true,true,true,true,true,true,false,false,true,false,false] rfl rfl (any_of HT_.out (by kernel_rfl)) (fun _ _ _ h => h) (Or.inl ⟨by rfl, ?_⟩) ?_ ?_; rotate_left
    ·
     intro w'; go_simp
     with_reducible rfl
    rotate_left
    · simp only [Act.put, sA_, sZ_, sS_, i64_w, i32_w]; rfl
    refine pure_ (i := 7) (N := some 18) (v := ?_) (a' := ?_) #[true,true,true,true,true,true,true,true,false,true,false,false] rfl rfl (any_of HT_.out (by kernel_rfl)) (fun _ _ _ h => h) (Or.inl ⟨by rfl, ?_⟩) ?_ ?_; rotate_left
    ·
     intro w'; go_simp
     with_reducible rfl
    rotate_left
    · simp only [Act.put, sA_, sZ_, sS_, i64_w, i32_w]; rfl
    refine pure_ (i := 8) (N := some 19) (v := ?_) (a' := ?_) #[true,true,true,true,true,true,true,true,true,true,false,false] rfl rfl (any_of HT_.out (by kernel_rfl)) (fun _ _ _ h => h) (Or.inl ⟨by rfl, ?_⟩) ?_ ?_; rotate_left
    ·
     intro w'; go_simp
     with_reducible rfl
    rotate_left
    · simp only [Act.put, sA_, sZ_, sS_, i64_w, i32_w]; rfl
    exact norm_ (by simp only [putAll, Act.put, sA_, sZ_, sS_]) (hCont (gb224) _ ⟨hHeld, (bk_ BK212), (bk_ BK213), (bk_ BK224), GW224.out, GE224.out, NB212_224.out, NB224_212.out, NB213_224.out, NB224_213.out, (bw_ HB)⟩)
  rintro gb224 w74 ⟨hS_, h0_, h1_, h2_, h3_, h4_, h5_, h6_, h7_, h8_, h9_⟩; replace BK212 := Aside0.mk h0_; replace BK213 := Aside0.mk h1_; have BK224 := Aside0.mk h2_; have GW224 := Aside0.mk h3_; have GE224 := Aside0.mk h4_; have NB212_224 := Aside0.mk h5_; have NB224_212 := Aside0.mk h6_; have NB213_224 := Aside0.mk h7_; have NB224_213 := Aside0.mk h8_; replace HB := Aside0.mk h9_; clear h0_ h1_ h2_ h3_ h4_ h5_ h6_ h7_ h8_ h9_; have hHeld := hS_
  apply norm_
  · simp only [putAll, Act.put, sA_, sZ_, sS_]; rfl
  refine one_ (i := 10) (N := none) #[true,true,true,true,true,true,true,true,true,true,true,false] rfl rfl (one_of HT_.out (by kernel_rfl)) (by decide) (fun K hK => ?_)
  have hs75 : w74.cell? ⟨gb224, 0, none⟩ = some (.int .i64 0) := bc_ BK224 0
  have hfs75 := blk_frozen BK224.out 0; have hns75_0 := NB212_224.out; have hns75_1 := NB213_224.out; have hms75_0 := NB224_212.out; have hms75_1 := NB224_213.out
  have hs76 : w74.cell? ⟨gb224, 1, none⟩ = some (.int .i64 0) := bc_ BK224 1
  have hfs76 := blk_frozen BK224.out 1; have hns76_0 := NB212_224.out; have hns76_1 := NB213_224.out; have hms76_0 := NB224_212.out; have hms76_1 := NB224_213.out; refine skip_ (w1 := ?_) (by rfl) rfl ?_ ?_; rotate_left
  · go_simp; rfl
  refine hK.out _ _ ⟨((cell_far (p := ⟨gb224, _, none⟩) NB212_224.out _).trans (((cell_far (p := ⟨gb224, _, none⟩) NB212_224.out _).trans (hHeld.1)))), ((cell_far (p := ⟨gb224, _, none⟩) NB212_224.out _).trans (((cell_far (p := ⟨gb224, _, none⟩) NB212_224.out _).trans (hHeld.2.1)))), ((cell_far (p := ⟨gb224, _, none⟩) NB212_224.out _).trans (((cell_far (p := ⟨gb224, _, none⟩) NB212_224.out _).trans (hHeld.2.2.1)))), ((cell_far (p := ⟨gb224, _, none⟩) NB212_224.out _).trans (((cell_far (p := ⟨gb224, _, none⟩) NB212_224.out _).trans (hHeld.2.2.2.1)))), ((cell_far (p := ⟨gb224, _, none⟩) NB212_224.out _).trans (((cell_far (p := ⟨gb224, _, none⟩) NB212_224.out _).trans (hHeld.2.2.2.2.1)))), ((cell_far (p := ⟨gb224, _, none⟩) NB213_224.out _).trans (((cell_far (p := ⟨gb224, _, none⟩) NB213_224.out _).trans (hHeld.2.2.2.2.2.1)))), ((cell_far (p := ⟨gb224, _, none⟩) NB213_224.out _).trans (((cell_far (p := ⟨gb224, _, none⟩) NB213_224.out _).trans (hHeld.2.2.2.2.2.2))))⟩ (fun hHeld => ?_); clear hK K; refine pure_ (i := 11) (N := some 8) (v := ?_) (a' := ?_) #[true,true,true,true,true,true,true,true,true,true,true,true] rfl rfl (any_of HT_.out (by kernel_rfl)) (fun _ _ _ h => h) (Or.inl ⟨by rfl, ?_⟩) ?_ ?_; rotate_left
  ·
   intro w'; go_simp
   with_reducible rfl
  rotate_left
  · simp only [Act.put, sA_, sZ_, sS_, i64_w, i32_w]; rfl
  refine done_ (done_of HT_.out (by kernel_rfl)) ?_
  try go_wp2
  have n0_ : Aside0 (((w74.setCell ⟨gb224, 0, none⟩ (.int .i64 t221)).setCell ⟨gb224, 1, none⟩ (.int .i64 t222)).heap[gb212]? = some (.cells #[.int .i64 a0_0, .int .i64 a0_1, .int .i64 a0_2, .int .i64 a0_3, .int .i64 a0_4] 35 (0, 0))) := ⟨by (with_reducible repeat (first | refine blk_drewN ?_ _ | refine blk_drew ?_ | refine blk_alloc ?_ _)); refine blk_far ?_ NB212_224.out _; (with_reducible repeat (first | refine blk_drewN ?_ _ | refine blk_drew ?_ | refine blk_alloc ?_ _)); refine blk_far ?_ NB212_224.out _; (with_reducible repeat (first | refine blk_drewN ?_ _ | refine blk_drew ?_ | refine blk_alloc ?_ _)); exact BK212.out⟩
  have n1_ : Aside0 (((w74.setCell ⟨gb224, 0, none⟩ (.int .i64 t221)).setCell ⟨gb224, 1, none⟩ (.int .i64 t222)).heap[gb213]? = some (.cells #[.int .i64 a2_0, .int .i64 a2_1] 47 (0, 0))) := ⟨by (with_reducible repeat (first | refine blk_drewN ?_ _ | refine blk_drew ?_ | refine blk_alloc ?_ _)); refine blk_far ?_ NB213_224.out _; (with_reducible repeat (first | refine blk_drewN ?_ _ | refine blk_drew ?_ | refine blk_alloc ?_ _)); refine blk_far ?_ NB213_224.out _; (with_reducible repeat (first | refine blk_drewN ?_ _ | refine blk_drew ?_ | refine blk_alloc ?_ _)); exact BK213.out⟩
  have n2_ : Aside0 (((w74.setCell ⟨gb224, 0, none⟩ (.int .i64 t221)).setCell ⟨gb224, 1, none⟩ (.int .i64 t222)).heap[gb224]? = some (.cells #[.int .i64 t221, .int .i64 t222] 49 (0, 0))) := ⟨by (with_reducible repeat (first | refine blk_drewN ?_ _ | refine blk_drew ?_ | refine blk_alloc ?_ _)); refine blk_put (cs := #[.int .i64 t221, .int .i64 0]) ?_ 1 _ rfl; (with_reducible repeat (first | refine blk_drewN ?_ _ | refine blk_drew ?_ | refine blk_alloc ?_ _)); refine blk_put (cs := #[.int .i64 0, .int .i64 0]) ?_ 0 _ rfl; (with_reducible repeat (first | refine blk_drewN ?_ _ | refine blk_drew ?_ | refine blk_alloc ?_ _)); exact BK224.out⟩
  have n3_ : Aside0 (Below w.heap.size w ((w74.setCell ⟨gb224, 0, none⟩ (.int .i64 t221)).setCell ⟨gb224, 1, none⟩ (.int .i64 t222))) := ⟨by repeat (first | (with_reducible first | exact HB.out | apply below_alloc | apply pw_below_drewN | apply below_drew1 | refine below_set ?_ GE212.out | refine below_set ?_ GE213.out | refine below_set ?_ GE224.out) | exact HB.out)⟩
  (try clear BK212); (try clear BK213); (try clear BK224); (try clear HB)
  generalize ((w74.setCell ⟨gb224, 0, none⟩ (.int .i64 t221)).setCell ⟨gb224, 1, none⟩ (.int .i64 t222)) = w77 at n0_ n1_ n2_ n3_ ⊢
  have BK212 := n0_; have BK213 := n1_; have BK224 := n2_; have HB := n3_; clear n0_ n1_ n2_ n3_; replace BK212 := Aside0.mk (blk_drew BK212.out); replace BK213 := Aside0.mk (blk_drew BK213.out); replace BK224 := Aside0.mk (blk_drew BK224.out); replace HB := Aside0.mk (below_drew1 HB.out); refine start_ (n := 12) (S := fun w' => w'.cell? ⟨gb212, 0, none⟩ = some (.int .i64 a0_0) ∧ w'.cell? ⟨gb212, 1, none⟩ = some (.int .i64 a0_1) ∧ w'.cell? ⟨gb212, 2, none⟩ = some (.int .i64 a0_2) ∧ w'.cell? ⟨gb212, 3, none⟩ = some (.int .i64 a0_3) ∧ w'.cell? ⟨gb212, 4, none⟩ = some (.int .i64 a0_4) ∧ w'.cell? ⟨gb213, 0, none⟩ = some (.int .i64 a2_0) ∧ w'.cell? ⟨gb213, 1, none⟩ = some (.int .i64 a2_1)) (ds := []) #[false,false,false,false,false,false,false,false,false,false,false,false] (by kernel_rfl) rfl rfl ⟨bc_ BK212 0, bc_ BK212 1, bc_ BK212 2, bc_ BK212 3, bc_ BK212 4, bc_ BK213 0, bc_ BK213 1⟩ (fun hHeld => ?_); refine with_tabW laws_FnExactEdMul.tab2 laws_FnExactEdMul.bits2 (fun HT_ HW_ => ?_)
  generalize w77.drew = w78 at BK212 BK213 BK224 HB hHeld ⊢
  refine pure_ (i := 2) (N := some 23) (v := ?_) (a' := ?_) #[false,false,true,false,false,false,false,false,false,false,false,false] rfl rfl (any_of HT_.out (by kernel_rfl)) (fun _ _ _ h => h) (Or.inl ⟨by rfl, ?_⟩) ?_ ?_; rotate_left
  ·
   intro w'; go_simp
   with_reducible rfl
  rotate_left
  · simp only [Act.put, sA_, sZ_, sS_, i64_w, i32_w]; rfl
  refine take_ (i := 0) (N := some 21) (v := ?_) (a' := ?_) #[true,false,true,false,false,false,false,false,false,false,false,false] rfl rfl (take_ofW HT_.out HW_.out (by kernel_rfl)) (fun _ _ _ h => h) (Or.inl ⟨by rfl, ?_⟩) hHeld ?_ ?_; rotate_left
  ·
   rintro w' ⟨s0, s1, s2, s3, s4, s5, s6⟩; go_simp
   with_reducible rfl
  rotate_left
  · simp only [Act.put, sA_, sZ_, sS_, i64_w, i32_w]; rfl
  refine take_ (i := 3) (N := some 24) (v := ?_) (a' := ?_) #[true,false,true,true,false,false,false,false,false,false,false,false] rfl rfl (take_ofW HT_.out HW_.out (by kernel_rfl)) (fun _ _ _ h => h) (Or.inl ⟨by rfl, ?_⟩) hHeld ?_ ?_; rotate_left
  ·
   rintro w' ⟨s0, s1, s2, s3, s4, s5, s6⟩; go_simp
   with_reducible rfl
  rotate_left
  · simp only [Act.put, sA_, sZ_, sS_, i64_w, i32_w]; rfl
  refine join_ (σ := Nat) 2 #[true,true,true,true,true,true,true,true,true,true,false,false] (fun s_ => [(22, .agg #[.int .i64 t225, .int .i64 t226, .int .i64 t227, .int .i64 t228, .int .i64 t229]), (25, .agg #[.int .i64 t230, .int .i64 t231]), (26, .tuple #[.agg #[.int .i64 t232, .int .i64 t233], .bool t234]), (9, .pointer (some ⟨s_, 0, none⟩)), (20, .tuple #[.agg #[.int .i64 t232, .int .i64 t233], .bool t234]), (27, .agg #[.int .i64 t232, .int .i64 t233]), (28, .bool t234)]) (fun s_ w' => (w'.cell? ⟨gb212, 0, none⟩ = some (.int .i64 a0_0) ∧ w'.cell? ⟨gb212, 1, none⟩ = some (.int .i64 a0_1) ∧ w'.cell? ⟨gb212, 2, none⟩ = some (.int .i64 a0_2) ∧ w'.cell? ⟨gb212, 3, none⟩ = some (.int .i64 a0_3) ∧ w'.cell? ⟨gb212, 4, none⟩ = some (.int .i64 a0_4) ∧ w'.cell? ⟨gb213, 0, none⟩ = some (.int .i64 a2_0) ∧ w'.cell? ⟨gb213, 1, none⟩ = some (.int .i64 a2_1)) ∧ (w'.heap[gb212]? = some (.cells #[.int .i64 a0_0, .int .i64 a0_1, .int .i64 a0_2, .int .i64 a0_3, .int .i64 a0_4] 35 (0, 0))) ∧ (w'.heap[gb213]? = some (.cells #[.int .i64 a2_0, .int .i64 a2_1] 47 (0, 0))) ∧ (w'.heap[gb224]? = some (.cells #[.int .i64 t221, .int .i64 t222] 49 (0, 0))) ∧ (w'.heap[s_]? = some (.cells #[.int .i64 0, .int .i64 0] 49 (0, 0))) ∧ (w.heap.size ≤ s_) ∧ (w.heap.size ≤ s_) ∧ (gb212 ≠ s_) ∧ (s_ ≠ gb212) ∧ (gb213 ≠ s_) ∧ (s_ ≠ gb213) ∧ (gb224 ≠ s_) ∧ (s_ ≠ gb224) ∧ (Below w.heap.size w w')) ?_ ?_; rotate_left
  ·
   intro hCont; refine two_ (i := 1) (j := 9) (Ni := some 22) (Nj := some 9) #[true,true,true,true,false,false,false,false,false,false,false,false] #[true,false,true,true,false,false,false,false,false,true,false,false] rfl rfl rfl rfl (two_of HT_.out (by kernel_rfl)) (by decide) (by decide) (fun K hK => ?_) (fun K hK => ?_)
   ·
    refine gs_ Try.func28 #[.agg #[.int .i64 a0_0, .int .i64 a0_1, .int .i64 a0_2, .int .i64 a0_3, .int .i64 a0_4]] ?_
    with_reducible refine (laws_toEd.calls a0_0 a0_1 a0_2 a0_3 a0_4 t225 t226 t227 t228 t229 _ A7.out).mono ?_
    rintro e w79 ⟨rfl, hb⟩; refine ⟨_, rfl, ?_⟩; replace BK212 := bb_ BK212 hb; replace BK213 := bb_ BK213 hb; replace BK224 := bb_ BK224 hb; replace HB := bs_ HB hb; (try clear hb); refine hK.out _ _ ⟨bc_ BK212 0, bc_ BK212 1, bc_ BK212 2, bc_ BK212 3, bc_ BK212 4, bc_ BK213 0, bc_ BK213 1⟩ (fun hHeld => ?_); clear hK K
    apply norm_
    · show Act.put _ (some 22) _ = _; simp only [Act.put, sA_, sZ_, sS_, i64_w, i32_w]; rfl
    refine two_ (i := 4) (j := 9) (Ni := some 25) (Nj := some 9) #[true,true,true,true,true,false,false,false,false,false,false,false] #[true,true,true,true,false,false,false,false,false,true,false,false] rfl rfl rfl rfl (two_of HT_.out (by kernel_rfl)) (by decide) (by decide) (fun K hK => ?_) (fun K hK => ?_)
    ·
     refine gs_ Try.func36 #[.agg #[.int .i64 a2_0, .int .i64 a2_1]] ?_
     with_reducible refine (laws_toPair.calls a2_0 a2_1 t230 t231 _ A8.out).mono ?_
     rintro e w80 ⟨rfl, hb⟩; refine ⟨_, rfl, ?_⟩; replace BK212 := bb_ BK212 hb; replace BK213 := bb_ BK213 hb; replace BK224 := bb_ BK224 hb; replace HB := bs_ HB hb; (try clear hb); refine hK.out _ _ ⟨bc_ BK212 0, bc_ BK212 1, bc_ BK212 2, bc_ BK212 3, bc_ BK212 4, bc_ BK213 0, bc_ BK213 1⟩ (fun hHeld => ?_); clear hK K
     apply norm_
     · show Act.put _ (some 25) _ = _; simp only [Act.put, sA_, sZ_, sS_, i64_w, i32_w]; rfl
     refine two_ (i := 5) (j := 9) (Ni := some 26) (Nj := some 9) #[true,true,true,true,true,true,false,false,false,false,false,false] #[true,true,true,true,true,false,false,false,false,true,false,false] rfl rfl rfl rfl (two_of HT_.out (by kernel_rfl)) (by decide) (by decide) (fun K hK => ?_) (fun K hK => ?_)
     ·
      refine gs_ Try.func45 #[.agg #[.int .i64 t225, .int .i64 t226, .int .i64 t227, .int .i64 t228, .int .i64 t229], .int .i64 a1, .agg #[.int .i64 t230, .int .i64 t231]] ?_
      with_reducible refine (impl_EdMul.calls k t225 t226 t227 t228 t229 a1 t230 t231 t232 t233 t234 _ A9.out).mono ?_
      rintro e w81 ⟨rfl, hb⟩; refine ⟨_, rfl, ?_⟩; replace BK212 := bb_ BK212 hb; replace BK213 := bb_ BK213 hb; replace BK224 := bb_ BK224 hb; replace HB := bs_ HB hb; (try clear hb); refine hK.out _ _ ⟨bc_ BK212 0, bc_ BK212 1, bc_ BK212 2, bc_ BK212 3, bc_ BK212 4, bc_ BK213 0, bc_ BK213 1⟩ (fun hHeld => ?_); clear hK K
      apply norm_
      · show Act.put _ (some 26) _ = _; simp only [Act.put, sA_, sZ_, sS_, i64_w, i32_w]; rfl
      refine pure_ (i := 6) (N := some 20) (v := ?_) (a' := ?_) #[true,true,true,true,true,true,true,false,false,false,false,false] rfl rfl (any_of HT_.out (by kernel_rfl)) (fun _ _ _ h => h) (Or.inl ⟨by rfl, ?_⟩) ?_ ?_; rotate_left
      ·
       intro w'; go_simp
       with_reducible rfl
      rotate_left
      · simp only [Act.put, sA_, sZ_, sS_, i64_w, i32_w]; rfl
      refine pure_ (i := 7) (N := some 27) (v := ?_) (a' := ?_) #[true,true,true,true,true,true,true,true,false,false,false,false] rfl rfl (any_of HT_.out (by kernel_rfl)) (fun _ _ _ h => h) (Or.inl ⟨by rfl, ?_⟩) ?_ ?_; rotate_left
      ·
       intro w'; go_simp
       with_reducible rfl
      rotate_left
      · simp only [Act.put, sA_, sZ_, sS_, i64_w, i32_w]; rfl
      refine pure_ (i := 8) (N := some 28) (v := ?_) (a' := ?_) #[true,true,true,true,true,true,true,true,true,false,false,false] rfl rfl (any_of HT_.out (by kernel_rfl)) (fun _ _ _ h => h) (Or.inl ⟨by rfl, ?_⟩) ?_ ?_; rotate_left
      ·
       intro w'; go_simp
       with_reducible rfl
      rotate_left
      · simp only [Act.put, sA_, sZ_, sS_, i64_w, i32_w]; rfl
      refine one_ (i := 9) (N := some 9) #[true,true,true,true,true,true,true,true,true,true,false,false] rfl rfl (one_of HT_.out (by kernel_rfl)) (by decide) (fun K hK => ?_); refine box_step ?hg (N := 9) ?hd (cs := #[.int .i64 0, .int .i64 0]) (t := 49) ?hr ?_; (case hd => rfl); (case hg => rfl); (case hr => first | (go_simp; done) | (go_simp; rfl))
      intro gb235 hg w82 hbox hb; have n0_ := bb_ BK212 hb; have n1_ := bb_ BK213 hb; have n2_ := bb_ BK224 hb; have n3_ := bs_ HB hb; have n4_ := Aside0.mk hbox; have n5_ := ge_ HB hg; have n6_ := ge_ HB hg; have n7_ := nl_ BK212 hg; have n8_ := nr_ BK212 hg; have n9_ := nl_ BK213 hg; have n10_ := nr_ BK213 hg; have n11_ := nl_ BK224 hg; have n12_ := nr_ BK224 hg; clear BK212 BK213 BK224 HB; have BK212 := n0_; have BK213 := n1_; have BK224 := n2_; have HB := n3_; have BK235 := n4_; have GW235 := n5_; have GE235 := n6_; have NB212_235 := n7_; have NB235_212 := n8_; have NB213_235 := n9_; have NB235_213 := n10_; have NB224_235 := n11_; have NB235_224 := n12_; clear n0_ n1_ n2_ n3_ n4_ n5_ n6_ n7_ n8_ n9_ n10_ n11_ n12_; clear hb hbox hg; refine hK.out _ _ ⟨bc_ BK212 0, bc_ BK212 1, bc_ BK212 2, bc_ BK212 3, bc_ BK212 4, bc_ BK213 0, bc_ BK213 1⟩ (fun hHeld => ?_); clear hK K
      apply norm_
      · show Act.put _ (some 9) _ = _; simp only [Act.put, sA_, sZ_, sS_, i64_w, i32_w]; rfl
      exact norm_ (by simp only [putAll, Act.put, sA_, sZ_, sS_]) (hCont (gb235) _ ⟨hHeld, (bk_ BK212), (bk_ BK213), (bk_ BK224), (bk_ BK235), GW235.out, GE235.out, NB212_235.out, NB235_212.out, NB213_235.out, NB235_213.out, NB224_235.out, NB235_224.out, (bw_ HB)⟩)
     ·
      refine box_step ?hg (N := 9) ?hd (cs := #[.int .i64 0, .int .i64 0]) (t := 49) ?hr ?_; (case hd => rfl); (case hg => rfl); (case hr => first | (go_simp; done) | (go_simp; rfl))
      intro gb235 hg w81 hbox hb; have n0_ := bb_ BK212 hb; have n1_ := bb_ BK213 hb; have n2_ := bb_ BK224 hb; have n3_ := bs_ HB hb; have n4_ := Aside0.mk hbox; have n5_ := ge_ HB hg; have n6_ := ge_ HB hg; have n7_ := nl_ BK212 hg; have n8_ := nr_ BK212 hg; have n9_ := nl_ BK213 hg; have n10_ := nr_ BK213 hg; have n11_ := nl_ BK224 hg; have n12_ := nr_ BK224 hg; clear BK212 BK213 BK224 HB; have BK212 := n0_; have BK213 := n1_; have BK224 := n2_; have HB := n3_; have BK235 := n4_; have GW235 := n5_; have GE235 := n6_; have NB212_235 := n7_; have NB235_212 := n8_; have NB213_235 := n9_; have NB235_213 := n10_; have NB224_235 := n11_; have NB235_224 := n12_; clear n0_ n1_ n2_ n3_ n4_ n5_ n6_ n7_ n8_ n9_ n10_ n11_ n12_; clear hb hbox hg; refine hK.out _ _ ⟨bc_ BK212 0, bc_ BK212 1, bc_ BK212 2, bc_ BK212 3, bc_ BK212 4, bc_ BK213 0, bc_ BK213 1⟩ (fun hHeld => ?_); clear hK K
      apply norm_
      · show Act.put _ (some 9) _ = _; simp only [Act.put, sA_, sZ_, sS_, i64_w, i32_w]; rfl
      refine one_ (i := 5) (N := some 26) #[true,true,true,true,true,true,false,false,false,true,false,false] rfl rfl (one_of HT_.out (by kernel_rfl)) (by decide) (fun K hK => ?_); refine gs_ Try.func45 #[.agg #[.int .i64 t225, .int .i64 t226, .int .i64 t227, .int .i64 t228, .int .i64 t229], .int .i64 a1, .agg #[.int .i64 t230, .int .i64 t231]] ?_
      with_reducible refine (impl_EdMul.calls k t225 t226 t227 t228 t229 a1 t230 t231 t232 t233 t234 _ A9.out).mono ?_
      rintro e w82 ⟨rfl, hb⟩; refine ⟨_, rfl, ?_⟩; replace BK212 := bb_ BK212 hb; replace BK213 := bb_ BK213 hb; replace BK224 := bb_ BK224 hb; replace BK235 := bb_ BK235 hb; replace HB := bs_ HB hb; (try clear hb); refine hK.out _ _ ⟨bc_ BK212 0, bc_ BK212 1, bc_ BK212 2, bc_ BK212 3, bc_ BK212 4, bc_ BK213 0, bc_ BK213 1⟩ (fun hHeld => ?_); clear hK K
      apply norm_
      · show Act.put _ (some 26) _ = _; simp only [Act.put, sA_, sZ_, sS_, i64_w, i32_w]; rfl
      refine pure_ (i := 6) (N := some 20) (v := ?_) (a' := ?_) #[true,true,true,true,true,true,true,false,false,true,false,false] rfl rfl (any_of HT_.out (by kernel_rfl)) (fun _ _ _ h => h) (Or.inl ⟨by rfl, ?_⟩) ?_ ?_; rotate_left
      ·
       intro w'; go_simp
       with_reducible rfl
      rotate_left
      · simp only [Act.put, sA_, sZ_, sS_, i64_w, i32_w]; rfl
      refine pure_ (i := 7) (N := some 27) (v := ?_) (a' := ?_) #[true,true,true,true,true,true,true,true,false,true,false,false] rfl rfl (any_of HT_.out (by kernel_rfl)) (fun _ _ _ h => h) (Or.inl ⟨by rfl, ?_⟩) ?_ ?_; rotate_left
      ·
       intro w'; go_simp
       with_reducible rfl
      rotate_left
      · simp only [Act.put, sA_, sZ_, sS_, i64_w, i32_w]; rfl
      refine pure_ (i := 8) (N := some 28) (v := ?_) (a' := ?_) #[true,true,true,true,true,true,true,true,true,true,false,false] rfl rfl (any_of HT_.out (by kernel_rfl)) (fun _ _ _ h => h) (Or.inl ⟨by rfl, ?_⟩) ?_ ?_; rotate_left
      ·
       intro w'; go_simp
       with_reducible rfl
      rotate_left
      · simp only [Act.put, sA_, sZ_, sS_, i64_w, i32_w]; rfl
      exact norm_ (by simp only [putAll, Act.put, sA_, sZ_, sS_]) (hCont (gb235) _ ⟨hHeld, (bk_ BK212), (bk_ BK213), (bk_ BK224), (bk_ BK235), GW235.out, GE235.out, NB212_235.out, NB235_212.out, NB213_235.out, NB235_213.out, NB224_235.out, NB235_224.out, (bw_ HB)⟩)
    ·
     refine box_step ?hg (N := 9) ?hd (cs := #[.int .i64 0, .int .i64 0]) (t := 49) ?hr ?_; (case hd => rfl); (case hg => rfl); (case hr => first | (go_simp; done) | (go_simp; rfl))
     intro gb235 hg w80 hbox hb; have n0_ := bb_ BK212 hb; have n1_ := bb_ BK213 hb; have n2_ := bb_ BK224 hb; have n3_ := bs_ HB hb; have n4_ := Aside0.mk hbox; have n5_ := ge_ HB hg; have n6_ := ge_ HB hg; have n7_ := nl_ BK212 hg; have n8_ := nr_ BK212 hg; have n9_ := nl_ BK213 hg; have n10_ := nr_ BK213 hg; have n11_ := nl_ BK224 hg; have n12_ := nr_ BK224 hg; clear BK212 BK213 BK224 HB; have BK212 := n0_; have BK213 := n1_; have BK224 := n2_; have HB := n3_; have BK235 := n4_; have GW235 := n5_; have GE235 := n6_; have NB212_235 := n7_; have NB235_212 := n8_; have NB213_235 := n9_; have NB235_213 := n10_; have NB224_235 := n11_; have NB235_224 := n12_; clear n0_ n1_ n2_ n3_ n4_ n5_ n6_ n7_ n8_ n9_ n10_ n11_ n12_; clear hb hbox hg; refine hK.out _ _ ⟨bc_ BK212 0, bc_ BK212 1, bc_ BK212 2, bc_ BK212 3, bc_ BK212 4, bc_ BK213 0, bc_ BK213 1⟩ (fun hHeld => ?_); clear hK K
     apply norm_
     · show Act.put _ (some 9) _ = _; simp only [Act.put, sA_, sZ_, sS_, i64_w, i32_w]; rfl
     refine one_ (i := 4) (N := some 25) #[true,true,true,true,true,false,false,false,false,true,false,false] rfl rfl (one_of HT_.out (by kernel_rfl)) (by decide) (fun K hK => ?_); refine gs_ Try.func36 #[.agg #[.int .i64 a2_0, .int .i64 a2_1]] ?_
     with_reducible refine (laws_toPair.calls a2_0 a2_1 t230 t231 _ A8.out).mono ?_
     rintro e w81 ⟨rfl, hb⟩; refine ⟨_, rfl, ?_⟩; replace BK212 := bb_ BK212 hb; replace BK213 := bb_ BK213 hb; replace BK224 := bb_ BK224 hb; replace BK235 := bb_ BK235 hb; replace HB := bs_ HB hb; (try clear hb); refine hK.out _ _ ⟨bc_ BK212 0, bc_ BK212 1, bc_ BK212 2, bc_ BK212 3, bc_ BK212 4, bc_ BK213 0, bc_ BK213 1⟩ (fun hHeld => ?_); clear hK K
     apply norm_
     · show Act.put _ (some 25) _ = _; simp only [Act.put, sA_, sZ_, sS_, i64_w, i32_w]; rfl
     refine one_ (i := 5) (N := some 26) #[true,true,true,true,true,true,false,false,false,true,false,false] rfl rfl (one_of HT_.out (by kernel_rfl)) (by decide) (fun K hK => ?_); refine gs_ Try.func45 #[.agg #[.int .i64 t225, .int .i64 t226, .int .i64 t227, .int .i64 t228, .int .i64 t229], .int .i64 a1, .agg #[.int .i64 t230, .int .i64 t231]] ?_
     with_reducible refine (impl_EdMul.calls k t225 t226 t227 t228 t229 a1 t230 t231 t232 t233 t234 _ A9.out).mono ?_
     rintro e w82 ⟨rfl, hb⟩; refine ⟨_, rfl, ?_⟩; replace BK212 := bb_ BK212 hb; replace BK213 := bb_ BK213 hb; replace BK224 := bb_ BK224 hb; replace BK235 := bb_ BK235 hb; replace HB := bs_ HB hb; (try clear hb); refine hK.out _ _ ⟨bc_ BK212 0, bc_ BK212 1, bc_ BK212 2, bc_ BK212 3, bc_ BK212 4, bc_ BK213 0, bc_ BK213 1⟩ (fun hHeld => ?_); clear hK K
     apply norm_
     · show Act.put _ (some 26) _ = _; simp only [Act.put, sA_, sZ_, sS_, i64_w, i32_w]; rfl
     refine pure_ (i := 6) (N := some 20) (v := ?_) (a' := ?_) #[true,true,true,true,true,true,true,false,false,true,false,false] rfl rfl (any_of HT_.out (by kernel_rfl)) (fun _ _ _ h => h) (Or.inl ⟨by rfl, ?_⟩) ?_ ?_; rotate_left
     ·
      intro w'; go_simp
      with_reducible rfl
     rotate_left
     · simp only [Act.put, sA_, sZ_, sS_, i64_w, i32_w]; rfl
     refine pure_ (i := 7) (N := some 27) (v := ?_) (a' := ?_) #[true,true,true,true,true,true,true,true,false,true,false,false] rfl rfl (any_of HT_.out (by kernel_rfl)) (fun _ _ _ h => h) (Or.inl ⟨by rfl, ?_⟩) ?_ ?_; rotate_left
     ·
      intro w'; go_simp
      with_reducible rfl
     rotate_left
     · simp only [Act.put, sA_, sZ_, sS_, i64_w, i32_w]; rfl
     refine pure_ (i := 8) (N := some 28) (v := ?_) (a' := ?_) #[true,true,true,true,true,true,true,true,true,true,false,false] rfl rfl (any_of HT_.out (by kernel_rfl)) (fun _ _ _ h => h) (Or.inl ⟨by rfl, ?_⟩) ?_ ?_; rotate_left
     ·
      intro w'; go_simp
      with_reducible rfl
     rotate_left
     · simp only [Act.put, sA_, sZ_, sS_, i64_w, i32_w]; rfl
     exact norm_ (by simp only [putAll, Act.put, sA_, sZ_, sS_]) (hCont (gb235) _ ⟨hHeld, (bk_ BK212), (bk_ BK213), (bk_ BK224), (bk_ BK235), GW235.out, GE235.out, NB212_235.out, NB235_212.out, NB213_235.out, NB235_213.out, NB224_235.out, NB235_224.out, (bw_ HB)⟩)
   ·
    refine box_step ?hg (N := 9) ?hd (cs := #[.int .i64 0, .int .i64 0]) (t := 49) ?hr ?_; (case hd => rfl); (case hg => rfl); (case hr => first | (go_simp; done) | (go_simp; rfl))
    intro gb235 hg w79 hbox hb; have n0_ := bb_ BK212 hb; have n1_ := bb_ BK213 hb; have n2_ := bb_ BK224 hb; have n3_ := bs_ HB hb; have n4_ := Aside0.mk hbox; have n5_ := ge_ HB hg; have n6_ := ge_ HB hg; have n7_ := nl_ BK212 hg; have n8_ := nr_ BK212 hg; have n9_ := nl_ BK213 hg; have n10_ := nr_ BK213 hg; have n11_ := nl_ BK224 hg; have n12_ := nr_ BK224 hg; clear BK212 BK213 BK224 HB; have BK212 := n0_; have BK213 := n1_; have BK224 := n2_; have HB := n3_; have BK235 := n4_; have GW235 := n5_; have GE235 := n6_; have NB212_235 := n7_; have NB235_212 := n8_; have NB213_235 := n9_; have NB235_213 := n10_; have NB224_235 := n11_; have NB235_224 := n12_; clear n0_ n1_ n2_ n3_ n4_ n5_ n6_ n7_ n8_ n9_ n10_ n11_ n12_; clear hb hbox hg; refine hK.out _ _ ⟨bc_ BK212 0, bc_ BK212 1, bc_ BK212 2, bc_ BK212 3, bc_ BK212 4, bc_ BK213 0, bc_ BK213 1⟩ (fun hHeld => ?_); clear hK K
    apply norm_
    · show Act.put _ (some 9) _ = _; simp only [Act.put, sA_, sZ_, sS_, i64_w, i32_w]; rfl
    refine one_ (i := 1) (N := some 22) #[true,true,true,true,false,false,false,false,false,true,false,false] rfl rfl (one_of HT_.out (by kernel_rfl)) (by decide) (fun K hK => ?_); refine gs_ Try.func28 #[.agg #[.int .i64 a0_0, .int .i64 a0_1, .int .i64 a0_2, .int .i64 a0_3, .int .i64 a0_4]] ?_
    with_reducible refine (laws_toEd.calls a0_0 a0_1 a0_2 a0_3 a0_4 t225 t226 t227 t228 t229 _ A7.out).mono ?_
    rintro e w80 ⟨rfl, hb⟩; refine ⟨_, rfl, ?_⟩; replace BK212 := bb_ BK212 hb; replace BK213 := bb_ BK213 hb; replace BK224 := bb_ BK224 hb; replace BK235 := bb_ BK235 hb; replace HB := bs_ HB hb; (try clear hb); refine hK.out _ _ ⟨bc_ BK212 0, bc_ BK212 1, bc_ BK212 2, bc_ BK212 3, bc_ BK212 4, bc_ BK213 0, bc_ BK213 1⟩ (fun hHeld => ?_); clear hK K
    apply norm_
    · show Act.put _ (some 22) _ = _; simp only [Act.put, sA_, sZ_, sS_, i64_w, i32_w]; rfl
    refine one_ (i := 4) (N := some 25) #[true,true,true,true,true,false,false,false,false,true,false,false] rfl rfl (one_of HT_.out (by kernel_rfl)) (by decide) (fun K hK => ?_); refine gs_ Try.func36 #[.agg #[.int .i64 a2_0, .int .i64 a2_1]] ?_
    with_reducible refine (laws_toPair.calls a2_0 a2_1 t230 t231 _ A8.out).mono ?_
    rintro e w81 ⟨rfl, hb⟩; refine ⟨_, rfl, ?_⟩; replace BK212 := bb_ BK212 hb; replace BK213 := bb_ BK213 hb; replace BK224 := bb_ BK224 hb; replace BK235 := bb_ BK235 hb; replace HB := bs_ HB hb; (try clear hb); refine hK.out _ _ ⟨bc_ BK212 0, bc_ BK212 1, bc_ BK212 2, bc_ BK212 3, bc_ BK212 4, bc_ BK213 0, bc_ BK213 1⟩ (fun hHeld => ?_); clear hK K
    apply norm_
    · show Act.put _ (some 25) _ = _; simp only [Act.put, sA_, sZ_, sS_, i64_w, i32_w]; rfl
    refine one_ (i := 5) (N := some 26) #[true,true,true,true,true,true,false,false,false,true,false,false] rfl rfl (one_of HT_.out (by kernel_rfl)) (by decide) (fun K hK => ?_); refine gs_ Try.func45 #[.agg #[.int .i64 t225, .int .i64 t226, .int .i64 t227, .int .i64 t228, .int .i64 t229], .int .i64 a1, .agg #[.int .i64 t230, .int .i64 t231]] ?_
    with_reducible refine (impl_EdMul.calls k t225 t226 t227 t228 t229 a1 t230 t231 t232 t233 t234 _ A9.out).mono ?_
    rintro e w82 ⟨rfl, hb⟩; refine ⟨_, rfl, ?_⟩; replace BK212 := bb_ BK212 hb; replace BK213 := bb_ BK213 hb; replace BK224 := bb_ BK224 hb; replace BK235 := bb_ BK235 hb; replace HB := bs_ HB hb; (try clear hb); refine hK.out _ _ ⟨bc_ BK212 0, bc_ BK212 1, bc_ BK212 2, bc_ BK212 3, bc_ BK212 4, bc_ BK213 0, bc_ BK213 1⟩ (fun hHeld => ?_); clear hK K
    apply norm_
    · show Act.put _ (some 26) _ = _; simp only [Act.put, sA_, sZ_, sS_, i64_w, i32_w]; rfl
    refine pure_ (i := 6) (N := some 20) (v := ?_) (a' := ?_) #[true,true,true,true,true,true,true,false,false,true,false,false] rfl rfl (any_of HT_.out (by kernel_rfl)) (fun _ _ _ h => h) (Or.inl ⟨by rfl, ?_⟩) ?_ ?_; rotate_left
    ·
     intro w'; go_simp
     with_reducible rfl
    rotate_left
    · simp only [Act.put, sA_, sZ_, sS_, i64_w, i32_w]; rfl
    refine pure_ (i := 7) (N := some 27) (v := ?_) (a' := ?_) #[true,true,true,true,true,true,true,true,false,true,false,false] rfl rfl (any_of HT_.out (by kernel_rfl)) (fun _ _ _ h => h) (Or.inl ⟨by rfl, ?_⟩) ?_ ?_; rotate_left
    ·
     intro w'; go_simp
     with_reducible rfl
    rotate_left
    · simp only [Act.put, sA_, sZ_, sS_, i64_w, i32_w]; rfl
    refine pure_ (i := 8) (N := some 28) (v := ?_) (a' := ?_) #[true,true,true,true,true,true,true,true,true,true,false,false] rfl rfl (any_of HT_.out (by kernel_rfl)) (fun _ _ _ h => h) (Or.inl ⟨by rfl, ?_⟩) ?_ ?_; rotate_left
    ·
     intro w'; go_simp
     with_reducible rfl
    rotate_left
    · simp only [Act.put, sA_, sZ_, sS_, i64_w, i32_w]; rfl
    exact norm_ (by simp only [putAll, Act.put, sA_, sZ_, sS_]) (hCont (gb235) _ ⟨hHeld, (bk_ BK212), (bk_ BK213), (bk_ BK224), (bk_ BK235), GW235.out, GE235.out, NB212_235.out, NB235_212.out, NB213_235.out, NB235_213.out, NB224_235.out, NB235_224.out, (bw_ HB)⟩)
  rintro gb235 w83 ⟨hS_, h0_, h1_, h2_, h3_, h4_, h5_, h6_, h7_, h8_, h9_, h10_, h11_, h12_⟩; replace BK212 := Aside0.mk h0_; replace BK213 := Aside0.mk h1_; replace BK224 := Aside0.mk h2_; have BK235 := Aside0.mk h3_; have GW235 := Aside0.mk h4_; have GE235 := Aside0.mk h5_; have NB212_235 := Aside0.mk h6_; have NB235_212 := Aside0.mk h7_; have NB213_235 := Aside0.mk h8_; have NB235_213 := Aside0.mk h9_; have NB224_235 := Aside0.mk h10_; have NB235_224 := Aside0.mk h11_; replace HB := Aside0.mk h12_; clear h0_ h1_ h2_ h3_ h4_ h5_ h6_ h7_ h8_ h9_ h10_ h11_ h12_; have hHeld := hS_
  apply norm_
  · simp only [putAll, Act.put, sA_, sZ_, sS_]; rfl
  refine one_ (i := 10) (N := none) #[true,true,true,true,true,true,true,true,true,true,true,false] rfl rfl (one_of HT_.out (by kernel_rfl)) (by decide) (fun K hK => ?_)
  have hs84 : w83.cell? ⟨gb235, 0, none⟩ = some (.int .i64 0) := bc_ BK235 0
  have hfs84 := blk_frozen BK235.out 0; have hns84_0 := NB212_235.out; have hns84_1 := NB213_235.out; have hns84_2 := NB224_235.out; have hms84_0 := NB235_212.out; have hms84_1 := NB235_213.out; have hms84_2 := NB235_224.out
  have hs85 : w83.cell? ⟨gb235, 1, none⟩ = some (.int .i64 0) := bc_ BK235 1
  have hfs85 := blk_frozen BK235.out 1; have hns85_0 := NB212_235.out; have hns85_1 := NB213_235.out; have hns85_2 := NB224_235.out; have hms85_0 := NB235_212.out; have hms85_1 := NB235_213.out; have hms85_2 := NB235_224.out; refine skip_ (w1 := ?_) (by rfl) rfl ?_ ?_; rotate_left
  · go_simp; rfl
  refine hK.out _ _ ⟨((cell_far (p := ⟨gb235, _, none⟩) NB212_235.out _).trans (((cell_far (p := ⟨gb235, _, none⟩) NB212_235.out _).trans (hHeld.1)))), ((cell_far (p := ⟨gb235, _, none⟩) NB212_235.out _).trans (((cell_far (p := ⟨gb235, _, none⟩) NB212_235.out _).trans (hHeld.2.1)))), ((cell_far (p := ⟨gb235, _, none⟩) NB212_235.out _).trans (((cell_far (p := ⟨gb235, _, none⟩) NB212_235.out _).trans (hHeld.2.2.1)))), ((cell_far (p := ⟨gb235, _, none⟩) NB212_235.out _).trans (((cell_far (p := ⟨gb235, _, none⟩) NB212_235.out _).trans (hHeld.2.2.2.1)))), ((cell_far (p := ⟨gb235, _, none⟩) NB212_235.out _).trans (((cell_far (p := ⟨gb235, _, none⟩) NB212_235.out _).trans (hHeld.2.2.2.2.1)))), ((cell_far (p := ⟨gb235, _, none⟩) NB213_235.out _).trans (((cell_far (p := ⟨gb235, _, none⟩) NB213_235.out _).trans (hHeld.2.2.2.2.2.1)))), ((cell_far (p := ⟨gb235, _, none⟩) NB213_235.out _).trans (((cell_far (p := ⟨gb235, _, none⟩) NB213_235.out _).trans (hHeld.2.2.2.2.2.2))))⟩ (fun hHeld => ?_); clear hK K; refine pure_ (i := 11) (N := some 10) (v := ?_) (a' := ?_) #[true,true,true,true,true,true,true,true,true,true,true,true] rfl rfl (any_of HT_.out (by kernel_rfl)) (fun _ _ _ h => h) (Or.inl ⟨by rfl, ?_⟩) ?_ ?_; rotate_left
  ·
   intro w'; go_simp
   with_reducible rfl
  rotate_left
  · simp only [Act.put, sA_, sZ_, sS_, i64_w, i32_w]; rfl
  refine done_ (done_of HT_.out (by kernel_rfl)) ?_; have hnb86 := NB235_212.out; have hnc86 := NB212_235.out; have hnb87 := NB235_213.out; have hnc87 := NB213_235.out; have hnb88 := NB235_224.out; have hnc88 := NB224_235.out
  have hcz89_0 : w83.cell? ⟨gb235, 0, none⟩ = some (.int .i64 0) := bc_ BK235 0
  have hcz89_1 : w83.cell? ⟨gb235, 1, none⟩ = some (.int .i64 0) := bc_ BK235 1
  have hfz89_0 := blk_frozen BK235.out 0; have hfz89_1 := blk_frozen BK235.out 1; have hnb90 := NB224_212.out; have hnc90 := NB212_224.out; have hnb91 := NB224_213.out; have hnc91 := NB213_224.out
  have hcz92_0 : w83.cell? ⟨gb224, 0, none⟩ = some (.int .i64 t221) := bc_ BK224 0
  have hcz92_1 : w83.cell? ⟨gb224, 1, none⟩ = some (.int .i64 t222) := bc_ BK224 1
  have hfz92_0 := blk_frozen BK224.out 0; have hfz92_1 := blk_frozen BK224.out 1
  try go_wp2_with (first | ((with_reducible refine gate_callee (f := 43) rfl ?_); refine goesL_ (some 31) rfl rfl Try.func43 (by kernel_rfl) rfl #[.agg #[.int .i64 t232, .int .i64 t233], .agg #[.int .i64 t221, .int .i64 t222]] rfl (by (try simp only [List.map_toArray, List.map_cons, List.map_nil]); first | done | rfl | (simp only [List.length_drop, List.length_take]; rfl)) ?_; (with_reducible refine (laws_eqPair.calls t232 t233 t221 t222 false _ A10.out).mono ?_); rintro e w93 ⟨rfl, hb⟩; refine ⟨_, rfl, ?_⟩; have n0_ := Aside0.mk (blk_below (g := gb212) (o := .cells #[.int .i64 a0_0, .int .i64 a0_1, .int .i64 a0_2, .int .i64 a0_3, .int .i64 a0_4] 35 (0, 0)) (by (with_reducible repeat (first | refine blk_drewN ?_ _ | refine blk_drew ?_ | refine blk_alloc ?_ _)); refine blk_far ?_ NB212_235.out _; (with_reducible repeat (first | refine blk_drewN ?_ _ | refine blk_drew ?_ | refine blk_alloc ?_ _)); refine blk_far ?_ NB212_235.out _; (with_reducible repeat (first | refine blk_drewN ?_ _ | refine blk_drew ?_ | refine blk_alloc ?_ _)); exact BK212.out) hb); have n1_ := Aside0.mk (blk_below (g := gb213) (o := .cells #[.int .i64 a2_0, .int .i64 a2_1] 47 (0, 0)) (by (with_reducible repeat (first | refine blk_drewN ?_ _ | refine blk_drew ?_ | refine blk_alloc ?_ _)); refine blk_far ?_ NB213_235.out _; (with_reducible repeat (first | refine blk_drewN ?_ _ | refine blk_drew ?_ | refine blk_alloc ?_ _)); refine blk_far ?_ NB213_235.out _; (with_reducible repeat (first | refine blk_drewN ?_ _ | refine blk_drew ?_ | refine blk_alloc ?_ _)); exact BK213.out) hb); have n2_ := Aside0.mk (blk_below (g := gb224) (o := .cells #[.int .i64 t221, .int .i64 t222] 49 (0, 0)) (by (with_reducible repeat (first | refine blk_drewN ?_ _ | refine blk_drew ?_ | refine blk_alloc ?_ _)); refine blk_far ?_ NB224_235.out _; (with_reducible repeat (first | refine blk_drewN ?_ _ | refine blk_drew ?_ | refine blk_alloc ?_ _)); refine blk_far ?_ NB224_235.out _; (with_reducible repeat (first | refine blk_drewN ?_ _ | refine blk_drew ?_ | refine blk_alloc ?_ _)); exact BK224.out) hb); have n3_ := Aside0.mk (blk_below (g := gb235) (o := .cells #[.int .i64 t232, .int .i64 t233] 49 (0, 0)) (by (with_reducible repeat (first | refine blk_drewN ?_ _ | refine blk_drew ?_ | refine blk_alloc ?_ _)); refine blk_put (cs := #[.int .i64 t232, .int .i64 0]) ?_ 1 _ rfl; (with_reducible repeat (first | refine blk_drewN ?_ _ | refine blk_drew ?_ | refine blk_alloc ?_ _)); refine blk_put (cs := #[.int .i64 0, .int .i64 0]) ?_ 0 _ rfl; (with_reducible repeat (first | refine blk_drewN ?_ _ | refine blk_drew ?_ | refine blk_alloc ?_ _)); exact BK235.out) hb); have n4_ := bs_ HB hb; clear BK212; clear BK213; clear BK224; clear BK235; clear HB; have BK212 := n0_; have BK213 := n1_; have BK224 := n2_; have BK235 := n3_; have HB := n4_; clear n0_ n1_ n2_ n3_ n4_; (try clear hb); (try clear hb2); (try clear hk); (try clear hi)))
  go_ret
  exact ⟨by first | rfl | (simp [errW_none, errW_some] <;> rfl) | (simp [*, errW_none, errW_some] <;> rfl), by repeat (first | (with_reducible first | exact HB.out | apply below_alloc | apply pw_below_drewN | apply below_drew1 | refine below_set ?_ GE212.out | refine below_set ?_ GE213.out | refine below_set ?_ GE224.out | refine below_set ?_ GE235.out) | exact HB.out)⟩

/-- THE ONE PURE STATEMENT of laws_FnExactEdMul: yours. -/
def laws_FnExactEdMul.Pure : Prop := ∀ (a0_0 : Int) (a0_1 : Int) (a0_2 : Int) (a0_3 : Int) (a0_4 : Int) (a1 : Int) (a2_0 : Int) (a2_1 : Int), (Lit.int .i64 a0_0).wf = true → (Lit.int .i64 a0_1).wf = true → (Lit.int .i64 a0_2).wf = true → (Lit.int .i64 a0_3).wf = true → (Lit.int .i64 a0_4).wf = true → (Lit.int .i64 a1).wf = true → (Lit.int .i64 a2_0).wf = true → (Lit.int .i64 a2_1).wf = true → ∃ k, laws_FnExactEdMul.f k a0_0 a0_1 a0_2 a0_3 a0_4 a1 a2_0 a2_1 = some true
theorem laws_FnExactEdMul.walk (P : laws_FnExactEdMul.Pure) (a0_0 : Int) (a0_1 : Int) (a0_2 : Int) (a0_3 : Int) (a0_4 : Int) (a1 : Int) (a2_0 : Int) (a2_1 : Int) (w : World) (w0_0 : (Lit.int .i64 a0_0).wf = true) (w0_1 : (Lit.int .i64 a0_1).wf = true) (w0_2 : (Lit.int .i64 a0_2).wf = true) (w0_3 : (Lit.int .i64 a0_3).wf = true) (w0_4 : (Lit.int .i64 a0_4).wf = true) (w1 : (Lit.int .i64 a1).wf = true) (w2_0 : (Lit.int .i64 a2_0).wf = true) (w2_1 : (Lit.int .i64 a2_1).wf = true) :
  Calls Try.prog 12 #[.agg #[.int .i64 a0_0, .int .i64 a0_1, .int .i64 a0_2, .int .i64 a0_3, .int .i64 a0_4], .int .i64 a1, .agg #[.int .i64 a2_0, .int .i64 a2_1]] w fun e w' => e = .returned (.bool true) ∧ Below w.heap.size w w' := by
 obtain ⟨k, h⟩ := P a0_0 a0_1 a0_2 a0_3 a0_4 a1 a2_0 a2_1 w0_0 w0_1 w0_2 w0_3 w0_4 w1 w2_0 w2_1; refine (laws_FnExactEdMul.calls k a0_0 a0_1 a0_2 a0_3 a0_4 a1 a2_0 a2_1 true w h).mono ?_; rintro e w' ⟨rfl, hd⟩; exact ⟨rfl, hd⟩

end Go.Proofs.Ytohplbcbkggjaab.PFnExactEdMul
