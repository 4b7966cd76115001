-- Written for this claim by a program of this session.
import Derived.Test.YtohplbcbkggjaabPFnExactEdCofactorx0
import Derived.Test.YtohplbcbkggjaabPFnExactEdCofactorx2
import Derived.Test.YtohplbcbkggjaabPFnExactEdCofactorx5
import Derived.Test.YtohplbcbkggjaabPFnExactEdCofactorx8
namespace Go.Proofs.Ytohplbcbkggjaab.PFnExactEdCofactor
open Go.RowKit Go.Proofs.YtohplbcbkggjaabW.PrintWords Go.Proofs.YtohplbcbkggjaabW.PrintLast Go.Proofs.YtohplbcbkggjaabW.PrintMore
attribute [local go_sem] max2_int min2_int max_two min_two max_three min_three max_four min_four   -- for this text's walks alone
set_option linter.unusedVariables false
set_option linter.unusedSimpArgs false

/-! ### laws_FnExactEdCofactor: function 13 -/
def laws_FnExactEdCofactor.f (k : Nat) (a0_0 : Int) (a0_1 : Int) (a0_2 : Int) (a0_3 : Int) (a0_4 : Int) (a1_0 : Int) (a1_1 : Int) : Option (Bool) := (laws_toEd.f a0_0 a0_1 a0_2 a0_3 a0_4).bind fun bt219 => ((laws_toPair.f a1_0 a1_1).bind fun bt224 => ((spec_EdCofactor.f k bt219.1 bt219.2.1 bt219.2.2.1 bt219.2.2.2.1 bt219.2.2.2.2 bt224.1 bt224.2).bind fun bt226 => ((laws_toEd.f a0_0 a0_1 a0_2 a0_3 a0_4).bind fun bt230 => ((laws_toPair.f a1_0 a1_1).bind fun bt235 => ((impl_EdCofactor.f k bt230.1 bt230.2.1 bt230.2.2.1 bt230.2.2.2.1 bt230.2.2.2.2 bt235.1 bt235.2).bind fun bt237 => ((laws_eqPair.f bt237.1 bt237.2.1 bt226.1 bt226.2.1).bind fun t241 => (if t241 = true then (if (bt237.2.2 != bt226.2.2) = true then (some false) else (some true)) else (some false))))))))
theorem laws_FnExactEdCofactor.mono : ∀ a0 a1 a2 a3 a4 a5 a6 k, LeO (laws_FnExactEdCofactor.f k a0 a1 a2 a3 a4 a5 a6) (laws_FnExactEdCofactor.f (k + 1) a0 a1 a2 a3 a4 a5 a6) := by
 intro a0 a1 a2 a3 a4 a5 a6 k
 unfold laws_FnExactEdCofactor.f
 repeat' first
   | (with_reducible exact impl_EdCofactor.mono _ _ _ _ _ _ _ _)
   | (with_reducible exact spec_EdCofactor.mono _ _ _ _ _ _ _ _)
   | (with_reducible exact LeO.refl _)
   | (with_reducible exact LeO.none _)
   | (with_reducible refine LeO.ite ?_ ?_)
   | (with_reducible refine LeO.bind ?_ (fun _ => ?_))
   | exact impl_EdCofactor.mono _ _ _ _ _ _ _ _
   | exact spec_EdCofactor.mono _ _ _ _ _ _ _ _
   | exact LeO.none _
   | refine LeO.ite ?_ ?_
   | refine LeO.bind ?_ (fun _ => ?_)
def laws_FnExactEdCofactor.T1 : Bool × List (List Nat × List Nat) := (true, [([], []), ([0], [0]), ([], []), ([2, 1], [2]), ([1, 3, 3], [1, 3]), ([4], [4]), ([5], [5]), ([5], [5]), ([], []), ([8, 6, 4, 0, 1, 2, 3, 4, 5, 6, 8], [6, 8]), ([7, 9, 0, 1, 2, 3, 4, 5, 6, 7, 8, 9], [7])])
def laws_FnExactEdCofactor.B1 : List Nat := [0, 1, 0, 7, 15, 31, 63, 63, 0, 383, 1023]
theorem laws_FnExactEdCofactor.tab1 : rtab .any (opsOf Try.f13 1) = laws_FnExactEdCofactor.T1 := by kernel_rfl
theorem laws_FnExactEdCofactor.bits1 : waitsOk laws_FnExactEdCofactor.T1.2 laws_FnExactEdCofactor.B1 = true := by kernel_rfl
def laws_FnExactEdCofactor.T2 : Bool × List (List Nat × List Nat) := (true, [([], []), ([0], [0]), ([], []), ([2, 1], [2]), ([1, 3, 3], [1, 3]), ([4], [4]), ([5], [5]), ([5], [5]), ([], []), ([8, 6, 4, 0, 1, 2, 3, 4, 5, 6, 8], [6, 8]), ([7, 9, 0, 1, 2, 3, 4, 5, 6, 7, 8, 9], [7])])
def laws_FnExactEdCofactor.B2 : List Nat := [0, 1, 0, 7, 15, 31, 63, 63, 0, 383, 1023]
theorem laws_FnExactEdCofactor.tab2 : rtab .any (opsOf Try.f13 2) = laws_FnExactEdCofactor.T2 := by kernel_rfl
theorem laws_FnExactEdCofactor.bits2 : waitsOk laws_FnExactEdCofactor.T2.2 laws_FnExactEdCofactor.B2 = true := by kernel_rfl
set_option maxHeartbeats 8000000 in
set_option maxRecDepth 100000 in
theorem laws_FnExactEdCofactor.calls (k : Nat) (a0_0 : Int) (a0_1 : Int) (a0_2 : Int) (a0_3 : Int) (a0_4 : Int) (a1_0 : Int) (a1_1 : Int) (r : Bool) (w : World) (h : laws_FnExactEdCofactor.f k a0_0 a0_1 a0_2 a0_3 a0_4 a1_0 a1_1 = some r) :
  Calls Try.prog 13 #[.agg #[.int .i64 a0_0, .int .i64 a0_1, .int .i64 a0_2, .int .i64 a0_3, .int .i64 a0_4], .agg #[.int .i64 a1_0, .int .i64 a1_1]] w fun e w' => e = .returned (.bool r) ∧ Below w.heap.size w w' := by
 have hu35 := Try.underlying35; have hu47 := Try.underlying47; have hu49 := Try.underlying49; have HB := Aside0.mk (Below.refl w.heap.size w)
 have H : ((laws_toEd.f a0_0 a0_1 a0_2 a0_3 a0_4).bind fun bt219 => ((laws_toPair.f a1_0 a1_1).bind fun bt224 => ((spec_EdCofactor.f k bt219.1 bt219.2.1 bt219.2.2.1 bt219.2.2.2.1 bt219.2.2.2.2 bt224.1 bt224.2).bind fun bt226 => ((laws_toEd.f a0_0 a0_1 a0_2 a0_3 a0_4).bind fun bt230 => ((laws_toPair.f a1_0 a1_1).bind fun bt235 => ((impl_EdCofactor.f k bt230.1 bt230.2.1 bt230.2.2.1 bt230.2.2.2.1 bt230.2.2.2.2 bt235.1 bt235.2).bind fun bt237 => ((laws_eqPair.f bt237.1 bt237.2.1 bt226.1 bt226.2.1).bind fun t241 => (if t241 = true then (if (bt237.2.2 != bt226.2.2) = true then (some false) else (some true)) else (some false))))))))) = some r := h
 clear h; replace H := Option.bind_eq_some_iff.mp H; obtain ⟨⟨t219, t220, t221, t222, t223⟩, A30, H⟩ := H
 replace H : ((laws_toPair.f a1_0 a1_1).bind fun bt224 => ((spec_EdCofactor.f k t219 t220 t221 t222 t223 bt224.1 bt224.2).bind fun bt226 => ((laws_toEd.f a0_0 a0_1 a0_2 a0_3 a0_4).bind fun bt230 => ((laws_toPair.f a1_0 a1_1).bind fun bt235 => ((impl_EdCofactor.f k bt230.1 bt230.2.1 bt230.2.2.1 bt230.2.2.2.1 bt230.2.2.2.2 bt235.1 bt235.2).bind fun bt237 => ((laws_eqPair.f bt237.1 bt237.2.1 bt226.1 bt226.2.1).bind fun t241 => (if t241 = true then (if (bt237.2.2 != bt226.2.2) = true then (some false) else (some true)) else (some false)))))))) = some r := H
 have A3 := Aside0.mk A30; clear A30; replace H := Option.bind_eq_some_iff.mp H; obtain ⟨⟨t224, t225⟩, A40, H⟩ := H
 replace H : ((spec_EdCofactor.f k t219 t220 t221 t222 t223 t224 t225).bind fun bt226 => ((laws_toEd.f a0_0 a0_1 a0_2 a0_3 a0_4).bind fun bt230 => ((laws_toPair.f a1_0 a1_1).bind fun bt235 => ((impl_EdCofactor.f k bt230.1 bt230.2.1 bt230.2.2.1 bt230.2.2.2.1 bt230.2.2.2.2 bt235.1 bt235.2).bind fun bt237 => ((laws_eqPair.f bt237.1 bt237.2.1 bt226.1 bt226.2.1).bind fun t241 => (if t241 = true then (if (bt237.2.2 != bt226.2.2) = true then (some false) else (some true)) else (some false))))))) = some r := H
 have A4 := Aside0.mk A40; clear A40; replace H := Option.bind_eq_some_iff.mp H; obtain ⟨⟨t226, t227, t228⟩, A50, H⟩ := H
 replace H : ((laws_toEd.f a0_0 a0_1 a0_2 a0_3 a0_4).bind fun bt230 => ((laws_toPair.f a1_0 a1_1).bind fun bt235 => ((impl_EdCofactor.f k bt230.1 bt230.2.1 bt230.2.2.1 bt230.2.2.2.1 bt230.2.2.2.2 bt235.1 bt235.2).bind fun bt237 => ((laws_eqPair.f bt237.1 bt237.2.1 t226 t227).bind fun t241 => (if t241 = true then (if (bt237.2.2 != t228) = true then (some false) else (some true)) else (some false)))))) = some r := H
 have A5 := Aside0.mk A50; clear A50; replace H := Option.bind_eq_some_iff.mp H; obtain ⟨⟨t230, t231, t232, t233, t234⟩, A60, H⟩ := H
 replace H : ((laws_toPair.f a1_0 a1_1).bind fun bt235 => ((impl_EdCofactor.f k t230 t231 t232 t233 t234 bt235.1 bt235.2).bind fun bt237 => ((laws_eqPair.f bt237.1 bt237.2.1 t226 t227).bind fun t241 => (if t241 = true then (if (bt237.2.2 != t228) = true then (some false) else (some true)) else (some false))))) = some r := H
 have A6 := Aside0.mk A60; clear A60; replace H := Option.bind_eq_some_iff.mp H; obtain ⟨⟨t235, t236⟩, A70, H⟩ := H
 replace H : ((impl_EdCofactor.f k t230 t231 t232 t233 t234 t235 t236).bind fun bt237 => ((laws_eqPair.f bt237.1 bt237.2.1 t226 t227).bind fun t241 => (if t241 = true then (if (bt237.2.2 != t228) = true then (some false) else (some true)) else (some false)))) = some r := H
 have A7 := Aside0.mk A70; clear A70; replace H := Option.bind_eq_some_iff.mp H; obtain ⟨⟨t237, t238, t239⟩, A80, H⟩ := H
 replace H : ((laws_eqPair.f t237 t238 t226 t227).bind fun t241 => (if t241 = true then (if (t239 != t228) = true then (some false) else (some true)) else (some false))) = some r := H
 have A8 := Aside0.mk A80; clear A80; replace H := Option.bind_eq_some_iff.mp H; obtain ⟨t241, A90, H⟩ := H
 replace H : (if t241 = true then (if (t239 != t228) = true then (some false) else (some true)) else (some false)) = some r := H
 have A9 := Aside0.mk A90; clear A90
 by_cases c10 : t241 = true
 ·
  subst c10
  have H1 : (if (t239 != t228) = true then (some false) else (some true)) = some r := by rw [if_pos rfl] at H; exact H
  clear H; have H := H1; clear H1
  by_cases c11 : (t239 != t228) = true
  ·
   rw [if_pos c11] at H
   have c11b0 : (t239 != t228) = true := c11
   (try (have c11b1 : decide (t239 = t228) = false := by simpa using c11)); (try (have c11b2 : (t239 == t228) = false := by simpa using c11)); (try (have c11b3 : ¬ (t239 = t228) := by simpa using c11)); clear c11; obtain rfl := Option.some.inj H
   go_enter Try.func13, Try.ntmps13
   try go_wp2_with (first | ((with_reducible refine gate_dst (N := 2) rfl ?_); refine box_event ?hg (N := 2) ?hd (cs := #[.int .i64 a0_0, .int .i64 a0_1, .int .i64 a0_2, .int .i64 a0_3, .int .i64 a0_4]) (t := 35) ?hr ?_; (case hd => rfl); (case hg => rfl); (case hr => first | (go_simp; done) | (go_simp; rfl)); intro gb217 hg w12 hbox hb; have n0_ := bs_ HB hb; have n1_ := Aside0.mk hbox; have n2_ := ge_ HB hg; have n3_ := ge_ HB hg; clear HB; have HB := n0_; have BK217 := n1_; have GW217 := n2_; have GE217 := n3_; clear n0_ n1_ n2_ n3_; clear hb hbox hg) | ((with_reducible refine gate_dst (N := 3) rfl ?_); refine box_event ?hg (N := 3) ?hd (cs := #[.int .i64 a1_0, .int .i64 a1_1]) (t := 47) ?hr ?_; (case hd => rfl); (case hg => rfl); (case hr => first | (go_simp; done) | (go_simp; rfl)); intro gb218 hg w13 hbox hb; have n0_ := bb_ BK217 hb; have n1_ := bs_ HB hb; have n2_ := Aside0.mk hbox; have n3_ := ge_ HB hg; have n4_ := ge_ HB hg; have n5_ := nl_ BK217 hg; have n6_ := nr_ BK217 hg; clear BK217; clear HB; have BK217 := n0_; have HB := n1_; have BK218 := n2_; have GW218 := n3_; have GE218 := n4_; have NB217_218 := n5_; have NB218_217 := n6_; clear n0_ n1_ n2_ n3_ n4_ n5_ n6_; clear hb hbox hg))
   replace BK217 := Aside0.mk (blk_drew BK217.out); replace BK218 := Aside0.mk (blk_drew BK218.out); replace HB := Aside0.mk (below_drew1 HB.out); refine start_ (n := 11) (S := fun w' => w'.cell? ⟨gb217, 0, none⟩ = some (.int .i64 a0_0) ∧ w'.cell? ⟨gb217, 1, none⟩ = some (.int .i64 a0_1) ∧ w'.cell? ⟨gb217, 2, none⟩ = some (.int .i64 a0_2) ∧ w'.cell? ⟨gb217, 3, none⟩ = some (.int .i64 a0_3) ∧ w'.cell? ⟨gb217, 4, none⟩ = some (.int .i64 a0_4) ∧ w'.cell? ⟨gb218, 0, none⟩ = some (.int .i64 a1_0) ∧ w'.cell? ⟨gb218, 1, none⟩ = some (.int .i64 a1_1)) (ds := []) #[false,false,false,false,false,false,false,false,false,false,false] (by kernel_rfl) rfl rfl ⟨bc_ BK217 0, bc_ BK217 1, bc_ BK217 2, bc_ BK217 3, bc_ BK217 4, bc_ BK218 0, bc_ BK218 1⟩ (fun hHeld => ?_); refine with_tabW laws_FnExactEdCofactor.tab1 laws_FnExactEdCofactor.bits1 (fun HT_ HW_ => ?_)
   generalize w13.drew = w14 at BK217 BK218 HB hHeld ⊢
   refine take_ (i := 0) (N := some 10) (v := ?_) (a' := ?_) #[true,false,false,false,false,false,false,false,false,false,false] rfl rfl (take_ofW HT_.out HW_.out (by kernel_rfl)) (fun _ _ _ h => h) (Or.inl ⟨by rfl, ?_⟩) hHeld ?_ ?_; rotate_left
   ·
    rintro w' ⟨s0, s1, s2, s3, s4, s5, s6⟩; go_simp
    with_reducible rfl
   rotate_left
   · simp only [Act.put, sA_, sZ_, sS_, i64_w, i32_w]; rfl
   refine take_ (i := 2) (N := some 12) (v := ?_) (a' := ?_) #[true,false,true,false,false,false,false,false,false,false,false] rfl rfl (take_ofW HT_.out HW_.out (by kernel_rfl)) (fun _ _ _ h => h) (Or.inl ⟨by rfl, ?_⟩) hHeld ?_ ?_; rotate_left
   ·
    rintro w' ⟨s0, s1, s2, s3, s4, s5, s6⟩; go_simp
    with_reducible rfl
   rotate_left
   · simp only [Act.put, sA_, sZ_, sS_, i64_w, i32_w]; rfl
   refine join_ (σ := Nat) 2 #[true,true,true,true,true,true,true,true,true,false,false] (fun s_ => [(11, .agg #[.int .i64 t219, .int .i64 t220, .int .i64 t221, .int .i64 t222, .int .i64 t223]), (13, .agg #[.int .i64 t224, .int .i64 t225]), (14, .tuple #[.agg #[.int .i64 t226, .int .i64 t227], .bool t228]), (5, .pointer (some ⟨s_, 0, none⟩)), (9, .tuple #[.agg #[.int .i64 t226, .int .i64 t227], .bool t228]), (15, .agg #[.int .i64 t226, .int .i64 t227]), (16, .bool t228)]) (fun s_ w' => (w'.cell? ⟨gb217, 0, none⟩ = some (.int .i64 a0_0) ∧ w'.cell? ⟨gb217, 1, none⟩ = some (.int .i64 a0_1) ∧ w'.cell? ⟨gb217, 2, none⟩ = some (.int .i64 a0_2) ∧ w'.cell? ⟨gb217, 3, none⟩ = some (.int .i64 a0_3) ∧ w'.cell? ⟨gb217, 4, none⟩ = some (.int .i64 a0_4) ∧ w'.cell? ⟨gb218, 0, none⟩ = some (.int .i64 a1_0) ∧ w'.cell? ⟨gb218, 1, none⟩ = some (.int .i64 a1_1)) ∧ (w'.heap[gb217]? = some (.cells #[.int .i64 a0_0, .int .i64 a0_1, .int .i64 a0_2, .int .i64 a0_3, .int .i64 a0_4] 35 (0, 0))) ∧ (w'.heap[gb218]? = some (.cells #[.int .i64 a1_0, .int .i64 a1_1] 47 (0, 0))) ∧ (w'.heap[s_]? = some (.cells #[.int .i64 0, .int .i64 0] 49 (0, 0))) ∧ (w.heap.size ≤ s_) ∧ (w.heap.size ≤ s_) ∧ (gb217 ≠ s_) ∧ (s_ ≠ gb217) ∧ (gb218 ≠ s_) ∧ (s_ ≠ gb218) ∧ (Below w.heap.size w w')) ?_ ?_; rotate_left
   ·
    intro hCont; refine two_ (i := 1) (j := 8) (Ni := some 11) (Nj := some 5) #[true,true,true,false,false,false,false,false,false,false,false] #[true,false,true,false,false,false,false,false,true,false,false] rfl rfl rfl rfl (two_of HT_.out (by kernel_rfl)) (by decide) (by decide) (fun K hK => ?_) (fun K hK => ?_)
    ·
     refine gs_ Try.func28 #[.agg #[.int .i64 a0_0, .int .i64 a0_1, .int .i64 a0_2, .int .i64 a0_3, .int .i64 a0_4]] ?_
     with_reducible refine (laws_toEd.calls a0_0 a0_1 a0_2 a0_3 a0_4 t219 t220 t221 t222 t223 _ A3.out).mono ?_
     rintro e w15 ⟨rfl, hb⟩; refine ⟨_, rfl, ?_⟩; replace BK217 := bb_ BK217 hb; replace BK218 := bb_ BK218 hb; replace HB := bs_ HB hb; (try clear hb); refine hK.out _ _ ⟨bc_ BK217 0, bc_ BK217 1, bc_ BK217 2, bc_ BK217 3, bc_ BK217 4, bc_ BK218 0, bc_ BK218 1⟩ (fun hHeld => ?_); clear hK K
     apply norm_
     · show Act.put _ (some 11) _ = _; simp only [Act.put, sA_, sZ_, sS_, i64_w, i32_w]; rfl
     refine two_ (i := 3) (j := 8) (Ni := some 13) (Nj := some 5) #[true,true,true,true,false,false,false,false,false,false,false] #[true,true,true,false,false,false,false,false,true,false,false] rfl rfl rfl rfl (two_of HT_.out (by kernel_rfl)) (by decide) (by decide) (fun K hK => ?_) (fun K hK => ?_)
     ·
      refine gs_ Try.func36 #[.agg #[.int .i64 a1_0, .int .i64 a1_1]] ?_
      with_reducible refine (laws_toPair.calls a1_0 a1_1 t224 t225 _ A4.out).mono ?_
      rintro e w16 ⟨rfl, hb⟩; refine ⟨_, rfl, ?_⟩; replace BK217 := bb_ BK217 hb; replace BK218 := bb_ BK218 hb; replace HB := bs_ HB hb; (try clear hb); refine hK.out _ _ ⟨bc_ BK217 0, bc_ BK217 1, bc_ BK217 2, bc_ BK217 3, bc_ BK217 4, bc_ BK218 0, bc_ BK218 1⟩ (fun hHeld => ?_); clear hK K
      apply norm_
      · show Act.put _ (some 13) _ = _; simp only [Act.put, sA_, sZ_, sS_, i64_w, i32_w]; rfl
      refine two_ (i := 4) (j := 8) (Ni := some 14) (Nj := some 5) #[true,true,true,true,true,false,false,false,false,false,false] #[true,true,true,true,false,false,false,false,true,false,false] rfl rfl rfl rfl (two_of HT_.out (by kernel_rfl)) (by decide) (by decide) (fun K hK => ?_) (fun K hK => ?_)
      ·
       refine gs_ Try.func46 #[.agg #[.int .i64 t219, .int .i64 t220, .int .i64 t221, .int .i64 t222, .int .i64 t223], .agg #[.int .i64 t224, .int .i64 t225]] ?_
       with_reducible refine (spec_EdCofactor.calls k t219 t220 t221 t222 t223 t224 t225 t226 t227 t228 _ A5.out).mono ?_
       rintro e w17 ⟨rfl, hb⟩; refine ⟨_, rfl, ?_⟩; replace BK217 := bb_ BK217 hb; replace BK218 := bb_ BK218 hb; replace HB := bs_ HB hb; (try clear hb); refine hK.out _ _ ⟨bc_ BK217 0, bc_ BK217 1, bc_ BK217 2, bc_ BK217 3, bc_ BK217 4, bc_ BK218 0, bc_ BK218 1⟩ (fun hHeld => ?_); clear hK K
       apply norm_
       · show Act.put _ (some 14) _ = _; simp only [Act.put, sA_, sZ_, sS_, i64_w, i32_w]; rfl
       refine pure_ (i := 5) (N := some 9) (v := ?_) (a' := ?_) #[true,true,true,true,true,true,false,false,false,false,false] rfl rfl (any_of HT_.out (by kernel_rfl)) (fun _ _ _ h => h) (Or.inl ⟨by rfl, ?_⟩) ?_ ?_; rotate_left
       ·
        intro w'; go_simp
        with_reducible rfl
       rotate_left
       · simp only [Act.put, sA_, sZ_, sS_, i64_w, i32_w]; rfl
       refine pure_ (i := 6) (N := some 15) (v := ?_) (a' := ?_) #[true,true,true,true,true,true,true,false,false,false,false] rfl rfl (any_of HT_.out (by kernel_rfl)) (fun _ _ _ h => h) (Or.inl ⟨by rfl, ?_⟩) ?_ ?_; rotate_left
       ·
        intro w'; go_simp
        with_reducible rfl
       rotate_left
       · simp only [Act.put, sA_, sZ_, sS_, i64_w, i32_w]; rfl
       refine pure_ (i := 7) (N := some 16) (v := ?_) (a' := ?_) #[true,true,true,true,true,true,true,true,false,false,false] rfl rfl (any_of HT_.out (by kernel_rfl)) (fun _ _ _ h => h) (Or.inl ⟨by rfl, ?_⟩) ?_ ?_; rotate_left
       ·
        intro w'; go_simp
        with_reducible rfl
       rotate_left
       · simp only [Act.put, sA_, sZ_, sS_, i64_w, i32_w]; rfl
       refine one_ (i := 8) (N := some 5) #[true,true,true,true,true,true,true,true,true,false,false] rfl rfl (one_of HT_.out (by kernel_rfl)) (by decide) (fun K hK => ?_); refine box_step ?hg (N := 5) ?hd (cs := #[.int .i64 0, .int .i64 0]) (t := 49) ?hr ?_; (case hd => rfl); (case hg => rfl); (case hr => first | (go_simp; done) | (go_simp; rfl))
       intro gb229 hg w18 hbox hb; have n0_ := bb_ BK217 hb; have n1_ := bb_ BK218 hb; have n2_ := bs_ HB hb; have n3_ := Aside0.mk hbox; have n4_ := ge_ HB hg; have n5_ := ge_ HB hg; have n6_ := nl_ BK217 hg; have n7_ := nr_ BK217 hg; have n8_ := nl_ BK218 hg; have n9_ := nr_ BK218 hg; clear BK217 BK218 HB; have BK217 := n0_; have BK218 := n1_; have HB := n2_; have BK229 := n3_; have GW229 := n4_; have GE229 := n5_; have NB217_229 := n6_; have NB229_217 := n7_; have NB218_229 := n8_; have NB229_218 := n9_; clear n0_ n1_ n2_ n3_ n4_ n5_ n6_ n7_ n8_ n9_; clear hb hbox hg; refine hK.out _ _ ⟨bc_ BK217 0, bc_ BK217 1, bc_ BK217 2, bc_ BK217 3, bc_ BK217 4, bc_ BK218 0, bc_ BK218 1⟩ (fun hHeld => ?_); clear hK K
       apply norm_
       · show Act.put _ (some 5) _ = _; simp only [Act.put, sA_, sZ_, sS_, i64_w, i32_w]; rfl
       exact norm_ (by simp only [putAll, Act.put, sA_, sZ_, sS_]) (hCont (gb229) _ ⟨hHeld, (bk_ BK217), (bk_ BK218), (bk_ BK229), GW229.out, GE229.out, NB217_229.out, NB229_217.out, NB218_229.out, NB229_218.out, (bw_ HB)⟩)
      ·
       refine box_step ?hg (N := 5) ?hd (cs := #[.int .i64 0, .int .i64 0]) (t := 49) ?hr ?_; (case hd => rfl); (case hg => rfl); (case hr => first | (go_simp; done) | (go_simp; rfl))
       intro gb229 hg w17 hbox hb; have n0_ := bb_ BK217 hb; have n1_ := bb_ BK218 hb; have n2_ := bs_ HB hb; have n3_ := Aside0.mk hbox; have n4_ := ge_ HB hg; have n5_ := ge_ HB hg; have n6_ := nl_ BK217 hg; have n7_ := nr_ BK217 hg; have n8_ := nl_ BK218 hg; have n9_ := nr_ BK218 hg; clear BK217 BK218 HB; have BK217 := n0_; have BK218 := n1_; have HB := n2_; have BK229 := n3_; have GW229 := n4_; have GE229 := n5_; have NB217_229 := n6_; have NB229_217 := n7_; have NB218_229 := n8_; have NB229_218 := n9_; clear n0_ n1_ n2_ n3_ n4_ n5_ n6_ n7_ n8_ n9_; clear hb hbox hg; refine hK.out _ _ ⟨bc_ BK217 0, bc_ BK217 1, bc_ BK217 2, bc_ BK217 3, bc_ BK217 4, bc_ BK218 0, bc_ BK218 1⟩ (fun hHeld => ?_); clear hK K
       apply norm_
       · show Act.put _ (some 5) _ = _; simp only [Act.put, sA_, sZ_, sS_, i64_w, i32_w]; rfl
       refine one_ (i := 4) (N := some 14) #[true,true,true,true,true,false,false,false,true,false,false] rfl rfl (one_of HT_.out (by kernel_rfl)) (by decide) (fun K hK => ?_); refine gs_ Try.func46 #[.agg #[.int .i64 t219, .int .i64 t220, .int .i64 t221, .int .i64 t222, .int .i64 t223], .agg #[.int .i64 t224, .int .i64 t225]] ?_
       with_reducible refine (spec_EdCofactor.calls k t219 t220 t221 t222 t223 t224 t225 t226 t227 t228 _ A5.out).mono ?_
       rintro e w18 ⟨rfl, hb⟩; refine ⟨_, rfl, ?_⟩; replace BK217 := bb_ BK217 hb; replace BK218 := bb_ BK218 hb; replace BK229 := bb_ BK229 hb; replace HB := bs_ HB hb; (try clear hb); refine hK.out _ _ ⟨bc_ BK217 0, bc_ BK217 1, bc_ BK217 2, bc_ BK217 3, bc_ BK217 4, bc_ BK218 0, bc_ BK218 1⟩ (fun hHeld => ?_); clear hK K
       apply norm_
       · show Act.put _ (some 14) _ = _; simp only [Act.put, sA_, sZ_, sS_, i64_w, i32_w]; rfl
       refine pure_ (i := 5) (N := some 9) (v := ?_) (a' := ?_) #[true,true,true,true,true,true,false,false,true,false,false] rfl rfl (any_of HT_.out (by kernel_rfl)) (fun _ _ _ h => h) (Or.inl ⟨by rfl, ?_⟩) ?_ ?_; rotate_left
       ·
        intro w'; go_simp
        with_reducible rfl
       rotate_left
       · simp only [Act.put, sA_, sZ_, sS_, i64_w, i32_w]; rfl
       refine pure_ (i := 6) (N := some 15) (v := ?_) (a' := ?_) #[true,true,true,true,true,true,true,false,true,false,false] rfl rfl (any_of HT_.out (by kernel_rfl)) (fun _ _ _ h => h) (Or.inl ⟨by rfl, ?_⟩) ?_ ?_; rotate_left
       ·
        intro w'; go_simp
        with_reducible rfl
       rotate_left
       · simp only [Act.put, sA_, sZ_, sS_, i64_w, i32_w]; rfl
       refine pure_ (i := 7) (N := some 16) (v := ?_) (a' := ?_) #[true,true,true,true,true,true,true,true,true,false,false] rfl rfl (any_of HT_.out (by kernel_rfl)) (fun _ _ _ h => h) (Or.inl ⟨by rfl, ?_⟩) ?_ ?_; rotate_left
       ·
        intro w'; go_simp
        with_reducible rfl
       rotate_left
       · simp only [Act.put, sA_, sZ_, sS_, i64_w, i32_w]; rfl
       exact norm_ (by simp only [putAll, Act.put, sA_, sZ_, sS_]) (hCont (gb229) _ ⟨hHeld, (bk_ BK217), (bk_ BK218), (bk_ BK229), GW229.out, GE229.out, NB217_229.out, NB229_217.out, NB218_229.out, NB229_218.out, (bw_ HB)⟩)
     ·
      refine box_step ?hg (N := 5) ?hd (cs := #[.int .i64 0, .int .i64 0]) (t := 49) ?hr ?_; (case hd => rfl); (case hg => rfl); (case hr => first | (go_simp; done) | (go_simp; rfl))
      intro gb229 hg w16 hbox hb; have n0_ := bb_ BK217 hb; have n1_ := bb_ BK218 hb; have n2_ := bs_ HB hb; have n3_ := Aside0.mk hbox; have n4_ := ge_ HB hg; have n5_ := ge_ HB hg; have n6_ := nl_ BK217 hg; have n7_ := nr_ BK217 hg; have n8_ := nl_ BK218 hg; have n9_ := nr_ BK218 hg; clear BK217 BK218 HB; have BK217 := n0_; have BK218 := n1_; have HB := n2_; have BK229 := n3_; have GW229 := n4_; have GE229 := n5_; have NB217_229 := n6_; have NB229_217 := n7_; have NB218_229 := n8_; have NB229_218 := n9_; clear n0_ n1_ n2_ n3_ n4_ n5_ n6_ n7_ n8_ n9_; clear hb hbox hg; refine hK.out _ _ ⟨bc_ BK217 0, bc_ BK217 1, bc_ BK217 2, bc_ BK217 3, bc_ BK217 4, bc_ BK218 0, bc_ BK218 1⟩ (fun hHeld => ?_); clear hK K
      apply norm_
      · show Act.put _ (some 5) _ = _; simp only [Act.put, sA_, sZ_, sS_, i64_w, i32_w]; rfl
      refine one_ (i := 3) (N := some 13) #[true,true,true,true,false,false,false,false,true,false,false] rfl rfl (one_of HT_.out (by kernel_rfl)) (by decide) (fun K hK => ?_); refine gs_ Try.func36 #[.agg #[.int .i64 a1_0, .int .i64 a1_1]] ?_
      with_reducible refine (laws_toPair.calls a1_0 a1_1 t224 t225 _ A4.out).mono ?_
      rintro e w17 ⟨rfl, hb⟩; refine ⟨_, rfl, ?_⟩; replace BK217 := bb_ BK217 hb; replace BK218 := bb_ BK218 hb; replace BK229 := bb_ BK229 hb; replace HB := bs_ HB hb; (try clear hb); refine hK.out _ _ ⟨bc_ BK217 0, bc_ BK217 1, bc_ BK217 2, bc_ BK217 3, bc_ BK217 4, bc_ BK218 0, bc_ BK218 1⟩ (fun hHeld => ?_); clear hK K
      apply norm_
      · show Act.put _ (some 13) _ = _; simp only [Act.put, sA_, sZ_, sS_, i64_w, i32_w]; rfl
      refine one_ (i := 4) (N := some 14) #[true,true,true,true,true,false,false,false,true,false,false] rfl rfl (one_of HT_.out (by kernel_rfl)) (by decide) (fun K hK => ?_); refine gs_ Try.func46 #[.agg #[.int .i64 t219, .int .i64 t220, .int .i64 t221, .int .i64 t222, .int .i64 t223], .agg #[.int .i64 t224, .int .i64 t225]] ?_
      with_reducible refine (spec_EdCofactor.calls k t219 t220 t221 t222 t223 t224 t225 t226 t227 t228 _ A5.out).mono ?_
      rintro e w18 ⟨rfl, hb⟩; refine ⟨_, rfl, ?_⟩; replace BK217 := bb_ BK217 hb; replace BK218 := bb_ BK218 hb; replace BK229 := bb_ BK229 hb; replace HB := bs_ HB hb; (try clear hb); refine hK.out _ _ ⟨bc_ BK217 0, bc_ BK217 1, bc_ BK217 2, bc_ BK217 3, bc_ BK217 4, bc_ BK218 0, bc_ BK218 1⟩ (fun hHeld => ?_); clear hK K
      apply norm_
      · show Act.put _ (some 14) _ = _; simp only [Act.put, sA_, sZ_, sS_, i64_w, i32_w]; rfl
      refine pure_ (i := 5) (N := some 9) (v := ?_) (a' := ?_) #[true,true,true,true,true,true,false,false,true,false,false] rfl rfl (any_of HT_.out (by kernel_rfl)) (fun _ _ _ h => h) (Or.inl ⟨by rfl, ?_⟩) ?_ ?_; rotate_left
      ·
       intro w'; go_simp
       with_reducible rfl
      rotate_left
      · simp only [Act.put, sA_, sZ_, sS_, i64_w, i32_w]; rfl
      refine pure_ (i := 6) (N := some 15) (v := ?_) (a' := ?_) #[true,true,true,true,true,true,true,false,true,false,false] rfl rfl (any_of HT_.out (by kernel_rfl)) (fun _ _ _ h => h) (Or.inl ⟨by rfl, ?_⟩) ?_ ?_; rotate_left
      ·
       intro w'; go_simp
       with_reducible rfl
      rotate_left
      · simp only [Act.put, sA_, sZ_, sS_, i64_w, i32_w]; rfl
      refine pure_ (i := 7) (N := some 16) (v := ?_) (a' := ?_) #[true,true,true,true,true,true,true,true,true,false,false] rfl rfl (any_of HT_.out (by kernel_rfl)) (fun _ _ _ h => h) (Or.inl ⟨by rfl, ?_⟩) ?_ ?_; rotate_left
      ·
       intro w'; go_simp
       with_reducible rfl
      rotate_left
      · simp only [Act.put, sA_, sZ_, sS_, i64_w, i32_w]; rfl
      exact norm_ (by simp only [putAll, Act.put, sA_, sZ_, sS_]) (hCont (gb229) _ ⟨hHeld, (bk_ BK217), (bk_ BK218), (bk_ BK229), GW229.out, GE229.out, NB217_229.out, NB229_217.out, NB218_229.out, NB229_218.out, (bw_ HB)⟩)
    ·
     refine box_step ?hg (N := 5) ?hd (cs := #[.int .i64 0, .int .i64 0]) (t := 49) ?hr ?_; (case hd => rfl); (case hg => rfl); (case hr => first | (go_simp; done) | (go_simp; rfl))
     intro gb229 hg w15 hbox hb; have n0_ := bb_ BK217 hb; have n1_ := bb_ BK218 hb; have n2_ := bs_ HB hb; have n3_ := Aside0.mk hbox; have n4_ := ge_ HB hg; have n5_ := ge_ HB hg; have n6_ := nl_ BK217 hg; have n7_ := nr_ BK217 hg; have n8_ := nl_ BK218 hg; have n9_ := nr_ BK218 hg; clear BK217 BK218 HB; have BK217 := n0_; have BK218 := n1_; have HB := n2_; have BK229 := n3_; have GW229 := n4_; have GE229 := n5_; have NB217_229 := n6_; have NB229_217 := n7_; have NB218_229 := n8_; have NB229_218 := n9_; clear n0_ n1_ n2_ n3_ n4_ n5_ n6_ n7_ n8_ n9_; clear hb hbox hg; refine hK.out _ _ ⟨bc_ BK217 0, bc_ BK217 1, bc_ BK217 2, bc_ BK217 3, bc_ BK217 4, bc_ BK218 0, bc_ BK218 1⟩ (fun hHeld => ?_); clear hK K
     apply norm_
     · show Act.put _ (some 5) _ = _; simp only [Act.put, sA_, sZ_, sS_, i64_w, i32_w]; rfl
     refine one_ (i := 1) (N := some 11) #[true,true,true,false,false,false,false,false,true,false,false] rfl rfl (one_of HT_.out (by kernel_rfl)) (by decide) (fun K hK => ?_); refine gs_ Try.func28 #[.agg #[.int .i64 a0_0, .int .i64 a0_1, .int .i64 a0_2, .int .i64 a0_3, .int .i64 a0_4]] ?_
     with_reducible refine (laws_toEd.calls a0_0 a0_1 a0_2 a0_3 a0_4 t219 t220 t221 t222 t223 _ A3.out).mono ?_
     rintro e w16 ⟨rfl, hb⟩; refine ⟨_, rfl, ?_⟩; replace BK217 := bb_ BK217 hb; replace BK218 := bb_ BK218 hb; replace BK229 := bb_ BK229 hb; replace HB := bs_ HB hb; (try clear hb); refine hK.out _ _ ⟨bc_ BK217 0, bc_ BK217 1, bc_ BK217 2, bc_ BK217 3, bc_ BK217 4, bc_ BK218 0, bc_ BK218 1⟩ (fun hHeld => ?_); clear hK K
     apply norm_
     · show Act.put _ (some 11) _ = _; simp only [Act.put, sA_, sZ_, sS_, i64_w, i32_w]; rfl
     refine one_ (i := 3) (N := some 13) #[true,true,true,true,false,false,false,false,true,false,false] rfl rfl (one_of HT_.out (by kernel_rfl)) (by decide) (fun K hK => ?_); refine gs_ Try.func36 #[.agg #[.int .i64 a1_0, .int .i64 a1_1]] ?_
     with_reducible refine (laws_toPair.calls a1_0 a1_1 t224 t225 _ A4.out).mono ?_
     rintro e w17 ⟨rfl, hb⟩; refine ⟨_, rfl, ?_⟩; replace BK217 := bb_ BK217 hb; replace BK218 := bb_ BK218 hb; replace BK229 := bb_ BK229 hb; replace HB := bs_ HB hb; (try clear hb); refine hK.out _ _ ⟨bc_ BK217 0, bc_ BK217 1, bc_ BK217 2, bc_ BK217 3, bc_ BK217 4, bc_ BK218 0, bc_ BK218 1⟩ (fun hHeld => ?_); clear hK K
     apply norm_
     · show Act.put _ (some 13) _ = _; simp only [Act.put, sA_, sZ_, sS_, i64_w, i32_w]; rfl
     refine one_ (i := 4) (N := some 14) #[true,true,true,true,true,false,false,false,true,false,false] rfl rfl (one_of HT_.out (by kernel_rfl)) (by decide) (fun K hK => ?_); refine gs_ Try.func46 #[.agg #[.int .i64 t219, .int .i64 t220, .int .i64 t221, .int .i64 t222, .int .i64 t223], .agg #[.int .i64 t224, .int .i64 t225]] ?_
     with_reducible refine (spec_EdCofactor.calls k t219 t220 t221 t222 t223 t224 t225 t226 t227 t228 _ A5.out).mono ?_
     rintro e w18 ⟨rfl, hb⟩; refine ⟨_, rfl, ?_⟩; replace BK217 := bb_ BK217 hb; replace BK218 := bb_ BK218 hb; replace BK229 := bb_ BK229 hb; replace HB := bs_ HB hb; (try clear hb); refine hK.out _ _ ⟨bc_ BK217 0, bc_ BK217 1, bc_ BK217 2, bc_ BK217 3, bc_ BK217 4, bc_ BK218 0, bc_ BK218 1⟩ (fun hHeld => ?_); clear hK K
     apply norm_
     · show Act.put _ (some 14) _ = _; simp only [Act.put, sA_, sZ_, sS_, i64_w, i32_w]; rfl
     refine pure_ (i := 5) (N := some 9) (v := ?_) (a' := ?_) #[true,true,true,true,true,true,false,false,true,false,false] rfl rfl (any_of HT_.out (by kernel_rfl)) (fun _ _ _ h => h) (Or.inl ⟨by rfl, ?_⟩) ?_ ?_; rotate_left
     ·
      intro w'; go_simp
      with_reducible rfl
     rotate_left
     · simp only [Act.put, sA_, sZ_, sS_, i64_w, i32_w]; rfl
     refine pure_ (i := 6) (N := some 15) (v := ?_) (a' := ?_) #[true,true,true,true,true,true,true,false,true,false,false] rfl rfl (any_of HT_.out (by kernel_rfl)) (fun _ _ _ h => h) (Or.inl ⟨by rfl, ?_⟩) ?_ ?_; rotate_left
     ·
      intro w'; go_simp
      with_reducible rfl
     rotate_left
     · simp only [Act.put, sA_, sZ_, sS_, i64_w, i32_w]; rfl
     refine pure_ (i := 7) (N := some 16) (v := ?_) (a' := ?_) #[true,true,true,true,true,true,true,true,true,false,false] rfl rfl (any_of HT_.out (by kernel_rfl)) (fun _ _ _ h => h) (Or.inl ⟨by rfl, ?_⟩) ?_ ?_; rotate_left
     ·
      intro w'; go_simp
      with_reducible rfl
     rotate_left
     · simp only [Act.put, sA_, sZ_, sS_, i64_w, i32_w]; rfl
     exact norm_ (by simp only [putAll, Act.put, sA_, sZ_, sS_]) (hCont (gb229) _ ⟨hHeld, (bk_ BK217), (bk_ BK218), (bk_ BK229), GW229.out, GE229.out, NB217_229.out, NB229_217.out, NB218_229.out, NB229_218.out, (bw_ HB)⟩)
   rintro gb229 w19 ⟨hS_, h0_, h1_, h2_, h3_, h4_, h5_, h6_, h7_, h8_, h9_⟩; replace BK217 := Aside0.mk h0_; replace BK218 := Aside0.mk h1_; have BK229 := Aside0.mk h2_; have GW229 := Aside0.mk h3_; have GE229 := Aside0.mk h4_; have NB217_229 := Aside0.mk h5_; have NB229_217 := Aside0.mk h6_; have NB218_229 := Aside0.mk h7_; have NB229_218 := Aside0.mk h8_; replace HB := Aside0.mk h9_; clear h0_ h1_ h2_ h3_ h4_ h5_ h6_ h7_ h8_ h9_; have hHeld := hS_
   apply norm_
   · simp only [putAll, Act.put, sA_, sZ_, sS_]; rfl
   refine one_ (i := 9) (N := none) #[true,true,true,true,true,true,true,true,true,true,false] rfl rfl (one_of HT_.out (by kernel_rfl)) (by decide) (fun K hK => ?_)
   have hs20 : w19.cell? ⟨gb229, 0, none⟩ = some (.int .i64 0) := bc_ BK229 0
   have hfs20 := blk_frozen BK229.out 0; have hns20_0 := NB217_229.out; have hns20_1 := NB218_229.out; have hms20_0 := NB229_217.out; have hms20_1 := NB229_218.out
   have hs21 : w19.cell? ⟨gb229, 1, none⟩ = some (.int .i64 0) := bc_ BK229 1
   have hfs21 := blk_frozen BK229.out 1; have hns21_0 := NB217_229.out; have hns21_1 := NB218_229.out; have hms21_0 := NB229_217.out; have hms21_1 := NB229_218.out; refine skip_ (w1 := ?_) (by rfl) rfl ?_ ?_; rotate_left
   · go_simp; rfl
   refine hK.out _ _ ⟨((cell_far (p := ⟨gb229, _, none⟩) NB217_229.out _).trans (((cell_far (p := ⟨gb229, _, none⟩) NB217_229.out _).trans (hHeld.1)))), ((cell_far (p := ⟨gb229, _, none⟩) NB217_229.out _).trans (((cell_far (p := ⟨gb229, _, none⟩) NB217_229.out _).trans (hHeld.2.1)))), ((cell_far (p := ⟨gb229, _, none⟩) NB217_229.out _).trans (((cell_far (p := ⟨gb229, _, none⟩) NB217_229.out _).trans (hHeld.2.2.1)))), ((cell_far (p := ⟨gb229, _, none⟩) NB217_229.out _).trans (((cell_far (p := ⟨gb229, _, none⟩) NB217_229.out _).trans (hHeld.2.2.2.1)))), ((cell_far (p := ⟨gb229, _, none⟩) NB217_229.out _).trans (((cell_far (p := ⟨gb229, _, none⟩) NB217_229.out _).trans (hHeld.2.2.2.2.1)))), ((cell_far (p := ⟨gb229, _, none⟩) NB218_229.out _).trans (((cell_far (p := ⟨gb229, _, none⟩) NB218_229.out _).trans (hHeld.2.2.2.2.2.1)))), ((cell_far (p := ⟨gb229, _, none⟩) NB218_229.out _).trans (((cell_far (p := ⟨gb229, _, none⟩) NB218_229.out _).trans (hHeld.2.2.2.2.2.2))))⟩ (fun hHeld => ?_); clear hK K; refine pure_ (i := 10) (N := some 6) (v := ?_) (a' := ?_) #[true,true,true,true,true,true,true,true,true,true,true] rfl rfl (any_of HT_.out (by kernel_rfl)) (fun _ _ _ h => h) (Or.inl ⟨by rfl, ?_⟩) ?_ ?_; rotate_left
   ·
    intro w'; go_simp
    with_reducible rfl
   rotate_left
   · simp only [Act.put, sA_, sZ_, sS_, i64_w, i32_w]; rfl
   refine done_ (done_of HT_.out (by kernel_rfl)) ?_
   try go_wp2
   have n0_ : Aside0 (((w19.setCell ⟨gb229, 0, none⟩ (.int .i64 t226)).setCell ⟨gb229, 1, none⟩ (.int .i64 t227)).heap[gb217]? = some (.cells #[.int .i64 a0_0, .int .i64 a0_1, .int .i64 a0_2, .int .i64 a0_3, .int .i64 a0_4] 35 (0, 0))) := ⟨by (with_reducible repeat (first | refine blk_drewN ?_ _ | refine blk_drew ?_ | refine blk_alloc ?_ _)); refine blk_far ?_ NB217_229.out _; (with_reducible repeat (first | refine blk_drewN ?_ _ | refine blk_drew ?_ | refine blk_alloc ?_ _)); refine blk_far ?_ NB217_229.out _; (with_reducible repeat (first | refine blk_drewN ?_ _ | refine blk_drew ?_ | refine blk_alloc ?_ _)); exact BK217.out⟩
   have n1_ : Aside0 (((w19.setCell ⟨gb229, 0, none⟩ (.int .i64 t226)).setCell ⟨gb229, 1, none⟩ (.int .i64 t227)).heap[gb218]? = some (.cells #[.int .i64 a1_0, .int .i64 a1_1] 47 (0, 0))) := ⟨by (with_reducible repeat (first | refine blk_drewN ?_ _ | refine blk_drew ?_ | refine blk_alloc ?_ _)); refine blk_far ?_ NB218_229.out _; (with_reducible repeat (first | refine blk_drewN ?_ _ | refine blk_drew ?_ | refine blk_alloc ?_ _)); refine blk_far ?_ NB218_229.out _; (with_reducible repeat (first | refine blk_drewN ?_ _ | refine blk_drew ?_ | refine blk_alloc ?_ _)); exact BK218.out⟩
   have n2_ : Aside0 (((w19.setCell ⟨gb229, 0, none⟩ (.int .i64 t226)).setCell ⟨gb229, 1, none⟩ (.int .i64 t227)).heap[gb229]? = some (.cells #[.int .i64 t226, .int .i64 t227] 49 (0, 0))) := ⟨by (with_reducible repeat (first | refine blk_drewN ?_ _ | refine blk_drew ?_ | refine blk_alloc ?_ _)); refine blk_put (cs := #[.int .i64 t226, .int .i64 0]) ?_ 1 _ rfl; (with_reducible repeat (first | refine blk_drewN ?_ _ | refine blk_drew ?_ | refine blk_alloc ?_ _)); refine blk_put (cs := #[.int .i64 0, .int .i64 0]) ?_ 0 _ rfl; (with_reducible repeat (first | refine blk_drewN ?_ _ | refine blk_drew ?_ | refine blk_alloc ?_ _)); exact BK229.out⟩
   have n3_ : Aside0 (Below w.heap.size w ((w19.setCell ⟨gb229, 0, none⟩ (.int .i64 t226)).setCell ⟨gb229, 1, none⟩ (.int .i64 t227))) := ⟨by repeat (first | (with_reducible first | exact HB.out | apply below_alloc | apply pw_below_drewN | apply below_drew1 | refine below_set ?_ GE217.out | refine below_set ?_ GE218.out | refine below_set ?_ GE229.out) | exact HB.out)⟩
   (try clear BK217); (try clear BK218); (try clear BK229); (try clear HB)
   generalize ((w19.setCell ⟨gb229, 0, none⟩ (.int .i64 t226)).setCell ⟨gb229, 1, none⟩ (.int .i64 t227)) = w22 at n0_ n1_ n2_ n3_ ⊢
   have BK217 := n0_; have BK218 := n1_; have BK229 := n2_; have HB := n3_; clear n0_ n1_ n2_ n3_; replace BK217 := Aside0.mk (blk_drew BK217.out); replace BK218 := Aside0.mk (blk_drew BK218.out); replace BK229 := Aside0.mk (blk_drew BK229.out); replace HB := Aside0.mk (below_drew1 HB.out); refine start_ (n := 11) (S := fun w' => w'.cell? ⟨gb217, 0, none⟩ = some (.int .i64 a0_0) ∧ w'.cell? ⟨gb217, 1, none⟩ = some (.int .i64 a0_1) ∧ w'.cell? ⟨gb217, 2, none⟩ = some (.int .i64 a0_2) ∧ w'.cell? ⟨gb217, 3, none⟩ = some (.int .i64 a0_3) ∧ w'.cell? ⟨gb217, 4, none⟩ = some (.int .i64 a0_4) ∧ w'.cell? ⟨gb218, 0, none⟩ = some (.int .i64 a1_0) ∧ w'.cell? ⟨gb218, 1, none⟩ = some (.int .i64 a1_1)) (ds := []) #[false,false,false,false,false,false,false,false,false,false,false] (by kernel_rfl) rfl rfl ⟨bc_ BK217 0, bc_ BK217 1, bc_ BK217 2, bc_ BK217 3, bc_ BK217 4, bc_ BK218 0, bc_ BK218 1⟩ (fun hHeld => ?_); refine with_tabW laws_FnExactEdCofactor.tab2 laws_FnExactEdCofactor.bits2 (fun HT_ HW_ => ?_)
   generalize w22.drew = w23 at BK217 BK218 BK229 HB hHeld ⊢
   refine take_ (i := 0) (N := some 18) (v := ?_) (a' := ?_) #[true,false,false,false,false,false,false,false,false,false,false] rfl rfl (take_ofW HT_.out HW_.out (by kernel_rfl)) (fun _ _ _ h => h) (Or.inl ⟨by rfl, ?_⟩) hHeld ?_ ?_; rotate_left
   ·
    rintro w' ⟨s0, s1, s2, s3, s4, s5, s6⟩; go_simp
    with_reducible rfl
   rotate_left
   · simp only [Act.put, sA_, sZ_, sS_, i64_w, i32_w]; rfl
   refine take_ (i := 2) (N := some 20) (v := ?_) (a' := ?_) #[true,false,true,false,false,false,false,false,false,false,false] rfl rfl (take_ofW HT_.out HW_.out (by kernel_rfl)) (fun _ _ _ h => h) (Or.inl ⟨by rfl, ?_⟩) hHeld ?_ ?_; rotate_left
   ·
    rintro w' ⟨s0, s1, s2, s3, s4, s5, s6⟩; go_simp
    with_reducible rfl
   rotate_left
   · simp only [Act.put, sA_, sZ_, sS_, i64_w, i32_w]; rfl
   refine join_ (σ := Nat) 2 #[true,true,true,true,true,true,true,true,true,false,false] (fun s_ => [(19, .agg #[.int .i64 t230, .int .i64 t231, .int .i64 t232, .int .i64 t233, .int .i64 t234]), (21, .agg #[.int .i64 t235, .int .i64 t236]), (22, .tuple #[.agg #[.int .i64 t237, .int .i64 t238], .bool t239]), (7, .pointer (some ⟨s_, 0, none⟩)), (17, .tuple #[.agg #[.int .i64 t237, .int .i64 t238], .bool t239]), (23, .agg #[.int .i64 t237, .int .i64 t238]), (24, .bool t239)]) (fun s_ w' => (w'.cell? ⟨gb217, 0, none⟩ = some (.int .i64 a0_0) ∧ w'.cell? ⟨gb217, 1, none⟩ = some (.int .i64 a0_1) ∧ w'.cell? ⟨gb217, 2, none⟩ = some (.int .i64 a0_2) ∧ w'.cell? ⟨gb217, 3, none⟩ = some (.int .i64 a0_3) ∧ w'.cell? ⟨gb217, 4, none⟩ = some (.int .i64 a0_4) ∧ w'.cell? ⟨gb218, 0, none⟩ = some (.int .i64 a1_0) ∧ w'.cell? ⟨gb218, 1, none⟩ = some (.int .i64 a1_1)) ∧ (w'.heap[gb217]? = some (.cells #[.int .i64 a0_0, .int .i64 a0_1, .int .i64 a0_2, .int .i64 a0_3, .int .i64 a0_4] 35 (0, 0))) ∧ (w'.heap[gb218]? = some (.cells #[.int .i64 a1_0, .int .i64 a1_1] 47 (0, 0))) ∧ (w'.heap[gb229]? = some (.cells #[.int .i64 t226, .int .i64 t227] 49 (0, 0))) ∧ (w'.heap[s_]? = some (.cells #[.int .i64 0, .int .i64 0] 49 (0, 0))) ∧ (w.heap.size ≤ s_) ∧ (w.heap.size ≤ s_) ∧ (gb217 ≠ s_) ∧ (s_ ≠ gb217) ∧ (gb218 ≠ s_) ∧ (s_ ≠ gb218) ∧ (gb229 ≠ s_) ∧ (s_ ≠ gb229) ∧ (Below w.heap.size w w')) ?_ ?_; rotate_left
   ·
    intro hCont; refine two_ (i := 1) (j := 8) (Ni := some 19) (Nj := some 7) #[true,true,true,false,false,false,false,false,false,false,false] #[true,false,true,false,false,false,false,false,true,false,false] rfl rfl rfl rfl (two_of HT_.out (by kernel_rfl)) (by decide) (by decide) (fun K hK => ?_) (fun K hK => ?_)
    ·
     refine gs_ Try.func28 #[.agg #[.int .i64 a0_0, .int .i64 a0_1, .int .i64 a0_2, .int .i64 a0_3, .int .i64 a0_4]] ?_
     with_reducible refine (laws_toEd.calls a0_0 a0_1 a0_2 a0_3 a0_4 t230 t231 t232 t233 t234 _ A6.out).mono ?_
     rintro e w24 ⟨rfl, hb⟩; refine ⟨_, rfl, ?_⟩; replace BK217 := bb_ BK217 hb; replace BK218 := bb_ BK218 hb; replace BK229 := bb_ BK229 hb; replace HB := bs_ HB hb; (try clear hb); refine hK.out _ _ ⟨bc_ BK217 0, bc_ BK217 1, bc_ BK217 2, bc_ BK217 3, bc_ BK217 4, bc_ BK218 0, bc_ BK218 1⟩ (fun hHeld => ?_); clear hK K
     apply norm_
     · show Act.put _ (some 19) _ = _; simp only [Act.put, sA_, sZ_, sS_, i64_w, i32_w]; rfl
     refine two_ (i := 3) (j := 8) (Ni := some 21) (Nj := some 7) #[true,true,true,true,false,false,false,false,false,false,false] #[true,true,true,false,false,false,false,false,true,false,false] rfl rfl rfl rfl (two_of HT_.out (by kernel_rfl)) (by decide) (by decide) (fun K hK => ?_) (fun K hK => ?_)
     ·
      refine gs_ Try.func36 #[.agg #[.int .i64 a1_0, .int .i64 a1_1]] ?_
      with_reducible refine (laws_toPair.calls a1_0 a1_1 t235 t236 _ A7.out).mono ?_
      rintro e w25 ⟨rfl, hb⟩; refine ⟨_, rfl, ?_⟩; replace BK217 := bb_ BK217 hb; replace BK218 := bb_ BK218 hb; replace BK229 := bb_ BK229 hb; replace HB := bs_ HB hb; (try clear hb); refine hK.out _ _ ⟨bc_ BK217 0, bc_ BK217 1, bc_ BK217 2, bc_ BK217 3, bc_ BK217 4, bc_ BK218 0, bc_ BK218 1⟩ (fun hHeld => ?_); clear hK K
      apply norm_
      · show Act.put _ (some 21) _ = _; simp only [Act.put, sA_, sZ_, sS_, i64_w, i32_w]; rfl
      refine two_ (i := 4) (j := 8) (Ni := some 22) (Nj := some 7) #[true,true,true,true,true,false,false,false,false,false,false] #[true,true,true,true,false,false,false,false,true,false,false] rfl rfl rfl rfl (two_of HT_.out (by kernel_rfl)) (by decide) (by decide) (fun K hK => ?_) (fun K hK => ?_)
      ·
       refine gs_ Try.func47 #[.agg #[.int .i64 t230, .int .i64 t231, .int .i64 t232, .int .i64 t233, .int .i64 t234], .agg #[.int .i64 t235, .int .i64 t236]] ?_
       with_reducible refine (impl_EdCofactor.calls k t230 t231 t232 t233 t234 t235 t236 t237 t238 t239 _ A8.out).mono ?_
       rintro e w26 ⟨rfl, hb⟩; refine ⟨_, rfl, ?_⟩; replace BK217 := bb_ BK217 hb; replace BK218 := bb_ BK218 hb; replace BK229 := bb_ BK229 hb; replace HB := bs_ HB hb; (try clear hb); refine hK.out _ _ ⟨bc_ BK217 0, bc_ BK217 1, bc_ BK217 2, bc_ BK217 3, bc_ BK217 4, bc_ BK218 0, bc_ BK218 1⟩ (fun hHeld => ?_); clear hK K
       apply norm_
       · show Act.put _ (some 22) _ = _; simp only [Act.put, sA_, sZ_, sS_, i64_w, i32_w]; rfl
       refine pure_ (i := 5) (N := some 17) (v := ?_) (a' := ?_) #[true,true,true,true,true,true,false,false,false,false,false] rfl rfl (any_of HT_.out (by kernel_rfl)) (fun _ _ _ h => h) (Or.inl ⟨by rfl, ?_⟩) ?_ ?_; rotate_left
       ·
        intro w'; go_simp
        with_reducible rfl
       rotate_left
       · simp only [Act.put, sA_, sZ_, sS_, i64_w, i32_w]; rfl
       refine pure_ (i := 6) (N := some 23) (v := ?_) (a' := ?_) #[true,true,true,true,true,true,true,false,false,false,false] rfl rfl (any_of HT_.out (by kernel_rfl)) (fun _ _ _ h => h) (Or.inl ⟨by rfl, ?_⟩) ?_ ?_; rotate_left
       ·
        intro w'; go_simp
        with_reducible rfl
       rotate_left
       · simp only [Act.put, sA_, sZ_, sS_, i64_w, i32_w]; rfl
       refine pure_ (i := 7) (N := some 24) (v := ?_) (a' := ?_) #[true,true,true,true,true,true,true,true,false,false,false] rfl rfl (any_of HT_.out (by kernel_rfl)) (fun _ _ _ h => h) (Or.inl ⟨by rfl, ?_⟩) ?_ ?_; rotate_left
       ·
        intro w'; go_simp
        with_reducible rfl
       rotate_left
       · simp only [Act.put, sA_, sZ_, sS_, i64_w, i32_w]; rfl
       refine one_ (i := 8) (N := some 7) #[true,true,true,true,true,true,true,true,true,false,false] rfl rfl (one_of HT_.out (by kernel_rfl)) (by decide) (fun K hK => ?_); refine box_step ?hg (N := 7) ?hd (cs := #[.int .i64 0, .int .i64 0]) (t := 49) ?hr ?_; (case hd => rfl); (case hg => rfl); (case hr => first | (go_simp; done) | (go_simp; rfl))
       intro gb240 hg w27 hbox hb; have n0_ := bb_ BK217 hb; have n1_ := bb_ BK218 hb; have n2_ := bb_ BK229 hb; have n3_ := bs_ HB hb; have n4_ := Aside0.mk hbox; have n5_ := ge_ HB hg; have n6_ := ge_ HB hg; have n7_ := nl_ BK217 hg; have n8_ := nr_ BK217 hg; have n9_ := nl_ BK218 hg; have n10_ := nr_ BK218 hg; have n11_ := nl_ BK229 hg; have n12_ := nr_ BK229 hg; clear BK217 BK218 BK229 HB; have BK217 := n0_; have BK218 := n1_; have BK229 := n2_; have HB := n3_; have BK240 := n4_; have GW240 := n5_; have GE240 := n6_; have NB217_240 := n7_; have NB240_217 := n8_; have NB218_240 := n9_; have NB240_218 := n10_; have NB229_240 := n11_; have NB240_229 := n12_; clear n0_ n1_ n2_ n3_ n4_ n5_ n6_ n7_ n8_ n9_ n10_ n11_ n12_; clear hb hbox hg; refine hK.out _ _ ⟨bc_ BK217 0, bc_ BK217 1, bc_ BK217 2, bc_ BK217 3, bc_ BK217 4, bc_ BK218 0, bc_ BK218 1⟩ (fun hHeld => ?_); clear hK K
       apply norm_
       · show Act.put _ (some 7) _ = _; simp only [Act.put, sA_, sZ_, sS_, i64_w, i32_w]; rfl
       exact norm_ (by simp only [putAll, Act.put, sA_, sZ_, sS_]) (hCont (gb240) _ ⟨hHeld, (bk_ BK217), (bk_ BK218), (bk_ BK229), (bk_ BK240), GW240.out, GE240.out, NB217_240.out, NB240_217.out, NB218_240.out, NB240_218.out, NB229_240.out, NB240_229.out, (bw_ HB)⟩)
      ·
       refine box_step ?hg (N := 7) ?hd (cs := #[.int .i64 0, .int .i64 0]) (t := 49) ?hr ?_; (case hd => rfl); (case hg => rfl); (case hr => first | (go_simp; done) | (go_simp; rfl))
       intro gb240 hg w26 hbox hb; have n0_ := bb_ BK217 hb; have n1_ := bb_ BK218 hb; have n2_ := bb_ BK229 hb; have n3_ := bs_ HB hb; have n4_ := Aside0.mk hbox; have n5_ := ge_ HB hg; have n6_ := ge_ HB hg; have n7_ := nl_ BK217 hg; have n8_ := nr_ BK217 hg; have n9_ := nl_ BK218 hg; have n10_ := nr_ BK218 hg; have n11_ := nl_ BK229 hg; have n12_ := nr_ BK229 hg; clear BK217 BK218 BK229 HB; have BK217 := n0_; have BK218 := n1_; have BK229 := n2_; have HB := n3_; have BK240 := n4_; have GW240 := n5_; have GE240 := n6_; have NB217_240 := n7_; have NB240_217 := n8_; have NB218_240 := n9_; have NB240_218 := n10_; have NB229_240 := n11_; have NB240_229 := n12_; clear n0_ n1_ n2_ n3_ n4_ n5_ n6_ n7_ n8_ n9_ n10_ n11_ n12_; clear hb hbox hg; refine hK.out _ _ ⟨bc_ BK217 0, bc_ BK217 1, bc_ BK217 2, bc_ BK217 3, bc_ BK217 4, bc_ BK218 0, bc_ BK218 1⟩ (fun hHeld => ?_); clear hK K
       apply norm_
       · show Act.put _ (some 7) _ = _; simp only [Act.put, sA_, sZ_, sS_, i64_w, i32_w]; rfl
       refine one_ (i := 4) (N := some 22) #[true,true,true,true,true,false,false,false,true,false,false] rfl rfl (one_of HT_.out (by kernel_rfl)) (by decide) (fun K hK => ?_); refine gs_ Try.func47 #[.agg #[.int .i64 t230, .int .i64 t231, .int .i64 t232, .int .i64 t233, .int .i64 t234], .agg #[.int .i64 t235, .int .i64 t236]] ?_
       with_reducible refine (impl_EdCofactor.calls k t230 t231 t232 t233 t234 t235 t236 t237 t238 t239 _ A8.out).mono ?_
       rintro e w27 ⟨rfl, hb⟩; refine ⟨_, rfl, ?_⟩; replace BK217 := bb_ BK217 hb; replace BK218 := bb_ BK218 hb; replace BK229 := bb_ BK229 hb; replace BK240 := bb_ BK240 hb; replace HB := bs_ HB hb; (try clear hb); refine hK.out _ _ ⟨bc_ BK217 0, bc_ BK217 1, bc_ BK217 2, bc_ BK217 3, bc_ BK217 4, bc_ BK218 0, bc_ BK218 1⟩ (fun hHeld => ?_); clear hK K
       apply norm_
       · show Act.put _ (some 22) _ = _; simp only [Act.put, sA_, sZ_, sS_, i64_w, i32_w]; rfl
       refine pure_ (i := 5) (N := some 17) (v := ?_) (a' := ?_) #[true,true,true,true,true,true,false,false,true,false,false] rfl rfl (any_of HT_.out (by kernel_rfl)) (fun _ _ _ h => h) (Or.inl ⟨by rfl, ?_⟩) ?_ ?_; rotate_left
       ·
        intro w'; go_simp
        with_reducible rfl
       rotate_left
       · simp only [Act.put, sA_, sZ_, sS_, i64_w, i32_w]; rfl
       refine pure_ (i := 6) (N := some 23) (v := ?_) (a' := ?_) #[true,true,true,true,true,true,true,false,true,false,false] rfl rfl (any_of HT_.out (by kernel_rfl)) (fun _ _ _ h => h) (Or.inl ⟨by rfl, ?_⟩) ?_ ?_; rotate_left
       ·
        intro w'; go_simp
        with_reducible rfl
       rotate_left
       · simp only [Act.put, sA_, sZ_, sS_, i64_w, i32_w]; rfl
       refine pure_ (i := 7) (N := some 24) (v := ?_) (a' := ?_) #[true,true,true,true,true,true,true,true,true,false,false] rfl rfl (any_of HT_.out (by kernel_rfl)) (fun _ _ _ h => h) (Or.inl ⟨by rfl, ?_⟩) ?_ ?_; rotate_left
       ·
        intro w'; go_simp
        with_reducible rfl
       rotate_left
       · simp only [Act.put, sA_, sZ_, sS_, i64_w, i32_w]; rfl
       exact norm_ (by simp only [putAll, Act.put, sA_, sZ_, sS_]) (hCont (gb240) _ ⟨hHeld, (bk_ BK217), (bk_ BK218), (bk_ BK229), (bk_ BK240), GW240.out, GE240.out, NB217_240.out, NB240_217.out, NB218_240.out, NB240_218.out, NB229_240.out, NB240_229.out, (bw_ HB)⟩)
     ·
      refine box_step ?hg (N := 7) ?hd (cs := #[.int .i64 0, .int .i64 0]) (t := 49) ?hr ?_; (case hd => rfl); (case hg => rfl); (case hr => first | (go_simp; done) | (go_simp; rfl))
      intro gb240 hg w25 hbox hb; have n0_ := bb_ BK217 hb; have n1_ := bb_ BK218 hb; have n2_ := bb_ BK229 hb; have n3_ := bs_ HB hb; have n4_ := Aside0.mk hbox; have n5_ := ge_ HB hg; have n6_ := ge_ HB hg; have n7_ := nl_ BK217 hg; have n8_ := nr_ BK217 hg; have n9_ := nl_ BK218 hg; have n10_ := nr_ BK218 hg; have n11_ := nl_ BK229 hg; have n12_ := nr_ BK229 hg; clear BK217 BK218 BK229 HB; have BK217 := n0_; have BK218 := n1_; have BK229 := n2_; have HB := n3_; have BK240 := n4_; have GW240 := n5_; have GE240 := n6_; have NB217_240 := n7_; have NB240_217 := n8_; have NB218_240 := n9_; have NB240_218 := n10_; have NB229_240 := n11_; have NB240_229 := n12_; clear n0_ n1_ n2_ n3_ n4_ n5_ n6_ n7_ n8_ n9_ n10_ n11_ n12_; clear hb hbox hg; refine hK.out _ _ ⟨bc_ BK217 0, bc_ BK217 1, bc_ BK217 2, bc_ BK217 3, bc_ BK217 4, bc_ BK218 0, bc_ BK218 1⟩ (fun hHeld => ?_); clear hK K
      apply norm_
      · show Act.put _ (some 7) _ = _; simp only [Act.put, sA_, sZ_, sS_, i64_w, i32_w]; rfl
      refine one_ (i := 3) (N := some 21) #[true,true,true,true,false,false,false,false,true,false,false] rfl rfl (one_of HT_.out (by kernel_rfl)) (by decide) (fun K hK => ?_); refine gs_ Try.func36 #[.agg #[.int .i64 a1_0, .int .i64 a1_1]] ?_
      with_reducible refine (laws_toPair.calls a1_0 a1_1 t235 t236 _ A7.out).mono ?_
      rintro e w26 ⟨rfl, hb⟩; refine ⟨_, rfl, ?_⟩; replace BK217 := bb_ BK217 hb; replace BK218 := bb_ BK218 hb; replace BK229 := bb_ BK229 hb; replace BK240 := bb_ BK240 hb; replace HB := bs_ HB hb; (try clear hb); refine hK.out _ _ ⟨bc_ BK217 0, bc_ BK217 1, bc_ BK217 2, bc_ BK217 3, bc_ BK217 4, bc_ BK218 0, bc_ BK218 1⟩ (fun hHeld => ?_); clear hK K
      apply norm_
      · show Act.put _ (some 21) _ = _; simp only [Act.put, sA_, sZ_, sS_, i64_w, i32_w]; rfl
      refine one_ (i := 4) (N := some 22) #[true,true,true,true,true,false,false,false,true,false,false] rfl rfl (one_of HT_.out (by kernel_rfl)) (by decide) (fun K hK => ?_); refine gs_ Try.func47 #[.agg #[.int .i64 t230, .int .i64 t231, .int .i64 t232, .int .i64 t233, .int .i64 t234], .agg #[.int .i64 t235, .int .i64 t236]] ?_
      with_reducible refine (impl_EdCofactor.calls k t230 t231 t232 t233 t234 t235 t236 t237 t238 t239 _ A8.out).mono ?_
      rintro e w27 ⟨rfl, hb⟩; refine ⟨_, rfl, ?_⟩; replace BK217 := bb_ BK217 hb; replace BK218 := bb_ BK218 hb; replace BK229 := bb_ BK229 hb; replace BK240 := bb_ BK240 hb; replace HB := bs_ HB hb; (try clear hb); refine hK.out _ _ ⟨bc_ BK217 0, bc_ BK217 1, bc_ BK217 2, bc_ BK217 3, bc_ BK217 4, bc_ BK218 0, bc_ BK218 1⟩ (fun hHeld => ?_); clear hK K
      apply norm_
      · show Act.put _ (some 22) _ = _; simp only [Act.put, sA_, sZ_, sS_, i64_w, i32_w]; rfl
      refine pure_ (i := 5) (N := some 17) (v := ?_) (a' := ?_) #[true,true,true,true,true,true,false,false,true,false,false] rfl rfl (any_of HT_.out (by kernel_rfl)) (fun _ _ _ h => h) (Or.inl ⟨by rfl, ?_⟩) ?_ ?_; rotate_left
      ·
       intro w'; go_simp
       with_reducible rfl
      rotate_left
      · simp only [Act.put, sA_, sZ_, sS_, i64_w, i32_w]; rfl
      refine pure_ (i := 6) (N := some 23) (v := ?_) (a' := ?_) #[true,true,true,true,true,true,true,false,true,false,false] rfl rfl (any_of HT_.out (by kernel_rfl)) (fun _ _ _ h => h) (Or.inl ⟨by rfl, ?_⟩) ?_ ?_; rotate_left
      ·
       intro w'; go_simp
       with_reducible rfl
      rotate_left
      · simp only [Act.put, sA_, sZ_, sS_, i64_w, i32_w]; rfl
      refine pure_ (i := 7) (N := some 24) (v := ?_) (a' := ?_) #[true,true,true,true,true,true,true,true,true,false,false] rfl rfl (any_of HT_.out (by kernel_rfl)) (fun _ _ _ h => h) (Or.inl ⟨by rfl, ?_⟩) ?_ ?_; rotate_left
      ·
       intro w'; go_simp
       with_reducible rfl
      rotate_left
      · simp only [Act.put, sA_, sZ_, sS_, i64_w, i32_w]; rfl
      exact norm_ (by simp only [putAll, Act.put, sA_, sZ_, sS_]) (hCont (gb240) _ ⟨hHeld, (bk_ BK217), (bk_ BK218), (bk_ BK229), (bk_ BK240), GW240.out, GE240.out, NB217_240.out, NB240_217.out, NB218_240.out, NB240_218.out, NB229_240.out, NB240_229.out, (bw_ HB)⟩)
    ·
     refine box_step ?hg (N := 7) ?hd (cs := #[.int .i64 0, .int .i64 0]) (t := 49) ?hr ?_; (case hd => rfl); (case hg => rfl); (case hr => first | (go_simp; done) | (go_simp; rfl))
     intro gb240 hg w24 hbox hb; have n0_ := bb_ BK217 hb; have n1_ := bb_ BK218 hb; have n2_ := bb_ BK229 hb; have n3_ := bs_ HB hb; have n4_ := Aside0.mk hbox; have n5_ := ge_ HB hg; have n6_ := ge_ HB hg; have n7_ := nl_ BK217 hg; have n8_ := nr_ BK217 hg; have n9_ := nl_ BK218 hg; have n10_ := nr_ BK218 hg; have n11_ := nl_ BK229 hg; have n12_ := nr_ BK229 hg; clear BK217 BK218 BK229 HB; have BK217 := n0_; have BK218 := n1_; have BK229 := n2_; have HB := n3_; have BK240 := n4_; have GW240 := n5_; have GE240 := n6_; have NB217_240 := n7_; have NB240_217 := n8_; have NB218_240 := n9_; have NB240_218 := n10_; have NB229_240 := n11_; have NB240_229 := n12_; clear n0_ n1_ n2_ n3_ n4_ n5_ n6_ n7_ n8_ n9_ n10_ n11_ n12_; clear hb hbox hg; refine hK.out _ _ ⟨bc_ BK217 0, bc_ BK217 1, bc_ BK217 2, bc_ BK217 3, bc_ BK217 4, bc_ BK218 0, bc_ BK218 1⟩ (fun hHeld => ?_); clear hK K
     apply norm_
     · show Act.put _ (some 7) _ = _; simp only [Act.put, sA_, sZ_, sS_, i64_w, i32_w]; rfl
     refine one_ (i := 1) (N := some 19) #[true,true,true,false,false,false,false,false,true,false,false] rfl rfl (one_of HT_.out (by kernel_rfl)) (by decide) (fun K hK => ?_); refine gs_ Try.func28 #[.agg #[.int .i64 a0_0, .int .i64 a0_1, .int .i64 a0_2, .int .i64 a0_3, .int .i64 a0_4]] ?_
     with_reducible refine (laws_toEd.calls a0_0 a0_1 a0_2 a0_3 a0_4 t230 t231 t232 t233 t234 _ A6.out).mono ?_
     rintro e w25 ⟨rfl, hb⟩; refine ⟨_, rfl, ?_⟩; replace BK217 := bb_ BK217 hb; replace BK218 := bb_ BK218 hb; replace BK229 := bb_ BK229 hb; replace BK240 := bb_ BK240 hb; replace HB := bs_ HB hb; (try clear hb); refine hK.out _ _ ⟨bc_ BK217 0, bc_ BK217 1, bc_ BK217 2, bc_ BK217 3, bc_ BK217 4, bc_ BK218 0, bc_ BK218 1⟩ (fun hHeld => ?_); clear hK K
     apply norm_
     · show Act.put _ (some 19) _ = _; simp only [Act.put, sA_, sZ_, sS_, i64_w, i32_w]; rfl
     refine one_ (i := 3) (N := some 21) #[true,true,true,true,false,false,false,false,true,false,false] rfl rfl (one_of HT_.out (by kernel_rfl)) (by decide) (fun K hK => ?_); refine gs_ Try.func36 #[.agg #[.int .i64 a1_0, .int .i64 a1_1]] ?_
     with_reducible refine (laws_toPair.calls a1_0 a1_1 t235 t236 _ A7.out).mono ?_
     rintro e w26 ⟨rfl, hb⟩; refine ⟨_, rfl, ?_⟩; replace BK217 := bb_ BK217 hb; replace BK218 := bb_ BK218 hb; replace BK229 := bb_ BK229 hb; replace BK240 := bb_ BK240 hb; replace HB := bs_ HB hb; (try clear hb); refine hK.out _ _ ⟨bc_ BK217 0, bc_ BK217 1, bc_ BK217 2, bc_ BK217 3, bc_ BK217 4, bc_ BK218 0, bc_ BK218 1⟩ (fun hHeld => ?_); clear hK K
     apply norm_
     · show Act.put _ (some 21) _ = _; simp only [Act.put, sA_, sZ_, sS_, i64_w, i32_w]; rfl
     refine one_ (i := 4) (N := some 22) #[true,true,true,true,true,false,false,false,true,false,false] rfl rfl (one_of HT_.out (by kernel_rfl)) (by decide) (fun K hK => ?_); refine gs_ Try.func47 #[.agg #[.int .i64 t230, .int .i64 t231, .int .i64 t232, .int .i64 t233, .int .i64 t234], .agg #[.int .i64 t235, .int .i64 t236]] ?_
     with_reducible refine (impl_EdCofactor.calls k t230 t231 t232 t233 t234 t235 t236 t237 t238 t239 _ A8.out).mono ?_
     rintro e w27 ⟨rfl, hb⟩; refine ⟨_, rfl, ?_⟩; replace BK217 := bb_ BK217 hb; replace BK218 := bb_ BK218 hb; replace BK229 := bb_ BK229 hb; replace BK240 := bb_ BK240 hb; replace HB := bs_ HB hb; (try clear hb); refine hK.out _ _ ⟨bc_ BK217 0, bc_ BK217 1, bc_ BK217 2, bc_ BK217 3, bc_ BK217 4, bc_ BK218 0, bc_ BK218 1⟩ (fun hHeld => ?_); clear hK K
     apply norm_
     · show Act.put _ (some 22) _ = _; simp only [Act.put, sA_, sZ_, sS_, i64_w, i32_w]; rfl
     refine pure_ (i := 5) (N := some 17) (v := ?_) (a' := ?_) #[true,true,true,true,true,true,false,false,true,false,false] rfl rfl (any_of HT_.out (by kernel_rfl)) (fun _ _ _ h => h) (Or.inl ⟨by rfl, ?_⟩) ?_ ?_; rotate_left
     ·
      intro w'; go_simp
      with_reducible rfl
     rotate_left
     · simp only [Act.put, sA_, sZ_, sS_, i64_w, i32_w]; rfl
     refine pure_ (i := 6) (N := some 23) (v := ?_) (a' := ?_) #[true,true,true,true,true,true,true,false,true,false,false] rfl rfl (any_of HT_.out (by kernel_rfl)) (fun _ _ _ h => h) (Or.inl ⟨by rfl, ?_⟩) ?_ ?_; rotate_left
     ·
      intro w'; go_simp
      with_reducible rfl
     rotate_left
     · simp only [Act.put, sA_, sZ_, sS_, i64_w, i32_w]; rfl
     refine pure_ (i := 7) (N := some 24) (v := ?_) (a' := ?_) #[true,true,true,true,true,true,true,true,true,false,false] rfl rfl (any_of HT_.out (by kernel_rfl)) (fun _ _ _ h => h) (Or.inl ⟨by rfl, ?_⟩) ?_ ?_; rotate_left
     ·
      intro w'; go_simp
      with_reducible rfl
     rotate_left
     · simp only [Act.put, sA_, sZ_, sS_, i64_w, i32_w]; rfl
     exact norm_ (by simp only [putAll, Act.put, sA_, sZ_, sS_]) (hCont (gb240) _ ⟨hHeld, (bk_ BK217), (bk_ BK218), (bk_ BK229), (bk_ BK240), GW240.out, GE240.out, NB217_240.out, NB240_217.out, NB218_240.out, NB240_218.out, NB229_240.out, NB240_229.out, (bw_ HB)⟩)
   rintro gb240 w28 ⟨hS_, h0_, h1_, h2_, h3_, h4_, h5_, h6_, h7_, h8_, h9_, h10_, h11_, h12_⟩; replace BK217 := Aside0.mk h0_; replace BK218 := Aside0.mk h1_; replace BK229 := Aside0.mk h2_; have BK240 := Aside0.mk h3_; have GW240 := Aside0.mk h4_; have GE240 := Aside0.mk h5_; have NB217_240 := Aside0.mk h6_; have NB240_217 := Aside0.mk h7_; have NB218_240 := Aside0.mk h8_; have NB240_218 := Aside0.mk h9_; have NB229_240 := Aside0.mk h10_; have NB240_229 := Aside0.mk h11_; replace HB := Aside0.mk h12_; clear h0_ h1_ h2_ h3_ h4_ h5_ h6_ h7_ h8_ h9_ h10_ h11_ h12_; have hHeld := hS_
   apply norm_
   · simp only [putAll, Act.put, sA_, sZ_, sS_]; rfl
   refine one_ (i := 9) (N := none) #[true,true,true,true,true,true,true,true,true,true,false] rfl rfl (one_of HT_.out (by kernel_rfl)) (by decide) (fun K hK => ?_)
   have hs29 : w28.cell? ⟨gb240, 0, none⟩ = some (.int .i64 0) := bc_ BK240 0
   have hfs29 := blk_frozen BK240.out 0; have hns29_0 := NB217_240.out; have hns29_1 := NB218_240.out; have hns29_2 := NB229_240.out; have hms29_0 := NB240_217.out; have hms29_1 := NB240_218.out; have hms29_2 := NB240_229.out
   have hs30 : w28.cell? ⟨gb240, 1, none⟩ = some (.int .i64 0) := bc_ BK240 1
   have hfs30 := blk_frozen BK240.out 1; have hns30_0 := NB217_240.out; have hns30_1 := NB218_240.out; have hns30_2 := NB229_240.out; have hms30_0 := NB240_217.out; have hms30_1 := NB240_218.out; have hms30_2 := NB240_229.out; refine skip_ (w1 := ?_) (by rfl) rfl ?_ ?_; rotate_left
   · go_simp; rfl
   refine hK.out _ _ ⟨((cell_far (p := ⟨gb240, _, none⟩) NB217_240.out _).trans (((cell_far (p := ⟨gb240, _, none⟩) NB217_240.out _).trans (hHeld.1)))), ((cell_far (p := ⟨gb240, _, none⟩) NB217_240.out _).trans (((cell_far (p := ⟨gb240, _, none⟩) NB217_240.out _).trans (hHeld.2.1)))), ((cell_far (p := ⟨gb240, _, none⟩) NB217_240.out _).trans (((cell_far (p := ⟨gb240, _, none⟩) NB217_240.out _).trans (hHeld.2.2.1)))), ((cell_far (p := ⟨gb240, _, none⟩) NB217_240.out _).trans (((cell_far (p := ⟨gb240, _, none⟩) NB217_240.out _).trans (hHeld.2.2.2.1)))), ((cell_far (p := ⟨gb240, _, none⟩) NB217_240.out _).trans (((cell_far (p := ⟨gb240, _, none⟩) NB217_240.out _).trans (hHeld.2.2.2.2.1)))), ((cell_far (p := ⟨gb240, _, none⟩) NB218_240.out _).trans (((cell_far (p := ⟨gb240, _, none⟩) NB218_240.out _).trans (hHeld.2.2.2.2.2.1)))), ((cell_far (p := ⟨gb240, _, none⟩) NB218_240.out _).trans (((cell_far (p := ⟨gb240, _, none⟩) NB218_240.out _).trans (hHeld.2.2.2.2.2.2))))⟩ (fun hHeld => ?_); clear hK K; refine pure_ (i := 10) (N := some 8) (v := ?_) (a' := ?_) #[true,true,true,true,true,true,true,true,true,true,true] rfl rfl (any_of HT_.out (by kernel_rfl)) (fun _ _ _ h => h) (Or.inl ⟨by rfl, ?_⟩) ?_ ?_; rotate_left
   ·
    intro w'; go_simp
    with_reducible rfl
   rotate_left
   · simp only [Act.put, sA_, sZ_, sS_, i64_w, i32_w]; rfl
   refine done_ (done_of HT_.out (by kernel_rfl)) ?_; have hnb31 := NB240_217.out; have hnc31 := NB217_240.out; have hnb32 := NB240_218.out; have hnc32 := NB218_240.out; have hnb33 := NB240_229.out; have hnc33 := NB229_240.out
   have hcz34_0 : w28.cell? ⟨gb240, 0, none⟩ = some (.int .i64 0) := bc_ BK240 0
   have hcz34_1 : w28.cell? ⟨gb240, 1, none⟩ = some (.int .i64 0) := bc_ BK240 1
   have hfz34_0 := blk_frozen BK240.out 0; have hfz34_1 := blk_frozen BK240.out 1; have hnb35 := NB229_217.out; have hnc35 := NB217_229.out; have hnb36 := NB229_218.out; have hnc36 := NB218_229.out
   have hcz37_0 : w28.cell? ⟨gb229, 0, none⟩ = some (.int .i64 t226) := bc_ BK229 0
   have hcz37_1 : w28.cell? ⟨gb229, 1, none⟩ = some (.int .i64 t227) := bc_ BK229 1
   have hfz37_0 := blk_frozen BK229.out 0; have hfz37_1 := blk_frozen BK229.out 1
   try go_wp2_with (first | ((with_reducible refine gate_callee (f := 43) rfl ?_); refine goesL_ (some 27) rfl rfl Try.func43 (by kernel_rfl) rfl #[.agg #[.int .i64 t237, .int .i64 t238], .agg #[.int .i64 t226, .int .i64 t227]] rfl (by (try simp only [List.map_toArray, List.map_cons, List.map_nil]); first | done | rfl | (simp only [List.length_drop, List.length_take]; rfl)) ?_; (with_reducible refine (laws_eqPair.calls t237 t238 t226 t227 true _ A9.out).mono ?_); rintro e w38 ⟨rfl, hb⟩; refine ⟨_, rfl, ?_⟩; have n0_ := Aside0.mk (blk_below (g := gb217) (o := .cells #[.int .i64 a0_0, .int .i64 a0_1, .int .i64 a0_2, .int .i64 a0_3, .int .i64 a0_4] 35 (0, 0)) (by (with_reducible repeat (first | refine blk_drewN ?_ _ | refine blk_drew ?_ | refine blk_alloc ?_ _)); refine blk_far ?_ NB217_240.out _; (with_reducible repeat (first | refine blk_drewN ?_ _ | refine blk_drew ?_ | refine blk_alloc ?_ _)); refine blk_far ?_ NB217_240.out _; (with_reducible repeat (first | refine blk_drewN ?_ _ | refine blk_drew ?_ | refine blk_alloc ?_ _)); exact BK217.out) hb); have n1_ := Aside0.mk (blk_below (g := gb218) (o := .cells #[.int .i64 a1_0, .int .i64 a1_1] 47 (0, 0)) (by (with_reducible repeat (first | refine blk_drewN ?_ _ | refine blk_drew ?_ | refine blk_alloc ?_ _)); refine blk_far ?_ NB218_240.out _; (with_reducible repeat (first | refine blk_drewN ?_ _ | refine blk_drew ?_ | refine blk_alloc ?_ _)); refine blk_far ?_ NB218_240.out _; (with_reducible repeat (first | refine blk_drewN ?_ _ | refine blk_drew ?_ | refine blk_alloc ?_ _)); exact BK218.out) hb); have n2_ := Aside0.mk (blk_below (g := gb229) (o := .cells #[.int .i64 t226, .int .i64 t227] 49 (0, 0)) (by (with_reducible repeat (first | refine blk_drewN ?_ _ | refine blk_drew ?_ | refine blk_alloc ?_ _)); refine blk_far ?_ NB229_240.out _; (with_reducible repeat (first | refine blk_drewN ?_ _ | refine blk_drew ?_ | refine blk_alloc ?_ _)); refine blk_far ?_ NB229_240.out _; (with_reducible repeat (first | refine blk_drewN ?_ _ | refine blk_drew ?_ | refine blk_alloc ?_ _)); exact BK229.out) hb); have n3_ := Aside0.mk (blk_below (g := gb240) (o := .cells #[.int .i64 t237, .int .i64 t238] 49 (0, 0)) (by (with_reducible repeat (first | refine blk_drewN ?_ _ | refine blk_drew ?_ | refine blk_alloc ?_ _)); refine blk_put (cs := #[.int .i64 t237, .int .i64 0]) ?_ 1 _ rfl; (with_reducible repeat (first | refine blk_drewN ?_ _ | refine blk_drew ?_ | refine blk_alloc ?_ _)); refine blk_put (cs := #[.int .i64 0, .int .i64 0]) ?_ 0 _ rfl; (with_reducible repeat (first | refine blk_drewN ?_ _ | refine blk_drew ?_ | refine blk_alloc ?_ _)); exact BK240.out) hb); have n4_ := bs_ HB hb; clear BK217; clear BK218; clear BK229; clear BK240; clear HB; have BK217 := n0_; have BK218 := n1_; have BK229 := n2_; have BK240 := n3_; have HB := n4_; clear n0_ n1_ n2_ n3_ n4_; (try clear hb); (try clear hb2); (try clear hk); (try clear hi)))
   go_ret
   exact ⟨by first | rfl | (simp [errW_none, errW_some] <;> rfl) | (simp [*, errW_none, errW_some] <;> rfl), by repeat (first | (with_reducible first | exact HB.out | apply below_alloc | apply pw_below_drewN | apply below_drew1 | refine below_set ?_ GE217.out | refine below_set ?_ GE218.out | refine below_set ?_ GE229.out | refine below_set ?_ GE240.out) | exact HB.out)⟩
  ·
   rw [if_neg c11] at H
   have c11b0 : (t239 != t228) = false := by simpa using c11
   (try (have c11b1 : decide (t239 = t228) = true := by simpa using c11)); (try (have c11b2 : (t239 == t228) = true := by simpa using c11)); clear c11; obtain rfl := Option.some.inj H
   go_enter Try.func13, Try.ntmps13
   try go_wp2_with (first | ((with_reducible refine gate_dst (N := 2) rfl ?_); refine box_event ?hg (N := 2) ?hd (cs := #[.int .i64 a0_0, .int .i64 a0_1, .int .i64 a0_2, .int .i64 a0_3, .int .i64 a0_4]) (t := 35) ?hr ?_; (case hd => rfl); (case hg => rfl); (case hr => first | (go_simp; done) | (go_simp; rfl)); intro gb217 hg w39 hbox hb; have n0_ := bs_ HB hb; have n1_ := Aside0.mk hbox; have n2_ := ge_ HB hg; have n3_ := ge_ HB hg; clear HB; have HB := n0_; have BK217 := n1_; have GW217 := n2_; have GE217 := n3_; clear n0_ n1_ n2_ n3_; clear hb hbox hg) | ((with_reducible refine gate_dst (N := 3) rfl ?_); refine box_event ?hg (N := 3) ?hd (cs := #[.int .i64 a1_0, .int .i64 a1_1]) (t := 47) ?hr ?_; (case hd => rfl); (case hg => rfl); (case hr => first | (go_simp; done) | (go_simp; rfl)); intro gb218 hg w40 hbox hb; have n0_ := bb_ BK217 hb; have n1_ := bs_ HB hb; have n2_ := Aside0.mk hbox; have n3_ := ge_ HB hg; have n4_ := ge_ HB hg; have n5_ := nl_ BK217 hg; have n6_ := nr_ BK217 hg; clear BK217; clear HB; have BK217 := n0_; have HB := n1_; have BK218 := n2_; have GW218 := n3_; have GE218 := n4_; have NB217_218 := n5_; have NB218_217 := n6_; clear n0_ n1_ n2_ n3_ n4_ n5_ n6_; clear hb hbox hg))
   replace BK217 := Aside0.mk (blk_drew BK217.out); replace BK218 := Aside0.mk (blk_drew BK218.out); replace HB := Aside0.mk (below_drew1 HB.out); refine start_ (n := 11) (S := fun w' => w'.cell? ⟨gb217, 0, none⟩ = some (.int .i64 a0_0) ∧ w'.cell? ⟨gb217, 1, none⟩ = some (.int .i64 a0_1) ∧ w'.cell? ⟨gb217, 2, none⟩ = some (.int .i64 a0_2) ∧ w'.cell? ⟨gb217, 3, none⟩ = some (.int .i64 a0_3) ∧ w'.cell? ⟨gb217, 4, none⟩ = some (.int .i64 a0_4) ∧ w'.cell? ⟨gb218, 0, none⟩ = some (.int .i64 a1_0) ∧ w'.cell? ⟨gb218, 1, none⟩ = some (.int .i64 a1_1)) (ds := []) #[false,false,false,false,false,false,false,false,false,false,false] (by kernel_rfl) rfl rfl ⟨bc_ BK217 0, bc_ BK217 1, bc_ BK217 2, bc_ BK217 3, bc_ BK217 4, bc_ BK218 0, bc_ BK218 1⟩ (fun hHeld => ?_); refine with_tabW laws_FnExactEdCofactor.tab1 laws_FnExactEdCofactor.bits1 (fun HT_ HW_ => ?_)
   generalize w40.drew = w41 at BK217 BK218 HB hHeld ⊢
   refine take_ (i := 0) (N := some 10) (v := ?_) (a' := ?_) #[true,false,false,false,false,false,false,false,false,false,false] rfl rfl (take_ofW HT_.out HW_.out (by kernel_rfl)) (fun _ _ _ h => h) (Or.inl ⟨by rfl, ?_⟩) hHeld ?_ ?_; rotate_left
   ·
    rintro w' ⟨s0, s1, s2, s3, s4, s5, s6⟩; go_simp
    with_reducible rfl
   rotate_left
   · simp only [Act.put, sA_, sZ_, sS_, i64_w, i32_w]; rfl
   refine take_ (i := 2) (N := some 12) (v := ?_) (a' := ?_) #[true,false,true,false,false,false,false,false,false,false,false] rfl rfl (take_ofW HT_.out HW_.out (by kernel_rfl)) (fun _ _ _ h => h) (Or.inl ⟨by rfl, ?_⟩) hHeld ?_ ?_; rotate_left
   ·
    rintro w' ⟨s0, s1, s2, s3, s4, s5, s6⟩; go_simp
    with_reducible rfl
   rotate_left
   · simp only [Act.put, sA_, sZ_, sS_, i64_w, i32_w]; rfl
   refine join_ (σ := Nat) 2 #[true,true,true,true,true,true,true,true,true,false,false] (fun s_ => [(11, .agg #[.int .i64 t219, .int .i64 t220, .int .i64 t221, .int .i64 t222, .int .i64 t223]), (13, .agg #[.int .i64 t224, .int .i64 t225]), (14, .tuple #[.agg #[.int .i64 t226, .int .i64 t227], .bool t228]), (5, .pointer (some ⟨s_, 0, none⟩)), (9, .tuple #[.agg #[.int .i64 t226, .int .i64 t227], .bool t228]), (15, .agg #[.int .i64 t226, .int .i64 t227]), (16, .bool t228)]) (fun s_ w' => (w'.cell? ⟨gb217, 0, none⟩ = some (.int .i64 a0_0) ∧ w'.cell? ⟨gb217, 1, none⟩ = some (.int .i64 a0_1) ∧ w'.cell? ⟨gb217, 2, none⟩ = some (.int .i64 a0_2) ∧ w'.cell? ⟨gb217, 3, none⟩ = some (.int .i64 a0_3) ∧ w'.cell? ⟨gb217, 4, none⟩ = some (.int .i64 a0_4) ∧ w'.cell? ⟨gb218, 0, none⟩ = some (.int .i64 a1_0) ∧ w'.cell? ⟨gb218, 1, none⟩ = some (.int .i64 a1_1)) ∧ (w'.heap[gb217]? = some (.cells #[.int .i64 a0_0, .int .i64 a0_1, .int .i64 a0_2, .int .i64 a0_3, .int .i64 a0_4] 35 (0, 0))) ∧ (w'.heap[gb218]? = some (.cells #[.int .i64 a1_0, .int .i64 a1_1] 47 (0, 0))) ∧ (w'.heap[s_]? = some (.cells #[.int .i64 0, .int .i64 0] 49 (0, 0))) ∧ (w.heap.size ≤ s_) ∧ (w.heap.size ≤ s_) ∧ (gb217 ≠ s_) ∧ (s_ ≠ gb217) ∧ (gb218 ≠ s_) ∧ (s_ ≠ gb218) ∧ (Below w.heap.size w w')) ?_ ?_; rotate_left
   ·
    intro hCont; refine two_ (i := 1) (j := 8) (Ni := some 11) (Nj := some 5) #[true,true,true,false,false,false,false,false,false,false,false] #[true,false,true,false,false,false,false,false,true,false,false] rfl rfl rfl rfl (two_of HT_.out (by kernel_rfl)) (by decide) (by decide) (fun K hK => ?_) (fun K hK => ?_)
    ·
     refine gs_ Try.func28 #[.agg #[.int .i64 a0_0, .int .i64 a0_1, .int .i64 a0_2, .int .i64 a0_3, .int .i64 a0_4]] ?_
     with_reducible refine (laws_toEd.calls a0_0 a0_1 a0_2 a0_3 a0_4 t219 t220 t221 t222 t223 _ A3.out).mono ?_
     rintro e w42 ⟨rfl, hb⟩; refine ⟨_, rfl, ?_⟩; replace BK217 := bb_ BK217 hb; replace BK218 := bb_ BK218 hb; replace HB := bs_ HB hb; (try clear hb); refine hK.out _ _ ⟨bc_ BK217 0, bc_ BK217 1, bc_ BK217 2, bc_ BK217 3, bc_ BK217 4, bc_ BK218 0, bc_ BK218 1⟩ (fun hHeld => ?_); clear hK K
     apply norm_
     · show Act.put _ (some 11) _ = _; simp only [Act.put, sA_, sZ_, sS_, i64_w, i32_w]; rfl
     refine two_ (i := 3) (j := 8) (Ni := some 13) (Nj := some 5) #[true,true,true,true,false,false,false,false,false,false,false] #[true,true,true,false,false,false,false,false,true,false,false] rfl rfl rfl rfl (two_of HT_.out (by kernel_rfl)) (by decide) (by decide) (fun K hK => ?_) (fun K hK => ?_)
     ·
      refine gs_ Try.func36 #[.agg #[.int .i64 a1_0, .int .i64 a1_1]] ?_
      with_reducible refine (laws_toPair.calls a1_0 a1_1 t224 t225 _ A4.out).mono ?_
      rintro e w43 ⟨rfl, hb⟩; refine ⟨_, rfl, ?_⟩; replace BK217 := bb_ BK217 hb; replace BK218 := bb_ BK218 hb; replace HB := bs_ HB hb; (try clear hb); refine hK.out _ _ ⟨bc_ BK217 0, bc_ BK217 1, bc_ BK217 2, bc_ BK217 3, bc_ BK217 4, bc_ BK218 0, bc_ BK218 1⟩ (fun hHeld => ?_); clear hK K
      apply norm_
      · show Act.put _ (some 13) _ = _; simp only [Act.put, sA_, sZ_, sS_, i64_w, i32_w]; rfl
      refine two_ (i := 4) (j := 8) (Ni := some 14) (Nj := some 5) #[true,true,true,true,true,false,false,false,false,false,false] #[true,true,true,true,false,false,false,false,true,false,false] rfl rfl rfl rfl (two_of HT_.out (by kernel_rfl)) (by decide) (by decide) (fun K hK => ?_) (fun K hK => ?_)
      ·
       refine gs_ Try.func46 #[.agg #[.int .i64 t219, .int .i64 t220, .int .i64 t221, .int .i64 t222, .int .i64 t223], .agg #[.int .i64 t224, .int .i64 t225]] ?_
       with_reducible refine (spec_EdCofactor.calls k t219 t220 t221 t222 t223 t224 t225 t226 t227 t228 _ A5.out).mono ?_
       rintro e w44 ⟨rfl, hb⟩; refine ⟨_, rfl, ?_⟩; replace BK217 := bb_ BK217 hb; replace BK218 := bb_ BK218 hb; replace HB := bs_ HB hb; (try clear hb); refine hK.out _ _ ⟨bc_ BK217 0, bc_ BK217 1, bc_ BK217 2, bc_ BK217 3, bc_ BK217 4, bc_ BK218 0, bc_ BK218 1⟩ (fun hHeld => ?_); clear hK K
       apply norm_
       · show Act.put _ (some 14) _ = _; simp only [Act.put, sA_, sZ_, sS_, i64_w, i32_w]; rfl
       refine pure_ (i := 5) (N := some 9) (v := ?_) (a' := ?_) #[true,true,true,true,true,true,false,false,false,false,false] rfl rfl (any_of HT_.out (by kernel_rfl)) (fun _ _ _ h => h) (Or.inl ⟨by rfl, ?_⟩) ?_ ?_; rotate_left
       ·
        intro w'; go_simp
        with_reducible rfl
       rotate_left
       · simp only [Act.put, sA_, sZ_, sS_, i64_w, i32_w]; rfl
       refine pure_ (i := 6) (N := some 15) (v := ?_) (a' := ?_) #[true,true,true,true,true,true,true,false,false,false,false] rfl rfl (any_of HT_.out (by kernel_rfl)) (fun _ _ _ h => h) (Or.inl ⟨by rfl, ?_⟩) ?_ ?_; rotate_left
       ·
        intro w'; go_simp
        with_reducible rfl
       rotate_left
       · simp only [Act.put, sA_, sZ_, sS_, i64_w, i32_w]; rfl
       refine pure_ (i := 7) (N := some 16) (v := ?_) (a' := ?_) #[true,true,true,true,true,true,true,true,false,false,false] rfl rfl (any_of HT_.out (by kernel_rfl)) (fun _ _ _ h => h) (Or.inl ⟨by rfl, ?_⟩) ?_ ?_; rotate_left
       ·
        intro w'; go_simp
        with_reducible rfl
       rotate_left
       · simp only [Act.put, sA_, sZ_, sS_, i64_w, i32_w]; rfl
       refine one_ (i := 8) (N := some 5) #[true,true,true,true,true,true,true,true,true,false,false] rfl rfl (one_of HT_.out (by kernel_rfl)) (by decide) (fun K hK => ?_); refine box_step ?hg (N := 5) ?hd (cs := #[.int .i64 0, .int .i64 0]) (t := 49) ?hr ?_; (case hd => rfl); (case hg => rfl); (case hr => first | (go_simp; done) | (go_simp; rfl))
       intro gb229 hg w45 hbox hb; have n0_ := bb_ BK217 hb; have n1_ := bb_ BK218 hb; have n2_ := bs_ HB hb; have n3_ := Aside0.mk hbox; have n4_ := ge_ HB hg; have n5_ := ge_ HB hg; have n6_ := nl_ BK217 hg; have n7_ := nr_ BK217 hg; have n8_ := nl_ BK218 hg; have n9_ := nr_ BK218 hg; clear BK217 BK218 HB; have BK217 := n0_; have BK218 := n1_; have HB := n2_; have BK229 := n3_; have GW229 := n4_; have GE229 := n5_; have NB217_229 := n6_; have NB229_217 := n7_; have NB218_229 := n8_; have NB229_218 := n9_; clear n0_ n1_ n2_ n3_ n4_ n5_ n6_ n7_ n8_ n9_; clear hb hbox hg; refine hK.out _ _ ⟨bc_ BK217 0, bc_ BK217 1, bc_ BK217 2, bc_ BK217 3, bc_ BK217 4, bc_ BK218 0, bc_ BK218 1⟩ (fun hHeld => ?_); clear hK K
       apply norm_
       · show Act.put _ (some 5) _ = _; simp only [Act.put, sA_, sZ_, sS_, i64_w, i32_w]; rfl
       exact norm_ (by simp only [putAll, Act.put, sA_, sZ_, sS_]) (hCont (gb229) _ ⟨hHeld, (bk_ BK217), (bk_ BK218), (bk_ BK229), GW229.out, GE229.out, NB217_229.out, NB229_217.out, NB218_229.out, NB229_218.out, (bw_ HB)⟩)
      ·
       refine box_step ?hg (N := 5) ?hd (cs := #[.int .i64 0, .int .i64 0]) (t := 49) ?hr ?_; (case hd => rfl); (case hg => rfl); (case hr => first | (go_simp; done) | (go_simp; rfl))
       intro gb229 hg w44 hbox hb; have n0_ := bb_ BK217 hb; have n1_ := bb_ BK218 hb; have n2_ := bs_ HB hb; have n3_ := Aside0.mk hbox; have n4_ := ge_ HB hg; have n5_ := ge_ HB hg; have n6_ := nl_ BK217 hg; have n7_ := nr_ BK217 hg; have n8_ := nl_ BK218 hg; have n9_ := nr_ BK218 hg; clear BK217 BK218 HB; have BK217 := n0_; have BK218 := n1_; have HB := n2_; have BK229 := n3_; have GW229 := n4_; have GE229 := n5_; have NB217_229 := n6_; have NB229_217 := n7_; have NB218_229 := n8_; have NB229_218 := n9_; clear n0_ n1_ n2_ n3_ n4_ n5_ n6_ n7_ n8_ n9_; clear hb hbox hg; refine hK.out _ _ ⟨bc_ BK217 0, bc_ BK217 1, bc_ BK217 2, bc_ BK217 3, bc_ BK217 4, bc_ BK218 0, bc_ BK218 1⟩ (fun hHeld => ?_); clear hK K
       apply norm_
       · show Act.put _ (some 5) _ = _; simp only [Act.put, sA_, sZ_, sS_, i64_w, i32_w]; rfl
       refine one_ (i := 4) (N := some 14) #[true,true,true,true,true,false,false,false,true,false,false] rfl rfl (one_of HT_.out (by kernel_rfl)) (by decide) (fun K hK => ?_); refine gs_ Try.func46 #[.agg #[.int .i64 t219, .int .i64 t220, .int .i64 t221, .int .i64 t222, .int .i64 t223], .agg #[.int .i64 t224, .int .i64 t225]] ?_
       with_reducible refine (spec_EdCofactor.calls k t219 t220 t221 t222 t223 t224 t225 t226 t227 t228 _ A5.out).mono ?_
       rintro e w45 ⟨rfl, hb⟩; refine ⟨_, rfl, ?_⟩; replace BK217 := bb_ BK217 hb; replace BK218 := bb_ BK218 hb; replace BK229 := bb_ BK229 hb; replace HB := bs_ HB hb; (try clear hb); refine hK.out _ _ ⟨bc_ BK217 0, bc_ BK217 1, bc_ BK217 2, bc_ BK217 3, bc_ BK217 4, bc_ BK218 0, bc_ BK218 1⟩ (fun hHeld => ?_); clear hK K
       apply norm_
       · show Act.put _ (some 14) _ = _; simp only [Act.put, sA_, sZ_, sS_, i64_w, i32_w]; rfl
       refine pure_ (i := 5) (N := some 9) (v := ?_) (a' := ?_) #[true,true,true,true,true,true,false,false,true,false,false] rfl rfl (any_of HT_.out (by kernel_rfl)) (fun _ _ _ h => h) (Or.inl ⟨by rfl, ?_⟩) ?_ ?_; rotate_left
       ·
        intro w'; go_simp
        with_reducible rfl
       rotate_left
       · simp only [Act.put, sA_, sZ_, sS_, i64_w, i32_w]; rfl
       refine pure_ (i := 6) (N := some 15) (v := ?_) (a' := ?_) #[true,true,true,true,true,true,true,false,true,false,false] rfl rfl (any_of HT_.out (by kernel_rfl)) (fun _ _ _ h => h) (Or.inl ⟨by rfl, ?_⟩) ?_ ?_; rotate_left
       ·
        intro w'; go_simp
        with_reducible rfl
       rotate_left
       · simp only [Act.put, sA_, sZ_, sS_, i64_w, i32_w]; rfl
       refine pure_ (i := 7) (N := some 16) (v := ?_) (a' := ?_) #[true,true,true,true,true,true,true,true,true,false,false] rfl rfl (any_of HT_.out (by kernel_rfl)) (fun _ _ _ h => h) (Or.inl ⟨by rfl, ?_⟩) ?_ ?_; rotate_left
       ·
        intro w'; go_simp
        with_reducible rfl
       rotate_left
       · simp only [Act.put, sA_, sZ_, sS_, i64_w, i32_w]; rfl
       exact norm_ (by simp only [putAll, Act.put, sA_, sZ_, sS_]) (hCont (gb229) _ ⟨hHeld, (bk_ BK217), (bk_ BK218), (bk_ BK229), GW229.out, GE229.out, NB217_229.out, NB229_217.out, NB218_229.out, NB229_218.out, (bw_ HB)⟩)
     ·
      refine box_step ?hg (N := 5) ?hd (cs := #[.int .i64 0, .int .i64 0]) (t := 49) ?hr ?_; (case hd => rfl); (case hg => rfl); (case hr => first | (go_simp; done) | (go_simp; rfl))
      intro gb229 hg w43 hbox hb; have n0_ := bb_ BK217 hb; have n1_ := bb_ BK218 hb; have n2_ := bs_ HB hb; have n3_ := Aside0.mk hbox; have n4_ := ge_ HB hg; have n5_ := ge_ HB hg; have n6_ := nl_ BK217 hg; have n7_ := nr_ BK217 hg; have n8_ := nl_ BK218 hg; have n9_ := nr_ BK218 hg; clear BK217 BK218 HB; have BK217 := n0_; have BK218 := n1_; have HB := n2_; have BK229 := n3_; have GW229 := n4_; have GE229 := n5_; have NB217_229 := n6_; have NB229_217 := n7_; have NB218_229 := n8_; have NB229_218 := n9_; clear n0_ n1_ n2_ n3_ n4_ n5_ n6_ n7_ n8_ n9_; clear hb hbox hg; refine hK.out _ _ ⟨bc_ BK217 0, bc_ BK217 1, bc_ BK217 2, bc_ BK217 3, bc_ BK217 4, bc_ BK218 0, bc_ BK218 1⟩ (fun hHeld => ?_); clear hK K
      apply norm_
      · show Act.put _ (some 5) _ = _; simp only [Act.put, sA_, sZ_, sS_, i64_w, i32_w]; rfl
      refine one_ (i := 3) (N := some 13) #[true,true,true,true,false,false,false,false,true,false,false] rfl rfl (one_of HT_.out (by kernel_rfl)) (by decide) (fun K hK => ?_); refine gs_ Try.func36 #[.agg #[.int .i64 a1_0, .int .i64 a1_1]] ?_
      with_reducible refine (laws_toPair.calls a1_0 a1_1 t224 t225 _ A4.out).mono ?_
      rintro e w44 ⟨rfl, hb⟩; refine ⟨_, rfl, ?_⟩; replace BK217 := bb_ BK217 hb; replace BK218 := bb_ BK218 hb; replace BK229 := bb_ BK229 hb; replace HB := bs_ HB hb; (try clear hb); refine hK.out _ _ ⟨bc_ BK217 0, bc_ BK217 1, bc_ BK217 2, bc_ BK217 3, bc_ BK217 4, bc_ BK218 0, bc_ BK218 1⟩ (fun hHeld => ?_); clear hK K
      apply norm_
      · show Act.put _ (some 13) _ = _; simp only [Act.put, sA_, sZ_, sS_, i64_w, i32_w]; rfl
      refine one_ (i := 4) (N := some 14) #[true,true,true,true,true,false,false,false,true,false,false] rfl rfl (one_of HT_.out (by kernel_rfl)) (by decide) (fun K hK => ?_); refine gs_ Try.func46 #[.agg #[.int .i64 t219, .int .i64 t220, .int .i64 t221, .int .i64 t222, .int .i64 t223], .agg #[.int .i64 t224, .int .i64 t225]] ?_
      with_reducible refine (spec_EdCofactor.calls k t219 t220 t221 t222 t223 t224 t225 t226 t227 t228 _ A5.out).mono ?_
      rintro e w45 ⟨rfl, hb⟩; refine ⟨_, rfl, ?_⟩; replace BK217 := bb_ BK217 hb; replace BK218 := bb_ BK218 hb; replace BK229 := bb_ BK229 hb; replace HB := bs_ HB hb; (try clear hb); refine hK.out _ _ ⟨bc_ BK217 0, bc_ BK217 1, bc_ BK217 2, bc_ BK217 3, bc_ BK217 4, bc_ BK218 0, bc_ BK218 1⟩ (fun hHeld => ?_); clear hK K
      apply norm_
      · show Act.put _ (some 14) _ = _; simp only [Act.put, sA_, sZ_, sS_, i64_w, i32_w]; rfl
      refine pure_ (i := 5) (N := some 9) (v := ?_) (a' := ?_) #[true,true,true,true,true,true,false,false,true,false,false] rfl rfl (any_of HT_.out (by kernel_rfl)) (fun _ _ _ h => h) (Or.inl ⟨by rfl, ?_⟩) ?_ ?_; rotate_left
      ·
       intro w'; go_simp
       with_reducible rfl
      rotate_left
      · simp only [Act.put, sA_, sZ_, sS_, i64_w, i32_w]; rfl
      refine pure_ (i := 6) (N := some 15) (v := ?_) (a' := ?_) #[true,true,true,true,true,true,true,false,true,false,false] rfl rfl (any_of HT_.out (by kernel_rfl)) (fun _ _ _ h => h) (Or.inl ⟨by rfl, ?_⟩) ?_ ?_; rotate_left
      ·
       intro w'; go_simp
       with_reducible rfl
      rotate_left
      · simp only [Act.put, sA_, sZ_, sS_, i64_w, i32_w]; rfl
      refine pure_ (i := 7) (N := some 16) (v := ?_) (a' := ?_) #[true,true,true,true,true,true,true,true,true,false,false] rfl rfl (any_of HT_.out (by kernel_rfl)) (fun _ _ _ h => h) (Or.inl ⟨by rfl, ?_⟩) ?_ ?_; rotate_left
      ·
       intro w'; go_simp
       with_reducible rfl
      rotate_left
      · simp only [Act.put, sA_, sZ_, sS_, i64_w, i32_w]; rfl
      exact norm_ (by simp only [putAll, Act.put, sA_, sZ_, sS_]) (hCont (gb229) _ ⟨hHeld, (bk_ BK217), (bk_ BK218), (bk_ BK229), GW229.out, GE229.out, NB217_229.out, NB229_217.out, NB218_229.out, NB229_218.out, (bw_ HB)⟩)
    ·
     refine box_step ?hg (N := 5) ?hd (cs := #[.int .i64 0, .int .i64 0]) (t := 49) ?hr ?_; (case hd => rfl); (case hg => rfl); (case hr => first | (go_simp; done) | (go_simp; rfl))
     intro gb229 hg w42 hbox hb; have n0_ := bb_ BK217 hb; have n1_ := bb_ BK218 hb; have n2_ := bs_ HB hb; have n3_ := Aside0.mk hbox; have n4_ := ge_ HB hg; have n5_ := ge_ HB hg; have n6_ := nl_ BK217 hg; have n7_ := nr_ BK217 hg; have n8_ := nl_ BK218 hg; have n9_ := nr_ BK218 hg; clear BK217 BK218 HB; have BK217 := n0_; have BK218 := n1_; have HB := n2_; have BK229 := n3_; have GW229 := n4_; have GE229 := n5_; have NB217_229 := n6_; have NB229_217 := n7_; have NB218_229 := n8_; have NB229_218 := n9_; clear n0_ n1_ n2_ n3_ n4_ n5_ n6_ n7_ n8_ n9_; clear hb hbox hg; refine hK.out _ _ ⟨bc_ BK217 0, bc_ BK217 1, bc_ BK217 2, bc_ BK217 3, bc_ BK217 4, bc_ BK218 0, bc_ BK218 1⟩ (fun hHeld => ?_); clear hK K
     apply norm_
     · show Act.put _ (some 5) _ = _; simp only [Act.put, sA_, sZ_, sS_, i64_w, i32_w]; rfl
     refine one_ (i := 1) (N := some 11) #[true,true,true,false,false,false,false,false,true,false,false] rfl rfl (one_of HT_.out (by kernel_rfl)) (by decide) (fun K hK => ?_); refine gs_ Try.func28 #[.agg #[.int .i64 a0_0, .int .i64 a0_1, .int .i64 a0_2, .int .i64 a0_3, .int .i64 a0_4]] ?_
     with_reducible refine (laws_toEd.calls a0_0 a0_1 a0_2 a0_3 a0_4 t219 t220 t221 t222 t223 _ A3.out).mono ?_
     rintro e w43 ⟨rfl, hb⟩; refine ⟨_, rfl, ?_⟩; replace BK217 := bb_ BK217 hb; replace BK218 := bb_ BK218 hb; replace BK229 := bb_ BK229 hb; replace HB := bs_ HB hb; (try clear hb); refine hK.out _ _ ⟨bc_ BK217 0, bc_ BK217 1, bc_ BK217 2, bc_ BK217 3, bc_ BK217 4, bc_ BK218 0, bc_ BK218 1⟩ (fun hHeld => ?_); clear hK K
     apply norm_
     · show Act.put _ (some 11) _ = _; simp only [Act.put, sA_, sZ_, sS_, i64_w, i32_w]; rfl
     refine one_ (i := 3) (N := some 13) #[true,true,true,true,false,false,false,false,true,false,false] rfl rfl (one_of HT_.out (by kernel_rfl)) (by decide) (fun K hK => ?_); refine gs_ Try.func36 #[.agg #[.int .i64 a1_0, .int .i64 a1_1]] ?_
     with_reducible refine (laws_toPair.calls a1_0 a1_1 t224 t225 _ A4.out).mono ?_
     rintro e w44 ⟨rfl, hb⟩; refine ⟨_, rfl, ?_⟩; replace BK217 := bb_ BK217 hb; replace BK218 := bb_ BK218 hb; replace BK229 := bb_ BK229 hb; replace HB := bs_ HB hb; (try clear hb); refine hK.out _ _ ⟨bc_ BK217 0, bc_ BK217 1, bc_ BK217 2, bc_ BK217 3, bc_ BK217 4, bc_ BK218 0, bc_ BK218 1⟩ (fun hHeld => ?_); clear hK K
     apply norm_
     · show Act.put _ (some 13) _ = _; simp only [Act.put, sA_, sZ_, sS_, i64_w, i32_w]; rfl
     refine one_ (i := 4) (N := some 14) #[true,true,true,true,true,false,false,false,true,false,false] rfl rfl (one_of HT_.out (by kernel_rfl)) (by decide) (fun K hK => ?_); refine gs_ Try.func46 #[.agg #[.int .i64 t219, .int .i64 t220, .int .i64 t221, .int .i64 t222, .int .i64 t223], .agg #[.int .i64 t224, .int .i64 t225]] ?_
     with_reducible refine (spec_EdCofactor.calls k t219 t220 t221 t222 t223 t224 t225 t226 t227 t228 _ A5.out).mono ?_
     rintro e w45 ⟨rfl, hb⟩; refine ⟨_, rfl, ?_⟩; replace BK217 := bb_ BK217 hb; replace BK218 := bb_ BK218 hb; replace BK229 := bb_ BK229 hb; replace HB := bs_ HB hb; (try clear hb); refine hK.out _ _ ⟨bc_ BK217 0, bc_ BK217 1, bc_ BK217 2, bc_ BK217 3, bc_ BK217 4, bc_ BK218 0, bc_ BK218 1⟩ (fun hHeld => ?_); clear hK K
     apply norm_
     · show Act.put _ (some 14) _ = _; simp only [Act.put, sA_, sZ_, sS_, i64_w, i32_w]; rfl
     refine pure_ (i := 5) (N := some 9) (v := ?_) (a' := ?_) #[true,true,true,true,true,true,false,false,true,false,false] rfl rfl (any_of HT_.out (by kernel_rfl)) (fun _ _ _ h => h) (Or.inl ⟨by rfl, ?_⟩) ?_ ?_; rotate_left
     ·
      intro w'; go_simp
      with_reducible rfl
     rotate_left
     · simp only [Act.put, sA_, sZ_, sS_, i64_w, i32_w]; rfl
     refine pure_ (i := 6) (N := some 15) (v := ?_) (a' := ?_) #[true,true,true,true,true,true,true,false,true,false,false] rfl rfl (any_of HT_.out (by kernel_rfl)) (fun _ _ _ h => h) (Or.inl ⟨by rfl, ?_⟩) ?_ ?_; rotate_left
     ·
      intro w'; go_simp
      with_reducible rfl
     rotate_left
     · simp only [Act.put, sA_, sZ_, sS_, i64_w, i32_w]; rfl
     refine pure_ (i := 7) (N := some 16) (v := ?_) (a' := ?_) #[true,true,true,true,true,true,true,true,true,false,false] rfl rfl (any_of HT_.out (by kernel_rfl)) (fun _ _ _ h => h) (Or.inl ⟨by rfl, ?_⟩) ?_ ?_; rotate_left
     ·
      intro w'; go_simp
      with_reducible rfl
     rotate_left
     · simp only [Act.put, sA_, sZ_, sS_, i64_w, i32_w]; rfl
     exact norm_ (by simp only [putAll, Act.put, sA_, sZ_, sS_]) (hCont (gb229) _ ⟨hHeld, (bk_ BK217), (bk_ BK218), (bk_ BK229), GW229.out, GE229.out, NB217_229.out, NB229_217.out, NB218_229.out, NB229_218.out, (bw_ HB)⟩)
   rintro gb229 w46 ⟨hS_, h0_, h1_, h2_, h3_, h4_, h5_, h6_, h7_, h8_, h9_⟩; replace BK217 := Aside0.mk h0_; replace BK218 := Aside0.mk h1_; have BK229 := Aside0.mk h2_; have GW229 := Aside0.mk h3_; have GE229 := Aside0.mk h4_; have NB217_229 := Aside0.mk h5_; have NB229_217 := Aside0.mk h6_; have NB218_229 := Aside0.mk h7_; have NB229_218 := Aside0.mk h8_; replace HB := Aside0.mk h9_; clear h0_ h1_ h2_ h3_ h4_ h5_ h6_ h7_ h8_ h9_; have hHeld := hS_
   apply norm_
   · simp only [putAll, Act.put, sA_, sZ_, sS_]; rfl
   refine one_ (i := 9) (N := none) #[true,true,true,true,true,true,true,true,true,true,false] rfl rfl (one_of HT_.out (by kernel_rfl)) (by decide) (fun K hK => ?_)
   have hs47 : w46.cell? ⟨gb229, 0, none⟩ = some (.int .i64 0) := bc_ BK229 0
   have hfs47 := blk_frozen BK229.out 0; have hns47_0 := NB217_229.out; have hns47_1 := NB218_229.out; have hms47_0 := NB229_217.out; have hms47_1 := NB229_218.out
   have hs48 : w46.cell? ⟨gb229, 1, none⟩ = some (.int .i64 0) := bc_ BK229 1
   have hfs48 := blk_frozen BK229.out 1; have hns48_0 := NB217_229.out; have hns48_1 := NB218_229.out; have hms48_0 := NB229_217.out; have hms48_1 := NB229_218.out; refine skip_ (w1 := ?_) (by rfl) rfl ?_ ?_; rotate_left
   · go_simp; rfl
   refine hK.out _ _ ⟨((cell_far (p := ⟨gb229, _, none⟩) NB217_229.out _).trans (((cell_far (p := ⟨gb229, _, none⟩) NB217_229.out _).trans (hHeld.1)))), ((cell_far (p := ⟨gb229, _, none⟩) NB217_229.out _).trans (((cell_far (p := ⟨gb229, _, none⟩) NB217_229.out _).trans (hHeld.2.1)))), ((cell_far (p := ⟨gb229, _, none⟩) NB217_229.out _).trans (((cell_far (p := ⟨gb229, _, none⟩) NB217_229.out _).trans (hHeld.2.2.1)))), ((cell_far (p := ⟨gb229, _, none⟩) NB217_229.out _).trans (((cell_far (p := ⟨gb229, _, none⟩) NB217_229.out _).trans (hHeld.2.2.2.1)))), ((cell_far (p := ⟨gb229, _, none⟩) NB217_229.out _).trans (((cell_far (p := ⟨gb229, _, none⟩) NB217_229.out _).trans (hHeld.2.2.2.2.1)))), ((cell_far (p := ⟨gb229, _, none⟩) NB218_229.out _).trans (((cell_far (p := ⟨gb229, _, none⟩) NB218_229.out _).trans (hHeld.2.2.2.2.2.1)))), ((cell_far (p := ⟨gb229, _, none⟩) NB218_229.out _).trans (((cell_far (p := ⟨gb229, _, none⟩) NB218_229.out _).trans (hHeld.2.2.2.2.2.2))))⟩ (fun hHeld => ?_); clear hK K; refine pure_ (i := 10) (N := some 6) (v := ?_) (a' := ?_) #[true,true,true,true,true,true,true,true,true,true,true] rfl rfl (any_of HT_.out (by kernel_rfl)) (fun _ _ _ h => h) (Or.inl ⟨by rfl, ?_⟩) ?_ ?_; rotate_left
   ·
    intro w'; go_simp
    with_reducible rfl
   rotate_left
   · simp only [Act.put, sA_, sZ_, sS_, i64_w, i32_w]; rfl
   refine done_ (done_of HT_.out (by kernel_rfl)) ?_
   try go_wp2
   have n0_ : Aside0 (((w46.setCell ⟨gb229, 0, none⟩ (.int .i64 t226)).setCell ⟨gb229, 1, none⟩ (.int .i64 t227)).heap[gb217]? = some (.cells #[.int .i64 a0_0, .int .i64 a0_1, .int .i64 a0_2, .int .i64 a0_3, .int .i64 a0_4] 35 (0, 0))) := ⟨by (with_reducible repeat (first | refine blk_drewN ?_ _ | refine blk_drew ?_ | refine blk_alloc ?_ _)); refine blk_far ?_ NB217_229.out _; (with_reducible repeat (first | refine blk_drewN ?_ _ | refine blk_drew ?_ | refine blk_alloc ?_ _)); refine blk_far ?_ NB217_229.out _; (with_reducible repeat (first | refine blk_drewN ?_ _ | refine blk_drew ?_ | refine blk_alloc ?_ _)); exact BK217.out⟩
   have n1_ : Aside0 (((w46.setCell ⟨gb229, 0, none⟩ (.int .i64 t226)).setCell ⟨gb229, 1, none⟩ (.int .i64 t227)).heap[gb218]? = some (.cells #[.int .i64 a1_0, .int .i64 a1_1] 47 (0, 0))) := ⟨by (with_reducible repeat (first | refine blk_drewN ?_ _ | refine blk_drew ?_ | refine blk_alloc ?_ _)); refine blk_far ?_ NB218_229.out _; (with_reducible repeat (first | refine blk_drewN ?_ _ | refine blk_drew ?_ | refine blk_alloc ?_ _)); refine blk_far ?_ NB218_229.out _; (with_reducible repeat (first | refine blk_drewN ?_ _ | refine blk_drew ?_ | refine blk_alloc ?_ _)); exact BK218.out⟩
   have n2_ : Aside0 (((w46.setCell ⟨gb229, 0, none⟩ (.int .i64 t226)).setCell ⟨gb229, 1, none⟩ (.int .i64 t227)).heap[gb229]? = some (.cells #[.int .i64 t226, .int .i64 t227] 49 (0, 0))) := ⟨by (with_reducible repeat (first | refine blk_drewN ?_ _ | refine blk_drew ?_ | refine blk_alloc ?_ _)); refine blk_put (cs := #[.int .i64 t226, .int .i64 0]) ?_ 1 _ rfl; (with_reducible repeat (first | refine blk_drewN ?_ _ | refine blk_drew ?_ | refine blk_alloc ?_ _)); refine blk_put (cs := #[.int .i64 0, .int .i64 0]) ?_ 0 _ rfl; (with_reducible repeat (first | refine blk_drewN ?_ _ | refine blk_drew ?_ | refine blk_alloc ?_ _)); exact BK229.out⟩
   have n3_ : Aside0 (Below w.heap.size w ((w46.setCell ⟨gb229, 0, none⟩ (.int .i64 t226)).setCell ⟨gb229, 1, none⟩ (.int .i64 t227))) := ⟨by repeat (first | (with_reducible first | exact HB.out | apply below_alloc | apply pw_below_drewN | apply below_drew1 | refine below_set ?_ GE217.out | refine below_set ?_ GE218.out | refine below_set ?_ GE229.out) | exact HB.out)⟩
   (try clear BK217); (try clear BK218); (try clear BK229); (try clear HB)
   generalize ((w46.setCell ⟨gb229, 0, none⟩ (.int .i64 t226)).setCell ⟨gb229, 1, none⟩ (.int .i64 t227)) = w49 at n0_ n1_ n2_ n3_ ⊢
   have BK217 := n0_; have BK218 := n1_; have BK229 := n2_; have HB := n3_; clear n0_ n1_ n2_ n3_; replace BK217 := Aside0.mk (blk_drew BK217.out); replace BK218 := Aside0.mk (blk_drew BK218.out); replace BK229 := Aside0.mk (blk_drew BK229.out); replace HB := Aside0.mk (below_drew1 HB.out); refine start_ (n := 11) (S := fun w' => w'.cell? ⟨gb217, 0, none⟩ = some (.int .i64 a0_0) ∧ w'.cell? ⟨gb217, 1, none⟩ = some (.int .i64 a0_1) ∧ w'.cell? ⟨gb217, 2, none⟩ = some (.int .i64 a0_2) ∧ w'.cell? ⟨gb217, 3, none⟩ = some (.int .i64 a0_3) ∧ w'.cell? ⟨gb217, 4, none⟩ = some (.int .i64 a0_4) ∧ w'.cell? ⟨gb218, 0, none⟩ = some (.int .i64 a1_0) ∧ w'.cell? ⟨gb218, 1, none⟩ = some (.int .i64 a1_1)) (ds := []) #[false,false,false,false,false,false,false,false,false,false,false] (by kernel_rfl) rfl rfl ⟨bc_ BK217 0, bc_ BK217 1, bc_ BK217 2, bc_ BK217 3, bc_ BK217 4, bc_ BK218 0, bc_ BK218 1⟩ (fun hHeld => ?_); refine with_tabW laws_FnExactEdCofactor.tab2 laws_FnExactEdCofactor.bits2 (fun HT_ HW_ => ?_)
   generalize w49.drew = w50 at BK217 BK218 BK229 HB hHeld ⊢
   refine take_ (i := 0) (N := some 18) (v := ?_) (a' := ?_) #[true,false,false,false,false,false,false,false,false,false,false] rfl rfl (take_ofW HT_.out HW_.out (by kernel_rfl)) (fun _ _ _ h => h) (Or.inl ⟨by rfl, ?_⟩) hHeld ?_ ?_; rotate_left
   ·
    rintro w' ⟨s0, s1, s2, s3, s4, s5, s6⟩; go_simp
    with_reducible rfl
   rotate_left
   · simp only [Act.put, sA_, sZ_, sS_, i64_w, i32_w]; rfl
   refine take_ (i := 2) (N := some 20) (v := ?_) (a' := ?_) #[true,false,true,false,false,false,false,false,false,false,false] rfl rfl (take_ofW HT_.out HW_.out (by kernel_rfl)) (fun _ _ _ h => h) (Or.inl ⟨by rfl, ?_⟩) hHeld ?_ ?_; rotate_left
   ·
    rintro w' ⟨s0, s1, s2, s3, s4, s5, s6⟩; go_simp
    with_reducible rfl
   rotate_left
   · simp only [Act.put, sA_, sZ_, sS_, i64_w, i32_w]; rfl
   refine join_ (σ := Nat) 2 #[true,true,true,true,true,true,true,true,true,false,false] (fun s_ => [(19, .agg #[.int .i64 t230, .int .i64 t231, .int .i64 t232, .int .i64 t233, .int .i64 t234]), (21, .agg #[.int .i64 t235, .int .i64 t236]), (22, .tuple #[.agg #[.int .i64 t237, .int .i64 t238], .bool t239]), (7, .pointer (some ⟨s_, 0, none⟩)), (17, .tuple #[.agg #[.int .i64 t237, .int .i64 t238], .bool t239]), (23, .agg #[.int .i64 t237, .int .i64 t238]), (24, .bool t239)]) (fun s_ w' => (w'.cell? ⟨gb217, 0, none⟩ = some (.int .i64 a0_0) ∧ w'.cell? ⟨gb217, 1, none⟩ = some (.int .i64 a0_1) ∧ w'.cell? ⟨gb217, 2, none⟩ = some (.int .i64 a0_2) ∧ w'.cell? ⟨gb217, 3, none⟩ = some (.int .i64 a0_3) ∧ w'.cell? ⟨gb217, 4, none⟩ = some (.int .i64 a0_4) ∧ w'.cell? ⟨gb218, 0, none⟩ = some (.int .i64 a1_0) ∧ w'.cell? ⟨gb218, 1, none⟩ = some (.int .i64 a1_1)) ∧ (w'.heap[gb217]? = some (.cells #[.int .i64 a0_0, .int .i64 a0_1, .int .i64 a0_2, .int .i64 a0_3, .int .i64 a0_4] 35 (0, 0))) ∧ (w'.heap[gb218]? = some (.cells #[.int .i64 a1_0, .int .i64 a1_1] 47 (0, 0))) ∧ (w'.heap[gb229]? = some (.cells #[.int .i64 t226, .int .i64 t227] 49 (0, 0))) ∧ (w'.heap[s_]? = some (.cells #[.int .i64 0, .int .i64 0] 49 (0, 0))) ∧ (w.heap.size ≤ s_) ∧ (w.heap.size ≤ s_) ∧ (gb217 ≠ s_) ∧ (s_ ≠ gb217) ∧ (gb218 ≠ s_) ∧ (s_ ≠ gb218) ∧ (gb229 ≠ s_) ∧ (s_ ≠ gb229) ∧ (Below w.heap.size w w')) ?_ ?_; rotate_left
   ·
    intro hCont; refine two_ (i := 1) (j := 8) (Ni := some 19) (Nj := some 7) #[true,true,true,false,false,false,false,false,false,false,false] #[true,false,true,false,false,false,false,false,true,false,false] rfl rfl rfl rfl (two_of HT_.out (by kernel_rfl)) (by decide) (by decide) (fun K hK => ?_) (fun K hK => ?_)
    ·
     refine gs_ Try.func28 #[.agg #[.int .i64 a0_0, .int .i64 a0_1, .int .i64 a0_2, .int .i64 a0_3, .int .i64 a0_4]] ?_
     with_reducible refine (laws_toEd.calls a0_0 a0_1 a0_2 a0_3 a0_4 t230 t231 t232 t233 t234 _ A6.out).mono ?_
     rintro e w51 ⟨rfl, hb⟩; refine ⟨_, rfl, ?_⟩; replace BK217 := bb_ BK217 hb; replace BK218 := bb_ BK218 hb; replace BK229 := bb_ BK229 hb; replace HB := bs_ HB hb; (try clear hb); refine hK.out _ _ ⟨bc_ BK217 0, bc_ BK217 1, bc_ BK217 2, bc_ BK217 3, bc_ BK217 4, bc_ BK218 0, bc_ BK218 1⟩ (fun hHeld => ?_); clear hK K
     apply norm_
     · show Act.put _ (some 19) _ = _; simp only [Act.put, sA_, sZ_, sS_, i64_w, i32_w]; rfl
     refine two_ (i := 3) (j := 8) (Ni := some 21) (Nj := some 7) #[true,true,true,true,false,false,false,false,false,false,false] #[true,true,true,false,false,false,false,false,true,false,false] rfl rfl rfl rfl (two_of HT_.out (by kernel_rfl)) (by decide) (by decide) (fun K hK => ?_) (fun K hK => ?_)
     ·
      refine gs_ Try.func36 #[.agg #[.int .i64 a1_0, .int .i64 a1_1]] ?_
      with_reducible refine (laws_toPair.calls a1_0 a1_1 t235 t236 _ A7.out).mono ?_
      rintro e w52 ⟨rfl, hb⟩; refine ⟨_, rfl, ?_⟩; replace BK217 := bb_ BK217 hb; replace BK218 := bb_ BK218 hb; replace BK229 := bb_ BK229 hb; replace HB := bs_ HB hb; (try clear hb); refine hK.out _ _ ⟨bc_ BK217 0, bc_ BK217 1, bc_ BK217 2, bc_ BK217 3, bc_ BK217 4, bc_ BK218 0, bc_ BK218 1⟩ (fun hHeld => ?_); clear hK K
      apply norm_
      · show Act.put _ (some 21) _ = _; simp only [Act.put, sA_, sZ_, sS_, i64_w, i32_w]; rfl
      refine two_ (i := 4) (j := 8) (Ni := some 22) (Nj := some 7) #[true,true,true,true,true,false,false,false,false,false,false] #[true,true,true,true,false,false,false,false,true,false,false] rfl rfl rfl rfl (two_of HT_.out (by kernel_rfl)) (by decide) (by decide) (fun K hK => ?_) (fun K hK => ?_)
      ·
       refine gs_ Try.func47 #[.agg #[.int .i64 t230, .int .i64 t231, .int .i64 t232, .int .i64 t233, .int .i64 t234], .agg #[.int .i64 t235, .int .i64 t236]] ?_
       with_reducible refine (impl_EdCofactor.calls k t230 t231 t232 t233 t234 t235 t236 t237 t238 t239 _ A8.out).mono ?_
       rintro e w53 ⟨rfl, hb⟩; refine ⟨_, rfl, ?_⟩; replace BK217 := bb_ BK217 hb; replace BK218 := bb_ BK218 hb; replace BK229 := bb_ BK229 hb; replace HB := bs_ HB hb; (try clear hb); refine hK.out _ _ ⟨bc_ BK217 0, bc_ BK217 1, bc_ BK217 2, bc_ BK217 3, bc_ BK217 4, bc_ BK218 0, bc_ BK218 1⟩ (fun hHeld => ?_); clear hK K
       apply norm_
       · show Act.put _ (some 22) _ = _; simp only [Act.put, sA_, sZ_, sS_, i64_w, i32_w]; rfl
       refine pure_ (i := 5) (N := some 17) (v := ?_) (a' := ?_) #[true,true,true,true,true,true,false,false,false,false,false] rfl rfl (any_of HT_.out (by kernel_rfl)) (fun _ _ _ h => h) (Or.inl ⟨by rfl, ?_⟩) ?_ ?_; rotate_left
       ·
        intro w'; go_simp
        with_reducible rfl
       rotate_left
       · simp only [Act.put, sA_, sZ_, sS_, i64_w, i32_w]; rfl
       refine pure_ (i := 6) (N := some 23) (v := ?_) (a' := ?_) #[true,true,true,true,true,true,true,false,false,false,false] rfl rfl (any_of HT_.out (by kernel_rfl)) (fun _ _ _ h => h) (Or.inl ⟨by rfl, ?_⟩) ?_ ?_; rotate_left
       ·
        intro w'; go_simp
        with_reducible rfl
       rotate_left
       · simp only [Act.put, sA_, sZ_, sS_, i64_w, i32_w]; rfl
       refine pure_ (i := 7) (N := some 24) (v := ?_) (a' := ?_) #[true,true,true,true,true,true,true,true,false,false,false] rfl rfl (any_of HT_.out (by kernel_rfl)) (fun _ _ _ h => h) (Or.inl ⟨by rfl, ?_⟩) ?_ ?_; rotate_left
       ·
        intro w'; go_simp
        with_reducible rfl
       rotate_left
       · simp only [Act.put, sA_, sZ_, sS_, i64_w, i32_w]; rfl
       refine one_ (i := 8) (N := some 7) #[true,true,true,true,true,true,true,true,true,false,false] rfl rfl (one_of HT_.out (by kernel_rfl)) (by decide) (fun K hK => ?_); refine box_step ?hg (N := 7) ?hd (cs := #[.int .i64 0, .int .i64 0]) (t := 49) ?hr ?_; (case hd => rfl); (case hg => rfl); (case hr => first | (go_simp; done) | (go_simp; rfl))
       intro gb240 hg w54 hbox hb; have n0_ := bb_ BK217 hb; have n1_ := bb_ BK218 hb; have n2_ := bb_ BK229 hb; have n3_ := bs_ HB hb; have n4_ := Aside0.mk hbox; have n5_ := ge_ HB hg; have n6_ := ge_ HB hg; have n7_ := nl_ BK217 hg; have n8_ := nr_ BK217 hg; have n9_ := nl_ BK218 hg; have n10_ := nr_ BK218 hg; have n11_ := nl_ BK229 hg; have n12_ := nr_ BK229 hg; clear BK217 BK218 BK229 HB; have BK217 := n0_; have BK218 := n1_; have BK229 := n2_; have HB := n3_; have BK240 := n4_; have GW240 := n5_; have GE240 := n6_; have NB217_240 := n7_; have NB240_217 := n8_; have NB218_240 := n9_; have NB240_218 := n10_; have NB229_240 := n11_; have NB240_229 := n12_; clear n0_ n1_ n2_ n3_ n4_ n5_ n6_ n7_ n8_ n9_ n10_ n11_ n12_; clear hb hbox hg; refine hK.out _ _ ⟨bc_ BK217 0, bc_ BK217 1, bc_ BK217 2, bc_ BK217 3, bc_ BK217 4, bc_ BK218 0, bc_ BK218 1⟩ (fun hHeld => ?_); clear hK K
       apply norm_
       · show Act.put _ (some 7) _ = _; simp only [Act.put, sA_, sZ_, sS_, i64_w, i32_w]; rfl
       exact norm_ (by simp only [putAll, Act.put, sA_, sZ_, sS_]) (hCont (gb240) _ ⟨hHeld, (bk_ BK217), (bk_ BK218), (bk_ BK229), (bk_ BK240), GW240.out, GE240.out, NB217_240.out, NB240_217.out, NB218_240.out, NB240_218.out, NB229_240.out, NB240_229.out, (bw_ HB)⟩)
      ·
       refine box_step ?hg (N := 7) ?hd (cs := #[.int .i64 0, .int .i64 0]) (t := 49) ?hr ?_; (case hd => rfl); (case hg => rfl); (case hr => first | (go_simp; done) | (go_simp; rfl))
       intro gb240 hg w53 hbox hb; have n0_ := bb_ BK217 hb; have n1_ := bb_ BK218 hb; have n2_ := bb_ BK229 hb; have n3_ := bs_ HB hb; have n4_ := Aside0.mk hbox; have n5_ := ge_ HB hg; have n6_ := ge_ HB hg; have n7_ := nl_ BK217 hg; have n8_ := nr_ BK217 hg; have n9_ := nl_ BK218 hg; have n10_ := nr_ BK218 hg; have n11_ := nl_ BK229 hg; have n12_ := nr_ BK229 hg; clear BK217 BK218 BK229 HB; have BK217 := n0_; have BK218 := n1_; have BK229 := n2_; have HB := n3_; have BK240 := n4_; have GW240 := n5_; have GE240 := n6_; have NB217_240 := n7_; have NB240_217 := n8_; have NB218_240 := n9_; have NB240_218 := n10_; have NB229_240 := n11_; have NB240_229 := n12_; clear n0_ n1_ n2_ n3_ n4_ n5_ n6_ n7_ n8_ n9_ n10_ n11_ n12_; clear hb hbox hg; refine hK.out _ _ ⟨bc_ BK217 0, bc_ BK217 1, bc_ BK217 2, bc_ BK217 3, bc_ BK217 4, bc_ BK218 0, bc_ BK218 1⟩ (fun hHeld => ?_); clear hK K
       apply norm_
       · show Act.put _ (some 7) _ = _; simp only [Act.put, sA_, sZ_, sS_, i64_w, i32_w]; rfl
       refine one_ (i := 4) (N := some 22) #[true,true,true,true,true,false,false,false,true,false,false] rfl rfl (one_of HT_.out (by kernel_rfl)) (by decide) (fun K hK => ?_); refine gs_ Try.func47 #[.agg #[.int .i64 t230, .int .i64 t231, .int .i64 t232, .int .i64 t233, .int .i64 t234], .agg #[.int .i64 t235, .int .i64 t236]] ?_
       with_reducible refine (impl_EdCofactor.calls k t230 t231 t232 t233 t234 t235 t236 t237 t238 t239 _ A8.out).mono ?_
       rintro e w54 ⟨rfl, hb⟩; refine ⟨_, rfl, ?_⟩; replace BK217 := bb_ BK217 hb; replace BK218 := bb_ BK218 hb; replace BK229 := bb_ BK229 hb; replace BK240 := bb_ BK240 hb; replace HB := bs_ HB hb; (try clear hb); refine hK.out _ _ ⟨bc_ BK217 0, bc_ BK217 1, bc_ BK217 2, bc_ BK217 3, bc_ BK217 4, bc_ BK218 0, bc_ BK218 1⟩ (fun hHeld => ?_); clear hK K
       apply norm_
       · show Act.put _ (some 22) _ = _; simp only [Act.put, sA_, sZ_, sS_, i64_w, i32_w]; rfl
       refine pure_ (i := 5) (N := some 17) (v := ?_) (a' := ?_) #[true,true,true,true,true,true,false,false,true,false,false] rfl rfl (any_of HT_.out (by kernel_rfl)) (fun _ _ _ h => h) (Or.inl ⟨by rfl, ?_⟩) ?_ ?_; rotate_left
       ·
        intro w'; go_simp
        with_reducible rfl
       rotate_left
       · simp only [Act.put, sA_, sZ_, sS_, i64_w, i32_w]; rfl
       refine pure_ (i := 6) (N := some 23) (v := ?_) (a' := ?_) #[true,true,true,true,true,true,true,false,true,false,false] rfl rfl (any_of HT_.out (by kernel_rfl)) (fun _ _ _ h => h) (Or.inl ⟨by rfl, ?_⟩) ?_ ?_; rotate_left
       ·
        intro w'; go_simp
        with_reducible rfl
       rotate_left
       · simp only [Act.put, sA_, sZ_, sS_, i64_w, i32_w]; rfl
       refine pure_ (i := 7) (N := some 24) (v := ?_) (a' := ?_) #[true,true,true,true,true,true,true,true,true,false,false] rfl rfl (any_of HT_.out (by kernel_rfl)) (fun _ _ _ h => h) (Or.inl ⟨by rfl, ?_⟩) ?_ ?_; rotate_left
       ·
        intro w'; go_simp
        with_reducible rfl
       rotate_left
       · simp only [Act.put, sA_, sZ_, sS_, i64_w, i32_w]; rfl
       exact norm_ (by simp only [putAll, Act.put, sA_, sZ_, sS_]) (hCont (gb240) _ ⟨hHeld, (bk_ BK217), (bk_ BK218), (bk_ BK229), (bk_ BK240), GW240.out, GE240.out, NB217_240.out, NB240_217.out, NB218_240.out, NB240_218.out, NB229_240.out, NB240_229.out, (bw_ HB)⟩)
     ·
      refine box_step ?hg (N := 7) ?hd (cs := #[.int .i64 0, .int .i64 0]) (t := 49) ?hr ?_; (case hd => rfl); (case hg => rfl); (case hr => first | (go_simp; done) | (go_simp; rfl))
      intro gb240 hg w52 hbox hb; have n0_ := bb_ BK217 hb; have n1_ := bb_ BK218 hb; have n2_ := bb_ BK229 hb; have n3_ := bs_ HB hb; have n4_ := Aside0.mk hbox; have n5_ := ge_ HB hg; have n6_ := ge_ HB hg; have n7_ := nl_ BK217 hg; have n8_ := nr_ BK217 hg; have n9_ := nl_ BK218 hg; have n10_ := nr_ BK218 hg; have n11_ := nl_ BK229 hg; have n12_ := nr_ BK229 hg; clear BK217 BK218 BK229 HB; have BK217 := n0_; have BK218 := n1_; have BK229 := n2_; have HB := n3_; have BK240 := n4_; have GW240 := n5_; have GE240 := n6_; have NB217_240 := n7_; have NB240_217 := n8_; have NB218_240 := n9_; have NB240_218 := n10_; have NB229_240 := n11_; have NB240_229 := n12_; clear n0_ n1_ n2_ n3_ n4_ n5_ n6_ n7_ n8_ n9_ n10_ n11_ n12_; clear hb hbox hg; refine hK.out _ _ ⟨bc_ BK217 0, bc_ BK217 1, bc_ BK217 2, bc_ BK217 3, bc_ BK217 4, bc_ BK218 0, bc_ BK218 1⟩ (fun hHeld => ?_); clear hK K
      apply norm_
      · show Act.put _ (some 7) _ = _; simp only [Act.put, sA_, sZ_, sS_, i64_w, i32_w]; rfl
      refine one_ (i := 3) (N := some 21) #[true,true,true,true,false,false,false,false,true,false,false] rfl rfl (one_of HT_.out (by kernel_rfl)) (by decide) (fun K hK => ?_); refine gs_ Try.func36 #[.agg #[.int .i64 a1_0, .int .i64 a1_1]] ?_
      with_reducible refine (laws_toPair.calls a1_0 a1_1 t235 t236 _ A7.out).mono ?_
      rintro e w53 ⟨rfl, hb⟩; refine ⟨_, rfl, ?_⟩; replace BK217 := bb_ BK217 hb; replace BK218 := bb_ BK218 hb; replace BK229 := bb_ BK229 hb; replace BK240 := bb_ BK240 hb; replace HB := bs_ HB hb; (try clear hb); refine hK.out _ _ ⟨bc_ BK217 0, bc_ BK217 1, bc_ BK217 2, bc_ BK217 3, bc_ BK217 4, bc_ BK218 0, bc_ BK218 1⟩ (fun hHeld => ?_); clear hK K
      apply norm_
      · show Act.put _ (some 21) _ = _; simp only [Act.put, sA_, sZ_, sS_, i64_w, i32_w]; rfl
      refine one_ (i := 4) (N := some 22) #[true,true,true,true,true,false,false,false,true,false,false] rfl rfl (one_of HT_.out (by kernel_rfl)) (by decide) (fun K hK => ?_); refine gs_ Try.func47 #[.agg #[.int .i64 t230, .int .i64 t231, .int .i64 t232, .int .i64 t233, .int .i64 t234], .agg #[.int .i64 t235, .int .i64 t236]] ?_
      with_reducible refine (impl_EdCofactor.calls k t230 t231 t232 t233 t234 t235 t236 t237 t238 t239 _ A8.out).mono ?_
      rintro e w54 ⟨rfl, hb⟩; refine ⟨_, rfl, ?_⟩; replace BK217 := bb_ BK217 hb; replace BK218 := bb_ BK218 hb; replace BK229 := bb_ BK229 hb; replace BK240 := bb_ BK240 hb; replace HB := bs_ HB hb; (try clear hb); refine hK.out _ _ ⟨bc_ BK217 0, bc_ BK217 1, bc_ BK217 2, bc_ BK217 3, bc_ BK217 4, bc_ BK218 0, bc_ BK218 1⟩ (fun hHeld => ?_); clear hK K
      apply norm_
      · show Act.put _ (some 22) _ = _; simp only [Act.put, sA_, sZ_, sS_, i64_w, i32_w]; rfl
      refine pure_ (i := 5) (N := some 17) (v := ?_) (a' := ?_) #[true,true,true,true,true,true,false,false,true,false,false] rfl rfl (any_of HT_.out (by kernel_rfl)) (fun _ _ _ h => h) (Or.inl ⟨by rfl, ?_⟩) ?_ ?_; rotate_left
      ·
       intro w'; go_simp
       with_reducible rfl
      rotate_left
      · simp only [Act.put, sA_, sZ_, sS_, i64_w, i32_w]; rfl
      refine pure_ (i := 6) (N := some 23) (v := ?_) (a' := ?_) #[true,true,true,true,true,true,true,false,true,false,false] rfl rfl (any_of HT_.out (by kernel_rfl)) (fun _ _ _ h => h) (Or.inl ⟨by rfl, ?_⟩) ?_ ?_; rotate_left
      ·
       intro w'; go_simp
       with_reducible rfl
      rotate_left
      · simp only [Act.put, sA_, sZ_, sS_, i64_w, i32_w]; rfl
      refine pure_ (i := 7) (N := some 24) (v := ?_) (a' := ?_) #[true,true,true,true,true,true,true,true,true,false,false] rfl rfl (any_of HT_.out (by kernel_rfl)) (fun _ _ _ h => h) (Or.inl ⟨by rfl, ?_⟩) ?_ ?_; rotate_left
      ·
       intro w'; go_simp
       with_reducible rfl
      rotate_left
      · simp only [Act.put, sA_, sZ_, sS_, i64_w, i32_w]; rfl
      exact norm_ (by simp only [putAll, Act.put, sA_, sZ_, sS_]) (hCont (gb240) _ ⟨hHeld, (bk_ BK217), (bk_ BK218), (bk_ BK229), (bk_ BK240), GW240.out, GE240.out, NB217_240.out, NB240_217.out, NB218_240.out, NB240_218.out, NB229_240.out, NB240_229.out, (bw_ HB)⟩)
    ·
     refine box_step ?hg (N := 7) ?hd (cs := #[.int .i64 0, .int .i64 0]) (t := 49) ?hr ?_; (case hd => rfl); (case hg => rfl); (case hr => first | (go_simp; done) | (go_simp; rfl))
     intro gb240 hg w51 hbox hb; have n0_ := bb_ BK217 hb; have n1_ := bb_ BK218 hb; have n2_ := bb_ BK229 hb; have n3_ := bs_ HB hb; have n4_ := Aside0.mk hbox; have n5_ := ge_ HB hg; have n6_ := ge_ HB hg; have n7_ := nl_ BK217 hg; have n8_ := nr_ BK217 hg; have n9_ := nl_ BK218 hg; have n10_ := nr_ BK218 hg; have n11_ := nl_ BK229 hg; have n12_ := nr_ BK229 hg; clear BK217 BK218 BK229 HB; have BK217 := n0_; have BK218 := n1_; have BK229 := n2_; have HB := n3_; have BK240 := n4_; have GW240 := n5_; have GE240 := n6_; have NB217_240 := n7_; have NB240_217 := n8_; have NB218_240 := n9_; have NB240_218 := n10_; have NB229_240 := n11_; have NB240_229 := n12_; clear n0_ n1_ n2_ n3_ n4_ n5_ n6_ n7_ n8_ n9_ n10_ n11_ n12_; clear hb hbox hg; refine hK.out _ _ ⟨bc_ BK217 0, bc_ BK217 1, bc_ BK217 2, bc_ BK217 3, bc_ BK217 4, bc_ BK218 0, bc_ BK218 1⟩ (fun hHeld => ?_); clear hK K
     apply norm_
     · show Act.put _ (some 7) _ = _; simp only [Act.put, sA_, sZ_, sS_, i64_w, i32_w]; rfl
     refine one_ (i := 1) (N := some 19) #[true,true,true,false,false,false,false,false,true,false,false] rfl rfl (one_of HT_.out (by kernel_rfl)) (by decide) (fun K hK => ?_); refine gs_ Try.func28 #[.agg #[.int .i64 a0_0, .int .i64 a0_1, .int .i64 a0_2, .int .i64 a0_3, .int .i64 a0_4]] ?_
     with_reducible refine (laws_toEd.calls a0_0 a0_1 a0_2 a0_3 a0_4 t230 t231 t232 t233 t234 _ A6.out).mono ?_
     rintro e w52 ⟨rfl, hb⟩; refine ⟨_, rfl, ?_⟩; replace BK217 := bb_ BK217 hb; replace BK218 := bb_ BK218 hb; replace BK229 := bb_ BK229 hb; replace BK240 := bb_ BK240 hb; replace HB := bs_ HB hb; (try clear hb); refine hK.out _ _ ⟨bc_ BK217 0, bc_ BK217 1, bc_ BK217 2, bc_ BK217 3, bc_ BK217 4, bc_ BK218 0, bc_ BK218 1⟩ (fun hHeld => ?_); clear hK K
     apply norm_
     · show Act.put _ (some 19) _ = _; simp only [Act.put, sA_, sZ_, sS_, i64_w, i32_w]; rfl
     refine one_ (i := 3) (N := some 21) #[true,true,true,true,false,false,false,false,true,false,false] rfl rfl (one_of HT_.out (by kernel_rfl)) (by decide) (fun K hK => ?_); refine gs_ Try.func36 #[.agg #[.int .i64 a1_0, .int .i64 a1_1]] ?_
     with_reducible refine (laws_toPair.calls a1_0 a1_1 t235 t236 _ A7.out).mono ?_
     rintro e w53 ⟨rfl, hb⟩; refine ⟨_, rfl, ?_⟩; replace BK217 := bb_ BK217 hb; replace BK218 := bb_ BK218 hb; replace BK229 := bb_ BK229 hb; replace BK240 := bb_ BK240 hb; replace HB := bs_ HB hb; (try clear hb); refine hK.out _ _ ⟨bc_ BK217 0, bc_ BK217 1, bc_ BK217 2, bc_ BK217 3, bc_ BK217 4, bc_ BK218 0, bc_ BK218 1⟩ (fun hHeld => ?_); clear hK K
     apply norm_
     · show Act.put _ (some 21) _ = _; simp only [Act.put, sA_, sZ_, sS_, i64_w, i32_w]; rfl
     refine one_ (i := 4) (N := some 22) #[true,true,true,true,true,false,false,false,true,false,false] rfl rfl (one_of HT_.out (by kernel_rfl)) (by decide) (fun K hK => ?_); refine gs_ Try.func47 #[.agg #[.int .i64 t230, .int .i64 t231, .int .i64 t232, .int .i64 t233, .int .i64 t234], .agg #[.int .i64 t235, .int .i64 t236]] ?_
     with_reducible refine (impl_EdCofactor.calls k t230 t231 t232 t233 t234 t235 t236 t237 t238 t239 _ A8.out).mono ?_
     rintro e w54 ⟨rfl, hb⟩; refine ⟨_, rfl, ?_⟩; replace BK217 := bb_ BK217 hb; replace BK218 := bb_ BK218 hb; replace BK229 := bb_ BK229 hb; replace BK240 := bb_ BK240 hb; replace HB := bs_ HB hb; (try clear hb); refine hK.out _ _ ⟨bc_ BK217 0, bc_ BK217 1, bc_ BK217 2, bc_ BK217 3, bc_ BK217 4, bc_ BK218 0, bc_ BK218 1⟩ (fun hHeld => ?_); clear hK K
     apply norm_
     · show Act.put _ (some 22) _ = _; simp only [Act.put, sA_, sZ_, sS_, i64_w, i32_w]; rfl
     refine pure_ (i := 5) (N := some 17) (v := ?_) (a' := ?_) #[true,true,true,true,true,true,false,false,true,false,false] rfl rfl (any_of HT_.out (by kernel_rfl)) (fun _ _ _ h => h) (Or.inl ⟨by rfl, ?_⟩) ?_ ?_; rotate_left
     ·
      intro w'; go_simp
      with_reducible rfl
     rotate_left
     · simp only [Act.put, sA_, sZ_, sS_, i64_w, i32_w]; rfl
     refine pure_ (i := 6) (N := some 23) (v := ?_) (a' := ?_) #[true,true,true,true,true,true,true,false,true,false,false] rfl rfl (any_of HT_.out (by kernel_rfl)) (fun _ _ _ h => h) (Or.inl ⟨by rfl, ?_⟩) ?_ ?_; rotate_left
     ·
      intro w'; go_simp
      with_reducible rfl
     rotate_left
     · simp only [Act.put, sA_, sZ_, sS_, i64_w, i32_w]; rfl
     refine pure_ (i := 7) (N := some 24) (v := ?_) (a' := ?_) #[true,true,true,true,true,true,true,true,true,false,false] rfl rfl (any_of HT_.out (by kernel_rfl)) (fun _ _ _ h => h) (Or.inl ⟨by rfl, ?_⟩) ?_ ?_; rotate_left
     ·
      intro w'; go_simp
      with_reducible rfl
     rotate_left
     · simp only [Act.put, sA_, sZ_, sS_, i64_w, i32_w]; rfl
     exact norm_ (by simp only [putAll, Act.put, sA_, sZ_, sS_]) (hCont (gb240) _ ⟨hHeld, (bk_ BK217), (bk_ BK218), (bk_ BK229), (bk_ BK240), GW240.out, GE240.out, NB217_240.out, NB240_217.out, NB218_240.out, NB240_218.out, NB229_240.out, NB240_229.out, (bw_ HB)⟩)
   rintro gb240 w55 ⟨hS_, h0_, h1_, h2_, h3_, h4_, h5_, h6_, h7_, h8_, h9_, h10_, h11_, h12_⟩; replace BK217 := Aside0.mk h0_; replace BK218 := Aside0.mk h1_; replace BK229 := Aside0.mk h2_; have BK240 := Aside0.mk h3_; have GW240 := Aside0.mk h4_; have GE240 := Aside0.mk h5_; have NB217_240 := Aside0.mk h6_; have NB240_217 := Aside0.mk h7_; have NB218_240 := Aside0.mk h8_; have NB240_218 := Aside0.mk h9_; have NB229_240 := Aside0.mk h10_; have NB240_229 := Aside0.mk h11_; replace HB := Aside0.mk h12_; clear h0_ h1_ h2_ h3_ h4_ h5_ h6_ h7_ h8_ h9_ h10_ h11_ h12_; have hHeld := hS_
   apply norm_
   · simp only [putAll, Act.put, sA_, sZ_, sS_]; rfl
   refine one_ (i := 9) (N := none) #[true,true,true,true,true,true,true,true,true,true,false] rfl rfl (one_of HT_.out (by kernel_rfl)) (by decide) (fun K hK => ?_)
   have hs56 : w55.cell? ⟨gb240, 0, none⟩ = some (.int .i64 0) := bc_ BK240 0
   have hfs56 := blk_frozen BK240.out 0; have hns56_0 := NB217_240.out; have hns56_1 := NB218_240.out; have hns56_2 := NB229_240.out; have hms56_0 := NB240_217.out; have hms56_1 := NB240_218.out; have hms56_2 := NB240_229.out
   have hs57 : w55.cell? ⟨gb240, 1, none⟩ = some (.int .i64 0) := bc_ BK240 1
   have hfs57 := blk_frozen BK240.out 1; have hns57_0 := NB217_240.out; have hns57_1 := NB218_240.out; have hns57_2 := NB229_240.out; have hms57_0 := NB240_217.out; have hms57_1 := NB240_218.out; have hms57_2 := NB240_229.out; refine skip_ (w1 := ?_) (by rfl) rfl ?_ ?_; rotate_left
   · go_simp; rfl
   refine hK.out _ _ ⟨((cell_far (p := ⟨gb240, _, none⟩) NB217_240.out _).trans (((cell_far (p := ⟨gb240, _, none⟩) NB217_240.out _).trans (hHeld.1)))), ((cell_far (p := ⟨gb240, _, none⟩) NB217_240.out _).trans (((cell_far (p := ⟨gb240, _, none⟩) NB217_240.out _).trans (hHeld.2.1)))), ((cell_far (p := ⟨gb240, _, none⟩) NB217_240.out _).trans (((cell_far (p := ⟨gb240, _, none⟩) NB217_240.out _).trans (hHeld.2.2.1)))), ((cell_far (p := ⟨gb240, _, none⟩) NB217_240.out _).trans (((cell_far (p := ⟨gb240, _, none⟩) NB217_240.out _).trans (hHeld.2.2.2.1)))), ((cell_far (p := ⟨gb240, _, none⟩) NB217_240.out _).trans (((cell_far (p := ⟨gb240, _, none⟩) NB217_240.out _).trans (hHeld.2.2.2.2.1)))), ((cell_far (p := ⟨gb240, _, none⟩) NB218_240.out _).trans (((cell_far (p := ⟨gb240, _, none⟩) NB218_240.out _).trans (hHeld.2.2.2.2.2.1)))), ((cell_far (p := ⟨gb240, _, none⟩) NB218_240.out _).trans (((cell_far (p := ⟨gb240, _, none⟩) NB218_240.out _).trans (hHeld.2.2.2.2.2.2))))⟩ (fun hHeld => ?_); clear hK K; refine pure_ (i := 10) (N := some 8) (v := ?_) (a' := ?_) #[true,true,true,true,true,true,true,true,true,true,true] rfl rfl (any_of HT_.out (by kernel_rfl)) (fun _ _ _ h => h) (Or.inl ⟨by rfl, ?_⟩) ?_ ?_; rotate_left
   ·
    intro w'; go_simp
    with_reducible rfl
   rotate_left
   · simp only [Act.put, sA_, sZ_, sS_, i64_w, i32_w]; rfl
   refine done_ (done_of HT_.out (by kernel_rfl)) ?_; have hnb58 := NB240_217.out; have hnc58 := NB217_240.out; have hnb59 := NB240_218.out; have hnc59 := NB218_240.out; have hnb60 := NB240_229.out; have hnc60 := NB229_240.out
   have hcz61_0 : w55.cell? ⟨gb240, 0, none⟩ = some (.int .i64 0) := bc_ BK240 0
   have hcz61_1 : w55.cell? ⟨gb240, 1, none⟩ = some (.int .i64 0) := bc_ BK240 1
   have hfz61_0 := blk_frozen BK240.out 0; have hfz61_1 := blk_frozen BK240.out 1; have hnb62 := NB229_217.out; have hnc62 := NB217_229.out; have hnb63 := NB229_218.out; have hnc63 := NB218_229.out
   have hcz64_0 : w55.cell? ⟨gb229, 0, none⟩ = some (.int .i64 t226) := bc_ BK229 0
   have hcz64_1 : w55.cell? ⟨gb229, 1, none⟩ = some (.int .i64 t227) := bc_ BK229 1
   have hfz64_0 := blk_frozen BK229.out 0; have hfz64_1 := blk_frozen BK229.out 1
   try go_wp2_with (first | ((with_reducible refine gate_callee (f := 43) rfl ?_); refine goesL_ (some 27) rfl rfl Try.func43 (by kernel_rfl) rfl #[.agg #[.int .i64 t237, .int .i64 t238], .agg #[.int .i64 t226, .int .i64 t227]] rfl (by (try simp only [List.map_toArray, List.map_cons, List.map_nil]); first | done | rfl | (simp only [List.length_drop, List.length_take]; rfl)) ?_; (with_reducible refine (laws_eqPair.calls t237 t238 t226 t227 true _ A9.out).mono ?_); rintro e w65 ⟨rfl, hb⟩; refine ⟨_, rfl, ?_⟩; have n0_ := Aside0.mk (blk_below (g := gb217) (o := .cells #[.int .i64 a0_0, .int .i64 a0_1, .int .i64 a0_2, .int .i64 a0_3, .int .i64 a0_4] 35 (0, 0)) (by (with_reducible repeat (first | refine blk_drewN ?_ _ | refine blk_drew ?_ | refine blk_alloc ?_ _)); refine blk_far ?_ NB217_240.out _; (with_reducible repeat (first | refine blk_drewN ?_ _ | refine blk_drew ?_ | refine blk_alloc ?_ _)); refine blk_far ?_ NB217_240.out _; (with_reducible repeat (first | refine blk_drewN ?_ _ | refine blk_drew ?_ | refine blk_alloc ?_ _)); exact BK217.out) hb); have n1_ := Aside0.mk (blk_below (g := gb218) (o := .cells #[.int .i64 a1_0, .int .i64 a1_1] 47 (0, 0)) (by (with_reducible repeat (first | refine blk_drewN ?_ _ | refine blk_drew ?_ | refine blk_alloc ?_ _)); refine blk_far ?_ NB218_240.out _; (with_reducible repeat (first | refine blk_drewN ?_ _ | refine blk_drew ?_ | refine blk_alloc ?_ _)); refine blk_far ?_ NB218_240.out _; (with_reducible repeat (first | refine blk_drewN ?_ _ | refine blk_drew ?_ | refine blk_alloc ?_ _)); exact BK218.out) hb); have n2_ := Aside0.mk (blk_below (g := gb229) (o := .cells #[.int .i64 t226, .int .i64 t227] 49 (0, 0)) (by (with_reducible repeat (first | refine blk_drewN ?_ _ | refine blk_drew ?_ | refine blk_alloc ?_ _)); refine blk_far ?_ NB229_240.out _; (with_reducible repeat (first | refine blk_drewN ?_ _ | refine blk_drew ?_ | refine blk_alloc ?_ _)); refine blk_far ?_ NB229_240.out _; (with_reducible repeat (first | refine blk_drewN ?_ _ | refine blk_drew ?_ | refine blk_alloc ?_ _)); exact BK229.out) hb); have n3_ := Aside0.mk (blk_below (g := gb240) (o := .cells #[.int .i64 t237, .int .i64 t238] 49 (0, 0)) (by (with_reducible repeat (first | refine blk_drewN ?_ _ | refine blk_drew ?_ | refine blk_alloc ?_ _)); refine blk_put (cs := #[.int .i64 t237, .int .i64 0]) ?_ 1 _ rfl; (with_reducible repeat (first | refine blk_drewN ?_ _ | refine blk_drew ?_ | refine blk_alloc ?_ _)); refine blk_put (cs := #[.int .i64 0, .int .i64 0]) ?_ 0 _ rfl; (with_reducible repeat (first | refine blk_drewN ?_ _ | refine blk_drew ?_ | refine blk_alloc ?_ _)); exact BK240.out) hb); have n4_ := bs_ HB hb; clear BK217; clear BK218; clear BK229; clear BK240; clear HB; have BK217 := n0_; have BK218 := n1_; have BK229 := n2_; have BK240 := n3_; have HB := n4_; clear n0_ n1_ n2_ n3_ n4_; (try clear hb); (try clear hb2); (try clear hk); (try clear hi)))
   go_ret
   exact ⟨by first | rfl | (simp [errW_none, errW_some] <;> rfl) | (simp [*, errW_none, errW_some] <;> rfl), by repeat (first | (with_reducible first | exact HB.out | apply below_alloc | apply pw_below_drewN | apply below_drew1 | refine below_set ?_ GE217.out | refine below_set ?_ GE218.out | refine below_set ?_ GE229.out | refine below_set ?_ GE240.out) | exact HB.out)⟩
 ·
  replace c10 := Bool.eq_false_iff.mpr c10; subst c10
  have H1 : (some false) = some r := by rw [if_neg (show ¬ (false = true) by decide)] at H; exact H
  clear H; have H := H1; clear H1; obtain rfl := Option.some.inj H
  go_enter Try.func13, Try.ntmps13
  try go_wp2_with (first | ((with_reducible refine gate_dst (N := 2) rfl ?_); refine box_event ?hg (N := 2) ?hd (cs := #[.int .i64 a0_0, .int .i64 a0_1, .int .i64 a0_2, .int .i64 a0_3, .int .i64 a0_4]) (t := 35) ?hr ?_; (case hd => rfl); (case hg => rfl); (case hr => first | (go_simp; done) | (go_simp; rfl)); intro gb217 hg w66 hbox hb; have n0_ := bs_ HB hb; have n1_ := Aside0.mk hbox; have n2_ := ge_ HB hg; have n3_ := ge_ HB hg; clear HB; have HB := n0_; have BK217 := n1_; have GW217 := n2_; have GE217 := n3_; clear n0_ n1_ n2_ n3_; clear hb hbox hg) | ((with_reducible refine gate_dst (N := 3) rfl ?_); refine box_event ?hg (N := 3) ?hd (cs := #[.int .i64 a1_0, .int .i64 a1_1]) (t := 47) ?hr ?_; (case hd => rfl); (case hg => rfl); (case hr => first | (go_simp; done) | (go_simp; rfl)); intro gb218 hg w67 hbox hb; have n0_ := bb_ BK217 hb; have n1_ := bs_ HB hb; have n2_ := Aside0.mk hbox; have n3_ := ge_ HB hg; have n4_ := ge_ HB hg; have n5_ := nl_ BK217 hg; have n6_ := nr_ BK217 hg; clear BK217; clear HB; have BK217 := n0_; have HB := n1_; have BK218 := n2_; have GW218 := n3_; have GE218 := n4_; have NB217_218 := n5_; have NB218_217 := n6_; clear n0_ n1_ n2_ n3_ n4_ n5_ n6_; clear hb hbox hg))
  replace BK217 := Aside0.mk (blk_drew BK217.out); replace BK218 := Aside0.mk (blk_drew BK218.out); replace HB := Aside0.mk (below_drew1 HB.out); refine start_ (n := 11) (S := fun w' => w'.cell? ⟨gb217, 0, none⟩ = some (.int .i64 a0_0) ∧ w'.cell? ⟨gb217, 1, none⟩ = some (.int .i64 a0_1) ∧ w'.cell? ⟨gb217, 2, none⟩ = some (.int .i64 a0_2) ∧ w'.cell? ⟨gb217, 3, none⟩ = some (.int .i64 a0_3) ∧ w'.cell? ⟨gb217, 4, none⟩ = some (.int .i64 a0_4) ∧ w'.cell? ⟨gb218, 0, none⟩ = some (.int .i64 a1_0) ∧ w'.cell? ⟨gb218, 1, none⟩ = some (.int .i64 a1_1)) (ds := []) #[false,false,false,false,false,false,false,false,false,false,false] (by kernel_rfl) rfl rfl ⟨bc_ BK217 0, bc_ BK217 1, bc_ BK217 2, bc_ BK217 3, bc_ BK217 4, bc_ BK218 0, bc_ BK218 1⟩ (fun hHeld => ?_); refine with_tabW laws_FnExactEdCofactor.tab1 laws_FnExactEdCofactor.bits1 (fun HT_ HW_ => ?_)
  generalize w67.drew = w68 at BK217 BK218 HB hHeld ⊢
  refine take_ (i := 0) (N := some 10) (v := ?_) (a' := ?_) #[true,false,false,false,false,false,false,false,false,false,false] rfl rfl (take_ofW HT_.out HW_.out (by kernel_rfl)) (fun _ _ _ h => h) (Or.inl ⟨by rfl, ?_⟩) hHeld ?_ ?_; rotate_left
  ·
   rintro w' ⟨s0, s1, s2, s3, s4, s5, s6⟩; go_simp
   with_reducible rfl
  rotate_left
  · simp only [Act.put, sA_, sZ_, sS_, i64_w, i32_w]; rfl
  refine take_ (i := 2) (N := some 12) (v := ?_) (a' := ?_) #[true,false,true,false,false,false,false,false,false,false,false] rfl rfl (take_ofW HT_.out HW_.out (by kernel_rfl)) (fun _ _ _ h => h) (Or.inl ⟨by rfl, ?_⟩) hHeld ?_ ?_; rotate_left
  ·
   rintro w' ⟨s0, s1, s2, s3, s4, s5, s6⟩; go_simp
   with_reducible rfl
  rotate_left
  · simp only [Act.put, sA_, sZ_, sS_, i64_w, i32_w]; rfl
  refine join_ (σ := Nat) 2 #[true,true,true,true,true,true,true,true,true,false,false] (fun s_ => [(11, .agg #[.int .i64 t219, .int .i64 t220, .int .i64 t221, .int .i64 t222, .int .i64 t223]), (13, .agg #[.int .i64 t224, .int .i64 t225]), (14, .tuple #[.agg #[.int .i64 t226, .int .i64 t227], .bool t228]), (5, .pointer (some ⟨s_, 0, none⟩)), (9, .tuple #[.agg #[.int .i64 t226, .int .i64 t227], .bool t228]), (15, .agg #[.int .i64 t226, .int .i64 t227]), (16, .bool t228)]) (fun s_ w' => (w'.cell? ⟨gb217, 0, none⟩ = some (.int .i64 a0_0) ∧ w'.cell? ⟨gb217, 1, none⟩ = some (.int .i64 a0_1) ∧ w'.cell? ⟨gb217, 2, none⟩ = some (.int .i64 a0_2) ∧ w'.cell? ⟨gb217, 3, none⟩ = some (.int .i64 a0_3) ∧ w'.cell? ⟨gb217, 4, none⟩ = some (.int .i64 a0_4) ∧ w'.cell? ⟨gb218, 0, none⟩ = some (.int .i64 a1_0) ∧ w'.cell? ⟨gb218, 1, none⟩ = some (.int .i64 a1_1)) ∧ (w'.heap[gb217]? = some (.cells #[.int .i64 a0_0, .int .i64 a0_1, .int .i64 a0_2, .int .i64 a0_3, .int .i64 a0_4] 35 (0, 0))) ∧ (w'.heap[gb218]? = some (.cells #[.int .i64 a1_0, .int .i64 a1_1] 47 (0, 0))) ∧ (w'.heap[s_]? = some (.cells #[.int .i64 0, .int .i64 0] 49 (0, 0))) ∧ (w.heap.size ≤ s_) ∧ (w.heap.size ≤ s_) ∧ (gb217 ≠ s_) ∧ (s_ ≠ gb217) ∧ (gb218 ≠ s_) ∧ (s_ ≠ gb218) ∧ (Below w.heap.size w w')) ?_ ?_; rotate_left
  ·
   intro hCont; refine two_ (i := 1) (j := 8) (Ni := some 11) (Nj := some 5) #[true,true,true,false,false,false,false,false,false,false,false] #[true,false,true,false,false,false,false,false,true,false,false] rfl rfl rfl rfl (two_of HT_.out (by kernel_rfl)) (by decide) (by decide) (fun K hK => ?_) (fun K hK => ?_)
   ·
    refine gs_ Try.func28 #[.agg #[.int .i64 a0_0, .int .i64 a0_1, .int .i64 a0_2, .int .i64 a0_3, .int .i64 a0_4]] ?_
    with_reducible refine (laws_toEd.calls a0_0 a0_1 a0_2 a0_3 a0_4 t219 t220 t221 t222 t223 _ A3.out).mono ?_
    rintro e w69 ⟨rfl, hb⟩; refine ⟨_, rfl, ?_⟩; replace BK217 := bb_ BK217 hb; replace BK218 := bb_ BK218 hb; replace HB := bs_ HB hb; (try clear hb); refine hK.out _ _ ⟨bc_ BK217 0, bc_ BK217 1, bc_ BK217 2, bc_ BK217 3, bc_ BK217 4, bc_ BK218 0, bc_ BK218 1⟩ (fun hHeld => ?_); clear hK K
    apply norm_
    · show Act.put _ (some 11) _ = _; simp only [Act.put, sA_, sZ_, sS_, i64_w, i32_w]; rfl
    refine two_ (i := 3) (j := 8) (Ni := some 13) (Nj := some 5) #[true,true,true,true,false,false,false,false,false,false,false] #[true,true,true,false,false,false,false,false,true,false,false] rfl rfl rfl rfl (two_of HT_.out (by kernel_rfl)) (by decide) (by decide) (fun K hK => ?_) (fun K hK => ?_)
    ·
     refine gs_ Try.func36 #[.agg #[.int .i64 a1_0, .int .i64 a1_1]] ?_
     with_reducible refine (laws_toPair.calls a1_0 a1_1 t224 t225 _ A4.out).mono ?_
     rintro e w70 ⟨rfl, hb⟩; refine ⟨_, rfl, ?_⟩; replace BK217 := bb_ BK217 hb; replace BK218 := bb_ BK218 hb; replace HB := bs_ HB hb; (try clear hb); refine hK.out _ _ ⟨bc_ BK217 0, bc_ BK217 1, bc_ BK217 2, bc_ BK217 3, bc_ BK217 4, bc_ BK218 0, bc_ BK218 1⟩ (fun hHeld => ?_); clear hK K
     apply norm_
     · show Act.put _ (some 13) _ = _; simp only [Act.put, sA_, sZ_, sS_, i64_w, i32_w]; rfl
     refine two_ (i := 4) (j := 8) (Ni := some 14) (Nj := some 5) #[true,true,true,true,true,false,false,false,false,false,false] #[true,true,true,true,false,false,false,false,true,false,false] rfl rfl rfl rfl (two_of HT_.out (by kernel_rfl)) (by decide) (by decide) (fun K hK => ?_) (fun K hK => ?_)
     ·
      refine gs_ Try.func46 #[.agg #[.int .i64 t219, .int .i64 t220, .int .i64 t221, .int .i64 t222, .int .i64 t223], .agg #[.int .i64 t224, .int .i64 t225]] ?_
      with_reducible refine (spec_EdCofactor.calls k t219 t220 t221 t222 t223 t224 t225 t226 t227 t228 _ A5.out).mono ?_
      rintro e w71 ⟨rfl, hb⟩; refine ⟨_, rfl, ?_⟩; replace BK217 := bb_ BK217 hb; replace BK218 := bb_ BK218 hb; replace HB := bs_ HB hb; (try clear hb); refine hK.out _ _ ⟨bc_ BK217 0, bc_ BK217 1, bc_ BK217 2, bc_ BK217 3, bc_ BK217 4, bc_ BK218 0, bc_ BK218 1⟩ (fun hHeld => ?_); clear hK K
      apply norm_
      · show Act.put _ (some 14) _ = _; simp only [Act.put, sA_, sZ_, sS_, i64_w, i32_w]; rfl
      refine pure_ (i := 5) (N := some 9) (v := ?_) (a' := ?_) #[true,true,true,true,true,true,false,false,false,false,false] rfl rfl (any_of HT_.out (by kernel_rfl)) (fun _ _ _ h => h) (Or.inl ⟨by rfl, ?_⟩) ?_ ?_; rotate_left
      ·
       intro w'; go_simp
       with_reducible rfl
      rotate_left
      · simp only [Act.put, sA_, sZ_, sS_, i64_w, i32_w]; rfl
      refine pure_ (i := 6) (N := some 15) (v := ?_) (a' := ?_) #[true,true,true,true,true,true,true,false,false,false,false] rfl rfl (any_of HT_.out (by kernel_rfl)) (fun _ _ _ h => h) (Or.inl ⟨by rfl, ?_⟩) ?_ ?_; rotate_left
      ·
       intro w'; go_simp
       with_reducible rfl
      rotate_left
      · simp only [Act.put, sA_, sZ_, sS_, i64_w, i32_w]; rfl
      refine pure_ (i := 7) (N := some 16) (v := ?_) (a' := ?_) #[true,true,true,true,true,true,true,true,false,false,false] rfl rfl (any_of HT_.out (by kernel_rfl)) (fun _ _ _ h => h) (Or.inl ⟨by rfl, ?_⟩) ?_ ?_; rotate_left
      ·
       intro w'; go_simp
       with_reducible rfl
      rotate_left
      · simp only [Act.put, sA_, sZ_, sS_, i64_w, i32_w]; rfl
      refine one_ (i := 8) (N := some 5) #[true,true,true,true,true,true,true,true,true,false,false] rfl rfl (one_of HT_.out (by kernel_rfl)) (by decide) (fun K hK => ?_); refine box_step ?hg (N := 5) ?hd (cs := #[.int .i64 0, .int .i64 0]) (t := 49) ?hr ?_; (case hd => rfl); (case hg => rfl); (case hr => first | (go_simp; done) | (go_simp; rfl))
      intro gb229 hg w72 hbox hb; have n0_ := bb_ BK217 hb; have n1_ := bb_ BK218 hb; have n2_ := bs_ HB hb; have n3_ := Aside0.mk hbox; have n4_ := ge_ HB hg; have n5_ := ge_ HB hg; have n6_ := nl_ BK217 hg; have n7_ := nr_ BK217 hg; have n8_ := nl_ BK218 hg; have n9_ := nr_ BK218 hg; clear BK217 BK218 HB; have BK217 := n0_; have BK218 := n1_; have HB := n2_; have BK229 := n3_; have GW229 := n4_; have GE229 := n5_; have NB217_229 := n6_; have NB229_217 := n7_; have NB218_229 := n8_; have NB229_218 := n9_; clear n0_ n1_ n2_ n3_ n4_ n5_ n6_ n7_ n8_ n9_; clear hb hbox hg; refine hK.out _ _ ⟨bc_ BK217 0, bc_ BK217 1, bc_ BK217 2, bc_ BK217 3, bc_ BK217 4, bc_ BK218 0, bc_ BK218 1⟩ (fun hHeld => ?_); clear hK K
      apply norm_
      · show Act.put _ (some 5) _ = _; simp only [Act.put, sA_, sZ_, sS_, i64_w, i32_w]; rfl
      exact norm_ (by simp only [putAll, Act.put, sA_, sZ_, sS_]) (hCont (gb229) _ ⟨hHeld, (bk_ BK217), (bk_ BK218), (bk_ BK229), GW229.out, GE229.out, NB217_229.out, NB229_217.out, NB218_229.out, NB229_218.out, (bw_ HB)⟩)
     ·
      refine box_step ?hg (N := 5) ?hd (cs := #[.int .i64 0, .int .i64 0]) (t := 49) ?hr ?_; (case hd => rfl); (case hg => rfl); (case hr => first | (go_simp; done) | (go_simp; rfl))
      intro gb229 hg w71 hbox hb; have n0_ := bb_ BK217 hb; have n1_ := bb_ BK218 hb; have n2_ := bs_ HB hb; have n3_ := Aside0.mk hbox; have n4_ := ge_ HB hg; have n5_ := ge_ HB hg; have n6_ := nl_ BK217 hg; have n7_ := nr_ BK217 hg; have n8_ := nl_ BK218 hg; have n9_ := nr_ BK218 hg; clear BK217 BK218 HB; have BK217 := n0_; have BK218 := n1_; have HB := n2_; have BK229 := n3_; have GW229 := n4_; have GE229 := n5_; have NB217_229 := n6_; have NB229_217 := n7_; have NB218_229 := n8_; have NB229_218 := n9_; clear n0_ n1_ n2_ n3_ n4_ n5_ n6_ n7_ n8_ n9_; clear hb hbox hg; refine hK.out _ _ ⟨bc_ BK217 0, bc_ BK217 1, bc_ BK217 2, bc_ BK217 3, bc_ BK217 4, bc_ BK218 0, bc_ BK218 1⟩ (fun hHeld => ?_); clear hK K
      apply norm_
      · show Act.put _ (some 5) _ = _; simp only [Act.put, sA_, sZ_, sS_, i64_w, i32_w]; rfl
      refine one_ (i := 4) (N := some 14) #[true,true,true,true,true,false,false,false,true,false,false] rfl rfl (one_of HT_.out (by kernel_rfl)) (by decide) (fun K hK => ?_); refine gs_ Try.func46 #[.agg #[.int .i64 t219, .int .i64 t220, .int .i64 t221, .int .i64 t222, .int .i64 t223], .agg #[.int .i64 t224, .int .i64 t225]] ?_
      with_reducible refine (spec_EdCofactor.calls k t219 t220 t221 t222 t223 t224 t225 t226 t227 t228 _ A5.out).mono ?_
      rintro e w72 ⟨rfl, hb⟩; refine ⟨_, rfl, ?_⟩; replace BK217 := bb_ BK217 hb; replace BK218 := bb_ BK218 hb; replace BK229 := bb_ BK229 hb; replace HB := bs_ HB hb; (try clear hb); refine hK.out _ _ ⟨bc_ BK217 0, bc_ BK217 1, bc_ BK217 2, bc_ BK217 3, bc_ BK217 4, bc_ BK218 0, bc_ BK218 1⟩ (fun hHeld => ?_); clear hK K
      apply norm_
      · show Act.put _ (some 14) _ = _; simp only [Act.put, sA_, sZ_, sS_, i64_w, i32_w]; rfl
      refine pure_ (i := 5) (N := some 9) (v := ?_) (a' := ?_) #[true,true,true,true,true,true,false,false,true,false,false] rfl rfl (any_of HT_.out (by kernel_rfl)) (fun _ _ _ h => h) (Or.inl ⟨by rfl, ?_⟩) ?_ ?_; rotate_left
      ·
       intro w'; go_simp
       with_reducible rfl
      rotate_left
      · simp only [Act.put, sA_, sZ_, sS_, i64_w, i32_w]; rfl
      refine pure_ (i := 6) (N := some 15) (v := ?_) (a' := ?_) #[true,true,true,true,true,true,true,false,true,false,false] rfl rfl (any_of HT_.out (by kernel_rfl)) (fun _ _ _ h => h) (Or.inl ⟨by rfl, ?_⟩) ?_ ?_; rotate_left
      ·
       intro w'; go_simp
       with_reducible rfl
      rotate_left
      · simp only [Act.put, sA_, sZ_, sS_, i64_w, i32_w]; rfl
      refine pure_ (i := 7) (N := some 16) (v := ?_) (a' := ?_) #[true,true,true,true,true,true,true,true,true,false,false] rfl rfl (any_of HT_.out (by kernel_rfl)) (fun _ _ _ h => h) (Or.inl ⟨by rfl, ?_⟩) ?_ ?_; rotate_left
      ·
       intro w'; go_simp
       with_reducible rfl
      rotate_left
      · simp only [Act.put, sA_, sZ_, sS_, i64_w, i32_w]; rfl
      exact norm_ (by simp only [putAll, Act.put, sA_, sZ_, sS_]) (hCont (gb229) _ ⟨hHeld, (bk_ BK217), (bk_ BK218), (bk_ BK229), GW229.out, GE229.out, NB217_229.out, NB229_217.out, NB218_229.out, NB229_218.out, (bw_ HB)⟩)
    ·
     refine box_step ?hg (N := 5) ?hd (cs := #[.int .i64 0, .int .i64 0]) (t := 49) ?hr ?_; (case hd => rfl); (case hg => rfl); (case hr => first | (go_simp; done) | (go_simp; rfl))
     intro gb229 hg w70 hbox hb; have n0_ := bb_ BK217 hb; have n1_ := bb_ BK218 hb; have n2_ := bs_ HB hb; have n3_ := Aside0.mk hbox; have n4_ := ge_ HB hg; have n5_ := ge_ HB hg; have n6_ := nl_ BK217 hg; have n7_ := nr_ BK217 hg; have n8_ := nl_ BK218 hg; have n9_ := nr_ BK218 hg; clear BK217 BK218 HB; have BK217 := n0_; have BK218 := n1_; have HB := n2_; have BK229 := n3_; have GW229 := n4_; have GE229 := n5_; have NB217_229 := n6_; have NB229_217 := n7_; have NB218_229 := n8_; have NB229_218 := n9_; clear n0_ n1_ n2_ n3_ n4_ n5_ n6_ n7_ n8_ n9_; clear hb hbox hg; refine hK.out _ _ ⟨bc_ BK217 0, bc_ BK217 1, bc_ BK217 2, bc_ BK217 3, bc_ BK217 4, bc_ BK218 0, bc_ BK218 1⟩ (fun hHeld => ?_); clear hK K
     apply norm_
     · show Act.put _ (some 5) _ = _; simp only [Act.put, sA_, sZ_, sS_, i64_w, i32_w]; rfl
     refine one_ (i := 3) (N := some 13) #[true,true,true,true,false,false,false,false,true,false,false] rfl rfl (one_of HT_.out (by kernel_rfl)) (by decide) (fun K hK => ?_); refine gs_ Try.func36 #[.agg #[.int .i64 a1_0, .int .i64 a1_1]] ?_
     with_reducible refine (laws_toPair.calls a1_0 a1_1 t224 t225 _ A4.out).mono ?_
     rintro e w71 ⟨rfl, hb⟩; refine ⟨_, rfl, ?_⟩; replace BK217 := bb_ BK217 hb; replace BK218 := bb_ BK218 hb; replace BK229 := bb_ BK229 hb; replace HB := bs_ HB hb; (try clear hb); refine hK.out _ _ ⟨bc_ BK217 0, bc_ BK217 1, bc_ BK217 2, bc_ BK217 3, bc_ BK217 4, bc_ BK218 0, bc_ BK218 1⟩ (fun hHeld => ?_); clear hK K
     apply norm_
     · show Act.put _ (some 13) _ = _; simp only [Act.put, sA_, sZ_, sS_, i64_w, i32_w]; rfl
     refine one_ (i := 4) (N := some 14) #[true,true,true,true,true,false,false,false,true,false,false] rfl rfl (one_of HT_.out (by kernel_rfl)) (by decide) (fun K hK => ?_); refine gs_ Try.func46 #[.agg #[.int .i64 t219, .int .i64 t220, .int .i64 t221, .int .i64 t222, .int .i64 t223], .agg #[.int .i64 t224, .int .i64 t225]] ?_
     with_reducible refine (spec_EdCofactor.calls k t219 t220 t221 t222 t223 t224 t225 t226 t227 t228 _ A5.out).mono ?_
     rintro e w72 ⟨rfl, hb⟩; refine ⟨_, rfl, ?_⟩; replace BK217 := bb_ BK217 hb; replace BK218 := bb_ BK218 hb; replace BK229 := bb_ BK229 hb; replace HB := bs_ HB hb; (try clear hb); refine hK.out _ _ ⟨bc_ BK217 0, bc_ BK217 1, bc_ BK217 2, bc_ BK217 3, bc_ BK217 4, bc_ BK218 0, bc_ BK218 1⟩ (fun hHeld => ?_); clear hK K
     apply norm_
     · show Act.put _ (some 14) _ = _; simp only [Act.put, sA_, sZ_, sS_, i64_w, i32_w]; rfl
     refine pure_ (i := 5) (N := some 9) (v := ?_) (a' := ?_) #[true,true,true,true,true,true,false,false,true,false,false] rfl rfl (any_of HT_.out (by kernel_rfl)) (fun _ _ _ h => h) (Or.inl ⟨by rfl, ?_⟩) ?_ ?_; rotate_left
     ·
      intro w'; go_simp
      with_reducible rfl
     rotate_left
     · simp only [Act.put, sA_, sZ_, sS_, i64_w, i32_w]; rfl
     refine pure_ (i := 6) (N := some 15) (v := ?_) (a' := ?_) #[true,true,true,true,true,true,true,false,true,false,false] rfl rfl (any_of HT_.out (by kernel_rfl)) (fun _ _ _ h => h) (Or.inl ⟨by rfl, ?_⟩) ?_ ?_; rotate_left
     ·
      intro w'; go_simp
      with_reducible rfl
     rotate_left
     · simp only [Act.put, sA_, sZ_, sS_, i64_w, i32_w]; rfl
     refine pure_ (i := 7) (N := some 16) (v := ?_) (a' := ?_) #[true,true,true,true,true,true,true,true,true,false,false] rfl rfl (any_of HT_.out (by kernel_rfl)) (fun _ _ _ h => h) (Or.inl ⟨by rfl, ?_⟩) ?_ ?_; rotate_left
     ·
      intro w'; go_simp
      with_reducible rfl
     rotate_left
     · simp only [Act.put, sA_, sZ_, sS_, i64_w, i32_w]; rfl
     exact norm_ (by simp only [putAll, Act.put, sA_, sZ_, sS_]) (hCont (gb229) _ ⟨hHeld, (bk_ BK217), (bk_ BK218), (bk_ BK229), GW229.out, GE229.out, NB217_229.out, NB229_217.out, NB218_229.out, NB229_218.out, (bw_ HB)⟩)
   ·
    refine box_step ?hg (N := 5) ?hd (cs := #[.int .i64 0, .int .i64 0]) (t := 49) ?hr ?_; (case hd => rfl); (case hg => rfl); (case hr => first | (go_simp; done) | (go_simp; rfl))
    intro gb229 hg w69 hbox hb; have n0_ := bb_ BK217 hb; have n1_ := bb_ BK218 hb; have n2_ := bs_ HB hb; have n3_ := Aside0.mk hbox; have n4_ := ge_ HB hg; have n5_ := ge_ HB hg; have n6_ := nl_ BK217 hg; have n7_ := nr_ BK217 hg; have n8_ := nl_ BK218 hg; have n9_ := nr_ BK218 hg; clear BK217 BK218 HB; have BK217 := n0_; have BK218 := n1_; have HB := n2_; have BK229 := n3_; have GW229 := n4_; have GE229 := n5_; have NB217_229 := n6_; have NB229_217 := n7_; have NB218_229 := n8_; have NB229_218 := n9_; clear n0_ n1_ n2_ n3_ n4_ n5_ n6_ n7_ n8_ n9_; clear hb hbox hg; refine hK.out _ _ ⟨bc_ BK217 0, bc_ BK217 1, bc_ BK217 2, bc_ BK217 3, bc_ BK217 4, bc_ BK218 0, bc_ BK218 1⟩ (fun hHeld => ?_); clear hK K
    apply norm_
    · show Act.put _ (some 5) _ = _; simp only [Act.put, sA_, sZ_, sS_, i64_w, i32_w]; rfl
    refine one_ (i := 1) (N := some 11) #[true,true,true,false,false,false,false,false,true,false,false] rfl rfl (one_of HT_.out (by kernel_rfl)) (by decide) (fun K hK => ?_); refine gs_ Try.func28 #[.agg #[.int .i64 a0_0, .int .i64 a0_1, .int .i64 a0_2, .int .i64 a0_3, .int .i64 a0_4]] ?_
    with_reducible refine (laws_toEd.calls a0_0 a0_1 a0_2 a0_3 a0_4 t219 t220 t221 t222 t223 _ A3.out).mono ?_
    rintro e w70 ⟨rfl, hb⟩; refine ⟨_, rfl, ?_⟩; replace BK217 := bb_ BK217 hb; replace BK218 := bb_ BK218 hb; replace BK229 := bb_ BK229 hb; replace HB := bs_ HB hb; (try clear hb); refine hK.out _ _ ⟨bc_ BK217 0, bc_ BK217 1, bc_ BK217 2, bc_ BK217 3, bc_ BK217 4, bc_ BK218 0, bc_ BK218 1⟩ (fun hHeld => ?_); clear hK K
    apply norm_
    · show Act.put _ (some 11) _ = _; simp only [Act.put, sA_, sZ_, sS_, i64_w, i32_w]; rfl
    refine one_ (i := 3) (N := some 13) #[true,true,true,true,false,false,false,false,true,false,false] rfl rfl (one_of HT_.out (by kernel_rfl)) (by decide) (fun K hK => ?_); refine gs_ Try.func36 #[.agg #[.int .i64 a1_0, .int .i64 a1_1]] ?_
    with_reducible refine (laws_toPair.calls a1_0 a1_1 t224 t225 _ A4.out).mono ?_
    rintro e w71 ⟨rfl, hb⟩; refine ⟨_, rfl, ?_⟩; replace BK217 := bb_ BK217 hb; replace BK218 := bb_ BK218 hb; replace BK229 := bb_ BK229 hb; replace HB := bs_ HB hb; (try clear hb); refine hK.out _ _ ⟨bc_ BK217 0, bc_ BK217 1, bc_ BK217 2, bc_ BK217 3, bc_ BK217 4, bc_ BK218 0, bc_ BK218 1⟩ (fun hHeld => ?_); clear hK K
    apply norm_
    · show Act.put _ (some 13) _ = _; simp only [Act.put, sA_, sZ_, sS_, i64_w, i32_w]; rfl
    refine one_ (i := 4) (N := some 14) #[true,true,true,true,true,false,false,false,true,false,false] rfl rfl (one_of HT_.out (by kernel_rfl)) (by decide) (fun K hK => ?_); refine gs_ Try.func46 #[.agg #[.int .i64 t219, .int .i64 t220, .int .i64 t221, .int .i64 t222, .int .i64 t223], .agg #[.int .i64 t224, .int .i64 t225]] ?_
    with_reducible refine (spec_EdCofactor.calls k t219 t220 t221 t222 t223 t224 t225 t226 t227 t228 _ A5.out).mono ?_
    rintro e w72 ⟨rfl, hb⟩; refine ⟨_, rfl, ?_⟩; replace BK217 := bb_ BK217 hb; replace BK218 := bb_ BK218 hb; replace BK229 := bb_ BK229 hb; replace HB := bs_ HB hb; (try clear hb); refine hK.out _ _ ⟨bc_ BK217 0, bc_ BK217 1, bc_ BK217 2, bc_ BK217 3, bc_ BK217 4, bc_ BK218 0, bc_ BK218 1⟩ (fun hHeld => ?_); clear hK K
    apply norm_
    · show Act.put _ (some 14) _ = _; simp only [Act.put, sA_, sZ_, sS_, i64_w, i32_w]; rfl
    refine pure_ (i := 5) (N := some 9) (v := ?_) (a' := ?_) #[true,true,true,true,true,true,false,false,true,false,false] rfl rfl (any_of HT_.out (by kernel_rfl)) (fun _ _ _ h => h) (Or.inl ⟨by rfl, ?_⟩) ?_ ?_; rotate_left
    ·
     intro w'; go_simp
     with_reducible rfl
    rotate_left
    · simp only [Act.put, sA_, sZ_, sS_, i64_w, i32_w]; rfl
    refine pure_ (i := 6) (N := some 15) (v := ?_) (a' := ?_) #[true,true,true,true,true,true,true,false,true,false,false] rfl rfl (any_of HT_.out (by kernel_rfl)) (fun _ _ _ h => h) (Or.inl ⟨by rfl, ?_⟩) ?_ ?_; rotate_left
    ·
     intro w'; go_simp
     with_reducible rfl
    rotate_left
    · simp only [Act.put, sA_, sZ_, sS_, i64_w, i32_w]; rfl
    refine pure_ (i := 7) (N := some 16) (v := ?_) (a' := ?_) #[true,true,true,true,true,true,true,true,true,false,false] rfl rfl (any_of HT_.out (by kernel_rfl)) (fun _ _ _ h => h) (Or.inl ⟨by rfl, ?_⟩) ?_ ?_; rotate_left
    ·
     intro w'; go_simp
     with_reducible rfl
    rotate_left
    · simp only [Act.put, sA_, sZ_, sS_, i64_w, i32_w]; rfl
    exact norm_ (by simp only [putAll, Act.put, sA_, sZ_, sS_]) (hCont (gb229) _ ⟨hHeld, (bk_ BK217), (bk_ BK218), (bk_ BK229), GW229.out, GE229.out, NB217_229.out, NB229_217.out, NB218_229.out, NB229_218.out, (bw_ HB)⟩)
  rintro gb229 w73 ⟨hS_, h0_, h1_, h2_, h3_, h4_, h5_, h6_, h7_, h8_, h9_⟩; replace BK217 := Aside0.mk h0_; replace BK218 := Aside0.mk h1_; have BK229 := Aside0.mk h2_; have GW229 := Aside0.mk h3_; have GE229 := Aside0.mk h4_; have NB217_229 := Aside0.mk h5_; have NB229_217 := Aside0.mk h6_; have NB218_229 := Aside0.mk h7_; have NB229_218 := Aside0.mk h8_; replace HB := Aside0.mk h9_; clear h0_ h1_ h2_ h3_ h4_ h5_ h6_ h7_ h8_ h9_; have hHeld := hS_
  apply norm_
  · simp only [putAll, Act.put, sA_, sZ_, sS_]; rfl
  refine one_ (i := 9) (N := none) #[true,true,true,true,true,true,true,true,true,true,false] rfl rfl (one_of HT_.out (by kernel_rfl)) (by decide) (fun K hK => ?_)
  have hs74 : w73.cell? ⟨gb229, 0, none⟩ = some (.int .i64 0) := bc_ BK229 0
  have hfs74 := blk_frozen BK229.out 0; have hns74_0 := NB217_229.out; have hns74_1 := NB218_229.out; have hms74_0 := NB229_217.out; have hms74_1 := NB229_218.out
  have hs75 : w73.cell? ⟨gb229, 1, none⟩ = some (.int .i64 0) := bc_ BK229 1
  have hfs75 := blk_frozen BK229.out 1; have hns75_0 := NB217_229.out; have hns75_1 := NB218_229.out; have hms75_0 := NB229_217.out; have hms75_1 := NB229_218.out; refine skip_ (w1 := ?_) (by rfl) rfl ?_ ?_; rotate_left
  · go_simp; rfl
  refine hK.out _ _ ⟨((cell_far (p := ⟨gb229, _, none⟩) NB217_229.out _).trans (((cell_far (p := ⟨gb229, _, none⟩) NB217_229.out _).trans (hHeld.1)))), ((cell_far (p := ⟨gb229, _, none⟩) NB217_229.out _).trans (((cell_far (p := ⟨gb229, _, none⟩) NB217_229.out _).trans (hHeld.2.1)))), ((cell_far (p := ⟨gb229, _, none⟩) NB217_229.out _).trans (((cell_far (p := ⟨gb229, _, none⟩) NB217_229.out _).trans (hHeld.2.2.1)))), ((cell_far (p := ⟨gb229, _, none⟩) NB217_229.out _).trans (((cell_far (p := ⟨gb229, _, none⟩) NB217_229.out _).trans (hHeld.2.2.2.1)))), ((cell_far (p := ⟨gb229, _, none⟩) NB217_229.out _).trans (((cell_far (p := ⟨gb229, _, none⟩) NB217_229.out _).trans (hHeld.2.2.2.2.1)))), ((cell_far (p := ⟨gb229, _, none⟩) NB218_229.out _).trans (((cell_far (p := ⟨gb229, _, none⟩) NB218_229.out _).trans (hHeld.2.2.2.2.2.1)))), ((cell_far (p := ⟨gb229, _, none⟩) NB218_229.out _).trans (((cell_far (p := ⟨gb229, _, none⟩) NB218_229.out _).trans (hHeld.2.2.2.2.2.2))))⟩ (fun hHeld => ?_); clear hK K; refine pure_ (i := 10) (N := some 6) (v := ?_) (a' := ?_) #[true,true,true,true,true,true,true,true,true,true,true] rfl rfl (any_of HT_.out (by kernel_rfl)) (fun _ _ _ h => h) (Or.inl ⟨by rfl, ?_⟩) ?_ ?_; rotate_left
  ·
   intro w'; go_simp
   with_reducible rfl
  rotate_left
  · simp only [Act.put, sA_, sZ_, sS_, i64_w, i32_w]; rfl
  refine done_ (done_of HT_.out (by kernel_rfl)) ?_
  try go_wp2
  have n0_ : Aside0 (((w73.setCell ⟨gb229, 0, none⟩ (.int .i64 t226)).setCell ⟨gb229, 1, none⟩ (.int .i64 t227)).heap[gb217]? = some (.cells #[.int .i64 a0_0, .int .i64 a0_1, .int .i64 a0_2, .int .i64 a0_3, .int .i64 a0_4] 35 (0, 0))) := ⟨by (with_reducible repeat (first | refine blk_drewN ?_ _ | refine blk_drew ?_ | refine blk_alloc ?_ _)); refine blk_far ?_ NB217_229.out _; (with_reducible repeat (first | refine blk_drewN ?_ _ | refine blk_drew ?_ | refine blk_alloc ?_ _)); refine blk_far ?_ NB217_229.out _; (with_reducible repeat (first | refine blk_drewN ?_ _ | refine blk_drew ?_ | refine blk_alloc ?_ _)); exact BK217.out⟩
  have n1_ : Aside0 (((w73.setCell ⟨gb229, 0, none⟩ (.int .i64 t226)).setCell ⟨gb229, 1, none⟩ (.int .i64 t227)).heap[gb218]? = some (.cells #[.int .i64 a1_0, .int .i64 a1_1] 47 (0, 0))) := ⟨by (with_reducible repeat (first | refine blk_drewN ?_ _ | refine blk_drew ?_ | refine blk_alloc ?_ _)); refine blk_far ?_ NB218_229.out _; (with_reducible repeat (first | refine blk_drewN ?_ _ | refine blk_drew ?_ | refine blk_alloc ?_ _)); refine blk_far ?_ NB218_229.out _; (with_reducible repeat (first | refine blk_drewN ?_ _ | refine blk_drew ?_ | refine blk_alloc ?_ _)); exact BK218.out⟩
  have n2_ : Aside0 (((w73.setCell ⟨gb229, 0, none⟩ (.int .i64 t226)).setCell ⟨gb229, 1, none⟩ (.int .i64 t227)).heap[gb229]? = some (.cells #[.int .i64 t226, .int .i64 t227] 49 (0, 0))) := ⟨by (with_reducible repeat (first | refine blk_drewN ?_ _ | refine blk_drew ?_ | refine blk_alloc ?_ _)); refine blk_put (cs := #[.int .i64 t226, .int .i64 0]) ?_ 1 _ rfl; (with_reducible repeat (first | refine blk_drewN ?_ _ | refine blk_drew ?_ | refine blk_alloc ?_ _)); refine blk_put (cs := #[.int .i64 0, .int .i64 0]) ?_ 0 _ rfl; (with_reducible repeat (first | refine blk_drewN ?_ _ | refine blk_drew ?_ | refine blk_alloc ?_ _)); exact BK229.out⟩
  have n3_ : Aside0 (Below w.heap.size w ((w73.setCell ⟨gb229, 0, none⟩ (.int .i64 t226)).setCell ⟨gb229, 1, none⟩ (.int .i64 t227))) := ⟨by repeat (first | (with_reducible first | exact HB.out | apply below_alloc | apply pw_below_drewN | apply below_drew1 | refine below_set ?_ GE217.out | refine below_set ?_ GE218.out | refine below_set ?_ GE229.out) | exact HB.out)⟩
  (try clear BK217); (try clear BK218); (try clear BK229); (try clear HB)
  generalize ((w73.setCell ⟨gb229, 0, none⟩ (.int .i64 t226)).setCell ⟨gb229, 1, none⟩ (.int .i64 t227)) = w76 at n0_ n1_ n2_ n3_ ⊢
  have BK217 := n0_; have BK218 := n1_; have BK229 := n2_; have HB := n3_; clear n0_ n1_ n2_ n3_; replace BK217 := Aside0.mk (blk_drew BK217.out); replace BK218 := Aside0.mk (blk_drew BK218.out); replace BK229 := Aside0.mk (blk_drew BK229.out); replace HB := Aside0.mk (below_drew1 HB.out); refine start_ (n := 11) (S := fun w' => w'.cell? ⟨gb217, 0, none⟩ = some (.int .i64 a0_0) ∧ w'.cell? ⟨gb217, 1, none⟩ = some (.int .i64 a0_1) ∧ w'.cell? ⟨gb217, 2, none⟩ = some (.int .i64 a0_2) ∧ w'.cell? ⟨gb217, 3, none⟩ = some (.int .i64 a0_3) ∧ w'.cell? ⟨gb217, 4, none⟩ = some (.int .i64 a0_4) ∧ w'.cell? ⟨gb218, 0, none⟩ = some (.int .i64 a1_0) ∧ w'.cell? ⟨gb218, 1, none⟩ = some (.int .i64 a1_1)) (ds := []) #[false,false,false,false,false,false,false,false,false,false,false] (by kernel_rfl) rfl rfl ⟨bc_ BK217 0, bc_ BK217 1, bc_ BK217 2, bc_ BK217 3, bc_ BK217 4, bc_ BK218 0, bc_ BK218 1⟩ (fun hHeld => ?_); refine with_tabW laws_FnExactEdCofactor.tab2 laws_FnExactEdCofactor.bits2 (fun HT_ HW_ => ?_)
  generalize w76.drew = w77 at BK217 BK218 BK229 HB hHeld ⊢
  refine take_ (i := 0) (N := some 18) (v := ?_) (a' := ?_) #[true,false,false,false,false,false,false,false,false,false,false] rfl rfl (take_ofW HT_.out HW_.out (by kernel_rfl)) (fun _ _ _ h => h) (Or.inl ⟨by rfl, ?_⟩) hHeld ?_ ?_; rotate_left
  ·
   rintro w' ⟨s0, s1, s2, s3, s4, s5, s6⟩; go_simp
   with_reducible rfl
  rotate_left
  · simp only [Act.put, sA_, sZ_, sS_, i64_w, i32_w]; rfl
  refine take_ (i := 2) (N := some 20) (v := ?_) (a' := ?_) #[true,false,true,false,false,false,false,false,false,false,false] rfl rfl (take_ofW HT_.out HW_.out (by kernel_rfl)) (fun _ _ _ h => h) (Or.inl ⟨by rfl, ?_⟩) hHeld ?_ ?_; rotate_left
  ·
   rintro w' ⟨s0, s1, s2, s3, s4, s5, s6⟩; go_simp
   with_reducible rfl
  rotate_left
  · simp only [Act.put, sA_, sZ_, sS_, i64_w, i32_w]; rfl
  refine join_ (σ := Nat) 2 #[true,true,true,true,true,true,true,true,true,false,false] (fun s_ => [(19, .agg #[.int .i64 t230, .int .i64 t231, .int .i64 t232, .int .i64 t233, .int .i64 t234]), (21, .agg #[.int .i64 t235, .int .i64 t236]), (22, .tuple #[.agg #[.int .i64 t237, .int .i64 t238], .bool t239]), (7, .pointer (some ⟨s_, 0, none⟩)), (17, .tuple #[.agg #[.int .i64 t237, .int .i64 t238], .bool t239]), (23, .agg #[.int .i64 t237, .int .i64 t238]), (24, .bool t239)]) (fun s_ w' => (w'.cell? ⟨gb217, 0, none⟩ = some (.int .i64 a0_0) ∧ w'.cell? ⟨gb217, 1, none⟩ = some (.int .i64 a0_1) ∧ w'.cell? ⟨gb217, 2, none⟩ = some (.int .i64 a0_2) ∧ w'.cell? ⟨gb217, 3, none⟩ = some (.int .i64 a0_3) ∧ w'.cell? ⟨gb217, 4, none⟩ = some (.int .i64 a0_4) ∧ w'.cell? ⟨gb218, 0, none⟩ = some (.int .i64 a1_0) ∧ w'.cell? ⟨gb218, 1, none⟩ = some (.int .i64 a1_1)) ∧ (w'.heap[gb217]? = some (.cells #[.int .i64 a0_0, .int .i64 a0_1, .int .i64 a0_2, .int .i64 a0_3, .int .i64 a0_4] 35 (0, 0))) ∧ (w'.heap[gb218]? = some (.cells #[.int .i64 a1_0, .int .i64 a1_1] 47 (0, 0))) ∧ (w'.heap[gb229]? = some (.cells #[.int .i64 t226, .int .i64 t227] 49 (0, 0))) ∧ (w'.heap[s_]? = some (.cells #[.int .i64 0, .int .i64 0] 49 (0, 0))) ∧ (w.heap.size ≤ s_) ∧ (w.heap.size ≤ s_) ∧ (gb217 ≠ s_) ∧ (s_ ≠ gb217) ∧ (gb218 ≠ s_) ∧ (s_ ≠ gb218) ∧ (gb229 ≠ s_) ∧ (s_ ≠ gb229) ∧ (Below w.heap.size w w')) ?_ ?_; rotate_left
  ·
   intro hCont; refine two_ (i := 1) (j := 8) (Ni := some 19) (Nj := some 7) #[true,true,true,false,false,false,false,false,false,false,false] #[true,false,true,false,false,false,false,false,true,false,false] rfl rfl rfl rfl (two_of HT_.out (by kernel_rfl)) (by decide) (by decide) (fun K hK => ?_) (fun K hK => ?_)
   ·
    refine gs_ Try.func28 #[.agg #[.int .i64 a0_0, .int .i64 a0_1, .int .i64 a0_2, .int .i64 a0_3, .int .i64 a0_4]] ?_
    with_reducible refine (laws_toEd.calls a0_0 a0_1 a0_2 a0_3 a0_4 t230 t231 t232 t233 t234 _ A6.out).mono ?_
    rintro e w78 ⟨rfl, hb⟩; refine ⟨_, rfl, ?_⟩; replace BK217 := bb_ BK217 hb; replace BK218 := bb_ BK218 hb; replace BK229 := bb_ BK229 hb; replace HB := bs_ HB hb; (try clear hb); refine hK.out _ _ ⟨bc_ BK217 0, bc_ BK217 1, bc_ BK217 2, bc_ BK217 3, bc_ BK217 4, bc_ BK218 0, bc_ BK218 1⟩ (fun hHeld => ?_); clear hK K
    apply norm_
    · show Act.put _ (some 19) _ = _; simp only [Act.put, sA_, sZ_, sS_, i64_w, i32_w]; rfl
    refine two_ (i := 3) (j := 8) (Ni := some 21) (Nj := some 7) #[true,true,true,true,false,false,false,false,false,false,false] #[true,true,true,false,false,false,false,false,true,false,false] rfl rfl rfl rfl (two_of HT_.out (by kernel_rfl)) (by decide) (by decide) (fun K hK => ?_) (fun K hK => ?_)
    ·
     refine gs_ Try.func36 #[.agg #[.int .i64 a1_0, .int .i64 a1_1]] ?_
     with_reducible refine (laws_toPair.calls a1_0 a1_1 t235 t236 _ A7.out).mono ?_
     rintro e w79 ⟨rfl, hb⟩; refine ⟨_, rfl, ?_⟩; replace BK217 := bb_ BK217 hb; replace BK218 := bb_ BK218 hb; replace BK229 := bb_ BK229 hb; replace HB := bs_ HB hb; (try clear hb); refine hK.out _ _ ⟨bc_ BK217 0, bc_ BK217 1, bc_ BK217 2, bc_ BK217 3, bc_ BK217 4, bc_ BK218 0, bc_ BK218 1⟩ (fun hHeld => ?_); clear hK K
     apply norm_
     · show Act.put _ (some 21) _ = _; simp only [Act.put, sA_, sZ_, sS_, i64_w, i32_w]; rfl
     refine two_ (i := 4) (j := 8) (Ni := some 22) (Nj := some 7) #[true,true,true,true,true,false,false,false,false,false,false] #[true,true,true,true,false,false,false,false,true,false,false] rfl rfl rfl rfl (two_of HT_.out (by kernel_rfl)) (by decide) (by decide) (fun K hK => ?_) (fun K hK => ?_)
     ·
      refine gs_ Try.func47 #[.agg #[.int .i64 t230, .int .i64 t231, .int .i64 t232, .int .i64 t233, .int .i64 t234], .agg #[.int .i64 t235, .int .i64 t236]] ?_
      with_reducible refine (impl_EdCofactor.calls k t230 t231 t232 t233 t234 t235 t236 t237 t238 t239 _ A8.out).mono ?_
      rintro e w80 ⟨rfl, hb⟩; refine ⟨_, rfl, ?_⟩; replace BK217 := bb_ BK217 hb; replace BK218 := bb_ BK218 hb; replace BK229 := bb_ BK229 hb; replace HB := bs_ HB hb; (try clear hb); refine hK.out _ _ ⟨bc_ BK217 0, bc_ BK217 1, bc_ BK217 2, bc_ BK217 3, bc_ BK217 4, bc_ BK218 0, bc_ BK218 1⟩ (fun hHeld => ?_); clear hK K
      apply norm_
      · show Act.put _ (some 22) _ = _; simp only [Act.put, sA_, sZ_, sS_, i64_w, i32_w]; rfl
      refine pure_ (i := 5) (N := some 17) (v := ?_) (a' := ?_) #[true,true,true,true,true,true,false,false,false,false,false] rfl rfl (any_of HT_.out (by kernel_rfl)) (fun _ _ _ h => h) (Or.inl ⟨by rfl, ?_⟩) ?_ ?_; rotate_left
      ·
       intro w'; go_simp
       with_reducible rfl
      rotate_left
      · simp only [Act.put, sA_, sZ_, sS_, i64_w, i32_w]; rfl
      refine pure_ (i := 6) (N := some 23) (v := ?_) (a' := ?_) #[true,true,true,true,true,true,true,false,false,false,false] rfl rfl (any_of HT_.out (by kernel_rfl)) (fun _ _ _ h => h) (Or.inl ⟨by rfl, ?_⟩) ?_ ?_; rotate_left
      ·
       intro w'; go_simp
       with_reducible rfl
      rotate_left
      · simp only [Act.put, sA_, sZ_, sS_, i64_w, i32_w]; rfl
      refine pure_ (i := 7) (N := some 24) (v := ?_) (a' := ?_) #[true,true,true,true,true,true,true,true,false,false,false] rfl rfl (any_of HT_.out (by kernel_rfl)) (fun _ _ _ h => h) (Or.inl ⟨by rfl, ?_⟩) ?_ ?_; rotate_left
      ·
       intro w'; go_simp
       with_reducible rfl
      rotate_left
      · simp only [Act.put, sA_, sZ_, sS_, i64_w, i32_w]; rfl
      refine one_ (i := 8) (N := some 7) #[true,true,true,true,true,true,true,true,true,false,false] rfl rfl (one_of HT_.out (by kernel_rfl)) (by decide) (fun K hK => ?_); refine box_step ?hg (N := 7) ?hd (cs := #[.int .i64 0, .int .i64 0]) (t := 49) ?hr ?_; (case hd => rfl); (case hg => rfl); (case hr => first | (go_simp; done) | (go_simp; rfl))
      intro gb240 hg w81 hbox hb; have n0_ := bb_ BK217 hb; have n1_ := bb_ BK218 hb; have n2_ := bb_ BK229 hb; have n3_ := bs_ HB hb; have n4_ := Aside0.mk hbox; have n5_ := ge_ HB hg; have n6_ := ge_ HB hg; have n7_ := nl_ BK217 hg; have n8_ := nr_ BK217 hg; have n9_ := nl_ BK218 hg; have n10_ := nr_ BK218 hg; have n11_ := nl_ BK229 hg; have n12_ := nr_ BK229 hg; clear BK217 BK218 BK229 HB; have BK217 := n0_; have BK218 := n1_; have BK229 := n2_; have HB := n3_; have BK240 := n4_; have GW240 := n5_; have GE240 := n6_; have NB217_240 := n7_; have NB240_217 := n8_; have NB218_240 := n9_; have NB240_218 := n10_; have NB229_240 := n11_; have NB240_229 := n12_; clear n0_ n1_ n2_ n3_ n4_ n5_ n6_ n7_ n8_ n9_ n10_ n11_ n12_; clear hb hbox hg; refine hK.out _ _ ⟨bc_ BK217 0, bc_ BK217 1, bc_ BK217 2, bc_ BK217 3, bc_ BK217 4, bc_ BK218 0, bc_ BK218 1⟩ (fun hHeld => ?_); clear hK K
      apply norm_
      · show Act.put _ (some 7) _ = _; simp only [Act.put, sA_, sZ_, sS_, i64_w, i32_w]; rfl
      exact norm_ (by simp only [putAll, Act.put, sA_, sZ_, sS_]) (hCont (gb240) _ ⟨hHeld, (bk_ BK217), (bk_ BK218), (bk_ BK229), (bk_ BK240), GW240.out, GE240.out, NB217_240.out, NB240_217.out, NB218_240.out, NB240_218.out, NB229_240.out, NB240_229.out, (bw_ HB)⟩)
     ·
      refine box_step ?hg (N := 7) ?hd (cs := #[.int .i64 0, .int .i64 0]) (t := 49) ?hr ?_; (case hd => rfl); (case hg => rfl); (case hr => first | (go_simp; done) | (go_simp; rfl))
      intro gb240 hg w80 hbox hb; have n0_ := bb_ BK217 hb; have n1_ := bb_ BK218 hb; have n2_ := bb_ BK229 hb; have n3_ := bs_ HB hb; have n4_ := Aside0.mk hbox; have n5_ := ge_ HB hg; have n6_ := ge_ HB hg; have n7_ := nl_ BK217 hg; have n8_ := nr_ BK217 hg; have n9_ := nl_ BK218 hg; have n10_ := nr_ BK218 hg; have n11_ := nl_ BK229 hg; have n12_ := nr_ BK229 hg; clear BK217 BK218 BK229 HB; have BK217 := n0_; have BK218 := n1_; have BK229 := n2_; have HB := n3_; have BK240 := n4_; have GW240 := n5_; have GE240 := n6_; have NB217_240 := n7_; have NB240_217 := n8_; have NB218_240 := n9_; have NB240_218 := n10_; have NB229_240 := n11_; have NB240_229 := n12_; clear n0_ n1_ n2_ n3_ n4_ n5_ n6_ n7_ n8_ n9_ n10_ n11_ n12_; clear hb hbox hg; refine hK.out _ _ ⟨bc_ BK217 0, bc_ BK217 1, bc_ BK217 2, bc_ BK217 3, bc_ BK217 4, bc_ BK218 0, bc_ BK218 1⟩ (fun hHeld => ?_); clear hK K
      apply norm_
      · show Act.put _ (some 7) _ = _; simp only [Act.put, sA_, sZ_, sS_, i64_w, i32_w]; rfl
      refine one_ (i := 4) (N := some 22) #[true,true,true,true,true,false,false,false,true,false,false] rfl rfl (one_of HT_.out (by kernel_rfl)) (by decide) (fun K hK => ?_); refine gs_ Try.func47 #[.agg #[.int .i64 t230, .int .i64 t231, .int .i64 t232, .int .i64 t233, .int .i64 t234], .agg #[.int .i64 t235, .int .i64 t236]] ?_
      with_reducible refine (impl_EdCofactor.calls k t230 t231 t232 t233 t234 t235 t236 t237 t238 t239 _ A8.out).mono ?_
      rintro e w81 ⟨rfl, hb⟩; refine ⟨_, rfl, ?_⟩; replace BK217 := bb_ BK217 hb; replace BK218 := bb_ BK218 hb; replace BK229 := bb_ BK229 hb; replace BK240 := bb_ BK240 hb; replace HB := bs_ HB hb; (try clear hb); refine hK.out _ _ ⟨bc_ BK217 0, bc_ BK217 1, bc_ BK217 2, bc_ BK217 3, bc_ BK217 4, bc_ BK218 0, bc_ BK218 1⟩ (fun hHeld => ?_); clear hK K
      apply norm_
      · show Act.put _ (some 22) _ = _; simp only [Act.put, sA_, sZ_, sS_, i64_w, i32_w]; rfl
      refine pure_ (i := 5) (N := some 17) (v := ?_) (a' := ?_) #[true,true,true,true,true,true,false,false,true,false,false] rfl rfl (any_of HT_.out (by kernel_rfl)) (fun _ _ _ h => h) (Or.inl ⟨by rfl, ?_⟩) ?_ ?_; rotate_left
      ·
       intro w'; go_simp
       with_reducible rfl
      rotate_left
      · simp only [Act.put, sA_, sZ_, sS_, i64_w, i32_w]; rfl
      refine pure_ (i := 6) (N := some 23) (v := ?_) (a' := ?_) #[true,true,true,true,true,true,true,false,true,false,false] rfl rfl (any_of HT_.out (by kernel_rfl)) (fun _ _ _ h => h) (Or.inl ⟨by rfl, ?_⟩) ?_ ?_; rotate_left
      ·
       intro w'; go_simp
       with_reducible rfl
      rotate_left
      · simp only [Act.put, sA_, sZ_, sS_, i64_w, i32_w]; rfl
      refine pure_ (i := 7) (N := some 24) (v := ?_) (a' := ?_) #[true,true,true,true,true,true,true,true,true,false,false] rfl rfl (any_of HT_.out (by kernel_rfl)) (fun _ _ _ h => h) (Or.inl ⟨by rfl, ?_⟩) ?_ ?_; rotate_left
      ·
       intro w'; go_simp
       with_reducible rfl
      rotate_left
      · simp only [Act.put, sA_, sZ_, sS_, i64_w, i32_w]; rfl
      exact norm_ (by simp only [putAll, Act.put, sA_, sZ_, sS_]) (hCont (gb240) _ ⟨hHeld, (bk_ BK217), (bk_ BK218), (bk_ BK229), (bk_ BK240), GW240.out, GE240.out, NB217_240.out, NB240_217.out, NB218_240.out, NB240_218.out, NB229_240.out, NB240_229.out, (bw_ HB)⟩)
    ·
     refine box_step ?hg (N := 7) ?hd (cs := #[.int .i64 0, .int .i64 0]) (t := 49) ?hr ?_; (case hd => rfl); (case hg => rfl); (case hr => first | (go_simp; done) | (go_simp; rfl))
     intro gb240 hg w79 hbox hb; have n0_ := bb_ BK217 hb; have n1_ := bb_ BK218 hb; have n2_ := bb_ BK229 hb; have n3_ := bs_ HB hb; have n4_ := Aside0.mk hbox; have n5_ := ge_ HB hg; have n6_ := ge_ HB hg; have n7_ := nl_ BK217 hg; have n8_ := nr_ BK217 hg; have n9_ := nl_ BK218 hg; have n10_ := nr_ BK218 hg; have n11_ := nl_ BK229 hg; have n12_ := nr_ BK229 hg; clear BK217 BK218 BK229 HB; have BK217 := n0_; have BK218 := n1_; have BK229 := n2_; have HB := n3_; have BK240 := n4_; have GW240 := n5_; have GE240 := n6_; have NB217_240 := n7_; have NB240_217 := n8_; have NB218_240 := n9_; have NB240_218 := n10_; have NB229_240 := n11_; have NB240_229 := n12_; clear n0_ n1_ n2_ n3_ n4_ n5_ n6_ n7_ n8_ n9_ n10_ n11_ n12_; clear hb hbox hg; refine hK.out _ _ ⟨bc_ BK217 0, bc_ BK217 1, bc_ BK217 2, bc_ BK217 3, bc_ BK217 4, bc_ BK218 0, bc_ BK218 1⟩ (fun hHeld => ?_); clear hK K
     apply norm_
     · show Act.put _ (some 7) _ = _; simp only [Act.put, sA_, sZ_, sS_, i64_w, i32_w]; rfl
     refine one_ (i := 3) (N := some 21) #[true,true,true,true,false,false,false,false,true,false,false] rfl rfl (one_of HT_.out (by kernel_rfl)) (by decide) (fun K hK => ?_); refine gs_ Try.func36 #[.agg #[.int .i64 a1_0, .int .i64 a1_1]] ?_
     with_reducible refine (laws_toPair.calls a1_0 a1_1 t235 t236 _ A7.out).mono ?_
     rintro e w80 ⟨rfl, hb⟩; refine ⟨_, rfl, ?_⟩; replace BK217 := bb_ BK217 hb; replace BK218 := bb_ BK218 hb; replace BK229 := bb_ BK229 hb; replace BK240 := bb_ BK240 hb; replace HB := bs_ HB hb; (try clear hb); refine hK.out _ _ ⟨bc_ BK217 0, bc_ BK217 1, bc_ BK217 2, bc_ BK217 3, bc_ BK217 4, bc_ BK218 0, bc_ BK218 1⟩ (fun hHeld => ?_); clear hK K
     apply norm_
     · show Act.put _ (some 21) _ = _; simp only [Act.put, sA_, sZ_, sS_, i64_w, i32_w]; rfl
     refine one_ (i := 4) (N := some 22) #[true,true,true,true,true,false,false,false,true,false,false] rfl rfl (one_of HT_.out (by kernel_rfl)) (by decide) (fun K hK => ?_); refine gs_ Try.func47 #[.agg #[.int .i64 t230, .int .i64 t231, .int .i64 t232, .int .i64 t233, .int .i64 t234], .agg #[.int .i64 t235, .int .i64 t236]] ?_
     with_reducible refine (impl_EdCofactor.calls k t230 t231 t232 t233 t234 t235 t236 t237 t238 t239 _ A8.out).mono ?_
     rintro e w81 ⟨rfl, hb⟩; refine ⟨_, rfl, ?_⟩; replace BK217 := bb_ BK217 hb; replace BK218 := bb_ BK218 hb; replace BK229 := bb_ BK229 hb; replace BK240 := bb_ BK240 hb; replace HB := bs_ HB hb; (try clear hb); refine hK.out _ _ ⟨bc_ BK217 0, bc_ BK217 1, bc_ BK217 2, bc_ BK217 3, bc_ BK217 4, bc_ BK218 0, bc_ BK218 1⟩ (fun hHeld => ?_); clear hK K
     apply norm_
     · show Act.put _ (some 22) _ = _; simp only [Act.put, sA_, sZ_, sS_, i64_w, i32_w]; rfl
     refine pure_ (i := 5) (N := some 17) (v := ?_) (a' := ?_) #[true,true,true,true,true,true,false,false,true,false,false] rfl rfl (any_of HT_.out (by kernel_rfl)) (fun _ _ _ h => h) (Or.inl ⟨by rfl, ?_⟩) ?_ ?_; rotate_left
     ·
      intro w'; go_simp
      with_reducible rfl
     rotate_left
     · simp only [Act.put, sA_, sZ_, sS_, i64_w, i32_w]; rfl
     refine pure_ (i := 6) (N := some 23) (v := ?_) (a' := ?_) #[true,true,true,true,true,true,true,false,true,false,false] rfl rfl (any_of HT_.out (by kernel_rfl)) (fun _ _ _ h => h) (Or.inl ⟨by rfl, ?_⟩) ?_ ?_; rotate_left
     ·
      intro w'; go_simp
      with_reducible rfl
     rotate_left
     · simp only [Act.put, sA_, sZ_, sS_, i64_w, i32_w]; rfl
     refine pure_ (i := 7) (N := some 24) (v := ?_) (a' := ?_) #[true,true,true,true,true,true,true,true,true,false,false] rfl rfl (any_of HT_.out (by kernel_rfl)) (fun _ _ _ h => h) (Or.inl ⟨by rfl, ?_⟩) ?_ ?_; rotate_left
     ·
      intro w'; go_simp
      with_reducible rfl
     rotate_left
     · simp only [Act.put, sA_, sZ_, sS_, i64_w, i32_w]; rfl
     exact norm_ (by simp only [putAll, Act.put, sA_, sZ_, sS_]) (hCont (gb240) _ ⟨hHeld, (bk_ BK217), (bk_ BK218), (bk_ BK229), (bk_ BK240), GW240.out, GE240.out, NB217_240.out, NB240_217.out, NB218_240.out, NB240_218.out, NB229_240.out, NB240_229.out, (bw_ HB)⟩)
   ·
    refine box_step ?hg (N := 7) ?hd (cs := #[.int .i64 0, .int .i64 0]) (t := 49) ?hr ?_; (case hd => rfl); (case hg => rfl); (case hr => first | (go_simp; done) | (go_simp; rfl))
    intro gb240 hg w78 hbox hb; have n0_ := bb_ BK217 hb; have n1_ := bb_ BK218 hb; have n2_ := bb_ BK229 hb; have n3_ := bs_ HB hb; have n4_ := Aside0.mk hbox; have n5_ := ge_ HB hg; have n6_ := ge_ HB hg; have n7_ := nl_ BK217 hg; have n8_ := nr_ BK217 hg; have n9_ := nl_ BK218 hg; have n10_ := nr_ BK218 hg; have n11_ := nl_ BK229 hg; have n12_ := nr_ BK229 hg; clear BK217 BK218 BK229 HB; have BK217 := n0_; have BK218 := n1_; have BK229 := n2_; have HB := n3_; have BK240 := n4_; have GW240 := n5_; have GE240 := n6_; have NB217_240 := n7_; have NB240_217 := n8_; have NB218_240 := n9_; have NB240_218 := n10_; have NB229_240 := n11_; have NB240_229 := n12_; clear n0_ n1_ n2_ n3_ n4_ n5_ n6_ n7_ n8_ n9_ n10_ n11_ n12_; clear hb hbox hg; refine hK.out _ _ ⟨bc_ BK217 0, bc_ BK217 1, bc_ BK217 2, bc_ BK217 3, bc_ BK217 4, bc_ BK218 0, bc_ BK218 1⟩ (fun hHeld => ?_); clear hK K
    apply norm_
    · show Act.put _ (some 7) _ = _; simp only [Act.put, sA_, sZ_, sS_, i64_w, i32_w]; rfl
    refine one_ (i := 1) (N := some 19) #[true,true,true,false,false,false,false,false,true,false,false] rfl rfl (one_of HT_.out (by kernel_rfl)) (by decide) (fun K hK => ?_); refine gs_ Try.func28 #[.agg #[.int .i64 a0_0, .int .i64 a0_1, .int .i64 a0_2, .int .i64 a0_3, .int .i64 a0_4]] ?_
    with_reducible refine (laws_toEd.calls a0_0 a0_1 a0_2 a0_3 a0_4 t230 t231 t232 t233 t234 _ A6.out).mono ?_
    rintro e w79 ⟨rfl, hb⟩; refine ⟨_, rfl, ?_⟩; replace BK217 := bb_ BK217 hb; replace BK218 := bb_ BK218 hb; replace BK229 := bb_ BK229 hb; replace BK240 := bb_ BK240 hb; replace HB := bs_ HB hb; (try clear hb); refine hK.out _ _ ⟨bc_ BK217 0, bc_ BK217 1, bc_ BK217 2, bc_ BK217 3, bc_ BK217 4, bc_ BK218 0, bc_ BK218 1⟩ (fun hHeld => ?_); clear hK K
    apply norm_
    · show Act.put _ (some 19) _ = _; simp only [Act.put, sA_, sZ_, sS_, i64_w, i32_w]; rfl
    refine one_ (i := 3) (N := some 21) #[true,true,true,true,false,false,false,false,true,false,false] rfl rfl (one_of HT_.out (by kernel_rfl)) (by decide) (fun K hK => ?_); refine gs_ Try.func36 #[.agg #[.int .i64 a1_0, .int .i64 a1_1]] ?_
    with_reducible refine (laws_toPair.calls a1_0 a1_1 t235 t236 _ A7.out).mono ?_
    rintro e w80 ⟨rfl, hb⟩; refine ⟨_, rfl, ?_⟩; replace BK217 := bb_ BK217 hb; replace BK218 := bb_ BK218 hb; replace BK229 := bb_ BK229 hb; replace BK240 := bb_ BK240 hb; replace HB := bs_ HB hb; (try clear hb); refine hK.out _ _ ⟨bc_ BK217 0, bc_ BK217 1, bc_ BK217 2, bc_ BK217 3, bc_ BK217 4, bc_ BK218 0, bc_ BK218 1⟩ (fun hHeld => ?_); clear hK K
    apply norm_
    · show Act.put _ (some 21) _ = _; simp only [Act.put, sA_, sZ_, sS_, i64_w, i32_w]; rfl
    refine one_ (i := 4) (N := some 22) #[true,true,true,true,true,false,false,false,true,false,false] rfl rfl (one_of HT_.out (by kernel_rfl)) (by decide) (fun K hK => ?_); refine gs_ Try.func47 #[.agg #[.int .i64 t230, .int .i64 t231, .int .i64 t232, .int .i64 t233, .int .i64 t234], .agg #[.int .i64 t235, .int .i64 t236]] ?_
    with_reducible refine (impl_EdCofactor.calls k t230 t231 t232 t233 t234 t235 t236 t237 t238 t239 _ A8.out).mono ?_
    rintro e w81 ⟨rfl, hb⟩; refine ⟨_, rfl, ?_⟩; replace BK217 := bb_ BK217 hb; replace BK218 := bb_ BK218 hb; replace BK229 := bb_ BK229 hb; replace BK240 := bb_ BK240 hb; replace HB := bs_ HB hb; (try clear hb); refine hK.out _ _ ⟨bc_ BK217 0, bc_ BK217 1, bc_ BK217 2, bc_ BK217 3, bc_ BK217 4, bc_ BK218 0, bc_ BK218 1⟩ (fun hHeld => ?_); clear hK K
    apply norm_
    · show Act.put _ (some 22) _ = _; simp only [Act.put, sA_, sZ_, sS_, i64_w, i32_w]; rfl
    refine pure_ (i := 5) (N := some 17) (v := ?_) (a' := ?_) #[true,true,true,true,true,true,false,false,true,false,false] rfl rfl (any_of HT_.out (by kernel_rfl)) (fun _ _ _ h => h) (Or.inl ⟨by rfl, ?_⟩) ?_ ?_; rotate_left
    ·
     intro w'; go_simp
     with_reducible rfl
    rotate_left
    · simp only [Act.put, sA_, sZ_, sS_, i64_w, i32_w]; rfl
    refine pure_ (i := 6) (N := some 23) (v := ?_) (a' := ?_) #[true,true,true,true,true,true,true,false,true,false,false] rfl rfl (any_of HT_.out (by kernel_rfl)) (fun _ _ _ h => h) (Or.inl ⟨by rfl, ?_⟩) ?_ ?_; rotate_left
    ·
     intro w'; go_simp
     with_reducible rfl
    rotate_left
    · simp only [Act.put, sA_, sZ_, sS_, i64_w, i32_w]; rfl
    refine pure_ (i := 7) (N := some 24) (v := ?_) (a' := ?_) #[true,true,true,true,true,true,true,true,true,false,false] rfl rfl (any_of HT_.out (by kernel_rfl)) (fun _ _ _ h => h) (Or.inl ⟨by rfl, ?_⟩) ?_ ?_; rotate_left
    ·
     intro w'; go_simp
     with_reducible rfl
    rotate_left
    · simp only [Act.put, sA_, sZ_, sS_, i64_w, i32_w]; rfl
    exact norm_ (by simp only [putAll, Act.put, sA_, sZ_, sS_]) (hCont (gb240) _ ⟨hHeld, (bk_ BK217), (bk_ BK218), (bk_ BK229), (bk_ BK240), GW240.out, GE240.out, NB217_240.out, NB240_217.out, NB218_240.out, NB240_218.out, NB229_240.out, NB240_229.out, (bw_ HB)⟩)
  rintro gb240 w82 ⟨hS_, h0_, h1_, h2_, h3_, h4_, h5_, h6_, h7_, h8_, h9_, h10_, h11_, h12_⟩; replace BK217 := Aside0.mk h0_; replace BK218 := Aside0.mk h1_; replace BK229 := Aside0.mk h2_; have BK240 := Aside0.mk h3_; have GW240 := Aside0.mk h4_; have GE240 := Aside0.mk h5_; have NB217_240 := Aside0.mk h6_; have NB240_217 := Aside0.mk h7_; have NB218_240 := Aside0.mk h8_; have NB240_218 := Aside0.mk h9_; have NB229_240 := Aside0.mk h10_; have NB240_229 := Aside0.mk h11_; replace HB := Aside0.mk h12_; clear h0_ h1_ h2_ h3_ h4_ h5_ h6_ h7_ h8_ h9_ h10_ h11_ h12_; have hHeld := hS_
  apply norm_
  · simp only [putAll, Act.put, sA_, sZ_, sS_]; rfl
  refine one_ (i := 9) (N := none) #[true,true,true,true,true,true,true,true,true,true,false] rfl rfl (one_of HT_.out (by kernel_rfl)) (by decide) (fun K hK => ?_)
  have hs83 : w82.cell? ⟨gb240, 0, none⟩ = some (.int .i64 0) := bc_ BK240 0
  have hfs83 := blk_frozen BK240.out 0; have hns83_0 := NB217_240.out; have hns83_1 := NB218_240.out; have hns83_2 := NB229_240.out; have hms83_0 := NB240_217.out; have hms83_1 := NB240_218.out; have hms83_2 := NB240_229.out
  have hs84 : w82.cell? ⟨gb240, 1, none⟩ = some (.int .i64 0) := bc_ BK240 1
  have hfs84 := blk_frozen BK240.out 1; have hns84_0 := NB217_240.out; have hns84_1 := NB218_240.out; have hns84_2 := NB229_240.out; have hms84_0 := NB240_217.out; have hms84_1 := NB240_218.out; have hms84_2 := NB240_229.out; refine skip_ (w1 := ?_) (by rfl) rfl ?_ ?_; rotate_left
  · go_simp; rfl
  refine hK.out _ _ ⟨((cell_far (p := ⟨gb240, _, none⟩) NB217_240.out _).trans (((cell_far (p := ⟨gb240, _, none⟩) NB217_240.out _).trans (hHeld.1)))), ((cell_far (p := ⟨gb240, _, none⟩) NB217_240.out _).trans (((cell_far (p := ⟨gb240, _, none⟩) NB217_240.out _).trans (hHeld.2.1)))), ((cell_far (p := ⟨gb240, _, none⟩) NB217_240.out _).trans (((cell_far (p := ⟨gb240, _, none⟩) NB217_240.out _).trans (hHeld.2.2.1)))), ((cell_far (p := ⟨gb240, _, none⟩) NB217_240.out _).trans (((cell_far (p := ⟨gb240, _, none⟩) NB217_240.out _).trans (hHeld.2.2.2.1)))), ((cell_far (p := ⟨gb240, _, none⟩) NB217_240.out _).trans (((cell_far (p := ⟨gb240, _, none⟩) NB217_240.out _).trans (hHeld.2.2.2.2.1)))), ((cell_far (p := ⟨gb240, _, none⟩) NB218_240.out _).trans (((cell_far (p := ⟨gb240, _, none⟩) NB218_240.out _).trans (hHeld.2.2.2.2.2.1)))), ((cell_far (p := ⟨gb240, _, none⟩) NB218_240.out _).trans (((cell_far (p := ⟨gb240, _, none⟩) NB218_240.out _).trans (hHeld.2.2.2.2.2.2))))⟩ (fun hHeld => ?_); clear hK K; refine pure_ (i := 10) (N := some 8) (v := ?_) (a' := ?_) #[true,true,true,true,true,true,true,true,true,true,true] rfl rfl (any_of HT_.out (by kernel_rfl)) (fun _ _ _ h => h) (Or.inl ⟨by rfl, ?_⟩) ?_ ?_; rotate_left
  ·
   intro w'; go_simp
   with_reducible rfl
  rotate_left
  · simp only [Act.put, sA_, sZ_, sS_, i64_w, i32_w]; rfl
  refine done_ (done_of HT_.out (by kernel_rfl)) ?_; have hnb85 := NB240_217.out; have hnc85 := NB217_240.out; have hnb86 := NB240_218.out; have hnc86 := NB218_240.out; have hnb87 := NB240_229.out; have hnc87 := NB229_240.out
  have hcz88_0 : w82.cell? ⟨gb240, 0, none⟩ = some (.int .i64 0) := bc_ BK240 0
  have hcz88_1 : w82.cell? ⟨gb240, 1, none⟩ = some (.int .i64 0) := bc_ BK240 1
  have hfz88_0 := blk_frozen BK240.out 0; have hfz88_1 := blk_frozen BK240.out 1; have hnb89 := NB229_217.out; have hnc89 := NB217_229.out; have hnb90 := NB229_218.out; have hnc90 := NB218_229.out
  have hcz91_0 : w82.cell? ⟨gb229, 0, none⟩ = some (.int .i64 t226) := bc_ BK229 0
  have hcz91_1 : w82.cell? ⟨gb229, 1, none⟩ = some (.int .i64 t227) := bc_ BK229 1
  have hfz91_0 := blk_frozen BK229.out 0; have hfz91_1 := blk_frozen BK229.out 1
  try go_wp2_with (first | ((with_reducible refine gate_callee (f := 43) rfl ?_); refine goesL_ (some 27) rfl rfl Try.func43 (by kernel_rfl) rfl #[.agg #[.int .i64 t237, .int .i64 t238], .agg #[.int .i64 t226, .int .i64 t227]] rfl (by (try simp only [List.map_toArray, List.map_cons, List.map_nil]); first | done | rfl | (simp only [List.length_drop, List.length_take]; rfl)) ?_; (with_reducible refine (laws_eqPair.calls t237 t238 t226 t227 false _ A9.out).mono ?_); rintro e w92 ⟨rfl, hb⟩; refine ⟨_, rfl, ?_⟩; have n0_ := Aside0.mk (blk_below (g := gb217) (o := .cells #[.int .i64 a0_0, .int .i64 a0_1, .int .i64 a0_2, .int .i64 a0_3, .int .i64 a0_4] 35 (0, 0)) (by (with_reducible repeat (first | refine blk_drewN ?_ _ | refine blk_drew ?_ | refine blk_alloc ?_ _)); refine blk_far ?_ NB217_240.out _; (with_reducible repeat (first | refine blk_drewN ?_ _ | refine blk_drew ?_ | refine blk_alloc ?_ _)); refine blk_far ?_ NB217_240.out _; (with_reducible repeat (first | refine blk_drewN ?_ _ | refine blk_drew ?_ | refine blk_alloc ?_ _)); exact BK217.out) hb); have n1_ := Aside0.mk (blk_below (g := gb218) (o := .cells #[.int .i64 a1_0, .int .i64 a1_1] 47 (0, 0)) (by (with_reducible repeat (first | refine blk_drewN ?_ _ | refine blk_drew ?_ | refine blk_alloc ?_ _)); refine blk_far ?_ NB218_240.out _; (with_reducible repeat (first | refine blk_drewN ?_ _ | refine blk_drew ?_ | refine blk_alloc ?_ _)); refine blk_far ?_ NB218_240.out _; (with_reducible repeat (first | refine blk_drewN ?_ _ | refine blk_drew ?_ | refine blk_alloc ?_ _)); exact BK218.out) hb); have n2_ := Aside0.mk (blk_below (g := gb229) (o := .cells #[.int .i64 t226, .int .i64 t227] 49 (0, 0)) (by (with_reducible repeat (first | refine blk_drewN ?_ _ | refine blk_drew ?_ | refine blk_alloc ?_ _)); refine blk_far ?_ NB229_240.out _; (with_reducible repeat (first | refine blk_drewN ?_ _ | refine blk_drew ?_ | refine blk_alloc ?_ _)); refine blk_far ?_ NB229_240.out _; (with_reducible repeat (first | refine blk_drewN ?_ _ | refine blk_drew ?_ | refine blk_alloc ?_ _)); exact BK229.out) hb); have n3_ := Aside0.mk (blk_below (g := gb240) (o := .cells #[.int .i64 t237, .int .i64 t238] 49 (0, 0)) (by (with_reducible repeat (first | refine blk_drewN ?_ _ | refine blk_drew ?_ | refine blk_alloc ?_ _)); refine blk_put (cs := #[.int .i64 t237, .int .i64 0]) ?_ 1 _ rfl; (with_reducible repeat (first | refine blk_drewN ?_ _ | refine blk_drew ?_ | refine blk_alloc ?_ _)); refine blk_put (cs := #[.int .i64 0, .int .i64 0]) ?_ 0 _ rfl; (with_reducible repeat (first | refine blk_drewN ?_ _ | refine blk_drew ?_ | refine blk_alloc ?_ _)); exact BK240.out) hb); have n4_ := bs_ HB hb; clear BK217; clear BK218; clear BK229; clear BK240; clear HB; have BK217 := n0_; have BK218 := n1_; have BK229 := n2_; have BK240 := n3_; have HB := n4_; clear n0_ n1_ n2_ n3_ n4_; (try clear hb); (try clear hb2); (try clear hk); (try clear hi)))
  go_ret
  exact ⟨by first | rfl | (simp [errW_none, errW_some] <;> rfl) | (simp [*, errW_none, errW_some] <;> rfl), by repeat (first | (with_reducible first | exact HB.out | apply below_alloc | apply pw_below_drewN | apply below_drew1 | refine below_set ?_ GE217.out | refine below_set ?_ GE218.out | refine below_set ?_ GE229.out | refine below_set ?_ GE240.out) | exact HB.out)⟩

/-- THE ONE PURE STATEMENT of laws_FnExactEdCofactor: yours. -/
def laws_FnExactEdCofactor.Pure : Prop := ∀ (a0_0 : Int) (a0_1 : Int) (a0_2 : Int) (a0_3 : Int) (a0_4 : Int) (a1_0 : Int) (a1_1 : Int), (Lit.int .i64 a0_0).wf = true → (Lit.int .i64 a0_1).wf = true → (Lit.int .i64 a0_2).wf = true → (Lit.int .i64 a0_3).wf = true → (Lit.int .i64 a0_4).wf = true → (Lit.int .i64 a1_0).wf = true → (Lit.int .i64 a1_1).wf = true → ∃ k, laws_FnExactEdCofactor.f k a0_0 a0_1 a0_2 a0_3 a0_4 a1_0 a1_1 = some true
theorem laws_FnExactEdCofactor.walk (P : laws_FnExactEdCofactor.Pure) (a0_0 : Int) (a0_1 : Int) (a0_2 : Int) (a0_3 : Int) (a0_4 : Int) (a1_0 : Int) (a1_1 : Int) (w : World) (w0_0 : (Lit.int .i64 a0_0).wf = true) (w0_1 : (Lit.int .i64 a0_1).wf = true) (w0_2 : (Lit.int .i64 a0_2).wf = true) (w0_3 : (Lit.int .i64 a0_3).wf = true) (w0_4 : (Lit.int .i64 a0_4).wf = true) (w1_0 : (Lit.int .i64 a1_0).wf = true) (w1_1 : (Lit.int .i64 a1_1).wf = true) :
  Calls Try.prog 13 #[.agg #[.int .i64 a0_0, .int .i64 a0_1, .int .i64 a0_2, .int .i64 a0_3, .int .i64 a0_4], .agg #[.int .i64 a1_0, .int .i64 a1_1]] w fun e w' => e = .returned (.bool true) ∧ Below w.heap.size w w' := by
 obtain ⟨k, h⟩ := P a0_0 a0_1 a0_2 a0_3 a0_4 a1_0 a1_1 w0_0 w0_1 w0_2 w0_3 w0_4 w1_0 w1_1; refine (laws_FnExactEdCofactor.calls k a0_0 a0_1 a0_2 a0_3 a0_4 a1_0 a1_1 true w h).mono ?_; rintro e w' ⟨rfl, hd⟩; exact ⟨rfl, hd⟩

end Go.Proofs.Ytohplbcbkggjaab.PFnExactEdCofactor
