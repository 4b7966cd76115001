-- Written for this claim by a program of this session.
import Derived.Test.YtohplbcbkggjaabPFnExactPairOkx0
import Derived.Test.YtohplbcbkggjaabPFnExactPairOkx2
import Derived.Test.YtohplbcbkggjaabPFnExactPairOkx5
import Derived.Test.YtohplbcbkggjaabPFnExactPairOkx7
namespace Go.Proofs.Ytohplbcbkggjaab.PFnExactPairOk
open Go.RowKit Go.Proofs.YtohplbcbkggjaabW.PrintWords Go.Proofs.YtohplbcbkggjaabW.PrintLast Go.Proofs.YtohplbcbkggjaabW.PrintMore
attribute [local go_sem] max2_int min2_int max_two min_two max_three min_three max_four min_four   -- for this text's walks alone
set_option linter.unusedVariables false
set_option linter.unusedSimpArgs false

/-! ### laws_FnExactPairOk: function 9 -/
def laws_FnExactPairOk.f (k : Nat) (a0_0 : Int) (a0_1 : Int) (a0_2 : Int) (a0_3 : Int) (a0_4 : Int) (a1_0 : Int) (a1_1 : Int) : Option (Bool) := (laws_toEd.f a0_0 a0_1 a0_2 a0_3 a0_4).bind fun bt198 => ((laws_toPair.f a1_0 a1_1).bind fun bt203 => ((spec_PairOk.f k bt198.1 bt198.2.1 bt198.2.2.1 bt198.2.2.2.1 bt198.2.2.2.2 bt203.1 bt203.2).bind fun t205 => ((laws_toEd.f a0_0 a0_1 a0_2 a0_3 a0_4).bind fun bt206 => ((laws_toPair.f a1_0 a1_1).bind fun bt211 => ((impl_PairOk.f k bt206.1 bt206.2.1 bt206.2.2.1 bt206.2.2.2.1 bt206.2.2.2.2 bt211.1 bt211.2).bind fun t213 => (if (t213 != t205) = true then (some false) else (some true)))))))
theorem laws_FnExactPairOk.mono : ∀ a0 a1 a2 a3 a4 a5 a6 k, LeO (laws_FnExactPairOk.f k a0 a1 a2 a3 a4 a5 a6) (laws_FnExactPairOk.f (k + 1) a0 a1 a2 a3 a4 a5 a6) := by
 intro a0 a1 a2 a3 a4 a5 a6 k
 unfold laws_FnExactPairOk.f
 repeat' first
   | (with_reducible exact impl_PairOk.mono _ _ _ _ _ _ _ _)
   | (with_reducible exact spec_PairOk.mono _ _ _ _ _ _ _ _)
   | (with_reducible exact LeO.refl _)
   | (with_reducible exact LeO.none _)
   | (with_reducible refine LeO.ite ?_ ?_)
   | (with_reducible refine LeO.bind ?_ (fun _ => ?_))
   | exact impl_PairOk.mono _ _ _ _ _ _ _ _
   | exact spec_PairOk.mono _ _ _ _ _ _ _ _
   | exact LeO.none _
   | refine LeO.ite ?_ ?_
   | refine LeO.bind ?_ (fun _ => ?_)
set_option maxHeartbeats 8000000 in
set_option maxRecDepth 100000 in
theorem laws_FnExactPairOk.calls (k : Nat) (a0_0 : Int) (a0_1 : Int) (a0_2 : Int) (a0_3 : Int) (a0_4 : Int) (a1_0 : Int) (a1_1 : Int) (r : Bool) (w : World) (h : laws_FnExactPairOk.f k a0_0 a0_1 a0_2 a0_3 a0_4 a1_0 a1_1 = some r) :
  Calls Try.prog 9 #[.agg #[.int .i64 a0_0, .int .i64 a0_1, .int .i64 a0_2, .int .i64 a0_3, .int .i64 a0_4], .agg #[.int .i64 a1_0, .int .i64 a1_1]] w fun e w' => e = .returned (.bool r) ∧ Below w.heap.size w w' := by
 have hu35 := Try.underlying35; have hu47 := Try.underlying47; have HB := Aside0.mk (Below.refl w.heap.size w)
 have H : ((laws_toEd.f a0_0 a0_1 a0_2 a0_3 a0_4).bind fun bt198 => ((laws_toPair.f a1_0 a1_1).bind fun bt203 => ((spec_PairOk.f k bt198.1 bt198.2.1 bt198.2.2.1 bt198.2.2.2.1 bt198.2.2.2.2 bt203.1 bt203.2).bind fun t205 => ((laws_toEd.f a0_0 a0_1 a0_2 a0_3 a0_4).bind fun bt206 => ((laws_toPair.f a1_0 a1_1).bind fun bt211 => ((impl_PairOk.f k bt206.1 bt206.2.1 bt206.2.2.1 bt206.2.2.2.1 bt206.2.2.2.2 bt211.1 bt211.2).bind fun t213 => (if (t213 != t205) = true then (some false) else (some true)))))))) = some r := h
 clear h; replace H := Option.bind_eq_some_iff.mp H; obtain ⟨⟨t198, t199, t200, t201, t202⟩, A30, H⟩ := H
 replace H : ((laws_toPair.f a1_0 a1_1).bind fun bt203 => ((spec_PairOk.f k t198 t199 t200 t201 t202 bt203.1 bt203.2).bind fun t205 => ((laws_toEd.f a0_0 a0_1 a0_2 a0_3 a0_4).bind fun bt206 => ((laws_toPair.f a1_0 a1_1).bind fun bt211 => ((impl_PairOk.f k bt206.1 bt206.2.1 bt206.2.2.1 bt206.2.2.2.1 bt206.2.2.2.2 bt211.1 bt211.2).bind fun t213 => (if (t213 != t205) = true then (some false) else (some true))))))) = some r := H
 have A3 := Aside0.mk A30; clear A30; replace H := Option.bind_eq_some_iff.mp H; obtain ⟨⟨t203, t204⟩, A40, H⟩ := H
 replace H : ((spec_PairOk.f k t198 t199 t200 t201 t202 t203 t204).bind fun t205 => ((laws_toEd.f a0_0 a0_1 a0_2 a0_3 a0_4).bind fun bt206 => ((laws_toPair.f a1_0 a1_1).bind fun bt211 => ((impl_PairOk.f k bt206.1 bt206.2.1 bt206.2.2.1 bt206.2.2.2.1 bt206.2.2.2.2 bt211.1 bt211.2).bind fun t213 => (if (t213 != t205) = true then (some false) else (some true)))))) = some r := H
 have A4 := Aside0.mk A40; clear A40; replace H := Option.bind_eq_some_iff.mp H; obtain ⟨t205, A50, H⟩ := H
 replace H : ((laws_toEd.f a0_0 a0_1 a0_2 a0_3 a0_4).bind fun bt206 => ((laws_toPair.f a1_0 a1_1).bind fun bt211 => ((impl_PairOk.f k bt206.1 bt206.2.1 bt206.2.2.1 bt206.2.2.2.1 bt206.2.2.2.2 bt211.1 bt211.2).bind fun t213 => (if (t213 != t205) = true then (some false) else (some true))))) = some r := H
 have A5 := Aside0.mk A50; clear A50; replace H := Option.bind_eq_some_iff.mp H; obtain ⟨⟨t206, t207, t208, t209, t210⟩, A60, H⟩ := H
 replace H : ((laws_toPair.f a1_0 a1_1).bind fun bt211 => ((impl_PairOk.f k t206 t207 t208 t209 t210 bt211.1 bt211.2).bind fun t213 => (if (t213 != t205) = true then (some false) else (some true)))) = some r := H
 have A6 := Aside0.mk A60; clear A60; replace H := Option.bind_eq_some_iff.mp H; obtain ⟨⟨t211, t212⟩, A70, H⟩ := H
 replace H : ((impl_PairOk.f k t206 t207 t208 t209 t210 t211 t212).bind fun t213 => (if (t213 != t205) = true then (some false) else (some true))) = some r := H
 have A7 := Aside0.mk A70; clear A70; replace H := Option.bind_eq_some_iff.mp H; obtain ⟨t213, A80, H⟩ := H
 replace H : (if (t213 != t205) = true then (some false) else (some true)) = some r := H
 have A8 := Aside0.mk A80; clear A80
 by_cases c9 : (t213 != t205) = true
 ·
  rw [if_pos c9] at H
  have c9b0 : (t213 != t205) = true := c9
  (try (have c9b1 : decide (t213 = t205) = false := by simpa using c9)); (try (have c9b2 : (t213 == t205) = false := by simpa using c9)); (try (have c9b3 : ¬ (t213 = t205) := by simpa using c9)); clear c9; obtain rfl := Option.some.inj H
  go_enter Try.func9, Try.ntmps9
  try go_wp2_with (first | ((with_reducible refine gate_dst (N := 2) rfl ?_); refine box_event ?hg (N := 2) ?hd (cs := #[.int .i64 a0_0, .int .i64 a0_1, .int .i64 a0_2, .int .i64 a0_3, .int .i64 a0_4]) (t := 35) ?hr ?_; (case hd => rfl); (case hg => rfl); (case hr => first | (go_simp; done) | (go_simp; rfl)); intro gb196 hg w10 hbox hb; have n0_ := bs_ HB hb; have n1_ := Aside0.mk hbox; have n2_ := ge_ HB hg; have n3_ := ge_ HB hg; clear HB; have HB := n0_; have BK196 := n1_; have GW196 := n2_; have GE196 := n3_; clear n0_ n1_ n2_ n3_; clear hb hbox hg) | ((with_reducible refine gate_dst (N := 3) rfl ?_); refine box_event ?hg (N := 3) ?hd (cs := #[.int .i64 a1_0, .int .i64 a1_1]) (t := 47) ?hr ?_; (case hd => rfl); (case hg => rfl); (case hr => first | (go_simp; done) | (go_simp; rfl)); intro gb197 hg w11 hbox hb; have n0_ := bb_ BK196 hb; have n1_ := bs_ HB hb; have n2_ := Aside0.mk hbox; have n3_ := ge_ HB hg; have n4_ := ge_ HB hg; have n5_ := nl_ BK196 hg; have n6_ := nr_ BK196 hg; clear BK196; clear HB; have BK196 := n0_; have HB := n1_; have BK197 := n2_; have GW197 := n3_; have GE197 := n4_; have NB196_197 := n5_; have NB197_196 := n6_; clear n0_ n1_ n2_ n3_ n4_ n5_ n6_; clear hb hbox hg))
  replace BK196 := Aside0.mk (blk_drew BK196.out); replace BK197 := Aside0.mk (blk_drew BK197.out); replace HB := Aside0.mk (below_drew1 HB.out); refine start_ (n := 6) (S := fun w' => w'.cell? ⟨gb196, 0, none⟩ = some (.int .i64 a0_0) ∧ w'.cell? ⟨gb196, 1, none⟩ = some (.int .i64 a0_1) ∧ w'.cell? ⟨gb196, 2, none⟩ = some (.int .i64 a0_2) ∧ w'.cell? ⟨gb196, 3, none⟩ = some (.int .i64 a0_3) ∧ w'.cell? ⟨gb196, 4, none⟩ = some (.int .i64 a0_4) ∧ w'.cell? ⟨gb197, 0, none⟩ = some (.int .i64 a1_0) ∧ w'.cell? ⟨gb197, 1, none⟩ = some (.int .i64 a1_1)) (ds := []) #[false,false,false,false,false,false] (by kernel_rfl) rfl rfl ⟨bc_ BK196 0, bc_ BK196 1, bc_ BK196 2, bc_ BK196 3, bc_ BK196 4, bc_ BK197 0, bc_ BK197 1⟩ (fun hHeld => ?_)
  generalize w11.drew = w12 at BK196 BK197 HB hHeld ⊢
  refine take_ (i := 0) (N := some 7) (v := ?_) (a' := ?_) #[true,false,false,false,false,false] rfl rfl (by kernel_rfl) (fun _ _ _ h => h) (Or.inl ⟨by rfl, ?_⟩) hHeld ?_ ?_; rotate_left
  ·
   rintro w' ⟨s0, s1, s2, s3, s4, s5, s6⟩; go_simp
   with_reducible rfl
  rotate_left
  · simp only [Act.put, sA_, sZ_, sS_, i64_w, i32_w]; rfl
  refine take_ (i := 2) (N := some 9) (v := ?_) (a' := ?_) #[true,false,true,false,false,false] rfl rfl (by kernel_rfl) (fun _ _ _ h => h) (Or.inl ⟨by rfl, ?_⟩) hHeld ?_ ?_; rotate_left
  ·
   rintro w' ⟨s0, s1, s2, s3, s4, s5, s6⟩; go_simp
   with_reducible rfl
  rotate_left
  · simp only [Act.put, sA_, sZ_, sS_, i64_w, i32_w]; rfl
  refine one_ (i := 1) (N := some 8) #[true,true,true,false,false,false] rfl rfl (by kernel_rfl) (by decide) (fun K hK => ?_); refine gs_ Try.func28 #[.agg #[.int .i64 a0_0, .int .i64 a0_1, .int .i64 a0_2, .int .i64 a0_3, .int .i64 a0_4]] ?_
  with_reducible refine (laws_toEd.calls a0_0 a0_1 a0_2 a0_3 a0_4 t198 t199 t200 t201 t202 _ A3.out).mono ?_
  rintro e w13 ⟨rfl, hb⟩; refine ⟨_, rfl, ?_⟩; replace BK196 := bb_ BK196 hb; replace BK197 := bb_ BK197 hb; replace HB := bs_ HB hb; (try clear hb); refine hK.out _ _ ⟨bc_ BK196 0, bc_ BK196 1, bc_ BK196 2, bc_ BK196 3, bc_ BK196 4, bc_ BK197 0, bc_ BK197 1⟩ (fun hHeld => ?_); clear hK K
  apply norm_
  · show Act.put _ (some 8) _ = _; simp only [Act.put, sA_, sZ_, sS_, i64_w, i32_w]; rfl
  refine one_ (i := 3) (N := some 10) #[true,true,true,true,false,false] rfl rfl (by kernel_rfl) (by decide) (fun K hK => ?_); refine gs_ Try.func36 #[.agg #[.int .i64 a1_0, .int .i64 a1_1]] ?_
  with_reducible refine (laws_toPair.calls a1_0 a1_1 t203 t204 _ A4.out).mono ?_
  rintro e w14 ⟨rfl, hb⟩; refine ⟨_, rfl, ?_⟩; replace BK196 := bb_ BK196 hb; replace BK197 := bb_ BK197 hb; replace HB := bs_ HB hb; (try clear hb); refine hK.out _ _ ⟨bc_ BK196 0, bc_ BK196 1, bc_ BK196 2, bc_ BK196 3, bc_ BK196 4, bc_ BK197 0, bc_ BK197 1⟩ (fun hHeld => ?_); clear hK K
  apply norm_
  · show Act.put _ (some 10) _ = _; simp only [Act.put, sA_, sZ_, sS_, i64_w, i32_w]; rfl
  refine one_ (i := 4) (N := some 11) #[true,true,true,true,true,false] rfl rfl (by kernel_rfl) (by decide) (fun K hK => ?_); refine gs_ Try.func35 #[.agg #[.int .i64 t198, .int .i64 t199, .int .i64 t200, .int .i64 t201, .int .i64 t202], .agg #[.int .i64 t203, .int .i64 t204]] ?_
  with_reducible refine (spec_PairOk.calls k t198 t199 t200 t201 t202 t203 t204 t205 _ A5.out).mono ?_
  rintro e w15 ⟨rfl, hb⟩; refine ⟨_, rfl, ?_⟩; replace BK196 := bb_ BK196 hb; replace BK197 := bb_ BK197 hb; replace HB := bs_ HB hb; (try clear hb); refine hK.out _ _ ⟨bc_ BK196 0, bc_ BK196 1, bc_ BK196 2, bc_ BK196 3, bc_ BK196 4, bc_ BK197 0, bc_ BK197 1⟩ (fun hHeld => ?_); clear hK K
  apply norm_
  · show Act.put _ (some 11) _ = _; simp only [Act.put, sA_, sZ_, sS_, i64_w, i32_w]; rfl
  refine pure_ (i := 5) (N := some 5) (v := ?_) (a' := ?_) #[true,true,true,true,true,true] rfl rfl (by kernel_rfl) (fun _ _ _ h => h) (Or.inl ⟨by rfl, ?_⟩) ?_ ?_; rotate_left
  ·
   intro w'; go_simp
   with_reducible rfl
  rotate_left
  · simp only [Act.put, sA_, sZ_, sS_, i64_w, i32_w]; rfl
  refine done_ (by kernel_rfl) ?_
  try go_wp2
  replace BK196 := Aside0.mk (blk_drew BK196.out); replace BK197 := Aside0.mk (blk_drew BK197.out); replace HB := Aside0.mk (below_drew1 HB.out); refine start_ (n := 6) (S := fun w' => w'.cell? ⟨gb196, 0, none⟩ = some (.int .i64 a0_0) ∧ w'.cell? ⟨gb196, 1, none⟩ = some (.int .i64 a0_1) ∧ w'.cell? ⟨gb196, 2, none⟩ = some (.int .i64 a0_2) ∧ w'.cell? ⟨gb196, 3, none⟩ = some (.int .i64 a0_3) ∧ w'.cell? ⟨gb196, 4, none⟩ = some (.int .i64 a0_4) ∧ w'.cell? ⟨gb197, 0, none⟩ = some (.int .i64 a1_0) ∧ w'.cell? ⟨gb197, 1, none⟩ = some (.int .i64 a1_1)) (ds := []) #[false,false,false,false,false,false] (by kernel_rfl) rfl rfl ⟨bc_ BK196 0, bc_ BK196 1, bc_ BK196 2, bc_ BK196 3, bc_ BK196 4, bc_ BK197 0, bc_ BK197 1⟩ (fun hHeld => ?_)
  generalize w15.drew = w16 at BK196 BK197 HB hHeld ⊢
  refine take_ (i := 0) (N := some 12) (v := ?_) (a' := ?_) #[true,false,false,false,false,false] rfl rfl (by kernel_rfl) (fun _ _ _ h => h) (Or.inl ⟨by rfl, ?_⟩) hHeld ?_ ?_; rotate_left
  ·
   rintro w' ⟨s0, s1, s2, s3, s4, s5, s6⟩; go_simp
   with_reducible rfl
  rotate_left
  · simp only [Act.put, sA_, sZ_, sS_, i64_w, i32_w]; rfl
  refine take_ (i := 2) (N := some 14) (v := ?_) (a' := ?_) #[true,false,true,false,false,false] rfl rfl (by kernel_rfl) (fun _ _ _ h => h) (Or.inl ⟨by rfl, ?_⟩) hHeld ?_ ?_; rotate_left
  ·
   rintro w' ⟨s0, s1, s2, s3, s4, s5, s6⟩; go_simp
   with_reducible rfl
  rotate_left
  · simp only [Act.put, sA_, sZ_, sS_, i64_w, i32_w]; rfl
  refine one_ (i := 1) (N := some 13) #[true,true,true,false,false,false] rfl rfl (by kernel_rfl) (by decide) (fun K hK => ?_); refine gs_ Try.func28 #[.agg #[.int .i64 a0_0, .int .i64 a0_1, .int .i64 a0_2, .int .i64 a0_3, .int .i64 a0_4]] ?_
  with_reducible refine (laws_toEd.calls a0_0 a0_1 a0_2 a0_3 a0_4 t206 t207 t208 t209 t210 _ A6.out).mono ?_
  rintro e w17 ⟨rfl, hb⟩; refine ⟨_, rfl, ?_⟩; replace BK196 := bb_ BK196 hb; replace BK197 := bb_ BK197 hb; replace HB := bs_ HB hb; (try clear hb); refine hK.out _ _ ⟨bc_ BK196 0, bc_ BK196 1, bc_ BK196 2, bc_ BK196 3, bc_ BK196 4, bc_ BK197 0, bc_ BK197 1⟩ (fun hHeld => ?_); clear hK K
  apply norm_
  · show Act.put _ (some 13) _ = _; simp only [Act.put, sA_, sZ_, sS_, i64_w, i32_w]; rfl
  refine one_ (i := 3) (N := some 15) #[true,true,true,true,false,false] rfl rfl (by kernel_rfl) (by decide) (fun K hK => ?_); refine gs_ Try.func36 #[.agg #[.int .i64 a1_0, .int .i64 a1_1]] ?_
  with_reducible refine (laws_toPair.calls a1_0 a1_1 t211 t212 _ A7.out).mono ?_
  rintro e w18 ⟨rfl, hb⟩; refine ⟨_, rfl, ?_⟩; replace BK196 := bb_ BK196 hb; replace BK197 := bb_ BK197 hb; replace HB := bs_ HB hb; (try clear hb); refine hK.out _ _ ⟨bc_ BK196 0, bc_ BK196 1, bc_ BK196 2, bc_ BK196 3, bc_ BK196 4, bc_ BK197 0, bc_ BK197 1⟩ (fun hHeld => ?_); clear hK K
  apply norm_
  · show Act.put _ (some 15) _ = _; simp only [Act.put, sA_, sZ_, sS_, i64_w, i32_w]; rfl
  refine one_ (i := 4) (N := some 16) #[true,true,true,true,true,false] rfl rfl (by kernel_rfl) (by decide) (fun K hK => ?_); refine gs_ Try.func37 #[.agg #[.int .i64 t206, .int .i64 t207, .int .i64 t208, .int .i64 t209, .int .i64 t210], .agg #[.int .i64 t211, .int .i64 t212]] ?_
  with_reducible refine (impl_PairOk.calls k t206 t207 t208 t209 t210 t211 t212 t213 _ A8.out).mono ?_
  rintro e w19 ⟨rfl, hb⟩; refine ⟨_, rfl, ?_⟩; replace BK196 := bb_ BK196 hb; replace BK197 := bb_ BK197 hb; replace HB := bs_ HB hb; (try clear hb); refine hK.out _ _ ⟨bc_ BK196 0, bc_ BK196 1, bc_ BK196 2, bc_ BK196 3, bc_ BK196 4, bc_ BK197 0, bc_ BK197 1⟩ (fun hHeld => ?_); clear hK K
  apply norm_
  · show Act.put _ (some 16) _ = _; simp only [Act.put, sA_, sZ_, sS_, i64_w, i32_w]; rfl
  refine pure_ (i := 5) (N := some 6) (v := ?_) (a' := ?_) #[true,true,true,true,true,true] rfl rfl (by kernel_rfl) (fun _ _ _ h => h) (Or.inl ⟨by rfl, ?_⟩) ?_ ?_; rotate_left
  ·
   intro w'; go_simp
   with_reducible rfl
  rotate_left
  · simp only [Act.put, sA_, sZ_, sS_, i64_w, i32_w]; rfl
  refine done_ (by kernel_rfl) ?_
  try go_wp2
  go_ret
  exact ⟨by first | rfl | (simp [errW_none, errW_some] <;> rfl) | (simp [*, errW_none, errW_some] <;> rfl), by repeat (first | (with_reducible first | exact HB.out | apply below_alloc | apply pw_below_drewN | apply below_drew1 | refine below_set ?_ GE196.out | refine below_set ?_ GE197.out) | exact HB.out)⟩
 ·
  rw [if_neg c9] at H
  have c9b0 : (t213 != t205) = false := by simpa using c9
  (try (have c9b1 : decide (t213 = t205) = true := by simpa using c9)); (try (have c9b2 : (t213 == t205) = true := by simpa using c9)); clear c9; obtain rfl := Option.some.inj H
  go_enter Try.func9, Try.ntmps9
  try go_wp2_with (first | ((with_reducible refine gate_dst (N := 2) rfl ?_); refine box_event ?hg (N := 2) ?hd (cs := #[.int .i64 a0_0, .int .i64 a0_1, .int .i64 a0_2, .int .i64 a0_3, .int .i64 a0_4]) (t := 35) ?hr ?_; (case hd => rfl); (case hg => rfl); (case hr => first | (go_simp; done) | (go_simp; rfl)); intro gb196 hg w20 hbox hb; have n0_ := bs_ HB hb; have n1_ := Aside0.mk hbox; have n2_ := ge_ HB hg; have n3_ := ge_ HB hg; clear HB; have HB := n0_; have BK196 := n1_; have GW196 := n2_; have GE196 := n3_; clear n0_ n1_ n2_ n3_; clear hb hbox hg) | ((with_reducible refine gate_dst (N := 3) rfl ?_); refine box_event ?hg (N := 3) ?hd (cs := #[.int .i64 a1_0, .int .i64 a1_1]) (t := 47) ?hr ?_; (case hd => rfl); (case hg => rfl); (case hr => first | (go_simp; done) | (go_simp; rfl)); intro gb197 hg w21 hbox hb; have n0_ := bb_ BK196 hb; have n1_ := bs_ HB hb; have n2_ := Aside0.mk hbox; have n3_ := ge_ HB hg; have n4_ := ge_ HB hg; have n5_ := nl_ BK196 hg; have n6_ := nr_ BK196 hg; clear BK196; clear HB; have BK196 := n0_; have HB := n1_; have BK197 := n2_; have GW197 := n3_; have GE197 := n4_; have NB196_197 := n5_; have NB197_196 := n6_; clear n0_ n1_ n2_ n3_ n4_ n5_ n6_; clear hb hbox hg))
  replace BK196 := Aside0.mk (blk_drew BK196.out); replace BK197 := Aside0.mk (blk_drew BK197.out); replace HB := Aside0.mk (below_drew1 HB.out); refine start_ (n := 6) (S := fun w' => w'.cell? ⟨gb196, 0, none⟩ = some (.int .i64 a0_0) ∧ w'.cell? ⟨gb196, 1, none⟩ = some (.int .i64 a0_1) ∧ w'.cell? ⟨gb196, 2, none⟩ = some (.int .i64 a0_2) ∧ w'.cell? ⟨gb196, 3, none⟩ = some (.int .i64 a0_3) ∧ w'.cell? ⟨gb196, 4, none⟩ = some (.int .i64 a0_4) ∧ w'.cell? ⟨gb197, 0, none⟩ = some (.int .i64 a1_0) ∧ w'.cell? ⟨gb197, 1, none⟩ = some (.int .i64 a1_1)) (ds := []) #[false,false,false,false,false,false] (by kernel_rfl) rfl rfl ⟨bc_ BK196 0, bc_ BK196 1, bc_ BK196 2, bc_ BK196 3, bc_ BK196 4, bc_ BK197 0, bc_ BK197 1⟩ (fun hHeld => ?_)
  generalize w21.drew = w22 at BK196 BK197 HB hHeld ⊢
  refine take_ (i := 0) (N := some 7) (v := ?_) (a' := ?_) #[true,false,false,false,false,false] rfl rfl (by kernel_rfl) (fun _ _ _ h => h) (Or.inl ⟨by rfl, ?_⟩) hHeld ?_ ?_; rotate_left
  ·
   rintro w' ⟨s0, s1, s2, s3, s4, s5, s6⟩; go_simp
   with_reducible rfl
  rotate_left
  · simp only [Act.put, sA_, sZ_, sS_, i64_w, i32_w]; rfl
  refine take_ (i := 2) (N := some 9) (v := ?_) (a' := ?_) #[true,false,true,false,false,false] rfl rfl (by kernel_rfl) (fun _ _ _ h => h) (Or.inl ⟨by rfl, ?_⟩) hHeld ?_ ?_; rotate_left
  ·
   rintro w' ⟨s0, s1, s2, s3, s4, s5, s6⟩; go_simp
   with_reducible rfl
  rotate_left
  · simp only [Act.put, sA_, sZ_, sS_, i64_w, i32_w]; rfl
  refine one_ (i := 1) (N := some 8) #[true,true,true,false,false,false] rfl rfl (by kernel_rfl) (by decide) (fun K hK => ?_); refine gs_ Try.func28 #[.agg #[.int .i64 a0_0, .int .i64 a0_1, .int .i64 a0_2, .int .i64 a0_3, .int .i64 a0_4]] ?_
  with_reducible refine (laws_toEd.calls a0_0 a0_1 a0_2 a0_3 a0_4 t198 t199 t200 t201 t202 _ A3.out).mono ?_
  rintro e w23 ⟨rfl, hb⟩; refine ⟨_, rfl, ?_⟩; replace BK196 := bb_ BK196 hb; replace BK197 := bb_ BK197 hb; replace HB := bs_ HB hb; (try clear hb); refine hK.out _ _ ⟨bc_ BK196 0, bc_ BK196 1, bc_ BK196 2, bc_ BK196 3, bc_ BK196 4, bc_ BK197 0, bc_ BK197 1⟩ (fun hHeld => ?_); clear hK K
  apply norm_
  · show Act.put _ (some 8) _ = _; simp only [Act.put, sA_, sZ_, sS_, i64_w, i32_w]; rfl
  refine one_ (i := 3) (N := some 10) #[true,true,true,true,false,false] rfl rfl (by kernel_rfl) (by decide) (fun K hK => ?_); refine gs_ Try.func36 #[.agg #[.int .i64 a1_0, .int .i64 a1_1]] ?_
  with_reducible refine (laws_toPair.calls a1_0 a1_1 t203 t204 _ A4.out).mono ?_
  rintro e w24 ⟨rfl, hb⟩; refine ⟨_, rfl, ?_⟩; replace BK196 := bb_ BK196 hb; replace BK197 := bb_ BK197 hb; replace HB := bs_ HB hb; (try clear hb); refine hK.out _ _ ⟨bc_ BK196 0, bc_ BK196 1, bc_ BK196 2, bc_ BK196 3, bc_ BK196 4, bc_ BK197 0, bc_ BK197 1⟩ (fun hHeld => ?_); clear hK K
  apply norm_
  · show Act.put _ (some 10) _ = _; simp only [Act.put, sA_, sZ_, sS_, i64_w, i32_w]; rfl
  refine one_ (i := 4) (N := some 11) #[true,true,true,true,true,false] rfl rfl (by kernel_rfl) (by decide) (fun K hK => ?_); refine gs_ Try.func35 #[.agg #[.int .i64 t198, .int .i64 t199, .int .i64 t200, .int .i64 t201, .int .i64 t202], .agg #[.int .i64 t203, .int .i64 t204]] ?_
  with_reducible refine (spec_PairOk.calls k t198 t199 t200 t201 t202 t203 t204 t205 _ A5.out).mono ?_
  rintro e w25 ⟨rfl, hb⟩; refine ⟨_, rfl, ?_⟩; replace BK196 := bb_ BK196 hb; replace BK197 := bb_ BK197 hb; replace HB := bs_ HB hb; (try clear hb); refine hK.out _ _ ⟨bc_ BK196 0, bc_ BK196 1, bc_ BK196 2, bc_ BK196 3, bc_ BK196 4, bc_ BK197 0, bc_ BK197 1⟩ (fun hHeld => ?_); clear hK K
  apply norm_
  · show Act.put _ (some 11) _ = _; simp only [Act.put, sA_, sZ_, sS_, i64_w, i32_w]; rfl
  refine pure_ (i := 5) (N := some 5) (v := ?_) (a' := ?_) #[true,true,true,true,true,true] rfl rfl (by kernel_rfl) (fun _ _ _ h => h) (Or.inl ⟨by rfl, ?_⟩) ?_ ?_; rotate_left
  ·
   intro w'; go_simp
   with_reducible rfl
  rotate_left
  · simp only [Act.put, sA_, sZ_, sS_, i64_w, i32_w]; rfl
  refine done_ (by kernel_rfl) ?_
  try go_wp2
  replace BK196 := Aside0.mk (blk_drew BK196.out); replace BK197 := Aside0.mk (blk_drew BK197.out); replace HB := Aside0.mk (below_drew1 HB.out); refine start_ (n := 6) (S := fun w' => w'.cell? ⟨gb196, 0, none⟩ = some (.int .i64 a0_0) ∧ w'.cell? ⟨gb196, 1, none⟩ = some (.int .i64 a0_1) ∧ w'.cell? ⟨gb196, 2, none⟩ = some (.int .i64 a0_2) ∧ w'.cell? ⟨gb196, 3, none⟩ = some (.int .i64 a0_3) ∧ w'.cell? ⟨gb196, 4, none⟩ = some (.int .i64 a0_4) ∧ w'.cell? ⟨gb197, 0, none⟩ = some (.int .i64 a1_0) ∧ w'.cell? ⟨gb197, 1, none⟩ = some (.int .i64 a1_1)) (ds := []) #[false,false,false,false,false,false] (by kernel_rfl) rfl rfl ⟨bc_ BK196 0, bc_ BK196 1, bc_ BK196 2, bc_ BK196 3, bc_ BK196 4, bc_ BK197 0, bc_ BK197 1⟩ (fun hHeld => ?_)
  generalize w25.drew = w26 at BK196 BK197 HB hHeld ⊢
  refine take_ (i := 0) (N := some 12) (v := ?_) (a' := ?_) #[true,false,false,false,false,false] rfl rfl (by kernel_rfl) (fun _ _ _ h => h) (Or.inl ⟨by rfl, ?_⟩) hHeld ?_ ?_; rotate_left
  ·
   rintro w' ⟨s0, s1, s2, s3, s4, s5, s6⟩; go_simp
   with_reducible rfl
  rotate_left
  · simp only [Act.put, sA_, sZ_, sS_, i64_w, i32_w]; rfl
  refine take_ (i := 2) (N := some 14) (v := ?_) (a' := ?_) #[true,false,true,false,false,false] rfl rfl (by kernel_rfl) (fun _ _ _ h => h) (Or.inl ⟨by rfl, ?_⟩) hHeld ?_ ?_; rotate_left
  ·
   rintro w' ⟨s0, s1, s2, s3, s4, s5, s6⟩; go_simp
   with_reducible rfl
  rotate_left
  · simp only [Act.put, sA_, sZ_, sS_, i64_w, i32_w]; rfl
  refine one_ (i := 1) (N := some 13) #[true,true,true,false,false,false] rfl rfl (by kernel_rfl) (by decide) (fun K hK => ?_); refine gs_ Try.func28 #[.agg #[.int .i64 a0_0, .int .i64 a0_1, .int .i64 a0_2, .int .i64 a0_3, .int .i64 a0_4]] ?_
  with_reducible refine (laws_toEd.calls a0_0 a0_1 a0_2 a0_3 a0_4 t206 t207 t208 t209 t210 _ A6.out).mono ?_
  rintro e w27 ⟨rfl, hb⟩; refine ⟨_, rfl, ?_⟩; replace BK196 := bb_ BK196 hb; replace BK197 := bb_ BK197 hb; replace HB := bs_ HB hb; (try clear hb); refine hK.out _ _ ⟨bc_ BK196 0, bc_ BK196 1, bc_ BK196 2, bc_ BK196 3, bc_ BK196 4, bc_ BK197 0, bc_ BK197 1⟩ (fun hHeld => ?_); clear hK K
  apply norm_
  · show Act.put _ (some 13) _ = _; simp only [Act.put, sA_, sZ_, sS_, i64_w, i32_w]; rfl
  refine one_ (i := 3) (N := some 15) #[true,true,true,true,false,false] rfl rfl (by kernel_rfl) (by decide) (fun K hK => ?_); refine gs_ Try.func36 #[.agg #[.int .i64 a1_0, .int .i64 a1_1]] ?_
  with_reducible refine (laws_toPair.calls a1_0 a1_1 t211 t212 _ A7.out).mono ?_
  rintro e w28 ⟨rfl, hb⟩; refine ⟨_, rfl, ?_⟩; replace BK196 := bb_ BK196 hb; replace BK197 := bb_ BK197 hb; replace HB := bs_ HB hb; (try clear hb); refine hK.out _ _ ⟨bc_ BK196 0, bc_ BK196 1, bc_ BK196 2, bc_ BK196 3, bc_ BK196 4, bc_ BK197 0, bc_ BK197 1⟩ (fun hHeld => ?_); clear hK K
  apply norm_
  · show Act.put _ (some 15) _ = _; simp only [Act.put, sA_, sZ_, sS_, i64_w, i32_w]; rfl
  refine one_ (i := 4) (N := some 16) #[true,true,true,true,true,false] rfl rfl (by kernel_rfl) (by decide) (fun K hK => ?_); refine gs_ Try.func37 #[.agg #[.int .i64 t206, .int .i64 t207, .int .i64 t208, .int .i64 t209, .int .i64 t210], .agg #[.int .i64 t211, .int .i64 t212]] ?_
  with_reducible refine (impl_PairOk.calls k t206 t207 t208 t209 t210 t211 t212 t213 _ A8.out).mono ?_
  rintro e w29 ⟨rfl, hb⟩; refine ⟨_, rfl, ?_⟩; replace BK196 := bb_ BK196 hb; replace BK197 := bb_ BK197 hb; replace HB := bs_ HB hb; (try clear hb); refine hK.out _ _ ⟨bc_ BK196 0, bc_ BK196 1, bc_ BK196 2, bc_ BK196 3, bc_ BK196 4, bc_ BK197 0, bc_ BK197 1⟩ (fun hHeld => ?_); clear hK K
  apply norm_
  · show Act.put _ (some 16) _ = _; simp only [Act.put, sA_, sZ_, sS_, i64_w, i32_w]; rfl
  refine pure_ (i := 5) (N := some 6) (v := ?_) (a' := ?_) #[true,true,true,true,true,true] rfl rfl (by kernel_rfl) (fun _ _ _ h => h) (Or.inl ⟨by rfl, ?_⟩) ?_ ?_; rotate_left
  ·
   intro w'; go_simp
   with_reducible rfl
  rotate_left
  · simp only [Act.put, sA_, sZ_, sS_, i64_w, i32_w]; rfl
  refine done_ (by kernel_rfl) ?_
  try go_wp2
  go_ret
  exact ⟨by first | rfl | (simp [errW_none, errW_some] <;> rfl) | (simp [*, errW_none, errW_some] <;> rfl), by repeat (first | (with_reducible first | exact HB.out | apply below_alloc | apply pw_below_drewN | apply below_drew1 | refine below_set ?_ GE196.out | refine below_set ?_ GE197.out) | exact HB.out)⟩

/-- THE ONE PURE STATEMENT of laws_FnExactPairOk: yours. -/
def laws_FnExactPairOk.Pure : Prop := ∀ (a0_0 : Int) (a0_1 : Int) (a0_2 : Int) (a0_3 : Int) (a0_4 : Int) (a1_0 : Int) (a1_1 : Int), (Lit.int .i64 a0_0).wf = true → (Lit.int .i64 a0_1).wf = true → (Lit.int .i64 a0_2).wf = true → (Lit.int .i64 a0_3).wf = true → (Lit.int .i64 a0_4).wf = true → (Lit.int .i64 a1_0).wf = true → (Lit.int .i64 a1_1).wf = true → ∃ k, laws_FnExactPairOk.f k a0_0 a0_1 a0_2 a0_3 a0_4 a1_0 a1_1 = some true
theorem laws_FnExactPairOk.walk (P : laws_FnExactPairOk.Pure) (a0_0 : Int) (a0_1 : Int) (a0_2 : Int) (a0_3 : Int) (a0_4 : Int) (a1_0 : Int) (a1_1 : Int) (w : World) (w0_0 : (Lit.int .i64 a0_0).wf = true) (w0_1 : (Lit.int .i64 a0_1).wf = true) (w0_2 : (Lit.int .i64 a0_2).wf = true) (w0_3 : (Lit.int .i64 a0_3).wf = true) (w0_4 : (Lit.int .i64 a0_4).wf = true) (w1_0 : (Lit.int .i64 a1_0).wf = true) (w1_1 : (Lit.int .i64 a1_1).wf = true) :
  Calls Try.prog 9 #[.agg #[.int .i64 a0_0, .int .i64 a0_1, .int .i64 a0_2, .int .i64 a0_3, .int .i64 a0_4], .agg #[.int .i64 a1_0, .int .i64 a1_1]] w fun e w' => e = .returned (.bool true) ∧ Below w.heap.size w w' := by
 obtain ⟨k, h⟩ := P a0_0 a0_1 a0_2 a0_3 a0_4 a1_0 a1_1 w0_0 w0_1 w0_2 w0_3 w0_4 w1_0 w1_1; refine (laws_FnExactPairOk.calls k a0_0 a0_1 a0_2 a0_3 a0_4 a1_0 a1_1 true w h).mono ?_; rintro e w' ⟨rfl, hd⟩; exact ⟨rfl, hd⟩

end Go.Proofs.Ytohplbcbkggjaab.PFnExactPairOk
