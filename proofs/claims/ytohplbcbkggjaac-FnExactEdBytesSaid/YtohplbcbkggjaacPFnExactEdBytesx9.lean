-- Written for this claim by a program of this session.
import Derived.Test.YtohplbcbkggjaacPFnExactEdBytesx0
import Derived.Test.YtohplbcbkggjaacPFnExactEdBytesx5
import Derived.Test.YtohplbcbkggjaacPFnExactEdBytesx8
namespace Go.Proofs.Ytohplbcbkggjaac.PFnExactEdBytes
open Go.RowKit Go.Proofs.YtohplbcbkggjaacW.PrintWords Go.Proofs.YtohplbcbkggjaacW.PrintLast Go.Proofs.YtohplbcbkggjaacW.PrintMore
attribute [local go_sem] max2_int min2_int max_two min_two max_three min_three max_four min_four   -- for this text's walks alone
set_option linter.unusedVariables false
set_option linter.unusedSimpArgs false

/-! ### laws_FnExactEdBytes: function 6 -/
mutual
def laws_FnExactEdBytes.j0 : Nat → List Int → Bool → List Int → Bool → Int → Int → Int → Int → Int → Int → Int → Option (Bool)
  | 0, _, _, _, _, _, _, _, _, _, _, _ => none
  | k + 1, x5, x6, x7, x37, x220000, x220001, x220002, x220003, x220004, x221000, x221001 => if x37 = true then (some false) else ((laws_markByteS.f k x7 1).bind fun bt244 => ((laws_heldByteS.f k bt244.2 1).bind fun t246 => (if t246 < 0 then (some false) else (if t246 = bt244.1 then ((laws_toEd.f x220000 x220001 x220002 x220003 x220004).bind fun bt247 => ((laws_toPair.f x221000 x221001).bind fun bt252 => ((impl_EdBytes.f k bt247.1 bt247.2.1 bt247.2.2.1 bt247.2.2.2.1 bt247.2.2.2.2 bt252.1 bt252.2).bind fun bt254 => ((laws_eqByteS.f k bt254.1 x5).bind fun t258 => (if t258 = true then (laws_FnExactEdBytes.j1 k bt244.2 bt244.1 (bt254.2 != x6)) else (laws_FnExactEdBytes.j1 k bt244.2 bt244.1 true)))))) else (some false)))))
def laws_FnExactEdBytes.j1 : Nat → List Int → Int → Bool → Option (Bool)
  | 0, _, _, _ => none
  | k + 1, x7, x9, x65 => if x65 = true then (some false) else ((laws_heldByteS.f k x7 1).bind fun t259 => (if t259 < 0 then (some false) else (if t259 = x9 then (some true) else (some false))))
end
def laws_FnExactEdBytes.f (k : Nat) (a0_0 : Int) (a0_1 : Int) (a0_2 : Int) (a0_3 : Int) (a0_4 : Int) (a1_0 : Int) (a1_1 : Int) : Option (Bool) := (laws_toEd.f a0_0 a0_1 a0_2 a0_3 a0_4).bind fun bt221 => ((laws_toPair.f a1_0 a1_1).bind fun bt226 => ((spec_EdBytes.f k bt221.1 bt221.2.1 bt221.2.2.1 bt221.2.2.2.1 bt221.2.2.2.2 bt226.1 bt226.2).bind fun bt228 => ((laws_toEd.f a0_0 a0_1 a0_2 a0_3 a0_4).bind fun bt232 => ((laws_toPair.f a1_0 a1_1).bind fun bt237 => ((impl_EdBytes.f k bt232.1 bt232.2.1 bt232.2.2.1 bt232.2.2.2.1 bt232.2.2.2.2 bt237.1 bt237.2).bind fun bt239 => ((laws_eqByteS.f k bt239.1 bt228.1).bind fun t243 => (if t243 = true then (laws_FnExactEdBytes.j0 k bt228.1 bt228.2 bt239.1 (bt239.2 != bt228.2) a0_0 a0_1 a0_2 a0_3 a0_4 a1_0 a1_1) else (laws_FnExactEdBytes.j0 k bt228.1 bt228.2 bt239.1 true a0_0 a0_1 a0_2 a0_3 a0_4 a1_0 a1_1))))))))
theorem laws_FnExactEdBytes.mono_l : ∀ k, (∀ y0 y1 y2 y3 y4 y5 y6 y7 y8 y9 y10, LeO (laws_FnExactEdBytes.j0 k y0 y1 y2 y3 y4 y5 y6 y7 y8 y9 y10) (laws_FnExactEdBytes.j0 (k + 1) y0 y1 y2 y3 y4 y5 y6 y7 y8 y9 y10)) ∧ (∀ y0 y1 y2, LeO (laws_FnExactEdBytes.j1 k y0 y1 y2) (laws_FnExactEdBytes.j1 (k + 1) y0 y1 y2))
 | 0 => ⟨fun _ _ _ _ _ _ _ _ _ _ _ r h => by simp [laws_FnExactEdBytes.j0] at h, fun _ _ _ r h => by simp [laws_FnExactEdBytes.j1] at h⟩
 | k + 1 => by
  obtain ⟨ih0, ih1⟩ := laws_FnExactEdBytes.mono_l k
  refine ⟨?_, ?_⟩
  ·
   intro y0 y1 y2 y3 y4 y5 y6 y7 y8 y9 y10
   unfold laws_FnExactEdBytes.j0
   repeat' first
   | (with_reducible exact ih0 _ _ _ _ _ _ _ _ _ _ _)
   | (with_reducible exact ih1 _ _ _)
   | (with_reducible exact impl_EdBytes.mono _ _ _ _ _ _ _ _)
   | (with_reducible exact laws_eqByteS.mono _ _ _)
   | (with_reducible exact laws_heldByteS.mono _ _ _)
   | (with_reducible exact laws_markByteS.mono _ _ _)
   | (with_reducible exact spec_EdBytes.mono _ _ _ _ _ _ _ _)
   | (with_reducible exact LeO.refl _)
   | (with_reducible exact LeO.none _)
   | (with_reducible refine LeO.ite ?_ ?_)
   | (with_reducible refine LeO.bind ?_ (fun _ => ?_))
   | exact ih0 _ _ _ _ _ _ _ _ _ _ _
   | exact ih1 _ _ _
   | exact impl_EdBytes.mono _ _ _ _ _ _ _ _
   | exact laws_eqByteS.mono _ _ _
   | exact laws_heldByteS.mono _ _ _
   | exact laws_markByteS.mono _ _ _
   | exact spec_EdBytes.mono _ _ _ _ _ _ _ _
   | exact LeO.none _
   | refine LeO.ite ?_ ?_
   | refine LeO.bind ?_ (fun _ => ?_)
  ·
   intro y0 y1 y2
   unfold laws_FnExactEdBytes.j1
   repeat' first
   | (with_reducible exact ih0 _ _ _ _ _ _ _ _ _ _ _)
   | (with_reducible exact ih1 _ _ _)
   | (with_reducible exact impl_EdBytes.mono _ _ _ _ _ _ _ _)
   | (with_reducible exact laws_eqByteS.mono _ _ _)
   | (with_reducible exact laws_heldByteS.mono _ _ _)
   | (with_reducible exact laws_markByteS.mono _ _ _)
   | (with_reducible exact spec_EdBytes.mono _ _ _ _ _ _ _ _)
   | (with_reducible exact LeO.refl _)
   | (with_reducible exact LeO.none _)
   | (with_reducible refine LeO.ite ?_ ?_)
   | (with_reducible refine LeO.bind ?_ (fun _ => ?_))
   | exact ih0 _ _ _ _ _ _ _ _ _ _ _
   | exact ih1 _ _ _
   | exact impl_EdBytes.mono _ _ _ _ _ _ _ _
   | exact laws_eqByteS.mono _ _ _
   | exact laws_heldByteS.mono _ _ _
   | exact laws_markByteS.mono _ _ _
   | exact spec_EdBytes.mono _ _ _ _ _ _ _ _
   | exact LeO.none _
   | refine LeO.ite ?_ ?_
   | refine LeO.bind ?_ (fun _ => ?_)
theorem laws_FnExactEdBytes.mono : ∀ a0 a1 a2 a3 a4 a5 a6 k, LeO (laws_FnExactEdBytes.f k a0 a1 a2 a3 a4 a5 a6) (laws_FnExactEdBytes.f (k + 1) a0 a1 a2 a3 a4 a5 a6) := by
 intro a0 a1 a2 a3 a4 a5 a6 k; obtain ⟨ih0, ih1⟩ := laws_FnExactEdBytes.mono_l k
 unfold laws_FnExactEdBytes.f
 repeat' first
   | (with_reducible exact ih0 _ _ _ _ _ _ _ _ _ _ _)
   | (with_reducible exact ih1 _ _ _)
   | (with_reducible exact impl_EdBytes.mono _ _ _ _ _ _ _ _)
   | (with_reducible exact laws_eqByteS.mono _ _ _)
   | (with_reducible exact laws_heldByteS.mono _ _ _)
   | (with_reducible exact laws_markByteS.mono _ _ _)
   | (with_reducible exact spec_EdBytes.mono _ _ _ _ _ _ _ _)
   | (with_reducible exact LeO.refl _)
   | (with_reducible exact LeO.none _)
   | (with_reducible refine LeO.ite ?_ ?_)
   | (with_reducible refine LeO.bind ?_ (fun _ => ?_))
   | exact ih0 _ _ _ _ _ _ _ _ _ _ _
   | exact ih1 _ _ _
   | exact impl_EdBytes.mono _ _ _ _ _ _ _ _
   | exact laws_eqByteS.mono _ _ _
   | exact laws_heldByteS.mono _ _ _
   | exact laws_markByteS.mono _ _ _
   | exact spec_EdBytes.mono _ _ _ _ _ _ _ _
   | exact LeO.none _
   | refine LeO.ite ?_ ?_
   | refine LeO.bind ?_ (fun _ => ?_)
def laws_FnExactEdBytes.T1 : Bool × List (List Nat × List Nat) := (true, [([], []), ([0], [0]), ([], []), ([2, 1], [2]), ([1, 3, 3], [1, 3]), ([4], [4]), ([5], [5]), ([5], [5]), ([6, 4, 0, 1, 2, 3, 4, 5, 6], [6]), ([7, 8, 0, 1, 2, 3, 4, 5, 6, 7, 8], [7])])
def laws_FnExactEdBytes.B1 : List Nat := [0, 1, 0, 7, 15, 31, 63, 63, 127, 511]
theorem laws_FnExactEdBytes.tab1 : rtab .any (opsOf Try.f6 1) = laws_FnExactEdBytes.T1 := by kernel_rfl
theorem laws_FnExactEdBytes.bits1 : waitsOk laws_FnExactEdBytes.T1.2 laws_FnExactEdBytes.B1 = true := by kernel_rfl
def laws_FnExactEdBytes.T2 : Bool × List (List Nat × List Nat) := (true, [([], []), ([0], [0]), ([], []), ([2, 1], [2]), ([1, 3, 3], [1, 3]), ([4], [4]), ([5], [5]), ([5], [5]), ([6, 4, 0, 1, 2, 3, 4, 5, 6], [6]), ([7, 8, 0, 1, 2, 3, 4, 5, 6, 7, 8], [7])])
def laws_FnExactEdBytes.B2 : List Nat := [0, 1, 0, 7, 15, 31, 63, 63, 127, 511]
theorem laws_FnExactEdBytes.tab2 : rtab .any (opsOf Try.f6 2) = laws_FnExactEdBytes.T2 := by kernel_rfl
theorem laws_FnExactEdBytes.bits2 : waitsOk laws_FnExactEdBytes.T2.2 laws_FnExactEdBytes.B2 = true := by kernel_rfl
def laws_FnExactEdBytes.T13 : Bool × List (List Nat × List Nat) := (true, [([], []), ([0], [0]), ([], []), ([2, 1], [2]), ([1, 3, 3], [1, 3]), ([4], [4]), ([5], [5]), ([5], [5]), ([6, 4, 0, 1, 2, 3, 4, 5, 6], [6]), ([7, 8, 0, 1, 2, 3, 4, 5, 6, 7, 8], [7])])
def laws_FnExactEdBytes.B13 : List Nat := [0, 1, 0, 7, 15, 31, 63, 63, 127, 511]
theorem laws_FnExactEdBytes.tab13 : rtab .any (opsOf Try.f6 13) = laws_FnExactEdBytes.T13 := by kernel_rfl
theorem laws_FnExactEdBytes.bits13 : waitsOk laws_FnExactEdBytes.T13.2 laws_FnExactEdBytes.B13 = true := by kernel_rfl
set_option maxHeartbeats 8000000 in
set_option maxRecDepth 100000 in
theorem laws_FnExactEdBytes.calls (k : Nat) (a0_0 : Int) (a0_1 : Int) (a0_2 : Int) (a0_3 : Int) (a0_4 : Int) (a1_0 : Int) (a1_1 : Int) (r : Bool) (w : World) (h : laws_FnExactEdBytes.f k a0_0 a0_1 a0_2 a0_3 a0_4 a1_0 a1_1 = some r) :
  Calls Try.prog 6 #[.agg #[.int .i64 a0_0, .int .i64 a0_1, .int .i64 a0_2, .int .i64 a0_3, .int .i64 a0_4], .agg #[.int .i64 a1_0, .int .i64 a1_1]] w fun e w' => e = .returned (.bool r) ∧ Below w.heap.size w w' := by
 have hu39 := Try.underlying39; have hu41 := Try.underlying41; have HB := Aside0.mk (Below.refl w.heap.size w)
 have H : ((laws_toEd.f a0_0 a0_1 a0_2 a0_3 a0_4).bind fun bt221 => ((laws_toPair.f a1_0 a1_1).bind fun bt226 => ((spec_EdBytes.f k bt221.1 bt221.2.1 bt221.2.2.1 bt221.2.2.2.1 bt221.2.2.2.2 bt226.1 bt226.2).bind fun bt228 => ((laws_toEd.f a0_0 a0_1 a0_2 a0_3 a0_4).bind fun bt232 => ((laws_toPair.f a1_0 a1_1).bind fun bt237 => ((impl_EdBytes.f k bt232.1 bt232.2.1 bt232.2.2.1 bt232.2.2.2.1 bt232.2.2.2.2 bt237.1 bt237.2).bind fun bt239 => ((laws_eqByteS.f k bt239.1 bt228.1).bind fun t243 => (if t243 = true then (laws_FnExactEdBytes.j0 k bt228.1 bt228.2 bt239.1 (bt239.2 != bt228.2) a0_0 a0_1 a0_2 a0_3 a0_4 a1_0 a1_1) else (laws_FnExactEdBytes.j0 k bt228.1 bt228.2 bt239.1 true a0_0 a0_1 a0_2 a0_3 a0_4 a1_0 a1_1))))))))) = some r := h
 clear h; replace H := Option.bind_eq_some_iff.mp H; obtain ⟨⟨t221, t222, t223, t224, t225⟩, A30, H⟩ := H
 replace H : ((laws_toPair.f a1_0 a1_1).bind fun bt226 => ((spec_EdBytes.f k t221 t222 t223 t224 t225 bt226.1 bt226.2).bind fun bt228 => ((laws_toEd.f a0_0 a0_1 a0_2 a0_3 a0_4).bind fun bt232 => ((laws_toPair.f a1_0 a1_1).bind fun bt237 => ((impl_EdBytes.f k bt232.1 bt232.2.1 bt232.2.2.1 bt232.2.2.2.1 bt232.2.2.2.2 bt237.1 bt237.2).bind fun bt239 => ((laws_eqByteS.f k bt239.1 bt228.1).bind fun t243 => (if t243 = true then (laws_FnExactEdBytes.j0 k bt228.1 bt228.2 bt239.1 (bt239.2 != bt228.2) a0_0 a0_1 a0_2 a0_3 a0_4 a1_0 a1_1) else (laws_FnExactEdBytes.j0 k bt228.1 bt228.2 bt239.1 true a0_0 a0_1 a0_2 a0_3 a0_4 a1_0 a1_1)))))))) = some r := H
 have A3 := Aside0.mk A30; clear A30; replace H := Option.bind_eq_some_iff.mp H; obtain ⟨⟨t226, t227⟩, A40, H⟩ := H
 replace H : ((spec_EdBytes.f k t221 t222 t223 t224 t225 t226 t227).bind fun bt228 => ((laws_toEd.f a0_0 a0_1 a0_2 a0_3 a0_4).bind fun bt232 => ((laws_toPair.f a1_0 a1_1).bind fun bt237 => ((impl_EdBytes.f k bt232.1 bt232.2.1 bt232.2.2.1 bt232.2.2.2.1 bt232.2.2.2.2 bt237.1 bt237.2).bind fun bt239 => ((laws_eqByteS.f k bt239.1 bt228.1).bind fun t243 => (if t243 = true then (laws_FnExactEdBytes.j0 k bt228.1 bt228.2 bt239.1 (bt239.2 != bt228.2) a0_0 a0_1 a0_2 a0_3 a0_4 a1_0 a1_1) else (laws_FnExactEdBytes.j0 k bt228.1 bt228.2 bt239.1 true a0_0 a0_1 a0_2 a0_3 a0_4 a1_0 a1_1))))))) = some r := H
 have A4 := Aside0.mk A40; clear A40; replace H := Option.bind_eq_some_iff.mp H; obtain ⟨⟨t228, t231⟩, A50, H⟩ := H
 replace H : ((laws_toEd.f a0_0 a0_1 a0_2 a0_3 a0_4).bind fun bt232 => ((laws_toPair.f a1_0 a1_1).bind fun bt237 => ((impl_EdBytes.f k bt232.1 bt232.2.1 bt232.2.2.1 bt232.2.2.2.1 bt232.2.2.2.2 bt237.1 bt237.2).bind fun bt239 => ((laws_eqByteS.f k bt239.1 t228).bind fun t243 => (if t243 = true then (laws_FnExactEdBytes.j0 k t228 t231 bt239.1 (bt239.2 != t231) a0_0 a0_1 a0_2 a0_3 a0_4 a1_0 a1_1) else (laws_FnExactEdBytes.j0 k t228 t231 bt239.1 true a0_0 a0_1 a0_2 a0_3 a0_4 a1_0 a1_1)))))) = some r := H
 have A5 := Aside0.mk A50; clear A50; replace H := Option.bind_eq_some_iff.mp H; obtain ⟨⟨t232, t233, t234, t235, t236⟩, A60, H⟩ := H
 replace H : ((laws_toPair.f a1_0 a1_1).bind fun bt237 => ((impl_EdBytes.f k t232 t233 t234 t235 t236 bt237.1 bt237.2).bind fun bt239 => ((laws_eqByteS.f k bt239.1 t228).bind fun t243 => (if t243 = true then (laws_FnExactEdBytes.j0 k t228 t231 bt239.1 (bt239.2 != t231) a0_0 a0_1 a0_2 a0_3 a0_4 a1_0 a1_1) else (laws_FnExactEdBytes.j0 k t228 t231 bt239.1 true a0_0 a0_1 a0_2 a0_3 a0_4 a1_0 a1_1))))) = some r := H
 have A6 := Aside0.mk A60; clear A60; replace H := Option.bind_eq_some_iff.mp H; obtain ⟨⟨t237, t238⟩, A70, H⟩ := H
 replace H : ((impl_EdBytes.f k t232 t233 t234 t235 t236 t237 t238).bind fun bt239 => ((laws_eqByteS.f k bt239.1 t228).bind fun t243 => (if t243 = true then (laws_FnExactEdBytes.j0 k t228 t231 bt239.1 (bt239.2 != t231) a0_0 a0_1 a0_2 a0_3 a0_4 a1_0 a1_1) else (laws_FnExactEdBytes.j0 k t228 t231 bt239.1 true a0_0 a0_1 a0_2 a0_3 a0_4 a1_0 a1_1)))) = some r := H
 have A7 := Aside0.mk A70; clear A70; replace H := Option.bind_eq_some_iff.mp H; obtain ⟨⟨t239, t242⟩, A80, H⟩ := H
 replace H : ((laws_eqByteS.f k t239 t228).bind fun t243 => (if t243 = true then (laws_FnExactEdBytes.j0 k t228 t231 t239 (t242 != t231) a0_0 a0_1 a0_2 a0_3 a0_4 a1_0 a1_1) else (laws_FnExactEdBytes.j0 k t228 t231 t239 true a0_0 a0_1 a0_2 a0_3 a0_4 a1_0 a1_1))) = some r := H
 have A8 := Aside0.mk A80; clear A80; have HC9 := Aside0.mk H; clear H
 go_enter Try.func6, Try.ntmps6
 try go_wp2_with (first | ((with_reducible refine gate_dst (N := 2) rfl ?_); refine box_event ?hg (N := 2) ?hd (cs := #[.int .i64 a0_0, .int .i64 a0_1, .int .i64 a0_2, .int .i64 a0_3, .int .i64 a0_4]) (t := 39) ?hr ?_; (case hd => rfl); (case hg => rfl); (case hr => first | (go_simp; done) | (go_simp; rfl)); intro gb219 hg w10 hbox hb; have n0_ := bs_ HB hb; have n1_ := Aside0.mk hbox; have n2_ := ge_ HB hg; have n3_ := ge_ HB hg; clear HB; have HB := n0_; have BK219 := n1_; have GW219 := n2_; have GE219 := n3_; clear n0_ n1_ n2_ n3_; clear hb hbox hg) | ((with_reducible refine gate_dst (N := 3) rfl ?_); refine box_event ?hg (N := 3) ?hd (cs := #[.int .i64 a1_0, .int .i64 a1_1]) (t := 41) ?hr ?_; (case hd => rfl); (case hg => rfl); (case hr => first | (go_simp; done) | (go_simp; rfl)); intro gb220 hg w11 hbox hb; have n0_ := bb_ BK219 hb; have n1_ := bs_ HB hb; have n2_ := Aside0.mk hbox; have n3_ := ge_ HB hg; have n4_ := ge_ HB hg; have n5_ := nl_ BK219 hg; have n6_ := nr_ BK219 hg; clear BK219; clear HB; have BK219 := n0_; have HB := n1_; have BK220 := n2_; have GW220 := n3_; have GE220 := n4_; have NB219_220 := n5_; have NB220_219 := n6_; clear n0_ n1_ n2_ n3_ n4_ n5_ n6_; clear hb hbox hg))
 replace BK219 := Aside0.mk (blk_drew BK219.out); replace BK220 := Aside0.mk (blk_drew BK220.out); replace HB := Aside0.mk (below_drew1 HB.out); refine start_ (n := 10) (S := fun w' => w'.cell? ⟨gb219, 0, none⟩ = some (.int .i64 a0_0) ∧ w'.cell? ⟨gb219, 1, none⟩ = some (.int .i64 a0_1) ∧ w'.cell? ⟨gb219, 2, none⟩ = some (.int .i64 a0_2) ∧ w'.cell? ⟨gb219, 3, none⟩ = some (.int .i64 a0_3) ∧ w'.cell? ⟨gb219, 4, none⟩ = some (.int .i64 a0_4) ∧ w'.cell? ⟨gb220, 0, none⟩ = some (.int .i64 a1_0) ∧ w'.cell? ⟨gb220, 1, none⟩ = some (.int .i64 a1_1)) (ds := []) #[false,false,false,false,false,false,false,false,false,false] (by kernel_rfl) rfl rfl ⟨bc_ BK219 0, bc_ BK219 1, bc_ BK219 2, bc_ BK219 3, bc_ BK219 4, bc_ BK220 0, bc_ BK220 1⟩ (fun hHeld => ?_); refine with_tabW laws_FnExactEdBytes.tab1 laws_FnExactEdBytes.bits1 (fun HT_ HW_ => ?_)
 generalize w11.drew = w12 at BK219 BK220 HB hHeld ⊢
 refine take_ (i := 0) (N := some 14) (v := ?_) (a' := ?_) #[true,false,false,false,false,false,false,false,false,false] rfl rfl (take_ofW HT_.out HW_.out (by kernel_rfl)) (fun _ _ _ h => h) (Or.inl ⟨by rfl, ?_⟩) hHeld ?_ ?_; rotate_left
 ·
  rintro w' ⟨s0, s1, s2, s3, s4, s5, s6⟩; go_simp
  with_reducible rfl
 rotate_left
 · simp only [Act.put, sA_, sZ_, sS_, i64_w, i32_w]; rfl
 refine take_ (i := 2) (N := some 16) (v := ?_) (a' := ?_) #[true,false,true,false,false,false,false,false,false,false] rfl rfl (take_ofW HT_.out HW_.out (by kernel_rfl)) (fun _ _ _ h => h) (Or.inl ⟨by rfl, ?_⟩) hHeld ?_ ?_; rotate_left
 ·
  rintro w' ⟨s0, s1, s2, s3, s4, s5, s6⟩; go_simp
  with_reducible rfl
 rotate_left
 · simp only [Act.put, sA_, sZ_, sS_, i64_w, i32_w]; rfl
 refine one_ (i := 1) (N := some 15) #[true,true,true,false,false,false,false,false,false,false] rfl rfl (one_of HT_.out (by kernel_rfl)) (by decide) (fun K hK => ?_); refine gs_ Try.func24 #[.agg #[.int .i64 a0_0, .int .i64 a0_1, .int .i64 a0_2, .int .i64 a0_3, .int .i64 a0_4]] ?_
 with_reducible refine (laws_toEd.calls a0_0 a0_1 a0_2 a0_3 a0_4 t221 t222 t223 t224 t225 _ A3.out).mono ?_
 rintro e w13 ⟨rfl, hb⟩; refine ⟨_, rfl, ?_⟩; replace BK219 := bb_ BK219 hb; replace BK220 := bb_ BK220 hb; replace HB := bs_ HB hb; (try clear hb); (try clear hk); refine hK.out _ _ ⟨bc_ BK219 0, bc_ BK219 1, bc_ BK219 2, bc_ BK219 3, bc_ BK219 4, bc_ BK220 0, bc_ BK220 1⟩ (fun hHeld => ?_); clear hK K
 apply norm_
 · show Act.put _ (some 15) _ = _; simp only [Act.put, sA_, sZ_, sS_, i64_w, i32_w]; rfl
 refine one_ (i := 3) (N := some 17) #[true,true,true,true,false,false,false,false,false,false] rfl rfl (one_of HT_.out (by kernel_rfl)) (by decide) (fun K hK => ?_); refine gs_ Try.func25 #[.agg #[.int .i64 a1_0, .int .i64 a1_1]] ?_
 with_reducible refine (laws_toPair.calls a1_0 a1_1 t226 t227 _ A4.out).mono ?_
 rintro e w14 ⟨rfl, hb⟩; refine ⟨_, rfl, ?_⟩; replace BK219 := bb_ BK219 hb; replace BK220 := bb_ BK220 hb; replace HB := bs_ HB hb; (try clear hb); (try clear hk); refine hK.out _ _ ⟨bc_ BK219 0, bc_ BK219 1, bc_ BK219 2, bc_ BK219 3, bc_ BK219 4, bc_ BK220 0, bc_ BK220 1⟩ (fun hHeld => ?_); clear hK K
 apply norm_
 · show Act.put _ (some 17) _ = _; simp only [Act.put, sA_, sZ_, sS_, i64_w, i32_w]; rfl
 refine one_ (i := 4) (N := some 18) #[true,true,true,true,true,false,false,false,false,false] rfl rfl (one_of HT_.out (by kernel_rfl)) (by decide) (fun K hK => ?_); refine gs_ Try.func23 #[.agg #[.int .i64 t221, .int .i64 t222, .int .i64 t223, .int .i64 t224, .int .i64 t225], .agg #[.int .i64 t226, .int .i64 t227]] ?_
 with_reducible refine (spec_EdBytes.calls k t221 t222 t223 t224 t225 t226 t227 t228 t231 _ A5.out).mono ?_
 rintro e w15 ⟨v229, rfl, ho0, hb⟩; refine ⟨_, rfl, ?_⟩; have HO230 := Aside0.mk (Kd.R_lower ho0 (below_size (bw_ HB))); replace BK219 := bb_ BK219 hb; replace BK220 := bb_ BK220 hb; replace HB := bs_ HB hb; (try clear hb); (try clear hk); (try clear ho0); refine hK.out _ _ ⟨bc_ BK219 0, bc_ BK219 1, bc_ BK219 2, bc_ BK219 3, bc_ BK219 4, bc_ BK220 0, bc_ BK220 1⟩ (fun hHeld => ?_); clear hK K
 apply norm_
 · show Act.put _ (some 18) _ = _; simp only [Act.put, sA_, sZ_, sS_, i64_w, i32_w]; rfl
 refine pure_ (i := 5) (N := some 13) (v := ?_) (a' := ?_) #[true,true,true,true,true,true,false,false,false,false] rfl rfl (any_of HT_.out (by kernel_rfl)) (fun _ _ _ h => h) (Or.inl ⟨by rfl, ?_⟩) ?_ ?_; rotate_left
 ·
  intro w'; go_simp
  with_reducible rfl
 rotate_left
 · simp only [Act.put, sA_, sZ_, sS_, i64_w, i32_w]; rfl
 refine pure_ (i := 6) (N := some 19) (v := ?_) (a' := ?_) #[true,true,true,true,true,true,true,false,false,false] rfl rfl (any_of HT_.out (by kernel_rfl)) (fun _ _ _ h => h) (Or.inl ⟨by rfl, ?_⟩) ?_ ?_; rotate_left
 ·
  intro w'; go_simp
  with_reducible rfl
 rotate_left
 · simp only [Act.put, sA_, sZ_, sS_, i64_w, i32_w]; rfl
 refine pure_ (i := 7) (N := some 20) (v := ?_) (a' := ?_) #[true,true,true,true,true,true,true,true,false,false] rfl rfl (any_of HT_.out (by kernel_rfl)) (fun _ _ _ h => h) (Or.inl ⟨by rfl, ?_⟩) ?_ ?_; rotate_left
 ·
  intro w'; go_simp
  with_reducible rfl
 rotate_left
 · simp only [Act.put, sA_, sZ_, sS_, i64_w, i32_w]; rfl
 refine pure_ (i := 8) (N := some 5) (v := ?_) (a' := ?_) #[true,true,true,true,true,true,true,true,true,false] rfl rfl (any_of HT_.out (by kernel_rfl)) (fun _ _ _ h => h) (Or.inl ⟨by rfl, ?_⟩) ?_ ?_; rotate_left
 ·
  intro w'; go_simp
  with_reducible rfl
 rotate_left
 · simp only [Act.put, sA_, sZ_, sS_, i64_w, i32_w]; rfl
 refine pure_ (i := 9) (N := some 6) (v := ?_) (a' := ?_) #[true,true,true,true,true,true,true,true,true,true] rfl rfl (any_of HT_.out (by kernel_rfl)) (fun _ _ _ h => h) (Or.inl ⟨by rfl, ?_⟩) ?_ ?_; rotate_left
 ·
  intro w'; go_simp
  with_reducible rfl
 rotate_left
 · simp only [Act.put, sA_, sZ_, sS_, i64_w, i32_w]; rfl
 refine done_ (done_of HT_.out (by kernel_rfl)) ?_
 try go_wp2
 replace HO230 := Aside0.mk (Kd.R_drew HO230.out); replace BK219 := Aside0.mk (blk_drew BK219.out); replace BK220 := Aside0.mk (blk_drew BK220.out); replace HB := Aside0.mk (below_drew1 HB.out); refine start_ (n := 10) (S := fun w' => w'.cell? ⟨gb219, 0, none⟩ = some (.int .i64 a0_0) ∧ w'.cell? ⟨gb219, 1, none⟩ = some (.int .i64 a0_1) ∧ w'.cell? ⟨gb219, 2, none⟩ = some (.int .i64 a0_2) ∧ w'.cell? ⟨gb219, 3, none⟩ = some (.int .i64 a0_3) ∧ w'.cell? ⟨gb219, 4, none⟩ = some (.int .i64 a0_4) ∧ w'.cell? ⟨gb220, 0, none⟩ = some (.int .i64 a1_0) ∧ w'.cell? ⟨gb220, 1, none⟩ = some (.int .i64 a1_1)) (ds := []) #[false,false,false,false,false,false,false,false,false,false] (by kernel_rfl) rfl rfl ⟨bc_ BK219 0, bc_ BK219 1, bc_ BK219 2, bc_ BK219 3, bc_ BK219 4, bc_ BK220 0, bc_ BK220 1⟩ (fun hHeld => ?_); refine with_tabW laws_FnExactEdBytes.tab2 laws_FnExactEdBytes.bits2 (fun HT_ HW_ => ?_)
 generalize w15.drew = w16 at HO230 BK219 BK220 HB hHeld ⊢
 refine take_ (i := 0) (N := some 22) (v := ?_) (a' := ?_) #[true,false,false,false,false,false,false,false,false,false] rfl rfl (take_ofW HT_.out HW_.out (by kernel_rfl)) (fun _ _ _ h => h) (Or.inl ⟨by rfl, ?_⟩) hHeld ?_ ?_; rotate_left
 ·
  rintro w' ⟨s0, s1, s2, s3, s4, s5, s6⟩; go_simp
  with_reducible rfl
 rotate_left
 · simp only [Act.put, sA_, sZ_, sS_, i64_w, i32_w]; rfl
 refine take_ (i := 2) (N := some 24) (v := ?_) (a' := ?_) #[true,false,true,false,false,false,false,false,false,false] rfl rfl (take_ofW HT_.out HW_.out (by kernel_rfl)) (fun _ _ _ h => h) (Or.inl ⟨by rfl, ?_⟩) hHeld ?_ ?_; rotate_left
 ·
  rintro w' ⟨s0, s1, s2, s3, s4, s5, s6⟩; go_simp
  with_reducible rfl
 rotate_left
 · simp only [Act.put, sA_, sZ_, sS_, i64_w, i32_w]; rfl
 refine one_ (i := 1) (N := some 23) #[true,true,true,false,false,false,false,false,false,false] rfl rfl (one_of HT_.out (by kernel_rfl)) (by decide) (fun K hK => ?_); refine gs_ Try.func24 #[.agg #[.int .i64 a0_0, .int .i64 a0_1, .int .i64 a0_2, .int .i64 a0_3, .int .i64 a0_4]] ?_
 with_reducible refine (laws_toEd.calls a0_0 a0_1 a0_2 a0_3 a0_4 t232 t233 t234 t235 t236 _ A6.out).mono ?_
 rintro e w17 ⟨rfl, hb⟩; refine ⟨_, rfl, ?_⟩; replace HO230 := Aside0.mk (Kd.R_below (by (with_reducible repeat (first | apply Kd.R_alloc | apply Kd.R_drewN | apply Kd.R_drew)); exact HO230.out) hb); replace BK219 := bb_ BK219 hb; replace BK220 := bb_ BK220 hb; replace HB := bs_ HB hb; (try clear hb); (try clear hk); refine hK.out _ _ ⟨bc_ BK219 0, bc_ BK219 1, bc_ BK219 2, bc_ BK219 3, bc_ BK219 4, bc_ BK220 0, bc_ BK220 1⟩ (fun hHeld => ?_); clear hK K
 apply norm_
 · show Act.put _ (some 23) _ = _; simp only [Act.put, sA_, sZ_, sS_, i64_w, i32_w]; rfl
 refine one_ (i := 3) (N := some 25) #[true,true,true,true,false,false,false,false,false,false] rfl rfl (one_of HT_.out (by kernel_rfl)) (by decide) (fun K hK => ?_); refine gs_ Try.func25 #[.agg #[.int .i64 a1_0, .int .i64 a1_1]] ?_
 with_reducible refine (laws_toPair.calls a1_0 a1_1 t237 t238 _ A7.out).mono ?_
 rintro e w18 ⟨rfl, hb⟩; refine ⟨_, rfl, ?_⟩; replace HO230 := Aside0.mk (Kd.R_below (by (with_reducible repeat (first | apply Kd.R_alloc | apply Kd.R_drewN | apply Kd.R_drew)); exact HO230.out) hb); replace BK219 := bb_ BK219 hb; replace BK220 := bb_ BK220 hb; replace HB := bs_ HB hb; (try clear hb); (try clear hk); refine hK.out _ _ ⟨bc_ BK219 0, bc_ BK219 1, bc_ BK219 2, bc_ BK219 3, bc_ BK219 4, bc_ BK220 0, bc_ BK220 1⟩ (fun hHeld => ?_); clear hK K
 apply norm_
 · show Act.put _ (some 25) _ = _; simp only [Act.put, sA_, sZ_, sS_, i64_w, i32_w]; rfl
 refine one_ (i := 4) (N := some 26) #[true,true,true,true,true,false,false,false,false,false] rfl rfl (one_of HT_.out (by kernel_rfl)) (by decide) (fun K hK => ?_); refine gs_ Try.func26 #[.agg #[.int .i64 t232, .int .i64 t233, .int .i64 t234, .int .i64 t235, .int .i64 t236], .agg #[.int .i64 t237, .int .i64 t238]] ?_
 with_reducible refine (impl_EdBytes.calls k t232 t233 t234 t235 t236 t237 t238 t239 t242 _ A8.out).mono ?_
 rintro e w19 ⟨v240, rfl, ho0, hb⟩; refine ⟨_, rfl, ?_⟩; have n0_ := Aside0.mk (Kd.R_elder' (by (with_reducible repeat (first | apply Kd.R_alloc | apply Kd.R_drewN | apply Kd.R_drew)); exact HO230.out) (Kd.R_base ho0) hb); have n1_ := Aside0.mk (Kd.R_lower (Kd.R_new' ho0 (Kd.R_lt (by (with_reducible repeat (first | apply Kd.R_alloc | apply Kd.R_drewN | apply Kd.R_drew)); exact HO230.out))) (below_size (bw_ HB))); have n2_ := bb_ BK219 hb; have n3_ := bb_ BK220 hb; have n4_ := bs_ HB hb; clear HO230 BK219 BK220 HB; have HO230 := n0_; have HO241 := n1_; have BK219 := n2_; have BK220 := n3_; have HB := n4_; clear n0_ n1_ n2_ n3_ n4_; (try clear hb); (try clear hk); (try clear ho0); refine hK.out _ _ ⟨bc_ BK219 0, bc_ BK219 1, bc_ BK219 2, bc_ BK219 3, bc_ BK219 4, bc_ BK220 0, bc_ BK220 1⟩ (fun hHeld => ?_); clear hK K
 apply norm_
 · show Act.put _ (some 26) _ = _; simp only [Act.put, sA_, sZ_, sS_, i64_w, i32_w]; rfl
 refine pure_ (i := 5) (N := some 21) (v := ?_) (a' := ?_) #[true,true,true,true,true,true,false,false,false,false] rfl rfl (any_of HT_.out (by kernel_rfl)) (fun _ _ _ h => h) (Or.inl ⟨by rfl, ?_⟩) ?_ ?_; rotate_left
 ·
  intro w'; go_simp
  with_reducible rfl
 rotate_left
 · simp only [Act.put, sA_, sZ_, sS_, i64_w, i32_w]; rfl
 refine pure_ (i := 6) (N := some 27) (v := ?_) (a' := ?_) #[true,true,true,true,true,true,true,false,false,false] rfl rfl (any_of HT_.out (by kernel_rfl)) (fun _ _ _ h => h) (Or.inl ⟨by rfl, ?_⟩) ?_ ?_; rotate_left
 ·
  intro w'; go_simp
  with_reducible rfl
 rotate_left
 · simp only [Act.put, sA_, sZ_, sS_, i64_w, i32_w]; rfl
 refine pure_ (i := 7) (N := some 28) (v := ?_) (a' := ?_) #[true,true,true,true,true,true,true,true,false,false] rfl rfl (any_of HT_.out (by kernel_rfl)) (fun _ _ _ h => h) (Or.inl ⟨by rfl, ?_⟩) ?_ ?_; rotate_left
 ·
  intro w'; go_simp
  with_reducible rfl
 rotate_left
 · simp only [Act.put, sA_, sZ_, sS_, i64_w, i32_w]; rfl
 refine pure_ (i := 8) (N := some 7) (v := ?_) (a' := ?_) #[true,true,true,true,true,true,true,true,true,false] rfl rfl (any_of HT_.out (by kernel_rfl)) (fun _ _ _ h => h) (Or.inl ⟨by rfl, ?_⟩) ?_ ?_; rotate_left
 ·
  intro w'; go_simp
  with_reducible rfl
 rotate_left
 · simp only [Act.put, sA_, sZ_, sS_, i64_w, i32_w]; rfl
 refine pure_ (i := 9) (N := some 8) (v := ?_) (a' := ?_) #[true,true,true,true,true,true,true,true,true,true] rfl rfl (any_of HT_.out (by kernel_rfl)) (fun _ _ _ h => h) (Or.inl ⟨by rfl, ?_⟩) ?_ ?_; rotate_left
 ·
  intro w'; go_simp
  with_reducible rfl
 rotate_left
 · simp only [Act.put, sA_, sZ_, sS_, i64_w, i32_w]; rfl
 refine done_ (done_of HT_.out (by kernel_rfl)) ?_
 go_upto_region 3 with (fail)
 go_cut [37] (fun v37 wc => ∃ (kq : Nat) (x37_8 : Bool), v37 = .bool x37_8 ∧ Aside0 (laws_FnExactEdBytes.j0 kq t228 t231 t239 x37_8 a0_0 a0_1 a0_2 a0_3 a0_4 a1_0 a1_1 = some r) ∧ Aside0 (kq ≤ k) ∧ Aside0 (Kd.R (Kd.int .u8) 5 wc w.heap.size (fun k_ => some k_ ≠ (v240 : Value).ownBlock) v229 t228) ∧ Aside0 (Kd.R (Kd.int .u8) 5 wc w.heap.size (fun k_ => some k_ ≠ (v229 : Value).ownBlock) v240 t239) ∧ Aside0 (wc.heap[gb219]? = some (.cells #[.int .i64 a0_0, .int .i64 a0_1, .int .i64 a0_2, .int .i64 a0_3, .int .i64 a0_4] 39 (0, 0))) ∧ Aside0 (wc.heap[gb220]? = some (.cells #[.int .i64 a1_0, .int .i64 a1_1] 41 (0, 0))) ∧ Aside0 (Below w.heap.size w wc))
 case first =>
  have H := HC9.out; clear HC9; replace H := Option.bind_eq_some_iff.mp H; obtain ⟨t243, A200, H⟩ := H
  replace H : (if t243 = true then (laws_FnExactEdBytes.j0 k t228 t231 t239 (t242 != t231) a0_0 a0_1 a0_2 a0_3 a0_4 a1_0 a1_1) else (laws_FnExactEdBytes.j0 k t228 t231 t239 true a0_0 a0_1 a0_2 a0_3 a0_4 a1_0 a1_1)) = some r := H
  have A20 := Aside0.mk A200; clear A200
  by_cases c21 : t243 = true
  ·
   subst c21
   have H1 : (laws_FnExactEdBytes.j0 k t228 t231 t239 (t242 != t231) a0_0 a0_1 a0_2 a0_3 a0_4 a1_0 a1_1) = some r := by rw [if_pos rfl] at H; exact H
   clear H; have H := H1; clear H1
   have H' := Aside0.mk H
   clear H; obtain ⟨Ao22, co22, eo22⟩ := Kd.R_slice HO241.out; subst eo22; obtain ⟨Ao23, co23, eo23⟩ := Kd.R_slice HO230.out; subst eo23
   go_wp2_with (first | ((with_reducible refine gate_callee (f := 27) rfl ?_); refine goesL_ (some 31) rfl rfl Try.func27 (by kernel_rfl) rfl #[.slice Ao22 t239.length co22, .slice Ao23 t228.length co23] rfl (by (try simp only [List.map_toArray, List.map_cons, List.map_nil]); first | done | rfl | (simp only [List.length_drop, List.length_take]; rfl)) ?_; (with_reducible refine (laws_eqByteS.calls k _ _ t239 _ _ t228 true _ ?side1 ?side2 ?side3 ?side4 A20.out).mono ?_); (case side1 => repeat (first | exact (Kd.R_reads' HO241.out).2.2 | (with_reducible refine Kd.C_alloc ?_ _) | (with_reducible refine Kd.C_drewN ?_ _) | (with_reducible refine Kd.C_drew ?_))); (case side2 => exact (Kd.R_reads' HO241.out).2.1); (case side3 => repeat (first | exact (Kd.R_reads' HO230.out).2.2 | (with_reducible refine Kd.C_alloc ?_ _) | (with_reducible refine Kd.C_drewN ?_ _) | (with_reducible refine Kd.C_drew ?_))); (case side4 => exact (Kd.R_reads' HO230.out).2.1); rintro e w' ⟨rfl, ⟨nd, rfl⟩⟩; refine ⟨_, rfl, ?_⟩))
   go_meet
   case rel => exact ⟨_, ((t242 != t231)), (by first | rfl | (simp; done) | (simp [*]; done)), H', ⟨by first | omega | exact Nat.le_refl _⟩, ⟨by (with_reducible repeat (first | apply Kd.R_alloc | apply Kd.R_drewN | apply Kd.R_drew)); exact Kd.R_mono HO230.out (fun _ hk => hk.2)⟩, ⟨by (with_reducible repeat (first | apply Kd.R_alloc | apply Kd.R_drewN | apply Kd.R_drew)); exact Kd.R_mono HO241.out (fun _ hk => hk.2)⟩, ⟨by (with_reducible repeat (first | refine blk_drewN ?_ _ | refine blk_drew ?_ | refine blk_alloc ?_ _)); exact BK219.out⟩, ⟨by (with_reducible repeat (first | refine blk_drewN ?_ _ | refine blk_drew ?_ | refine blk_alloc ?_ _)); exact BK220.out⟩, ⟨by repeat (first | (with_reducible first | exact HB.out | apply below_alloc | apply pw_below_drewN | apply below_drew1 | refine below_set ?_ GE219.out | refine below_set ?_ GE220.out) | exact HB.out)⟩⟩
  ·
   replace c21 := Bool.eq_false_iff.mpr c21; subst c21
   have H1 : (laws_FnExactEdBytes.j0 k t228 t231 t239 true a0_0 a0_1 a0_2 a0_3 a0_4 a1_0 a1_1) = some r := by rw [if_neg (show ¬ (false = true) by decide)] at H; exact H
   clear H; have H := H1; clear H1
   have H' := Aside0.mk H
   clear H; obtain ⟨Ao24, co24, eo24⟩ := Kd.R_slice HO241.out; subst eo24; obtain ⟨Ao25, co25, eo25⟩ := Kd.R_slice HO230.out; subst eo25
   go_wp2_with (first | ((with_reducible refine gate_callee (f := 27) rfl ?_); refine goesL_ (some 31) rfl rfl Try.func27 (by kernel_rfl) rfl #[.slice Ao24 t239.length co24, .slice Ao25 t228.length co25] rfl (by (try simp only [List.map_toArray, List.map_cons, List.map_nil]); first | done | rfl | (simp only [List.length_drop, List.length_take]; rfl)) ?_; (with_reducible refine (laws_eqByteS.calls k _ _ t239 _ _ t228 false _ ?side1 ?side2 ?side3 ?side4 A20.out).mono ?_); (case side1 => repeat (first | exact (Kd.R_reads' HO241.out).2.2 | (with_reducible refine Kd.C_alloc ?_ _) | (with_reducible refine Kd.C_drewN ?_ _) | (with_reducible refine Kd.C_drew ?_))); (case side2 => exact (Kd.R_reads' HO241.out).2.1); (case side3 => repeat (first | exact (Kd.R_reads' HO230.out).2.2 | (with_reducible refine Kd.C_alloc ?_ _) | (with_reducible refine Kd.C_drewN ?_ _) | (with_reducible refine Kd.C_drew ?_))); (case side4 => exact (Kd.R_reads' HO230.out).2.1); rintro e w' ⟨rfl, ⟨nd, rfl⟩⟩; refine ⟨_, rfl, ?_⟩))
   go_meet
   case rel => exact ⟨_, (true), (by first | rfl | (simp; done) | (simp [*]; done)), H', ⟨by first | omega | exact Nat.le_refl _⟩, ⟨by (with_reducible repeat (first | apply Kd.R_alloc | apply Kd.R_drewN | apply Kd.R_drew)); exact Kd.R_mono HO230.out (fun _ hk => hk.2)⟩, ⟨by (with_reducible repeat (first | apply Kd.R_alloc | apply Kd.R_drewN | apply Kd.R_drew)); exact Kd.R_mono HO241.out (fun _ hk => hk.2)⟩, ⟨by (with_reducible repeat (first | refine blk_drewN ?_ _ | refine blk_drew ?_ | refine blk_alloc ?_ _)); exact BK219.out⟩, ⟨by (with_reducible repeat (first | refine blk_drewN ?_ _ | refine blk_drew ?_ | refine blk_alloc ?_ _)); exact BK220.out⟩, ⟨by repeat (first | (with_reducible first | exact HB.out | apply below_alloc | apply pw_below_drewN | apply below_drew1 | refine below_set ?_ GE219.out | refine below_set ?_ GE220.out) | exact HB.out)⟩⟩
 case rest =>
  clear HC9
  try clear c2
  try clear p2
  try clear c6
  try clear c21
  try clear c23
  try clear c24
  try clear c25
  obtain ⟨kq, x37_8, rfl, HA, HJ8, HO_5, HO_7, BK219, BK220, HB⟩ := hcut
  cases kq with
  | zero => exact absurd HA.out (by simp [laws_FnExactEdBytes.j0])
  | succ kj8 =>
   have H := HA.out; clear HA
   simp only [laws_FnExactEdBytes.j0] at H
   by_cases c26 : x37_8 = true
   ·
    subst c26
    have H1 : (some false) = some r := by rw [if_pos rfl] at H; exact H
    clear H; have H := H1; clear H1; obtain rfl := Option.some.inj H
    go_wp2
    go_ret
    exact ⟨by first | rfl | (simp [errW_none, errW_some] <;> rfl) | (simp [*, errW_none, errW_some] <;> rfl), by repeat (first | (with_reducible first | exact HB.out | apply below_alloc | apply pw_below_drewN | apply below_drew1 | refine below_set ?_ GE219.out | refine below_set ?_ GE220.out) | exact HB.out)⟩
   ·
    replace c26 := Bool.eq_false_iff.mpr c26; subst c26
    have H1 : ((laws_markByteS.f kj8 t239 1).bind fun bt244 => ((laws_heldByteS.f kj8 bt244.2 1).bind fun t246 => (if t246 < 0 then (some false) else (if t246 = bt244.1 then ((laws_toEd.f a0_0 a0_1 a0_2 a0_3 a0_4).bind fun bt247 => ((laws_toPair.f a1_0 a1_1).bind fun bt252 => ((impl_EdBytes.f kj8 bt247.1 bt247.2.1 bt247.2.2.1 bt247.2.2.2.1 bt247.2.2.2.2 bt252.1 bt252.2).bind fun bt254 => ((laws_eqByteS.f kj8 bt254.1 t228).bind fun t258 => (if t258 = true then (laws_FnExactEdBytes.j1 kj8 bt244.2 bt244.1 (bt254.2 != t231)) else (laws_FnExactEdBytes.j1 kj8 bt244.2 bt244.1 true)))))) else (some false))))) = some r := by rw [if_neg (show ¬ (false = true) by decide)] at H; exact H
    clear H; have H := H1; clear H1; replace H := Option.bind_eq_some_iff.mp H; obtain ⟨⟨t244, t245⟩, A270, H⟩ := H
    replace H : ((laws_heldByteS.f kj8 t245 1).bind fun t246 => (if t246 < 0 then (some false) else (if t246 = t244 then ((laws_toEd.f a0_0 a0_1 a0_2 a0_3 a0_4).bind fun bt247 => ((laws_toPair.f a1_0 a1_1).bind fun bt252 => ((impl_EdBytes.f kj8 bt247.1 bt247.2.1 bt247.2.2.1 bt247.2.2.2.1 bt247.2.2.2.2 bt252.1 bt252.2).bind fun bt254 => ((laws_eqByteS.f kj8 bt254.1 t228).bind fun t258 => (if t258 = true then (laws_FnExactEdBytes.j1 kj8 t245 t244 (bt254.2 != t231)) else (laws_FnExactEdBytes.j1 kj8 t245 t244 true)))))) else (some false)))) = some r := H
    have A27 := Aside0.mk A270; clear A270; replace H := Option.bind_eq_some_iff.mp H; obtain ⟨t246, A280, H⟩ := H
    replace H : (if t246 < 0 then (some false) else (if t246 = t244 then ((laws_toEd.f a0_0 a0_1 a0_2 a0_3 a0_4).bind fun bt247 => ((laws_toPair.f a1_0 a1_1).bind fun bt252 => ((impl_EdBytes.f kj8 bt247.1 bt247.2.1 bt247.2.2.1 bt247.2.2.2.1 bt247.2.2.2.2 bt252.1 bt252.2).bind fun bt254 => ((laws_eqByteS.f kj8 bt254.1 t228).bind fun t258 => (if t258 = true then (laws_FnExactEdBytes.j1 kj8 t245 t244 (bt254.2 != t231)) else (laws_FnExactEdBytes.j1 kj8 t245 t244 true)))))) else (some false))) = some r := H
    have A28 := Aside0.mk A280; clear A280
    by_cases c29 : t246 < 0
    ·
     rw [if_pos c29] at H
     have c29b0 : decide (t246 < 0) = true := decide_eq_true c29
     clear c29; obtain rfl := Option.some.inj H; obtain ⟨Ao30, co30, eo30⟩ := Kd.R_slice HO_7.out; subst eo30
     go_wp2_with (first | ((with_reducible refine gate_callee (f := 28) rfl ?_); refine goesL_ (some 40) rfl rfl Try.func28 (by kernel_rfl) rfl #[.slice Ao30 t239.length co30, .int .i64 1] rfl (by (try simp only [List.map_toArray, List.map_cons, List.map_nil]); first | done | rfl | (simp only [List.length_drop, List.length_take]; rfl)) ?_; (with_reducible refine (laws_markByteS.calls kj8 (fun k_ => some k_ = (.slice Ao30 t239.length co30 : Value).ownBlock) (.slice Ao30 t239.length co30) t239 1 t244 t245 w _ ?side1 ?side2 A27.out).mono ?_); (case side1 => repeat (first | (with_reducible first | exact HB.out | apply below_alloc | apply pw_below_drewN | apply below_drew1 | refine below_set ?_ GE219.out | refine below_set ?_ GE220.out) | exact HB.out)); (case side2 => exact Kd.R_tight rfl HO_7.out); rintro e w31 ⟨rfl, hy0, hb, hkp⟩; refine ⟨_, rfl, ?_⟩; have n0_ := Aside0.mk (Kd.R_mono (ok' := fun k_ => some k_ ≠ (.slice Ao30 t239.length co30 : Value).ownBlock) (Kd.R_keptB (HO_5.out) hkp (fun k_ hk_ hs_ => (hk_) hs_)) (fun k_ hk_ => hk_.1)); have n1_ := Aside0.mk (Kd.R_reok rfl hy0 (fun k_ e_ => HO_7.out.1 k_ e_)); have n2_ := Aside0.mk (blk_kept (bk_ BK219) hkp (fun hs_ => (fun e_ => (Kd.R_ne HO_7.out BK219.out (by decide)) e_) hs_)); have n3_ := Aside0.mk (blk_kept (bk_ BK220) hkp (fun hs_ => (fun e_ => (Kd.R_ne HO_7.out BK220.out (by decide)) e_) hs_)); have n4_ := Aside0.mk hb; clear HO_5; clear HO_7; clear BK219; clear BK220; clear HB; have HO_5 := n0_; have HO_7 := n1_; have BK219 := n2_; have BK220 := n3_; have HB := n4_; clear n0_ n1_ n2_ n3_ n4_; (try clear hb); (try clear hkp); (try clear hy0)) | ((with_reducible refine gate_callee (f := 29) rfl ?_); refine goesL_ (some 43) rfl rfl Try.func29 (by kernel_rfl) rfl #[.slice Ao30 t245.length co30, .int .i64 1] rfl (by (try simp only [List.map_toArray, List.map_cons, List.map_nil]); first | done | (rw [show t245.length = t239.length from (Kd.R_reads' HO_7.out).1.symm] <;> rfl) | rfl | (simp only [List.length_drop, List.length_take]; rfl)) ?_; (with_reducible refine (laws_heldByteS.calls kj8 _ _ t245 1 t246 _ ?side1 ?side2 A28.out).mono ?_); (case side1 => repeat (first | exact (Kd.R_reads' HO_7.out).2.2 | (with_reducible refine Kd.C_alloc ?_ _) | (with_reducible refine Kd.C_drewN ?_ _) | (with_reducible refine Kd.C_drew ?_))); (case side2 => rw [show t245.length = t239.length from (Kd.R_reads' HO_7.out).1.symm]; exact (Kd.R_reads' HO_7.out).2.1); rintro e w' ⟨rfl, ⟨nd, rfl⟩⟩; refine ⟨_, rfl, ?_⟩))
     go_ret
     exact ⟨by first | rfl | (simp [errW_none, errW_some] <;> rfl) | (simp [*, errW_none, errW_some] <;> rfl), by repeat (first | (with_reducible first | exact HB.out | apply below_alloc | apply pw_below_drewN | apply below_drew1 | refine below_set ?_ GE219.out | refine below_set ?_ GE220.out) | exact HB.out)⟩
    ·
     rw [if_neg c29] at H
     have c29b0 : decide (t246 < 0) = false := decide_eq_false c29
     clear c29
     by_cases c32 : t246 = t244
     ·
      rw [if_pos c32] at H
      have c32b0 : (t246 == t244) = true := beq_iff_eq.mpr c32
      have c32b1 : (t246 != t244) = false := bne_eq_false_iff_eq.mpr c32
      clear c32; replace H := Option.bind_eq_some_iff.mp H; obtain ⟨⟨t247, t248, t249, t250, t251⟩, A330, H⟩ := H
      replace H : ((laws_toPair.f a1_0 a1_1).bind fun bt252 => ((impl_EdBytes.f kj8 t247 t248 t249 t250 t251 bt252.1 bt252.2).bind fun bt254 => ((laws_eqByteS.f kj8 bt254.1 t228).bind fun t258 => (if t258 = true then (laws_FnExactEdBytes.j1 kj8 t245 t244 (bt254.2 != t231)) else (laws_FnExactEdBytes.j1 kj8 t245 t244 true))))) = some r := H
      have A33 := Aside0.mk A330; clear A330; replace H := Option.bind_eq_some_iff.mp H; obtain ⟨⟨t252, t253⟩, A340, H⟩ := H
      replace H : ((impl_EdBytes.f kj8 t247 t248 t249 t250 t251 t252 t253).bind fun bt254 => ((laws_eqByteS.f kj8 bt254.1 t228).bind fun t258 => (if t258 = true then (laws_FnExactEdBytes.j1 kj8 t245 t244 (bt254.2 != t231)) else (laws_FnExactEdBytes.j1 kj8 t245 t244 true)))) = some r := H
      have A34 := Aside0.mk A340; clear A340; replace H := Option.bind_eq_some_iff.mp H; obtain ⟨⟨t254, t257⟩, A350, H⟩ := H
      replace H : ((laws_eqByteS.f kj8 t254 t228).bind fun t258 => (if t258 = true then (laws_FnExactEdBytes.j1 kj8 t245 t244 (t257 != t231)) else (laws_FnExactEdBytes.j1 kj8 t245 t244 true))) = some r := H
      have A35 := Aside0.mk A350; clear A350; have HC36 := Aside0.mk H; clear H; obtain ⟨Ao37, co37, eo37⟩ := Kd.R_slice HO_7.out; subst eo37
      try go_wp2_with (first | ((with_reducible refine gate_callee (f := 28) rfl ?_); refine goesL_ (some 40) rfl rfl Try.func28 (by kernel_rfl) rfl #[.slice Ao37 t239.length co37, .int .i64 1] rfl (by (try simp only [List.map_toArray, List.map_cons, List.map_nil]); first | done | rfl | (simp only [List.length_drop, List.length_take]; rfl)) ?_; (with_reducible refine (laws_markByteS.calls kj8 (fun k_ => some k_ = (.slice Ao37 t239.length co37 : Value).ownBlock) (.slice Ao37 t239.length co37) t239 1 t244 t245 w _ ?side1 ?side2 A27.out).mono ?_); (case side1 => repeat (first | (with_reducible first | exact HB.out | apply below_alloc | apply pw_below_drewN | apply below_drew1 | refine below_set ?_ GE219.out | refine below_set ?_ GE220.out) | exact HB.out)); (case side2 => exact Kd.R_tight rfl HO_7.out); rintro e w38 ⟨rfl, hy0, hb, hkp⟩; refine ⟨_, rfl, ?_⟩; have n0_ := Aside0.mk (Kd.R_mono (ok' := fun k_ => some k_ ≠ (.slice Ao37 t239.length co37 : Value).ownBlock) (Kd.R_keptB (HO_5.out) hkp (fun k_ hk_ hs_ => (hk_) hs_)) (fun k_ hk_ => hk_.1)); have n1_ := Aside0.mk (Kd.R_reok rfl hy0 (fun k_ e_ => HO_7.out.1 k_ e_)); have n2_ := Aside0.mk (blk_kept (bk_ BK219) hkp (fun hs_ => (fun e_ => (Kd.R_ne HO_7.out BK219.out (by decide)) e_) hs_)); have n3_ := Aside0.mk (blk_kept (bk_ BK220) hkp (fun hs_ => (fun e_ => (Kd.R_ne HO_7.out BK220.out (by decide)) e_) hs_)); have n4_ := Aside0.mk hb; clear HO_5; clear HO_7; clear BK219; clear BK220; clear HB; have HO_5 := n0_; have HO_7 := n1_; have BK219 := n2_; have BK220 := n3_; have HB := n4_; clear n0_ n1_ n2_ n3_ n4_; (try clear hb); (try clear hkp); (try clear hy0)) | ((with_reducible refine gate_callee (f := 29) rfl ?_); refine goesL_ (some 43) rfl rfl Try.func29 (by kernel_rfl) rfl #[.slice Ao37 t245.length co37, .int .i64 1] rfl (by (try simp only [List.map_toArray, List.map_cons, List.map_nil]); first | done | (rw [show t245.length = t239.length from (Kd.R_reads' HO_7.out).1.symm] <;> rfl) | rfl | (simp only [List.length_drop, List.length_take]; rfl)) ?_; (with_reducible refine (laws_heldByteS.calls kj8 _ _ t245 1 t246 _ ?side1 ?side2 A28.out).mono ?_); (case side1 => repeat (first | exact (Kd.R_reads' HO_7.out).2.2 | (with_reducible refine Kd.C_alloc ?_ _) | (with_reducible refine Kd.C_drewN ?_ _) | (with_reducible refine Kd.C_drew ?_))); (case side2 => rw [show t245.length = t239.length from (Kd.R_reads' HO_7.out).1.symm]; exact (Kd.R_reads' HO_7.out).2.1); rintro e w' ⟨rfl, ⟨nd, rfl⟩⟩; refine ⟨_, rfl, ?_⟩))
      (try (rw [drewN_self w38]; generalize hq_ : World.drewN w38 _ = w38; have n0_ : Aside0 (Kd.R (Kd.int .u8) 5 w38 w.heap.size (fun k_ => some k_ ≠ (.slice Ao37 t239.length co37 : Value).ownBlock) v229 t228) := ⟨by rw [← hq_]; exact (by (with_reducible repeat (first | apply Kd.R_alloc | apply Kd.R_drewN | apply Kd.R_drew)); exact HO_5.out)⟩; have n1_ : Aside0 (Kd.R (Kd.int .u8) 5 w38 w.heap.size (fun k_ => some k_ ≠ (v229 : Value).ownBlock) (.slice Ao37 t239.length co37) t245) := ⟨by rw [← hq_]; exact (by (with_reducible repeat (first | apply Kd.R_alloc | apply Kd.R_drewN | apply Kd.R_drew)); exact HO_7.out)⟩; have n2_ : Aside0 (w38.heap[gb219]? = some (.cells #[.int .i64 a0_0, .int .i64 a0_1, .int .i64 a0_2, .int .i64 a0_3, .int .i64 a0_4] 39 (0, 0))) := ⟨by rw [← hq_]; exact (bk_ BK219)⟩; have n3_ : Aside0 (w38.heap[gb220]? = some (.cells #[.int .i64 a1_0, .int .i64 a1_1] 41 (0, 0))) := ⟨by rw [← hq_]; exact (bk_ BK220)⟩; have n4_ : Aside0 (Below w.heap.size w w38) := ⟨by rw [← hq_]; exact (bw_ HB)⟩; clear HO_5 HO_7 BK219 BK220 HB hq_; have HO_5 := n0_; have HO_7 := n1_; have BK219 := n2_; have BK220 := n3_; have HB := n4_; clear n0_ n1_ n2_ n3_ n4_; have hcy219_0 : w38.cell? ⟨gb219, 0, none⟩ = some (.int .i64 a0_0) := bc_ BK219 0; have hcy219_1 : w38.cell? ⟨gb219, 1, none⟩ = some (.int .i64 a0_1) := bc_ BK219 1; have hcy219_2 : w38.cell? ⟨gb219, 2, none⟩ = some (.int .i64 a0_2) := bc_ BK219 2; have hcy219_3 : w38.cell? ⟨gb219, 3, none⟩ = some (.int .i64 a0_3) := bc_ BK219 3; have hcy219_4 : w38.cell? ⟨gb219, 4, none⟩ = some (.int .i64 a0_4) := bc_ BK219 4; have hcy220_0 : w38.cell? ⟨gb220, 0, none⟩ = some (.int .i64 a1_0) := bc_ BK220 0; have hcy220_1 : w38.cell? ⟨gb220, 1, none⟩ = some (.int .i64 a1_1) := bc_ BK220 1)); replace HO_5 := Aside0.mk (Kd.R_drew HO_5.out); replace HO_7 := Aside0.mk (Kd.R_drew HO_7.out); replace BK219 := Aside0.mk (blk_drew BK219.out); replace BK220 := Aside0.mk (blk_drew BK220.out); replace HB := Aside0.mk (below_drew1 HB.out); refine start_ (n := 10) (S := fun w' => w'.cell? ⟨gb219, 0, none⟩ = some (.int .i64 a0_0) ∧ w'.cell? ⟨gb219, 1, none⟩ = some (.int .i64 a0_1) ∧ w'.cell? ⟨gb219, 2, none⟩ = some (.int .i64 a0_2) ∧ w'.cell? ⟨gb219, 3, none⟩ = some (.int .i64 a0_3) ∧ w'.cell? ⟨gb219, 4, none⟩ = some (.int .i64 a0_4) ∧ w'.cell? ⟨gb220, 0, none⟩ = some (.int .i64 a1_0) ∧ w'.cell? ⟨gb220, 1, none⟩ = some (.int .i64 a1_1)) (ds := []) #[false,false,false,false,false,false,false,false,false,false] (by kernel_rfl) rfl rfl ⟨bc_ BK219 0, bc_ BK219 1, bc_ BK219 2, bc_ BK219 3, bc_ BK219 4, bc_ BK220 0, bc_ BK220 1⟩ (fun hHeld => ?_); refine with_tabW laws_FnExactEdBytes.tab13 laws_FnExactEdBytes.bits13 (fun HT_ HW_ => ?_)
      generalize w38.drew = w39 at HO_5 HO_7 BK219 BK220 HB hHeld ⊢
      refine take_ (i := 0) (N := some 50) (v := ?_) (a' := ?_) #[true,false,false,false,false,false,false,false,false,false] rfl rfl (take_ofW HT_.out HW_.out (by kernel_rfl)) (fun _ _ _ h => h) (Or.inl ⟨by rfl, ?_⟩) hHeld ?_ ?_; rotate_left
      ·
       rintro w' ⟨s0, s1, s2, s3, s4, s5, s6⟩; go_simp
       with_reducible rfl
      rotate_left
      · simp only [Act.put, sA_, sZ_, sS_, i64_w, i32_w]; rfl
      refine take_ (i := 2) (N := some 52) (v := ?_) (a' := ?_) #[true,false,true,false,false,false,false,false,false,false] rfl rfl (take_ofW HT_.out HW_.out (by kernel_rfl)) (fun _ _ _ h => h) (Or.inl ⟨by rfl, ?_⟩) hHeld ?_ ?_; rotate_left
      ·
       rintro w' ⟨s0, s1, s2, s3, s4, s5, s6⟩; go_simp
       with_reducible rfl
      rotate_left
      · simp only [Act.put, sA_, sZ_, sS_, i64_w, i32_w]; rfl
      refine one_ (i := 1) (N := some 51) #[true,true,true,false,false,false,false,false,false,false] rfl rfl (one_of HT_.out (by kernel_rfl)) (by decide) (fun K hK => ?_); refine gs_ Try.func24 #[.agg #[.int .i64 a0_0, .int .i64 a0_1, .int .i64 a0_2, .int .i64 a0_3, .int .i64 a0_4]] ?_
      with_reducible refine (laws_toEd.calls a0_0 a0_1 a0_2 a0_3 a0_4 t247 t248 t249 t250 t251 _ A33.out).mono ?_
      rintro e w40 ⟨rfl, hb⟩; refine ⟨_, rfl, ?_⟩; replace HO_5 := Aside0.mk (Kd.R_below (by (with_reducible repeat (first | apply Kd.R_alloc | apply Kd.R_drewN | apply Kd.R_drew)); exact HO_5.out) hb); replace HO_7 := Aside0.mk (Kd.R_below (by (with_reducible repeat (first | apply Kd.R_alloc | apply Kd.R_drewN | apply Kd.R_drew)); exact HO_7.out) hb); replace BK219 := bb_ BK219 hb; replace BK220 := bb_ BK220 hb; replace HB := bs_ HB hb; (try clear hb); (try clear hk); refine hK.out _ _ ⟨bc_ BK219 0, bc_ BK219 1, bc_ BK219 2, bc_ BK219 3, bc_ BK219 4, bc_ BK220 0, bc_ BK220 1⟩ (fun hHeld => ?_); clear hK K
      apply norm_
      · show Act.put _ (some 51) _ = _; simp only [Act.put, sA_, sZ_, sS_, i64_w, i32_w]; rfl
      refine one_ (i := 3) (N := some 53) #[true,true,true,true,false,false,false,false,false,false] rfl rfl (one_of HT_.out (by kernel_rfl)) (by decide) (fun K hK => ?_); refine gs_ Try.func25 #[.agg #[.int .i64 a1_0, .int .i64 a1_1]] ?_
      with_reducible refine (laws_toPair.calls a1_0 a1_1 t252 t253 _ A34.out).mono ?_
      rintro e w41 ⟨rfl, hb⟩; refine ⟨_, rfl, ?_⟩; replace HO_5 := Aside0.mk (Kd.R_below (by (with_reducible repeat (first | apply Kd.R_alloc | apply Kd.R_drewN | apply Kd.R_drew)); exact HO_5.out) hb); replace HO_7 := Aside0.mk (Kd.R_below (by (with_reducible repeat (first | apply Kd.R_alloc | apply Kd.R_drewN | apply Kd.R_drew)); exact HO_7.out) hb); replace BK219 := bb_ BK219 hb; replace BK220 := bb_ BK220 hb; replace HB := bs_ HB hb; (try clear hb); (try clear hk); refine hK.out _ _ ⟨bc_ BK219 0, bc_ BK219 1, bc_ BK219 2, bc_ BK219 3, bc_ BK219 4, bc_ BK220 0, bc_ BK220 1⟩ (fun hHeld => ?_); clear hK K
      apply norm_
      · show Act.put _ (some 53) _ = _; simp only [Act.put, sA_, sZ_, sS_, i64_w, i32_w]; rfl
      refine one_ (i := 4) (N := some 54) #[true,true,true,true,true,false,false,false,false,false] rfl rfl (one_of HT_.out (by kernel_rfl)) (by decide) (fun K hK => ?_); refine gs_ Try.func26 #[.agg #[.int .i64 t247, .int .i64 t248, .int .i64 t249, .int .i64 t250, .int .i64 t251], .agg #[.int .i64 t252, .int .i64 t253]] ?_
      with_reducible refine (impl_EdBytes.calls kj8 t247 t248 t249 t250 t251 t252 t253 t254 t257 _ A35.out).mono ?_
      rintro e w42 ⟨v255, rfl, ho0, hb⟩; refine ⟨_, rfl, ?_⟩; have n0_ := Aside0.mk (Kd.R_elder' (by (with_reducible repeat (first | apply Kd.R_alloc | apply Kd.R_drewN | apply Kd.R_drew)); exact HO_5.out) (Kd.R_base ho0) hb); have n1_ := Aside0.mk (Kd.R_elder' (by (with_reducible repeat (first | apply Kd.R_alloc | apply Kd.R_drewN | apply Kd.R_drew)); exact HO_7.out) (Kd.R_base ho0) hb); have n2_ := Aside0.mk (Kd.R_lower (Kd.R_new' (Kd.R_new' ho0 (Kd.R_lt (by (with_reducible repeat (first | apply Kd.R_alloc | apply Kd.R_drewN | apply Kd.R_drew)); exact HO_5.out))) (Kd.R_lt (by (with_reducible repeat (first | apply Kd.R_alloc | apply Kd.R_drewN | apply Kd.R_drew)); exact HO_7.out))) (below_size (bw_ HB))); have n3_ := bb_ BK219 hb; have n4_ := bb_ BK220 hb; have n5_ := bs_ HB hb; clear HO_5 HO_7 BK219 BK220 HB; have HO_5 := n0_; have HO_7 := n1_; have HO256 := n2_; have BK219 := n3_; have BK220 := n4_; have HB := n5_; clear n0_ n1_ n2_ n3_ n4_ n5_; (try clear hb); (try clear hk); (try clear ho0); refine hK.out _ _ ⟨bc_ BK219 0, bc_ BK219 1, bc_ BK219 2, bc_ BK219 3, bc_ BK219 4, bc_ BK220 0, bc_ BK220 1⟩ (fun hHeld => ?_); clear hK K
      apply norm_
      · show Act.put _ (some 54) _ = _; simp only [Act.put, sA_, sZ_, sS_, i64_w, i32_w]; rfl
      refine pure_ (i := 5) (N := some 49) (v := ?_) (a' := ?_) #[true,true,true,true,true,true,false,false,false,false] rfl rfl (any_of HT_.out (by kernel_rfl)) (fun _ _ _ h => h) (Or.inl ⟨by rfl, ?_⟩) ?_ ?_; rotate_left
      ·
       intro w'; go_simp
       with_reducible rfl
      rotate_left
      · simp only [Act.put, sA_, sZ_, sS_, i64_w, i32_w]; rfl
      refine pure_ (i := 6) (N := some 55) (v := ?_) (a' := ?_) #[true,true,true,true,true,true,true,false,false,false] rfl rfl (any_of HT_.out (by kernel_rfl)) (fun _ _ _ h => h) (Or.inl ⟨by rfl, ?_⟩) ?_ ?_; rotate_left
      ·
       intro w'; go_simp
       with_reducible rfl
      rotate_left
      · simp only [Act.put, sA_, sZ_, sS_, i64_w, i32_w]; rfl
      refine pure_ (i := 7) (N := some 56) (v := ?_) (a' := ?_) #[true,true,true,true,true,true,true,true,false,false] rfl rfl (any_of HT_.out (by kernel_rfl)) (fun _ _ _ h => h) (Or.inl ⟨by rfl, ?_⟩) ?_ ?_; rotate_left
      ·
       intro w'; go_simp
       with_reducible rfl
      rotate_left
      · simp only [Act.put, sA_, sZ_, sS_, i64_w, i32_w]; rfl
      refine pure_ (i := 8) (N := some 11) (v := ?_) (a' := ?_) #[true,true,true,true,true,true,true,true,true,false] rfl rfl (any_of HT_.out (by kernel_rfl)) (fun _ _ _ h => h) (Or.inl ⟨by rfl, ?_⟩) ?_ ?_; rotate_left
      ·
       intro w'; go_simp
       with_reducible rfl
      rotate_left
      · simp only [Act.put, sA_, sZ_, sS_, i64_w, i32_w]; rfl
      refine pure_ (i := 9) (N := some 12) (v := ?_) (a' := ?_) #[true,true,true,true,true,true,true,true,true,true] rfl rfl (any_of HT_.out (by kernel_rfl)) (fun _ _ _ h => h) (Or.inl ⟨by rfl, ?_⟩) ?_ ?_; rotate_left
      ·
       intro w'; go_simp
       with_reducible rfl
      rotate_left
      · simp only [Act.put, sA_, sZ_, sS_, i64_w, i32_w]; rfl
      refine done_ (done_of HT_.out (by kernel_rfl)) ?_
      go_upto_region 14 with (fail)
      go_cut [65] (fun v65 wc => ∃ (kq : Nat) (x65_35 : Bool), v65 = .bool x65_35 ∧ Aside0 (laws_FnExactEdBytes.j1 kq t245 t244 x65_35 = some r) ∧ Aside0 (kq ≤ kj8) ∧ Aside0 (Kd.R (Kd.int .u8) 5 wc w.heap.size (fun _ => True) (.slice Ao37 t239.length co37) t245) ∧ Aside0 (wc.heap[gb219]? = some (.cells #[.int .i64 a0_0, .int .i64 a0_1, .int .i64 a0_2, .int .i64 a0_3, .int .i64 a0_4] 39 (0, 0))) ∧ Aside0 (wc.heap[gb220]? = some (.cells #[.int .i64 a1_0, .int .i64 a1_1] 41 (0, 0))) ∧ Aside0 (Below w.heap.size w wc))
      case first =>
       have H := HC36.out; clear HC36; replace H := Option.bind_eq_some_iff.mp H; obtain ⟨t258, A430, H⟩ := H
       replace H : (if t258 = true then (laws_FnExactEdBytes.j1 kj8 t245 t244 (t257 != t231)) else (laws_FnExactEdBytes.j1 kj8 t245 t244 true)) = some r := H
       have A43 := Aside0.mk A430; clear A430
       by_cases c44 : t258 = true
       ·
        subst c44
        have H1 : (laws_FnExactEdBytes.j1 kj8 t245 t244 (t257 != t231)) = some r := by rw [if_pos rfl] at H; exact H
        clear H; have H := H1; clear H1
        have H' := Aside0.mk H
        clear H; obtain ⟨Ao45, co45, eo45⟩ := Kd.R_slice HO256.out; subst eo45; obtain ⟨Ao46, co46, eo46⟩ := Kd.R_slice HO_5.out; subst eo46
        go_wp2_with (first | ((with_reducible refine gate_callee (f := 27) rfl ?_); refine goesL_ (some 59) rfl rfl Try.func27 (by kernel_rfl) rfl #[.slice Ao45 t254.length co45, .slice Ao46 t228.length co46] rfl (by (try simp only [List.map_toArray, List.map_cons, List.map_nil]); first | done | rfl | (simp only [List.length_drop, List.length_take]; rfl)) ?_; (with_reducible refine (laws_eqByteS.calls kj8 _ _ t254 _ _ t228 true _ ?side1 ?side2 ?side3 ?side4 A43.out).mono ?_); (case side1 => repeat (first | exact (Kd.R_reads' HO256.out).2.2 | (with_reducible refine Kd.C_alloc ?_ _) | (with_reducible refine Kd.C_drewN ?_ _) | (with_reducible refine Kd.C_drew ?_))); (case side2 => exact (Kd.R_reads' HO256.out).2.1); (case side3 => repeat (first | exact (Kd.R_reads' HO_5.out).2.2 | (with_reducible refine Kd.C_alloc ?_ _) | (with_reducible refine Kd.C_drewN ?_ _) | (with_reducible refine Kd.C_drew ?_))); (case side4 => exact (Kd.R_reads' HO_5.out).2.1); rintro e w' ⟨rfl, ⟨nd, rfl⟩⟩; refine ⟨_, rfl, ?_⟩))
        go_meet
        case rel => exact ⟨_, ((t257 != t231)), (by first | rfl | (simp; done) | (simp [*]; done)), H', ⟨by have := HJ8.out; first | omega | exact Nat.le_refl _⟩, ⟨by (with_reducible repeat (first | apply Kd.R_alloc | apply Kd.R_drewN | apply Kd.R_drew)); exact Kd.R_mono HO_7.out (fun _ hk => trivial)⟩, ⟨by (with_reducible repeat (first | refine blk_drewN ?_ _ | refine blk_drew ?_ | refine blk_alloc ?_ _)); exact BK219.out⟩, ⟨by (with_reducible repeat (first | refine blk_drewN ?_ _ | refine blk_drew ?_ | refine blk_alloc ?_ _)); exact BK220.out⟩, ⟨by repeat (first | (with_reducible first | exact HB.out | apply below_alloc | apply pw_below_drewN | apply below_drew1 | refine below_set ?_ GE219.out | refine below_set ?_ GE220.out) | exact HB.out)⟩⟩
       ·
        replace c44 := Bool.eq_false_iff.mpr c44; subst c44
        have H1 : (laws_FnExactEdBytes.j1 kj8 t245 t244 true) = some r := by rw [if_neg (show ¬ (false = true) by decide)] at H; exact H
        clear H; have H := H1; clear H1
        have H' := Aside0.mk H
        clear H; obtain ⟨Ao47, co47, eo47⟩ := Kd.R_slice HO256.out; subst eo47; obtain ⟨Ao48, co48, eo48⟩ := Kd.R_slice HO_5.out; subst eo48
        go_wp2_with (first | ((with_reducible refine gate_callee (f := 27) rfl ?_); refine goesL_ (some 59) rfl rfl Try.func27 (by kernel_rfl) rfl #[.slice Ao47 t254.length co47, .slice Ao48 t228.length co48] rfl (by (try simp only [List.map_toArray, List.map_cons, List.map_nil]); first | done | rfl | (simp only [List.length_drop, List.length_take]; rfl)) ?_; (with_reducible refine (laws_eqByteS.calls kj8 _ _ t254 _ _ t228 false _ ?side1 ?side2 ?side3 ?side4 A43.out).mono ?_); (case side1 => repeat (first | exact (Kd.R_reads' HO256.out).2.2 | (with_reducible refine Kd.C_alloc ?_ _) | (with_reducible refine Kd.C_drewN ?_ _) | (with_reducible refine Kd.C_drew ?_))); (case side2 => exact (Kd.R_reads' HO256.out).2.1); (case side3 => repeat (first | exact (Kd.R_reads' HO_5.out).2.2 | (with_reducible refine Kd.C_alloc ?_ _) | (with_reducible refine Kd.C_drewN ?_ _) | (with_reducible refine Kd.C_drew ?_))); (case side4 => exact (Kd.R_reads' HO_5.out).2.1); rintro e w' ⟨rfl, ⟨nd, rfl⟩⟩; refine ⟨_, rfl, ?_⟩))
        go_meet
        case rel => exact ⟨_, (true), (by first | rfl | (simp; done) | (simp [*]; done)), H', ⟨by have := HJ8.out; first | omega | exact Nat.le_refl _⟩, ⟨by (with_reducible repeat (first | apply Kd.R_alloc | apply Kd.R_drewN | apply Kd.R_drew)); exact Kd.R_mono HO_7.out (fun _ hk => trivial)⟩, ⟨by (with_reducible repeat (first | refine blk_drewN ?_ _ | refine blk_drew ?_ | refine blk_alloc ?_ _)); exact BK219.out⟩, ⟨by (with_reducible repeat (first | refine blk_drewN ?_ _ | refine blk_drew ?_ | refine blk_alloc ?_ _)); exact BK220.out⟩, ⟨by repeat (first | (with_reducible first | exact HB.out | apply below_alloc | apply pw_below_drewN | apply below_drew1 | refine below_set ?_ GE219.out | refine below_set ?_ GE220.out) | exact HB.out)⟩⟩
      case rest =>
       clear HC36
       try clear c2
       try clear p2
       try clear c3
       try clear c4
       try clear c6
       try clear c21
       try clear c23
       try clear c24
       try clear c25
       try clear c26
       try clear c27
       try clear c28
       try clear c29
       try clear c29b0
       try clear c32
       try clear c32b0
       try clear c32b1
       try clear c44
       try clear p2
       obtain ⟨kq, x65_35, rfl, HA, HJ35, HO_7, BK219, BK220, HB⟩ := hcut; have hl7_35 := (Kd.R_reads' HO_7.out).1
       rw [hl7_35] at HO_7
       (try simp only [hl7_35]); (try simp only [hl7_35] at BK219); (try simp only [hl7_35] at BK220)
       cases kq with
       | zero => exact absurd HA.out (by simp [laws_FnExactEdBytes.j1])
       | succ kj35 =>
        have H := HA.out; clear HA
        simp only [laws_FnExactEdBytes.j1] at H
        by_cases c49 : x65_35 = true
        ·
         subst c49
         have H1 : (some false) = some r := by rw [if_pos rfl] at H; exact H
         clear H; have H := H1; clear H1; obtain rfl := Option.some.inj H
         go_wp2
         go_ret
         exact ⟨by first | rfl | (simp [errW_none, errW_some] <;> rfl) | (simp [*, errW_none, errW_some] <;> rfl), by repeat (first | (with_reducible first | exact HB.out | apply below_alloc | apply pw_below_drewN | apply below_drew1 | refine below_set ?_ GE219.out | refine below_set ?_ GE220.out) | exact HB.out)⟩
        ·
         replace c49 := Bool.eq_false_iff.mpr c49; subst c49
         have H1 : ((laws_heldByteS.f kj35 t245 1).bind fun t259 => (if t259 < 0 then (some false) else (if t259 = t244 then (some true) else (some false)))) = some r := by rw [if_neg (show ¬ (false = true) by decide)] at H; exact H
         clear H; have H := H1; clear H1; replace H := Option.bind_eq_some_iff.mp H; obtain ⟨t259, A500, H⟩ := H
         replace H : (if t259 < 0 then (some false) else (if t259 = t244 then (some true) else (some false))) = some r := H
         have A50 := Aside0.mk A500; clear A500
         by_cases c51 : t259 < 0
         ·
          rw [if_pos c51] at H
          have c51b0 : decide (t259 < 0) = true := decide_eq_true c51
          clear c51; obtain rfl := Option.some.inj H
          go_wp2_with (first | ((with_reducible refine gate_callee (f := 29) rfl ?_); refine goesL_ (some 68) rfl rfl Try.func29 (by kernel_rfl) rfl #[.slice Ao37 t245.length co37, .int .i64 1] rfl (by (try simp only [List.map_toArray, List.map_cons, List.map_nil]); first | done | rfl | (simp only [List.length_drop, List.length_take]; rfl)) ?_; (with_reducible refine (laws_heldByteS.calls kj35 _ _ t245 1 t259 _ ?side1 ?side2 A50.out).mono ?_); (case side1 => repeat (first | exact (Kd.R_reads' HO_7.out).2.2 | (with_reducible refine Kd.C_alloc ?_ _) | (with_reducible refine Kd.C_drewN ?_ _) | (with_reducible refine Kd.C_drew ?_))); (case side2 => exact (Kd.R_reads' HO_7.out).2.1); rintro e w' ⟨rfl, ⟨nd, rfl⟩⟩; refine ⟨_, rfl, ?_⟩))
          go_ret
          exact ⟨by first | rfl | (simp [errW_none, errW_some] <;> rfl) | (simp [*, errW_none, errW_some] <;> rfl), by repeat (first | (with_reducible first | exact HB.out | apply below_alloc | apply pw_below_drewN | apply below_drew1 | refine below_set ?_ GE219.out | refine below_set ?_ GE220.out) | exact HB.out)⟩
         ·
          rw [if_neg c51] at H
          have c51b0 : decide (t259 < 0) = false := decide_eq_false c51
          clear c51
          by_cases c52 : t259 = t244
          ·
           rw [if_pos c52] at H
           have c52b0 : (t259 == t244) = true := beq_iff_eq.mpr c52
           have c52b1 : (t259 != t244) = false := bne_eq_false_iff_eq.mpr c52
           clear c52; obtain rfl := Option.some.inj H
           go_wp2_with (first | ((with_reducible refine gate_callee (f := 29) rfl ?_); refine goesL_ (some 68) rfl rfl Try.func29 (by kernel_rfl) rfl #[.slice Ao37 t245.length co37, .int .i64 1] rfl (by (try simp only [List.map_toArray, List.map_cons, List.map_nil]); first | done | rfl | (simp only [List.length_drop, List.length_take]; rfl)) ?_; (with_reducible refine (laws_heldByteS.calls kj35 _ _ t245 1 t259 _ ?side1 ?side2 A50.out).mono ?_); (case side1 => repeat (first | exact (Kd.R_reads' HO_7.out).2.2 | (with_reducible refine Kd.C_alloc ?_ _) | (with_reducible refine Kd.C_drewN ?_ _) | (with_reducible refine Kd.C_drew ?_))); (case side2 => exact (Kd.R_reads' HO_7.out).2.1); rintro e w' ⟨rfl, ⟨nd, rfl⟩⟩; refine ⟨_, rfl, ?_⟩))
           go_ret
           exact ⟨by first | rfl | (simp [errW_none, errW_some] <;> rfl) | (simp [*, errW_none, errW_some] <;> rfl), by repeat (first | (with_reducible first | exact HB.out | apply below_alloc | apply pw_below_drewN | apply below_drew1 | refine below_set ?_ GE219.out | refine below_set ?_ GE220.out) | exact HB.out)⟩
          ·
           rw [if_neg c52] at H
           have c52b0 : (t259 == t244) = false := beq_eq_false_iff_ne.mpr c52
           have c52b1 : (t259 != t244) = true := bne_iff_ne.mpr c52
           obtain rfl := Option.some.inj H
           go_wp2_with (first | ((with_reducible refine gate_callee (f := 29) rfl ?_); refine goesL_ (some 68) rfl rfl Try.func29 (by kernel_rfl) rfl #[.slice Ao37 t245.length co37, .int .i64 1] rfl (by (try simp only [List.map_toArray, List.map_cons, List.map_nil]); first | done | rfl | (simp only [List.length_drop, List.length_take]; rfl)) ?_; (with_reducible refine (laws_heldByteS.calls kj35 _ _ t245 1 t259 _ ?side1 ?side2 A50.out).mono ?_); (case side1 => repeat (first | exact (Kd.R_reads' HO_7.out).2.2 | (with_reducible refine Kd.C_alloc ?_ _) | (with_reducible refine Kd.C_drewN ?_ _) | (with_reducible refine Kd.C_drew ?_))); (case side2 => exact (Kd.R_reads' HO_7.out).2.1); rintro e w' ⟨rfl, ⟨nd, rfl⟩⟩; refine ⟨_, rfl, ?_⟩))
           go_ret
           exact ⟨by first | rfl | (simp [errW_none, errW_some] <;> rfl) | (simp [*, errW_none, errW_some] <;> rfl), by repeat (first | (with_reducible first | exact HB.out | apply below_alloc | apply pw_below_drewN | apply below_drew1 | refine below_set ?_ GE219.out | refine below_set ?_ GE220.out) | exact HB.out)⟩
     ·
      rw [if_neg c32] at H
      have c32b0 : (t246 == t244) = false := beq_eq_false_iff_ne.mpr c32
      have c32b1 : (t246 != t244) = true := bne_iff_ne.mpr c32
      obtain rfl := Option.some.inj H; obtain ⟨Ao53, co53, eo53⟩ := Kd.R_slice HO_7.out; subst eo53
      go_wp2_with (first | ((with_reducible refine gate_callee (f := 28) rfl ?_); refine goesL_ (some 40) rfl rfl Try.func28 (by kernel_rfl) rfl #[.slice Ao53 t239.length co53, .int .i64 1] rfl (by (try simp only [List.map_toArray, List.map_cons, List.map_nil]); first | done | rfl | (simp only [List.length_drop, List.length_take]; rfl)) ?_; (with_reducible refine (laws_markByteS.calls kj8 (fun k_ => some k_ = (.slice Ao53 t239.length co53 : Value).ownBlock) (.slice Ao53 t239.length co53) t239 1 t244 t245 w _ ?side1 ?side2 A27.out).mono ?_); (case side1 => repeat (first | (with_reducible first | exact HB.out | apply below_alloc | apply pw_below_drewN | apply below_drew1 | refine below_set ?_ GE219.out | refine below_set ?_ GE220.out) | exact HB.out)); (case side2 => exact Kd.R_tight rfl HO_7.out); rintro e w54 ⟨rfl, hy0, hb, hkp⟩; refine ⟨_, rfl, ?_⟩; have n0_ := Aside0.mk (Kd.R_mono (ok' := fun k_ => some k_ ≠ (.slice Ao53 t239.length co53 : Value).ownBlock) (Kd.R_keptB (HO_5.out) hkp (fun k_ hk_ hs_ => (hk_) hs_)) (fun k_ hk_ => hk_.1)); have n1_ := Aside0.mk (Kd.R_reok rfl hy0 (fun k_ e_ => HO_7.out.1 k_ e_)); have n2_ := Aside0.mk (blk_kept (bk_ BK219) hkp (fun hs_ => (fun e_ => (Kd.R_ne HO_7.out BK219.out (by decide)) e_) hs_)); have n3_ := Aside0.mk (blk_kept (bk_ BK220) hkp (fun hs_ => (fun e_ => (Kd.R_ne HO_7.out BK220.out (by decide)) e_) hs_)); have n4_ := Aside0.mk hb; clear HO_5; clear HO_7; clear BK219; clear BK220; clear HB; have HO_5 := n0_; have HO_7 := n1_; have BK219 := n2_; have BK220 := n3_; have HB := n4_; clear n0_ n1_ n2_ n3_ n4_; (try clear hb); (try clear hkp); (try clear hy0)) | ((with_reducible refine gate_callee (f := 29) rfl ?_); refine goesL_ (some 43) rfl rfl Try.func29 (by kernel_rfl) rfl #[.slice Ao53 t245.length co53, .int .i64 1] rfl (by (try simp only [List.map_toArray, List.map_cons, List.map_nil]); first | done | (rw [show t245.length = t239.length from (Kd.R_reads' HO_7.out).1.symm] <;> rfl) | rfl | (simp only [List.length_drop, List.length_take]; rfl)) ?_; (with_reducible refine (laws_heldByteS.calls kj8 _ _ t245 1 t246 _ ?side1 ?side2 A28.out).mono ?_); (case side1 => repeat (first | exact (Kd.R_reads' HO_7.out).2.2 | (with_reducible refine Kd.C_alloc ?_ _) | (with_reducible refine Kd.C_drewN ?_ _) | (with_reducible refine Kd.C_drew ?_))); (case side2 => rw [show t245.length = t239.length from (Kd.R_reads' HO_7.out).1.symm]; exact (Kd.R_reads' HO_7.out).2.1); rintro e w' ⟨rfl, ⟨nd, rfl⟩⟩; refine ⟨_, rfl, ?_⟩))
      go_ret
      exact ⟨by first | rfl | (simp [errW_none, errW_some] <;> rfl) | (simp [*, errW_none, errW_some] <;> rfl), by repeat (first | (with_reducible first | exact HB.out | apply below_alloc | apply pw_below_drewN | apply below_drew1 | refine below_set ?_ GE219.out | refine below_set ?_ GE220.out) | exact HB.out)⟩

/-- THE ONE PURE STATEMENT of laws_FnExactEdBytes: yours. -/
def laws_FnExactEdBytes.Pure : Prop := ∀ (a0_0 : Int) (a0_1 : Int) (a0_2 : Int) (a0_3 : Int) (a0_4 : Int) (a1_0 : Int) (a1_1 : Int), (Lit.int .i64 a0_0).wf = true → (Lit.int .i64 a0_1).wf = true → (Lit.int .i64 a0_2).wf = true → (Lit.int .i64 a0_3).wf = true → (Lit.int .i64 a0_4).wf = true → (Lit.int .i64 a1_0).wf = true → (Lit.int .i64 a1_1).wf = true → ∃ k, laws_FnExactEdBytes.f k a0_0 a0_1 a0_2 a0_3 a0_4 a1_0 a1_1 = some true
theorem laws_FnExactEdBytes.walk (P : laws_FnExactEdBytes.Pure) (a0_0 : Int) (a0_1 : Int) (a0_2 : Int) (a0_3 : Int) (a0_4 : Int) (a1_0 : Int) (a1_1 : Int) (w : World) (w0_0 : (Lit.int .i64 a0_0).wf = true) (w0_1 : (Lit.int .i64 a0_1).wf = true) (w0_2 : (Lit.int .i64 a0_2).wf = true) (w0_3 : (Lit.int .i64 a0_3).wf = true) (w0_4 : (Lit.int .i64 a0_4).wf = true) (w1_0 : (Lit.int .i64 a1_0).wf = true) (w1_1 : (Lit.int .i64 a1_1).wf = true) :
  Calls Try.prog 6 #[.agg #[.int .i64 a0_0, .int .i64 a0_1, .int .i64 a0_2, .int .i64 a0_3, .int .i64 a0_4], .agg #[.int .i64 a1_0, .int .i64 a1_1]] w fun e w' => e = .returned (.bool true) ∧ Below w.heap.size w w' := by
 obtain ⟨k, h⟩ := P a0_0 a0_1 a0_2 a0_3 a0_4 a1_0 a1_1 w0_0 w0_1 w0_2 w0_3 w0_4 w1_0 w1_1; refine (laws_FnExactEdBytes.calls k a0_0 a0_1 a0_2 a0_3 a0_4 a1_0 a1_1 true w h).mono ?_; rintro e w' ⟨rfl, hd⟩; exact ⟨rfl, hd⟩

end Go.Proofs.Ytohplbcbkggjaac.PFnExactEdBytes
