-- Written for this claim by a program of this session.
import Derived.Test.YtohplbcbkggjaabPFnExactPointOkx0
import Derived.Test.YtohplbcbkggjaabPFnExactPointOkx1
import Derived.Test.YtohplbcbkggjaabPFnExactPointOkx5
namespace Go.Proofs.Ytohplbcbkggjaab.PFnExactPointOk
open Go.RowKit Go.Proofs.YtohplbcbkggjaabW.PrintWords Go.Proofs.YtohplbcbkggjaabW.PrintLast Go.Proofs.YtohplbcbkggjaabW.PrintMore
attribute [local go_sem] max2_int min2_int max_two min_two max_three min_three max_four min_four   -- for this text's walks alone
set_option linter.unusedVariables false
set_option linter.unusedSimpArgs false

attribute [local go_sem high] eqA55
attribute [local go_sem] fld_
/-! ### impl_Curve_sum: function 92 -/
mutual
def impl_Curve_sum.j0 : Nat → Int → Int → Int → Int → Int → Int → Int → Int → Bool → Int → Int → Bool → Option (Int × Int × Bool)
  | 0, _, _, _, _, _, _, _, _, _, _, _, _ => none
  | k + 1, x166000, x166001, x166002, x166003, x166004, x166005, x167000, x167001, x167002, x168000, x168001, x168002 => if (x167000 == x168000 && (x167001 == x168001 && (x167002 == x168002))) = true then (impl_Curve_sum.j1 k (wrap64 ((wrap64 ((wrap64 (3 * x167000)) * x167000)) + x166001)) (wrap64 (2 * x167001)) x166000 x166001 x166002 x166003 x166004 x166005 x167000 x167001 x167002 x168000 x168001 x168002) else (impl_Curve_sum.j1 k (wrap64 (x168001 - x167001)) (wrap64 (x168000 - x167000)) x166000 x166001 x166002 x166003 x166004 x166005 x167000 x167001 x167002 x168000 x168001 x168002)
def impl_Curve_sum.j1 : Nat → Int → Int → Int → Int → Int → Int → Int → Int → Int → Int → Bool → Int → Int → Bool → Option (Int × Int × Bool)
  | 0, _, _, _, _, _, _, _, _, _, _, _, _, _, _ => none
  | k + 1, x7, x8, x166000, x166001, x166002, x166003, x166004, x166005, x167000, x167001, x167002, x168000, x168001, x168002 => (impl_InvInt.f k x8 x166000).bind fun bt169 => ((impl_rest.f x7 x166000).bind fun t171 => (if x166000 = 0 then (none) else ((impl_rest.f (wrap64 ((wrap64 ((wrap64 ((Int.tmod (wrap64 (t171 * bt169.1)) x166000) * (Int.tmod (wrap64 (t171 * bt169.1)) x166000))) - x167000)) - x168000)) x166000).bind fun t172 => ((impl_rest.f (wrap64 ((wrap64 ((Int.tmod (wrap64 (t171 * bt169.1)) x166000) * (wrap64 (x167000 - t172)))) - x167001)) x166000).bind fun t173 => (some (t172, t173, false))))))
end
def impl_Curve_sum.f (k : Nat) (a0_0 : Int) (a0_1 : Int) (a0_2 : Int) (a0_3 : Int) (a0_4 : Int) (a0_5 : Int) (a1_0 : Int) (a1_1 : Int) (a1_2 : Bool) (a2_0 : Int) (a2_1 : Int) (a2_2 : Bool) : Option (Int × Int × Bool) := if a1_2 = true then (some (a2_0, a2_1, a2_2)) else (if a2_2 = true then (some (a1_0, a1_1, a1_2)) else (if a1_0 = a2_0 then (if a0_0 = 0 then (none) else (if (Int.tmod (wrap64 (a1_1 + a2_1)) a0_0) = 0 then (some (0, 0, true)) else (impl_Curve_sum.j0 k a0_0 a0_1 a0_2 a0_3 a0_4 a0_5 a1_0 a1_1 a1_2 a2_0 a2_1 a2_2))) else (impl_Curve_sum.j0 k a0_0 a0_1 a0_2 a0_3 a0_4 a0_5 a1_0 a1_1 a1_2 a2_0 a2_1 a2_2)))
theorem impl_Curve_sum.mono_l : ∀ k, (∀ y0 y1 y2 y3 y4 y5 y6 y7 y8 y9 y10 y11, LeO (impl_Curve_sum.j0 k y0 y1 y2 y3 y4 y5 y6 y7 y8 y9 y10 y11) (impl_Curve_sum.j0 (k + 1) y0 y1 y2 y3 y4 y5 y6 y7 y8 y9 y10 y11)) ∧ (∀ y0 y1 y2 y3 y4 y5 y6 y7 y8 y9 y10 y11 y12 y13, LeO (impl_Curve_sum.j1 k y0 y1 y2 y3 y4 y5 y6 y7 y8 y9 y10 y11 y12 y13) (impl_Curve_sum.j1 (k + 1) y0 y1 y2 y3 y4 y5 y6 y7 y8 y9 y10 y11 y12 y13))
 | 0 => ⟨fun _ _ _ _ _ _ _ _ _ _ _ _ r h => by simp [impl_Curve_sum.j0] at h, fun _ _ _ _ _ _ _ _ _ _ _ _ _ _ r h => by simp [impl_Curve_sum.j1] at h⟩
 | k + 1 => by
  obtain ⟨ih0, ih1⟩ := impl_Curve_sum.mono_l k
  refine ⟨?_, ?_⟩
  ·
   intro y0 y1 y2 y3 y4 y5 y6 y7 y8 y9 y10 y11
   unfold impl_Curve_sum.j0
   repeat' first
   | (with_reducible exact ih0 _ _ _ _ _ _ _ _ _ _ _ _)
   | (with_reducible exact ih1 _ _ _ _ _ _ _ _ _ _ _ _ _ _)
   | (with_reducible exact impl_InvInt.mono _ _ _)
   | (with_reducible exact LeO.refl _)
   | (with_reducible exact LeO.none _)
   | (with_reducible refine LeO.ite ?_ ?_)
   | (with_reducible refine LeO.bind ?_ (fun _ => ?_))
   | exact ih0 _ _ _ _ _ _ _ _ _ _ _ _
   | exact ih1 _ _ _ _ _ _ _ _ _ _ _ _ _ _
   | exact impl_InvInt.mono _ _ _
   | exact LeO.none _
   | refine LeO.ite ?_ ?_
   | refine LeO.bind ?_ (fun _ => ?_)
  ·
   intro y0 y1 y2 y3 y4 y5 y6 y7 y8 y9 y10 y11 y12 y13
   unfold impl_Curve_sum.j1
   repeat' first
   | (with_reducible exact ih0 _ _ _ _ _ _ _ _ _ _ _ _)
   | (with_reducible exact ih1 _ _ _ _ _ _ _ _ _ _ _ _ _ _)
   | (with_reducible exact impl_InvInt.mono _ _ _)
   | (with_reducible exact LeO.refl _)
   | (with_reducible exact LeO.none _)
   | (with_reducible refine LeO.ite ?_ ?_)
   | (with_reducible refine LeO.bind ?_ (fun _ => ?_))
   | exact ih0 _ _ _ _ _ _ _ _ _ _ _ _
   | exact ih1 _ _ _ _ _ _ _ _ _ _ _ _ _ _
   | exact impl_InvInt.mono _ _ _
   | exact LeO.none _
   | refine LeO.ite ?_ ?_
   | refine LeO.bind ?_ (fun _ => ?_)
theorem impl_Curve_sum.mono : ∀ a0 a1 a2 a3 a4 a5 a6 a7 a8 a9 a10 a11 k, LeO (impl_Curve_sum.f k a0 a1 a2 a3 a4 a5 a6 a7 a8 a9 a10 a11) (impl_Curve_sum.f (k + 1) a0 a1 a2 a3 a4 a5 a6 a7 a8 a9 a10 a11) := by
 intro a0 a1 a2 a3 a4 a5 a6 a7 a8 a9 a10 a11 k; obtain ⟨ih0, ih1⟩ := impl_Curve_sum.mono_l k
 unfold impl_Curve_sum.f
 repeat' first
   | (with_reducible exact ih0 _ _ _ _ _ _ _ _ _ _ _ _)
   | (with_reducible exact ih1 _ _ _ _ _ _ _ _ _ _ _ _ _ _)
   | (with_reducible exact impl_InvInt.mono _ _ _)
   | (with_reducible exact LeO.refl _)
   | (with_reducible exact LeO.none _)
   | (with_reducible refine LeO.ite ?_ ?_)
   | (with_reducible refine LeO.bind ?_ (fun _ => ?_))
   | exact ih0 _ _ _ _ _ _ _ _ _ _ _ _
   | exact ih1 _ _ _ _ _ _ _ _ _ _ _ _ _ _
   | exact impl_InvInt.mono _ _ _
   | exact LeO.none _
   | refine LeO.ite ?_ ?_
   | refine LeO.bind ?_ (fun _ => ?_)
set_option maxHeartbeats 8000000 in
set_option maxRecDepth 100000 in
theorem impl_Curve_sum.calls (k : Nat) (a0_0 : Int) (a0_1 : Int) (a0_2 : Int) (a0_3 : Int) (a0_4 : Int) (a0_5 : Int) (a1_0 : Int) (a1_1 : Int) (a1_2 : Bool) (a2_0 : Int) (a2_1 : Int) (a2_2 : Bool) (r1 : Int) (r2 : Int) (r3 : Bool) (w : World) (h : impl_Curve_sum.f k a0_0 a0_1 a0_2 a0_3 a0_4 a0_5 a1_0 a1_1 a1_2 a2_0 a2_1 a2_2 = some (r1, r2, r3)) :
  Calls Try.prog 92 #[.agg #[.int .i64 a0_0, .int .i64 a0_1, .int .i64 a0_2, .int .i64 a0_3, .int .i64 a0_4, .int .i64 a0_5], .agg #[.int .i64 a1_0, .int .i64 a1_1, .bool a1_2], .agg #[.int .i64 a2_0, .int .i64 a2_1, .bool a2_2]] w fun e w' => e = .returned (.agg #[.int .i64 r1, .int .i64 r2, .bool r3]) ∧ Below w.heap.size w w' := by
 have hu43 := Try.underlying43; have hu55 := Try.underlying55; have HB := Aside0.mk (Below.refl w.heap.size w)
 have H : (if a1_2 = true then (some (a2_0, a2_1, a2_2)) else (if a2_2 = true then (some (a1_0, a1_1, a1_2)) else (if a1_0 = a2_0 then (if a0_0 = 0 then (none) else (if (Int.tmod (wrap64 (a1_1 + a2_1)) a0_0) = 0 then (some (0, 0, true)) else (impl_Curve_sum.j0 k a0_0 a0_1 a0_2 a0_3 a0_4 a0_5 a1_0 a1_1 a1_2 a2_0 a2_1 a2_2))) else (impl_Curve_sum.j0 k a0_0 a0_1 a0_2 a0_3 a0_4 a0_5 a1_0 a1_1 a1_2 a2_0 a2_1 a2_2)))) = some (r1, r2, r3) := h
 clear h; have HC4 := Aside0.mk H; clear H
 go_enter Try.func92, Try.ntmps92
 go_upto_block 0 with (first | ((with_reducible refine gate_dst (N := 3) rfl ?_); refine box_event ?hg (N := 3) ?hd (cs := #[.int .i64 a0_0, .int .i64 a0_1, .int .i64 a0_2, .int .i64 a0_3, .int .i64 a0_4, .int .i64 a0_5]) (t := 43) ?hr ?_; (case hd => rfl); (case hg => rfl); (case hr => first | (go_simp; done) | (go_simp; rfl)); intro gb165 hg w5 hbox hb; have n0_ := bs_ HB hb; have n1_ := Aside0.mk hbox; have n2_ := ge_ HB hg; have n3_ := ge_ HB hg; clear HB; have HB := n0_; have BK165 := n1_; have GW165 := n2_; have GE165 := n3_; clear n0_ n1_ n2_ n3_; clear hb hbox hg) | ((with_reducible refine gate_dst (N := 4) rfl ?_); refine box_event ?hg (N := 4) ?hd (cs := #[.int .i64 a1_0, .int .i64 a1_1, .bool a1_2]) (t := 55) ?hr ?_; (case hd => rfl); (case hg => rfl); (case hr => first | (go_simp; done) | (go_simp; rfl)); intro gb166 hg w6 hbox hb; have n0_ := bb_ BK165 hb; have n1_ := bs_ HB hb; have n2_ := Aside0.mk hbox; have n3_ := ge_ HB hg; have n4_ := ge_ HB hg; have n5_ := nl_ BK165 hg; have n6_ := nr_ BK165 hg; clear BK165; clear HB; have BK165 := n0_; have HB := n1_; have BK166 := n2_; have GW166 := n3_; have GE166 := n4_; have NB165_166 := n5_; have NB166_165 := n6_; clear n0_ n1_ n2_ n3_ n4_ n5_ n6_; clear hb hbox hg) | ((with_reducible refine gate_dst (N := 5) rfl ?_); refine box_event ?hg (N := 5) ?hd (cs := #[.int .i64 a2_0, .int .i64 a2_1, .bool a2_2]) (t := 55) ?hr ?_; (case hd => rfl); (case hg => rfl); (case hr => first | (go_simp; done) | (go_simp; rfl)); intro gb167 hg w7 hbox hb; have n0_ := bb_ BK165 hb; have n1_ := bb_ BK166 hb; have n2_ := bs_ HB hb; have n3_ := Aside0.mk hbox; have n4_ := ge_ HB hg; have n5_ := ge_ HB hg; have n6_ := nl_ BK165 hg; have n7_ := nr_ BK165 hg; have n8_ := nl_ BK166 hg; have n9_ := nr_ BK166 hg; clear BK165; clear BK166; clear HB; have BK165 := n0_; have BK166 := n1_; have HB := n2_; have BK167 := n3_; have GW167 := n4_; have GE167 := n5_; have NB165_167 := n6_; have NB167_165 := n7_; have NB166_167 := n8_; have NB167_166 := n9_; clear n0_ n1_ n2_ n3_ n4_ n5_ n6_ n7_ n8_ n9_; clear hb hbox hg) | ((with_reducible refine gate_dst (N := 6) rfl ?_); refine box_event ?hg (N := 6) ?hd (cs := #[.int .i64 0, .int .i64 0, .bool false]) (t := 55) ?hr ?_; (case hd => rfl); (case hg => rfl); (case hr => first | (go_simp; done) | (go_simp; rfl)); intro gb168 hg w8 hbox hb; have n0_ := bb_ BK165 hb; have n1_ := bb_ BK166 hb; have n2_ := bb_ BK167 hb; have n3_ := bs_ HB hb; have n4_ := Aside0.mk hbox; have n5_ := ge_ HB hg; have n6_ := ge_ HB hg; have n7_ := nl_ BK165 hg; have n8_ := nr_ BK165 hg; have n9_ := nl_ BK166 hg; have n10_ := nr_ BK166 hg; have n11_ := nl_ BK167 hg; have n12_ := nr_ BK167 hg; clear BK165; clear BK166; clear BK167; clear HB; have BK165 := n0_; have BK166 := n1_; have BK167 := n2_; have HB := n3_; have BK168 := n4_; have GW168 := n5_; have GE168 := n6_; have NB165_168 := n7_; have NB168_165 := n8_; have NB166_168 := n9_; have NB168_166 := n10_; have NB167_168 := n11_; have NB168_167 := n12_; clear n0_ n1_ n2_ n3_ n4_ n5_ n6_ n7_ n8_ n9_ n10_ n11_ n12_; clear hb hbox hg))
 repeat (go_quiet (first | ((with_reducible refine gate_dst (N := 3) rfl ?_); refine box_event ?hg (N := 3) ?hd (cs := #[.int .i64 a0_0, .int .i64 a0_1, .int .i64 a0_2, .int .i64 a0_3, .int .i64 a0_4, .int .i64 a0_5]) (t := 43) ?hr ?_; (case hd => rfl); (case hg => rfl); (case hr => first | (go_simp; done) | (go_simp; rfl)); intro gb165 hg w5 hbox hb; have n0_ := bs_ HB hb; have n1_ := Aside0.mk hbox; have n2_ := ge_ HB hg; have n3_ := ge_ HB hg; clear HB; have HB := n0_; have BK165 := n1_; have GW165 := n2_; have GE165 := n3_; clear n0_ n1_ n2_ n3_; clear hb hbox hg) | ((with_reducible refine gate_dst (N := 4) rfl ?_); refine box_event ?hg (N := 4) ?hd (cs := #[.int .i64 a1_0, .int .i64 a1_1, .bool a1_2]) (t := 55) ?hr ?_; (case hd => rfl); (case hg => rfl); (case hr => first | (go_simp; done) | (go_simp; rfl)); intro gb166 hg w6 hbox hb; have n0_ := bb_ BK165 hb; have n1_ := bs_ HB hb; have n2_ := Aside0.mk hbox; have n3_ := ge_ HB hg; have n4_ := ge_ HB hg; have n5_ := nl_ BK165 hg; have n6_ := nr_ BK165 hg; clear BK165; clear HB; have BK165 := n0_; have HB := n1_; have BK166 := n2_; have GW166 := n3_; have GE166 := n4_; have NB165_166 := n5_; have NB166_165 := n6_; clear n0_ n1_ n2_ n3_ n4_ n5_ n6_; clear hb hbox hg) | ((with_reducible refine gate_dst (N := 5) rfl ?_); refine box_event ?hg (N := 5) ?hd (cs := #[.int .i64 a2_0, .int .i64 a2_1, .bool a2_2]) (t := 55) ?hr ?_; (case hd => rfl); (case hg => rfl); (case hr => first | (go_simp; done) | (go_simp; rfl)); intro gb167 hg w7 hbox hb; have n0_ := bb_ BK165 hb; have n1_ := bb_ BK166 hb; have n2_ := bs_ HB hb; have n3_ := Aside0.mk hbox; have n4_ := ge_ HB hg; have n5_ := ge_ HB hg; have n6_ := nl_ BK165 hg; have n7_ := nr_ BK165 hg; have n8_ := nl_ BK166 hg; have n9_ := nr_ BK166 hg; clear BK165; clear BK166; clear HB; have BK165 := n0_; have BK166 := n1_; have HB := n2_; have BK167 := n3_; have GW167 := n4_; have GE167 := n5_; have NB165_167 := n6_; have NB167_165 := n7_; have NB166_167 := n8_; have NB167_166 := n9_; clear n0_ n1_ n2_ n3_ n4_ n5_ n6_ n7_ n8_ n9_; clear hb hbox hg) | ((with_reducible refine gate_dst (N := 6) rfl ?_); refine box_event ?hg (N := 6) ?hd (cs := #[.int .i64 0, .int .i64 0, .bool false]) (t := 55) ?hr ?_; (case hd => rfl); (case hg => rfl); (case hr => first | (go_simp; done) | (go_simp; rfl)); intro gb168 hg w8 hbox hb; have n0_ := bb_ BK165 hb; have n1_ := bb_ BK166 hb; have n2_ := bb_ BK167 hb; have n3_ := bs_ HB hb; have n4_ := Aside0.mk hbox; have n5_ := ge_ HB hg; have n6_ := ge_ HB hg; have n7_ := nl_ BK165 hg; have n8_ := nr_ BK165 hg; have n9_ := nl_ BK166 hg; have n10_ := nr_ BK166 hg; have n11_ := nl_ BK167 hg; have n12_ := nr_ BK167 hg; clear BK165; clear BK166; clear BK167; clear HB; have BK165 := n0_; have BK166 := n1_; have BK167 := n2_; have HB := n3_; have BK168 := n4_; have GW168 := n5_; have GE168 := n6_; have NB165_168 := n7_; have NB168_165 := n8_; have NB166_168 := n9_; have NB168_166 := n10_; have NB167_168 := n11_; have NB168_167 := n12_; clear n0_ n1_ n2_ n3_ n4_ n5_ n6_ n7_ n8_ n9_ n10_ n11_ n12_; clear hb hbox hg)); go_upto_block 0 with (first | ((with_reducible refine gate_dst (N := 3) rfl ?_); refine box_event ?hg (N := 3) ?hd (cs := #[.int .i64 a0_0, .int .i64 a0_1, .int .i64 a0_2, .int .i64 a0_3, .int .i64 a0_4, .int .i64 a0_5]) (t := 43) ?hr ?_; (case hd => rfl); (case hg => rfl); (case hr => first | (go_simp; done) | (go_simp; rfl)); intro gb165 hg w5 hbox hb; have n0_ := bs_ HB hb; have n1_ := Aside0.mk hbox; have n2_ := ge_ HB hg; have n3_ := ge_ HB hg; clear HB; have HB := n0_; have BK165 := n1_; have GW165 := n2_; have GE165 := n3_; clear n0_ n1_ n2_ n3_; clear hb hbox hg) | ((with_reducible refine gate_dst (N := 4) rfl ?_); refine box_event ?hg (N := 4) ?hd (cs := #[.int .i64 a1_0, .int .i64 a1_1, .bool a1_2]) (t := 55) ?hr ?_; (case hd => rfl); (case hg => rfl); (case hr => first | (go_simp; done) | (go_simp; rfl)); intro gb166 hg w6 hbox hb; have n0_ := bb_ BK165 hb; have n1_ := bs_ HB hb; have n2_ := Aside0.mk hbox; have n3_ := ge_ HB hg; have n4_ := ge_ HB hg; have n5_ := nl_ BK165 hg; have n6_ := nr_ BK165 hg; clear BK165; clear HB; have BK165 := n0_; have HB := n1_; have BK166 := n2_; have GW166 := n3_; have GE166 := n4_; have NB165_166 := n5_; have NB166_165 := n6_; clear n0_ n1_ n2_ n3_ n4_ n5_ n6_; clear hb hbox hg) | ((with_reducible refine gate_dst (N := 5) rfl ?_); refine box_event ?hg (N := 5) ?hd (cs := #[.int .i64 a2_0, .int .i64 a2_1, .bool a2_2]) (t := 55) ?hr ?_; (case hd => rfl); (case hg => rfl); (case hr => first | (go_simp; done) | (go_simp; rfl)); intro gb167 hg w7 hbox hb; have n0_ := bb_ BK165 hb; have n1_ := bb_ BK166 hb; have n2_ := bs_ HB hb; have n3_ := Aside0.mk hbox; have n4_ := ge_ HB hg; have n5_ := ge_ HB hg; have n6_ := nl_ BK165 hg; have n7_ := nr_ BK165 hg; have n8_ := nl_ BK166 hg; have n9_ := nr_ BK166 hg; clear BK165; clear BK166; clear HB; have BK165 := n0_; have BK166 := n1_; have HB := n2_; have BK167 := n3_; have GW167 := n4_; have GE167 := n5_; have NB165_167 := n6_; have NB167_165 := n7_; have NB166_167 := n8_; have NB167_166 := n9_; clear n0_ n1_ n2_ n3_ n4_ n5_ n6_ n7_ n8_ n9_; clear hb hbox hg) | ((with_reducible refine gate_dst (N := 6) rfl ?_); refine box_event ?hg (N := 6) ?hd (cs := #[.int .i64 0, .int .i64 0, .bool false]) (t := 55) ?hr ?_; (case hd => rfl); (case hg => rfl); (case hr => first | (go_simp; done) | (go_simp; rfl)); intro gb168 hg w8 hbox hb; have n0_ := bb_ BK165 hb; have n1_ := bb_ BK166 hb; have n2_ := bb_ BK167 hb; have n3_ := bs_ HB hb; have n4_ := Aside0.mk hbox; have n5_ := ge_ HB hg; have n6_ := ge_ HB hg; have n7_ := nl_ BK165 hg; have n8_ := nr_ BK165 hg; have n9_ := nl_ BK166 hg; have n10_ := nr_ BK166 hg; have n11_ := nl_ BK167 hg; have n12_ := nr_ BK167 hg; clear BK165; clear BK166; clear BK167; clear HB; have BK165 := n0_; have BK166 := n1_; have BK167 := n2_; have HB := n3_; have BK168 := n4_; have GW168 := n5_; have GE168 := n6_; have NB165_168 := n7_; have NB168_165 := n8_; have NB166_168 := n9_; have NB168_166 := n10_; have NB167_168 := n11_; have NB168_167 := n12_; clear n0_ n1_ n2_ n3_ n4_ n5_ n6_ n7_ n8_ n9_ n10_ n11_ n12_; clear hb hbox hg)))
 (try simp only [Act.put, sA_, sZ_, sS_])
 go_cut [] (fun wc => ∃ (kq : Nat) (x169000_3 : Int) (x169001_3 : Int) (x169002_3 : Bool), Aside0 (impl_Curve_sum.j0 kq a0_0 a0_1 a0_2 a0_3 a0_4 a0_5 a1_0 a1_1 a1_2 a2_0 a2_1 a2_2 = some (r1, r2, r3)) ∧ Aside0 (kq ≤ k) ∧ Aside0 (wc.heap[gb165]? = some (.cells #[.int .i64 a0_0, .int .i64 a0_1, .int .i64 a0_2, .int .i64 a0_3, .int .i64 a0_4, .int .i64 a0_5] 43 (0, 0))) ∧ Aside0 (wc.heap[gb166]? = some (.cells #[.int .i64 a1_0, .int .i64 a1_1, .bool a1_2] 55 (0, 0))) ∧ Aside0 (wc.heap[gb167]? = some (.cells #[.int .i64 a2_0, .int .i64 a2_1, .bool a2_2] 55 (0, 0))) ∧ Aside0 (wc.heap[gb168]? = some (.cells #[.int .i64 x169000_3, .int .i64 x169001_3, .bool x169002_3] 55 (0, 0))) ∧ Aside0 (Below w.heap.size w wc))
 case first =>
  have H := HC4.out; clear HC4
  by_cases c9 : a1_2 = true
  ·
   subst c9
   have H1 : (some (a2_0, a2_1, a2_2)) = some (r1, r2, r3) := by rw [if_pos rfl] at H; exact H
   clear H; have H := H1; clear H1
   simp only [Option.some.injEq, Prod.mk.injEq] at H
   obtain ⟨rfl, rfl, rfl⟩ := H; have hnb10 := NB166_165.out; have hnc10 := NB165_166.out; have hnb11 := NB166_167.out; have hnc11 := NB167_166.out; have hnb12 := NB166_168.out; have hnc12 := NB168_166.out
   have hcz13_0 : w8.cell? ⟨gb166, 0, none⟩ = some (.int .i64 a1_0) := bc_ BK166 0
   have hcz13_1 : w8.cell? ⟨gb166, 1, none⟩ = some (.int .i64 a1_1) := bc_ BK166 1
   have hcz13_2 : w8.cell? ⟨gb166, 2, none⟩ = some (.bool true) := bc_ BK166 2
   have hfz13_0 := blk_frozen BK166.out 0; have hfz13_1 := blk_frozen BK166.out 1; have hfz13_2 := blk_frozen BK166.out 2; have hnb14 := NB167_165.out; have hnc14 := NB165_167.out; have hnb15 := NB167_168.out; have hnc15 := NB168_167.out
   have hcz16_0 : w8.cell? ⟨gb167, 0, none⟩ = some (.int .i64 a2_0) := bc_ BK167 0
   have hcz16_1 : w8.cell? ⟨gb167, 1, none⟩ = some (.int .i64 a2_1) := bc_ BK167 1
   have hcz16_2 : w8.cell? ⟨gb167, 2, none⟩ = some (.bool a2_2) := bc_ BK167 2
   have hfz16_0 := blk_frozen BK167.out 0; have hfz16_1 := blk_frozen BK167.out 1; have hfz16_2 := blk_frozen BK167.out 2; have hnb17 := NB168_165.out; have hnc17 := NB165_168.out
   have hcz18_0 : w8.cell? ⟨gb168, 0, none⟩ = some (.int .i64 0) := bc_ BK168 0
   have hcz18_1 : w8.cell? ⟨gb168, 1, none⟩ = some (.int .i64 0) := bc_ BK168 1
   have hcz18_2 : w8.cell? ⟨gb168, 2, none⟩ = some (.bool false) := bc_ BK168 2
   have hfz18_0 := blk_frozen BK168.out 0; have hfz18_1 := blk_frozen BK168.out 1; have hfz18_2 := blk_frozen BK168.out 2
   go_wp2
   repeat (go_quiet (fail); try go_wp2)
   refine bodyPost_ret (results_cell_row rfl _ _ gb168 55 #[.int .i64 a2_0, .int .i64 a2_1, .bool a2_2] (0, 0) _ rfl (by (with_reducible repeat (first | refine blk_drewN ?_ _ | refine blk_drew ?_ | refine blk_alloc ?_ _)); refine blk_put (cs := #[.int .i64 a2_0, .int .i64 a2_1, .bool false]) ?_ 2 _ rfl; (with_reducible repeat (first | refine blk_drewN ?_ _ | refine blk_drew ?_ | refine blk_alloc ?_ _)); refine blk_put (cs := #[.int .i64 a2_0, .int .i64 0, .bool false]) ?_ 1 _ rfl; (with_reducible repeat (first | refine blk_drewN ?_ _ | refine blk_drew ?_ | refine blk_alloc ?_ _)); refine blk_put (cs := #[.int .i64 0, .int .i64 0, .bool false]) ?_ 0 _ rfl; (with_reducible repeat (first | refine blk_drewN ?_ _ | refine blk_drew ?_ | refine blk_alloc ?_ _)); exact BK168.out) Try.underlying55 rfl (by kernel_rfl)) rfl ?_; exact ⟨by first | rfl | (simp [errW_none, errW_some] <;> rfl) | (simp [*, errW_none, errW_some] <;> rfl), by repeat (first | (with_reducible first | exact HB.out | apply below_alloc | apply pw_below_drewN | apply below_drew1 | refine below_set ?_ GE165.out | refine below_set ?_ GE166.out | refine below_set ?_ GE167.out | refine below_set ?_ GE168.out) | exact HB.out)⟩
  ·
   replace c9 := Bool.eq_false_iff.mpr c9; subst c9
   have H1 : (if a2_2 = true then (some (a1_0, a1_1, false)) else (if a1_0 = a2_0 then (if a0_0 = 0 then (none) else (if (Int.tmod (wrap64 (a1_1 + a2_1)) a0_0) = 0 then (some (0, 0, true)) else (impl_Curve_sum.j0 k a0_0 a0_1 a0_2 a0_3 a0_4 a0_5 a1_0 a1_1 false a2_0 a2_1 a2_2))) else (impl_Curve_sum.j0 k a0_0 a0_1 a0_2 a0_3 a0_4 a0_5 a1_0 a1_1 false a2_0 a2_1 a2_2))) = some (r1, r2, r3) := by rw [if_neg (show ¬ (false = true) by decide)] at H; exact H
   clear H; have H := H1; clear H1
   by_cases c19 : a2_2 = true
   ·
    subst c19
    have H1 : (some (a1_0, a1_1, false)) = some (r1, r2, r3) := by rw [if_pos rfl] at H; exact H
    clear H; have H := H1; clear H1
    simp only [Option.some.injEq, Prod.mk.injEq] at H
    obtain ⟨rfl, rfl, rfl⟩ := H; have hnb20 := NB166_165.out; have hnc20 := NB165_166.out; have hnb21 := NB166_167.out; have hnc21 := NB167_166.out; have hnb22 := NB166_168.out; have hnc22 := NB168_166.out
    have hcz23_0 : w8.cell? ⟨gb166, 0, none⟩ = some (.int .i64 a1_0) := bc_ BK166 0
    have hcz23_1 : w8.cell? ⟨gb166, 1, none⟩ = some (.int .i64 a1_1) := bc_ BK166 1
    have hcz23_2 : w8.cell? ⟨gb166, 2, none⟩ = some (.bool false) := bc_ BK166 2
    have hfz23_0 := blk_frozen BK166.out 0; have hfz23_1 := blk_frozen BK166.out 1; have hfz23_2 := blk_frozen BK166.out 2; have hnb24 := NB167_165.out; have hnc24 := NB165_167.out; have hnb25 := NB167_168.out; have hnc25 := NB168_167.out
    have hcz26_0 : w8.cell? ⟨gb167, 0, none⟩ = some (.int .i64 a2_0) := bc_ BK167 0
    have hcz26_1 : w8.cell? ⟨gb167, 1, none⟩ = some (.int .i64 a2_1) := bc_ BK167 1
    have hcz26_2 : w8.cell? ⟨gb167, 2, none⟩ = some (.bool true) := bc_ BK167 2
    have hfz26_0 := blk_frozen BK167.out 0; have hfz26_1 := blk_frozen BK167.out 1; have hfz26_2 := blk_frozen BK167.out 2; have hnb27 := NB168_165.out; have hnc27 := NB165_168.out
    have hcz28_0 : w8.cell? ⟨gb168, 0, none⟩ = some (.int .i64 0) := bc_ BK168 0
    have hcz28_1 : w8.cell? ⟨gb168, 1, none⟩ = some (.int .i64 0) := bc_ BK168 1
    have hcz28_2 : w8.cell? ⟨gb168, 2, none⟩ = some (.bool false) := bc_ BK168 2
    have hfz28_0 := blk_frozen BK168.out 0; have hfz28_1 := blk_frozen BK168.out 1; have hfz28_2 := blk_frozen BK168.out 2
    go_wp2
    repeat (go_quiet (fail); try go_wp2)
    refine bodyPost_ret (results_cell_row rfl _ _ gb168 55 #[.int .i64 a1_0, .int .i64 a1_1, .bool false] (0, 0) _ rfl (by (with_reducible repeat (first | refine blk_drewN ?_ _ | refine blk_drew ?_ | refine blk_alloc ?_ _)); refine blk_put (cs := #[.int .i64 a1_0, .int .i64 a1_1, .bool false]) ?_ 2 _ rfl; (with_reducible repeat (first | refine blk_drewN ?_ _ | refine blk_drew ?_ | refine blk_alloc ?_ _)); refine blk_put (cs := #[.int .i64 a1_0, .int .i64 0, .bool false]) ?_ 1 _ rfl; (with_reducible repeat (first | refine blk_drewN ?_ _ | refine blk_drew ?_ | refine blk_alloc ?_ _)); refine blk_put (cs := #[.int .i64 0, .int .i64 0, .bool false]) ?_ 0 _ rfl; (with_reducible repeat (first | refine blk_drewN ?_ _ | refine blk_drew ?_ | refine blk_alloc ?_ _)); exact BK168.out) Try.underlying55 rfl (by kernel_rfl)) rfl ?_; exact ⟨by first | rfl | (simp [errW_none, errW_some] <;> rfl) | (simp [*, errW_none, errW_some] <;> rfl), by repeat (first | (with_reducible first | exact HB.out | apply below_alloc | apply pw_below_drewN | apply below_drew1 | refine below_set ?_ GE165.out | refine below_set ?_ GE166.out | refine below_set ?_ GE167.out | refine below_set ?_ GE168.out) | exact HB.out)⟩
   ·
    replace c19 := Bool.eq_false_iff.mpr c19; subst c19
    have H1 : (if a1_0 = a2_0 then (if a0_0 = 0 then (none) else (if (Int.tmod (wrap64 (a1_1 + a2_1)) a0_0) = 0 then (some (0, 0, true)) else (impl_Curve_sum.j0 k a0_0 a0_1 a0_2 a0_3 a0_4 a0_5 a1_0 a1_1 false a2_0 a2_1 false))) else (impl_Curve_sum.j0 k a0_0 a0_1 a0_2 a0_3 a0_4 a0_5 a1_0 a1_1 false a2_0 a2_1 false)) = some (r1, r2, r3) := by rw [if_neg (show ¬ (false = true) by decide)] at H; exact H
    clear H; have H := H1; clear H1
    by_cases c29 : a1_0 = a2_0
    ·
     rw [if_pos c29] at H
     have c29b0 : (a1_0 == a2_0) = true := beq_iff_eq.mpr c29
     have c29b1 : (a1_0 != a2_0) = false := bne_eq_false_iff_eq.mpr c29
     clear c29
     (first | rw [c29b0] | (simp only [i64_w, i32_w]; rw [c29b0]) | skip)
     by_cases c30 : a0_0 = 0
     · rw [if_pos c30] at H; exact absurd H (by simp)
     ·
      rw [if_neg c30] at H
      have c30b0 : (a0_0 == 0) = false := beq_eq_false_iff_ne.mpr c30
      have c30b1 : (a0_0 != 0) = true := bne_iff_ne.mpr c30
      by_cases c31 : (Int.tmod (wrap64 (a1_1 + a2_1)) a0_0) = 0
      ·
       rw [if_pos c31] at H
       have c31b0 : ((Int.tmod (wrap64 (a1_1 + a2_1)) a0_0) == 0) = true := beq_iff_eq.mpr c31
       have c31b1 : ((Int.tmod (wrap64 (a1_1 + a2_1)) a0_0) != 0) = false := bne_eq_false_iff_eq.mpr c31
       clear c31
       simp only [Option.some.injEq, Prod.mk.injEq] at H
       obtain ⟨rfl, rfl, rfl⟩ := H; have hnb32 := NB166_165.out; have hnc32 := NB165_166.out; have hnb33 := NB166_167.out; have hnc33 := NB167_166.out; have hnb34 := NB166_168.out; have hnc34 := NB168_166.out
       have hcz35_0 : w8.cell? ⟨gb166, 0, none⟩ = some (.int .i64 a1_0) := bc_ BK166 0
       have hcz35_1 : w8.cell? ⟨gb166, 1, none⟩ = some (.int .i64 a1_1) := bc_ BK166 1
       have hcz35_2 : w8.cell? ⟨gb166, 2, none⟩ = some (.bool false) := bc_ BK166 2
       have hfz35_0 := blk_frozen BK166.out 0; have hfz35_1 := blk_frozen BK166.out 1; have hfz35_2 := blk_frozen BK166.out 2; have hnb36 := NB167_165.out; have hnc36 := NB165_167.out; have hnb37 := NB167_168.out; have hnc37 := NB168_167.out
       have hcz38_0 : w8.cell? ⟨gb167, 0, none⟩ = some (.int .i64 a2_0) := bc_ BK167 0
       have hcz38_1 : w8.cell? ⟨gb167, 1, none⟩ = some (.int .i64 a2_1) := bc_ BK167 1
       have hcz38_2 : w8.cell? ⟨gb167, 2, none⟩ = some (.bool false) := bc_ BK167 2
       have hfz38_0 := blk_frozen BK167.out 0; have hfz38_1 := blk_frozen BK167.out 1; have hfz38_2 := blk_frozen BK167.out 2; have hnb39 := NB165_168.out; have hnc39 := NB168_165.out
       have hcz40_0 : w8.cell? ⟨gb165, 0, none⟩ = some (.int .i64 a0_0) := bc_ BK165 0
       have hcz40_1 : w8.cell? ⟨gb165, 1, none⟩ = some (.int .i64 a0_1) := bc_ BK165 1
       have hcz40_2 : w8.cell? ⟨gb165, 2, none⟩ = some (.int .i64 a0_2) := bc_ BK165 2
       have hcz40_3 : w8.cell? ⟨gb165, 3, none⟩ = some (.int .i64 a0_3) := bc_ BK165 3
       have hcz40_4 : w8.cell? ⟨gb165, 4, none⟩ = some (.int .i64 a0_4) := bc_ BK165 4
       have hcz40_5 : w8.cell? ⟨gb165, 5, none⟩ = some (.int .i64 a0_5) := bc_ BK165 5
       have hfz40_0 := blk_frozen BK165.out 0; have hfz40_1 := blk_frozen BK165.out 1; have hfz40_2 := blk_frozen BK165.out 2; have hfz40_3 := blk_frozen BK165.out 3; have hfz40_4 := blk_frozen BK165.out 4; have hfz40_5 := blk_frozen BK165.out 5
       have hcz41_0 : w8.cell? ⟨gb168, 0, none⟩ = some (.int .i64 0) := bc_ BK168 0
       have hcz41_1 : w8.cell? ⟨gb168, 1, none⟩ = some (.int .i64 0) := bc_ BK168 1
       have hcz41_2 : w8.cell? ⟨gb168, 2, none⟩ = some (.bool false) := bc_ BK168 2
       have hfz41_0 := blk_frozen BK168.out 0; have hfz41_1 := blk_frozen BK168.out 1; have hfz41_2 := blk_frozen BK168.out 2
       go_wp2
       repeat (go_quiet (fail); try go_wp2)
       refine bodyPost_ret (results_cell_row rfl _ _ gb168 55 #[.int .i64 0, .int .i64 0, .bool true] (0, 0) _ rfl (by (with_reducible repeat (first | refine blk_drewN ?_ _ | refine blk_drew ?_ | refine blk_alloc ?_ _)); refine blk_put (cs := #[.int .i64 0, .int .i64 0, .bool false]) ?_ 2 _ rfl; (with_reducible repeat (first | refine blk_drewN ?_ _ | refine blk_drew ?_ | refine blk_alloc ?_ _)); refine blk_put (cs := #[.int .i64 0, .int .i64 0, .bool false]) ?_ 1 _ rfl; (with_reducible repeat (first | refine blk_drewN ?_ _ | refine blk_drew ?_ | refine blk_alloc ?_ _)); refine blk_put (cs := #[.int .i64 0, .int .i64 0, .bool false]) ?_ 0 _ rfl; (with_reducible repeat (first | refine blk_drewN ?_ _ | refine blk_drew ?_ | refine blk_alloc ?_ _)); exact BK168.out) Try.underlying55 rfl (by kernel_rfl)) rfl ?_; exact ⟨by first | rfl | (simp [errW_none, errW_some] <;> rfl) | (simp [*, errW_none, errW_some] <;> rfl), by repeat (first | (with_reducible first | exact HB.out | apply below_alloc | apply pw_below_drewN | apply below_drew1 | refine below_set ?_ GE165.out | refine below_set ?_ GE166.out | refine below_set ?_ GE167.out | refine below_set ?_ GE168.out) | exact HB.out)⟩
      ·
       rw [if_neg c31] at H
       have c31b0 : ((Int.tmod (wrap64 (a1_1 + a2_1)) a0_0) == 0) = false := beq_eq_false_iff_ne.mpr c31
       have c31b1 : ((Int.tmod (wrap64 (a1_1 + a2_1)) a0_0) != 0) = true := bne_iff_ne.mpr c31
       have H' := Aside0.mk H
       clear H; have hnb42 := NB166_165.out; have hnc42 := NB165_166.out; have hnb43 := NB166_167.out; have hnc43 := NB167_166.out; have hnb44 := NB166_168.out; have hnc44 := NB168_166.out
       have hcz45_0 : w8.cell? ⟨gb166, 0, none⟩ = some (.int .i64 a1_0) := bc_ BK166 0
       have hcz45_1 : w8.cell? ⟨gb166, 1, none⟩ = some (.int .i64 a1_1) := bc_ BK166 1
       have hcz45_2 : w8.cell? ⟨gb166, 2, none⟩ = some (.bool false) := bc_ BK166 2
       have hfz45_0 := blk_frozen BK166.out 0; have hfz45_1 := blk_frozen BK166.out 1; have hfz45_2 := blk_frozen BK166.out 2; have hnb46 := NB167_165.out; have hnc46 := NB165_167.out; have hnb47 := NB167_168.out; have hnc47 := NB168_167.out
       have hcz48_0 : w8.cell? ⟨gb167, 0, none⟩ = some (.int .i64 a2_0) := bc_ BK167 0
       have hcz48_1 : w8.cell? ⟨gb167, 1, none⟩ = some (.int .i64 a2_1) := bc_ BK167 1
       have hcz48_2 : w8.cell? ⟨gb167, 2, none⟩ = some (.bool false) := bc_ BK167 2
       have hfz48_0 := blk_frozen BK167.out 0; have hfz48_1 := blk_frozen BK167.out 1; have hfz48_2 := blk_frozen BK167.out 2; have hnb49 := NB165_168.out; have hnc49 := NB168_165.out
       have hcz50_0 : w8.cell? ⟨gb165, 0, none⟩ = some (.int .i64 a0_0) := bc_ BK165 0
       have hcz50_1 : w8.cell? ⟨gb165, 1, none⟩ = some (.int .i64 a0_1) := bc_ BK165 1
       have hcz50_2 : w8.cell? ⟨gb165, 2, none⟩ = some (.int .i64 a0_2) := bc_ BK165 2
       have hcz50_3 : w8.cell? ⟨gb165, 3, none⟩ = some (.int .i64 a0_3) := bc_ BK165 3
       have hcz50_4 : w8.cell? ⟨gb165, 4, none⟩ = some (.int .i64 a0_4) := bc_ BK165 4
       have hcz50_5 : w8.cell? ⟨gb165, 5, none⟩ = some (.int .i64 a0_5) := bc_ BK165 5
       have hfz50_0 := blk_frozen BK165.out 0; have hfz50_1 := blk_frozen BK165.out 1; have hfz50_2 := blk_frozen BK165.out 2; have hfz50_3 := blk_frozen BK165.out 3; have hfz50_4 := blk_frozen BK165.out 4; have hfz50_5 := blk_frozen BK165.out 5
       go_wp2
       repeat (go_quiet (fail); try go_wp2)
       go_meet
       case rel => exact ⟨_, (0), (0), (false), H', ⟨by first | omega | exact Nat.le_refl _⟩, ⟨by (with_reducible repeat (first | refine blk_drewN ?_ _ | refine blk_drew ?_ | refine blk_alloc ?_ _)); exact BK165.out⟩, ⟨by (with_reducible repeat (first | refine blk_drewN ?_ _ | refine blk_drew ?_ | refine blk_alloc ?_ _)); exact BK166.out⟩, ⟨by (with_reducible repeat (first | refine blk_drewN ?_ _ | refine blk_drew ?_ | refine blk_alloc ?_ _)); exact BK167.out⟩, ⟨by (with_reducible repeat (first | refine blk_drewN ?_ _ | refine blk_drew ?_ | refine blk_alloc ?_ _)); exact BK168.out⟩, ⟨by repeat (first | (with_reducible first | exact HB.out | apply below_alloc | apply pw_below_drewN | apply below_drew1 | refine below_set ?_ GE165.out | refine below_set ?_ GE166.out | refine below_set ?_ GE167.out | refine below_set ?_ GE168.out) | exact HB.out)⟩⟩
    ·
     rw [if_neg c29] at H
     have c29b0 : (a1_0 == a2_0) = false := beq_eq_false_iff_ne.mpr c29
     have c29b1 : (a1_0 != a2_0) = true := bne_iff_ne.mpr c29
     (first | rw [c29b0] | (simp only [i64_w, i32_w]; rw [c29b0]) | skip)
     have H' := Aside0.mk H
     clear H; have hnb51 := NB166_165.out; have hnc51 := NB165_166.out; have hnb52 := NB166_167.out; have hnc52 := NB167_166.out; have hnb53 := NB166_168.out; have hnc53 := NB168_166.out
     have hcz54_0 : w8.cell? ⟨gb166, 0, none⟩ = some (.int .i64 a1_0) := bc_ BK166 0
     have hcz54_1 : w8.cell? ⟨gb166, 1, none⟩ = some (.int .i64 a1_1) := bc_ BK166 1
     have hcz54_2 : w8.cell? ⟨gb166, 2, none⟩ = some (.bool false) := bc_ BK166 2
     have hfz54_0 := blk_frozen BK166.out 0; have hfz54_1 := blk_frozen BK166.out 1; have hfz54_2 := blk_frozen BK166.out 2; have hnb55 := NB167_165.out; have hnc55 := NB165_167.out; have hnb56 := NB167_168.out; have hnc56 := NB168_167.out
     have hcz57_0 : w8.cell? ⟨gb167, 0, none⟩ = some (.int .i64 a2_0) := bc_ BK167 0
     have hcz57_1 : w8.cell? ⟨gb167, 1, none⟩ = some (.int .i64 a2_1) := bc_ BK167 1
     have hcz57_2 : w8.cell? ⟨gb167, 2, none⟩ = some (.bool false) := bc_ BK167 2
     have hfz57_0 := blk_frozen BK167.out 0; have hfz57_1 := blk_frozen BK167.out 1; have hfz57_2 := blk_frozen BK167.out 2
     go_wp2
     repeat (go_quiet (fail); try go_wp2)
     go_meet
     case rel => exact ⟨_, (0), (0), (false), H', ⟨by first | omega | exact Nat.le_refl _⟩, ⟨by (with_reducible repeat (first | refine blk_drewN ?_ _ | refine blk_drew ?_ | refine blk_alloc ?_ _)); exact BK165.out⟩, ⟨by (with_reducible repeat (first | refine blk_drewN ?_ _ | refine blk_drew ?_ | refine blk_alloc ?_ _)); exact BK166.out⟩, ⟨by (with_reducible repeat (first | refine blk_drewN ?_ _ | refine blk_drew ?_ | refine blk_alloc ?_ _)); exact BK167.out⟩, ⟨by (with_reducible repeat (first | refine blk_drewN ?_ _ | refine blk_drew ?_ | refine blk_alloc ?_ _)); exact BK168.out⟩, ⟨by repeat (first | (with_reducible first | exact HB.out | apply below_alloc | apply pw_below_drewN | apply below_drew1 | refine below_set ?_ GE165.out | refine below_set ?_ GE166.out | refine below_set ?_ GE167.out | refine below_set ?_ GE168.out) | exact HB.out)⟩⟩
 case rest =>
  clear HC4
  try clear c1
  try clear c2
  try clear p2
  try clear c3
  try clear c4
  try clear c5
  try clear p6
  try clear c9
  try clear c10
  try clear c11
  try clear c12
  try clear c14
  try clear c15
  try clear c17
  try clear c19
  try clear c20
  try clear c21
  try clear c22
  try clear c24
  try clear c25
  try clear c27
  try clear c29
  try clear c29b0
  try clear c29b1
  try clear c30
  try clear c30b0
  try clear c30b1
  try clear c31
  try clear c31b0
  try clear c31b1
  try clear c32
  try clear c33
  try clear c34
  try clear c36
  try clear c37
  try clear c39
  try clear c42
  try clear c43
  try clear c44
  try clear c46
  try clear c47
  try clear c49
  try clear c51
  try clear c52
  try clear c53
  try clear c55
  try clear c56
  try clear hcz13_0
  try clear hcz13_1
  try clear hcz13_2
  try clear hcz16_0
  try clear hcz16_1
  try clear hcz16_2
  try clear hcz18_0
  try clear hcz18_1
  try clear hcz18_2
  try clear hcz23_0
  try clear hcz23_1
  try clear hcz23_2
  try clear hcz26_0
  try clear hcz26_1
  try clear hcz26_2
  try clear hcz28_0
  try clear hcz28_1
  try clear hcz28_2
  try clear hcz35_0
  try clear hcz35_1
  try clear hcz35_2
  try clear hcz38_0
  try clear hcz38_1
  try clear hcz38_2
  try clear hcz40_0
  try clear hcz40_1
  try clear hcz40_2
  try clear hcz40_3
  try clear hcz40_4
  try clear hcz40_5
  try clear hcz41_0
  try clear hcz41_1
  try clear hcz41_2
  try clear hcz45_0
  try clear hcz45_1
  try clear hcz45_2
  try clear hcz48_0
  try clear hcz48_1
  try clear hcz48_2
  try clear hcz50_0
  try clear hcz50_1
  try clear hcz50_2
  try clear hcz50_3
  try clear hcz50_4
  try clear hcz50_5
  try clear hcz54_0
  try clear hcz54_1
  try clear hcz54_2
  try clear hcz57_0
  try clear hcz57_1
  try clear hcz57_2
  try clear hfz13_0
  try clear hfz13_1
  try clear hfz13_2
  try clear hfz16_0
  try clear hfz16_1
  try clear hfz16_2
  try clear hfz18_0
  try clear hfz18_1
  try clear hfz18_2
  try clear hfz23_0
  try clear hfz23_1
  try clear hfz23_2
  try clear hfz26_0
  try clear hfz26_1
  try clear hfz26_2
  try clear hfz28_0
  try clear hfz28_1
  try clear hfz28_2
  try clear hfz35_0
  try clear hfz35_1
  try clear hfz35_2
  try clear hfz38_0
  try clear hfz38_1
  try clear hfz38_2
  try clear hfz40_0
  try clear hfz40_1
  try clear hfz40_2
  try clear hfz40_3
  try clear hfz40_4
  try clear hfz40_5
  try clear hfz41_0
  try clear hfz41_1
  try clear hfz41_2
  try clear hfz45_0
  try clear hfz45_1
  try clear hfz45_2
  try clear hfz48_0
  try clear hfz48_1
  try clear hfz48_2
  try clear hfz50_0
  try clear hfz50_1
  try clear hfz50_2
  try clear hfz50_3
  try clear hfz50_4
  try clear hfz50_5
  try clear hfz54_0
  try clear hfz54_1
  try clear hfz54_2
  try clear hfz57_0
  try clear hfz57_1
  try clear hfz57_2
  obtain ⟨kq, x169000_3, x169001_3, x169002_3, HA, HJ3, BK165, BK166, BK167, BK168, HB⟩ := hcut
  cases kq with
  | zero => exact absurd HA.out (by simp [impl_Curve_sum.j0])
  | succ kj3 =>
   have H := HA.out; clear HA
   simp only [impl_Curve_sum.j0] at H
   have HC58 := Aside0.mk H; clear H; have hnb59 := NB167_165.out; have hnc59 := NB165_167.out; have hnb60 := NB167_166.out; have hnc60 := NB166_167.out; have hnb61 := NB167_168.out; have hnc61 := NB168_167.out
   have hcz62_0 : wc.cell? ⟨gb167, 0, none⟩ = some (.int .i64 a2_0) := bc_ BK167 0
   have hcz62_1 : wc.cell? ⟨gb167, 1, none⟩ = some (.int .i64 a2_1) := bc_ BK167 1
   have hcz62_2 : wc.cell? ⟨gb167, 2, none⟩ = some (.bool a2_2) := bc_ BK167 2
   have hfz62_0 := blk_frozen BK167.out 0; have hfz62_1 := blk_frozen BK167.out 1; have hfz62_2 := blk_frozen BK167.out 2; have hnb63 := NB166_165.out; have hnc63 := NB165_166.out; have hnb64 := NB166_168.out; have hnc64 := NB168_166.out
   have hcz65_0 : wc.cell? ⟨gb166, 0, none⟩ = some (.int .i64 a1_0) := bc_ BK166 0
   have hcz65_1 : wc.cell? ⟨gb166, 1, none⟩ = some (.int .i64 a1_1) := bc_ BK166 1
   have hcz65_2 : wc.cell? ⟨gb166, 2, none⟩ = some (.bool a1_2) := bc_ BK166 2
   have hfz65_0 := blk_frozen BK166.out 0; have hfz65_1 := blk_frozen BK166.out 1; have hfz65_2 := blk_frozen BK166.out 2
   go_upto_if 51 with (fail)
   repeat (go_quiet (fail); go_upto_if 51 with (fail))
   go_cut [7, 8] (fun v7 v8 wc => ∃ (kq : Nat) (x7_57 : Int) (x8_57 : Int), v7 = .int .i64 x7_57 ∧ v8 = .int .i64 x8_57 ∧ Aside0 (impl_Curve_sum.j1 kq x7_57 x8_57 a0_0 a0_1 a0_2 a0_3 a0_4 a0_5 a1_0 a1_1 a1_2 a2_0 a2_1 a2_2 = some (r1, r2, r3)) ∧ Aside0 (kq ≤ kj3) ∧ Aside0 (wc.heap[gb165]? = some (.cells #[.int .i64 a0_0, .int .i64 a0_1, .int .i64 a0_2, .int .i64 a0_3, .int .i64 a0_4, .int .i64 a0_5] 43 (0, 0))) ∧ Aside0 (wc.heap[gb166]? = some (.cells #[.int .i64 a1_0, .int .i64 a1_1, .bool a1_2] 55 (0, 0))) ∧ Aside0 (wc.heap[gb167]? = some (.cells #[.int .i64 a2_0, .int .i64 a2_1, .bool a2_2] 55 (0, 0))) ∧ Aside0 (wc.heap[gb168]? = some (.cells #[.int .i64 x169000_3, .int .i64 x169001_3, .bool x169002_3] 55 (0, 0))) ∧ Aside0 (Below w.heap.size w wc))
   case first =>
    have H := HC58.out; clear HC58
    by_cases c66 : (a1_0 == a2_0 && (a1_1 == a2_1 && (a1_2 == a2_2))) = true
    ·
     rw [if_pos c66] at H
     have c66b0 : (a1_0 == a2_0 && (a1_1 == a2_1 && (a1_2 == a2_2))) = true := c66
     (try (have c66b1 : decide (a1_0 = a2_0 && (a1_1 == a2_1 && (a1_2 == a2_2))) = true := by simpa using c66)); (try (have c66b2 : (a1_0 == a2_0 && (a1_1 == a2_1 && (a1_2 == a2_2))) = true := by simpa using c66)); clear c66
     (first | rw [c66b0] | (simp only [i64_w, i32_w]; rw [c66b0]) | skip)
     have H' := Aside0.mk H
     clear H; have hnb67 := NB166_165.out; have hnc67 := NB165_166.out; have hnb68 := NB166_167.out; have hnc68 := NB167_166.out; have hnb69 := NB166_168.out; have hnc69 := NB168_166.out
     have hcz70_0 : wc.cell? ⟨gb166, 0, none⟩ = some (.int .i64 a1_0) := bc_ BK166 0
     have hcz70_1 : wc.cell? ⟨gb166, 1, none⟩ = some (.int .i64 a1_1) := bc_ BK166 1
     have hcz70_2 : wc.cell? ⟨gb166, 2, none⟩ = some (.bool a1_2) := bc_ BK166 2
     have hfz70_0 := blk_frozen BK166.out 0; have hfz70_1 := blk_frozen BK166.out 1; have hfz70_2 := blk_frozen BK166.out 2; have hnb71 := NB165_167.out; have hnc71 := NB167_165.out; have hnb72 := NB165_168.out; have hnc72 := NB168_165.out
     have hcz73_0 : wc.cell? ⟨gb165, 0, none⟩ = some (.int .i64 a0_0) := bc_ BK165 0
     have hcz73_1 : wc.cell? ⟨gb165, 1, none⟩ = some (.int .i64 a0_1) := bc_ BK165 1
     have hcz73_2 : wc.cell? ⟨gb165, 2, none⟩ = some (.int .i64 a0_2) := bc_ BK165 2
     have hcz73_3 : wc.cell? ⟨gb165, 3, none⟩ = some (.int .i64 a0_3) := bc_ BK165 3
     have hcz73_4 : wc.cell? ⟨gb165, 4, none⟩ = some (.int .i64 a0_4) := bc_ BK165 4
     have hcz73_5 : wc.cell? ⟨gb165, 5, none⟩ = some (.int .i64 a0_5) := bc_ BK165 5
     have hfz73_0 := blk_frozen BK165.out 0; have hfz73_1 := blk_frozen BK165.out 1; have hfz73_2 := blk_frozen BK165.out 2; have hfz73_3 := blk_frozen BK165.out 3; have hfz73_4 := blk_frozen BK165.out 4; have hfz73_5 := blk_frozen BK165.out 5
     go_wp2
     repeat (go_quiet (fail); try go_wp2)
     go_meet
     case rel => exact ⟨_, (wrap64 ((wrap64 ((wrap64 (3 * a1_0)) * a1_0)) + a0_1)), (wrap64 (2 * a1_1)), (by first | rfl | (simp; done) | (simp [*]; done)), (by first | rfl | (simp; done) | (simp [*]; done)), H', ⟨by have := HJ3.out; first | omega | exact Nat.le_refl _⟩, ⟨by (with_reducible repeat (first | refine blk_drewN ?_ _ | refine blk_drew ?_ | refine blk_alloc ?_ _)); exact BK165.out⟩, ⟨by (with_reducible repeat (first | refine blk_drewN ?_ _ | refine blk_drew ?_ | refine blk_alloc ?_ _)); exact BK166.out⟩, ⟨by (with_reducible repeat (first | refine blk_drewN ?_ _ | refine blk_drew ?_ | refine blk_alloc ?_ _)); exact BK167.out⟩, ⟨by (with_reducible repeat (first | refine blk_drewN ?_ _ | refine blk_drew ?_ | refine blk_alloc ?_ _)); exact BK168.out⟩, ⟨by repeat (first | (with_reducible first | exact HB.out | apply below_alloc | apply pw_below_drewN | apply below_drew1 | refine below_set ?_ GE165.out | refine below_set ?_ GE166.out | refine below_set ?_ GE167.out | refine below_set ?_ GE168.out) | exact HB.out)⟩⟩
    ·
     rw [if_neg c66] at H
     have c66b0 : (a1_0 == a2_0 && (a1_1 == a2_1 && (a1_2 == a2_2))) = false := by simpa using c66
     (try (have c66b1 : decide (a1_0 = a2_0 && (a1_1 == a2_1 && (a1_2 == a2_2))) = false := by simpa using c66)); (try (have c66b2 : (a1_0 == a2_0 && (a1_1 == a2_1 && (a1_2 == a2_2))) = false := by simpa using c66)); (try (have c66b3 : ¬ (a1_0 = a2_0 && (a1_1 == a2_1 && (a1_2 == a2_2))) := by simpa using c66)); clear c66
     (first | rw [c66b0] | (simp only [i64_w, i32_w]; rw [c66b0]) | skip)
     have H' := Aside0.mk H
     clear H
     go_wp2
     repeat (go_quiet (fail); try go_wp2)
     go_meet
     case rel => exact ⟨_, (wrap64 (a2_1 - a1_1)), (wrap64 (a2_0 - a1_0)), (by first | rfl | (simp; done) | (simp [*]; done)), (by first | rfl | (simp; done) | (simp [*]; done)), H', ⟨by have := HJ3.out; first | omega | exact Nat.le_refl _⟩, ⟨by (with_reducible repeat (first | refine blk_drewN ?_ _ | refine blk_drew ?_ | refine blk_alloc ?_ _)); exact BK165.out⟩, ⟨by (with_reducible repeat (first | refine blk_drewN ?_ _ | refine blk_drew ?_ | refine blk_alloc ?_ _)); exact BK166.out⟩, ⟨by (with_reducible repeat (first | refine blk_drewN ?_ _ | refine blk_drew ?_ | refine blk_alloc ?_ _)); exact BK167.out⟩, ⟨by (with_reducible repeat (first | refine blk_drewN ?_ _ | refine blk_drew ?_ | refine blk_alloc ?_ _)); exact BK168.out⟩, ⟨by repeat (first | (with_reducible first | exact HB.out | apply below_alloc | apply pw_below_drewN | apply below_drew1 | refine below_set ?_ GE165.out | refine below_set ?_ GE166.out | refine below_set ?_ GE167.out | refine below_set ?_ GE168.out) | exact HB.out)⟩⟩
   case rest =>
    clear HC58
    try clear c1
    try clear c2
    try clear p2
    try clear c3
    try clear c4
    try clear c5
    try clear c6
    try clear p6
    try clear c7
    try clear c9
    try clear c10
    try clear c11
    try clear c12
    try clear c14
    try clear c15
    try clear c17
    try clear c19
    try clear c20
    try clear c21
    try clear c22
    try clear c24
    try clear c25
    try clear c27
    try clear c29
    try clear c29b0
    try clear c29b1
    try clear c30
    try clear c30b0
    try clear c30b1
    try clear c31
    try clear c31b0
    try clear c31b1
    try clear c32
    try clear c33
    try clear c34
    try clear c36
    try clear c37
    try clear c39
    try clear c42
    try clear c43
    try clear c44
    try clear c46
    try clear c47
    try clear c49
    try clear c51
    try clear c52
    try clear c53
    try clear c55
    try clear c56
    try clear c59
    try clear c60
    try clear c61
    try clear c63
    try clear c64
    try clear p64
    try clear c66
    try clear c66b0
    try clear c66b1
    try clear c66b2
    try clear c67
    try clear c68
    try clear c69
    try clear c71
    try clear c72
    try clear hcz13_0
    try clear hcz13_1
    try clear hcz13_2
    try clear hcz16_0
    try clear hcz16_1
    try clear hcz16_2
    try clear hcz18_0
    try clear hcz18_1
    try clear hcz18_2
    try clear hcz23_0
    try clear hcz23_1
    try clear hcz23_2
    try clear hcz26_0
    try clear hcz26_1
    try clear hcz26_2
    try clear hcz28_0
    try clear hcz28_1
    try clear hcz28_2
    try clear hcz35_0
    try clear hcz35_1
    try clear hcz35_2
    try clear hcz38_0
    try clear hcz38_1
    try clear hcz38_2
    try clear hcz40_0
    try clear hcz40_1
    try clear hcz40_2
    try clear hcz40_3
    try clear hcz40_4
    try clear hcz40_5
    try clear hcz41_0
    try clear hcz41_1
    try clear hcz41_2
    try clear hcz45_0
    try clear hcz45_1
    try clear hcz45_2
    try clear hcz48_0
    try clear hcz48_1
    try clear hcz48_2
    try clear hcz50_0
    try clear hcz50_1
    try clear hcz50_2
    try clear hcz50_3
    try clear hcz50_4
    try clear hcz50_5
    try clear hcz54_0
    try clear hcz54_1
    try clear hcz54_2
    try clear hcz57_0
    try clear hcz57_1
    try clear hcz57_2
    try clear hcz62_0
    try clear hcz62_1
    try clear hcz62_2
    try clear hcz65_0
    try clear hcz65_1
    try clear hcz65_2
    try clear hcz70_0
    try clear hcz70_1
    try clear hcz70_2
    try clear hcz73_0
    try clear hcz73_1
    try clear hcz73_2
    try clear hcz73_3
    try clear hcz73_4
    try clear hcz73_5
    try clear hfz13_0
    try clear hfz13_1
    try clear hfz13_2
    try clear hfz16_0
    try clear hfz16_1
    try clear hfz16_2
    try clear hfz18_0
    try clear hfz18_1
    try clear hfz18_2
    try clear hfz23_0
    try clear hfz23_1
    try clear hfz23_2
    try clear hfz26_0
    try clear hfz26_1
    try clear hfz26_2
    try clear hfz28_0
    try clear hfz28_1
    try clear hfz28_2
    try clear hfz35_0
    try clear hfz35_1
    try clear hfz35_2
    try clear hfz38_0
    try clear hfz38_1
    try clear hfz38_2
    try clear hfz40_0
    try clear hfz40_1
    try clear hfz40_2
    try clear hfz40_3
    try clear hfz40_4
    try clear hfz40_5
    try clear hfz41_0
    try clear hfz41_1
    try clear hfz41_2
    try clear hfz45_0
    try clear hfz45_1
    try clear hfz45_2
    try clear hfz48_0
    try clear hfz48_1
    try clear hfz48_2
    try clear hfz50_0
    try clear hfz50_1
    try clear hfz50_2
    try clear hfz50_3
    try clear hfz50_4
    try clear hfz50_5
    try clear hfz54_0
    try clear hfz54_1
    try clear hfz54_2
    try clear hfz57_0
    try clear hfz57_1
    try clear hfz57_2
    try clear hfz62_0
    try clear hfz62_1
    try clear hfz62_2
    try clear hfz65_0
    try clear hfz65_1
    try clear hfz65_2
    try clear hfz70_0
    try clear hfz70_1
    try clear hfz70_2
    try clear hfz73_0
    try clear hfz73_1
    try clear hfz73_2
    try clear hfz73_3
    try clear hfz73_4
    try clear hfz73_5
    try clear p2
    try clear p6
    obtain ⟨kq, x7_57, x8_57, rfl, rfl, HA, HJ57, BK165, BK166, BK167, BK168, HB⟩ := hcut
    cases kq with
    | zero => exact absurd HA.out (by simp [impl_Curve_sum.j1])
    | succ kj57 =>
     have H := HA.out; clear HA
     simp only [impl_Curve_sum.j1] at H
     replace H := Option.bind_eq_some_iff.mp H; obtain ⟨⟨t169, t170⟩, A740, H⟩ := H
     replace H : ((impl_rest.f x7_57 a0_0).bind fun t171 => (if a0_0 = 0 then (none) else ((impl_rest.f (wrap64 ((wrap64 ((wrap64 ((Int.tmod (wrap64 (t171 * t169)) a0_0) * (Int.tmod (wrap64 (t171 * t169)) a0_0))) - a1_0)) - a2_0)) a0_0).bind fun t172 => ((impl_rest.f (wrap64 ((wrap64 ((Int.tmod (wrap64 (t171 * t169)) a0_0) * (wrap64 (a1_0 - t172)))) - a1_1)) a0_0).bind fun t173 => (some (t172, t173, false)))))) = some (r1, r2, r3) := H
     have A74 := Aside0.mk A740; clear A740; replace H := Option.bind_eq_some_iff.mp H; obtain ⟨t171, A750, H⟩ := H
     replace H : (if a0_0 = 0 then (none) else ((impl_rest.f (wrap64 ((wrap64 ((wrap64 ((Int.tmod (wrap64 (t171 * t169)) a0_0) * (Int.tmod (wrap64 (t171 * t169)) a0_0))) - a1_0)) - a2_0)) a0_0).bind fun t172 => ((impl_rest.f (wrap64 ((wrap64 ((Int.tmod (wrap64 (t171 * t169)) a0_0) * (wrap64 (a1_0 - t172)))) - a1_1)) a0_0).bind fun t173 => (some (t172, t173, false))))) = some (r1, r2, r3) := H
     have A75 := Aside0.mk A750; clear A750
     by_cases c76 : a0_0 = 0
     · rw [if_pos c76] at H; exact absurd H (by simp)
     ·
      rw [if_neg c76] at H
      have c76b0 : (a0_0 == 0) = false := beq_eq_false_iff_ne.mpr c76
      have c76b1 : (a0_0 != 0) = true := bne_iff_ne.mpr c76
      replace H := Option.bind_eq_some_iff.mp H; obtain ⟨t172, A770, H⟩ := H
      replace H : ((impl_rest.f (wrap64 ((wrap64 ((Int.tmod (wrap64 (t171 * t169)) a0_0) * (wrap64 (a1_0 - t172)))) - a1_1)) a0_0).bind fun t173 => (some (t172, t173, false))) = some (r1, r2, r3) := H
      have A77 := Aside0.mk A770; clear A770; replace H := Option.bind_eq_some_iff.mp H; obtain ⟨t173, A780, H⟩ := H
      replace H : (some (t172, t173, false)) = some (r1, r2, r3) := H
      have A78 := Aside0.mk A780; clear A780
      simp only [Option.some.injEq, Prod.mk.injEq] at H
      obtain ⟨rfl, rfl, rfl⟩ := H; have hnb79 := NB165_166.out; have hnc79 := NB166_165.out; have hnb80 := NB165_167.out; have hnc80 := NB167_165.out; have hnb81 := NB165_168.out; have hnc81 := NB168_165.out
      have hcz82_0 : wc.cell? ⟨gb165, 0, none⟩ = some (.int .i64 a0_0) := bc_ BK165 0
      have hcz82_1 : wc.cell? ⟨gb165, 1, none⟩ = some (.int .i64 a0_1) := bc_ BK165 1
      have hcz82_2 : wc.cell? ⟨gb165, 2, none⟩ = some (.int .i64 a0_2) := bc_ BK165 2
      have hcz82_3 : wc.cell? ⟨gb165, 3, none⟩ = some (.int .i64 a0_3) := bc_ BK165 3
      have hcz82_4 : wc.cell? ⟨gb165, 4, none⟩ = some (.int .i64 a0_4) := bc_ BK165 4
      have hcz82_5 : wc.cell? ⟨gb165, 5, none⟩ = some (.int .i64 a0_5) := bc_ BK165 5
      have hfz82_0 := blk_frozen BK165.out 0; have hfz82_1 := blk_frozen BK165.out 1; have hfz82_2 := blk_frozen BK165.out 2; have hfz82_3 := blk_frozen BK165.out 3; have hfz82_4 := blk_frozen BK165.out 4; have hfz82_5 := blk_frozen BK165.out 5
      go_wp2_with (first | (go_at_call 94; (with_reducible refine (impl_InvInt.calls kj57 x8_57 a0_0 t169 t170 _ A74.out).mono ?_); rintro e w' ⟨rfl, ⟨nd, rfl⟩⟩; (try first | exact ⟨rfl, _, World.drewN_drewN _ _ _⟩ | exact ⟨rfl, _, Eq.trans (World.drewN_drewN _ _ _) (congrArg (World.drewN _) (Nat.add_assoc _ _ _))⟩)) | (go_at_call 89; (with_reducible refine (impl_rest.calls x7_57 a0_0 t171 _ A75.out).mono ?_); rintro e w' ⟨rfl, ⟨nd, rfl⟩⟩; (try first | exact ⟨rfl, _, World.drewN_drewN _ _ _⟩ | exact ⟨rfl, _, Eq.trans (World.drewN_drewN _ _ _) (congrArg (World.drewN _) (Nat.add_assoc _ _ _))⟩); have hnb83 := NB166_167.out; have hnc83 := NB167_166.out; have hnb84 := NB166_168.out; have hnc84 := NB168_166.out; have hcz85_0 : wc.cell? ⟨gb166, 0, none⟩ = some (.int .i64 a1_0) := bc_ BK166 0; have hcz85_1 : wc.cell? ⟨gb166, 1, none⟩ = some (.int .i64 a1_1) := bc_ BK166 1; have hcz85_2 : wc.cell? ⟨gb166, 2, none⟩ = some (.bool a1_2) := bc_ BK166 2; have hfz85_0 := blk_frozen BK166.out 0; have hfz85_1 := blk_frozen BK166.out 1; have hfz85_2 := blk_frozen BK166.out 2; have hnb86 := NB167_168.out; have hnc86 := NB168_167.out; have hcz87_0 : wc.cell? ⟨gb167, 0, none⟩ = some (.int .i64 a2_0) := bc_ BK167 0; have hcz87_1 : wc.cell? ⟨gb167, 1, none⟩ = some (.int .i64 a2_1) := bc_ BK167 1; have hcz87_2 : wc.cell? ⟨gb167, 2, none⟩ = some (.bool a2_2) := bc_ BK167 2; have hfz87_0 := blk_frozen BK167.out 0; have hfz87_1 := blk_frozen BK167.out 1; have hfz87_2 := blk_frozen BK167.out 2) | (go_at_call 89; (with_reducible refine (impl_rest.calls (wrap64 ((wrap64 ((wrap64 ((Int.tmod (wrap64 (t171 * t169)) a0_0) * (Int.tmod (wrap64 (t171 * t169)) a0_0))) - a1_0)) - a2_0)) a0_0 t172 _ A77.out).mono ?_); rintro e w' ⟨rfl, ⟨nd, rfl⟩⟩; (try first | exact ⟨rfl, _, World.drewN_drewN _ _ _⟩ | exact ⟨rfl, _, Eq.trans (World.drewN_drewN _ _ _) (congrArg (World.drewN _) (Nat.add_assoc _ _ _))⟩)) | (go_at_call 89; (with_reducible refine (impl_rest.calls (wrap64 ((wrap64 ((Int.tmod (wrap64 (t171 * t169)) a0_0) * (wrap64 (a1_0 - t172)))) - a1_1)) a0_0 t173 _ A78.out).mono ?_); rintro e w' ⟨rfl, ⟨nd, rfl⟩⟩; (try first | exact ⟨rfl, _, World.drewN_drewN _ _ _⟩ | exact ⟨rfl, _, Eq.trans (World.drewN_drewN _ _ _) (congrArg (World.drewN _) (Nat.add_assoc _ _ _))⟩); have hcz88_0 : wc.cell? ⟨gb168, 0, none⟩ = some (.int .i64 x169000_3) := bc_ BK168 0; have hcz88_1 : wc.cell? ⟨gb168, 1, none⟩ = some (.int .i64 x169001_3) := bc_ BK168 1; have hcz88_2 : wc.cell? ⟨gb168, 2, none⟩ = some (.bool x169002_3) := bc_ BK168 2; have hfz88_0 := blk_frozen BK168.out 0; have hfz88_1 := blk_frozen BK168.out 1; have hfz88_2 := blk_frozen BK168.out 2))
      repeat (go_quiet (first | (go_at_call 94; (with_reducible refine (impl_InvInt.calls kj57 x8_57 a0_0 t169 t170 _ A74.out).mono ?_); rintro e w' ⟨rfl, ⟨nd, rfl⟩⟩; (try first | exact ⟨rfl, _, World.drewN_drewN _ _ _⟩ | exact ⟨rfl, _, Eq.trans (World.drewN_drewN _ _ _) (congrArg (World.drewN _) (Nat.add_assoc _ _ _))⟩)) | (go_at_call 89; (with_reducible refine (impl_rest.calls x7_57 a0_0 t171 _ A75.out).mono ?_); rintro e w' ⟨rfl, ⟨nd, rfl⟩⟩; (try first | exact ⟨rfl, _, World.drewN_drewN _ _ _⟩ | exact ⟨rfl, _, Eq.trans (World.drewN_drewN _ _ _) (congrArg (World.drewN _) (Nat.add_assoc _ _ _))⟩); have hnb83 := NB166_167.out; have hnc83 := NB167_166.out; have hnb84 := NB166_168.out; have hnc84 := NB168_166.out; have hcz85_0 : wc.cell? ⟨gb166, 0, none⟩ = some (.int .i64 a1_0) := bc_ BK166 0; have hcz85_1 : wc.cell? ⟨gb166, 1, none⟩ = some (.int .i64 a1_1) := bc_ BK166 1; have hcz85_2 : wc.cell? ⟨gb166, 2, none⟩ = some (.bool a1_2) := bc_ BK166 2; have hfz85_0 := blk_frozen BK166.out 0; have hfz85_1 := blk_frozen BK166.out 1; have hfz85_2 := blk_frozen BK166.out 2; have hnb86 := NB167_168.out; have hnc86 := NB168_167.out; have hcz87_0 : wc.cell? ⟨gb167, 0, none⟩ = some (.int .i64 a2_0) := bc_ BK167 0; have hcz87_1 : wc.cell? ⟨gb167, 1, none⟩ = some (.int .i64 a2_1) := bc_ BK167 1; have hcz87_2 : wc.cell? ⟨gb167, 2, none⟩ = some (.bool a2_2) := bc_ BK167 2; have hfz87_0 := blk_frozen BK167.out 0; have hfz87_1 := blk_frozen BK167.out 1; have hfz87_2 := blk_frozen BK167.out 2) | (go_at_call 89; (with_reducible refine (impl_rest.calls (wrap64 ((wrap64 ((wrap64 ((Int.tmod (wrap64 (t171 * t169)) a0_0) * (Int.tmod (wrap64 (t171 * t169)) a0_0))) - a1_0)) - a2_0)) a0_0 t172 _ A77.out).mono ?_); rintro e w' ⟨rfl, ⟨nd, rfl⟩⟩; (try first | exact ⟨rfl, _, World.drewN_drewN _ _ _⟩ | exact ⟨rfl, _, Eq.trans (World.drewN_drewN _ _ _) (congrArg (World.drewN _) (Nat.add_assoc _ _ _))⟩)) | (go_at_call 89; (with_reducible refine (impl_rest.calls (wrap64 ((wrap64 ((Int.tmod (wrap64 (t171 * t169)) a0_0) * (wrap64 (a1_0 - t172)))) - a1_1)) a0_0 t173 _ A78.out).mono ?_); rintro e w' ⟨rfl, ⟨nd, rfl⟩⟩; (try first | exact ⟨rfl, _, World.drewN_drewN _ _ _⟩ | exact ⟨rfl, _, Eq.trans (World.drewN_drewN _ _ _) (congrArg (World.drewN _) (Nat.add_assoc _ _ _))⟩); have hcz88_0 : wc.cell? ⟨gb168, 0, none⟩ = some (.int .i64 x169000_3) := bc_ BK168 0; have hcz88_1 : wc.cell? ⟨gb168, 1, none⟩ = some (.int .i64 x169001_3) := bc_ BK168 1; have hcz88_2 : wc.cell? ⟨gb168, 2, none⟩ = some (.bool x169002_3) := bc_ BK168 2; have hfz88_0 := blk_frozen BK168.out 0; have hfz88_1 := blk_frozen BK168.out 1; have hfz88_2 := blk_frozen BK168.out 2)); try go_wp2_with (first | (go_at_call 94; (with_reducible refine (impl_InvInt.calls kj57 x8_57 a0_0 t169 t170 _ A74.out).mono ?_); rintro e w' ⟨rfl, ⟨nd, rfl⟩⟩; (try first | exact ⟨rfl, _, World.drewN_drewN _ _ _⟩ | exact ⟨rfl, _, Eq.trans (World.drewN_drewN _ _ _) (congrArg (World.drewN _) (Nat.add_assoc _ _ _))⟩)) | (go_at_call 89; (with_reducible refine (impl_rest.calls x7_57 a0_0 t171 _ A75.out).mono ?_); rintro e w' ⟨rfl, ⟨nd, rfl⟩⟩; (try first | exact ⟨rfl, _, World.drewN_drewN _ _ _⟩ | exact ⟨rfl, _, Eq.trans (World.drewN_drewN _ _ _) (congrArg (World.drewN _) (Nat.add_assoc _ _ _))⟩); have hnb83 := NB166_167.out; have hnc83 := NB167_166.out; have hnb84 := NB166_168.out; have hnc84 := NB168_166.out; have hcz85_0 : wc.cell? ⟨gb166, 0, none⟩ = some (.int .i64 a1_0) := bc_ BK166 0; have hcz85_1 : wc.cell? ⟨gb166, 1, none⟩ = some (.int .i64 a1_1) := bc_ BK166 1; have hcz85_2 : wc.cell? ⟨gb166, 2, none⟩ = some (.bool a1_2) := bc_ BK166 2; have hfz85_0 := blk_frozen BK166.out 0; have hfz85_1 := blk_frozen BK166.out 1; have hfz85_2 := blk_frozen BK166.out 2; have hnb86 := NB167_168.out; have hnc86 := NB168_167.out; have hcz87_0 : wc.cell? ⟨gb167, 0, none⟩ = some (.int .i64 a2_0) := bc_ BK167 0; have hcz87_1 : wc.cell? ⟨gb167, 1, none⟩ = some (.int .i64 a2_1) := bc_ BK167 1; have hcz87_2 : wc.cell? ⟨gb167, 2, none⟩ = some (.bool a2_2) := bc_ BK167 2; have hfz87_0 := blk_frozen BK167.out 0; have hfz87_1 := blk_frozen BK167.out 1; have hfz87_2 := blk_frozen BK167.out 2) | (go_at_call 89; (with_reducible refine (impl_rest.calls (wrap64 ((wrap64 ((wrap64 ((Int.tmod (wrap64 (t171 * t169)) a0_0) * (Int.tmod (wrap64 (t171 * t169)) a0_0))) - a1_0)) - a2_0)) a0_0 t172 _ A77.out).mono ?_); rintro e w' ⟨rfl, ⟨nd, rfl⟩⟩; (try first | exact ⟨rfl, _, World.drewN_drewN _ _ _⟩ | exact ⟨rfl, _, Eq.trans (World.drewN_drewN _ _ _) (congrArg (World.drewN _) (Nat.add_assoc _ _ _))⟩)) | (go_at_call 89; (with_reducible refine (impl_rest.calls (wrap64 ((wrap64 ((Int.tmod (wrap64 (t171 * t169)) a0_0) * (wrap64 (a1_0 - t172)))) - a1_1)) a0_0 t173 _ A78.out).mono ?_); rintro e w' ⟨rfl, ⟨nd, rfl⟩⟩; (try first | exact ⟨rfl, _, World.drewN_drewN _ _ _⟩ | exact ⟨rfl, _, Eq.trans (World.drewN_drewN _ _ _) (congrArg (World.drewN _) (Nat.add_assoc _ _ _))⟩); have hcz88_0 : wc.cell? ⟨gb168, 0, none⟩ = some (.int .i64 x169000_3) := bc_ BK168 0; have hcz88_1 : wc.cell? ⟨gb168, 1, none⟩ = some (.int .i64 x169001_3) := bc_ BK168 1; have hcz88_2 : wc.cell? ⟨gb168, 2, none⟩ = some (.bool x169002_3) := bc_ BK168 2; have hfz88_0 := blk_frozen BK168.out 0; have hfz88_1 := blk_frozen BK168.out 1; have hfz88_2 := blk_frozen BK168.out 2)))
      refine bodyPost_ret (results_cell_row rfl _ _ gb168 55 #[.int .i64 t172, .int .i64 t173, .bool false] (0, 0) _ rfl (by (with_reducible repeat (first | refine blk_drewN ?_ _ | refine blk_drew ?_ | refine blk_alloc ?_ _)); refine blk_put (cs := #[.int .i64 t172, .int .i64 t173, .bool x169002_3]) ?_ 2 _ rfl; (with_reducible repeat (first | refine blk_drewN ?_ _ | refine blk_drew ?_ | refine blk_alloc ?_ _)); refine blk_put (cs := #[.int .i64 t172, .int .i64 x169001_3, .bool x169002_3]) ?_ 1 _ rfl; (with_reducible repeat (first | refine blk_drewN ?_ _ | refine blk_drew ?_ | refine blk_alloc ?_ _)); refine blk_put (cs := #[.int .i64 x169000_3, .int .i64 x169001_3, .bool x169002_3]) ?_ 0 _ rfl; (with_reducible repeat (first | refine blk_drewN ?_ _ | refine blk_drew ?_ | refine blk_alloc ?_ _)); exact BK168.out) Try.underlying55 rfl (by kernel_rfl)) rfl ?_; exact ⟨by first | rfl | (simp [errW_none, errW_some] <;> rfl) | (simp [*, errW_none, errW_some] <;> rfl), by repeat (first | (with_reducible first | exact HB.out | apply below_alloc | apply pw_below_drewN | apply below_drew1 | refine below_set ?_ GE165.out | refine below_set ?_ GE166.out | refine below_set ?_ GE167.out | refine below_set ?_ GE168.out) | exact HB.out)⟩

attribute [local go_sem] fld_
/-! ### impl_Curve_times: function 79 -/
def impl_Curve_times.l0 : Nat → Int → Int → Int → Int → Int → Int → Int → Int → Int → Int → Bool → Int → Int → Bool → Option (Int × Int × Bool)
  | 0, _, _, _, _, _, _, _, _, _, _, _, _, _, _ => none
  | k + 1, x1, x8, x175000, x175001, x175002, x175003, x175004, x175005, x176000, x176001, x176002, x178000, x178001, x178002 => if x8 ≥ 0 then ((impl_Curve_sum.f k x175000 x175001 x175002 x175003 x175004 x175005 x178000 x178001 x178002 x178000 x178001 x178002).bind fun bt179 => (if 0 ≤ x8 then (if (Go.bits .and .i64 (shr .i64 x1 x8) 1) = 1 then ((impl_Curve_sum.f k x175000 x175001 x175002 x175003 x175004 x175005 bt179.1 bt179.2.1 bt179.2.2 x176000 x176001 x176002).bind fun bt182 => (impl_Curve_times.l0 k x1 (wrap64 (x8 - 1)) x175000 x175001 x175002 x175003 x175004 x175005 x176000 x176001 x176002 bt182.1 bt182.2.1 bt182.2.2)) else (impl_Curve_times.l0 k x1 (wrap64 (x8 - 1)) x175000 x175001 x175002 x175003 x175004 x175005 x176000 x176001 x176002 bt179.1 bt179.2.1 bt179.2.2)) else (none))) else (some (x178000, x178001, x178002))
def impl_Curve_times.f (k : Nat) (a0_0 : Int) (a0_1 : Int) (a0_2 : Int) (a0_3 : Int) (a0_4 : Int) (a0_5 : Int) (a1 : Int) (a2_0 : Int) (a2_1 : Int) (a2_2 : Bool) : Option (Int × Int × Bool) := (bits_Len.f k (IntKind.u64.wrap (a1))).bind fun t178 => (impl_Curve_times.l0 k a1 (wrap64 (t178 - 1)) a0_0 a0_1 a0_2 a0_3 a0_4 a0_5 a2_0 a2_1 a2_2 0 0 true)
theorem impl_Curve_times.mono_l : ∀ k, (∀ y0 y1 y2 y3 y4 y5 y6 y7 y8 y9 y10 y11 y12 y13, LeO (impl_Curve_times.l0 k y0 y1 y2 y3 y4 y5 y6 y7 y8 y9 y10 y11 y12 y13) (impl_Curve_times.l0 (k + 1) y0 y1 y2 y3 y4 y5 y6 y7 y8 y9 y10 y11 y12 y13))
 | 0 => fun _ _ _ _ _ _ _ _ _ _ _ _ _ _ r h => by simp [impl_Curve_times.l0] at h
 | k + 1 => by
  have ih0 := impl_Curve_times.mono_l k
  ·
   intro y0 y1 y2 y3 y4 y5 y6 y7 y8 y9 y10 y11 y12 y13
   unfold impl_Curve_times.l0
   repeat' first
   | (with_reducible exact ih0 _ _ _ _ _ _ _ _ _ _ _ _ _ _)
   | (with_reducible exact bits_Len.mono _ _)
   | (with_reducible exact impl_Curve_sum.mono _ _ _ _ _ _ _ _ _ _ _ _ _)
   | (with_reducible exact LeO.refl _)
   | (with_reducible exact LeO.none _)
   | (with_reducible refine LeO.ite ?_ ?_)
   | (with_reducible refine LeO.bind ?_ (fun _ => ?_))
   | exact ih0 _ _ _ _ _ _ _ _ _ _ _ _ _ _
   | exact bits_Len.mono _ _
   | exact impl_Curve_sum.mono _ _ _ _ _ _ _ _ _ _ _ _ _
   | exact LeO.none _
   | refine LeO.ite ?_ ?_
   | refine LeO.bind ?_ (fun _ => ?_)
theorem impl_Curve_times.mono : ∀ a0 a1 a2 a3 a4 a5 a6 a7 a8 a9 k, LeO (impl_Curve_times.f k a0 a1 a2 a3 a4 a5 a6 a7 a8 a9) (impl_Curve_times.f (k + 1) a0 a1 a2 a3 a4 a5 a6 a7 a8 a9) := by
 intro a0 a1 a2 a3 a4 a5 a6 a7 a8 a9 k; have ih0 := impl_Curve_times.mono_l k
 unfold impl_Curve_times.f
 repeat' first
   | (with_reducible exact ih0 _ _ _ _ _ _ _ _ _ _ _ _ _ _)
   | (with_reducible exact bits_Len.mono _ _)
   | (with_reducible exact impl_Curve_sum.mono _ _ _ _ _ _ _ _ _ _ _ _ _)
   | (with_reducible exact LeO.refl _)
   | (with_reducible exact LeO.none _)
   | (with_reducible refine LeO.ite ?_ ?_)
   | (with_reducible refine LeO.bind ?_ (fun _ => ?_))
   | exact ih0 _ _ _ _ _ _ _ _ _ _ _ _ _ _
   | exact bits_Len.mono _ _
   | exact impl_Curve_sum.mono _ _ _ _ _ _ _ _ _ _ _ _ _
   | exact LeO.none _
   | refine LeO.ite ?_ ?_
   | refine LeO.bind ?_ (fun _ => ?_)
set_option maxHeartbeats 8000000 in
set_option maxRecDepth 100000 in
theorem impl_Curve_times.calls (k : Nat) (a0_0 : Int) (a0_1 : Int) (a0_2 : Int) (a0_3 : Int) (a0_4 : Int) (a0_5 : Int) (a1 : Int) (a2_0 : Int) (a2_1 : Int) (a2_2 : Bool) (r1 : Int) (r2 : Int) (r3 : Bool) (w : World) (h : impl_Curve_times.f k a0_0 a0_1 a0_2 a0_3 a0_4 a0_5 a1 a2_0 a2_1 a2_2 = some (r1, r2, r3)) :
  Calls Try.prog 79 #[.agg #[.int .i64 a0_0, .int .i64 a0_1, .int .i64 a0_2, .int .i64 a0_3, .int .i64 a0_4, .int .i64 a0_5], .int .i64 a1, .agg #[.int .i64 a2_0, .int .i64 a2_1, .bool a2_2]] w fun e w' => e = .returned (.agg #[.int .i64 r1, .int .i64 r2, .bool r3]) ∧ Below w.heap.size w w' := by
 have hu43 := Try.underlying43; have hu55 := Try.underlying55; have HB := Aside0.mk (Below.refl w.heap.size w)
 have H : ((bits_Len.f k (IntKind.u64.wrap (a1))).bind fun t178 => (impl_Curve_times.l0 k a1 (wrap64 (t178 - 1)) a0_0 a0_1 a0_2 a0_3 a0_4 a0_5 a2_0 a2_1 a2_2 0 0 true)) = some (r1, r2, r3) := h
 clear h; replace H := Option.bind_eq_some_iff.mp H; obtain ⟨t178, A40, H⟩ := H
 replace H : (impl_Curve_times.l0 k a1 (wrap64 (t178 - 1)) a0_0 a0_1 a0_2 a0_3 a0_4 a0_5 a2_0 a2_1 a2_2 0 0 true) = some (r1, r2, r3) := H
 have A4 := Aside0.mk A40; clear A40
 have H' := Aside0.mk H
 clear H
 go_enter Try.func79, Try.ntmps79
 go_wp2_with (first | ((with_reducible refine gate_dst (N := 3) rfl ?_); refine box_event ?hg (N := 3) ?hd (cs := #[.int .i64 a0_0, .int .i64 a0_1, .int .i64 a0_2, .int .i64 a0_3, .int .i64 a0_4, .int .i64 a0_5]) (t := 43) ?hr ?_; (case hd => rfl); (case hg => rfl); (case hr => first | (go_simp; done) | (go_simp; rfl)); intro gb174 hg w5 hbox hb; have n0_ := bs_ HB hb; have n1_ := Aside0.mk hbox; have n2_ := ge_ HB hg; have n3_ := ge_ HB hg; clear HB; have HB := n0_; have BK174 := n1_; have GW174 := n2_; have GE174 := n3_; clear n0_ n1_ n2_ n3_; clear hb hbox hg) | ((with_reducible refine gate_dst (N := 5) rfl ?_); refine box_event ?hg (N := 5) ?hd (cs := #[.int .i64 a2_0, .int .i64 a2_1, .bool a2_2]) (t := 55) ?hr ?_; (case hd => rfl); (case hg => rfl); (case hr => first | (go_simp; done) | (go_simp; rfl)); intro gb175 hg w6 hbox hb; have n0_ := bb_ BK174 hb; have n1_ := bs_ HB hb; have n2_ := Aside0.mk hbox; have n3_ := ge_ HB hg; have n4_ := ge_ HB hg; have n5_ := nl_ BK174 hg; have n6_ := nr_ BK174 hg; clear BK174; clear HB; have BK174 := n0_; have HB := n1_; have BK175 := n2_; have GW175 := n3_; have GE175 := n4_; have NB174_175 := n5_; have NB175_174 := n6_; clear n0_ n1_ n2_ n3_ n4_ n5_ n6_; clear hb hbox hg) | ((with_reducible refine gate_dst (N := 6) rfl ?_); refine box_event ?hg (N := 6) ?hd (cs := #[.int .i64 0, .int .i64 0, .bool false]) (t := 55) ?hr ?_; (case hd => rfl); (case hg => rfl); (case hr => first | (go_simp; done) | (go_simp; rfl)); intro gb176 hg w7 hbox hb; have n0_ := bb_ BK174 hb; have n1_ := bb_ BK175 hb; have n2_ := bs_ HB hb; have n3_ := Aside0.mk hbox; have n4_ := ge_ HB hg; have n5_ := ge_ HB hg; have n6_ := nl_ BK174 hg; have n7_ := nr_ BK174 hg; have n8_ := nl_ BK175 hg; have n9_ := nr_ BK175 hg; clear BK174; clear BK175; clear HB; have BK174 := n0_; have BK175 := n1_; have HB := n2_; have BK176 := n3_; have GW176 := n4_; have GE176 := n5_; have NB174_176 := n6_; have NB176_174 := n7_; have NB175_176 := n8_; have NB176_175 := n9_; clear n0_ n1_ n2_ n3_ n4_ n5_ n6_ n7_ n8_ n9_; clear hb hbox hg) | ((with_reducible refine gate_dst (N := 7) rfl ?_); refine box_event ?hg (N := 7) ?hd (cs := #[.int .i64 0, .int .i64 0, .bool false]) (t := 55) ?hr ?_; (case hd => rfl); (case hg => rfl); (case hr => first | (go_simp; done) | (go_simp; rfl)); intro gb177 hg w8 hbox hb; have n0_ := bb_ BK174 hb; have n1_ := bb_ BK175 hb; have n2_ := bb_ BK176 hb; have n3_ := bs_ HB hb; have n4_ := Aside0.mk hbox; have n5_ := ge_ HB hg; have n6_ := ge_ HB hg; have n7_ := nl_ BK174 hg; have n8_ := nr_ BK174 hg; have n9_ := nl_ BK175 hg; have n10_ := nr_ BK175 hg; have n11_ := nl_ BK176 hg; have n12_ := nr_ BK176 hg; clear BK174; clear BK175; clear BK176; clear HB; have BK174 := n0_; have BK175 := n1_; have BK176 := n2_; have HB := n3_; have BK177 := n4_; have GW177 := n5_; have GE177 := n6_; have NB174_177 := n7_; have NB177_174 := n8_; have NB175_177 := n9_; have NB177_175 := n10_; have NB176_177 := n11_; have NB177_176 := n12_; clear n0_ n1_ n2_ n3_ n4_ n5_ n6_ n7_ n8_ n9_ n10_ n11_ n12_; clear hb hbox hg; have hnb9 := NB177_174.out; have hnc9 := NB174_177.out; have hnb10 := NB177_175.out; have hnc10 := NB175_177.out; have hnb11 := NB177_176.out; have hnc11 := NB176_177.out; have hcz12_0 : w8.cell? ⟨gb177, 0, none⟩ = some (.int .i64 0) := bc_ BK177 0; have hcz12_1 : w8.cell? ⟨gb177, 1, none⟩ = some (.int .i64 0) := bc_ BK177 1; have hcz12_2 : w8.cell? ⟨gb177, 2, none⟩ = some (.bool false) := bc_ BK177 2; have hfz12_0 := blk_frozen BK177.out 0; have hfz12_1 := blk_frozen BK177.out 1; have hfz12_2 := blk_frozen BK177.out 2) | ((with_reducible refine gate_callee (f := 87) rfl ?_); refine goesL_ (some 12) rfl rfl Try.func87 (by kernel_rfl) rfl #[.int .u64 (IntKind.u64.wrap (a1))] rfl (by (try simp only [List.map_toArray, List.map_cons, List.map_nil]); first | done | rfl | (simp only [List.length_drop, List.length_take]; rfl)) ?_; (with_reducible refine (bits_Len.calls k (IntKind.u64.wrap (a1)) t178 _ A4.out).mono ?_); rintro e w' ⟨rfl, ⟨nd, rfl⟩⟩; refine ⟨_, rfl, ?_⟩))
 go_loopg [8] k (fun kq v8 w' => ∃ (x8_1 : Int) (x178000_1 : Int) (x178001_1 : Int) (x178002_1 : Bool), v8 = .int .i64 x8_1 ∧ Aside0 (impl_Curve_times.l0 kq a1 x8_1 a0_0 a0_1 a0_2 a0_3 a0_4 a0_5 a2_0 a2_1 a2_2 x178000_1 x178001_1 x178002_1 = some (r1, r2, r3)) ∧ Aside0 (kq ≤ k) ∧ Aside0 (w'.heap[gb174]? = some (.cells #[.int .i64 a0_0, .int .i64 a0_1, .int .i64 a0_2, .int .i64 a0_3, .int .i64 a0_4, .int .i64 a0_5] 43 (0, 0))) ∧ Aside0 (w'.heap[gb175]? = some (.cells #[.int .i64 a2_0, .int .i64 a2_1, .bool a2_2] 55 (0, 0))) ∧ Aside0 (w'.heap[gb176]? = some (.cells #[.int .i64 0, .int .i64 0, .bool false] 55 (0, 0))) ∧ Aside0 (w'.heap[gb177]? = some (.cells #[.int .i64 x178000_1, .int .i64 x178001_1, .bool x178002_1] 55 (0, 0))) ∧ Aside0 (Below w.heap.size w w'))
 case atStart => exact ⟨(wrap64 (t178 - 1)), (0), (0), (true), (by first | rfl | (simp; done) | (simp [*]; done)), H', ⟨Nat.le_refl _⟩, ⟨by (with_reducible repeat (first | refine blk_drewN ?_ _ | refine blk_drew ?_ | refine blk_alloc ?_ _)); refine blk_far ?_ NB174_177.out _; (with_reducible repeat (first | refine blk_drewN ?_ _ | refine blk_drew ?_ | refine blk_alloc ?_ _)); refine blk_far ?_ NB174_177.out _; (with_reducible repeat (first | refine blk_drewN ?_ _ | refine blk_drew ?_ | refine blk_alloc ?_ _)); refine blk_far ?_ NB174_177.out _; (with_reducible repeat (first | refine blk_drewN ?_ _ | refine blk_drew ?_ | refine blk_alloc ?_ _)); exact BK174.out⟩, ⟨by (with_reducible repeat (first | refine blk_drewN ?_ _ | refine blk_drew ?_ | refine blk_alloc ?_ _)); refine blk_far ?_ NB175_177.out _; (with_reducible repeat (first | refine blk_drewN ?_ _ | refine blk_drew ?_ | refine blk_alloc ?_ _)); refine blk_far ?_ NB175_177.out _; (with_reducible repeat (first | refine blk_drewN ?_ _ | refine blk_drew ?_ | refine blk_alloc ?_ _)); refine blk_far ?_ NB175_177.out _; (with_reducible repeat (first | refine blk_drewN ?_ _ | refine blk_drew ?_ | refine blk_alloc ?_ _)); exact BK175.out⟩, ⟨by (with_reducible repeat (first | refine blk_drewN ?_ _ | refine blk_drew ?_ | refine blk_alloc ?_ _)); refine blk_far ?_ NB176_177.out _; (with_reducible repeat (first | refine blk_drewN ?_ _ | refine blk_drew ?_ | refine blk_alloc ?_ _)); refine blk_far ?_ NB176_177.out _; (with_reducible repeat (first | refine blk_drewN ?_ _ | refine blk_drew ?_ | refine blk_alloc ?_ _)); refine blk_far ?_ NB176_177.out _; (with_reducible repeat (first | refine blk_drewN ?_ _ | refine blk_drew ?_ | refine blk_alloc ?_ _)); exact BK176.out⟩, ⟨by (with_reducible repeat (first | refine blk_drewN ?_ _ | refine blk_drew ?_ | refine blk_alloc ?_ _)); refine blk_put (cs := #[.int .i64 0, .int .i64 0, .bool false]) ?_ 2 _ rfl; (with_reducible repeat (first | refine blk_drewN ?_ _ | refine blk_drew ?_ | refine blk_alloc ?_ _)); refine blk_put (cs := #[.int .i64 0, .int .i64 0, .bool false]) ?_ 1 _ rfl; (with_reducible repeat (first | refine blk_drewN ?_ _ | refine blk_drew ?_ | refine blk_alloc ?_ _)); refine blk_put (cs := #[.int .i64 0, .int .i64 0, .bool false]) ?_ 0 _ rfl; (with_reducible repeat (first | refine blk_drewN ?_ _ | refine blk_drew ?_ | refine blk_alloc ?_ _)); exact BK177.out⟩, ⟨by repeat (first | (with_reducible first | exact HB.out | apply below_alloc | apply pw_below_drewN | apply below_drew1 | refine below_set ?_ GE174.out | refine below_set ?_ GE175.out | refine below_set ?_ GE176.out | refine below_set ?_ GE177.out) | exact HB.out)⟩⟩
 case round =>
  clear H'
  try clear c1
  try clear p2
  try clear p6
  try clear c7
  try clear c8
  try clear c9
  try clear c10
  try clear c11
  try clear hcz12_0
  try clear hcz12_1
  try clear hcz12_2
  try clear hfz12_0
  try clear hfz12_1
  try clear hfz12_2
  obtain ⟨x8_1, x178000_1, x178001_1, x178002_1, rfl, HA, HK1, BK174, BK175, BK176, BK177, HB⟩ := hrel
  cases gk with
  | zero => exact absurd HA.out (by simp [impl_Curve_times.l0])
  | succ k1 =>
   have H := HA.out; clear HA
   simp only [impl_Curve_times.l0] at H
   by_cases c13 : x8_1 ≥ 0
   ·
    rw [if_pos c13] at H
    have c13b0 : decide (0 ≤ x8_1) = true := decide_eq_true c13
    clear c13; replace H := Option.bind_eq_some_iff.mp H; obtain ⟨⟨t179, t180, t181⟩, A140, H⟩ := H
    replace H : (if 0 ≤ x8_1 then (if (Go.bits .and .i64 (shr .i64 a1 x8_1) 1) = 1 then ((impl_Curve_sum.f k1 a0_0 a0_1 a0_2 a0_3 a0_4 a0_5 t179 t180 t181 a2_0 a2_1 a2_2).bind fun bt182 => (impl_Curve_times.l0 k1 a1 (wrap64 (x8_1 - 1)) a0_0 a0_1 a0_2 a0_3 a0_4 a0_5 a2_0 a2_1 a2_2 bt182.1 bt182.2.1 bt182.2.2)) else (impl_Curve_times.l0 k1 a1 (wrap64 (x8_1 - 1)) a0_0 a0_1 a0_2 a0_3 a0_4 a0_5 a2_0 a2_1 a2_2 t179 t180 t181)) else (none)) = some (r1, r2, r3) := H
    have A14 := Aside0.mk A140; clear A140
    by_cases c15 : 0 ≤ x8_1
    ·
     rw [if_pos c15] at H; have c15b0 := eq_true c15
     have c15b1 : decide (0 ≤ x8_1) = true := decide_eq_true c15
     clear c15; obtain ⟨ji16, hji16⟩ : ∃ j_ : Int, (shr .i64 a1 x8_1) = j_ := ⟨_, rfl⟩
     replace H : (if (Go.bits .and .i64 (ji16) 1) = 1 then ((impl_Curve_sum.f k1 a0_0 a0_1 a0_2 a0_3 a0_4 a0_5 t179 t180 t181 a2_0 a2_1 a2_2).bind fun bt182 => (impl_Curve_times.l0 k1 a1 (wrap64 (x8_1 - 1)) a0_0 a0_1 a0_2 a0_3 a0_4 a0_5 a2_0 a2_1 a2_2 bt182.1 bt182.2.1 bt182.2.2)) else (impl_Curve_times.l0 k1 a1 (wrap64 (x8_1 - 1)) a0_0 a0_1 a0_2 a0_3 a0_4 a0_5 a2_0 a2_1 a2_2 t179 t180 t181)) = some (r1, r2, r3) := by first | (rw [hji16] at H; exact H) | (simp only [hji16] at H ⊢; exact H)
     (try rw [hji16] at A14)
     have hji16_ : (a1 / 2 ^ min x8_1.toNat 64) = ji16 := hji16
     have hji16z : x8_1 ≤ 64 → (a1 / 2 ^ x8_1.toNat) = ji16 := shr_small hji16
     by_cases c17 : (Go.bits .and .i64 (ji16) 1) = 1
     ·
      rw [if_pos c17] at H
      have c17b0 : ((Go.bits .and .i64 (ji16) 1) == 1) = true := beq_iff_eq.mpr c17
      have c17b1 : ((Go.bits .and .i64 (ji16) 1) != 1) = false := bne_eq_false_iff_eq.mpr c17
      clear c17; replace H := Option.bind_eq_some_iff.mp H; obtain ⟨⟨t182, t183, t184⟩, A180, H⟩ := H
      replace H : (impl_Curve_times.l0 k1 a1 (wrap64 (x8_1 - 1)) a0_0 a0_1 a0_2 a0_3 a0_4 a0_5 a2_0 a2_1 a2_2 t182 t183 t184) = some (r1, r2, r3) := H
      have A18 := Aside0.mk A180; clear A180
      have H' := Aside0.mk H
      clear H; have hnb19 := NB174_175.out; have hnc19 := NB175_174.out; have hnb20 := NB174_176.out; have hnc20 := NB176_174.out; have hnb21 := NB174_177.out; have hnc21 := NB177_174.out
      have hcz22_0 : wr.cell? ⟨gb174, 0, none⟩ = some (.int .i64 a0_0) := bc_ BK174 0
      have hcz22_1 : wr.cell? ⟨gb174, 1, none⟩ = some (.int .i64 a0_1) := bc_ BK174 1
      have hcz22_2 : wr.cell? ⟨gb174, 2, none⟩ = some (.int .i64 a0_2) := bc_ BK174 2
      have hcz22_3 : wr.cell? ⟨gb174, 3, none⟩ = some (.int .i64 a0_3) := bc_ BK174 3
      have hcz22_4 : wr.cell? ⟨gb174, 4, none⟩ = some (.int .i64 a0_4) := bc_ BK174 4
      have hcz22_5 : wr.cell? ⟨gb174, 5, none⟩ = some (.int .i64 a0_5) := bc_ BK174 5
      have hfz22_0 := blk_frozen BK174.out 0; have hfz22_1 := blk_frozen BK174.out 1; have hfz22_2 := blk_frozen BK174.out 2; have hfz22_3 := blk_frozen BK174.out 3; have hfz22_4 := blk_frozen BK174.out 4; have hfz22_5 := blk_frozen BK174.out 5; have hnb23 := NB177_175.out; have hnc23 := NB175_177.out; have hnb24 := NB177_176.out; have hnc24 := NB176_177.out
      have hcz25_0 : wr.cell? ⟨gb177, 0, none⟩ = some (.int .i64 x178000_1) := bc_ BK177 0
      have hcz25_1 : wr.cell? ⟨gb177, 1, none⟩ = some (.int .i64 x178001_1) := bc_ BK177 1
      have hcz25_2 : wr.cell? ⟨gb177, 2, none⟩ = some (.bool x178002_1) := bc_ BK177 2
      have hfz25_0 := blk_frozen BK177.out 0; have hfz25_1 := blk_frozen BK177.out 1; have hfz25_2 := blk_frozen BK177.out 2
      go_wp2_with (first | ((with_reducible refine gate_callee (f := 92) rfl ?_); refine goesL_ (some 21) rfl rfl Try.func92 (by kernel_rfl) rfl #[.agg #[.int .i64 a0_0, .int .i64 a0_1, .int .i64 a0_2, .int .i64 a0_3, .int .i64 a0_4, .int .i64 a0_5], .agg #[.int .i64 x178000_1, .int .i64 x178001_1, .bool x178002_1], .agg #[.int .i64 x178000_1, .int .i64 x178001_1, .bool x178002_1]] rfl (by (try simp only [List.map_toArray, List.map_cons, List.map_nil]); first | done | rfl | (simp only [List.length_drop, List.length_take]; rfl)) ?_; (with_reducible refine (impl_Curve_sum.calls k1 a0_0 a0_1 a0_2 a0_3 a0_4 a0_5 x178000_1 x178001_1 x178002_1 x178000_1 x178001_1 x178002_1 t179 t180 t181 _ A14.out).mono ?_); rintro e w26 ⟨rfl, hb⟩; refine ⟨_, rfl, ?_⟩; have n0_ := bb_ BK174 hb; have n1_ := bb_ BK175 hb; have n2_ := bb_ BK176 hb; have n3_ := bb_ BK177 hb; have n4_ := bs_ HB hb; clear BK174; clear BK175; clear BK176; clear BK177; clear HB; have BK174 := n0_; have BK175 := n1_; have BK176 := n2_; have BK177 := n3_; have HB := n4_; clear n0_ n1_ n2_ n3_ n4_; (try clear hb); (try clear hb2); (try clear hk); (try clear hi); have hcz27_0 : w26.cell? ⟨gb177, 0, none⟩ = some (.int .i64 x178000_1) := bc_ BK177 0; have hcz27_1 : w26.cell? ⟨gb177, 1, none⟩ = some (.int .i64 x178001_1) := bc_ BK177 1; have hcz27_2 : w26.cell? ⟨gb177, 2, none⟩ = some (.bool x178002_1) := bc_ BK177 2; have hfz27_0 := blk_frozen BK177.out 0; have hfz27_1 := blk_frozen BK177.out 1; have hfz27_2 := blk_frozen BK177.out 2; have hcz28_0 : w26.cell? ⟨gb174, 0, none⟩ = some (.int .i64 a0_0) := bc_ BK174 0; have hcz28_1 : w26.cell? ⟨gb174, 1, none⟩ = some (.int .i64 a0_1) := bc_ BK174 1; have hcz28_2 : w26.cell? ⟨gb174, 2, none⟩ = some (.int .i64 a0_2) := bc_ BK174 2; have hcz28_3 : w26.cell? ⟨gb174, 3, none⟩ = some (.int .i64 a0_3) := bc_ BK174 3; have hcz28_4 : w26.cell? ⟨gb174, 4, none⟩ = some (.int .i64 a0_4) := bc_ BK174 4; have hcz28_5 : w26.cell? ⟨gb174, 5, none⟩ = some (.int .i64 a0_5) := bc_ BK174 5; have hfz28_0 := blk_frozen BK174.out 0; have hfz28_1 := blk_frozen BK174.out 1; have hfz28_2 := blk_frozen BK174.out 2; have hfz28_3 := blk_frozen BK174.out 3; have hfz28_4 := blk_frozen BK174.out 4; have hfz28_5 := blk_frozen BK174.out 5; have hnb29 := NB175_176.out; have hnc29 := NB176_175.out; have hcz30_0 : w26.cell? ⟨gb175, 0, none⟩ = some (.int .i64 a2_0) := bc_ BK175 0; have hcz30_1 : w26.cell? ⟨gb175, 1, none⟩ = some (.int .i64 a2_1) := bc_ BK175 1; have hcz30_2 : w26.cell? ⟨gb175, 2, none⟩ = some (.bool a2_2) := bc_ BK175 2; have hfz30_0 := blk_frozen BK175.out 0; have hfz30_1 := blk_frozen BK175.out 1; have hfz30_2 := blk_frozen BK175.out 2) | ((with_reducible refine gate_callee (f := 92) rfl ?_); refine goesL_ (some 30) rfl rfl Try.func92 (by kernel_rfl) rfl #[.agg #[.int .i64 a0_0, .int .i64 a0_1, .int .i64 a0_2, .int .i64 a0_3, .int .i64 a0_4, .int .i64 a0_5], .agg #[.int .i64 t179, .int .i64 t180, .bool t181], .agg #[.int .i64 a2_0, .int .i64 a2_1, .bool a2_2]] rfl (by (try simp only [List.map_toArray, List.map_cons, List.map_nil]); first | done | rfl | (simp only [List.length_drop, List.length_take]; rfl)) ?_; (with_reducible refine (impl_Curve_sum.calls k1 a0_0 a0_1 a0_2 a0_3 a0_4 a0_5 t179 t180 t181 a2_0 a2_1 a2_2 t182 t183 t184 _ A18.out).mono ?_); rintro e w31 ⟨rfl, hb⟩; refine ⟨_, rfl, ?_⟩; have n0_ := Aside0.mk (blk_below (g := gb174) (o := .cells #[.int .i64 a0_0, .int .i64 a0_1, .int .i64 a0_2, .int .i64 a0_3, .int .i64 a0_4, .int .i64 a0_5] 43 (0, 0)) (by (with_reducible repeat (first | refine blk_drewN ?_ _ | refine blk_drew ?_ | refine blk_alloc ?_ _)); refine blk_far ?_ NB174_177.out _; (with_reducible repeat (first | refine blk_drewN ?_ _ | refine blk_drew ?_ | refine blk_alloc ?_ _)); refine blk_far ?_ NB174_177.out _; (with_reducible repeat (first | refine blk_drewN ?_ _ | refine blk_drew ?_ | refine blk_alloc ?_ _)); refine blk_far ?_ NB174_177.out _; (with_reducible repeat (first | refine blk_drewN ?_ _ | refine blk_drew ?_ | refine blk_alloc ?_ _)); exact BK174.out) hb); have n1_ := Aside0.mk (blk_below (g := gb175) (o := .cells #[.int .i64 a2_0, .int .i64 a2_1, .bool a2_2] 55 (0, 0)) (by (with_reducible repeat (first | refine blk_drewN ?_ _ | refine blk_drew ?_ | refine blk_alloc ?_ _)); refine blk_far ?_ NB175_177.out _; (with_reducible repeat (first | refine blk_drewN ?_ _ | refine blk_drew ?_ | refine blk_alloc ?_ _)); refine blk_far ?_ NB175_177.out _; (with_reducible repeat (first | refine blk_drewN ?_ _ | refine blk_drew ?_ | refine blk_alloc ?_ _)); refine blk_far ?_ NB175_177.out _; (with_reducible repeat (first | refine blk_drewN ?_ _ | refine blk_drew ?_ | refine blk_alloc ?_ _)); exact BK175.out) hb); have n2_ := Aside0.mk (blk_below (g := gb176) (o := .cells #[.int .i64 0, .int .i64 0, .bool false] 55 (0, 0)) (by (with_reducible repeat (first | refine blk_drewN ?_ _ | refine blk_drew ?_ | refine blk_alloc ?_ _)); refine blk_far ?_ NB176_177.out _; (with_reducible repeat (first | refine blk_drewN ?_ _ | refine blk_drew ?_ | refine blk_alloc ?_ _)); refine blk_far ?_ NB176_177.out _; (with_reducible repeat (first | refine blk_drewN ?_ _ | refine blk_drew ?_ | refine blk_alloc ?_ _)); refine blk_far ?_ NB176_177.out _; (with_reducible repeat (first | refine blk_drewN ?_ _ | refine blk_drew ?_ | refine blk_alloc ?_ _)); exact BK176.out) hb); have n3_ := Aside0.mk (blk_below (g := gb177) (o := .cells #[.int .i64 t179, .int .i64 t180, .bool t181] 55 (0, 0)) (by (with_reducible repeat (first | refine blk_drewN ?_ _ | refine blk_drew ?_ | refine blk_alloc ?_ _)); refine blk_put (cs := #[.int .i64 t179, .int .i64 t180, .bool x178002_1]) ?_ 2 _ rfl; (with_reducible repeat (first | refine blk_drewN ?_ _ | refine blk_drew ?_ | refine blk_alloc ?_ _)); refine blk_put (cs := #[.int .i64 t179, .int .i64 x178001_1, .bool x178002_1]) ?_ 1 _ rfl; (with_reducible repeat (first | refine blk_drewN ?_ _ | refine blk_drew ?_ | refine blk_alloc ?_ _)); refine blk_put (cs := #[.int .i64 x178000_1, .int .i64 x178001_1, .bool x178002_1]) ?_ 0 _ rfl; (with_reducible repeat (first | refine blk_drewN ?_ _ | refine blk_drew ?_ | refine blk_alloc ?_ _)); exact BK177.out) hb); have n4_ := bs_ HB hb; clear BK174; clear BK175; clear BK176; clear BK177; clear HB; have BK174 := n0_; have BK175 := n1_; have BK176 := n2_; have BK177 := n3_; have HB := n4_; clear n0_ n1_ n2_ n3_ n4_; (try clear hb); (try clear hb2); (try clear hk); (try clear hi); have hcz32_0 : w31.cell? ⟨gb177, 0, none⟩ = some (.int .i64 t179) := bc_ BK177 0; have hcz32_1 : w31.cell? ⟨gb177, 1, none⟩ = some (.int .i64 t180) := bc_ BK177 1; have hcz32_2 : w31.cell? ⟨gb177, 2, none⟩ = some (.bool t181) := bc_ BK177 2; have hfz32_0 := blk_frozen BK177.out 0; have hfz32_1 := blk_frozen BK177.out 1; have hfz32_2 := blk_frozen BK177.out 2))
      go_roundg k1
      case measure => have := HK1.out; omega
      case rel => exact ⟨(wrap64 (x8_1 - 1)), (t182), (t183), (t184), (by first | rfl | (simp; done) | (simp [*]; done)), H', ⟨by have := HK1.out; omega⟩, ⟨by (with_reducible repeat (first | refine blk_drewN ?_ _ | refine blk_drew ?_ | refine blk_alloc ?_ _)); refine blk_far ?_ NB174_177.out _; (with_reducible repeat (first | refine blk_drewN ?_ _ | refine blk_drew ?_ | refine blk_alloc ?_ _)); refine blk_far ?_ NB174_177.out _; (with_reducible repeat (first | refine blk_drewN ?_ _ | refine blk_drew ?_ | refine blk_alloc ?_ _)); refine blk_far ?_ NB174_177.out _; (with_reducible repeat (first | refine blk_drewN ?_ _ | refine blk_drew ?_ | refine blk_alloc ?_ _)); exact BK174.out⟩, ⟨by (with_reducible repeat (first | refine blk_drewN ?_ _ | refine blk_drew ?_ | refine blk_alloc ?_ _)); refine blk_far ?_ NB175_177.out _; (with_reducible repeat (first | refine blk_drewN ?_ _ | refine blk_drew ?_ | refine blk_alloc ?_ _)); refine blk_far ?_ NB175_177.out _; (with_reducible repeat (first | refine blk_drewN ?_ _ | refine blk_drew ?_ | refine blk_alloc ?_ _)); refine blk_far ?_ NB175_177.out _; (with_reducible repeat (first | refine blk_drewN ?_ _ | refine blk_drew ?_ | refine blk_alloc ?_ _)); exact BK175.out⟩, ⟨by (with_reducible repeat (first | refine blk_drewN ?_ _ | refine blk_drew ?_ | refine blk_alloc ?_ _)); refine blk_far ?_ NB176_177.out _; (with_reducible repeat (first | refine blk_drewN ?_ _ | refine blk_drew ?_ | refine blk_alloc ?_ _)); refine blk_far ?_ NB176_177.out _; (with_reducible repeat (first | refine blk_drewN ?_ _ | refine blk_drew ?_ | refine blk_alloc ?_ _)); refine blk_far ?_ NB176_177.out _; (with_reducible repeat (first | refine blk_drewN ?_ _ | refine blk_drew ?_ | refine blk_alloc ?_ _)); exact BK176.out⟩, ⟨by (with_reducible repeat (first | refine blk_drewN ?_ _ | refine blk_drew ?_ | refine blk_alloc ?_ _)); refine blk_put (cs := #[.int .i64 t182, .int .i64 t183, .bool t181]) ?_ 2 _ rfl; (with_reducible repeat (first | refine blk_drewN ?_ _ | refine blk_drew ?_ | refine blk_alloc ?_ _)); refine blk_put (cs := #[.int .i64 t182, .int .i64 t180, .bool t181]) ?_ 1 _ rfl; (with_reducible repeat (first | refine blk_drewN ?_ _ | refine blk_drew ?_ | refine blk_alloc ?_ _)); refine blk_put (cs := #[.int .i64 t179, .int .i64 t180, .bool t181]) ?_ 0 _ rfl; (with_reducible repeat (first | refine blk_drewN ?_ _ | refine blk_drew ?_ | refine blk_alloc ?_ _)); exact BK177.out⟩, ⟨by repeat (first | (with_reducible first | exact HB.out | apply below_alloc | apply pw_below_drewN | apply below_drew1 | refine below_set ?_ GE174.out | refine below_set ?_ GE175.out | refine below_set ?_ GE176.out | refine below_set ?_ GE177.out) | exact HB.out)⟩⟩
     ·
      rw [if_neg c17] at H
      have c17b0 : ((Go.bits .and .i64 (ji16) 1) == 1) = false := beq_eq_false_iff_ne.mpr c17
      have c17b1 : ((Go.bits .and .i64 (ji16) 1) != 1) = true := bne_iff_ne.mpr c17
      have H' := Aside0.mk H
      clear H; have hnb33 := NB174_175.out; have hnc33 := NB175_174.out; have hnb34 := NB174_176.out; have hnc34 := NB176_174.out; have hnb35 := NB174_177.out; have hnc35 := NB177_174.out
      have hcz36_0 : wr.cell? ⟨gb174, 0, none⟩ = some (.int .i64 a0_0) := bc_ BK174 0
      have hcz36_1 : wr.cell? ⟨gb174, 1, none⟩ = some (.int .i64 a0_1) := bc_ BK174 1
      have hcz36_2 : wr.cell? ⟨gb174, 2, none⟩ = some (.int .i64 a0_2) := bc_ BK174 2
      have hcz36_3 : wr.cell? ⟨gb174, 3, none⟩ = some (.int .i64 a0_3) := bc_ BK174 3
      have hcz36_4 : wr.cell? ⟨gb174, 4, none⟩ = some (.int .i64 a0_4) := bc_ BK174 4
      have hcz36_5 : wr.cell? ⟨gb174, 5, none⟩ = some (.int .i64 a0_5) := bc_ BK174 5
      have hfz36_0 := blk_frozen BK174.out 0; have hfz36_1 := blk_frozen BK174.out 1; have hfz36_2 := blk_frozen BK174.out 2; have hfz36_3 := blk_frozen BK174.out 3; have hfz36_4 := blk_frozen BK174.out 4; have hfz36_5 := blk_frozen BK174.out 5; have hnb37 := NB177_175.out; have hnc37 := NB175_177.out; have hnb38 := NB177_176.out; have hnc38 := NB176_177.out
      have hcz39_0 : wr.cell? ⟨gb177, 0, none⟩ = some (.int .i64 x178000_1) := bc_ BK177 0
      have hcz39_1 : wr.cell? ⟨gb177, 1, none⟩ = some (.int .i64 x178001_1) := bc_ BK177 1
      have hcz39_2 : wr.cell? ⟨gb177, 2, none⟩ = some (.bool x178002_1) := bc_ BK177 2
      have hfz39_0 := blk_frozen BK177.out 0; have hfz39_1 := blk_frozen BK177.out 1; have hfz39_2 := blk_frozen BK177.out 2
      go_wp2_with (first | ((with_reducible refine gate_callee (f := 92) rfl ?_); refine goesL_ (some 21) rfl rfl Try.func92 (by kernel_rfl) rfl #[.agg #[.int .i64 a0_0, .int .i64 a0_1, .int .i64 a0_2, .int .i64 a0_3, .int .i64 a0_4, .int .i64 a0_5], .agg #[.int .i64 x178000_1, .int .i64 x178001_1, .bool x178002_1], .agg #[.int .i64 x178000_1, .int .i64 x178001_1, .bool x178002_1]] rfl (by (try simp only [List.map_toArray, List.map_cons, List.map_nil]); first | done | rfl | (simp only [List.length_drop, List.length_take]; rfl)) ?_; (with_reducible refine (impl_Curve_sum.calls k1 a0_0 a0_1 a0_2 a0_3 a0_4 a0_5 x178000_1 x178001_1 x178002_1 x178000_1 x178001_1 x178002_1 t179 t180 t181 _ A14.out).mono ?_); rintro e w40 ⟨rfl, hb⟩; refine ⟨_, rfl, ?_⟩; have n0_ := bb_ BK174 hb; have n1_ := bb_ BK175 hb; have n2_ := bb_ BK176 hb; have n3_ := bb_ BK177 hb; have n4_ := bs_ HB hb; clear BK174; clear BK175; clear BK176; clear BK177; clear HB; have BK174 := n0_; have BK175 := n1_; have BK176 := n2_; have BK177 := n3_; have HB := n4_; clear n0_ n1_ n2_ n3_ n4_; (try clear hb); (try clear hb2); (try clear hk); (try clear hi); have hcz41_0 : w40.cell? ⟨gb177, 0, none⟩ = some (.int .i64 x178000_1) := bc_ BK177 0; have hcz41_1 : w40.cell? ⟨gb177, 1, none⟩ = some (.int .i64 x178001_1) := bc_ BK177 1; have hcz41_2 : w40.cell? ⟨gb177, 2, none⟩ = some (.bool x178002_1) := bc_ BK177 2; have hfz41_0 := blk_frozen BK177.out 0; have hfz41_1 := blk_frozen BK177.out 1; have hfz41_2 := blk_frozen BK177.out 2))
      go_roundg k1
      case measure => have := HK1.out; omega
      case rel => exact ⟨(wrap64 (x8_1 - 1)), (t179), (t180), (t181), (by first | rfl | (simp; done) | (simp [*]; done)), H', ⟨by have := HK1.out; omega⟩, ⟨by (with_reducible repeat (first | refine blk_drewN ?_ _ | refine blk_drew ?_ | refine blk_alloc ?_ _)); refine blk_far ?_ NB174_177.out _; (with_reducible repeat (first | refine blk_drewN ?_ _ | refine blk_drew ?_ | refine blk_alloc ?_ _)); refine blk_far ?_ NB174_177.out _; (with_reducible repeat (first | refine blk_drewN ?_ _ | refine blk_drew ?_ | refine blk_alloc ?_ _)); refine blk_far ?_ NB174_177.out _; (with_reducible repeat (first | refine blk_drewN ?_ _ | refine blk_drew ?_ | refine blk_alloc ?_ _)); exact BK174.out⟩, ⟨by (with_reducible repeat (first | refine blk_drewN ?_ _ | refine blk_drew ?_ | refine blk_alloc ?_ _)); refine blk_far ?_ NB175_177.out _; (with_reducible repeat (first | refine blk_drewN ?_ _ | refine blk_drew ?_ | refine blk_alloc ?_ _)); refine blk_far ?_ NB175_177.out _; (with_reducible repeat (first | refine blk_drewN ?_ _ | refine blk_drew ?_ | refine blk_alloc ?_ _)); refine blk_far ?_ NB175_177.out _; (with_reducible repeat (first | refine blk_drewN ?_ _ | refine blk_drew ?_ | refine blk_alloc ?_ _)); exact BK175.out⟩, ⟨by (with_reducible repeat (first | refine blk_drewN ?_ _ | refine blk_drew ?_ | refine blk_alloc ?_ _)); refine blk_far ?_ NB176_177.out _; (with_reducible repeat (first | refine blk_drewN ?_ _ | refine blk_drew ?_ | refine blk_alloc ?_ _)); refine blk_far ?_ NB176_177.out _; (with_reducible repeat (first | refine blk_drewN ?_ _ | refine blk_drew ?_ | refine blk_alloc ?_ _)); refine blk_far ?_ NB176_177.out _; (with_reducible repeat (first | refine blk_drewN ?_ _ | refine blk_drew ?_ | refine blk_alloc ?_ _)); exact BK176.out⟩, ⟨by (with_reducible repeat (first | refine blk_drewN ?_ _ | refine blk_drew ?_ | refine blk_alloc ?_ _)); refine blk_put (cs := #[.int .i64 t179, .int .i64 t180, .bool x178002_1]) ?_ 2 _ rfl; (with_reducible repeat (first | refine blk_drewN ?_ _ | refine blk_drew ?_ | refine blk_alloc ?_ _)); refine blk_put (cs := #[.int .i64 t179, .int .i64 x178001_1, .bool x178002_1]) ?_ 1 _ rfl; (with_reducible repeat (first | refine blk_drewN ?_ _ | refine blk_drew ?_ | refine blk_alloc ?_ _)); refine blk_put (cs := #[.int .i64 x178000_1, .int .i64 x178001_1, .bool x178002_1]) ?_ 0 _ rfl; (with_reducible repeat (first | refine blk_drewN ?_ _ | refine blk_drew ?_ | refine blk_alloc ?_ _)); exact BK177.out⟩, ⟨by repeat (first | (with_reducible first | exact HB.out | apply below_alloc | apply pw_below_drewN | apply below_drew1 | refine below_set ?_ GE174.out | refine below_set ?_ GE175.out | refine below_set ?_ GE176.out | refine below_set ?_ GE177.out) | exact HB.out)⟩⟩
    · rw [if_neg c15] at H; exact absurd H (by simp)
   ·
    rw [if_neg c13] at H
    have c13b0 : decide (0 ≤ x8_1) = false := decide_eq_false c13
    clear c13
    simp only [Option.some.injEq, Prod.mk.injEq] at H
    obtain ⟨rfl, rfl, rfl⟩ := H; have hnb42 := NB177_174.out; have hnc42 := NB174_177.out; have hnb43 := NB177_175.out; have hnc43 := NB175_177.out; have hnb44 := NB177_176.out; have hnc44 := NB176_177.out
    have hcz45_0 : wr.cell? ⟨gb177, 0, none⟩ = some (.int .i64 x178000_1) := bc_ BK177 0
    have hcz45_1 : wr.cell? ⟨gb177, 1, none⟩ = some (.int .i64 x178001_1) := bc_ BK177 1
    have hcz45_2 : wr.cell? ⟨gb177, 2, none⟩ = some (.bool x178002_1) := bc_ BK177 2
    have hfz45_0 := blk_frozen BK177.out 0; have hfz45_1 := blk_frozen BK177.out 1; have hfz45_2 := blk_frozen BK177.out 2; have hnb46 := NB176_174.out; have hnc46 := NB174_176.out; have hnb47 := NB176_175.out; have hnc47 := NB175_176.out
    have hcz48_0 : wr.cell? ⟨gb176, 0, none⟩ = some (.int .i64 0) := bc_ BK176 0
    have hcz48_1 : wr.cell? ⟨gb176, 1, none⟩ = some (.int .i64 0) := bc_ BK176 1
    have hcz48_2 : wr.cell? ⟨gb176, 2, none⟩ = some (.bool false) := bc_ BK176 2
    have hfz48_0 := blk_frozen BK176.out 0; have hfz48_1 := blk_frozen BK176.out 1; have hfz48_2 := blk_frozen BK176.out 2
    go_wp2
    refine bodyPost_ret (results_cell_row rfl _ _ gb176 55 #[.int .i64 x178000_1, .int .i64 x178001_1, .bool x178002_1] (0, 0) _ rfl (by (with_reducible repeat (first | refine blk_drewN ?_ _ | refine blk_drew ?_ | refine blk_alloc ?_ _)); refine blk_put (cs := #[.int .i64 x178000_1, .int .i64 x178001_1, .bool false]) ?_ 2 _ rfl; (with_reducible repeat (first | refine blk_drewN ?_ _ | refine blk_drew ?_ | refine blk_alloc ?_ _)); refine blk_put (cs := #[.int .i64 x178000_1, .int .i64 0, .bool false]) ?_ 1 _ rfl; (with_reducible repeat (first | refine blk_drewN ?_ _ | refine blk_drew ?_ | refine blk_alloc ?_ _)); refine blk_put (cs := #[.int .i64 0, .int .i64 0, .bool false]) ?_ 0 _ rfl; (with_reducible repeat (first | refine blk_drewN ?_ _ | refine blk_drew ?_ | refine blk_alloc ?_ _)); exact BK176.out) Try.underlying55 rfl (by kernel_rfl)) rfl ?_; exact ⟨by first | rfl | (simp [errW_none, errW_some] <;> rfl) | (simp [*, errW_none, errW_some] <;> rfl), by repeat (first | (with_reducible first | exact HB.out | apply below_alloc | apply pw_below_drewN | apply below_drew1 | refine below_set ?_ GE174.out | refine below_set ?_ GE175.out | refine below_set ?_ GE176.out | refine below_set ?_ GE177.out) | exact HB.out)⟩

end Go.Proofs.Ytohplbcbkggjaab.PFnExactPointOk
