-- Written for this claim by a program of this session.
import Derived.Test.YtohplbcbkggjaabPFnExactCurveOkx0
import Derived.Test.YtohplbcbkggjaabPFnExactCurveOkx1
import Derived.Test.YtohplbcbkggjaabPFnExactCurveOkx5
namespace Go.Proofs.Ytohplbcbkggjaab.PFnExactCurveOk
open Go.RowKit Go.Proofs.YtohplbcbkggjaabW.PrintWords Go.Proofs.YtohplbcbkggjaabW.PrintLast Go.Proofs.YtohplbcbkggjaabW.PrintMore
attribute [local go_sem] max2_int min2_int max_two min_two max_three min_three max_four min_four   -- for this text's walks alone
set_option linter.unusedVariables false
set_option linter.unusedSimpArgs false

attribute [local go_sem high] eqA55
attribute [local go_sem] fld_
/-! ### impl_Curve_sum: function 92 -/
mutual
def impl_Curve_sum.j0 : Nat → Int → Int → Int → Int → Int → Int → Int → Int → Bool → Int → Int → Bool → Option (Int × Int × Bool)
  | 0, _, _, _, _, _, _, _, _, _, _, _, _ => none
  | k + 1, x159000, x159001, x159002, x159003, x159004, x159005, x160000, x160001, x160002, x161000, x161001, x161002 => if (x160000 == x161000 && (x160001 == x161001 && (x160002 == x161002))) = true then (impl_Curve_sum.j1 k (wrap64 ((wrap64 ((wrap64 (3 * x160000)) * x160000)) + x159001)) (wrap64 (2 * x160001)) x159000 x159001 x159002 x159003 x159004 x159005 x160000 x160001 x160002 x161000 x161001 x161002) else (impl_Curve_sum.j1 k (wrap64 (x161001 - x160001)) (wrap64 (x161000 - x160000)) x159000 x159001 x159002 x159003 x159004 x159005 x160000 x160001 x160002 x161000 x161001 x161002)
def impl_Curve_sum.j1 : Nat → Int → Int → Int → Int → Int → Int → Int → Int → Int → Int → Bool → Int → Int → Bool → Option (Int × Int × Bool)
  | 0, _, _, _, _, _, _, _, _, _, _, _, _, _, _ => none
  | k + 1, x7, x8, x159000, x159001, x159002, x159003, x159004, x159005, x160000, x160001, x160002, x161000, x161001, x161002 => (impl_InvInt.f k x8 x159000).bind fun bt162 => ((impl_rest.f x7 x159000).bind fun t164 => (if x159000 = 0 then (none) else ((impl_rest.f (wrap64 ((wrap64 ((wrap64 ((Int.tmod (wrap64 (t164 * bt162.1)) x159000) * (Int.tmod (wrap64 (t164 * bt162.1)) x159000))) - x160000)) - x161000)) x159000).bind fun t165 => ((impl_rest.f (wrap64 ((wrap64 ((Int.tmod (wrap64 (t164 * bt162.1)) x159000) * (wrap64 (x160000 - t165)))) - x160001)) x159000).bind fun t166 => (some (t165, t166, false))))))
end
def impl_Curve_sum.f (k : Nat) (a0_0 : Int) (a0_1 : Int) (a0_2 : Int) (a0_3 : Int) (a0_4 : Int) (a0_5 : Int) (a1_0 : Int) (a1_1 : Int) (a1_2 : Bool) (a2_0 : Int) (a2_1 : Int) (a2_2 : Bool) : Option (Int × Int × Bool) := if a1_2 = true then (some (a2_0, a2_1, a2_2)) else (if a2_2 = true then (some (a1_0, a1_1, a1_2)) else (if a1_0 = a2_0 then (if a0_0 = 0 then (none) else (if (Int.tmod (wrap64 (a1_1 + a2_1)) a0_0) = 0 then (some (0, 0, true)) else (impl_Curve_sum.j0 k a0_0 a0_1 a0_2 a0_3 a0_4 a0_5 a1_0 a1_1 a1_2 a2_0 a2_1 a2_2))) else (impl_Curve_sum.j0 k a0_0 a0_1 a0_2 a0_3 a0_4 a0_5 a1_0 a1_1 a1_2 a2_0 a2_1 a2_2)))
theorem impl_Curve_sum.mono_l : ∀ k, (∀ y0 y1 y2 y3 y4 y5 y6 y7 y8 y9 y10 y11, LeO (impl_Curve_sum.j0 k y0 y1 y2 y3 y4 y5 y6 y7 y8 y9 y10 y11) (impl_Curve_sum.j0 (k + 1) y0 y1 y2 y3 y4 y5 y6 y7 y8 y9 y10 y11)) ∧ (∀ y0 y1 y2 y3 y4 y5 y6 y7 y8 y9 y10 y11 y12 y13, LeO (impl_Curve_sum.j1 k y0 y1 y2 y3 y4 y5 y6 y7 y8 y9 y10 y11 y12 y13) (impl_Curve_sum.j1 (k + 1) y0 y1 y2 y3 y4 y5 y6 y7 y8 y9 y10 y11 y12 y13))
 | 0 => ⟨fun _ _ _ _ _ _ _ _ _ _ _ _ r h => by simp [impl_Curve_sum.j0] at h, fun _ _ _ _ _ _ _ _ _ _ _ _ _ _ r h => by simp [impl_Curve_sum.j1] at h⟩
 | k + 1 => by
  obtain ⟨ih0, ih1⟩ := impl_Curve_sum.mono_l k
  refine ⟨?_, ?_⟩
  ·
   intro y0 y1 y2 y3 y4 y5 y6 y7 y8 y9 y10 y11
   unfold impl_Curve_sum.j0
   repeat' first
   | (with_reducible exact ih0 _ _ _ _ _ _ _ _ _ _ _ _)
   | (with_reducible exact ih1 _ _ _ _ _ _ _ _ _ _ _ _ _ _)
   | (with_reducible exact impl_InvInt.mono _ _ _)
   | (with_reducible exact LeO.refl _)
   | (with_reducible exact LeO.none _)
   | (with_reducible refine LeO.ite ?_ ?_)
   | (with_reducible refine LeO.bind ?_ (fun _ => ?_))
   | exact ih0 _ _ _ _ _ _ _ _ _ _ _ _
   | exact ih1 _ _ _ _ _ _ _ _ _ _ _ _ _ _
   | exact impl_InvInt.mono _ _ _
   | exact LeO.none _
   | refine LeO.ite ?_ ?_
   | refine LeO.bind ?_ (fun _ => ?_)
  ·
   intro y0 y1 y2 y3 y4 y5 y6 y7 y8 y9 y10 y11 y12 y13
   unfold impl_Curve_sum.j1
   repeat' first
   | (with_reducible exact ih0 _ _ _ _ _ _ _ _ _ _ _ _)
   | (with_reducible exact ih1 _ _ _ _ _ _ _ _ _ _ _ _ _ _)
   | (with_reducible exact impl_InvInt.mono _ _ _)
   | (with_reducible exact LeO.refl _)
   | (with_reducible exact LeO.none _)
   | (with_reducible refine LeO.ite ?_ ?_)
   | (with_reducible refine LeO.bind ?_ (fun _ => ?_))
   | exact ih0 _ _ _ _ _ _ _ _ _ _ _ _
   | exact ih1 _ _ _ _ _ _ _ _ _ _ _ _ _ _
   | exact impl_InvInt.mono _ _ _
   | exact LeO.none _
   | refine LeO.ite ?_ ?_
   | refine LeO.bind ?_ (fun _ => ?_)
theorem impl_Curve_sum.mono : ∀ a0 a1 a2 a3 a4 a5 a6 a7 a8 a9 a10 a11 k, LeO (impl_Curve_sum.f k a0 a1 a2 a3 a4 a5 a6 a7 a8 a9 a10 a11) (impl_Curve_sum.f (k + 1) a0 a1 a2 a3 a4 a5 a6 a7 a8 a9 a10 a11) := by
 intro a0 a1 a2 a3 a4 a5 a6 a7 a8 a9 a10 a11 k; obtain ⟨ih0, ih1⟩ := impl_Curve_sum.mono_l k
 unfold impl_Curve_sum.f
 repeat' first
   | (with_reducible exact ih0 _ _ _ _ _ _ _ _ _ _ _ _)
   | (with_reducible exact ih1 _ _ _ _ _ _ _ _ _ _ _ _ _ _)
   | (with_reducible exact impl_InvInt.mono _ _ _)
   | (with_reducible exact LeO.refl _)
   | (with_reducible exact LeO.none _)
   | (with_reducible refine LeO.ite ?_ ?_)
   | (with_reducible refine LeO.bind ?_ (fun _ => ?_))
   | exact ih0 _ _ _ _ _ _ _ _ _ _ _ _
   | exact ih1 _ _ _ _ _ _ _ _ _ _ _ _ _ _
   | exact impl_InvInt.mono _ _ _
   | exact LeO.none _
   | refine LeO.ite ?_ ?_
   | refine LeO.bind ?_ (fun _ => ?_)
set_option maxHeartbeats 8000000 in
set_option maxRecDepth 100000 in
theorem impl_Curve_sum.calls (k : Nat) (a0_0 : Int) (a0_1 : Int) (a0_2 : Int) (a0_3 : Int) (a0_4 : Int) (a0_5 : Int) (a1_0 : Int) (a1_1 : Int) (a1_2 : Bool) (a2_0 : Int) (a2_1 : Int) (a2_2 : Bool) (r1 : Int) (r2 : Int) (r3 : Bool) (w : World) (h : impl_Curve_sum.f k a0_0 a0_1 a0_2 a0_3 a0_4 a0_5 a1_0 a1_1 a1_2 a2_0 a2_1 a2_2 = some (r1, r2, r3)) :
  Calls Try.prog 92 #[.agg #[.int .i64 a0_0, .int .i64 a0_1, .int .i64 a0_2, .int .i64 a0_3, .int .i64 a0_4, .int .i64 a0_5], .agg #[.int .i64 a1_0, .int .i64 a1_1, .bool a1_2], .agg #[.int .i64 a2_0, .int .i64 a2_1, .bool a2_2]] w fun e w' => e = .returned (.agg #[.int .i64 r1, .int .i64 r2, .bool r3]) ∧ Below w.heap.size w w' := by
 have hu43 := Try.underlying43; have hu55 := Try.underlying55; have HB := Aside0.mk (Below.refl w.heap.size w)
 have H : (if a1_2 = true then (some (a2_0, a2_1, a2_2)) else (if a2_2 = true then (some (a1_0, a1_1, a1_2)) else (if a1_0 = a2_0 then (if a0_0 = 0 then (none) else (if (Int.tmod (wrap64 (a1_1 + a2_1)) a0_0) = 0 then (some (0, 0, true)) else (impl_Curve_sum.j0 k a0_0 a0_1 a0_2 a0_3 a0_4 a0_5 a1_0 a1_1 a1_2 a2_0 a2_1 a2_2))) else (impl_Curve_sum.j0 k a0_0 a0_1 a0_2 a0_3 a0_4 a0_5 a1_0 a1_1 a1_2 a2_0 a2_1 a2_2)))) = some (r1, r2, r3) := h
 clear h; have HC4 := Aside0.mk H; clear H
 go_enter Try.func92, Try.ntmps92
 go_upto_block 0 with (first | ((with_reducible refine gate_dst (N := 3) rfl ?_); refine box_event ?hg (N := 3) ?hd (cs := #[.int .i64 a0_0, .int .i64 a0_1, .int .i64 a0_2, .int .i64 a0_3, .int .i64 a0_4, .int .i64 a0_5]) (t := 43) ?hr ?_; (case hd => rfl); (case hg => rfl); (case hr => first | (go_simp; done) | (go_simp; rfl)); intro gb158 hg w5 hbox hb; have n0_ := bs_ HB hb; have n1_ := Aside0.mk hbox; have n2_ := ge_ HB hg; have n3_ := ge_ HB hg; clear HB; have HB := n0_; have BK158 := n1_; have GW158 := n2_; have GE158 := n3_; clear n0_ n1_ n2_ n3_; clear hb hbox hg) | ((with_reducible refine gate_dst (N := 4) rfl ?_); refine box_event ?hg (N := 4) ?hd (cs := #[.int .i64 a1_0, .int .i64 a1_1, .bool a1_2]) (t := 55) ?hr ?_; (case hd => rfl); (case hg => rfl); (case hr => first | (go_simp; done) | (go_simp; rfl)); intro gb159 hg w6 hbox hb; have n0_ := bb_ BK158 hb; have n1_ := bs_ HB hb; have n2_ := Aside0.mk hbox; have n3_ := ge_ HB hg; have n4_ := ge_ HB hg; have n5_ := nl_ BK158 hg; have n6_ := nr_ BK158 hg; clear BK158; clear HB; have BK158 := n0_; have HB := n1_; have BK159 := n2_; have GW159 := n3_; have GE159 := n4_; have NB158_159 := n5_; have NB159_158 := n6_; clear n0_ n1_ n2_ n3_ n4_ n5_ n6_; clear hb hbox hg) | ((with_reducible refine gate_dst (N := 5) rfl ?_); refine box_event ?hg (N := 5) ?hd (cs := #[.int .i64 a2_0, .int .i64 a2_1, .bool a2_2]) (t := 55) ?hr ?_; (case hd => rfl); (case hg => rfl); (case hr => first | (go_simp; done) | (go_simp; rfl)); intro gb160 hg w7 hbox hb; have n0_ := bb_ BK158 hb; have n1_ := bb_ BK159 hb; have n2_ := bs_ HB hb; have n3_ := Aside0.mk hbox; have n4_ := ge_ HB hg; have n5_ := ge_ HB hg; have n6_ := nl_ BK158 hg; have n7_ := nr_ BK158 hg; have n8_ := nl_ BK159 hg; have n9_ := nr_ BK159 hg; clear BK158; clear BK159; clear HB; have BK158 := n0_; have BK159 := n1_; have HB := n2_; have BK160 := n3_; have GW160 := n4_; have GE160 := n5_; have NB158_160 := n6_; have NB160_158 := n7_; have NB159_160 := n8_; have NB160_159 := n9_; clear n0_ n1_ n2_ n3_ n4_ n5_ n6_ n7_ n8_ n9_; clear hb hbox hg) | ((with_reducible refine gate_dst (N := 6) rfl ?_); refine box_event ?hg (N := 6) ?hd (cs := #[.int .i64 0, .int .i64 0, .bool false]) (t := 55) ?hr ?_; (case hd => rfl); (case hg => rfl); (case hr => first | (go_simp; done) | (go_simp; rfl)); intro gb161 hg w8 hbox hb; have n0_ := bb_ BK158 hb; have n1_ := bb_ BK159 hb; have n2_ := bb_ BK160 hb; have n3_ := bs_ HB hb; have n4_ := Aside0.mk hbox; have n5_ := ge_ HB hg; have n6_ := ge_ HB hg; have n7_ := nl_ BK158 hg; have n8_ := nr_ BK158 hg; have n9_ := nl_ BK159 hg; have n10_ := nr_ BK159 hg; have n11_ := nl_ BK160 hg; have n12_ := nr_ BK160 hg; clear BK158; clear BK159; clear BK160; clear HB; have BK158 := n0_; have BK159 := n1_; have BK160 := n2_; have HB := n3_; have BK161 := n4_; have GW161 := n5_; have GE161 := n6_; have NB158_161 := n7_; have NB161_158 := n8_; have NB159_161 := n9_; have NB161_159 := n10_; have NB160_161 := n11_; have NB161_160 := n12_; clear n0_ n1_ n2_ n3_ n4_ n5_ n6_ n7_ n8_ n9_ n10_ n11_ n12_; clear hb hbox hg))
 repeat (go_quiet (first | ((with_reducible refine gate_dst (N := 3) rfl ?_); refine box_event ?hg (N := 3) ?hd (cs := #[.int .i64 a0_0, .int .i64 a0_1, .int .i64 a0_2, .int .i64 a0_3, .int .i64 a0_4, .int .i64 a0_5]) (t := 43) ?hr ?_; (case hd => rfl); (case hg => rfl); (case hr => first | (go_simp; done) | (go_simp; rfl)); intro gb158 hg w5 hbox hb; have n0_ := bs_ HB hb; have n1_ := Aside0.mk hbox; have n2_ := ge_ HB hg; have n3_ := ge_ HB hg; clear HB; have HB := n0_; have BK158 := n1_; have GW158 := n2_; have GE158 := n3_; clear n0_ n1_ n2_ n3_; clear hb hbox hg) | ((with_reducible refine gate_dst (N := 4) rfl ?_); refine box_event ?hg (N := 4) ?hd (cs := #[.int .i64 a1_0, .int .i64 a1_1, .bool a1_2]) (t := 55) ?hr ?_; (case hd => rfl); (case hg => rfl); (case hr => first | (go_simp; done) | (go_simp; rfl)); intro gb159 hg w6 hbox hb; have n0_ := bb_ BK158 hb; have n1_ := bs_ HB hb; have n2_ := Aside0.mk hbox; have n3_ := ge_ HB hg; have n4_ := ge_ HB hg; have n5_ := nl_ BK158 hg; have n6_ := nr_ BK158 hg; clear BK158; clear HB; have BK158 := n0_; have HB := n1_; have BK159 := n2_; have GW159 := n3_; have GE159 := n4_; have NB158_159 := n5_; have NB159_158 := n6_; clear n0_ n1_ n2_ n3_ n4_ n5_ n6_; clear hb hbox hg) | ((with_reducible refine gate_dst (N := 5) rfl ?_); refine box_event ?hg (N := 5) ?hd (cs := #[.int .i64 a2_0, .int .i64 a2_1, .bool a2_2]) (t := 55) ?hr ?_; (case hd => rfl); (case hg => rfl); (case hr => first | (go_simp; done) | (go_simp; rfl)); intro gb160 hg w7 hbox hb; have n0_ := bb_ BK158 hb; have n1_ := bb_ BK159 hb; have n2_ := bs_ HB hb; have n3_ := Aside0.mk hbox; have n4_ := ge_ HB hg; have n5_ := ge_ HB hg; have n6_ := nl_ BK158 hg; have n7_ := nr_ BK158 hg; have n8_ := nl_ BK159 hg; have n9_ := nr_ BK159 hg; clear BK158; clear BK159; clear HB; have BK158 := n0_; have BK159 := n1_; have HB := n2_; have BK160 := n3_; have GW160 := n4_; have GE160 := n5_; have NB158_160 := n6_; have NB160_158 := n7_; have NB159_160 := n8_; have NB160_159 := n9_; clear n0_ n1_ n2_ n3_ n4_ n5_ n6_ n7_ n8_ n9_; clear hb hbox hg) | ((with_reducible refine gate_dst (N := 6) rfl ?_); refine box_event ?hg (N := 6) ?hd (cs := #[.int .i64 0, .int .i64 0, .bool false]) (t := 55) ?hr ?_; (case hd => rfl); (case hg => rfl); (case hr => first | (go_simp; done) | (go_simp; rfl)); intro gb161 hg w8 hbox hb; have n0_ := bb_ BK158 hb; have n1_ := bb_ BK159 hb; have n2_ := bb_ BK160 hb; have n3_ := bs_ HB hb; have n4_ := Aside0.mk hbox; have n5_ := ge_ HB hg; have n6_ := ge_ HB hg; have n7_ := nl_ BK158 hg; have n8_ := nr_ BK158 hg; have n9_ := nl_ BK159 hg; have n10_ := nr_ BK159 hg; have n11_ := nl_ BK160 hg; have n12_ := nr_ BK160 hg; clear BK158; clear BK159; clear BK160; clear HB; have BK158 := n0_; have BK159 := n1_; have BK160 := n2_; have HB := n3_; have BK161 := n4_; have GW161 := n5_; have GE161 := n6_; have NB158_161 := n7_; have NB161_158 := n8_; have NB159_161 := n9_; have NB161_159 := n10_; have NB160_161 := n11_; have NB161_160 := n12_; clear n0_ n1_ n2_ n3_ n4_ n5_ n6_ n7_ n8_ n9_ n10_ n11_ n12_; clear hb hbox hg)); go_upto_block 0 with (first | ((with_reducible refine gate_dst (N := 3) rfl ?_); refine box_event ?hg (N := 3) ?hd (cs := #[.int .i64 a0_0, .int .i64 a0_1, .int .i64 a0_2, .int .i64 a0_3, .int .i64 a0_4, .int .i64 a0_5]) (t := 43) ?hr ?_; (case hd => rfl); (case hg => rfl); (case hr => first | (go_simp; done) | (go_simp; rfl)); intro gb158 hg w5 hbox hb; have n0_ := bs_ HB hb; have n1_ := Aside0.mk hbox; have n2_ := ge_ HB hg; have n3_ := ge_ HB hg; clear HB; have HB := n0_; have BK158 := n1_; have GW158 := n2_; have GE158 := n3_; clear n0_ n1_ n2_ n3_; clear hb hbox hg) | ((with_reducible refine gate_dst (N := 4) rfl ?_); refine box_event ?hg (N := 4) ?hd (cs := #[.int .i64 a1_0, .int .i64 a1_1, .bool a1_2]) (t := 55) ?hr ?_; (case hd => rfl); (case hg => rfl); (case hr => first | (go_simp; done) | (go_simp; rfl)); intro gb159 hg w6 hbox hb; have n0_ := bb_ BK158 hb; have n1_ := bs_ HB hb; have n2_ := Aside0.mk hbox; have n3_ := ge_ HB hg; have n4_ := ge_ HB hg; have n5_ := nl_ BK158 hg; have n6_ := nr_ BK158 hg; clear BK158; clear HB; have BK158 := n0_; have HB := n1_; have BK159 := n2_; have GW159 := n3_; have GE159 := n4_; have NB158_159 := n5_; have NB159_158 := n6_; clear n0_ n1_ n2_ n3_ n4_ n5_ n6_; clear hb hbox hg) | ((with_reducible refine gate_dst (N := 5) rfl ?_); refine box_event ?hg (N := 5) ?hd (cs := #[.int .i64 a2_0, .int .i64 a2_1, .bool a2_2]) (t := 55) ?hr ?_; (case hd => rfl); (case hg => rfl); (case hr => first | (go_simp; done) | (go_simp; rfl)); intro gb160 hg w7 hbox hb; have n0_ := bb_ BK158 hb; have n1_ := bb_ BK159 hb; have n2_ := bs_ HB hb; have n3_ := Aside0.mk hbox; have n4_ := ge_ HB hg; have n5_ := ge_ HB hg; have n6_ := nl_ BK158 hg; have n7_ := nr_ BK158 hg; have n8_ := nl_ BK159 hg; have n9_ := nr_ BK159 hg; clear BK158; clear BK159; clear HB; have BK158 := n0_; have BK159 := n1_; have HB := n2_; have BK160 := n3_; have GW160 := n4_; have GE160 := n5_; have NB158_160 := n6_; have NB160_158 := n7_; have NB159_160 := n8_; have NB160_159 := n9_; clear n0_ n1_ n2_ n3_ n4_ n5_ n6_ n7_ n8_ n9_; clear hb hbox hg) | ((with_reducible refine gate_dst (N := 6) rfl ?_); refine box_event ?hg (N := 6) ?hd (cs := #[.int .i64 0, .int .i64 0, .bool false]) (t := 55) ?hr ?_; (case hd => rfl); (case hg => rfl); (case hr => first | (go_simp; done) | (go_simp; rfl)); intro gb161 hg w8 hbox hb; have n0_ := bb_ BK158 hb; have n1_ := bb_ BK159 hb; have n2_ := bb_ BK160 hb; have n3_ := bs_ HB hb; have n4_ := Aside0.mk hbox; have n5_ := ge_ HB hg; have n6_ := ge_ HB hg; have n7_ := nl_ BK158 hg; have n8_ := nr_ BK158 hg; have n9_ := nl_ BK159 hg; have n10_ := nr_ BK159 hg; have n11_ := nl_ BK160 hg; have n12_ := nr_ BK160 hg; clear BK158; clear BK159; clear BK160; clear HB; have BK158 := n0_; have BK159 := n1_; have BK160 := n2_; have HB := n3_; have BK161 := n4_; have GW161 := n5_; have GE161 := n6_; have NB158_161 := n7_; have NB161_158 := n8_; have NB159_161 := n9_; have NB161_159 := n10_; have NB160_161 := n11_; have NB161_160 := n12_; clear n0_ n1_ n2_ n3_ n4_ n5_ n6_ n7_ n8_ n9_ n10_ n11_ n12_; clear hb hbox hg)))
 (try simp only [Act.put, sA_, sZ_, sS_])
 go_cut [] (fun wc => ∃ (kq : Nat) (x162000_3 : Int) (x162001_3 : Int) (x162002_3 : Bool), Aside0 (impl_Curve_sum.j0 kq a0_0 a0_1 a0_2 a0_3 a0_4 a0_5 a1_0 a1_1 a1_2 a2_0 a2_1 a2_2 = some (r1, r2, r3)) ∧ Aside0 (kq ≤ k) ∧ Aside0 (wc.heap[gb158]? = some (.cells #[.int .i64 a0_0, .int .i64 a0_1, .int .i64 a0_2, .int .i64 a0_3, .int .i64 a0_4, .int .i64 a0_5] 43 (0, 0))) ∧ Aside0 (wc.heap[gb159]? = some (.cells #[.int .i64 a1_0, .int .i64 a1_1, .bool a1_2] 55 (0, 0))) ∧ Aside0 (wc.heap[gb160]? = some (.cells #[.int .i64 a2_0, .int .i64 a2_1, .bool a2_2] 55 (0, 0))) ∧ Aside0 (wc.heap[gb161]? = some (.cells #[.int .i64 x162000_3, .int .i64 x162001_3, .bool x162002_3] 55 (0, 0))) ∧ Aside0 (Below w.heap.size w wc))
 case first =>
  have H := HC4.out; clear HC4
  by_cases c9 : a1_2 = true
  ·
   subst c9
   have H1 : (some (a2_0, a2_1, a2_2)) = some (r1, r2, r3) := by rw [if_pos rfl] at H; exact H
   clear H; have H := H1; clear H1
   simp only [Option.some.injEq, Prod.mk.injEq] at H
   obtain ⟨rfl, rfl, rfl⟩ := H; have hnb10 := NB159_158.out; have hnc10 := NB158_159.out; have hnb11 := NB159_160.out; have hnc11 := NB160_159.out; have hnb12 := NB159_161.out; have hnc12 := NB161_159.out
   have hcz13_0 : w8.cell? ⟨gb159, 0, none⟩ = some (.int .i64 a1_0) := bc_ BK159 0
   have hcz13_1 : w8.cell? ⟨gb159, 1, none⟩ = some (.int .i64 a1_1) := bc_ BK159 1
   have hcz13_2 : w8.cell? ⟨gb159, 2, none⟩ = some (.bool true) := bc_ BK159 2
   have hfz13_0 := blk_frozen BK159.out 0; have hfz13_1 := blk_frozen BK159.out 1; have hfz13_2 := blk_frozen BK159.out 2; have hnb14 := NB160_158.out; have hnc14 := NB158_160.out; have hnb15 := NB160_161.out; have hnc15 := NB161_160.out
   have hcz16_0 : w8.cell? ⟨gb160, 0, none⟩ = some (.int .i64 a2_0) := bc_ BK160 0
   have hcz16_1 : w8.cell? ⟨gb160, 1, none⟩ = some (.int .i64 a2_1) := bc_ BK160 1
   have hcz16_2 : w8.cell? ⟨gb160, 2, none⟩ = some (.bool a2_2) := bc_ BK160 2
   have hfz16_0 := blk_frozen BK160.out 0; have hfz16_1 := blk_frozen BK160.out 1; have hfz16_2 := blk_frozen BK160.out 2; have hnb17 := NB161_158.out; have hnc17 := NB158_161.out
   have hcz18_0 : w8.cell? ⟨gb161, 0, none⟩ = some (.int .i64 0) := bc_ BK161 0
   have hcz18_1 : w8.cell? ⟨gb161, 1, none⟩ = some (.int .i64 0) := bc_ BK161 1
   have hcz18_2 : w8.cell? ⟨gb161, 2, none⟩ = some (.bool false) := bc_ BK161 2
   have hfz18_0 := blk_frozen BK161.out 0; have hfz18_1 := blk_frozen BK161.out 1; have hfz18_2 := blk_frozen BK161.out 2
   go_wp2
   repeat (go_quiet (fail); try go_wp2)
   refine bodyPost_ret (results_cell_row rfl _ _ gb161 55 #[.int .i64 a2_0, .int .i64 a2_1, .bool a2_2] (0, 0) _ rfl (by (with_reducible repeat (first | refine blk_drewN ?_ _ | refine blk_drew ?_ | refine blk_alloc ?_ _)); refine blk_put (cs := #[.int .i64 a2_0, .int .i64 a2_1, .bool false]) ?_ 2 _ rfl; (with_reducible repeat (first | refine blk_drewN ?_ _ | refine blk_drew ?_ | refine blk_alloc ?_ _)); refine blk_put (cs := #[.int .i64 a2_0, .int .i64 0, .bool false]) ?_ 1 _ rfl; (with_reducible repeat (first | refine blk_drewN ?_ _ | refine blk_drew ?_ | refine blk_alloc ?_ _)); refine blk_put (cs := #[.int .i64 0, .int .i64 0, .bool false]) ?_ 0 _ rfl; (with_reducible repeat (first | refine blk_drewN ?_ _ | refine blk_drew ?_ | refine blk_alloc ?_ _)); exact BK161.out) Try.underlying55 rfl (by kernel_rfl)) rfl ?_; exact ⟨by first | rfl | (simp [errW_none, errW_some] <;> rfl) | (simp [*, errW_none, errW_some] <;> rfl), by repeat (first | (with_reducible first | exact HB.out | apply below_alloc | apply pw_below_drewN | apply below_drew1 | refine below_set ?_ GE158.out | refine below_set ?_ GE159.out | refine below_set ?_ GE160.out | refine below_set ?_ GE161.out) | exact HB.out)⟩
  ·
   replace c9 := Bool.eq_false_iff.mpr c9; subst c9
   have H1 : (if a2_2 = true then (some (a1_0, a1_1, false)) else (if a1_0 = a2_0 then (if a0_0 = 0 then (none) else (if (Int.tmod (wrap64 (a1_1 + a2_1)) a0_0) = 0 then (some (0, 0, true)) else (impl_Curve_sum.j0 k a0_0 a0_1 a0_2 a0_3 a0_4 a0_5 a1_0 a1_1 false a2_0 a2_1 a2_2))) else (impl_Curve_sum.j0 k a0_0 a0_1 a0_2 a0_3 a0_4 a0_5 a1_0 a1_1 false a2_0 a2_1 a2_2))) = some (r1, r2, r3) := by rw [if_neg (show ¬ (false = true) by decide)] at H; exact H
   clear H; have H := H1; clear H1
   by_cases c19 : a2_2 = true
   ·
    subst c19
    have H1 : (some (a1_0, a1_1, false)) = some (r1, r2, r3) := by rw [if_pos rfl] at H; exact H
    clear H; have H := H1; clear H1
    simp only [Option.some.injEq, Prod.mk.injEq] at H
    obtain ⟨rfl, rfl, rfl⟩ := H; have hnb20 := NB159_158.out; have hnc20 := NB158_159.out; have hnb21 := NB159_160.out; have hnc21 := NB160_159.out; have hnb22 := NB159_161.out; have hnc22 := NB161_159.out
    have hcz23_0 : w8.cell? ⟨gb159, 0, none⟩ = some (.int .i64 a1_0) := bc_ BK159 0
    have hcz23_1 : w8.cell? ⟨gb159, 1, none⟩ = some (.int .i64 a1_1) := bc_ BK159 1
    have hcz23_2 : w8.cell? ⟨gb159, 2, none⟩ = some (.bool false) := bc_ BK159 2
    have hfz23_0 := blk_frozen BK159.out 0; have hfz23_1 := blk_frozen BK159.out 1; have hfz23_2 := blk_frozen BK159.out 2; have hnb24 := NB160_158.out; have hnc24 := NB158_160.out; have hnb25 := NB160_161.out; have hnc25 := NB161_160.out
    have hcz26_0 : w8.cell? ⟨gb160, 0, none⟩ = some (.int .i64 a2_0) := bc_ BK160 0
    have hcz26_1 : w8.cell? ⟨gb160, 1, none⟩ = some (.int .i64 a2_1) := bc_ BK160 1
    have hcz26_2 : w8.cell? ⟨gb160, 2, none⟩ = some (.bool true) := bc_ BK160 2
    have hfz26_0 := blk_frozen BK160.out 0; have hfz26_1 := blk_frozen BK160.out 1; have hfz26_2 := blk_frozen BK160.out 2; have hnb27 := NB161_158.out; have hnc27 := NB158_161.out
    have hcz28_0 : w8.cell? ⟨gb161, 0, none⟩ = some (.int .i64 0) := bc_ BK161 0
    have hcz28_1 : w8.cell? ⟨gb161, 1, none⟩ = some (.int .i64 0) := bc_ BK161 1
    have hcz28_2 : w8.cell? ⟨gb161, 2, none⟩ = some (.bool false) := bc_ BK161 2
    have hfz28_0 := blk_frozen BK161.out 0; have hfz28_1 := blk_frozen BK161.out 1; have hfz28_2 := blk_frozen BK161.out 2
    go_wp2
    repeat (go_quiet (fail); try go_wp2)
    refine bodyPost_ret (results_cell_row rfl _ _ gb161 55 #[.int .i64 a1_0, .int .i64 a1_1, .bool false] (0, 0) _ rfl (by (with_reducible repeat (first | refine blk_drewN ?_ _ | refine blk_drew ?_ | refine blk_alloc ?_ _)); refine blk_put (cs := #[.int .i64 a1_0, .int .i64 a1_1, .bool false]) ?_ 2 _ rfl; (with_reducible repeat (first | refine blk_drewN ?_ _ | refine blk_drew ?_ | refine blk_alloc ?_ _)); refine blk_put (cs := #[.int .i64 a1_0, .int .i64 0, .bool false]) ?_ 1 _ rfl; (with_reducible repeat (first | refine blk_drewN ?_ _ | refine blk_drew ?_ | refine blk_alloc ?_ _)); refine blk_put (cs := #[.int .i64 0, .int .i64 0, .bool false]) ?_ 0 _ rfl; (with_reducible repeat (first | refine blk_drewN ?_ _ | refine blk_drew ?_ | refine blk_alloc ?_ _)); exact BK161.out) Try.underlying55 rfl (by kernel_rfl)) rfl ?_; exact ⟨by first | rfl | (simp [errW_none, errW_some] <;> rfl) | (simp [*, errW_none, errW_some] <;> rfl), by repeat (first | (with_reducible first | exact HB.out | apply below_alloc | apply pw_below_drewN | apply below_drew1 | refine below_set ?_ GE158.out | refine below_set ?_ GE159.out | refine below_set ?_ GE160.out | refine below_set ?_ GE161.out) | exact HB.out)⟩
   ·
    replace c19 := Bool.eq_false_iff.mpr c19; subst c19
    have H1 : (if a1_0 = a2_0 then (if a0_0 = 0 then (none) else (if (Int.tmod (wrap64 (a1_1 + a2_1)) a0_0) = 0 then (some (0, 0, true)) else (impl_Curve_sum.j0 k a0_0 a0_1 a0_2 a0_3 a0_4 a0_5 a1_0 a1_1 false a2_0 a2_1 false))) else (impl_Curve_sum.j0 k a0_0 a0_1 a0_2 a0_3 a0_4 a0_5 a1_0 a1_1 false a2_0 a2_1 false)) = some (r1, r2, r3) := by rw [if_neg (show ¬ (false = true) by decide)] at H; exact H
    clear H; have H := H1; clear H1
    by_cases c29 : a1_0 = a2_0
    ·
     rw [if_pos c29] at H
     have c29b0 : (a1_0 == a2_0) = true := beq_iff_eq.mpr c29
     have c29b1 : (a1_0 != a2_0) = false := bne_eq_false_iff_eq.mpr c29
     clear c29
     (first | rw [c29b0] | (simp only [i64_w, i32_w]; rw [c29b0]) | skip)
     by_cases c30 : a0_0 = 0
     · rw [if_pos c30] at H; exact absurd H (by simp)
     ·
      rw [if_neg c30] at H
      have c30b0 : (a0_0 == 0) = false := beq_eq_false_iff_ne.mpr c30
      have c30b1 : (a0_0 != 0) = true := bne_iff_ne.mpr c30
      by_cases c31 : (Int.tmod (wrap64 (a1_1 + a2_1)) a0_0) = 0
      ·
       rw [if_pos c31] at H
       have c31b0 : ((Int.tmod (wrap64 (a1_1 + a2_1)) a0_0) == 0) = true := beq_iff_eq.mpr c31
       have c31b1 : ((Int.tmod (wrap64 (a1_1 + a2_1)) a0_0) != 0) = false := bne_eq_false_iff_eq.mpr c31
       clear c31
       simp only [Option.some.injEq, Prod.mk.injEq] at H
       obtain ⟨rfl, rfl, rfl⟩ := H; have hnb32 := NB159_158.out; have hnc32 := NB158_159.out; have hnb33 := NB159_160.out; have hnc33 := NB160_159.out; have hnb34 := NB159_161.out; have hnc34 := NB161_159.out
       have hcz35_0 : w8.cell? ⟨gb159, 0, none⟩ = some (.int .i64 a1_0) := bc_ BK159 0
       have hcz35_1 : w8.cell? ⟨gb159, 1, none⟩ = some (.int .i64 a1_1) := bc_ BK159 1
       have hcz35_2 : w8.cell? ⟨gb159, 2, none⟩ = some (.bool false) := bc_ BK159 2
       have hfz35_0 := blk_frozen BK159.out 0; have hfz35_1 := blk_frozen BK159.out 1; have hfz35_2 := blk_frozen BK159.out 2; have hnb36 := NB160_158.out; have hnc36 := NB158_160.out; have hnb37 := NB160_161.out; have hnc37 := NB161_160.out
       have hcz38_0 : w8.cell? ⟨gb160, 0, none⟩ = some (.int .i64 a2_0) := bc_ BK160 0
       have hcz38_1 : w8.cell? ⟨gb160, 1, none⟩ = some (.int .i64 a2_1) := bc_ BK160 1
       have hcz38_2 : w8.cell? ⟨gb160, 2, none⟩ = some (.bool false) := bc_ BK160 2
       have hfz38_0 := blk_frozen BK160.out 0; have hfz38_1 := blk_frozen BK160.out 1; have hfz38_2 := blk_frozen BK160.out 2; have hnb39 := NB158_161.out; have hnc39 := NB161_158.out
       have hcz40_0 : w8.cell? ⟨gb158, 0, none⟩ = some (.int .i64 a0_0) := bc_ BK158 0
       have hcz40_1 : w8.cell? ⟨gb158, 1, none⟩ = some (.int .i64 a0_1) := bc_ BK158 1
       have hcz40_2 : w8.cell? ⟨gb158, 2, none⟩ = some (.int .i64 a0_2) := bc_ BK158 2
       have hcz40_3 : w8.cell? ⟨gb158, 3, none⟩ = some (.int .i64 a0_3) := bc_ BK158 3
       have hcz40_4 : w8.cell? ⟨gb158, 4, none⟩ = some (.int .i64 a0_4) := bc_ BK158 4
       have hcz40_5 : w8.cell? ⟨gb158, 5, none⟩ = some (.int .i64 a0_5) := bc_ BK158 5
       have hfz40_0 := blk_frozen BK158.out 0; have hfz40_1 := blk_frozen BK158.out 1; have hfz40_2 := blk_frozen BK158.out 2; have hfz40_3 := blk_frozen BK158.out 3; have hfz40_4 := blk_frozen BK158.out 4; have hfz40_5 := blk_frozen BK158.out 5
       have hcz41_0 : w8.cell? ⟨gb161, 0, none⟩ = some (.int .i64 0) := bc_ BK161 0
       have hcz41_1 : w8.cell? ⟨gb161, 1, none⟩ = some (.int .i64 0) := bc_ BK161 1
       have hcz41_2 : w8.cell? ⟨gb161, 2, none⟩ = some (.bool false) := bc_ BK161 2
       have hfz41_0 := blk_frozen BK161.out 0; have hfz41_1 := blk_frozen BK161.out 1; have hfz41_2 := blk_frozen BK161.out 2
       go_wp2
       repeat (go_quiet (fail); try go_wp2)
       refine bodyPost_ret (results_cell_row rfl _ _ gb161 55 #[.int .i64 0, .int .i64 0, .bool true] (0, 0) _ rfl (by (with_reducible repeat (first | refine blk_drewN ?_ _ | refine blk_drew ?_ | refine blk_alloc ?_ _)); refine blk_put (cs := #[.int .i64 0, .int .i64 0, .bool false]) ?_ 2 _ rfl; (with_reducible repeat (first | refine blk_drewN ?_ _ | refine blk_drew ?_ | refine blk_alloc ?_ _)); refine blk_put (cs := #[.int .i64 0, .int .i64 0, .bool false]) ?_ 1 _ rfl; (with_reducible repeat (first | refine blk_drewN ?_ _ | refine blk_drew ?_ | refine blk_alloc ?_ _)); refine blk_put (cs := #[.int .i64 0, .int .i64 0, .bool false]) ?_ 0 _ rfl; (with_reducible repeat (first | refine blk_drewN ?_ _ | refine blk_drew ?_ | refine blk_alloc ?_ _)); exact BK161.out) Try.underlying55 rfl (by kernel_rfl)) rfl ?_; exact ⟨by first | rfl | (simp [errW_none, errW_some] <;> rfl) | (simp [*, errW_none, errW_some] <;> rfl), by repeat (first | (with_reducible first | exact HB.out | apply below_alloc | apply pw_below_drewN | apply below_drew1 | refine below_set ?_ GE158.out | refine below_set ?_ GE159.out | refine below_set ?_ GE160.out | refine below_set ?_ GE161.out) | exact HB.out)⟩
      ·
       rw [if_neg c31] at H
       have c31b0 : ((Int.tmod (wrap64 (a1_1 + a2_1)) a0_0) == 0) = false := beq_eq_false_iff_ne.mpr c31
       have c31b1 : ((Int.tmod (wrap64 (a1_1 + a2_1)) a0_0) != 0) = true := bne_iff_ne.mpr c31
       have H' := Aside0.mk H
       clear H; have hnb42 := NB159_158.out; have hnc42 := NB158_159.out; have hnb43 := NB159_160.out; have hnc43 := NB160_159.out; have hnb44 := NB159_161.out; have hnc44 := NB161_159.out
       have hcz45_0 : w8.cell? ⟨gb159, 0, none⟩ = some (.int .i64 a1_0) := bc_ BK159 0
       have hcz45_1 : w8.cell? ⟨gb159, 1, none⟩ = some (.int .i64 a1_1) := bc_ BK159 1
       have hcz45_2 : w8.cell? ⟨gb159, 2, none⟩ = some (.bool false) := bc_ BK159 2
       have hfz45_0 := blk_frozen BK159.out 0; have hfz45_1 := blk_frozen BK159.out 1; have hfz45_2 := blk_frozen BK159.out 2; have hnb46 := NB160_158.out; have hnc46 := NB158_160.out; have hnb47 := NB160_161.out; have hnc47 := NB161_160.out
       have hcz48_0 : w8.cell? ⟨gb160, 0, none⟩ = some (.int .i64 a2_0) := bc_ BK160 0
       have hcz48_1 : w8.cell? ⟨gb160, 1, none⟩ = some (.int .i64 a2_1) := bc_ BK160 1
       have hcz48_2 : w8.cell? ⟨gb160, 2, none⟩ = some (.bool false) := bc_ BK160 2
       have hfz48_0 := blk_frozen BK160.out 0; have hfz48_1 := blk_frozen BK160.out 1; have hfz48_2 := blk_frozen BK160.out 2; have hnb49 := NB158_161.out; have hnc49 := NB161_158.out
       have hcz50_0 : w8.cell? ⟨gb158, 0, none⟩ = some (.int .i64 a0_0) := bc_ BK158 0
       have hcz50_1 : w8.cell? ⟨gb158, 1, none⟩ = some (.int .i64 a0_1) := bc_ BK158 1
       have hcz50_2 : w8.cell? ⟨gb158, 2, none⟩ = some (.int .i64 a0_2) := bc_ BK158 2
       have hcz50_3 : w8.cell? ⟨gb158, 3, none⟩ = some (.int .i64 a0_3) := bc_ BK158 3
       have hcz50_4 : w8.cell? ⟨gb158, 4, none⟩ = some (.int .i64 a0_4) := bc_ BK158 4
       have hcz50_5 : w8.cell? ⟨gb158, 5, none⟩ = some (.int .i64 a0_5) := bc_ BK158 5
       have hfz50_0 := blk_frozen BK158.out 0; have hfz50_1 := blk_frozen BK158.out 1; have hfz50_2 := blk_frozen BK158.out 2; have hfz50_3 := blk_frozen BK158.out 3; have hfz50_4 := blk_frozen BK158.out 4; have hfz50_5 := blk_frozen BK158.out 5
       go_wp2
       repeat (go_quiet (fail); try go_wp2)
       go_meet
       case rel => exact ⟨_, (0), (0), (false), H', ⟨by first | omega | exact Nat.le_refl _⟩, ⟨by (with_reducible repeat (first | refine blk_drewN ?_ _ | refine blk_drew ?_ | refine blk_alloc ?_ _)); exact BK158.out⟩, ⟨by (with_reducible repeat (first | refine blk_drewN ?_ _ | refine blk_drew ?_ | refine blk_alloc ?_ _)); exact BK159.out⟩, ⟨by (with_reducible repeat (first | refine blk_drewN ?_ _ | refine blk_drew ?_ | refine blk_alloc ?_ _)); exact BK160.out⟩, ⟨by (with_reducible repeat (first | refine blk_drewN ?_ _ | refine blk_drew ?_ | refine blk_alloc ?_ _)); exact BK161.out⟩, ⟨by repeat (first | (with_reducible first | exact HB.out | apply below_alloc | apply pw_below_drewN | apply below_drew1 | refine below_set ?_ GE158.out | refine below_set ?_ GE159.out | refine below_set ?_ GE160.out | refine below_set ?_ GE161.out) | exact HB.out)⟩⟩
    ·
     rw [if_neg c29] at H
     have c29b0 : (a1_0 == a2_0) = false := beq_eq_false_iff_ne.mpr c29
     have c29b1 : (a1_0 != a2_0) = true := bne_iff_ne.mpr c29
     (first | rw [c29b0] | (simp only [i64_w, i32_w]; rw [c29b0]) | skip)
     have H' := Aside0.mk H
     clear H; have hnb51 := NB159_158.out; have hnc51 := NB158_159.out; have hnb52 := NB159_160.out; have hnc52 := NB160_159.out; have hnb53 := NB159_161.out; have hnc53 := NB161_159.out
     have hcz54_0 : w8.cell? ⟨gb159, 0, none⟩ = some (.int .i64 a1_0) := bc_ BK159 0
     have hcz54_1 : w8.cell? ⟨gb159, 1, none⟩ = some (.int .i64 a1_1) := bc_ BK159 1
     have hcz54_2 : w8.cell? ⟨gb159, 2, none⟩ = some (.bool false) := bc_ BK159 2
     have hfz54_0 := blk_frozen BK159.out 0; have hfz54_1 := blk_frozen BK159.out 1; have hfz54_2 := blk_frozen BK159.out 2; have hnb55 := NB160_158.out; have hnc55 := NB158_160.out; have hnb56 := NB160_161.out; have hnc56 := NB161_160.out
     have hcz57_0 : w8.cell? ⟨gb160, 0, none⟩ = some (.int .i64 a2_0) := bc_ BK160 0
     have hcz57_1 : w8.cell? ⟨gb160, 1, none⟩ = some (.int .i64 a2_1) := bc_ BK160 1
     have hcz57_2 : w8.cell? ⟨gb160, 2, none⟩ = some (.bool false) := bc_ BK160 2
     have hfz57_0 := blk_frozen BK160.out 0; have hfz57_1 := blk_frozen BK160.out 1; have hfz57_2 := blk_frozen BK160.out 2
     go_wp2
     repeat (go_quiet (fail); try go_wp2)
     go_meet
     case rel => exact ⟨_, (0), (0), (false), H', ⟨by first | omega | exact Nat.le_refl _⟩, ⟨by (with_reducible repeat (first | refine blk_drewN ?_ _ | refine blk_drew ?_ | refine blk_alloc ?_ _)); exact BK158.out⟩, ⟨by (with_reducible repeat (first | refine blk_drewN ?_ _ | refine blk_drew ?_ | refine blk_alloc ?_ _)); exact BK159.out⟩, ⟨by (with_reducible repeat (first | refine blk_drewN ?_ _ | refine blk_drew ?_ | refine blk_alloc ?_ _)); exact BK160.out⟩, ⟨by (with_reducible repeat (first | refine blk_drewN ?_ _ | refine blk_drew ?_ | refine blk_alloc ?_ _)); exact BK161.out⟩, ⟨by repeat (first | (with_reducible first | exact HB.out | apply below_alloc | apply pw_below_drewN | apply below_drew1 | refine below_set ?_ GE158.out | refine below_set ?_ GE159.out | refine below_set ?_ GE160.out | refine below_set ?_ GE161.out) | exact HB.out)⟩⟩
 case rest =>
  clear HC4
  try clear c1
  try clear c2
  try clear p2
  try clear c3
  try clear c4
  try clear c5
  try clear p6
  try clear c9
  try clear c10
  try clear c11
  try clear c12
  try clear c14
  try clear c15
  try clear c17
  try clear c19
  try clear c20
  try clear c21
  try clear c22
  try clear c24
  try clear c25
  try clear c27
  try clear c29
  try clear c29b0
  try clear c29b1
  try clear c30
  try clear c30b0
  try clear c30b1
  try clear c31
  try clear c31b0
  try clear c31b1
  try clear c32
  try clear c33
  try clear c34
  try clear c36
  try clear c37
  try clear c39
  try clear c42
  try clear c43
  try clear c44
  try clear c46
  try clear c47
  try clear c49
  try clear c51
  try clear c52
  try clear c53
  try clear c55
  try clear c56
  try clear hcz13_0
  try clear hcz13_1
  try clear hcz13_2
  try clear hcz16_0
  try clear hcz16_1
  try clear hcz16_2
  try clear hcz18_0
  try clear hcz18_1
  try clear hcz18_2
  try clear hcz23_0
  try clear hcz23_1
  try clear hcz23_2
  try clear hcz26_0
  try clear hcz26_1
  try clear hcz26_2
  try clear hcz28_0
  try clear hcz28_1
  try clear hcz28_2
  try clear hcz35_0
  try clear hcz35_1
  try clear hcz35_2
  try clear hcz38_0
  try clear hcz38_1
  try clear hcz38_2
  try clear hcz40_0
  try clear hcz40_1
  try clear hcz40_2
  try clear hcz40_3
  try clear hcz40_4
  try clear hcz40_5
  try clear hcz41_0
  try clear hcz41_1
  try clear hcz41_2
  try clear hcz45_0
  try clear hcz45_1
  try clear hcz45_2
  try clear hcz48_0
  try clear hcz48_1
  try clear hcz48_2
  try clear hcz50_0
  try clear hcz50_1
  try clear hcz50_2
  try clear hcz50_3
  try clear hcz50_4
  try clear hcz50_5
  try clear hcz54_0
  try clear hcz54_1
  try clear hcz54_2
  try clear hcz57_0
  try clear hcz57_1
  try clear hcz57_2
  try clear hfz13_0
  try clear hfz13_1
  try clear hfz13_2
  try clear hfz16_0
  try clear hfz16_1
  try clear hfz16_2
  try clear hfz18_0
  try clear hfz18_1
  try clear hfz18_2
  try clear hfz23_0
  try clear hfz23_1
  try clear hfz23_2
  try clear hfz26_0
  try clear hfz26_1
  try clear hfz26_2
  try clear hfz28_0
  try clear hfz28_1
  try clear hfz28_2
  try clear hfz35_0
  try clear hfz35_1
  try clear hfz35_2
  try clear hfz38_0
  try clear hfz38_1
  try clear hfz38_2
  try clear hfz40_0
  try clear hfz40_1
  try clear hfz40_2
  try clear hfz40_3
  try clear hfz40_4
  try clear hfz40_5
  try clear hfz41_0
  try clear hfz41_1
  try clear hfz41_2
  try clear hfz45_0
  try clear hfz45_1
  try clear hfz45_2
  try clear hfz48_0
  try clear hfz48_1
  try clear hfz48_2
  try clear hfz50_0
  try clear hfz50_1
  try clear hfz50_2
  try clear hfz50_3
  try clear hfz50_4
  try clear hfz50_5
  try clear hfz54_0
  try clear hfz54_1
  try clear hfz54_2
  try clear hfz57_0
  try clear hfz57_1
  try clear hfz57_2
  obtain ⟨kq, x162000_3, x162001_3, x162002_3, HA, HJ3, BK158, BK159, BK160, BK161, HB⟩ := hcut
  cases kq with
  | zero => exact absurd HA.out (by simp [impl_Curve_sum.j0])
  | succ kj3 =>
   have H := HA.out; clear HA
   simp only [impl_Curve_sum.j0] at H
   have HC58 := Aside0.mk H; clear H; have hnb59 := NB160_158.out; have hnc59 := NB158_160.out; have hnb60 := NB160_159.out; have hnc60 := NB159_160.out; have hnb61 := NB160_161.out; have hnc61 := NB161_160.out
   have hcz62_0 : wc.cell? ⟨gb160, 0, none⟩ = some (.int .i64 a2_0) := bc_ BK160 0
   have hcz62_1 : wc.cell? ⟨gb160, 1, none⟩ = some (.int .i64 a2_1) := bc_ BK160 1
   have hcz62_2 : wc.cell? ⟨gb160, 2, none⟩ = some (.bool a2_2) := bc_ BK160 2
   have hfz62_0 := blk_frozen BK160.out 0; have hfz62_1 := blk_frozen BK160.out 1; have hfz62_2 := blk_frozen BK160.out 2; have hnb63 := NB159_158.out; have hnc63 := NB158_159.out; have hnb64 := NB159_161.out; have hnc64 := NB161_159.out
   have hcz65_0 : wc.cell? ⟨gb159, 0, none⟩ = some (.int .i64 a1_0) := bc_ BK159 0
   have hcz65_1 : wc.cell? ⟨gb159, 1, none⟩ = some (.int .i64 a1_1) := bc_ BK159 1
   have hcz65_2 : wc.cell? ⟨gb159, 2, none⟩ = some (.bool a1_2) := bc_ BK159 2
   have hfz65_0 := blk_frozen BK159.out 0; have hfz65_1 := blk_frozen BK159.out 1; have hfz65_2 := blk_frozen BK159.out 2
   go_upto_if 51 with (fail)
   repeat (go_quiet (fail); go_upto_if 51 with (fail))
   go_cut [7, 8] (fun v7 v8 wc => ∃ (kq : Nat) (x7_57 : Int) (x8_57 : Int), v7 = .int .i64 x7_57 ∧ v8 = .int .i64 x8_57 ∧ Aside0 (impl_Curve_sum.j1 kq x7_57 x8_57 a0_0 a0_1 a0_2 a0_3 a0_4 a0_5 a1_0 a1_1 a1_2 a2_0 a2_1 a2_2 = some (r1, r2, r3)) ∧ Aside0 (kq ≤ kj3) ∧ Aside0 (wc.heap[gb158]? = some (.cells #[.int .i64 a0_0, .int .i64 a0_1, .int .i64 a0_2, .int .i64 a0_3, .int .i64 a0_4, .int .i64 a0_5] 43 (0, 0))) ∧ Aside0 (wc.heap[gb159]? = some (.cells #[.int .i64 a1_0, .int .i64 a1_1, .bool a1_2] 55 (0, 0))) ∧ Aside0 (wc.heap[gb160]? = some (.cells #[.int .i64 a2_0, .int .i64 a2_1, .bool a2_2] 55 (0, 0))) ∧ Aside0 (wc.heap[gb161]? = some (.cells #[.int .i64 x162000_3, .int .i64 x162001_3, .bool x162002_3] 55 (0, 0))) ∧ Aside0 (Below w.heap.size w wc))
   case first =>
    have H := HC58.out; clear HC58
    by_cases c66 : (a1_0 == a2_0 && (a1_1 == a2_1 && (a1_2 == a2_2))) = true
    ·
     rw [if_pos c66] at H
     have c66b0 : (a1_0 == a2_0 && (a1_1 == a2_1 && (a1_2 == a2_2))) = true := c66
     (try (have c66b1 : decide (a1_0 = a2_0 && (a1_1 == a2_1 && (a1_2 == a2_2))) = true := by simpa using c66)); (try (have c66b2 : (a1_0 == a2_0 && (a1_1 == a2_1 && (a1_2 == a2_2))) = true := by simpa using c66)); clear c66
     (first | rw [c66b0] | (simp only [i64_w, i32_w]; rw [c66b0]) | skip)
     have H' := Aside0.mk H
     clear H; have hnb67 := NB159_158.out; have hnc67 := NB158_159.out; have hnb68 := NB159_160.out; have hnc68 := NB160_159.out; have hnb69 := NB159_161.out; have hnc69 := NB161_159.out
     have hcz70_0 : wc.cell? ⟨gb159, 0, none⟩ = some (.int .i64 a1_0) := bc_ BK159 0
     have hcz70_1 : wc.cell? ⟨gb159, 1, none⟩ = some (.int .i64 a1_1) := bc_ BK159 1
     have hcz70_2 : wc.cell? ⟨gb159, 2, none⟩ = some (.bool a1_2) := bc_ BK159 2
     have hfz70_0 := blk_frozen BK159.out 0; have hfz70_1 := blk_frozen BK159.out 1; have hfz70_2 := blk_frozen BK159.out 2; have hnb71 := NB158_160.out; have hnc71 := NB160_158.out; have hnb72 := NB158_161.out; have hnc72 := NB161_158.out
     have hcz73_0 : wc.cell? ⟨gb158, 0, none⟩ = some (.int .i64 a0_0) := bc_ BK158 0
     have hcz73_1 : wc.cell? ⟨gb158, 1, none⟩ = some (.int .i64 a0_1) := bc_ BK158 1
     have hcz73_2 : wc.cell? ⟨gb158, 2, none⟩ = some (.int .i64 a0_2) := bc_ BK158 2
     have hcz73_3 : wc.cell? ⟨gb158, 3, none⟩ = some (.int .i64 a0_3) := bc_ BK158 3
     have hcz73_4 : wc.cell? ⟨gb158, 4, none⟩ = some (.int .i64 a0_4) := bc_ BK158 4
     have hcz73_5 : wc.cell? ⟨gb158, 5, none⟩ = some (.int .i64 a0_5) := bc_ BK158 5
     have hfz73_0 := blk_frozen BK158.out 0; have hfz73_1 := blk_frozen BK158.out 1; have hfz73_2 := blk_frozen BK158.out 2; have hfz73_3 := blk_frozen BK158.out 3; have hfz73_4 := blk_frozen BK158.out 4; have hfz73_5 := blk_frozen BK158.out 5
     go_wp2
     repeat (go_quiet (fail); try go_wp2)
     go_meet
     case rel => exact ⟨_, (wrap64 ((wrap64 ((wrap64 (3 * a1_0)) * a1_0)) + a0_1)), (wrap64 (2 * a1_1)), (by first | rfl | (simp; done) | (simp [*]; done)), (by first | rfl | (simp; done) | (simp [*]; done)), H', ⟨by have := HJ3.out; first | omega | exact Nat.le_refl _⟩, ⟨by (with_reducible repeat (first | refine blk_drewN ?_ _ | refine blk_drew ?_ | refine blk_alloc ?_ _)); exact BK158.out⟩, ⟨by (with_reducible repeat (first | refine blk_drewN ?_ _ | refine blk_drew ?_ | refine blk_alloc ?_ _)); exact BK159.out⟩, ⟨by (with_reducible repeat (first | refine blk_drewN ?_ _ | refine blk_drew ?_ | refine blk_alloc ?_ _)); exact BK160.out⟩, ⟨by (with_reducible repeat (first | refine blk_drewN ?_ _ | refine blk_drew ?_ | refine blk_alloc ?_ _)); exact BK161.out⟩, ⟨by repeat (first | (with_reducible first | exact HB.out | apply below_alloc | apply pw_below_drewN | apply below_drew1 | refine below_set ?_ GE158.out | refine below_set ?_ GE159.out | refine below_set ?_ GE160.out | refine below_set ?_ GE161.out) | exact HB.out)⟩⟩
    ·
     rw [if_neg c66] at H
     have c66b0 : (a1_0 == a2_0 && (a1_1 == a2_1 && (a1_2 == a2_2))) = false := by simpa using c66
     (try (have c66b1 : decide (a1_0 = a2_0 && (a1_1 == a2_1 && (a1_2 == a2_2))) = false := by simpa using c66)); (try (have c66b2 : (a1_0 == a2_0 && (a1_1 == a2_1 && (a1_2 == a2_2))) = false := by simpa using c66)); (try (have c66b3 : ¬ (a1_0 = a2_0 && (a1_1 == a2_1 && (a1_2 == a2_2))) := by simpa using c66)); clear c66
     (first | rw [c66b0] | (simp only [i64_w, i32_w]; rw [c66b0]) | skip)
     have H' := Aside0.mk H
     clear H
     go_wp2
     repeat (go_quiet (fail); try go_wp2)
     go_meet
     case rel => exact ⟨_, (wrap64 (a2_1 - a1_1)), (wrap64 (a2_0 - a1_0)), (by first | rfl | (simp; done) | (simp [*]; done)), (by first | rfl | (simp; done) | (simp [*]; done)), H', ⟨by have := HJ3.out; first | omega | exact Nat.le_refl _⟩, ⟨by (with_reducible repeat (first | refine blk_drewN ?_ _ | refine blk_drew ?_ | refine blk_alloc ?_ _)); exact BK158.out⟩, ⟨by (with_reducible repeat (first | refine blk_drewN ?_ _ | refine blk_drew ?_ | refine blk_alloc ?_ _)); exact BK159.out⟩, ⟨by (with_reducible repeat (first | refine blk_drewN ?_ _ | refine blk_drew ?_ | refine blk_alloc ?_ _)); exact BK160.out⟩, ⟨by (with_reducible repeat (first | refine blk_drewN ?_ _ | refine blk_drew ?_ | refine blk_alloc ?_ _)); exact BK161.out⟩, ⟨by repeat (first | (with_reducible first | exact HB.out | apply below_alloc | apply pw_below_drewN | apply below_drew1 | refine below_set ?_ GE158.out | refine below_set ?_ GE159.out | refine below_set ?_ GE160.out | refine below_set ?_ GE161.out) | exact HB.out)⟩⟩
   case rest =>
    clear HC58
    try clear c1
    try clear c2
    try clear p2
    try clear c3
    try clear c4
    try clear c5
    try clear c6
    try clear p6
    try clear c7
    try clear c9
    try clear c10
    try clear c11
    try clear c12
    try clear c14
    try clear c15
    try clear c17
    try clear c19
    try clear c20
    try clear c21
    try clear c22
    try clear c24
    try clear c25
    try clear c27
    try clear c29
    try clear c29b0
    try clear c29b1
    try clear c30
    try clear c30b0
    try clear c30b1
    try clear c31
    try clear c31b0
    try clear c31b1
    try clear c32
    try clear c33
    try clear c34
    try clear c36
    try clear c37
    try clear c39
    try clear c42
    try clear c43
    try clear c44
    try clear c46
    try clear c47
    try clear c49
    try clear c51
    try clear c52
    try clear c53
    try clear c55
    try clear c56
    try clear c59
    try clear c60
    try clear c61
    try clear c63
    try clear c64
    try clear p64
    try clear c66
    try clear c66b0
    try clear c66b1
    try clear c66b2
    try clear c67
    try clear c68
    try clear c69
    try clear c71
    try clear c72
    try clear hcz13_0
    try clear hcz13_1
    try clear hcz13_2
    try clear hcz16_0
    try clear hcz16_1
    try clear hcz16_2
    try clear hcz18_0
    try clear hcz18_1
    try clear hcz18_2
    try clear hcz23_0
    try clear hcz23_1
    try clear hcz23_2
    try clear hcz26_0
    try clear hcz26_1
    try clear hcz26_2
    try clear hcz28_0
    try clear hcz28_1
    try clear hcz28_2
    try clear hcz35_0
    try clear hcz35_1
    try clear hcz35_2
    try clear hcz38_0
    try clear hcz38_1
    try clear hcz38_2
    try clear hcz40_0
    try clear hcz40_1
    try clear hcz40_2
    try clear hcz40_3
    try clear hcz40_4
    try clear hcz40_5
    try clear hcz41_0
    try clear hcz41_1
    try clear hcz41_2
    try clear hcz45_0
    try clear hcz45_1
    try clear hcz45_2
    try clear hcz48_0
    try clear hcz48_1
    try clear hcz48_2
    try clear hcz50_0
    try clear hcz50_1
    try clear hcz50_2
    try clear hcz50_3
    try clear hcz50_4
    try clear hcz50_5
    try clear hcz54_0
    try clear hcz54_1
    try clear hcz54_2
    try clear hcz57_0
    try clear hcz57_1
    try clear hcz57_2
    try clear hcz62_0
    try clear hcz62_1
    try clear hcz62_2
    try clear hcz65_0
    try clear hcz65_1
    try clear hcz65_2
    try clear hcz70_0
    try clear hcz70_1
    try clear hcz70_2
    try clear hcz73_0
    try clear hcz73_1
    try clear hcz73_2
    try clear hcz73_3
    try clear hcz73_4
    try clear hcz73_5
    try clear hfz13_0
    try clear hfz13_1
    try clear hfz13_2
    try clear hfz16_0
    try clear hfz16_1
    try clear hfz16_2
    try clear hfz18_0
    try clear hfz18_1
    try clear hfz18_2
    try clear hfz23_0
    try clear hfz23_1
    try clear hfz23_2
    try clear hfz26_0
    try clear hfz26_1
    try clear hfz26_2
    try clear hfz28_0
    try clear hfz28_1
    try clear hfz28_2
    try clear hfz35_0
    try clear hfz35_1
    try clear hfz35_2
    try clear hfz38_0
    try clear hfz38_1
    try clear hfz38_2
    try clear hfz40_0
    try clear hfz40_1
    try clear hfz40_2
    try clear hfz40_3
    try clear hfz40_4
    try clear hfz40_5
    try clear hfz41_0
    try clear hfz41_1
    try clear hfz41_2
    try clear hfz45_0
    try clear hfz45_1
    try clear hfz45_2
    try clear hfz48_0
    try clear hfz48_1
    try clear hfz48_2
    try clear hfz50_0
    try clear hfz50_1
    try clear hfz50_2
    try clear hfz50_3
    try clear hfz50_4
    try clear hfz50_5
    try clear hfz54_0
    try clear hfz54_1
    try clear hfz54_2
    try clear hfz57_0
    try clear hfz57_1
    try clear hfz57_2
    try clear hfz62_0
    try clear hfz62_1
    try clear hfz62_2
    try clear hfz65_0
    try clear hfz65_1
    try clear hfz65_2
    try clear hfz70_0
    try clear hfz70_1
    try clear hfz70_2
    try clear hfz73_0
    try clear hfz73_1
    try clear hfz73_2
    try clear hfz73_3
    try clear hfz73_4
    try clear hfz73_5
    try clear p2
    try clear p6
    obtain ⟨kq, x7_57, x8_57, rfl, rfl, HA, HJ57, BK158, BK159, BK160, BK161, HB⟩ := hcut
    cases kq with
    | zero => exact absurd HA.out (by simp [impl_Curve_sum.j1])
    | succ kj57 =>
     have H := HA.out; clear HA
     simp only [impl_Curve_sum.j1] at H
     replace H := Option.bind_eq_some_iff.mp H; obtain ⟨⟨t162, t163⟩, A740, H⟩ := H
     replace H : ((impl_rest.f x7_57 a0_0).bind fun t164 => (if a0_0 = 0 then (none) else ((impl_rest.f (wrap64 ((wrap64 ((wrap64 ((Int.tmod (wrap64 (t164 * t162)) a0_0) * (Int.tmod (wrap64 (t164 * t162)) a0_0))) - a1_0)) - a2_0)) a0_0).bind fun t165 => ((impl_rest.f (wrap64 ((wrap64 ((Int.tmod (wrap64 (t164 * t162)) a0_0) * (wrap64 (a1_0 - t165)))) - a1_1)) a0_0).bind fun t166 => (some (t165, t166, false)))))) = some (r1, r2, r3) := H
     have A74 := Aside0.mk A740; clear A740; replace H := Option.bind_eq_some_iff.mp H; obtain ⟨t164, A750, H⟩ := H
     replace H : (if a0_0 = 0 then (none) else ((impl_rest.f (wrap64 ((wrap64 ((wrap64 ((Int.tmod (wrap64 (t164 * t162)) a0_0) * (Int.tmod (wrap64 (t164 * t162)) a0_0))) - a1_0)) - a2_0)) a0_0).bind fun t165 => ((impl_rest.f (wrap64 ((wrap64 ((Int.tmod (wrap64 (t164 * t162)) a0_0) * (wrap64 (a1_0 - t165)))) - a1_1)) a0_0).bind fun t166 => (some (t165, t166, false))))) = some (r1, r2, r3) := H
     have A75 := Aside0.mk A750; clear A750
     by_cases c76 : a0_0 = 0
     · rw [if_pos c76] at H; exact absurd H (by simp)
     ·
      rw [if_neg c76] at H
      have c76b0 : (a0_0 == 0) = false := beq_eq_false_iff_ne.mpr c76
      have c76b1 : (a0_0 != 0) = true := bne_iff_ne.mpr c76
      replace H := Option.bind_eq_some_iff.mp H; obtain ⟨t165, A770, H⟩ := H
      replace H : ((impl_rest.f (wrap64 ((wrap64 ((Int.tmod (wrap64 (t164 * t162)) a0_0) * (wrap64 (a1_0 - t165)))) - a1_1)) a0_0).bind fun t166 => (some (t165, t166, false))) = some (r1, r2, r3) := H
      have A77 := Aside0.mk A770; clear A770; replace H := Option.bind_eq_some_iff.mp H; obtain ⟨t166, A780, H⟩ := H
      replace H : (some (t165, t166, false)) = some (r1, r2, r3) := H
      have A78 := Aside0.mk A780; clear A780
      simp only [Option.some.injEq, Prod.mk.injEq] at H
      obtain ⟨rfl, rfl, rfl⟩ := H; have hnb79 := NB158_159.out; have hnc79 := NB159_158.out; have hnb80 := NB158_160.out; have hnc80 := NB160_158.out; have hnb81 := NB158_161.out; have hnc81 := NB161_158.out
      have hcz82_0 : wc.cell? ⟨gb158, 0, none⟩ = some (.int .i64 a0_0) := bc_ BK158 0
      have hcz82_1 : wc.cell? ⟨gb158, 1, none⟩ = some (.int .i64 a0_1) := bc_ BK158 1
      have hcz82_2 : wc.cell? ⟨gb158, 2, none⟩ = some (.int .i64 a0_2) := bc_ BK158 2
      have hcz82_3 : wc.cell? ⟨gb158, 3, none⟩ = some (.int .i64 a0_3) := bc_ BK158 3
      have hcz82_4 : wc.cell? ⟨gb158, 4, none⟩ = some (.int .i64 a0_4) := bc_ BK158 4
      have hcz82_5 : wc.cell? ⟨gb158, 5, none⟩ = some (.int .i64 a0_5) := bc_ BK158 5
      have hfz82_0 := blk_frozen BK158.out 0; have hfz82_1 := blk_frozen BK158.out 1; have hfz82_2 := blk_frozen BK158.out 2; have hfz82_3 := blk_frozen BK158.out 3; have hfz82_4 := blk_frozen BK158.out 4; have hfz82_5 := blk_frozen BK158.out 5
      go_wp2_with (first | (go_at_call 94; (with_reducible refine (impl_InvInt.calls kj57 x8_57 a0_0 t162 t163 _ A74.out).mono ?_); rintro e w' ⟨rfl, ⟨nd, rfl⟩⟩; (try first | exact ⟨rfl, _, World.drewN_drewN _ _ _⟩ | exact ⟨rfl, _, Eq.trans (World.drewN_drewN _ _ _) (congrArg (World.drewN _) (Nat.add_assoc _ _ _))⟩)) | (go_at_call 89; (with_reducible refine (impl_rest.calls x7_57 a0_0 t164 _ A75.out).mono ?_); rintro e w' ⟨rfl, ⟨nd, rfl⟩⟩; (try first | exact ⟨rfl, _, World.drewN_drewN _ _ _⟩ | exact ⟨rfl, _, Eq.trans (World.drewN_drewN _ _ _) (congrArg (World.drewN _) (Nat.add_assoc _ _ _))⟩); have hnb83 := NB159_160.out; have hnc83 := NB160_159.out; have hnb84 := NB159_161.out; have hnc84 := NB161_159.out; have hcz85_0 : wc.cell? ⟨gb159, 0, none⟩ = some (.int .i64 a1_0) := bc_ BK159 0; have hcz85_1 : wc.cell? ⟨gb159, 1, none⟩ = some (.int .i64 a1_1) := bc_ BK159 1; have hcz85_2 : wc.cell? ⟨gb159, 2, none⟩ = some (.bool a1_2) := bc_ BK159 2; have hfz85_0 := blk_frozen BK159.out 0; have hfz85_1 := blk_frozen BK159.out 1; have hfz85_2 := blk_frozen BK159.out 2; have hnb86 := NB160_161.out; have hnc86 := NB161_160.out; have hcz87_0 : wc.cell? ⟨gb160, 0, none⟩ = some (.int .i64 a2_0) := bc_ BK160 0; have hcz87_1 : wc.cell? ⟨gb160, 1, none⟩ = some (.int .i64 a2_1) := bc_ BK160 1; have hcz87_2 : wc.cell? ⟨gb160, 2, none⟩ = some (.bool a2_2) := bc_ BK160 2; have hfz87_0 := blk_frozen BK160.out 0; have hfz87_1 := blk_frozen BK160.out 1; have hfz87_2 := blk_frozen BK160.out 2) | (go_at_call 89; (with_reducible refine (impl_rest.calls (wrap64 ((wrap64 ((wrap64 ((Int.tmod (wrap64 (t164 * t162)) a0_0) * (Int.tmod (wrap64 (t164 * t162)) a0_0))) - a1_0)) - a2_0)) a0_0 t165 _ A77.out).mono ?_); rintro e w' ⟨rfl, ⟨nd, rfl⟩⟩; (try first | exact ⟨rfl, _, World.drewN_drewN _ _ _⟩ | exact ⟨rfl, _, Eq.trans (World.drewN_drewN _ _ _) (congrArg (World.drewN _) (Nat.add_assoc _ _ _))⟩)) | (go_at_call 89; (with_reducible refine (impl_rest.calls (wrap64 ((wrap64 ((Int.tmod (wrap64 (t164 * t162)) a0_0) * (wrap64 (a1_0 - t165)))) - a1_1)) a0_0 t166 _ A78.out).mono ?_); rintro e w' ⟨rfl, ⟨nd, rfl⟩⟩; (try first | exact ⟨rfl, _, World.drewN_drewN _ _ _⟩ | exact ⟨rfl, _, Eq.trans (World.drewN_drewN _ _ _) (congrArg (World.drewN _) (Nat.add_assoc _ _ _))⟩); have hcz88_0 : wc.cell? ⟨gb161, 0, none⟩ = some (.int .i64 x162000_3) := bc_ BK161 0; have hcz88_1 : wc.cell? ⟨gb161, 1, none⟩ = some (.int .i64 x162001_3) := bc_ BK161 1; have hcz88_2 : wc.cell? ⟨gb161, 2, none⟩ = some (.bool x162002_3) := bc_ BK161 2; have hfz88_0 := blk_frozen BK161.out 0; have hfz88_1 := blk_frozen BK161.out 1; have hfz88_2 := blk_frozen BK161.out 2))
      repeat (go_quiet (first | (go_at_call 94; (with_reducible refine (impl_InvInt.calls kj57 x8_57 a0_0 t162 t163 _ A74.out).mono ?_); rintro e w' ⟨rfl, ⟨nd, rfl⟩⟩; (try first | exact ⟨rfl, _, World.drewN_drewN _ _ _⟩ | exact ⟨rfl, _, Eq.trans (World.drewN_drewN _ _ _) (congrArg (World.drewN _) (Nat.add_assoc _ _ _))⟩)) | (go_at_call 89; (with_reducible refine (impl_rest.calls x7_57 a0_0 t164 _ A75.out).mono ?_); rintro e w' ⟨rfl, ⟨nd, rfl⟩⟩; (try first | exact ⟨rfl, _, World.drewN_drewN _ _ _⟩ | exact ⟨rfl, _, Eq.trans (World.drewN_drewN _ _ _) (congrArg (World.drewN _) (Nat.add_assoc _ _ _))⟩); have hnb83 := NB159_160.out; have hnc83 := NB160_159.out; have hnb84 := NB159_161.out; have hnc84 := NB161_159.out; have hcz85_0 : wc.cell? ⟨gb159, 0, none⟩ = some (.int .i64 a1_0) := bc_ BK159 0; have hcz85_1 : wc.cell? ⟨gb159, 1, none⟩ = some (.int .i64 a1_1) := bc_ BK159 1; have hcz85_2 : wc.cell? ⟨gb159, 2, none⟩ = some (.bool a1_2) := bc_ BK159 2; have hfz85_0 := blk_frozen BK159.out 0; have hfz85_1 := blk_frozen BK159.out 1; have hfz85_2 := blk_frozen BK159.out 2; have hnb86 := NB160_161.out; have hnc86 := NB161_160.out; have hcz87_0 : wc.cell? ⟨gb160, 0, none⟩ = some (.int .i64 a2_0) := bc_ BK160 0; have hcz87_1 : wc.cell? ⟨gb160, 1, none⟩ = some (.int .i64 a2_1) := bc_ BK160 1; have hcz87_2 : wc.cell? ⟨gb160, 2, none⟩ = some (.bool a2_2) := bc_ BK160 2; have hfz87_0 := blk_frozen BK160.out 0; have hfz87_1 := blk_frozen BK160.out 1; have hfz87_2 := blk_frozen BK160.out 2) | (go_at_call 89; (with_reducible refine (impl_rest.calls (wrap64 ((wrap64 ((wrap64 ((Int.tmod (wrap64 (t164 * t162)) a0_0) * (Int.tmod (wrap64 (t164 * t162)) a0_0))) - a1_0)) - a2_0)) a0_0 t165 _ A77.out).mono ?_); rintro e w' ⟨rfl, ⟨nd, rfl⟩⟩; (try first | exact ⟨rfl, _, World.drewN_drewN _ _ _⟩ | exact ⟨rfl, _, Eq.trans (World.drewN_drewN _ _ _) (congrArg (World.drewN _) (Nat.add_assoc _ _ _))⟩)) | (go_at_call 89; (with_reducible refine (impl_rest.calls (wrap64 ((wrap64 ((Int.tmod (wrap64 (t164 * t162)) a0_0) * (wrap64 (a1_0 - t165)))) - a1_1)) a0_0 t166 _ A78.out).mono ?_); rintro e w' ⟨rfl, ⟨nd, rfl⟩⟩; (try first | exact ⟨rfl, _, World.drewN_drewN _ _ _⟩ | exact ⟨rfl, _, Eq.trans (World.drewN_drewN _ _ _) (congrArg (World.drewN _) (Nat.add_assoc _ _ _))⟩); have hcz88_0 : wc.cell? ⟨gb161, 0, none⟩ = some (.int .i64 x162000_3) := bc_ BK161 0; have hcz88_1 : wc.cell? ⟨gb161, 1, none⟩ = some (.int .i64 x162001_3) := bc_ BK161 1; have hcz88_2 : wc.cell? ⟨gb161, 2, none⟩ = some (.bool x162002_3) := bc_ BK161 2; have hfz88_0 := blk_frozen BK161.out 0; have hfz88_1 := blk_frozen BK161.out 1; have hfz88_2 := blk_frozen BK161.out 2)); try go_wp2_with (first | (go_at_call 94; (with_reducible refine (impl_InvInt.calls kj57 x8_57 a0_0 t162 t163 _ A74.out).mono ?_); rintro e w' ⟨rfl, ⟨nd, rfl⟩⟩; (try first | exact ⟨rfl, _, World.drewN_drewN _ _ _⟩ | exact ⟨rfl, _, Eq.trans (World.drewN_drewN _ _ _) (congrArg (World.drewN _) (Nat.add_assoc _ _ _))⟩)) | (go_at_call 89; (with_reducible refine (impl_rest.calls x7_57 a0_0 t164 _ A75.out).mono ?_); rintro e w' ⟨rfl, ⟨nd, rfl⟩⟩; (try first | exact ⟨rfl, _, World.drewN_drewN _ _ _⟩ | exact ⟨rfl, _, Eq.trans (World.drewN_drewN _ _ _) (congrArg (World.drewN _) (Nat.add_assoc _ _ _))⟩); have hnb83 := NB159_160.out; have hnc83 := NB160_159.out; have hnb84 := NB159_161.out; have hnc84 := NB161_159.out; have hcz85_0 : wc.cell? ⟨gb159, 0, none⟩ = some (.int .i64 a1_0) := bc_ BK159 0; have hcz85_1 : wc.cell? ⟨gb159, 1, none⟩ = some (.int .i64 a1_1) := bc_ BK159 1; have hcz85_2 : wc.cell? ⟨gb159, 2, none⟩ = some (.bool a1_2) := bc_ BK159 2; have hfz85_0 := blk_frozen BK159.out 0; have hfz85_1 := blk_frozen BK159.out 1; have hfz85_2 := blk_frozen BK159.out 2; have hnb86 := NB160_161.out; have hnc86 := NB161_160.out; have hcz87_0 : wc.cell? ⟨gb160, 0, none⟩ = some (.int .i64 a2_0) := bc_ BK160 0; have hcz87_1 : wc.cell? ⟨gb160, 1, none⟩ = some (.int .i64 a2_1) := bc_ BK160 1; have hcz87_2 : wc.cell? ⟨gb160, 2, none⟩ = some (.bool a2_2) := bc_ BK160 2; have hfz87_0 := blk_frozen BK160.out 0; have hfz87_1 := blk_frozen BK160.out 1; have hfz87_2 := blk_frozen BK160.out 2) | (go_at_call 89; (with_reducible refine (impl_rest.calls (wrap64 ((wrap64 ((wrap64 ((Int.tmod (wrap64 (t164 * t162)) a0_0) * (Int.tmod (wrap64 (t164 * t162)) a0_0))) - a1_0)) - a2_0)) a0_0 t165 _ A77.out).mono ?_); rintro e w' ⟨rfl, ⟨nd, rfl⟩⟩; (try first | exact ⟨rfl, _, World.drewN_drewN _ _ _⟩ | exact ⟨rfl, _, Eq.trans (World.drewN_drewN _ _ _) (congrArg (World.drewN _) (Nat.add_assoc _ _ _))⟩)) | (go_at_call 89; (with_reducible refine (impl_rest.calls (wrap64 ((wrap64 ((Int.tmod (wrap64 (t164 * t162)) a0_0) * (wrap64 (a1_0 - t165)))) - a1_1)) a0_0 t166 _ A78.out).mono ?_); rintro e w' ⟨rfl, ⟨nd, rfl⟩⟩; (try first | exact ⟨rfl, _, World.drewN_drewN _ _ _⟩ | exact ⟨rfl, _, Eq.trans (World.drewN_drewN _ _ _) (congrArg (World.drewN _) (Nat.add_assoc _ _ _))⟩); have hcz88_0 : wc.cell? ⟨gb161, 0, none⟩ = some (.int .i64 x162000_3) := bc_ BK161 0; have hcz88_1 : wc.cell? ⟨gb161, 1, none⟩ = some (.int .i64 x162001_3) := bc_ BK161 1; have hcz88_2 : wc.cell? ⟨gb161, 2, none⟩ = some (.bool x162002_3) := bc_ BK161 2; have hfz88_0 := blk_frozen BK161.out 0; have hfz88_1 := blk_frozen BK161.out 1; have hfz88_2 := blk_frozen BK161.out 2)))
      refine bodyPost_ret (results_cell_row rfl _ _ gb161 55 #[.int .i64 t165, .int .i64 t166, .bool false] (0, 0) _ rfl (by (with_reducible repeat (first | refine blk_drewN ?_ _ | refine blk_drew ?_ | refine blk_alloc ?_ _)); refine blk_put (cs := #[.int .i64 t165, .int .i64 t166, .bool x162002_3]) ?_ 2 _ rfl; (with_reducible repeat (first | refine blk_drewN ?_ _ | refine blk_drew ?_ | refine blk_alloc ?_ _)); refine blk_put (cs := #[.int .i64 t165, .int .i64 x162001_3, .bool x162002_3]) ?_ 1 _ rfl; (with_reducible repeat (first | refine blk_drewN ?_ _ | refine blk_drew ?_ | refine blk_alloc ?_ _)); refine blk_put (cs := #[.int .i64 x162000_3, .int .i64 x162001_3, .bool x162002_3]) ?_ 0 _ rfl; (with_reducible repeat (first | refine blk_drewN ?_ _ | refine blk_drew ?_ | refine blk_alloc ?_ _)); exact BK161.out) Try.underlying55 rfl (by kernel_rfl)) rfl ?_; exact ⟨by first | rfl | (simp [errW_none, errW_some] <;> rfl) | (simp [*, errW_none, errW_some] <;> rfl), by repeat (first | (with_reducible first | exact HB.out | apply below_alloc | apply pw_below_drewN | apply below_drew1 | refine below_set ?_ GE158.out | refine below_set ?_ GE159.out | refine below_set ?_ GE160.out | refine below_set ?_ GE161.out) | exact HB.out)⟩

attribute [local go_sem] fld_
/-! ### impl_Curve_times: function 79 -/
def impl_Curve_times.l0 : Nat → Int → Int → Int → Int → Int → Int → Int → Int → Int → Int → Bool → Int → Int → Bool → Option (Int × Int × Bool)
  | 0, _, _, _, _, _, _, _, _, _, _, _, _, _, _ => none
  | k + 1, x1, x8, x168000, x168001, x168002, x168003, x168004, x168005, x169000, x169001, x169002, x171000, x171001, x171002 => if x8 ≥ 0 then ((impl_Curve_sum.f k x168000 x168001 x168002 x168003 x168004 x168005 x171000 x171001 x171002 x171000 x171001 x171002).bind fun bt172 => (if 0 ≤ x8 then (if (Go.bits .and .i64 (shr .i64 x1 x8) 1) = 1 then ((impl_Curve_sum.f k x168000 x168001 x168002 x168003 x168004 x168005 bt172.1 bt172.2.1 bt172.2.2 x169000 x169001 x169002).bind fun bt175 => (impl_Curve_times.l0 k x1 (wrap64 (x8 - 1)) x168000 x168001 x168002 x168003 x168004 x168005 x169000 x169001 x169002 bt175.1 bt175.2.1 bt175.2.2)) else (impl_Curve_times.l0 k x1 (wrap64 (x8 - 1)) x168000 x168001 x168002 x168003 x168004 x168005 x169000 x169001 x169002 bt172.1 bt172.2.1 bt172.2.2)) else (none))) else (some (x171000, x171001, x171002))
def impl_Curve_times.f (k : Nat) (a0_0 : Int) (a0_1 : Int) (a0_2 : Int) (a0_3 : Int) (a0_4 : Int) (a0_5 : Int) (a1 : Int) (a2_0 : Int) (a2_1 : Int) (a2_2 : Bool) : Option (Int × Int × Bool) := (bits_Len.f k (IntKind.u64.wrap (a1))).bind fun t171 => (impl_Curve_times.l0 k a1 (wrap64 (t171 - 1)) a0_0 a0_1 a0_2 a0_3 a0_4 a0_5 a2_0 a2_1 a2_2 0 0 true)
theorem impl_Curve_times.mono_l : ∀ k, (∀ y0 y1 y2 y3 y4 y5 y6 y7 y8 y9 y10 y11 y12 y13, LeO (impl_Curve_times.l0 k y0 y1 y2 y3 y4 y5 y6 y7 y8 y9 y10 y11 y12 y13) (impl_Curve_times.l0 (k + 1) y0 y1 y2 y3 y4 y5 y6 y7 y8 y9 y10 y11 y12 y13))
 | 0 => fun _ _ _ _ _ _ _ _ _ _ _ _ _ _ r h => by simp [impl_Curve_times.l0] at h
 | k + 1 => by
  have ih0 := impl_Curve_times.mono_l k
  ·
   intro y0 y1 y2 y3 y4 y5 y6 y7 y8 y9 y10 y11 y12 y13
   unfold impl_Curve_times.l0
   repeat' first
   | (with_reducible exact ih0 _ _ _ _ _ _ _ _ _ _ _ _ _ _)
   | (with_reducible exact bits_Len.mono _ _)
   | (with_reducible exact impl_Curve_sum.mono _ _ _ _ _ _ _ _ _ _ _ _ _)
   | (with_reducible exact LeO.refl _)
   | (with_reducible exact LeO.none _)
   | (with_reducible refine LeO.ite ?_ ?_)
   | (with_reducible refine LeO.bind ?_ (fun _ => ?_))
   | exact ih0 _ _ _ _ _ _ _ _ _ _ _ _ _ _
   | exact bits_Len.mono _ _
   | exact impl_Curve_sum.mono _ _ _ _ _ _ _ _ _ _ _ _ _
   | exact LeO.none _
   | refine LeO.ite ?_ ?_
   | refine LeO.bind ?_ (fun _ => ?_)
theorem impl_Curve_times.mono : ∀ a0 a1 a2 a3 a4 a5 a6 a7 a8 a9 k, LeO (impl_Curve_times.f k a0 a1 a2 a3 a4 a5 a6 a7 a8 a9) (impl_Curve_times.f (k + 1) a0 a1 a2 a3 a4 a5 a6 a7 a8 a9) := by
 intro a0 a1 a2 a3 a4 a5 a6 a7 a8 a9 k; have ih0 := impl_Curve_times.mono_l k
 unfold impl_Curve_times.f
 repeat' first
   | (with_reducible exact ih0 _ _ _ _ _ _ _ _ _ _ _ _ _ _)
   | (with_reducible exact bits_Len.mono _ _)
   | (with_reducible exact impl_Curve_sum.mono _ _ _ _ _ _ _ _ _ _ _ _ _)
   | (with_reducible exact LeO.refl _)
   | (with_reducible exact LeO.none _)
   | (with_reducible refine LeO.ite ?_ ?_)
   | (with_reducible refine LeO.bind ?_ (fun _ => ?_))
   | exact ih0 _ _ _ _ _ _ _ _ _ _ _ _ _ _
   | exact bits_Len.mono _ _
   | exact impl_Curve_sum.mono _ _ _ _ _ _ _ _ _ _ _ _ _
   | exact LeO.none _
   | refine LeO.ite ?_ ?_
   | refine LeO.bind ?_ (fun _ => ?_)
set_option maxHeartbeats 8000000 in
set_option maxRecDepth 100000 in
theorem impl_Curve_times.calls (k : Nat) (a0_0 : Int) (a0_1 : Int) (a0_2 : Int) (a0_3 : Int) (a0_4 : Int) (a0_5 : Int) (a1 : Int) (a2_0 : Int) (a2_1 : Int) (a2_2 : Bool) (r1 : Int) (r2 : Int) (r3 : Bool) (w : World) (h : impl_Curve_times.f k a0_0 a0_1 a0_2 a0_3 a0_4 a0_5 a1 a2_0 a2_1 a2_2 = some (r1, r2, r3)) :
  Calls Try.prog 79 #[.agg #[.int .i64 a0_0, .int .i64 a0_1, .int .i64 a0_2, .int .i64 a0_3, .int .i64 a0_4, .int .i64 a0_5], .int .i64 a1, .agg #[.int .i64 a2_0, .int .i64 a2_1, .bool a2_2]] w fun e w' => e = .returned (.agg #[.int .i64 r1, .int .i64 r2, .bool r3]) ∧ Below w.heap.size w w' := by
 have hu43 := Try.underlying43; have hu55 := Try.underlying55; have HB := Aside0.mk (Below.refl w.heap.size w)
 have H : ((bits_Len.f k (IntKind.u64.wrap (a1))).bind fun t171 => (impl_Curve_times.l0 k a1 (wrap64 (t171 - 1)) a0_0 a0_1 a0_2 a0_3 a0_4 a0_5 a2_0 a2_1 a2_2 0 0 true)) = some (r1, r2, r3) := h
 clear h; replace H := Option.bind_eq_some_iff.mp H; obtain ⟨t171, A40, H⟩ := H
 replace H : (impl_Curve_times.l0 k a1 (wrap64 (t171 - 1)) a0_0 a0_1 a0_2 a0_3 a0_4 a0_5 a2_0 a2_1 a2_2 0 0 true) = some (r1, r2, r3) := H
 have A4 := Aside0.mk A40; clear A40
 have H' := Aside0.mk H
 clear H
 go_enter Try.func79, Try.ntmps79
 go_wp2_with (first | ((with_reducible refine gate_dst (N := 3) rfl ?_); refine box_event ?hg (N := 3) ?hd (cs := #[.int .i64 a0_0, .int .i64 a0_1, .int .i64 a0_2, .int .i64 a0_3, .int .i64 a0_4, .int .i64 a0_5]) (t := 43) ?hr ?_; (case hd => rfl); (case hg => rfl); (case hr => first | (go_simp; done) | (go_simp; rfl)); intro gb167 hg w5 hbox hb; have n0_ := bs_ HB hb; have n1_ := Aside0.mk hbox; have n2_ := ge_ HB hg; have n3_ := ge_ HB hg; clear HB; have HB := n0_; have BK167 := n1_; have GW167 := n2_; have GE167 := n3_; clear n0_ n1_ n2_ n3_; clear hb hbox hg) | ((with_reducible refine gate_dst (N := 5) rfl ?_); refine box_event ?hg (N := 5) ?hd (cs := #[.int .i64 a2_0, .int .i64 a2_1, .bool a2_2]) (t := 55) ?hr ?_; (case hd => rfl); (case hg => rfl); (case hr => first | (go_simp; done) | (go_simp; rfl)); intro gb168 hg w6 hbox hb; have n0_ := bb_ BK167 hb; have n1_ := bs_ HB hb; have n2_ := Aside0.mk hbox; have n3_ := ge_ HB hg; have n4_ := ge_ HB hg; have n5_ := nl_ BK167 hg; have n6_ := nr_ BK167 hg; clear BK167; clear HB; have BK167 := n0_; have HB := n1_; have BK168 := n2_; have GW168 := n3_; have GE168 := n4_; have NB167_168 := n5_; have NB168_167 := n6_; clear n0_ n1_ n2_ n3_ n4_ n5_ n6_; clear hb hbox hg) | ((with_reducible refine gate_dst (N := 6) rfl ?_); refine box_event ?hg (N := 6) ?hd (cs := #[.int .i64 0, .int .i64 0, .bool false]) (t := 55) ?hr ?_; (case hd => rfl); (case hg => rfl); (case hr => first | (go_simp; done) | (go_simp; rfl)); intro gb169 hg w7 hbox hb; have n0_ := bb_ BK167 hb; have n1_ := bb_ BK168 hb; have n2_ := bs_ HB hb; have n3_ := Aside0.mk hbox; have n4_ := ge_ HB hg; have n5_ := ge_ HB hg; have n6_ := nl_ BK167 hg; have n7_ := nr_ BK167 hg; have n8_ := nl_ BK168 hg; have n9_ := nr_ BK168 hg; clear BK167; clear BK168; clear HB; have BK167 := n0_; have BK168 := n1_; have HB := n2_; have BK169 := n3_; have GW169 := n4_; have GE169 := n5_; have NB167_169 := n6_; have NB169_167 := n7_; have NB168_169 := n8_; have NB169_168 := n9_; clear n0_ n1_ n2_ n3_ n4_ n5_ n6_ n7_ n8_ n9_; clear hb hbox hg) | ((with_reducible refine gate_dst (N := 7) rfl ?_); refine box_event ?hg (N := 7) ?hd (cs := #[.int .i64 0, .int .i64 0, .bool false]) (t := 55) ?hr ?_; (case hd => rfl); (case hg => rfl); (case hr => first | (go_simp; done) | (go_simp; rfl)); intro gb170 hg w8 hbox hb; have n0_ := bb_ BK167 hb; have n1_ := bb_ BK168 hb; have n2_ := bb_ BK169 hb; have n3_ := bs_ HB hb; have n4_ := Aside0.mk hbox; have n5_ := ge_ HB hg; have n6_ := ge_ HB hg; have n7_ := nl_ BK167 hg; have n8_ := nr_ BK167 hg; have n9_ := nl_ BK168 hg; have n10_ := nr_ BK168 hg; have n11_ := nl_ BK169 hg; have n12_ := nr_ BK169 hg; clear BK167; clear BK168; clear BK169; clear HB; have BK167 := n0_; have BK168 := n1_; have BK169 := n2_; have HB := n3_; have BK170 := n4_; have GW170 := n5_; have GE170 := n6_; have NB167_170 := n7_; have NB170_167 := n8_; have NB168_170 := n9_; have NB170_168 := n10_; have NB169_170 := n11_; have NB170_169 := n12_; clear n0_ n1_ n2_ n3_ n4_ n5_ n6_ n7_ n8_ n9_ n10_ n11_ n12_; clear hb hbox hg; have hnb9 := NB170_167.out; have hnc9 := NB167_170.out; have hnb10 := NB170_168.out; have hnc10 := NB168_170.out; have hnb11 := NB170_169.out; have hnc11 := NB169_170.out; have hcz12_0 : w8.cell? ⟨gb170, 0, none⟩ = some (.int .i64 0) := bc_ BK170 0; have hcz12_1 : w8.cell? ⟨gb170, 1, none⟩ = some (.int .i64 0) := bc_ BK170 1; have hcz12_2 : w8.cell? ⟨gb170, 2, none⟩ = some (.bool false) := bc_ BK170 2; have hfz12_0 := blk_frozen BK170.out 0; have hfz12_1 := blk_frozen BK170.out 1; have hfz12_2 := blk_frozen BK170.out 2) | ((with_reducible refine gate_callee (f := 87) rfl ?_); refine goesL_ (some 12) rfl rfl Try.func87 (by kernel_rfl) rfl #[.int .u64 (IntKind.u64.wrap (a1))] rfl (by (try simp only [List.map_toArray, List.map_cons, List.map_nil]); first | done | rfl | (simp only [List.length_drop, List.length_take]; rfl)) ?_; (with_reducible refine (bits_Len.calls k (IntKind.u64.wrap (a1)) t171 _ A4.out).mono ?_); rintro e w' ⟨rfl, ⟨nd, rfl⟩⟩; refine ⟨_, rfl, ?_⟩))
 go_loopg [8] k (fun kq v8 w' => ∃ (x8_1 : Int) (x171000_1 : Int) (x171001_1 : Int) (x171002_1 : Bool), v8 = .int .i64 x8_1 ∧ Aside0 (impl_Curve_times.l0 kq a1 x8_1 a0_0 a0_1 a0_2 a0_3 a0_4 a0_5 a2_0 a2_1 a2_2 x171000_1 x171001_1 x171002_1 = some (r1, r2, r3)) ∧ Aside0 (kq ≤ k) ∧ Aside0 (w'.heap[gb167]? = some (.cells #[.int .i64 a0_0, .int .i64 a0_1, .int .i64 a0_2, .int .i64 a0_3, .int .i64 a0_4, .int .i64 a0_5] 43 (0, 0))) ∧ Aside0 (w'.heap[gb168]? = some (.cells #[.int .i64 a2_0, .int .i64 a2_1, .bool a2_2] 55 (0, 0))) ∧ Aside0 (w'.heap[gb169]? = some (.cells #[.int .i64 0, .int .i64 0, .bool false] 55 (0, 0))) ∧ Aside0 (w'.heap[gb170]? = some (.cells #[.int .i64 x171000_1, .int .i64 x171001_1, .bool x171002_1] 55 (0, 0))) ∧ Aside0 (Below w.heap.size w w'))
 case atStart => exact ⟨(wrap64 (t171 - 1)), (0), (0), (true), (by first | rfl | (simp; done) | (simp [*]; done)), H', ⟨Nat.le_refl _⟩, ⟨by (with_reducible repeat (first | refine blk_drewN ?_ _ | refine blk_drew ?_ | refine blk_alloc ?_ _)); refine blk_far ?_ NB167_170.out _; (with_reducible repeat (first | refine blk_drewN ?_ _ | refine blk_drew ?_ | refine blk_alloc ?_ _)); refine blk_far ?_ NB167_170.out _; (with_reducible repeat (first | refine blk_drewN ?_ _ | refine blk_drew ?_ | refine blk_alloc ?_ _)); refine blk_far ?_ NB167_170.out _; (with_reducible repeat (first | refine blk_drewN ?_ _ | refine blk_drew ?_ | refine blk_alloc ?_ _)); exact BK167.out⟩, ⟨by (with_reducible repeat (first | refine blk_drewN ?_ _ | refine blk_drew ?_ | refine blk_alloc ?_ _)); refine blk_far ?_ NB168_170.out _; (with_reducible repeat (first | refine blk_drewN ?_ _ | refine blk_drew ?_ | refine blk_alloc ?_ _)); refine blk_far ?_ NB168_170.out _; (with_reducible repeat (first | refine blk_drewN ?_ _ | refine blk_drew ?_ | refine blk_alloc ?_ _)); refine blk_far ?_ NB168_170.out _; (with_reducible repeat (first | refine blk_drewN ?_ _ | refine blk_drew ?_ | refine blk_alloc ?_ _)); exact BK168.out⟩, ⟨by (with_reducible repeat (first | refine blk_drewN ?_ _ | refine blk_drew ?_ | refine blk_alloc ?_ _)); refine blk_far ?_ NB169_170.out _; (with_reducible repeat (first | refine blk_drewN ?_ _ | refine blk_drew ?_ | refine blk_alloc ?_ _)); refine blk_far ?_ NB169_170.out _; (with_reducible repeat (first | refine blk_drewN ?_ _ | refine blk_drew ?_ | refine blk_alloc ?_ _)); refine blk_far ?_ NB169_170.out _; (with_reducible repeat (first | refine blk_drewN ?_ _ | refine blk_drew ?_ | refine blk_alloc ?_ _)); exact BK169.out⟩, ⟨by (with_reducible repeat (first | refine blk_drewN ?_ _ | refine blk_drew ?_ | refine blk_alloc ?_ _)); refine blk_put (cs := #[.int .i64 0, .int .i64 0, .bool false]) ?_ 2 _ rfl; (with_reducible repeat (first | refine blk_drewN ?_ _ | refine blk_drew ?_ | refine blk_alloc ?_ _)); refine blk_put (cs := #[.int .i64 0, .int .i64 0, .bool false]) ?_ 1 _ rfl; (with_reducible repeat (first | refine blk_drewN ?_ _ | refine blk_drew ?_ | refine blk_alloc ?_ _)); refine blk_put (cs := #[.int .i64 0, .int .i64 0, .bool false]) ?_ 0 _ rfl; (with_reducible repeat (first | refine blk_drewN ?_ _ | refine blk_drew ?_ | refine blk_alloc ?_ _)); exact BK170.out⟩, ⟨by repeat (first | (with_reducible first | exact HB.out | apply below_alloc | apply pw_below_drewN | apply below_drew1 | refine below_set ?_ GE167.out | refine below_set ?_ GE168.out | refine below_set ?_ GE169.out | refine below_set ?_ GE170.out) | exact HB.out)⟩⟩
 case round =>
  clear H'
  try clear c1
  try clear p2
  try clear p6
  try clear c7
  try clear c8
  try clear c9
  try clear c10
  try clear c11
  try clear hcz12_0
  try clear hcz12_1
  try clear hcz12_2
  try clear hfz12_0
  try clear hfz12_1
  try clear hfz12_2
  obtain ⟨x8_1, x171000_1, x171001_1, x171002_1, rfl, HA, HK1, BK167, BK168, BK169, BK170, HB⟩ := hrel
  cases gk with
  | zero => exact absurd HA.out (by simp [impl_Curve_times.l0])
  | succ k1 =>
   have H := HA.out; clear HA
   simp only [impl_Curve_times.l0] at H
   by_cases c13 : x8_1 ≥ 0
   ·
    rw [if_pos c13] at H
    have c13b0 : decide (0 ≤ x8_1) = true := decide_eq_true c13
    clear c13; replace H := Option.bind_eq_some_iff.mp H; obtain ⟨⟨t172, t173, t174⟩, A140, H⟩ := H
    replace H : (if 0 ≤ x8_1 then (if (Go.bits .and .i64 (shr .i64 a1 x8_1) 1) = 1 then ((impl_Curve_sum.f k1 a0_0 a0_1 a0_2 a0_3 a0_4 a0_5 t172 t173 t174 a2_0 a2_1 a2_2).bind fun bt175 => (impl_Curve_times.l0 k1 a1 (wrap64 (x8_1 - 1)) a0_0 a0_1 a0_2 a0_3 a0_4 a0_5 a2_0 a2_1 a2_2 bt175.1 bt175.2.1 bt175.2.2)) else (impl_Curve_times.l0 k1 a1 (wrap64 (x8_1 - 1)) a0_0 a0_1 a0_2 a0_3 a0_4 a0_5 a2_0 a2_1 a2_2 t172 t173 t174)) else (none)) = some (r1, r2, r3) := H
    have A14 := Aside0.mk A140; clear A140
    by_cases c15 : 0 ≤ x8_1
    ·
     rw [if_pos c15] at H; have c15b0 := eq_true c15
     have c15b1 : decide (0 ≤ x8_1) = true := decide_eq_true c15
     clear c15; obtain ⟨ji16, hji16⟩ : ∃ j_ : Int, (shr .i64 a1 x8_1) = j_ := ⟨_, rfl⟩
     replace H : (if (Go.bits .and .i64 (ji16) 1) = 1 then ((impl_Curve_sum.f k1 a0_0 a0_1 a0_2 a0_3 a0_4 a0_5 t172 t173 t174 a2_0 a2_1 a2_2).bind fun bt175 => (impl_Curve_times.l0 k1 a1 (wrap64 (x8_1 - 1)) a0_0 a0_1 a0_2 a0_3 a0_4 a0_5 a2_0 a2_1 a2_2 bt175.1 bt175.2.1 bt175.2.2)) else (impl_Curve_times.l0 k1 a1 (wrap64 (x8_1 - 1)) a0_0 a0_1 a0_2 a0_3 a0_4 a0_5 a2_0 a2_1 a2_2 t172 t173 t174)) = some (r1, r2, r3) := by first | (rw [hji16] at H; exact H) | (simp only [hji16] at H ⊢; exact H)
     (try rw [hji16] at A14)
     have hji16_ : (a1 / 2 ^ min x8_1.toNat 64) = ji16 := hji16
     have hji16z : x8_1 ≤ 64 → (a1 / 2 ^ x8_1.toNat) = ji16 := shr_small hji16
     by_cases c17 : (Go.bits .and .i64 (ji16) 1) = 1
     ·
      rw [if_pos c17] at H
      have c17b0 : ((Go.bits .and .i64 (ji16) 1) == 1) = true := beq_iff_eq.mpr c17
      have c17b1 : ((Go.bits .and .i64 (ji16) 1) != 1) = false := bne_eq_false_iff_eq.mpr c17
      clear c17; replace H := Option.bind_eq_some_iff.mp H; obtain ⟨⟨t175, t176, t177⟩, A180, H⟩ := H
      replace H : (impl_Curve_times.l0 k1 a1 (wrap64 (x8_1 - 1)) a0_0 a0_1 a0_2 a0_3 a0_4 a0_5 a2_0 a2_1 a2_2 t175 t176 t177) = some (r1, r2, r3) := H
      have A18 := Aside0.mk A180; clear A180
      have H' := Aside0.mk H
      clear H; have hnb19 := NB167_168.out; have hnc19 := NB168_167.out; have hnb20 := NB167_169.out; have hnc20 := NB169_167.out; have hnb21 := NB167_170.out; have hnc21 := NB170_167.out
      have hcz22_0 : wr.cell? ⟨gb167, 0, none⟩ = some (.int .i64 a0_0) := bc_ BK167 0
      have hcz22_1 : wr.cell? ⟨gb167, 1, none⟩ = some (.int .i64 a0_1) := bc_ BK167 1
      have hcz22_2 : wr.cell? ⟨gb167, 2, none⟩ = some (.int .i64 a0_2) := bc_ BK167 2
      have hcz22_3 : wr.cell? ⟨gb167, 3, none⟩ = some (.int .i64 a0_3) := bc_ BK167 3
      have hcz22_4 : wr.cell? ⟨gb167, 4, none⟩ = some (.int .i64 a0_4) := bc_ BK167 4
      have hcz22_5 : wr.cell? ⟨gb167, 5, none⟩ = some (.int .i64 a0_5) := bc_ BK167 5
      have hfz22_0 := blk_frozen BK167.out 0; have hfz22_1 := blk_frozen BK167.out 1; have hfz22_2 := blk_frozen BK167.out 2; have hfz22_3 := blk_frozen BK167.out 3; have hfz22_4 := blk_frozen BK167.out 4; have hfz22_5 := blk_frozen BK167.out 5; have hnb23 := NB170_168.out; have hnc23 := NB168_170.out; have hnb24 := NB170_169.out; have hnc24 := NB169_170.out
      have hcz25_0 : wr.cell? ⟨gb170, 0, none⟩ = some (.int .i64 x171000_1) := bc_ BK170 0
      have hcz25_1 : wr.cell? ⟨gb170, 1, none⟩ = some (.int .i64 x171001_1) := bc_ BK170 1
      have hcz25_2 : wr.cell? ⟨gb170, 2, none⟩ = some (.bool x171002_1) := bc_ BK170 2
      have hfz25_0 := blk_frozen BK170.out 0; have hfz25_1 := blk_frozen BK170.out 1; have hfz25_2 := blk_frozen BK170.out 2
      go_wp2_with (first | ((with_reducible refine gate_callee (f := 92) rfl ?_); refine goesL_ (some 21) rfl rfl Try.func92 (by kernel_rfl) rfl #[.agg #[.int .i64 a0_0, .int .i64 a0_1, .int .i64 a0_2, .int .i64 a0_3, .int .i64 a0_4, .int .i64 a0_5], .agg #[.int .i64 x171000_1, .int .i64 x171001_1, .bool x171002_1], .agg #[.int .i64 x171000_1, .int .i64 x171001_1, .bool x171002_1]] rfl (by (try simp only [List.map_toArray, List.map_cons, List.map_nil]); first | done | rfl | (simp only [List.length_drop, List.length_take]; rfl)) ?_; (with_reducible refine (impl_Curve_sum.calls k1 a0_0 a0_1 a0_2 a0_3 a0_4 a0_5 x171000_1 x171001_1 x171002_1 x171000_1 x171001_1 x171002_1 t172 t173 t174 _ A14.out).mono ?_); rintro e w26 ⟨rfl, hb⟩; refine ⟨_, rfl, ?_⟩; have n0_ := bb_ BK167 hb; have n1_ := bb_ BK168 hb; have n2_ := bb_ BK169 hb; have n3_ := bb_ BK170 hb; have n4_ := bs_ HB hb; clear BK167; clear BK168; clear BK169; clear BK170; clear HB; have BK167 := n0_; have BK168 := n1_; have BK169 := n2_; have BK170 := n3_; have HB := n4_; clear n0_ n1_ n2_ n3_ n4_; (try clear hb); (try clear hb2); (try clear hk); (try clear hi); have hcz27_0 : w26.cell? ⟨gb170, 0, none⟩ = some (.int .i64 x171000_1) := bc_ BK170 0; have hcz27_1 : w26.cell? ⟨gb170, 1, none⟩ = some (.int .i64 x171001_1) := bc_ BK170 1; have hcz27_2 : w26.cell? ⟨gb170, 2, none⟩ = some (.bool x171002_1) := bc_ BK170 2; have hfz27_0 := blk_frozen BK170.out 0; have hfz27_1 := blk_frozen BK170.out 1; have hfz27_2 := blk_frozen BK170.out 2; have hcz28_0 : w26.cell? ⟨gb167, 0, none⟩ = some (.int .i64 a0_0) := bc_ BK167 0; have hcz28_1 : w26.cell? ⟨gb167, 1, none⟩ = some (.int .i64 a0_1) := bc_ BK167 1; have hcz28_2 : w26.cell? ⟨gb167, 2, none⟩ = some (.int .i64 a0_2) := bc_ BK167 2; have hcz28_3 : w26.cell? ⟨gb167, 3, none⟩ = some (.int .i64 a0_3) := bc_ BK167 3; have hcz28_4 : w26.cell? ⟨gb167, 4, none⟩ = some (.int .i64 a0_4) := bc_ BK167 4; have hcz28_5 : w26.cell? ⟨gb167, 5, none⟩ = some (.int .i64 a0_5) := bc_ BK167 5; have hfz28_0 := blk_frozen BK167.out 0; have hfz28_1 := blk_frozen BK167.out 1; have hfz28_2 := blk_frozen BK167.out 2; have hfz28_3 := blk_frozen BK167.out 3; have hfz28_4 := blk_frozen BK167.out 4; have hfz28_5 := blk_frozen BK167.out 5; have hnb29 := NB168_169.out; have hnc29 := NB169_168.out; have hcz30_0 : w26.cell? ⟨gb168, 0, none⟩ = some (.int .i64 a2_0) := bc_ BK168 0; have hcz30_1 : w26.cell? ⟨gb168, 1, none⟩ = some (.int .i64 a2_1) := bc_ BK168 1; have hcz30_2 : w26.cell? ⟨gb168, 2, none⟩ = some (.bool a2_2) := bc_ BK168 2; have hfz30_0 := blk_frozen BK168.out 0; have hfz30_1 := blk_frozen BK168.out 1; have hfz30_2 := blk_frozen BK168.out 2) | ((with_reducible refine gate_callee (f := 92) rfl ?_); refine goesL_ (some 30) rfl rfl Try.func92 (by kernel_rfl) rfl #[.agg #[.int .i64 a0_0, .int .i64 a0_1, .int .i64 a0_2, .int .i64 a0_3, .int .i64 a0_4, .int .i64 a0_5], .agg #[.int .i64 t172, .int .i64 t173, .bool t174], .agg #[.int .i64 a2_0, .int .i64 a2_1, .bool a2_2]] rfl (by (try simp only [List.map_toArray, List.map_cons, List.map_nil]); first | done | rfl | (simp only [List.length_drop, List.length_take]; rfl)) ?_; (with_reducible refine (impl_Curve_sum.calls k1 a0_0 a0_1 a0_2 a0_3 a0_4 a0_5 t172 t173 t174 a2_0 a2_1 a2_2 t175 t176 t177 _ A18.out).mono ?_); rintro e w31 ⟨rfl, hb⟩; refine ⟨_, rfl, ?_⟩; have n0_ := Aside0.mk (blk_below (g := gb167) (o := .cells #[.int .i64 a0_0, .int .i64 a0_1, .int .i64 a0_2, .int .i64 a0_3, .int .i64 a0_4, .int .i64 a0_5] 43 (0, 0)) (by (with_reducible repeat (first | refine blk_drewN ?_ _ | refine blk_drew ?_ | refine blk_alloc ?_ _)); refine blk_far ?_ NB167_170.out _; (with_reducible repeat (first | refine blk_drewN ?_ _ | refine blk_drew ?_ | refine blk_alloc ?_ _)); refine blk_far ?_ NB167_170.out _; (with_reducible repeat (first | refine blk_drewN ?_ _ | refine blk_drew ?_ | refine blk_alloc ?_ _)); refine blk_far ?_ NB167_170.out _; (with_reducible repeat (first | refine blk_drewN ?_ _ | refine blk_drew ?_ | refine blk_alloc ?_ _)); exact BK167.out) hb); have n1_ := Aside0.mk (blk_below (g := gb168) (o := .cells #[.int .i64 a2_0, .int .i64 a2_1, .bool a2_2] 55 (0, 0)) (by (with_reducible repeat (first | refine blk_drewN ?_ _ | refine blk_drew ?_ | refine blk_alloc ?_ _)); refine blk_far ?_ NB168_170.out _; (with_reducible repeat (first | refine blk_drewN ?_ _ | refine blk_drew ?_ | refine blk_alloc ?_ _)); refine blk_far ?_ NB168_170.out _; (with_reducible repeat (first | refine blk_drewN ?_ _ | refine blk_drew ?_ | refine blk_alloc ?_ _)); refine blk_far ?_ NB168_170.out _; (with_reducible repeat (first | refine blk_drewN ?_ _ | refine blk_drew ?_ | refine blk_alloc ?_ _)); exact BK168.out) hb); have n2_ := Aside0.mk (blk_below (g := gb169) (o := .cells #[.int .i64 0, .int .i64 0, .bool false] 55 (0, 0)) (by (with_reducible repeat (first | refine blk_drewN ?_ _ | refine blk_drew ?_ | refine blk_alloc ?_ _)); refine blk_far ?_ NB169_170.out _; (with_reducible repeat (first | refine blk_drewN ?_ _ | refine blk_drew ?_ | refine blk_alloc ?_ _)); refine blk_far ?_ NB169_170.out _; (with_reducible repeat (first | refine blk_drewN ?_ _ | refine blk_drew ?_ | refine blk_alloc ?_ _)); refine blk_far ?_ NB169_170.out _; (with_reducible repeat (first | refine blk_drewN ?_ _ | refine blk_drew ?_ | refine blk_alloc ?_ _)); exact BK169.out) hb); have n3_ := Aside0.mk (blk_below (g := gb170) (o := .cells #[.int .i64 t172, .int .i64 t173, .bool t174] 55 (0, 0)) (by (with_reducible repeat (first | refine blk_drewN ?_ _ | refine blk_drew ?_ | refine blk_alloc ?_ _)); refine blk_put (cs := #[.int .i64 t172, .int .i64 t173, .bool x171002_1]) ?_ 2 _ rfl; (with_reducible repeat (first | refine blk_drewN ?_ _ | refine blk_drew ?_ | refine blk_alloc ?_ _)); refine blk_put (cs := #[.int .i64 t172, .int .i64 x171001_1, .bool x171002_1]) ?_ 1 _ rfl; (with_reducible repeat (first | refine blk_drewN ?_ _ | refine blk_drew ?_ | refine blk_alloc ?_ _)); refine blk_put (cs := #[.int .i64 x171000_1, .int .i64 x171001_1, .bool x171002_1]) ?_ 0 _ rfl; (with_reducible repeat (first | refine blk_drewN ?_ _ | refine blk_drew ?_ | refine blk_alloc ?_ _)); exact BK170.out) hb); have n4_ := bs_ HB hb; clear BK167; clear BK168; clear BK169; clear BK170; clear HB; have BK167 := n0_; have BK168 := n1_; have BK169 := n2_; have BK170 := n3_; have HB := n4_; clear n0_ n1_ n2_ n3_ n4_; (try clear hb); (try clear hb2); (try clear hk); (try clear hi); have hcz32_0 : w31.cell? ⟨gb170, 0, none⟩ = some (.int .i64 t172) := bc_ BK170 0; have hcz32_1 : w31.cell? ⟨gb170, 1, none⟩ = some (.int .i64 t173) := bc_ BK170 1; have hcz32_2 : w31.cell? ⟨gb170, 2, none⟩ = some (.bool t174) := bc_ BK170 2; have hfz32_0 := blk_frozen BK170.out 0; have hfz32_1 := blk_frozen BK170.out 1; have hfz32_2 := blk_frozen BK170.out 2))
      go_roundg k1
      case measure => have := HK1.out; omega
      case rel => exact ⟨(wrap64 (x8_1 - 1)), (t175), (t176), (t177), (by first | rfl | (simp; done) | (simp [*]; done)), H', ⟨by have := HK1.out; omega⟩, ⟨by (with_reducible repeat (first | refine blk_drewN ?_ _ | refine blk_drew ?_ | refine blk_alloc ?_ _)); refine blk_far ?_ NB167_170.out _; (with_reducible repeat (first | refine blk_drewN ?_ _ | refine blk_drew ?_ | refine blk_alloc ?_ _)); refine blk_far ?_ NB167_170.out _; (with_reducible repeat (first | refine blk_drewN ?_ _ | refine blk_drew ?_ | refine blk_alloc ?_ _)); refine blk_far ?_ NB167_170.out _; (with_reducible repeat (first | refine blk_drewN ?_ _ | refine blk_drew ?_ | refine blk_alloc ?_ _)); exact BK167.out⟩, ⟨by (with_reducible repeat (first | refine blk_drewN ?_ _ | refine blk_drew ?_ | refine blk_alloc ?_ _)); refine blk_far ?_ NB168_170.out _; (with_reducible repeat (first | refine blk_drewN ?_ _ | refine blk_drew ?_ | refine blk_alloc ?_ _)); refine blk_far ?_ NB168_170.out _; (with_reducible repeat (first | refine blk_drewN ?_ _ | refine blk_drew ?_ | refine blk_alloc ?_ _)); refine blk_far ?_ NB168_170.out _; (with_reducible repeat (first | refine blk_drewN ?_ _ | refine blk_drew ?_ | refine blk_alloc ?_ _)); exact BK168.out⟩, ⟨by (with_reducible repeat (first | refine blk_drewN ?_ _ | refine blk_drew ?_ | refine blk_alloc ?_ _)); refine blk_far ?_ NB169_170.out _; (with_reducible repeat (first | refine blk_drewN ?_ _ | refine blk_drew ?_ | refine blk_alloc ?_ _)); refine blk_far ?_ NB169_170.out _; (with_reducible repeat (first | refine blk_drewN ?_ _ | refine blk_drew ?_ | refine blk_alloc ?_ _)); refine blk_far ?_ NB169_170.out _; (with_reducible repeat (first | refine blk_drewN ?_ _ | refine blk_drew ?_ | refine blk_alloc ?_ _)); exact BK169.out⟩, ⟨by (with_reducible repeat (first | refine blk_drewN ?_ _ | refine blk_drew ?_ | refine blk_alloc ?_ _)); refine blk_put (cs := #[.int .i64 t175, .int .i64 t176, .bool t174]) ?_ 2 _ rfl; (with_reducible repeat (first | refine blk_drewN ?_ _ | refine blk_drew ?_ | refine blk_alloc ?_ _)); refine blk_put (cs := #[.int .i64 t175, .int .i64 t173, .bool t174]) ?_ 1 _ rfl; (with_reducible repeat (first | refine blk_drewN ?_ _ | refine blk_drew ?_ | refine blk_alloc ?_ _)); refine blk_put (cs := #[.int .i64 t172, .int .i64 t173, .bool t174]) ?_ 0 _ rfl; (with_reducible repeat (first | refine blk_drewN ?_ _ | refine blk_drew ?_ | refine blk_alloc ?_ _)); exact BK170.out⟩, ⟨by repeat (first | (with_reducible first | exact HB.out | apply below_alloc | apply pw_below_drewN | apply below_drew1 | refine below_set ?_ GE167.out | refine below_set ?_ GE168.out | refine below_set ?_ GE169.out | refine below_set ?_ GE170.out) | exact HB.out)⟩⟩
     ·
      rw [if_neg c17] at H
      have c17b0 : ((Go.bits .and .i64 (ji16) 1) == 1) = false := beq_eq_false_iff_ne.mpr c17
      have c17b1 : ((Go.bits .and .i64 (ji16) 1) != 1) = true := bne_iff_ne.mpr c17
      have H' := Aside0.mk H
      clear H; have hnb33 := NB167_168.out; have hnc33 := NB168_167.out; have hnb34 := NB167_169.out; have hnc34 := NB169_167.out; have hnb35 := NB167_170.out; have hnc35 := NB170_167.out
      have hcz36_0 : wr.cell? ⟨gb167, 0, none⟩ = some (.int .i64 a0_0) := bc_ BK167 0
      have hcz36_1 : wr.cell? ⟨gb167, 1, none⟩ = some (.int .i64 a0_1) := bc_ BK167 1
      have hcz36_2 : wr.cell? ⟨gb167, 2, none⟩ = some (.int .i64 a0_2) := bc_ BK167 2
      have hcz36_3 : wr.cell? ⟨gb167, 3, none⟩ = some (.int .i64 a0_3) := bc_ BK167 3
      have hcz36_4 : wr.cell? ⟨gb167, 4, none⟩ = some (.int .i64 a0_4) := bc_ BK167 4
      have hcz36_5 : wr.cell? ⟨gb167, 5, none⟩ = some (.int .i64 a0_5) := bc_ BK167 5
      have hfz36_0 := blk_frozen BK167.out 0; have hfz36_1 := blk_frozen BK167.out 1; have hfz36_2 := blk_frozen BK167.out 2; have hfz36_3 := blk_frozen BK167.out 3; have hfz36_4 := blk_frozen BK167.out 4; have hfz36_5 := blk_frozen BK167.out 5; have hnb37 := NB170_168.out; have hnc37 := NB168_170.out; have hnb38 := NB170_169.out; have hnc38 := NB169_170.out
      have hcz39_0 : wr.cell? ⟨gb170, 0, none⟩ = some (.int .i64 x171000_1) := bc_ BK170 0
      have hcz39_1 : wr.cell? ⟨gb170, 1, none⟩ = some (.int .i64 x171001_1) := bc_ BK170 1
      have hcz39_2 : wr.cell? ⟨gb170, 2, none⟩ = some (.bool x171002_1) := bc_ BK170 2
      have hfz39_0 := blk_frozen BK170.out 0; have hfz39_1 := blk_frozen BK170.out 1; have hfz39_2 := blk_frozen BK170.out 2
      go_wp2_with (first | ((with_reducible refine gate_callee (f := 92) rfl ?_); refine goesL_ (some 21) rfl rfl Try.func92 (by kernel_rfl) rfl #[.agg #[.int .i64 a0_0, .int .i64 a0_1, .int .i64 a0_2, .int .i64 a0_3, .int .i64 a0_4, .int .i64 a0_5], .agg #[.int .i64 x171000_1, .int .i64 x171001_1, .bool x171002_1], .agg #[.int .i64 x171000_1, .int .i64 x171001_1, .bool x171002_1]] rfl (by (try simp only [List.map_toArray, List.map_cons, List.map_nil]); first | done | rfl | (simp only [List.length_drop, List.length_take]; rfl)) ?_; (with_reducible refine (impl_Curve_sum.calls k1 a0_0 a0_1 a0_2 a0_3 a0_4 a0_5 x171000_1 x171001_1 x171002_1 x171000_1 x171001_1 x171002_1 t172 t173 t174 _ A14.out).mono ?_); rintro e w40 ⟨rfl, hb⟩; refine ⟨_, rfl, ?_⟩; have n0_ := bb_ BK167 hb; have n1_ := bb_ BK168 hb; have n2_ := bb_ BK169 hb; have n3_ := bb_ BK170 hb; have n4_ := bs_ HB hb; clear BK167; clear BK168; clear BK169; clear BK170; clear HB; have BK167 := n0_; have BK168 := n1_; have BK169 := n2_; have BK170 := n3_; have HB := n4_; clear n0_ n1_ n2_ n3_ n4_; (try clear hb); (try clear hb2); (try clear hk); (try clear hi); have hcz41_0 : w40.cell? ⟨gb170, 0, none⟩ = some (.int .i64 x171000_1) := bc_ BK170 0; have hcz41_1 : w40.cell? ⟨gb170, 1, none⟩ = some (.int .i64 x171001_1) := bc_ BK170 1; have hcz41_2 : w40.cell? ⟨gb170, 2, none⟩ = some (.bool x171002_1) := bc_ BK170 2; have hfz41_0 := blk_frozen BK170.out 0; have hfz41_1 := blk_frozen BK170.out 1; have hfz41_2 := blk_frozen BK170.out 2))
      go_roundg k1
      case measure => have := HK1.out; omega
      case rel => exact ⟨(wrap64 (x8_1 - 1)), (t172), (t173), (t174), (by first | rfl | (simp; done) | (simp [*]; done)), H', ⟨by have := HK1.out; omega⟩, ⟨by (with_reducible repeat (first | refine blk_drewN ?_ _ | refine blk_drew ?_ | refine blk_alloc ?_ _)); refine blk_far ?_ NB167_170.out _; (with_reducible repeat (first | refine blk_drewN ?_ _ | refine blk_drew ?_ | refine blk_alloc ?_ _)); refine blk_far ?_ NB167_170.out _; (with_reducible repeat (first | refine blk_drewN ?_ _ | refine blk_drew ?_ | refine blk_alloc ?_ _)); refine blk_far ?_ NB167_170.out _; (with_reducible repeat (first | refine blk_drewN ?_ _ | refine blk_drew ?_ | refine blk_alloc ?_ _)); exact BK167.out⟩, ⟨by (with_reducible repeat (first | refine blk_drewN ?_ _ | refine blk_drew ?_ | refine blk_alloc ?_ _)); refine blk_far ?_ NB168_170.out _; (with_reducible repeat (first | refine blk_drewN ?_ _ | refine blk_drew ?_ | refine blk_alloc ?_ _)); refine blk_far ?_ NB168_170.out _; (with_reducible repeat (first | refine blk_drewN ?_ _ | refine blk_drew ?_ | refine blk_alloc ?_ _)); refine blk_far ?_ NB168_170.out _; (with_reducible repeat (first | refine blk_drewN ?_ _ | refine blk_drew ?_ | refine blk_alloc ?_ _)); exact BK168.out⟩, ⟨by (with_reducible repeat (first | refine blk_drewN ?_ _ | refine blk_drew ?_ | refine blk_alloc ?_ _)); refine blk_far ?_ NB169_170.out _; (with_reducible repeat (first | refine blk_drewN ?_ _ | refine blk_drew ?_ | refine blk_alloc ?_ _)); refine blk_far ?_ NB169_170.out _; (with_reducible repeat (first | refine blk_drewN ?_ _ | refine blk_drew ?_ | refine blk_alloc ?_ _)); refine blk_far ?_ NB169_170.out _; (with_reducible repeat (first | refine blk_drewN ?_ _ | refine blk_drew ?_ | refine blk_alloc ?_ _)); exact BK169.out⟩, ⟨by (with_reducible repeat (first | refine blk_drewN ?_ _ | refine blk_drew ?_ | refine blk_alloc ?_ _)); refine blk_put (cs := #[.int .i64 t172, .int .i64 t173, .bool x171002_1]) ?_ 2 _ rfl; (with_reducible repeat (first | refine blk_drewN ?_ _ | refine blk_drew ?_ | refine blk_alloc ?_ _)); refine blk_put (cs := #[.int .i64 t172, .int .i64 x171001_1, .bool x171002_1]) ?_ 1 _ rfl; (with_reducible repeat (first | refine blk_drewN ?_ _ | refine blk_drew ?_ | refine blk_alloc ?_ _)); refine blk_put (cs := #[.int .i64 x171000_1, .int .i64 x171001_1, .bool x171002_1]) ?_ 0 _ rfl; (with_reducible repeat (first | refine blk_drewN ?_ _ | refine blk_drew ?_ | refine blk_alloc ?_ _)); exact BK170.out⟩, ⟨by repeat (first | (with_reducible first | exact HB.out | apply below_alloc | apply pw_below_drewN | apply below_drew1 | refine below_set ?_ GE167.out | refine below_set ?_ GE168.out | refine below_set ?_ GE169.out | refine below_set ?_ GE170.out) | exact HB.out)⟩⟩
    · rw [if_neg c15] at H; exact absurd H (by simp)
   ·
    rw [if_neg c13] at H
    have c13b0 : decide (0 ≤ x8_1) = false := decide_eq_false c13
    clear c13
    simp only [Option.some.injEq, Prod.mk.injEq] at H
    obtain ⟨rfl, rfl, rfl⟩ := H; have hnb42 := NB170_167.out; have hnc42 := NB167_170.out; have hnb43 := NB170_168.out; have hnc43 := NB168_170.out; have hnb44 := NB170_169.out; have hnc44 := NB169_170.out
    have hcz45_0 : wr.cell? ⟨gb170, 0, none⟩ = some (.int .i64 x171000_1) := bc_ BK170 0
    have hcz45_1 : wr.cell? ⟨gb170, 1, none⟩ = some (.int .i64 x171001_1) := bc_ BK170 1
    have hcz45_2 : wr.cell? ⟨gb170, 2, none⟩ = some (.bool x171002_1) := bc_ BK170 2
    have hfz45_0 := blk_frozen BK170.out 0; have hfz45_1 := blk_frozen BK170.out 1; have hfz45_2 := blk_frozen BK170.out 2; have hnb46 := NB169_167.out; have hnc46 := NB167_169.out; have hnb47 := NB169_168.out; have hnc47 := NB168_169.out
    have hcz48_0 : wr.cell? ⟨gb169, 0, none⟩ = some (.int .i64 0) := bc_ BK169 0
    have hcz48_1 : wr.cell? ⟨gb169, 1, none⟩ = some (.int .i64 0) := bc_ BK169 1
    have hcz48_2 : wr.cell? ⟨gb169, 2, none⟩ = some (.bool false) := bc_ BK169 2
    have hfz48_0 := blk_frozen BK169.out 0; have hfz48_1 := blk_frozen BK169.out 1; have hfz48_2 := blk_frozen BK169.out 2
    go_wp2
    refine bodyPost_ret (results_cell_row rfl _ _ gb169 55 #[.int .i64 x171000_1, .int .i64 x171001_1, .bool x171002_1] (0, 0) _ rfl (by (with_reducible repeat (first | refine blk_drewN ?_ _ | refine blk_drew ?_ | refine blk_alloc ?_ _)); refine blk_put (cs := #[.int .i64 x171000_1, .int .i64 x171001_1, .bool false]) ?_ 2 _ rfl; (with_reducible repeat (first | refine blk_drewN ?_ _ | refine blk_drew ?_ | refine blk_alloc ?_ _)); refine blk_put (cs := #[.int .i64 x171000_1, .int .i64 0, .bool false]) ?_ 1 _ rfl; (with_reducible repeat (first | refine blk_drewN ?_ _ | refine blk_drew ?_ | refine blk_alloc ?_ _)); refine blk_put (cs := #[.int .i64 0, .int .i64 0, .bool false]) ?_ 0 _ rfl; (with_reducible repeat (first | refine blk_drewN ?_ _ | refine blk_drew ?_ | refine blk_alloc ?_ _)); exact BK169.out) Try.underlying55 rfl (by kernel_rfl)) rfl ?_; exact ⟨by first | rfl | (simp [errW_none, errW_some] <;> rfl) | (simp [*, errW_none, errW_some] <;> rfl), by repeat (first | (with_reducible first | exact HB.out | apply below_alloc | apply pw_below_drewN | apply below_drew1 | refine below_set ?_ GE167.out | refine below_set ?_ GE168.out | refine below_set ?_ GE169.out | refine below_set ?_ GE170.out) | exact HB.out)⟩

end Go.Proofs.Ytohplbcbkggjaab.PFnExactCurveOk
