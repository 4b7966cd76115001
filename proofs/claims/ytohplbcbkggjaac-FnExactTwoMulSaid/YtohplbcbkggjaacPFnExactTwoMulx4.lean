-- Written for this claim by a program of this session.
import Derived.Test.YtohplbcbkggjaacPFnExactTwoMulx0
import Derived.Test.YtohplbcbkggjaacPFnExactTwoMulx2
import Derived.Test.YtohplbcbkggjaacPFnExactTwoMulx3
namespace Go.Proofs.Ytohplbcbkggjaac.PFnExactTwoMul
open Go.RowKit Go.Proofs.YtohplbcbkggjaacW.PrintWords Go.Proofs.YtohplbcbkggjaacW.PrintLast Go.Proofs.YtohplbcbkggjaacW.PrintMore
attribute [local go_sem] max2_int min2_int max_two min_two max_three min_three max_four min_four   -- for this text's walks alone
set_option linter.unusedVariables false
set_option linter.unusedSimpArgs false

attribute [local go_sem] fld_
/-! ### spec_TwoMul: function 21 -/
def spec_TwoMul.j0 : Nat → Int → Int → Bool → Int → Int → Int → Int → Int → Int → Int → Int → Bool → Option (Int × Int × Bool × Bool)
  | 0, _, _, _, _, _, _, _, _, _, _, _, _ => none
  | k + 1, x1, x2, x23, x157000, x157001, x157002, x157003, x157004, x157005, x158000, x158001, x158002 => if x23 = true then (some (0, 0, false, false)) else ((spec_l3Mul.f k x157000 x157001 x157002 x157003 x157004 x157005 x1 x157004 x157005 false).bind fun bt162 => ((spec_l3Mul.f k x157000 x157001 x157002 x157003 x157004 x157005 x2 x158000 x158001 x158002).bind fun bt165 => ((spec_l3Add.f k x157000 x157001 x157002 x157003 x157004 x157005 bt162.1 bt162.2.1 bt162.2.2 bt165.1 bt165.2.1 bt165.2.2).bind fun bt168 => (some (bt168.1, bt168.2.1, bt168.2.2, true)))))
def spec_TwoMul.f (k : Nat) (a0_0 : Int) (a0_1 : Int) (a0_2 : Int) (a0_3 : Int) (a0_4 : Int) (a0_5 : Int) (a1 : Int) (a2 : Int) (a3_0 : Int) (a3_1 : Int) (a3_2 : Bool) : Option (Int × Int × Bool × Bool) := (spec_PointOk.f k a0_0 a0_1 a0_2 a0_3 a0_4 a0_5 a3_0 a3_1 a3_2).bind fun t159 => (if t159 = true then ((spec_l1In.f a1 0 1099511627776).bind fun t160 => (if t160 = true then ((spec_l1In.f a2 0 1099511627776).bind fun t161 => (spec_TwoMul.j0 k a1 a2 (!t161) a0_0 a0_1 a0_2 a0_3 a0_4 a0_5 a3_0 a3_1 a3_2)) else (spec_TwoMul.j0 k a1 a2 true a0_0 a0_1 a0_2 a0_3 a0_4 a0_5 a3_0 a3_1 a3_2))) else (spec_TwoMul.j0 k a1 a2 true a0_0 a0_1 a0_2 a0_3 a0_4 a0_5 a3_0 a3_1 a3_2))
theorem spec_TwoMul.mono_l : ∀ k, (∀ y0 y1 y2 y3 y4 y5 y6 y7 y8 y9 y10 y11, LeO (spec_TwoMul.j0 k y0 y1 y2 y3 y4 y5 y6 y7 y8 y9 y10 y11) (spec_TwoMul.j0 (k + 1) y0 y1 y2 y3 y4 y5 y6 y7 y8 y9 y10 y11))
 | 0 => fun _ _ _ _ _ _ _ _ _ _ _ _ r h => by simp [spec_TwoMul.j0] at h
 | k + 1 => by
  have ih0 := spec_TwoMul.mono_l k
  ·
   intro y0 y1 y2 y3 y4 y5 y6 y7 y8 y9 y10 y11
   unfold spec_TwoMul.j0
   repeat' first
   | (with_reducible exact ih0 _ _ _ _ _ _ _ _ _ _ _ _)
   | (with_reducible exact spec_PointOk.mono _ _ _ _ _ _ _ _ _ _)
   | (with_reducible exact spec_l3Add.mono _ _ _ _ _ _ _ _ _ _ _ _ _)
   | (with_reducible exact spec_l3Mul.mono _ _ _ _ _ _ _ _ _ _ _)
   | (with_reducible exact LeO.refl _)
   | (with_reducible exact LeO.none _)
   | (with_reducible refine LeO.ite ?_ ?_)
   | (with_reducible refine LeO.bind ?_ (fun _ => ?_))
   | exact ih0 _ _ _ _ _ _ _ _ _ _ _ _
   | exact spec_PointOk.mono _ _ _ _ _ _ _ _ _ _
   | exact spec_l3Add.mono _ _ _ _ _ _ _ _ _ _ _ _ _
   | exact spec_l3Mul.mono _ _ _ _ _ _ _ _ _ _ _
   | exact LeO.none _
   | refine LeO.ite ?_ ?_
   | refine LeO.bind ?_ (fun _ => ?_)
theorem spec_TwoMul.mono : ∀ a0 a1 a2 a3 a4 a5 a6 a7 a8 a9 a10 k, LeO (spec_TwoMul.f k a0 a1 a2 a3 a4 a5 a6 a7 a8 a9 a10) (spec_TwoMul.f (k + 1) a0 a1 a2 a3 a4 a5 a6 a7 a8 a9 a10) := by
 intro a0 a1 a2 a3 a4 a5 a6 a7 a8 a9 a10 k; have ih0 := spec_TwoMul.mono_l k
 unfold spec_TwoMul.f
 repeat' first
   | (with_reducible exact ih0 _ _ _ _ _ _ _ _ _ _ _ _)
   | (with_reducible exact spec_PointOk.mono _ _ _ _ _ _ _ _ _ _)
   | (with_reducible exact spec_l3Add.mono _ _ _ _ _ _ _ _ _ _ _ _ _)
   | (with_reducible exact spec_l3Mul.mono _ _ _ _ _ _ _ _ _ _ _)
   | (with_reducible exact LeO.refl _)
   | (with_reducible exact LeO.none _)
   | (with_reducible refine LeO.ite ?_ ?_)
   | (with_reducible refine LeO.bind ?_ (fun _ => ?_))
   | exact ih0 _ _ _ _ _ _ _ _ _ _ _ _
   | exact spec_PointOk.mono _ _ _ _ _ _ _ _ _ _
   | exact spec_l3Add.mono _ _ _ _ _ _ _ _ _ _ _ _ _
   | exact spec_l3Mul.mono _ _ _ _ _ _ _ _ _ _ _
   | exact LeO.none _
   | refine LeO.ite ?_ ?_
   | refine LeO.bind ?_ (fun _ => ?_)
def spec_TwoMul.T3 : Bool × List (List Nat × List Nat) := (true, [([], []), ([], []), ([], []), ([], []), ([3], [3]), ([], []), ([5], [5]), ([4, 6], [4, 6]), ([1, 2, 7], [1, 2, 7]), ([], []), ([], []), ([], []), ([9, 10, 11, 8], [9, 10, 11]), ([0, 8, 12, 12], [0, 8, 12]), ([13, 13, 0, 1, 2, 3, 4, 5, 6, 7, 8, 9, 10, 11, 12, 13], [13]), ([14, 0, 1, 2, 3, 4, 5, 6, 7, 8, 9, 10, 11, 12, 13, 14], [])])
def spec_TwoMul.B3 : List Nat := [0, 0, 0, 0, 8, 0, 32, 120, 254, 0, 0, 0, 4094, 8191, 16383, 32767]
theorem spec_TwoMul.tab3 : rtab .any (opsOf Try.f21 3) = spec_TwoMul.T3 := by kernel_rfl
theorem spec_TwoMul.bits3 : waitsOk spec_TwoMul.T3.2 spec_TwoMul.B3 = true := by kernel_rfl
set_option maxHeartbeats 8000000 in
set_option maxRecDepth 100000 in
theorem spec_TwoMul.calls (k : Nat) (a0_0 : Int) (a0_1 : Int) (a0_2 : Int) (a0_3 : Int) (a0_4 : Int) (a0_5 : Int) (a1 : Int) (a2 : Int) (a3_0 : Int) (a3_1 : Int) (a3_2 : Bool) (r1 : Int) (r2 : Int) (r3 : Bool) (r4 : Bool) (w : World) (h : spec_TwoMul.f k a0_0 a0_1 a0_2 a0_3 a0_4 a0_5 a1 a2 a3_0 a3_1 a3_2 = some (r1, r2, r3, r4)) :
  Calls Try.prog 21 #[.agg #[.int .i64 a0_0, .int .i64 a0_1, .int .i64 a0_2, .int .i64 a0_3, .int .i64 a0_4, .int .i64 a0_5], .int .i64 a1, .int .i64 a2, .agg #[.int .i64 a3_0, .int .i64 a3_1, .bool a3_2]] w fun e w' => e = .returned (.tuple #[.agg #[.int .i64 r1, .int .i64 r2, .bool r3], .bool r4]) ∧ Below w.heap.size w w' := by
 have hu29 := Try.underlying29; have hu26 := Try.underlying26; have HB := Aside0.mk (Below.refl w.heap.size w)
 have H : ((spec_PointOk.f k a0_0 a0_1 a0_2 a0_3 a0_4 a0_5 a3_0 a3_1 a3_2).bind fun t159 => (if t159 = true then ((spec_l1In.f a1 0 1099511627776).bind fun t160 => (if t160 = true then ((spec_l1In.f a2 0 1099511627776).bind fun t161 => (spec_TwoMul.j0 k a1 a2 (!t161) a0_0 a0_1 a0_2 a0_3 a0_4 a0_5 a3_0 a3_1 a3_2)) else (spec_TwoMul.j0 k a1 a2 true a0_0 a0_1 a0_2 a0_3 a0_4 a0_5 a3_0 a3_1 a3_2))) else (spec_TwoMul.j0 k a1 a2 true a0_0 a0_1 a0_2 a0_3 a0_4 a0_5 a3_0 a3_1 a3_2))) = some (r1, r2, r3, r4) := h
 clear h; have HC5 := Aside0.mk H; clear H
 go_enter Try.func21, Try.ntmps21
 go_upto_region 1 with (first | ((with_reducible refine gate_dst (N := 4) rfl ?_); refine box_event ?hg (N := 4) ?hd (cs := #[.int .i64 a0_0, .int .i64 a0_1, .int .i64 a0_2, .int .i64 a0_3, .int .i64 a0_4, .int .i64 a0_5]) (t := 29) ?hr ?_; (case hd => rfl); (case hg => rfl); (case hr => first | (go_simp; done) | (go_simp; rfl)); intro gb156 hg w6 hbox hb; have n0_ := bs_ HB hb; have n1_ := Aside0.mk hbox; have n2_ := ge_ HB hg; have n3_ := ge_ HB hg; clear HB; have HB := n0_; have BK156 := n1_; have GW156 := n2_; have GE156 := n3_; clear n0_ n1_ n2_ n3_; clear hb hbox hg) | ((with_reducible refine gate_dst (N := 7) rfl ?_); refine box_event ?hg (N := 7) ?hd (cs := #[.int .i64 a3_0, .int .i64 a3_1, .bool a3_2]) (t := 26) ?hr ?_; (case hd => rfl); (case hg => rfl); (case hr => first | (go_simp; done) | (go_simp; rfl)); intro gb157 hg w7 hbox hb; have n0_ := bb_ BK156 hb; have n1_ := bs_ HB hb; have n2_ := Aside0.mk hbox; have n3_ := ge_ HB hg; have n4_ := ge_ HB hg; have n5_ := nl_ BK156 hg; have n6_ := nr_ BK156 hg; clear BK156; clear HB; have BK156 := n0_; have HB := n1_; have BK157 := n2_; have GW157 := n3_; have GE157 := n4_; have NB156_157 := n5_; have NB157_156 := n6_; clear n0_ n1_ n2_ n3_ n4_ n5_ n6_; clear hb hbox hg) | ((with_reducible refine gate_dst (N := 8) rfl ?_); refine box_event ?hg (N := 8) ?hd (cs := #[.int .i64 0, .int .i64 0, .bool false]) (t := 26) ?hr ?_; (case hd => rfl); (case hg => rfl); (case hr => first | (go_simp; done) | (go_simp; rfl)); intro gb158 hg w8 hbox hb; have n0_ := bb_ BK156 hb; have n1_ := bb_ BK157 hb; have n2_ := bs_ HB hb; have n3_ := Aside0.mk hbox; have n4_ := ge_ HB hg; have n5_ := ge_ HB hg; have n6_ := nl_ BK156 hg; have n7_ := nr_ BK156 hg; have n8_ := nl_ BK157 hg; have n9_ := nr_ BK157 hg; clear BK156; clear BK157; clear HB; have BK156 := n0_; have BK157 := n1_; have HB := n2_; have BK158 := n3_; have GW158 := n4_; have GE158 := n5_; have NB156_158 := n6_; have NB158_156 := n7_; have NB157_158 := n8_; have NB158_157 := n9_; clear n0_ n1_ n2_ n3_ n4_ n5_ n6_ n7_ n8_ n9_; clear hb hbox hg))
 (try simp only [Act.put, sA_, sZ_, sS_])
 go_cut [23] (fun v23 wc => ∃ (kq : Nat) (x23_4 : Bool), v23 = .bool x23_4 ∧ Aside0 (spec_TwoMul.j0 kq a1 a2 x23_4 a0_0 a0_1 a0_2 a0_3 a0_4 a0_5 a3_0 a3_1 a3_2 = some (r1, r2, r3, r4)) ∧ Aside0 (kq ≤ k) ∧ Aside0 (wc.heap[gb156]? = some (.cells #[.int .i64 a0_0, .int .i64 a0_1, .int .i64 a0_2, .int .i64 a0_3, .int .i64 a0_4, .int .i64 a0_5] 29 (0, 0))) ∧ Aside0 (wc.heap[gb157]? = some (.cells #[.int .i64 a3_0, .int .i64 a3_1, .bool a3_2] 26 (0, 0))) ∧ Aside0 (wc.heap[gb158]? = some (.cells #[.int .i64 0, .int .i64 0, .bool false] 26 (0, 0))) ∧ Aside0 (Below w.heap.size w wc))
 case first =>
  have H := HC5.out; clear HC5; replace H := Option.bind_eq_some_iff.mp H; obtain ⟨t159, A90, H⟩ := H
  replace H : (if t159 = true then ((spec_l1In.f a1 0 1099511627776).bind fun t160 => (if t160 = true then ((spec_l1In.f a2 0 1099511627776).bind fun t161 => (spec_TwoMul.j0 k a1 a2 (!t161) a0_0 a0_1 a0_2 a0_3 a0_4 a0_5 a3_0 a3_1 a3_2)) else (spec_TwoMul.j0 k a1 a2 true a0_0 a0_1 a0_2 a0_3 a0_4 a0_5 a3_0 a3_1 a3_2))) else (spec_TwoMul.j0 k a1 a2 true a0_0 a0_1 a0_2 a0_3 a0_4 a0_5 a3_0 a3_1 a3_2)) = some (r1, r2, r3, r4) := H
  have A9 := Aside0.mk A90; clear A90
  by_cases c10 : t159 = true
  ·
   subst c10
   have H1 : ((spec_l1In.f a1 0 1099511627776).bind fun t160 => (if t160 = true then ((spec_l1In.f a2 0 1099511627776).bind fun t161 => (spec_TwoMul.j0 k a1 a2 (!t161) a0_0 a0_1 a0_2 a0_3 a0_4 a0_5 a3_0 a3_1 a3_2)) else (spec_TwoMul.j0 k a1 a2 true a0_0 a0_1 a0_2 a0_3 a0_4 a0_5 a3_0 a3_1 a3_2))) = some (r1, r2, r3, r4) := by rw [if_pos rfl] at H; exact H
   clear H; have H := H1; clear H1; replace H := Option.bind_eq_some_iff.mp H; obtain ⟨t160, A110, H⟩ := H
   replace H : (if t160 = true then ((spec_l1In.f a2 0 1099511627776).bind fun t161 => (spec_TwoMul.j0 k a1 a2 (!t161) a0_0 a0_1 a0_2 a0_3 a0_4 a0_5 a3_0 a3_1 a3_2)) else (spec_TwoMul.j0 k a1 a2 true a0_0 a0_1 a0_2 a0_3 a0_4 a0_5 a3_0 a3_1 a3_2)) = some (r1, r2, r3, r4) := H
   have A11 := Aside0.mk A110; clear A110
   by_cases c12 : t160 = true
   ·
    subst c12
    have H1 : ((spec_l1In.f a2 0 1099511627776).bind fun t161 => (spec_TwoMul.j0 k a1 a2 (!t161) a0_0 a0_1 a0_2 a0_3 a0_4 a0_5 a3_0 a3_1 a3_2)) = some (r1, r2, r3, r4) := by rw [if_pos rfl] at H; exact H
    clear H; have H := H1; clear H1; replace H := Option.bind_eq_some_iff.mp H; obtain ⟨t161, A130, H⟩ := H
    replace H : (spec_TwoMul.j0 k a1 a2 (!t161) a0_0 a0_1 a0_2 a0_3 a0_4 a0_5 a3_0 a3_1 a3_2) = some (r1, r2, r3, r4) := H
    have A13 := Aside0.mk A130; clear A130
    have H' := Aside0.mk H
    clear H; have hnb14 := NB156_157.out; have hnc14 := NB157_156.out; have hnb15 := NB156_158.out; have hnc15 := NB158_156.out
    have hcz16_0 : w8.cell? ⟨gb156, 0, none⟩ = some (.int .i64 a0_0) := bc_ BK156 0
    have hcz16_1 : w8.cell? ⟨gb156, 1, none⟩ = some (.int .i64 a0_1) := bc_ BK156 1
    have hcz16_2 : w8.cell? ⟨gb156, 2, none⟩ = some (.int .i64 a0_2) := bc_ BK156 2
    have hcz16_3 : w8.cell? ⟨gb156, 3, none⟩ = some (.int .i64 a0_3) := bc_ BK156 3
    have hcz16_4 : w8.cell? ⟨gb156, 4, none⟩ = some (.int .i64 a0_4) := bc_ BK156 4
    have hcz16_5 : w8.cell? ⟨gb156, 5, none⟩ = some (.int .i64 a0_5) := bc_ BK156 5
    have hfz16_0 := blk_frozen BK156.out 0; have hfz16_1 := blk_frozen BK156.out 1; have hfz16_2 := blk_frozen BK156.out 2; have hfz16_3 := blk_frozen BK156.out 3; have hfz16_4 := blk_frozen BK156.out 4; have hfz16_5 := blk_frozen BK156.out 5; have hnb17 := NB157_158.out; have hnc17 := NB158_157.out
    have hcz18_0 : w8.cell? ⟨gb157, 0, none⟩ = some (.int .i64 a3_0) := bc_ BK157 0
    have hcz18_1 : w8.cell? ⟨gb157, 1, none⟩ = some (.int .i64 a3_1) := bc_ BK157 1
    have hcz18_2 : w8.cell? ⟨gb157, 2, none⟩ = some (.bool a3_2) := bc_ BK157 2
    have hfz18_0 := blk_frozen BK157.out 0; have hfz18_1 := blk_frozen BK157.out 1; have hfz18_2 := blk_frozen BK157.out 2
    go_wp2_with (first | ((with_reducible refine gate_callee (f := 59) rfl ?_); refine goesL_ (some 12) rfl rfl Try.func59 (by kernel_rfl) rfl #[.agg #[.int .i64 a0_0, .int .i64 a0_1, .int .i64 a0_2, .int .i64 a0_3, .int .i64 a0_4, .int .i64 a0_5], .agg #[.int .i64 a3_0, .int .i64 a3_1, .bool a3_2]] rfl (by (try simp only [List.map_toArray, List.map_cons, List.map_nil]); first | done | rfl | (simp only [List.length_drop, List.length_take]; rfl)) ?_; (with_reducible refine (spec_PointOk.calls k a0_0 a0_1 a0_2 a0_3 a0_4 a0_5 a3_0 a3_1 a3_2 true _ A9.out).mono ?_); rintro e w19 ⟨rfl, hb⟩; refine ⟨_, rfl, ?_⟩; have n0_ := bb_ BK156 hb; have n1_ := bb_ BK157 hb; have n2_ := bb_ BK158 hb; have n3_ := bs_ HB hb; clear BK156; clear BK157; clear BK158; clear HB; have BK156 := n0_; have BK157 := n1_; have BK158 := n2_; have HB := n3_; clear n0_ n1_ n2_ n3_; (try clear hb); (try clear hb2); (try clear hk); (try clear hi)) | (go_at_call 65; (with_reducible refine (spec_l1In.calls a1 0 1099511627776 true _ A11.out).mono ?_); rintro e w' ⟨rfl, ⟨nd, rfl⟩⟩) | (go_at_call 65; (with_reducible refine (spec_l1In.calls a2 0 1099511627776 t161 _ A13.out).mono ?_); rintro e w' ⟨rfl, ⟨nd, rfl⟩⟩))
    go_meet
    case rel => exact ⟨_, (!t161), (by first | rfl | (simp; done) | (simp [*]; done)), H', ⟨by first | omega | exact Nat.le_refl _⟩, ⟨by (with_reducible repeat (first | refine blk_drewN ?_ _ | refine blk_drew ?_ | refine blk_alloc ?_ _)); exact BK156.out⟩, ⟨by (with_reducible repeat (first | refine blk_drewN ?_ _ | refine blk_drew ?_ | refine blk_alloc ?_ _)); exact BK157.out⟩, ⟨by (with_reducible repeat (first | refine blk_drewN ?_ _ | refine blk_drew ?_ | refine blk_alloc ?_ _)); exact BK158.out⟩, ⟨by repeat (first | (with_reducible first | exact HB.out | apply below_alloc | apply pw_below_drewN | apply below_drew1 | refine below_set ?_ GE156.out | refine below_set ?_ GE157.out | refine below_set ?_ GE158.out) | exact HB.out)⟩⟩
   ·
    replace c12 := Bool.eq_false_iff.mpr c12; subst c12
    have H1 : (spec_TwoMul.j0 k a1 a2 true a0_0 a0_1 a0_2 a0_3 a0_4 a0_5 a3_0 a3_1 a3_2) = some (r1, r2, r3, r4) := by rw [if_neg (show ¬ (false = true) by decide)] at H; exact H
    clear H; have H := H1; clear H1
    have H' := Aside0.mk H
    clear H; have hnb20 := NB156_157.out; have hnc20 := NB157_156.out; have hnb21 := NB156_158.out; have hnc21 := NB158_156.out
    have hcz22_0 : w8.cell? ⟨gb156, 0, none⟩ = some (.int .i64 a0_0) := bc_ BK156 0
    have hcz22_1 : w8.cell? ⟨gb156, 1, none⟩ = some (.int .i64 a0_1) := bc_ BK156 1
    have hcz22_2 : w8.cell? ⟨gb156, 2, none⟩ = some (.int .i64 a0_2) := bc_ BK156 2
    have hcz22_3 : w8.cell? ⟨gb156, 3, none⟩ = some (.int .i64 a0_3) := bc_ BK156 3
    have hcz22_4 : w8.cell? ⟨gb156, 4, none⟩ = some (.int .i64 a0_4) := bc_ BK156 4
    have hcz22_5 : w8.cell? ⟨gb156, 5, none⟩ = some (.int .i64 a0_5) := bc_ BK156 5
    have hfz22_0 := blk_frozen BK156.out 0; have hfz22_1 := blk_frozen BK156.out 1; have hfz22_2 := blk_frozen BK156.out 2; have hfz22_3 := blk_frozen BK156.out 3; have hfz22_4 := blk_frozen BK156.out 4; have hfz22_5 := blk_frozen BK156.out 5; have hnb23 := NB157_158.out; have hnc23 := NB158_157.out
    have hcz24_0 : w8.cell? ⟨gb157, 0, none⟩ = some (.int .i64 a3_0) := bc_ BK157 0
    have hcz24_1 : w8.cell? ⟨gb157, 1, none⟩ = some (.int .i64 a3_1) := bc_ BK157 1
    have hcz24_2 : w8.cell? ⟨gb157, 2, none⟩ = some (.bool a3_2) := bc_ BK157 2
    have hfz24_0 := blk_frozen BK157.out 0; have hfz24_1 := blk_frozen BK157.out 1; have hfz24_2 := blk_frozen BK157.out 2
    go_wp2_with (first | ((with_reducible refine gate_callee (f := 59) rfl ?_); refine goesL_ (some 12) rfl rfl Try.func59 (by kernel_rfl) rfl #[.agg #[.int .i64 a0_0, .int .i64 a0_1, .int .i64 a0_2, .int .i64 a0_3, .int .i64 a0_4, .int .i64 a0_5], .agg #[.int .i64 a3_0, .int .i64 a3_1, .bool a3_2]] rfl (by (try simp only [List.map_toArray, List.map_cons, List.map_nil]); first | done | rfl | (simp only [List.length_drop, List.length_take]; rfl)) ?_; (with_reducible refine (spec_PointOk.calls k a0_0 a0_1 a0_2 a0_3 a0_4 a0_5 a3_0 a3_1 a3_2 true _ A9.out).mono ?_); rintro e w25 ⟨rfl, hb⟩; refine ⟨_, rfl, ?_⟩; have n0_ := bb_ BK156 hb; have n1_ := bb_ BK157 hb; have n2_ := bb_ BK158 hb; have n3_ := bs_ HB hb; clear BK156; clear BK157; clear BK158; clear HB; have BK156 := n0_; have BK157 := n1_; have BK158 := n2_; have HB := n3_; clear n0_ n1_ n2_ n3_; (try clear hb); (try clear hb2); (try clear hk); (try clear hi)) | (go_at_call 65; (with_reducible refine (spec_l1In.calls a1 0 1099511627776 false _ A11.out).mono ?_); rintro e w' ⟨rfl, ⟨nd, rfl⟩⟩))
    go_meet
    case rel => exact ⟨_, (true), (by first | rfl | (simp; done) | (simp [*]; done)), H', ⟨by first | omega | exact Nat.le_refl _⟩, ⟨by (with_reducible repeat (first | refine blk_drewN ?_ _ | refine blk_drew ?_ | refine blk_alloc ?_ _)); exact BK156.out⟩, ⟨by (with_reducible repeat (first | refine blk_drewN ?_ _ | refine blk_drew ?_ | refine blk_alloc ?_ _)); exact BK157.out⟩, ⟨by (with_reducible repeat (first | refine blk_drewN ?_ _ | refine blk_drew ?_ | refine blk_alloc ?_ _)); exact BK158.out⟩, ⟨by repeat (first | (with_reducible first | exact HB.out | apply below_alloc | apply pw_below_drewN | apply below_drew1 | refine below_set ?_ GE156.out | refine below_set ?_ GE157.out | refine below_set ?_ GE158.out) | exact HB.out)⟩⟩
  ·
   replace c10 := Bool.eq_false_iff.mpr c10; subst c10
   have H1 : (spec_TwoMul.j0 k a1 a2 true a0_0 a0_1 a0_2 a0_3 a0_4 a0_5 a3_0 a3_1 a3_2) = some (r1, r2, r3, r4) := by rw [if_neg (show ¬ (false = true) by decide)] at H; exact H
   clear H; have H := H1; clear H1
   have H' := Aside0.mk H
   clear H; have hnb26 := NB156_157.out; have hnc26 := NB157_156.out; have hnb27 := NB156_158.out; have hnc27 := NB158_156.out
   have hcz28_0 : w8.cell? ⟨gb156, 0, none⟩ = some (.int .i64 a0_0) := bc_ BK156 0
   have hcz28_1 : w8.cell? ⟨gb156, 1, none⟩ = some (.int .i64 a0_1) := bc_ BK156 1
   have hcz28_2 : w8.cell? ⟨gb156, 2, none⟩ = some (.int .i64 a0_2) := bc_ BK156 2
   have hcz28_3 : w8.cell? ⟨gb156, 3, none⟩ = some (.int .i64 a0_3) := bc_ BK156 3
   have hcz28_4 : w8.cell? ⟨gb156, 4, none⟩ = some (.int .i64 a0_4) := bc_ BK156 4
   have hcz28_5 : w8.cell? ⟨gb156, 5, none⟩ = some (.int .i64 a0_5) := bc_ BK156 5
   have hfz28_0 := blk_frozen BK156.out 0; have hfz28_1 := blk_frozen BK156.out 1; have hfz28_2 := blk_frozen BK156.out 2; have hfz28_3 := blk_frozen BK156.out 3; have hfz28_4 := blk_frozen BK156.out 4; have hfz28_5 := blk_frozen BK156.out 5; have hnb29 := NB157_158.out; have hnc29 := NB158_157.out
   have hcz30_0 : w8.cell? ⟨gb157, 0, none⟩ = some (.int .i64 a3_0) := bc_ BK157 0
   have hcz30_1 : w8.cell? ⟨gb157, 1, none⟩ = some (.int .i64 a3_1) := bc_ BK157 1
   have hcz30_2 : w8.cell? ⟨gb157, 2, none⟩ = some (.bool a3_2) := bc_ BK157 2
   have hfz30_0 := blk_frozen BK157.out 0; have hfz30_1 := blk_frozen BK157.out 1; have hfz30_2 := blk_frozen BK157.out 2
   go_wp2_with (first | ((with_reducible refine gate_callee (f := 59) rfl ?_); refine goesL_ (some 12) rfl rfl Try.func59 (by kernel_rfl) rfl #[.agg #[.int .i64 a0_0, .int .i64 a0_1, .int .i64 a0_2, .int .i64 a0_3, .int .i64 a0_4, .int .i64 a0_5], .agg #[.int .i64 a3_0, .int .i64 a3_1, .bool a3_2]] rfl (by (try simp only [List.map_toArray, List.map_cons, List.map_nil]); first | done | rfl | (simp only [List.length_drop, List.length_take]; rfl)) ?_; (with_reducible refine (spec_PointOk.calls k a0_0 a0_1 a0_2 a0_3 a0_4 a0_5 a3_0 a3_1 a3_2 false _ A9.out).mono ?_); rintro e w31 ⟨rfl, hb⟩; refine ⟨_, rfl, ?_⟩; have n0_ := bb_ BK156 hb; have n1_ := bb_ BK157 hb; have n2_ := bb_ BK158 hb; have n3_ := bs_ HB hb; clear BK156; clear BK157; clear BK158; clear HB; have BK156 := n0_; have BK157 := n1_; have BK158 := n2_; have HB := n3_; clear n0_ n1_ n2_ n3_; (try clear hb); (try clear hb2); (try clear hk); (try clear hi)))
   go_meet
   case rel => exact ⟨_, (true), (by first | rfl | (simp; done) | (simp [*]; done)), H', ⟨by first | omega | exact Nat.le_refl _⟩, ⟨by (with_reducible repeat (first | refine blk_drewN ?_ _ | refine blk_drew ?_ | refine blk_alloc ?_ _)); exact BK156.out⟩, ⟨by (with_reducible repeat (first | refine blk_drewN ?_ _ | refine blk_drew ?_ | refine blk_alloc ?_ _)); exact BK157.out⟩, ⟨by (with_reducible repeat (first | refine blk_drewN ?_ _ | refine blk_drew ?_ | refine blk_alloc ?_ _)); exact BK158.out⟩, ⟨by repeat (first | (with_reducible first | exact HB.out | apply below_alloc | apply pw_below_drewN | apply below_drew1 | refine below_set ?_ GE156.out | refine below_set ?_ GE157.out | refine below_set ?_ GE158.out) | exact HB.out)⟩⟩
 case rest =>
  clear HC5
  try clear c1
  try clear c2
  try clear p2
  try clear c5
  try clear c10
  try clear c12
  try clear c14
  try clear c15
  try clear c17
  try clear c20
  try clear c21
  try clear c23
  try clear c26
  try clear c27
  try clear c29
  try clear hcz16_0
  try clear hcz16_1
  try clear hcz16_2
  try clear hcz16_3
  try clear hcz16_4
  try clear hcz16_5
  try clear hcz18_0
  try clear hcz18_1
  try clear hcz18_2
  try clear hcz22_0
  try clear hcz22_1
  try clear hcz22_2
  try clear hcz22_3
  try clear hcz22_4
  try clear hcz22_5
  try clear hcz24_0
  try clear hcz24_1
  try clear hcz24_2
  try clear hcz28_0
  try clear hcz28_1
  try clear hcz28_2
  try clear hcz28_3
  try clear hcz28_4
  try clear hcz28_5
  try clear hcz30_0
  try clear hcz30_1
  try clear hcz30_2
  try clear hfz16_0
  try clear hfz16_1
  try clear hfz16_2
  try clear hfz16_3
  try clear hfz16_4
  try clear hfz16_5
  try clear hfz18_0
  try clear hfz18_1
  try clear hfz18_2
  try clear hfz22_0
  try clear hfz22_1
  try clear hfz22_2
  try clear hfz22_3
  try clear hfz22_4
  try clear hfz22_5
  try clear hfz24_0
  try clear hfz24_1
  try clear hfz24_2
  try clear hfz28_0
  try clear hfz28_1
  try clear hfz28_2
  try clear hfz28_3
  try clear hfz28_4
  try clear hfz28_5
  try clear hfz30_0
  try clear hfz30_1
  try clear hfz30_2
  obtain ⟨kq, x23_4, rfl, HA, HJ4, BK156, BK157, BK158, HB⟩ := hcut
  cases kq with
  | zero => exact absurd HA.out (by simp [spec_TwoMul.j0])
  | succ kj4 =>
   have H := HA.out; clear HA
   simp only [spec_TwoMul.j0] at H
   by_cases c32 : x23_4 = true
   ·
    subst c32
    have H1 : (some (0, 0, false, false)) = some (r1, r2, r3, r4) := by rw [if_pos rfl] at H; exact H
    clear H; have H := H1; clear H1
    simp only [Option.some.injEq, Prod.mk.injEq] at H
    obtain ⟨rfl, rfl, rfl, rfl⟩ := H; have hnb33 := NB158_156.out; have hnc33 := NB156_158.out; have hnb34 := NB158_157.out; have hnc34 := NB157_158.out
    have hcz35_0 : wc.cell? ⟨gb158, 0, none⟩ = some (.int .i64 0) := bc_ BK158 0
    have hcz35_1 : wc.cell? ⟨gb158, 1, none⟩ = some (.int .i64 0) := bc_ BK158 1
    have hcz35_2 : wc.cell? ⟨gb158, 2, none⟩ = some (.bool false) := bc_ BK158 2
    have hfz35_0 := blk_frozen BK158.out 0; have hfz35_1 := blk_frozen BK158.out 1; have hfz35_2 := blk_frozen BK158.out 2
    go_wp2
    refine bodyPost_ret (results_ct rfl _ _ gb158 26 #[.int .i64 0, .int .i64 0, .bool false] (0, 0) _ rfl (by (with_reducible repeat (first | refine blk_drewN ?_ _ | refine blk_drew ?_ | refine blk_alloc ?_ _)); refine blk_put (cs := #[.int .i64 0, .int .i64 0, .bool false]) ?_ 2 _ rfl; (with_reducible repeat (first | refine blk_drewN ?_ _ | refine blk_drew ?_ | refine blk_alloc ?_ _)); refine blk_put (cs := #[.int .i64 0, .int .i64 0, .bool false]) ?_ 1 _ rfl; (with_reducible repeat (first | refine blk_drewN ?_ _ | refine blk_drew ?_ | refine blk_alloc ?_ _)); refine blk_put (cs := #[.int .i64 0, .int .i64 0, .bool false]) ?_ 0 _ rfl; (with_reducible repeat (first | refine blk_drewN ?_ _ | refine blk_drew ?_ | refine blk_alloc ?_ _)); exact BK158.out) Try.underlying26 rfl (by kernel_rfl)) rfl ?_; exact ⟨by first | rfl | (simp [errW_none, errW_some] <;> rfl) | (simp [*, errW_none, errW_some] <;> rfl), by repeat (first | (with_reducible first | exact HB.out | apply below_alloc | apply pw_below_drewN | apply below_drew1 | refine below_set ?_ GE156.out | refine below_set ?_ GE157.out | refine below_set ?_ GE158.out) | exact HB.out)⟩
   ·
    replace c32 := Bool.eq_false_iff.mpr c32; subst c32
    have H1 : ((spec_l3Mul.f kj4 a0_0 a0_1 a0_2 a0_3 a0_4 a0_5 a1 a0_4 a0_5 false).bind fun bt162 => ((spec_l3Mul.f kj4 a0_0 a0_1 a0_2 a0_3 a0_4 a0_5 a2 a3_0 a3_1 a3_2).bind fun bt165 => ((spec_l3Add.f kj4 a0_0 a0_1 a0_2 a0_3 a0_4 a0_5 bt162.1 bt162.2.1 bt162.2.2 bt165.1 bt165.2.1 bt165.2.2).bind fun bt168 => (some (bt168.1, bt168.2.1, bt168.2.2, true))))) = some (r1, r2, r3, r4) := by rw [if_neg (show ¬ (false = true) by decide)] at H; exact H
    clear H; have H := H1; clear H1; replace H := Option.bind_eq_some_iff.mp H; obtain ⟨⟨t162, t163, t164⟩, A360, H⟩ := H
    replace H : ((spec_l3Mul.f kj4 a0_0 a0_1 a0_2 a0_3 a0_4 a0_5 a2 a3_0 a3_1 a3_2).bind fun bt165 => ((spec_l3Add.f kj4 a0_0 a0_1 a0_2 a0_3 a0_4 a0_5 t162 t163 t164 bt165.1 bt165.2.1 bt165.2.2).bind fun bt168 => (some (bt168.1, bt168.2.1, bt168.2.2, true)))) = some (r1, r2, r3, r4) := H
    have A36 := Aside0.mk A360; clear A360; replace H := Option.bind_eq_some_iff.mp H; obtain ⟨⟨t165, t166, t167⟩, A370, H⟩ := H
    replace H : ((spec_l3Add.f kj4 a0_0 a0_1 a0_2 a0_3 a0_4 a0_5 t162 t163 t164 t165 t166 t167).bind fun bt168 => (some (bt168.1, bt168.2.1, bt168.2.2, true))) = some (r1, r2, r3, r4) := H
    have A37 := Aside0.mk A370; clear A370; replace H := Option.bind_eq_some_iff.mp H; obtain ⟨⟨t168, t169, t170⟩, A380, H⟩ := H
    replace H : (some (t168, t169, t170, true)) = some (r1, r2, r3, r4) := H
    have A38 := Aside0.mk A380; clear A380
    simp only [Option.some.injEq, Prod.mk.injEq] at H
    obtain ⟨rfl, rfl, rfl, rfl⟩ := H
    try go_wp2
    replace BK156 := Aside0.mk (blk_drew BK156.out); replace BK157 := Aside0.mk (blk_drew BK157.out); replace BK158 := Aside0.mk (blk_drew BK158.out); replace HB := Aside0.mk (below_drew1 HB.out); refine start_ (n := 16) (S := fun w' => w'.cell? ⟨gb156, 0, none⟩ = some (.int .i64 a0_0) ∧ w'.cell? ⟨gb156, 1, none⟩ = some (.int .i64 a0_1) ∧ w'.cell? ⟨gb156, 2, none⟩ = some (.int .i64 a0_2) ∧ w'.cell? ⟨gb156, 3, none⟩ = some (.int .i64 a0_3) ∧ w'.cell? ⟨gb156, 4, none⟩ = some (.int .i64 a0_4) ∧ w'.cell? ⟨gb156, 5, none⟩ = some (.int .i64 a0_5) ∧ w'.cell? ⟨gb157, 0, none⟩ = some (.int .i64 a3_0) ∧ w'.cell? ⟨gb157, 1, none⟩ = some (.int .i64 a3_1) ∧ w'.cell? ⟨gb157, 2, none⟩ = some (.bool a3_2)) (ds := []) #[false,false,false,false,false,false,false,false,false,false,false,false,false,false,false,false] (by kernel_rfl) rfl rfl ⟨bc_ BK156 0, bc_ BK156 1, bc_ BK156 2, bc_ BK156 3, bc_ BK156 4, bc_ BK156 5, bc_ BK157 0, bc_ BK157 1, bc_ BK157 2⟩ (fun hHeld => ?_); refine with_tabW spec_TwoMul.tab3 spec_TwoMul.bits3 (fun HT_ HW_ => ?_)
    generalize wc.drew = w39 at BK156 BK157 BK158 HB hHeld ⊢
    refine pure_ (i := 2) (N := some 27) (v := ?_) (a' := ?_) #[false,false,true,false,false,false,false,false,false,false,false,false,false,false,false,false] rfl rfl (any_of HT_.out (by kernel_rfl)) (fun _ _ _ h => h) (Or.inl ⟨by rfl, ?_⟩) ?_ ?_; rotate_left
    ·
     intro w'; go_simp
     with_reducible rfl
    rotate_left
    · simp only [Act.put, sA_, sZ_, sS_, i64_w, i32_w]; rfl
    refine pure_ (i := 3) (N := some 28) (v := ?_) (a' := ?_) #[false,false,true,true,false,false,false,false,false,false,false,false,false,false,false,false] rfl rfl (any_of HT_.out (by kernel_rfl)) (fun _ _ _ h => h) (Or.inl ⟨by rfl, ?_⟩) ?_ ?_; rotate_left
    ·
     intro w'; go_simp
     with_reducible rfl
    rotate_left
    · simp only [Act.put, sA_, sZ_, sS_, i64_w, i32_w]; rfl
    refine pure_ (i := 5) (N := some 30) (v := ?_) (a' := ?_) #[false,false,true,true,false,true,false,false,false,false,false,false,false,false,false,false] rfl rfl (any_of HT_.out (by kernel_rfl)) (fun _ _ _ h => h) (Or.inl ⟨by rfl, ?_⟩) ?_ ?_; rotate_left
    ·
     intro w'; go_simp
     with_reducible rfl
    rotate_left
    · simp only [Act.put, sA_, sZ_, sS_, i64_w, i32_w]; rfl
    refine pure_ (i := 10) (N := some 35) (v := ?_) (a' := ?_) #[false,false,true,true,false,true,false,false,false,false,true,false,false,false,false,false] rfl rfl (any_of HT_.out (by kernel_rfl)) (fun _ _ _ h => h) (Or.inl ⟨by rfl, ?_⟩) ?_ ?_; rotate_left
    ·
     intro w'; go_simp
     with_reducible rfl
    rotate_left
    · simp only [Act.put, sA_, sZ_, sS_, i64_w, i32_w]; rfl
    refine take_ (i := 0) (N := some 25) (v := ?_) (a' := ?_) #[true,false,true,true,false,true,false,false,false,false,true,false,false,false,false,false] rfl rfl (take_ofW HT_.out HW_.out (by kernel_rfl)) (fun _ _ _ h => h) (Or.inl ⟨by rfl, ?_⟩) hHeld ?_ ?_; rotate_left
    ·
     rintro w' ⟨s0, s1, s2, s3, s4, s5, s6, s7, s8⟩; go_simp
     with_reducible rfl
    rotate_left
    · simp only [Act.put, sA_, sZ_, sS_, i64_w, i32_w]; rfl
    refine take_ (i := 1) (N := some 26) (v := ?_) (a' := ?_) #[true,true,true,true,false,true,false,false,false,false,true,false,false,false,false,false] rfl rfl (take_ofW HT_.out HW_.out (by kernel_rfl)) (fun _ _ _ h => h) (Or.inl ⟨by rfl, ?_⟩) hHeld ?_ ?_; rotate_left
    ·
     rintro w' ⟨s0, s1, s2, s3, s4, s5, s6, s7, s8⟩; go_simp
     with_reducible rfl
    rotate_left
    · simp only [Act.put, sA_, sZ_, sS_, i64_w, i32_w]; rfl
    refine take_ (i := 4) (N := some 29) (v := ?_) (a' := ?_) #[true,true,true,true,true,true,false,false,false,false,true,false,false,false,false,false] rfl rfl (take_ofW HT_.out HW_.out (by kernel_rfl)) (fun _ _ _ h => h) (Or.inl ⟨by rfl, ?_⟩) hHeld ?_ ?_; rotate_left
    ·
     rintro w' ⟨s0, s1, s2, s3, s4, s5, s6, s7, s8⟩; go_simp
     with_reducible rfl
    rotate_left
    · simp only [Act.put, sA_, sZ_, sS_, i64_w, i32_w]; rfl
    refine take_ (i := 6) (N := some 31) (v := ?_) (a' := ?_) #[true,true,true,true,true,true,true,false,false,false,true,false,false,false,false,false] rfl rfl (take_ofW HT_.out HW_.out (by kernel_rfl)) (fun _ _ _ h => h) (Or.inl ⟨by rfl, ?_⟩) hHeld ?_ ?_; rotate_left
    ·
     rintro w' ⟨s0, s1, s2, s3, s4, s5, s6, s7, s8⟩; go_simp
     with_reducible rfl
    rotate_left
    · simp only [Act.put, sA_, sZ_, sS_, i64_w, i32_w]; rfl
    refine pure_ (i := 7) (N := some 32) (v := ?_) (a' := ?_) #[true,true,true,true,true,true,true,true,false,false,true,false,false,false,false,false] rfl rfl (any_of HT_.out (by kernel_rfl)) (fun _ _ _ h => h) (Or.inl ⟨by rfl, ?_⟩) ?_ ?_; rotate_left
    ·
     intro w'; go_simp
     with_reducible rfl
    rotate_left
    · simp only [Act.put, sA_, sZ_, sS_, i64_w, i32_w]; rfl
    refine take_ (i := 9) (N := some 34) (v := ?_) (a' := ?_) #[true,true,true,true,true,true,true,true,false,true,true,false,false,false,false,false] rfl rfl (take_ofW HT_.out HW_.out (by kernel_rfl)) (fun _ _ _ h => h) (Or.inl ⟨by rfl, ?_⟩) hHeld ?_ ?_; rotate_left
    ·
     rintro w' ⟨s0, s1, s2, s3, s4, s5, s6, s7, s8⟩; go_simp
     with_reducible rfl
    rotate_left
    · simp only [Act.put, sA_, sZ_, sS_, i64_w, i32_w]; rfl
    refine take_ (i := 11) (N := some 36) (v := ?_) (a' := ?_) #[true,true,true,true,true,true,true,true,false,true,true,true,false,false,false,false] rfl rfl (take_ofW HT_.out HW_.out (by kernel_rfl)) (fun _ _ _ h => h) (Or.inl ⟨by rfl, ?_⟩) hHeld ?_ ?_; rotate_left
    ·
     rintro w' ⟨s0, s1, s2, s3, s4, s5, s6, s7, s8⟩; go_simp
     with_reducible rfl
    rotate_left
    · simp only [Act.put, sA_, sZ_, sS_, i64_w, i32_w]; rfl
    refine one_ (i := 8) (N := some 33) #[true,true,true,true,true,true,true,true,true,true,true,true,false,false,false,false] rfl rfl (one_of HT_.out (by kernel_rfl)) (by decide) (fun K hK => ?_); refine gs_ Try.func66 #[.agg #[.int .i64 a0_0, .int .i64 a0_1, .int .i64 a0_2, .int .i64 a0_3, .int .i64 a0_4, .int .i64 a0_5], .int .i64 a1, .agg #[.int .i64 a0_4, .int .i64 a0_5, .bool false]] ?_
    with_reducible refine (spec_l3Mul.calls kj4 a0_0 a0_1 a0_2 a0_3 a0_4 a0_5 a1 a0_4 a0_5 false t162 t163 t164 _ A36.out).mono ?_
    rintro e w40 ⟨rfl, hb⟩; refine ⟨_, rfl, ?_⟩; replace BK156 := bb_ BK156 hb; replace BK157 := bb_ BK157 hb; replace BK158 := bb_ BK158 hb; replace HB := bs_ HB hb; (try clear hb); refine hK.out _ _ ⟨bc_ BK156 0, bc_ BK156 1, bc_ BK156 2, bc_ BK156 3, bc_ BK156 4, bc_ BK156 5, bc_ BK157 0, bc_ BK157 1, bc_ BK157 2⟩ (fun hHeld => ?_); clear hK K
    apply norm_
    · show Act.put _ (some 33) _ = _; simp only [Act.put, sA_, sZ_, sS_, i64_w, i32_w]; rfl
    refine one_ (i := 12) (N := some 37) #[true,true,true,true,true,true,true,true,true,true,true,true,true,false,false,false] rfl rfl (one_of HT_.out (by kernel_rfl)) (by decide) (fun K hK => ?_); refine gs_ Try.func66 #[.agg #[.int .i64 a0_0, .int .i64 a0_1, .int .i64 a0_2, .int .i64 a0_3, .int .i64 a0_4, .int .i64 a0_5], .int .i64 a2, .agg #[.int .i64 a3_0, .int .i64 a3_1, .bool a3_2]] ?_
    with_reducible refine (spec_l3Mul.calls kj4 a0_0 a0_1 a0_2 a0_3 a0_4 a0_5 a2 a3_0 a3_1 a3_2 t165 t166 t167 _ A37.out).mono ?_
    rintro e w41 ⟨rfl, hb⟩; refine ⟨_, rfl, ?_⟩; replace BK156 := bb_ BK156 hb; replace BK157 := bb_ BK157 hb; replace BK158 := bb_ BK158 hb; replace HB := bs_ HB hb; (try clear hb); refine hK.out _ _ ⟨bc_ BK156 0, bc_ BK156 1, bc_ BK156 2, bc_ BK156 3, bc_ BK156 4, bc_ BK156 5, bc_ BK157 0, bc_ BK157 1, bc_ BK157 2⟩ (fun hHeld => ?_); clear hK K
    apply norm_
    · show Act.put _ (some 37) _ = _; simp only [Act.put, sA_, sZ_, sS_, i64_w, i32_w]; rfl
    refine one_ (i := 13) (N := some 38) #[true,true,true,true,true,true,true,true,true,true,true,true,true,true,false,false] rfl rfl (one_of HT_.out (by kernel_rfl)) (by decide) (fun K hK => ?_); refine gs_ Try.func61 #[.agg #[.int .i64 a0_0, .int .i64 a0_1, .int .i64 a0_2, .int .i64 a0_3, .int .i64 a0_4, .int .i64 a0_5], .agg #[.int .i64 t162, .int .i64 t163, .bool t164], .agg #[.int .i64 t165, .int .i64 t166, .bool t167]] ?_
    with_reducible refine (spec_l3Add.calls kj4 a0_0 a0_1 a0_2 a0_3 a0_4 a0_5 t162 t163 t164 t165 t166 t167 t168 t169 t170 _ A38.out).mono ?_
    rintro e w42 ⟨rfl, hb⟩; refine ⟨_, rfl, ?_⟩; replace BK156 := bb_ BK156 hb; replace BK157 := bb_ BK157 hb; replace BK158 := bb_ BK158 hb; replace HB := bs_ HB hb; (try clear hb); refine hK.out _ _ ⟨bc_ BK156 0, bc_ BK156 1, bc_ BK156 2, bc_ BK156 3, bc_ BK156 4, bc_ BK156 5, bc_ BK157 0, bc_ BK157 1, bc_ BK157 2⟩ (fun hHeld => ?_); clear hK K
    apply norm_
    · show Act.put _ (some 38) _ = _; simp only [Act.put, sA_, sZ_, sS_, i64_w, i32_w]; rfl
    refine one_ (i := 14) (N := none) #[true,true,true,true,true,true,true,true,true,true,true,true,true,true,true,false] rfl rfl (one_of HT_.out (by kernel_rfl)) (by decide) (fun K hK => ?_)
    have hs43 : w42.cell? ⟨gb158, 0, none⟩ = some (.int .i64 0) := bc_ BK158 0
    have hfs43 := blk_frozen BK158.out 0; have hns43_0 := NB156_158.out; have hns43_1 := NB157_158.out; have hms43_0 := NB158_156.out; have hms43_1 := NB158_157.out
    have hs44 : w42.cell? ⟨gb158, 1, none⟩ = some (.int .i64 0) := bc_ BK158 1
    have hfs44 := blk_frozen BK158.out 1; have hns44_0 := NB156_158.out; have hns44_1 := NB157_158.out; have hms44_0 := NB158_156.out; have hms44_1 := NB158_157.out
    have hs45 : w42.cell? ⟨gb158, 2, none⟩ = some (.bool false) := bc_ BK158 2
    have hfs45 := blk_frozen BK158.out 2; have hns45_0 := NB156_158.out; have hns45_1 := NB157_158.out; have hms45_0 := NB158_156.out; have hms45_1 := NB158_157.out; refine skip_ (w1 := ?_) (by rfl) rfl ?_ ?_; rotate_left
    · go_simp; rfl
    refine hK.out _ _ ⟨((cell_far (p := ⟨gb158, _, none⟩) NB156_158.out _).trans (((cell_far (p := ⟨gb158, _, none⟩) NB156_158.out _).trans (((cell_far (p := ⟨gb158, _, none⟩) NB156_158.out _).trans (hHeld.1)))))), ((cell_far (p := ⟨gb158, _, none⟩) NB156_158.out _).trans (((cell_far (p := ⟨gb158, _, none⟩) NB156_158.out _).trans (((cell_far (p := ⟨gb158, _, none⟩) NB156_158.out _).trans (hHeld.2.1)))))), ((cell_far (p := ⟨gb158, _, none⟩) NB156_158.out _).trans (((cell_far (p := ⟨gb158, _, none⟩) NB156_158.out _).trans (((cell_far (p := ⟨gb158, _, none⟩) NB156_158.out _).trans (hHeld.2.2.1)))))), ((cell_far (p := ⟨gb158, _, none⟩) NB156_158.out _).trans (((cell_far (p := ⟨gb158, _, none⟩) NB156_158.out _).trans (((cell_far (p := ⟨gb158, _, none⟩) NB156_158.out _).trans (hHeld.2.2.2.1)))))), ((cell_far (p := ⟨gb158, _, none⟩) NB156_158.out _).trans (((cell_far (p := ⟨gb158, _, none⟩) NB156_158.out _).trans (((cell_far (p := ⟨gb158, _, none⟩) NB156_158.out _).trans (hHeld.2.2.2.2.1)))))), ((cell_far (p := ⟨gb158, _, none⟩) NB156_158.out _).trans (((cell_far (p := ⟨gb158, _, none⟩) NB156_158.out _).trans (((cell_far (p := ⟨gb158, _, none⟩) NB156_158.out _).trans (hHeld.2.2.2.2.2.1)))))), ((cell_far (p := ⟨gb158, _, none⟩) NB157_158.out _).trans (((cell_far (p := ⟨gb158, _, none⟩) NB157_158.out _).trans (((cell_far (p := ⟨gb158, _, none⟩) NB157_158.out _).trans (hHeld.2.2.2.2.2.2.1)))))), ((cell_far (p := ⟨gb158, _, none⟩) NB157_158.out _).trans (((cell_far (p := ⟨gb158, _, none⟩) NB157_158.out _).trans (((cell_far (p := ⟨gb158, _, none⟩) NB157_158.out _).trans (hHeld.2.2.2.2.2.2.2.1)))))), ((cell_far (p := ⟨gb158, _, none⟩) NB157_158.out _).trans (((cell_far (p := ⟨gb158, _, none⟩) NB157_158.out _).trans (((cell_far (p := ⟨gb158, _, none⟩) NB157_158.out _).trans (hHeld.2.2.2.2.2.2.2.2))))))⟩ (fun hHeld => ?_); clear hK K; refine pure_ (i := 15) (N := some 9) (v := ?_) (a' := ?_) #[true,true,true,true,true,true,true,true,true,true,true,true,true,true,true,true] rfl rfl (any_of HT_.out (by kernel_rfl)) (fun _ _ _ h => h) (Or.inl ⟨by rfl, ?_⟩) ?_ ?_; rotate_left
    ·
     intro w'; go_simp
     with_reducible rfl
    rotate_left
    · simp only [Act.put, sA_, sZ_, sS_, i64_w, i32_w]; rfl
    refine done_ (done_of HT_.out (by kernel_rfl)) ?_
    try go_wp2
    refine bodyPost_ret (results_ct rfl _ _ gb158 26 #[.int .i64 t168, .int .i64 t169, .bool t170] (0, 0) _ rfl (by (with_reducible repeat (first | refine blk_drewN ?_ _ | refine blk_drew ?_ | refine blk_alloc ?_ _)); refine blk_put (cs := #[.int .i64 t168, .int .i64 t169, .bool false]) ?_ 2 _ rfl; (with_reducible repeat (first | refine blk_drewN ?_ _ | refine blk_drew ?_ | refine blk_alloc ?_ _)); refine blk_put (cs := #[.int .i64 t168, .int .i64 0, .bool false]) ?_ 1 _ rfl; (with_reducible repeat (first | refine blk_drewN ?_ _ | refine blk_drew ?_ | refine blk_alloc ?_ _)); refine blk_put (cs := #[.int .i64 0, .int .i64 0, .bool false]) ?_ 0 _ rfl; (with_reducible repeat (first | refine blk_drewN ?_ _ | refine blk_drew ?_ | refine blk_alloc ?_ _)); exact BK158.out) Try.underlying26 rfl (by kernel_rfl)) rfl ?_; exact ⟨by first | rfl | (simp [errW_none, errW_some] <;> rfl) | (simp [*, errW_none, errW_some] <;> rfl), by repeat (first | (with_reducible first | exact HB.out | apply below_alloc | apply pw_below_drewN | apply below_drew1 | refine below_set ?_ GE156.out | refine below_set ?_ GE157.out | refine below_set ?_ GE158.out) | exact HB.out)⟩

attribute [local go_sem] fld_
/-! ### impl_within: function 67 -/
def impl_within.f (a0 : Int) (a1 : Int) (a2 : Int) : Option (Bool) := if a0 ≥ a1 then (some (decide (a0 ≤ a2))) else (some false)
set_option maxHeartbeats 8000000 in
set_option maxRecDepth 100000 in
theorem impl_within.calls (a0 : Int) (a1 : Int) (a2 : Int) (r : Bool) (w : World) (h : impl_within.f a0 a1 a2 = some r) :
    Calls Try.prog 67 #[.int .i64 a0, .int .i64 a1, .int .i64 a2] w fun e w' => e = .returned (.bool r) ∧ Drawn0 w w' := by
  have H : (if a0 ≥ a1 then (some (decide (a0 ≤ a2))) else (some false)) = some r := h
  clear h
  by_cases c4 : a0 ≥ a1
  · rw [if_pos c4] at H
    have c4b0 : decide (a1 ≤ a0) = true := decide_eq_true c4
    clear c4
    obtain rfl := Option.some.inj H
    go_enter Try.func67, Try.ntmps67
    go_wp2
    go_ret
    exact ⟨by first | rfl | (simp; done) | (simp [*]; done), by repeat (first | exact Drawn0.refl _ | apply Drawn0.step)⟩
  · rw [if_neg c4] at H
    have c4b0 : decide (a1 ≤ a0) = false := decide_eq_false c4
    clear c4
    obtain rfl := Option.some.inj H
    go_enter Try.func67, Try.ntmps67
    go_wp2
    go_ret
    exact ⟨by first | rfl | (simp; done) | (simp [*]; done), by repeat (first | exact Drawn0.refl _ | apply Drawn0.step)⟩

end Go.Proofs.Ytohplbcbkggjaac.PFnExactTwoMul
