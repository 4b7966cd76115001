-- Written for this claim by a program of this session.
import Derived.Test.YtohplbcbkggjaacPFnExactEdBytesx0
import Derived.Test.YtohplbcbkggjaacPFnExactEdBytesx2
namespace Go.Proofs.Ytohplbcbkggjaac.PFnExactEdBytes
open Go.RowKit Go.Proofs.YtohplbcbkggjaacW.PrintWords Go.Proofs.YtohplbcbkggjaacW.PrintLast Go.Proofs.YtohplbcbkggjaacW.PrintMore
attribute [local go_sem] max2_int min2_int max_two min_two max_three min_three max_four min_four   -- for this text's walks alone
set_option linter.unusedVariables false
set_option linter.unusedSimpArgs false

/-! ### spec_l4Mul: function 125 -/
def spec_l4Mul.l0 : Nat → Int → Int → Int → Int → Int → Int → Int → Int → Int → Int → Option (Int × Int)
  | 0, _, _, _, _, _, _, _, _, _, _ => none
  | k + 1, x1, x116000, x116001, x116002, x116003, x116004, x117000, x117001, x119000, x119001 => if x1 > 0 then (if (Int.tmod x1 2) = 1 then ((spec_l4Add.f k x116000 x116001 x116002 x116003 x116004 x119000 x119001 x117000 x117001).bind fun bt119 => ((spec_l4Add.f k x116000 x116001 x116002 x116003 x116004 x117000 x117001 x117000 x117001).bind fun bt121 => (spec_l4Mul.l0 k (wrap64 (Int.tdiv x1 2)) x116000 x116001 x116002 x116003 x116004 bt121.1 bt121.2 bt119.1 bt119.2))) else ((spec_l4Add.f k x116000 x116001 x116002 x116003 x116004 x117000 x117001 x117000 x117001).bind fun bt123 => (spec_l4Mul.l0 k (wrap64 (Int.tdiv x1 2)) x116000 x116001 x116002 x116003 x116004 bt123.1 bt123.2 x119000 x119001))) else (some (x119000, x119001))
def spec_l4Mul.f (k : Nat) (a0_0 : Int) (a0_1 : Int) (a0_2 : Int) (a0_3 : Int) (a0_4 : Int) (a1 : Int) (a2_0 : Int) (a2_1 : Int) : Option (Int × Int) := spec_l4Mul.l0 k a1 a0_0 a0_1 a0_2 a0_3 a0_4 a2_0 a2_1 0 1
theorem spec_l4Mul.mono_l : ∀ k, (∀ y0 y1 y2 y3 y4 y5 y6 y7 y8 y9, LeO (spec_l4Mul.l0 k y0 y1 y2 y3 y4 y5 y6 y7 y8 y9) (spec_l4Mul.l0 (k + 1) y0 y1 y2 y3 y4 y5 y6 y7 y8 y9))
 | 0 => fun _ _ _ _ _ _ _ _ _ _ r h => by simp [spec_l4Mul.l0] at h
 | k + 1 => by
  have ih0 := spec_l4Mul.mono_l k
  ·
   intro y0 y1 y2 y3 y4 y5 y6 y7 y8 y9
   unfold spec_l4Mul.l0
   repeat' first
   | (with_reducible exact ih0 _ _ _ _ _ _ _ _ _ _)
   | (with_reducible exact spec_l4Add.mono _ _ _ _ _ _ _ _ _ _)
   | (with_reducible exact LeO.refl _)
   | (with_reducible exact LeO.none _)
   | (with_reducible refine LeO.ite ?_ ?_)
   | (with_reducible refine LeO.bind ?_ (fun _ => ?_))
   | exact ih0 _ _ _ _ _ _ _ _ _ _
   | exact spec_l4Add.mono _ _ _ _ _ _ _ _ _ _
   | exact LeO.none _
   | refine LeO.ite ?_ ?_
   | refine LeO.bind ?_ (fun _ => ?_)
theorem spec_l4Mul.mono : ∀ a0 a1 a2 a3 a4 a5 a6 a7 k, LeO (spec_l4Mul.f k a0 a1 a2 a3 a4 a5 a6 a7) (spec_l4Mul.f (k + 1) a0 a1 a2 a3 a4 a5 a6 a7) := by
 intro a0 a1 a2 a3 a4 a5 a6 a7 k; have ih0 := spec_l4Mul.mono_l k
 unfold spec_l4Mul.f
 repeat' first
   | (with_reducible exact ih0 _ _ _ _ _ _ _ _ _ _)
   | (with_reducible exact spec_l4Add.mono _ _ _ _ _ _ _ _ _ _)
   | (with_reducible exact LeO.refl _)
   | (with_reducible exact LeO.none _)
   | (with_reducible refine LeO.ite ?_ ?_)
   | (with_reducible refine LeO.bind ?_ (fun _ => ?_))
   | exact ih0 _ _ _ _ _ _ _ _ _ _
   | exact spec_l4Add.mono _ _ _ _ _ _ _ _ _ _
   | exact LeO.none _
   | refine LeO.ite ?_ ?_
   | refine LeO.bind ?_ (fun _ => ?_)
set_option maxHeartbeats 8000000 in
set_option maxRecDepth 100000 in
theorem spec_l4Mul.calls (k : Nat) (a0_0 : Int) (a0_1 : Int) (a0_2 : Int) (a0_3 : Int) (a0_4 : Int) (a1 : Int) (a2_0 : Int) (a2_1 : Int) (r1 : Int) (r2 : Int) (w : World) (h : spec_l4Mul.f k a0_0 a0_1 a0_2 a0_3 a0_4 a1 a2_0 a2_1 = some (r1, r2)) :
  Calls Try.prog 125 #[.agg #[.int .i64 a0_0, .int .i64 a0_1, .int .i64 a0_2, .int .i64 a0_3, .int .i64 a0_4], .int .i64 a1, .agg #[.int .i64 a2_0, .int .i64 a2_1]] w fun e w' => e = .returned (.agg #[.int .i64 r1, .int .i64 r2]) ∧ Below w.heap.size w w' := by
 have hu45 := Try.underlying45; have hu47 := Try.underlying47; have HB := Aside0.mk (Below.refl w.heap.size w)
 have H : (spec_l4Mul.l0 k a1 a0_0 a0_1 a0_2 a0_3 a0_4 a2_0 a2_1 0 1) = some (r1, r2) := h
 clear h
 have H' := Aside0.mk H
 clear H
 go_enter Try.func125, Try.ntmps125
 go_wp2_with (first | ((with_reducible refine gate_dst (N := 3) rfl ?_); refine box_event ?hg (N := 3) ?hd (cs := #[.int .i64 a0_0, .int .i64 a0_1, .int .i64 a0_2, .int .i64 a0_3, .int .i64 a0_4]) (t := 45) ?hr ?_; (case hd => rfl); (case hg => rfl); (case hr => first | (go_simp; done) | (go_simp; rfl)); intro gb115 hg w4 hbox hb; have n0_ := bs_ HB hb; have n1_ := Aside0.mk hbox; have n2_ := ge_ HB hg; have n3_ := ge_ HB hg; clear HB; have HB := n0_; have BK115 := n1_; have GW115 := n2_; have GE115 := n3_; clear n0_ n1_ n2_ n3_; clear hb hbox hg) | ((with_reducible refine gate_dst (N := 5) rfl ?_); refine box_event ?hg (N := 5) ?hd (cs := #[.int .i64 a2_0, .int .i64 a2_1]) (t := 47) ?hr ?_; (case hd => rfl); (case hg => rfl); (case hr => first | (go_simp; done) | (go_simp; rfl)); intro gb116 hg w5 hbox hb; have n0_ := bb_ BK115 hb; have n1_ := bs_ HB hb; have n2_ := Aside0.mk hbox; have n3_ := ge_ HB hg; have n4_ := ge_ HB hg; have n5_ := nl_ BK115 hg; have n6_ := nr_ BK115 hg; clear BK115; clear HB; have BK115 := n0_; have HB := n1_; have BK116 := n2_; have GW116 := n3_; have GE116 := n4_; have NB115_116 := n5_; have NB116_115 := n6_; clear n0_ n1_ n2_ n3_ n4_ n5_ n6_; clear hb hbox hg) | ((with_reducible refine gate_dst (N := 6) rfl ?_); refine box_event ?hg (N := 6) ?hd (cs := #[.int .i64 0, .int .i64 0]) (t := 47) ?hr ?_; (case hd => rfl); (case hg => rfl); (case hr => first | (go_simp; done) | (go_simp; rfl)); intro gb117 hg w6 hbox hb; have n0_ := bb_ BK115 hb; have n1_ := bb_ BK116 hb; have n2_ := bs_ HB hb; have n3_ := Aside0.mk hbox; have n4_ := ge_ HB hg; have n5_ := ge_ HB hg; have n6_ := nl_ BK115 hg; have n7_ := nr_ BK115 hg; have n8_ := nl_ BK116 hg; have n9_ := nr_ BK116 hg; clear BK115; clear BK116; clear HB; have BK115 := n0_; have BK116 := n1_; have HB := n2_; have BK117 := n3_; have GW117 := n4_; have GE117 := n5_; have NB115_117 := n6_; have NB117_115 := n7_; have NB116_117 := n8_; have NB117_116 := n9_; clear n0_ n1_ n2_ n3_ n4_ n5_ n6_ n7_ n8_ n9_; clear hb hbox hg) | ((with_reducible refine gate_dst (N := 7) rfl ?_); refine box_event ?hg (N := 7) ?hd (cs := #[.int .i64 0, .int .i64 0]) (t := 47) ?hr ?_; (case hd => rfl); (case hg => rfl); (case hr => first | (go_simp; done) | (go_simp; rfl)); intro gb118 hg w7 hbox hb; have n0_ := bb_ BK115 hb; have n1_ := bb_ BK116 hb; have n2_ := bb_ BK117 hb; have n3_ := bs_ HB hb; have n4_ := Aside0.mk hbox; have n5_ := ge_ HB hg; have n6_ := ge_ HB hg; have n7_ := nl_ BK115 hg; have n8_ := nr_ BK115 hg; have n9_ := nl_ BK116 hg; have n10_ := nr_ BK116 hg; have n11_ := nl_ BK117 hg; have n12_ := nr_ BK117 hg; clear BK115; clear BK116; clear BK117; clear HB; have BK115 := n0_; have BK116 := n1_; have BK117 := n2_; have HB := n3_; have BK118 := n4_; have GW118 := n5_; have GE118 := n6_; have NB115_118 := n7_; have NB118_115 := n8_; have NB116_118 := n9_; have NB118_116 := n10_; have NB117_118 := n11_; have NB118_117 := n12_; clear n0_ n1_ n2_ n3_ n4_ n5_ n6_ n7_ n8_ n9_ n10_ n11_ n12_; clear hb hbox hg; have hnb8 := NB118_115.out; have hnc8 := NB115_118.out; have hnb9 := NB118_116.out; have hnc9 := NB116_118.out; have hnb10 := NB118_117.out; have hnc10 := NB117_118.out; have hcz11_0 : w7.cell? ⟨gb118, 0, none⟩ = some (.int .i64 0) := bc_ BK118 0; have hcz11_1 : w7.cell? ⟨gb118, 1, none⟩ = some (.int .i64 0) := bc_ BK118 1; have hfz11_0 := blk_frozen BK118.out 0; have hfz11_1 := blk_frozen BK118.out 1))
 go_loopg [1] k (fun kq v1 w' => ∃ (x1_1 : Int) (x117000_1 : Int) (x117001_1 : Int) (x119000_1 : Int) (x119001_1 : Int), v1 = .int .i64 x1_1 ∧ Aside0 (spec_l4Mul.l0 kq x1_1 a0_0 a0_1 a0_2 a0_3 a0_4 x117000_1 x117001_1 x119000_1 x119001_1 = some (r1, r2)) ∧ Aside0 (kq ≤ k) ∧ Aside0 (w'.heap[gb115]? = some (.cells #[.int .i64 a0_0, .int .i64 a0_1, .int .i64 a0_2, .int .i64 a0_3, .int .i64 a0_4] 45 (0, 0))) ∧ Aside0 (w'.heap[gb116]? = some (.cells #[.int .i64 x117000_1, .int .i64 x117001_1] 47 (0, 0))) ∧ Aside0 (w'.heap[gb117]? = some (.cells #[.int .i64 0, .int .i64 0] 47 (0, 0))) ∧ Aside0 (w'.heap[gb118]? = some (.cells #[.int .i64 x119000_1, .int .i64 x119001_1] 47 (0, 0))) ∧ Aside0 (Below w.heap.size w w'))
 case atStart => exact ⟨(a1), (a2_0), (a2_1), (0), (1), (by first | rfl | (simp; done) | (simp [*]; done)), H', ⟨Nat.le_refl _⟩, ⟨by (with_reducible repeat (first | refine blk_drewN ?_ _ | refine blk_drew ?_ | refine blk_alloc ?_ _)); refine blk_far ?_ NB115_118.out _; (with_reducible repeat (first | refine blk_drewN ?_ _ | refine blk_drew ?_ | refine blk_alloc ?_ _)); refine blk_far ?_ NB115_118.out _; (with_reducible repeat (first | refine blk_drewN ?_ _ | refine blk_drew ?_ | refine blk_alloc ?_ _)); exact BK115.out⟩, ⟨by (with_reducible repeat (first | refine blk_drewN ?_ _ | refine blk_drew ?_ | refine blk_alloc ?_ _)); refine blk_far ?_ NB116_118.out _; (with_reducible repeat (first | refine blk_drewN ?_ _ | refine blk_drew ?_ | refine blk_alloc ?_ _)); refine blk_far ?_ NB116_118.out _; (with_reducible repeat (first | refine blk_drewN ?_ _ | refine blk_drew ?_ | refine blk_alloc ?_ _)); exact BK116.out⟩, ⟨by (with_reducible repeat (first | refine blk_drewN ?_ _ | refine blk_drew ?_ | refine blk_alloc ?_ _)); refine blk_far ?_ NB117_118.out _; (with_reducible repeat (first | refine blk_drewN ?_ _ | refine blk_drew ?_ | refine blk_alloc ?_ _)); refine blk_far ?_ NB117_118.out _; (with_reducible repeat (first | refine blk_drewN ?_ _ | refine blk_drew ?_ | refine blk_alloc ?_ _)); exact BK117.out⟩, ⟨by (with_reducible repeat (first | refine blk_drewN ?_ _ | refine blk_drew ?_ | refine blk_alloc ?_ _)); refine blk_put (cs := #[.int .i64 0, .int .i64 0]) ?_ 1 _ rfl; (with_reducible repeat (first | refine blk_drewN ?_ _ | refine blk_drew ?_ | refine blk_alloc ?_ _)); refine blk_put (cs := #[.int .i64 0, .int .i64 0]) ?_ 0 _ rfl; (with_reducible repeat (first | refine blk_drewN ?_ _ | refine blk_drew ?_ | refine blk_alloc ?_ _)); exact BK118.out⟩, ⟨by repeat (first | (with_reducible first | exact HB.out | apply below_alloc | apply pw_below_drewN | apply below_drew1 | refine below_set ?_ GE115.out | refine below_set ?_ GE116.out | refine below_set ?_ GE117.out | refine below_set ?_ GE118.out) | exact HB.out)⟩⟩
 case round =>
  clear H'
  try clear c1
  try clear p2
  try clear c8
  try clear c9
  try clear c10
  try clear hcz11_0
  try clear hcz11_1
  try clear hfz11_0
  try clear hfz11_1
  obtain ⟨x1_1, x117000_1, x117001_1, x119000_1, x119001_1, rfl, HA, HK1, BK115, BK116, BK117, BK118, HB⟩ := hrel
  cases gk with
  | zero => exact absurd HA.out (by simp [spec_l4Mul.l0])
  | succ k1 =>
   have H := HA.out; clear HA
   simp only [spec_l4Mul.l0] at H
   by_cases c12 : x1_1 > 0
   ·
    rw [if_pos c12] at H
    have c12b0 : decide (0 < x1_1) = true := decide_eq_true c12
    clear c12
    by_cases c13 : (Int.tmod x1_1 2) = 1
    ·
     rw [if_pos c13] at H
     have c13b0 : ((Int.tmod x1_1 2) == 1) = true := beq_iff_eq.mpr c13
     have c13b1 : ((Int.tmod x1_1 2) != 1) = false := bne_eq_false_iff_eq.mpr c13
     clear c13; replace H := Option.bind_eq_some_iff.mp H; obtain ⟨⟨t119, t120⟩, A140, H⟩ := H
     replace H : ((spec_l4Add.f k1 a0_0 a0_1 a0_2 a0_3 a0_4 x117000_1 x117001_1 x117000_1 x117001_1).bind fun bt121 => (spec_l4Mul.l0 k1 (wrap64 (Int.tdiv x1_1 2)) a0_0 a0_1 a0_2 a0_3 a0_4 bt121.1 bt121.2 t119 t120)) = some (r1, r2) := H
     have A14 := Aside0.mk A140; clear A140; replace H := Option.bind_eq_some_iff.mp H; obtain ⟨⟨t121, t122⟩, A150, H⟩ := H
     replace H : (spec_l4Mul.l0 k1 (wrap64 (Int.tdiv x1_1 2)) a0_0 a0_1 a0_2 a0_3 a0_4 t121 t122 t119 t120) = some (r1, r2) := H
     have A15 := Aside0.mk A150; clear A150
     have H' := Aside0.mk H
     clear H; have hnb16 := NB115_116.out; have hnc16 := NB116_115.out; have hnb17 := NB115_117.out; have hnc17 := NB117_115.out; have hnb18 := NB115_118.out; have hnc18 := NB118_115.out
     have hcz19_0 : wr.cell? ⟨gb115, 0, none⟩ = some (.int .i64 a0_0) := bc_ BK115 0
     have hcz19_1 : wr.cell? ⟨gb115, 1, none⟩ = some (.int .i64 a0_1) := bc_ BK115 1
     have hcz19_2 : wr.cell? ⟨gb115, 2, none⟩ = some (.int .i64 a0_2) := bc_ BK115 2
     have hcz19_3 : wr.cell? ⟨gb115, 3, none⟩ = some (.int .i64 a0_3) := bc_ BK115 3
     have hcz19_4 : wr.cell? ⟨gb115, 4, none⟩ = some (.int .i64 a0_4) := bc_ BK115 4
     have hfz19_0 := blk_frozen BK115.out 0; have hfz19_1 := blk_frozen BK115.out 1; have hfz19_2 := blk_frozen BK115.out 2; have hfz19_3 := blk_frozen BK115.out 3; have hfz19_4 := blk_frozen BK115.out 4; have hnb20 := NB118_116.out; have hnc20 := NB116_118.out; have hnb21 := NB118_117.out; have hnc21 := NB117_118.out
     have hcz22_0 : wr.cell? ⟨gb118, 0, none⟩ = some (.int .i64 x119000_1) := bc_ BK118 0
     have hcz22_1 : wr.cell? ⟨gb118, 1, none⟩ = some (.int .i64 x119001_1) := bc_ BK118 1
     have hfz22_0 := blk_frozen BK118.out 0; have hfz22_1 := blk_frozen BK118.out 1; have hnb23 := NB116_117.out; have hnc23 := NB117_116.out
     have hcz24_0 : wr.cell? ⟨gb116, 0, none⟩ = some (.int .i64 x117000_1) := bc_ BK116 0
     have hcz24_1 : wr.cell? ⟨gb116, 1, none⟩ = some (.int .i64 x117001_1) := bc_ BK116 1
     have hfz24_0 := blk_frozen BK116.out 0; have hfz24_1 := blk_frozen BK116.out 1
     go_wp2_with (first | ((with_reducible refine gate_callee (f := 149) rfl ?_); refine goesL_ (some 17) rfl rfl Try.func149 (by kernel_rfl) rfl #[.agg #[.int .i64 a0_0, .int .i64 a0_1, .int .i64 a0_2, .int .i64 a0_3, .int .i64 a0_4], .agg #[.int .i64 x119000_1, .int .i64 x119001_1], .agg #[.int .i64 x117000_1, .int .i64 x117001_1]] rfl (by (try simp only [List.map_toArray, List.map_cons, List.map_nil]); first | done | rfl | (simp only [List.length_drop, List.length_take]; rfl)) ?_; (with_reducible refine (spec_l4Add.calls k1 a0_0 a0_1 a0_2 a0_3 a0_4 x119000_1 x119001_1 x117000_1 x117001_1 t119 t120 _ A14.out).mono ?_); rintro e w25 ⟨rfl, hb⟩; refine ⟨_, rfl, ?_⟩; have n0_ := bb_ BK115 hb; have n1_ := bb_ BK116 hb; have n2_ := bb_ BK117 hb; have n3_ := bb_ BK118 hb; have n4_ := bs_ HB hb; clear BK115; clear BK116; clear BK117; clear BK118; clear HB; have BK115 := n0_; have BK116 := n1_; have BK117 := n2_; have BK118 := n3_; have HB := n4_; clear n0_ n1_ n2_ n3_ n4_; (try clear hb); (try clear hb2); (try clear hk); (try clear hi); have hcz26_0 : w25.cell? ⟨gb118, 0, none⟩ = some (.int .i64 x119000_1) := bc_ BK118 0; have hcz26_1 : w25.cell? ⟨gb118, 1, none⟩ = some (.int .i64 x119001_1) := bc_ BK118 1; have hfz26_0 := blk_frozen BK118.out 0; have hfz26_1 := blk_frozen BK118.out 1; have hcz27_0 : w25.cell? ⟨gb115, 0, none⟩ = some (.int .i64 a0_0) := bc_ BK115 0; have hcz27_1 : w25.cell? ⟨gb115, 1, none⟩ = some (.int .i64 a0_1) := bc_ BK115 1; have hcz27_2 : w25.cell? ⟨gb115, 2, none⟩ = some (.int .i64 a0_2) := bc_ BK115 2; have hcz27_3 : w25.cell? ⟨gb115, 3, none⟩ = some (.int .i64 a0_3) := bc_ BK115 3; have hcz27_4 : w25.cell? ⟨gb115, 4, none⟩ = some (.int .i64 a0_4) := bc_ BK115 4; have hfz27_0 := blk_frozen BK115.out 0; have hfz27_1 := blk_frozen BK115.out 1; have hfz27_2 := blk_frozen BK115.out 2; have hfz27_3 := blk_frozen BK115.out 3; have hfz27_4 := blk_frozen BK115.out 4; have hcz28_0 : w25.cell? ⟨gb116, 0, none⟩ = some (.int .i64 x117000_1) := bc_ BK116 0; have hcz28_1 : w25.cell? ⟨gb116, 1, none⟩ = some (.int .i64 x117001_1) := bc_ BK116 1; have hfz28_0 := blk_frozen BK116.out 0; have hfz28_1 := blk_frozen BK116.out 1) | ((with_reducible refine gate_callee (f := 149) rfl ?_); refine goesL_ (some 21) rfl rfl Try.func149 (by kernel_rfl) rfl #[.agg #[.int .i64 a0_0, .int .i64 a0_1, .int .i64 a0_2, .int .i64 a0_3, .int .i64 a0_4], .agg #[.int .i64 x117000_1, .int .i64 x117001_1], .agg #[.int .i64 x117000_1, .int .i64 x117001_1]] rfl (by (try simp only [List.map_toArray, List.map_cons, List.map_nil]); first | done | rfl | (simp only [List.length_drop, List.length_take]; rfl)) ?_; (with_reducible refine (spec_l4Add.calls k1 a0_0 a0_1 a0_2 a0_3 a0_4 x117000_1 x117001_1 x117000_1 x117001_1 t121 t122 _ A15.out).mono ?_); rintro e w29 ⟨rfl, hb⟩; refine ⟨_, rfl, ?_⟩; have n0_ := Aside0.mk (blk_below (g := gb115) (o := .cells #[.int .i64 a0_0, .int .i64 a0_1, .int .i64 a0_2, .int .i64 a0_3, .int .i64 a0_4] 45 (0, 0)) (by (with_reducible repeat (first | refine blk_drewN ?_ _ | refine blk_drew ?_ | refine blk_alloc ?_ _)); refine blk_far ?_ NB115_118.out _; (with_reducible repeat (first | refine blk_drewN ?_ _ | refine blk_drew ?_ | refine blk_alloc ?_ _)); refine blk_far ?_ NB115_118.out _; (with_reducible repeat (first | refine blk_drewN ?_ _ | refine blk_drew ?_ | refine blk_alloc ?_ _)); exact BK115.out) hb); have n1_ := Aside0.mk (blk_below (g := gb116) (o := .cells #[.int .i64 x117000_1, .int .i64 x117001_1] 47 (0, 0)) (by (with_reducible repeat (first | refine blk_drewN ?_ _ | refine blk_drew ?_ | refine blk_alloc ?_ _)); refine blk_far ?_ NB116_118.out _; (with_reducible repeat (first | refine blk_drewN ?_ _ | refine blk_drew ?_ | refine blk_alloc ?_ _)); refine blk_far ?_ NB116_118.out _; (with_reducible repeat (first | refine blk_drewN ?_ _ | refine blk_drew ?_ | refine blk_alloc ?_ _)); exact BK116.out) hb); have n2_ := Aside0.mk (blk_below (g := gb117) (o := .cells #[.int .i64 0, .int .i64 0] 47 (0, 0)) (by (with_reducible repeat (first | refine blk_drewN ?_ _ | refine blk_drew ?_ | refine blk_alloc ?_ _)); refine blk_far ?_ NB117_118.out _; (with_reducible repeat (first | refine blk_drewN ?_ _ | refine blk_drew ?_ | refine blk_alloc ?_ _)); refine blk_far ?_ NB117_118.out _; (with_reducible repeat (first | refine blk_drewN ?_ _ | refine blk_drew ?_ | refine blk_alloc ?_ _)); exact BK117.out) hb); have n3_ := Aside0.mk (blk_below (g := gb118) (o := .cells #[.int .i64 t119, .int .i64 t120] 47 (0, 0)) (by (with_reducible repeat (first | refine blk_drewN ?_ _ | refine blk_drew ?_ | refine blk_alloc ?_ _)); refine blk_put (cs := #[.int .i64 t119, .int .i64 x119001_1]) ?_ 1 _ rfl; (with_reducible repeat (first | refine blk_drewN ?_ _ | refine blk_drew ?_ | refine blk_alloc ?_ _)); refine blk_put (cs := #[.int .i64 x119000_1, .int .i64 x119001_1]) ?_ 0 _ rfl; (with_reducible repeat (first | refine blk_drewN ?_ _ | refine blk_drew ?_ | refine blk_alloc ?_ _)); exact BK118.out) hb); have n4_ := bs_ HB hb; clear BK115; clear BK116; clear BK117; clear BK118; clear HB; have BK115 := n0_; have BK116 := n1_; have BK117 := n2_; have BK118 := n3_; have HB := n4_; clear n0_ n1_ n2_ n3_ n4_; (try clear hb); (try clear hb2); (try clear hk); (try clear hi); have hcz30_0 : w29.cell? ⟨gb116, 0, none⟩ = some (.int .i64 x117000_1) := bc_ BK116 0; have hcz30_1 : w29.cell? ⟨gb116, 1, none⟩ = some (.int .i64 x117001_1) := bc_ BK116 1; have hfz30_0 := blk_frozen BK116.out 0; have hfz30_1 := blk_frozen BK116.out 1))
     go_roundg k1
     case measure => have := HK1.out; omega
     case rel => exact ⟨(wrap64 (Int.tdiv x1_1 2)), (t121), (t122), (t119), (t120), (by first | rfl | (simp; done) | (simp [*]; done)), H', ⟨by have := HK1.out; omega⟩, ⟨by (with_reducible repeat (first | refine blk_drewN ?_ _ | refine blk_drew ?_ | refine blk_alloc ?_ _)); refine blk_far ?_ NB115_116.out _; (with_reducible repeat (first | refine blk_drewN ?_ _ | refine blk_drew ?_ | refine blk_alloc ?_ _)); refine blk_far ?_ NB115_116.out _; (with_reducible repeat (first | refine blk_drewN ?_ _ | refine blk_drew ?_ | refine blk_alloc ?_ _)); exact BK115.out⟩, ⟨by (with_reducible repeat (first | refine blk_drewN ?_ _ | refine blk_drew ?_ | refine blk_alloc ?_ _)); refine blk_put (cs := #[.int .i64 t121, .int .i64 x117001_1]) ?_ 1 _ rfl; (with_reducible repeat (first | refine blk_drewN ?_ _ | refine blk_drew ?_ | refine blk_alloc ?_ _)); refine blk_put (cs := #[.int .i64 x117000_1, .int .i64 x117001_1]) ?_ 0 _ rfl; (with_reducible repeat (first | refine blk_drewN ?_ _ | refine blk_drew ?_ | refine blk_alloc ?_ _)); exact BK116.out⟩, ⟨by (with_reducible repeat (first | refine blk_drewN ?_ _ | refine blk_drew ?_ | refine blk_alloc ?_ _)); refine blk_far ?_ NB117_116.out _; (with_reducible repeat (first | refine blk_drewN ?_ _ | refine blk_drew ?_ | refine blk_alloc ?_ _)); refine blk_far ?_ NB117_116.out _; (with_reducible repeat (first | refine blk_drewN ?_ _ | refine blk_drew ?_ | refine blk_alloc ?_ _)); exact BK117.out⟩, ⟨by (with_reducible repeat (first | refine blk_drewN ?_ _ | refine blk_drew ?_ | refine blk_alloc ?_ _)); refine blk_far ?_ NB118_116.out _; (with_reducible repeat (first | refine blk_drewN ?_ _ | refine blk_drew ?_ | refine blk_alloc ?_ _)); refine blk_far ?_ NB118_116.out _; (with_reducible repeat (first | refine blk_drewN ?_ _ | refine blk_drew ?_ | refine blk_alloc ?_ _)); exact BK118.out⟩, ⟨by repeat (first | (with_reducible first | exact HB.out | apply below_alloc | apply pw_below_drewN | apply below_drew1 | refine below_set ?_ GE115.out | refine below_set ?_ GE116.out | refine below_set ?_ GE117.out | refine below_set ?_ GE118.out) | exact HB.out)⟩⟩
    ·
     rw [if_neg c13] at H
     have c13b0 : ((Int.tmod x1_1 2) == 1) = false := beq_eq_false_iff_ne.mpr c13
     have c13b1 : ((Int.tmod x1_1 2) != 1) = true := bne_iff_ne.mpr c13
     replace H := Option.bind_eq_some_iff.mp H; obtain ⟨⟨t123, t124⟩, A310, H⟩ := H
     replace H : (spec_l4Mul.l0 k1 (wrap64 (Int.tdiv x1_1 2)) a0_0 a0_1 a0_2 a0_3 a0_4 t123 t124 x119000_1 x119001_1) = some (r1, r2) := H
     have A31 := Aside0.mk A310; clear A310
     have H' := Aside0.mk H
     clear H; have hnb32 := NB115_116.out; have hnc32 := NB116_115.out; have hnb33 := NB115_117.out; have hnc33 := NB117_115.out; have hnb34 := NB115_118.out; have hnc34 := NB118_115.out
     have hcz35_0 : wr.cell? ⟨gb115, 0, none⟩ = some (.int .i64 a0_0) := bc_ BK115 0
     have hcz35_1 : wr.cell? ⟨gb115, 1, none⟩ = some (.int .i64 a0_1) := bc_ BK115 1
     have hcz35_2 : wr.cell? ⟨gb115, 2, none⟩ = some (.int .i64 a0_2) := bc_ BK115 2
     have hcz35_3 : wr.cell? ⟨gb115, 3, none⟩ = some (.int .i64 a0_3) := bc_ BK115 3
     have hcz35_4 : wr.cell? ⟨gb115, 4, none⟩ = some (.int .i64 a0_4) := bc_ BK115 4
     have hfz35_0 := blk_frozen BK115.out 0; have hfz35_1 := blk_frozen BK115.out 1; have hfz35_2 := blk_frozen BK115.out 2; have hfz35_3 := blk_frozen BK115.out 3; have hfz35_4 := blk_frozen BK115.out 4; have hnb36 := NB116_117.out; have hnc36 := NB117_116.out; have hnb37 := NB116_118.out; have hnc37 := NB118_116.out
     have hcz38_0 : wr.cell? ⟨gb116, 0, none⟩ = some (.int .i64 x117000_1) := bc_ BK116 0
     have hcz38_1 : wr.cell? ⟨gb116, 1, none⟩ = some (.int .i64 x117001_1) := bc_ BK116 1
     have hfz38_0 := blk_frozen BK116.out 0; have hfz38_1 := blk_frozen BK116.out 1
     go_wp2_with (first | ((with_reducible refine gate_callee (f := 149) rfl ?_); refine goesL_ (some 21) rfl rfl Try.func149 (by kernel_rfl) rfl #[.agg #[.int .i64 a0_0, .int .i64 a0_1, .int .i64 a0_2, .int .i64 a0_3, .int .i64 a0_4], .agg #[.int .i64 x117000_1, .int .i64 x117001_1], .agg #[.int .i64 x117000_1, .int .i64 x117001_1]] rfl (by (try simp only [List.map_toArray, List.map_cons, List.map_nil]); first | done | rfl | (simp only [List.length_drop, List.length_take]; rfl)) ?_; (with_reducible refine (spec_l4Add.calls k1 a0_0 a0_1 a0_2 a0_3 a0_4 x117000_1 x117001_1 x117000_1 x117001_1 t123 t124 _ A31.out).mono ?_); rintro e w39 ⟨rfl, hb⟩; refine ⟨_, rfl, ?_⟩; have n0_ := bb_ BK115 hb; have n1_ := bb_ BK116 hb; have n2_ := bb_ BK117 hb; have n3_ := bb_ BK118 hb; have n4_ := bs_ HB hb; clear BK115; clear BK116; clear BK117; clear BK118; clear HB; have BK115 := n0_; have BK116 := n1_; have BK117 := n2_; have BK118 := n3_; have HB := n4_; clear n0_ n1_ n2_ n3_ n4_; (try clear hb); (try clear hb2); (try clear hk); (try clear hi); have hcz40_0 : w39.cell? ⟨gb116, 0, none⟩ = some (.int .i64 x117000_1) := bc_ BK116 0; have hcz40_1 : w39.cell? ⟨gb116, 1, none⟩ = some (.int .i64 x117001_1) := bc_ BK116 1; have hfz40_0 := blk_frozen BK116.out 0; have hfz40_1 := blk_frozen BK116.out 1))
     go_roundg k1
     case measure => have := HK1.out; omega
     case rel => exact ⟨(wrap64 (Int.tdiv x1_1 2)), (t123), (t124), (x119000_1), (x119001_1), (by first | rfl | (simp; done) | (simp [*]; done)), H', ⟨by have := HK1.out; omega⟩, ⟨by (with_reducible repeat (first | refine blk_drewN ?_ _ | refine blk_drew ?_ | refine blk_alloc ?_ _)); refine blk_far ?_ NB115_116.out _; (with_reducible repeat (first | refine blk_drewN ?_ _ | refine blk_drew ?_ | refine blk_alloc ?_ _)); refine blk_far ?_ NB115_116.out _; (with_reducible repeat (first | refine blk_drewN ?_ _ | refine blk_drew ?_ | refine blk_alloc ?_ _)); exact BK115.out⟩, ⟨by (with_reducible repeat (first | refine blk_drewN ?_ _ | refine blk_drew ?_ | refine blk_alloc ?_ _)); refine blk_put (cs := #[.int .i64 t123, .int .i64 x117001_1]) ?_ 1 _ rfl; (with_reducible repeat (first | refine blk_drewN ?_ _ | refine blk_drew ?_ | refine blk_alloc ?_ _)); refine blk_put (cs := #[.int .i64 x117000_1, .int .i64 x117001_1]) ?_ 0 _ rfl; (with_reducible repeat (first | refine blk_drewN ?_ _ | refine blk_drew ?_ | refine blk_alloc ?_ _)); exact BK116.out⟩, ⟨by (with_reducible repeat (first | refine blk_drewN ?_ _ | refine blk_drew ?_ | refine blk_alloc ?_ _)); refine blk_far ?_ NB117_116.out _; (with_reducible repeat (first | refine blk_drewN ?_ _ | refine blk_drew ?_ | refine blk_alloc ?_ _)); refine blk_far ?_ NB117_116.out _; (with_reducible repeat (first | refine blk_drewN ?_ _ | refine blk_drew ?_ | refine blk_alloc ?_ _)); exact BK117.out⟩, ⟨by (with_reducible repeat (first | refine blk_drewN ?_ _ | refine blk_drew ?_ | refine blk_alloc ?_ _)); refine blk_far ?_ NB118_116.out _; (with_reducible repeat (first | refine blk_drewN ?_ _ | refine blk_drew ?_ | refine blk_alloc ?_ _)); refine blk_far ?_ NB118_116.out _; (with_reducible repeat (first | refine blk_drewN ?_ _ | refine blk_drew ?_ | refine blk_alloc ?_ _)); exact BK118.out⟩, ⟨by repeat (first | (with_reducible first | exact HB.out | apply below_alloc | apply pw_below_drewN | apply below_drew1 | refine below_set ?_ GE115.out | refine below_set ?_ GE116.out | refine below_set ?_ GE117.out | refine below_set ?_ GE118.out) | exact HB.out)⟩⟩
   ·
    rw [if_neg c12] at H
    have c12b0 : decide (0 < x1_1) = false := decide_eq_false c12
    clear c12
    simp only [Option.some.injEq, Prod.mk.injEq] at H
    obtain ⟨rfl, rfl⟩ := H; have hnb41 := NB118_115.out; have hnc41 := NB115_118.out; have hnb42 := NB118_116.out; have hnc42 := NB116_118.out; have hnb43 := NB118_117.out; have hnc43 := NB117_118.out
    have hcz44_0 : wr.cell? ⟨gb118, 0, none⟩ = some (.int .i64 x119000_1) := bc_ BK118 0
    have hcz44_1 : wr.cell? ⟨gb118, 1, none⟩ = some (.int .i64 x119001_1) := bc_ BK118 1
    have hfz44_0 := blk_frozen BK118.out 0; have hfz44_1 := blk_frozen BK118.out 1; have hnb45 := NB117_115.out; have hnc45 := NB115_117.out; have hnb46 := NB117_116.out; have hnc46 := NB116_117.out
    have hcz47_0 : wr.cell? ⟨gb117, 0, none⟩ = some (.int .i64 0) := bc_ BK117 0
    have hcz47_1 : wr.cell? ⟨gb117, 1, none⟩ = some (.int .i64 0) := bc_ BK117 1
    have hfz47_0 := blk_frozen BK117.out 0; have hfz47_1 := blk_frozen BK117.out 1
    go_wp2
    refine bodyPost_ret (results_cell_row rfl _ _ gb117 47 #[.int .i64 x119000_1, .int .i64 x119001_1] (0, 0) _ rfl (by (with_reducible repeat (first | refine blk_drewN ?_ _ | refine blk_drew ?_ | refine blk_alloc ?_ _)); refine blk_put (cs := #[.int .i64 x119000_1, .int .i64 0]) ?_ 1 _ rfl; (with_reducible repeat (first | refine blk_drewN ?_ _ | refine blk_drew ?_ | refine blk_alloc ?_ _)); refine blk_put (cs := #[.int .i64 0, .int .i64 0]) ?_ 0 _ rfl; (with_reducible repeat (first | refine blk_drewN ?_ _ | refine blk_drew ?_ | refine blk_alloc ?_ _)); exact BK117.out) Try.underlying47 rfl (by kernel_rfl)) rfl ?_; exact ⟨by first | rfl | (simp [errW_none, errW_some] <;> rfl) | (simp [*, errW_none, errW_some] <;> rfl), by repeat (first | (with_reducible first | exact HB.out | apply below_alloc | apply pw_below_drewN | apply below_drew1 | refine below_set ?_ GE115.out | refine below_set ?_ GE116.out | refine below_set ?_ GE117.out | refine below_set ?_ GE118.out) | exact HB.out)⟩

end Go.Proofs.Ytohplbcbkggjaac.PFnExactEdBytes
