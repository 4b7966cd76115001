-- Written for this claim by a program of this session.
import Derived.Test.YtadmkolopcdffaaPFnCurvesx0
import Derived.Test.YtadmkolopcdffaaPFnCurvesx1
namespace Go.Proofs.Ytadmkolopcdffaa.PFnCurves
open Go.RowKit Go.Proofs.YtadmkolopcdffaaW.PrintWords Go.Proofs.YtadmkolopcdffaaW.PrintLast Go.Proofs.YtadmkolopcdffaaW.PrintMore
attribute [local go_sem] max2_int min2_int max_two min_two max_three min_three max_four min_four   -- for this text's walks alone
set_option linter.unusedVariables false
set_option linter.unusedSimpArgs false

attribute [local go_sem high] eqA26
attribute [local go_sem] fld_
/-! ### impl_within: function 43 -/
def impl_within.f (a0 : Int) (a1 : Int) (a2 : Int) : Option (Bool) := if a0 ≥ a1 then (some (decide (a0 ≤ a2))) else (some false)
set_option maxHeartbeats 8000000 in
set_option maxRecDepth 100000 in
theorem impl_within.calls (a0 : Int) (a1 : Int) (a2 : Int) (r : Bool) (w : World) (h : impl_within.f a0 a1 a2 = some r) :
    Calls Try.prog 43 #[.int .i64 a0, .int .i64 a1, .int .i64 a2] w fun e w' => e = .returned (.bool r) ∧ Drawn0 w w' := by
  have H : (if a0 ≥ a1 then (some (decide (a0 ≤ a2))) else (some false)) = some r := h
  clear h
  by_cases c4 : a0 ≥ a1
  · rw [if_pos c4] at H
    have c4b0 : decide (a1 ≤ a0) = true := decide_eq_true c4
    clear c4
    obtain rfl := Option.some.inj H
    go_enter Try.func43, Try.ntmps43
    go_wp2
    go_ret
    exact ⟨by first | rfl | (simp; done) | (simp [*]; done), by repeat (first | exact Drawn0.refl _ | apply Drawn0.step)⟩
  · rw [if_neg c4] at H
    have c4b0 : decide (a1 ≤ a0) = false := decide_eq_false c4
    clear c4
    obtain rfl := Option.some.inj H
    go_enter Try.func43, Try.ntmps43
    go_wp2
    go_ret
    exact ⟨by first | rfl | (simp; done) | (simp [*]; done), by repeat (first | exact Drawn0.refl _ | apply Drawn0.step)⟩

attribute [local go_sem] fld_
/-! ### impl_Curve_isPoint: function 32 -/
def impl_Curve_isPoint.f (a0_0 : Int) (a0_1 : Int) (a0_2 : Int) (a0_3 : Int) (a0_4 : Int) (a0_5 : Int) (a1_0 : Int) (a1_1 : Int) (a1_2 : Bool) : Option (Bool) := if a1_2 = true then (if a1_0 = 0 then (some (a1_1 == 0)) else (some false)) else ((impl_within.f a1_0 0 (wrap64 (a0_0 - 1))).bind fun t103 => (if t103 = true then ((impl_within.f a1_1 0 (wrap64 (a0_0 - 1))).bind fun t104 => (if t104 = true then (if a0_0 = 0 then (none) else (some ((Int.tmod (wrap64 (a1_1 * a1_1)) a0_0) == (Int.tmod (wrap64 ((wrap64 ((Int.tmod (wrap64 ((wrap64 (a1_0 * a1_0)) + a0_1)) a0_0) * a1_0)) + a0_2)) a0_0)))) else (some false))) else (some false)))
def impl_Curve_isPoint.T3 : Bool × List (List Nat × List Nat) := (true, [([], []), ([0], [0]), ([], []), ([2], [2]), ([3], [3]), ([1, 4], [1, 4]), ([5, 5], [5]), ([6], [6]), ([7, 6], [6, 7]), ([6], [6]), ([9, 6], [6, 9]), ([10, 6], [6, 10]), ([8, 11, 6, 6], [6, 8, 11]), ([6, 12], [6, 12]), ([13, 12], [13]), ([14], [14]), ([15, 14], [14, 15]), ([14], [14]), ([17, 14], [14, 17]), ([16, 18, 14], [14, 16, 18]), ([14], [14]), ([20, 14], [14, 20]), ([19, 21, 14], [14, 19, 21]), ([14], [14]), ([23, 14], [14, 23]), ([14], [14]), ([25, 14], [14, 25]), ([24, 26, 14], [14, 24, 26]), ([14], [14]), ([28, 14], [14, 28]), ([27, 29, 14], [14, 27, 29]), ([14], [14]), ([31, 14], [14, 31]), ([30, 32, 14], [14, 30, 32]), ([14], [14]), ([34, 14], [14, 34]), ([33, 35, 14], [14, 33, 35]), ([14], [14]), ([37, 14], [14, 37]), ([36, 38, 14], [14, 36, 38]), ([14], [14]), ([40, 14], [14, 40]), ([39, 41, 14], [14, 39, 41]), ([22, 42, 14], [14, 22, 42]), ([14, 43], [14, 43]), ([44, 14, 0, 1, 2, 3, 4, 5, 6, 7, 8, 9, 10, 11, 12, 13, 14, 15, 16, 17, 18, 19, 20, 21, 22, 23, 24, 25, 26, 27, 28, 29, 30, 31, 32, 33, 34, 35, 36, 37, 38, 39, 40, 41, 42, 43, 44], [44])])
def impl_Curve_isPoint.B3 : List Nat := [0, 1, 0, 4, 12, 31, 63, 127, 255, 127, 639, 1663, 4095, 8191, 16383, 32767, 65535, 32767, 163839, 524287, 32767, 1081343, 4194303, 32767, 8421375, 32767, 33587199, 125861887, 32767, 268468223, 1065385983, 32767, 2147516415, 8581578751, 32767, 17179901951, 68711120895, 32767, 137438986239, 549747458047, 32767, 1099511660543, 4398038155263, 8796093022207, 17592186044415, 35184372088831]
theorem impl_Curve_isPoint.tab3 : rtab .any (opsOf Try.f32 3) = impl_Curve_isPoint.T3 := by kernel_rfl
theorem impl_Curve_isPoint.bits3 : waitsOk impl_Curve_isPoint.T3.2 impl_Curve_isPoint.B3 = true := by kernel_rfl
set_option maxHeartbeats 8000000 in
set_option maxRecDepth 100000 in
theorem impl_Curve_isPoint.calls (a0_0 : Int) (a0_1 : Int) (a0_2 : Int) (a0_3 : Int) (a0_4 : Int) (a0_5 : Int) (a1_0 : Int) (a1_1 : Int) (a1_2 : Bool) (r : Bool) (w : World) (h : impl_Curve_isPoint.f a0_0 a0_1 a0_2 a0_3 a0_4 a0_5 a1_0 a1_1 a1_2 = some r) :
  Calls Try.prog 32 #[.agg #[.int .i64 a0_0, .int .i64 a0_1, .int .i64 a0_2, .int .i64 a0_3, .int .i64 a0_4, .int .i64 a0_5], .agg #[.int .i64 a1_0, .int .i64 a1_1, .bool a1_2]] w fun e w' => e = .returned (.bool r) ∧ Below w.heap.size w w' := by
 have hu29 := Try.underlying29; have hu26 := Try.underlying26; have HB := Aside0.mk (Below.refl w.heap.size w)
 have H : (if a1_2 = true then (if a1_0 = 0 then (some (a1_1 == 0)) else (some false)) else ((impl_within.f a1_0 0 (wrap64 (a0_0 - 1))).bind fun t103 => (if t103 = true then ((impl_within.f a1_1 0 (wrap64 (a0_0 - 1))).bind fun t104 => (if t104 = true then (if a0_0 = 0 then (none) else (some ((Int.tmod (wrap64 (a1_1 * a1_1)) a0_0) == (Int.tmod (wrap64 ((wrap64 ((Int.tmod (wrap64 ((wrap64 (a1_0 * a1_0)) + a0_1)) a0_0) * a1_0)) + a0_2)) a0_0)))) else (some false))) else (some false)))) = some r := h
 clear h
 by_cases c3 : a1_2 = true
 ·
  subst c3; rw [if_pos rfl] at H
  by_cases c4 : a1_0 = 0
  ·
   rw [if_pos c4] at H
   have c4b0 : (a1_0 == 0) = true := beq_iff_eq.mpr c4
   have c4b1 : (a1_0 != 0) = false := bne_eq_false_iff_eq.mpr c4
   clear c4; obtain rfl := Option.some.inj H
   go_enter Try.func32, Try.ntmps32
   go_wp2_with (first | ((with_reducible refine gate_dst (N := 2) rfl ?_); refine box_event ?hg (N := 2) ?hd (cs := #[.int .i64 a0_0, .int .i64 a0_1, .int .i64 a0_2, .int .i64 a0_3, .int .i64 a0_4, .int .i64 a0_5]) (t := 29) ?hr ?_; (case hd => rfl); (case hg => rfl); (case hr => first | (go_simp; done) | (go_simp; rfl)); intro gb101 hg w5 hbox hb; have BK101 := Aside0.mk hbox; have GW101 := ge_ HB hg; have GE101 := ge_ HB hg; replace HB := bs_ HB hb; clear hb hbox hg) | ((with_reducible refine gate_dst (N := 3) rfl ?_); refine box_event ?hg (N := 3) ?hd (cs := #[.int .i64 a1_0, .int .i64 a1_1, .bool true]) (t := 26) ?hr ?_; (case hd => rfl); (case hg => rfl); (case hr => first | (go_simp; done) | (go_simp; rfl)); intro gb102 hg w6 hbox hb; have BK102 := Aside0.mk hbox; have GW102 := ge_ HB hg; have GE102 := ge_ HB hg; have NB101_102 := nl_ BK101 hg; have NB102_101 := nr_ BK101 hg; replace BK101 := bb_ BK101 hb; replace HB := bs_ HB hb; clear hb hbox hg; obtain ⟨hnb7, hnc7⟩ := nn_ NB102_101; obtain ⟨hcz8_0, hcz8_1, hcz8_2, hfz8_0, hfz8_1, hfz8_2⟩ := bx3_ BK102))
   go_ret
   exact ⟨by first | rfl | (simp [errW_none, errW_some] <;> rfl) | (simp [*, errW_none, errW_some] <;> rfl), by repeat (first | (with_reducible first | exact HB.out | apply below_alloc | apply pw_below_drewN | apply below_drew1 | refine below_set ?_ GE101.out | refine below_set ?_ GE102.out) | exact HB.out)⟩
  ·
   rw [if_neg c4] at H
   have c4b0 : (a1_0 == 0) = false := beq_eq_false_iff_ne.mpr c4
   have c4b1 : (a1_0 != 0) = true := bne_iff_ne.mpr c4
   obtain rfl := Option.some.inj H
   go_enter Try.func32, Try.ntmps32
   go_wp2_with (first | ((with_reducible refine gate_dst (N := 2) rfl ?_); refine box_event ?hg (N := 2) ?hd (cs := #[.int .i64 a0_0, .int .i64 a0_1, .int .i64 a0_2, .int .i64 a0_3, .int .i64 a0_4, .int .i64 a0_5]) (t := 29) ?hr ?_; (case hd => rfl); (case hg => rfl); (case hr => first | (go_simp; done) | (go_simp; rfl)); intro gb101 hg w9 hbox hb; have BK101 := Aside0.mk hbox; have GW101 := ge_ HB hg; have GE101 := ge_ HB hg; replace HB := bs_ HB hb; clear hb hbox hg) | ((with_reducible refine gate_dst (N := 3) rfl ?_); refine box_event ?hg (N := 3) ?hd (cs := #[.int .i64 a1_0, .int .i64 a1_1, .bool true]) (t := 26) ?hr ?_; (case hd => rfl); (case hg => rfl); (case hr => first | (go_simp; done) | (go_simp; rfl)); intro gb102 hg w10 hbox hb; have BK102 := Aside0.mk hbox; have GW102 := ge_ HB hg; have GE102 := ge_ HB hg; have NB101_102 := nl_ BK101 hg; have NB102_101 := nr_ BK101 hg; replace BK101 := bb_ BK101 hb; replace HB := bs_ HB hb; clear hb hbox hg; obtain ⟨hnb11, hnc11⟩ := nn_ NB102_101; obtain ⟨hcz12_0, hcz12_1, hcz12_2, hfz12_0, hfz12_1, hfz12_2⟩ := bx3_ BK102))
   go_ret
   exact ⟨by first | rfl | (simp [errW_none, errW_some] <;> rfl) | (simp [*, errW_none, errW_some] <;> rfl), by repeat (first | (with_reducible first | exact HB.out | apply below_alloc | apply pw_below_drewN | apply below_drew1 | refine below_set ?_ GE101.out | refine below_set ?_ GE102.out) | exact HB.out)⟩
 ·
  replace c3 := Bool.eq_false_iff.mpr c3; subst c3
  rw [if_neg (show ¬ (false = true) by decide)] at H; obtain ⟨t103, A130, H⟩ := pb_ H
  have A13 := Aside0.mk A130; clear A130
  by_cases c14 : t103 = true
  ·
   subst c14
   rw [if_pos rfl] at H; obtain ⟨t104, A150, H⟩ := pb_ H
   have A15 := Aside0.mk A150; clear A150
   by_cases c16 : t104 = true
   ·
    subst c16; rw [if_pos rfl] at H
    by_cases c17 : a0_0 = 0
    · rw [if_pos c17] at H; exact absurd H (by simp)
    ·
     rw [if_neg c17] at H
     have c17b0 : (a0_0 == 0) = false := beq_eq_false_iff_ne.mpr c17
     have c17b1 : (a0_0 != 0) = true := bne_iff_ne.mpr c17
     obtain rfl := Option.some.inj H
     go_enter Try.func32, Try.ntmps32
     try go_wp2_with (first | ((with_reducible refine gate_dst (N := 2) rfl ?_); refine box_event ?hg (N := 2) ?hd (cs := #[.int .i64 a0_0, .int .i64 a0_1, .int .i64 a0_2, .int .i64 a0_3, .int .i64 a0_4, .int .i64 a0_5]) (t := 29) ?hr ?_; (case hd => rfl); (case hg => rfl); (case hr => first | (go_simp; done) | (go_simp; rfl)); intro gb101 hg w18 hbox hb; have BK101 := Aside0.mk hbox; have GW101 := ge_ HB hg; have GE101 := ge_ HB hg; replace HB := bs_ HB hb; clear hb hbox hg) | ((with_reducible refine gate_dst (N := 3) rfl ?_); refine box_event ?hg (N := 3) ?hd (cs := #[.int .i64 a1_0, .int .i64 a1_1, .bool false]) (t := 26) ?hr ?_; (case hd => rfl); (case hg => rfl); (case hr => first | (go_simp; done) | (go_simp; rfl)); intro gb102 hg w19 hbox hb; have BK102 := Aside0.mk hbox; have GW102 := ge_ HB hg; have GE102 := ge_ HB hg; have NB101_102 := nl_ BK101 hg; have NB102_101 := nr_ BK101 hg; replace BK101 := bb_ BK101 hb; replace HB := bs_ HB hb; clear hb hbox hg; obtain ⟨hnb20, hnc20⟩ := nn_ NB102_101; obtain ⟨hcz21_0, hcz21_1, hcz21_2, hfz21_0, hfz21_1, hfz21_2⟩ := bx3_ BK102))
     replace BK101 := Aside0.mk (blk_drew BK101.out); replace BK102 := Aside0.mk (blk_drew BK102.out); replace HB := Aside0.mk (below_drew1 HB.out); refine start_ (n := 46) (S := fun w' => w'.cell? ⟨gb102, 0, none⟩ = some (.int .i64 a1_0) ∧ w'.cell? ⟨gb102, 1, none⟩ = some (.int .i64 a1_1) ∧ w'.cell? ⟨gb102, 2, none⟩ = some (.bool false) ∧ w'.cell? ⟨gb101, 0, none⟩ = some (.int .i64 a0_0) ∧ w'.cell? ⟨gb101, 1, none⟩ = some (.int .i64 a0_1) ∧ w'.cell? ⟨gb101, 2, none⟩ = some (.int .i64 a0_2) ∧ w'.cell? ⟨gb101, 3, none⟩ = some (.int .i64 a0_3) ∧ w'.cell? ⟨gb101, 4, none⟩ = some (.int .i64 a0_4) ∧ w'.cell? ⟨gb101, 5, none⟩ = some (.int .i64 a0_5)) (ds := []) (bl_ 46 0) (by kernel_rfl) rfl rfl ⟨bc_ BK102 0, bc_ BK102 1, bc_ BK102 2, bc_ BK101 0, bc_ BK101 1, bc_ BK101 2, bc_ BK101 3, bc_ BK101 4, bc_ BK101 5⟩ (fun hHeld => ?_); refine with_tabW impl_Curve_isPoint.tab3 impl_Curve_isPoint.bits3 (fun HT_ HW_ => ?_)
     generalize w19.drew = w22 at BK101 BK102 HB hHeld ⊢
     refine pu_ 0 15 (bl_ 46 1) rfl rfl HT_ ?_; refine pu_ 2 17 (bl_ 46 5) rfl rfl HT_ ?_; refine tk_ 1 16 (bl_ 46 7) rfl rfl HT_ HW_ hHeld (by rintro w' ⟨s0, s1, s2, s3, s4, s5, s6, s7, s8⟩; go_simp; with_reducible rfl) ?_; refine tk_ 3 18 (bl_ 46 15) rfl rfl HT_ HW_ hHeld (by rintro w' ⟨s0, s1, s2, s3, s4, s5, s6, s7, s8⟩; go_simp; with_reducible rfl) ?_; refine pu_ 4 19 (bl_ 46 31) rfl rfl HT_ ?_; refine one_ (i := 5) (N := some 20) (bl_ 46 63) rfl rfl (one_of HT_.out (by kernel_rfl)) (by decide) (fun K hK => ?_); refine gs_ Try.func43 #[.int .i64 a1_0, .int .i64 0, .int .i64 (wrap64 (a0_0 - 1))] ?_
     with_reducible refine (impl_within.calls a1_0 0 (wrap64 (a0_0 - 1)) true _ A13.out).mono ?_
     rintro e w' ⟨rfl, ⟨nd, rfl⟩⟩; refine ⟨_, rfl, ?_⟩; refine hK.out _ _ ⟨bc_ BK102 0, bc_ BK102 1, bc_ BK102 2, bc_ BK101 0, bc_ BK101 1, bc_ BK101 2, bc_ BK101 3, bc_ BK101 4, bc_ BK101 5⟩ (fun hHeld => ?_); clear hK K
     apply norm_
     · show Act.put _ (some 20) _ = _; simp only [Act.put, sA_, sZ_, sS_, i64_w, i32_w]; rfl
     refine pu_ 6 21 (bl_ 46 127) rfl rfl HT_ ?_; refine pu_ 7 22 (bl_ 46 255) rfl rfl HT_ ?_; refine pu_ 9 24 (bl_ 46 767) rfl rfl HT_ ?_; refine tk_ 8 23 (bl_ 46 1023) rfl rfl HT_ HW_ hHeld (by rintro w' ⟨s0, s1, s2, s3, s4, s5, s6, s7, s8⟩; go_simp; with_reducible rfl) ?_; refine tk_ 10 25 (bl_ 46 2047) rfl rfl HT_ HW_ hHeld (by rintro w' ⟨s0, s1, s2, s3, s4, s5, s6, s7, s8⟩; go_simp; with_reducible rfl) ?_; refine pu_ 11 26 (bl_ 46 4095) rfl rfl HT_ ?_; refine one_ (i := 12) (N := some 27) (bl_ 46 8191) rfl rfl (one_of HT_.out (by kernel_rfl)) (by decide) (fun K hK => ?_); refine gs_ Try.func43 #[.int .i64 a1_1, .int .i64 0, .int .i64 (wrap64 (a0_0 - 1))] ?_
     with_reducible refine (impl_within.calls a1_1 0 (wrap64 (a0_0 - 1)) true _ A15.out).mono ?_
     rintro e w' ⟨rfl, ⟨nd, rfl⟩⟩; refine ⟨_, rfl, ?_⟩; refine hK.out _ _ ⟨bc_ BK102 0, bc_ BK102 1, bc_ BK102 2, bc_ BK101 0, bc_ BK101 1, bc_ BK101 2, bc_ BK101 3, bc_ BK101 4, bc_ BK101 5⟩ (fun hHeld => ?_); clear hK K
     apply norm_
     · show Act.put _ (some 27) _ = _; simp only [Act.put, sA_, sZ_, sS_, i64_w, i32_w]; rfl
     refine pu_ 13 28 (bl_ 46 16383) rfl rfl HT_ ?_; refine pu_ 14 29 (bl_ 46 32767) rfl rfl HT_ ?_; refine pu_ 15 30 (bl_ 46 65535) rfl rfl HT_ ?_; refine pu_ 17 32 (bl_ 46 196607) rfl rfl HT_ ?_; refine pu_ 20 35 (bl_ 46 1245183) rfl rfl HT_ ?_; refine pu_ 23 38 (bl_ 46 9633791) rfl rfl HT_ ?_; refine pu_ 25 40 (bl_ 46 43188223) rfl rfl HT_ ?_; refine pu_ 28 43 (bl_ 46 311623679) rfl rfl HT_ ?_; refine pu_ 31 46 (bl_ 46 2459107327) rfl rfl HT_ ?_; refine pu_ 34 49 (bl_ 46 19638976511) rfl rfl HT_ ?_; refine pu_ 37 52 (bl_ 46 157077929983) rfl rfl HT_ ?_; refine pu_ 40 55 (bl_ 46 1256589557759) rfl rfl HT_ ?_; refine tk_ 16 31 (bl_ 46 1256589623295) rfl rfl HT_ HW_ hHeld (by rintro w' ⟨s0, s1, s2, s3, s4, s5, s6, s7, s8⟩; go_simp; with_reducible rfl) ?_; refine tk_ 18 33 (bl_ 46 1256589885439) rfl rfl HT_ HW_ hHeld (by rintro w' ⟨s0, s1, s2, s3, s4, s5, s6, s7, s8⟩; go_simp; with_reducible rfl) ?_; refine pu_ 19 34 (bl_ 46 1256590409727) rfl rfl HT_ ?_; refine tk_ 21 36 (bl_ 46 1256592506879) rfl rfl HT_ HW_ hHeld (by rintro w' ⟨s0, s1, s2, s3, s4, s5, s6, s7, s8⟩; go_simp; with_reducible rfl) ?_; refine pu_ 22 37 (bl_ 46 1256596701183) rfl rfl HT_ ?_; refine tk_ 24 39 (bl_ 46 1256613478399) rfl rfl HT_ HW_ hHeld (by rintro w' ⟨s0, s1, s2, s3, s4, s5, s6, s7, s8⟩; go_simp; with_reducible rfl) ?_; refine tk_ 26 41 (bl_ 46 1256680587263) rfl rfl HT_ HW_ hHeld (by rintro w' ⟨s0, s1, s2, s3, s4, s5, s6, s7, s8⟩; go_simp; with_reducible rfl) ?_; refine pu_ 27 42 (bl_ 46 1256814804991) rfl rfl HT_ ?_; refine tk_ 29 44 (bl_ 46 1257351675903) rfl rfl HT_ HW_ hHeld (by rintro w' ⟨s0, s1, s2, s3, s4, s5, s6, s7, s8⟩; go_simp; with_reducible rfl) ?_; refine pu_ 30 45 (bl_ 46 1258425417727) rfl rfl HT_ ?_; refine tk_ 32 47 (bl_ 46 1262720385023) rfl rfl HT_ HW_ hHeld (by rintro w' ⟨s0, s1, s2, s3, s4, s5, s6, s7, s8⟩; go_simp; with_reducible rfl) ?_; refine pu_ 33 48 (bl_ 46 1271310319615) rfl rfl HT_ ?_; refine tk_ 35 50 (bl_ 46 1305670057983) rfl rfl HT_ HW_ hHeld (by rintro w' ⟨s0, s1, s2, s3, s4, s5, s6, s7, s8⟩; go_simp; with_reducible rfl) ?_; refine pu_ 36 51 (bl_ 46 1374389534719) rfl rfl HT_ ?_; refine tk_ 38 53 (bl_ 46 1649267441663) rfl rfl HT_ HW_ hHeld (by rintro w' ⟨s0, s1, s2, s3, s4, s5, s6, s7, s8⟩; go_simp; with_reducible rfl) ?_; refine pu_ 39 54 (bl_ 46 2199023255551) rfl rfl HT_ ?_; refine tk_ 41 56 (bl_ 46 4398046511103) rfl rfl HT_ HW_ hHeld (by rintro w' ⟨s0, s1, s2, s3, s4, s5, s6, s7, s8⟩; go_simp; with_reducible rfl) ?_; refine pu_ 42 57 (bl_ 46 8796093022207) rfl rfl HT_ ?_; refine pu_ 43 58 (bl_ 46 17592186044415) rfl rfl HT_ ?_; refine pu_ 44 59 (bl_ 46 35184372088831) rfl rfl HT_ ?_; refine pu_ 45 4 (bl_ 46 70368744177663) rfl rfl HT_ ?_; refine done_ (done_of HT_.out (by kernel_rfl)) ?_
     try go_wp2
     go_ret
     exact ⟨by first | rfl | (simp [errW_none, errW_some] <;> rfl) | (simp [*, errW_none, errW_some] <;> rfl), by repeat (first | (with_reducible first | exact HB.out | apply below_alloc | apply pw_below_drewN | apply below_drew1 | refine below_set ?_ GE101.out | refine below_set ?_ GE102.out) | exact HB.out)⟩
   ·
    replace c16 := Bool.eq_false_iff.mpr c16; subst c16
    rw [if_neg (show ¬ (false = true) by decide)] at H; obtain rfl := Option.some.inj H
    go_enter Try.func32, Try.ntmps32
    try go_wp2_with (first | ((with_reducible refine gate_dst (N := 2) rfl ?_); refine box_event ?hg (N := 2) ?hd (cs := #[.int .i64 a0_0, .int .i64 a0_1, .int .i64 a0_2, .int .i64 a0_3, .int .i64 a0_4, .int .i64 a0_5]) (t := 29) ?hr ?_; (case hd => rfl); (case hg => rfl); (case hr => first | (go_simp; done) | (go_simp; rfl)); intro gb101 hg w23 hbox hb; have BK101 := Aside0.mk hbox; have GW101 := ge_ HB hg; have GE101 := ge_ HB hg; replace HB := bs_ HB hb; clear hb hbox hg) | ((with_reducible refine gate_dst (N := 3) rfl ?_); refine box_event ?hg (N := 3) ?hd (cs := #[.int .i64 a1_0, .int .i64 a1_1, .bool false]) (t := 26) ?hr ?_; (case hd => rfl); (case hg => rfl); (case hr => first | (go_simp; done) | (go_simp; rfl)); intro gb102 hg w24 hbox hb; have BK102 := Aside0.mk hbox; have GW102 := ge_ HB hg; have GE102 := ge_ HB hg; have NB101_102 := nl_ BK101 hg; have NB102_101 := nr_ BK101 hg; replace BK101 := bb_ BK101 hb; replace HB := bs_ HB hb; clear hb hbox hg; obtain ⟨hnb25, hnc25⟩ := nn_ NB102_101; obtain ⟨hcz26_0, hcz26_1, hcz26_2, hfz26_0, hfz26_1, hfz26_2⟩ := bx3_ BK102))
    replace BK101 := Aside0.mk (blk_drew BK101.out); replace BK102 := Aside0.mk (blk_drew BK102.out); replace HB := Aside0.mk (below_drew1 HB.out); refine start_ (n := 46) (S := fun w' => w'.cell? ⟨gb102, 0, none⟩ = some (.int .i64 a1_0) ∧ w'.cell? ⟨gb102, 1, none⟩ = some (.int .i64 a1_1) ∧ w'.cell? ⟨gb102, 2, none⟩ = some (.bool false) ∧ w'.cell? ⟨gb101, 0, none⟩ = some (.int .i64 a0_0) ∧ w'.cell? ⟨gb101, 1, none⟩ = some (.int .i64 a0_1) ∧ w'.cell? ⟨gb101, 2, none⟩ = some (.int .i64 a0_2) ∧ w'.cell? ⟨gb101, 3, none⟩ = some (.int .i64 a0_3) ∧ w'.cell? ⟨gb101, 4, none⟩ = some (.int .i64 a0_4) ∧ w'.cell? ⟨gb101, 5, none⟩ = some (.int .i64 a0_5)) (ds := []) (bl_ 46 0) (by kernel_rfl) rfl rfl ⟨bc_ BK102 0, bc_ BK102 1, bc_ BK102 2, bc_ BK101 0, bc_ BK101 1, bc_ BK101 2, bc_ BK101 3, bc_ BK101 4, bc_ BK101 5⟩ (fun hHeld => ?_); refine with_tabW impl_Curve_isPoint.tab3 impl_Curve_isPoint.bits3 (fun HT_ HW_ => ?_)
    generalize w24.drew = w27 at BK101 BK102 HB hHeld ⊢
    refine pu_ 0 15 (bl_ 46 1) rfl rfl HT_ ?_; refine pu_ 2 17 (bl_ 46 5) rfl rfl HT_ ?_; refine tk_ 1 16 (bl_ 46 7) rfl rfl HT_ HW_ hHeld (by rintro w' ⟨s0, s1, s2, s3, s4, s5, s6, s7, s8⟩; go_simp; with_reducible rfl) ?_; refine tk_ 3 18 (bl_ 46 15) rfl rfl HT_ HW_ hHeld (by rintro w' ⟨s0, s1, s2, s3, s4, s5, s6, s7, s8⟩; go_simp; with_reducible rfl) ?_; refine pu_ 4 19 (bl_ 46 31) rfl rfl HT_ ?_; refine one_ (i := 5) (N := some 20) (bl_ 46 63) rfl rfl (one_of HT_.out (by kernel_rfl)) (by decide) (fun K hK => ?_); refine gs_ Try.func43 #[.int .i64 a1_0, .int .i64 0, .int .i64 (wrap64 (a0_0 - 1))] ?_
    with_reducible refine (impl_within.calls a1_0 0 (wrap64 (a0_0 - 1)) true _ A13.out).mono ?_
    rintro e w' ⟨rfl, ⟨nd, rfl⟩⟩; refine ⟨_, rfl, ?_⟩; refine hK.out _ _ ⟨bc_ BK102 0, bc_ BK102 1, bc_ BK102 2, bc_ BK101 0, bc_ BK101 1, bc_ BK101 2, bc_ BK101 3, bc_ BK101 4, bc_ BK101 5⟩ (fun hHeld => ?_); clear hK K
    apply norm_
    · show Act.put _ (some 20) _ = _; simp only [Act.put, sA_, sZ_, sS_, i64_w, i32_w]; rfl
    refine pu_ 6 21 (bl_ 46 127) rfl rfl HT_ ?_; refine pu_ 7 22 (bl_ 46 255) rfl rfl HT_ ?_; refine pu_ 9 24 (bl_ 46 767) rfl rfl HT_ ?_; refine tk_ 8 23 (bl_ 46 1023) rfl rfl HT_ HW_ hHeld (by rintro w' ⟨s0, s1, s2, s3, s4, s5, s6, s7, s8⟩; go_simp; with_reducible rfl) ?_; refine tk_ 10 25 (bl_ 46 2047) rfl rfl HT_ HW_ hHeld (by rintro w' ⟨s0, s1, s2, s3, s4, s5, s6, s7, s8⟩; go_simp; with_reducible rfl) ?_; refine pu_ 11 26 (bl_ 46 4095) rfl rfl HT_ ?_; refine one_ (i := 12) (N := some 27) (bl_ 46 8191) rfl rfl (one_of HT_.out (by kernel_rfl)) (by decide) (fun K hK => ?_); refine gs_ Try.func43 #[.int .i64 a1_1, .int .i64 0, .int .i64 (wrap64 (a0_0 - 1))] ?_
    with_reducible refine (impl_within.calls a1_1 0 (wrap64 (a0_0 - 1)) false _ A15.out).mono ?_
    rintro e w' ⟨rfl, ⟨nd, rfl⟩⟩; refine ⟨_, rfl, ?_⟩; refine hK.out _ _ ⟨bc_ BK102 0, bc_ BK102 1, bc_ BK102 2, bc_ BK101 0, bc_ BK101 1, bc_ BK101 2, bc_ BK101 3, bc_ BK101 4, bc_ BK101 5⟩ (fun hHeld => ?_); clear hK K
    apply norm_
    · show Act.put _ (some 27) _ = _; simp only [Act.put, sA_, sZ_, sS_, i64_w, i32_w]; rfl
    refine pu_ 13 28 (bl_ 46 16383) rfl rfl HT_ ?_; refine pu_ 14 29 (bl_ 46 32767) rfl rfl HT_ ?_; refine pz_ 15 30 (bl_ 46 65535) rfl rfl HT_ ?_; refine pz_ 16 31 (bl_ 46 131071) rfl rfl HT_ ?_; refine pz_ 17 32 (bl_ 46 262143) rfl rfl HT_ ?_; refine pz_ 18 33 (bl_ 46 524287) rfl rfl HT_ ?_; refine pz_ 19 34 (bl_ 46 1048575) rfl rfl HT_ ?_; refine pz_ 20 35 (bl_ 46 2097151) rfl rfl HT_ ?_; refine pz_ 21 36 (bl_ 46 4194303) rfl rfl HT_ ?_; refine pz_ 22 37 (bl_ 46 8388607) rfl rfl HT_ ?_; refine pz_ 23 38 (bl_ 46 16777215) rfl rfl HT_ ?_; refine pz_ 24 39 (bl_ 46 33554431) rfl rfl HT_ ?_; refine pz_ 25 40 (bl_ 46 67108863) rfl rfl HT_ ?_; refine pz_ 26 41 (bl_ 46 134217727) rfl rfl HT_ ?_; refine pz_ 27 42 (bl_ 46 268435455) rfl rfl HT_ ?_; refine pz_ 28 43 (bl_ 46 536870911) rfl rfl HT_ ?_; refine pz_ 29 44 (bl_ 46 1073741823) rfl rfl HT_ ?_; refine pz_ 30 45 (bl_ 46 2147483647) rfl rfl HT_ ?_; refine pz_ 31 46 (bl_ 46 4294967295) rfl rfl HT_ ?_; refine pz_ 32 47 (bl_ 46 8589934591) rfl rfl HT_ ?_; refine pz_ 33 48 (bl_ 46 17179869183) rfl rfl HT_ ?_; refine pz_ 34 49 (bl_ 46 34359738367) rfl rfl HT_ ?_; refine pz_ 35 50 (bl_ 46 68719476735) rfl rfl HT_ ?_; refine pz_ 36 51 (bl_ 46 137438953471) rfl rfl HT_ ?_; refine pz_ 37 52 (bl_ 46 274877906943) rfl rfl HT_ ?_; refine pz_ 38 53 (bl_ 46 549755813887) rfl rfl HT_ ?_; refine pz_ 39 54 (bl_ 46 1099511627775) rfl rfl HT_ ?_; refine pz_ 40 55 (bl_ 46 2199023255551) rfl rfl HT_ ?_; refine pz_ 41 56 (bl_ 46 4398046511103) rfl rfl HT_ ?_; refine pz_ 42 57 (bl_ 46 8796093022207) rfl rfl HT_ ?_; refine pz_ 43 58 (bl_ 46 17592186044415) rfl rfl HT_ ?_; refine pu_ 44 59 (bl_ 46 35184372088831) rfl rfl HT_ ?_; refine pu_ 45 4 (bl_ 46 70368744177663) rfl rfl HT_ ?_; refine done_ (done_of HT_.out (by kernel_rfl)) ?_
    try go_wp2
    go_ret
    exact ⟨by first | rfl | (simp [errW_none, errW_some] <;> rfl) | (simp [*, errW_none, errW_some] <;> rfl), by repeat (first | (with_reducible first | exact HB.out | apply below_alloc | apply pw_below_drewN | apply below_drew1 | refine below_set ?_ GE101.out | refine below_set ?_ GE102.out) | exact HB.out)⟩
  ·
   replace c14 := Bool.eq_false_iff.mpr c14; subst c14
   rw [if_neg (show ¬ (false = true) by decide)] at H; obtain rfl := Option.some.inj H
   go_enter Try.func32, Try.ntmps32
   try go_wp2_with (first | ((with_reducible refine gate_dst (N := 2) rfl ?_); refine box_event ?hg (N := 2) ?hd (cs := #[.int .i64 a0_0, .int .i64 a0_1, .int .i64 a0_2, .int .i64 a0_3, .int .i64 a0_4, .int .i64 a0_5]) (t := 29) ?hr ?_; (case hd => rfl); (case hg => rfl); (case hr => first | (go_simp; done) | (go_simp; rfl)); intro gb101 hg w28 hbox hb; have BK101 := Aside0.mk hbox; have GW101 := ge_ HB hg; have GE101 := ge_ HB hg; replace HB := bs_ HB hb; clear hb hbox hg) | ((with_reducible refine gate_dst (N := 3) rfl ?_); refine box_event ?hg (N := 3) ?hd (cs := #[.int .i64 a1_0, .int .i64 a1_1, .bool false]) (t := 26) ?hr ?_; (case hd => rfl); (case hg => rfl); (case hr => first | (go_simp; done) | (go_simp; rfl)); intro gb102 hg w29 hbox hb; have BK102 := Aside0.mk hbox; have GW102 := ge_ HB hg; have GE102 := ge_ HB hg; have NB101_102 := nl_ BK101 hg; have NB102_101 := nr_ BK101 hg; replace BK101 := bb_ BK101 hb; replace HB := bs_ HB hb; clear hb hbox hg; obtain ⟨hnb30, hnc30⟩ := nn_ NB102_101; obtain ⟨hcz31_0, hcz31_1, hcz31_2, hfz31_0, hfz31_1, hfz31_2⟩ := bx3_ BK102))
   replace BK101 := Aside0.mk (blk_drew BK101.out); replace BK102 := Aside0.mk (blk_drew BK102.out); replace HB := Aside0.mk (below_drew1 HB.out); refine start_ (n := 46) (S := fun w' => w'.cell? ⟨gb102, 0, none⟩ = some (.int .i64 a1_0) ∧ w'.cell? ⟨gb102, 1, none⟩ = some (.int .i64 a1_1) ∧ w'.cell? ⟨gb102, 2, none⟩ = some (.bool false) ∧ w'.cell? ⟨gb101, 0, none⟩ = some (.int .i64 a0_0) ∧ w'.cell? ⟨gb101, 1, none⟩ = some (.int .i64 a0_1) ∧ w'.cell? ⟨gb101, 2, none⟩ = some (.int .i64 a0_2) ∧ w'.cell? ⟨gb101, 3, none⟩ = some (.int .i64 a0_3) ∧ w'.cell? ⟨gb101, 4, none⟩ = some (.int .i64 a0_4) ∧ w'.cell? ⟨gb101, 5, none⟩ = some (.int .i64 a0_5)) (ds := []) (bl_ 46 0) (by kernel_rfl) rfl rfl ⟨bc_ BK102 0, bc_ BK102 1, bc_ BK102 2, bc_ BK101 0, bc_ BK101 1, bc_ BK101 2, bc_ BK101 3, bc_ BK101 4, bc_ BK101 5⟩ (fun hHeld => ?_); refine with_tabW impl_Curve_isPoint.tab3 impl_Curve_isPoint.bits3 (fun HT_ HW_ => ?_)
   generalize w29.drew = w32 at BK101 BK102 HB hHeld ⊢
   refine pu_ 0 15 (bl_ 46 1) rfl rfl HT_ ?_; refine pu_ 2 17 (bl_ 46 5) rfl rfl HT_ ?_; refine tk_ 1 16 (bl_ 46 7) rfl rfl HT_ HW_ hHeld (by rintro w' ⟨s0, s1, s2, s3, s4, s5, s6, s7, s8⟩; go_simp; with_reducible rfl) ?_; refine tk_ 3 18 (bl_ 46 15) rfl rfl HT_ HW_ hHeld (by rintro w' ⟨s0, s1, s2, s3, s4, s5, s6, s7, s8⟩; go_simp; with_reducible rfl) ?_; refine pu_ 4 19 (bl_ 46 31) rfl rfl HT_ ?_; refine one_ (i := 5) (N := some 20) (bl_ 46 63) rfl rfl (one_of HT_.out (by kernel_rfl)) (by decide) (fun K hK => ?_); refine gs_ Try.func43 #[.int .i64 a1_0, .int .i64 0, .int .i64 (wrap64 (a0_0 - 1))] ?_
   with_reducible refine (impl_within.calls a1_0 0 (wrap64 (a0_0 - 1)) false _ A13.out).mono ?_
   rintro e w' ⟨rfl, ⟨nd, rfl⟩⟩; refine ⟨_, rfl, ?_⟩; refine hK.out _ _ ⟨bc_ BK102 0, bc_ BK102 1, bc_ BK102 2, bc_ BK101 0, bc_ BK101 1, bc_ BK101 2, bc_ BK101 3, bc_ BK101 4, bc_ BK101 5⟩ (fun hHeld => ?_); clear hK K
   apply norm_
   · show Act.put _ (some 20) _ = _; simp only [Act.put, sA_, sZ_, sS_, i64_w, i32_w]; rfl
   refine pu_ 6 21 (bl_ 46 127) rfl rfl HT_ ?_; refine pz_ 7 22 (bl_ 46 255) rfl rfl HT_ ?_; refine pz_ 8 23 (bl_ 46 511) rfl rfl HT_ ?_; refine pz_ 9 24 (bl_ 46 1023) rfl rfl HT_ ?_; refine pz_ 10 25 (bl_ 46 2047) rfl rfl HT_ ?_; refine pz_ 11 26 (bl_ 46 4095) rfl rfl HT_ ?_; refine pz_ 12 27 (bl_ 46 8191) rfl rfl HT_ ?_; refine pu_ 13 28 (bl_ 46 16383) rfl rfl HT_ ?_; refine pu_ 14 29 (bl_ 46 32767) rfl rfl HT_ ?_; refine pz_ 15 30 (bl_ 46 65535) rfl rfl HT_ ?_; refine pz_ 16 31 (bl_ 46 131071) rfl rfl HT_ ?_; refine pz_ 17 32 (bl_ 46 262143) rfl rfl HT_ ?_; refine pz_ 18 33 (bl_ 46 524287) rfl rfl HT_ ?_; refine pz_ 19 34 (bl_ 46 1048575) rfl rfl HT_ ?_; refine pz_ 20 35 (bl_ 46 2097151) rfl rfl HT_ ?_; refine pz_ 21 36 (bl_ 46 4194303) rfl rfl HT_ ?_; refine pz_ 22 37 (bl_ 46 8388607) rfl rfl HT_ ?_; refine pz_ 23 38 (bl_ 46 16777215) rfl rfl HT_ ?_; refine pz_ 24 39 (bl_ 46 33554431) rfl rfl HT_ ?_; refine pz_ 25 40 (bl_ 46 67108863) rfl rfl HT_ ?_; refine pz_ 26 41 (bl_ 46 134217727) rfl rfl HT_ ?_; refine pz_ 27 42 (bl_ 46 268435455) rfl rfl HT_ ?_; refine pz_ 28 43 (bl_ 46 536870911) rfl rfl HT_ ?_; refine pz_ 29 44 (bl_ 46 1073741823) rfl rfl HT_ ?_; refine pz_ 30 45 (bl_ 46 2147483647) rfl rfl HT_ ?_; refine pz_ 31 46 (bl_ 46 4294967295) rfl rfl HT_ ?_; refine pz_ 32 47 (bl_ 46 8589934591) rfl rfl HT_ ?_; refine pz_ 33 48 (bl_ 46 17179869183) rfl rfl HT_ ?_; refine pz_ 34 49 (bl_ 46 34359738367) rfl rfl HT_ ?_; refine pz_ 35 50 (bl_ 46 68719476735) rfl rfl HT_ ?_; refine pz_ 36 51 (bl_ 46 137438953471) rfl rfl HT_ ?_; refine pz_ 37 52 (bl_ 46 274877906943) rfl rfl HT_ ?_; refine pz_ 38 53 (bl_ 46 549755813887) rfl rfl HT_ ?_; refine pz_ 39 54 (bl_ 46 1099511627775) rfl rfl HT_ ?_; refine pz_ 40 55 (bl_ 46 2199023255551) rfl rfl HT_ ?_; refine pz_ 41 56 (bl_ 46 4398046511103) rfl rfl HT_ ?_; refine pz_ 42 57 (bl_ 46 8796093022207) rfl rfl HT_ ?_; refine pz_ 43 58 (bl_ 46 17592186044415) rfl rfl HT_ ?_; refine pu_ 44 59 (bl_ 46 35184372088831) rfl rfl HT_ ?_; refine pu_ 45 4 (bl_ 46 70368744177663) rfl rfl HT_ ?_; refine done_ (done_of HT_.out (by kernel_rfl)) ?_
   try go_wp2
   go_ret
   exact ⟨by first | rfl | (simp [errW_none, errW_some] <;> rfl) | (simp [*, errW_none, errW_some] <;> rfl), by repeat (first | (with_reducible first | exact HB.out | apply below_alloc | apply pw_below_drewN | apply below_drew1 | refine below_set ?_ GE101.out | refine below_set ?_ GE102.out) | exact HB.out)⟩

attribute [local go_sem] fld_
/-! ### impl_PrimeInt: function 44 -/
def impl_PrimeInt.l0 : Nat → Int → Int → Option (Bool)
  | 0, _, _ => none
  | k + 1, x0, x3 => if (wrap64 (x3 * x3)) ≤ x0 then (if x3 = 0 then (none) else (if (Int.tmod x0 x3) = 0 then (some false) else (impl_PrimeInt.l0 k x0 (wrap64 (x3 + 1))))) else (some true)
def impl_PrimeInt.f (k : Nat) (a0 : Int) : Option (Bool) := (impl_within.f a0 2 1099511627776).bind fun t105 => (if t105 = true then (impl_PrimeInt.l0 k a0 2) else (some false))
theorem impl_PrimeInt.mono_l : ∀ k, (∀ y0 y1, LeO (impl_PrimeInt.l0 k y0 y1) (impl_PrimeInt.l0 (k + 1) y0 y1))
  | 0 => fun _ _ r h => by simp [impl_PrimeInt.l0] at h
  | k + 1 => by
    have ih0 := impl_PrimeInt.mono_l k
    · intro y0 y1
      unfold impl_PrimeInt.l0
      repeat' first
      | (with_reducible exact ih0 _ _)
      | (with_reducible exact LeO.refl _)
      | (with_reducible exact LeO.none _)
      | (with_reducible refine LeO.ite ?_ ?_)
      | (with_reducible refine LeO.bind ?_ (fun _ => ?_))
      | exact ih0 _ _
      | exact LeO.none _
      | refine LeO.ite ?_ ?_
      | refine LeO.bind ?_ (fun _ => ?_)
theorem impl_PrimeInt.mono : ∀ a0 k, LeO (impl_PrimeInt.f k a0) (impl_PrimeInt.f (k + 1) a0) := by
  intro a0 k
  have ih0 := impl_PrimeInt.mono_l k
  unfold impl_PrimeInt.f
  repeat' first
      | (with_reducible exact ih0 _ _)
      | (with_reducible exact LeO.refl _)
      | (with_reducible exact LeO.none _)
      | (with_reducible refine LeO.ite ?_ ?_)
      | (with_reducible refine LeO.bind ?_ (fun _ => ?_))
      | exact ih0 _ _
      | exact LeO.none _
      | refine LeO.ite ?_ ?_
      | refine LeO.bind ?_ (fun _ => ?_)
set_option maxHeartbeats 8000000 in
set_option maxRecDepth 100000 in
theorem impl_PrimeInt.calls (k : Nat) (a0 : Int) (r : Bool) (w : World) (h : impl_PrimeInt.f k a0 = some r) :
    Calls Try.prog 44 #[.int .i64 a0] w fun e w' => e = .returned (.bool r) ∧ Drawn0 w w' := by
  have H : ((impl_within.f a0 2 1099511627776).bind fun t105 => (if t105 = true then (impl_PrimeInt.l0 k a0 2) else (some false))) = some r := h
  clear h
  replace H := Option.bind_eq_some_iff.mp H
  obtain ⟨t105, A20, H⟩ := H
  replace H : (if t105 = true then (impl_PrimeInt.l0 k a0 2) else (some false)) = some r := H
  have A2 := Aside0.mk A20
  clear A20
  by_cases c3 : t105 = true
  · subst c3
    have H1 : (impl_PrimeInt.l0 k a0 2) = some r := by rw [if_pos rfl] at H; exact H
    clear H
    have H := H1
    clear H1
    have H' := Aside0.mk H
    clear H
    go_enter Try.func44, Try.ntmps44
    go_wp2_with (first | ((with_reducible refine gate_callee (f := 43) rfl ?_); refine goesL_ (some 5) rfl rfl Try.func43 (by kernel_rfl) rfl #[.int .i64 a0, .int .i64 2, .int .i64 1099511627776] rfl (by (try simp only [List.map_toArray, List.map_cons, List.map_nil]); first | done | rfl | (simp only [List.length_drop, List.length_take]; rfl)) ?_; (with_reducible refine (impl_within.calls a0 2 1099511627776 true _ A2.out).mono ?_); rintro e w' ⟨rfl, ⟨nd, rfl⟩⟩; refine ⟨_, rfl, ?_⟩))
    go_loopg [3] k (fun kq v3 w' => ∃ (x3_1 : Int), v3 = .int .i64 x3_1 ∧ Aside0 (impl_PrimeInt.l0 kq a0 x3_1 = some r) ∧ Aside0 (kq ≤ k) ∧ Drawn0 w w')
    case atStart => exact ⟨(2), (by first | rfl | (simp; done) | (simp [*]; done)), H', ⟨Nat.le_refl _⟩, by repeat (first | exact Drawn0.refl _ | apply Drawn0.step)⟩
    case round =>
      clear H'
      try clear p2
      try clear c3
      obtain ⟨x3_1, rfl, HA, HK1, ⟨m1, rfl⟩⟩ := hrel
      cases gk with
      | zero => exact absurd HA.out (by simp [impl_PrimeInt.l0])
      | succ k1 =>
        have H := HA.out
        clear HA
        simp only [impl_PrimeInt.l0] at H
        by_cases c4 : (wrap64 (x3_1 * x3_1)) ≤ a0
        · rw [if_pos c4] at H
          have c4b0 : decide ((wrap64 (x3_1 * x3_1)) ≤ a0) = true := decide_eq_true c4
          clear c4
          by_cases c5 : x3_1 = 0
          · rw [if_pos c5] at H
            exact absurd H (by simp)
          · rw [if_neg c5] at H
            have c5b0 : (x3_1 == 0) = false := beq_eq_false_iff_ne.mpr c5
            have c5b1 : (x3_1 != 0) = true := bne_iff_ne.mpr c5
            by_cases c6 : (Int.tmod a0 x3_1) = 0
            · rw [if_pos c6] at H
              have c6b0 : ((Int.tmod a0 x3_1) == 0) = true := beq_iff_eq.mpr c6
              have c6b1 : ((Int.tmod a0 x3_1) != 0) = false := bne_eq_false_iff_eq.mpr c6
              clear c6
              obtain rfl := Option.some.inj H
              go_wp2
              go_ret
              exact ⟨by first | rfl | (simp; done) | (simp [*]; done), by repeat (first | exact Drawn0.refl _ | apply Drawn0.step)⟩
            · rw [if_neg c6] at H
              have c6b0 : ((Int.tmod a0 x3_1) == 0) = false := beq_eq_false_iff_ne.mpr c6
              have c6b1 : ((Int.tmod a0 x3_1) != 0) = true := bne_iff_ne.mpr c6
              have H' := Aside0.mk H
              clear H
              go_wp2
              go_roundg k1
              case measure => have := HK1.out; omega
              case rel => exact ⟨(wrap64 (x3_1 + 1)), (by first | rfl | (simp; done) | (simp [*]; done)), H', ⟨by have := HK1.out; omega⟩, by repeat (first | exact Drawn0.refl _ | apply Drawn0.step)⟩
        · rw [if_neg c4] at H
          have c4b0 : decide ((wrap64 (x3_1 * x3_1)) ≤ a0) = false := decide_eq_false c4
          clear c4
          obtain rfl := Option.some.inj H
          go_wp2
          go_ret
          exact ⟨by first | rfl | (simp; done) | (simp [*]; done), by repeat (first | exact Drawn0.refl _ | apply Drawn0.step)⟩
  · replace c3 := Bool.eq_false_iff.mpr c3
    subst c3
    have H1 : (some false) = some r := by rw [if_neg (show ¬ (false = true) by decide)] at H; exact H
    clear H
    have H := H1
    clear H1
    obtain rfl := Option.some.inj H
    go_enter Try.func44, Try.ntmps44
    go_wp2_with (first | ((with_reducible refine gate_callee (f := 43) rfl ?_); refine goesL_ (some 5) rfl rfl Try.func43 (by kernel_rfl) rfl #[.int .i64 a0, .int .i64 2, .int .i64 1099511627776] rfl (by (try simp only [List.map_toArray, List.map_cons, List.map_nil]); first | done | rfl | (simp only [List.length_drop, List.length_take]; rfl)) ?_; (with_reducible refine (impl_within.calls a0 2 1099511627776 false _ A2.out).mono ?_); rintro e w' ⟨rfl, ⟨nd, rfl⟩⟩; refine ⟨_, rfl, ?_⟩))
    go_ret
    exact ⟨by first | rfl | (simp; done) | (simp [*]; done), by repeat (first | exact Drawn0.refl _ | apply Drawn0.step)⟩

attribute [local go_sem] fld_
/-! ### impl_Curve_base: function 45 -/
def impl_Curve_base.f (a0_0 : Int) (a0_1 : Int) (a0_2 : Int) (a0_3 : Int) (a0_4 : Int) (a0_5 : Int) : Option (Int × Int × Bool) := some (a0_4, a0_5, false)
set_option maxHeartbeats 8000000 in
set_option maxRecDepth 100000 in
theorem impl_Curve_base.calls (a0_0 : Int) (a0_1 : Int) (a0_2 : Int) (a0_3 : Int) (a0_4 : Int) (a0_5 : Int) (r1 : Int) (r2 : Int) (r3 : Bool) (w : World) (h : impl_Curve_base.f a0_0 a0_1 a0_2 a0_3 a0_4 a0_5 = some (r1, r2, r3)) :
    Calls Try.prog 45 #[.agg #[.int .i64 a0_0, .int .i64 a0_1, .int .i64 a0_2, .int .i64 a0_3, .int .i64 a0_4, .int .i64 a0_5]] w fun e w' => e = .returned (.agg #[.int .i64 r1, .int .i64 r2, .bool r3]) ∧ Below w.heap.size w w' := by
  have hu29 := Try.underlying29
  have hu26 := Try.underlying26
  have HB := Aside0.mk (Below.refl w.heap.size w)
  have H : (some (a0_4, a0_5, false)) = some (r1, r2, r3) := h
  clear h
  simp only [Option.some.injEq, Prod.mk.injEq] at H
  obtain ⟨rfl, rfl, rfl⟩ := H
  go_enter Try.func45, Try.ntmps45
  go_wp2_with (first | ((with_reducible refine gate_dst (N := 1) rfl ?_); refine box_event ?hg (N := 1) ?hd (cs := #[.int .i64 a0_0, .int .i64 a0_1, .int .i64 a0_2, .int .i64 a0_3, .int .i64 a0_4, .int .i64 a0_5]) (t := 29) ?hr ?_; (case hd => rfl); (case hg => rfl); (case hr => first | (go_simp; done) | (go_simp; rfl)); intro gb106 hg w2 hbox hb; have n0_ := Aside0.mk (below_step (by repeat (first | (with_reducible first | exact HB.out | apply below_alloc | apply pw_below_drewN | apply below_drew1) | exact HB.out)) hb); have n1_ := Aside0.mk (hbox); have n2_ := Aside0.mk ((by rw [hg]; exact (below_size (by repeat (first | (with_reducible first | exact HB.out | apply below_alloc | apply pw_below_drewN | apply below_drew1) | exact HB.out))) : w.heap.size ≤ gb106)); have n3_ := Aside0.mk ((by rw [hg]; exact (below_size (by repeat (first | (with_reducible first | exact HB.out | apply below_alloc | apply pw_below_drewN | apply below_drew1) | exact HB.out))) : w.heap.size ≤ gb106)); clear HB; have HB := n0_; have BK106 := n1_; have GW106 := n2_; have GE106 := n3_; clear n0_ n1_ n2_ n3_; clear hb hbox hg) | ((with_reducible refine gate_dst (N := 2) rfl ?_); refine box_event ?hg (N := 2) ?hd (cs := #[.int .i64 0, .int .i64 0, .bool false]) (t := 26) ?hr ?_; (case hd => rfl); (case hg => rfl); (case hr => first | (go_simp; done) | (go_simp; rfl)); intro gb107 hg w3 hbox hb; have n0_ := Aside0.mk (blk_below (g := gb106) (o := .cells #[.int .i64 a0_0, .int .i64 a0_1, .int .i64 a0_2, .int .i64 a0_3, .int .i64 a0_4, .int .i64 a0_5] 29 (0, 0)) (by (with_reducible repeat (first | refine blk_drewN ?_ _ | refine blk_drew ?_ | refine blk_alloc ?_ _)); exact BK106.out) hb); have n1_ := Aside0.mk (below_step (by repeat (first | (with_reducible first | exact HB.out | apply below_alloc | apply pw_below_drewN | apply below_drew1 | refine below_set ?_ GE106.out) | exact HB.out)) hb); have n2_ := Aside0.mk (hbox); have n3_ := Aside0.mk ((by rw [hg]; exact (below_size (by repeat (first | (with_reducible first | exact HB.out | apply below_alloc | apply pw_below_drewN | apply below_drew1 | refine below_set ?_ GE106.out) | exact HB.out))) : w.heap.size ≤ gb107)); have n4_ := Aside0.mk ((by rw [hg]; exact (below_size (by repeat (first | (with_reducible first | exact HB.out | apply below_alloc | apply pw_below_drewN | apply below_drew1 | refine below_set ?_ GE106.out) | exact HB.out))) : w.heap.size ≤ gb107)); have n5_ := Aside0.mk ((by rw [hg]; exact Nat.ne_of_lt (blk_lt (g := gb106) (o := .cells #[.int .i64 a0_0, .int .i64 a0_1, .int .i64 a0_2, .int .i64 a0_3, .int .i64 a0_4, .int .i64 a0_5] 29 (0, 0)) (by (with_reducible repeat (first | refine blk_drewN ?_ _ | refine blk_drew ?_ | refine blk_alloc ?_ _)); exact BK106.out)) : gb106 ≠ gb107)); have n6_ := Aside0.mk ((by rw [hg]; exact Nat.ne_of_gt (blk_lt (g := gb106) (o := .cells #[.int .i64 a0_0, .int .i64 a0_1, .int .i64 a0_2, .int .i64 a0_3, .int .i64 a0_4, .int .i64 a0_5] 29 (0, 0)) (by (with_reducible repeat (first | refine blk_drewN ?_ _ | refine blk_drew ?_ | refine blk_alloc ?_ _)); exact BK106.out)) : gb107 ≠ gb106)); clear BK106; clear HB; have BK106 := n0_; have HB := n1_; have BK107 := n2_; have GW107 := n3_; have GE107 := n4_; have NB106_107 := n5_; have NB107_106 := n6_; clear n0_ n1_ n2_ n3_ n4_ n5_ n6_; clear hb hbox hg; have hnb4 := NB106_107.out; have hnc4 := NB107_106.out; have hcz5_0 : w3.cell? ⟨gb106, 0, none⟩ = some (.int .i64 a0_0) := (blk_cell BK106.out 0).trans rfl; have hcz5_1 : w3.cell? ⟨gb106, 1, none⟩ = some (.int .i64 a0_1) := (blk_cell BK106.out 1).trans rfl; have hcz5_2 : w3.cell? ⟨gb106, 2, none⟩ = some (.int .i64 a0_2) := (blk_cell BK106.out 2).trans rfl; have hcz5_3 : w3.cell? ⟨gb106, 3, none⟩ = some (.int .i64 a0_3) := (blk_cell BK106.out 3).trans rfl; have hcz5_4 : w3.cell? ⟨gb106, 4, none⟩ = some (.int .i64 a0_4) := (blk_cell BK106.out 4).trans rfl; have hcz5_5 : w3.cell? ⟨gb106, 5, none⟩ = some (.int .i64 a0_5) := (blk_cell BK106.out 5).trans rfl; have hfz5_0 := blk_frozen BK106.out 0; have hfz5_1 := blk_frozen BK106.out 1; have hfz5_2 := blk_frozen BK106.out 2; have hfz5_3 := blk_frozen BK106.out 3; have hfz5_4 := blk_frozen BK106.out 4; have hfz5_5 := blk_frozen BK106.out 5; have hcz6_0 : w3.cell? ⟨gb107, 0, none⟩ = some (.int .i64 0) := (blk_cell BK107.out 0).trans rfl; have hcz6_1 : w3.cell? ⟨gb107, 1, none⟩ = some (.int .i64 0) := (blk_cell BK107.out 1).trans rfl; have hcz6_2 : w3.cell? ⟨gb107, 2, none⟩ = some (.bool false) := (blk_cell BK107.out 2).trans rfl; have hfz6_0 := blk_frozen BK107.out 0; have hfz6_1 := blk_frozen BK107.out 1; have hfz6_2 := blk_frozen BK107.out 2))
  refine bodyPost_ret (results_cell_row rfl _ _ gb107 26 #[.int .i64 a0_4, .int .i64 a0_5, .bool false] (0, 0) _ rfl (by (with_reducible repeat (first | refine blk_drewN ?_ _ | refine blk_drew ?_ | refine blk_alloc ?_ _)); refine blk_put (cs := #[.int .i64 a0_4, .int .i64 a0_5, .bool false]) ?_ 2 _ rfl; (with_reducible repeat (first | refine blk_drewN ?_ _ | refine blk_drew ?_ | refine blk_alloc ?_ _)); refine blk_put (cs := #[.int .i64 a0_4, .int .i64 0, .bool false]) ?_ 1 _ rfl; (with_reducible repeat (first | refine blk_drewN ?_ _ | refine blk_drew ?_ | refine blk_alloc ?_ _)); refine blk_put (cs := #[.int .i64 0, .int .i64 0, .bool false]) ?_ 0 _ rfl; (with_reducible repeat (first | refine blk_drewN ?_ _ | refine blk_drew ?_ | refine blk_alloc ?_ _)); exact BK107.out) Try.underlying26 rfl (by kernel_rfl)) rfl ?_
  exact ⟨by first | rfl | (simp [errW_none, errW_some] <;> rfl) | (simp [*, errW_none, errW_some] <;> rfl), by repeat (first | (with_reducible first | exact HB.out | apply below_alloc | apply pw_below_drewN | apply below_drew1 | refine below_set ?_ GE106.out | refine below_set ?_ GE107.out) | exact HB.out)⟩

attribute [local go_sem] fld_
/-! ### impl_rest: function 55 -/
def impl_rest.f (a0 : Int) (a1 : Int) : Option (Int) := if a1 = 0 then (none) else (some (Int.tmod (wrap64 ((Int.tmod a0 a1) + a1)) a1))
set_option maxHeartbeats 8000000 in
set_option maxRecDepth 100000 in
theorem impl_rest.calls (a0 : Int) (a1 : Int) (r : Int) (w : World) (h : impl_rest.f a0 a1 = some r) :
    Calls Try.prog 55 #[.int .i64 a0, .int .i64 a1] w fun e w' => e = .returned (.int .i64 r) ∧ Drawn0 w w' := by
  have H : (if a1 = 0 then (none) else (some (Int.tmod (wrap64 ((Int.tmod a0 a1) + a1)) a1))) = some r := h
  clear h
  by_cases c3 : a1 = 0
  · rw [if_pos c3] at H
    exact absurd H (by simp)
  · rw [if_neg c3] at H
    have c3b0 : (a1 == 0) = false := beq_eq_false_iff_ne.mpr c3
    have c3b1 : (a1 != 0) = true := bne_iff_ne.mpr c3
    obtain rfl := Option.some.inj H
    go_enter Try.func55, Try.ntmps55
    go_wp2
    go_ret
    exact ⟨by first | rfl | (simp; done) | (simp [*]; done), by repeat (first | exact Drawn0.refl _ | apply Drawn0.step)⟩

attribute [local go_sem] fld_
/-! ### impl_InvInt: function 54 -/
def impl_InvInt.l0 : Nat → Int → Int → Int → Int → Int → Option (Int × Bool)
  | 0, _, _, _, _, _ => none
  | k + 1, x1, x6, x7, x8, x9 => if x7 = 0 then (if x6 = 1 then ((impl_rest.f x8 x1).bind fun t110 => (some (t110, true))) else (some (0, false))) else (impl_InvInt.l0 k x1 x7 (Int.tmod x6 x7) x9 (wrap64 (x8 - (wrap64 ((wrap64 (Int.tdiv x6 x7)) * x9)))))
def impl_InvInt.f (k : Nat) (a0 : Int) (a1 : Int) : Option (Int × Bool) := (impl_within.f a1 2 1073741824).bind fun t108 => (if t108 = true then ((impl_rest.f a0 a1).bind fun t109 => (impl_InvInt.l0 k a1 a1 t109 0 1)) else (some (0, false)))
theorem impl_InvInt.mono_l : ∀ k, (∀ y0 y1 y2 y3 y4, LeO (impl_InvInt.l0 k y0 y1 y2 y3 y4) (impl_InvInt.l0 (k + 1) y0 y1 y2 y3 y4))
  | 0 => fun _ _ _ _ _ r h => by simp [impl_InvInt.l0] at h
  | k + 1 => by
    have ih0 := impl_InvInt.mono_l k
    · intro y0 y1 y2 y3 y4
      unfold impl_InvInt.l0
      repeat' first
      | (with_reducible exact ih0 _ _ _ _ _)
      | (with_reducible exact LeO.refl _)
      | (with_reducible exact LeO.none _)
      | (with_reducible refine LeO.ite ?_ ?_)
      | (with_reducible refine LeO.bind ?_ (fun _ => ?_))
      | exact ih0 _ _ _ _ _
      | exact LeO.none _
      | refine LeO.ite ?_ ?_
      | refine LeO.bind ?_ (fun _ => ?_)
theorem impl_InvInt.mono : ∀ a0 a1 k, LeO (impl_InvInt.f k a0 a1) (impl_InvInt.f (k + 1) a0 a1) := by
  intro a0 a1 k
  have ih0 := impl_InvInt.mono_l k
  unfold impl_InvInt.f
  repeat' first
      | (with_reducible exact ih0 _ _ _ _ _)
      | (with_reducible exact LeO.refl _)
      | (with_reducible exact LeO.none _)
      | (with_reducible refine LeO.ite ?_ ?_)
      | (with_reducible refine LeO.bind ?_ (fun _ => ?_))
      | exact ih0 _ _ _ _ _
      | exact LeO.none _
      | refine LeO.ite ?_ ?_
      | refine LeO.bind ?_ (fun _ => ?_)
set_option maxHeartbeats 8000000 in
set_option maxRecDepth 100000 in
theorem impl_InvInt.calls (k : Nat) (a0 : Int) (a1 : Int) (r1 : Int) (r2 : Bool) (w : World) (h : impl_InvInt.f k a0 a1 = some (r1, r2)) :
    Calls Try.prog 54 #[.int .i64 a0, .int .i64 a1] w fun e w' => e = .returned (.tuple #[.int .i64 r1, .bool r2]) ∧ Drawn0 w w' := by
  have H : ((impl_within.f a1 2 1073741824).bind fun t108 => (if t108 = true then ((impl_rest.f a0 a1).bind fun t109 => (impl_InvInt.l0 k a1 a1 t109 0 1)) else (some (0, false)))) = some (r1, r2) := h
  clear h
  replace H := Option.bind_eq_some_iff.mp H
  obtain ⟨t108, A30, H⟩ := H
  replace H : (if t108 = true then ((impl_rest.f a0 a1).bind fun t109 => (impl_InvInt.l0 k a1 a1 t109 0 1)) else (some (0, false))) = some (r1, r2) := H
  have A3 := Aside0.mk A30
  clear A30
  by_cases c4 : t108 = true
  · subst c4
    have H1 : ((impl_rest.f a0 a1).bind fun t109 => (impl_InvInt.l0 k a1 a1 t109 0 1)) = some (r1, r2) := by rw [if_pos rfl] at H; exact H
    clear H
    have H := H1
    clear H1
    replace H := Option.bind_eq_some_iff.mp H
    obtain ⟨t109, A50, H⟩ := H
    replace H : (impl_InvInt.l0 k a1 a1 t109 0 1) = some (r1, r2) := H
    have A5 := Aside0.mk A50
    clear A50
    have H' := Aside0.mk H
    clear H
    go_enter Try.func54, Try.ntmps54
    go_wp2_with (first | (go_at_call 43; (with_reducible refine (impl_within.calls a1 2 1073741824 true _ A3.out).mono ?_); rintro e w' ⟨rfl, ⟨nd, rfl⟩⟩; (try first | exact ⟨rfl, _, World.drewN_drewN _ _ _⟩ | exact ⟨rfl, _, Eq.trans (World.drewN_drewN _ _ _) (congrArg (World.drewN _) (Nat.add_assoc _ _ _))⟩)) | (go_at_call 55; (with_reducible refine (impl_rest.calls a0 a1 t109 _ A5.out).mono ?_); rintro e w' ⟨rfl, ⟨nd, rfl⟩⟩; (try first | exact ⟨rfl, _, World.drewN_drewN _ _ _⟩ | exact ⟨rfl, _, Eq.trans (World.drewN_drewN _ _ _) (congrArg (World.drewN _) (Nat.add_assoc _ _ _))⟩)))
    repeat (go_quiet (first | (go_at_call 43; (with_reducible refine (impl_within.calls a1 2 1073741824 true _ A3.out).mono ?_); rintro e w' ⟨rfl, ⟨nd, rfl⟩⟩; (try first | exact ⟨rfl, _, World.drewN_drewN _ _ _⟩ | exact ⟨rfl, _, Eq.trans (World.drewN_drewN _ _ _) (congrArg (World.drewN _) (Nat.add_assoc _ _ _))⟩)) | (go_at_call 55; (with_reducible refine (impl_rest.calls a0 a1 t109 _ A5.out).mono ?_); rintro e w' ⟨rfl, ⟨nd, rfl⟩⟩; (try first | exact ⟨rfl, _, World.drewN_drewN _ _ _⟩ | exact ⟨rfl, _, Eq.trans (World.drewN_drewN _ _ _) (congrArg (World.drewN _) (Nat.add_assoc _ _ _))⟩))); try go_wp2_with (first | (go_at_call 43; (with_reducible refine (impl_within.calls a1 2 1073741824 true _ A3.out).mono ?_); rintro e w' ⟨rfl, ⟨nd, rfl⟩⟩; (try first | exact ⟨rfl, _, World.drewN_drewN _ _ _⟩ | exact ⟨rfl, _, Eq.trans (World.drewN_drewN _ _ _) (congrArg (World.drewN _) (Nat.add_assoc _ _ _))⟩)) | (go_at_call 55; (with_reducible refine (impl_rest.calls a0 a1 t109 _ A5.out).mono ?_); rintro e w' ⟨rfl, ⟨nd, rfl⟩⟩; (try first | exact ⟨rfl, _, World.drewN_drewN _ _ _⟩ | exact ⟨rfl, _, Eq.trans (World.drewN_drewN _ _ _) (congrArg (World.drewN _) (Nat.add_assoc _ _ _))⟩))))
    go_loopg [6, 7, 8, 9] k (fun kq v6 v7 v8 v9 w' => ∃ (x6_1 : Int) (x7_1 : Int) (x8_1 : Int) (x9_1 : Int), v6 = .int .i64 x6_1 ∧ v7 = .int .i64 x7_1 ∧ v8 = .int .i64 x8_1 ∧ v9 = .int .i64 x9_1 ∧ Aside0 (impl_InvInt.l0 kq a1 x6_1 x7_1 x8_1 x9_1 = some (r1, r2)) ∧ Aside0 (kq ≤ k) ∧ Drawn0 w w')
    case atStart => exact ⟨(a1), (t109), (0), (1), (by first | rfl | (simp; done) | (simp [*]; done)), (by first | rfl | (simp; done) | (simp [*]; done)), (by first | rfl | (simp; done) | (simp [*]; done)), (by first | rfl | (simp; done) | (simp [*]; done)), H', ⟨Nat.le_refl _⟩, by repeat (first | exact Drawn0.refl _ | apply Drawn0.step)⟩
    case round =>
      clear H'
      try clear p2
      try clear c4
      try clear c5
      obtain ⟨x6_1, x7_1, x8_1, x9_1, rfl, rfl, rfl, rfl, HA, HK1, ⟨m1, rfl⟩⟩ := hrel
      cases gk with
      | zero => exact absurd HA.out (by simp [impl_InvInt.l0])
      | succ k1 =>
        have H := HA.out
        clear HA
        simp only [impl_InvInt.l0] at H
        by_cases c6 : x7_1 = 0
        · rw [if_pos c6] at H
          have c6b0 : (x7_1 == 0) = true := beq_iff_eq.mpr c6
          have c6b1 : (x7_1 != 0) = false := bne_eq_false_iff_eq.mpr c6
          clear c6
          by_cases c7 : x6_1 = 1
          · rw [if_pos c7] at H
            have c7b0 : (x6_1 == 1) = true := beq_iff_eq.mpr c7
            have c7b1 : (x6_1 != 1) = false := bne_eq_false_iff_eq.mpr c7
            clear c7
            replace H := Option.bind_eq_some_iff.mp H
            obtain ⟨t110, A80, H⟩ := H
            replace H : (some (t110, true)) = some (r1, r2) := H
            have A8 := Aside0.mk A80
            clear A80
            simp only [Option.some.injEq, Prod.mk.injEq] at H
            obtain ⟨rfl, rfl⟩ := H
            go_wp2_with (first | (go_at_call 55; (with_reducible refine (impl_rest.calls x8_1 a1 t110 _ A8.out).mono ?_); rintro e w' ⟨rfl, ⟨nd, rfl⟩⟩; (try first | exact ⟨rfl, _, World.drewN_drewN _ _ _⟩ | exact ⟨rfl, _, Eq.trans (World.drewN_drewN _ _ _) (congrArg (World.drewN _) (Nat.add_assoc _ _ _))⟩)))
            repeat (go_quiet (first | (go_at_call 55; (with_reducible refine (impl_rest.calls x8_1 a1 t110 _ A8.out).mono ?_); rintro e w' ⟨rfl, ⟨nd, rfl⟩⟩; (try first | exact ⟨rfl, _, World.drewN_drewN _ _ _⟩ | exact ⟨rfl, _, Eq.trans (World.drewN_drewN _ _ _) (congrArg (World.drewN _) (Nat.add_assoc _ _ _))⟩))); try go_wp2_with (first | (go_at_call 55; (with_reducible refine (impl_rest.calls x8_1 a1 t110 _ A8.out).mono ?_); rintro e w' ⟨rfl, ⟨nd, rfl⟩⟩; (try first | exact ⟨rfl, _, World.drewN_drewN _ _ _⟩ | exact ⟨rfl, _, Eq.trans (World.drewN_drewN _ _ _) (congrArg (World.drewN _) (Nat.add_assoc _ _ _))⟩))))
            go_ret2
            exact ⟨by first | rfl | (simp; done) | (simp [*]; done), by repeat (first | exact Drawn0.refl _ | apply Drawn0.step)⟩
          · rw [if_neg c7] at H
            have c7b0 : (x6_1 == 1) = false := beq_eq_false_iff_ne.mpr c7
            have c7b1 : (x6_1 != 1) = true := bne_iff_ne.mpr c7
            simp only [Option.some.injEq, Prod.mk.injEq] at H
            obtain ⟨rfl, rfl⟩ := H
            go_wp2
            repeat (go_quiet (fail); try go_wp2)
            go_ret2
            exact ⟨by first | rfl | (simp; done) | (simp [*]; done), by repeat (first | exact Drawn0.refl _ | apply Drawn0.step)⟩
        · rw [if_neg c6] at H
          have c6b0 : (x7_1 == 0) = false := beq_eq_false_iff_ne.mpr c6
          have c6b1 : (x7_1 != 0) = true := bne_iff_ne.mpr c6
          have H' := Aside0.mk H
          clear H
          go_wp2
          repeat (go_quiet (fail); try go_wp2)
          go_roundg k1
          case measure => have := HK1.out; omega
          case rel => exact ⟨(x7_1), (Int.tmod x6_1 x7_1), (x9_1), (wrap64 (x8_1 - (wrap64 ((wrap64 (Int.tdiv x6_1 x7_1)) * x9_1)))), (by first | rfl | (simp; done) | (simp [*]; done)), (by first | rfl | (simp; done) | (simp [*]; done)), (by first | rfl | (simp; done) | (simp [*]; done)), (by first | rfl | (simp; done) | (simp [*]; done)), H', ⟨by have := HK1.out; omega⟩, by repeat (first | exact Drawn0.refl _ | apply Drawn0.step)⟩
  · replace c4 := Bool.eq_false_iff.mpr c4
    subst c4
    have H1 : (some (0, false)) = some (r1, r2) := by rw [if_neg (show ¬ (false = true) by decide)] at H; exact H
    clear H
    have H := H1
    clear H1
    simp only [Option.some.injEq, Prod.mk.injEq] at H
    obtain ⟨rfl, rfl⟩ := H
    go_enter Try.func54, Try.ntmps54
    go_wp2_with (first | (go_at_call 43; (with_reducible refine (impl_within.calls a1 2 1073741824 false _ A3.out).mono ?_); rintro e w' ⟨rfl, ⟨nd, rfl⟩⟩; (try first | exact ⟨rfl, _, World.drewN_drewN _ _ _⟩ | exact ⟨rfl, _, Eq.trans (World.drewN_drewN _ _ _) (congrArg (World.drewN _) (Nat.add_assoc _ _ _))⟩)))
    repeat (go_quiet (first | (go_at_call 43; (with_reducible refine (impl_within.calls a1 2 1073741824 false _ A3.out).mono ?_); rintro e w' ⟨rfl, ⟨nd, rfl⟩⟩; (try first | exact ⟨rfl, _, World.drewN_drewN _ _ _⟩ | exact ⟨rfl, _, Eq.trans (World.drewN_drewN _ _ _) (congrArg (World.drewN _) (Nat.add_assoc _ _ _))⟩))); try go_wp2_with (first | (go_at_call 43; (with_reducible refine (impl_within.calls a1 2 1073741824 false _ A3.out).mono ?_); rintro e w' ⟨rfl, ⟨nd, rfl⟩⟩; (try first | exact ⟨rfl, _, World.drewN_drewN _ _ _⟩ | exact ⟨rfl, _, Eq.trans (World.drewN_drewN _ _ _) (congrArg (World.drewN _) (Nat.add_assoc _ _ _))⟩))))
    go_ret2
    exact ⟨by first | rfl | (simp; done) | (simp [*]; done), by repeat (first | exact Drawn0.refl _ | apply Drawn0.step)⟩

attribute [local go_sem] fld_
/-! ### impl_Curve_sum: function 33 -/
mutual
def impl_Curve_sum.j0 : Nat → Int → Int → Int → Int → Int → Int → Int → Int → Bool → Int → Int → Bool → Option (Int × Int × Bool)
  | 0, _, _, _, _, _, _, _, _, _, _, _, _ => none
  | k + 1, x112000, x112001, x112002, x112003, x112004, x112005, x113000, x113001, x113002, x114000, x114001, x114002 => if (x113000 == x114000 && (x113001 == x114001 && (x113002 == x114002))) = true then (impl_Curve_sum.j1 k (wrap64 ((wrap64 ((wrap64 (3 * x113000)) * x113000)) + x112001)) (wrap64 (2 * x113001)) x112000 x112001 x112002 x112003 x112004 x112005 x113000 x113001 x113002 x114000 x114001 x114002) else (impl_Curve_sum.j1 k (wrap64 (x114001 - x113001)) (wrap64 (x114000 - x113000)) x112000 x112001 x112002 x112003 x112004 x112005 x113000 x113001 x113002 x114000 x114001 x114002)
def impl_Curve_sum.j1 : Nat → Int → Int → Int → Int → Int → Int → Int → Int → Int → Int → Bool → Int → Int → Bool → Option (Int × Int × Bool)
  | 0, _, _, _, _, _, _, _, _, _, _, _, _, _, _ => none
  | k + 1, x7, x8, x112000, x112001, x112002, x112003, x112004, x112005, x113000, x113001, x113002, x114000, x114001, x114002 => (impl_InvInt.f k x8 x112000).bind fun bt115 => ((impl_rest.f x7 x112000).bind fun t117 => (if x112000 = 0 then (none) else ((impl_rest.f (wrap64 ((wrap64 ((wrap64 ((Int.tmod (wrap64 (t117 * bt115.1)) x112000) * (Int.tmod (wrap64 (t117 * bt115.1)) x112000))) - x113000)) - x114000)) x112000).bind fun t118 => ((impl_rest.f (wrap64 ((wrap64 ((Int.tmod (wrap64 (t117 * bt115.1)) x112000) * (wrap64 (x113000 - t118)))) - x113001)) x112000).bind fun t119 => (some (t118, t119, false))))))
end
def impl_Curve_sum.f (k : Nat) (a0_0 : Int) (a0_1 : Int) (a0_2 : Int) (a0_3 : Int) (a0_4 : Int) (a0_5 : Int) (a1_0 : Int) (a1_1 : Int) (a1_2 : Bool) (a2_0 : Int) (a2_1 : Int) (a2_2 : Bool) : Option (Int × Int × Bool) := if a1_2 = true then (some (a2_0, a2_1, a2_2)) else (if a2_2 = true then (some (a1_0, a1_1, a1_2)) else (if a1_0 = a2_0 then (if a0_0 = 0 then (none) else (if (Int.tmod (wrap64 (a1_1 + a2_1)) a0_0) = 0 then (some (0, 0, true)) else (impl_Curve_sum.j0 k a0_0 a0_1 a0_2 a0_3 a0_4 a0_5 a1_0 a1_1 a1_2 a2_0 a2_1 a2_2))) else (impl_Curve_sum.j0 k a0_0 a0_1 a0_2 a0_3 a0_4 a0_5 a1_0 a1_1 a1_2 a2_0 a2_1 a2_2)))
theorem impl_Curve_sum.mono_l : ∀ k, (∀ y0 y1 y2 y3 y4 y5 y6 y7 y8 y9 y10 y11, LeO (impl_Curve_sum.j0 k y0 y1 y2 y3 y4 y5 y6 y7 y8 y9 y10 y11) (impl_Curve_sum.j0 (k + 1) y0 y1 y2 y3 y4 y5 y6 y7 y8 y9 y10 y11)) ∧ (∀ y0 y1 y2 y3 y4 y5 y6 y7 y8 y9 y10 y11 y12 y13, LeO (impl_Curve_sum.j1 k y0 y1 y2 y3 y4 y5 y6 y7 y8 y9 y10 y11 y12 y13) (impl_Curve_sum.j1 (k + 1) y0 y1 y2 y3 y4 y5 y6 y7 y8 y9 y10 y11 y12 y13))
 | 0 => ⟨fun _ _ _ _ _ _ _ _ _ _ _ _ r h => by simp [impl_Curve_sum.j0] at h, fun _ _ _ _ _ _ _ _ _ _ _ _ _ _ r h => by simp [impl_Curve_sum.j1] at h⟩
 | k + 1 => by
  obtain ⟨ih0, ih1⟩ := impl_Curve_sum.mono_l k
  refine ⟨?_, ?_⟩
  ·
   intro y0 y1 y2 y3 y4 y5 y6 y7 y8 y9 y10 y11
   unfold impl_Curve_sum.j0
   repeat' first
   | (with_reducible exact ih0 _ _ _ _ _ _ _ _ _ _ _ _)
   | (with_reducible exact ih1 _ _ _ _ _ _ _ _ _ _ _ _ _ _)
   | (with_reducible exact impl_InvInt.mono _ _ _)
   | (with_reducible exact LeO.refl _)
   | (with_reducible exact LeO.none _)
   | (with_reducible refine LeO.ite ?_ ?_)
   | (with_reducible refine LeO.bind ?_ (fun _ => ?_))
   | exact ih0 _ _ _ _ _ _ _ _ _ _ _ _
   | exact ih1 _ _ _ _ _ _ _ _ _ _ _ _ _ _
   | exact impl_InvInt.mono _ _ _
   | exact LeO.none _
   | refine LeO.ite ?_ ?_
   | refine LeO.bind ?_ (fun _ => ?_)
  ·
   intro y0 y1 y2 y3 y4 y5 y6 y7 y8 y9 y10 y11 y12 y13
   unfold impl_Curve_sum.j1
   repeat' first
   | (with_reducible exact ih0 _ _ _ _ _ _ _ _ _ _ _ _)
   | (with_reducible exact ih1 _ _ _ _ _ _ _ _ _ _ _ _ _ _)
   | (with_reducible exact impl_InvInt.mono _ _ _)
   | (with_reducible exact LeO.refl _)
   | (with_reducible exact LeO.none _)
   | (with_reducible refine LeO.ite ?_ ?_)
   | (with_reducible refine LeO.bind ?_ (fun _ => ?_))
   | exact ih0 _ _ _ _ _ _ _ _ _ _ _ _
   | exact ih1 _ _ _ _ _ _ _ _ _ _ _ _ _ _
   | exact impl_InvInt.mono _ _ _
   | exact LeO.none _
   | refine LeO.ite ?_ ?_
   | refine LeO.bind ?_ (fun _ => ?_)
theorem impl_Curve_sum.mono : ∀ a0 a1 a2 a3 a4 a5 a6 a7 a8 a9 a10 a11 k, LeO (impl_Curve_sum.f k a0 a1 a2 a3 a4 a5 a6 a7 a8 a9 a10 a11) (impl_Curve_sum.f (k + 1) a0 a1 a2 a3 a4 a5 a6 a7 a8 a9 a10 a11) := by
 intro a0 a1 a2 a3 a4 a5 a6 a7 a8 a9 a10 a11 k; obtain ⟨ih0, ih1⟩ := impl_Curve_sum.mono_l k
 unfold impl_Curve_sum.f
 repeat' first
   | (with_reducible exact ih0 _ _ _ _ _ _ _ _ _ _ _ _)
   | (with_reducible exact ih1 _ _ _ _ _ _ _ _ _ _ _ _ _ _)
   | (with_reducible exact impl_InvInt.mono _ _ _)
   | (with_reducible exact LeO.refl _)
   | (with_reducible exact LeO.none _)
   | (with_reducible refine LeO.ite ?_ ?_)
   | (with_reducible refine LeO.bind ?_ (fun _ => ?_))
   | exact ih0 _ _ _ _ _ _ _ _ _ _ _ _
   | exact ih1 _ _ _ _ _ _ _ _ _ _ _ _ _ _
   | exact impl_InvInt.mono _ _ _
   | exact LeO.none _
   | refine LeO.ite ?_ ?_
   | refine LeO.bind ?_ (fun _ => ?_)
set_option maxHeartbeats 8000000 in
set_option maxRecDepth 100000 in
theorem impl_Curve_sum.calls (k : Nat) (a0_0 : Int) (a0_1 : Int) (a0_2 : Int) (a0_3 : Int) (a0_4 : Int) (a0_5 : Int) (a1_0 : Int) (a1_1 : Int) (a1_2 : Bool) (a2_0 : Int) (a2_1 : Int) (a2_2 : Bool) (r1 : Int) (r2 : Int) (r3 : Bool) (w : World) (h : impl_Curve_sum.f k a0_0 a0_1 a0_2 a0_3 a0_4 a0_5 a1_0 a1_1 a1_2 a2_0 a2_1 a2_2 = some (r1, r2, r3)) :
  Calls Try.prog 33 #[.agg #[.int .i64 a0_0, .int .i64 a0_1, .int .i64 a0_2, .int .i64 a0_3, .int .i64 a0_4, .int .i64 a0_5], .agg #[.int .i64 a1_0, .int .i64 a1_1, .bool a1_2], .agg #[.int .i64 a2_0, .int .i64 a2_1, .bool a2_2]] w fun e w' => e = .returned (.agg #[.int .i64 r1, .int .i64 r2, .bool r3]) ∧ Below w.heap.size w w' := by
 have hu29 := Try.underlying29; have hu26 := Try.underlying26; have HB := Aside0.mk (Below.refl w.heap.size w)
 have H : (if a1_2 = true then (some (a2_0, a2_1, a2_2)) else (if a2_2 = true then (some (a1_0, a1_1, a1_2)) else (if a1_0 = a2_0 then (if a0_0 = 0 then (none) else (if (Int.tmod (wrap64 (a1_1 + a2_1)) a0_0) = 0 then (some (0, 0, true)) else (impl_Curve_sum.j0 k a0_0 a0_1 a0_2 a0_3 a0_4 a0_5 a1_0 a1_1 a1_2 a2_0 a2_1 a2_2))) else (impl_Curve_sum.j0 k a0_0 a0_1 a0_2 a0_3 a0_4 a0_5 a1_0 a1_1 a1_2 a2_0 a2_1 a2_2)))) = some (r1, r2, r3) := h
 clear h; have HC4 := Aside0.mk H; clear H
 go_enter Try.func33, Try.ntmps33
 go_upto_block 0 with (first | ((with_reducible refine gate_dst (N := 3) rfl ?_); refine box_event ?hg (N := 3) ?hd (cs := #[.int .i64 a0_0, .int .i64 a0_1, .int .i64 a0_2, .int .i64 a0_3, .int .i64 a0_4, .int .i64 a0_5]) (t := 29) ?hr ?_; (case hd => rfl); (case hg => rfl); (case hr => first | (go_simp; done) | (go_simp; rfl)); intro gb111 hg w5 hbox hb; have BK111 := Aside0.mk hbox; have GW111 := ge_ HB hg; have GE111 := ge_ HB hg; replace HB := bs_ HB hb; clear hb hbox hg) | ((with_reducible refine gate_dst (N := 4) rfl ?_); refine box_event ?hg (N := 4) ?hd (cs := #[.int .i64 a1_0, .int .i64 a1_1, .bool a1_2]) (t := 26) ?hr ?_; (case hd => rfl); (case hg => rfl); (case hr => first | (go_simp; done) | (go_simp; rfl)); intro gb112 hg w6 hbox hb; have BK112 := Aside0.mk hbox; have GW112 := ge_ HB hg; have GE112 := ge_ HB hg; have NB111_112 := nl_ BK111 hg; have NB112_111 := nr_ BK111 hg; replace BK111 := bb_ BK111 hb; replace HB := bs_ HB hb; clear hb hbox hg) | ((with_reducible refine gate_dst (N := 5) rfl ?_); refine box_event ?hg (N := 5) ?hd (cs := #[.int .i64 a2_0, .int .i64 a2_1, .bool a2_2]) (t := 26) ?hr ?_; (case hd => rfl); (case hg => rfl); (case hr => first | (go_simp; done) | (go_simp; rfl)); intro gb113 hg w7 hbox hb; have BK113 := Aside0.mk hbox; have GW113 := ge_ HB hg; have GE113 := ge_ HB hg; have NB111_113 := nl_ BK111 hg; have NB113_111 := nr_ BK111 hg; have NB112_113 := nl_ BK112 hg; have NB113_112 := nr_ BK112 hg; replace BK111 := bb_ BK111 hb; replace BK112 := bb_ BK112 hb; replace HB := bs_ HB hb; clear hb hbox hg) | ((with_reducible refine gate_dst (N := 6) rfl ?_); refine box_event ?hg (N := 6) ?hd (cs := #[.int .i64 0, .int .i64 0, .bool false]) (t := 26) ?hr ?_; (case hd => rfl); (case hg => rfl); (case hr => first | (go_simp; done) | (go_simp; rfl)); intro gb114 hg w8 hbox hb; have BK114 := Aside0.mk hbox; have GW114 := ge_ HB hg; have GE114 := ge_ HB hg; have NB111_114 := nl_ BK111 hg; have NB114_111 := nr_ BK111 hg; have NB112_114 := nl_ BK112 hg; have NB114_112 := nr_ BK112 hg; have NB113_114 := nl_ BK113 hg; have NB114_113 := nr_ BK113 hg; replace BK111 := bb_ BK111 hb; replace BK112 := bb_ BK112 hb; replace BK113 := bb_ BK113 hb; replace HB := bs_ HB hb; clear hb hbox hg))
 repeat (go_quiet (first | ((with_reducible refine gate_dst (N := 3) rfl ?_); refine box_event ?hg (N := 3) ?hd (cs := #[.int .i64 a0_0, .int .i64 a0_1, .int .i64 a0_2, .int .i64 a0_3, .int .i64 a0_4, .int .i64 a0_5]) (t := 29) ?hr ?_; (case hd => rfl); (case hg => rfl); (case hr => first | (go_simp; done) | (go_simp; rfl)); intro gb111 hg w5 hbox hb; have BK111 := Aside0.mk hbox; have GW111 := ge_ HB hg; have GE111 := ge_ HB hg; replace HB := bs_ HB hb; clear hb hbox hg) | ((with_reducible refine gate_dst (N := 4) rfl ?_); refine box_event ?hg (N := 4) ?hd (cs := #[.int .i64 a1_0, .int .i64 a1_1, .bool a1_2]) (t := 26) ?hr ?_; (case hd => rfl); (case hg => rfl); (case hr => first | (go_simp; done) | (go_simp; rfl)); intro gb112 hg w6 hbox hb; have BK112 := Aside0.mk hbox; have GW112 := ge_ HB hg; have GE112 := ge_ HB hg; have NB111_112 := nl_ BK111 hg; have NB112_111 := nr_ BK111 hg; replace BK111 := bb_ BK111 hb; replace HB := bs_ HB hb; clear hb hbox hg) | ((with_reducible refine gate_dst (N := 5) rfl ?_); refine box_event ?hg (N := 5) ?hd (cs := #[.int .i64 a2_0, .int .i64 a2_1, .bool a2_2]) (t := 26) ?hr ?_; (case hd => rfl); (case hg => rfl); (case hr => first | (go_simp; done) | (go_simp; rfl)); intro gb113 hg w7 hbox hb; have BK113 := Aside0.mk hbox; have GW113 := ge_ HB hg; have GE113 := ge_ HB hg; have NB111_113 := nl_ BK111 hg; have NB113_111 := nr_ BK111 hg; have NB112_113 := nl_ BK112 hg; have NB113_112 := nr_ BK112 hg; replace BK111 := bb_ BK111 hb; replace BK112 := bb_ BK112 hb; replace HB := bs_ HB hb; clear hb hbox hg) | ((with_reducible refine gate_dst (N := 6) rfl ?_); refine box_event ?hg (N := 6) ?hd (cs := #[.int .i64 0, .int .i64 0, .bool false]) (t := 26) ?hr ?_; (case hd => rfl); (case hg => rfl); (case hr => first | (go_simp; done) | (go_simp; rfl)); intro gb114 hg w8 hbox hb; have BK114 := Aside0.mk hbox; have GW114 := ge_ HB hg; have GE114 := ge_ HB hg; have NB111_114 := nl_ BK111 hg; have NB114_111 := nr_ BK111 hg; have NB112_114 := nl_ BK112 hg; have NB114_112 := nr_ BK112 hg; have NB113_114 := nl_ BK113 hg; have NB114_113 := nr_ BK113 hg; replace BK111 := bb_ BK111 hb; replace BK112 := bb_ BK112 hb; replace BK113 := bb_ BK113 hb; replace HB := bs_ HB hb; clear hb hbox hg)); go_upto_block 0 with (first | ((with_reducible refine gate_dst (N := 3) rfl ?_); refine box_event ?hg (N := 3) ?hd (cs := #[.int .i64 a0_0, .int .i64 a0_1, .int .i64 a0_2, .int .i64 a0_3, .int .i64 a0_4, .int .i64 a0_5]) (t := 29) ?hr ?_; (case hd => rfl); (case hg => rfl); (case hr => first | (go_simp; done) | (go_simp; rfl)); intro gb111 hg w5 hbox hb; have BK111 := Aside0.mk hbox; have GW111 := ge_ HB hg; have GE111 := ge_ HB hg; replace HB := bs_ HB hb; clear hb hbox hg) | ((with_reducible refine gate_dst (N := 4) rfl ?_); refine box_event ?hg (N := 4) ?hd (cs := #[.int .i64 a1_0, .int .i64 a1_1, .bool a1_2]) (t := 26) ?hr ?_; (case hd => rfl); (case hg => rfl); (case hr => first | (go_simp; done) | (go_simp; rfl)); intro gb112 hg w6 hbox hb; have BK112 := Aside0.mk hbox; have GW112 := ge_ HB hg; have GE112 := ge_ HB hg; have NB111_112 := nl_ BK111 hg; have NB112_111 := nr_ BK111 hg; replace BK111 := bb_ BK111 hb; replace HB := bs_ HB hb; clear hb hbox hg) | ((with_reducible refine gate_dst (N := 5) rfl ?_); refine box_event ?hg (N := 5) ?hd (cs := #[.int .i64 a2_0, .int .i64 a2_1, .bool a2_2]) (t := 26) ?hr ?_; (case hd => rfl); (case hg => rfl); (case hr => first | (go_simp; done) | (go_simp; rfl)); intro gb113 hg w7 hbox hb; have BK113 := Aside0.mk hbox; have GW113 := ge_ HB hg; have GE113 := ge_ HB hg; have NB111_113 := nl_ BK111 hg; have NB113_111 := nr_ BK111 hg; have NB112_113 := nl_ BK112 hg; have NB113_112 := nr_ BK112 hg; replace BK111 := bb_ BK111 hb; replace BK112 := bb_ BK112 hb; replace HB := bs_ HB hb; clear hb hbox hg) | ((with_reducible refine gate_dst (N := 6) rfl ?_); refine box_event ?hg (N := 6) ?hd (cs := #[.int .i64 0, .int .i64 0, .bool false]) (t := 26) ?hr ?_; (case hd => rfl); (case hg => rfl); (case hr => first | (go_simp; done) | (go_simp; rfl)); intro gb114 hg w8 hbox hb; have BK114 := Aside0.mk hbox; have GW114 := ge_ HB hg; have GE114 := ge_ HB hg; have NB111_114 := nl_ BK111 hg; have NB114_111 := nr_ BK111 hg; have NB112_114 := nl_ BK112 hg; have NB114_112 := nr_ BK112 hg; have NB113_114 := nl_ BK113 hg; have NB114_113 := nr_ BK113 hg; replace BK111 := bb_ BK111 hb; replace BK112 := bb_ BK112 hb; replace BK113 := bb_ BK113 hb; replace HB := bs_ HB hb; clear hb hbox hg)))
 (try simp only [Act.put, sA_, sZ_, sS_])
 go_cut [] (fun wc => ∃ (kq : Nat) (x115000_3 : Int) (x115001_3 : Int) (x115002_3 : Bool), Aside0 (impl_Curve_sum.j0 kq a0_0 a0_1 a0_2 a0_3 a0_4 a0_5 a1_0 a1_1 a1_2 a2_0 a2_1 a2_2 = some (r1, r2, r3)) ∧ Aside0 (kq ≤ k) ∧ Aside0 (wc.heap[gb111]? = some (.cells #[.int .i64 a0_0, .int .i64 a0_1, .int .i64 a0_2, .int .i64 a0_3, .int .i64 a0_4, .int .i64 a0_5] 29 (0, 0))) ∧ Aside0 (wc.heap[gb112]? = some (.cells #[.int .i64 a1_0, .int .i64 a1_1, .bool a1_2] 26 (0, 0))) ∧ Aside0 (wc.heap[gb113]? = some (.cells #[.int .i64 a2_0, .int .i64 a2_1, .bool a2_2] 26 (0, 0))) ∧ Aside0 (wc.heap[gb114]? = some (.cells #[.int .i64 x115000_3, .int .i64 x115001_3, .bool x115002_3] 26 (0, 0))) ∧ Aside0 (Below w.heap.size w wc))
 case first =>
  have H := HC4.out; clear HC4
  by_cases c9 : a1_2 = true
  ·
   subst c9; rw [if_pos rfl] at H
   simp only [Option.some.injEq, Prod.mk.injEq] at H
   obtain ⟨rfl, rfl, rfl⟩ := H; obtain ⟨hnb10, hnc10⟩ := nn_ NB112_111; obtain ⟨hnb11, hnc11⟩ := nn_ NB112_113; obtain ⟨hnb12, hnc12⟩ := nn_ NB112_114
   obtain ⟨hcz13_0, hcz13_1, hcz13_2, hfz13_0, hfz13_1, hfz13_2⟩ := bx3_ BK112; obtain ⟨hnb14, hnc14⟩ := nn_ NB113_111; obtain ⟨hnb15, hnc15⟩ := nn_ NB113_114
   obtain ⟨hcz16_0, hcz16_1, hcz16_2, hfz16_0, hfz16_1, hfz16_2⟩ := bx3_ BK113; obtain ⟨hnb17, hnc17⟩ := nn_ NB114_111
   obtain ⟨hcz18_0, hcz18_1, hcz18_2, hfz18_0, hfz18_1, hfz18_2⟩ := bx3_ BK114
   go_wp2
   repeat (go_quiet (fail); try go_wp2)
   refine bodyPost_ret (results_cell_row rfl _ _ gb114 26 #[.int .i64 a2_0, .int .i64 a2_1, .bool a2_2] (0, 0) _ rfl (bq_ BK114) Try.underlying26 rfl (by kernel_rfl)) rfl ?_; exact ⟨by first | rfl | (simp [errW_none, errW_some] <;> rfl) | (simp [*, errW_none, errW_some] <;> rfl), by repeat (first | (with_reducible first | exact HB.out | apply below_alloc | apply pw_below_drewN | apply below_drew1 | refine below_set ?_ GE111.out | refine below_set ?_ GE112.out | refine below_set ?_ GE113.out | refine below_set ?_ GE114.out) | exact HB.out)⟩
  ·
   replace c9 := Bool.eq_false_iff.mpr c9; subst c9
   rw [if_neg (show ¬ (false = true) by decide)] at H
   by_cases c19 : a2_2 = true
   ·
    subst c19; rw [if_pos rfl] at H
    simp only [Option.some.injEq, Prod.mk.injEq] at H
    obtain ⟨rfl, rfl, rfl⟩ := H; obtain ⟨hnb20, hnc20⟩ := nn_ NB112_111; obtain ⟨hnb21, hnc21⟩ := nn_ NB112_113; obtain ⟨hnb22, hnc22⟩ := nn_ NB112_114
    obtain ⟨hcz23_0, hcz23_1, hcz23_2, hfz23_0, hfz23_1, hfz23_2⟩ := bx3_ BK112; obtain ⟨hnb24, hnc24⟩ := nn_ NB113_111; obtain ⟨hnb25, hnc25⟩ := nn_ NB113_114
    obtain ⟨hcz26_0, hcz26_1, hcz26_2, hfz26_0, hfz26_1, hfz26_2⟩ := bx3_ BK113; obtain ⟨hnb27, hnc27⟩ := nn_ NB114_111
    obtain ⟨hcz28_0, hcz28_1, hcz28_2, hfz28_0, hfz28_1, hfz28_2⟩ := bx3_ BK114
    go_wp2
    repeat (go_quiet (fail); try go_wp2)
    refine bodyPost_ret (results_cell_row rfl _ _ gb114 26 #[.int .i64 a1_0, .int .i64 a1_1, .bool false] (0, 0) _ rfl (bq_ BK114) Try.underlying26 rfl (by kernel_rfl)) rfl ?_; exact ⟨by first | rfl | (simp [errW_none, errW_some] <;> rfl) | (simp [*, errW_none, errW_some] <;> rfl), by repeat (first | (with_reducible first | exact HB.out | apply below_alloc | apply pw_below_drewN | apply below_drew1 | refine below_set ?_ GE111.out | refine below_set ?_ GE112.out | refine below_set ?_ GE113.out | refine below_set ?_ GE114.out) | exact HB.out)⟩
   ·
    replace c19 := Bool.eq_false_iff.mpr c19; subst c19
    rw [if_neg (show ¬ (false = true) by decide)] at H
    by_cases c29 : a1_0 = a2_0
    ·
     rw [if_pos c29] at H
     have c29b0 : (a1_0 == a2_0) = true := beq_iff_eq.mpr c29
     have c29b1 : (a1_0 != a2_0) = false := bne_eq_false_iff_eq.mpr c29
     clear c29
     (first | rw [c29b0] | (simp only [i64_w, i32_w]; rw [c29b0]) | skip)
     by_cases c30 : a0_0 = 0
     · rw [if_pos c30] at H; exact absurd H (by simp)
     ·
      rw [if_neg c30] at H
      have c30b0 : (a0_0 == 0) = false := beq_eq_false_iff_ne.mpr c30
      have c30b1 : (a0_0 != 0) = true := bne_iff_ne.mpr c30
      by_cases c31 : (Int.tmod (wrap64 (a1_1 + a2_1)) a0_0) = 0
      ·
       rw [if_pos c31] at H
       have c31b0 : ((Int.tmod (wrap64 (a1_1 + a2_1)) a0_0) == 0) = true := beq_iff_eq.mpr c31
       have c31b1 : ((Int.tmod (wrap64 (a1_1 + a2_1)) a0_0) != 0) = false := bne_eq_false_iff_eq.mpr c31
       clear c31
       simp only [Option.some.injEq, Prod.mk.injEq] at H
       obtain ⟨rfl, rfl, rfl⟩ := H; obtain ⟨hnb32, hnc32⟩ := nn_ NB112_111; obtain ⟨hnb33, hnc33⟩ := nn_ NB112_113; obtain ⟨hnb34, hnc34⟩ := nn_ NB112_114
       obtain ⟨hcz35_0, hcz35_1, hcz35_2, hfz35_0, hfz35_1, hfz35_2⟩ := bx3_ BK112; obtain ⟨hnb36, hnc36⟩ := nn_ NB113_111; obtain ⟨hnb37, hnc37⟩ := nn_ NB113_114
       obtain ⟨hcz38_0, hcz38_1, hcz38_2, hfz38_0, hfz38_1, hfz38_2⟩ := bx3_ BK113; obtain ⟨hnb39, hnc39⟩ := nn_ NB111_114
       obtain ⟨hcz40_0, hcz40_1, hcz40_2, hcz40_3, hcz40_4, hcz40_5, hfz40_0, hfz40_1, hfz40_2, hfz40_3, hfz40_4, hfz40_5⟩ := bx6_ BK111; obtain ⟨hcz41_0, hcz41_1, hcz41_2, hfz41_0, hfz41_1, hfz41_2⟩ := bx3_ BK114
       go_wp2
       repeat (go_quiet (fail); try go_wp2)
       refine bodyPost_ret (results_cell_row rfl _ _ gb114 26 #[.int .i64 0, .int .i64 0, .bool true] (0, 0) _ rfl (bq_ BK114) Try.underlying26 rfl (by kernel_rfl)) rfl ?_; exact ⟨by first | rfl | (simp [errW_none, errW_some] <;> rfl) | (simp [*, errW_none, errW_some] <;> rfl), by repeat (first | (with_reducible first | exact HB.out | apply below_alloc | apply pw_below_drewN | apply below_drew1 | refine below_set ?_ GE111.out | refine below_set ?_ GE112.out | refine below_set ?_ GE113.out | refine below_set ?_ GE114.out) | exact HB.out)⟩
      ·
       rw [if_neg c31] at H
       have c31b0 : ((Int.tmod (wrap64 (a1_1 + a2_1)) a0_0) == 0) = false := beq_eq_false_iff_ne.mpr c31
       have c31b1 : ((Int.tmod (wrap64 (a1_1 + a2_1)) a0_0) != 0) = true := bne_iff_ne.mpr c31
       have H' := Aside0.mk H
       clear H; obtain ⟨hnb42, hnc42⟩ := nn_ NB112_111; obtain ⟨hnb43, hnc43⟩ := nn_ NB112_113; obtain ⟨hnb44, hnc44⟩ := nn_ NB112_114
       obtain ⟨hcz45_0, hcz45_1, hcz45_2, hfz45_0, hfz45_1, hfz45_2⟩ := bx3_ BK112; obtain ⟨hnb46, hnc46⟩ := nn_ NB113_111; obtain ⟨hnb47, hnc47⟩ := nn_ NB113_114
       obtain ⟨hcz48_0, hcz48_1, hcz48_2, hfz48_0, hfz48_1, hfz48_2⟩ := bx3_ BK113; obtain ⟨hnb49, hnc49⟩ := nn_ NB111_114
       obtain ⟨hcz50_0, hcz50_1, hcz50_2, hcz50_3, hcz50_4, hcz50_5, hfz50_0, hfz50_1, hfz50_2, hfz50_3, hfz50_4, hfz50_5⟩ := bx6_ BK111
       go_wp2
       repeat (go_quiet (fail); try go_wp2)
       go_meet
       case rel => exact ⟨_, (0), (0), (false), H', ⟨by first | omega | exact Nat.le_refl _⟩, ⟨bk_ BK111⟩, ⟨bk_ BK112⟩, ⟨bk_ BK113⟩, ⟨bk_ BK114⟩, ⟨bw_ HB⟩⟩
    ·
     rw [if_neg c29] at H
     have c29b0 : (a1_0 == a2_0) = false := beq_eq_false_iff_ne.mpr c29
     have c29b1 : (a1_0 != a2_0) = true := bne_iff_ne.mpr c29
     (first | rw [c29b0] | (simp only [i64_w, i32_w]; rw [c29b0]) | skip)
     have H' := Aside0.mk H
     clear H; obtain ⟨hnb51, hnc51⟩ := nn_ NB112_111; obtain ⟨hnb52, hnc52⟩ := nn_ NB112_113; obtain ⟨hnb53, hnc53⟩ := nn_ NB112_114
     obtain ⟨hcz54_0, hcz54_1, hcz54_2, hfz54_0, hfz54_1, hfz54_2⟩ := bx3_ BK112; obtain ⟨hnb55, hnc55⟩ := nn_ NB113_111; obtain ⟨hnb56, hnc56⟩ := nn_ NB113_114
     obtain ⟨hcz57_0, hcz57_1, hcz57_2, hfz57_0, hfz57_1, hfz57_2⟩ := bx3_ BK113
     go_wp2
     repeat (go_quiet (fail); try go_wp2)
     go_meet
     case rel => exact ⟨_, (0), (0), (false), H', ⟨by first | omega | exact Nat.le_refl _⟩, ⟨bk_ BK111⟩, ⟨bk_ BK112⟩, ⟨bk_ BK113⟩, ⟨bk_ BK114⟩, ⟨bw_ HB⟩⟩
 case rest =>
  clear HC4
  try clear c1
  try clear c2
  try clear p2
  try clear c3
  try clear c4
  try clear c5
  try clear p6
  try clear c9
  try clear c10
  try clear c11
  try clear c12
  try clear c14
  try clear c15
  try clear c17
  try clear c19
  try clear c20
  try clear c21
  try clear c22
  try clear c24
  try clear c25
  try clear c27
  try clear c29
  try clear c29b0
  try clear c29b1
  try clear c30
  try clear c30b0
  try clear c30b1
  try clear c31
  try clear c31b0
  try clear c31b1
  try clear c32
  try clear c33
  try clear c34
  try clear c36
  try clear c37
  try clear c39
  try clear c42
  try clear c43
  try clear c44
  try clear c46
  try clear c47
  try clear c49
  try clear c51
  try clear c52
  try clear c53
  try clear c55
  try clear c56
  try clear hcz13_0 hcz13_1 hcz13_2
  try clear hcz16_0 hcz16_1 hcz16_2
  try clear hcz18_0 hcz18_1 hcz18_2
  try clear hcz23_0 hcz23_1 hcz23_2
  try clear hcz26_0 hcz26_1 hcz26_2
  try clear hcz28_0 hcz28_1 hcz28_2
  try clear hcz35_0 hcz35_1 hcz35_2
  try clear hcz38_0 hcz38_1 hcz38_2
  try clear hcz40_0 hcz40_1 hcz40_2 hcz40_3 hcz40_4 hcz40_5
  try clear hcz41_0 hcz41_1 hcz41_2
  try clear hcz45_0 hcz45_1 hcz45_2
  try clear hcz48_0 hcz48_1 hcz48_2
  try clear hcz50_0 hcz50_1 hcz50_2 hcz50_3 hcz50_4 hcz50_5
  try clear hcz54_0 hcz54_1 hcz54_2
  try clear hcz57_0 hcz57_1 hcz57_2
  try clear hfz13_0 hfz13_1 hfz13_2
  try clear hfz16_0 hfz16_1 hfz16_2
  try clear hfz18_0 hfz18_1 hfz18_2
  try clear hfz23_0 hfz23_1 hfz23_2
  try clear hfz26_0 hfz26_1 hfz26_2
  try clear hfz28_0 hfz28_1 hfz28_2
  try clear hfz35_0 hfz35_1 hfz35_2
  try clear hfz38_0 hfz38_1 hfz38_2
  try clear hfz40_0 hfz40_1 hfz40_2 hfz40_3 hfz40_4 hfz40_5
  try clear hfz41_0 hfz41_1 hfz41_2
  try clear hfz45_0 hfz45_1 hfz45_2
  try clear hfz48_0 hfz48_1 hfz48_2
  try clear hfz50_0 hfz50_1 hfz50_2 hfz50_3 hfz50_4 hfz50_5
  try clear hfz54_0 hfz54_1 hfz54_2
  try clear hfz57_0 hfz57_1 hfz57_2
  obtain ⟨kq, x115000_3, x115001_3, x115002_3, HA, HJ3, BK111, BK112, BK113, BK114, HB⟩ := hcut
  cases kq with
  | zero => exact absurd HA.out (by simp [impl_Curve_sum.j0])
  | succ kj3 =>
   have H := HA.out; clear HA
   simp only [impl_Curve_sum.j0] at H
   have HC58 := Aside0.mk H; clear H; obtain ⟨hnb59, hnc59⟩ := nn_ NB113_111; obtain ⟨hnb60, hnc60⟩ := nn_ NB113_112; obtain ⟨hnb61, hnc61⟩ := nn_ NB113_114
   obtain ⟨hcz62_0, hcz62_1, hcz62_2, hfz62_0, hfz62_1, hfz62_2⟩ := bx3_ BK113; obtain ⟨hnb63, hnc63⟩ := nn_ NB112_111; obtain ⟨hnb64, hnc64⟩ := nn_ NB112_114
   obtain ⟨hcz65_0, hcz65_1, hcz65_2, hfz65_0, hfz65_1, hfz65_2⟩ := bx3_ BK112
   go_upto_if 51 with (fail)
   repeat (go_quiet (fail); go_upto_if 51 with (fail))
   go_cut [7, 8] (fun v7 v8 wc => ∃ (kq : Nat) (x7_57 : Int) (x8_57 : Int), v7 = .int .i64 x7_57 ∧ v8 = .int .i64 x8_57 ∧ Aside0 (impl_Curve_sum.j1 kq x7_57 x8_57 a0_0 a0_1 a0_2 a0_3 a0_4 a0_5 a1_0 a1_1 a1_2 a2_0 a2_1 a2_2 = some (r1, r2, r3)) ∧ Aside0 (kq ≤ kj3) ∧ Aside0 (wc.heap[gb111]? = some (.cells #[.int .i64 a0_0, .int .i64 a0_1, .int .i64 a0_2, .int .i64 a0_3, .int .i64 a0_4, .int .i64 a0_5] 29 (0, 0))) ∧ Aside0 (wc.heap[gb112]? = some (.cells #[.int .i64 a1_0, .int .i64 a1_1, .bool a1_2] 26 (0, 0))) ∧ Aside0 (wc.heap[gb113]? = some (.cells #[.int .i64 a2_0, .int .i64 a2_1, .bool a2_2] 26 (0, 0))) ∧ Aside0 (wc.heap[gb114]? = some (.cells #[.int .i64 x115000_3, .int .i64 x115001_3, .bool x115002_3] 26 (0, 0))) ∧ Aside0 (Below w.heap.size w wc))
   case first =>
    have H := HC58.out; clear HC58
    by_cases c66 : (a1_0 == a2_0 && (a1_1 == a2_1 && (a1_2 == a2_2))) = true
    ·
     rw [if_pos c66] at H
     have c66b0 : (a1_0 == a2_0 && (a1_1 == a2_1 && (a1_2 == a2_2))) = true := c66
     (try (have c66b1 : decide (a1_0 = a2_0 && (a1_1 == a2_1 && (a1_2 == a2_2))) = true := by simpa using c66)); (try (have c66b2 : (a1_0 == a2_0 && (a1_1 == a2_1 && (a1_2 == a2_2))) = true := by simpa using c66)); clear c66
     (first | rw [c66b0] | (simp only [i64_w, i32_w]; rw [c66b0]) | skip)
     have H' := Aside0.mk H
     clear H; obtain ⟨hnb67, hnc67⟩ := nn_ NB112_111; obtain ⟨hnb68, hnc68⟩ := nn_ NB112_113; obtain ⟨hnb69, hnc69⟩ := nn_ NB112_114
     obtain ⟨hcz70_0, hcz70_1, hcz70_2, hfz70_0, hfz70_1, hfz70_2⟩ := bx3_ BK112; obtain ⟨hnb71, hnc71⟩ := nn_ NB111_113; obtain ⟨hnb72, hnc72⟩ := nn_ NB111_114
     obtain ⟨hcz73_0, hcz73_1, hcz73_2, hcz73_3, hcz73_4, hcz73_5, hfz73_0, hfz73_1, hfz73_2, hfz73_3, hfz73_4, hfz73_5⟩ := bx6_ BK111
     go_wp2
     repeat (go_quiet (fail); try go_wp2)
     go_meet
     case rel => exact ⟨_, (wrap64 ((wrap64 ((wrap64 (3 * a1_0)) * a1_0)) + a0_1)), (wrap64 (2 * a1_1)), (by first | rfl | (simp; done) | (simp [*]; done)), (by first | rfl | (simp; done) | (simp [*]; done)), H', ⟨by have := HJ3.out; first | omega | exact Nat.le_refl _⟩, ⟨bk_ BK111⟩, ⟨bk_ BK112⟩, ⟨bk_ BK113⟩, ⟨bk_ BK114⟩, ⟨bw_ HB⟩⟩
    ·
     rw [if_neg c66] at H
     have c66b0 : (a1_0 == a2_0 && (a1_1 == a2_1 && (a1_2 == a2_2))) = false := by simpa using c66
     (try (have c66b1 : decide (a1_0 = a2_0 && (a1_1 == a2_1 && (a1_2 == a2_2))) = false := by simpa using c66)); (try (have c66b2 : (a1_0 == a2_0 && (a1_1 == a2_1 && (a1_2 == a2_2))) = false := by simpa using c66)); (try (have c66b3 : ¬ (a1_0 = a2_0 && (a1_1 == a2_1 && (a1_2 == a2_2))) := by simpa using c66)); clear c66
     (first | rw [c66b0] | (simp only [i64_w, i32_w]; rw [c66b0]) | skip)
     have H' := Aside0.mk H
     clear H
     go_wp2
     repeat (go_quiet (fail); try go_wp2)
     go_meet
     case rel => exact ⟨_, (wrap64 (a2_1 - a1_1)), (wrap64 (a2_0 - a1_0)), (by first | rfl | (simp; done) | (simp [*]; done)), (by first | rfl | (simp; done) | (simp [*]; done)), H', ⟨by have := HJ3.out; first | omega | exact Nat.le_refl _⟩, ⟨bk_ BK111⟩, ⟨bk_ BK112⟩, ⟨bk_ BK113⟩, ⟨bk_ BK114⟩, ⟨bw_ HB⟩⟩
   case rest =>
    clear HC58
    try clear c1
    try clear c2
    try clear p2
    try clear c3
    try clear c4
    try clear c5
    try clear c6
    try clear p6
    try clear c7
    try clear c9
    try clear c10
    try clear c11
    try clear c12
    try clear c14
    try clear c15
    try clear c17
    try clear c19
    try clear c20
    try clear c21
    try clear c22
    try clear c24
    try clear c25
    try clear c27
    try clear c29
    try clear c29b0
    try clear c29b1
    try clear c30
    try clear c30b0
    try clear c30b1
    try clear c31
    try clear c31b0
    try clear c31b1
    try clear c32
    try clear c33
    try clear c34
    try clear c36
    try clear c37
    try clear c39
    try clear c42
    try clear c43
    try clear c44
    try clear c46
    try clear c47
    try clear c49
    try clear c51
    try clear c52
    try clear c53
    try clear c55
    try clear c56
    try clear c59
    try clear c60
    try clear c61
    try clear c63
    try clear c64
    try clear p64
    try clear c66
    try clear c66b0
    try clear c66b1
    try clear c66b2
    try clear c67
    try clear c68
    try clear c69
    try clear c71
    try clear c72
    try clear hcz13_0 hcz13_1 hcz13_2
    try clear hcz16_0 hcz16_1 hcz16_2
    try clear hcz18_0 hcz18_1 hcz18_2
    try clear hcz23_0 hcz23_1 hcz23_2
    try clear hcz26_0 hcz26_1 hcz26_2
    try clear hcz28_0 hcz28_1 hcz28_2
    try clear hcz35_0 hcz35_1 hcz35_2
    try clear hcz38_0 hcz38_1 hcz38_2
    try clear hcz40_0 hcz40_1 hcz40_2 hcz40_3 hcz40_4 hcz40_5
    try clear hcz41_0 hcz41_1 hcz41_2
    try clear hcz45_0 hcz45_1 hcz45_2
    try clear hcz48_0 hcz48_1 hcz48_2
    try clear hcz50_0 hcz50_1 hcz50_2 hcz50_3 hcz50_4 hcz50_5
    try clear hcz54_0 hcz54_1 hcz54_2
    try clear hcz57_0 hcz57_1 hcz57_2
    try clear hcz62_0 hcz62_1 hcz62_2
    try clear hcz65_0 hcz65_1 hcz65_2
    try clear hcz70_0 hcz70_1 hcz70_2
    try clear hcz73_0 hcz73_1 hcz73_2 hcz73_3 hcz73_4 hcz73_5
    try clear hfz13_0 hfz13_1 hfz13_2
    try clear hfz16_0 hfz16_1 hfz16_2
    try clear hfz18_0 hfz18_1 hfz18_2
    try clear hfz23_0 hfz23_1 hfz23_2
    try clear hfz26_0 hfz26_1 hfz26_2
    try clear hfz28_0 hfz28_1 hfz28_2
    try clear hfz35_0 hfz35_1 hfz35_2
    try clear hfz38_0 hfz38_1 hfz38_2
    try clear hfz40_0 hfz40_1 hfz40_2 hfz40_3 hfz40_4 hfz40_5
    try clear hfz41_0 hfz41_1 hfz41_2
    try clear hfz45_0 hfz45_1 hfz45_2
    try clear hfz48_0 hfz48_1 hfz48_2
    try clear hfz50_0 hfz50_1 hfz50_2 hfz50_3 hfz50_4 hfz50_5
    try clear hfz54_0 hfz54_1 hfz54_2
    try clear hfz57_0 hfz57_1 hfz57_2
    try clear hfz62_0 hfz62_1 hfz62_2
    try clear hfz65_0 hfz65_1 hfz65_2
    try clear hfz70_0 hfz70_1 hfz70_2
    try clear hfz73_0 hfz73_1 hfz73_2 hfz73_3 hfz73_4 hfz73_5
    try clear p2
    try clear p6
    obtain ⟨kq, x7_57, x8_57, rfl, rfl, HA, HJ57, BK111, BK112, BK113, BK114, HB⟩ := hcut
    cases kq with
    | zero => exact absurd HA.out (by simp [impl_Curve_sum.j1])
    | succ kj57 =>
     have H := HA.out; clear HA
     simp only [impl_Curve_sum.j1] at H
     obtain ⟨⟨t115, t116⟩, A740, H⟩ := pb_ H; have A74 := Aside0.mk A740; clear A740; obtain ⟨t117, A750, H⟩ := pb_ H
     have A75 := Aside0.mk A750; clear A750
     by_cases c76 : a0_0 = 0
     · rw [if_pos c76] at H; exact absurd H (by simp)
     ·
      rw [if_neg c76] at H
      have c76b0 : (a0_0 == 0) = false := beq_eq_false_iff_ne.mpr c76
      have c76b1 : (a0_0 != 0) = true := bne_iff_ne.mpr c76
      obtain ⟨t118, A770, H⟩ := pb_ H; have A77 := Aside0.mk A770; clear A770; obtain ⟨t119, A780, H⟩ := pb_ H
      have A78 := Aside0.mk A780; clear A780
      simp only [Option.some.injEq, Prod.mk.injEq] at H
      obtain ⟨rfl, rfl, rfl⟩ := H; obtain ⟨hnb79, hnc79⟩ := nn_ NB111_112; obtain ⟨hnb80, hnc80⟩ := nn_ NB111_113; obtain ⟨hnb81, hnc81⟩ := nn_ NB111_114
      obtain ⟨hcz82_0, hcz82_1, hcz82_2, hcz82_3, hcz82_4, hcz82_5, hfz82_0, hfz82_1, hfz82_2, hfz82_3, hfz82_4, hfz82_5⟩ := bx6_ BK111; obtain ⟨hnb83, hnc83⟩ := nn_ NB112_113; obtain ⟨hnb84, hnc84⟩ := nn_ NB112_114; obtain ⟨hcz85_0, hcz85_1, hcz85_2, hfz85_0, hfz85_1, hfz85_2⟩ := bx3_ BK112; obtain ⟨hnb86, hnc86⟩ := nn_ NB113_114; obtain ⟨hcz87_0, hcz87_1, hcz87_2, hfz87_0, hfz87_1, hfz87_2⟩ := bx3_ BK113
      obtain ⟨hcz88_0, hcz88_1, hcz88_2, hfz88_0, hfz88_1, hfz88_2⟩ := bx3_ BK114
      go_wp2_with (first | (go_at_call 54; (with_reducible refine (impl_InvInt.calls kj57 x8_57 a0_0 t115 t116 _ A74.out).mono ?_); rintro e w' ⟨rfl, ⟨nd, rfl⟩⟩; (try first | exact ⟨rfl, _, World.drewN_drewN _ _ _⟩ | exact ⟨rfl, _, Eq.trans (World.drewN_drewN _ _ _) (congrArg (World.drewN _) (Nat.add_assoc _ _ _))⟩)) | (go_at_call 55; (with_reducible refine (impl_rest.calls x7_57 a0_0 t117 _ A75.out).mono ?_); rintro e w' ⟨rfl, ⟨nd, rfl⟩⟩; (try first | exact ⟨rfl, _, World.drewN_drewN _ _ _⟩ | exact ⟨rfl, _, Eq.trans (World.drewN_drewN _ _ _) (congrArg (World.drewN _) (Nat.add_assoc _ _ _))⟩)) | (go_at_call 55; (with_reducible refine (impl_rest.calls (wrap64 ((wrap64 ((wrap64 ((Int.tmod (wrap64 (t117 * t115)) a0_0) * (Int.tmod (wrap64 (t117 * t115)) a0_0))) - a1_0)) - a2_0)) a0_0 t118 _ A77.out).mono ?_); rintro e w' ⟨rfl, ⟨nd, rfl⟩⟩; (try first | exact ⟨rfl, _, World.drewN_drewN _ _ _⟩ | exact ⟨rfl, _, Eq.trans (World.drewN_drewN _ _ _) (congrArg (World.drewN _) (Nat.add_assoc _ _ _))⟩)) | (go_at_call 55; (with_reducible refine (impl_rest.calls (wrap64 ((wrap64 ((Int.tmod (wrap64 (t117 * t115)) a0_0) * (wrap64 (a1_0 - t118)))) - a1_1)) a0_0 t119 _ A78.out).mono ?_); rintro e w' ⟨rfl, ⟨nd, rfl⟩⟩; (try first | exact ⟨rfl, _, World.drewN_drewN _ _ _⟩ | exact ⟨rfl, _, Eq.trans (World.drewN_drewN _ _ _) (congrArg (World.drewN _) (Nat.add_assoc _ _ _))⟩)))
      repeat (go_quiet (first | (go_at_call 54; (with_reducible refine (impl_InvInt.calls kj57 x8_57 a0_0 t115 t116 _ A74.out).mono ?_); rintro e w' ⟨rfl, ⟨nd, rfl⟩⟩; (try first | exact ⟨rfl, _, World.drewN_drewN _ _ _⟩ | exact ⟨rfl, _, Eq.trans (World.drewN_drewN _ _ _) (congrArg (World.drewN _) (Nat.add_assoc _ _ _))⟩)) | (go_at_call 55; (with_reducible refine (impl_rest.calls x7_57 a0_0 t117 _ A75.out).mono ?_); rintro e w' ⟨rfl, ⟨nd, rfl⟩⟩; (try first | exact ⟨rfl, _, World.drewN_drewN _ _ _⟩ | exact ⟨rfl, _, Eq.trans (World.drewN_drewN _ _ _) (congrArg (World.drewN _) (Nat.add_assoc _ _ _))⟩)) | (go_at_call 55; (with_reducible refine (impl_rest.calls (wrap64 ((wrap64 ((wrap64 ((Int.tmod (wrap64 (t117 * t115)) a0_0) * (Int.tmod (wrap64 (t117 * t115)) a0_0))) - a1_0)) - a2_0)) a0_0 t118 _ A77.out).mono ?_); rintro e w' ⟨rfl, ⟨nd, rfl⟩⟩; (try first | exact ⟨rfl, _, World.drewN_drewN _ _ _⟩ | exact ⟨rfl, _, Eq.trans (World.drewN_drewN _ _ _) (congrArg (World.drewN _) (Nat.add_assoc _ _ _))⟩)) | (go_at_call 55; (with_reducible refine (impl_rest.calls (wrap64 ((wrap64 ((Int.tmod (wrap64 (t117 * t115)) a0_0) * (wrap64 (a1_0 - t118)))) - a1_1)) a0_0 t119 _ A78.out).mono ?_); rintro e w' ⟨rfl, ⟨nd, rfl⟩⟩; (try first | exact ⟨rfl, _, World.drewN_drewN _ _ _⟩ | exact ⟨rfl, _, Eq.trans (World.drewN_drewN _ _ _) (congrArg (World.drewN _) (Nat.add_assoc _ _ _))⟩))); try go_wp2_with (first | (go_at_call 54; (with_reducible refine (impl_InvInt.calls kj57 x8_57 a0_0 t115 t116 _ A74.out).mono ?_); rintro e w' ⟨rfl, ⟨nd, rfl⟩⟩; (try first | exact ⟨rfl, _, World.drewN_drewN _ _ _⟩ | exact ⟨rfl, _, Eq.trans (World.drewN_drewN _ _ _) (congrArg (World.drewN _) (Nat.add_assoc _ _ _))⟩)) | (go_at_call 55; (with_reducible refine (impl_rest.calls x7_57 a0_0 t117 _ A75.out).mono ?_); rintro e w' ⟨rfl, ⟨nd, rfl⟩⟩; (try first | exact ⟨rfl, _, World.drewN_drewN _ _ _⟩ | exact ⟨rfl, _, Eq.trans (World.drewN_drewN _ _ _) (congrArg (World.drewN _) (Nat.add_assoc _ _ _))⟩)) | (go_at_call 55; (with_reducible refine (impl_rest.calls (wrap64 ((wrap64 ((wrap64 ((Int.tmod (wrap64 (t117 * t115)) a0_0) * (Int.tmod (wrap64 (t117 * t115)) a0_0))) - a1_0)) - a2_0)) a0_0 t118 _ A77.out).mono ?_); rintro e w' ⟨rfl, ⟨nd, rfl⟩⟩; (try first | exact ⟨rfl, _, World.drewN_drewN _ _ _⟩ | exact ⟨rfl, _, Eq.trans (World.drewN_drewN _ _ _) (congrArg (World.drewN _) (Nat.add_assoc _ _ _))⟩)) | (go_at_call 55; (with_reducible refine (impl_rest.calls (wrap64 ((wrap64 ((Int.tmod (wrap64 (t117 * t115)) a0_0) * (wrap64 (a1_0 - t118)))) - a1_1)) a0_0 t119 _ A78.out).mono ?_); rintro e w' ⟨rfl, ⟨nd, rfl⟩⟩; (try first | exact ⟨rfl, _, World.drewN_drewN _ _ _⟩ | exact ⟨rfl, _, Eq.trans (World.drewN_drewN _ _ _) (congrArg (World.drewN _) (Nat.add_assoc _ _ _))⟩))))
      refine bodyPost_ret (results_cell_row rfl _ _ gb114 26 #[.int .i64 t118, .int .i64 t119, .bool false] (0, 0) _ rfl (bq_ BK114) Try.underlying26 rfl (by kernel_rfl)) rfl ?_; exact ⟨by first | rfl | (simp [errW_none, errW_some] <;> rfl) | (simp [*, errW_none, errW_some] <;> rfl), by repeat (first | (with_reducible first | exact HB.out | apply below_alloc | apply pw_below_drewN | apply below_drew1 | refine below_set ?_ GE111.out | refine below_set ?_ GE112.out | refine below_set ?_ GE113.out | refine below_set ?_ GE114.out) | exact HB.out)⟩

end Go.Proofs.Ytadmkolopcdffaa.PFnCurves
