-- Written for this claim by a program of this session.
import Derived.Test.YtadmkolopcdffaaPFnExactPointAddx0
namespace Go.Proofs.Ytadmkolopcdffaa.PFnExactPointAdd
open Go.RowKit Go.Proofs.YtadmkolopcdffaaW.PrintWords Go.Proofs.YtadmkolopcdffaaW.PrintLast Go.Proofs.YtadmkolopcdffaaW.PrintMore
attribute [local go_sem] max2_int min2_int max_two min_two max_three min_three max_four min_four   -- for this text's walks alone
set_option linter.unusedVariables false
set_option linter.unusedSimpArgs false

attribute [local go_sem] fld_
/-! ### spec_l1In: function 51 -/
def spec_l1In.f (a0 : Int) (a1 : Int) (a2 : Int) : Option (Bool) := if a0 ≥ a1 then (some (decide (a0 ≤ a2))) else (some false)
set_option maxHeartbeats 8000000 in
set_option maxRecDepth 100000 in
theorem spec_l1In.calls (a0 : Int) (a1 : Int) (a2 : Int) (r : Bool) (w : World) (h : spec_l1In.f a0 a1 a2 = some r) :
    Calls Try.prog 51 #[.int .i64 a0, .int .i64 a1, .int .i64 a2] w fun e w' => e = .returned (.bool r) ∧ Drawn0 w w' := by
  have H : (if a0 ≥ a1 then (some (decide (a0 ≤ a2))) else (some false)) = some r := h
  clear h
  by_cases c4 : a0 ≥ a1
  · rw [if_pos c4] at H
    have c4b0 : decide (a1 ≤ a0) = true := decide_eq_true c4
    clear c4
    obtain rfl := Option.some.inj H
    go_enter Try.func51, Try.ntmps51
    go_wp2
    go_ret
    exact ⟨by first | rfl | (simp; done) | (simp [*]; done), by repeat (first | exact Drawn0.refl _ | apply Drawn0.step)⟩
  · rw [if_neg c4] at H
    have c4b0 : decide (a1 ≤ a0) = false := decide_eq_false c4
    clear c4
    obtain rfl := Option.some.inj H
    go_enter Try.func51, Try.ntmps51
    go_wp2
    go_ret
    exact ⟨by first | rfl | (simp; done) | (simp [*]; done), by repeat (first | exact Drawn0.refl _ | apply Drawn0.step)⟩

attribute [local go_sem] fld_
/-! ### spec_l3On: function 30 -/
def spec_l3On.f (a0_0 : Int) (a0_1 : Int) (a0_2 : Int) (a0_3 : Int) (a0_4 : Int) (a0_5 : Int) (a1_0 : Int) (a1_1 : Int) (a1_2 : Bool) : Option (Bool) := if a1_2 = true then (if a1_0 = 0 then (some (a1_1 == 0)) else (some false)) else ((spec_l1In.f a1_0 0 (wrap64 (a0_0 - 1))).bind fun t103 => (if t103 = true then ((spec_l1In.f a1_1 0 (wrap64 (a0_0 - 1))).bind fun t104 => (if t104 = true then (if a0_0 = 0 then (none) else (some ((Int.tmod (wrap64 (a1_1 * a1_1)) a0_0) == (Int.tmod (wrap64 ((wrap64 ((wrap64 ((Int.tmod (wrap64 (a1_0 * a1_0)) a0_0) + a0_1)) * a1_0)) + a0_2)) a0_0)))) else (some false))) else (some false)))
set_option maxHeartbeats 8000000 in
set_option maxRecDepth 100000 in
theorem spec_l3On.calls (a0_0 : Int) (a0_1 : Int) (a0_2 : Int) (a0_3 : Int) (a0_4 : Int) (a0_5 : Int) (a1_0 : Int) (a1_1 : Int) (a1_2 : Bool) (r : Bool) (w : World) (h : spec_l3On.f a0_0 a0_1 a0_2 a0_3 a0_4 a0_5 a1_0 a1_1 a1_2 = some r) :
  Calls Try.prog 30 #[.agg #[.int .i64 a0_0, .int .i64 a0_1, .int .i64 a0_2, .int .i64 a0_3, .int .i64 a0_4, .int .i64 a0_5], .agg #[.int .i64 a1_0, .int .i64 a1_1, .bool a1_2]] w fun e w' => e = .returned (.bool r) ∧ Below w.heap.size w w' := by
 have hu29 := Try.underlying29; have hu26 := Try.underlying26; have HB := Aside0.mk (Below.refl w.heap.size w)
 have H : (if a1_2 = true then (if a1_0 = 0 then (some (a1_1 == 0)) else (some false)) else ((spec_l1In.f a1_0 0 (wrap64 (a0_0 - 1))).bind fun t103 => (if t103 = true then ((spec_l1In.f a1_1 0 (wrap64 (a0_0 - 1))).bind fun t104 => (if t104 = true then (if a0_0 = 0 then (none) else (some ((Int.tmod (wrap64 (a1_1 * a1_1)) a0_0) == (Int.tmod (wrap64 ((wrap64 ((wrap64 ((Int.tmod (wrap64 (a1_0 * a1_0)) a0_0) + a0_1)) * a1_0)) + a0_2)) a0_0)))) else (some false))) else (some false)))) = some r := h
 clear h
 by_cases c3 : a1_2 = true
 ·
  subst c3
  have H1 : (if a1_0 = 0 then (some (a1_1 == 0)) else (some false)) = some r := by rw [if_pos rfl] at H; exact H
  clear H; have H := H1; clear H1
  by_cases c4 : a1_0 = 0
  ·
   rw [if_pos c4] at H
   have c4b0 : (a1_0 == 0) = true := beq_iff_eq.mpr c4
   have c4b1 : (a1_0 != 0) = false := bne_eq_false_iff_eq.mpr c4
   clear c4; obtain rfl := Option.some.inj H
   go_enter Try.func30, Try.ntmps30
   go_wp2_with (first | ((with_reducible refine gate_dst (N := 2) rfl ?_); refine box_event ?hg (N := 2) ?hd (cs := #[.int .i64 a0_0, .int .i64 a0_1, .int .i64 a0_2, .int .i64 a0_3, .int .i64 a0_4, .int .i64 a0_5]) (t := 29) ?hr ?_; (case hd => rfl); (case hg => rfl); (case hr => first | (go_simp; done) | (go_simp; rfl)); intro gb101 hg w5 hbox hb; have BK101 := Aside0.mk hbox; have GW101 := ge_ HB hg; have GE101 := ge_ HB hg; replace HB := bs_ HB hb; clear hb hbox hg) | ((with_reducible refine gate_dst (N := 3) rfl ?_); refine box_event ?hg (N := 3) ?hd (cs := #[.int .i64 a1_0, .int .i64 a1_1, .bool true]) (t := 26) ?hr ?_; (case hd => rfl); (case hg => rfl); (case hr => first | (go_simp; done) | (go_simp; rfl)); intro gb102 hg w6 hbox hb; have BK102 := Aside0.mk hbox; have GW102 := ge_ HB hg; have GE102 := ge_ HB hg; have NB101_102 := nl_ BK101 hg; have NB102_101 := nr_ BK101 hg; replace BK101 := bb_ BK101 hb; replace HB := bs_ HB hb; clear hb hbox hg; have hnb7 := NB102_101.out; have hnc7 := NB101_102.out; have hcz8_0 : w6.cell? ⟨gb102, 0, none⟩ = some (.int .i64 a1_0) := bc_ BK102 0; have hcz8_1 : w6.cell? ⟨gb102, 1, none⟩ = some (.int .i64 a1_1) := bc_ BK102 1; have hcz8_2 : w6.cell? ⟨gb102, 2, none⟩ = some (.bool true) := bc_ BK102 2; have hfz8_0 := blk_frozen BK102.out 0; have hfz8_1 := blk_frozen BK102.out 1; have hfz8_2 := blk_frozen BK102.out 2))
   repeat (go_quiet (first | ((with_reducible refine gate_dst (N := 2) rfl ?_); refine box_event ?hg (N := 2) ?hd (cs := #[.int .i64 a0_0, .int .i64 a0_1, .int .i64 a0_2, .int .i64 a0_3, .int .i64 a0_4, .int .i64 a0_5]) (t := 29) ?hr ?_; (case hd => rfl); (case hg => rfl); (case hr => first | (go_simp; done) | (go_simp; rfl)); intro gb101 hg w5 hbox hb; have BK101 := Aside0.mk hbox; have GW101 := ge_ HB hg; have GE101 := ge_ HB hg; replace HB := bs_ HB hb; clear hb hbox hg) | ((with_reducible refine gate_dst (N := 3) rfl ?_); refine box_event ?hg (N := 3) ?hd (cs := #[.int .i64 a1_0, .int .i64 a1_1, .bool true]) (t := 26) ?hr ?_; (case hd => rfl); (case hg => rfl); (case hr => first | (go_simp; done) | (go_simp; rfl)); intro gb102 hg w6 hbox hb; have BK102 := Aside0.mk hbox; have GW102 := ge_ HB hg; have GE102 := ge_ HB hg; have NB101_102 := nl_ BK101 hg; have NB102_101 := nr_ BK101 hg; replace BK101 := bb_ BK101 hb; replace HB := bs_ HB hb; clear hb hbox hg; have hnb7 := NB102_101.out; have hnc7 := NB101_102.out; have hcz8_0 : w6.cell? ⟨gb102, 0, none⟩ = some (.int .i64 a1_0) := bc_ BK102 0; have hcz8_1 : w6.cell? ⟨gb102, 1, none⟩ = some (.int .i64 a1_1) := bc_ BK102 1; have hcz8_2 : w6.cell? ⟨gb102, 2, none⟩ = some (.bool true) := bc_ BK102 2; have hfz8_0 := blk_frozen BK102.out 0; have hfz8_1 := blk_frozen BK102.out 1; have hfz8_2 := blk_frozen BK102.out 2)); try go_wp2_with (first | ((with_reducible refine gate_dst (N := 2) rfl ?_); refine box_event ?hg (N := 2) ?hd (cs := #[.int .i64 a0_0, .int .i64 a0_1, .int .i64 a0_2, .int .i64 a0_3, .int .i64 a0_4, .int .i64 a0_5]) (t := 29) ?hr ?_; (case hd => rfl); (case hg => rfl); (case hr => first | (go_simp; done) | (go_simp; rfl)); intro gb101 hg w5 hbox hb; have BK101 := Aside0.mk hbox; have GW101 := ge_ HB hg; have GE101 := ge_ HB hg; replace HB := bs_ HB hb; clear hb hbox hg) | ((with_reducible refine gate_dst (N := 3) rfl ?_); refine box_event ?hg (N := 3) ?hd (cs := #[.int .i64 a1_0, .int .i64 a1_1, .bool true]) (t := 26) ?hr ?_; (case hd => rfl); (case hg => rfl); (case hr => first | (go_simp; done) | (go_simp; rfl)); intro gb102 hg w6 hbox hb; have BK102 := Aside0.mk hbox; have GW102 := ge_ HB hg; have GE102 := ge_ HB hg; have NB101_102 := nl_ BK101 hg; have NB102_101 := nr_ BK101 hg; replace BK101 := bb_ BK101 hb; replace HB := bs_ HB hb; clear hb hbox hg; have hnb7 := NB102_101.out; have hnc7 := NB101_102.out; have hcz8_0 : w6.cell? ⟨gb102, 0, none⟩ = some (.int .i64 a1_0) := bc_ BK102 0; have hcz8_1 : w6.cell? ⟨gb102, 1, none⟩ = some (.int .i64 a1_1) := bc_ BK102 1; have hcz8_2 : w6.cell? ⟨gb102, 2, none⟩ = some (.bool true) := bc_ BK102 2; have hfz8_0 := blk_frozen BK102.out 0; have hfz8_1 := blk_frozen BK102.out 1; have hfz8_2 := blk_frozen BK102.out 2)))
   go_ret
   exact ⟨by first | rfl | (simp [errW_none, errW_some] <;> rfl) | (simp [*, errW_none, errW_some] <;> rfl), by repeat (first | (with_reducible first | exact HB.out | apply below_alloc | apply pw_below_drewN | apply below_drew1 | refine below_set ?_ GE101.out | refine below_set ?_ GE102.out) | exact HB.out)⟩
  ·
   rw [if_neg c4] at H
   have c4b0 : (a1_0 == 0) = false := beq_eq_false_iff_ne.mpr c4
   have c4b1 : (a1_0 != 0) = true := bne_iff_ne.mpr c4
   obtain rfl := Option.some.inj H
   go_enter Try.func30, Try.ntmps30
   go_wp2_with (first | ((with_reducible refine gate_dst (N := 2) rfl ?_); refine box_event ?hg (N := 2) ?hd (cs := #[.int .i64 a0_0, .int .i64 a0_1, .int .i64 a0_2, .int .i64 a0_3, .int .i64 a0_4, .int .i64 a0_5]) (t := 29) ?hr ?_; (case hd => rfl); (case hg => rfl); (case hr => first | (go_simp; done) | (go_simp; rfl)); intro gb101 hg w9 hbox hb; have BK101 := Aside0.mk hbox; have GW101 := ge_ HB hg; have GE101 := ge_ HB hg; replace HB := bs_ HB hb; clear hb hbox hg) | ((with_reducible refine gate_dst (N := 3) rfl ?_); refine box_event ?hg (N := 3) ?hd (cs := #[.int .i64 a1_0, .int .i64 a1_1, .bool true]) (t := 26) ?hr ?_; (case hd => rfl); (case hg => rfl); (case hr => first | (go_simp; done) | (go_simp; rfl)); intro gb102 hg w10 hbox hb; have BK102 := Aside0.mk hbox; have GW102 := ge_ HB hg; have GE102 := ge_ HB hg; have NB101_102 := nl_ BK101 hg; have NB102_101 := nr_ BK101 hg; replace BK101 := bb_ BK101 hb; replace HB := bs_ HB hb; clear hb hbox hg; have hnb11 := NB102_101.out; have hnc11 := NB101_102.out; have hcz12_0 : w10.cell? ⟨gb102, 0, none⟩ = some (.int .i64 a1_0) := bc_ BK102 0; have hcz12_1 : w10.cell? ⟨gb102, 1, none⟩ = some (.int .i64 a1_1) := bc_ BK102 1; have hcz12_2 : w10.cell? ⟨gb102, 2, none⟩ = some (.bool true) := bc_ BK102 2; have hfz12_0 := blk_frozen BK102.out 0; have hfz12_1 := blk_frozen BK102.out 1; have hfz12_2 := blk_frozen BK102.out 2))
   repeat (go_quiet (first | ((with_reducible refine gate_dst (N := 2) rfl ?_); refine box_event ?hg (N := 2) ?hd (cs := #[.int .i64 a0_0, .int .i64 a0_1, .int .i64 a0_2, .int .i64 a0_3, .int .i64 a0_4, .int .i64 a0_5]) (t := 29) ?hr ?_; (case hd => rfl); (case hg => rfl); (case hr => first | (go_simp; done) | (go_simp; rfl)); intro gb101 hg w9 hbox hb; have BK101 := Aside0.mk hbox; have GW101 := ge_ HB hg; have GE101 := ge_ HB hg; replace HB := bs_ HB hb; clear hb hbox hg) | ((with_reducible refine gate_dst (N := 3) rfl ?_); refine box_event ?hg (N := 3) ?hd (cs := #[.int .i64 a1_0, .int .i64 a1_1, .bool true]) (t := 26) ?hr ?_; (case hd => rfl); (case hg => rfl); (case hr => first | (go_simp; done) | (go_simp; rfl)); intro gb102 hg w10 hbox hb; have BK102 := Aside0.mk hbox; have GW102 := ge_ HB hg; have GE102 := ge_ HB hg; have NB101_102 := nl_ BK101 hg; have NB102_101 := nr_ BK101 hg; replace BK101 := bb_ BK101 hb; replace HB := bs_ HB hb; clear hb hbox hg; have hnb11 := NB102_101.out; have hnc11 := NB101_102.out; have hcz12_0 : w10.cell? ⟨gb102, 0, none⟩ = some (.int .i64 a1_0) := bc_ BK102 0; have hcz12_1 : w10.cell? ⟨gb102, 1, none⟩ = some (.int .i64 a1_1) := bc_ BK102 1; have hcz12_2 : w10.cell? ⟨gb102, 2, none⟩ = some (.bool true) := bc_ BK102 2; have hfz12_0 := blk_frozen BK102.out 0; have hfz12_1 := blk_frozen BK102.out 1; have hfz12_2 := blk_frozen BK102.out 2)); try go_wp2_with (first | ((with_reducible refine gate_dst (N := 2) rfl ?_); refine box_event ?hg (N := 2) ?hd (cs := #[.int .i64 a0_0, .int .i64 a0_1, .int .i64 a0_2, .int .i64 a0_3, .int .i64 a0_4, .int .i64 a0_5]) (t := 29) ?hr ?_; (case hd => rfl); (case hg => rfl); (case hr => first | (go_simp; done) | (go_simp; rfl)); intro gb101 hg w9 hbox hb; have BK101 := Aside0.mk hbox; have GW101 := ge_ HB hg; have GE101 := ge_ HB hg; replace HB := bs_ HB hb; clear hb hbox hg) | ((with_reducible refine gate_dst (N := 3) rfl ?_); refine box_event ?hg (N := 3) ?hd (cs := #[.int .i64 a1_0, .int .i64 a1_1, .bool true]) (t := 26) ?hr ?_; (case hd => rfl); (case hg => rfl); (case hr => first | (go_simp; done) | (go_simp; rfl)); intro gb102 hg w10 hbox hb; have BK102 := Aside0.mk hbox; have GW102 := ge_ HB hg; have GE102 := ge_ HB hg; have NB101_102 := nl_ BK101 hg; have NB102_101 := nr_ BK101 hg; replace BK101 := bb_ BK101 hb; replace HB := bs_ HB hb; clear hb hbox hg; have hnb11 := NB102_101.out; have hnc11 := NB101_102.out; have hcz12_0 : w10.cell? ⟨gb102, 0, none⟩ = some (.int .i64 a1_0) := bc_ BK102 0; have hcz12_1 : w10.cell? ⟨gb102, 1, none⟩ = some (.int .i64 a1_1) := bc_ BK102 1; have hcz12_2 : w10.cell? ⟨gb102, 2, none⟩ = some (.bool true) := bc_ BK102 2; have hfz12_0 := blk_frozen BK102.out 0; have hfz12_1 := blk_frozen BK102.out 1; have hfz12_2 := blk_frozen BK102.out 2)))
   go_ret
   exact ⟨by first | rfl | (simp [errW_none, errW_some] <;> rfl) | (simp [*, errW_none, errW_some] <;> rfl), by repeat (first | (with_reducible first | exact HB.out | apply below_alloc | apply pw_below_drewN | apply below_drew1 | refine below_set ?_ GE101.out | refine below_set ?_ GE102.out) | exact HB.out)⟩
 ·
  replace c3 := Bool.eq_false_iff.mpr c3; subst c3
  have H1 : ((spec_l1In.f a1_0 0 (wrap64 (a0_0 - 1))).bind fun t103 => (if t103 = true then ((spec_l1In.f a1_1 0 (wrap64 (a0_0 - 1))).bind fun t104 => (if t104 = true then (if a0_0 = 0 then (none) else (some ((Int.tmod (wrap64 (a1_1 * a1_1)) a0_0) == (Int.tmod (wrap64 ((wrap64 ((wrap64 ((Int.tmod (wrap64 (a1_0 * a1_0)) a0_0) + a0_1)) * a1_0)) + a0_2)) a0_0)))) else (some false))) else (some false))) = some r := by rw [if_neg (show ¬ (false = true) by decide)] at H; exact H
  clear H; have H := H1; clear H1; replace H := Option.bind_eq_some_iff.mp H; obtain ⟨t103, A130, H⟩ := H
  replace H : (if t103 = true then ((spec_l1In.f a1_1 0 (wrap64 (a0_0 - 1))).bind fun t104 => (if t104 = true then (if a0_0 = 0 then (none) else (some ((Int.tmod (wrap64 (a1_1 * a1_1)) a0_0) == (Int.tmod (wrap64 ((wrap64 ((wrap64 ((Int.tmod (wrap64 (a1_0 * a1_0)) a0_0) + a0_1)) * a1_0)) + a0_2)) a0_0)))) else (some false))) else (some false)) = some r := H
  have A13 := Aside0.mk A130; clear A130
  by_cases c14 : t103 = true
  ·
   subst c14
   have H1 : ((spec_l1In.f a1_1 0 (wrap64 (a0_0 - 1))).bind fun t104 => (if t104 = true then (if a0_0 = 0 then (none) else (some ((Int.tmod (wrap64 (a1_1 * a1_1)) a0_0) == (Int.tmod (wrap64 ((wrap64 ((wrap64 ((Int.tmod (wrap64 (a1_0 * a1_0)) a0_0) + a0_1)) * a1_0)) + a0_2)) a0_0)))) else (some false))) = some r := by rw [if_pos rfl] at H; exact H
   clear H; have H := H1; clear H1; replace H := Option.bind_eq_some_iff.mp H; obtain ⟨t104, A150, H⟩ := H
   replace H : (if t104 = true then (if a0_0 = 0 then (none) else (some ((Int.tmod (wrap64 (a1_1 * a1_1)) a0_0) == (Int.tmod (wrap64 ((wrap64 ((wrap64 ((Int.tmod (wrap64 (a1_0 * a1_0)) a0_0) + a0_1)) * a1_0)) + a0_2)) a0_0)))) else (some false)) = some r := H
   have A15 := Aside0.mk A150; clear A150
   by_cases c16 : t104 = true
   ·
    subst c16
    have H1 : (if a0_0 = 0 then (none) else (some ((Int.tmod (wrap64 (a1_1 * a1_1)) a0_0) == (Int.tmod (wrap64 ((wrap64 ((wrap64 ((Int.tmod (wrap64 (a1_0 * a1_0)) a0_0) + a0_1)) * a1_0)) + a0_2)) a0_0)))) = some r := by rw [if_pos rfl] at H; exact H
    clear H; have H := H1; clear H1
    by_cases c17 : a0_0 = 0
    · rw [if_pos c17] at H; exact absurd H (by simp)
    ·
     rw [if_neg c17] at H
     have c17b0 : (a0_0 == 0) = false := beq_eq_false_iff_ne.mpr c17
     have c17b1 : (a0_0 != 0) = true := bne_iff_ne.mpr c17
     obtain rfl := Option.some.inj H
     go_enter Try.func30, Try.ntmps30
     go_wp2_with (first | ((with_reducible refine gate_dst (N := 2) rfl ?_); refine box_event ?hg (N := 2) ?hd (cs := #[.int .i64 a0_0, .int .i64 a0_1, .int .i64 a0_2, .int .i64 a0_3, .int .i64 a0_4, .int .i64 a0_5]) (t := 29) ?hr ?_; (case hd => rfl); (case hg => rfl); (case hr => first | (go_simp; done) | (go_simp; rfl)); intro gb101 hg w18 hbox hb; have BK101 := Aside0.mk hbox; have GW101 := ge_ HB hg; have GE101 := ge_ HB hg; replace HB := bs_ HB hb; clear hb hbox hg) | ((with_reducible refine gate_dst (N := 3) rfl ?_); refine box_event ?hg (N := 3) ?hd (cs := #[.int .i64 a1_0, .int .i64 a1_1, .bool false]) (t := 26) ?hr ?_; (case hd => rfl); (case hg => rfl); (case hr => first | (go_simp; done) | (go_simp; rfl)); intro gb102 hg w19 hbox hb; have BK102 := Aside0.mk hbox; have GW102 := ge_ HB hg; have GE102 := ge_ HB hg; have NB101_102 := nl_ BK101 hg; have NB102_101 := nr_ BK101 hg; replace BK101 := bb_ BK101 hb; replace HB := bs_ HB hb; clear hb hbox hg; have hnb20 := NB102_101.out; have hnc20 := NB101_102.out; have hcz21_0 : w19.cell? ⟨gb102, 0, none⟩ = some (.int .i64 a1_0) := bc_ BK102 0; have hcz21_1 : w19.cell? ⟨gb102, 1, none⟩ = some (.int .i64 a1_1) := bc_ BK102 1; have hcz21_2 : w19.cell? ⟨gb102, 2, none⟩ = some (.bool false) := bc_ BK102 2; have hfz21_0 := blk_frozen BK102.out 0; have hfz21_1 := blk_frozen BK102.out 1; have hfz21_2 := blk_frozen BK102.out 2; have hcz22_0 : w19.cell? ⟨gb101, 0, none⟩ = some (.int .i64 a0_0) := bc_ BK101 0; have hcz22_1 : w19.cell? ⟨gb101, 1, none⟩ = some (.int .i64 a0_1) := bc_ BK101 1; have hcz22_2 : w19.cell? ⟨gb101, 2, none⟩ = some (.int .i64 a0_2) := bc_ BK101 2; have hcz22_3 : w19.cell? ⟨gb101, 3, none⟩ = some (.int .i64 a0_3) := bc_ BK101 3; have hcz22_4 : w19.cell? ⟨gb101, 4, none⟩ = some (.int .i64 a0_4) := bc_ BK101 4; have hcz22_5 : w19.cell? ⟨gb101, 5, none⟩ = some (.int .i64 a0_5) := bc_ BK101 5; have hfz22_0 := blk_frozen BK101.out 0; have hfz22_1 := blk_frozen BK101.out 1; have hfz22_2 := blk_frozen BK101.out 2; have hfz22_3 := blk_frozen BK101.out 3; have hfz22_4 := blk_frozen BK101.out 4; have hfz22_5 := blk_frozen BK101.out 5) | (go_at_call 51; (with_reducible refine (spec_l1In.calls a1_0 0 (wrap64 (a0_0 - 1)) true _ A13.out).mono ?_); rintro e w' ⟨rfl, ⟨nd, rfl⟩⟩; (try first | exact ⟨rfl, _, World.drewN_drewN _ _ _⟩ | exact ⟨rfl, _, Eq.trans (World.drewN_drewN _ _ _) (congrArg (World.drewN _) (Nat.add_assoc _ _ _))⟩)) | (go_at_call 51; (with_reducible refine (spec_l1In.calls a1_1 0 (wrap64 (a0_0 - 1)) true _ A15.out).mono ?_); rintro e w' ⟨rfl, ⟨nd, rfl⟩⟩; (try first | exact ⟨rfl, _, World.drewN_drewN _ _ _⟩ | exact ⟨rfl, _, Eq.trans (World.drewN_drewN _ _ _) (congrArg (World.drewN _) (Nat.add_assoc _ _ _))⟩)))
     repeat (go_quiet (first | ((with_reducible refine gate_dst (N := 2) rfl ?_); refine box_event ?hg (N := 2) ?hd (cs := #[.int .i64 a0_0, .int .i64 a0_1, .int .i64 a0_2, .int .i64 a0_3, .int .i64 a0_4, .int .i64 a0_5]) (t := 29) ?hr ?_; (case hd => rfl); (case hg => rfl); (case hr => first | (go_simp; done) | (go_simp; rfl)); intro gb101 hg w18 hbox hb; have BK101 := Aside0.mk hbox; have GW101 := ge_ HB hg; have GE101 := ge_ HB hg; replace HB := bs_ HB hb; clear hb hbox hg) | ((with_reducible refine gate_dst (N := 3) rfl ?_); refine box_event ?hg (N := 3) ?hd (cs := #[.int .i64 a1_0, .int .i64 a1_1, .bool false]) (t := 26) ?hr ?_; (case hd => rfl); (case hg => rfl); (case hr => first | (go_simp; done) | (go_simp; rfl)); intro gb102 hg w19 hbox hb; have BK102 := Aside0.mk hbox; have GW102 := ge_ HB hg; have GE102 := ge_ HB hg; have NB101_102 := nl_ BK101 hg; have NB102_101 := nr_ BK101 hg; replace BK101 := bb_ BK101 hb; replace HB := bs_ HB hb; clear hb hbox hg; have hnb20 := NB102_101.out; have hnc20 := NB101_102.out; have hcz21_0 : w19.cell? ⟨gb102, 0, none⟩ = some (.int .i64 a1_0) := bc_ BK102 0; have hcz21_1 : w19.cell? ⟨gb102, 1, none⟩ = some (.int .i64 a1_1) := bc_ BK102 1; have hcz21_2 : w19.cell? ⟨gb102, 2, none⟩ = some (.bool false) := bc_ BK102 2; have hfz21_0 := blk_frozen BK102.out 0; have hfz21_1 := blk_frozen BK102.out 1; have hfz21_2 := blk_frozen BK102.out 2; have hcz22_0 : w19.cell? ⟨gb101, 0, none⟩ = some (.int .i64 a0_0) := bc_ BK101 0; have hcz22_1 : w19.cell? ⟨gb101, 1, none⟩ = some (.int .i64 a0_1) := bc_ BK101 1; have hcz22_2 : w19.cell? ⟨gb101, 2, none⟩ = some (.int .i64 a0_2) := bc_ BK101 2; have hcz22_3 : w19.cell? ⟨gb101, 3, none⟩ = some (.int .i64 a0_3) := bc_ BK101 3; have hcz22_4 : w19.cell? ⟨gb101, 4, none⟩ = some (.int .i64 a0_4) := bc_ BK101 4; have hcz22_5 : w19.cell? ⟨gb101, 5, none⟩ = some (.int .i64 a0_5) := bc_ BK101 5; have hfz22_0 := blk_frozen BK101.out 0; have hfz22_1 := blk_frozen BK101.out 1; have hfz22_2 := blk_frozen BK101.out 2; have hfz22_3 := blk_frozen BK101.out 3; have hfz22_4 := blk_frozen BK101.out 4; have hfz22_5 := blk_frozen BK101.out 5) | (go_at_call 51; (with_reducible refine (spec_l1In.calls a1_0 0 (wrap64 (a0_0 - 1)) true _ A13.out).mono ?_); rintro e w' ⟨rfl, ⟨nd, rfl⟩⟩; (try first | exact ⟨rfl, _, World.drewN_drewN _ _ _⟩ | exact ⟨rfl, _, Eq.trans (World.drewN_drewN _ _ _) (congrArg (World.drewN _) (Nat.add_assoc _ _ _))⟩)) | (go_at_call 51; (with_reducible refine (spec_l1In.calls a1_1 0 (wrap64 (a0_0 - 1)) true _ A15.out).mono ?_); rintro e w' ⟨rfl, ⟨nd, rfl⟩⟩; (try first | exact ⟨rfl, _, World.drewN_drewN _ _ _⟩ | exact ⟨rfl, _, Eq.trans (World.drewN_drewN _ _ _) (congrArg (World.drewN _) (Nat.add_assoc _ _ _))⟩))); try go_wp2_with (first | ((with_reducible refine gate_dst (N := 2) rfl ?_); refine box_event ?hg (N := 2) ?hd (cs := #[.int .i64 a0_0, .int .i64 a0_1, .int .i64 a0_2, .int .i64 a0_3, .int .i64 a0_4, .int .i64 a0_5]) (t := 29) ?hr ?_; (case hd => rfl); (case hg => rfl); (case hr => first | (go_simp; done) | (go_simp; rfl)); intro gb101 hg w18 hbox hb; have BK101 := Aside0.mk hbox; have GW101 := ge_ HB hg; have GE101 := ge_ HB hg; replace HB := bs_ HB hb; clear hb hbox hg) | ((with_reducible refine gate_dst (N := 3) rfl ?_); refine box_event ?hg (N := 3) ?hd (cs := #[.int .i64 a1_0, .int .i64 a1_1, .bool false]) (t := 26) ?hr ?_; (case hd => rfl); (case hg => rfl); (case hr => first | (go_simp; done) | (go_simp; rfl)); intro gb102 hg w19 hbox hb; have BK102 := Aside0.mk hbox; have GW102 := ge_ HB hg; have GE102 := ge_ HB hg; have NB101_102 := nl_ BK101 hg; have NB102_101 := nr_ BK101 hg; replace BK101 := bb_ BK101 hb; replace HB := bs_ HB hb; clear hb hbox hg; have hnb20 := NB102_101.out; have hnc20 := NB101_102.out; have hcz21_0 : w19.cell? ⟨gb102, 0, none⟩ = some (.int .i64 a1_0) := bc_ BK102 0; have hcz21_1 : w19.cell? ⟨gb102, 1, none⟩ = some (.int .i64 a1_1) := bc_ BK102 1; have hcz21_2 : w19.cell? ⟨gb102, 2, none⟩ = some (.bool false) := bc_ BK102 2; have hfz21_0 := blk_frozen BK102.out 0; have hfz21_1 := blk_frozen BK102.out 1; have hfz21_2 := blk_frozen BK102.out 2; have hcz22_0 : w19.cell? ⟨gb101, 0, none⟩ = some (.int .i64 a0_0) := bc_ BK101 0; have hcz22_1 : w19.cell? ⟨gb101, 1, none⟩ = some (.int .i64 a0_1) := bc_ BK101 1; have hcz22_2 : w19.cell? ⟨gb101, 2, none⟩ = some (.int .i64 a0_2) := bc_ BK101 2; have hcz22_3 : w19.cell? ⟨gb101, 3, none⟩ = some (.int .i64 a0_3) := bc_ BK101 3; have hcz22_4 : w19.cell? ⟨gb101, 4, none⟩ = some (.int .i64 a0_4) := bc_ BK101 4; have hcz22_5 : w19.cell? ⟨gb101, 5, none⟩ = some (.int .i64 a0_5) := bc_ BK101 5; have hfz22_0 := blk_frozen BK101.out 0; have hfz22_1 := blk_frozen BK101.out 1; have hfz22_2 := blk_frozen BK101.out 2; have hfz22_3 := blk_frozen BK101.out 3; have hfz22_4 := blk_frozen BK101.out 4; have hfz22_5 := blk_frozen BK101.out 5) | (go_at_call 51; (with_reducible refine (spec_l1In.calls a1_0 0 (wrap64 (a0_0 - 1)) true _ A13.out).mono ?_); rintro e w' ⟨rfl, ⟨nd, rfl⟩⟩; (try first | exact ⟨rfl, _, World.drewN_drewN _ _ _⟩ | exact ⟨rfl, _, Eq.trans (World.drewN_drewN _ _ _) (congrArg (World.drewN _) (Nat.add_assoc _ _ _))⟩)) | (go_at_call 51; (with_reducible refine (spec_l1In.calls a1_1 0 (wrap64 (a0_0 - 1)) true _ A15.out).mono ?_); rintro e w' ⟨rfl, ⟨nd, rfl⟩⟩; (try first | exact ⟨rfl, _, World.drewN_drewN _ _ _⟩ | exact ⟨rfl, _, Eq.trans (World.drewN_drewN _ _ _) (congrArg (World.drewN _) (Nat.add_assoc _ _ _))⟩))))
     go_ret
     exact ⟨by first | rfl | (simp [errW_none, errW_some] <;> rfl) | (simp [*, errW_none, errW_some] <;> rfl), by repeat (first | (with_reducible first | exact HB.out | apply below_alloc | apply pw_below_drewN | apply below_drew1 | refine below_set ?_ GE101.out | refine below_set ?_ GE102.out) | exact HB.out)⟩
   ·
    replace c16 := Bool.eq_false_iff.mpr c16; subst c16
    have H1 : (some false) = some r := by rw [if_neg (show ¬ (false = true) by decide)] at H; exact H
    clear H; have H := H1; clear H1; obtain rfl := Option.some.inj H
    go_enter Try.func30, Try.ntmps30
    go_wp2_with (first | ((with_reducible refine gate_dst (N := 2) rfl ?_); refine box_event ?hg (N := 2) ?hd (cs := #[.int .i64 a0_0, .int .i64 a0_1, .int .i64 a0_2, .int .i64 a0_3, .int .i64 a0_4, .int .i64 a0_5]) (t := 29) ?hr ?_; (case hd => rfl); (case hg => rfl); (case hr => first | (go_simp; done) | (go_simp; rfl)); intro gb101 hg w23 hbox hb; have BK101 := Aside0.mk hbox; have GW101 := ge_ HB hg; have GE101 := ge_ HB hg; replace HB := bs_ HB hb; clear hb hbox hg) | ((with_reducible refine gate_dst (N := 3) rfl ?_); refine box_event ?hg (N := 3) ?hd (cs := #[.int .i64 a1_0, .int .i64 a1_1, .bool false]) (t := 26) ?hr ?_; (case hd => rfl); (case hg => rfl); (case hr => first | (go_simp; done) | (go_simp; rfl)); intro gb102 hg w24 hbox hb; have BK102 := Aside0.mk hbox; have GW102 := ge_ HB hg; have GE102 := ge_ HB hg; have NB101_102 := nl_ BK101 hg; have NB102_101 := nr_ BK101 hg; replace BK101 := bb_ BK101 hb; replace HB := bs_ HB hb; clear hb hbox hg; have hnb25 := NB102_101.out; have hnc25 := NB101_102.out; have hcz26_0 : w24.cell? ⟨gb102, 0, none⟩ = some (.int .i64 a1_0) := bc_ BK102 0; have hcz26_1 : w24.cell? ⟨gb102, 1, none⟩ = some (.int .i64 a1_1) := bc_ BK102 1; have hcz26_2 : w24.cell? ⟨gb102, 2, none⟩ = some (.bool false) := bc_ BK102 2; have hfz26_0 := blk_frozen BK102.out 0; have hfz26_1 := blk_frozen BK102.out 1; have hfz26_2 := blk_frozen BK102.out 2; have hcz27_0 : w24.cell? ⟨gb101, 0, none⟩ = some (.int .i64 a0_0) := bc_ BK101 0; have hcz27_1 : w24.cell? ⟨gb101, 1, none⟩ = some (.int .i64 a0_1) := bc_ BK101 1; have hcz27_2 : w24.cell? ⟨gb101, 2, none⟩ = some (.int .i64 a0_2) := bc_ BK101 2; have hcz27_3 : w24.cell? ⟨gb101, 3, none⟩ = some (.int .i64 a0_3) := bc_ BK101 3; have hcz27_4 : w24.cell? ⟨gb101, 4, none⟩ = some (.int .i64 a0_4) := bc_ BK101 4; have hcz27_5 : w24.cell? ⟨gb101, 5, none⟩ = some (.int .i64 a0_5) := bc_ BK101 5; have hfz27_0 := blk_frozen BK101.out 0; have hfz27_1 := blk_frozen BK101.out 1; have hfz27_2 := blk_frozen BK101.out 2; have hfz27_3 := blk_frozen BK101.out 3; have hfz27_4 := blk_frozen BK101.out 4; have hfz27_5 := blk_frozen BK101.out 5) | (go_at_call 51; (with_reducible refine (spec_l1In.calls a1_0 0 (wrap64 (a0_0 - 1)) true _ A13.out).mono ?_); rintro e w' ⟨rfl, ⟨nd, rfl⟩⟩; (try first | exact ⟨rfl, _, World.drewN_drewN _ _ _⟩ | exact ⟨rfl, _, Eq.trans (World.drewN_drewN _ _ _) (congrArg (World.drewN _) (Nat.add_assoc _ _ _))⟩)) | (go_at_call 51; (with_reducible refine (spec_l1In.calls a1_1 0 (wrap64 (a0_0 - 1)) false _ A15.out).mono ?_); rintro e w' ⟨rfl, ⟨nd, rfl⟩⟩; (try first | exact ⟨rfl, _, World.drewN_drewN _ _ _⟩ | exact ⟨rfl, _, Eq.trans (World.drewN_drewN _ _ _) (congrArg (World.drewN _) (Nat.add_assoc _ _ _))⟩)))
    repeat (go_quiet (first | ((with_reducible refine gate_dst (N := 2) rfl ?_); refine box_event ?hg (N := 2) ?hd (cs := #[.int .i64 a0_0, .int .i64 a0_1, .int .i64 a0_2, .int .i64 a0_3, .int .i64 a0_4, .int .i64 a0_5]) (t := 29) ?hr ?_; (case hd => rfl); (case hg => rfl); (case hr => first | (go_simp; done) | (go_simp; rfl)); intro gb101 hg w23 hbox hb; have BK101 := Aside0.mk hbox; have GW101 := ge_ HB hg; have GE101 := ge_ HB hg; replace HB := bs_ HB hb; clear hb hbox hg) | ((with_reducible refine gate_dst (N := 3) rfl ?_); refine box_event ?hg (N := 3) ?hd (cs := #[.int .i64 a1_0, .int .i64 a1_1, .bool false]) (t := 26) ?hr ?_; (case hd => rfl); (case hg => rfl); (case hr => first | (go_simp; done) | (go_simp; rfl)); intro gb102 hg w24 hbox hb; have BK102 := Aside0.mk hbox; have GW102 := ge_ HB hg; have GE102 := ge_ HB hg; have NB101_102 := nl_ BK101 hg; have NB102_101 := nr_ BK101 hg; replace BK101 := bb_ BK101 hb; replace HB := bs_ HB hb; clear hb hbox hg; have hnb25 := NB102_101.out; have hnc25 := NB101_102.out; have hcz26_0 : w24.cell? ⟨gb102, 0, none⟩ = some (.int .i64 a1_0) := bc_ BK102 0; have hcz26_1 : w24.cell? ⟨gb102, 1, none⟩ = some (.int .i64 a1_1) := bc_ BK102 1; have hcz26_2 : w24.cell? ⟨gb102, 2, none⟩ = some (.bool false) := bc_ BK102 2; have hfz26_0 := blk_frozen BK102.out 0; have hfz26_1 := blk_frozen BK102.out 1; have hfz26_2 := blk_frozen BK102.out 2; have hcz27_0 : w24.cell? ⟨gb101, 0, none⟩ = some (.int .i64 a0_0) := bc_ BK101 0; have hcz27_1 : w24.cell? ⟨gb101, 1, none⟩ = some (.int .i64 a0_1) := bc_ BK101 1; have hcz27_2 : w24.cell? ⟨gb101, 2, none⟩ = some (.int .i64 a0_2) := bc_ BK101 2; have hcz27_3 : w24.cell? ⟨gb101, 3, none⟩ = some (.int .i64 a0_3) := bc_ BK101 3; have hcz27_4 : w24.cell? ⟨gb101, 4, none⟩ = some (.int .i64 a0_4) := bc_ BK101 4; have hcz27_5 : w24.cell? ⟨gb101, 5, none⟩ = some (.int .i64 a0_5) := bc_ BK101 5; have hfz27_0 := blk_frozen BK101.out 0; have hfz27_1 := blk_frozen BK101.out 1; have hfz27_2 := blk_frozen BK101.out 2; have hfz27_3 := blk_frozen BK101.out 3; have hfz27_4 := blk_frozen BK101.out 4; have hfz27_5 := blk_frozen BK101.out 5) | (go_at_call 51; (with_reducible refine (spec_l1In.calls a1_0 0 (wrap64 (a0_0 - 1)) true _ A13.out).mono ?_); rintro e w' ⟨rfl, ⟨nd, rfl⟩⟩; (try first | exact ⟨rfl, _, World.drewN_drewN _ _ _⟩ | exact ⟨rfl, _, Eq.trans (World.drewN_drewN _ _ _) (congrArg (World.drewN _) (Nat.add_assoc _ _ _))⟩)) | (go_at_call 51; (with_reducible refine (spec_l1In.calls a1_1 0 (wrap64 (a0_0 - 1)) false _ A15.out).mono ?_); rintro e w' ⟨rfl, ⟨nd, rfl⟩⟩; (try first | exact ⟨rfl, _, World.drewN_drewN _ _ _⟩ | exact ⟨rfl, _, Eq.trans (World.drewN_drewN _ _ _) (congrArg (World.drewN _) (Nat.add_assoc _ _ _))⟩))); try go_wp2_with (first | ((with_reducible refine gate_dst (N := 2) rfl ?_); refine box_event ?hg (N := 2) ?hd (cs := #[.int .i64 a0_0, .int .i64 a0_1, .int .i64 a0_2, .int .i64 a0_3, .int .i64 a0_4, .int .i64 a0_5]) (t := 29) ?hr ?_; (case hd => rfl); (case hg => rfl); (case hr => first | (go_simp; done) | (go_simp; rfl)); intro gb101 hg w23 hbox hb; have BK101 := Aside0.mk hbox; have GW101 := ge_ HB hg; have GE101 := ge_ HB hg; replace HB := bs_ HB hb; clear hb hbox hg) | ((with_reducible refine gate_dst (N := 3) rfl ?_); refine box_event ?hg (N := 3) ?hd (cs := #[.int .i64 a1_0, .int .i64 a1_1, .bool false]) (t := 26) ?hr ?_; (case hd => rfl); (case hg => rfl); (case hr => first | (go_simp; done) | (go_simp; rfl)); intro gb102 hg w24 hbox hb; have BK102 := Aside0.mk hbox; have GW102 := ge_ HB hg; have GE102 := ge_ HB hg; have NB101_102 := nl_ BK101 hg; have NB102_101 := nr_ BK101 hg; replace BK101 := bb_ BK101 hb; replace HB := bs_ HB hb; clear hb hbox hg; have hnb25 := NB102_101.out; have hnc25 := NB101_102.out; have hcz26_0 : w24.cell? ⟨gb102, 0, none⟩ = some (.int .i64 a1_0) := bc_ BK102 0; have hcz26_1 : w24.cell? ⟨gb102, 1, none⟩ = some (.int .i64 a1_1) := bc_ BK102 1; have hcz26_2 : w24.cell? ⟨gb102, 2, none⟩ = some (.bool false) := bc_ BK102 2; have hfz26_0 := blk_frozen BK102.out 0; have hfz26_1 := blk_frozen BK102.out 1; have hfz26_2 := blk_frozen BK102.out 2; have hcz27_0 : w24.cell? ⟨gb101, 0, none⟩ = some (.int .i64 a0_0) := bc_ BK101 0; have hcz27_1 : w24.cell? ⟨gb101, 1, none⟩ = some (.int .i64 a0_1) := bc_ BK101 1; have hcz27_2 : w24.cell? ⟨gb101, 2, none⟩ = some (.int .i64 a0_2) := bc_ BK101 2; have hcz27_3 : w24.cell? ⟨gb101, 3, none⟩ = some (.int .i64 a0_3) := bc_ BK101 3; have hcz27_4 : w24.cell? ⟨gb101, 4, none⟩ = some (.int .i64 a0_4) := bc_ BK101 4; have hcz27_5 : w24.cell? ⟨gb101, 5, none⟩ = some (.int .i64 a0_5) := bc_ BK101 5; have hfz27_0 := blk_frozen BK101.out 0; have hfz27_1 := blk_frozen BK101.out 1; have hfz27_2 := blk_frozen BK101.out 2; have hfz27_3 := blk_frozen BK101.out 3; have hfz27_4 := blk_frozen BK101.out 4; have hfz27_5 := blk_frozen BK101.out 5) | (go_at_call 51; (with_reducible refine (spec_l1In.calls a1_0 0 (wrap64 (a0_0 - 1)) true _ A13.out).mono ?_); rintro e w' ⟨rfl, ⟨nd, rfl⟩⟩; (try first | exact ⟨rfl, _, World.drewN_drewN _ _ _⟩ | exact ⟨rfl, _, Eq.trans (World.drewN_drewN _ _ _) (congrArg (World.drewN _) (Nat.add_assoc _ _ _))⟩)) | (go_at_call 51; (with_reducible refine (spec_l1In.calls a1_1 0 (wrap64 (a0_0 - 1)) false _ A15.out).mono ?_); rintro e w' ⟨rfl, ⟨nd, rfl⟩⟩; (try first | exact ⟨rfl, _, World.drewN_drewN _ _ _⟩ | exact ⟨rfl, _, Eq.trans (World.drewN_drewN _ _ _) (congrArg (World.drewN _) (Nat.add_assoc _ _ _))⟩))))
    go_ret
    exact ⟨by first | rfl | (simp [errW_none, errW_some] <;> rfl) | (simp [*, errW_none, errW_some] <;> rfl), by repeat (first | (with_reducible first | exact HB.out | apply below_alloc | apply pw_below_drewN | apply below_drew1 | refine below_set ?_ GE101.out | refine below_set ?_ GE102.out) | exact HB.out)⟩
  ·
   replace c14 := Bool.eq_false_iff.mpr c14; subst c14
   have H1 : (some false) = some r := by rw [if_neg (show ¬ (false = true) by decide)] at H; exact H
   clear H; have H := H1; clear H1; obtain rfl := Option.some.inj H
   go_enter Try.func30, Try.ntmps30
   go_wp2_with (first | ((with_reducible refine gate_dst (N := 2) rfl ?_); refine box_event ?hg (N := 2) ?hd (cs := #[.int .i64 a0_0, .int .i64 a0_1, .int .i64 a0_2, .int .i64 a0_3, .int .i64 a0_4, .int .i64 a0_5]) (t := 29) ?hr ?_; (case hd => rfl); (case hg => rfl); (case hr => first | (go_simp; done) | (go_simp; rfl)); intro gb101 hg w28 hbox hb; have BK101 := Aside0.mk hbox; have GW101 := ge_ HB hg; have GE101 := ge_ HB hg; replace HB := bs_ HB hb; clear hb hbox hg) | ((with_reducible refine gate_dst (N := 3) rfl ?_); refine box_event ?hg (N := 3) ?hd (cs := #[.int .i64 a1_0, .int .i64 a1_1, .bool false]) (t := 26) ?hr ?_; (case hd => rfl); (case hg => rfl); (case hr => first | (go_simp; done) | (go_simp; rfl)); intro gb102 hg w29 hbox hb; have BK102 := Aside0.mk hbox; have GW102 := ge_ HB hg; have GE102 := ge_ HB hg; have NB101_102 := nl_ BK101 hg; have NB102_101 := nr_ BK101 hg; replace BK101 := bb_ BK101 hb; replace HB := bs_ HB hb; clear hb hbox hg; have hnb30 := NB102_101.out; have hnc30 := NB101_102.out; have hcz31_0 : w29.cell? ⟨gb102, 0, none⟩ = some (.int .i64 a1_0) := bc_ BK102 0; have hcz31_1 : w29.cell? ⟨gb102, 1, none⟩ = some (.int .i64 a1_1) := bc_ BK102 1; have hcz31_2 : w29.cell? ⟨gb102, 2, none⟩ = some (.bool false) := bc_ BK102 2; have hfz31_0 := blk_frozen BK102.out 0; have hfz31_1 := blk_frozen BK102.out 1; have hfz31_2 := blk_frozen BK102.out 2; have hcz32_0 : w29.cell? ⟨gb101, 0, none⟩ = some (.int .i64 a0_0) := bc_ BK101 0; have hcz32_1 : w29.cell? ⟨gb101, 1, none⟩ = some (.int .i64 a0_1) := bc_ BK101 1; have hcz32_2 : w29.cell? ⟨gb101, 2, none⟩ = some (.int .i64 a0_2) := bc_ BK101 2; have hcz32_3 : w29.cell? ⟨gb101, 3, none⟩ = some (.int .i64 a0_3) := bc_ BK101 3; have hcz32_4 : w29.cell? ⟨gb101, 4, none⟩ = some (.int .i64 a0_4) := bc_ BK101 4; have hcz32_5 : w29.cell? ⟨gb101, 5, none⟩ = some (.int .i64 a0_5) := bc_ BK101 5; have hfz32_0 := blk_frozen BK101.out 0; have hfz32_1 := blk_frozen BK101.out 1; have hfz32_2 := blk_frozen BK101.out 2; have hfz32_3 := blk_frozen BK101.out 3; have hfz32_4 := blk_frozen BK101.out 4; have hfz32_5 := blk_frozen BK101.out 5) | (go_at_call 51; (with_reducible refine (spec_l1In.calls a1_0 0 (wrap64 (a0_0 - 1)) false _ A13.out).mono ?_); rintro e w' ⟨rfl, ⟨nd, rfl⟩⟩; (try first | exact ⟨rfl, _, World.drewN_drewN _ _ _⟩ | exact ⟨rfl, _, Eq.trans (World.drewN_drewN _ _ _) (congrArg (World.drewN _) (Nat.add_assoc _ _ _))⟩)))
   repeat (go_quiet (first | ((with_reducible refine gate_dst (N := 2) rfl ?_); refine box_event ?hg (N := 2) ?hd (cs := #[.int .i64 a0_0, .int .i64 a0_1, .int .i64 a0_2, .int .i64 a0_3, .int .i64 a0_4, .int .i64 a0_5]) (t := 29) ?hr ?_; (case hd => rfl); (case hg => rfl); (case hr => first | (go_simp; done) | (go_simp; rfl)); intro gb101 hg w28 hbox hb; have BK101 := Aside0.mk hbox; have GW101 := ge_ HB hg; have GE101 := ge_ HB hg; replace HB := bs_ HB hb; clear hb hbox hg) | ((with_reducible refine gate_dst (N := 3) rfl ?_); refine box_event ?hg (N := 3) ?hd (cs := #[.int .i64 a1_0, .int .i64 a1_1, .bool false]) (t := 26) ?hr ?_; (case hd => rfl); (case hg => rfl); (case hr => first | (go_simp; done) | (go_simp; rfl)); intro gb102 hg w29 hbox hb; have BK102 := Aside0.mk hbox; have GW102 := ge_ HB hg; have GE102 := ge_ HB hg; have NB101_102 := nl_ BK101 hg; have NB102_101 := nr_ BK101 hg; replace BK101 := bb_ BK101 hb; replace HB := bs_ HB hb; clear hb hbox hg; have hnb30 := NB102_101.out; have hnc30 := NB101_102.out; have hcz31_0 : w29.cell? ⟨gb102, 0, none⟩ = some (.int .i64 a1_0) := bc_ BK102 0; have hcz31_1 : w29.cell? ⟨gb102, 1, none⟩ = some (.int .i64 a1_1) := bc_ BK102 1; have hcz31_2 : w29.cell? ⟨gb102, 2, none⟩ = some (.bool false) := bc_ BK102 2; have hfz31_0 := blk_frozen BK102.out 0; have hfz31_1 := blk_frozen BK102.out 1; have hfz31_2 := blk_frozen BK102.out 2; have hcz32_0 : w29.cell? ⟨gb101, 0, none⟩ = some (.int .i64 a0_0) := bc_ BK101 0; have hcz32_1 : w29.cell? ⟨gb101, 1, none⟩ = some (.int .i64 a0_1) := bc_ BK101 1; have hcz32_2 : w29.cell? ⟨gb101, 2, none⟩ = some (.int .i64 a0_2) := bc_ BK101 2; have hcz32_3 : w29.cell? ⟨gb101, 3, none⟩ = some (.int .i64 a0_3) := bc_ BK101 3; have hcz32_4 : w29.cell? ⟨gb101, 4, none⟩ = some (.int .i64 a0_4) := bc_ BK101 4; have hcz32_5 : w29.cell? ⟨gb101, 5, none⟩ = some (.int .i64 a0_5) := bc_ BK101 5; have hfz32_0 := blk_frozen BK101.out 0; have hfz32_1 := blk_frozen BK101.out 1; have hfz32_2 := blk_frozen BK101.out 2; have hfz32_3 := blk_frozen BK101.out 3; have hfz32_4 := blk_frozen BK101.out 4; have hfz32_5 := blk_frozen BK101.out 5) | (go_at_call 51; (with_reducible refine (spec_l1In.calls a1_0 0 (wrap64 (a0_0 - 1)) false _ A13.out).mono ?_); rintro e w' ⟨rfl, ⟨nd, rfl⟩⟩; (try first | exact ⟨rfl, _, World.drewN_drewN _ _ _⟩ | exact ⟨rfl, _, Eq.trans (World.drewN_drewN _ _ _) (congrArg (World.drewN _) (Nat.add_assoc _ _ _))⟩))); try go_wp2_with (first | ((with_reducible refine gate_dst (N := 2) rfl ?_); refine box_event ?hg (N := 2) ?hd (cs := #[.int .i64 a0_0, .int .i64 a0_1, .int .i64 a0_2, .int .i64 a0_3, .int .i64 a0_4, .int .i64 a0_5]) (t := 29) ?hr ?_; (case hd => rfl); (case hg => rfl); (case hr => first | (go_simp; done) | (go_simp; rfl)); intro gb101 hg w28 hbox hb; have BK101 := Aside0.mk hbox; have GW101 := ge_ HB hg; have GE101 := ge_ HB hg; replace HB := bs_ HB hb; clear hb hbox hg) | ((with_reducible refine gate_dst (N := 3) rfl ?_); refine box_event ?hg (N := 3) ?hd (cs := #[.int .i64 a1_0, .int .i64 a1_1, .bool false]) (t := 26) ?hr ?_; (case hd => rfl); (case hg => rfl); (case hr => first | (go_simp; done) | (go_simp; rfl)); intro gb102 hg w29 hbox hb; have BK102 := Aside0.mk hbox; have GW102 := ge_ HB hg; have GE102 := ge_ HB hg; have NB101_102 := nl_ BK101 hg; have NB102_101 := nr_ BK101 hg; replace BK101 := bb_ BK101 hb; replace HB := bs_ HB hb; clear hb hbox hg; have hnb30 := NB102_101.out; have hnc30 := NB101_102.out; have hcz31_0 : w29.cell? ⟨gb102, 0, none⟩ = some (.int .i64 a1_0) := bc_ BK102 0; have hcz31_1 : w29.cell? ⟨gb102, 1, none⟩ = some (.int .i64 a1_1) := bc_ BK102 1; have hcz31_2 : w29.cell? ⟨gb102, 2, none⟩ = some (.bool false) := bc_ BK102 2; have hfz31_0 := blk_frozen BK102.out 0; have hfz31_1 := blk_frozen BK102.out 1; have hfz31_2 := blk_frozen BK102.out 2; have hcz32_0 : w29.cell? ⟨gb101, 0, none⟩ = some (.int .i64 a0_0) := bc_ BK101 0; have hcz32_1 : w29.cell? ⟨gb101, 1, none⟩ = some (.int .i64 a0_1) := bc_ BK101 1; have hcz32_2 : w29.cell? ⟨gb101, 2, none⟩ = some (.int .i64 a0_2) := bc_ BK101 2; have hcz32_3 : w29.cell? ⟨gb101, 3, none⟩ = some (.int .i64 a0_3) := bc_ BK101 3; have hcz32_4 : w29.cell? ⟨gb101, 4, none⟩ = some (.int .i64 a0_4) := bc_ BK101 4; have hcz32_5 : w29.cell? ⟨gb101, 5, none⟩ = some (.int .i64 a0_5) := bc_ BK101 5; have hfz32_0 := blk_frozen BK101.out 0; have hfz32_1 := blk_frozen BK101.out 1; have hfz32_2 := blk_frozen BK101.out 2; have hfz32_3 := blk_frozen BK101.out 3; have hfz32_4 := blk_frozen BK101.out 4; have hfz32_5 := blk_frozen BK101.out 5) | (go_at_call 51; (with_reducible refine (spec_l1In.calls a1_0 0 (wrap64 (a0_0 - 1)) false _ A13.out).mono ?_); rintro e w' ⟨rfl, ⟨nd, rfl⟩⟩; (try first | exact ⟨rfl, _, World.drewN_drewN _ _ _⟩ | exact ⟨rfl, _, Eq.trans (World.drewN_drewN _ _ _) (congrArg (World.drewN _) (Nat.add_assoc _ _ _))⟩))))
   go_ret
   exact ⟨by first | rfl | (simp [errW_none, errW_some] <;> rfl) | (simp [*, errW_none, errW_some] <;> rfl), by repeat (first | (with_reducible first | exact HB.out | apply below_alloc | apply pw_below_drewN | apply below_drew1 | refine below_set ?_ GE101.out | refine below_set ?_ GE102.out) | exact HB.out)⟩

attribute [local go_sem] fld_
/-! ### spec_l2Left: function 53 -/
def spec_l2Left.f (a0 : Int) (a1 : Int) : Option (Int) := if a1 = 0 then (none) else (some (Int.tmod (wrap64 ((Int.tmod a0 a1) + a1)) a1))
set_option maxHeartbeats 8000000 in
set_option maxRecDepth 100000 in
theorem spec_l2Left.calls (a0 : Int) (a1 : Int) (r : Int) (w : World) (h : spec_l2Left.f a0 a1 = some r) :
    Calls Try.prog 53 #[.int .i64 a0, .int .i64 a1] w fun e w' => e = .returned (.int .i64 r) ∧ Drawn0 w w' := by
  have H : (if a1 = 0 then (none) else (some (Int.tmod (wrap64 ((Int.tmod a0 a1) + a1)) a1))) = some r := h
  clear h
  by_cases c3 : a1 = 0
  · rw [if_pos c3] at H
    exact absurd H (by simp)
  · rw [if_neg c3] at H
    have c3b0 : (a1 == 0) = false := beq_eq_false_iff_ne.mpr c3
    have c3b1 : (a1 != 0) = true := bne_iff_ne.mpr c3
    obtain rfl := Option.some.inj H
    go_enter Try.func53, Try.ntmps53
    go_wp2
    go_ret
    exact ⟨by first | rfl | (simp; done) | (simp [*]; done), by repeat (first | exact Drawn0.refl _ | apply Drawn0.step)⟩

attribute [local go_sem] fld_
/-! ### spec_l2Inv: function 52 -/
def spec_l2Inv.l0 : Nat → Int → Int → Int → Int → Int → Option (Int)
  | 0, _, _, _, _, _ => none
  | k + 1, x1, x5, x6, x7, x8 => if x6 > 0 then (if x6 = 0 then (none) else (spec_l2Inv.l0 k x1 x6 (Int.tmod x5 x6) x8 (wrap64 (x7 - (wrap64 ((wrap64 (Int.tdiv x5 x6)) * x8)))))) else (if x5 = 1 then ((spec_l2Left.f x7 x1).bind fun t106 => (some t106)) else (some 0))
def spec_l2Inv.f (k : Nat) (a0 : Int) (a1 : Int) : Option (Int) := (spec_l2Left.f a0 a1).bind fun t105 => (spec_l2Inv.l0 k a1 a1 t105 0 1)
theorem spec_l2Inv.mono_l : ∀ k, (∀ y0 y1 y2 y3 y4, LeO (spec_l2Inv.l0 k y0 y1 y2 y3 y4) (spec_l2Inv.l0 (k + 1) y0 y1 y2 y3 y4))
  | 0 => fun _ _ _ _ _ r h => by simp [spec_l2Inv.l0] at h
  | k + 1 => by
    have ih0 := spec_l2Inv.mono_l k
    · intro y0 y1 y2 y3 y4
      unfold spec_l2Inv.l0
      repeat' first
      | (with_reducible exact ih0 _ _ _ _ _)
      | (with_reducible exact LeO.refl _)
      | (with_reducible exact LeO.none _)
      | (with_reducible refine LeO.ite ?_ ?_)
      | (with_reducible refine LeO.bind ?_ (fun _ => ?_))
      | exact ih0 _ _ _ _ _
      | exact LeO.none _
      | refine LeO.ite ?_ ?_
      | refine LeO.bind ?_ (fun _ => ?_)
theorem spec_l2Inv.mono : ∀ a0 a1 k, LeO (spec_l2Inv.f k a0 a1) (spec_l2Inv.f (k + 1) a0 a1) := by
  intro a0 a1 k
  have ih0 := spec_l2Inv.mono_l k
  unfold spec_l2Inv.f
  repeat' first
      | (with_reducible exact ih0 _ _ _ _ _)
      | (with_reducible exact LeO.refl _)
      | (with_reducible exact LeO.none _)
      | (with_reducible refine LeO.ite ?_ ?_)
      | (with_reducible refine LeO.bind ?_ (fun _ => ?_))
      | exact ih0 _ _ _ _ _
      | exact LeO.none _
      | refine LeO.ite ?_ ?_
      | refine LeO.bind ?_ (fun _ => ?_)
set_option maxHeartbeats 8000000 in
set_option maxRecDepth 100000 in
theorem spec_l2Inv.calls (k : Nat) (a0 : Int) (a1 : Int) (r : Int) (w : World) (h : spec_l2Inv.f k a0 a1 = some r) :
    Calls Try.prog 52 #[.int .i64 a0, .int .i64 a1] w fun e w' => e = .returned (.int .i64 r) ∧ Drawn0 w w' := by
  have H : ((spec_l2Left.f a0 a1).bind fun t105 => (spec_l2Inv.l0 k a1 a1 t105 0 1)) = some r := h
  clear h
  replace H := Option.bind_eq_some_iff.mp H
  obtain ⟨t105, A30, H⟩ := H
  replace H : (spec_l2Inv.l0 k a1 a1 t105 0 1) = some r := H
  have A3 := Aside0.mk A30
  clear A30
  have H' := Aside0.mk H
  clear H
  go_enter Try.func52, Try.ntmps52
  go_wp2_with (first | (go_at_call 53; (with_reducible refine (spec_l2Left.calls a0 a1 t105 _ A3.out).mono ?_); rintro e w' ⟨rfl, ⟨nd, rfl⟩⟩; (try first | exact ⟨rfl, _, World.drewN_drewN _ _ _⟩ | exact ⟨rfl, _, Eq.trans (World.drewN_drewN _ _ _) (congrArg (World.drewN _) (Nat.add_assoc _ _ _))⟩)))
  repeat (go_quiet (first | (go_at_call 53; (with_reducible refine (spec_l2Left.calls a0 a1 t105 _ A3.out).mono ?_); rintro e w' ⟨rfl, ⟨nd, rfl⟩⟩; (try first | exact ⟨rfl, _, World.drewN_drewN _ _ _⟩ | exact ⟨rfl, _, Eq.trans (World.drewN_drewN _ _ _) (congrArg (World.drewN _) (Nat.add_assoc _ _ _))⟩))); try go_wp2_with (first | (go_at_call 53; (with_reducible refine (spec_l2Left.calls a0 a1 t105 _ A3.out).mono ?_); rintro e w' ⟨rfl, ⟨nd, rfl⟩⟩; (try first | exact ⟨rfl, _, World.drewN_drewN _ _ _⟩ | exact ⟨rfl, _, Eq.trans (World.drewN_drewN _ _ _) (congrArg (World.drewN _) (Nat.add_assoc _ _ _))⟩))))
  go_loopg [5, 6, 7, 8] k (fun kq v5 v6 v7 v8 w' => ∃ (x5_1 : Int) (x6_1 : Int) (x7_1 : Int) (x8_1 : Int), v5 = .int .i64 x5_1 ∧ v6 = .int .i64 x6_1 ∧ v7 = .int .i64 x7_1 ∧ v8 = .int .i64 x8_1 ∧ Aside0 (spec_l2Inv.l0 kq a1 x5_1 x6_1 x7_1 x8_1 = some r) ∧ Aside0 (kq ≤ k) ∧ Drawn0 w w')
  case atStart => exact ⟨(a1), (t105), (0), (1), (by first | rfl | (simp; done) | (simp [*]; done)), (by first | rfl | (simp; done) | (simp [*]; done)), (by first | rfl | (simp; done) | (simp [*]; done)), (by first | rfl | (simp; done) | (simp [*]; done)), H', ⟨Nat.le_refl _⟩, by repeat (first | exact Drawn0.refl _ | apply Drawn0.step)⟩
  case round =>
    clear H'
    try clear p2
    obtain ⟨x5_1, x6_1, x7_1, x8_1, rfl, rfl, rfl, rfl, HA, HK1, ⟨m1, rfl⟩⟩ := hrel
    cases gk with
    | zero => exact absurd HA.out (by simp [spec_l2Inv.l0])
    | succ k1 =>
      have H := HA.out
      clear HA
      simp only [spec_l2Inv.l0] at H
      by_cases c4 : x6_1 > 0
      · rw [if_pos c4] at H
        have c4b0 : decide (0 < x6_1) = true := decide_eq_true c4
        clear c4
        by_cases c5 : x6_1 = 0
        · rw [if_pos c5] at H
          exact absurd H (by simp)
        · rw [if_neg c5] at H
          have c5b0 : (x6_1 == 0) = false := beq_eq_false_iff_ne.mpr c5
          have c5b1 : (x6_1 != 0) = true := bne_iff_ne.mpr c5
          have H' := Aside0.mk H
          clear H
          go_wp2
          repeat (go_quiet (fail); try go_wp2)
          go_roundg k1
          case measure => have := HK1.out; omega
          case rel => exact ⟨(x6_1), (Int.tmod x5_1 x6_1), (x8_1), (wrap64 (x7_1 - (wrap64 ((wrap64 (Int.tdiv x5_1 x6_1)) * x8_1)))), (by first | rfl | (simp; done) | (simp [*]; done)), (by first | rfl | (simp; done) | (simp [*]; done)), (by first | rfl | (simp; done) | (simp [*]; done)), (by first | rfl | (simp; done) | (simp [*]; done)), H', ⟨by have := HK1.out; omega⟩, by repeat (first | exact Drawn0.refl _ | apply Drawn0.step)⟩
      · rw [if_neg c4] at H
        have c4b0 : decide (0 < x6_1) = false := decide_eq_false c4
        clear c4
        by_cases c6 : x5_1 = 1
        · rw [if_pos c6] at H
          have c6b0 : (x5_1 == 1) = true := beq_iff_eq.mpr c6
          have c6b1 : (x5_1 != 1) = false := bne_eq_false_iff_eq.mpr c6
          clear c6
          replace H := Option.bind_eq_some_iff.mp H
          obtain ⟨t106, A70, H⟩ := H
          replace H : (some t106) = some r := H
          have A7 := Aside0.mk A70
          clear A70
          obtain rfl := Option.some.inj H
          go_wp2_with (first | (go_at_call 53; (with_reducible refine (spec_l2Left.calls x7_1 a1 t106 _ A7.out).mono ?_); rintro e w' ⟨rfl, ⟨nd, rfl⟩⟩; (try first | exact ⟨rfl, _, World.drewN_drewN _ _ _⟩ | exact ⟨rfl, _, Eq.trans (World.drewN_drewN _ _ _) (congrArg (World.drewN _) (Nat.add_assoc _ _ _))⟩)))
          repeat (go_quiet (first | (go_at_call 53; (with_reducible refine (spec_l2Left.calls x7_1 a1 t106 _ A7.out).mono ?_); rintro e w' ⟨rfl, ⟨nd, rfl⟩⟩; (try first | exact ⟨rfl, _, World.drewN_drewN _ _ _⟩ | exact ⟨rfl, _, Eq.trans (World.drewN_drewN _ _ _) (congrArg (World.drewN _) (Nat.add_assoc _ _ _))⟩))); try go_wp2_with (first | (go_at_call 53; (with_reducible refine (spec_l2Left.calls x7_1 a1 t106 _ A7.out).mono ?_); rintro e w' ⟨rfl, ⟨nd, rfl⟩⟩; (try first | exact ⟨rfl, _, World.drewN_drewN _ _ _⟩ | exact ⟨rfl, _, Eq.trans (World.drewN_drewN _ _ _) (congrArg (World.drewN _) (Nat.add_assoc _ _ _))⟩))))
          go_ret
          exact ⟨by first | rfl | (simp; done) | (simp [*]; done), by repeat (first | exact Drawn0.refl _ | apply Drawn0.step)⟩
        · rw [if_neg c6] at H
          have c6b0 : (x5_1 == 1) = false := beq_eq_false_iff_ne.mpr c6
          have c6b1 : (x5_1 != 1) = true := bne_iff_ne.mpr c6
          obtain rfl := Option.some.inj H
          go_wp2
          repeat (go_quiet (fail); try go_wp2)
          go_ret
          exact ⟨by first | rfl | (simp; done) | (simp [*]; done), by repeat (first | exact Drawn0.refl _ | apply Drawn0.step)⟩

attribute [local go_sem] fld_
/-! ### spec_l3Add: function 31 -/
def spec_l3Add.j0 : Nat → Int → Int → Int → Int → Int → Int → Int → Int → Bool → Int → Int → Bool → Option (Int × Int × Bool)
  | 0, _, _, _, _, _, _, _, _, _, _, _, _ => none
  | k + 1, x108000, x108001, x108002, x108003, x108004, x108005, x109000, x109001, x109002, x110000, x110001, x110002 => if x109000 = x110000 then (if x108000 = 0 then (none) else ((spec_l2Inv.f k (wrap64 (2 * x109001)) x108000).bind fun t111 => ((spec_l2Left.f (wrap64 ((wrap64 ((wrap64 ((Int.tmod (wrap64 ((Int.tmod (wrap64 ((wrap64 ((Int.tmod (wrap64 (3 * x109000)) x108000) * x109000)) + x108001)) x108000) * t111)) x108000) * (Int.tmod (wrap64 ((Int.tmod (wrap64 ((wrap64 ((Int.tmod (wrap64 (3 * x109000)) x108000) * x109000)) + x108001)) x108000) * t111)) x108000))) - x109000)) - x110000)) x108000).bind fun t112 => ((spec_l2Left.f (wrap64 ((wrap64 ((Int.tmod (wrap64 ((Int.tmod (wrap64 ((wrap64 ((Int.tmod (wrap64 (3 * x109000)) x108000) * x109000)) + x108001)) x108000) * t111)) x108000) * (wrap64 (x109000 - t112)))) - x109001)) x108000).bind fun t113 => (some (t112, t113, false)))))) else ((spec_l2Left.f (wrap64 (x110001 - x109001)) x108000).bind fun t114 => ((spec_l2Inv.f k (wrap64 (x110000 - x109000)) x108000).bind fun t115 => (if x108000 = 0 then (none) else ((spec_l2Left.f (wrap64 ((wrap64 ((wrap64 ((Int.tmod (wrap64 (t114 * t115)) x108000) * (Int.tmod (wrap64 (t114 * t115)) x108000))) - x109000)) - x110000)) x108000).bind fun t116 => ((spec_l2Left.f (wrap64 ((wrap64 ((Int.tmod (wrap64 (t114 * t115)) x108000) * (wrap64 (x109000 - t116)))) - x109001)) x108000).bind fun t117 => (some (t116, t117, false)))))))
def spec_l3Add.f (k : Nat) (a0_0 : Int) (a0_1 : Int) (a0_2 : Int) (a0_3 : Int) (a0_4 : Int) (a0_5 : Int) (a1_0 : Int) (a1_1 : Int) (a1_2 : Bool) (a2_0 : Int) (a2_1 : Int) (a2_2 : Bool) : Option (Int × Int × Bool) := if a1_2 = true then (some (a2_0, a2_1, a2_2)) else (if a2_2 = true then (some (a1_0, a1_1, a1_2)) else (if a1_0 = a2_0 then (if a0_0 = 0 then (none) else (if (Int.tmod (wrap64 (a1_1 + a2_1)) a0_0) = 0 then (some (0, 0, true)) else (spec_l3Add.j0 k a0_0 a0_1 a0_2 a0_3 a0_4 a0_5 a1_0 a1_1 a1_2 a2_0 a2_1 a2_2))) else (spec_l3Add.j0 k a0_0 a0_1 a0_2 a0_3 a0_4 a0_5 a1_0 a1_1 a1_2 a2_0 a2_1 a2_2)))
theorem spec_l3Add.mono_l : ∀ k, (∀ y0 y1 y2 y3 y4 y5 y6 y7 y8 y9 y10 y11, LeO (spec_l3Add.j0 k y0 y1 y2 y3 y4 y5 y6 y7 y8 y9 y10 y11) (spec_l3Add.j0 (k + 1) y0 y1 y2 y3 y4 y5 y6 y7 y8 y9 y10 y11))
 | 0 => fun _ _ _ _ _ _ _ _ _ _ _ _ r h => by simp [spec_l3Add.j0] at h
 | k + 1 => by
  have ih0 := spec_l3Add.mono_l k
  ·
   intro y0 y1 y2 y3 y4 y5 y6 y7 y8 y9 y10 y11
   unfold spec_l3Add.j0
   repeat' first
   | (with_reducible exact ih0 _ _ _ _ _ _ _ _ _ _ _ _)
   | (with_reducible exact spec_l2Inv.mono _ _ _)
   | (with_reducible exact LeO.refl _)
   | (with_reducible exact LeO.none _)
   | (with_reducible refine LeO.ite ?_ ?_)
   | (with_reducible refine LeO.bind ?_ (fun _ => ?_))
   | exact ih0 _ _ _ _ _ _ _ _ _ _ _ _
   | exact spec_l2Inv.mono _ _ _
   | exact LeO.none _
   | refine LeO.ite ?_ ?_
   | refine LeO.bind ?_ (fun _ => ?_)
theorem spec_l3Add.mono : ∀ a0 a1 a2 a3 a4 a5 a6 a7 a8 a9 a10 a11 k, LeO (spec_l3Add.f k a0 a1 a2 a3 a4 a5 a6 a7 a8 a9 a10 a11) (spec_l3Add.f (k + 1) a0 a1 a2 a3 a4 a5 a6 a7 a8 a9 a10 a11) := by
 intro a0 a1 a2 a3 a4 a5 a6 a7 a8 a9 a10 a11 k; have ih0 := spec_l3Add.mono_l k
 unfold spec_l3Add.f
 repeat' first
   | (with_reducible exact ih0 _ _ _ _ _ _ _ _ _ _ _ _)
   | (with_reducible exact spec_l2Inv.mono _ _ _)
   | (with_reducible exact LeO.refl _)
   | (with_reducible exact LeO.none _)
   | (with_reducible refine LeO.ite ?_ ?_)
   | (with_reducible refine LeO.bind ?_ (fun _ => ?_))
   | exact ih0 _ _ _ _ _ _ _ _ _ _ _ _
   | exact spec_l2Inv.mono _ _ _
   | exact LeO.none _
   | refine LeO.ite ?_ ?_
   | refine LeO.bind ?_ (fun _ => ?_)
set_option maxHeartbeats 8000000 in
set_option maxRecDepth 100000 in
theorem spec_l3Add.calls (k : Nat) (a0_0 : Int) (a0_1 : Int) (a0_2 : Int) (a0_3 : Int) (a0_4 : Int) (a0_5 : Int) (a1_0 : Int) (a1_1 : Int) (a1_2 : Bool) (a2_0 : Int) (a2_1 : Int) (a2_2 : Bool) (r1 : Int) (r2 : Int) (r3 : Bool) (w : World) (h : spec_l3Add.f k a0_0 a0_1 a0_2 a0_3 a0_4 a0_5 a1_0 a1_1 a1_2 a2_0 a2_1 a2_2 = some (r1, r2, r3)) :
  Calls Try.prog 31 #[.agg #[.int .i64 a0_0, .int .i64 a0_1, .int .i64 a0_2, .int .i64 a0_3, .int .i64 a0_4, .int .i64 a0_5], .agg #[.int .i64 a1_0, .int .i64 a1_1, .bool a1_2], .agg #[.int .i64 a2_0, .int .i64 a2_1, .bool a2_2]] w fun e w' => e = .returned (.agg #[.int .i64 r1, .int .i64 r2, .bool r3]) ∧ Below w.heap.size w w' := by
 have hu29 := Try.underlying29; have hu26 := Try.underlying26; have HB := Aside0.mk (Below.refl w.heap.size w)
 have H : (if a1_2 = true then (some (a2_0, a2_1, a2_2)) else (if a2_2 = true then (some (a1_0, a1_1, a1_2)) else (if a1_0 = a2_0 then (if a0_0 = 0 then (none) else (if (Int.tmod (wrap64 (a1_1 + a2_1)) a0_0) = 0 then (some (0, 0, true)) else (spec_l3Add.j0 k a0_0 a0_1 a0_2 a0_3 a0_4 a0_5 a1_0 a1_1 a1_2 a2_0 a2_1 a2_2))) else (spec_l3Add.j0 k a0_0 a0_1 a0_2 a0_3 a0_4 a0_5 a1_0 a1_1 a1_2 a2_0 a2_1 a2_2)))) = some (r1, r2, r3) := h
 clear h; have HC4 := Aside0.mk H; clear H
 go_enter Try.func31, Try.ntmps31
 go_upto_block 0 with (first | ((with_reducible refine gate_dst (N := 3) rfl ?_); refine box_event ?hg (N := 3) ?hd (cs := #[.int .i64 a0_0, .int .i64 a0_1, .int .i64 a0_2, .int .i64 a0_3, .int .i64 a0_4, .int .i64 a0_5]) (t := 29) ?hr ?_; (case hd => rfl); (case hg => rfl); (case hr => first | (go_simp; done) | (go_simp; rfl)); intro gb107 hg w5 hbox hb; have BK107 := Aside0.mk hbox; have GW107 := ge_ HB hg; have GE107 := ge_ HB hg; replace HB := bs_ HB hb; clear hb hbox hg) | ((with_reducible refine gate_dst (N := 4) rfl ?_); refine box_event ?hg (N := 4) ?hd (cs := #[.int .i64 a1_0, .int .i64 a1_1, .bool a1_2]) (t := 26) ?hr ?_; (case hd => rfl); (case hg => rfl); (case hr => first | (go_simp; done) | (go_simp; rfl)); intro gb108 hg w6 hbox hb; have BK108 := Aside0.mk hbox; have GW108 := ge_ HB hg; have GE108 := ge_ HB hg; have NB107_108 := nl_ BK107 hg; have NB108_107 := nr_ BK107 hg; replace BK107 := bb_ BK107 hb; replace HB := bs_ HB hb; clear hb hbox hg) | ((with_reducible refine gate_dst (N := 5) rfl ?_); refine box_event ?hg (N := 5) ?hd (cs := #[.int .i64 a2_0, .int .i64 a2_1, .bool a2_2]) (t := 26) ?hr ?_; (case hd => rfl); (case hg => rfl); (case hr => first | (go_simp; done) | (go_simp; rfl)); intro gb109 hg w7 hbox hb; have BK109 := Aside0.mk hbox; have GW109 := ge_ HB hg; have GE109 := ge_ HB hg; have NB107_109 := nl_ BK107 hg; have NB109_107 := nr_ BK107 hg; have NB108_109 := nl_ BK108 hg; have NB109_108 := nr_ BK108 hg; replace BK107 := bb_ BK107 hb; replace BK108 := bb_ BK108 hb; replace HB := bs_ HB hb; clear hb hbox hg) | ((with_reducible refine gate_dst (N := 6) rfl ?_); refine box_event ?hg (N := 6) ?hd (cs := #[.int .i64 0, .int .i64 0, .bool false]) (t := 26) ?hr ?_; (case hd => rfl); (case hg => rfl); (case hr => first | (go_simp; done) | (go_simp; rfl)); intro gb110 hg w8 hbox hb; have BK110 := Aside0.mk hbox; have GW110 := ge_ HB hg; have GE110 := ge_ HB hg; have NB107_110 := nl_ BK107 hg; have NB110_107 := nr_ BK107 hg; have NB108_110 := nl_ BK108 hg; have NB110_108 := nr_ BK108 hg; have NB109_110 := nl_ BK109 hg; have NB110_109 := nr_ BK109 hg; replace BK107 := bb_ BK107 hb; replace BK108 := bb_ BK108 hb; replace BK109 := bb_ BK109 hb; replace HB := bs_ HB hb; clear hb hbox hg))
 repeat (go_quiet (first | ((with_reducible refine gate_dst (N := 3) rfl ?_); refine box_event ?hg (N := 3) ?hd (cs := #[.int .i64 a0_0, .int .i64 a0_1, .int .i64 a0_2, .int .i64 a0_3, .int .i64 a0_4, .int .i64 a0_5]) (t := 29) ?hr ?_; (case hd => rfl); (case hg => rfl); (case hr => first | (go_simp; done) | (go_simp; rfl)); intro gb107 hg w5 hbox hb; have BK107 := Aside0.mk hbox; have GW107 := ge_ HB hg; have GE107 := ge_ HB hg; replace HB := bs_ HB hb; clear hb hbox hg) | ((with_reducible refine gate_dst (N := 4) rfl ?_); refine box_event ?hg (N := 4) ?hd (cs := #[.int .i64 a1_0, .int .i64 a1_1, .bool a1_2]) (t := 26) ?hr ?_; (case hd => rfl); (case hg => rfl); (case hr => first | (go_simp; done) | (go_simp; rfl)); intro gb108 hg w6 hbox hb; have BK108 := Aside0.mk hbox; have GW108 := ge_ HB hg; have GE108 := ge_ HB hg; have NB107_108 := nl_ BK107 hg; have NB108_107 := nr_ BK107 hg; replace BK107 := bb_ BK107 hb; replace HB := bs_ HB hb; clear hb hbox hg) | ((with_reducible refine gate_dst (N := 5) rfl ?_); refine box_event ?hg (N := 5) ?hd (cs := #[.int .i64 a2_0, .int .i64 a2_1, .bool a2_2]) (t := 26) ?hr ?_; (case hd => rfl); (case hg => rfl); (case hr => first | (go_simp; done) | (go_simp; rfl)); intro gb109 hg w7 hbox hb; have BK109 := Aside0.mk hbox; have GW109 := ge_ HB hg; have GE109 := ge_ HB hg; have NB107_109 := nl_ BK107 hg; have NB109_107 := nr_ BK107 hg; have NB108_109 := nl_ BK108 hg; have NB109_108 := nr_ BK108 hg; replace BK107 := bb_ BK107 hb; replace BK108 := bb_ BK108 hb; replace HB := bs_ HB hb; clear hb hbox hg) | ((with_reducible refine gate_dst (N := 6) rfl ?_); refine box_event ?hg (N := 6) ?hd (cs := #[.int .i64 0, .int .i64 0, .bool false]) (t := 26) ?hr ?_; (case hd => rfl); (case hg => rfl); (case hr => first | (go_simp; done) | (go_simp; rfl)); intro gb110 hg w8 hbox hb; have BK110 := Aside0.mk hbox; have GW110 := ge_ HB hg; have GE110 := ge_ HB hg; have NB107_110 := nl_ BK107 hg; have NB110_107 := nr_ BK107 hg; have NB108_110 := nl_ BK108 hg; have NB110_108 := nr_ BK108 hg; have NB109_110 := nl_ BK109 hg; have NB110_109 := nr_ BK109 hg; replace BK107 := bb_ BK107 hb; replace BK108 := bb_ BK108 hb; replace BK109 := bb_ BK109 hb; replace HB := bs_ HB hb; clear hb hbox hg)); go_upto_block 0 with (first | ((with_reducible refine gate_dst (N := 3) rfl ?_); refine box_event ?hg (N := 3) ?hd (cs := #[.int .i64 a0_0, .int .i64 a0_1, .int .i64 a0_2, .int .i64 a0_3, .int .i64 a0_4, .int .i64 a0_5]) (t := 29) ?hr ?_; (case hd => rfl); (case hg => rfl); (case hr => first | (go_simp; done) | (go_simp; rfl)); intro gb107 hg w5 hbox hb; have BK107 := Aside0.mk hbox; have GW107 := ge_ HB hg; have GE107 := ge_ HB hg; replace HB := bs_ HB hb; clear hb hbox hg) | ((with_reducible refine gate_dst (N := 4) rfl ?_); refine box_event ?hg (N := 4) ?hd (cs := #[.int .i64 a1_0, .int .i64 a1_1, .bool a1_2]) (t := 26) ?hr ?_; (case hd => rfl); (case hg => rfl); (case hr => first | (go_simp; done) | (go_simp; rfl)); intro gb108 hg w6 hbox hb; have BK108 := Aside0.mk hbox; have GW108 := ge_ HB hg; have GE108 := ge_ HB hg; have NB107_108 := nl_ BK107 hg; have NB108_107 := nr_ BK107 hg; replace BK107 := bb_ BK107 hb; replace HB := bs_ HB hb; clear hb hbox hg) | ((with_reducible refine gate_dst (N := 5) rfl ?_); refine box_event ?hg (N := 5) ?hd (cs := #[.int .i64 a2_0, .int .i64 a2_1, .bool a2_2]) (t := 26) ?hr ?_; (case hd => rfl); (case hg => rfl); (case hr => first | (go_simp; done) | (go_simp; rfl)); intro gb109 hg w7 hbox hb; have BK109 := Aside0.mk hbox; have GW109 := ge_ HB hg; have GE109 := ge_ HB hg; have NB107_109 := nl_ BK107 hg; have NB109_107 := nr_ BK107 hg; have NB108_109 := nl_ BK108 hg; have NB109_108 := nr_ BK108 hg; replace BK107 := bb_ BK107 hb; replace BK108 := bb_ BK108 hb; replace HB := bs_ HB hb; clear hb hbox hg) | ((with_reducible refine gate_dst (N := 6) rfl ?_); refine box_event ?hg (N := 6) ?hd (cs := #[.int .i64 0, .int .i64 0, .bool false]) (t := 26) ?hr ?_; (case hd => rfl); (case hg => rfl); (case hr => first | (go_simp; done) | (go_simp; rfl)); intro gb110 hg w8 hbox hb; have BK110 := Aside0.mk hbox; have GW110 := ge_ HB hg; have GE110 := ge_ HB hg; have NB107_110 := nl_ BK107 hg; have NB110_107 := nr_ BK107 hg; have NB108_110 := nl_ BK108 hg; have NB110_108 := nr_ BK108 hg; have NB109_110 := nl_ BK109 hg; have NB110_109 := nr_ BK109 hg; replace BK107 := bb_ BK107 hb; replace BK108 := bb_ BK108 hb; replace BK109 := bb_ BK109 hb; replace HB := bs_ HB hb; clear hb hbox hg)))
 (try simp only [Act.put, sA_, sZ_, sS_])
 go_cut [] (fun wc => ∃ (kq : Nat) (x111000_3 : Int) (x111001_3 : Int) (x111002_3 : Bool), Aside0 (spec_l3Add.j0 kq a0_0 a0_1 a0_2 a0_3 a0_4 a0_5 a1_0 a1_1 a1_2 a2_0 a2_1 a2_2 = some (r1, r2, r3)) ∧ Aside0 (kq ≤ k) ∧ Aside0 (wc.heap[gb107]? = some (.cells #[.int .i64 a0_0, .int .i64 a0_1, .int .i64 a0_2, .int .i64 a0_3, .int .i64 a0_4, .int .i64 a0_5] 29 (0, 0))) ∧ Aside0 (wc.heap[gb108]? = some (.cells #[.int .i64 a1_0, .int .i64 a1_1, .bool a1_2] 26 (0, 0))) ∧ Aside0 (wc.heap[gb109]? = some (.cells #[.int .i64 a2_0, .int .i64 a2_1, .bool a2_2] 26 (0, 0))) ∧ Aside0 (wc.heap[gb110]? = some (.cells #[.int .i64 x111000_3, .int .i64 x111001_3, .bool x111002_3] 26 (0, 0))) ∧ Aside0 (Below w.heap.size w wc))
 case first =>
  have H := HC4.out; clear HC4
  by_cases c9 : a1_2 = true
  ·
   subst c9
   have H1 : (some (a2_0, a2_1, a2_2)) = some (r1, r2, r3) := by rw [if_pos rfl] at H; exact H
   clear H; have H := H1; clear H1
   simp only [Option.some.injEq, Prod.mk.injEq] at H
   obtain ⟨rfl, rfl, rfl⟩ := H; have hnb10 := NB108_107.out; have hnc10 := NB107_108.out; have hnb11 := NB108_109.out; have hnc11 := NB109_108.out; have hnb12 := NB108_110.out; have hnc12 := NB110_108.out
   have hcz13_0 : w8.cell? ⟨gb108, 0, none⟩ = some (.int .i64 a1_0) := bc_ BK108 0
   have hcz13_1 : w8.cell? ⟨gb108, 1, none⟩ = some (.int .i64 a1_1) := bc_ BK108 1
   have hcz13_2 : w8.cell? ⟨gb108, 2, none⟩ = some (.bool true) := bc_ BK108 2
   have hfz13_0 := blk_frozen BK108.out 0; have hfz13_1 := blk_frozen BK108.out 1; have hfz13_2 := blk_frozen BK108.out 2; have hnb14 := NB109_107.out; have hnc14 := NB107_109.out; have hnb15 := NB109_110.out; have hnc15 := NB110_109.out
   have hcz16_0 : w8.cell? ⟨gb109, 0, none⟩ = some (.int .i64 a2_0) := bc_ BK109 0
   have hcz16_1 : w8.cell? ⟨gb109, 1, none⟩ = some (.int .i64 a2_1) := bc_ BK109 1
   have hcz16_2 : w8.cell? ⟨gb109, 2, none⟩ = some (.bool a2_2) := bc_ BK109 2
   have hfz16_0 := blk_frozen BK109.out 0; have hfz16_1 := blk_frozen BK109.out 1; have hfz16_2 := blk_frozen BK109.out 2; have hnb17 := NB110_107.out; have hnc17 := NB107_110.out
   have hcz18_0 : w8.cell? ⟨gb110, 0, none⟩ = some (.int .i64 0) := bc_ BK110 0
   have hcz18_1 : w8.cell? ⟨gb110, 1, none⟩ = some (.int .i64 0) := bc_ BK110 1
   have hcz18_2 : w8.cell? ⟨gb110, 2, none⟩ = some (.bool false) := bc_ BK110 2
   have hfz18_0 := blk_frozen BK110.out 0; have hfz18_1 := blk_frozen BK110.out 1; have hfz18_2 := blk_frozen BK110.out 2
   go_wp2
   repeat (go_quiet (fail); try go_wp2)
   refine bodyPost_ret (results_cell_row rfl _ _ gb110 26 #[.int .i64 a2_0, .int .i64 a2_1, .bool a2_2] (0, 0) _ rfl (by (with_reducible repeat (first | refine blk_drewN ?_ _ | refine blk_drew ?_ | refine blk_alloc ?_ _)); refine blk_put (cs := #[.int .i64 a2_0, .int .i64 a2_1, .bool false]) ?_ 2 _ rfl; (with_reducible repeat (first | refine blk_drewN ?_ _ | refine blk_drew ?_ | refine blk_alloc ?_ _)); refine blk_put (cs := #[.int .i64 a2_0, .int .i64 0, .bool false]) ?_ 1 _ rfl; (with_reducible repeat (first | refine blk_drewN ?_ _ | refine blk_drew ?_ | refine blk_alloc ?_ _)); refine blk_put (cs := #[.int .i64 0, .int .i64 0, .bool false]) ?_ 0 _ rfl; (with_reducible repeat (first | refine blk_drewN ?_ _ | refine blk_drew ?_ | refine blk_alloc ?_ _)); exact BK110.out) Try.underlying26 rfl (by kernel_rfl)) rfl ?_; exact ⟨by first | rfl | (simp [errW_none, errW_some] <;> rfl) | (simp [*, errW_none, errW_some] <;> rfl), by repeat (first | (with_reducible first | exact HB.out | apply below_alloc | apply pw_below_drewN | apply below_drew1 | refine below_set ?_ GE107.out | refine below_set ?_ GE108.out | refine below_set ?_ GE109.out | refine below_set ?_ GE110.out) | exact HB.out)⟩
  ·
   replace c9 := Bool.eq_false_iff.mpr c9; subst c9
   have H1 : (if a2_2 = true then (some (a1_0, a1_1, false)) else (if a1_0 = a2_0 then (if a0_0 = 0 then (none) else (if (Int.tmod (wrap64 (a1_1 + a2_1)) a0_0) = 0 then (some (0, 0, true)) else (spec_l3Add.j0 k a0_0 a0_1 a0_2 a0_3 a0_4 a0_5 a1_0 a1_1 false a2_0 a2_1 a2_2))) else (spec_l3Add.j0 k a0_0 a0_1 a0_2 a0_3 a0_4 a0_5 a1_0 a1_1 false a2_0 a2_1 a2_2))) = some (r1, r2, r3) := by rw [if_neg (show ¬ (false = true) by decide)] at H; exact H
   clear H; have H := H1; clear H1
   by_cases c19 : a2_2 = true
   ·
    subst c19
    have H1 : (some (a1_0, a1_1, false)) = some (r1, r2, r3) := by rw [if_pos rfl] at H; exact H
    clear H; have H := H1; clear H1
    simp only [Option.some.injEq, Prod.mk.injEq] at H
    obtain ⟨rfl, rfl, rfl⟩ := H; have hnb20 := NB108_107.out; have hnc20 := NB107_108.out; have hnb21 := NB108_109.out; have hnc21 := NB109_108.out; have hnb22 := NB108_110.out; have hnc22 := NB110_108.out
    have hcz23_0 : w8.cell? ⟨gb108, 0, none⟩ = some (.int .i64 a1_0) := bc_ BK108 0
    have hcz23_1 : w8.cell? ⟨gb108, 1, none⟩ = some (.int .i64 a1_1) := bc_ BK108 1
    have hcz23_2 : w8.cell? ⟨gb108, 2, none⟩ = some (.bool false) := bc_ BK108 2
    have hfz23_0 := blk_frozen BK108.out 0; have hfz23_1 := blk_frozen BK108.out 1; have hfz23_2 := blk_frozen BK108.out 2; have hnb24 := NB109_107.out; have hnc24 := NB107_109.out; have hnb25 := NB109_110.out; have hnc25 := NB110_109.out
    have hcz26_0 : w8.cell? ⟨gb109, 0, none⟩ = some (.int .i64 a2_0) := bc_ BK109 0
    have hcz26_1 : w8.cell? ⟨gb109, 1, none⟩ = some (.int .i64 a2_1) := bc_ BK109 1
    have hcz26_2 : w8.cell? ⟨gb109, 2, none⟩ = some (.bool true) := bc_ BK109 2
    have hfz26_0 := blk_frozen BK109.out 0; have hfz26_1 := blk_frozen BK109.out 1; have hfz26_2 := blk_frozen BK109.out 2; have hnb27 := NB110_107.out; have hnc27 := NB107_110.out
    have hcz28_0 : w8.cell? ⟨gb110, 0, none⟩ = some (.int .i64 0) := bc_ BK110 0
    have hcz28_1 : w8.cell? ⟨gb110, 1, none⟩ = some (.int .i64 0) := bc_ BK110 1
    have hcz28_2 : w8.cell? ⟨gb110, 2, none⟩ = some (.bool false) := bc_ BK110 2
    have hfz28_0 := blk_frozen BK110.out 0; have hfz28_1 := blk_frozen BK110.out 1; have hfz28_2 := blk_frozen BK110.out 2
    go_wp2
    repeat (go_quiet (fail); try go_wp2)
    refine bodyPost_ret (results_cell_row rfl _ _ gb110 26 #[.int .i64 a1_0, .int .i64 a1_1, .bool false] (0, 0) _ rfl (by (with_reducible repeat (first | refine blk_drewN ?_ _ | refine blk_drew ?_ | refine blk_alloc ?_ _)); refine blk_put (cs := #[.int .i64 a1_0, .int .i64 a1_1, .bool false]) ?_ 2 _ rfl; (with_reducible repeat (first | refine blk_drewN ?_ _ | refine blk_drew ?_ | refine blk_alloc ?_ _)); refine blk_put (cs := #[.int .i64 a1_0, .int .i64 0, .bool false]) ?_ 1 _ rfl; (with_reducible repeat (first | refine blk_drewN ?_ _ | refine blk_drew ?_ | refine blk_alloc ?_ _)); refine blk_put (cs := #[.int .i64 0, .int .i64 0, .bool false]) ?_ 0 _ rfl; (with_reducible repeat (first | refine blk_drewN ?_ _ | refine blk_drew ?_ | refine blk_alloc ?_ _)); exact BK110.out) Try.underlying26 rfl (by kernel_rfl)) rfl ?_; exact ⟨by first | rfl | (simp [errW_none, errW_some] <;> rfl) | (simp [*, errW_none, errW_some] <;> rfl), by repeat (first | (with_reducible first | exact HB.out | apply below_alloc | apply pw_below_drewN | apply below_drew1 | refine below_set ?_ GE107.out | refine below_set ?_ GE108.out | refine below_set ?_ GE109.out | refine below_set ?_ GE110.out) | exact HB.out)⟩
   ·
    replace c19 := Bool.eq_false_iff.mpr c19; subst c19
    have H1 : (if a1_0 = a2_0 then (if a0_0 = 0 then (none) else (if (Int.tmod (wrap64 (a1_1 + a2_1)) a0_0) = 0 then (some (0, 0, true)) else (spec_l3Add.j0 k a0_0 a0_1 a0_2 a0_3 a0_4 a0_5 a1_0 a1_1 false a2_0 a2_1 false))) else (spec_l3Add.j0 k a0_0 a0_1 a0_2 a0_3 a0_4 a0_5 a1_0 a1_1 false a2_0 a2_1 false)) = some (r1, r2, r3) := by rw [if_neg (show ¬ (false = true) by decide)] at H; exact H
    clear H; have H := H1; clear H1
    by_cases c29 : a1_0 = a2_0
    ·
     rw [if_pos c29] at H
     have c29b0 : (a1_0 == a2_0) = true := beq_iff_eq.mpr c29
     have c29b1 : (a1_0 != a2_0) = false := bne_eq_false_iff_eq.mpr c29
     clear c29
     (first | rw [c29b0] | (simp only [i64_w, i32_w]; rw [c29b0]) | skip)
     by_cases c30 : a0_0 = 0
     · rw [if_pos c30] at H; exact absurd H (by simp)
     ·
      rw [if_neg c30] at H
      have c30b0 : (a0_0 == 0) = false := beq_eq_false_iff_ne.mpr c30
      have c30b1 : (a0_0 != 0) = true := bne_iff_ne.mpr c30
      by_cases c31 : (Int.tmod (wrap64 (a1_1 + a2_1)) a0_0) = 0
      ·
       rw [if_pos c31] at H
       have c31b0 : ((Int.tmod (wrap64 (a1_1 + a2_1)) a0_0) == 0) = true := beq_iff_eq.mpr c31
       have c31b1 : ((Int.tmod (wrap64 (a1_1 + a2_1)) a0_0) != 0) = false := bne_eq_false_iff_eq.mpr c31
       clear c31
       simp only [Option.some.injEq, Prod.mk.injEq] at H
       obtain ⟨rfl, rfl, rfl⟩ := H; have hnb32 := NB108_107.out; have hnc32 := NB107_108.out; have hnb33 := NB108_109.out; have hnc33 := NB109_108.out; have hnb34 := NB108_110.out; have hnc34 := NB110_108.out
       have hcz35_0 : w8.cell? ⟨gb108, 0, none⟩ = some (.int .i64 a1_0) := bc_ BK108 0
       have hcz35_1 : w8.cell? ⟨gb108, 1, none⟩ = some (.int .i64 a1_1) := bc_ BK108 1
       have hcz35_2 : w8.cell? ⟨gb108, 2, none⟩ = some (.bool false) := bc_ BK108 2
       have hfz35_0 := blk_frozen BK108.out 0; have hfz35_1 := blk_frozen BK108.out 1; have hfz35_2 := blk_frozen BK108.out 2; have hnb36 := NB109_107.out; have hnc36 := NB107_109.out; have hnb37 := NB109_110.out; have hnc37 := NB110_109.out
       have hcz38_0 : w8.cell? ⟨gb109, 0, none⟩ = some (.int .i64 a2_0) := bc_ BK109 0
       have hcz38_1 : w8.cell? ⟨gb109, 1, none⟩ = some (.int .i64 a2_1) := bc_ BK109 1
       have hcz38_2 : w8.cell? ⟨gb109, 2, none⟩ = some (.bool false) := bc_ BK109 2
       have hfz38_0 := blk_frozen BK109.out 0; have hfz38_1 := blk_frozen BK109.out 1; have hfz38_2 := blk_frozen BK109.out 2; have hnb39 := NB107_110.out; have hnc39 := NB110_107.out
       have hcz40_0 : w8.cell? ⟨gb107, 0, none⟩ = some (.int .i64 a0_0) := bc_ BK107 0
       have hcz40_1 : w8.cell? ⟨gb107, 1, none⟩ = some (.int .i64 a0_1) := bc_ BK107 1
       have hcz40_2 : w8.cell? ⟨gb107, 2, none⟩ = some (.int .i64 a0_2) := bc_ BK107 2
       have hcz40_3 : w8.cell? ⟨gb107, 3, none⟩ = some (.int .i64 a0_3) := bc_ BK107 3
       have hcz40_4 : w8.cell? ⟨gb107, 4, none⟩ = some (.int .i64 a0_4) := bc_ BK107 4
       have hcz40_5 : w8.cell? ⟨gb107, 5, none⟩ = some (.int .i64 a0_5) := bc_ BK107 5
       have hfz40_0 := blk_frozen BK107.out 0; have hfz40_1 := blk_frozen BK107.out 1; have hfz40_2 := blk_frozen BK107.out 2; have hfz40_3 := blk_frozen BK107.out 3; have hfz40_4 := blk_frozen BK107.out 4; have hfz40_5 := blk_frozen BK107.out 5
       have hcz41_0 : w8.cell? ⟨gb110, 0, none⟩ = some (.int .i64 0) := bc_ BK110 0
       have hcz41_1 : w8.cell? ⟨gb110, 1, none⟩ = some (.int .i64 0) := bc_ BK110 1
       have hcz41_2 : w8.cell? ⟨gb110, 2, none⟩ = some (.bool false) := bc_ BK110 2
       have hfz41_0 := blk_frozen BK110.out 0; have hfz41_1 := blk_frozen BK110.out 1; have hfz41_2 := blk_frozen BK110.out 2
       go_wp2
       repeat (go_quiet (fail); try go_wp2)
       refine bodyPost_ret (results_cell_row rfl _ _ gb110 26 #[.int .i64 0, .int .i64 0, .bool true] (0, 0) _ rfl (by (with_reducible repeat (first | refine blk_drewN ?_ _ | refine blk_drew ?_ | refine blk_alloc ?_ _)); refine blk_put (cs := #[.int .i64 0, .int .i64 0, .bool false]) ?_ 2 _ rfl; (with_reducible repeat (first | refine blk_drewN ?_ _ | refine blk_drew ?_ | refine blk_alloc ?_ _)); refine blk_put (cs := #[.int .i64 0, .int .i64 0, .bool false]) ?_ 1 _ rfl; (with_reducible repeat (first | refine blk_drewN ?_ _ | refine blk_drew ?_ | refine blk_alloc ?_ _)); refine blk_put (cs := #[.int .i64 0, .int .i64 0, .bool false]) ?_ 0 _ rfl; (with_reducible repeat (first | refine blk_drewN ?_ _ | refine blk_drew ?_ | refine blk_alloc ?_ _)); exact BK110.out) Try.underlying26 rfl (by kernel_rfl)) rfl ?_; exact ⟨by first | rfl | (simp [errW_none, errW_some] <;> rfl) | (simp [*, errW_none, errW_some] <;> rfl), by repeat (first | (with_reducible first | exact HB.out | apply below_alloc | apply pw_below_drewN | apply below_drew1 | refine below_set ?_ GE107.out | refine below_set ?_ GE108.out | refine below_set ?_ GE109.out | refine below_set ?_ GE110.out) | exact HB.out)⟩
      ·
       rw [if_neg c31] at H
       have c31b0 : ((Int.tmod (wrap64 (a1_1 + a2_1)) a0_0) == 0) = false := beq_eq_false_iff_ne.mpr c31
       have c31b1 : ((Int.tmod (wrap64 (a1_1 + a2_1)) a0_0) != 0) = true := bne_iff_ne.mpr c31
       have H' := Aside0.mk H
       clear H; have hnb42 := NB108_107.out; have hnc42 := NB107_108.out; have hnb43 := NB108_109.out; have hnc43 := NB109_108.out; have hnb44 := NB108_110.out; have hnc44 := NB110_108.out
       have hcz45_0 : w8.cell? ⟨gb108, 0, none⟩ = some (.int .i64 a1_0) := bc_ BK108 0
       have hcz45_1 : w8.cell? ⟨gb108, 1, none⟩ = some (.int .i64 a1_1) := bc_ BK108 1
       have hcz45_2 : w8.cell? ⟨gb108, 2, none⟩ = some (.bool false) := bc_ BK108 2
       have hfz45_0 := blk_frozen BK108.out 0; have hfz45_1 := blk_frozen BK108.out 1; have hfz45_2 := blk_frozen BK108.out 2; have hnb46 := NB109_107.out; have hnc46 := NB107_109.out; have hnb47 := NB109_110.out; have hnc47 := NB110_109.out
       have hcz48_0 : w8.cell? ⟨gb109, 0, none⟩ = some (.int .i64 a2_0) := bc_ BK109 0
       have hcz48_1 : w8.cell? ⟨gb109, 1, none⟩ = some (.int .i64 a2_1) := bc_ BK109 1
       have hcz48_2 : w8.cell? ⟨gb109, 2, none⟩ = some (.bool false) := bc_ BK109 2
       have hfz48_0 := blk_frozen BK109.out 0; have hfz48_1 := blk_frozen BK109.out 1; have hfz48_2 := blk_frozen BK109.out 2; have hnb49 := NB107_110.out; have hnc49 := NB110_107.out
       have hcz50_0 : w8.cell? ⟨gb107, 0, none⟩ = some (.int .i64 a0_0) := bc_ BK107 0
       have hcz50_1 : w8.cell? ⟨gb107, 1, none⟩ = some (.int .i64 a0_1) := bc_ BK107 1
       have hcz50_2 : w8.cell? ⟨gb107, 2, none⟩ = some (.int .i64 a0_2) := bc_ BK107 2
       have hcz50_3 : w8.cell? ⟨gb107, 3, none⟩ = some (.int .i64 a0_3) := bc_ BK107 3
       have hcz50_4 : w8.cell? ⟨gb107, 4, none⟩ = some (.int .i64 a0_4) := bc_ BK107 4
       have hcz50_5 : w8.cell? ⟨gb107, 5, none⟩ = some (.int .i64 a0_5) := bc_ BK107 5
       have hfz50_0 := blk_frozen BK107.out 0; have hfz50_1 := blk_frozen BK107.out 1; have hfz50_2 := blk_frozen BK107.out 2; have hfz50_3 := blk_frozen BK107.out 3; have hfz50_4 := blk_frozen BK107.out 4; have hfz50_5 := blk_frozen BK107.out 5
       go_wp2
       repeat (go_quiet (fail); try go_wp2)
       go_meet
       case rel => exact ⟨_, (0), (0), (false), H', ⟨by first | omega | exact Nat.le_refl _⟩, ⟨bk_ BK107⟩, ⟨bk_ BK108⟩, ⟨bk_ BK109⟩, ⟨bk_ BK110⟩, ⟨bw_ HB⟩⟩
    ·
     rw [if_neg c29] at H
     have c29b0 : (a1_0 == a2_0) = false := beq_eq_false_iff_ne.mpr c29
     have c29b1 : (a1_0 != a2_0) = true := bne_iff_ne.mpr c29
     (first | rw [c29b0] | (simp only [i64_w, i32_w]; rw [c29b0]) | skip)
     have H' := Aside0.mk H
     clear H; have hnb51 := NB108_107.out; have hnc51 := NB107_108.out; have hnb52 := NB108_109.out; have hnc52 := NB109_108.out; have hnb53 := NB108_110.out; have hnc53 := NB110_108.out
     have hcz54_0 : w8.cell? ⟨gb108, 0, none⟩ = some (.int .i64 a1_0) := bc_ BK108 0
     have hcz54_1 : w8.cell? ⟨gb108, 1, none⟩ = some (.int .i64 a1_1) := bc_ BK108 1
     have hcz54_2 : w8.cell? ⟨gb108, 2, none⟩ = some (.bool false) := bc_ BK108 2
     have hfz54_0 := blk_frozen BK108.out 0; have hfz54_1 := blk_frozen BK108.out 1; have hfz54_2 := blk_frozen BK108.out 2; have hnb55 := NB109_107.out; have hnc55 := NB107_109.out; have hnb56 := NB109_110.out; have hnc56 := NB110_109.out
     have hcz57_0 : w8.cell? ⟨gb109, 0, none⟩ = some (.int .i64 a2_0) := bc_ BK109 0
     have hcz57_1 : w8.cell? ⟨gb109, 1, none⟩ = some (.int .i64 a2_1) := bc_ BK109 1
     have hcz57_2 : w8.cell? ⟨gb109, 2, none⟩ = some (.bool false) := bc_ BK109 2
     have hfz57_0 := blk_frozen BK109.out 0; have hfz57_1 := blk_frozen BK109.out 1; have hfz57_2 := blk_frozen BK109.out 2
     go_wp2
     repeat (go_quiet (fail); try go_wp2)
     go_meet
     case rel => exact ⟨_, (0), (0), (false), H', ⟨by first | omega | exact Nat.le_refl _⟩, ⟨bk_ BK107⟩, ⟨bk_ BK108⟩, ⟨bk_ BK109⟩, ⟨bk_ BK110⟩, ⟨bw_ HB⟩⟩
 case rest =>
  clear HC4
  try clear c1
  try clear c2
  try clear p2
  try clear c3
  try clear c4
  try clear c5
  try clear p6
  try clear c9
  try clear c10
  try clear c11
  try clear c12
  try clear c14
  try clear c15
  try clear c17
  try clear c19
  try clear c20
  try clear c21
  try clear c22
  try clear c24
  try clear c25
  try clear c27
  try clear c29
  try clear c29b0
  try clear c29b1
  try clear c30
  try clear c30b0
  try clear c30b1
  try clear c31
  try clear c31b0
  try clear c31b1
  try clear c32
  try clear c33
  try clear c34
  try clear c36
  try clear c37
  try clear c39
  try clear c42
  try clear c43
  try clear c44
  try clear c46
  try clear c47
  try clear c49
  try clear c51
  try clear c52
  try clear c53
  try clear c55
  try clear c56
  try clear hcz13_0
  try clear hcz13_1
  try clear hcz13_2
  try clear hcz16_0
  try clear hcz16_1
  try clear hcz16_2
  try clear hcz18_0
  try clear hcz18_1
  try clear hcz18_2
  try clear hcz23_0
  try clear hcz23_1
  try clear hcz23_2
  try clear hcz26_0
  try clear hcz26_1
  try clear hcz26_2
  try clear hcz28_0
  try clear hcz28_1
  try clear hcz28_2
  try clear hcz35_0
  try clear hcz35_1
  try clear hcz35_2
  try clear hcz38_0
  try clear hcz38_1
  try clear hcz38_2
  try clear hcz40_0
  try clear hcz40_1
  try clear hcz40_2
  try clear hcz40_3
  try clear hcz40_4
  try clear hcz40_5
  try clear hcz41_0
  try clear hcz41_1
  try clear hcz41_2
  try clear hcz45_0
  try clear hcz45_1
  try clear hcz45_2
  try clear hcz48_0
  try clear hcz48_1
  try clear hcz48_2
  try clear hcz50_0
  try clear hcz50_1
  try clear hcz50_2
  try clear hcz50_3
  try clear hcz50_4
  try clear hcz50_5
  try clear hcz54_0
  try clear hcz54_1
  try clear hcz54_2
  try clear hcz57_0
  try clear hcz57_1
  try clear hcz57_2
  try clear hfz13_0
  try clear hfz13_1
  try clear hfz13_2
  try clear hfz16_0
  try clear hfz16_1
  try clear hfz16_2
  try clear hfz18_0
  try clear hfz18_1
  try clear hfz18_2
  try clear hfz23_0
  try clear hfz23_1
  try clear hfz23_2
  try clear hfz26_0
  try clear hfz26_1
  try clear hfz26_2
  try clear hfz28_0
  try clear hfz28_1
  try clear hfz28_2
  try clear hfz35_0
  try clear hfz35_1
  try clear hfz35_2
  try clear hfz38_0
  try clear hfz38_1
  try clear hfz38_2
  try clear hfz40_0
  try clear hfz40_1
  try clear hfz40_2
  try clear hfz40_3
  try clear hfz40_4
  try clear hfz40_5
  try clear hfz41_0
  try clear hfz41_1
  try clear hfz41_2
  try clear hfz45_0
  try clear hfz45_1
  try clear hfz45_2
  try clear hfz48_0
  try clear hfz48_1
  try clear hfz48_2
  try clear hfz50_0
  try clear hfz50_1
  try clear hfz50_2
  try clear hfz50_3
  try clear hfz50_4
  try clear hfz50_5
  try clear hfz54_0
  try clear hfz54_1
  try clear hfz54_2
  try clear hfz57_0
  try clear hfz57_1
  try clear hfz57_2
  obtain ⟨kq, x111000_3, x111001_3, x111002_3, HA, HJ3, BK107, BK108, BK109, BK110, HB⟩ := hcut
  cases kq with
  | zero => exact absurd HA.out (by simp [spec_l3Add.j0])
  | succ kj3 =>
   have H := HA.out; clear HA
   simp only [spec_l3Add.j0] at H
   by_cases c58 : a1_0 = a2_0
   ·
    rw [if_pos c58] at H
    have c58b0 : (a1_0 == a2_0) = true := beq_iff_eq.mpr c58
    have c58b1 : (a1_0 != a2_0) = false := bne_eq_false_iff_eq.mpr c58
    clear c58
    by_cases c59 : a0_0 = 0
    · rw [if_pos c59] at H; exact absurd H (by simp)
    ·
     rw [if_neg c59] at H
     have c59b0 : (a0_0 == 0) = false := beq_eq_false_iff_ne.mpr c59
     have c59b1 : (a0_0 != 0) = true := bne_iff_ne.mpr c59
     replace H := Option.bind_eq_some_iff.mp H; obtain ⟨t111, A600, H⟩ := H
     replace H : ((spec_l2Left.f (wrap64 ((wrap64 ((wrap64 ((Int.tmod (wrap64 ((Int.tmod (wrap64 ((wrap64 ((Int.tmod (wrap64 (3 * a1_0)) a0_0) * a1_0)) + a0_1)) a0_0) * t111)) a0_0) * (Int.tmod (wrap64 ((Int.tmod (wrap64 ((wrap64 ((Int.tmod (wrap64 (3 * a1_0)) a0_0) * a1_0)) + a0_1)) a0_0) * t111)) a0_0))) - a1_0)) - a2_0)) a0_0).bind fun t112 => ((spec_l2Left.f (wrap64 ((wrap64 ((Int.tmod (wrap64 ((Int.tmod (wrap64 ((wrap64 ((Int.tmod (wrap64 (3 * a1_0)) a0_0) * a1_0)) + a0_1)) a0_0) * t111)) a0_0) * (wrap64 (a1_0 - t112)))) - a1_1)) a0_0).bind fun t113 => (some (t112, t113, false)))) = some (r1, r2, r3) := H
     have A60 := Aside0.mk A600; clear A600; replace H := Option.bind_eq_some_iff.mp H; obtain ⟨t112, A610, H⟩ := H
     replace H : ((spec_l2Left.f (wrap64 ((wrap64 ((Int.tmod (wrap64 ((Int.tmod (wrap64 ((wrap64 ((Int.tmod (wrap64 (3 * a1_0)) a0_0) * a1_0)) + a0_1)) a0_0) * t111)) a0_0) * (wrap64 (a1_0 - t112)))) - a1_1)) a0_0).bind fun t113 => (some (t112, t113, false))) = some (r1, r2, r3) := H
     have A61 := Aside0.mk A610; clear A610; replace H := Option.bind_eq_some_iff.mp H; obtain ⟨t113, A620, H⟩ := H
     replace H : (some (t112, t113, false)) = some (r1, r2, r3) := H
     have A62 := Aside0.mk A620; clear A620
     simp only [Option.some.injEq, Prod.mk.injEq] at H
     obtain ⟨rfl, rfl, rfl⟩ := H; have hnb63 := NB108_107.out; have hnc63 := NB107_108.out; have hnb64 := NB108_109.out; have hnc64 := NB109_108.out; have hnb65 := NB108_110.out; have hnc65 := NB110_108.out
     have hcz66_0 : wc.cell? ⟨gb108, 0, none⟩ = some (.int .i64 a1_0) := bc_ BK108 0
     have hcz66_1 : wc.cell? ⟨gb108, 1, none⟩ = some (.int .i64 a1_1) := bc_ BK108 1
     have hcz66_2 : wc.cell? ⟨gb108, 2, none⟩ = some (.bool a1_2) := bc_ BK108 2
     have hfz66_0 := blk_frozen BK108.out 0; have hfz66_1 := blk_frozen BK108.out 1; have hfz66_2 := blk_frozen BK108.out 2; have hnb67 := NB109_107.out; have hnc67 := NB107_109.out; have hnb68 := NB109_110.out; have hnc68 := NB110_109.out
     have hcz69_0 : wc.cell? ⟨gb109, 0, none⟩ = some (.int .i64 a2_0) := bc_ BK109 0
     have hcz69_1 : wc.cell? ⟨gb109, 1, none⟩ = some (.int .i64 a2_1) := bc_ BK109 1
     have hcz69_2 : wc.cell? ⟨gb109, 2, none⟩ = some (.bool a2_2) := bc_ BK109 2
     have hfz69_0 := blk_frozen BK109.out 0; have hfz69_1 := blk_frozen BK109.out 1; have hfz69_2 := blk_frozen BK109.out 2; have hnb70 := NB107_110.out; have hnc70 := NB110_107.out
     have hcz71_0 : wc.cell? ⟨gb107, 0, none⟩ = some (.int .i64 a0_0) := bc_ BK107 0
     have hcz71_1 : wc.cell? ⟨gb107, 1, none⟩ = some (.int .i64 a0_1) := bc_ BK107 1
     have hcz71_2 : wc.cell? ⟨gb107, 2, none⟩ = some (.int .i64 a0_2) := bc_ BK107 2
     have hcz71_3 : wc.cell? ⟨gb107, 3, none⟩ = some (.int .i64 a0_3) := bc_ BK107 3
     have hcz71_4 : wc.cell? ⟨gb107, 4, none⟩ = some (.int .i64 a0_4) := bc_ BK107 4
     have hcz71_5 : wc.cell? ⟨gb107, 5, none⟩ = some (.int .i64 a0_5) := bc_ BK107 5
     have hfz71_0 := blk_frozen BK107.out 0; have hfz71_1 := blk_frozen BK107.out 1; have hfz71_2 := blk_frozen BK107.out 2; have hfz71_3 := blk_frozen BK107.out 3; have hfz71_4 := blk_frozen BK107.out 4; have hfz71_5 := blk_frozen BK107.out 5
     have hcz72_0 : wc.cell? ⟨gb110, 0, none⟩ = some (.int .i64 x111000_3) := bc_ BK110 0; have hcz72_1 : wc.cell? ⟨gb110, 1, none⟩ = some (.int .i64 x111001_3) := bc_ BK110 1; have hcz72_2 : wc.cell? ⟨gb110, 2, none⟩ = some (.bool x111002_3) := bc_ BK110 2; have hfz72_0 := blk_frozen BK110.out 0; have hfz72_1 := blk_frozen BK110.out 1; have hfz72_2 := blk_frozen BK110.out 2
     go_wp2_with (first | (go_at_call 52; (with_reducible refine (spec_l2Inv.calls kj3 (wrap64 (2 * a1_1)) a0_0 t111 _ A60.out).mono ?_); rintro e w' ⟨rfl, ⟨nd, rfl⟩⟩; (try first | exact ⟨rfl, _, World.drewN_drewN _ _ _⟩ | exact ⟨rfl, _, Eq.trans (World.drewN_drewN _ _ _) (congrArg (World.drewN _) (Nat.add_assoc _ _ _))⟩)) | (go_at_call 53; (with_reducible refine (spec_l2Left.calls (wrap64 ((wrap64 ((wrap64 ((Int.tmod (wrap64 ((Int.tmod (wrap64 ((wrap64 ((Int.tmod (wrap64 (3 * a1_0)) a0_0) * a1_0)) + a0_1)) a0_0) * t111)) a0_0) * (Int.tmod (wrap64 ((Int.tmod (wrap64 ((wrap64 ((Int.tmod (wrap64 (3 * a1_0)) a0_0) * a1_0)) + a0_1)) a0_0) * t111)) a0_0))) - a1_0)) - a2_0)) a0_0 t112 _ A61.out).mono ?_); rintro e w' ⟨rfl, ⟨nd, rfl⟩⟩; (try first | exact ⟨rfl, _, World.drewN_drewN _ _ _⟩ | exact ⟨rfl, _, Eq.trans (World.drewN_drewN _ _ _) (congrArg (World.drewN _) (Nat.add_assoc _ _ _))⟩)) | (go_at_call 53; (with_reducible refine (spec_l2Left.calls (wrap64 ((wrap64 ((Int.tmod (wrap64 ((Int.tmod (wrap64 ((wrap64 ((Int.tmod (wrap64 (3 * a1_0)) a0_0) * a1_0)) + a0_1)) a0_0) * t111)) a0_0) * (wrap64 (a1_0 - t112)))) - a1_1)) a0_0 t113 _ A62.out).mono ?_); rintro e w' ⟨rfl, ⟨nd, rfl⟩⟩; (try first | exact ⟨rfl, _, World.drewN_drewN _ _ _⟩ | exact ⟨rfl, _, Eq.trans (World.drewN_drewN _ _ _) (congrArg (World.drewN _) (Nat.add_assoc _ _ _))⟩)))
     repeat (go_quiet (first | (go_at_call 52; (with_reducible refine (spec_l2Inv.calls kj3 (wrap64 (2 * a1_1)) a0_0 t111 _ A60.out).mono ?_); rintro e w' ⟨rfl, ⟨nd, rfl⟩⟩; (try first | exact ⟨rfl, _, World.drewN_drewN _ _ _⟩ | exact ⟨rfl, _, Eq.trans (World.drewN_drewN _ _ _) (congrArg (World.drewN _) (Nat.add_assoc _ _ _))⟩)) | (go_at_call 53; (with_reducible refine (spec_l2Left.calls (wrap64 ((wrap64 ((wrap64 ((Int.tmod (wrap64 ((Int.tmod (wrap64 ((wrap64 ((Int.tmod (wrap64 (3 * a1_0)) a0_0) * a1_0)) + a0_1)) a0_0) * t111)) a0_0) * (Int.tmod (wrap64 ((Int.tmod (wrap64 ((wrap64 ((Int.tmod (wrap64 (3 * a1_0)) a0_0) * a1_0)) + a0_1)) a0_0) * t111)) a0_0))) - a1_0)) - a2_0)) a0_0 t112 _ A61.out).mono ?_); rintro e w' ⟨rfl, ⟨nd, rfl⟩⟩; (try first | exact ⟨rfl, _, World.drewN_drewN _ _ _⟩ | exact ⟨rfl, _, Eq.trans (World.drewN_drewN _ _ _) (congrArg (World.drewN _) (Nat.add_assoc _ _ _))⟩)) | (go_at_call 53; (with_reducible refine (spec_l2Left.calls (wrap64 ((wrap64 ((Int.tmod (wrap64 ((Int.tmod (wrap64 ((wrap64 ((Int.tmod (wrap64 (3 * a1_0)) a0_0) * a1_0)) + a0_1)) a0_0) * t111)) a0_0) * (wrap64 (a1_0 - t112)))) - a1_1)) a0_0 t113 _ A62.out).mono ?_); rintro e w' ⟨rfl, ⟨nd, rfl⟩⟩; (try first | exact ⟨rfl, _, World.drewN_drewN _ _ _⟩ | exact ⟨rfl, _, Eq.trans (World.drewN_drewN _ _ _) (congrArg (World.drewN _) (Nat.add_assoc _ _ _))⟩))); try go_wp2_with (first | (go_at_call 52; (with_reducible refine (spec_l2Inv.calls kj3 (wrap64 (2 * a1_1)) a0_0 t111 _ A60.out).mono ?_); rintro e w' ⟨rfl, ⟨nd, rfl⟩⟩; (try first | exact ⟨rfl, _, World.drewN_drewN _ _ _⟩ | exact ⟨rfl, _, Eq.trans (World.drewN_drewN _ _ _) (congrArg (World.drewN _) (Nat.add_assoc _ _ _))⟩)) | (go_at_call 53; (with_reducible refine (spec_l2Left.calls (wrap64 ((wrap64 ((wrap64 ((Int.tmod (wrap64 ((Int.tmod (wrap64 ((wrap64 ((Int.tmod (wrap64 (3 * a1_0)) a0_0) * a1_0)) + a0_1)) a0_0) * t111)) a0_0) * (Int.tmod (wrap64 ((Int.tmod (wrap64 ((wrap64 ((Int.tmod (wrap64 (3 * a1_0)) a0_0) * a1_0)) + a0_1)) a0_0) * t111)) a0_0))) - a1_0)) - a2_0)) a0_0 t112 _ A61.out).mono ?_); rintro e w' ⟨rfl, ⟨nd, rfl⟩⟩; (try first | exact ⟨rfl, _, World.drewN_drewN _ _ _⟩ | exact ⟨rfl, _, Eq.trans (World.drewN_drewN _ _ _) (congrArg (World.drewN _) (Nat.add_assoc _ _ _))⟩)) | (go_at_call 53; (with_reducible refine (spec_l2Left.calls (wrap64 ((wrap64 ((Int.tmod (wrap64 ((Int.tmod (wrap64 ((wrap64 ((Int.tmod (wrap64 (3 * a1_0)) a0_0) * a1_0)) + a0_1)) a0_0) * t111)) a0_0) * (wrap64 (a1_0 - t112)))) - a1_1)) a0_0 t113 _ A62.out).mono ?_); rintro e w' ⟨rfl, ⟨nd, rfl⟩⟩; (try first | exact ⟨rfl, _, World.drewN_drewN _ _ _⟩ | exact ⟨rfl, _, Eq.trans (World.drewN_drewN _ _ _) (congrArg (World.drewN _) (Nat.add_assoc _ _ _))⟩))))
     refine bodyPost_ret (results_cell_row rfl _ _ gb110 26 #[.int .i64 t112, .int .i64 t113, .bool false] (0, 0) _ rfl (by (with_reducible repeat (first | refine blk_drewN ?_ _ | refine blk_drew ?_ | refine blk_alloc ?_ _)); refine blk_put (cs := #[.int .i64 t112, .int .i64 t113, .bool x111002_3]) ?_ 2 _ rfl; (with_reducible repeat (first | refine blk_drewN ?_ _ | refine blk_drew ?_ | refine blk_alloc ?_ _)); refine blk_put (cs := #[.int .i64 t112, .int .i64 x111001_3, .bool x111002_3]) ?_ 1 _ rfl; (with_reducible repeat (first | refine blk_drewN ?_ _ | refine blk_drew ?_ | refine blk_alloc ?_ _)); refine blk_put (cs := #[.int .i64 x111000_3, .int .i64 x111001_3, .bool x111002_3]) ?_ 0 _ rfl; (with_reducible repeat (first | refine blk_drewN ?_ _ | refine blk_drew ?_ | refine blk_alloc ?_ _)); exact BK110.out) Try.underlying26 rfl (by kernel_rfl)) rfl ?_; exact ⟨by first | rfl | (simp [errW_none, errW_some] <;> rfl) | (simp [*, errW_none, errW_some] <;> rfl), by repeat (first | (with_reducible first | exact HB.out | apply below_alloc | apply pw_below_drewN | apply below_drew1 | refine below_set ?_ GE107.out | refine below_set ?_ GE108.out | refine below_set ?_ GE109.out | refine below_set ?_ GE110.out) | exact HB.out)⟩
   ·
    rw [if_neg c58] at H
    have c58b0 : (a1_0 == a2_0) = false := beq_eq_false_iff_ne.mpr c58
    have c58b1 : (a1_0 != a2_0) = true := bne_iff_ne.mpr c58
    replace H := Option.bind_eq_some_iff.mp H; obtain ⟨t114, A730, H⟩ := H
    replace H : ((spec_l2Inv.f kj3 (wrap64 (a2_0 - a1_0)) a0_0).bind fun t115 => (if a0_0 = 0 then (none) else ((spec_l2Left.f (wrap64 ((wrap64 ((wrap64 ((Int.tmod (wrap64 (t114 * t115)) a0_0) * (Int.tmod (wrap64 (t114 * t115)) a0_0))) - a1_0)) - a2_0)) a0_0).bind fun t116 => ((spec_l2Left.f (wrap64 ((wrap64 ((Int.tmod (wrap64 (t114 * t115)) a0_0) * (wrap64 (a1_0 - t116)))) - a1_1)) a0_0).bind fun t117 => (some (t116, t117, false)))))) = some (r1, r2, r3) := H
    have A73 := Aside0.mk A730; clear A730; replace H := Option.bind_eq_some_iff.mp H; obtain ⟨t115, A740, H⟩ := H
    replace H : (if a0_0 = 0 then (none) else ((spec_l2Left.f (wrap64 ((wrap64 ((wrap64 ((Int.tmod (wrap64 (t114 * t115)) a0_0) * (Int.tmod (wrap64 (t114 * t115)) a0_0))) - a1_0)) - a2_0)) a0_0).bind fun t116 => ((spec_l2Left.f (wrap64 ((wrap64 ((Int.tmod (wrap64 (t114 * t115)) a0_0) * (wrap64 (a1_0 - t116)))) - a1_1)) a0_0).bind fun t117 => (some (t116, t117, false))))) = some (r1, r2, r3) := H
    have A74 := Aside0.mk A740; clear A740
    by_cases c75 : a0_0 = 0
    · rw [if_pos c75] at H; exact absurd H (by simp)
    ·
     rw [if_neg c75] at H
     have c75b0 : (a0_0 == 0) = false := beq_eq_false_iff_ne.mpr c75
     have c75b1 : (a0_0 != 0) = true := bne_iff_ne.mpr c75
     replace H := Option.bind_eq_some_iff.mp H; obtain ⟨t116, A760, H⟩ := H
     replace H : ((spec_l2Left.f (wrap64 ((wrap64 ((Int.tmod (wrap64 (t114 * t115)) a0_0) * (wrap64 (a1_0 - t116)))) - a1_1)) a0_0).bind fun t117 => (some (t116, t117, false))) = some (r1, r2, r3) := H
     have A76 := Aside0.mk A760; clear A760; replace H := Option.bind_eq_some_iff.mp H; obtain ⟨t117, A770, H⟩ := H
     replace H : (some (t116, t117, false)) = some (r1, r2, r3) := H
     have A77 := Aside0.mk A770; clear A770
     simp only [Option.some.injEq, Prod.mk.injEq] at H
     obtain ⟨rfl, rfl, rfl⟩ := H; have hnb78 := NB108_107.out; have hnc78 := NB107_108.out; have hnb79 := NB108_109.out; have hnc79 := NB109_108.out; have hnb80 := NB108_110.out; have hnc80 := NB110_108.out
     have hcz81_0 : wc.cell? ⟨gb108, 0, none⟩ = some (.int .i64 a1_0) := bc_ BK108 0
     have hcz81_1 : wc.cell? ⟨gb108, 1, none⟩ = some (.int .i64 a1_1) := bc_ BK108 1
     have hcz81_2 : wc.cell? ⟨gb108, 2, none⟩ = some (.bool a1_2) := bc_ BK108 2
     have hfz81_0 := blk_frozen BK108.out 0; have hfz81_1 := blk_frozen BK108.out 1; have hfz81_2 := blk_frozen BK108.out 2; have hnb82 := NB109_107.out; have hnc82 := NB107_109.out; have hnb83 := NB109_110.out; have hnc83 := NB110_109.out
     have hcz84_0 : wc.cell? ⟨gb109, 0, none⟩ = some (.int .i64 a2_0) := bc_ BK109 0
     have hcz84_1 : wc.cell? ⟨gb109, 1, none⟩ = some (.int .i64 a2_1) := bc_ BK109 1
     have hcz84_2 : wc.cell? ⟨gb109, 2, none⟩ = some (.bool a2_2) := bc_ BK109 2
     have hfz84_0 := blk_frozen BK109.out 0; have hfz84_1 := blk_frozen BK109.out 1; have hfz84_2 := blk_frozen BK109.out 2; have hnb85 := NB107_110.out; have hnc85 := NB110_107.out
     have hcz86_0 : wc.cell? ⟨gb107, 0, none⟩ = some (.int .i64 a0_0) := bc_ BK107 0
     have hcz86_1 : wc.cell? ⟨gb107, 1, none⟩ = some (.int .i64 a0_1) := bc_ BK107 1
     have hcz86_2 : wc.cell? ⟨gb107, 2, none⟩ = some (.int .i64 a0_2) := bc_ BK107 2
     have hcz86_3 : wc.cell? ⟨gb107, 3, none⟩ = some (.int .i64 a0_3) := bc_ BK107 3
     have hcz86_4 : wc.cell? ⟨gb107, 4, none⟩ = some (.int .i64 a0_4) := bc_ BK107 4
     have hcz86_5 : wc.cell? ⟨gb107, 5, none⟩ = some (.int .i64 a0_5) := bc_ BK107 5
     have hfz86_0 := blk_frozen BK107.out 0; have hfz86_1 := blk_frozen BK107.out 1; have hfz86_2 := blk_frozen BK107.out 2; have hfz86_3 := blk_frozen BK107.out 3; have hfz86_4 := blk_frozen BK107.out 4; have hfz86_5 := blk_frozen BK107.out 5
     have hcz87_0 : wc.cell? ⟨gb110, 0, none⟩ = some (.int .i64 x111000_3) := bc_ BK110 0; have hcz87_1 : wc.cell? ⟨gb110, 1, none⟩ = some (.int .i64 x111001_3) := bc_ BK110 1; have hcz87_2 : wc.cell? ⟨gb110, 2, none⟩ = some (.bool x111002_3) := bc_ BK110 2; have hfz87_0 := blk_frozen BK110.out 0; have hfz87_1 := blk_frozen BK110.out 1; have hfz87_2 := blk_frozen BK110.out 2
     go_wp2_with (first | (go_at_call 53; (with_reducible refine (spec_l2Left.calls (wrap64 (a2_1 - a1_1)) a0_0 t114 _ A73.out).mono ?_); rintro e w' ⟨rfl, ⟨nd, rfl⟩⟩; (try first | exact ⟨rfl, _, World.drewN_drewN _ _ _⟩ | exact ⟨rfl, _, Eq.trans (World.drewN_drewN _ _ _) (congrArg (World.drewN _) (Nat.add_assoc _ _ _))⟩)) | (go_at_call 52; (with_reducible refine (spec_l2Inv.calls kj3 (wrap64 (a2_0 - a1_0)) a0_0 t115 _ A74.out).mono ?_); rintro e w' ⟨rfl, ⟨nd, rfl⟩⟩; (try first | exact ⟨rfl, _, World.drewN_drewN _ _ _⟩ | exact ⟨rfl, _, Eq.trans (World.drewN_drewN _ _ _) (congrArg (World.drewN _) (Nat.add_assoc _ _ _))⟩)) | (go_at_call 53; (with_reducible refine (spec_l2Left.calls (wrap64 ((wrap64 ((wrap64 ((Int.tmod (wrap64 (t114 * t115)) a0_0) * (Int.tmod (wrap64 (t114 * t115)) a0_0))) - a1_0)) - a2_0)) a0_0 t116 _ A76.out).mono ?_); rintro e w' ⟨rfl, ⟨nd, rfl⟩⟩; (try first | exact ⟨rfl, _, World.drewN_drewN _ _ _⟩ | exact ⟨rfl, _, Eq.trans (World.drewN_drewN _ _ _) (congrArg (World.drewN _) (Nat.add_assoc _ _ _))⟩)) | (go_at_call 53; (with_reducible refine (spec_l2Left.calls (wrap64 ((wrap64 ((Int.tmod (wrap64 (t114 * t115)) a0_0) * (wrap64 (a1_0 - t116)))) - a1_1)) a0_0 t117 _ A77.out).mono ?_); rintro e w' ⟨rfl, ⟨nd, rfl⟩⟩; (try first | exact ⟨rfl, _, World.drewN_drewN _ _ _⟩ | exact ⟨rfl, _, Eq.trans (World.drewN_drewN _ _ _) (congrArg (World.drewN _) (Nat.add_assoc _ _ _))⟩)))
     repeat (go_quiet (first | (go_at_call 53; (with_reducible refine (spec_l2Left.calls (wrap64 (a2_1 - a1_1)) a0_0 t114 _ A73.out).mono ?_); rintro e w' ⟨rfl, ⟨nd, rfl⟩⟩; (try first | exact ⟨rfl, _, World.drewN_drewN _ _ _⟩ | exact ⟨rfl, _, Eq.trans (World.drewN_drewN _ _ _) (congrArg (World.drewN _) (Nat.add_assoc _ _ _))⟩)) | (go_at_call 52; (with_reducible refine (spec_l2Inv.calls kj3 (wrap64 (a2_0 - a1_0)) a0_0 t115 _ A74.out).mono ?_); rintro e w' ⟨rfl, ⟨nd, rfl⟩⟩; (try first | exact ⟨rfl, _, World.drewN_drewN _ _ _⟩ | exact ⟨rfl, _, Eq.trans (World.drewN_drewN _ _ _) (congrArg (World.drewN _) (Nat.add_assoc _ _ _))⟩)) | (go_at_call 53; (with_reducible refine (spec_l2Left.calls (wrap64 ((wrap64 ((wrap64 ((Int.tmod (wrap64 (t114 * t115)) a0_0) * (Int.tmod (wrap64 (t114 * t115)) a0_0))) - a1_0)) - a2_0)) a0_0 t116 _ A76.out).mono ?_); rintro e w' ⟨rfl, ⟨nd, rfl⟩⟩; (try first | exact ⟨rfl, _, World.drewN_drewN _ _ _⟩ | exact ⟨rfl, _, Eq.trans (World.drewN_drewN _ _ _) (congrArg (World.drewN _) (Nat.add_assoc _ _ _))⟩)) | (go_at_call 53; (with_reducible refine (spec_l2Left.calls (wrap64 ((wrap64 ((Int.tmod (wrap64 (t114 * t115)) a0_0) * (wrap64 (a1_0 - t116)))) - a1_1)) a0_0 t117 _ A77.out).mono ?_); rintro e w' ⟨rfl, ⟨nd, rfl⟩⟩; (try first | exact ⟨rfl, _, World.drewN_drewN _ _ _⟩ | exact ⟨rfl, _, Eq.trans (World.drewN_drewN _ _ _) (congrArg (World.drewN _) (Nat.add_assoc _ _ _))⟩))); try go_wp2_with (first | (go_at_call 53; (with_reducible refine (spec_l2Left.calls (wrap64 (a2_1 - a1_1)) a0_0 t114 _ A73.out).mono ?_); rintro e w' ⟨rfl, ⟨nd, rfl⟩⟩; (try first | exact ⟨rfl, _, World.drewN_drewN _ _ _⟩ | exact ⟨rfl, _, Eq.trans (World.drewN_drewN _ _ _) (congrArg (World.drewN _) (Nat.add_assoc _ _ _))⟩)) | (go_at_call 52; (with_reducible refine (spec_l2Inv.calls kj3 (wrap64 (a2_0 - a1_0)) a0_0 t115 _ A74.out).mono ?_); rintro e w' ⟨rfl, ⟨nd, rfl⟩⟩; (try first | exact ⟨rfl, _, World.drewN_drewN _ _ _⟩ | exact ⟨rfl, _, Eq.trans (World.drewN_drewN _ _ _) (congrArg (World.drewN _) (Nat.add_assoc _ _ _))⟩)) | (go_at_call 53; (with_reducible refine (spec_l2Left.calls (wrap64 ((wrap64 ((wrap64 ((Int.tmod (wrap64 (t114 * t115)) a0_0) * (Int.tmod (wrap64 (t114 * t115)) a0_0))) - a1_0)) - a2_0)) a0_0 t116 _ A76.out).mono ?_); rintro e w' ⟨rfl, ⟨nd, rfl⟩⟩; (try first | exact ⟨rfl, _, World.drewN_drewN _ _ _⟩ | exact ⟨rfl, _, Eq.trans (World.drewN_drewN _ _ _) (congrArg (World.drewN _) (Nat.add_assoc _ _ _))⟩)) | (go_at_call 53; (with_reducible refine (spec_l2Left.calls (wrap64 ((wrap64 ((Int.tmod (wrap64 (t114 * t115)) a0_0) * (wrap64 (a1_0 - t116)))) - a1_1)) a0_0 t117 _ A77.out).mono ?_); rintro e w' ⟨rfl, ⟨nd, rfl⟩⟩; (try first | exact ⟨rfl, _, World.drewN_drewN _ _ _⟩ | exact ⟨rfl, _, Eq.trans (World.drewN_drewN _ _ _) (congrArg (World.drewN _) (Nat.add_assoc _ _ _))⟩))))
     refine bodyPost_ret (results_cell_row rfl _ _ gb110 26 #[.int .i64 t116, .int .i64 t117, .bool false] (0, 0) _ rfl (by (with_reducible repeat (first | refine blk_drewN ?_ _ | refine blk_drew ?_ | refine blk_alloc ?_ _)); refine blk_put (cs := #[.int .i64 t116, .int .i64 t117, .bool x111002_3]) ?_ 2 _ rfl; (with_reducible repeat (first | refine blk_drewN ?_ _ | refine blk_drew ?_ | refine blk_alloc ?_ _)); refine blk_put (cs := #[.int .i64 t116, .int .i64 x111001_3, .bool x111002_3]) ?_ 1 _ rfl; (with_reducible repeat (first | refine blk_drewN ?_ _ | refine blk_drew ?_ | refine blk_alloc ?_ _)); refine blk_put (cs := #[.int .i64 x111000_3, .int .i64 x111001_3, .bool x111002_3]) ?_ 0 _ rfl; (with_reducible repeat (first | refine blk_drewN ?_ _ | refine blk_drew ?_ | refine blk_alloc ?_ _)); exact BK110.out) Try.underlying26 rfl (by kernel_rfl)) rfl ?_; exact ⟨by first | rfl | (simp [errW_none, errW_some] <;> rfl) | (simp [*, errW_none, errW_some] <;> rfl), by repeat (first | (with_reducible first | exact HB.out | apply below_alloc | apply pw_below_drewN | apply below_drew1 | refine below_set ?_ GE107.out | refine below_set ?_ GE108.out | refine below_set ?_ GE109.out | refine below_set ?_ GE110.out) | exact HB.out)⟩

attribute [local go_sem] fld_
/-! ### spec_l3Mul: function 41 -/
def spec_l3Mul.l0 : Nat → Int → Int → Int → Int → Int → Int → Int → Int → Int → Bool → Int → Int → Bool → Option (Int × Int × Bool)
  | 0, _, _, _, _, _, _, _, _, _, _, _, _, _ => none
  | k + 1, x1, x119000, x119001, x119002, x119003, x119004, x119005, x120000, x120001, x120002, x122000, x122001, x122002 => if x1 > 0 then (if (Int.tmod x1 2) = 1 then ((spec_l3Add.f k x119000 x119001 x119002 x119003 x119004 x119005 x122000 x122001 x122002 x120000 x120001 x120002).bind fun bt122 => ((spec_l3Add.f k x119000 x119001 x119002 x119003 x119004 x119005 x120000 x120001 x120002 x120000 x120001 x120002).bind fun bt125 => (spec_l3Mul.l0 k (wrap64 (Int.tdiv x1 2)) x119000 x119001 x119002 x119003 x119004 x119005 bt125.1 bt125.2.1 bt125.2.2 bt122.1 bt122.2.1 bt122.2.2))) else ((spec_l3Add.f k x119000 x119001 x119002 x119003 x119004 x119005 x120000 x120001 x120002 x120000 x120001 x120002).bind fun bt128 => (spec_l3Mul.l0 k (wrap64 (Int.tdiv x1 2)) x119000 x119001 x119002 x119003 x119004 x119005 bt128.1 bt128.2.1 bt128.2.2 x122000 x122001 x122002))) else (some (x122000, x122001, x122002))
def spec_l3Mul.f (k : Nat) (a0_0 : Int) (a0_1 : Int) (a0_2 : Int) (a0_3 : Int) (a0_4 : Int) (a0_5 : Int) (a1 : Int) (a2_0 : Int) (a2_1 : Int) (a2_2 : Bool) : Option (Int × Int × Bool) := spec_l3Mul.l0 k a1 a0_0 a0_1 a0_2 a0_3 a0_4 a0_5 a2_0 a2_1 a2_2 0 0 true
theorem spec_l3Mul.mono_l : ∀ k, (∀ y0 y1 y2 y3 y4 y5 y6 y7 y8 y9 y10 y11 y12, LeO (spec_l3Mul.l0 k y0 y1 y2 y3 y4 y5 y6 y7 y8 y9 y10 y11 y12) (spec_l3Mul.l0 (k + 1) y0 y1 y2 y3 y4 y5 y6 y7 y8 y9 y10 y11 y12))
 | 0 => fun _ _ _ _ _ _ _ _ _ _ _ _ _ r h => by simp [spec_l3Mul.l0] at h
 | k + 1 => by
  have ih0 := spec_l3Mul.mono_l k
  ·
   intro y0 y1 y2 y3 y4 y5 y6 y7 y8 y9 y10 y11 y12
   unfold spec_l3Mul.l0
   repeat' first
   | (with_reducible exact ih0 _ _ _ _ _ _ _ _ _ _ _ _ _)
   | (with_reducible exact spec_l3Add.mono _ _ _ _ _ _ _ _ _ _ _ _ _)
   | (with_reducible exact LeO.refl _)
   | (with_reducible exact LeO.none _)
   | (with_reducible refine LeO.ite ?_ ?_)
   | (with_reducible refine LeO.bind ?_ (fun _ => ?_))
   | exact ih0 _ _ _ _ _ _ _ _ _ _ _ _ _
   | exact spec_l3Add.mono _ _ _ _ _ _ _ _ _ _ _ _ _
   | exact LeO.none _
   | refine LeO.ite ?_ ?_
   | refine LeO.bind ?_ (fun _ => ?_)
theorem spec_l3Mul.mono : ∀ a0 a1 a2 a3 a4 a5 a6 a7 a8 a9 k, LeO (spec_l3Mul.f k a0 a1 a2 a3 a4 a5 a6 a7 a8 a9) (spec_l3Mul.f (k + 1) a0 a1 a2 a3 a4 a5 a6 a7 a8 a9) := by
 intro a0 a1 a2 a3 a4 a5 a6 a7 a8 a9 k; have ih0 := spec_l3Mul.mono_l k
 unfold spec_l3Mul.f
 repeat' first
   | (with_reducible exact ih0 _ _ _ _ _ _ _ _ _ _ _ _ _)
   | (with_reducible exact spec_l3Add.mono _ _ _ _ _ _ _ _ _ _ _ _ _)
   | (with_reducible exact LeO.refl _)
   | (with_reducible exact LeO.none _)
   | (with_reducible refine LeO.ite ?_ ?_)
   | (with_reducible refine LeO.bind ?_ (fun _ => ?_))
   | exact ih0 _ _ _ _ _ _ _ _ _ _ _ _ _
   | exact spec_l3Add.mono _ _ _ _ _ _ _ _ _ _ _ _ _
   | exact LeO.none _
   | refine LeO.ite ?_ ?_
   | refine LeO.bind ?_ (fun _ => ?_)
set_option maxHeartbeats 8000000 in
set_option maxRecDepth 100000 in
theorem spec_l3Mul.calls (k : Nat) (a0_0 : Int) (a0_1 : Int) (a0_2 : Int) (a0_3 : Int) (a0_4 : Int) (a0_5 : Int) (a1 : Int) (a2_0 : Int) (a2_1 : Int) (a2_2 : Bool) (r1 : Int) (r2 : Int) (r3 : Bool) (w : World) (h : spec_l3Mul.f k a0_0 a0_1 a0_2 a0_3 a0_4 a0_5 a1 a2_0 a2_1 a2_2 = some (r1, r2, r3)) :
  Calls Try.prog 41 #[.agg #[.int .i64 a0_0, .int .i64 a0_1, .int .i64 a0_2, .int .i64 a0_3, .int .i64 a0_4, .int .i64 a0_5], .int .i64 a1, .agg #[.int .i64 a2_0, .int .i64 a2_1, .bool a2_2]] w fun e w' => e = .returned (.agg #[.int .i64 r1, .int .i64 r2, .bool r3]) ∧ Below w.heap.size w w' := by
 have hu29 := Try.underlying29; have hu26 := Try.underlying26; have HB := Aside0.mk (Below.refl w.heap.size w)
 have H : (spec_l3Mul.l0 k a1 a0_0 a0_1 a0_2 a0_3 a0_4 a0_5 a2_0 a2_1 a2_2 0 0 true) = some (r1, r2, r3) := h
 clear h
 have H' := Aside0.mk H
 clear H
 go_enter Try.func41, Try.ntmps41
 go_wp2_with (first | ((with_reducible refine gate_dst (N := 3) rfl ?_); refine box_event ?hg (N := 3) ?hd (cs := #[.int .i64 a0_0, .int .i64 a0_1, .int .i64 a0_2, .int .i64 a0_3, .int .i64 a0_4, .int .i64 a0_5]) (t := 29) ?hr ?_; (case hd => rfl); (case hg => rfl); (case hr => first | (go_simp; done) | (go_simp; rfl)); intro gb118 hg w4 hbox hb; have BK118 := Aside0.mk hbox; have GW118 := ge_ HB hg; have GE118 := ge_ HB hg; replace HB := bs_ HB hb; clear hb hbox hg) | ((with_reducible refine gate_dst (N := 5) rfl ?_); refine box_event ?hg (N := 5) ?hd (cs := #[.int .i64 a2_0, .int .i64 a2_1, .bool a2_2]) (t := 26) ?hr ?_; (case hd => rfl); (case hg => rfl); (case hr => first | (go_simp; done) | (go_simp; rfl)); intro gb119 hg w5 hbox hb; have BK119 := Aside0.mk hbox; have GW119 := ge_ HB hg; have GE119 := ge_ HB hg; have NB118_119 := nl_ BK118 hg; have NB119_118 := nr_ BK118 hg; replace BK118 := bb_ BK118 hb; replace HB := bs_ HB hb; clear hb hbox hg) | ((with_reducible refine gate_dst (N := 6) rfl ?_); refine box_event ?hg (N := 6) ?hd (cs := #[.int .i64 0, .int .i64 0, .bool false]) (t := 26) ?hr ?_; (case hd => rfl); (case hg => rfl); (case hr => first | (go_simp; done) | (go_simp; rfl)); intro gb120 hg w6 hbox hb; have BK120 := Aside0.mk hbox; have GW120 := ge_ HB hg; have GE120 := ge_ HB hg; have NB118_120 := nl_ BK118 hg; have NB120_118 := nr_ BK118 hg; have NB119_120 := nl_ BK119 hg; have NB120_119 := nr_ BK119 hg; replace BK118 := bb_ BK118 hb; replace BK119 := bb_ BK119 hb; replace HB := bs_ HB hb; clear hb hbox hg) | ((with_reducible refine gate_dst (N := 7) rfl ?_); refine box_event ?hg (N := 7) ?hd (cs := #[.int .i64 0, .int .i64 0, .bool false]) (t := 26) ?hr ?_; (case hd => rfl); (case hg => rfl); (case hr => first | (go_simp; done) | (go_simp; rfl)); intro gb121 hg w7 hbox hb; have BK121 := Aside0.mk hbox; have GW121 := ge_ HB hg; have GE121 := ge_ HB hg; have NB118_121 := nl_ BK118 hg; have NB121_118 := nr_ BK118 hg; have NB119_121 := nl_ BK119 hg; have NB121_119 := nr_ BK119 hg; have NB120_121 := nl_ BK120 hg; have NB121_120 := nr_ BK120 hg; replace BK118 := bb_ BK118 hb; replace BK119 := bb_ BK119 hb; replace BK120 := bb_ BK120 hb; replace HB := bs_ HB hb; clear hb hbox hg; have hnb8 := NB121_118.out; have hnc8 := NB118_121.out; have hnb9 := NB121_119.out; have hnc9 := NB119_121.out; have hnb10 := NB121_120.out; have hnc10 := NB120_121.out; have hcz11_0 : w7.cell? ⟨gb121, 0, none⟩ = some (.int .i64 0) := bc_ BK121 0; have hcz11_1 : w7.cell? ⟨gb121, 1, none⟩ = some (.int .i64 0) := bc_ BK121 1; have hcz11_2 : w7.cell? ⟨gb121, 2, none⟩ = some (.bool false) := bc_ BK121 2; have hfz11_0 := blk_frozen BK121.out 0; have hfz11_1 := blk_frozen BK121.out 1; have hfz11_2 := blk_frozen BK121.out 2))
 go_loopg [1] k (fun kq v1 w' => ∃ (x1_1 : Int) (x120000_1 : Int) (x120001_1 : Int) (x120002_1 : Bool) (x122000_1 : Int) (x122001_1 : Int) (x122002_1 : Bool), v1 = .int .i64 x1_1 ∧ Aside0 (spec_l3Mul.l0 kq x1_1 a0_0 a0_1 a0_2 a0_3 a0_4 a0_5 x120000_1 x120001_1 x120002_1 x122000_1 x122001_1 x122002_1 = some (r1, r2, r3)) ∧ Aside0 (kq ≤ k) ∧ Aside0 (w'.heap[gb118]? = some (.cells #[.int .i64 a0_0, .int .i64 a0_1, .int .i64 a0_2, .int .i64 a0_3, .int .i64 a0_4, .int .i64 a0_5] 29 (0, 0))) ∧ Aside0 (w'.heap[gb119]? = some (.cells #[.int .i64 x120000_1, .int .i64 x120001_1, .bool x120002_1] 26 (0, 0))) ∧ Aside0 (w'.heap[gb120]? = some (.cells #[.int .i64 0, .int .i64 0, .bool false] 26 (0, 0))) ∧ Aside0 (w'.heap[gb121]? = some (.cells #[.int .i64 x122000_1, .int .i64 x122001_1, .bool x122002_1] 26 (0, 0))) ∧ Aside0 (Below w.heap.size w w'))
 case atStart => exact ⟨(a1), (a2_0), (a2_1), (a2_2), (0), (0), (true), (by first | rfl | (simp; done) | (simp [*]; done)), H', ⟨Nat.le_refl _⟩, ⟨bf_ BK118⟩, ⟨bf_ BK119⟩, ⟨bf_ BK120⟩, ⟨by (with_reducible repeat (first | refine blk_drewN ?_ _ | refine blk_drew ?_ | refine blk_alloc ?_ _)); refine blk_put (cs := #[.int .i64 0, .int .i64 0, .bool false]) ?_ 2 _ rfl; (with_reducible repeat (first | refine blk_drewN ?_ _ | refine blk_drew ?_ | refine blk_alloc ?_ _)); refine blk_put (cs := #[.int .i64 0, .int .i64 0, .bool false]) ?_ 1 _ rfl; (with_reducible repeat (first | refine blk_drewN ?_ _ | refine blk_drew ?_ | refine blk_alloc ?_ _)); refine blk_put (cs := #[.int .i64 0, .int .i64 0, .bool false]) ?_ 0 _ rfl; (with_reducible repeat (first | refine blk_drewN ?_ _ | refine blk_drew ?_ | refine blk_alloc ?_ _)); exact BK121.out⟩, ⟨bw_ HB⟩⟩
 case round =>
  clear H'
  try clear c1
  try clear p2
  try clear c4
  try clear c8
  try clear c9
  try clear c10
  try clear hcz11_0
  try clear hcz11_1
  try clear hcz11_2
  try clear hfz11_0
  try clear hfz11_1
  try clear hfz11_2
  obtain ⟨x1_1, x120000_1, x120001_1, x120002_1, x122000_1, x122001_1, x122002_1, rfl, HA, HK1, BK118, BK119, BK120, BK121, HB⟩ := hrel
  cases gk with
  | zero => exact absurd HA.out (by simp [spec_l3Mul.l0])
  | succ k1 =>
   have H := HA.out; clear HA
   simp only [spec_l3Mul.l0] at H
   by_cases c12 : x1_1 > 0
   ·
    rw [if_pos c12] at H
    have c12b0 : decide (0 < x1_1) = true := decide_eq_true c12
    clear c12
    by_cases c13 : (Int.tmod x1_1 2) = 1
    ·
     rw [if_pos c13] at H
     have c13b0 : ((Int.tmod x1_1 2) == 1) = true := beq_iff_eq.mpr c13
     have c13b1 : ((Int.tmod x1_1 2) != 1) = false := bne_eq_false_iff_eq.mpr c13
     clear c13; replace H := Option.bind_eq_some_iff.mp H; obtain ⟨⟨t122, t123, t124⟩, A140, H⟩ := H
     replace H : ((spec_l3Add.f k1 a0_0 a0_1 a0_2 a0_3 a0_4 a0_5 x120000_1 x120001_1 x120002_1 x120000_1 x120001_1 x120002_1).bind fun bt125 => (spec_l3Mul.l0 k1 (wrap64 (Int.tdiv x1_1 2)) a0_0 a0_1 a0_2 a0_3 a0_4 a0_5 bt125.1 bt125.2.1 bt125.2.2 t122 t123 t124)) = some (r1, r2, r3) := H
     have A14 := Aside0.mk A140; clear A140; replace H := Option.bind_eq_some_iff.mp H; obtain ⟨⟨t125, t126, t127⟩, A150, H⟩ := H
     replace H : (spec_l3Mul.l0 k1 (wrap64 (Int.tdiv x1_1 2)) a0_0 a0_1 a0_2 a0_3 a0_4 a0_5 t125 t126 t127 t122 t123 t124) = some (r1, r2, r3) := H
     have A15 := Aside0.mk A150; clear A150
     have H' := Aside0.mk H
     clear H; have hnb16 := NB118_119.out; have hnc16 := NB119_118.out; have hnb17 := NB118_120.out; have hnc17 := NB120_118.out; have hnb18 := NB118_121.out; have hnc18 := NB121_118.out
     have hcz19_0 : wr.cell? ⟨gb118, 0, none⟩ = some (.int .i64 a0_0) := bc_ BK118 0
     have hcz19_1 : wr.cell? ⟨gb118, 1, none⟩ = some (.int .i64 a0_1) := bc_ BK118 1
     have hcz19_2 : wr.cell? ⟨gb118, 2, none⟩ = some (.int .i64 a0_2) := bc_ BK118 2
     have hcz19_3 : wr.cell? ⟨gb118, 3, none⟩ = some (.int .i64 a0_3) := bc_ BK118 3
     have hcz19_4 : wr.cell? ⟨gb118, 4, none⟩ = some (.int .i64 a0_4) := bc_ BK118 4
     have hcz19_5 : wr.cell? ⟨gb118, 5, none⟩ = some (.int .i64 a0_5) := bc_ BK118 5
     have hfz19_0 := blk_frozen BK118.out 0; have hfz19_1 := blk_frozen BK118.out 1; have hfz19_2 := blk_frozen BK118.out 2; have hfz19_3 := blk_frozen BK118.out 3; have hfz19_4 := blk_frozen BK118.out 4; have hfz19_5 := blk_frozen BK118.out 5; have hnb20 := NB121_119.out; have hnc20 := NB119_121.out; have hnb21 := NB121_120.out; have hnc21 := NB120_121.out
     have hcz22_0 : wr.cell? ⟨gb121, 0, none⟩ = some (.int .i64 x122000_1) := bc_ BK121 0
     have hcz22_1 : wr.cell? ⟨gb121, 1, none⟩ = some (.int .i64 x122001_1) := bc_ BK121 1
     have hcz22_2 : wr.cell? ⟨gb121, 2, none⟩ = some (.bool x122002_1) := bc_ BK121 2
     have hfz22_0 := blk_frozen BK121.out 0; have hfz22_1 := blk_frozen BK121.out 1; have hfz22_2 := blk_frozen BK121.out 2; have hnb23 := NB119_120.out; have hnc23 := NB120_119.out
     have hcz24_0 : wr.cell? ⟨gb119, 0, none⟩ = some (.int .i64 x120000_1) := bc_ BK119 0
     have hcz24_1 : wr.cell? ⟨gb119, 1, none⟩ = some (.int .i64 x120001_1) := bc_ BK119 1
     have hcz24_2 : wr.cell? ⟨gb119, 2, none⟩ = some (.bool x120002_1) := bc_ BK119 2
     have hfz24_0 := blk_frozen BK119.out 0; have hfz24_1 := blk_frozen BK119.out 1; have hfz24_2 := blk_frozen BK119.out 2
     go_wp2_with (first | ((with_reducible refine gate_callee (f := 31) rfl ?_); refine goesL_ (some 17) rfl rfl Try.func31 (by kernel_rfl) rfl #[.agg #[.int .i64 a0_0, .int .i64 a0_1, .int .i64 a0_2, .int .i64 a0_3, .int .i64 a0_4, .int .i64 a0_5], .agg #[.int .i64 x122000_1, .int .i64 x122001_1, .bool x122002_1], .agg #[.int .i64 x120000_1, .int .i64 x120001_1, .bool x120002_1]] rfl (by (try simp only [List.map_toArray, List.map_cons, List.map_nil]); first | done | rfl | (simp only [List.length_drop, List.length_take]; rfl)) ?_; (with_reducible refine (spec_l3Add.calls k1 a0_0 a0_1 a0_2 a0_3 a0_4 a0_5 x122000_1 x122001_1 x122002_1 x120000_1 x120001_1 x120002_1 t122 t123 t124 _ A14.out).mono ?_); rintro e w25 ⟨rfl, hb⟩; refine ⟨_, rfl, ?_⟩; replace BK118 := bb_ BK118 hb; replace BK119 := bb_ BK119 hb; replace BK120 := bb_ BK120 hb; replace BK121 := bb_ BK121 hb; replace HB := bs_ HB hb; (try clear hb); (try clear hb2); (try clear hk); (try clear hi); have hcz26_0 : w25.cell? ⟨gb121, 0, none⟩ = some (.int .i64 x122000_1) := bc_ BK121 0; have hcz26_1 : w25.cell? ⟨gb121, 1, none⟩ = some (.int .i64 x122001_1) := bc_ BK121 1; have hcz26_2 : w25.cell? ⟨gb121, 2, none⟩ = some (.bool x122002_1) := bc_ BK121 2; have hfz26_0 := blk_frozen BK121.out 0; have hfz26_1 := blk_frozen BK121.out 1; have hfz26_2 := blk_frozen BK121.out 2; have hcz27_0 : w25.cell? ⟨gb118, 0, none⟩ = some (.int .i64 a0_0) := bc_ BK118 0; have hcz27_1 : w25.cell? ⟨gb118, 1, none⟩ = some (.int .i64 a0_1) := bc_ BK118 1; have hcz27_2 : w25.cell? ⟨gb118, 2, none⟩ = some (.int .i64 a0_2) := bc_ BK118 2; have hcz27_3 : w25.cell? ⟨gb118, 3, none⟩ = some (.int .i64 a0_3) := bc_ BK118 3; have hcz27_4 : w25.cell? ⟨gb118, 4, none⟩ = some (.int .i64 a0_4) := bc_ BK118 4; have hcz27_5 : w25.cell? ⟨gb118, 5, none⟩ = some (.int .i64 a0_5) := bc_ BK118 5; have hfz27_0 := blk_frozen BK118.out 0; have hfz27_1 := blk_frozen BK118.out 1; have hfz27_2 := blk_frozen BK118.out 2; have hfz27_3 := blk_frozen BK118.out 3; have hfz27_4 := blk_frozen BK118.out 4; have hfz27_5 := blk_frozen BK118.out 5; have hcz28_0 : w25.cell? ⟨gb119, 0, none⟩ = some (.int .i64 x120000_1) := bc_ BK119 0; have hcz28_1 : w25.cell? ⟨gb119, 1, none⟩ = some (.int .i64 x120001_1) := bc_ BK119 1; have hcz28_2 : w25.cell? ⟨gb119, 2, none⟩ = some (.bool x120002_1) := bc_ BK119 2; have hfz28_0 := blk_frozen BK119.out 0; have hfz28_1 := blk_frozen BK119.out 1; have hfz28_2 := blk_frozen BK119.out 2) | ((with_reducible refine gate_callee (f := 31) rfl ?_); refine goesL_ (some 21) rfl rfl Try.func31 (by kernel_rfl) rfl #[.agg #[.int .i64 a0_0, .int .i64 a0_1, .int .i64 a0_2, .int .i64 a0_3, .int .i64 a0_4, .int .i64 a0_5], .agg #[.int .i64 x120000_1, .int .i64 x120001_1, .bool x120002_1], .agg #[.int .i64 x120000_1, .int .i64 x120001_1, .bool x120002_1]] rfl (by (try simp only [List.map_toArray, List.map_cons, List.map_nil]); first | done | rfl | (simp only [List.length_drop, List.length_take]; rfl)) ?_; (with_reducible refine (spec_l3Add.calls k1 a0_0 a0_1 a0_2 a0_3 a0_4 a0_5 x120000_1 x120001_1 x120002_1 x120000_1 x120001_1 x120002_1 t125 t126 t127 _ A15.out).mono ?_); rintro e w29 ⟨rfl, hb⟩; refine ⟨_, rfl, ?_⟩; have n0_ := Aside0.mk (blk_below (g := gb118) (o := .cells #[.int .i64 a0_0, .int .i64 a0_1, .int .i64 a0_2, .int .i64 a0_3, .int .i64 a0_4, .int .i64 a0_5] 29 (0, 0)) (bf_ BK118) hb); have n1_ := Aside0.mk (blk_below (g := gb119) (o := .cells #[.int .i64 x120000_1, .int .i64 x120001_1, .bool x120002_1] 26 (0, 0)) (bf_ BK119) hb); have n2_ := Aside0.mk (blk_below (g := gb120) (o := .cells #[.int .i64 0, .int .i64 0, .bool false] 26 (0, 0)) (bf_ BK120) hb); have n3_ := Aside0.mk (blk_below (g := gb121) (o := .cells #[.int .i64 t122, .int .i64 t123, .bool t124] 26 (0, 0)) (by (with_reducible repeat (first | refine blk_drewN ?_ _ | refine blk_drew ?_ | refine blk_alloc ?_ _)); refine blk_put (cs := #[.int .i64 t122, .int .i64 t123, .bool x122002_1]) ?_ 2 _ rfl; (with_reducible repeat (first | refine blk_drewN ?_ _ | refine blk_drew ?_ | refine blk_alloc ?_ _)); refine blk_put (cs := #[.int .i64 t122, .int .i64 x122001_1, .bool x122002_1]) ?_ 1 _ rfl; (with_reducible repeat (first | refine blk_drewN ?_ _ | refine blk_drew ?_ | refine blk_alloc ?_ _)); refine blk_put (cs := #[.int .i64 x122000_1, .int .i64 x122001_1, .bool x122002_1]) ?_ 0 _ rfl; (with_reducible repeat (first | refine blk_drewN ?_ _ | refine blk_drew ?_ | refine blk_alloc ?_ _)); exact BK121.out) hb); have n4_ := bs_ HB hb; clear BK118; clear BK119; clear BK120; clear BK121; clear HB; have BK118 := n0_; have BK119 := n1_; have BK120 := n2_; have BK121 := n3_; have HB := n4_; clear n0_ n1_ n2_ n3_ n4_; (try clear hb); (try clear hb2); (try clear hk); (try clear hi); have hcz30_0 : w29.cell? ⟨gb119, 0, none⟩ = some (.int .i64 x120000_1) := bc_ BK119 0; have hcz30_1 : w29.cell? ⟨gb119, 1, none⟩ = some (.int .i64 x120001_1) := bc_ BK119 1; have hcz30_2 : w29.cell? ⟨gb119, 2, none⟩ = some (.bool x120002_1) := bc_ BK119 2; have hfz30_0 := blk_frozen BK119.out 0; have hfz30_1 := blk_frozen BK119.out 1; have hfz30_2 := blk_frozen BK119.out 2))
     go_roundg k1
     case measure => have := HK1.out; omega
     case rel => exact ⟨(wrap64 (Int.tdiv x1_1 2)), (t125), (t126), (t127), (t122), (t123), (t124), (by first | rfl | (simp; done) | (simp [*]; done)), H', ⟨by have := HK1.out; omega⟩, ⟨bf_ BK118⟩, ⟨by (with_reducible repeat (first | refine blk_drewN ?_ _ | refine blk_drew ?_ | refine blk_alloc ?_ _)); refine blk_put (cs := #[.int .i64 t125, .int .i64 t126, .bool x120002_1]) ?_ 2 _ rfl; (with_reducible repeat (first | refine blk_drewN ?_ _ | refine blk_drew ?_ | refine blk_alloc ?_ _)); refine blk_put (cs := #[.int .i64 t125, .int .i64 x120001_1, .bool x120002_1]) ?_ 1 _ rfl; (with_reducible repeat (first | refine blk_drewN ?_ _ | refine blk_drew ?_ | refine blk_alloc ?_ _)); refine blk_put (cs := #[.int .i64 x120000_1, .int .i64 x120001_1, .bool x120002_1]) ?_ 0 _ rfl; (with_reducible repeat (first | refine blk_drewN ?_ _ | refine blk_drew ?_ | refine blk_alloc ?_ _)); exact BK119.out⟩, ⟨bf_ BK120⟩, ⟨bf_ BK121⟩, ⟨bw_ HB⟩⟩
    ·
     rw [if_neg c13] at H
     have c13b0 : ((Int.tmod x1_1 2) == 1) = false := beq_eq_false_iff_ne.mpr c13
     have c13b1 : ((Int.tmod x1_1 2) != 1) = true := bne_iff_ne.mpr c13
     replace H := Option.bind_eq_some_iff.mp H; obtain ⟨⟨t128, t129, t130⟩, A310, H⟩ := H
     replace H : (spec_l3Mul.l0 k1 (wrap64 (Int.tdiv x1_1 2)) a0_0 a0_1 a0_2 a0_3 a0_4 a0_5 t128 t129 t130 x122000_1 x122001_1 x122002_1) = some (r1, r2, r3) := H
     have A31 := Aside0.mk A310; clear A310
     have H' := Aside0.mk H
     clear H; have hnb32 := NB118_119.out; have hnc32 := NB119_118.out; have hnb33 := NB118_120.out; have hnc33 := NB120_118.out; have hnb34 := NB118_121.out; have hnc34 := NB121_118.out
     have hcz35_0 : wr.cell? ⟨gb118, 0, none⟩ = some (.int .i64 a0_0) := bc_ BK118 0
     have hcz35_1 : wr.cell? ⟨gb118, 1, none⟩ = some (.int .i64 a0_1) := bc_ BK118 1
     have hcz35_2 : wr.cell? ⟨gb118, 2, none⟩ = some (.int .i64 a0_2) := bc_ BK118 2
     have hcz35_3 : wr.cell? ⟨gb118, 3, none⟩ = some (.int .i64 a0_3) := bc_ BK118 3
     have hcz35_4 : wr.cell? ⟨gb118, 4, none⟩ = some (.int .i64 a0_4) := bc_ BK118 4
     have hcz35_5 : wr.cell? ⟨gb118, 5, none⟩ = some (.int .i64 a0_5) := bc_ BK118 5
     have hfz35_0 := blk_frozen BK118.out 0; have hfz35_1 := blk_frozen BK118.out 1; have hfz35_2 := blk_frozen BK118.out 2; have hfz35_3 := blk_frozen BK118.out 3; have hfz35_4 := blk_frozen BK118.out 4; have hfz35_5 := blk_frozen BK118.out 5; have hnb36 := NB119_120.out; have hnc36 := NB120_119.out; have hnb37 := NB119_121.out; have hnc37 := NB121_119.out
     have hcz38_0 : wr.cell? ⟨gb119, 0, none⟩ = some (.int .i64 x120000_1) := bc_ BK119 0
     have hcz38_1 : wr.cell? ⟨gb119, 1, none⟩ = some (.int .i64 x120001_1) := bc_ BK119 1
     have hcz38_2 : wr.cell? ⟨gb119, 2, none⟩ = some (.bool x120002_1) := bc_ BK119 2
     have hfz38_0 := blk_frozen BK119.out 0; have hfz38_1 := blk_frozen BK119.out 1; have hfz38_2 := blk_frozen BK119.out 2
     go_wp2_with (first | ((with_reducible refine gate_callee (f := 31) rfl ?_); refine goesL_ (some 21) rfl rfl Try.func31 (by kernel_rfl) rfl #[.agg #[.int .i64 a0_0, .int .i64 a0_1, .int .i64 a0_2, .int .i64 a0_3, .int .i64 a0_4, .int .i64 a0_5], .agg #[.int .i64 x120000_1, .int .i64 x120001_1, .bool x120002_1], .agg #[.int .i64 x120000_1, .int .i64 x120001_1, .bool x120002_1]] rfl (by (try simp only [List.map_toArray, List.map_cons, List.map_nil]); first | done | rfl | (simp only [List.length_drop, List.length_take]; rfl)) ?_; (with_reducible refine (spec_l3Add.calls k1 a0_0 a0_1 a0_2 a0_3 a0_4 a0_5 x120000_1 x120001_1 x120002_1 x120000_1 x120001_1 x120002_1 t128 t129 t130 _ A31.out).mono ?_); rintro e w39 ⟨rfl, hb⟩; refine ⟨_, rfl, ?_⟩; replace BK118 := bb_ BK118 hb; replace BK119 := bb_ BK119 hb; replace BK120 := bb_ BK120 hb; replace BK121 := bb_ BK121 hb; replace HB := bs_ HB hb; (try clear hb); (try clear hb2); (try clear hk); (try clear hi); have hcz40_0 : w39.cell? ⟨gb119, 0, none⟩ = some (.int .i64 x120000_1) := bc_ BK119 0; have hcz40_1 : w39.cell? ⟨gb119, 1, none⟩ = some (.int .i64 x120001_1) := bc_ BK119 1; have hcz40_2 : w39.cell? ⟨gb119, 2, none⟩ = some (.bool x120002_1) := bc_ BK119 2; have hfz40_0 := blk_frozen BK119.out 0; have hfz40_1 := blk_frozen BK119.out 1; have hfz40_2 := blk_frozen BK119.out 2))
     go_roundg k1
     case measure => have := HK1.out; omega
     case rel => exact ⟨(wrap64 (Int.tdiv x1_1 2)), (t128), (t129), (t130), (x122000_1), (x122001_1), (x122002_1), (by first | rfl | (simp; done) | (simp [*]; done)), H', ⟨by have := HK1.out; omega⟩, ⟨bf_ BK118⟩, ⟨by (with_reducible repeat (first | refine blk_drewN ?_ _ | refine blk_drew ?_ | refine blk_alloc ?_ _)); refine blk_put (cs := #[.int .i64 t128, .int .i64 t129, .bool x120002_1]) ?_ 2 _ rfl; (with_reducible repeat (first | refine blk_drewN ?_ _ | refine blk_drew ?_ | refine blk_alloc ?_ _)); refine blk_put (cs := #[.int .i64 t128, .int .i64 x120001_1, .bool x120002_1]) ?_ 1 _ rfl; (with_reducible repeat (first | refine blk_drewN ?_ _ | refine blk_drew ?_ | refine blk_alloc ?_ _)); refine blk_put (cs := #[.int .i64 x120000_1, .int .i64 x120001_1, .bool x120002_1]) ?_ 0 _ rfl; (with_reducible repeat (first | refine blk_drewN ?_ _ | refine blk_drew ?_ | refine blk_alloc ?_ _)); exact BK119.out⟩, ⟨bf_ BK120⟩, ⟨bf_ BK121⟩, ⟨bw_ HB⟩⟩
   ·
    rw [if_neg c12] at H
    have c12b0 : decide (0 < x1_1) = false := decide_eq_false c12
    clear c12
    simp only [Option.some.injEq, Prod.mk.injEq] at H
    obtain ⟨rfl, rfl, rfl⟩ := H; have hnb41 := NB121_118.out; have hnc41 := NB118_121.out; have hnb42 := NB121_119.out; have hnc42 := NB119_121.out; have hnb43 := NB121_120.out; have hnc43 := NB120_121.out
    have hcz44_0 : wr.cell? ⟨gb121, 0, none⟩ = some (.int .i64 x122000_1) := bc_ BK121 0
    have hcz44_1 : wr.cell? ⟨gb121, 1, none⟩ = some (.int .i64 x122001_1) := bc_ BK121 1
    have hcz44_2 : wr.cell? ⟨gb121, 2, none⟩ = some (.bool x122002_1) := bc_ BK121 2
    have hfz44_0 := blk_frozen BK121.out 0; have hfz44_1 := blk_frozen BK121.out 1; have hfz44_2 := blk_frozen BK121.out 2; have hnb45 := NB120_118.out; have hnc45 := NB118_120.out; have hnb46 := NB120_119.out; have hnc46 := NB119_120.out
    have hcz47_0 : wr.cell? ⟨gb120, 0, none⟩ = some (.int .i64 0) := bc_ BK120 0
    have hcz47_1 : wr.cell? ⟨gb120, 1, none⟩ = some (.int .i64 0) := bc_ BK120 1
    have hcz47_2 : wr.cell? ⟨gb120, 2, none⟩ = some (.bool false) := bc_ BK120 2
    have hfz47_0 := blk_frozen BK120.out 0; have hfz47_1 := blk_frozen BK120.out 1; have hfz47_2 := blk_frozen BK120.out 2
    go_wp2
    refine bodyPost_ret (results_cell_row rfl _ _ gb120 26 #[.int .i64 x122000_1, .int .i64 x122001_1, .bool x122002_1] (0, 0) _ rfl (by (with_reducible repeat (first | refine blk_drewN ?_ _ | refine blk_drew ?_ | refine blk_alloc ?_ _)); refine blk_put (cs := #[.int .i64 x122000_1, .int .i64 x122001_1, .bool false]) ?_ 2 _ rfl; (with_reducible repeat (first | refine blk_drewN ?_ _ | refine blk_drew ?_ | refine blk_alloc ?_ _)); refine blk_put (cs := #[.int .i64 x122000_1, .int .i64 0, .bool false]) ?_ 1 _ rfl; (with_reducible repeat (first | refine blk_drewN ?_ _ | refine blk_drew ?_ | refine blk_alloc ?_ _)); refine blk_put (cs := #[.int .i64 0, .int .i64 0, .bool false]) ?_ 0 _ rfl; (with_reducible repeat (first | refine blk_drewN ?_ _ | refine blk_drew ?_ | refine blk_alloc ?_ _)); exact BK120.out) Try.underlying26 rfl (by kernel_rfl)) rfl ?_; exact ⟨by first | rfl | (simp [errW_none, errW_some] <;> rfl) | (simp [*, errW_none, errW_some] <;> rfl), by repeat (first | (with_reducible first | exact HB.out | apply below_alloc | apply pw_below_drewN | apply below_drew1 | refine below_set ?_ GE118.out | refine below_set ?_ GE119.out | refine below_set ?_ GE120.out | refine below_set ?_ GE121.out) | exact HB.out)⟩

end Go.Proofs.Ytadmkolopcdffaa.PFnExactPointAdd
