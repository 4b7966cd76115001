-- Written for this claim by a program of this session.
import Derived.Test.YtadmkolopcdffaaPFnExactPointReadx0
import Derived.Test.YtadmkolopcdffaaPFnExactPointReadx5
import Derived.Test.YtadmkolopcdffaaPFnExactPointReadx6
namespace Go.Proofs.Ytadmkolopcdffaa.PFnExactPointRead
open Go.RowKit Go.Proofs.YtadmkolopcdffaaW.PrintWords Go.Proofs.YtadmkolopcdffaaW.PrintLast Go.Proofs.YtadmkolopcdffaaW.PrintMore
attribute [local go_sem] max2_int min2_int max_two min_two max_three min_three max_four min_four   -- for this text's walks alone
set_option linter.unusedVariables false
set_option linter.unusedSimpArgs false

attribute [local go_sem] fld_
/-! ### impl_CurveOk: function 23 -/
mutual
def impl_CurveOk.j0 : Nat → Bool → Int → Int → Int → Int → Int → Int → Option (Bool)
  | 0, _, _, _, _, _, _, _ => none
  | k + 1, x48, x221000, x221001, x221002, x221003, x221004, x221005 => if x48 = true then (some false) else (if x221000 = 0 then (none) else (if (Int.tmod (wrap64 ((wrap64 ((Int.tmod (wrap64 ((wrap64 (4 * x221001)) * x221001)) x221000) * x221001)) + (wrap64 ((wrap64 (27 * x221002)) * x221002)))) x221000) = 0 then (impl_CurveOk.j1 k true x221000 x221001 x221002 x221003 x221004 x221005) else ((impl_Curve_base.f x221000 x221001 x221002 x221003 x221004 x221005).bind fun bt227 => ((impl_Curve_isPoint.f x221000 x221001 x221002 x221003 x221004 x221005 bt227.1 bt227.2.1 bt227.2.2).bind fun t230 => (impl_CurveOk.j1 k (!t230) x221000 x221001 x221002 x221003 x221004 x221005)))))
def impl_CurveOk.j1 : Nat → Bool → Int → Int → Int → Int → Int → Int → Option (Bool)
  | 0, _, _, _, _, _, _, _ => none
  | k + 1, x78, x221000, x221001, x221002, x221003, x221004, x221005 => if x78 = true then (some false) else ((impl_Curve_base.f x221000 x221001 x221002 x221003 x221004 x221005).bind fun bt231 => ((impl_Curve_times.f k x221000 x221001 x221002 x221003 x221004 x221005 x221003 bt231.1 bt231.2.1 bt231.2.2).bind fun bt234 => (some bt234.2.2)))
end
def impl_CurveOk.f (k : Nat) (a0_0 : Int) (a0_1 : Int) (a0_2 : Int) (a0_3 : Int) (a0_4 : Int) (a0_5 : Int) : Option (Bool) := (impl_within.f a0_0 5 1048576).bind fun t221 => (if t221 = true then (if (Int.tmod a0_0 4) = 3 then ((impl_within.f a0_1 0 (wrap64 (a0_0 - 1))).bind fun t222 => (if t222 = true then ((impl_within.f a0_2 0 (wrap64 (a0_0 - 1))).bind fun t223 => (if t223 = true then ((impl_within.f a0_3 5 2097152).bind fun t224 => (if t224 = true then ((impl_PrimeInt.f k a0_0).bind fun t225 => (if t225 = true then ((impl_PrimeInt.f k a0_3).bind fun t226 => (impl_CurveOk.j0 k (!t226) a0_0 a0_1 a0_2 a0_3 a0_4 a0_5)) else (impl_CurveOk.j0 k true a0_0 a0_1 a0_2 a0_3 a0_4 a0_5))) else (impl_CurveOk.j0 k true a0_0 a0_1 a0_2 a0_3 a0_4 a0_5))) else (impl_CurveOk.j0 k true a0_0 a0_1 a0_2 a0_3 a0_4 a0_5))) else (impl_CurveOk.j0 k true a0_0 a0_1 a0_2 a0_3 a0_4 a0_5))) else (impl_CurveOk.j0 k true a0_0 a0_1 a0_2 a0_3 a0_4 a0_5)) else (impl_CurveOk.j0 k true a0_0 a0_1 a0_2 a0_3 a0_4 a0_5))
theorem impl_CurveOk.mono_l : ∀ k, (∀ y0 y1 y2 y3 y4 y5 y6, LeO (impl_CurveOk.j0 k y0 y1 y2 y3 y4 y5 y6) (impl_CurveOk.j0 (k + 1) y0 y1 y2 y3 y4 y5 y6)) ∧ (∀ y0 y1 y2 y3 y4 y5 y6, LeO (impl_CurveOk.j1 k y0 y1 y2 y3 y4 y5 y6) (impl_CurveOk.j1 (k + 1) y0 y1 y2 y3 y4 y5 y6))
 | 0 => ⟨fun _ _ _ _ _ _ _ r h => by simp [impl_CurveOk.j0] at h, fun _ _ _ _ _ _ _ r h => by simp [impl_CurveOk.j1] at h⟩
 | k + 1 => by
  obtain ⟨ih0, ih1⟩ := impl_CurveOk.mono_l k
  refine ⟨?_, ?_⟩
  ·
   intro y0 y1 y2 y3 y4 y5 y6
   unfold impl_CurveOk.j0
   repeat' first
   | (with_reducible exact ih0 _ _ _ _ _ _ _)
   | (with_reducible exact ih1 _ _ _ _ _ _ _)
   | (with_reducible exact impl_Curve_times.mono _ _ _ _ _ _ _ _ _ _ _)
   | (with_reducible exact impl_PrimeInt.mono _ _)
   | (with_reducible exact LeO.refl _)
   | (with_reducible exact LeO.none _)
   | (with_reducible refine LeO.ite ?_ ?_)
   | (with_reducible refine LeO.bind ?_ (fun _ => ?_))
   | exact ih0 _ _ _ _ _ _ _
   | exact ih1 _ _ _ _ _ _ _
   | exact impl_Curve_times.mono _ _ _ _ _ _ _ _ _ _ _
   | exact impl_PrimeInt.mono _ _
   | exact LeO.none _
   | refine LeO.ite ?_ ?_
   | refine LeO.bind ?_ (fun _ => ?_)
  ·
   intro y0 y1 y2 y3 y4 y5 y6
   unfold impl_CurveOk.j1
   repeat' first
   | (with_reducible exact ih0 _ _ _ _ _ _ _)
   | (with_reducible exact ih1 _ _ _ _ _ _ _)
   | (with_reducible exact impl_Curve_times.mono _ _ _ _ _ _ _ _ _ _ _)
   | (with_reducible exact impl_PrimeInt.mono _ _)
   | (with_reducible exact LeO.refl _)
   | (with_reducible exact LeO.none _)
   | (with_reducible refine LeO.ite ?_ ?_)
   | (with_reducible refine LeO.bind ?_ (fun _ => ?_))
   | exact ih0 _ _ _ _ _ _ _
   | exact ih1 _ _ _ _ _ _ _
   | exact impl_Curve_times.mono _ _ _ _ _ _ _ _ _ _ _
   | exact impl_PrimeInt.mono _ _
   | exact LeO.none _
   | refine LeO.ite ?_ ?_
   | refine LeO.bind ?_ (fun _ => ?_)
theorem impl_CurveOk.mono : ∀ a0 a1 a2 a3 a4 a5 k, LeO (impl_CurveOk.f k a0 a1 a2 a3 a4 a5) (impl_CurveOk.f (k + 1) a0 a1 a2 a3 a4 a5) := by
 intro a0 a1 a2 a3 a4 a5 k; obtain ⟨ih0, ih1⟩ := impl_CurveOk.mono_l k
 unfold impl_CurveOk.f
 repeat' first
   | (with_reducible exact ih0 _ _ _ _ _ _ _)
   | (with_reducible exact ih1 _ _ _ _ _ _ _)
   | (with_reducible exact impl_Curve_times.mono _ _ _ _ _ _ _ _ _ _ _)
   | (with_reducible exact impl_PrimeInt.mono _ _)
   | (with_reducible exact LeO.refl _)
   | (with_reducible exact LeO.none _)
   | (with_reducible refine LeO.ite ?_ ?_)
   | (with_reducible refine LeO.bind ?_ (fun _ => ?_))
   | exact ih0 _ _ _ _ _ _ _
   | exact ih1 _ _ _ _ _ _ _
   | exact impl_Curve_times.mono _ _ _ _ _ _ _ _ _ _ _
   | exact impl_PrimeInt.mono _ _
   | exact LeO.none _
   | refine LeO.ite ?_ ?_
   | refine LeO.bind ?_ (fun _ => ?_)
def impl_CurveOk.T3 : Bool × List (List Nat × List Nat) := (true, [([], []), ([0], [0]), ([1], [1]), ([], []), ([3], [3]), ([2, 4], [2, 4]), ([], []), ([6], [6]), ([5, 7], [5, 7]), ([], []), ([9], [9]), ([8, 10], [8, 10]), ([], []), ([12], [12]), ([13], [13]), ([], []), ([15], [15]), ([14, 16], [14, 16]), ([11, 17], [11, 17]), ([], []), ([19], [19]), ([18, 20], [18, 20]), ([21], [21]), ([22], [22]), ([23], [23]), ([23], [23]), ([25, 23, 23], [23, 25]), ([24, 26, 26, 23], [23, 24, 26]), ([27, 23], [23, 27]), ([23, 28], [23, 28])])
def impl_CurveOk.B3 : List Nat := [0, 1, 3, 0, 8, 31, 0, 64, 255, 0, 512, 2047, 0, 4096, 12288, 0, 32768, 126976, 262143, 0, 524288, 2097151, 4194303, 8388607, 16777215, 16777215, 50331647, 134217727, 268435455, 536870911]
theorem impl_CurveOk.tab3 : rtab .any (opsOf Try.f23 3) = impl_CurveOk.T3 := by kernel_rfl
theorem impl_CurveOk.bits3 : waitsOk impl_CurveOk.T3.2 impl_CurveOk.B3 = true := by kernel_rfl
def impl_CurveOk.T5 : Bool × List (List Nat × List Nat) := (true, [([], []), ([], []), ([1], [1]), ([], []), ([3], [3]), ([0, 2, 4, 4], [0, 2, 4]), ([5], [5]), ([6, 5, 0, 1, 2, 3, 4, 5, 6], [6])])
def impl_CurveOk.B5 : List Nat := [0, 0, 2, 0, 8, 31, 63, 127]
theorem impl_CurveOk.tab5 : rtab .any (opsOf Try.f23 5) = impl_CurveOk.T5 := by kernel_rfl
theorem impl_CurveOk.bits5 : waitsOk impl_CurveOk.T5.2 impl_CurveOk.B5 = true := by kernel_rfl
set_option maxHeartbeats 8000000 in
set_option maxRecDepth 100000 in
theorem impl_CurveOk.calls (k : Nat) (a0_0 : Int) (a0_1 : Int) (a0_2 : Int) (a0_3 : Int) (a0_4 : Int) (a0_5 : Int) (r : Bool) (w : World) (h : impl_CurveOk.f k a0_0 a0_1 a0_2 a0_3 a0_4 a0_5 = some r) :
  Calls Try.prog 23 #[.agg #[.int .i64 a0_0, .int .i64 a0_1, .int .i64 a0_2, .int .i64 a0_3, .int .i64 a0_4, .int .i64 a0_5]] w fun e w' => e = .returned (.bool r) ∧ Below w.heap.size w w' := by
 have hu29 := Try.underlying29; have HB := Aside0.mk (Below.refl w.heap.size w)
 have H : ((impl_within.f a0_0 5 1048576).bind fun t221 => (if t221 = true then (if (Int.tmod a0_0 4) = 3 then ((impl_within.f a0_1 0 (wrap64 (a0_0 - 1))).bind fun t222 => (if t222 = true then ((impl_within.f a0_2 0 (wrap64 (a0_0 - 1))).bind fun t223 => (if t223 = true then ((impl_within.f a0_3 5 2097152).bind fun t224 => (if t224 = true then ((impl_PrimeInt.f k a0_0).bind fun t225 => (if t225 = true then ((impl_PrimeInt.f k a0_3).bind fun t226 => (impl_CurveOk.j0 k (!t226) a0_0 a0_1 a0_2 a0_3 a0_4 a0_5)) else (impl_CurveOk.j0 k true a0_0 a0_1 a0_2 a0_3 a0_4 a0_5))) else (impl_CurveOk.j0 k true a0_0 a0_1 a0_2 a0_3 a0_4 a0_5))) else (impl_CurveOk.j0 k true a0_0 a0_1 a0_2 a0_3 a0_4 a0_5))) else (impl_CurveOk.j0 k true a0_0 a0_1 a0_2 a0_3 a0_4 a0_5))) else (impl_CurveOk.j0 k true a0_0 a0_1 a0_2 a0_3 a0_4 a0_5)) else (impl_CurveOk.j0 k true a0_0 a0_1 a0_2 a0_3 a0_4 a0_5))) = some r := h
 clear h; have HC2 := Aside0.mk H; clear H
 go_enter Try.func23, Try.ntmps23
 go_upto_region 1 with (first | ((with_reducible refine gate_dst (N := 1) rfl ?_); refine box_event ?hg (N := 1) ?hd (cs := #[.int .i64 a0_0, .int .i64 a0_1, .int .i64 a0_2, .int .i64 a0_3, .int .i64 a0_4, .int .i64 a0_5]) (t := 29) ?hr ?_; (case hd => rfl); (case hg => rfl); (case hr => first | (go_simp; done) | (go_simp; rfl)); intro gb220 hg w3 hbox hb; have BK220 := Aside0.mk hbox; have GW220 := ge_ HB hg; have GE220 := ge_ HB hg; replace HB := bs_ HB hb; clear hb hbox hg))
 (try simp only [Act.put, sA_, sZ_, sS_])
 go_cut [48] (fun v48 wc => ∃ (kq : Nat) (x48_1 : Bool), v48 = .bool x48_1 ∧ Aside0 (impl_CurveOk.j0 kq x48_1 a0_0 a0_1 a0_2 a0_3 a0_4 a0_5 = some r) ∧ Aside0 (kq ≤ k) ∧ Aside0 (wc.heap[gb220]? = some (.cells #[.int .i64 a0_0, .int .i64 a0_1, .int .i64 a0_2, .int .i64 a0_3, .int .i64 a0_4, .int .i64 a0_5] 29 (0, 0))) ∧ Aside0 (Below w.heap.size w wc))
 case first =>
  have H := HC2.out; clear HC2; obtain ⟨t221, A40, H⟩ := pb_ H
  have A4 := Aside0.mk A40; clear A40
  by_cases c5 : t221 = true
  ·
   subst c5; rw [if_pos rfl] at H
   by_cases c6 : (Int.tmod a0_0 4) = 3
   ·
    rw [if_pos c6] at H
    have c6b0 : ((Int.tmod a0_0 4) == 3) = true := beq_iff_eq.mpr c6
    have c6b1 : ((Int.tmod a0_0 4) != 3) = false := bne_eq_false_iff_eq.mpr c6
    clear c6
    (first | rw [c6b0] | (simp only [i64_w, i32_w]; rw [c6b0]) | skip)
    obtain ⟨t222, A70, H⟩ := pb_ H; have A7 := Aside0.mk A70; clear A70
    by_cases c8 : t222 = true
    ·
     subst c8
     rw [if_pos rfl] at H; obtain ⟨t223, A90, H⟩ := pb_ H
     have A9 := Aside0.mk A90; clear A90
     by_cases c10 : t223 = true
     ·
      subst c10
      rw [if_pos rfl] at H; obtain ⟨t224, A110, H⟩ := pb_ H
      have A11 := Aside0.mk A110; clear A110
      by_cases c12 : t224 = true
      ·
       subst c12
       rw [if_pos rfl] at H; obtain ⟨t225, A130, H⟩ := pb_ H
       have A13 := Aside0.mk A130; clear A130
       by_cases c14 : t225 = true
       ·
        subst c14
        rw [if_pos rfl] at H; obtain ⟨t226, A150, H⟩ := pb_ H
        have A15 := Aside0.mk A150; clear A150
        have H' := Aside0.mk H
        clear H; obtain ⟨hcz16_0, hcz16_1, hcz16_2, hcz16_3, hcz16_4, hcz16_5, hfz16_0, hfz16_1, hfz16_2, hfz16_3, hfz16_4, hfz16_5⟩ := bx6_ BK220
        go_wp2_with (first | ((with_reducible refine gate_callee (f := 43) rfl ?_); refine gl_ 5 rfl rfl Try.func43 #[.int .i64 a0_0, .int .i64 5, .int .i64 1048576] rfl ?_; (with_reducible refine (impl_within.calls a0_0 5 1048576 true _ A4.out).mono ?_); rintro e w' ⟨rfl, ⟨nd, rfl⟩⟩; refine ⟨_, rfl, ?_⟩) | (go_at_call 43; (with_reducible refine (impl_within.calls a0_1 0 (wrap64 (a0_0 - 1)) true _ A7.out).mono ?_); rintro e w' ⟨rfl, ⟨nd, rfl⟩⟩) | (go_at_call 43; (with_reducible refine (impl_within.calls a0_2 0 (wrap64 (a0_0 - 1)) true _ A9.out).mono ?_); rintro e w' ⟨rfl, ⟨nd, rfl⟩⟩) | (go_at_call 43; (with_reducible refine (impl_within.calls a0_3 5 2097152 true _ A11.out).mono ?_); rintro e w' ⟨rfl, ⟨nd, rfl⟩⟩) | (go_at_call 44; (with_reducible refine (impl_PrimeInt.calls k a0_0 true _ A13.out).mono ?_); rintro e w' ⟨rfl, ⟨nd, rfl⟩⟩) | (go_at_call 44; (with_reducible refine (impl_PrimeInt.calls k a0_3 t226 _ A15.out).mono ?_); rintro e w' ⟨rfl, ⟨nd, rfl⟩⟩))
        go_meet
        case rel => exact ⟨_, (!t226), (by first | rfl | (simp; done) | (simp [*]; done)), H', ⟨by first | omega | exact Nat.le_refl _⟩, ⟨bk_ BK220⟩, ⟨bw_ HB⟩⟩
       ·
        replace c14 := Bool.eq_false_iff.mpr c14; subst c14
        rw [if_neg (show ¬ (false = true) by decide)] at H
        have H' := Aside0.mk H
        clear H; obtain ⟨hcz17_0, hcz17_1, hcz17_2, hcz17_3, hcz17_4, hcz17_5, hfz17_0, hfz17_1, hfz17_2, hfz17_3, hfz17_4, hfz17_5⟩ := bx6_ BK220
        go_wp2_with (first | ((with_reducible refine gate_callee (f := 43) rfl ?_); refine gl_ 5 rfl rfl Try.func43 #[.int .i64 a0_0, .int .i64 5, .int .i64 1048576] rfl ?_; (with_reducible refine (impl_within.calls a0_0 5 1048576 true _ A4.out).mono ?_); rintro e w' ⟨rfl, ⟨nd, rfl⟩⟩; refine ⟨_, rfl, ?_⟩) | (go_at_call 43; (with_reducible refine (impl_within.calls a0_1 0 (wrap64 (a0_0 - 1)) true _ A7.out).mono ?_); rintro e w' ⟨rfl, ⟨nd, rfl⟩⟩) | (go_at_call 43; (with_reducible refine (impl_within.calls a0_2 0 (wrap64 (a0_0 - 1)) true _ A9.out).mono ?_); rintro e w' ⟨rfl, ⟨nd, rfl⟩⟩) | (go_at_call 43; (with_reducible refine (impl_within.calls a0_3 5 2097152 true _ A11.out).mono ?_); rintro e w' ⟨rfl, ⟨nd, rfl⟩⟩) | (go_at_call 44; (with_reducible refine (impl_PrimeInt.calls k a0_0 false _ A13.out).mono ?_); rintro e w' ⟨rfl, ⟨nd, rfl⟩⟩))
        go_meet
        case rel => exact ⟨_, (true), (by first | rfl | (simp; done) | (simp [*]; done)), H', ⟨by first | omega | exact Nat.le_refl _⟩, ⟨bk_ BK220⟩, ⟨bw_ HB⟩⟩
      ·
       replace c12 := Bool.eq_false_iff.mpr c12; subst c12
       rw [if_neg (show ¬ (false = true) by decide)] at H
       have H' := Aside0.mk H
       clear H; obtain ⟨hcz18_0, hcz18_1, hcz18_2, hcz18_3, hcz18_4, hcz18_5, hfz18_0, hfz18_1, hfz18_2, hfz18_3, hfz18_4, hfz18_5⟩ := bx6_ BK220
       go_wp2_with (first | ((with_reducible refine gate_callee (f := 43) rfl ?_); refine gl_ 5 rfl rfl Try.func43 #[.int .i64 a0_0, .int .i64 5, .int .i64 1048576] rfl ?_; (with_reducible refine (impl_within.calls a0_0 5 1048576 true _ A4.out).mono ?_); rintro e w' ⟨rfl, ⟨nd, rfl⟩⟩; refine ⟨_, rfl, ?_⟩) | (go_at_call 43; (with_reducible refine (impl_within.calls a0_1 0 (wrap64 (a0_0 - 1)) true _ A7.out).mono ?_); rintro e w' ⟨rfl, ⟨nd, rfl⟩⟩) | (go_at_call 43; (with_reducible refine (impl_within.calls a0_2 0 (wrap64 (a0_0 - 1)) true _ A9.out).mono ?_); rintro e w' ⟨rfl, ⟨nd, rfl⟩⟩) | (go_at_call 43; (with_reducible refine (impl_within.calls a0_3 5 2097152 false _ A11.out).mono ?_); rintro e w' ⟨rfl, ⟨nd, rfl⟩⟩))
       go_meet
       case rel => exact ⟨_, (true), (by first | rfl | (simp; done) | (simp [*]; done)), H', ⟨by first | omega | exact Nat.le_refl _⟩, ⟨bk_ BK220⟩, ⟨bw_ HB⟩⟩
     ·
      replace c10 := Bool.eq_false_iff.mpr c10; subst c10
      rw [if_neg (show ¬ (false = true) by decide)] at H
      have H' := Aside0.mk H
      clear H; obtain ⟨hcz19_0, hcz19_1, hcz19_2, hcz19_3, hcz19_4, hcz19_5, hfz19_0, hfz19_1, hfz19_2, hfz19_3, hfz19_4, hfz19_5⟩ := bx6_ BK220
      go_wp2_with (first | ((with_reducible refine gate_callee (f := 43) rfl ?_); refine gl_ 5 rfl rfl Try.func43 #[.int .i64 a0_0, .int .i64 5, .int .i64 1048576] rfl ?_; (with_reducible refine (impl_within.calls a0_0 5 1048576 true _ A4.out).mono ?_); rintro e w' ⟨rfl, ⟨nd, rfl⟩⟩; refine ⟨_, rfl, ?_⟩) | (go_at_call 43; (with_reducible refine (impl_within.calls a0_1 0 (wrap64 (a0_0 - 1)) true _ A7.out).mono ?_); rintro e w' ⟨rfl, ⟨nd, rfl⟩⟩) | (go_at_call 43; (with_reducible refine (impl_within.calls a0_2 0 (wrap64 (a0_0 - 1)) false _ A9.out).mono ?_); rintro e w' ⟨rfl, ⟨nd, rfl⟩⟩))
      go_meet
      case rel => exact ⟨_, (true), (by first | rfl | (simp; done) | (simp [*]; done)), H', ⟨by first | omega | exact Nat.le_refl _⟩, ⟨bk_ BK220⟩, ⟨bw_ HB⟩⟩
    ·
     replace c8 := Bool.eq_false_iff.mpr c8; subst c8
     rw [if_neg (show ¬ (false = true) by decide)] at H
     have H' := Aside0.mk H
     clear H; obtain ⟨hcz20_0, hcz20_1, hcz20_2, hcz20_3, hcz20_4, hcz20_5, hfz20_0, hfz20_1, hfz20_2, hfz20_3, hfz20_4, hfz20_5⟩ := bx6_ BK220
     go_wp2_with (first | ((with_reducible refine gate_callee (f := 43) rfl ?_); refine gl_ 5 rfl rfl Try.func43 #[.int .i64 a0_0, .int .i64 5, .int .i64 1048576] rfl ?_; (with_reducible refine (impl_within.calls a0_0 5 1048576 true _ A4.out).mono ?_); rintro e w' ⟨rfl, ⟨nd, rfl⟩⟩; refine ⟨_, rfl, ?_⟩) | (go_at_call 43; (with_reducible refine (impl_within.calls a0_1 0 (wrap64 (a0_0 - 1)) false _ A7.out).mono ?_); rintro e w' ⟨rfl, ⟨nd, rfl⟩⟩))
     go_meet
     case rel => exact ⟨_, (true), (by first | rfl | (simp; done) | (simp [*]; done)), H', ⟨by first | omega | exact Nat.le_refl _⟩, ⟨bk_ BK220⟩, ⟨bw_ HB⟩⟩
   ·
    rw [if_neg c6] at H
    have c6b0 : ((Int.tmod a0_0 4) == 3) = false := beq_eq_false_iff_ne.mpr c6
    have c6b1 : ((Int.tmod a0_0 4) != 3) = true := bne_iff_ne.mpr c6
    (first | rw [c6b0] | (simp only [i64_w, i32_w]; rw [c6b0]) | skip)
    have H' := Aside0.mk H
    clear H; obtain ⟨hcz21_0, hcz21_1, hcz21_2, hcz21_3, hcz21_4, hcz21_5, hfz21_0, hfz21_1, hfz21_2, hfz21_3, hfz21_4, hfz21_5⟩ := bx6_ BK220
    go_wp2_with (first | ((with_reducible refine gate_callee (f := 43) rfl ?_); refine gl_ 5 rfl rfl Try.func43 #[.int .i64 a0_0, .int .i64 5, .int .i64 1048576] rfl ?_; (with_reducible refine (impl_within.calls a0_0 5 1048576 true _ A4.out).mono ?_); rintro e w' ⟨rfl, ⟨nd, rfl⟩⟩; refine ⟨_, rfl, ?_⟩))
    go_meet
    case rel => exact ⟨_, (true), (by first | rfl | (simp; done) | (simp [*]; done)), H', ⟨by first | omega | exact Nat.le_refl _⟩, ⟨bk_ BK220⟩, ⟨bw_ HB⟩⟩
  ·
   replace c5 := Bool.eq_false_iff.mpr c5; subst c5
   rw [if_neg (show ¬ (false = true) by decide)] at H
   have H' := Aside0.mk H
   clear H; obtain ⟨hcz22_0, hcz22_1, hcz22_2, hcz22_3, hcz22_4, hcz22_5, hfz22_0, hfz22_1, hfz22_2, hfz22_3, hfz22_4, hfz22_5⟩ := bx6_ BK220
   go_wp2_with (first | ((with_reducible refine gate_callee (f := 43) rfl ?_); refine gl_ 5 rfl rfl Try.func43 #[.int .i64 a0_0, .int .i64 5, .int .i64 1048576] rfl ?_; (with_reducible refine (impl_within.calls a0_0 5 1048576 false _ A4.out).mono ?_); rintro e w' ⟨rfl, ⟨nd, rfl⟩⟩; refine ⟨_, rfl, ?_⟩))
   go_meet
   case rel => exact ⟨_, (true), (by first | rfl | (simp; done) | (simp [*]; done)), H', ⟨by first | omega | exact Nat.le_refl _⟩, ⟨bk_ BK220⟩, ⟨bw_ HB⟩⟩
 case rest =>
  clear HC2
  try clear c1
  try clear c2
  try clear p2
  try clear c4
  try clear c5
  try clear c6
  try clear c6b0
  try clear c6b1
  try clear p6
  try clear c8
  try clear c10
  try clear c12
  try clear c14
  try clear hcz16_0 hcz16_1 hcz16_2 hcz16_3 hcz16_4 hcz16_5
  try clear hcz17_0 hcz17_1 hcz17_2 hcz17_3 hcz17_4 hcz17_5
  try clear hcz18_0 hcz18_1 hcz18_2 hcz18_3 hcz18_4 hcz18_5
  try clear hcz19_0 hcz19_1 hcz19_2 hcz19_3 hcz19_4 hcz19_5
  try clear hcz20_0 hcz20_1 hcz20_2 hcz20_3 hcz20_4 hcz20_5
  try clear hcz21_0 hcz21_1 hcz21_2 hcz21_3 hcz21_4 hcz21_5
  try clear hcz22_0 hcz22_1 hcz22_2 hcz22_3 hcz22_4 hcz22_5
  try clear hfz16_0 hfz16_1 hfz16_2 hfz16_3 hfz16_4 hfz16_5
  try clear hfz17_0 hfz17_1 hfz17_2 hfz17_3 hfz17_4 hfz17_5
  try clear hfz18_0 hfz18_1 hfz18_2 hfz18_3 hfz18_4 hfz18_5
  try clear hfz19_0 hfz19_1 hfz19_2 hfz19_3 hfz19_4 hfz19_5
  try clear hfz20_0 hfz20_1 hfz20_2 hfz20_3 hfz20_4 hfz20_5
  try clear hfz21_0 hfz21_1 hfz21_2 hfz21_3 hfz21_4 hfz21_5
  try clear hfz22_0 hfz22_1 hfz22_2 hfz22_3 hfz22_4 hfz22_5
  obtain ⟨kq, x48_1, rfl, HA, HJ1, BK220, HB⟩ := hcut
  cases kq with
  | zero => exact absurd HA.out (by simp [impl_CurveOk.j0])
  | succ kj1 =>
   have H := HA.out; clear HA
   simp only [impl_CurveOk.j0] at H
   by_cases c23 : x48_1 = true
   ·
    subst c23
    rw [if_pos rfl] at H; obtain rfl := Option.some.inj H
    go_wp2
    go_ret
    exact ⟨by first | rfl | (simp [errW_none, errW_some] <;> rfl) | (simp [*, errW_none, errW_some] <;> rfl), by repeat (first | (with_reducible first | exact HB.out | apply below_alloc | apply pw_below_drewN | apply below_drew1 | refine below_set ?_ GE220.out) | exact HB.out)⟩
   ·
    replace c23 := Bool.eq_false_iff.mpr c23; subst c23
    rw [if_neg (show ¬ (false = true) by decide)] at H; have HC24 := Aside0.mk H; clear H
    go_upto_region 3 with (fail)
    go_cut [78] (fun v78 wc => ∃ (kq : Nat) (x78_23 : Bool), v78 = .bool x78_23 ∧ Aside0 (impl_CurveOk.j1 kq x78_23 a0_0 a0_1 a0_2 a0_3 a0_4 a0_5 = some r) ∧ Aside0 (kq ≤ kj1) ∧ Aside0 (wc.heap[gb220]? = some (.cells #[.int .i64 a0_0, .int .i64 a0_1, .int .i64 a0_2, .int .i64 a0_3, .int .i64 a0_4, .int .i64 a0_5] 29 (0, 0))) ∧ Aside0 (Below w.heap.size w wc))
    case first =>
     have H := HC24.out; clear HC24
     by_cases c25 : a0_0 = 0
     · rw [if_pos c25] at H; exact absurd H (by simp)
     ·
      rw [if_neg c25] at H
      have c25b0 : (a0_0 == 0) = false := beq_eq_false_iff_ne.mpr c25
      have c25b1 : (a0_0 != 0) = true := bne_iff_ne.mpr c25
      (first | rw [c25b0] | (simp only [i64_w, i32_w]; rw [c25b0]) | skip)
      by_cases c26 : (Int.tmod (wrap64 ((wrap64 ((Int.tmod (wrap64 ((wrap64 (4 * a0_1)) * a0_1)) a0_0) * a0_1)) + (wrap64 ((wrap64 (27 * a0_2)) * a0_2)))) a0_0) = 0
      ·
       rw [if_pos c26] at H
       have c26b0 : ((Int.tmod (wrap64 ((wrap64 ((Int.tmod (wrap64 ((wrap64 (4 * a0_1)) * a0_1)) a0_0) * a0_1)) + (wrap64 ((wrap64 (27 * a0_2)) * a0_2)))) a0_0) == 0) = true := beq_iff_eq.mpr c26
       have c26b1 : ((Int.tmod (wrap64 ((wrap64 ((Int.tmod (wrap64 ((wrap64 (4 * a0_1)) * a0_1)) a0_0) * a0_1)) + (wrap64 ((wrap64 (27 * a0_2)) * a0_2)))) a0_0) != 0) = false := bne_eq_false_iff_eq.mpr c26
       clear c26
       have H' := Aside0.mk H
       clear H
       try go_wp2
       replace BK220 := Aside0.mk (blk_drew BK220.out); replace HB := Aside0.mk (below_drew1 HB.out); refine start_ (n := 30) (S := fun w' => w'.cell? ⟨gb220, 0, none⟩ = some (.int .i64 a0_0) ∧ w'.cell? ⟨gb220, 1, none⟩ = some (.int .i64 a0_1) ∧ w'.cell? ⟨gb220, 2, none⟩ = some (.int .i64 a0_2) ∧ w'.cell? ⟨gb220, 3, none⟩ = some (.int .i64 a0_3) ∧ w'.cell? ⟨gb220, 4, none⟩ = some (.int .i64 a0_4) ∧ w'.cell? ⟨gb220, 5, none⟩ = some (.int .i64 a0_5)) (ds := []) (bl_ 30 0) (by kernel_rfl) rfl rfl ⟨bc_ BK220 0, bc_ BK220 1, bc_ BK220 2, bc_ BK220 3, bc_ BK220 4, bc_ BK220 5⟩ (fun hHeld => ?_); refine with_tabW impl_CurveOk.tab3 impl_CurveOk.bits3 (fun HT_ HW_ => ?_)
       generalize wc.drew = w27 at BK220 HB hHeld ⊢
       refine pu_ 0 49 (bl_ 30 1) rfl rfl HT_ ?_; refine pu_ 3 52 (bl_ 30 9) rfl rfl HT_ ?_; refine pu_ 6 55 (bl_ 30 73) rfl rfl HT_ ?_; refine pu_ 9 58 (bl_ 30 585) rfl rfl HT_ ?_; refine pu_ 12 61 (bl_ 30 4681) rfl rfl HT_ ?_; refine pu_ 15 64 (bl_ 30 37449) rfl rfl HT_ ?_; refine pu_ 19 68 (bl_ 30 561737) rfl rfl HT_ ?_; refine tk_ 1 50 (bl_ 30 561739) rfl rfl HT_ HW_ hHeld (by rintro w' ⟨s0, s1, s2, s3, s4, s5⟩; go_simp; with_reducible rfl) ?_; refine pu_ 2 51 (bl_ 30 561743) rfl rfl HT_ ?_; refine tk_ 4 53 (bl_ 30 561759) rfl rfl HT_ HW_ hHeld (by rintro w' ⟨s0, s1, s2, s3, s4, s5⟩; go_simp; with_reducible rfl) ?_; refine pu_ 5 54 (bl_ 30 561791) rfl rfl HT_ ?_; refine tk_ 7 56 (bl_ 30 561919) rfl rfl HT_ HW_ hHeld (by rintro w' ⟨s0, s1, s2, s3, s4, s5⟩; go_simp; with_reducible rfl) ?_; refine pu_ 8 57 (bl_ 30 562175) rfl rfl HT_ ?_; refine tk_ 10 59 (bl_ 30 563199) rfl rfl HT_ HW_ hHeld (by rintro w' ⟨s0, s1, s2, s3, s4, s5⟩; go_simp; with_reducible rfl) ?_; refine pu_ 11 60 (bl_ 30 565247) rfl rfl HT_ ?_; refine tk_ 13 62 (bl_ 30 573439) rfl rfl HT_ HW_ hHeld (by rintro w' ⟨s0, s1, s2, s3, s4, s5⟩; go_simp; with_reducible rfl) ?_; refine pu_ 14 63 (bl_ 30 589823) rfl rfl HT_ ?_; refine tk_ 16 65 (bl_ 30 655359) rfl rfl HT_ HW_ hHeld (by rintro w' ⟨s0, s1, s2, s3, s4, s5⟩; go_simp; with_reducible rfl) ?_; refine pu_ 17 66 (bl_ 30 786431) rfl rfl HT_ ?_; refine pu_ 18 67 (bl_ 30 1048575) rfl rfl HT_ ?_; refine tk_ 20 69 (bl_ 30 2097151) rfl rfl HT_ HW_ hHeld (by rintro w' ⟨s0, s1, s2, s3, s4, s5⟩; go_simp; with_reducible rfl) ?_; refine pu_ 21 70 (bl_ 30 4194303) rfl rfl HT_ ?_; refine pu_ 22 71 (bl_ 30 8388607) rfl rfl HT_ ?_; refine pu_ 23 72 (bl_ 30 16777215) rfl rfl HT_ ?_; refine pz_ 24 73 (bl_ 30 33554431) rfl rfl HT_ ?_; refine pz_ 25 74 (bl_ 30 67108863) rfl rfl HT_ ?_; refine pz_ 26 75 (bl_ 30 134217727) rfl rfl HT_ ?_; refine pz_ 27 76 (bl_ 30 268435455) rfl rfl HT_ ?_; refine pz_ 28 77 (bl_ 30 536870911) rfl rfl HT_ ?_; refine pu_ 29 78 (bl_ 30 1073741823) rfl rfl HT_ ?_; refine done_ (done_of HT_.out (by kernel_rfl)) ?_
       try go_wp2
       go_meet
       case rel => exact ⟨_, (true), (by first | rfl | (simp; done) | (simp [*]; done)), H', ⟨by have := HJ1.out; first | omega | exact Nat.le_refl _⟩, ⟨bk_ BK220⟩, ⟨bw_ HB⟩⟩
      ·
       rw [if_neg c26] at H
       have c26b0 : ((Int.tmod (wrap64 ((wrap64 ((Int.tmod (wrap64 ((wrap64 (4 * a0_1)) * a0_1)) a0_0) * a0_1)) + (wrap64 ((wrap64 (27 * a0_2)) * a0_2)))) a0_0) == 0) = false := beq_eq_false_iff_ne.mpr c26
       have c26b1 : ((Int.tmod (wrap64 ((wrap64 ((Int.tmod (wrap64 ((wrap64 (4 * a0_1)) * a0_1)) a0_0) * a0_1)) + (wrap64 ((wrap64 (27 * a0_2)) * a0_2)))) a0_0) != 0) = true := bne_iff_ne.mpr c26
       obtain ⟨⟨t227, t228, t229⟩, A280, H⟩ := pb_ H; have A28 := Aside0.mk A280; clear A280; obtain ⟨t230, A290, H⟩ := pb_ H
       have A29 := Aside0.mk A290; clear A290
       have H' := Aside0.mk H
       clear H
       try go_wp2
       replace BK220 := Aside0.mk (blk_drew BK220.out); replace HB := Aside0.mk (below_drew1 HB.out); refine start_ (n := 30) (S := fun w' => w'.cell? ⟨gb220, 0, none⟩ = some (.int .i64 a0_0) ∧ w'.cell? ⟨gb220, 1, none⟩ = some (.int .i64 a0_1) ∧ w'.cell? ⟨gb220, 2, none⟩ = some (.int .i64 a0_2) ∧ w'.cell? ⟨gb220, 3, none⟩ = some (.int .i64 a0_3) ∧ w'.cell? ⟨gb220, 4, none⟩ = some (.int .i64 a0_4) ∧ w'.cell? ⟨gb220, 5, none⟩ = some (.int .i64 a0_5)) (ds := []) (bl_ 30 0) (by kernel_rfl) rfl rfl ⟨bc_ BK220 0, bc_ BK220 1, bc_ BK220 2, bc_ BK220 3, bc_ BK220 4, bc_ BK220 5⟩ (fun hHeld => ?_); refine with_tabW impl_CurveOk.tab3 impl_CurveOk.bits3 (fun HT_ HW_ => ?_)
       generalize wc.drew = w30 at BK220 HB hHeld ⊢
       refine pu_ 0 49 (bl_ 30 1) rfl rfl HT_ ?_; refine pu_ 3 52 (bl_ 30 9) rfl rfl HT_ ?_; refine pu_ 6 55 (bl_ 30 73) rfl rfl HT_ ?_; refine pu_ 9 58 (bl_ 30 585) rfl rfl HT_ ?_; refine pu_ 12 61 (bl_ 30 4681) rfl rfl HT_ ?_; refine pu_ 15 64 (bl_ 30 37449) rfl rfl HT_ ?_; refine pu_ 19 68 (bl_ 30 561737) rfl rfl HT_ ?_; refine tk_ 1 50 (bl_ 30 561739) rfl rfl HT_ HW_ hHeld (by rintro w' ⟨s0, s1, s2, s3, s4, s5⟩; go_simp; with_reducible rfl) ?_; refine pu_ 2 51 (bl_ 30 561743) rfl rfl HT_ ?_; refine tk_ 4 53 (bl_ 30 561759) rfl rfl HT_ HW_ hHeld (by rintro w' ⟨s0, s1, s2, s3, s4, s5⟩; go_simp; with_reducible rfl) ?_; refine pu_ 5 54 (bl_ 30 561791) rfl rfl HT_ ?_; refine tk_ 7 56 (bl_ 30 561919) rfl rfl HT_ HW_ hHeld (by rintro w' ⟨s0, s1, s2, s3, s4, s5⟩; go_simp; with_reducible rfl) ?_; refine pu_ 8 57 (bl_ 30 562175) rfl rfl HT_ ?_; refine tk_ 10 59 (bl_ 30 563199) rfl rfl HT_ HW_ hHeld (by rintro w' ⟨s0, s1, s2, s3, s4, s5⟩; go_simp; with_reducible rfl) ?_; refine pu_ 11 60 (bl_ 30 565247) rfl rfl HT_ ?_; refine tk_ 13 62 (bl_ 30 573439) rfl rfl HT_ HW_ hHeld (by rintro w' ⟨s0, s1, s2, s3, s4, s5⟩; go_simp; with_reducible rfl) ?_; refine pu_ 14 63 (bl_ 30 589823) rfl rfl HT_ ?_; refine tk_ 16 65 (bl_ 30 655359) rfl rfl HT_ HW_ hHeld (by rintro w' ⟨s0, s1, s2, s3, s4, s5⟩; go_simp; with_reducible rfl) ?_; refine pu_ 17 66 (bl_ 30 786431) rfl rfl HT_ ?_; refine pu_ 18 67 (bl_ 30 1048575) rfl rfl HT_ ?_; refine tk_ 20 69 (bl_ 30 2097151) rfl rfl HT_ HW_ hHeld (by rintro w' ⟨s0, s1, s2, s3, s4, s5⟩; go_simp; with_reducible rfl) ?_; refine pu_ 21 70 (bl_ 30 4194303) rfl rfl HT_ ?_; refine pu_ 22 71 (bl_ 30 8388607) rfl rfl HT_ ?_; refine pu_ 23 72 (bl_ 30 16777215) rfl rfl HT_ ?_; refine tk_ 24 73 (bl_ 30 33554431) rfl rfl HT_ HW_ hHeld (by rintro w' ⟨s0, s1, s2, s3, s4, s5⟩; go_simp; with_reducible rfl) ?_; refine tk_ 25 74 (bl_ 30 67108863) rfl rfl HT_ HW_ hHeld (by rintro w' ⟨s0, s1, s2, s3, s4, s5⟩; go_simp; with_reducible rfl) ?_; refine one_ (i := 26) (N := some 75) (bl_ 30 134217727) rfl rfl (one_of HT_.out (by kernel_rfl)) (by decide) (fun K hK => ?_); refine gs_ Try.func45 #[.agg #[.int .i64 a0_0, .int .i64 a0_1, .int .i64 a0_2, .int .i64 a0_3, .int .i64 a0_4, .int .i64 a0_5]] ?_
       with_reducible refine (impl_Curve_base.calls a0_0 a0_1 a0_2 a0_3 a0_4 a0_5 t227 t228 t229 _ A28.out).mono ?_
       rintro e w31 ⟨rfl, hb⟩; refine ⟨_, rfl, ?_⟩; replace BK220 := bb_ BK220 hb; replace HB := bs_ HB hb; (try clear hb); refine hK.out _ _ ⟨bc_ BK220 0, bc_ BK220 1, bc_ BK220 2, bc_ BK220 3, bc_ BK220 4, bc_ BK220 5⟩ (fun hHeld => ?_); clear hK K
       apply norm_
       · show Act.put _ (some 75) _ = _; simp only [Act.put, sA_, sZ_, sS_, i64_w, i32_w]; rfl
       refine one_ (i := 27) (N := some 76) (bl_ 30 268435455) rfl rfl (one_of HT_.out (by kernel_rfl)) (by decide) (fun K hK => ?_); refine gs_ Try.func32 #[.agg #[.int .i64 a0_0, .int .i64 a0_1, .int .i64 a0_2, .int .i64 a0_3, .int .i64 a0_4, .int .i64 a0_5], .agg #[.int .i64 t227, .int .i64 t228, .bool t229]] ?_
       with_reducible refine (impl_Curve_isPoint.calls a0_0 a0_1 a0_2 a0_3 a0_4 a0_5 t227 t228 t229 t230 _ A29.out).mono ?_
       rintro e w32 ⟨rfl, hb⟩; refine ⟨_, rfl, ?_⟩; replace BK220 := bb_ BK220 hb; replace HB := bs_ HB hb; (try clear hb); refine hK.out _ _ ⟨bc_ BK220 0, bc_ BK220 1, bc_ BK220 2, bc_ BK220 3, bc_ BK220 4, bc_ BK220 5⟩ (fun hHeld => ?_); clear hK K
       apply norm_
       · show Act.put _ (some 76) _ = _; simp only [Act.put, sA_, sZ_, sS_, i64_w, i32_w]; rfl
       refine pu_ 28 77 (bl_ 30 536870911) rfl rfl HT_ ?_; refine pu_ 29 78 (bl_ 30 1073741823) rfl rfl HT_ ?_; refine done_ (done_of HT_.out (by kernel_rfl)) ?_
       try go_wp2
       go_meet
       case rel => exact ⟨_, (!t230), (by first | rfl | (simp; done) | (simp [*]; done)), H', ⟨by have := HJ1.out; first | omega | exact Nat.le_refl _⟩, ⟨bk_ BK220⟩, ⟨bw_ HB⟩⟩
    case rest =>
     clear HC24
     try clear c2
     try clear p2
     try clear c3
     try clear c4
     try clear p6
     try clear c23
     try clear c25
     try clear c25b0
     try clear c25b1
     try clear c26
     try clear c26b0
     try clear c26b1
     try clear c32
     try clear hfz19_3 hfz19_4 hfz19_5
     try clear hfz20_0 hfz20_1 hfz20_2 hfz20_3 hfz20_4 hfz20_5
     try clear hfz21_0 hfz21_1 hfz21_2 hfz21_3 hfz21_4 hfz21_5
     try clear hfz22_0 hfz22_1 hfz22_2 hfz22_3 hfz22_4 hfz22_5
     obtain ⟨kq, x78_23, rfl, HA, HJ23, BK220, HB⟩ := hcut
     cases kq with
     | zero => exact absurd HA.out (by simp [impl_CurveOk.j1])
     | succ kj23 =>
      have H := HA.out; clear HA
      simp only [impl_CurveOk.j1] at H
      by_cases c33 : x78_23 = true
      ·
       subst c33
       rw [if_pos rfl] at H; obtain rfl := Option.some.inj H
       go_wp2
       go_ret
       exact ⟨by first | rfl | (simp [errW_none, errW_some] <;> rfl) | (simp [*, errW_none, errW_some] <;> rfl), by repeat (first | (with_reducible first | exact HB.out | apply below_alloc | apply pw_below_drewN | apply below_drew1 | refine below_set ?_ GE220.out) | exact HB.out)⟩
      ·
       replace c33 := Bool.eq_false_iff.mpr c33; subst c33
       rw [if_neg (show ¬ (false = true) by decide)] at H; obtain ⟨⟨t231, t232, t233⟩, A340, H⟩ := pb_ H
       have A34 := Aside0.mk A340; clear A340; obtain ⟨⟨t234, t235, t236⟩, A350, H⟩ := pb_ H
       have A35 := Aside0.mk A350; clear A350; obtain rfl := Option.some.inj H
       try go_wp2
       replace BK220 := Aside0.mk (blk_drew BK220.out); replace HB := Aside0.mk (below_drew1 HB.out); refine start_ (n := 8) (S := fun w' => w'.cell? ⟨gb220, 0, none⟩ = some (.int .i64 a0_0) ∧ w'.cell? ⟨gb220, 1, none⟩ = some (.int .i64 a0_1) ∧ w'.cell? ⟨gb220, 2, none⟩ = some (.int .i64 a0_2) ∧ w'.cell? ⟨gb220, 3, none⟩ = some (.int .i64 a0_3) ∧ w'.cell? ⟨gb220, 4, none⟩ = some (.int .i64 a0_4) ∧ w'.cell? ⟨gb220, 5, none⟩ = some (.int .i64 a0_5)) (ds := []) (bl_ 8 0) (by kernel_rfl) rfl rfl ⟨bc_ BK220 0, bc_ BK220 1, bc_ BK220 2, bc_ BK220 3, bc_ BK220 4, bc_ BK220 5⟩ (fun hHeld => ?_); refine with_tabW impl_CurveOk.tab5 impl_CurveOk.bits5 (fun HT_ HW_ => ?_)
       generalize wc.drew = w36 at BK220 HB hHeld ⊢
       refine pu_ 1 80 (bl_ 8 2) rfl rfl HT_ ?_; refine tk_ 0 79 (bl_ 8 3) rfl rfl HT_ HW_ hHeld (by rintro w' ⟨s0, s1, s2, s3, s4, s5⟩; go_simp; with_reducible rfl) ?_; refine tk_ 2 81 (bl_ 8 7) rfl rfl HT_ HW_ hHeld (by rintro w' ⟨s0, s1, s2, s3, s4, s5⟩; go_simp; with_reducible rfl) ?_; refine tk_ 3 82 (bl_ 8 15) rfl rfl HT_ HW_ hHeld (by rintro w' ⟨s0, s1, s2, s3, s4, s5⟩; go_simp; with_reducible rfl) ?_; refine one_ (i := 4) (N := some 83) (bl_ 8 31) rfl rfl (one_of HT_.out (by kernel_rfl)) (by decide) (fun K hK => ?_); refine gs_ Try.func45 #[.agg #[.int .i64 a0_0, .int .i64 a0_1, .int .i64 a0_2, .int .i64 a0_3, .int .i64 a0_4, .int .i64 a0_5]] ?_
       with_reducible refine (impl_Curve_base.calls a0_0 a0_1 a0_2 a0_3 a0_4 a0_5 t231 t232 t233 _ A34.out).mono ?_
       rintro e w37 ⟨rfl, hb⟩; refine ⟨_, rfl, ?_⟩; replace BK220 := bb_ BK220 hb; replace HB := bs_ HB hb; (try clear hb); refine hK.out _ _ ⟨bc_ BK220 0, bc_ BK220 1, bc_ BK220 2, bc_ BK220 3, bc_ BK220 4, bc_ BK220 5⟩ (fun hHeld => ?_); clear hK K
       apply norm_
       · show Act.put _ (some 83) _ = _; simp only [Act.put, sA_, sZ_, sS_, i64_w, i32_w]; rfl
       refine one_ (i := 5) (N := some 84) (bl_ 8 63) rfl rfl (one_of HT_.out (by kernel_rfl)) (by decide) (fun K hK => ?_); refine gs_ Try.func46 #[.agg #[.int .i64 a0_0, .int .i64 a0_1, .int .i64 a0_2, .int .i64 a0_3, .int .i64 a0_4, .int .i64 a0_5], .int .i64 a0_3, .agg #[.int .i64 t231, .int .i64 t232, .bool t233]] ?_
       with_reducible refine (impl_Curve_times.calls kj23 a0_0 a0_1 a0_2 a0_3 a0_4 a0_5 a0_3 t231 t232 t233 t234 t235 t236 _ A35.out).mono ?_
       rintro e w38 ⟨rfl, hb⟩; refine ⟨_, rfl, ?_⟩; replace BK220 := bb_ BK220 hb; replace HB := bs_ HB hb; (try clear hb); refine hK.out _ _ ⟨bc_ BK220 0, bc_ BK220 1, bc_ BK220 2, bc_ BK220 3, bc_ BK220 4, bc_ BK220 5⟩ (fun hHeld => ?_); clear hK K
       apply norm_
       · show Act.put _ (some 84) _ = _; simp only [Act.put, sA_, sZ_, sS_, i64_w, i32_w]; rfl
       refine pu_ 6 85 (bl_ 8 127) rfl rfl HT_ ?_; refine pu_ 7 2 (bl_ 8 255) rfl rfl HT_ ?_; refine done_ (done_of HT_.out (by kernel_rfl)) ?_
       try go_wp2
       go_ret
       exact ⟨by first | rfl | (simp [errW_none, errW_some] <;> rfl) | (simp [*, errW_none, errW_some] <;> rfl), by repeat (first | (with_reducible first | exact HB.out | apply below_alloc | apply pw_below_drewN | apply below_drew1 | refine below_set ?_ GE220.out) | exact HB.out)⟩

attribute [local go_sem] fld_
/-! ### impl_three: function 56 -/
def impl_three.f (a0 : Int) : Option (List Int) := some (([(a0 / 65536) % 256, (a0 / 256) % 256, (a0) % 256] : List Int))
set_option maxHeartbeats 8000000 in
set_option maxRecDepth 100000 in
theorem impl_three.calls (a0 : Int) (r : List Int) (w : World) (h : impl_three.f a0 = some r) :
    Calls Try.prog 56 #[.int .i64 a0] w fun e w' => ∃ v0_ : Value, e = .returned (v0_) ∧ Kd.R (Kd.int .u8) 5 w' w.heap.size (fun _ => True) v0_ r ∧ Below w.heap.size w w' := by
  have HB := Aside0.mk (Below.refl w.heap.size w)
  have H : (some (([(a0 / 65536) % 256, (a0 / 256) % 256, (a0) % 256] : List Int))) = some r := h
  clear h
  obtain ⟨y237, hy237⟩ : ∃ y_ : List Int, y_ = (([(a0 / 65536) % 256, (a0 / 256) % 256, (a0) % 256] : List Int)) := ⟨_, rfl⟩
  replace H : (some y237) = some r := by first | (rw [hy237]; with_reducible exact H) | (have H2_ := (Option.bind_some _ _).symm.trans H; rw [hy237]; with_reducible exact H2_) | (have H2_ := (Option.bind_some _ _).symm.trans H; with_reducible exact H2_) | with_reducible exact H | (rw [hy237]; exact H) | exact H
  have Ny237 := Aside0.mk hy237
  clear hy237
  obtain rfl := Option.some.inj H
  go_enter Try.func56, Try.ntmps56
  go_wp2_with (first | ((with_reducible refine gate_dst (N := 11) rfl ?_); refine Kd.R_lit (Kd.int .u8) _ 5 ?hg (N := 11) ?hd (xs := ([(a0 / 65536) % 256, (a0 / 256) % 256, (a0) % 256] : List Int)) (inner := [.int .u8 ((a0 / 65536) % 256), .int .u8 ((a0 / 256) % 256), .int .u8 ((a0) % 256)]) (ok := fun _ => True) (okp := fun _ => True) ?hr ?hp (fun _ hk => hk) trivial (Below.refl _ _) (Nat.le_refl _) (by simp) ?_; (case hd => rfl); (case hg => rfl); (case hr => first | (go_simp; done) | (go_simp; rfl)); (case hp => exact (Reps.one (show Kd.M (Kd.int .u8) _ _ _ ((a0 / 65536) % 256) [.int .u8 ((a0 / 65536) % 256)] from rfl) (Reps.one (show Kd.M (Kd.int .u8) _ _ _ ((a0 / 256) % 256) [.int .u8 ((a0 / 256) % 256)] from rfl) (Reps.one (show Kd.M (Kd.int .u8) _ _ _ ((a0) % 256) [.int .u8 ((a0) % 256)] from rfl) (Reps.none _ _))))); intro v238 w2 ho3 hb hg_ hnew_; clear hg_ hnew_; (first | rw [← Ny237.out] at ho3 | (simp only [Int.reduceToNat] at ho3; rw [← Ny237.out] at ho3)); have n0_ := Aside0.mk (Kd.R_lower ho3 (below_size (by repeat (first | (with_reducible first | exact HB.out | apply below_alloc | apply pw_below_drewN | apply below_drew1) | exact HB.out)))); have n1_ := Aside0.mk (below_step (by repeat (first | (with_reducible first | exact HB.out | apply below_alloc | apply pw_below_drewN | apply below_drew1) | exact HB.out)) hb); clear HB; have HO239 := n0_; have HB := n1_; clear n0_ n1_; clear hb ho3))
  go_ret
  exact ⟨_, by first | rfl | (simp [errW_none, errW_some] <;> rfl) | (simp [*, errW_none, errW_some] <;> rfl), by (with_reducible repeat (first | apply Kd.R_alloc | apply Kd.R_drewN | apply Kd.R_drew)); exact HO239.out, by repeat (first | (with_reducible first | exact HB.out | apply below_alloc | apply pw_below_drewN | apply below_drew1) | exact HB.out)⟩

attribute [local go_sem] fld_
/-! ### impl_pointBytes: function 35 -/
def impl_pointBytes.f (a0_0 : Int) (a0_1 : Int) (a0_2 : Bool) (a1 : Bool) : Option (List Int) := if a0_2 = true then (some (([0] : List Int))) else (if a1 = true then ((some (([(wrap64 (2 + (Int.tmod a0_1 2))) % 256] : List Int) : List Int)).bind fun y244 => ((impl_three.f a0_0).bind fun t247 => (if y244.length + t247.length < 140737488355328 then (some (y244 ++ t247)) else (none)))) else ((some (([4] : List Int) : List Int)).bind fun y253 => ((impl_three.f a0_0).bind fun t256 => (if y253.length + t256.length < 140737488355328 then ((some (y253 ++ t256 : List Int)).bind fun y259 => ((impl_three.f a0_1).bind fun t262 => (if y259.length + t262.length < 140737488355328 then (some (y259 ++ t262)) else (none)))) else (none)))))
def impl_pointBytes.T4 : Bool × List (List Nat × List Nat) := (true, [([], []), ([0], [0]), ([1], [1]), ([2], [2]), ([3], [3]), ([4], [4]), ([], []), ([6], [6]), ([7], [7]), ([5, 8, 8], [5, 8]), ([9, 9, 0, 1, 2, 3, 4, 5, 6, 7, 8, 9], [9])])
def impl_pointBytes.B4 : List Nat := [0, 1, 3, 7, 15, 31, 0, 64, 192, 511, 1023]
theorem impl_pointBytes.tab4 : rtab .any (opsOf Try.f35 4) = impl_pointBytes.T4 := by kernel_rfl
theorem impl_pointBytes.bits4 : waitsOk impl_pointBytes.T4.2 impl_pointBytes.B4 = true := by kernel_rfl
def impl_pointBytes.T5 : Bool × List (List Nat × List Nat) := (true, [([], []), ([], []), ([1], [1]), ([2], [2]), ([0, 3, 3], [0, 3]), ([], []), ([5], [5]), ([6, 4], [6]), ([4, 7, 7], [4, 7]), ([8, 8, 0, 1, 2, 3, 4, 5, 6, 7, 8], [8])])
def impl_pointBytes.B5 : List Nat := [0, 0, 2, 6, 15, 0, 32, 127, 255, 511]
theorem impl_pointBytes.tab5 : rtab .any (opsOf Try.f35 5) = impl_pointBytes.T5 := by kernel_rfl
theorem impl_pointBytes.bits5 : waitsOk impl_pointBytes.T5.2 impl_pointBytes.B5 = true := by kernel_rfl
set_option maxHeartbeats 8000000 in
set_option maxRecDepth 100000 in
theorem impl_pointBytes.calls (a0_0 : Int) (a0_1 : Int) (a0_2 : Bool) (a1 : Bool) (r : List Int) (w : World) (h : impl_pointBytes.f a0_0 a0_1 a0_2 a1 = some r) :
  Calls Try.prog 35 #[.agg #[.int .i64 a0_0, .int .i64 a0_1, .bool a0_2], .bool a1] w fun e w' => ∃ v0_ : Value, e = .returned (v0_) ∧ Kd.R (Kd.int .u8) 5 w' w.heap.size (fun _ => True) v0_ r ∧ Below w.heap.size w w' := by
 have hu26 := Try.underlying26; have HB := Aside0.mk (Below.refl w.heap.size w)
 have H : (if a0_2 = true then (some (([0] : List Int))) else (if a1 = true then ((some (([(wrap64 (2 + (Int.tmod a0_1 2))) % 256] : List Int) : List Int)).bind fun y244 => ((impl_three.f a0_0).bind fun t247 => (if y244.length + t247.length < 140737488355328 then (some (y244 ++ t247)) else (none)))) else ((some (([4] : List Int) : List Int)).bind fun y253 => ((impl_three.f a0_0).bind fun t256 => (if y253.length + t256.length < 140737488355328 then ((some (y253 ++ t256 : List Int)).bind fun y259 => ((impl_three.f a0_1).bind fun t262 => (if y259.length + t262.length < 140737488355328 then (some (y259 ++ t262)) else (none)))) else (none)))))) = some r := h
 clear h
 by_cases c3 : a0_2 = true
 ·
  subst c3
  rw [if_pos rfl] at H; obtain ⟨y241, hy241⟩ : ∃ y_ : List Int, y_ = (([0] : List Int)) := ⟨_, rfl⟩
  replace H : (some y241) = some r := by first | (rw [hy241]; with_reducible exact H) | (have H2_ := (Option.bind_some _ _).symm.trans H; rw [hy241]; with_reducible exact H2_) | (have H2_ := (Option.bind_some _ _).symm.trans H; with_reducible exact H2_) | with_reducible exact H | (rw [hy241]; exact H) | exact H
  have Ny241 := Aside0.mk hy241; clear hy241; obtain rfl := Option.some.inj H
  go_enter Try.func35, Try.ntmps35
  go_wp2_with (first | ((with_reducible refine gate_dst (N := 2) rfl ?_); refine box_event ?hg (N := 2) ?hd (cs := #[.int .i64 a0_0, .int .i64 a0_1, .bool true]) (t := 26) ?hr ?_; (case hd => rfl); (case hg => rfl); (case hr => first | (go_simp; done) | (go_simp; rfl)); intro gb240 hg w4 hbox hb; have BK240 := Aside0.mk hbox; have GW240 := ge_ HB hg; have GE240 := ge_ HB hg; replace HB := bs_ HB hb; clear hb hbox hg; have hcz5_0 : w4.cell? ⟨gb240, 0, none⟩ = some (.int .i64 a0_0) := bc_ BK240 0; have hcz5_1 : w4.cell? ⟨gb240, 1, none⟩ = some (.int .i64 a0_1) := bc_ BK240 1; have hcz5_2 : w4.cell? ⟨gb240, 2, none⟩ = some (.bool true) := bc_ BK240 2; have hfz5_0 := blk_frozen BK240.out 0; have hfz5_1 := blk_frozen BK240.out 1; have hfz5_2 := blk_frozen BK240.out 2) | ((with_reducible refine gate_dst (N := 8) rfl ?_); refine Kd.R_lit (Kd.int .u8) _ 5 ?hg (N := 8) ?hd (xs := ([0] : List Int)) (inner := [.int .u8 0]) (ok := fun _ => True) (okp := fun _ => True) ?hr ?hp (fun _ hk => hk) trivial (Below.refl _ _) (Nat.le_refl _) (by simp) ?_; (case hd => rfl); (case hg => rfl); (case hr => first | (go_simp; done) | (go_simp; rfl)); (case hp => exact (Reps.one (show Kd.M (Kd.int .u8) _ _ _ 0 [.int .u8 0] from rfl) (Reps.none _ _))); intro v242 w6 ho7 hb hg_ hnew_; clear hg_ hnew_; (first | rw [← Ny241.out] at ho7 | (simp only [Int.reduceToNat] at ho7; rw [← Ny241.out] at ho7)); have HO243 := Aside0.mk (Kd.R_lower ho7 (below_size (bw_ HB))); replace BK240 := bb_ BK240 hb; replace HB := bs_ HB hb; clear hb ho7))
  go_ret
  exact ⟨_, by first | rfl | (simp [errW_none, errW_some] <;> rfl) | (simp [*, errW_none, errW_some] <;> rfl), by (with_reducible repeat (first | apply Kd.R_alloc | apply Kd.R_drewN | apply Kd.R_drew)); exact HO243.out, by repeat (first | (with_reducible first | exact HB.out | apply below_alloc | apply pw_below_drewN | apply below_drew1 | refine below_set ?_ GE240.out) | exact HB.out)⟩
 ·
  replace c3 := Bool.eq_false_iff.mpr c3; subst c3
  rw [if_neg (show ¬ (false = true) by decide)] at H
  by_cases c8 : a1 = true
  ·
   subst c8
   rw [if_pos rfl] at H; obtain ⟨y244, hy244⟩ : ∃ y_ : List Int, y_ = (([(wrap64 (2 + (Int.tmod a0_1 2))) % 256] : List Int)) := ⟨_, rfl⟩
   replace H : ((impl_three.f a0_0).bind fun t247 => (if y244.length + t247.length < 140737488355328 then (some (y244 ++ t247)) else (none))) = some r := by first | (rw [hy244]; with_reducible exact H) | (have H2_ := (Option.bind_some _ _).symm.trans H; rw [hy244]; with_reducible exact H2_) | (have H2_ := (Option.bind_some _ _).symm.trans H; with_reducible exact H2_) | with_reducible exact H | (rw [hy244]; exact H) | exact H
   have Ny244 := Aside0.mk hy244; clear hy244; obtain ⟨t247, A90, H⟩ := pb_ H
   have A9 := Aside0.mk A90; clear A90
   by_cases c10 : y244.length + t247.length < 140737488355328
   ·
    rw [if_pos c10] at H; have LMc10 := Aside0.mk c10; clear c10; obtain ⟨y250, hy250⟩ : ∃ y_ : List Int, y_ = (y244 ++ t247) := ⟨_, rfl⟩
    replace H : (some y250) = some r := by first | (rw [hy250]; with_reducible exact H) | (have H2_ := (Option.bind_some _ _).symm.trans H; rw [hy250]; with_reducible exact H2_) | (have H2_ := (Option.bind_some _ _).symm.trans H; with_reducible exact H2_) | with_reducible exact H | (rw [hy250]; exact H) | exact H
    have Ny250 := Aside0.mk hy250; clear hy250; obtain rfl := Option.some.inj H
    go_enter Try.func35, Try.ntmps35
    try go_wp2_with (first | ((with_reducible refine gate_dst (N := 2) rfl ?_); refine box_event ?hg (N := 2) ?hd (cs := #[.int .i64 a0_0, .int .i64 a0_1, .bool false]) (t := 26) ?hr ?_; (case hd => rfl); (case hg => rfl); (case hr => first | (go_simp; done) | (go_simp; rfl)); intro gb240 hg w11 hbox hb; have BK240 := Aside0.mk hbox; have GW240 := ge_ HB hg; have GE240 := ge_ HB hg; replace HB := bs_ HB hb; clear hb hbox hg; obtain ⟨hcz12_0, hcz12_1, hcz12_2, hfz12_0, hfz12_1, hfz12_2⟩ := bx3_ BK240))
    replace BK240 := Aside0.mk (blk_drew BK240.out); replace HB := Aside0.mk (below_drew1 HB.out); refine start_ (n := 11) (S := fun w' => w'.cell? ⟨gb240, 0, none⟩ = some (.int .i64 a0_0) ∧ w'.cell? ⟨gb240, 1, none⟩ = some (.int .i64 a0_1) ∧ w'.cell? ⟨gb240, 2, none⟩ = some (.bool false)) (ds := []) (bl_ 11 0) (by kernel_rfl) rfl rfl ⟨bc_ BK240 0, bc_ BK240 1, bc_ BK240 2⟩ (fun hHeld => ?_); refine with_tabW impl_pointBytes.tab4 impl_pointBytes.bits4 (fun HT_ HW_ => ?_)
    generalize w11.drew = w13 at BK240 HB hHeld ⊢
    refine pu_ 0 11 (bl_ 11 1) rfl rfl HT_ ?_; refine pu_ 6 17 (bl_ 11 65) rfl rfl HT_ ?_; refine tk_ 1 12 (bl_ 11 67) rfl rfl HT_ HW_ hHeld (by rintro w' ⟨s0, s1, s2⟩; go_simp; with_reducible rfl) ?_; refine pu_ 2 13 (bl_ 11 71) rfl rfl HT_ ?_; refine pu_ 3 14 (bl_ 11 79) rfl rfl HT_ ?_; refine pu_ 4 15 (bl_ 11 95) rfl rfl HT_ ?_; refine tk_ 7 18 (bl_ 11 223) rfl rfl HT_ HW_ hHeld (by rintro w' ⟨s0, s1, s2⟩; go_simp; with_reducible rfl) ?_; refine join_ (σ := Value × Value) 2 (bl_ 11 511) (fun s_ => [(16, s_.1), (19, s_.2)]) (fun s_ w' => (w'.cell? ⟨gb240, 0, none⟩ = some (.int .i64 a0_0) ∧ w'.cell? ⟨gb240, 1, none⟩ = some (.int .i64 a0_1) ∧ w'.cell? ⟨gb240, 2, none⟩ = some (.bool false)) ∧ (Kd.R (Kd.int .u8) 5 w' w.heap.size (fun k_ => some k_ ≠ (s_.2 : Value).ownBlock) s_.1 y244) ∧ (Kd.R (Kd.int .u8) 5 w' w.heap.size (fun k_ => some k_ ≠ (s_.1 : Value).ownBlock) s_.2 t247) ∧ (w'.heap[gb240]? = some (.cells #[.int .i64 a0_0, .int .i64 a0_1, .bool false] 26 (0, 0))) ∧ (Below w.heap.size w w')) ?_ ?_; rotate_left
    ·
     intro hCont; refine two_ (i := 5) (j := 8) (Ni := some 16) (Nj := some 19) (bl_ 11 255) (bl_ 11 479) rfl rfl rfl rfl (two_of HT_.out (by kernel_rfl)) (by decide) (by decide) (fun K hK => ?_) (fun K hK => ?_)
     ·
      refine Kd.R_lit_step (Kd.int .u8) _ 5 ?hg (N := 16) ?hd (xs := ([(wrap64 (2 + (Int.tmod a0_1 2))) % 256] : List Int)) (inner := [.int .u8 ((wrap64 (2 + (Int.tmod a0_1 2))) % 256)]) (ok := fun _ => True) (okp := fun _ => True) ?hr ?hp (fun _ hk => hk) trivial (Below.refl _ _) (Nat.le_refl _) (by simp) ?_; (case hd => rfl); (case hg => rfl); (case hr => first | (go_simp; done) | (go_simp; rfl)); (case hp => exact (Reps.one (show Kd.M (Kd.int .u8) _ _ _ ((wrap64 (2 + (Int.tmod a0_1 2))) % 256) [.int .u8 ((wrap64 (2 + (Int.tmod a0_1 2))) % 256)] from rfl) (Reps.none _ _)))
      intro v245 w14 ho15 hb hg_ hnew_; clear hg_ hnew_
      (first | rw [← Ny244.out] at ho15 | (simp only [Int.reduceToNat] at ho15; rw [← Ny244.out] at ho15))
      have HO246 := Aside0.mk (Kd.R_lower ho15 (below_size (bw_ HB))); replace BK240 := bb_ BK240 hb; replace HB := bs_ HB hb; clear hb ho15; refine hK.out _ _ ⟨bc_ BK240 0, bc_ BK240 1, bc_ BK240 2⟩ (fun hHeld => ?_); clear hK K
      apply norm_
      · show Act.put _ (some 16) _ = _; simp only [Act.put, sA_, sZ_, sS_, i64_w, i32_w]; rfl
      refine one_ (i := 8) (N := some 19) (bl_ 11 511) rfl rfl (one_of HT_.out (by kernel_rfl)) (by decide) (fun K hK => ?_); refine gs_ Try.func56 #[.int .i64 a0_0] ?_
      with_reducible refine (impl_three.calls a0_0 t247 _ A9.out).mono ?_
      rintro e w16 ⟨v248, rfl, ho0, hb⟩; refine ⟨_, rfl, ?_⟩; have HO249 := Aside0.mk (Kd.R_lower (Kd.R_new' ho0 (Kd.R_lt (by (with_reducible repeat (first | apply Kd.R_alloc | apply Kd.R_drewN | apply Kd.R_drew)); exact HO246.out))) (below_size (bw_ HB))); replace HO246 := Aside0.mk (Kd.R_elder' (by (with_reducible repeat (first | apply Kd.R_alloc | apply Kd.R_drewN | apply Kd.R_drew)); exact HO246.out) (Kd.R_base ho0) hb); replace BK240 := bb_ BK240 hb; replace HB := bs_ HB hb; (try clear hb); (try clear hk); (try clear ho0); refine hK.out _ _ ⟨bc_ BK240 0, bc_ BK240 1, bc_ BK240 2⟩ (fun hHeld => ?_); clear hK K
      apply norm_
      · show Act.put _ (some 19) _ = _; simp only [Act.put, sA_, sZ_, sS_, i64_w, i32_w]; rfl
      exact norm_ (by simp only [putAll, Act.put, sA_, sZ_, sS_]) (hCont (v245, v248) _ ⟨hHeld, (by (with_reducible repeat (first | apply Kd.R_alloc | apply Kd.R_drewN | apply Kd.R_drew)); exact Kd.R_mono HO246.out (fun _ hk => hk.2)), (by (with_reducible repeat (first | apply Kd.R_alloc | apply Kd.R_drewN | apply Kd.R_drew)); exact Kd.R_mono HO249.out (fun _ hk => hk.2)), (bk_ BK240), (bw_ HB)⟩)
     ·
      refine gs_ Try.func56 #[.int .i64 a0_0] ?_
      with_reducible refine (impl_three.calls a0_0 t247 _ A9.out).mono ?_
      rintro e w14 ⟨v248, rfl, ho0, hb⟩; refine ⟨_, rfl, ?_⟩; have HO249 := Aside0.mk (Kd.R_lower ho0 (below_size (bw_ HB))); replace BK240 := bb_ BK240 hb; replace HB := bs_ HB hb; (try clear hb); (try clear hk); (try clear ho0); refine hK.out _ _ ⟨bc_ BK240 0, bc_ BK240 1, bc_ BK240 2⟩ (fun hHeld => ?_); clear hK K
      apply norm_
      · show Act.put _ (some 19) _ = _; simp only [Act.put, sA_, sZ_, sS_, i64_w, i32_w]; rfl
      refine one_ (i := 5) (N := some 16) (bl_ 11 511) rfl rfl (one_of HT_.out (by kernel_rfl)) (by decide) (fun K hK => ?_); refine Kd.R_lit_step (Kd.int .u8) _ 5 ?hg (N := 16) ?hd (xs := ([(wrap64 (2 + (Int.tmod a0_1 2))) % 256] : List Int)) (inner := [.int .u8 ((wrap64 (2 + (Int.tmod a0_1 2))) % 256)]) (ok := fun _ => True) (okp := fun _ => True) ?hr ?hp (fun _ hk => hk) trivial (Below.refl _ _) (Nat.le_refl _) (by simp) ?_; (case hd => rfl); (case hg => rfl); (case hr => first | (go_simp; done) | (go_simp; rfl)); (case hp => exact (Reps.one (show Kd.M (Kd.int .u8) _ _ _ ((wrap64 (2 + (Int.tmod a0_1 2))) % 256) [.int .u8 ((wrap64 (2 + (Int.tmod a0_1 2))) % 256)] from rfl) (Reps.none _ _)))
      intro v245 w15 ho16 hb hg_ hnew_; clear hg_ hnew_
      (first | rw [← Ny244.out] at ho16 | (simp only [Int.reduceToNat] at ho16; rw [← Ny244.out] at ho16))
      have HO246 := Aside0.mk (Kd.R_lower (Kd.R_new' ho16 (Kd.R_lt (by (with_reducible repeat (first | apply Kd.R_alloc | apply Kd.R_drewN | apply Kd.R_drew)); exact HO249.out))) (below_size (bw_ HB))); replace HO249 := Aside0.mk (Kd.R_elder' (by (with_reducible repeat (first | apply Kd.R_alloc | apply Kd.R_drewN | apply Kd.R_drew)); exact HO249.out) (Kd.R_base ho16) hb); replace BK240 := bb_ BK240 hb; replace HB := bs_ HB hb; clear hb ho16; refine hK.out _ _ ⟨bc_ BK240 0, bc_ BK240 1, bc_ BK240 2⟩ (fun hHeld => ?_); clear hK K
      apply norm_
      · show Act.put _ (some 16) _ = _; simp only [Act.put, sA_, sZ_, sS_, i64_w, i32_w]; rfl
      exact norm_ (by simp only [putAll, Act.put, sA_, sZ_, sS_]) (hCont (v245, v248) _ ⟨hHeld, (by (with_reducible repeat (first | apply Kd.R_alloc | apply Kd.R_drewN | apply Kd.R_drew)); exact Kd.R_mono HO246.out (fun _ hk => hk.2)), (by (with_reducible repeat (first | apply Kd.R_alloc | apply Kd.R_drewN | apply Kd.R_drew)); exact Kd.R_mono HO249.out (fun _ hk => hk.2)), (bk_ BK240), (bw_ HB)⟩)
    rintro ⟨v245, v248⟩ w17 ⟨hS_, h0_, h1_, h2_, h3_⟩; have HO246 := Aside0.mk h0_; have HO249 := Aside0.mk h1_; replace BK240 := Aside0.mk h2_; replace HB := Aside0.mk h3_; clear h0_ h1_ h2_ h3_; have hHeld := hS_; obtain ⟨Ao19, co19, eo19⟩ := Kd.R_slice HO249.out
    (first | subst eo19 | (injection eo19 with f1_ f2_ f3_; have f4_ := f1_.symm; have f5_ := f3_.symm; clear f1_ f2_ f3_; subst f4_; subst f5_))
    apply norm_
    · simp only [putAll, Act.put, sA_, sZ_, sS_]; rfl
    refine one_ (i := 9) (N := some 20) (bl_ 11 1023) rfl rfl (one_of HT_.out (by kernel_rfl)) (by decide) (fun K hK => ?_); refine Kd.R_append_rows_step (Kd.int .u8) (w0 := w) w.heap.size (by rfl) (.tmp 16) (.tmp 19) 34 5 (.int .u8 0) 1 rfl Try.underlying34 info5 rfl (by decide) (by omega) v245 y244 t247 _ _ _ (fun k_ => some k_ ≠ (.slice Ao19 t247.length co19 : Value).ownBlock) (fun _ => False) rfl rfl ?aO ?aR (fun _ _ h => h) (fun _ h => h.elim) ?aF ?aB ?aS ?aL ?_
    (case aR => repeat (first | exact (Kd.R_reads' HO249.out).2.2 | (with_reducible refine Kd.C_alloc ?_ _) | (with_reducible refine Kd.C_drewN ?_ _) | (with_reducible refine Kd.C_drew ?_)))
    (case aB => exact (bw_ HB))
    (case aF => exact (fun k_ hk => Kd.fresh' (Kd.R_lt (by (with_reducible repeat (first | apply Kd.R_alloc | apply Kd.R_drewN | apply Kd.R_drew)); exact HO249.out)) k_ hk))
    (case aO => exact (by (with_reducible repeat (first | apply Kd.R_alloc | apply Kd.R_drewN | apply Kd.R_drew)); exact HO246.out))
    (case aS => exact (below_size (bw_ HB)))
    (case aL => have := LMc10.out; omega)
    intro v251 w18 ho hb hg hat
    rw [← Ny250.out] at ho
    have n0_ := Aside0.mk (blk_grown (g := gb240) (o := .cells #[.int .i64 a0_0, .int .i64 a0_1, .bool false] 26 (0, 0)) (bk_ BK240) hg (Kd.R_ne HO246.out BK240.out (by decide))); have n1_ := Aside0.mk (Kd.R_after (ok := (fun _ => True)) (by (with_reducible repeat (first | apply Kd.R_alloc | apply Kd.R_drewN | apply Kd.R_drew)); exact Kd.R_mono HO249.out (fun _ hk => ⟨trivial, hk⟩)) hg hat); have n2_ := Aside0.mk hb; have n3_ := Aside0.mk ho; clear BK240 HO249 HB HO246; have BK240 := n0_; have HO249 := n1_; have HB := n2_; have HO252 := n3_; clear n0_ n1_ n2_ n3_; clear ho hb hg hat; refine hK.out _ _ ⟨bc_ BK240 0, bc_ BK240 1, bc_ BK240 2⟩ (fun hHeld => ?_); clear hK K
    apply norm_
    · show Act.put _ (some 20) _ = _; simp only [Act.put, sA_, sZ_, sS_, i64_w, i32_w]; rfl
    refine pu_ 10 4 (bl_ 11 2047) rfl rfl HT_ ?_; refine done_ (done_of HT_.out (by kernel_rfl)) ?_
    try go_wp2
    go_ret
    exact ⟨_, by first | rfl | (simp [errW_none, errW_some] <;> rfl) | (simp [*, errW_none, errW_some] <;> rfl), by (with_reducible repeat (first | apply Kd.R_alloc | apply Kd.R_drewN | apply Kd.R_drew)); exact Kd.R_mono HO252.out (fun _ hk => trivial), by repeat (first | (with_reducible first | exact HB.out | apply below_alloc | apply pw_below_drewN | apply below_drew1 | refine below_set ?_ GE240.out) | exact HB.out)⟩
   · rw [if_neg c10] at H; exact absurd H (by simp)
  ·
   replace c8 := Bool.eq_false_iff.mpr c8; subst c8
   rw [if_neg (show ¬ (false = true) by decide)] at H; obtain ⟨y253, hy253⟩ : ∃ y_ : List Int, y_ = (([4] : List Int)) := ⟨_, rfl⟩
   replace H : ((impl_three.f a0_0).bind fun t256 => (if y253.length + t256.length < 140737488355328 then ((some (y253 ++ t256 : List Int)).bind fun y259 => ((impl_three.f a0_1).bind fun t262 => (if y259.length + t262.length < 140737488355328 then (some (y259 ++ t262)) else (none)))) else (none))) = some r := by first | (rw [hy253]; with_reducible exact H) | (have H2_ := (Option.bind_some _ _).symm.trans H; rw [hy253]; with_reducible exact H2_) | (have H2_ := (Option.bind_some _ _).symm.trans H; with_reducible exact H2_) | with_reducible exact H | (rw [hy253]; exact H) | exact H
   have Ny253 := Aside0.mk hy253; clear hy253; obtain ⟨t256, A200, H⟩ := pb_ H
   have A20 := Aside0.mk A200; clear A200
   by_cases c21 : y253.length + t256.length < 140737488355328
   ·
    rw [if_pos c21] at H; have LMc21 := Aside0.mk c21; clear c21; obtain ⟨y259, hy259⟩ : ∃ y_ : List Int, y_ = (y253 ++ t256) := ⟨_, rfl⟩
    replace H : ((impl_three.f a0_1).bind fun t262 => (if y259.length + t262.length < 140737488355328 then (some (y259 ++ t262)) else (none))) = some r := by first | (rw [hy259]; with_reducible exact H) | (have H2_ := (Option.bind_some _ _).symm.trans H; rw [hy259]; with_reducible exact H2_) | (have H2_ := (Option.bind_some _ _).symm.trans H; with_reducible exact H2_) | with_reducible exact H | (rw [hy259]; exact H) | exact H
    have Ny259 := Aside0.mk hy259; clear hy259; obtain ⟨t262, A220, H⟩ := pb_ H
    have A22 := Aside0.mk A220; clear A220
    by_cases c23 : y259.length + t262.length < 140737488355328
    ·
     rw [if_pos c23] at H; have LMc23 := Aside0.mk c23; clear c23; obtain ⟨y265, hy265⟩ : ∃ y_ : List Int, y_ = (y259 ++ t262) := ⟨_, rfl⟩
     replace H : (some y265) = some r := by first | (rw [hy265]; with_reducible exact H) | (have H2_ := (Option.bind_some _ _).symm.trans H; rw [hy265]; with_reducible exact H2_) | (have H2_ := (Option.bind_some _ _).symm.trans H; with_reducible exact H2_) | with_reducible exact H | (rw [hy265]; exact H) | exact H
     have Ny265 := Aside0.mk hy265; clear hy265; obtain rfl := Option.some.inj H
     go_enter Try.func35, Try.ntmps35
     try go_wp2_with (first | ((with_reducible refine gate_dst (N := 2) rfl ?_); refine box_event ?hg (N := 2) ?hd (cs := #[.int .i64 a0_0, .int .i64 a0_1, .bool false]) (t := 26) ?hr ?_; (case hd => rfl); (case hg => rfl); (case hr => first | (go_simp; done) | (go_simp; rfl)); intro gb240 hg w24 hbox hb; have BK240 := Aside0.mk hbox; have GW240 := ge_ HB hg; have GE240 := ge_ HB hg; replace HB := bs_ HB hb; clear hb hbox hg; obtain ⟨hcz25_0, hcz25_1, hcz25_2, hfz25_0, hfz25_1, hfz25_2⟩ := bx3_ BK240))
     replace BK240 := Aside0.mk (blk_drew BK240.out); replace HB := Aside0.mk (below_drew1 HB.out); refine start_ (n := 10) (S := fun w' => w'.cell? ⟨gb240, 0, none⟩ = some (.int .i64 a0_0) ∧ w'.cell? ⟨gb240, 1, none⟩ = some (.int .i64 a0_1) ∧ w'.cell? ⟨gb240, 2, none⟩ = some (.bool false)) (ds := []) (bl_ 10 0) (by kernel_rfl) rfl rfl ⟨bc_ BK240 0, bc_ BK240 1, bc_ BK240 2⟩ (fun hHeld => ?_); refine with_tabW impl_pointBytes.tab5 impl_pointBytes.bits5 (fun HT_ HW_ => ?_)
     generalize w24.drew = w26 at BK240 HB hHeld ⊢
     refine pu_ 1 22 (bl_ 10 2) rfl rfl HT_ ?_; refine pu_ 5 26 (bl_ 10 34) rfl rfl HT_ ?_; refine tk_ 2 23 (bl_ 10 38) rfl rfl HT_ HW_ hHeld (by rintro w' ⟨s0, s1, s2⟩; go_simp; with_reducible rfl) ?_; refine tk_ 6 27 (bl_ 10 102) rfl rfl HT_ HW_ hHeld (by rintro w' ⟨s0, s1, s2⟩; go_simp; with_reducible rfl) ?_; refine join_ (σ := Value × Value) 4 (bl_ 10 111) (fun s_ => [(21, s_.1), (24, s_.2)]) (fun s_ w' => (w'.cell? ⟨gb240, 0, none⟩ = some (.int .i64 a0_0) ∧ w'.cell? ⟨gb240, 1, none⟩ = some (.int .i64 a0_1) ∧ w'.cell? ⟨gb240, 2, none⟩ = some (.bool false)) ∧ (Kd.R (Kd.int .u8) 5 w' w.heap.size (fun k_ => some k_ ≠ (s_.2 : Value).ownBlock) s_.1 y253) ∧ (Kd.R (Kd.int .u8) 5 w' w.heap.size (fun k_ => some k_ ≠ (s_.1 : Value).ownBlock) s_.2 t256) ∧ (w'.heap[gb240]? = some (.cells #[.int .i64 a0_0, .int .i64 a0_1, .bool false] 26 (0, 0))) ∧ (Below w.heap.size w w')) ?_ ?_; rotate_left
     ·
      intro hCont; refine two_ (i := 0) (j := 3) (Ni := some 21) (Nj := some 24) (bl_ 10 103) (bl_ 10 110) rfl rfl rfl rfl (two_of HT_.out (by kernel_rfl)) (by decide) (by decide) (fun K hK => ?_) (fun K hK => ?_)
      ·
       refine Kd.R_lit_step (Kd.int .u8) _ 5 ?hg (N := 21) ?hd (xs := ([4] : List Int)) (inner := [.int .u8 4]) (ok := fun _ => True) (okp := fun _ => True) ?hr ?hp (fun _ hk => hk) trivial (Below.refl _ _) (Nat.le_refl _) (by simp) ?_; (case hd => rfl); (case hg => rfl); (case hr => first | (go_simp; done) | (go_simp; rfl)); (case hp => exact (Reps.one (show Kd.M (Kd.int .u8) _ _ _ 4 [.int .u8 4] from rfl) (Reps.none _ _)))
       intro v254 w27 ho28 hb hg_ hnew_; clear hg_ hnew_
       (first | rw [← Ny253.out] at ho28 | (simp only [Int.reduceToNat] at ho28; rw [← Ny253.out] at ho28))
       have HO255 := Aside0.mk (Kd.R_lower ho28 (below_size (bw_ HB))); replace BK240 := bb_ BK240 hb; replace HB := bs_ HB hb; clear hb ho28; refine hK.out _ _ ⟨bc_ BK240 0, bc_ BK240 1, bc_ BK240 2⟩ (fun hHeld => ?_); clear hK K
       apply norm_
       · show Act.put _ (some 21) _ = _; simp only [Act.put, sA_, sZ_, sS_, i64_w, i32_w]; rfl
       refine one_ (i := 3) (N := some 24) (bl_ 10 111) rfl rfl (one_of HT_.out (by kernel_rfl)) (by decide) (fun K hK => ?_); refine gs_ Try.func56 #[.int .i64 a0_0] ?_
       with_reducible refine (impl_three.calls a0_0 t256 _ A20.out).mono ?_
       rintro e w29 ⟨v257, rfl, ho0, hb⟩; refine ⟨_, rfl, ?_⟩; have HO258 := Aside0.mk (Kd.R_lower (Kd.R_new' ho0 (Kd.R_lt (by (with_reducible repeat (first | apply Kd.R_alloc | apply Kd.R_drewN | apply Kd.R_drew)); exact HO255.out))) (below_size (bw_ HB))); replace HO255 := Aside0.mk (Kd.R_elder' (by (with_reducible repeat (first | apply Kd.R_alloc | apply Kd.R_drewN | apply Kd.R_drew)); exact HO255.out) (Kd.R_base ho0) hb); replace BK240 := bb_ BK240 hb; replace HB := bs_ HB hb; (try clear hb); (try clear hk); (try clear ho0); refine hK.out _ _ ⟨bc_ BK240 0, bc_ BK240 1, bc_ BK240 2⟩ (fun hHeld => ?_); clear hK K
       apply norm_
       · show Act.put _ (some 24) _ = _; simp only [Act.put, sA_, sZ_, sS_, i64_w, i32_w]; rfl
       exact norm_ (by simp only [putAll, Act.put, sA_, sZ_, sS_]) (hCont (v254, v257) _ ⟨hHeld, (by (with_reducible repeat (first | apply Kd.R_alloc | apply Kd.R_drewN | apply Kd.R_drew)); exact Kd.R_mono HO255.out (fun _ hk => hk.2)), (by (with_reducible repeat (first | apply Kd.R_alloc | apply Kd.R_drewN | apply Kd.R_drew)); exact Kd.R_mono HO258.out (fun _ hk => hk.2)), (bk_ BK240), (bw_ HB)⟩)
      ·
       refine gs_ Try.func56 #[.int .i64 a0_0] ?_
       with_reducible refine (impl_three.calls a0_0 t256 _ A20.out).mono ?_
       rintro e w27 ⟨v257, rfl, ho0, hb⟩; refine ⟨_, rfl, ?_⟩; have HO258 := Aside0.mk (Kd.R_lower ho0 (below_size (bw_ HB))); replace BK240 := bb_ BK240 hb; replace HB := bs_ HB hb; (try clear hb); (try clear hk); (try clear ho0); refine hK.out _ _ ⟨bc_ BK240 0, bc_ BK240 1, bc_ BK240 2⟩ (fun hHeld => ?_); clear hK K
       apply norm_
       · show Act.put _ (some 24) _ = _; simp only [Act.put, sA_, sZ_, sS_, i64_w, i32_w]; rfl
       refine one_ (i := 0) (N := some 21) (bl_ 10 111) rfl rfl (one_of HT_.out (by kernel_rfl)) (by decide) (fun K hK => ?_); refine Kd.R_lit_step (Kd.int .u8) _ 5 ?hg (N := 21) ?hd (xs := ([4] : List Int)) (inner := [.int .u8 4]) (ok := fun _ => True) (okp := fun _ => True) ?hr ?hp (fun _ hk => hk) trivial (Below.refl _ _) (Nat.le_refl _) (by simp) ?_; (case hd => rfl); (case hg => rfl); (case hr => first | (go_simp; done) | (go_simp; rfl)); (case hp => exact (Reps.one (show Kd.M (Kd.int .u8) _ _ _ 4 [.int .u8 4] from rfl) (Reps.none _ _)))
       intro v254 w28 ho29 hb hg_ hnew_; clear hg_ hnew_
       (first | rw [← Ny253.out] at ho29 | (simp only [Int.reduceToNat] at ho29; rw [← Ny253.out] at ho29))
       have HO255 := Aside0.mk (Kd.R_lower (Kd.R_new' ho29 (Kd.R_lt (by (with_reducible repeat (first | apply Kd.R_alloc | apply Kd.R_drewN | apply Kd.R_drew)); exact HO258.out))) (below_size (bw_ HB))); replace HO258 := Aside0.mk (Kd.R_elder' (by (with_reducible repeat (first | apply Kd.R_alloc | apply Kd.R_drewN | apply Kd.R_drew)); exact HO258.out) (Kd.R_base ho29) hb); replace BK240 := bb_ BK240 hb; replace HB := bs_ HB hb; clear hb ho29; refine hK.out _ _ ⟨bc_ BK240 0, bc_ BK240 1, bc_ BK240 2⟩ (fun hHeld => ?_); clear hK K
       apply norm_
       · show Act.put _ (some 21) _ = _; simp only [Act.put, sA_, sZ_, sS_, i64_w, i32_w]; rfl
       exact norm_ (by simp only [putAll, Act.put, sA_, sZ_, sS_]) (hCont (v254, v257) _ ⟨hHeld, (by (with_reducible repeat (first | apply Kd.R_alloc | apply Kd.R_drewN | apply Kd.R_drew)); exact Kd.R_mono HO255.out (fun _ hk => hk.2)), (by (with_reducible repeat (first | apply Kd.R_alloc | apply Kd.R_drewN | apply Kd.R_drew)); exact Kd.R_mono HO258.out (fun _ hk => hk.2)), (bk_ BK240), (bw_ HB)⟩)
     rintro ⟨v254, v257⟩ w30 ⟨hS_, h0_, h1_, h2_, h3_⟩; have HO255 := Aside0.mk h0_; have HO258 := Aside0.mk h1_; replace BK240 := Aside0.mk h2_; replace HB := Aside0.mk h3_; clear h0_ h1_ h2_ h3_; have hHeld := hS_; obtain ⟨Ao32, co32, eo32⟩ := Kd.R_slice HO258.out
     (first | subst eo32 | (injection eo32 with f1_ f2_ f3_; have f4_ := f1_.symm; have f5_ := f3_.symm; clear f1_ f2_ f3_; subst f4_; subst f5_))
     apply norm_
     · simp only [putAll, Act.put, sA_, sZ_, sS_]; rfl
     refine one_ (i := 4) (N := some 25) (bl_ 10 127) rfl rfl (one_of HT_.out (by kernel_rfl)) (by decide) (fun K hK => ?_); refine Kd.R_append_rows_step (Kd.int .u8) (w0 := w) w.heap.size (by rfl) (.tmp 21) (.tmp 24) 34 5 (.int .u8 0) 1 rfl Try.underlying34 info5 rfl (by decide) (by omega) v254 y253 t256 _ _ _ (fun k_ => some k_ ≠ (.slice Ao32 t256.length co32 : Value).ownBlock) (fun _ => False) rfl rfl ?aO ?aR (fun _ _ h => h) (fun _ h => h.elim) ?aF ?aB ?aS ?aL ?_
     (case aR => repeat (first | exact (Kd.R_reads' HO258.out).2.2 | (with_reducible refine Kd.C_alloc ?_ _) | (with_reducible refine Kd.C_drewN ?_ _) | (with_reducible refine Kd.C_drew ?_)))
     (case aB => exact (bw_ HB))
     (case aF => exact (fun k_ hk => Kd.fresh' (Kd.R_lt (by (with_reducible repeat (first | apply Kd.R_alloc | apply Kd.R_drewN | apply Kd.R_drew)); exact HO258.out)) k_ hk))
     (case aO => exact (by (with_reducible repeat (first | apply Kd.R_alloc | apply Kd.R_drewN | apply Kd.R_drew)); exact HO255.out))
     (case aS => exact (below_size (bw_ HB)))
     (case aL => have := LMc21.out; omega)
     intro v260 w31 ho hb hg hat
     rw [← Ny259.out] at ho
     have n0_ := Aside0.mk (blk_grown (g := gb240) (o := .cells #[.int .i64 a0_0, .int .i64 a0_1, .bool false] 26 (0, 0)) (bk_ BK240) hg (Kd.R_ne HO255.out BK240.out (by decide))); have n1_ := Aside0.mk (Kd.R_after (ok := (fun _ => True)) (by (with_reducible repeat (first | apply Kd.R_alloc | apply Kd.R_drewN | apply Kd.R_drew)); exact Kd.R_mono HO258.out (fun _ hk => ⟨trivial, hk⟩)) hg hat); have n2_ := Aside0.mk hb; have n3_ := Aside0.mk ho; clear BK240 HO258 HB HO255; have BK240 := n0_; have HO258 := n1_; have HB := n2_; have HO261 := n3_; clear n0_ n1_ n2_ n3_; clear ho hb hg hat; refine hK.out _ _ ⟨bc_ BK240 0, bc_ BK240 1, bc_ BK240 2⟩ (fun hHeld => ?_); clear hK K
     apply norm_
     · show Act.put _ (some 25) _ = _; simp only [Act.put, sA_, sZ_, sS_, i64_w, i32_w]; rfl
     refine one_ (i := 7) (N := some 28) (bl_ 10 255) rfl rfl (one_of HT_.out (by kernel_rfl)) (by decide) (fun K hK => ?_); refine gs_ Try.func56 #[.int .i64 a0_1] ?_
     with_reducible refine (impl_three.calls a0_1 t262 _ A22.out).mono ?_
     rintro e w33 ⟨v263, rfl, ho0, hb⟩; refine ⟨_, rfl, ?_⟩; have HO264 := Aside0.mk (Kd.R_lower (Kd.R_new' (Kd.R_new' ho0 (Kd.R_lt (by (with_reducible repeat (first | apply Kd.R_alloc | apply Kd.R_drewN | apply Kd.R_drew)); exact HO258.out))) (Kd.R_lt (by (with_reducible repeat (first | apply Kd.R_alloc | apply Kd.R_drewN | apply Kd.R_drew)); exact HO261.out))) (below_size (bw_ HB))); replace HO258 := Aside0.mk (Kd.R_elder' (by (with_reducible repeat (first | apply Kd.R_alloc | apply Kd.R_drewN | apply Kd.R_drew)); exact HO258.out) (Kd.R_base ho0) hb); replace HO261 := Aside0.mk (Kd.R_elder' (by (with_reducible repeat (first | apply Kd.R_alloc | apply Kd.R_drewN | apply Kd.R_drew)); exact HO261.out) (Kd.R_base ho0) hb); replace BK240 := bb_ BK240 hb; replace HB := bs_ HB hb; (try clear hb); (try clear hk); (try clear ho0); obtain ⟨Ao35, co35, eo35⟩ := Kd.R_slice HO264.out
     (first | subst eo35 | (injection eo35 with f1_ f2_ f3_; have f4_ := f1_.symm; have f5_ := f3_.symm; clear f1_ f2_ f3_; subst f4_; subst f5_))
     refine hK.out _ _ ⟨bc_ BK240 0, bc_ BK240 1, bc_ BK240 2⟩ (fun hHeld => ?_); clear hK K
     apply norm_
     · show Act.put _ (some 28) _ = _; simp only [Act.put, sA_, sZ_, sS_, i64_w, i32_w]; rfl
     refine one_ (i := 8) (N := some 29) (bl_ 10 511) rfl rfl (one_of HT_.out (by kernel_rfl)) (by decide) (fun K hK => ?_); refine Kd.R_append_rows_step (Kd.int .u8) (w0 := w) w.heap.size (by rfl) (.tmp 25) (.tmp 28) 34 5 (.int .u8 0) 1 rfl Try.underlying34 info5 rfl (by decide) (by omega) v260 y259 t262 _ _ _ (fun k_ => some k_ ≠ (.slice Ao32 t256.length co32 : Value).ownBlock ∧ some k_ ≠ (.slice Ao35 t262.length co35 : Value).ownBlock) (fun _ => False) rfl rfl ?aO ?aR (fun _ _ h => h) (fun _ h => h.elim) ?aF ?aB ?aS ?aL ?_
     (case aR => repeat (first | exact (Kd.R_reads' HO264.out).2.2 | (with_reducible refine Kd.C_alloc ?_ _) | (with_reducible refine Kd.C_drewN ?_ _) | (with_reducible refine Kd.C_drew ?_)))
     (case aB => exact (bw_ HB))
     (case aF => exact (fun k_ hk => ⟨Kd.fresh' (Kd.R_lt (by (with_reducible repeat (first | apply Kd.R_alloc | apply Kd.R_drewN | apply Kd.R_drew)); exact HO258.out)) k_ hk, Kd.fresh' (Kd.R_lt (by (with_reducible repeat (first | apply Kd.R_alloc | apply Kd.R_drewN | apply Kd.R_drew)); exact HO264.out)) k_ hk⟩))
     (case aO => exact (by (with_reducible repeat (first | apply Kd.R_alloc | apply Kd.R_drewN | apply Kd.R_drew)); exact HO261.out))
     (case aS => exact (below_size (bw_ HB)))
     (case aL => have := LMc23.out; omega)
     intro v266 w34 ho hb hg hat
     rw [← Ny265.out] at ho
     have n0_ := Aside0.mk (blk_grown (g := gb240) (o := .cells #[.int .i64 a0_0, .int .i64 a0_1, .bool false] 26 (0, 0)) (bk_ BK240) hg (Kd.R_ne HO261.out BK240.out (by decide))); have n1_ := Aside0.mk (Kd.R_after (ok := (fun k_ => some k_ ≠ (.slice Ao35 t262.length co35 : Value).ownBlock)) (by (with_reducible repeat (first | apply Kd.R_alloc | apply Kd.R_drewN | apply Kd.R_drew)); exact Kd.R_mono HO258.out (fun _ hk => ⟨hk.2, hk.1.2⟩)) hg hat); have n2_ := Aside0.mk (Kd.R_after (ok := (fun k_ => some k_ ≠ (.slice Ao32 t256.length co32 : Value).ownBlock)) (by (with_reducible repeat (first | apply Kd.R_alloc | apply Kd.R_drewN | apply Kd.R_drew)); exact Kd.R_mono HO264.out (fun _ hk => ⟨hk.1.2, hk.2⟩)) hg hat); have n3_ := Aside0.mk hb; have n4_ := Aside0.mk ho; clear BK240 HO258 HO264 HB HO261; have BK240 := n0_; have HO258 := n1_; have HO264 := n2_; have HB := n3_; have HO267 := n4_; clear n0_ n1_ n2_ n3_ n4_; clear ho hb hg hat; refine hK.out _ _ ⟨bc_ BK240 0, bc_ BK240 1, bc_ BK240 2⟩ (fun hHeld => ?_); clear hK K
     apply norm_
     · show Act.put _ (some 29) _ = _; simp only [Act.put, sA_, sZ_, sS_, i64_w, i32_w]; rfl
     refine pu_ 9 4 (bl_ 10 1023) rfl rfl HT_ ?_; refine done_ (done_of HT_.out (by kernel_rfl)) ?_
     try go_wp2
     go_ret
     exact ⟨_, by first | rfl | (simp [errW_none, errW_some] <;> rfl) | (simp [*, errW_none, errW_some] <;> rfl), by (with_reducible repeat (first | apply Kd.R_alloc | apply Kd.R_drewN | apply Kd.R_drew)); exact Kd.R_mono HO267.out (fun _ hk => trivial), by repeat (first | (with_reducible first | exact HB.out | apply below_alloc | apply pw_below_drewN | apply below_drew1 | refine below_set ?_ GE240.out) | exact HB.out)⟩
    · rw [if_neg c23] at H; exact absurd H (by simp)
   · rw [if_neg c21] at H; exact absurd H (by simp)

attribute [local go_sem] fld_
/-! ### impl_ofThree: function 60 -/
def impl_ofThree.f (l0 : List Int) : Option (Int) := if 0 < (l0.length : Int) then (if 1 < (l0.length : Int) then (if 2 < (l0.length : Int) then (some (Go.bits .or .i64 (Go.bits .or .i64 (wrap64 ((wrap64 (rd l0 0)) * 65536)) (wrap64 ((wrap64 (rd l0 1)) * 256))) (wrap64 (rd l0 2)))) else (none)) else (none)) else (none)
set_option maxHeartbeats 8000000 in
set_option maxRecDepth 100000 in
theorem impl_ofThree.calls (A0 : Option Addr) (c0 : Nat) (l0 : List Int) (r : Int) (w : World) (hr0 : Kd.C (Kd.int .u8) w A0 l0.length l0) (hc0 : l0.length ≤ c0) (h : impl_ofThree.f l0 = some r) :
    Calls Try.prog 60 #[.slice A0 l0.length c0] w fun e w' => e = .returned (.int .i64 r) ∧ Drawn0 w w' := by
  have HR0 := Aside0.mk hr0
  have HC0 := Aside0.mk hc0
  clear hr0 hc0
  have H : (if 0 < (l0.length : Int) then (if 1 < (l0.length : Int) then (if 2 < (l0.length : Int) then (some (Go.bits .or .i64 (Go.bits .or .i64 (wrap64 ((wrap64 (rd l0 0)) * 65536)) (wrap64 ((wrap64 (rd l0 1)) * 256))) (wrap64 (rd l0 2)))) else (none)) else (none)) else (none)) = some r := h
  clear h
  by_cases c2 : 0 < (l0.length : Int)
  · rw [if_pos c2] at H
    have c2b0 : decide (0 < (l0.length : Int)) = true := decide_eq_true c2
    have c2b1 : decide (0 < l0.length) = true := decide_eq_true (by omega)
    clear c2
    by_cases c3 : 1 < (l0.length : Int)
    · rw [if_pos c3] at H
      have c3b0 : decide (1 < (l0.length : Int)) = true := decide_eq_true c3
      have c3b1 : decide (1 < l0.length) = true := decide_eq_true (by omega)
      clear c3
      by_cases c4 : 2 < (l0.length : Int)
      · rw [if_pos c4] at H
        have c4b0 : decide (2 < (l0.length : Int)) = true := decide_eq_true c4
        have c4b1 : decide (2 < l0.length) = true := decide_eq_true (by omega)
        clear c4
        obtain rfl := Option.some.inj H
        have p268 : 0 ≤ (0 : Int) := (by omega)
        have q268 : 0 < (l0.length : Int) := of_decide_eq_true (by first | (with_reducible assumption) | assumption)
        obtain ⟨ad268, e268, hx268_0⟩ := Kd.at_int HR0.out 0 p268 q268
        cases e268
        have qi268 : (0 < l0.length) = True := eq_true (by omega)
        (try rw [show ((0 : Int)).toNat = 0 from rfl] at hx268_0)
        (try rw [Addr.add_zero'] at hx268_0)
        replace p268 := eq_true p268
        replace q268 := eq_true q268
        have p269 : 0 ≤ (1 : Int) := (by omega)
        have q269 : 1 < (l0.length : Int) := of_decide_eq_true (by first | (with_reducible assumption) | assumption)
        obtain ⟨ad269, e269, hx269_0⟩ := Kd.at_int HR0.out 1 p269 q269
        obtain rfl : ad268 = ad269 := (by injection e269)
        (try simp only [show (1 : Int).toNat = 1 from rfl, Nat.reduceMul, Nat.reduceEqDiff, Go.Addr.add, ↓reduceIte] at hx269_0)
        have qi269 : (1 < l0.length) = True := eq_true (by omega)
        (try rw [show ((1 : Int)).toNat = 1 from rfl] at hx269_0)
        replace p269 := eq_true p269
        replace q269 := eq_true q269
        have p270 : 0 ≤ (2 : Int) := (by omega)
        have q270 : 2 < (l0.length : Int) := of_decide_eq_true (by first | (with_reducible assumption) | assumption)
        obtain ⟨ad270, e270, hx270_0⟩ := Kd.at_int HR0.out 2 p270 q270
        obtain rfl : ad268 = ad270 := (by injection e270)
        (try simp only [show (2 : Int).toNat = 2 from rfl, Nat.reduceMul, Nat.reduceEqDiff, Go.Addr.add, ↓reduceIte] at hx270_0)
        have qi270 : (2 < l0.length) = True := eq_true (by omega)
        (try rw [show ((2 : Int)).toNat = 2 from rfl] at hx270_0)
        replace p270 := eq_true p270
        replace q270 := eq_true q270
        go_enter Try.func60, Try.ntmps60
        go_wp2
        repeat (go_quiet (fail); try go_wp2)
        go_ret
        exact ⟨by first | rfl | (simp; done) | (simp [*]; done), by repeat (first | exact Drawn0.refl _ | apply Drawn0.step)⟩
      · rw [if_neg c4] at H
        exact absurd H (by simp)
    · rw [if_neg c3] at H
      exact absurd H (by simp)
  · rw [if_neg c2] at H
    exact absurd H (by simp)

attribute [local go_sem] fld_
/-! ### impl_powInt: function 66 -/
def impl_powInt.l0 : Nat → Int → Int → Int → Int → Int → Option (Int)
  | 0, _, _, _, _, _ => none
  | k + 1, x0, x1, x2, x7, x8 => if x8 ≥ 0 then (if x2 = 0 then (none) else (if 0 ≤ x8 then (if (Go.bits .and .i64 (shr .i64 x1 x8) 1) = 1 then (impl_powInt.l0 k x0 x1 x2 (Int.tmod (wrap64 ((Int.tmod (wrap64 (x7 * x7)) x2) * x0)) x2) (wrap64 (x8 - 1))) else (impl_powInt.l0 k x0 x1 x2 (Int.tmod (wrap64 (x7 * x7)) x2) (wrap64 (x8 - 1)))) else (none))) else (some x7)
def impl_powInt.f (k : Nat) (a0 : Int) (a1 : Int) (a2 : Int) : Option (Int) := if a2 = 0 then (none) else ((bits_Len.f k (IntKind.u64.wrap (a1))).bind fun t271 => (impl_powInt.l0 k (Int.tmod a0 a2) a1 a2 ((1 : Int) % a2) (wrap64 (t271 - 1))))
theorem impl_powInt.mono_l : ∀ k, (∀ y0 y1 y2 y3 y4, LeO (impl_powInt.l0 k y0 y1 y2 y3 y4) (impl_powInt.l0 (k + 1) y0 y1 y2 y3 y4))
  | 0 => fun _ _ _ _ _ r h => by simp [impl_powInt.l0] at h
  | k + 1 => by
    have ih0 := impl_powInt.mono_l k
    · intro y0 y1 y2 y3 y4
      unfold impl_powInt.l0
      repeat' first
      | (with_reducible exact ih0 _ _ _ _ _)
      | (with_reducible exact bits_Len.mono _ _)
      | (with_reducible exact LeO.refl _)
      | (with_reducible exact LeO.none _)
      | (with_reducible refine LeO.ite ?_ ?_)
      | (with_reducible refine LeO.bind ?_ (fun _ => ?_))
      | exact ih0 _ _ _ _ _
      | exact bits_Len.mono _ _
      | exact LeO.none _
      | refine LeO.ite ?_ ?_
      | refine LeO.bind ?_ (fun _ => ?_)
theorem impl_powInt.mono : ∀ a0 a1 a2 k, LeO (impl_powInt.f k a0 a1 a2) (impl_powInt.f (k + 1) a0 a1 a2) := by
  intro a0 a1 a2 k
  have ih0 := impl_powInt.mono_l k
  unfold impl_powInt.f
  repeat' first
      | (with_reducible exact ih0 _ _ _ _ _)
      | (with_reducible exact bits_Len.mono _ _)
      | (with_reducible exact LeO.refl _)
      | (with_reducible exact LeO.none _)
      | (with_reducible refine LeO.ite ?_ ?_)
      | (with_reducible refine LeO.bind ?_ (fun _ => ?_))
      | exact ih0 _ _ _ _ _
      | exact bits_Len.mono _ _
      | exact LeO.none _
      | refine LeO.ite ?_ ?_
      | refine LeO.bind ?_ (fun _ => ?_)
set_option maxHeartbeats 8000000 in
set_option maxRecDepth 100000 in
theorem impl_powInt.calls (k : Nat) (a0 : Int) (a1 : Int) (a2 : Int) (r : Int) (w : World) (h : impl_powInt.f k a0 a1 a2 = some r) :
    Calls Try.prog 66 #[.int .i64 a0, .int .i64 a1, .int .i64 a2] w fun e w' => e = .returned (.int .i64 r) ∧ Drawn0 w w' := by
  have H : (if a2 = 0 then (none) else ((bits_Len.f k (IntKind.u64.wrap (a1))).bind fun t271 => (impl_powInt.l0 k (Int.tmod a0 a2) a1 a2 ((1 : Int) % a2) (wrap64 (t271 - 1))))) = some r := h
  clear h
  by_cases c4 : a2 = 0
  · rw [if_pos c4] at H
    exact absurd H (by simp)
  · rw [if_neg c4] at H
    have c4b0 : (a2 == 0) = false := beq_eq_false_iff_ne.mpr c4
    have c4b1 : (a2 != 0) = true := bne_iff_ne.mpr c4
    replace H := Option.bind_eq_some_iff.mp H
    obtain ⟨t271, A50, H⟩ := H
    replace H : (impl_powInt.l0 k (Int.tmod a0 a2) a1 a2 ((1 : Int) % a2) (wrap64 (t271 - 1))) = some r := H
    have A5 := Aside0.mk A50
    clear A50
    have H' := Aside0.mk H
    clear H
    go_enter Try.func66, Try.ntmps66
    go_wp2_with (first | ((with_reducible refine gate_callee (f := 64) rfl ?_); refine goesL_ (some 16) rfl rfl Try.func64 (by kernel_rfl) rfl #[.int .u64 (IntKind.u64.wrap (a1))] rfl (by (try simp only [List.map_toArray, List.map_cons, List.map_nil]); first | done | rfl | (simp only [List.length_drop, List.length_take]; rfl)) ?_; (with_reducible refine (bits_Len.calls k (IntKind.u64.wrap (a1)) t271 _ A5.out).mono ?_); rintro e w' ⟨rfl, ⟨nd, rfl⟩⟩; refine ⟨_, rfl, ?_⟩))
    go_loopg [7, 8] k (fun kq v7 v8 w' => ∃ (x7_1 : Int) (x8_1 : Int), v7 = .int .i64 x7_1 ∧ v8 = .int .i64 x8_1 ∧ Aside0 (impl_powInt.l0 kq (Int.tmod a0 a2) a1 a2 x7_1 x8_1 = some r) ∧ Aside0 (kq ≤ k) ∧ Drawn0 w w')
    case atStart => exact ⟨((1 : Int) % a2), (wrap64 (t271 - 1)), (by first | rfl | (simp; done) | (simp [*]; done)), (by first | rfl | (simp; done) | (simp [*]; done)), H', ⟨Nat.le_refl _⟩, by repeat (first | exact Drawn0.refl _ | apply Drawn0.step)⟩
    case round =>
      clear H'
      try clear p2
      try clear c4
      try clear c4b0
      try clear c4b1
      obtain ⟨x7_1, x8_1, rfl, rfl, HA, HK1, ⟨m1, rfl⟩⟩ := hrel
      cases gk with
      | zero => exact absurd HA.out (by simp [impl_powInt.l0])
      | succ k1 =>
        have H := HA.out
        clear HA
        simp only [impl_powInt.l0] at H
        by_cases c6 : x8_1 ≥ 0
        · rw [if_pos c6] at H
          have c6b0 : decide (0 ≤ x8_1) = true := decide_eq_true c6
          clear c6
          by_cases c7 : a2 = 0
          · rw [if_pos c7] at H
            exact absurd H (by simp)
          · rw [if_neg c7] at H
            have c7b0 : (a2 == 0) = false := beq_eq_false_iff_ne.mpr c7
            have c7b1 : (a2 != 0) = true := bne_iff_ne.mpr c7
            by_cases c8 : 0 ≤ x8_1
            · rw [if_pos c8] at H
              have c8b0 := eq_true c8
              have c8b1 : decide (0 ≤ x8_1) = true := decide_eq_true c8
              clear c8
              obtain ⟨ji9, hji9⟩ : ∃ j_ : Int, (shr .i64 a1 x8_1) = j_ := ⟨_, rfl⟩
              replace H : (if (Go.bits .and .i64 (ji9) 1) = 1 then (impl_powInt.l0 k1 (Int.tmod a0 a2) a1 a2 (Int.tmod (wrap64 ((Int.tmod (wrap64 (x7_1 * x7_1)) a2) * (Int.tmod a0 a2))) a2) (wrap64 (x8_1 - 1))) else (impl_powInt.l0 k1 (Int.tmod a0 a2) a1 a2 (Int.tmod (wrap64 (x7_1 * x7_1)) a2) (wrap64 (x8_1 - 1)))) = some r := by first | (rw [hji9] at H; exact H) | (simp only [hji9] at H ⊢; exact H)
              have hji9_ : (a1 / 2 ^ min x8_1.toNat 64) = ji9 := hji9
              have hji9z : x8_1 ≤ 64 → (a1 / 2 ^ x8_1.toNat) = ji9 := shr_small hji9
              by_cases c10 : (Go.bits .and .i64 (ji9) 1) = 1
              · rw [if_pos c10] at H
                have c10b0 : ((Go.bits .and .i64 (ji9) 1) == 1) = true := beq_iff_eq.mpr c10
                have c10b1 : ((Go.bits .and .i64 (ji9) 1) != 1) = false := bne_eq_false_iff_eq.mpr c10
                clear c10
                have H' := Aside0.mk H
                clear H
                go_wp2
                go_roundg k1
                case measure => have := HK1.out; omega
                case rel => exact ⟨(Int.tmod (wrap64 ((Int.tmod (wrap64 (x7_1 * x7_1)) a2) * (Int.tmod a0 a2))) a2), (wrap64 (x8_1 - 1)), (by first | rfl | (simp; done) | (simp [*]; done)), (by first | rfl | (simp; done) | (simp [*]; done)), H', ⟨by have := HK1.out; omega⟩, by repeat (first | exact Drawn0.refl _ | apply Drawn0.step)⟩
              · rw [if_neg c10] at H
                have c10b0 : ((Go.bits .and .i64 (ji9) 1) == 1) = false := beq_eq_false_iff_ne.mpr c10
                have c10b1 : ((Go.bits .and .i64 (ji9) 1) != 1) = true := bne_iff_ne.mpr c10
                have H' := Aside0.mk H
                clear H
                go_wp2
                go_roundg k1
                case measure => have := HK1.out; omega
                case rel => exact ⟨(Int.tmod (wrap64 (x7_1 * x7_1)) a2), (wrap64 (x8_1 - 1)), (by first | rfl | (simp; done) | (simp [*]; done)), (by first | rfl | (simp; done) | (simp [*]; done)), H', ⟨by have := HK1.out; omega⟩, by repeat (first | exact Drawn0.refl _ | apply Drawn0.step)⟩
            · rw [if_neg c8] at H
              exact absurd H (by simp)
        · rw [if_neg c6] at H
          have c6b0 : decide (0 ≤ x8_1) = false := decide_eq_false c6
          clear c6
          obtain rfl := Option.some.inj H
          go_wp2
          go_ret
          exact ⟨by first | rfl | (simp; done) | (simp [*]; done), by repeat (first | exact Drawn0.refl _ | apply Drawn0.step)⟩

end Go.Proofs.Ytadmkolopcdffaa.PFnExactPointRead
