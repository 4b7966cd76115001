-- Written for this claim by a program of this session.
import Derived.Test.YtfdlblckmlbhoaaPFnTwistedx0
import Derived.Test.YtfdlblckmlbhoaaPFnTwistedx1
import Derived.Test.YtfdlblckmlbhoaaPFnTwistedx2
import Derived.Test.YtfdlblckmlbhoaaPFnTwistedx5
namespace Go.Proofs.Ytfdlblckmlbhoaa.PFnTwisted
open Go.RowKit Go.Proofs.YtfdlblckmlbhoaaW.PrintWords Go.Proofs.YtfdlblckmlbhoaaW.PrintLast Go.Proofs.YtfdlblckmlbhoaaW.PrintMore
attribute [local go_sem] max2_int min2_int max_two min_two max_three min_three max_four min_four   -- for this text's walks alone
set_option linter.unusedVariables false
set_option linter.unusedSimpArgs false

attribute [local go_sem high] eqA27
attribute [local go_sem] fld_
/-! ### spec_l2Pow: function 75 -/
def spec_l2Pow.l0 : Nat → Int → Int → Int → Int → Option (Int)
  | 0, _, _, _, _ => none
  | k + 1, x1, x2, x7, x8 => if x1 > 0 then (if (Int.tmod x1 2) = 1 then (if x2 = 0 then (none) else (spec_l2Pow.l0 k (wrap64 (Int.tdiv x1 2)) x2 (Int.tmod (wrap64 (x7 * x8)) x2) (Int.tmod (wrap64 (x8 * x8)) x2))) else (if x2 = 0 then (none) else (spec_l2Pow.l0 k (wrap64 (Int.tdiv x1 2)) x2 x7 (Int.tmod (wrap64 (x8 * x8)) x2)))) else (some x7)
def spec_l2Pow.f (k : Nat) (a0 : Int) (a1 : Int) (a2 : Int) : Option (Int) := if a2 = 0 then (none) else (spec_l2Pow.l0 k a1 a2 ((1 : Int) % a2) (Int.tmod a0 a2))
theorem spec_l2Pow.mono_l : ∀ k, (∀ y0 y1 y2 y3, LeO (spec_l2Pow.l0 k y0 y1 y2 y3) (spec_l2Pow.l0 (k + 1) y0 y1 y2 y3))
  | 0 => fun _ _ _ _ r h => by simp [spec_l2Pow.l0] at h
  | k + 1 => by
    have ih0 := spec_l2Pow.mono_l k
    · intro y0 y1 y2 y3
      unfold spec_l2Pow.l0
      repeat' first
      | (with_reducible exact ih0 _ _ _ _)
      | (with_reducible exact LeO.refl _)
      | (with_reducible exact LeO.none _)
      | (with_reducible refine LeO.ite ?_ ?_)
      | (with_reducible refine LeO.bind ?_ (fun _ => ?_))
      | exact ih0 _ _ _ _
      | exact LeO.none _
      | refine LeO.ite ?_ ?_
      | refine LeO.bind ?_ (fun _ => ?_)
theorem spec_l2Pow.mono : ∀ a0 a1 a2 k, LeO (spec_l2Pow.f k a0 a1 a2) (spec_l2Pow.f (k + 1) a0 a1 a2) := by
  intro a0 a1 a2 k
  have ih0 := spec_l2Pow.mono_l k
  unfold spec_l2Pow.f
  repeat' first
      | (with_reducible exact ih0 _ _ _ _)
      | (with_reducible exact LeO.refl _)
      | (with_reducible exact LeO.none _)
      | (with_reducible refine LeO.ite ?_ ?_)
      | (with_reducible refine LeO.bind ?_ (fun _ => ?_))
      | exact ih0 _ _ _ _
      | exact LeO.none _
      | refine LeO.ite ?_ ?_
      | refine LeO.bind ?_ (fun _ => ?_)
set_option maxHeartbeats 8000000 in
set_option maxRecDepth 100000 in
theorem spec_l2Pow.calls (k : Nat) (a0 : Int) (a1 : Int) (a2 : Int) (r : Int) (w : World) (h : spec_l2Pow.f k a0 a1 a2 = some r) :
    Calls Try.prog 75 #[.int .i64 a0, .int .i64 a1, .int .i64 a2] w fun e w' => e = .returned (.int .i64 r) ∧ Drawn0 w w' := by
  have H : (if a2 = 0 then (none) else (spec_l2Pow.l0 k a1 a2 ((1 : Int) % a2) (Int.tmod a0 a2))) = some r := h
  clear h
  by_cases c4 : a2 = 0
  · rw [if_pos c4] at H
    exact absurd H (by simp)
  · rw [if_neg c4] at H
    have c4b0 : (a2 == 0) = false := beq_eq_false_iff_ne.mpr c4
    have c4b1 : (a2 != 0) = true := bne_iff_ne.mpr c4
    have H' := Aside0.mk H
    clear H
    go_enter Try.func75, Try.ntmps75
    go_wp2
    repeat (go_quiet (fail); try go_wp2)
    go_loopg [1, 7, 8] k (fun kq v1 v7 v8 w' => ∃ (x1_1 : Int) (x7_1 : Int) (x8_1 : Int), v1 = .int .i64 x1_1 ∧ v7 = .int .i64 x7_1 ∧ v8 = .int .i64 x8_1 ∧ Aside0 (spec_l2Pow.l0 kq x1_1 a2 x7_1 x8_1 = some r) ∧ Aside0 (kq ≤ k) ∧ Drawn0 w w')
    case atStart => exact ⟨(a1), ((1 : Int) % a2), (Int.tmod a0 a2), (by first | rfl | (simp; done) | (simp [*]; done)), (by first | rfl | (simp; done) | (simp [*]; done)), (by first | rfl | (simp; done) | (simp [*]; done)), H', ⟨Nat.le_refl _⟩, by repeat (first | exact Drawn0.refl _ | apply Drawn0.step)⟩
    case round =>
      clear H'
      try clear p2
      try clear c4
      try clear c4b0
      try clear c4b1
      obtain ⟨x1_1, x7_1, x8_1, rfl, rfl, rfl, HA, HK1, ⟨m1, rfl⟩⟩ := hrel
      cases gk with
      | zero => exact absurd HA.out (by simp [spec_l2Pow.l0])
      | succ k1 =>
        have H := HA.out
        clear HA
        simp only [spec_l2Pow.l0] at H
        by_cases c5 : x1_1 > 0
        · rw [if_pos c5] at H
          have c5b0 : decide (0 < x1_1) = true := decide_eq_true c5
          clear c5
          by_cases c6 : (Int.tmod x1_1 2) = 1
          · rw [if_pos c6] at H
            have c6b0 : ((Int.tmod x1_1 2) == 1) = true := beq_iff_eq.mpr c6
            have c6b1 : ((Int.tmod x1_1 2) != 1) = false := bne_eq_false_iff_eq.mpr c6
            clear c6
            by_cases c7 : a2 = 0
            · rw [if_pos c7] at H
              exact absurd H (by simp)
            · rw [if_neg c7] at H
              have c7b0 : (a2 == 0) = false := beq_eq_false_iff_ne.mpr c7
              have c7b1 : (a2 != 0) = true := bne_iff_ne.mpr c7
              have H' := Aside0.mk H
              clear H
              go_wp2
              repeat (go_quiet (fail); try go_wp2)
              go_roundg k1
              case measure => have := HK1.out; omega
              case rel => exact ⟨(wrap64 (Int.tdiv x1_1 2)), (Int.tmod (wrap64 (x7_1 * x8_1)) a2), (Int.tmod (wrap64 (x8_1 * x8_1)) a2), (by first | rfl | (simp; done) | (simp [*]; done)), (by first | rfl | (simp; done) | (simp [*]; done)), (by first | rfl | (simp; done) | (simp [*]; done)), H', ⟨by have := HK1.out; omega⟩, by repeat (first | exact Drawn0.refl _ | apply Drawn0.step)⟩
          · rw [if_neg c6] at H
            have c6b0 : ((Int.tmod x1_1 2) == 1) = false := beq_eq_false_iff_ne.mpr c6
            have c6b1 : ((Int.tmod x1_1 2) != 1) = true := bne_iff_ne.mpr c6
            by_cases c8 : a2 = 0
            · rw [if_pos c8] at H
              exact absurd H (by simp)
            · rw [if_neg c8] at H
              have c8b0 : (a2 == 0) = false := beq_eq_false_iff_ne.mpr c8
              have c8b1 : (a2 != 0) = true := bne_iff_ne.mpr c8
              have H' := Aside0.mk H
              clear H
              go_wp2
              repeat (go_quiet (fail); try go_wp2)
              go_roundg k1
              case measure => have := HK1.out; omega
              case rel => exact ⟨(wrap64 (Int.tdiv x1_1 2)), (x7_1), (Int.tmod (wrap64 (x8_1 * x8_1)) a2), (by first | rfl | (simp; done) | (simp [*]; done)), (by first | rfl | (simp; done) | (simp [*]; done)), (by first | rfl | (simp; done) | (simp [*]; done)), H', ⟨by have := HK1.out; omega⟩, by repeat (first | exact Drawn0.refl _ | apply Drawn0.step)⟩
        · rw [if_neg c5] at H
          have c5b0 : decide (0 < x1_1) = false := decide_eq_false c5
          clear c5
          obtain rfl := Option.some.inj H
          go_wp2
          repeat (go_quiet (fail); try go_wp2)
          go_ret
          exact ⟨by first | rfl | (simp; done) | (simp [*]; done), by repeat (first | exact Drawn0.refl _ | apply Drawn0.step)⟩

attribute [local go_sem] fld_
/-! ### spec_EdOk: function 71 -/
def spec_EdOk.j0 : Nat → Bool → Int → Int → Int → Int → Int → Option (Bool)
  | 0, _, _, _, _, _, _ => none
  | k + 1, x55, x314000, x314001, x314002, x314003, x314004 => if x55 = true then (some false) else ((spec_l4On.f x314000 x314001 x314002 x314003 x314004 x314003 x314004).bind fun t321 => (if t321 = true then (if (!(x314003 == 0) || (!(x314004 == 1))) = true then ((spec_l4Mul.f k x314000 x314001 x314002 x314003 x314004 x314002 x314003 x314004).bind fun bt322 => (some (bt322.1 == 0 && (bt322.2 == 1)))) else (some false)) else (some false)))
def spec_EdOk.f (k : Nat) (a0_0 : Int) (a0_1 : Int) (a0_2 : Int) (a0_3 : Int) (a0_4 : Int) : Option (Bool) := (spec_l1In.f a0_0 13 1048576).bind fun t314 => (if t314 = true then (if (Int.tmod a0_0 8) = 5 then ((spec_PrimeInt.f k a0_0).bind fun t315 => (if t315 = true then ((spec_l1In.f a0_1 2 (wrap64 (a0_0 - 1))).bind fun t316 => (if t316 = true then ((spec_l2Pow.f k a0_1 (wrap64 (Int.tdiv (wrap64 (a0_0 - 1)) 2)) a0_0).bind fun t317 => (if t317 = (wrap64 (a0_0 - 1)) then ((spec_l1In.f a0_2 5 2097152).bind fun t318 => (if t318 = true then ((spec_PrimeInt.f k a0_2).bind fun t319 => (spec_EdOk.j0 k (!t319) a0_0 a0_1 a0_2 a0_3 a0_4)) else (spec_EdOk.j0 k true a0_0 a0_1 a0_2 a0_3 a0_4))) else (spec_EdOk.j0 k true a0_0 a0_1 a0_2 a0_3 a0_4))) else (spec_EdOk.j0 k true a0_0 a0_1 a0_2 a0_3 a0_4))) else (spec_EdOk.j0 k true a0_0 a0_1 a0_2 a0_3 a0_4))) else (spec_EdOk.j0 k true a0_0 a0_1 a0_2 a0_3 a0_4)) else (spec_EdOk.j0 k true a0_0 a0_1 a0_2 a0_3 a0_4))
theorem spec_EdOk.mono_l : ∀ k, (∀ y0 y1 y2 y3 y4 y5, LeO (spec_EdOk.j0 k y0 y1 y2 y3 y4 y5) (spec_EdOk.j0 (k + 1) y0 y1 y2 y3 y4 y5))
 | 0 => fun _ _ _ _ _ _ r h => by simp [spec_EdOk.j0] at h
 | k + 1 => by
  have ih0 := spec_EdOk.mono_l k
  ·
   intro y0 y1 y2 y3 y4 y5
   unfold spec_EdOk.j0
   repeat' first
   | (with_reducible exact ih0 _ _ _ _ _ _)
   | (with_reducible exact spec_PrimeInt.mono _ _)
   | (with_reducible exact spec_l2Pow.mono _ _ _ _)
   | (with_reducible exact spec_l4Mul.mono _ _ _ _ _ _ _ _ _)
   | (with_reducible exact LeO.refl _)
   | (with_reducible exact LeO.none _)
   | (with_reducible refine LeO.ite ?_ ?_)
   | (with_reducible refine LeO.bind ?_ (fun _ => ?_))
   | exact ih0 _ _ _ _ _ _
   | exact spec_PrimeInt.mono _ _
   | exact spec_l2Pow.mono _ _ _ _
   | exact spec_l4Mul.mono _ _ _ _ _ _ _ _ _
   | exact LeO.none _
   | refine LeO.ite ?_ ?_
   | refine LeO.bind ?_ (fun _ => ?_)
theorem spec_EdOk.mono : ∀ a0 a1 a2 a3 a4 k, LeO (spec_EdOk.f k a0 a1 a2 a3 a4) (spec_EdOk.f (k + 1) a0 a1 a2 a3 a4) := by
 intro a0 a1 a2 a3 a4 k; have ih0 := spec_EdOk.mono_l k
 unfold spec_EdOk.f
 repeat' first
   | (with_reducible exact ih0 _ _ _ _ _ _)
   | (with_reducible exact spec_PrimeInt.mono _ _)
   | (with_reducible exact spec_l2Pow.mono _ _ _ _)
   | (with_reducible exact spec_l4Mul.mono _ _ _ _ _ _ _ _ _)
   | (with_reducible exact LeO.refl _)
   | (with_reducible exact LeO.none _)
   | (with_reducible refine LeO.ite ?_ ?_)
   | (with_reducible refine LeO.bind ?_ (fun _ => ?_))
   | exact ih0 _ _ _ _ _ _
   | exact spec_PrimeInt.mono _ _
   | exact spec_l2Pow.mono _ _ _ _
   | exact spec_l4Mul.mono _ _ _ _ _ _ _ _ _
   | exact LeO.none _
   | refine LeO.ite ?_ ?_
   | refine LeO.bind ?_ (fun _ => ?_)
def spec_EdOk.T1 : Bool × List (List Nat × List Nat) := (true, [([], []), ([0], [0]), ([1], [1]), ([2], [2]), ([3, 2], [3]), ([4], [4]), ([5, 4], [4, 5]), ([6, 4], [4, 6]), ([7, 4], [4, 7]), ([4, 8], [4, 8]), ([9, 4], [9]), ([10], [10]), ([11, 10], [10, 11]), ([12, 10, 10], [10, 12]), ([13, 10], [10, 13]), ([10, 14], [10, 14]), ([15, 13], [15]), ([16], [16]), ([17, 16], [16, 17]), ([16], [16]), ([19, 16], [16, 19]), ([20, 16], [16, 20]), ([18, 21, 16, 16], [16, 18, 21]), ([22, 16], [16, 22]), ([16, 23], [16, 23]), ([24, 22], [24]), ([25], [25]), ([26, 25], [25, 26]), ([25], [25]), ([28, 25], [25, 28]), ([29, 25], [25, 29]), ([30, 25], [25, 30]), ([25], [25]), ([32, 25], [25, 32]), ([27, 31, 33, 25, 25], [25, 27, 31, 33]), ([25], [25]), ([35, 25], [25, 35]), ([36, 25], [25, 36]), ([34, 37, 25], [25, 34, 37]), ([25, 38], [25, 38]), ([39, 34], [39]), ([40], [40]), ([41, 40], [40, 41]), ([42, 40, 40], [40, 42]), ([43, 40], [40, 43]), ([40, 44], [40, 44]), ([45, 43], [45]), ([46], [46]), ([47, 46], [46, 47]), ([48, 46, 46], [46, 48]), ([49, 46], [46, 49]), ([46, 50], [46, 50])])
def spec_EdOk.B1 : List Nat := [0, 1, 3, 7, 15, 31, 63, 127, 255, 511, 1023, 2047, 4095, 8191, 16383, 32767, 65535, 131071, 262143, 131071, 655359, 1703935, 4194303, 8388607, 16777215, 33554431, 67108863, 134217727, 67108863, 335544319, 872415231, 1946157055, 67108863, 4362076159, 17179869183, 67108863, 34426847231, 103146323967, 274877906943, 549755813887, 1099511627775, 2199023255551, 4398046511103, 8796093022207, 17592186044415, 35184372088831, 70368744177663, 140737488355327, 281474976710655, 562949953421311, 1125899906842623, 2251799813685247]
theorem spec_EdOk.tab1 : rtab .any (opsOf Try.f71 1) = spec_EdOk.T1 := by kernel_rfl
theorem spec_EdOk.bits1 : waitsOk spec_EdOk.T1.2 spec_EdOk.B1 = true := by kernel_rfl
set_option maxHeartbeats 8000000 in
set_option maxRecDepth 100000 in
theorem spec_EdOk.calls (k : Nat) (a0_0 : Int) (a0_1 : Int) (a0_2 : Int) (a0_3 : Int) (a0_4 : Int) (r : Bool) (w : World) (h : spec_EdOk.f k a0_0 a0_1 a0_2 a0_3 a0_4 = some r) :
  Calls Try.prog 71 #[.agg #[.int .i64 a0_0, .int .i64 a0_1, .int .i64 a0_2, .int .i64 a0_3, .int .i64 a0_4]] w fun e w' => e = .returned (.bool r) ∧ Below w.heap.size w w' := by
 have hu25 := Try.underlying25; have hu27 := Try.underlying27; have HB := Aside0.mk (Below.refl w.heap.size w)
 have H : ((spec_l1In.f a0_0 13 1048576).bind fun t314 => (if t314 = true then (if (Int.tmod a0_0 8) = 5 then ((spec_PrimeInt.f k a0_0).bind fun t315 => (if t315 = true then ((spec_l1In.f a0_1 2 (wrap64 (a0_0 - 1))).bind fun t316 => (if t316 = true then ((spec_l2Pow.f k a0_1 (wrap64 (Int.tdiv (wrap64 (a0_0 - 1)) 2)) a0_0).bind fun t317 => (if t317 = (wrap64 (a0_0 - 1)) then ((spec_l1In.f a0_2 5 2097152).bind fun t318 => (if t318 = true then ((spec_PrimeInt.f k a0_2).bind fun t319 => (spec_EdOk.j0 k (!t319) a0_0 a0_1 a0_2 a0_3 a0_4)) else (spec_EdOk.j0 k true a0_0 a0_1 a0_2 a0_3 a0_4))) else (spec_EdOk.j0 k true a0_0 a0_1 a0_2 a0_3 a0_4))) else (spec_EdOk.j0 k true a0_0 a0_1 a0_2 a0_3 a0_4))) else (spec_EdOk.j0 k true a0_0 a0_1 a0_2 a0_3 a0_4))) else (spec_EdOk.j0 k true a0_0 a0_1 a0_2 a0_3 a0_4)) else (spec_EdOk.j0 k true a0_0 a0_1 a0_2 a0_3 a0_4))) = some r := h
 clear h; have HC2 := Aside0.mk H; clear H
 go_enter Try.func71, Try.ntmps71
 go_upto_region 1 with (first | ((with_reducible refine gate_dst (N := 1) rfl ?_); refine box_event ?hg (N := 1) ?hd (cs := #[.int .i64 a0_0, .int .i64 a0_1, .int .i64 a0_2, .int .i64 a0_3, .int .i64 a0_4]) (t := 25) ?hr ?_; (case hd => rfl); (case hg => rfl); (case hr => first | (go_simp; done) | (go_simp; rfl)); intro gb313 hg w3 hbox hb; have BK313 := Aside0.mk hbox; have GW313 := ge_ HB hg; have GE313 := ge_ HB hg; replace HB := bs_ HB hb; clear hb hbox hg))
 (try simp only [Act.put, sA_, sZ_, sS_])
 go_cut [55] (fun v55 wc => ∃ (kq : Nat) (x55_1 : Bool), v55 = .bool x55_1 ∧ Aside0 (spec_EdOk.j0 kq x55_1 a0_0 a0_1 a0_2 a0_3 a0_4 = some r) ∧ Aside0 (kq ≤ k) ∧ Aside0 (wc.heap[gb313]? = some (.cells #[.int .i64 a0_0, .int .i64 a0_1, .int .i64 a0_2, .int .i64 a0_3, .int .i64 a0_4] 25 (0, 0))) ∧ Aside0 (Below w.heap.size w wc))
 case first =>
  have H := HC2.out; clear HC2; obtain ⟨t314, A40, H⟩ := pb_ H
  have A4 := Aside0.mk A40; clear A40
  by_cases c5 : t314 = true
  ·
   subst c5; rw [if_pos rfl] at H
   by_cases c6 : (Int.tmod a0_0 8) = 5
   ·
    rw [if_pos c6] at H
    have c6b0 : ((Int.tmod a0_0 8) == 5) = true := beq_iff_eq.mpr c6
    have c6b1 : ((Int.tmod a0_0 8) != 5) = false := bne_eq_false_iff_eq.mpr c6
    clear c6
    (first | rw [c6b0] | (simp only [i64_w, i32_w]; rw [c6b0]) | skip)
    obtain ⟨t315, A70, H⟩ := pb_ H; have A7 := Aside0.mk A70; clear A70
    by_cases c8 : t315 = true
    ·
     subst c8
     rw [if_pos rfl] at H; obtain ⟨t316, A90, H⟩ := pb_ H
     have A9 := Aside0.mk A90; clear A90
     by_cases c10 : t316 = true
     ·
      subst c10
      rw [if_pos rfl] at H; obtain ⟨t317, A110, H⟩ := pb_ H
      have A11 := Aside0.mk A110; clear A110
      by_cases c12 : t317 = (wrap64 (a0_0 - 1))
      ·
       rw [if_pos c12] at H
       have c12b0 : (t317 == (wrap64 (a0_0 - 1))) = true := beq_iff_eq.mpr c12
       have c12b1 : (t317 != (wrap64 (a0_0 - 1))) = false := bne_eq_false_iff_eq.mpr c12
       clear c12; obtain ⟨t318, A130, H⟩ := pb_ H
       have A13 := Aside0.mk A130; clear A130
       by_cases c14 : t318 = true
       ·
        subst c14
        rw [if_pos rfl] at H; obtain ⟨t319, A150, H⟩ := pb_ H
        have A15 := Aside0.mk A150; clear A150
        have H' := Aside0.mk H
        clear H
        try go_wp2
        replace BK313 := Aside0.mk (blk_drew BK313.out); replace HB := Aside0.mk (below_drew1 HB.out); refine start_ (n := 52) (S := fun w' => w'.cell? ⟨gb313, 0, none⟩ = some (.int .i64 a0_0) ∧ w'.cell? ⟨gb313, 1, none⟩ = some (.int .i64 a0_1) ∧ w'.cell? ⟨gb313, 2, none⟩ = some (.int .i64 a0_2) ∧ w'.cell? ⟨gb313, 3, none⟩ = some (.int .i64 a0_3) ∧ w'.cell? ⟨gb313, 4, none⟩ = some (.int .i64 a0_4)) (ds := []) (bl_ 52 0) (by kernel_rfl) rfl rfl ⟨bc_ BK313 0, bc_ BK313 1, bc_ BK313 2, bc_ BK313 3, bc_ BK313 4⟩ (fun hHeld => ?_); refine with_tabW spec_EdOk.tab1 spec_EdOk.bits1 (fun HT_ HW_ => ?_)
        generalize w3.drew = w16 at BK313 HB hHeld ⊢
        refine pu_ 0 4 (bl_ 52 1) rfl rfl HT_ ?_; refine tk_ 1 5 (bl_ 52 3) rfl rfl HT_ HW_ hHeld (by rintro w' ⟨s0, s1, s2, s3, s4⟩; go_simp; with_reducible rfl) ?_; refine one_ (i := 2) (N := some 6) (bl_ 52 7) rfl rfl (one_of HT_.out (by kernel_rfl)) (by decide) (fun K hK => ?_); refine gs_ Try.func55 #[.int .i64 a0_0, .int .i64 13, .int .i64 1048576] ?_
        with_reducible refine (spec_l1In.calls a0_0 13 1048576 true _ A4.out).mono ?_
        rintro e w' ⟨rfl, ⟨nd, rfl⟩⟩; refine ⟨_, rfl, ?_⟩; refine hK.out _ _ ⟨bc_ BK313 0, bc_ BK313 1, bc_ BK313 2, bc_ BK313 3, bc_ BK313 4⟩ (fun hHeld => ?_); clear hK K
        apply norm_
        · show Act.put _ (some 6) _ = _; simp only [Act.put, sA_, sZ_, sS_, i64_w, i32_w]; rfl
        refine pu_ 3 7 (bl_ 52 15) rfl rfl HT_ ?_; refine pu_ 4 8 (bl_ 52 31) rfl rfl HT_ ?_; refine pu_ 5 9 (bl_ 52 63) rfl rfl HT_ ?_; refine tk_ 6 10 (bl_ 52 127) rfl rfl HT_ HW_ hHeld (by rintro w' ⟨s0, s1, s2, s3, s4⟩; go_simp; with_reducible rfl) ?_; refine pu_ 7 11 (bl_ 52 255) rfl rfl HT_ ?_; refine pu_ 8 12 (bl_ 52 511) rfl rfl HT_ ?_; refine pu_ 9 13 (bl_ 52 1023) rfl rfl HT_ ?_; refine pu_ 10 14 (bl_ 52 2047) rfl rfl HT_ ?_; refine pu_ 11 15 (bl_ 52 4095) rfl rfl HT_ ?_; refine tk_ 12 16 (bl_ 52 8191) rfl rfl HT_ HW_ hHeld (by rintro w' ⟨s0, s1, s2, s3, s4⟩; go_simp; with_reducible rfl) ?_; refine one_ (i := 13) (N := some 17) (bl_ 52 16383) rfl rfl (one_of HT_.out (by kernel_rfl)) (by decide) (fun K hK => ?_); refine gs_ Try.func56 #[.int .i64 a0_0] ?_
        with_reducible refine (spec_PrimeInt.calls k a0_0 true _ A7.out).mono ?_
        rintro e w' ⟨rfl, ⟨nd, rfl⟩⟩; refine ⟨_, rfl, ?_⟩; refine hK.out _ _ ⟨bc_ BK313 0, bc_ BK313 1, bc_ BK313 2, bc_ BK313 3, bc_ BK313 4⟩ (fun hHeld => ?_); clear hK K
        apply norm_
        · show Act.put _ (some 17) _ = _; simp only [Act.put, sA_, sZ_, sS_, i64_w, i32_w]; rfl
        refine pu_ 14 18 (bl_ 52 32767) rfl rfl HT_ ?_; refine pu_ 15 19 (bl_ 52 65535) rfl rfl HT_ ?_; refine pu_ 16 20 (bl_ 52 131071) rfl rfl HT_ ?_; refine pu_ 17 21 (bl_ 52 262143) rfl rfl HT_ ?_; refine pu_ 19 23 (bl_ 52 786431) rfl rfl HT_ ?_; refine tk_ 18 22 (bl_ 52 1048575) rfl rfl HT_ HW_ hHeld (by rintro w' ⟨s0, s1, s2, s3, s4⟩; go_simp; with_reducible rfl) ?_; refine tk_ 20 24 (bl_ 52 2097151) rfl rfl HT_ HW_ hHeld (by rintro w' ⟨s0, s1, s2, s3, s4⟩; go_simp; with_reducible rfl) ?_; refine pu_ 21 25 (bl_ 52 4194303) rfl rfl HT_ ?_; refine one_ (i := 22) (N := some 26) (bl_ 52 8388607) rfl rfl (one_of HT_.out (by kernel_rfl)) (by decide) (fun K hK => ?_); refine gs_ Try.func55 #[.int .i64 a0_1, .int .i64 2, .int .i64 (wrap64 (a0_0 - 1))] ?_
        with_reducible refine (spec_l1In.calls a0_1 2 (wrap64 (a0_0 - 1)) true _ A9.out).mono ?_
        rintro e w' ⟨rfl, ⟨nd, rfl⟩⟩; refine ⟨_, rfl, ?_⟩; refine hK.out _ _ ⟨bc_ BK313 0, bc_ BK313 1, bc_ BK313 2, bc_ BK313 3, bc_ BK313 4⟩ (fun hHeld => ?_); clear hK K
        apply norm_
        · show Act.put _ (some 26) _ = _; simp only [Act.put, sA_, sZ_, sS_, i64_w, i32_w]; rfl
        refine pu_ 23 27 (bl_ 52 16777215) rfl rfl HT_ ?_; refine pu_ 24 28 (bl_ 52 33554431) rfl rfl HT_ ?_; refine pu_ 25 29 (bl_ 52 67108863) rfl rfl HT_ ?_; refine pu_ 26 30 (bl_ 52 134217727) rfl rfl HT_ ?_; refine pu_ 28 32 (bl_ 52 402653183) rfl rfl HT_ ?_; refine pu_ 32 36 (bl_ 52 4697620479) rfl rfl HT_ ?_; refine pu_ 35 39 (bl_ 52 39057358847) rfl rfl HT_ ?_; refine tk_ 27 31 (bl_ 52 39191576575) rfl rfl HT_ HW_ hHeld (by rintro w' ⟨s0, s1, s2, s3, s4⟩; go_simp; with_reducible rfl) ?_; refine tk_ 29 33 (bl_ 52 39728447487) rfl rfl HT_ HW_ hHeld (by rintro w' ⟨s0, s1, s2, s3, s4⟩; go_simp; with_reducible rfl) ?_; refine pu_ 30 34 (bl_ 52 40802189311) rfl rfl HT_ ?_; refine pu_ 31 35 (bl_ 52 42949672959) rfl rfl HT_ ?_; refine tk_ 33 37 (bl_ 52 51539607551) rfl rfl HT_ HW_ hHeld (by rintro w' ⟨s0, s1, s2, s3, s4⟩; go_simp; with_reducible rfl) ?_; refine tk_ 36 40 (bl_ 52 120259084287) rfl rfl HT_ HW_ hHeld (by rintro w' ⟨s0, s1, s2, s3, s4⟩; go_simp; with_reducible rfl) ?_; refine pu_ 37 41 (bl_ 52 257698037759) rfl rfl HT_ ?_; refine one_ (i := 34) (N := some 38) (bl_ 52 274877906943) rfl rfl (one_of HT_.out (by kernel_rfl)) (by decide) (fun K hK => ?_); refine gs_ Try.func75 #[.int .i64 a0_1, .int .i64 (wrap64 (Int.tdiv (wrap64 (a0_0 - 1)) 2)), .int .i64 a0_0] ?_
        with_reducible refine (spec_l2Pow.calls k a0_1 (wrap64 (Int.tdiv (wrap64 (a0_0 - 1)) 2)) a0_0 t317 _ A11.out).mono ?_
        rintro e w' ⟨rfl, ⟨nd, rfl⟩⟩; refine ⟨_, rfl, ?_⟩; refine hK.out _ _ ⟨bc_ BK313 0, bc_ BK313 1, bc_ BK313 2, bc_ BK313 3, bc_ BK313 4⟩ (fun hHeld => ?_); clear hK K
        apply norm_
        · show Act.put _ (some 38) _ = _; simp only [Act.put, sA_, sZ_, sS_, i64_w, i32_w]; rfl
        refine pu_ 38 42 (bl_ 52 549755813887) rfl rfl HT_ ?_; refine pu_ 39 43 (bl_ 52 1099511627775) rfl rfl HT_ ?_; refine pu_ 40 44 (bl_ 52 2199023255551) rfl rfl HT_ ?_; refine pu_ 41 45 (bl_ 52 4398046511103) rfl rfl HT_ ?_; refine tk_ 42 46 (bl_ 52 8796093022207) rfl rfl HT_ HW_ hHeld (by rintro w' ⟨s0, s1, s2, s3, s4⟩; go_simp; with_reducible rfl) ?_; refine one_ (i := 43) (N := some 47) (bl_ 52 17592186044415) rfl rfl (one_of HT_.out (by kernel_rfl)) (by decide) (fun K hK => ?_); refine gs_ Try.func55 #[.int .i64 a0_2, .int .i64 5, .int .i64 2097152] ?_
        with_reducible refine (spec_l1In.calls a0_2 5 2097152 true _ A13.out).mono ?_
        rintro e w' ⟨rfl, ⟨nd, rfl⟩⟩; refine ⟨_, rfl, ?_⟩; refine hK.out _ _ ⟨bc_ BK313 0, bc_ BK313 1, bc_ BK313 2, bc_ BK313 3, bc_ BK313 4⟩ (fun hHeld => ?_); clear hK K
        apply norm_
        · show Act.put _ (some 47) _ = _; simp only [Act.put, sA_, sZ_, sS_, i64_w, i32_w]; rfl
        refine pu_ 44 48 (bl_ 52 35184372088831) rfl rfl HT_ ?_; refine pu_ 45 49 (bl_ 52 70368744177663) rfl rfl HT_ ?_; refine pu_ 46 50 (bl_ 52 140737488355327) rfl rfl HT_ ?_; refine pu_ 47 51 (bl_ 52 281474976710655) rfl rfl HT_ ?_; refine tk_ 48 52 (bl_ 52 562949953421311) rfl rfl HT_ HW_ hHeld (by rintro w' ⟨s0, s1, s2, s3, s4⟩; go_simp; with_reducible rfl) ?_; refine one_ (i := 49) (N := some 53) (bl_ 52 1125899906842623) rfl rfl (one_of HT_.out (by kernel_rfl)) (by decide) (fun K hK => ?_); refine gs_ Try.func56 #[.int .i64 a0_2] ?_
        with_reducible refine (spec_PrimeInt.calls k a0_2 t319 _ A15.out).mono ?_
        rintro e w' ⟨rfl, ⟨nd, rfl⟩⟩; refine ⟨_, rfl, ?_⟩; refine hK.out _ _ ⟨bc_ BK313 0, bc_ BK313 1, bc_ BK313 2, bc_ BK313 3, bc_ BK313 4⟩ (fun hHeld => ?_); clear hK K
        apply norm_
        · show Act.put _ (some 53) _ = _; simp only [Act.put, sA_, sZ_, sS_, i64_w, i32_w]; rfl
        refine pu_ 50 54 (bl_ 52 2251799813685247) rfl rfl HT_ ?_; refine pu_ 51 55 (bl_ 52 4503599627370495) rfl rfl HT_ ?_; refine done_ (done_of HT_.out (by kernel_rfl)) ?_
        try go_wp2
        go_meet
        case rel => exact ⟨_, (!t319), (by first | rfl | (simp; done) | (simp [*]; done)), H', ⟨by first | omega | exact Nat.le_refl _⟩, ⟨bk_ BK313⟩, ⟨bw_ HB⟩⟩
       ·
        replace c14 := Bool.eq_false_iff.mpr c14; subst c14
        rw [if_neg (show ¬ (false = true) by decide)] at H
        have H' := Aside0.mk H
        clear H
        try go_wp2
        replace BK313 := Aside0.mk (blk_drew BK313.out); replace HB := Aside0.mk (below_drew1 HB.out); refine start_ (n := 52) (S := fun w' => w'.cell? ⟨gb313, 0, none⟩ = some (.int .i64 a0_0) ∧ w'.cell? ⟨gb313, 1, none⟩ = some (.int .i64 a0_1) ∧ w'.cell? ⟨gb313, 2, none⟩ = some (.int .i64 a0_2) ∧ w'.cell? ⟨gb313, 3, none⟩ = some (.int .i64 a0_3) ∧ w'.cell? ⟨gb313, 4, none⟩ = some (.int .i64 a0_4)) (ds := []) (bl_ 52 0) (by kernel_rfl) rfl rfl ⟨bc_ BK313 0, bc_ BK313 1, bc_ BK313 2, bc_ BK313 3, bc_ BK313 4⟩ (fun hHeld => ?_); refine with_tabW spec_EdOk.tab1 spec_EdOk.bits1 (fun HT_ HW_ => ?_)
        generalize w3.drew = w17 at BK313 HB hHeld ⊢
        refine pu_ 0 4 (bl_ 52 1) rfl rfl HT_ ?_; refine tk_ 1 5 (bl_ 52 3) rfl rfl HT_ HW_ hHeld (by rintro w' ⟨s0, s1, s2, s3, s4⟩; go_simp; with_reducible rfl) ?_; refine one_ (i := 2) (N := some 6) (bl_ 52 7) rfl rfl (one_of HT_.out (by kernel_rfl)) (by decide) (fun K hK => ?_); refine gs_ Try.func55 #[.int .i64 a0_0, .int .i64 13, .int .i64 1048576] ?_
        with_reducible refine (spec_l1In.calls a0_0 13 1048576 true _ A4.out).mono ?_
        rintro e w' ⟨rfl, ⟨nd, rfl⟩⟩; refine ⟨_, rfl, ?_⟩; refine hK.out _ _ ⟨bc_ BK313 0, bc_ BK313 1, bc_ BK313 2, bc_ BK313 3, bc_ BK313 4⟩ (fun hHeld => ?_); clear hK K
        apply norm_
        · show Act.put _ (some 6) _ = _; simp only [Act.put, sA_, sZ_, sS_, i64_w, i32_w]; rfl
        refine pu_ 3 7 (bl_ 52 15) rfl rfl HT_ ?_; refine pu_ 4 8 (bl_ 52 31) rfl rfl HT_ ?_; refine pu_ 5 9 (bl_ 52 63) rfl rfl HT_ ?_; refine tk_ 6 10 (bl_ 52 127) rfl rfl HT_ HW_ hHeld (by rintro w' ⟨s0, s1, s2, s3, s4⟩; go_simp; with_reducible rfl) ?_; refine pu_ 7 11 (bl_ 52 255) rfl rfl HT_ ?_; refine pu_ 8 12 (bl_ 52 511) rfl rfl HT_ ?_; refine pu_ 9 13 (bl_ 52 1023) rfl rfl HT_ ?_; refine pu_ 10 14 (bl_ 52 2047) rfl rfl HT_ ?_; refine pu_ 11 15 (bl_ 52 4095) rfl rfl HT_ ?_; refine tk_ 12 16 (bl_ 52 8191) rfl rfl HT_ HW_ hHeld (by rintro w' ⟨s0, s1, s2, s3, s4⟩; go_simp; with_reducible rfl) ?_; refine one_ (i := 13) (N := some 17) (bl_ 52 16383) rfl rfl (one_of HT_.out (by kernel_rfl)) (by decide) (fun K hK => ?_); refine gs_ Try.func56 #[.int .i64 a0_0] ?_
        with_reducible refine (spec_PrimeInt.calls k a0_0 true _ A7.out).mono ?_
        rintro e w' ⟨rfl, ⟨nd, rfl⟩⟩; refine ⟨_, rfl, ?_⟩; refine hK.out _ _ ⟨bc_ BK313 0, bc_ BK313 1, bc_ BK313 2, bc_ BK313 3, bc_ BK313 4⟩ (fun hHeld => ?_); clear hK K
        apply norm_
        · show Act.put _ (some 17) _ = _; simp only [Act.put, sA_, sZ_, sS_, i64_w, i32_w]; rfl
        refine pu_ 14 18 (bl_ 52 32767) rfl rfl HT_ ?_; refine pu_ 15 19 (bl_ 52 65535) rfl rfl HT_ ?_; refine pu_ 16 20 (bl_ 52 131071) rfl rfl HT_ ?_; refine pu_ 17 21 (bl_ 52 262143) rfl rfl HT_ ?_; refine pu_ 19 23 (bl_ 52 786431) rfl rfl HT_ ?_; refine tk_ 18 22 (bl_ 52 1048575) rfl rfl HT_ HW_ hHeld (by rintro w' ⟨s0, s1, s2, s3, s4⟩; go_simp; with_reducible rfl) ?_; refine tk_ 20 24 (bl_ 52 2097151) rfl rfl HT_ HW_ hHeld (by rintro w' ⟨s0, s1, s2, s3, s4⟩; go_simp; with_reducible rfl) ?_; refine pu_ 21 25 (bl_ 52 4194303) rfl rfl HT_ ?_; refine one_ (i := 22) (N := some 26) (bl_ 52 8388607) rfl rfl (one_of HT_.out (by kernel_rfl)) (by decide) (fun K hK => ?_); refine gs_ Try.func55 #[.int .i64 a0_1, .int .i64 2, .int .i64 (wrap64 (a0_0 - 1))] ?_
        with_reducible refine (spec_l1In.calls a0_1 2 (wrap64 (a0_0 - 1)) true _ A9.out).mono ?_
        rintro e w' ⟨rfl, ⟨nd, rfl⟩⟩; refine ⟨_, rfl, ?_⟩; refine hK.out _ _ ⟨bc_ BK313 0, bc_ BK313 1, bc_ BK313 2, bc_ BK313 3, bc_ BK313 4⟩ (fun hHeld => ?_); clear hK K
        apply norm_
        · show Act.put _ (some 26) _ = _; simp only [Act.put, sA_, sZ_, sS_, i64_w, i32_w]; rfl
        refine pu_ 23 27 (bl_ 52 16777215) rfl rfl HT_ ?_; refine pu_ 24 28 (bl_ 52 33554431) rfl rfl HT_ ?_; refine pu_ 25 29 (bl_ 52 67108863) rfl rfl HT_ ?_; refine pu_ 26 30 (bl_ 52 134217727) rfl rfl HT_ ?_; refine pu_ 28 32 (bl_ 52 402653183) rfl rfl HT_ ?_; refine pu_ 32 36 (bl_ 52 4697620479) rfl rfl HT_ ?_; refine pu_ 35 39 (bl_ 52 39057358847) rfl rfl HT_ ?_; refine tk_ 27 31 (bl_ 52 39191576575) rfl rfl HT_ HW_ hHeld (by rintro w' ⟨s0, s1, s2, s3, s4⟩; go_simp; with_reducible rfl) ?_; refine tk_ 29 33 (bl_ 52 39728447487) rfl rfl HT_ HW_ hHeld (by rintro w' ⟨s0, s1, s2, s3, s4⟩; go_simp; with_reducible rfl) ?_; refine pu_ 30 34 (bl_ 52 40802189311) rfl rfl HT_ ?_; refine pu_ 31 35 (bl_ 52 42949672959) rfl rfl HT_ ?_; refine tk_ 33 37 (bl_ 52 51539607551) rfl rfl HT_ HW_ hHeld (by rintro w' ⟨s0, s1, s2, s3, s4⟩; go_simp; with_reducible rfl) ?_; refine tk_ 36 40 (bl_ 52 120259084287) rfl rfl HT_ HW_ hHeld (by rintro w' ⟨s0, s1, s2, s3, s4⟩; go_simp; with_reducible rfl) ?_; refine pu_ 37 41 (bl_ 52 257698037759) rfl rfl HT_ ?_; refine one_ (i := 34) (N := some 38) (bl_ 52 274877906943) rfl rfl (one_of HT_.out (by kernel_rfl)) (by decide) (fun K hK => ?_); refine gs_ Try.func75 #[.int .i64 a0_1, .int .i64 (wrap64 (Int.tdiv (wrap64 (a0_0 - 1)) 2)), .int .i64 a0_0] ?_
        with_reducible refine (spec_l2Pow.calls k a0_1 (wrap64 (Int.tdiv (wrap64 (a0_0 - 1)) 2)) a0_0 t317 _ A11.out).mono ?_
        rintro e w' ⟨rfl, ⟨nd, rfl⟩⟩; refine ⟨_, rfl, ?_⟩; refine hK.out _ _ ⟨bc_ BK313 0, bc_ BK313 1, bc_ BK313 2, bc_ BK313 3, bc_ BK313 4⟩ (fun hHeld => ?_); clear hK K
        apply norm_
        · show Act.put _ (some 38) _ = _; simp only [Act.put, sA_, sZ_, sS_, i64_w, i32_w]; rfl
        refine pu_ 38 42 (bl_ 52 549755813887) rfl rfl HT_ ?_; refine pu_ 39 43 (bl_ 52 1099511627775) rfl rfl HT_ ?_; refine pu_ 40 44 (bl_ 52 2199023255551) rfl rfl HT_ ?_; refine pu_ 41 45 (bl_ 52 4398046511103) rfl rfl HT_ ?_; refine tk_ 42 46 (bl_ 52 8796093022207) rfl rfl HT_ HW_ hHeld (by rintro w' ⟨s0, s1, s2, s3, s4⟩; go_simp; with_reducible rfl) ?_; refine one_ (i := 43) (N := some 47) (bl_ 52 17592186044415) rfl rfl (one_of HT_.out (by kernel_rfl)) (by decide) (fun K hK => ?_); refine gs_ Try.func55 #[.int .i64 a0_2, .int .i64 5, .int .i64 2097152] ?_
        with_reducible refine (spec_l1In.calls a0_2 5 2097152 false _ A13.out).mono ?_
        rintro e w' ⟨rfl, ⟨nd, rfl⟩⟩; refine ⟨_, rfl, ?_⟩; refine hK.out _ _ ⟨bc_ BK313 0, bc_ BK313 1, bc_ BK313 2, bc_ BK313 3, bc_ BK313 4⟩ (fun hHeld => ?_); clear hK K
        apply norm_
        · show Act.put _ (some 47) _ = _; simp only [Act.put, sA_, sZ_, sS_, i64_w, i32_w]; rfl
        refine pu_ 44 48 (bl_ 52 35184372088831) rfl rfl HT_ ?_; refine pu_ 45 49 (bl_ 52 70368744177663) rfl rfl HT_ ?_; refine pu_ 46 50 (bl_ 52 140737488355327) rfl rfl HT_ ?_; refine pz_ 47 51 (bl_ 52 281474976710655) rfl rfl HT_ ?_; refine pz_ 48 52 (bl_ 52 562949953421311) rfl rfl HT_ ?_; refine pz_ 49 53 (bl_ 52 1125899906842623) rfl rfl HT_ ?_; refine pz_ 50 54 (bl_ 52 2251799813685247) rfl rfl HT_ ?_; refine pu_ 51 55 (bl_ 52 4503599627370495) rfl rfl HT_ ?_; refine done_ (done_of HT_.out (by kernel_rfl)) ?_
        try go_wp2
        go_meet
        case rel => exact ⟨_, (true), (by first | rfl | (simp; done) | (simp [*]; done)), H', ⟨by first | omega | exact Nat.le_refl _⟩, ⟨bk_ BK313⟩, ⟨bw_ HB⟩⟩
      ·
       rw [if_neg c12] at H
       have c12b0 : (t317 == (wrap64 (a0_0 - 1))) = false := beq_eq_false_iff_ne.mpr c12
       have c12b1 : (t317 != (wrap64 (a0_0 - 1))) = true := bne_iff_ne.mpr c12
       have H' := Aside0.mk H
       clear H
       try go_wp2
       replace BK313 := Aside0.mk (blk_drew BK313.out); replace HB := Aside0.mk (below_drew1 HB.out); refine start_ (n := 52) (S := fun w' => w'.cell? ⟨gb313, 0, none⟩ = some (.int .i64 a0_0) ∧ w'.cell? ⟨gb313, 1, none⟩ = some (.int .i64 a0_1) ∧ w'.cell? ⟨gb313, 2, none⟩ = some (.int .i64 a0_2) ∧ w'.cell? ⟨gb313, 3, none⟩ = some (.int .i64 a0_3) ∧ w'.cell? ⟨gb313, 4, none⟩ = some (.int .i64 a0_4)) (ds := []) (bl_ 52 0) (by kernel_rfl) rfl rfl ⟨bc_ BK313 0, bc_ BK313 1, bc_ BK313 2, bc_ BK313 3, bc_ BK313 4⟩ (fun hHeld => ?_); refine with_tabW spec_EdOk.tab1 spec_EdOk.bits1 (fun HT_ HW_ => ?_)
       generalize w3.drew = w18 at BK313 HB hHeld ⊢
       refine pu_ 0 4 (bl_ 52 1) rfl rfl HT_ ?_; refine tk_ 1 5 (bl_ 52 3) rfl rfl HT_ HW_ hHeld (by rintro w' ⟨s0, s1, s2, s3, s4⟩; go_simp; with_reducible rfl) ?_; refine one_ (i := 2) (N := some 6) (bl_ 52 7) rfl rfl (one_of HT_.out (by kernel_rfl)) (by decide) (fun K hK => ?_); refine gs_ Try.func55 #[.int .i64 a0_0, .int .i64 13, .int .i64 1048576] ?_
       with_reducible refine (spec_l1In.calls a0_0 13 1048576 true _ A4.out).mono ?_
       rintro e w' ⟨rfl, ⟨nd, rfl⟩⟩; refine ⟨_, rfl, ?_⟩; refine hK.out _ _ ⟨bc_ BK313 0, bc_ BK313 1, bc_ BK313 2, bc_ BK313 3, bc_ BK313 4⟩ (fun hHeld => ?_); clear hK K
       apply norm_
       · show Act.put _ (some 6) _ = _; simp only [Act.put, sA_, sZ_, sS_, i64_w, i32_w]; rfl
       refine pu_ 3 7 (bl_ 52 15) rfl rfl HT_ ?_; refine pu_ 4 8 (bl_ 52 31) rfl rfl HT_ ?_; refine pu_ 5 9 (bl_ 52 63) rfl rfl HT_ ?_; refine tk_ 6 10 (bl_ 52 127) rfl rfl HT_ HW_ hHeld (by rintro w' ⟨s0, s1, s2, s3, s4⟩; go_simp; with_reducible rfl) ?_; refine pu_ 7 11 (bl_ 52 255) rfl rfl HT_ ?_; refine pu_ 8 12 (bl_ 52 511) rfl rfl HT_ ?_; refine pu_ 9 13 (bl_ 52 1023) rfl rfl HT_ ?_; refine pu_ 10 14 (bl_ 52 2047) rfl rfl HT_ ?_; refine pu_ 11 15 (bl_ 52 4095) rfl rfl HT_ ?_; refine tk_ 12 16 (bl_ 52 8191) rfl rfl HT_ HW_ hHeld (by rintro w' ⟨s0, s1, s2, s3, s4⟩; go_simp; with_reducible rfl) ?_; refine one_ (i := 13) (N := some 17) (bl_ 52 16383) rfl rfl (one_of HT_.out (by kernel_rfl)) (by decide) (fun K hK => ?_); refine gs_ Try.func56 #[.int .i64 a0_0] ?_
       with_reducible refine (spec_PrimeInt.calls k a0_0 true _ A7.out).mono ?_
       rintro e w' ⟨rfl, ⟨nd, rfl⟩⟩; refine ⟨_, rfl, ?_⟩; refine hK.out _ _ ⟨bc_ BK313 0, bc_ BK313 1, bc_ BK313 2, bc_ BK313 3, bc_ BK313 4⟩ (fun hHeld => ?_); clear hK K
       apply norm_
       · show Act.put _ (some 17) _ = _; simp only [Act.put, sA_, sZ_, sS_, i64_w, i32_w]; rfl
       refine pu_ 14 18 (bl_ 52 32767) rfl rfl HT_ ?_; refine pu_ 15 19 (bl_ 52 65535) rfl rfl HT_ ?_; refine pu_ 16 20 (bl_ 52 131071) rfl rfl HT_ ?_; refine pu_ 17 21 (bl_ 52 262143) rfl rfl HT_ ?_; refine pu_ 19 23 (bl_ 52 786431) rfl rfl HT_ ?_; refine tk_ 18 22 (bl_ 52 1048575) rfl rfl HT_ HW_ hHeld (by rintro w' ⟨s0, s1, s2, s3, s4⟩; go_simp; with_reducible rfl) ?_; refine tk_ 20 24 (bl_ 52 2097151) rfl rfl HT_ HW_ hHeld (by rintro w' ⟨s0, s1, s2, s3, s4⟩; go_simp; with_reducible rfl) ?_; refine pu_ 21 25 (bl_ 52 4194303) rfl rfl HT_ ?_; refine one_ (i := 22) (N := some 26) (bl_ 52 8388607) rfl rfl (one_of HT_.out (by kernel_rfl)) (by decide) (fun K hK => ?_); refine gs_ Try.func55 #[.int .i64 a0_1, .int .i64 2, .int .i64 (wrap64 (a0_0 - 1))] ?_
       with_reducible refine (spec_l1In.calls a0_1 2 (wrap64 (a0_0 - 1)) true _ A9.out).mono ?_
       rintro e w' ⟨rfl, ⟨nd, rfl⟩⟩; refine ⟨_, rfl, ?_⟩; refine hK.out _ _ ⟨bc_ BK313 0, bc_ BK313 1, bc_ BK313 2, bc_ BK313 3, bc_ BK313 4⟩ (fun hHeld => ?_); clear hK K
       apply norm_
       · show Act.put _ (some 26) _ = _; simp only [Act.put, sA_, sZ_, sS_, i64_w, i32_w]; rfl
       refine pu_ 23 27 (bl_ 52 16777215) rfl rfl HT_ ?_; refine pu_ 24 28 (bl_ 52 33554431) rfl rfl HT_ ?_; refine pu_ 25 29 (bl_ 52 67108863) rfl rfl HT_ ?_; refine pu_ 26 30 (bl_ 52 134217727) rfl rfl HT_ ?_; refine pu_ 28 32 (bl_ 52 402653183) rfl rfl HT_ ?_; refine pu_ 32 36 (bl_ 52 4697620479) rfl rfl HT_ ?_; refine pu_ 35 39 (bl_ 52 39057358847) rfl rfl HT_ ?_; refine tk_ 27 31 (bl_ 52 39191576575) rfl rfl HT_ HW_ hHeld (by rintro w' ⟨s0, s1, s2, s3, s4⟩; go_simp; with_reducible rfl) ?_; refine tk_ 29 33 (bl_ 52 39728447487) rfl rfl HT_ HW_ hHeld (by rintro w' ⟨s0, s1, s2, s3, s4⟩; go_simp; with_reducible rfl) ?_; refine pu_ 30 34 (bl_ 52 40802189311) rfl rfl HT_ ?_; refine pu_ 31 35 (bl_ 52 42949672959) rfl rfl HT_ ?_; refine tk_ 33 37 (bl_ 52 51539607551) rfl rfl HT_ HW_ hHeld (by rintro w' ⟨s0, s1, s2, s3, s4⟩; go_simp; with_reducible rfl) ?_; refine tk_ 36 40 (bl_ 52 120259084287) rfl rfl HT_ HW_ hHeld (by rintro w' ⟨s0, s1, s2, s3, s4⟩; go_simp; with_reducible rfl) ?_; refine pu_ 37 41 (bl_ 52 257698037759) rfl rfl HT_ ?_; refine one_ (i := 34) (N := some 38) (bl_ 52 274877906943) rfl rfl (one_of HT_.out (by kernel_rfl)) (by decide) (fun K hK => ?_); refine gs_ Try.func75 #[.int .i64 a0_1, .int .i64 (wrap64 (Int.tdiv (wrap64 (a0_0 - 1)) 2)), .int .i64 a0_0] ?_
       with_reducible refine (spec_l2Pow.calls k a0_1 (wrap64 (Int.tdiv (wrap64 (a0_0 - 1)) 2)) a0_0 t317 _ A11.out).mono ?_
       rintro e w' ⟨rfl, ⟨nd, rfl⟩⟩; refine ⟨_, rfl, ?_⟩; refine hK.out _ _ ⟨bc_ BK313 0, bc_ BK313 1, bc_ BK313 2, bc_ BK313 3, bc_ BK313 4⟩ (fun hHeld => ?_); clear hK K
       apply norm_
       · show Act.put _ (some 38) _ = _; simp only [Act.put, sA_, sZ_, sS_, i64_w, i32_w]; rfl
       refine pu_ 38 42 (bl_ 52 549755813887) rfl rfl HT_ ?_; refine pu_ 39 43 (bl_ 52 1099511627775) rfl rfl HT_ ?_; refine pu_ 40 44 (bl_ 52 2199023255551) rfl rfl HT_ ?_; refine pz_ 41 45 (bl_ 52 4398046511103) rfl rfl HT_ ?_; refine pz_ 42 46 (bl_ 52 8796093022207) rfl rfl HT_ ?_; refine pz_ 43 47 (bl_ 52 17592186044415) rfl rfl HT_ ?_; refine pz_ 44 48 (bl_ 52 35184372088831) rfl rfl HT_ ?_; refine pu_ 45 49 (bl_ 52 70368744177663) rfl rfl HT_ ?_; refine pu_ 46 50 (bl_ 52 140737488355327) rfl rfl HT_ ?_; refine pz_ 47 51 (bl_ 52 281474976710655) rfl rfl HT_ ?_; refine pz_ 48 52 (bl_ 52 562949953421311) rfl rfl HT_ ?_; refine pz_ 49 53 (bl_ 52 1125899906842623) rfl rfl HT_ ?_; refine pz_ 50 54 (bl_ 52 2251799813685247) rfl rfl HT_ ?_; refine pu_ 51 55 (bl_ 52 4503599627370495) rfl rfl HT_ ?_; refine done_ (done_of HT_.out (by kernel_rfl)) ?_
       try go_wp2
       go_meet
       case rel => exact ⟨_, (true), (by first | rfl | (simp; done) | (simp [*]; done)), H', ⟨by first | omega | exact Nat.le_refl _⟩, ⟨bk_ BK313⟩, ⟨bw_ HB⟩⟩
     ·
      replace c10 := Bool.eq_false_iff.mpr c10; subst c10
      rw [if_neg (show ¬ (false = true) by decide)] at H
      have H' := Aside0.mk H
      clear H
      try go_wp2
      replace BK313 := Aside0.mk (blk_drew BK313.out); replace HB := Aside0.mk (below_drew1 HB.out); refine start_ (n := 52) (S := fun w' => w'.cell? ⟨gb313, 0, none⟩ = some (.int .i64 a0_0) ∧ w'.cell? ⟨gb313, 1, none⟩ = some (.int .i64 a0_1) ∧ w'.cell? ⟨gb313, 2, none⟩ = some (.int .i64 a0_2) ∧ w'.cell? ⟨gb313, 3, none⟩ = some (.int .i64 a0_3) ∧ w'.cell? ⟨gb313, 4, none⟩ = some (.int .i64 a0_4)) (ds := []) (bl_ 52 0) (by kernel_rfl) rfl rfl ⟨bc_ BK313 0, bc_ BK313 1, bc_ BK313 2, bc_ BK313 3, bc_ BK313 4⟩ (fun hHeld => ?_); refine with_tabW spec_EdOk.tab1 spec_EdOk.bits1 (fun HT_ HW_ => ?_)
      generalize w3.drew = w19 at BK313 HB hHeld ⊢
      refine pu_ 0 4 (bl_ 52 1) rfl rfl HT_ ?_; refine tk_ 1 5 (bl_ 52 3) rfl rfl HT_ HW_ hHeld (by rintro w' ⟨s0, s1, s2, s3, s4⟩; go_simp; with_reducible rfl) ?_; refine one_ (i := 2) (N := some 6) (bl_ 52 7) rfl rfl (one_of HT_.out (by kernel_rfl)) (by decide) (fun K hK => ?_); refine gs_ Try.func55 #[.int .i64 a0_0, .int .i64 13, .int .i64 1048576] ?_
      with_reducible refine (spec_l1In.calls a0_0 13 1048576 true _ A4.out).mono ?_
      rintro e w' ⟨rfl, ⟨nd, rfl⟩⟩; refine ⟨_, rfl, ?_⟩; refine hK.out _ _ ⟨bc_ BK313 0, bc_ BK313 1, bc_ BK313 2, bc_ BK313 3, bc_ BK313 4⟩ (fun hHeld => ?_); clear hK K
      apply norm_
      · show Act.put _ (some 6) _ = _; simp only [Act.put, sA_, sZ_, sS_, i64_w, i32_w]; rfl
      refine pu_ 3 7 (bl_ 52 15) rfl rfl HT_ ?_; refine pu_ 4 8 (bl_ 52 31) rfl rfl HT_ ?_; refine pu_ 5 9 (bl_ 52 63) rfl rfl HT_ ?_; refine tk_ 6 10 (bl_ 52 127) rfl rfl HT_ HW_ hHeld (by rintro w' ⟨s0, s1, s2, s3, s4⟩; go_simp; with_reducible rfl) ?_; refine pu_ 7 11 (bl_ 52 255) rfl rfl HT_ ?_; refine pu_ 8 12 (bl_ 52 511) rfl rfl HT_ ?_; refine pu_ 9 13 (bl_ 52 1023) rfl rfl HT_ ?_; refine pu_ 10 14 (bl_ 52 2047) rfl rfl HT_ ?_; refine pu_ 11 15 (bl_ 52 4095) rfl rfl HT_ ?_; refine tk_ 12 16 (bl_ 52 8191) rfl rfl HT_ HW_ hHeld (by rintro w' ⟨s0, s1, s2, s3, s4⟩; go_simp; with_reducible rfl) ?_; refine one_ (i := 13) (N := some 17) (bl_ 52 16383) rfl rfl (one_of HT_.out (by kernel_rfl)) (by decide) (fun K hK => ?_); refine gs_ Try.func56 #[.int .i64 a0_0] ?_
      with_reducible refine (spec_PrimeInt.calls k a0_0 true _ A7.out).mono ?_
      rintro e w' ⟨rfl, ⟨nd, rfl⟩⟩; refine ⟨_, rfl, ?_⟩; refine hK.out _ _ ⟨bc_ BK313 0, bc_ BK313 1, bc_ BK313 2, bc_ BK313 3, bc_ BK313 4⟩ (fun hHeld => ?_); clear hK K
      apply norm_
      · show Act.put _ (some 17) _ = _; simp only [Act.put, sA_, sZ_, sS_, i64_w, i32_w]; rfl
      refine pu_ 14 18 (bl_ 52 32767) rfl rfl HT_ ?_; refine pu_ 15 19 (bl_ 52 65535) rfl rfl HT_ ?_; refine pu_ 16 20 (bl_ 52 131071) rfl rfl HT_ ?_; refine pu_ 17 21 (bl_ 52 262143) rfl rfl HT_ ?_; refine pu_ 19 23 (bl_ 52 786431) rfl rfl HT_ ?_; refine tk_ 18 22 (bl_ 52 1048575) rfl rfl HT_ HW_ hHeld (by rintro w' ⟨s0, s1, s2, s3, s4⟩; go_simp; with_reducible rfl) ?_; refine tk_ 20 24 (bl_ 52 2097151) rfl rfl HT_ HW_ hHeld (by rintro w' ⟨s0, s1, s2, s3, s4⟩; go_simp; with_reducible rfl) ?_; refine pu_ 21 25 (bl_ 52 4194303) rfl rfl HT_ ?_; refine one_ (i := 22) (N := some 26) (bl_ 52 8388607) rfl rfl (one_of HT_.out (by kernel_rfl)) (by decide) (fun K hK => ?_); refine gs_ Try.func55 #[.int .i64 a0_1, .int .i64 2, .int .i64 (wrap64 (a0_0 - 1))] ?_
      with_reducible refine (spec_l1In.calls a0_1 2 (wrap64 (a0_0 - 1)) false _ A9.out).mono ?_
      rintro e w' ⟨rfl, ⟨nd, rfl⟩⟩; refine ⟨_, rfl, ?_⟩; refine hK.out _ _ ⟨bc_ BK313 0, bc_ BK313 1, bc_ BK313 2, bc_ BK313 3, bc_ BK313 4⟩ (fun hHeld => ?_); clear hK K
      apply norm_
      · show Act.put _ (some 26) _ = _; simp only [Act.put, sA_, sZ_, sS_, i64_w, i32_w]; rfl
      refine pu_ 23 27 (bl_ 52 16777215) rfl rfl HT_ ?_; refine pu_ 24 28 (bl_ 52 33554431) rfl rfl HT_ ?_; refine pu_ 25 29 (bl_ 52 67108863) rfl rfl HT_ ?_; refine pz_ 26 30 (bl_ 52 134217727) rfl rfl HT_ ?_; refine pz_ 27 31 (bl_ 52 268435455) rfl rfl HT_ ?_; refine pz_ 28 32 (bl_ 52 536870911) rfl rfl HT_ ?_; refine pz_ 29 33 (bl_ 52 1073741823) rfl rfl HT_ ?_; refine pz_ 30 34 (bl_ 52 2147483647) rfl rfl HT_ ?_; refine pz_ 31 35 (bl_ 52 4294967295) rfl rfl HT_ ?_; refine pz_ 32 36 (bl_ 52 8589934591) rfl rfl HT_ ?_; refine pz_ 33 37 (bl_ 52 17179869183) rfl rfl HT_ ?_; refine pz_ 34 38 (bl_ 52 34359738367) rfl rfl HT_ ?_; refine pz_ 35 39 (bl_ 52 68719476735) rfl rfl HT_ ?_; refine pz_ 36 40 (bl_ 52 137438953471) rfl rfl HT_ ?_; refine pz_ 37 41 (bl_ 52 274877906943) rfl rfl HT_ ?_; refine pz_ 38 42 (bl_ 52 549755813887) rfl rfl HT_ ?_; refine pu_ 39 43 (bl_ 52 1099511627775) rfl rfl HT_ ?_; refine pu_ 40 44 (bl_ 52 2199023255551) rfl rfl HT_ ?_; refine pz_ 41 45 (bl_ 52 4398046511103) rfl rfl HT_ ?_; refine pz_ 42 46 (bl_ 52 8796093022207) rfl rfl HT_ ?_; refine pz_ 43 47 (bl_ 52 17592186044415) rfl rfl HT_ ?_; refine pz_ 44 48 (bl_ 52 35184372088831) rfl rfl HT_ ?_; refine pu_ 45 49 (bl_ 52 70368744177663) rfl rfl HT_ ?_; refine pu_ 46 50 (bl_ 52 140737488355327) rfl rfl HT_ ?_; refine pz_ 47 51 (bl_ 52 281474976710655) rfl rfl HT_ ?_; refine pz_ 48 52 (bl_ 52 562949953421311) rfl rfl HT_ ?_; refine pz_ 49 53 (bl_ 52 1125899906842623) rfl rfl HT_ ?_; refine pz_ 50 54 (bl_ 52 2251799813685247) rfl rfl HT_ ?_; refine pu_ 51 55 (bl_ 52 4503599627370495) rfl rfl HT_ ?_; refine done_ (done_of HT_.out (by kernel_rfl)) ?_
      try go_wp2
      go_meet
      case rel => exact ⟨_, (true), (by first | rfl | (simp; done) | (simp [*]; done)), H', ⟨by first | omega | exact Nat.le_refl _⟩, ⟨bk_ BK313⟩, ⟨bw_ HB⟩⟩
    ·
     replace c8 := Bool.eq_false_iff.mpr c8; subst c8
     rw [if_neg (show ¬ (false = true) by decide)] at H
     have H' := Aside0.mk H
     clear H
     try go_wp2
     replace BK313 := Aside0.mk (blk_drew BK313.out); replace HB := Aside0.mk (below_drew1 HB.out); refine start_ (n := 52) (S := fun w' => w'.cell? ⟨gb313, 0, none⟩ = some (.int .i64 a0_0) ∧ w'.cell? ⟨gb313, 1, none⟩ = some (.int .i64 a0_1) ∧ w'.cell? ⟨gb313, 2, none⟩ = some (.int .i64 a0_2) ∧ w'.cell? ⟨gb313, 3, none⟩ = some (.int .i64 a0_3) ∧ w'.cell? ⟨gb313, 4, none⟩ = some (.int .i64 a0_4)) (ds := []) (bl_ 52 0) (by kernel_rfl) rfl rfl ⟨bc_ BK313 0, bc_ BK313 1, bc_ BK313 2, bc_ BK313 3, bc_ BK313 4⟩ (fun hHeld => ?_); refine with_tabW spec_EdOk.tab1 spec_EdOk.bits1 (fun HT_ HW_ => ?_)
     generalize w3.drew = w20 at BK313 HB hHeld ⊢
     refine pu_ 0 4 (bl_ 52 1) rfl rfl HT_ ?_; refine tk_ 1 5 (bl_ 52 3) rfl rfl HT_ HW_ hHeld (by rintro w' ⟨s0, s1, s2, s3, s4⟩; go_simp; with_reducible rfl) ?_; refine one_ (i := 2) (N := some 6) (bl_ 52 7) rfl rfl (one_of HT_.out (by kernel_rfl)) (by decide) (fun K hK => ?_); refine gs_ Try.func55 #[.int .i64 a0_0, .int .i64 13, .int .i64 1048576] ?_
     with_reducible refine (spec_l1In.calls a0_0 13 1048576 true _ A4.out).mono ?_
     rintro e w' ⟨rfl, ⟨nd, rfl⟩⟩; refine ⟨_, rfl, ?_⟩; refine hK.out _ _ ⟨bc_ BK313 0, bc_ BK313 1, bc_ BK313 2, bc_ BK313 3, bc_ BK313 4⟩ (fun hHeld => ?_); clear hK K
     apply norm_
     · show Act.put _ (some 6) _ = _; simp only [Act.put, sA_, sZ_, sS_, i64_w, i32_w]; rfl
     refine pu_ 3 7 (bl_ 52 15) rfl rfl HT_ ?_; refine pu_ 4 8 (bl_ 52 31) rfl rfl HT_ ?_; refine pu_ 5 9 (bl_ 52 63) rfl rfl HT_ ?_; refine tk_ 6 10 (bl_ 52 127) rfl rfl HT_ HW_ hHeld (by rintro w' ⟨s0, s1, s2, s3, s4⟩; go_simp; with_reducible rfl) ?_; refine pu_ 7 11 (bl_ 52 255) rfl rfl HT_ ?_; refine pu_ 8 12 (bl_ 52 511) rfl rfl HT_ ?_; refine pu_ 9 13 (bl_ 52 1023) rfl rfl HT_ ?_; refine pu_ 10 14 (bl_ 52 2047) rfl rfl HT_ ?_; refine pu_ 11 15 (bl_ 52 4095) rfl rfl HT_ ?_; refine tk_ 12 16 (bl_ 52 8191) rfl rfl HT_ HW_ hHeld (by rintro w' ⟨s0, s1, s2, s3, s4⟩; go_simp; with_reducible rfl) ?_; refine one_ (i := 13) (N := some 17) (bl_ 52 16383) rfl rfl (one_of HT_.out (by kernel_rfl)) (by decide) (fun K hK => ?_); refine gs_ Try.func56 #[.int .i64 a0_0] ?_
     with_reducible refine (spec_PrimeInt.calls k a0_0 false _ A7.out).mono ?_
     rintro e w' ⟨rfl, ⟨nd, rfl⟩⟩; refine ⟨_, rfl, ?_⟩; refine hK.out _ _ ⟨bc_ BK313 0, bc_ BK313 1, bc_ BK313 2, bc_ BK313 3, bc_ BK313 4⟩ (fun hHeld => ?_); clear hK K
     apply norm_
     · show Act.put _ (some 17) _ = _; simp only [Act.put, sA_, sZ_, sS_, i64_w, i32_w]; rfl
     refine pu_ 14 18 (bl_ 52 32767) rfl rfl HT_ ?_; refine pu_ 15 19 (bl_ 52 65535) rfl rfl HT_ ?_; refine pu_ 16 20 (bl_ 52 131071) rfl rfl HT_ ?_; refine pz_ 17 21 (bl_ 52 262143) rfl rfl HT_ ?_; refine pz_ 18 22 (bl_ 52 524287) rfl rfl HT_ ?_; refine pz_ 19 23 (bl_ 52 1048575) rfl rfl HT_ ?_; refine pz_ 20 24 (bl_ 52 2097151) rfl rfl HT_ ?_; refine pz_ 21 25 (bl_ 52 4194303) rfl rfl HT_ ?_; refine pz_ 22 26 (bl_ 52 8388607) rfl rfl HT_ ?_; refine pz_ 23 27 (bl_ 52 16777215) rfl rfl HT_ ?_; refine pu_ 24 28 (bl_ 52 33554431) rfl rfl HT_ ?_; refine pu_ 25 29 (bl_ 52 67108863) rfl rfl HT_ ?_; refine pz_ 26 30 (bl_ 52 134217727) rfl rfl HT_ ?_; refine pz_ 27 31 (bl_ 52 268435455) rfl rfl HT_ ?_; refine pz_ 28 32 (bl_ 52 536870911) rfl rfl HT_ ?_; refine pz_ 29 33 (bl_ 52 1073741823) rfl rfl HT_ ?_; refine pz_ 30 34 (bl_ 52 2147483647) rfl rfl HT_ ?_; refine pz_ 31 35 (bl_ 52 4294967295) rfl rfl HT_ ?_; refine pz_ 32 36 (bl_ 52 8589934591) rfl rfl HT_ ?_; refine pz_ 33 37 (bl_ 52 17179869183) rfl rfl HT_ ?_; refine pz_ 34 38 (bl_ 52 34359738367) rfl rfl HT_ ?_; refine pz_ 35 39 (bl_ 52 68719476735) rfl rfl HT_ ?_; refine pz_ 36 40 (bl_ 52 137438953471) rfl rfl HT_ ?_; refine pz_ 37 41 (bl_ 52 274877906943) rfl rfl HT_ ?_; refine pz_ 38 42 (bl_ 52 549755813887) rfl rfl HT_ ?_; refine pu_ 39 43 (bl_ 52 1099511627775) rfl rfl HT_ ?_; refine pu_ 40 44 (bl_ 52 2199023255551) rfl rfl HT_ ?_; refine pz_ 41 45 (bl_ 52 4398046511103) rfl rfl HT_ ?_; refine pz_ 42 46 (bl_ 52 8796093022207) rfl rfl HT_ ?_; refine pz_ 43 47 (bl_ 52 17592186044415) rfl rfl HT_ ?_; refine pz_ 44 48 (bl_ 52 35184372088831) rfl rfl HT_ ?_; refine pu_ 45 49 (bl_ 52 70368744177663) rfl rfl HT_ ?_; refine pu_ 46 50 (bl_ 52 140737488355327) rfl rfl HT_ ?_; refine pz_ 47 51 (bl_ 52 281474976710655) rfl rfl HT_ ?_; refine pz_ 48 52 (bl_ 52 562949953421311) rfl rfl HT_ ?_; refine pz_ 49 53 (bl_ 52 1125899906842623) rfl rfl HT_ ?_; refine pz_ 50 54 (bl_ 52 2251799813685247) rfl rfl HT_ ?_; refine pu_ 51 55 (bl_ 52 4503599627370495) rfl rfl HT_ ?_; refine done_ (done_of HT_.out (by kernel_rfl)) ?_
     try go_wp2
     go_meet
     case rel => exact ⟨_, (true), (by first | rfl | (simp; done) | (simp [*]; done)), H', ⟨by first | omega | exact Nat.le_refl _⟩, ⟨bk_ BK313⟩, ⟨bw_ HB⟩⟩
   ·
    rw [if_neg c6] at H
    have c6b0 : ((Int.tmod a0_0 8) == 5) = false := beq_eq_false_iff_ne.mpr c6
    have c6b1 : ((Int.tmod a0_0 8) != 5) = true := bne_iff_ne.mpr c6
    (first | rw [c6b0] | (simp only [i64_w, i32_w]; rw [c6b0]) | skip)
    have H' := Aside0.mk H
    clear H
    try go_wp2
    replace BK313 := Aside0.mk (blk_drew BK313.out); replace HB := Aside0.mk (below_drew1 HB.out); refine start_ (n := 52) (S := fun w' => w'.cell? ⟨gb313, 0, none⟩ = some (.int .i64 a0_0) ∧ w'.cell? ⟨gb313, 1, none⟩ = some (.int .i64 a0_1) ∧ w'.cell? ⟨gb313, 2, none⟩ = some (.int .i64 a0_2) ∧ w'.cell? ⟨gb313, 3, none⟩ = some (.int .i64 a0_3) ∧ w'.cell? ⟨gb313, 4, none⟩ = some (.int .i64 a0_4)) (ds := []) (bl_ 52 0) (by kernel_rfl) rfl rfl ⟨bc_ BK313 0, bc_ BK313 1, bc_ BK313 2, bc_ BK313 3, bc_ BK313 4⟩ (fun hHeld => ?_); refine with_tabW spec_EdOk.tab1 spec_EdOk.bits1 (fun HT_ HW_ => ?_)
    generalize w3.drew = w21 at BK313 HB hHeld ⊢
    refine pu_ 0 4 (bl_ 52 1) rfl rfl HT_ ?_; refine tk_ 1 5 (bl_ 52 3) rfl rfl HT_ HW_ hHeld (by rintro w' ⟨s0, s1, s2, s3, s4⟩; go_simp; with_reducible rfl) ?_; refine one_ (i := 2) (N := some 6) (bl_ 52 7) rfl rfl (one_of HT_.out (by kernel_rfl)) (by decide) (fun K hK => ?_); refine gs_ Try.func55 #[.int .i64 a0_0, .int .i64 13, .int .i64 1048576] ?_
    with_reducible refine (spec_l1In.calls a0_0 13 1048576 true _ A4.out).mono ?_
    rintro e w' ⟨rfl, ⟨nd, rfl⟩⟩; refine ⟨_, rfl, ?_⟩; refine hK.out _ _ ⟨bc_ BK313 0, bc_ BK313 1, bc_ BK313 2, bc_ BK313 3, bc_ BK313 4⟩ (fun hHeld => ?_); clear hK K
    apply norm_
    · show Act.put _ (some 6) _ = _; simp only [Act.put, sA_, sZ_, sS_, i64_w, i32_w]; rfl
    refine pu_ 3 7 (bl_ 52 15) rfl rfl HT_ ?_; refine pu_ 4 8 (bl_ 52 31) rfl rfl HT_ ?_; refine pu_ 5 9 (bl_ 52 63) rfl rfl HT_ ?_; refine tk_ 6 10 (bl_ 52 127) rfl rfl HT_ HW_ hHeld (by rintro w' ⟨s0, s1, s2, s3, s4⟩; go_simp; with_reducible rfl) ?_; refine pu_ 7 11 (bl_ 52 255) rfl rfl HT_ ?_; refine pu_ 8 12 (bl_ 52 511) rfl rfl HT_ ?_; refine pu_ 9 13 (bl_ 52 1023) rfl rfl HT_ ?_; refine pu_ 10 14 (bl_ 52 2047) rfl rfl HT_ ?_; refine pz_ 11 15 (bl_ 52 4095) rfl rfl HT_ ?_; refine pz_ 12 16 (bl_ 52 8191) rfl rfl HT_ ?_; refine pz_ 13 17 (bl_ 52 16383) rfl rfl HT_ ?_; refine pz_ 14 18 (bl_ 52 32767) rfl rfl HT_ ?_; refine pu_ 15 19 (bl_ 52 65535) rfl rfl HT_ ?_; refine pu_ 16 20 (bl_ 52 131071) rfl rfl HT_ ?_; refine pz_ 17 21 (bl_ 52 262143) rfl rfl HT_ ?_; refine pz_ 18 22 (bl_ 52 524287) rfl rfl HT_ ?_; refine pz_ 19 23 (bl_ 52 1048575) rfl rfl HT_ ?_; refine pz_ 20 24 (bl_ 52 2097151) rfl rfl HT_ ?_; refine pz_ 21 25 (bl_ 52 4194303) rfl rfl HT_ ?_; refine pz_ 22 26 (bl_ 52 8388607) rfl rfl HT_ ?_; refine pz_ 23 27 (bl_ 52 16777215) rfl rfl HT_ ?_; refine pu_ 24 28 (bl_ 52 33554431) rfl rfl HT_ ?_; refine pu_ 25 29 (bl_ 52 67108863) rfl rfl HT_ ?_; refine pz_ 26 30 (bl_ 52 134217727) rfl rfl HT_ ?_; refine pz_ 27 31 (bl_ 52 268435455) rfl rfl HT_ ?_; refine pz_ 28 32 (bl_ 52 536870911) rfl rfl HT_ ?_; refine pz_ 29 33 (bl_ 52 1073741823) rfl rfl HT_ ?_; refine pz_ 30 34 (bl_ 52 2147483647) rfl rfl HT_ ?_; refine pz_ 31 35 (bl_ 52 4294967295) rfl rfl HT_ ?_; refine pz_ 32 36 (bl_ 52 8589934591) rfl rfl HT_ ?_; refine pz_ 33 37 (bl_ 52 17179869183) rfl rfl HT_ ?_; refine pz_ 34 38 (bl_ 52 34359738367) rfl rfl HT_ ?_; refine pz_ 35 39 (bl_ 52 68719476735) rfl rfl HT_ ?_; refine pz_ 36 40 (bl_ 52 137438953471) rfl rfl HT_ ?_; refine pz_ 37 41 (bl_ 52 274877906943) rfl rfl HT_ ?_; refine pz_ 38 42 (bl_ 52 549755813887) rfl rfl HT_ ?_; refine pu_ 39 43 (bl_ 52 1099511627775) rfl rfl HT_ ?_; refine pu_ 40 44 (bl_ 52 2199023255551) rfl rfl HT_ ?_; refine pz_ 41 45 (bl_ 52 4398046511103) rfl rfl HT_ ?_; refine pz_ 42 46 (bl_ 52 8796093022207) rfl rfl HT_ ?_; refine pz_ 43 47 (bl_ 52 17592186044415) rfl rfl HT_ ?_; refine pz_ 44 48 (bl_ 52 35184372088831) rfl rfl HT_ ?_; refine pu_ 45 49 (bl_ 52 70368744177663) rfl rfl HT_ ?_; refine pu_ 46 50 (bl_ 52 140737488355327) rfl rfl HT_ ?_; refine pz_ 47 51 (bl_ 52 281474976710655) rfl rfl HT_ ?_; refine pz_ 48 52 (bl_ 52 562949953421311) rfl rfl HT_ ?_; refine pz_ 49 53 (bl_ 52 1125899906842623) rfl rfl HT_ ?_; refine pz_ 50 54 (bl_ 52 2251799813685247) rfl rfl HT_ ?_; refine pu_ 51 55 (bl_ 52 4503599627370495) rfl rfl HT_ ?_; refine done_ (done_of HT_.out (by kernel_rfl)) ?_
    try go_wp2
    go_meet
    case rel => exact ⟨_, (true), (by first | rfl | (simp; done) | (simp [*]; done)), H', ⟨by first | omega | exact Nat.le_refl _⟩, ⟨bk_ BK313⟩, ⟨bw_ HB⟩⟩
  ·
   replace c5 := Bool.eq_false_iff.mpr c5; subst c5
   rw [if_neg (show ¬ (false = true) by decide)] at H
   have H' := Aside0.mk H
   clear H
   try go_wp2
   replace BK313 := Aside0.mk (blk_drew BK313.out); replace HB := Aside0.mk (below_drew1 HB.out); refine start_ (n := 52) (S := fun w' => w'.cell? ⟨gb313, 0, none⟩ = some (.int .i64 a0_0) ∧ w'.cell? ⟨gb313, 1, none⟩ = some (.int .i64 a0_1) ∧ w'.cell? ⟨gb313, 2, none⟩ = some (.int .i64 a0_2) ∧ w'.cell? ⟨gb313, 3, none⟩ = some (.int .i64 a0_3) ∧ w'.cell? ⟨gb313, 4, none⟩ = some (.int .i64 a0_4)) (ds := []) (bl_ 52 0) (by kernel_rfl) rfl rfl ⟨bc_ BK313 0, bc_ BK313 1, bc_ BK313 2, bc_ BK313 3, bc_ BK313 4⟩ (fun hHeld => ?_); refine with_tabW spec_EdOk.tab1 spec_EdOk.bits1 (fun HT_ HW_ => ?_)
   generalize w3.drew = w22 at BK313 HB hHeld ⊢
   refine pu_ 0 4 (bl_ 52 1) rfl rfl HT_ ?_; refine tk_ 1 5 (bl_ 52 3) rfl rfl HT_ HW_ hHeld (by rintro w' ⟨s0, s1, s2, s3, s4⟩; go_simp; with_reducible rfl) ?_; refine one_ (i := 2) (N := some 6) (bl_ 52 7) rfl rfl (one_of HT_.out (by kernel_rfl)) (by decide) (fun K hK => ?_); refine gs_ Try.func55 #[.int .i64 a0_0, .int .i64 13, .int .i64 1048576] ?_
   with_reducible refine (spec_l1In.calls a0_0 13 1048576 false _ A4.out).mono ?_
   rintro e w' ⟨rfl, ⟨nd, rfl⟩⟩; refine ⟨_, rfl, ?_⟩; refine hK.out _ _ ⟨bc_ BK313 0, bc_ BK313 1, bc_ BK313 2, bc_ BK313 3, bc_ BK313 4⟩ (fun hHeld => ?_); clear hK K
   apply norm_
   · show Act.put _ (some 6) _ = _; simp only [Act.put, sA_, sZ_, sS_, i64_w, i32_w]; rfl
   refine pu_ 3 7 (bl_ 52 15) rfl rfl HT_ ?_; refine pu_ 4 8 (bl_ 52 31) rfl rfl HT_ ?_; refine pz_ 5 9 (bl_ 52 63) rfl rfl HT_ ?_; refine pz_ 6 10 (bl_ 52 127) rfl rfl HT_ ?_; refine pz_ 7 11 (bl_ 52 255) rfl rfl HT_ ?_; refine pz_ 8 12 (bl_ 52 511) rfl rfl HT_ ?_; refine pu_ 9 13 (bl_ 52 1023) rfl rfl HT_ ?_; refine pu_ 10 14 (bl_ 52 2047) rfl rfl HT_ ?_; refine pz_ 11 15 (bl_ 52 4095) rfl rfl HT_ ?_; refine pz_ 12 16 (bl_ 52 8191) rfl rfl HT_ ?_; refine pz_ 13 17 (bl_ 52 16383) rfl rfl HT_ ?_; refine pz_ 14 18 (bl_ 52 32767) rfl rfl HT_ ?_; refine pu_ 15 19 (bl_ 52 65535) rfl rfl HT_ ?_; refine pu_ 16 20 (bl_ 52 131071) rfl rfl HT_ ?_; refine pz_ 17 21 (bl_ 52 262143) rfl rfl HT_ ?_; refine pz_ 18 22 (bl_ 52 524287) rfl rfl HT_ ?_; refine pz_ 19 23 (bl_ 52 1048575) rfl rfl HT_ ?_; refine pz_ 20 24 (bl_ 52 2097151) rfl rfl HT_ ?_; refine pz_ 21 25 (bl_ 52 4194303) rfl rfl HT_ ?_; refine pz_ 22 26 (bl_ 52 8388607) rfl rfl HT_ ?_; refine pz_ 23 27 (bl_ 52 16777215) rfl rfl HT_ ?_; refine pu_ 24 28 (bl_ 52 33554431) rfl rfl HT_ ?_; refine pu_ 25 29 (bl_ 52 67108863) rfl rfl HT_ ?_; refine pz_ 26 30 (bl_ 52 134217727) rfl rfl HT_ ?_; refine pz_ 27 31 (bl_ 52 268435455) rfl rfl HT_ ?_; refine pz_ 28 32 (bl_ 52 536870911) rfl rfl HT_ ?_; refine pz_ 29 33 (bl_ 52 1073741823) rfl rfl HT_ ?_; refine pz_ 30 34 (bl_ 52 2147483647) rfl rfl HT_ ?_; refine pz_ 31 35 (bl_ 52 4294967295) rfl rfl HT_ ?_; refine pz_ 32 36 (bl_ 52 8589934591) rfl rfl HT_ ?_; refine pz_ 33 37 (bl_ 52 17179869183) rfl rfl HT_ ?_; refine pz_ 34 38 (bl_ 52 34359738367) rfl rfl HT_ ?_; refine pz_ 35 39 (bl_ 52 68719476735) rfl rfl HT_ ?_; refine pz_ 36 40 (bl_ 52 137438953471) rfl rfl HT_ ?_; refine pz_ 37 41 (bl_ 52 274877906943) rfl rfl HT_ ?_; refine pz_ 38 42 (bl_ 52 549755813887) rfl rfl HT_ ?_; refine pu_ 39 43 (bl_ 52 1099511627775) rfl rfl HT_ ?_; refine pu_ 40 44 (bl_ 52 2199023255551) rfl rfl HT_ ?_; refine pz_ 41 45 (bl_ 52 4398046511103) rfl rfl HT_ ?_; refine pz_ 42 46 (bl_ 52 8796093022207) rfl rfl HT_ ?_; refine pz_ 43 47 (bl_ 52 17592186044415) rfl rfl HT_ ?_; refine pz_ 44 48 (bl_ 52 35184372088831) rfl rfl HT_ ?_; refine pu_ 45 49 (bl_ 52 70368744177663) rfl rfl HT_ ?_; refine pu_ 46 50 (bl_ 52 140737488355327) rfl rfl HT_ ?_; refine pz_ 47 51 (bl_ 52 281474976710655) rfl rfl HT_ ?_; refine pz_ 48 52 (bl_ 52 562949953421311) rfl rfl HT_ ?_; refine pz_ 49 53 (bl_ 52 1125899906842623) rfl rfl HT_ ?_; refine pz_ 50 54 (bl_ 52 2251799813685247) rfl rfl HT_ ?_; refine pu_ 51 55 (bl_ 52 4503599627370495) rfl rfl HT_ ?_; refine done_ (done_of HT_.out (by kernel_rfl)) ?_
   try go_wp2
   go_meet
   case rel => exact ⟨_, (true), (by first | rfl | (simp; done) | (simp [*]; done)), H', ⟨by first | omega | exact Nat.le_refl _⟩, ⟨bk_ BK313⟩, ⟨bw_ HB⟩⟩
 case rest =>
  clear HC2
  try clear p2
  try clear c5
  obtain ⟨kq, x55_1, rfl, HA, HJ1, BK313, HB⟩ := hcut
  cases kq with
  | zero => exact absurd HA.out (by simp [spec_EdOk.j0])
  | succ kj1 =>
   have H := HA.out; clear HA
   simp only [spec_EdOk.j0] at H
   by_cases c23 : x55_1 = true
   ·
    subst c23
    rw [if_pos rfl] at H; obtain rfl := Option.some.inj H
    go_wp2
    go_ret
    exact ⟨by first | rfl | (simp [errW_none, errW_some] <;> rfl) | (simp [*, errW_none, errW_some] <;> rfl), by repeat (first | (with_reducible first | exact HB.out | apply below_alloc | apply pw_below_drewN | apply below_drew1 | refine below_set ?_ GE313.out) | exact HB.out)⟩
   ·
    replace c23 := Bool.eq_false_iff.mpr c23; subst c23
    rw [if_neg (show ¬ (false = true) by decide)] at H; obtain ⟨t321, A240, H⟩ := pb_ H
    have A24 := Aside0.mk A240; clear A240
    by_cases c25 : t321 = true
    ·
     subst c25; rw [if_pos rfl] at H
     by_cases c26 : (!(a0_3 == 0) || (!(a0_4 == 1))) = true
     ·
      rw [if_pos c26] at H
      have c26b0 : (!(a0_3 == 0) || (!(a0_4 == 1))) = true := c26
      clear c26; obtain ⟨⟨t322, t323⟩, A270, H⟩ := pb_ H
      have A27 := Aside0.mk A270; clear A270; obtain rfl := Option.some.inj H
      obtain ⟨hcz28_0, hcz28_1, hcz28_2, hcz28_3, hcz28_4, hfz28_0, hfz28_1, hfz28_2, hfz28_3, hfz28_4⟩ := bx5_ BK313
      go_wp2_with (first | ((with_reducible refine gate_dst (N := 3) rfl ?_); refine box_event ?hg (N := 3) ?hd (cs := #[.int .i64 0, .int .i64 0]) (t := 27) ?hr ?_; (case hd => rfl); (case hg => rfl); (case hr => first | (go_simp; done) | (go_simp; rfl)); intro gb320 hg w29 hbox hb; have BK320 := Aside0.mk hbox; have GW320 := ge_ HB hg; have GE320 := ge_ HB hg; have NB313_320 := nl_ BK313 hg; have NB320_313 := nr_ BK313 hg; replace BK313 := bb_ BK313 hb; replace HB := bs_ HB hb; clear hb hbox hg; obtain ⟨hnb30, hnc30⟩ := nn_ NB320_313; obtain ⟨hcz31_0, hcz31_1, hfz31_0, hfz31_1⟩ := bx2_ BK320; have hcz32_0 : w29.cell? ⟨gb313, 0, none⟩ = some (.int .i64 a0_0) := bc_ BK313 0; have hcz32_1 : w29.cell? ⟨gb313, 1, none⟩ = some (.int .i64 a0_1) := bc_ BK313 1; have hcz32_2 : w29.cell? ⟨gb313, 2, none⟩ = some (.int .i64 a0_2) := bc_ BK313 2; have hcz32_3 : w29.cell? ⟨gb313, 3, none⟩ = some (.int .i64 a0_3) := bc_ BK313 3; have hcz32_4 : w29.cell? ⟨gb313, 4, none⟩ = some (.int .i64 a0_4) := bc_ BK313 4; have hfz32_0 := blk_frozen BK313.out 0; have hfz32_1 := blk_frozen BK313.out 1; have hfz32_2 := blk_frozen BK313.out 2; have hfz32_3 := blk_frozen BK313.out 3; have hfz32_4 := blk_frozen BK313.out 4) | ((with_reducible refine gate_callee (f := 57) rfl ?_); refine gl_ 63 rfl rfl Try.func57 #[.agg #[.int .i64 a0_0, .int .i64 a0_1, .int .i64 a0_2, .int .i64 a0_3, .int .i64 a0_4], .agg #[.int .i64 a0_3, .int .i64 a0_4]] rfl ?_; (with_reducible refine (spec_l4On.calls a0_0 a0_1 a0_2 a0_3 a0_4 a0_3 a0_4 true _ A24.out).mono ?_); rintro e w33 ⟨rfl, hb⟩; refine ⟨_, rfl, ?_⟩; replace BK313 := bd_ BK313 hb; replace BK320 := be_ #[.int .i64 a0_3, .int .i64 a0_4] BK320 hb; replace HB := bs_ HB hb; (try clear hb); (try clear hb2); (try clear hk); (try clear hi); obtain ⟨hcz34_0, hcz34_1, hfz34_0, hfz34_1⟩ := bx2_ BK320; have hcz35_0 : w33.cell? ⟨gb313, 0, none⟩ = some (.int .i64 a0_0) := bc_ BK313 0; have hcz35_1 : w33.cell? ⟨gb313, 1, none⟩ = some (.int .i64 a0_1) := bc_ BK313 1; have hcz35_2 : w33.cell? ⟨gb313, 2, none⟩ = some (.int .i64 a0_2) := bc_ BK313 2; have hcz35_3 : w33.cell? ⟨gb313, 3, none⟩ = some (.int .i64 a0_3) := bc_ BK313 3; have hcz35_4 : w33.cell? ⟨gb313, 4, none⟩ = some (.int .i64 a0_4) := bc_ BK313 4; have hfz35_0 := blk_frozen BK313.out 0; have hfz35_1 := blk_frozen BK313.out 1; have hfz35_2 := blk_frozen BK313.out 2; have hfz35_3 := blk_frozen BK313.out 3; have hfz35_4 := blk_frozen BK313.out 4) | (go_at_call 23; (with_reducible refine (spec_l4Mul.calls kj1 a0_0 a0_1 a0_2 a0_3 a0_4 a0_2 a0_3 a0_4 t322 t323 _ A27.out).mono ?_); rintro e w36 ⟨rfl, hb⟩; replace BK313 := bb_ BK313 hb; replace BK320 := bb_ BK320 hb; replace HB := bs_ HB hb; (try clear hb); (try clear hb2); (try clear hk); (try clear hi)))
      go_ret
      exact ⟨by first | rfl | (simp [errW_none, errW_some] <;> rfl) | (simp [*, errW_none, errW_some] <;> rfl), by repeat (first | (with_reducible first | exact HB.out | apply below_alloc | apply pw_below_drewN | apply below_drew1 | refine below_set ?_ GE313.out | refine below_set ?_ GE320.out) | exact HB.out)⟩
     ·
      rw [if_neg c26] at H
      have c26b0 : (!(a0_3 == 0) || (!(a0_4 == 1))) = false := by simpa using c26
      clear c26; obtain rfl := Option.some.inj H
      obtain ⟨hcz37_0, hcz37_1, hcz37_2, hcz37_3, hcz37_4, hfz37_0, hfz37_1, hfz37_2, hfz37_3, hfz37_4⟩ := bx5_ BK313
      go_wp2_with (first | ((with_reducible refine gate_dst (N := 3) rfl ?_); refine box_event ?hg (N := 3) ?hd (cs := #[.int .i64 0, .int .i64 0]) (t := 27) ?hr ?_; (case hd => rfl); (case hg => rfl); (case hr => first | (go_simp; done) | (go_simp; rfl)); intro gb320 hg w38 hbox hb; have BK320 := Aside0.mk hbox; have GW320 := ge_ HB hg; have GE320 := ge_ HB hg; have NB313_320 := nl_ BK313 hg; have NB320_313 := nr_ BK313 hg; replace BK313 := bb_ BK313 hb; replace HB := bs_ HB hb; clear hb hbox hg; obtain ⟨hnb39, hnc39⟩ := nn_ NB320_313; obtain ⟨hcz40_0, hcz40_1, hfz40_0, hfz40_1⟩ := bx2_ BK320; have hcz41_0 : w38.cell? ⟨gb313, 0, none⟩ = some (.int .i64 a0_0) := bc_ BK313 0; have hcz41_1 : w38.cell? ⟨gb313, 1, none⟩ = some (.int .i64 a0_1) := bc_ BK313 1; have hcz41_2 : w38.cell? ⟨gb313, 2, none⟩ = some (.int .i64 a0_2) := bc_ BK313 2; have hcz41_3 : w38.cell? ⟨gb313, 3, none⟩ = some (.int .i64 a0_3) := bc_ BK313 3; have hcz41_4 : w38.cell? ⟨gb313, 4, none⟩ = some (.int .i64 a0_4) := bc_ BK313 4; have hfz41_0 := blk_frozen BK313.out 0; have hfz41_1 := blk_frozen BK313.out 1; have hfz41_2 := blk_frozen BK313.out 2; have hfz41_3 := blk_frozen BK313.out 3; have hfz41_4 := blk_frozen BK313.out 4) | ((with_reducible refine gate_callee (f := 57) rfl ?_); refine gl_ 63 rfl rfl Try.func57 #[.agg #[.int .i64 a0_0, .int .i64 a0_1, .int .i64 a0_2, .int .i64 a0_3, .int .i64 a0_4], .agg #[.int .i64 a0_3, .int .i64 a0_4]] rfl ?_; (with_reducible refine (spec_l4On.calls a0_0 a0_1 a0_2 a0_3 a0_4 a0_3 a0_4 true _ A24.out).mono ?_); rintro e w42 ⟨rfl, hb⟩; refine ⟨_, rfl, ?_⟩; replace BK313 := bd_ BK313 hb; replace BK320 := be_ #[.int .i64 a0_3, .int .i64 a0_4] BK320 hb; replace HB := bs_ HB hb; (try clear hb); (try clear hb2); (try clear hk); (try clear hi); obtain ⟨hcz43_0, hcz43_1, hfz43_0, hfz43_1⟩ := bx2_ BK320))
      go_ret
      exact ⟨by first | rfl | (simp [errW_none, errW_some] <;> rfl) | (simp [*, errW_none, errW_some] <;> rfl), by repeat (first | (with_reducible first | exact HB.out | apply below_alloc | apply pw_below_drewN | apply below_drew1 | refine below_set ?_ GE313.out | refine below_set ?_ GE320.out) | exact HB.out)⟩
    ·
     replace c25 := Bool.eq_false_iff.mpr c25; subst c25
     rw [if_neg (show ¬ (false = true) by decide)] at H; obtain rfl := Option.some.inj H
     obtain ⟨hcz44_0, hcz44_1, hcz44_2, hcz44_3, hcz44_4, hfz44_0, hfz44_1, hfz44_2, hfz44_3, hfz44_4⟩ := bx5_ BK313
     go_wp2_with (first | ((with_reducible refine gate_dst (N := 3) rfl ?_); refine box_event ?hg (N := 3) ?hd (cs := #[.int .i64 0, .int .i64 0]) (t := 27) ?hr ?_; (case hd => rfl); (case hg => rfl); (case hr => first | (go_simp; done) | (go_simp; rfl)); intro gb320 hg w45 hbox hb; have BK320 := Aside0.mk hbox; have GW320 := ge_ HB hg; have GE320 := ge_ HB hg; have NB313_320 := nl_ BK313 hg; have NB320_313 := nr_ BK313 hg; replace BK313 := bb_ BK313 hb; replace HB := bs_ HB hb; clear hb hbox hg; obtain ⟨hnb46, hnc46⟩ := nn_ NB320_313; obtain ⟨hcz47_0, hcz47_1, hfz47_0, hfz47_1⟩ := bx2_ BK320; have hcz48_0 : w45.cell? ⟨gb313, 0, none⟩ = some (.int .i64 a0_0) := bc_ BK313 0; have hcz48_1 : w45.cell? ⟨gb313, 1, none⟩ = some (.int .i64 a0_1) := bc_ BK313 1; have hcz48_2 : w45.cell? ⟨gb313, 2, none⟩ = some (.int .i64 a0_2) := bc_ BK313 2; have hcz48_3 : w45.cell? ⟨gb313, 3, none⟩ = some (.int .i64 a0_3) := bc_ BK313 3; have hcz48_4 : w45.cell? ⟨gb313, 4, none⟩ = some (.int .i64 a0_4) := bc_ BK313 4; have hfz48_0 := blk_frozen BK313.out 0; have hfz48_1 := blk_frozen BK313.out 1; have hfz48_2 := blk_frozen BK313.out 2; have hfz48_3 := blk_frozen BK313.out 3; have hfz48_4 := blk_frozen BK313.out 4) | ((with_reducible refine gate_callee (f := 57) rfl ?_); refine gl_ 63 rfl rfl Try.func57 #[.agg #[.int .i64 a0_0, .int .i64 a0_1, .int .i64 a0_2, .int .i64 a0_3, .int .i64 a0_4], .agg #[.int .i64 a0_3, .int .i64 a0_4]] rfl ?_; (with_reducible refine (spec_l4On.calls a0_0 a0_1 a0_2 a0_3 a0_4 a0_3 a0_4 false _ A24.out).mono ?_); rintro e w49 ⟨rfl, hb⟩; refine ⟨_, rfl, ?_⟩; replace BK313 := bd_ BK313 hb; replace BK320 := be_ #[.int .i64 a0_3, .int .i64 a0_4] BK320 hb; replace HB := bs_ HB hb; (try clear hb); (try clear hb2); (try clear hk); (try clear hi)))
     go_ret
     exact ⟨by first | rfl | (simp [errW_none, errW_some] <;> rfl) | (simp [*, errW_none, errW_some] <;> rfl), by repeat (first | (with_reducible first | exact HB.out | apply below_alloc | apply pw_below_drewN | apply below_drew1 | refine below_set ?_ GE313.out | refine below_set ?_ GE320.out) | exact HB.out)⟩

attribute [local go_sem] fld_
/-! ### spec_PairOk: function 54 -/
def spec_PairOk.f (k : Nat) (a0_0 : Int) (a0_1 : Int) (a0_2 : Int) (a0_3 : Int) (a0_4 : Int) (a1_0 : Int) (a1_1 : Int) : Option (Bool) := (spec_EdOk.f k a0_0 a0_1 a0_2 a0_3 a0_4).bind fun t326 => (if t326 = true then ((spec_l4On.f a0_0 a0_1 a0_2 a0_3 a0_4 a1_0 a1_1).bind fun t327 => (some t327)) else (some false))
theorem spec_PairOk.mono : ∀ a0 a1 a2 a3 a4 a5 a6 k, LeO (spec_PairOk.f k a0 a1 a2 a3 a4 a5 a6) (spec_PairOk.f (k + 1) a0 a1 a2 a3 a4 a5 a6) := by
  intro a0 a1 a2 a3 a4 a5 a6 k
  unfold spec_PairOk.f
  repeat' first
      | (with_reducible exact spec_EdOk.mono _ _ _ _ _ _)
      | (with_reducible exact LeO.refl _)
      | (with_reducible exact LeO.none _)
      | (with_reducible refine LeO.ite ?_ ?_)
      | (with_reducible refine LeO.bind ?_ (fun _ => ?_))
      | exact spec_EdOk.mono _ _ _ _ _ _
      | exact LeO.none _
      | refine LeO.ite ?_ ?_
      | refine LeO.bind ?_ (fun _ => ?_)
set_option maxHeartbeats 8000000 in
set_option maxRecDepth 100000 in
theorem spec_PairOk.calls (k : Nat) (a0_0 : Int) (a0_1 : Int) (a0_2 : Int) (a0_3 : Int) (a0_4 : Int) (a1_0 : Int) (a1_1 : Int) (r : Bool) (w : World) (h : spec_PairOk.f k a0_0 a0_1 a0_2 a0_3 a0_4 a1_0 a1_1 = some r) :
    Calls Try.prog 54 #[.agg #[.int .i64 a0_0, .int .i64 a0_1, .int .i64 a0_2, .int .i64 a0_3, .int .i64 a0_4], .agg #[.int .i64 a1_0, .int .i64 a1_1]] w fun e w' => e = .returned (.bool r) ∧ Below w.heap.size w w' := by
  have hu25 := Try.underlying25
  have hu27 := Try.underlying27
  have HB := Aside0.mk (Below.refl w.heap.size w)
  have H : ((spec_EdOk.f k a0_0 a0_1 a0_2 a0_3 a0_4).bind fun t326 => (if t326 = true then ((spec_l4On.f a0_0 a0_1 a0_2 a0_3 a0_4 a1_0 a1_1).bind fun t327 => (some t327)) else (some false))) = some r := h
  clear h
  replace H := Option.bind_eq_some_iff.mp H
  obtain ⟨t326, A30, H⟩ := H
  replace H : (if t326 = true then ((spec_l4On.f a0_0 a0_1 a0_2 a0_3 a0_4 a1_0 a1_1).bind fun t327 => (some t327)) else (some false)) = some r := H
  have A3 := Aside0.mk A30
  clear A30
  by_cases c4 : t326 = true
  · subst c4
    have H1 : ((spec_l4On.f a0_0 a0_1 a0_2 a0_3 a0_4 a1_0 a1_1).bind fun t327 => (some t327)) = some r := by rw [if_pos rfl] at H; exact H
    clear H
    have H := H1
    clear H1
    replace H := Option.bind_eq_some_iff.mp H
    obtain ⟨t327, A50, H⟩ := H
    replace H : (some t327) = some r := H
    have A5 := Aside0.mk A50
    clear A50
    obtain rfl := Option.some.inj H
    go_enter Try.func54, Try.ntmps54
    go_wp2_with (first | ((with_reducible refine gate_dst (N := 2) rfl ?_); refine box_event ?hg (N := 2) ?hd (cs := #[.int .i64 a0_0, .int .i64 a0_1, .int .i64 a0_2, .int .i64 a0_3, .int .i64 a0_4]) (t := 25) ?hr ?_; (case hd => rfl); (case hg => rfl); (case hr => first | (go_simp; done) | (go_simp; rfl)); intro gb324 hg w6 hbox hb; have n0_ := Aside0.mk (below_step (by repeat (first | (with_reducible first | exact HB.out | apply below_alloc | apply pw_below_drewN | apply below_drew1) | exact HB.out)) hb); have n1_ := Aside0.mk (hbox); have n2_ := Aside0.mk ((by rw [hg]; exact (below_size (by repeat (first | (with_reducible first | exact HB.out | apply below_alloc | apply pw_below_drewN | apply below_drew1) | exact HB.out))) : w.heap.size ≤ gb324)); have n3_ := Aside0.mk ((by rw [hg]; exact (below_size (by repeat (first | (with_reducible first | exact HB.out | apply below_alloc | apply pw_below_drewN | apply below_drew1) | exact HB.out))) : w.heap.size ≤ gb324)); clear HB; have HB := n0_; have BK324 := n1_; have GW324 := n2_; have GE324 := n3_; clear n0_ n1_ n2_ n3_; clear hb hbox hg) | ((with_reducible refine gate_dst (N := 3) rfl ?_); refine box_event ?hg (N := 3) ?hd (cs := #[.int .i64 a1_0, .int .i64 a1_1]) (t := 27) ?hr ?_; (case hd => rfl); (case hg => rfl); (case hr => first | (go_simp; done) | (go_simp; rfl)); intro gb325 hg w7 hbox hb; have n0_ := Aside0.mk (blk_below (g := gb324) (o := .cells #[.int .i64 a0_0, .int .i64 a0_1, .int .i64 a0_2, .int .i64 a0_3, .int .i64 a0_4] 25 (0, 0)) (by (with_reducible repeat (first | refine blk_drewN ?_ _ | refine blk_drew ?_ | refine blk_alloc ?_ _)); exact BK324.out) hb); have n1_ := Aside0.mk (below_step (by repeat (first | (with_reducible first | exact HB.out | apply below_alloc | apply pw_below_drewN | apply below_drew1 | refine below_set ?_ GE324.out) | exact HB.out)) hb); have n2_ := Aside0.mk (hbox); have n3_ := Aside0.mk ((by rw [hg]; exact (below_size (by repeat (first | (with_reducible first | exact HB.out | apply below_alloc | apply pw_below_drewN | apply below_drew1 | refine below_set ?_ GE324.out) | exact HB.out))) : w.heap.size ≤ gb325)); have n4_ := Aside0.mk ((by rw [hg]; exact (below_size (by repeat (first | (with_reducible first | exact HB.out | apply below_alloc | apply pw_below_drewN | apply below_drew1 | refine below_set ?_ GE324.out) | exact HB.out))) : w.heap.size ≤ gb325)); have n5_ := Aside0.mk ((by rw [hg]; exact Nat.ne_of_lt (blk_lt (g := gb324) (o := .cells #[.int .i64 a0_0, .int .i64 a0_1, .int .i64 a0_2, .int .i64 a0_3, .int .i64 a0_4] 25 (0, 0)) (by (with_reducible repeat (first | refine blk_drewN ?_ _ | refine blk_drew ?_ | refine blk_alloc ?_ _)); exact BK324.out)) : gb324 ≠ gb325)); have n6_ := Aside0.mk ((by rw [hg]; exact Nat.ne_of_gt (blk_lt (g := gb324) (o := .cells #[.int .i64 a0_0, .int .i64 a0_1, .int .i64 a0_2, .int .i64 a0_3, .int .i64 a0_4] 25 (0, 0)) (by (with_reducible repeat (first | refine blk_drewN ?_ _ | refine blk_drew ?_ | refine blk_alloc ?_ _)); exact BK324.out)) : gb325 ≠ gb324)); clear BK324; clear HB; have BK324 := n0_; have HB := n1_; have BK325 := n2_; have GW325 := n3_; have GE325 := n4_; have NB324_325 := n5_; have NB325_324 := n6_; clear n0_ n1_ n2_ n3_ n4_ n5_ n6_; clear hb hbox hg; have hnb8 := NB324_325.out; have hnc8 := NB325_324.out; have hcz9_0 : w7.cell? ⟨gb324, 0, none⟩ = some (.int .i64 a0_0) := (blk_cell BK324.out 0).trans rfl; have hcz9_1 : w7.cell? ⟨gb324, 1, none⟩ = some (.int .i64 a0_1) := (blk_cell BK324.out 1).trans rfl; have hcz9_2 : w7.cell? ⟨gb324, 2, none⟩ = some (.int .i64 a0_2) := (blk_cell BK324.out 2).trans rfl; have hcz9_3 : w7.cell? ⟨gb324, 3, none⟩ = some (.int .i64 a0_3) := (blk_cell BK324.out 3).trans rfl; have hcz9_4 : w7.cell? ⟨gb324, 4, none⟩ = some (.int .i64 a0_4) := (blk_cell BK324.out 4).trans rfl; have hfz9_0 := blk_frozen BK324.out 0; have hfz9_1 := blk_frozen BK324.out 1; have hfz9_2 := blk_frozen BK324.out 2; have hfz9_3 := blk_frozen BK324.out 3; have hfz9_4 := blk_frozen BK324.out 4) | ((with_reducible refine gate_callee (f := 71) rfl ?_); refine goesL_ (some 6) rfl rfl Try.func71 (by kernel_rfl) rfl #[.agg #[.int .i64 a0_0, .int .i64 a0_1, .int .i64 a0_2, .int .i64 a0_3, .int .i64 a0_4]] rfl (by (try simp only [List.map_toArray, List.map_cons, List.map_nil]); first | done | rfl | (simp only [List.length_drop, List.length_take]; rfl)) ?_; (with_reducible refine (spec_EdOk.calls k a0_0 a0_1 a0_2 a0_3 a0_4 true _ A3.out).mono ?_); rintro e w10 ⟨rfl, hb⟩; refine ⟨_, rfl, ?_⟩; have n0_ := Aside0.mk (blk_below (g := gb324) (o := .cells #[.int .i64 a0_0, .int .i64 a0_1, .int .i64 a0_2, .int .i64 a0_3, .int .i64 a0_4] 25 (0, 0)) (by (with_reducible repeat (first | refine blk_drewN ?_ _ | refine blk_drew ?_ | refine blk_alloc ?_ _)); exact BK324.out) hb); have n1_ := Aside0.mk (blk_below (g := gb325) (o := .cells #[.int .i64 a1_0, .int .i64 a1_1] 27 (0, 0)) (by (with_reducible repeat (first | refine blk_drewN ?_ _ | refine blk_drew ?_ | refine blk_alloc ?_ _)); exact BK325.out) hb); have n2_ := Aside0.mk (below_step (by repeat (first | (with_reducible first | exact HB.out | apply below_alloc | apply pw_below_drewN | apply below_drew1 | refine below_set ?_ GE324.out | refine below_set ?_ GE325.out) | exact HB.out)) hb); clear BK324; clear BK325; clear HB; have BK324 := n0_; have BK325 := n1_; have HB := n2_; clear n0_ n1_ n2_; (try clear hb); (try clear hb2); (try clear hk); (try clear hi); have hcz11_0 : w10.cell? ⟨gb324, 0, none⟩ = some (.int .i64 a0_0) := (blk_cell BK324.out 0).trans rfl; have hcz11_1 : w10.cell? ⟨gb324, 1, none⟩ = some (.int .i64 a0_1) := (blk_cell BK324.out 1).trans rfl; have hcz11_2 : w10.cell? ⟨gb324, 2, none⟩ = some (.int .i64 a0_2) := (blk_cell BK324.out 2).trans rfl; have hcz11_3 : w10.cell? ⟨gb324, 3, none⟩ = some (.int .i64 a0_3) := (blk_cell BK324.out 3).trans rfl; have hcz11_4 : w10.cell? ⟨gb324, 4, none⟩ = some (.int .i64 a0_4) := (blk_cell BK324.out 4).trans rfl; have hfz11_0 := blk_frozen BK324.out 0; have hfz11_1 := blk_frozen BK324.out 1; have hfz11_2 := blk_frozen BK324.out 2; have hfz11_3 := blk_frozen BK324.out 3; have hfz11_4 := blk_frozen BK324.out 4; have hcz12_0 : w10.cell? ⟨gb325, 0, none⟩ = some (.int .i64 a1_0) := (blk_cell BK325.out 0).trans rfl; have hcz12_1 : w10.cell? ⟨gb325, 1, none⟩ = some (.int .i64 a1_1) := (blk_cell BK325.out 1).trans rfl; have hfz12_0 := blk_frozen BK325.out 0; have hfz12_1 := blk_frozen BK325.out 1) | (go_at_call 57; (with_reducible refine (spec_l4On.calls a0_0 a0_1 a0_2 a0_3 a0_4 a1_0 a1_1 t327 _ A5.out).mono ?_); rintro e w13 ⟨rfl, hb⟩; have n0_ := Aside0.mk (blk_below (g := gb324) (o := .cells #[.int .i64 a0_0, .int .i64 a0_1, .int .i64 a0_2, .int .i64 a0_3, .int .i64 a0_4] 25 (0, 0)) (by (with_reducible repeat (first | refine blk_drewN ?_ _ | refine blk_drew ?_ | refine blk_alloc ?_ _)); exact BK324.out) hb); have n1_ := Aside0.mk (blk_below (g := gb325) (o := .cells #[.int .i64 a1_0, .int .i64 a1_1] 27 (0, 0)) (by (with_reducible repeat (first | refine blk_drewN ?_ _ | refine blk_drew ?_ | refine blk_alloc ?_ _)); exact BK325.out) hb); have n2_ := Aside0.mk (below_step (by repeat (first | (with_reducible first | exact HB.out | apply below_alloc | apply pw_below_drewN | apply below_drew1 | refine below_set ?_ GE324.out | refine below_set ?_ GE325.out) | exact HB.out)) hb); clear BK324; clear BK325; clear HB; have BK324 := n0_; have BK325 := n1_; have HB := n2_; clear n0_ n1_ n2_; (try clear hb); (try clear hb2); (try clear hk); (try clear hi)))
    go_ret
    exact ⟨by first | rfl | (simp [errW_none, errW_some] <;> rfl) | (simp [*, errW_none, errW_some] <;> rfl), by repeat (first | (with_reducible first | exact HB.out | apply below_alloc | apply pw_below_drewN | apply below_drew1 | refine below_set ?_ GE324.out | refine below_set ?_ GE325.out) | exact HB.out)⟩
  · replace c4 := Bool.eq_false_iff.mpr c4
    subst c4
    have H1 : (some false) = some r := by rw [if_neg (show ¬ (false = true) by decide)] at H; exact H
    clear H
    have H := H1
    clear H1
    obtain rfl := Option.some.inj H
    go_enter Try.func54, Try.ntmps54
    go_wp2_with (first | ((with_reducible refine gate_dst (N := 2) rfl ?_); refine box_event ?hg (N := 2) ?hd (cs := #[.int .i64 a0_0, .int .i64 a0_1, .int .i64 a0_2, .int .i64 a0_3, .int .i64 a0_4]) (t := 25) ?hr ?_; (case hd => rfl); (case hg => rfl); (case hr => first | (go_simp; done) | (go_simp; rfl)); intro gb324 hg w14 hbox hb; have n0_ := Aside0.mk (below_step (by repeat (first | (with_reducible first | exact HB.out | apply below_alloc | apply pw_below_drewN | apply below_drew1) | exact HB.out)) hb); have n1_ := Aside0.mk (hbox); have n2_ := Aside0.mk ((by rw [hg]; exact (below_size (by repeat (first | (with_reducible first | exact HB.out | apply below_alloc | apply pw_below_drewN | apply below_drew1) | exact HB.out))) : w.heap.size ≤ gb324)); have n3_ := Aside0.mk ((by rw [hg]; exact (below_size (by repeat (first | (with_reducible first | exact HB.out | apply below_alloc | apply pw_below_drewN | apply below_drew1) | exact HB.out))) : w.heap.size ≤ gb324)); clear HB; have HB := n0_; have BK324 := n1_; have GW324 := n2_; have GE324 := n3_; clear n0_ n1_ n2_ n3_; clear hb hbox hg) | ((with_reducible refine gate_dst (N := 3) rfl ?_); refine box_event ?hg (N := 3) ?hd (cs := #[.int .i64 a1_0, .int .i64 a1_1]) (t := 27) ?hr ?_; (case hd => rfl); (case hg => rfl); (case hr => first | (go_simp; done) | (go_simp; rfl)); intro gb325 hg w15 hbox hb; have n0_ := Aside0.mk (blk_below (g := gb324) (o := .cells #[.int .i64 a0_0, .int .i64 a0_1, .int .i64 a0_2, .int .i64 a0_3, .int .i64 a0_4] 25 (0, 0)) (by (with_reducible repeat (first | refine blk_drewN ?_ _ | refine blk_drew ?_ | refine blk_alloc ?_ _)); exact BK324.out) hb); have n1_ := Aside0.mk (below_step (by repeat (first | (with_reducible first | exact HB.out | apply below_alloc | apply pw_below_drewN | apply below_drew1 | refine below_set ?_ GE324.out) | exact HB.out)) hb); have n2_ := Aside0.mk (hbox); have n3_ := Aside0.mk ((by rw [hg]; exact (below_size (by repeat (first | (with_reducible first | exact HB.out | apply below_alloc | apply pw_below_drewN | apply below_drew1 | refine below_set ?_ GE324.out) | exact HB.out))) : w.heap.size ≤ gb325)); have n4_ := Aside0.mk ((by rw [hg]; exact (below_size (by repeat (first | (with_reducible first | exact HB.out | apply below_alloc | apply pw_below_drewN | apply below_drew1 | refine below_set ?_ GE324.out) | exact HB.out))) : w.heap.size ≤ gb325)); have n5_ := Aside0.mk ((by rw [hg]; exact Nat.ne_of_lt (blk_lt (g := gb324) (o := .cells #[.int .i64 a0_0, .int .i64 a0_1, .int .i64 a0_2, .int .i64 a0_3, .int .i64 a0_4] 25 (0, 0)) (by (with_reducible repeat (first | refine blk_drewN ?_ _ | refine blk_drew ?_ | refine blk_alloc ?_ _)); exact BK324.out)) : gb324 ≠ gb325)); have n6_ := Aside0.mk ((by rw [hg]; exact Nat.ne_of_gt (blk_lt (g := gb324) (o := .cells #[.int .i64 a0_0, .int .i64 a0_1, .int .i64 a0_2, .int .i64 a0_3, .int .i64 a0_4] 25 (0, 0)) (by (with_reducible repeat (first | refine blk_drewN ?_ _ | refine blk_drew ?_ | refine blk_alloc ?_ _)); exact BK324.out)) : gb325 ≠ gb324)); clear BK324; clear HB; have BK324 := n0_; have HB := n1_; have BK325 := n2_; have GW325 := n3_; have GE325 := n4_; have NB324_325 := n5_; have NB325_324 := n6_; clear n0_ n1_ n2_ n3_ n4_ n5_ n6_; clear hb hbox hg; have hnb16 := NB324_325.out; have hnc16 := NB325_324.out; have hcz17_0 : w15.cell? ⟨gb324, 0, none⟩ = some (.int .i64 a0_0) := (blk_cell BK324.out 0).trans rfl; have hcz17_1 : w15.cell? ⟨gb324, 1, none⟩ = some (.int .i64 a0_1) := (blk_cell BK324.out 1).trans rfl; have hcz17_2 : w15.cell? ⟨gb324, 2, none⟩ = some (.int .i64 a0_2) := (blk_cell BK324.out 2).trans rfl; have hcz17_3 : w15.cell? ⟨gb324, 3, none⟩ = some (.int .i64 a0_3) := (blk_cell BK324.out 3).trans rfl; have hcz17_4 : w15.cell? ⟨gb324, 4, none⟩ = some (.int .i64 a0_4) := (blk_cell BK324.out 4).trans rfl; have hfz17_0 := blk_frozen BK324.out 0; have hfz17_1 := blk_frozen BK324.out 1; have hfz17_2 := blk_frozen BK324.out 2; have hfz17_3 := blk_frozen BK324.out 3; have hfz17_4 := blk_frozen BK324.out 4) | ((with_reducible refine gate_callee (f := 71) rfl ?_); refine goesL_ (some 6) rfl rfl Try.func71 (by kernel_rfl) rfl #[.agg #[.int .i64 a0_0, .int .i64 a0_1, .int .i64 a0_2, .int .i64 a0_3, .int .i64 a0_4]] rfl (by (try simp only [List.map_toArray, List.map_cons, List.map_nil]); first | done | rfl | (simp only [List.length_drop, List.length_take]; rfl)) ?_; (with_reducible refine (spec_EdOk.calls k a0_0 a0_1 a0_2 a0_3 a0_4 false _ A3.out).mono ?_); rintro e w18 ⟨rfl, hb⟩; refine ⟨_, rfl, ?_⟩; have n0_ := Aside0.mk (blk_below (g := gb324) (o := .cells #[.int .i64 a0_0, .int .i64 a0_1, .int .i64 a0_2, .int .i64 a0_3, .int .i64 a0_4] 25 (0, 0)) (by (with_reducible repeat (first | refine blk_drewN ?_ _ | refine blk_drew ?_ | refine blk_alloc ?_ _)); exact BK324.out) hb); have n1_ := Aside0.mk (blk_below (g := gb325) (o := .cells #[.int .i64 a1_0, .int .i64 a1_1] 27 (0, 0)) (by (with_reducible repeat (first | refine blk_drewN ?_ _ | refine blk_drew ?_ | refine blk_alloc ?_ _)); exact BK325.out) hb); have n2_ := Aside0.mk (below_step (by repeat (first | (with_reducible first | exact HB.out | apply below_alloc | apply pw_below_drewN | apply below_drew1 | refine below_set ?_ GE324.out | refine below_set ?_ GE325.out) | exact HB.out)) hb); clear BK324; clear BK325; clear HB; have BK324 := n0_; have BK325 := n1_; have HB := n2_; clear n0_ n1_ n2_; (try clear hb); (try clear hb2); (try clear hk); (try clear hi)))
    go_ret
    exact ⟨by first | rfl | (simp [errW_none, errW_some] <;> rfl) | (simp [*, errW_none, errW_some] <;> rfl), by repeat (first | (with_reducible first | exact HB.out | apply below_alloc | apply pw_below_drewN | apply below_drew1 | refine below_set ?_ GE324.out | refine below_set ?_ GE325.out) | exact HB.out)⟩

attribute [local go_sem] fld_
/-! ### spec_EdBytes: function 34 -/
def spec_EdBytes.f (k : Nat) (a0_0 : Int) (a0_1 : Int) (a0_2 : Int) (a0_3 : Int) (a0_4 : Int) (a1_0 : Int) (a1_1 : Int) : Option (List Int × Bool) := (spec_PairOk.f k a0_0 a0_1 a0_2 a0_3 a0_4 a1_0 a1_1).bind fun t330 => (if t330 = true then (some ((([(a1_1) % 256, (a1_1 / 256) % 256, (wrap64 ((a1_1 / 65536) + (wrap64 (128 * (Int.tmod a1_0 2))))) % 256] : List Int)), true)) else (some ((([] : List Int)), false)))
theorem spec_EdBytes.mono : ∀ a0 a1 a2 a3 a4 a5 a6 k, LeO (spec_EdBytes.f k a0 a1 a2 a3 a4 a5 a6) (spec_EdBytes.f (k + 1) a0 a1 a2 a3 a4 a5 a6) := by
 intro a0 a1 a2 a3 a4 a5 a6 k
 unfold spec_EdBytes.f
 repeat' first
   | (with_reducible exact spec_PairOk.mono _ _ _ _ _ _ _ _)
   | (with_reducible exact LeO.refl _)
   | (with_reducible exact LeO.none _)
   | (with_reducible refine LeO.ite ?_ ?_)
   | (with_reducible refine LeO.bind ?_ (fun _ => ?_))
   | exact spec_PairOk.mono _ _ _ _ _ _ _ _
   | exact LeO.none _
   | refine LeO.ite ?_ ?_
   | refine LeO.bind ?_ (fun _ => ?_)
set_option maxHeartbeats 8000000 in
set_option maxRecDepth 100000 in
theorem spec_EdBytes.calls (k : Nat) (a0_0 : Int) (a0_1 : Int) (a0_2 : Int) (a0_3 : Int) (a0_4 : Int) (a1_0 : Int) (a1_1 : Int) (r1 : List Int) (r2 : Bool) (w : World) (h : spec_EdBytes.f k a0_0 a0_1 a0_2 a0_3 a0_4 a1_0 a1_1 = some (r1, r2)) :
  Calls Try.prog 34 #[.agg #[.int .i64 a0_0, .int .i64 a0_1, .int .i64 a0_2, .int .i64 a0_3, .int .i64 a0_4], .agg #[.int .i64 a1_0, .int .i64 a1_1]] w fun e w' => ∃ v0_ : Value, e = .returned (.tuple #[v0_, .bool r2]) ∧ Kd.R (Kd.int .u8) 5 w' w.heap.size (fun _ => True) v0_ r1 ∧ Below w.heap.size w w' := by
 have hu25 := Try.underlying25; have hu27 := Try.underlying27; have HB := Aside0.mk (Below.refl w.heap.size w)
 have H : ((spec_PairOk.f k a0_0 a0_1 a0_2 a0_3 a0_4 a1_0 a1_1).bind fun t330 => (if t330 = true then (some ((([(a1_1) % 256, (a1_1 / 256) % 256, (wrap64 ((a1_1 / 65536) + (wrap64 (128 * (Int.tmod a1_0 2))))) % 256] : List Int)), true)) else (some ((([] : List Int)), false)))) = some (r1, r2) := h
 clear h; obtain ⟨t330, A30, H⟩ := pb_ H
 have A3 := Aside0.mk A30; clear A30
 by_cases c4 : t330 = true
 ·
  subst c4
  rw [if_pos rfl] at H; obtain ⟨y331, hy331⟩ : ∃ y_ : List Int, y_ = (([(a1_1) % 256, (a1_1 / 256) % 256, (wrap64 ((a1_1 / 65536) + (wrap64 (128 * (Int.tmod a1_0 2))))) % 256] : List Int)) := ⟨_, rfl⟩
  replace H : (some (y331, true)) = some (r1, r2) := by first | (rw [hy331]; with_reducible exact H) | (have H2_ := (Option.bind_some _ _).symm.trans H; rw [hy331]; with_reducible exact H2_) | (have H2_ := (Option.bind_some _ _).symm.trans H; with_reducible exact H2_) | with_reducible exact H | (rw [hy331]; exact H) | exact H
  have Ny331 := Aside0.mk hy331; clear hy331
  simp only [Option.some.injEq, Prod.mk.injEq] at H
  obtain ⟨rfl, rfl⟩ := H
  go_enter Try.func34, Try.ntmps34
  go_wp2_with (first | ((with_reducible refine gate_dst (N := 2) rfl ?_); refine box_event ?hg (N := 2) ?hd (cs := #[.int .i64 a0_0, .int .i64 a0_1, .int .i64 a0_2, .int .i64 a0_3, .int .i64 a0_4]) (t := 25) ?hr ?_; (case hd => rfl); (case hg => rfl); (case hr => first | (go_simp; done) | (go_simp; rfl)); intro gb328 hg w5 hbox hb; have BK328 := Aside0.mk hbox; have GW328 := ge_ HB hg; have GE328 := ge_ HB hg; replace HB := bs_ HB hb; clear hb hbox hg) | ((with_reducible refine gate_dst (N := 3) rfl ?_); refine box_event ?hg (N := 3) ?hd (cs := #[.int .i64 a1_0, .int .i64 a1_1]) (t := 27) ?hr ?_; (case hd => rfl); (case hg => rfl); (case hr => first | (go_simp; done) | (go_simp; rfl)); intro gb329 hg w6 hbox hb; have BK329 := Aside0.mk hbox; have GW329 := ge_ HB hg; have GE329 := ge_ HB hg; have NB328_329 := nl_ BK328 hg; have NB329_328 := nr_ BK328 hg; replace BK328 := bb_ BK328 hb; replace HB := bs_ HB hb; clear hb hbox hg; obtain ⟨hnb7, hnc7⟩ := nn_ NB328_329; obtain ⟨hcz8_0, hcz8_1, hcz8_2, hcz8_3, hcz8_4, hfz8_0, hfz8_1, hfz8_2, hfz8_3, hfz8_4⟩ := bx5_ BK328; have hcz9_0 : w6.cell? ⟨gb329, 0, none⟩ = some (.int .i64 a1_0) := bc_ BK329 0; have hcz9_1 : w6.cell? ⟨gb329, 1, none⟩ = some (.int .i64 a1_1) := bc_ BK329 1; have hfz9_0 := blk_frozen BK329.out 0; have hfz9_1 := blk_frozen BK329.out 1) | ((with_reducible refine gate_callee (f := 54) rfl ?_); refine gl_ 8 rfl rfl Try.func54 #[.agg #[.int .i64 a0_0, .int .i64 a0_1, .int .i64 a0_2, .int .i64 a0_3, .int .i64 a0_4], .agg #[.int .i64 a1_0, .int .i64 a1_1]] rfl ?_; (with_reducible refine (spec_PairOk.calls k a0_0 a0_1 a0_2 a0_3 a0_4 a1_0 a1_1 true _ A3.out).mono ?_); rintro e w10 ⟨rfl, hb⟩; refine ⟨_, rfl, ?_⟩; replace BK328 := bb_ BK328 hb; replace BK329 := bb_ BK329 hb; replace HB := bs_ HB hb; (try clear hb); (try clear hb2); (try clear hk); (try clear hi); have hcz11_0 : w10.cell? ⟨gb329, 0, none⟩ = some (.int .i64 a1_0) := bc_ BK329 0; have hcz11_1 : w10.cell? ⟨gb329, 1, none⟩ = some (.int .i64 a1_1) := bc_ BK329 1; have hfz11_0 := blk_frozen BK329.out 0; have hfz11_1 := blk_frozen BK329.out 1) | ((with_reducible refine gate_dst (N := 27) rfl ?_); refine Kd.R_lit (Kd.int .u8) _ 5 ?hg (N := 27) ?hd (xs := ([(a1_1) % 256, (a1_1 / 256) % 256, (wrap64 ((a1_1 / 65536) + (wrap64 (128 * (Int.tmod a1_0 2))))) % 256] : List Int)) (inner := [.int .u8 ((a1_1) % 256), .int .u8 ((a1_1 / 256) % 256), .int .u8 ((wrap64 ((a1_1 / 65536) + (wrap64 (128 * (Int.tmod a1_0 2))))) % 256)]) (ok := fun _ => True) (okp := fun _ => True) ?hr ?hp (fun _ hk => hk) trivial (Below.refl _ _) (Nat.le_refl _) (by simp) ?_; (case hd => rfl); (case hg => rfl); (case hr => first | (go_simp; done) | (go_simp; rfl)); (case hp => exact (Reps.one (show Kd.M (Kd.int .u8) _ _ _ ((a1_1) % 256) [.int .u8 ((a1_1) % 256)] from rfl) (Reps.one (show Kd.M (Kd.int .u8) _ _ _ ((a1_1 / 256) % 256) [.int .u8 ((a1_1 / 256) % 256)] from rfl) (Reps.one (show Kd.M (Kd.int .u8) _ _ _ ((wrap64 ((a1_1 / 65536) + (wrap64 (128 * (Int.tmod a1_0 2))))) % 256) [.int .u8 ((wrap64 ((a1_1 / 65536) + (wrap64 (128 * (Int.tmod a1_0 2))))) % 256)] from rfl) (Reps.none _ _))))); intro v332 w12 ho13 hb hg_ hnew_; clear hg_ hnew_; (first | rw [← Ny331.out] at ho13 | (simp only [Int.reduceToNat] at ho13; rw [← Ny331.out] at ho13)); have HO333 := Aside0.mk (Kd.R_lower ho13 (below_size (bw_ HB))); replace BK328 := bb_ BK328 hb; replace BK329 := bb_ BK329 hb; replace HB := bs_ HB hb; clear hb ho13))
  go_ret2
  exact ⟨_, by first | rfl | (simp [errW_none, errW_some] <;> rfl) | (simp [*, errW_none, errW_some] <;> rfl), by (with_reducible repeat (first | apply Kd.R_alloc | apply Kd.R_drewN | apply Kd.R_drew)); exact HO333.out, by repeat (first | (with_reducible first | exact HB.out | apply below_alloc | apply pw_below_drewN | apply below_drew1 | refine below_set ?_ GE328.out | refine below_set ?_ GE329.out) | exact HB.out)⟩
 ·
  replace c4 := Bool.eq_false_iff.mpr c4; subst c4
  rw [if_neg (show ¬ (false = true) by decide)] at H; obtain ⟨y334, hy334⟩ : ∃ y_ : List Int, y_ = (([] : List Int)) := ⟨_, rfl⟩
  replace H : (some (y334, false)) = some (r1, r2) := by first | (rw [hy334]; with_reducible exact H) | (have H2_ := (Option.bind_some _ _).symm.trans H; rw [hy334]; with_reducible exact H2_) | (have H2_ := (Option.bind_some _ _).symm.trans H; with_reducible exact H2_) | with_reducible exact H | (rw [hy334]; exact H) | exact H
  have Ny334 := Aside0.mk hy334; clear hy334
  simp only [Option.some.injEq, Prod.mk.injEq] at H
  obtain ⟨rfl, rfl⟩ := H
  go_enter Try.func34, Try.ntmps34
  go_wp2_with (first | ((with_reducible refine gate_dst (N := 2) rfl ?_); refine box_event ?hg (N := 2) ?hd (cs := #[.int .i64 a0_0, .int .i64 a0_1, .int .i64 a0_2, .int .i64 a0_3, .int .i64 a0_4]) (t := 25) ?hr ?_; (case hd => rfl); (case hg => rfl); (case hr => first | (go_simp; done) | (go_simp; rfl)); intro gb328 hg w14 hbox hb; have BK328 := Aside0.mk hbox; have GW328 := ge_ HB hg; have GE328 := ge_ HB hg; replace HB := bs_ HB hb; clear hb hbox hg) | ((with_reducible refine gate_dst (N := 3) rfl ?_); refine box_event ?hg (N := 3) ?hd (cs := #[.int .i64 a1_0, .int .i64 a1_1]) (t := 27) ?hr ?_; (case hd => rfl); (case hg => rfl); (case hr => first | (go_simp; done) | (go_simp; rfl)); intro gb329 hg w15 hbox hb; have BK329 := Aside0.mk hbox; have GW329 := ge_ HB hg; have GE329 := ge_ HB hg; have NB328_329 := nl_ BK328 hg; have NB329_328 := nr_ BK328 hg; replace BK328 := bb_ BK328 hb; replace HB := bs_ HB hb; clear hb hbox hg; obtain ⟨hnb16, hnc16⟩ := nn_ NB328_329; obtain ⟨hcz17_0, hcz17_1, hcz17_2, hcz17_3, hcz17_4, hfz17_0, hfz17_1, hfz17_2, hfz17_3, hfz17_4⟩ := bx5_ BK328; have hcz18_0 : w15.cell? ⟨gb329, 0, none⟩ = some (.int .i64 a1_0) := bc_ BK329 0; have hcz18_1 : w15.cell? ⟨gb329, 1, none⟩ = some (.int .i64 a1_1) := bc_ BK329 1; have hfz18_0 := blk_frozen BK329.out 0; have hfz18_1 := blk_frozen BK329.out 1) | ((with_reducible refine gate_callee (f := 54) rfl ?_); refine gl_ 8 rfl rfl Try.func54 #[.agg #[.int .i64 a0_0, .int .i64 a0_1, .int .i64 a0_2, .int .i64 a0_3, .int .i64 a0_4], .agg #[.int .i64 a1_0, .int .i64 a1_1]] rfl ?_; (with_reducible refine (spec_PairOk.calls k a0_0 a0_1 a0_2 a0_3 a0_4 a1_0 a1_1 false _ A3.out).mono ?_); rintro e w19 ⟨rfl, hb⟩; refine ⟨_, rfl, ?_⟩; replace BK328 := bb_ BK328 hb; replace BK329 := bb_ BK329 hb; replace HB := bs_ HB hb; (try clear hb); (try clear hb2); (try clear hk); (try clear hi)) | ((with_reducible refine gate_dst (N := 10) rfl ?_); refine Kd.R_lit (Kd.int .u8) _ 5 ?hg (N := 10) ?hd (xs := ([] : List Int)) (inner := []) (ok := fun _ => True) (okp := fun _ => True) ?hr ?hp (fun _ hk => hk) trivial (Below.refl _ _) (Nat.le_refl _) (by simp) ?_; (case hd => rfl); (case hg => rfl); (case hr => first | (go_simp; done) | (go_simp; rfl)); (case hp => exact (Reps.none _ _)); intro v335 w20 ho21 hb hg_ hnew_; clear hg_ hnew_; (first | rw [← Ny334.out] at ho21 | (simp only [Int.reduceToNat] at ho21; rw [← Ny334.out] at ho21)); have HO336 := Aside0.mk (Kd.R_lower ho21 (below_size (bw_ HB))); replace BK328 := bb_ BK328 hb; replace BK329 := bb_ BK329 hb; replace HB := bs_ HB hb; clear hb ho21))
  go_ret2
  exact ⟨_, by first | rfl | (simp [errW_none, errW_some] <;> rfl) | (simp [*, errW_none, errW_some] <;> rfl), by (with_reducible repeat (first | apply Kd.R_alloc | apply Kd.R_drewN | apply Kd.R_drew)); exact HO336.out, by repeat (first | (with_reducible first | exact HB.out | apply below_alloc | apply pw_below_drewN | apply below_drew1 | refine below_set ?_ GE328.out | refine below_set ?_ GE329.out) | exact HB.out)⟩

end Go.Proofs.Ytfdlblckmlbhoaa.PFnTwisted
