-- Written for this claim by a program of this session.
import Derived.Test.YtadmkolopcdffabPFnExactEdAddx0
import Derived.Test.YtadmkolopcdffabPFnExactEdAddx5
namespace Go.Proofs.Ytadmkolopcdffab.PFnExactEdAdd
open Go.RowKit Go.Proofs.YtadmkolopcdffabW.PrintWords Go.Proofs.YtadmkolopcdffabW.PrintLast Go.Proofs.YtadmkolopcdffabW.PrintMore
attribute [local go_sem] max2_int min2_int max_two min_two max_three min_three max_four min_four   -- for this text's walks alone
set_option linter.unusedVariables false
set_option linter.unusedSimpArgs false

/-! ### impl_InvInt: function 50 -/
def impl_InvInt.l0 : Nat → Int → Int → Int → Int → Int → Option (Int × Bool)
  | 0, _, _, _, _, _ => none
  | k + 1, x1, x6, x7, x8, x9 => if x7 = 0 then (if x6 = 1 then ((impl_rest.f x8 x1).bind fun t166 => (some (t166, true))) else (some (0, false))) else (impl_InvInt.l0 k x1 x7 (Int.tmod x6 x7) x9 (wrap64 (x8 - (wrap64 ((wrap64 (Int.tdiv x6 x7)) * x9)))))
def impl_InvInt.f (k : Nat) (a0 : Int) (a1 : Int) : Option (Int × Bool) := (impl_within.f a1 2 1073741824).bind fun t164 => (if t164 = true then ((impl_rest.f a0 a1).bind fun t165 => (impl_InvInt.l0 k a1 a1 t165 0 1)) else (some (0, false)))
theorem impl_InvInt.mono_l : ∀ k, (∀ y0 y1 y2 y3 y4, LeO (impl_InvInt.l0 k y0 y1 y2 y3 y4) (impl_InvInt.l0 (k + 1) y0 y1 y2 y3 y4))
  | 0 => fun _ _ _ _ _ r h => by simp [impl_InvInt.l0] at h
  | k + 1 => by
    have ih0 := impl_InvInt.mono_l k
    · intro y0 y1 y2 y3 y4
      unfold impl_InvInt.l0
      repeat' first
      | (with_reducible exact ih0 _ _ _ _ _)
      | (with_reducible exact LeO.refl _)
      | (with_reducible exact LeO.none _)
      | (with_reducible refine LeO.ite ?_ ?_)
      | (with_reducible refine LeO.bind ?_ (fun _ => ?_))
      | exact ih0 _ _ _ _ _
      | exact LeO.none _
      | refine LeO.ite ?_ ?_
      | refine LeO.bind ?_ (fun _ => ?_)
theorem impl_InvInt.mono : ∀ a0 a1 k, LeO (impl_InvInt.f k a0 a1) (impl_InvInt.f (k + 1) a0 a1) := by
  intro a0 a1 k
  have ih0 := impl_InvInt.mono_l k
  unfold impl_InvInt.f
  repeat' first
      | (with_reducible exact ih0 _ _ _ _ _)
      | (with_reducible exact LeO.refl _)
      | (with_reducible exact LeO.none _)
      | (with_reducible refine LeO.ite ?_ ?_)
      | (with_reducible refine LeO.bind ?_ (fun _ => ?_))
      | exact ih0 _ _ _ _ _
      | exact LeO.none _
      | refine LeO.ite ?_ ?_
      | refine LeO.bind ?_ (fun _ => ?_)
set_option maxHeartbeats 8000000 in
set_option maxRecDepth 100000 in
theorem impl_InvInt.calls (k : Nat) (a0 : Int) (a1 : Int) (r1 : Int) (r2 : Bool) (w : World) (h : impl_InvInt.f k a0 a1 = some (r1, r2)) :
    Calls Try.prog 50 #[.int .i64 a0, .int .i64 a1] w fun e w' => e = .returned (.tuple #[.int .i64 r1, .bool r2]) ∧ Drawn0 w w' := by
  have H : ((impl_within.f a1 2 1073741824).bind fun t164 => (if t164 = true then ((impl_rest.f a0 a1).bind fun t165 => (impl_InvInt.l0 k a1 a1 t165 0 1)) else (some (0, false)))) = some (r1, r2) := h
  clear h
  replace H := Option.bind_eq_some_iff.mp H
  obtain ⟨t164, A30, H⟩ := H
  replace H : (if t164 = true then ((impl_rest.f a0 a1).bind fun t165 => (impl_InvInt.l0 k a1 a1 t165 0 1)) else (some (0, false))) = some (r1, r2) := H
  have A3 := Aside0.mk A30
  clear A30
  by_cases c4 : t164 = true
  · subst c4
    have H1 : ((impl_rest.f a0 a1).bind fun t165 => (impl_InvInt.l0 k a1 a1 t165 0 1)) = some (r1, r2) := by rw [if_pos rfl] at H; exact H
    clear H
    have H := H1
    clear H1
    replace H := Option.bind_eq_some_iff.mp H
    obtain ⟨t165, A50, H⟩ := H
    replace H : (impl_InvInt.l0 k a1 a1 t165 0 1) = some (r1, r2) := H
    have A5 := Aside0.mk A50
    clear A50
    have H' := Aside0.mk H
    clear H
    go_enter Try.func50, Try.ntmps50
    go_wp2_with (first | (go_at_call 36; (with_reducible refine (impl_within.calls a1 2 1073741824 true _ A3.out).mono ?_); rintro e w' ⟨rfl, ⟨nd, rfl⟩⟩; (try first | exact ⟨rfl, _, World.drewN_drewN _ _ _⟩ | exact ⟨rfl, _, Eq.trans (World.drewN_drewN _ _ _) (congrArg (World.drewN _) (Nat.add_assoc _ _ _))⟩)) | (go_at_call 49; (with_reducible refine (impl_rest.calls a0 a1 t165 _ A5.out).mono ?_); rintro e w' ⟨rfl, ⟨nd, rfl⟩⟩; (try first | exact ⟨rfl, _, World.drewN_drewN _ _ _⟩ | exact ⟨rfl, _, Eq.trans (World.drewN_drewN _ _ _) (congrArg (World.drewN _) (Nat.add_assoc _ _ _))⟩)))
    repeat (go_quiet (first | (go_at_call 36; (with_reducible refine (impl_within.calls a1 2 1073741824 true _ A3.out).mono ?_); rintro e w' ⟨rfl, ⟨nd, rfl⟩⟩; (try first | exact ⟨rfl, _, World.drewN_drewN _ _ _⟩ | exact ⟨rfl, _, Eq.trans (World.drewN_drewN _ _ _) (congrArg (World.drewN _) (Nat.add_assoc _ _ _))⟩)) | (go_at_call 49; (with_reducible refine (impl_rest.calls a0 a1 t165 _ A5.out).mono ?_); rintro e w' ⟨rfl, ⟨nd, rfl⟩⟩; (try first | exact ⟨rfl, _, World.drewN_drewN _ _ _⟩ | exact ⟨rfl, _, Eq.trans (World.drewN_drewN _ _ _) (congrArg (World.drewN _) (Nat.add_assoc _ _ _))⟩))); try go_wp2_with (first | (go_at_call 36; (with_reducible refine (impl_within.calls a1 2 1073741824 true _ A3.out).mono ?_); rintro e w' ⟨rfl, ⟨nd, rfl⟩⟩; (try first | exact ⟨rfl, _, World.drewN_drewN _ _ _⟩ | exact ⟨rfl, _, Eq.trans (World.drewN_drewN _ _ _) (congrArg (World.drewN _) (Nat.add_assoc _ _ _))⟩)) | (go_at_call 49; (with_reducible refine (impl_rest.calls a0 a1 t165 _ A5.out).mono ?_); rintro e w' ⟨rfl, ⟨nd, rfl⟩⟩; (try first | exact ⟨rfl, _, World.drewN_drewN _ _ _⟩ | exact ⟨rfl, _, Eq.trans (World.drewN_drewN _ _ _) (congrArg (World.drewN _) (Nat.add_assoc _ _ _))⟩))))
    go_loopg [6, 7, 8, 9] k (fun kq v6 v7 v8 v9 w' => ∃ (x6_1 : Int) (x7_1 : Int) (x8_1 : Int) (x9_1 : Int), v6 = .int .i64 x6_1 ∧ v7 = .int .i64 x7_1 ∧ v8 = .int .i64 x8_1 ∧ v9 = .int .i64 x9_1 ∧ Aside0 (impl_InvInt.l0 kq a1 x6_1 x7_1 x8_1 x9_1 = some (r1, r2)) ∧ Aside0 (kq ≤ k) ∧ Drawn0 w w')
    case atStart => exact ⟨(a1), (t165), (0), (1), (by first | rfl | (simp; done) | (simp [*]; done)), (by first | rfl | (simp; done) | (simp [*]; done)), (by first | rfl | (simp; done) | (simp [*]; done)), (by first | rfl | (simp; done) | (simp [*]; done)), H', ⟨Nat.le_refl _⟩, by repeat (first | exact Drawn0.refl _ | apply Drawn0.step)⟩
    case round =>
      clear H'
      try clear p2
      try clear c4
      try clear c5
      obtain ⟨x6_1, x7_1, x8_1, x9_1, rfl, rfl, rfl, rfl, HA, HK1, ⟨m1, rfl⟩⟩ := hrel
      cases gk with
      | zero => exact absurd HA.out (by simp [impl_InvInt.l0])
      | succ k1 =>
        have H := HA.out
        clear HA
        simp only [impl_InvInt.l0] at H
        by_cases c6 : x7_1 = 0
        · rw [if_pos c6] at H
          have c6b0 : (x7_1 == 0) = true := beq_iff_eq.mpr c6
          have c6b1 : (x7_1 != 0) = false := bne_eq_false_iff_eq.mpr c6
          clear c6
          by_cases c7 : x6_1 = 1
          · rw [if_pos c7] at H
            have c7b0 : (x6_1 == 1) = true := beq_iff_eq.mpr c7
            have c7b1 : (x6_1 != 1) = false := bne_eq_false_iff_eq.mpr c7
            clear c7
            replace H := Option.bind_eq_some_iff.mp H
            obtain ⟨t166, A80, H⟩ := H
            replace H : (some (t166, true)) = some (r1, r2) := H
            have A8 := Aside0.mk A80
            clear A80
            simp only [Option.some.injEq, Prod.mk.injEq] at H
            obtain ⟨rfl, rfl⟩ := H
            go_wp2_with (first | (go_at_call 49; (with_reducible refine (impl_rest.calls x8_1 a1 t166 _ A8.out).mono ?_); rintro e w' ⟨rfl, ⟨nd, rfl⟩⟩; (try first | exact ⟨rfl, _, World.drewN_drewN _ _ _⟩ | exact ⟨rfl, _, Eq.trans (World.drewN_drewN _ _ _) (congrArg (World.drewN _) (Nat.add_assoc _ _ _))⟩)))
            repeat (go_quiet (first | (go_at_call 49; (with_reducible refine (impl_rest.calls x8_1 a1 t166 _ A8.out).mono ?_); rintro e w' ⟨rfl, ⟨nd, rfl⟩⟩; (try first | exact ⟨rfl, _, World.drewN_drewN _ _ _⟩ | exact ⟨rfl, _, Eq.trans (World.drewN_drewN _ _ _) (congrArg (World.drewN _) (Nat.add_assoc _ _ _))⟩))); try go_wp2_with (first | (go_at_call 49; (with_reducible refine (impl_rest.calls x8_1 a1 t166 _ A8.out).mono ?_); rintro e w' ⟨rfl, ⟨nd, rfl⟩⟩; (try first | exact ⟨rfl, _, World.drewN_drewN _ _ _⟩ | exact ⟨rfl, _, Eq.trans (World.drewN_drewN _ _ _) (congrArg (World.drewN _) (Nat.add_assoc _ _ _))⟩))))
            go_ret2
            exact ⟨by first | rfl | (simp; done) | (simp [*]; done), by repeat (first | exact Drawn0.refl _ | apply Drawn0.step)⟩
          · rw [if_neg c7] at H
            have c7b0 : (x6_1 == 1) = false := beq_eq_false_iff_ne.mpr c7
            have c7b1 : (x6_1 != 1) = true := bne_iff_ne.mpr c7
            simp only [Option.some.injEq, Prod.mk.injEq] at H
            obtain ⟨rfl, rfl⟩ := H
            go_wp2
            repeat (go_quiet (fail); try go_wp2)
            go_ret2
            exact ⟨by first | rfl | (simp; done) | (simp [*]; done), by repeat (first | exact Drawn0.refl _ | apply Drawn0.step)⟩
        · rw [if_neg c6] at H
          have c6b0 : (x7_1 == 0) = false := beq_eq_false_iff_ne.mpr c6
          have c6b1 : (x7_1 != 0) = true := bne_iff_ne.mpr c6
          have H' := Aside0.mk H
          clear H
          go_wp2
          repeat (go_quiet (fail); try go_wp2)
          go_roundg k1
          case measure => have := HK1.out; omega
          case rel => exact ⟨(x7_1), (Int.tmod x6_1 x7_1), (x9_1), (wrap64 (x8_1 - (wrap64 ((wrap64 (Int.tdiv x6_1 x7_1)) * x9_1)))), (by first | rfl | (simp; done) | (simp [*]; done)), (by first | rfl | (simp; done) | (simp [*]; done)), (by first | rfl | (simp; done) | (simp [*]; done)), (by first | rfl | (simp; done) | (simp [*]; done)), H', ⟨by have := HK1.out; omega⟩, by repeat (first | exact Drawn0.refl _ | apply Drawn0.step)⟩
  · replace c4 := Bool.eq_false_iff.mpr c4
    subst c4
    have H1 : (some (0, false)) = some (r1, r2) := by rw [if_neg (show ¬ (false = true) by decide)] at H; exact H
    clear H
    have H := H1
    clear H1
    simp only [Option.some.injEq, Prod.mk.injEq] at H
    obtain ⟨rfl, rfl⟩ := H
    go_enter Try.func50, Try.ntmps50
    go_wp2_with (first | (go_at_call 36; (with_reducible refine (impl_within.calls a1 2 1073741824 false _ A3.out).mono ?_); rintro e w' ⟨rfl, ⟨nd, rfl⟩⟩; (try first | exact ⟨rfl, _, World.drewN_drewN _ _ _⟩ | exact ⟨rfl, _, Eq.trans (World.drewN_drewN _ _ _) (congrArg (World.drewN _) (Nat.add_assoc _ _ _))⟩)))
    repeat (go_quiet (first | (go_at_call 36; (with_reducible refine (impl_within.calls a1 2 1073741824 false _ A3.out).mono ?_); rintro e w' ⟨rfl, ⟨nd, rfl⟩⟩; (try first | exact ⟨rfl, _, World.drewN_drewN _ _ _⟩ | exact ⟨rfl, _, Eq.trans (World.drewN_drewN _ _ _) (congrArg (World.drewN _) (Nat.add_assoc _ _ _))⟩))); try go_wp2_with (first | (go_at_call 36; (with_reducible refine (impl_within.calls a1 2 1073741824 false _ A3.out).mono ?_); rintro e w' ⟨rfl, ⟨nd, rfl⟩⟩; (try first | exact ⟨rfl, _, World.drewN_drewN _ _ _⟩ | exact ⟨rfl, _, Eq.trans (World.drewN_drewN _ _ _) (congrArg (World.drewN _) (Nat.add_assoc _ _ _))⟩))))
    go_ret2
    exact ⟨by first | rfl | (simp; done) | (simp [*]; done), by repeat (first | exact Drawn0.refl _ | apply Drawn0.step)⟩

/-! ### impl_Ed_sum: function 28 -/
def impl_Ed_sum.f (k : Nat) (a0_0 : Int) (a0_1 : Int) (a0_2 : Int) (a0_3 : Int) (a0_4 : Int) (a1_0 : Int) (a1_1 : Int) (a2_0 : Int) (a2_1 : Int) : Option (Int × Int) := if a0_0 = 0 then (none) else ((impl_InvInt.f k (wrap64 (1 + (Int.tmod (wrap64 ((Int.tmod (wrap64 ((Int.tmod (wrap64 ((Int.tmod (wrap64 (a0_1 * a1_0)) a0_0) * a2_0)) a0_0) * a1_1)) a0_0) * a2_1)) a0_0))) a0_0).bind fun bt171 => ((impl_InvInt.f k (wrap64 (1 - (Int.tmod (wrap64 ((Int.tmod (wrap64 ((Int.tmod (wrap64 ((Int.tmod (wrap64 (a0_1 * a1_0)) a0_0) * a2_0)) a0_0) * a1_1)) a0_0) * a2_1)) a0_0))) a0_0).bind fun bt173 => (some (Int.tmod (wrap64 ((Int.tmod (wrap64 ((wrap64 (a1_0 * a2_1)) + (wrap64 (a1_1 * a2_0)))) a0_0) * bt171.1)) a0_0, Int.tmod (wrap64 ((Int.tmod (wrap64 ((wrap64 (a1_1 * a2_1)) + (wrap64 (a1_0 * a2_0)))) a0_0) * bt173.1)) a0_0))))
theorem impl_Ed_sum.mono : ∀ a0 a1 a2 a3 a4 a5 a6 a7 a8 k, LeO (impl_Ed_sum.f k a0 a1 a2 a3 a4 a5 a6 a7 a8) (impl_Ed_sum.f (k + 1) a0 a1 a2 a3 a4 a5 a6 a7 a8) := by
 intro a0 a1 a2 a3 a4 a5 a6 a7 a8 k
 unfold impl_Ed_sum.f
 repeat' first
   | (with_reducible exact impl_InvInt.mono _ _ _)
   | (with_reducible exact LeO.refl _)
   | (with_reducible exact LeO.none _)
   | (with_reducible refine LeO.ite ?_ ?_)
   | (with_reducible refine LeO.bind ?_ (fun _ => ?_))
   | exact impl_InvInt.mono _ _ _
   | exact LeO.none _
   | refine LeO.ite ?_ ?_
   | refine LeO.bind ?_ (fun _ => ?_)
def impl_Ed_sum.T1 : Bool × List (List Nat × List Nat) := (true, [([], []), ([0], [0]), ([], []), ([2], [2]), ([1, 3], [1, 3]), ([], []), ([5], [5]), ([4, 6], [4, 6]), ([], []), ([8], [8]), ([7, 9], [7, 9]), ([], []), ([11], [11]), ([10, 12], [10, 12]), ([], []), ([14], [14]), ([13, 15], [13, 15]), ([], []), ([17], [17]), ([16, 18], [16, 18]), ([], []), ([20], [20]), ([19, 21], [19, 21]), ([], []), ([23], [23]), ([22, 24], [22, 24]), ([25, 0, 1, 2, 3, 4, 5, 6, 7, 8, 9, 10, 11, 12, 13, 14, 15, 16, 17, 18, 19, 20, 21, 22, 23, 24, 25], [25])])
def impl_Ed_sum.B1 : List Nat := [0, 1, 0, 4, 15, 0, 32, 127, 0, 256, 1023, 0, 2048, 8191, 0, 16384, 65535, 0, 131072, 524287, 0, 1048576, 4194303, 0, 8388608, 33554431, 67108863]
theorem impl_Ed_sum.tab1 : rtab .any (opsOf Try.f28 1) = impl_Ed_sum.T1 := by kernel_rfl
theorem impl_Ed_sum.bits1 : waitsOk impl_Ed_sum.T1.2 impl_Ed_sum.B1 = true := by kernel_rfl
def impl_Ed_sum.T4 : Bool × List (List Nat × List Nat) := (true, [([], []), ([0], [0]), ([], []), ([2], [2]), ([1, 3], [1, 3]), ([], []), ([5], [5]), ([], []), ([7], [7]), ([6, 8], [6, 8]), ([4, 9], [4, 9]), ([], []), ([11], [11]), ([10, 12], [10, 12]), ([], []), ([13, 14], [13, 14]), ([], []), ([16], [16]), ([15, 17], [15, 17]), ([], []), ([19], [19]), ([], []), ([21], [21]), ([20, 22], [20, 22]), ([], []), ([24], [24]), ([], []), ([26], [26]), ([25, 27], [25, 27]), ([23, 28], [23, 28]), ([], []), ([30], [30]), ([29, 31], [29, 31]), ([], []), ([32, 33], [32, 33]), ([], []), ([35], [35]), ([34, 36], [34, 36]), ([18, 37], [18, 37]), ([38, 0, 1, 2, 3, 4, 5, 6, 7, 8, 9, 10, 11, 12, 13, 14, 15, 16, 17, 18, 19, 20, 21, 22, 23, 24, 25, 26, 27, 28, 29, 30, 31, 32, 33, 34, 35, 36, 37, 38], [38])])
def impl_Ed_sum.B4 : List Nat := [0, 1, 0, 4, 15, 0, 32, 0, 128, 480, 1023, 0, 2048, 8191, 0, 32767, 0, 65536, 262143, 0, 524288, 0, 2097152, 7864320, 0, 16777216, 0, 67108864, 251658240, 536346624, 0, 1073741824, 4294443008, 0, 17179344896, 0, 34359738368, 137438429184, 274877906943, 549755813887]
theorem impl_Ed_sum.tab4 : rtab .any (opsOf Try.f28 4) = impl_Ed_sum.T4 := by kernel_rfl
theorem impl_Ed_sum.bits4 : waitsOk impl_Ed_sum.T4.2 impl_Ed_sum.B4 = true := by kernel_rfl
set_option maxHeartbeats 8000000 in
set_option maxRecDepth 100000 in
theorem impl_Ed_sum.calls (k : Nat) (a0_0 : Int) (a0_1 : Int) (a0_2 : Int) (a0_3 : Int) (a0_4 : Int) (a1_0 : Int) (a1_1 : Int) (a2_0 : Int) (a2_1 : Int) (r1 : Int) (r2 : Int) (w : World) (h : impl_Ed_sum.f k a0_0 a0_1 a0_2 a0_3 a0_4 a1_0 a1_1 a2_0 a2_1 = some (r1, r2)) :
  Calls Try.prog 28 #[.agg #[.int .i64 a0_0, .int .i64 a0_1, .int .i64 a0_2, .int .i64 a0_3, .int .i64 a0_4], .agg #[.int .i64 a1_0, .int .i64 a1_1], .agg #[.int .i64 a2_0, .int .i64 a2_1]] w fun e w' => e = .returned (.agg #[.int .i64 r1, .int .i64 r2]) ∧ Below w.heap.size w w' := by
 have hu29 := Try.underlying29; have hu26 := Try.underlying26; have HB := Aside0.mk (Below.refl w.heap.size w)
 have H : (if a0_0 = 0 then (none) else ((impl_InvInt.f k (wrap64 (1 + (Int.tmod (wrap64 ((Int.tmod (wrap64 ((Int.tmod (wrap64 ((Int.tmod (wrap64 (a0_1 * a1_0)) a0_0) * a2_0)) a0_0) * a1_1)) a0_0) * a2_1)) a0_0))) a0_0).bind fun bt171 => ((impl_InvInt.f k (wrap64 (1 - (Int.tmod (wrap64 ((Int.tmod (wrap64 ((Int.tmod (wrap64 ((Int.tmod (wrap64 (a0_1 * a1_0)) a0_0) * a2_0)) a0_0) * a1_1)) a0_0) * a2_1)) a0_0))) a0_0).bind fun bt173 => (some (Int.tmod (wrap64 ((Int.tmod (wrap64 ((wrap64 (a1_0 * a2_1)) + (wrap64 (a1_1 * a2_0)))) a0_0) * bt171.1)) a0_0, Int.tmod (wrap64 ((Int.tmod (wrap64 ((wrap64 (a1_1 * a2_1)) + (wrap64 (a1_0 * a2_0)))) a0_0) * bt173.1)) a0_0))))) = some (r1, r2) := h
 clear h
 by_cases c4 : a0_0 = 0
 · rw [if_pos c4] at H; exact absurd H (by simp)
 ·
  rw [if_neg c4] at H
  have c4b0 : (a0_0 == 0) = false := beq_eq_false_iff_ne.mpr c4
  have c4b1 : (a0_0 != 0) = true := bne_iff_ne.mpr c4
  replace H := Option.bind_eq_some_iff.mp H; obtain ⟨⟨t171, t172⟩, A50, H⟩ := H
  replace H : ((impl_InvInt.f k (wrap64 (1 - (Int.tmod (wrap64 ((Int.tmod (wrap64 ((Int.tmod (wrap64 ((Int.tmod (wrap64 (a0_1 * a1_0)) a0_0) * a2_0)) a0_0) * a1_1)) a0_0) * a2_1)) a0_0))) a0_0).bind fun bt173 => (some (Int.tmod (wrap64 ((Int.tmod (wrap64 ((wrap64 (a1_0 * a2_1)) + (wrap64 (a1_1 * a2_0)))) a0_0) * t171)) a0_0, Int.tmod (wrap64 ((Int.tmod (wrap64 ((wrap64 (a1_1 * a2_1)) + (wrap64 (a1_0 * a2_0)))) a0_0) * bt173.1)) a0_0))) = some (r1, r2) := H
  have A5 := Aside0.mk A50; clear A50; replace H := Option.bind_eq_some_iff.mp H; obtain ⟨⟨t173, t174⟩, A60, H⟩ := H
  replace H : (some (Int.tmod (wrap64 ((Int.tmod (wrap64 ((wrap64 (a1_0 * a2_1)) + (wrap64 (a1_1 * a2_0)))) a0_0) * t171)) a0_0, Int.tmod (wrap64 ((Int.tmod (wrap64 ((wrap64 (a1_1 * a2_1)) + (wrap64 (a1_0 * a2_0)))) a0_0) * t173)) a0_0)) = some (r1, r2) := H
  have A6 := Aside0.mk A60; clear A60
  simp only [Option.some.injEq, Prod.mk.injEq] at H
  obtain ⟨rfl, rfl⟩ := H
  go_enter Try.func28, Try.ntmps28
  try go_wp2_with (first | ((with_reducible refine gate_dst (N := 3) rfl ?_); refine box_event ?hg (N := 3) ?hd (cs := #[.int .i64 a0_0, .int .i64 a0_1, .int .i64 a0_2, .int .i64 a0_3, .int .i64 a0_4]) (t := 29) ?hr ?_; (case hd => rfl); (case hg => rfl); (case hr => first | (go_simp; done) | (go_simp; rfl)); intro gb167 hg w7 hbox hb; have n0_ := bs_ HB hb; have n1_ := Aside0.mk hbox; have n2_ := ge_ HB hg; have n3_ := ge_ HB hg; clear HB; have HB := n0_; have BK167 := n1_; have GW167 := n2_; have GE167 := n3_; clear n0_ n1_ n2_ n3_; clear hb hbox hg) | ((with_reducible refine gate_dst (N := 4) rfl ?_); refine box_event ?hg (N := 4) ?hd (cs := #[.int .i64 a1_0, .int .i64 a1_1]) (t := 26) ?hr ?_; (case hd => rfl); (case hg => rfl); (case hr => first | (go_simp; done) | (go_simp; rfl)); intro gb168 hg w8 hbox hb; have n0_ := bb_ BK167 hb; have n1_ := bs_ HB hb; have n2_ := Aside0.mk hbox; have n3_ := ge_ HB hg; have n4_ := ge_ HB hg; have n5_ := nl_ BK167 hg; have n6_ := nr_ BK167 hg; clear BK167; clear HB; have BK167 := n0_; have HB := n1_; have BK168 := n2_; have GW168 := n3_; have GE168 := n4_; have NB167_168 := n5_; have NB168_167 := n6_; clear n0_ n1_ n2_ n3_ n4_ n5_ n6_; clear hb hbox hg) | ((with_reducible refine gate_dst (N := 5) rfl ?_); refine box_event ?hg (N := 5) ?hd (cs := #[.int .i64 a2_0, .int .i64 a2_1]) (t := 26) ?hr ?_; (case hd => rfl); (case hg => rfl); (case hr => first | (go_simp; done) | (go_simp; rfl)); intro gb169 hg w9 hbox hb; have n0_ := bb_ BK167 hb; have n1_ := bb_ BK168 hb; have n2_ := bs_ HB hb; have n3_ := Aside0.mk hbox; have n4_ := ge_ HB hg; have n5_ := ge_ HB hg; have n6_ := nl_ BK167 hg; have n7_ := nr_ BK167 hg; have n8_ := nl_ BK168 hg; have n9_ := nr_ BK168 hg; clear BK167; clear BK168; clear HB; have BK167 := n0_; have BK168 := n1_; have HB := n2_; have BK169 := n3_; have GW169 := n4_; have GE169 := n5_; have NB167_169 := n6_; have NB169_167 := n7_; have NB168_169 := n8_; have NB169_168 := n9_; clear n0_ n1_ n2_ n3_ n4_ n5_ n6_ n7_ n8_ n9_; clear hb hbox hg) | ((with_reducible refine gate_dst (N := 6) rfl ?_); refine box_event ?hg (N := 6) ?hd (cs := #[.int .i64 0, .int .i64 0]) (t := 26) ?hr ?_; (case hd => rfl); (case hg => rfl); (case hr => first | (go_simp; done) | (go_simp; rfl)); intro gb170 hg w10 hbox hb; have n0_ := bb_ BK167 hb; have n1_ := bb_ BK168 hb; have n2_ := bb_ BK169 hb; have n3_ := bs_ HB hb; have n4_ := Aside0.mk hbox; have n5_ := ge_ HB hg; have n6_ := ge_ HB hg; have n7_ := nl_ BK167 hg; have n8_ := nr_ BK167 hg; have n9_ := nl_ BK168 hg; have n10_ := nr_ BK168 hg; have n11_ := nl_ BK169 hg; have n12_ := nr_ BK169 hg; clear BK167; clear BK168; clear BK169; clear HB; have BK167 := n0_; have BK168 := n1_; have BK169 := n2_; have HB := n3_; have BK170 := n4_; have GW170 := n5_; have GE170 := n6_; have NB167_170 := n7_; have NB170_167 := n8_; have NB168_170 := n9_; have NB170_168 := n10_; have NB169_170 := n11_; have NB170_169 := n12_; clear n0_ n1_ n2_ n3_ n4_ n5_ n6_ n7_ n8_ n9_ n10_ n11_ n12_; clear hb hbox hg))
  replace BK167 := Aside0.mk (blk_drew BK167.out); replace BK168 := Aside0.mk (blk_drew BK168.out); replace BK169 := Aside0.mk (blk_drew BK169.out); replace BK170 := Aside0.mk (blk_drew BK170.out); replace HB := Aside0.mk (below_drew1 HB.out); refine start_ (n := 27) (S := fun w' => w'.cell? ⟨gb167, 0, none⟩ = some (.int .i64 a0_0) ∧ w'.cell? ⟨gb167, 1, none⟩ = some (.int .i64 a0_1) ∧ w'.cell? ⟨gb167, 2, none⟩ = some (.int .i64 a0_2) ∧ w'.cell? ⟨gb167, 3, none⟩ = some (.int .i64 a0_3) ∧ w'.cell? ⟨gb167, 4, none⟩ = some (.int .i64 a0_4) ∧ w'.cell? ⟨gb168, 0, none⟩ = some (.int .i64 a1_0) ∧ w'.cell? ⟨gb168, 1, none⟩ = some (.int .i64 a1_1) ∧ w'.cell? ⟨gb169, 0, none⟩ = some (.int .i64 a2_0) ∧ w'.cell? ⟨gb169, 1, none⟩ = some (.int .i64 a2_1)) (ds := []) #[false,false,false,false,false,false,false,false,false,false,false,false,false,false,false,false,false,false,false,false,false,false,false,false,false,false,false] (by kernel_rfl) rfl rfl ⟨bc_ BK167 0, bc_ BK167 1, bc_ BK167 2, bc_ BK167 3, bc_ BK167 4, bc_ BK168 0, bc_ BK168 1, bc_ BK169 0, bc_ BK169 1⟩ (fun hHeld => ?_); refine with_tabW impl_Ed_sum.tab1 impl_Ed_sum.bits1 (fun HT_ HW_ => ?_)
  generalize w10.drew = w11 at BK167 BK168 BK169 BK170 HB hHeld ⊢
  refine pure_ (i := 0) (N := some 12) (v := ?_) (a' := ?_) #[true,false,false,false,false,false,false,false,false,false,false,false,false,false,false,false,false,false,false,false,false,false,false,false,false,false,false] rfl rfl (any_of HT_.out (by kernel_rfl)) (fun _ _ _ h => h) (Or.inl ⟨by rfl, ?_⟩) ?_ ?_; rotate_left
  ·
   intro w'; go_simp
   with_reducible rfl
  rotate_left
  · simp only [Act.put, sA_, sZ_, sS_, i64_w, i32_w]; rfl
  refine pure_ (i := 2) (N := some 14) (v := ?_) (a' := ?_) #[true,false,true,false,false,false,false,false,false,false,false,false,false,false,false,false,false,false,false,false,false,false,false,false,false,false,false] rfl rfl (any_of HT_.out (by kernel_rfl)) (fun _ _ _ h => h) (Or.inl ⟨by rfl, ?_⟩) ?_ ?_; rotate_left
  ·
   intro w'; go_simp
   with_reducible rfl
  rotate_left
  · simp only [Act.put, sA_, sZ_, sS_, i64_w, i32_w]; rfl
  refine pure_ (i := 5) (N := some 17) (v := ?_) (a' := ?_) #[true,false,true,false,false,true,false,false,false,false,false,false,false,false,false,false,false,false,false,false,false,false,false,false,false,false,false] rfl rfl (any_of HT_.out (by kernel_rfl)) (fun _ _ _ h => h) (Or.inl ⟨by rfl, ?_⟩) ?_ ?_; rotate_left
  ·
   intro w'; go_simp
   with_reducible rfl
  rotate_left
  · simp only [Act.put, sA_, sZ_, sS_, i64_w, i32_w]; rfl
  refine pure_ (i := 8) (N := some 20) (v := ?_) (a' := ?_) #[true,false,true,false,false,true,false,false,true,false,false,false,false,false,false,false,false,false,false,false,false,false,false,false,false,false,false] rfl rfl (any_of HT_.out (by kernel_rfl)) (fun _ _ _ h => h) (Or.inl ⟨by rfl, ?_⟩) ?_ ?_; rotate_left
  ·
   intro w'; go_simp
   with_reducible rfl
  rotate_left
  · simp only [Act.put, sA_, sZ_, sS_, i64_w, i32_w]; rfl
  refine pure_ (i := 11) (N := some 23) (v := ?_) (a' := ?_) #[true,false,true,false,false,true,false,false,true,false,false,true,false,false,false,false,false,false,false,false,false,false,false,false,false,false,false] rfl rfl (any_of HT_.out (by kernel_rfl)) (fun _ _ _ h => h) (Or.inl ⟨by rfl, ?_⟩) ?_ ?_; rotate_left
  ·
   intro w'; go_simp
   with_reducible rfl
  rotate_left
  · simp only [Act.put, sA_, sZ_, sS_, i64_w, i32_w]; rfl
  refine pure_ (i := 14) (N := some 26) (v := ?_) (a' := ?_) #[true,false,true,false,false,true,false,false,true,false,false,true,false,false,true,false,false,false,false,false,false,false,false,false,false,false,false] rfl rfl (any_of HT_.out (by kernel_rfl)) (fun _ _ _ h => h) (Or.inl ⟨by rfl, ?_⟩) ?_ ?_; rotate_left
  ·
   intro w'; go_simp
   with_reducible rfl
  rotate_left
  · simp only [Act.put, sA_, sZ_, sS_, i64_w, i32_w]; rfl
  refine pure_ (i := 17) (N := some 29) (v := ?_) (a' := ?_) #[true,false,true,false,false,true,false,false,true,false,false,true,false,false,true,false,false,true,false,false,false,false,false,false,false,false,false] rfl rfl (any_of HT_.out (by kernel_rfl)) (fun _ _ _ h => h) (Or.inl ⟨by rfl, ?_⟩) ?_ ?_; rotate_left
  ·
   intro w'; go_simp
   with_reducible rfl
  rotate_left
  · simp only [Act.put, sA_, sZ_, sS_, i64_w, i32_w]; rfl
  refine pure_ (i := 20) (N := some 32) (v := ?_) (a' := ?_) #[true,false,true,false,false,true,false,false,true,false,false,true,false,false,true,false,false,true,false,false,true,false,false,false,false,false,false] rfl rfl (any_of HT_.out (by kernel_rfl)) (fun _ _ _ h => h) (Or.inl ⟨by rfl, ?_⟩) ?_ ?_; rotate_left
  ·
   intro w'; go_simp
   with_reducible rfl
  rotate_left
  · simp only [Act.put, sA_, sZ_, sS_, i64_w, i32_w]; rfl
  refine pure_ (i := 23) (N := some 35) (v := ?_) (a' := ?_) #[true,false,true,false,false,true,false,false,true,false,false,true,false,false,true,false,false,true,false,false,true,false,false,true,false,false,false] rfl rfl (any_of HT_.out (by kernel_rfl)) (fun _ _ _ h => h) (Or.inl ⟨by rfl, ?_⟩) ?_ ?_; rotate_left
  ·
   intro w'; go_simp
   with_reducible rfl
  rotate_left
  · simp only [Act.put, sA_, sZ_, sS_, i64_w, i32_w]; rfl
  refine take_ (i := 1) (N := some 13) (v := ?_) (a' := ?_) #[true,true,true,false,false,true,false,false,true,false,false,true,false,false,true,false,false,true,false,false,true,false,false,true,false,false,false] rfl rfl (take_ofW HT_.out HW_.out (by kernel_rfl)) (fun _ _ _ h => h) (Or.inl ⟨by rfl, ?_⟩) hHeld ?_ ?_; rotate_left
  ·
   rintro w' ⟨s0, s1, s2, s3, s4, s5, s6, s7, s8⟩; go_simp
   with_reducible rfl
  rotate_left
  · simp only [Act.put, sA_, sZ_, sS_, i64_w, i32_w]; rfl
  refine take_ (i := 3) (N := some 15) (v := ?_) (a' := ?_) #[true,true,true,true,false,true,false,false,true,false,false,true,false,false,true,false,false,true,false,false,true,false,false,true,false,false,false] rfl rfl (take_ofW HT_.out HW_.out (by kernel_rfl)) (fun _ _ _ h => h) (Or.inl ⟨by rfl, ?_⟩) hHeld ?_ ?_; rotate_left
  ·
   rintro w' ⟨s0, s1, s2, s3, s4, s5, s6, s7, s8⟩; go_simp
   with_reducible rfl
  rotate_left
  · simp only [Act.put, sA_, sZ_, sS_, i64_w, i32_w]; rfl
  refine pure_ (i := 4) (N := some 16) (v := ?_) (a' := ?_) #[true,true,true,true,true,true,false,false,true,false,false,true,false,false,true,false,false,true,false,false,true,false,false,true,false,false,false] rfl rfl (any_of HT_.out (by kernel_rfl)) (fun _ _ _ h => h) (Or.inl ⟨by rfl, ?_⟩) ?_ ?_; rotate_left
  ·
   intro w'; go_simp
   with_reducible rfl
  rotate_left
  · simp only [Act.put, sA_, sZ_, sS_, i64_w, i32_w]; rfl
  refine take_ (i := 6) (N := some 18) (v := ?_) (a' := ?_) #[true,true,true,true,true,true,true,false,true,false,false,true,false,false,true,false,false,true,false,false,true,false,false,true,false,false,false] rfl rfl (take_ofW HT_.out HW_.out (by kernel_rfl)) (fun _ _ _ h => h) (Or.inl ⟨by rfl, ?_⟩) hHeld ?_ ?_; rotate_left
  ·
   rintro w' ⟨s0, s1, s2, s3, s4, s5, s6, s7, s8⟩; go_simp
   with_reducible rfl
  rotate_left
  · simp only [Act.put, sA_, sZ_, sS_, i64_w, i32_w]; rfl
  refine pure_ (i := 7) (N := some 19) (v := ?_) (a' := ?_) #[true,true,true,true,true,true,true,true,true,false,false,true,false,false,true,false,false,true,false,false,true,false,false,true,false,false,false] rfl rfl (any_of HT_.out (by kernel_rfl)) (fun _ _ _ h => h) (Or.inl ⟨by rfl, ?_⟩) ?_ ?_; rotate_left
  ·
   intro w'; go_simp
   with_reducible rfl
  rotate_left
  · simp only [Act.put, sA_, sZ_, sS_, i64_w, i32_w]; rfl
  refine take_ (i := 9) (N := some 21) (v := ?_) (a' := ?_) #[true,true,true,true,true,true,true,true,true,true,false,true,false,false,true,false,false,true,false,false,true,false,false,true,false,false,false] rfl rfl (take_ofW HT_.out HW_.out (by kernel_rfl)) (fun _ _ _ h => h) (Or.inl ⟨by rfl, ?_⟩) hHeld ?_ ?_; rotate_left
  ·
   rintro w' ⟨s0, s1, s2, s3, s4, s5, s6, s7, s8⟩; go_simp
   with_reducible rfl
  rotate_left
  · simp only [Act.put, sA_, sZ_, sS_, i64_w, i32_w]; rfl
  refine pure_ (i := 10) (N := some 22) (v := ?_) (a' := ?_) #[true,true,true,true,true,true,true,true,true,true,true,true,false,false,true,false,false,true,false,false,true,false,false,true,false,false,false] rfl rfl (any_of HT_.out (by kernel_rfl)) (fun _ _ _ h => h) (Or.inl ⟨by rfl, ?_⟩) ?_ ?_; rotate_left
  ·
   intro w'; go_simp
   with_reducible rfl
  rotate_left
  · simp only [Act.put, sA_, sZ_, sS_, i64_w, i32_w]; rfl
  refine take_ (i := 12) (N := some 24) (v := ?_) (a' := ?_) #[true,true,true,true,true,true,true,true,true,true,true,true,true,false,true,false,false,true,false,false,true,false,false,true,false,false,false] rfl rfl (take_ofW HT_.out HW_.out (by kernel_rfl)) (fun _ _ _ h => h) (Or.inl ⟨by rfl, ?_⟩) hHeld ?_ ?_; rotate_left
  ·
   rintro w' ⟨s0, s1, s2, s3, s4, s5, s6, s7, s8⟩; go_simp
   with_reducible rfl
  rotate_left
  · simp only [Act.put, sA_, sZ_, sS_, i64_w, i32_w]; rfl
  refine pure_ (i := 13) (N := some 25) (v := ?_) (a' := ?_) #[true,true,true,true,true,true,true,true,true,true,true,true,true,true,true,false,false,true,false,false,true,false,false,true,false,false,false] rfl rfl (any_of HT_.out (by kernel_rfl)) (fun _ _ _ h => h) (Or.inl ⟨by rfl, ?_⟩) ?_ ?_; rotate_left
  ·
   intro w'; go_simp
   with_reducible rfl
  rotate_left
  · simp only [Act.put, sA_, sZ_, sS_, i64_w, i32_w]; rfl
  refine take_ (i := 15) (N := some 27) (v := ?_) (a' := ?_) #[true,true,true,true,true,true,true,true,true,true,true,true,true,true,true,true,false,true,false,false,true,false,false,true,false,false,false] rfl rfl (take_ofW HT_.out HW_.out (by kernel_rfl)) (fun _ _ _ h => h) (Or.inl ⟨by rfl, ?_⟩) hHeld ?_ ?_; rotate_left
  ·
   rintro w' ⟨s0, s1, s2, s3, s4, s5, s6, s7, s8⟩; go_simp
   with_reducible rfl
  rotate_left
  · simp only [Act.put, sA_, sZ_, sS_, i64_w, i32_w]; rfl
  refine pure_ (i := 16) (N := some 28) (v := ?_) (a' := ?_) #[true,true,true,true,true,true,true,true,true,true,true,true,true,true,true,true,true,true,false,false,true,false,false,true,false,false,false] rfl rfl (any_of HT_.out (by kernel_rfl)) (fun _ _ _ h => h) (Or.inl ⟨by rfl, ?_⟩) ?_ ?_; rotate_left
  ·
   intro w'; go_simp
   with_reducible rfl
  rotate_left
  · simp only [Act.put, sA_, sZ_, sS_, i64_w, i32_w]; rfl
  refine take_ (i := 18) (N := some 30) (v := ?_) (a' := ?_) #[true,true,true,true,true,true,true,true,true,true,true,true,true,true,true,true,true,true,true,false,true,false,false,true,false,false,false] rfl rfl (take_ofW HT_.out HW_.out (by kernel_rfl)) (fun _ _ _ h => h) (Or.inl ⟨by rfl, ?_⟩) hHeld ?_ ?_; rotate_left
  ·
   rintro w' ⟨s0, s1, s2, s3, s4, s5, s6, s7, s8⟩; go_simp
   with_reducible rfl
  rotate_left
  · simp only [Act.put, sA_, sZ_, sS_, i64_w, i32_w]; rfl
  refine pure_ (i := 19) (N := some 31) (v := ?_) (a' := ?_) #[true,true,true,true,true,true,true,true,true,true,true,true,true,true,true,true,true,true,true,true,true,false,false,true,false,false,false] rfl rfl (any_of HT_.out (by kernel_rfl)) (fun _ _ _ h => h) (Or.inl ⟨by rfl, ?_⟩) ?_ ?_; rotate_left
  ·
   intro w'; go_simp
   with_reducible rfl
  rotate_left
  · simp only [Act.put, sA_, sZ_, sS_, i64_w, i32_w]; rfl
  refine take_ (i := 21) (N := some 33) (v := ?_) (a' := ?_) #[true,true,true,true,true,true,true,true,true,true,true,true,true,true,true,true,true,true,true,true,true,true,false,true,false,false,false] rfl rfl (take_ofW HT_.out HW_.out (by kernel_rfl)) (fun _ _ _ h => h) (Or.inl ⟨by rfl, ?_⟩) hHeld ?_ ?_; rotate_left
  ·
   rintro w' ⟨s0, s1, s2, s3, s4, s5, s6, s7, s8⟩; go_simp
   with_reducible rfl
  rotate_left
  · simp only [Act.put, sA_, sZ_, sS_, i64_w, i32_w]; rfl
  refine pure_ (i := 22) (N := some 34) (v := ?_) (a' := ?_) #[true,true,true,true,true,true,true,true,true,true,true,true,true,true,true,true,true,true,true,true,true,true,true,true,false,false,false] rfl rfl (any_of HT_.out (by kernel_rfl)) (fun _ _ _ h => h) (Or.inl ⟨by rfl, ?_⟩) ?_ ?_; rotate_left
  ·
   intro w'; go_simp
   with_reducible rfl
  rotate_left
  · simp only [Act.put, sA_, sZ_, sS_, i64_w, i32_w]; rfl
  refine take_ (i := 24) (N := some 36) (v := ?_) (a' := ?_) #[true,true,true,true,true,true,true,true,true,true,true,true,true,true,true,true,true,true,true,true,true,true,true,true,true,false,false] rfl rfl (take_ofW HT_.out HW_.out (by kernel_rfl)) (fun _ _ _ h => h) (Or.inl ⟨by rfl, ?_⟩) hHeld ?_ ?_; rotate_left
  ·
   rintro w' ⟨s0, s1, s2, s3, s4, s5, s6, s7, s8⟩; go_simp
   with_reducible rfl
  rotate_left
  · simp only [Act.put, sA_, sZ_, sS_, i64_w, i32_w]; rfl
  refine pure_ (i := 25) (N := some 37) (v := ?_) (a' := ?_) #[true,true,true,true,true,true,true,true,true,true,true,true,true,true,true,true,true,true,true,true,true,true,true,true,true,true,false] rfl rfl (any_of HT_.out (by kernel_rfl)) (fun _ _ _ h => h) (Or.inl ⟨by rfl, ?_⟩) ?_ ?_; rotate_left
  ·
   intro w'; go_simp
   with_reducible rfl
  rotate_left
  · simp only [Act.put, sA_, sZ_, sS_, i64_w, i32_w]; rfl
  refine pure_ (i := 26) (N := some 7) (v := ?_) (a' := ?_) #[true,true,true,true,true,true,true,true,true,true,true,true,true,true,true,true,true,true,true,true,true,true,true,true,true,true,true] rfl rfl (any_of HT_.out (by kernel_rfl)) (fun _ _ _ h => h) (Or.inl ⟨by rfl, ?_⟩) ?_ ?_; rotate_left
  ·
   intro w'; go_simp
   with_reducible rfl
  rotate_left
  · simp only [Act.put, sA_, sZ_, sS_, i64_w, i32_w]; rfl
  refine done_ (done_of HT_.out (by kernel_rfl)) ?_; have hnb12 := NB167_168.out; have hnc12 := NB168_167.out; have hnb13 := NB167_169.out; have hnc13 := NB169_167.out; have hnb14 := NB167_170.out; have hnc14 := NB170_167.out
  have hcz15_0 : w11.cell? ⟨gb167, 0, none⟩ = some (.int .i64 a0_0) := bc_ BK167 0
  have hcz15_1 : w11.cell? ⟨gb167, 1, none⟩ = some (.int .i64 a0_1) := bc_ BK167 1
  have hcz15_2 : w11.cell? ⟨gb167, 2, none⟩ = some (.int .i64 a0_2) := bc_ BK167 2
  have hcz15_3 : w11.cell? ⟨gb167, 3, none⟩ = some (.int .i64 a0_3) := bc_ BK167 3
  have hcz15_4 : w11.cell? ⟨gb167, 4, none⟩ = some (.int .i64 a0_4) := bc_ BK167 4
  have hfz15_0 := blk_frozen BK167.out 0; have hfz15_1 := blk_frozen BK167.out 1; have hfz15_2 := blk_frozen BK167.out 2; have hfz15_3 := blk_frozen BK167.out 3; have hfz15_4 := blk_frozen BK167.out 4
  try go_wp2_with (first | ((with_reducible refine gate_callee (f := 50) rfl ?_); refine goesL_ (some 43) rfl rfl Try.func50 (by kernel_rfl) rfl #[.int .i64 (wrap64 (1 + (Int.tmod (wrap64 ((Int.tmod (wrap64 ((Int.tmod (wrap64 ((Int.tmod (wrap64 (a0_1 * a1_0)) a0_0) * a2_0)) a0_0) * a1_1)) a0_0) * a2_1)) a0_0))), .int .i64 a0_0] rfl (by (try simp only [List.map_toArray, List.map_cons, List.map_nil]); first | done | rfl | (simp only [List.length_drop, List.length_take]; rfl)) ?_; (with_reducible refine (impl_InvInt.calls k (wrap64 (1 + (Int.tmod (wrap64 ((Int.tmod (wrap64 ((Int.tmod (wrap64 ((Int.tmod (wrap64 (a0_1 * a1_0)) a0_0) * a2_0)) a0_0) * a1_1)) a0_0) * a2_1)) a0_0))) a0_0 t171 t172 _ A5.out).mono ?_); rintro e w' ⟨rfl, ⟨nd, rfl⟩⟩; refine ⟨_, rfl, ?_⟩; (try (rw [drewN_self w11]; generalize hq_ : World.drewN w11 _ = w11; have n0_ : Aside0 (w11.heap[gb167]? = some (.cells #[.int .i64 a0_0, .int .i64 a0_1, .int .i64 a0_2, .int .i64 a0_3, .int .i64 a0_4] 29 (0, 0))) := ⟨by rw [← hq_]; exact (bk_ BK167)⟩; have n1_ : Aside0 (w11.heap[gb168]? = some (.cells #[.int .i64 a1_0, .int .i64 a1_1] 26 (0, 0))) := ⟨by rw [← hq_]; exact (bk_ BK168)⟩; have n2_ : Aside0 (w11.heap[gb169]? = some (.cells #[.int .i64 a2_0, .int .i64 a2_1] 26 (0, 0))) := ⟨by rw [← hq_]; exact (bk_ BK169)⟩; have n3_ : Aside0 (w11.heap[gb170]? = some (.cells #[.int .i64 0, .int .i64 0] 26 (0, 0))) := ⟨by rw [← hq_]; exact (bk_ BK170)⟩; have n4_ : Aside0 (Below w.heap.size w w11) := ⟨by rw [← hq_]; exact (bw_ HB)⟩; clear BK167 BK168 BK169 BK170 HB hq_; have BK167 := n0_; have BK168 := n1_; have BK169 := n2_; have BK170 := n3_; have HB := n4_; clear n0_ n1_ n2_ n3_ n4_; have hcy167_0 : w11.cell? ⟨gb167, 0, none⟩ = some (.int .i64 a0_0) := bc_ BK167 0; have hcy167_1 : w11.cell? ⟨gb167, 1, none⟩ = some (.int .i64 a0_1) := bc_ BK167 1; have hcy167_2 : w11.cell? ⟨gb167, 2, none⟩ = some (.int .i64 a0_2) := bc_ BK167 2; have hcy167_3 : w11.cell? ⟨gb167, 3, none⟩ = some (.int .i64 a0_3) := bc_ BK167 3; have hcy167_4 : w11.cell? ⟨gb167, 4, none⟩ = some (.int .i64 a0_4) := bc_ BK167 4; have hcy168_0 : w11.cell? ⟨gb168, 0, none⟩ = some (.int .i64 a1_0) := bc_ BK168 0; have hcy168_1 : w11.cell? ⟨gb168, 1, none⟩ = some (.int .i64 a1_1) := bc_ BK168 1; have hcy169_0 : w11.cell? ⟨gb169, 0, none⟩ = some (.int .i64 a2_0) := bc_ BK169 0; have hcy169_1 : w11.cell? ⟨gb169, 1, none⟩ = some (.int .i64 a2_1) := bc_ BK169 1; have hcy170_0 : w11.cell? ⟨gb170, 0, none⟩ = some (.int .i64 0) := bc_ BK170 0; have hcy170_1 : w11.cell? ⟨gb170, 1, none⟩ = some (.int .i64 0) := bc_ BK170 1))) | ((with_reducible refine gate_callee (f := 50) rfl ?_); refine goesL_ (some 51) rfl rfl Try.func50 (by kernel_rfl) rfl #[.int .i64 (wrap64 (1 - (Int.tmod (wrap64 ((Int.tmod (wrap64 ((Int.tmod (wrap64 ((Int.tmod (wrap64 (a0_1 * a1_0)) a0_0) * a2_0)) a0_0) * a1_1)) a0_0) * a2_1)) a0_0))), .int .i64 a0_0] rfl (by (try simp only [List.map_toArray, List.map_cons, List.map_nil]); first | done | rfl | (simp only [List.length_drop, List.length_take]; rfl)) ?_; (with_reducible refine (impl_InvInt.calls k (wrap64 (1 - (Int.tmod (wrap64 ((Int.tmod (wrap64 ((Int.tmod (wrap64 ((Int.tmod (wrap64 (a0_1 * a1_0)) a0_0) * a2_0)) a0_0) * a1_1)) a0_0) * a2_1)) a0_0))) a0_0 t173 t174 _ A6.out).mono ?_); rintro e w' ⟨rfl, ⟨nd, rfl⟩⟩; refine ⟨_, rfl, ?_⟩; (try (rw [drewN_self w11]; generalize hq_ : World.drewN w11 _ = w11; have n0_ : Aside0 (w11.heap[gb167]? = some (.cells #[.int .i64 a0_0, .int .i64 a0_1, .int .i64 a0_2, .int .i64 a0_3, .int .i64 a0_4] 29 (0, 0))) := ⟨by rw [← hq_]; exact (bk_ BK167)⟩; have n1_ : Aside0 (w11.heap[gb168]? = some (.cells #[.int .i64 a1_0, .int .i64 a1_1] 26 (0, 0))) := ⟨by rw [← hq_]; exact (bk_ BK168)⟩; have n2_ : Aside0 (w11.heap[gb169]? = some (.cells #[.int .i64 a2_0, .int .i64 a2_1] 26 (0, 0))) := ⟨by rw [← hq_]; exact (bk_ BK169)⟩; have n3_ : Aside0 (w11.heap[gb170]? = some (.cells #[.int .i64 0, .int .i64 0] 26 (0, 0))) := ⟨by rw [← hq_]; exact (bk_ BK170)⟩; have n4_ : Aside0 (Below w.heap.size w w11) := ⟨by rw [← hq_]; exact (bw_ HB)⟩; clear BK167 BK168 BK169 BK170 HB hq_; have BK167 := n0_; have BK168 := n1_; have BK169 := n2_; have BK170 := n3_; have HB := n4_; clear n0_ n1_ n2_ n3_ n4_; have hcy167_0 : w11.cell? ⟨gb167, 0, none⟩ = some (.int .i64 a0_0) := bc_ BK167 0; have hcy167_1 : w11.cell? ⟨gb167, 1, none⟩ = some (.int .i64 a0_1) := bc_ BK167 1; have hcy167_2 : w11.cell? ⟨gb167, 2, none⟩ = some (.int .i64 a0_2) := bc_ BK167 2; have hcy167_3 : w11.cell? ⟨gb167, 3, none⟩ = some (.int .i64 a0_3) := bc_ BK167 3; have hcy167_4 : w11.cell? ⟨gb167, 4, none⟩ = some (.int .i64 a0_4) := bc_ BK167 4; have hcy168_0 : w11.cell? ⟨gb168, 0, none⟩ = some (.int .i64 a1_0) := bc_ BK168 0; have hcy168_1 : w11.cell? ⟨gb168, 1, none⟩ = some (.int .i64 a1_1) := bc_ BK168 1; have hcy169_0 : w11.cell? ⟨gb169, 0, none⟩ = some (.int .i64 a2_0) := bc_ BK169 0; have hcy169_1 : w11.cell? ⟨gb169, 1, none⟩ = some (.int .i64 a2_1) := bc_ BK169 1; have hcy170_0 : w11.cell? ⟨gb170, 0, none⟩ = some (.int .i64 0) := bc_ BK170 0; have hcy170_1 : w11.cell? ⟨gb170, 1, none⟩ = some (.int .i64 0) := bc_ BK170 1))))
  replace BK167 := Aside0.mk (blk_drew BK167.out); replace BK168 := Aside0.mk (blk_drew BK168.out); replace BK169 := Aside0.mk (blk_drew BK169.out); replace BK170 := Aside0.mk (blk_drew BK170.out); replace HB := Aside0.mk (below_drew1 HB.out); refine start_ (n := 40) (S := fun w' => w'.cell? ⟨gb168, 0, none⟩ = some (.int .i64 a1_0) ∧ w'.cell? ⟨gb168, 1, none⟩ = some (.int .i64 a1_1) ∧ w'.cell? ⟨gb169, 0, none⟩ = some (.int .i64 a2_0) ∧ w'.cell? ⟨gb169, 1, none⟩ = some (.int .i64 a2_1) ∧ w'.cell? ⟨gb167, 0, none⟩ = some (.int .i64 a0_0) ∧ w'.cell? ⟨gb167, 1, none⟩ = some (.int .i64 a0_1) ∧ w'.cell? ⟨gb167, 2, none⟩ = some (.int .i64 a0_2) ∧ w'.cell? ⟨gb167, 3, none⟩ = some (.int .i64 a0_3) ∧ w'.cell? ⟨gb167, 4, none⟩ = some (.int .i64 a0_4)) (ds := []) #[false,false,false,false,false,false,false,false,false,false,false,false,false,false,false,false,false,false,false,false,false,false,false,false,false,false,false,false,false,false,false,false,false,false,false,false,false,false,false,false] (by kernel_rfl) rfl rfl ⟨bc_ BK168 0, bc_ BK168 1, bc_ BK169 0, bc_ BK169 1, bc_ BK167 0, bc_ BK167 1, bc_ BK167 2, bc_ BK167 3, bc_ BK167 4⟩ (fun hHeld => ?_); refine with_tabW impl_Ed_sum.tab4 impl_Ed_sum.bits4 (fun HT_ HW_ => ?_)
  generalize w11.drew = w16 at BK167 BK168 BK169 BK170 HB hHeld ⊢
  refine pure_ (i := 0) (N := some 54) (v := ?_) (a' := ?_) #[true,false,false,false,false,false,false,false,false,false,false,false,false,false,false,false,false,false,false,false,false,false,false,false,false,false,false,false,false,false,false,false,false,false,false,false,false,false,false,false] rfl rfl (any_of HT_.out (by kernel_rfl)) (fun _ _ _ h => h) (Or.inl ⟨by rfl, ?_⟩) ?_ ?_; rotate_left
  ·
   intro w'; go_simp
   with_reducible rfl
  rotate_left
  · simp only [Act.put, sA_, sZ_, sS_, i64_w, i32_w]; rfl
  refine pure_ (i := 2) (N := some 56) (v := ?_) (a' := ?_) #[true,false,true,false,false,false,false,false,false,false,false,false,false,false,false,false,false,false,false,false,false,false,false,false,false,false,false,false,false,false,false,false,false,false,false,false,false,false,false,false] rfl rfl (any_of HT_.out (by kernel_rfl)) (fun _ _ _ h => h) (Or.inl ⟨by rfl, ?_⟩) ?_ ?_; rotate_left
  ·
   intro w'; go_simp
   with_reducible rfl
  rotate_left
  · simp only [Act.put, sA_, sZ_, sS_, i64_w, i32_w]; rfl
  refine pure_ (i := 5) (N := some 59) (v := ?_) (a' := ?_) #[true,false,true,false,false,true,false,false,false,false,false,false,false,false,false,false,false,false,false,false,false,false,false,false,false,false,false,false,false,false,false,false,false,false,false,false,false,false,false,false] rfl rfl (any_of HT_.out (by kernel_rfl)) (fun _ _ _ h => h) (Or.inl ⟨by rfl, ?_⟩) ?_ ?_; rotate_left
  ·
   intro w'; go_simp
   with_reducible rfl
  rotate_left
  · simp only [Act.put, sA_, sZ_, sS_, i64_w, i32_w]; rfl
  refine pure_ (i := 7) (N := some 61) (v := ?_) (a' := ?_) #[true,false,true,false,false,true,false,true,false,false,false,false,false,false,false,false,false,false,false,false,false,false,false,false,false,false,false,false,false,false,false,false,false,false,false,false,false,false,false,false] rfl rfl (any_of HT_.out (by kernel_rfl)) (fun _ _ _ h => h) (Or.inl ⟨by rfl, ?_⟩) ?_ ?_; rotate_left
  ·
   intro w'; go_simp
   with_reducible rfl
  rotate_left
  · simp only [Act.put, sA_, sZ_, sS_, i64_w, i32_w]; rfl
  refine pure_ (i := 11) (N := some 65) (v := ?_) (a' := ?_) #[true,false,true,false,false,true,false,true,false,false,false,true,false,false,false,false,false,false,false,false,false,false,false,false,false,false,false,false,false,false,false,false,false,false,false,false,false,false,false,false] rfl rfl (any_of HT_.out (by kernel_rfl)) (fun _ _ _ h => h) (Or.inl ⟨by rfl, ?_⟩) ?_ ?_; rotate_left
  ·
   intro w'; go_simp
   with_reducible rfl
  rotate_left
  · simp only [Act.put, sA_, sZ_, sS_, i64_w, i32_w]; rfl
  refine pure_ (i := 14) (N := some 68) (v := ?_) (a' := ?_) #[true,false,true,false,false,true,false,true,false,false,false,true,false,false,true,false,false,false,false,false,false,false,false,false,false,false,false,false,false,false,false,false,false,false,false,false,false,false,false,false] rfl rfl (any_of HT_.out (by kernel_rfl)) (fun _ _ _ h => h) (Or.inl ⟨by rfl, ?_⟩) ?_ ?_; rotate_left
  ·
   intro w'; go_simp
   with_reducible rfl
  rotate_left
  · simp only [Act.put, sA_, sZ_, sS_, i64_w, i32_w]; rfl
  refine pure_ (i := 16) (N := some 70) (v := ?_) (a' := ?_) #[true,false,true,false,false,true,false,true,false,false,false,true,false,false,true,false,true,false,false,false,false,false,false,false,false,false,false,false,false,false,false,false,false,false,false,false,false,false,false,false] rfl rfl (any_of HT_.out (by kernel_rfl)) (fun _ _ _ h => h) (Or.inl ⟨by rfl, ?_⟩) ?_ ?_; rotate_left
  ·
   intro w'; go_simp
   with_reducible rfl
  rotate_left
  · simp only [Act.put, sA_, sZ_, sS_, i64_w, i32_w]; rfl
  refine pure_ (i := 19) (N := some 73) (v := ?_) (a' := ?_) #[true,false,true,false,false,true,false,true,false,false,false,true,false,false,true,false,true,false,false,true,false,false,false,false,false,false,false,false,false,false,false,false,false,false,false,false,false,false,false,false] rfl rfl (any_of HT_.out (by kernel_rfl)) (fun _ _ _ h => h) (Or.inl ⟨by rfl, ?_⟩) ?_ ?_; rotate_left
  ·
   intro w'; go_simp
   with_reducible rfl
  rotate_left
  · simp only [Act.put, sA_, sZ_, sS_, i64_w, i32_w]; rfl
  refine pure_ (i := 21) (N := some 75) (v := ?_) (a' := ?_) #[true,false,true,false,false,true,false,true,false,false,false,true,false,false,true,false,true,false,false,true,false,true,false,false,false,false,false,false,false,false,false,false,false,false,false,false,false,false,false,false] rfl rfl (any_of HT_.out (by kernel_rfl)) (fun _ _ _ h => h) (Or.inl ⟨by rfl, ?_⟩) ?_ ?_; rotate_left
  ·
   intro w'; go_simp
   with_reducible rfl
  rotate_left
  · simp only [Act.put, sA_, sZ_, sS_, i64_w, i32_w]; rfl
  refine pure_ (i := 24) (N := some 78) (v := ?_) (a' := ?_) #[true,false,true,false,false,true,false,true,false,false,false,true,false,false,true,false,true,false,false,true,false,true,false,false,true,false,false,false,false,false,false,false,false,false,false,false,false,false,false,false] rfl rfl (any_of HT_.out (by kernel_rfl)) (fun _ _ _ h => h) (Or.inl ⟨by rfl, ?_⟩) ?_ ?_; rotate_left
  ·
   intro w'; go_simp
   with_reducible rfl
  rotate_left
  · simp only [Act.put, sA_, sZ_, sS_, i64_w, i32_w]; rfl
  refine pure_ (i := 26) (N := some 80) (v := ?_) (a' := ?_) #[true,false,true,false,false,true,false,true,false,false,false,true,false,false,true,false,true,false,false,true,false,true,false,false,true,false,true,false,false,false,false,false,false,false,false,false,false,false,false,false] rfl rfl (any_of HT_.out (by kernel_rfl)) (fun _ _ _ h => h) (Or.inl ⟨by rfl, ?_⟩) ?_ ?_; rotate_left
  ·
   intro w'; go_simp
   with_reducible rfl
  rotate_left
  · simp only [Act.put, sA_, sZ_, sS_, i64_w, i32_w]; rfl
  refine pure_ (i := 30) (N := some 84) (v := ?_) (a' := ?_) #[true,false,true,false,false,true,false,true,false,false,false,true,false,false,true,false,true,false,false,true,false,true,false,false,true,false,true,false,false,false,true,false,false,false,false,false,false,false,false,false] rfl rfl (any_of HT_.out (by kernel_rfl)) (fun _ _ _ h => h) (Or.inl ⟨by rfl, ?_⟩) ?_ ?_; rotate_left
  ·
   intro w'; go_simp
   with_reducible rfl
  rotate_left
  · simp only [Act.put, sA_, sZ_, sS_, i64_w, i32_w]; rfl
  refine pure_ (i := 33) (N := some 87) (v := ?_) (a' := ?_) #[true,false,true,false,false,true,false,true,false,false,false,true,false,false,true,false,true,false,false,true,false,true,false,false,true,false,true,false,false,false,true,false,false,true,false,false,false,false,false,false] rfl rfl (any_of HT_.out (by kernel_rfl)) (fun _ _ _ h => h) (Or.inl ⟨by rfl, ?_⟩) ?_ ?_; rotate_left
  ·
   intro w'; go_simp
   with_reducible rfl
  rotate_left
  · simp only [Act.put, sA_, sZ_, sS_, i64_w, i32_w]; rfl
  refine pure_ (i := 35) (N := some 89) (v := ?_) (a' := ?_) #[true,false,true,false,false,true,false,true,false,false,false,true,false,false,true,false,true,false,false,true,false,true,false,false,true,false,true,false,false,false,true,false,false,true,false,true,false,false,false,false] rfl rfl (any_of HT_.out (by kernel_rfl)) (fun _ _ _ h => h) (Or.inl ⟨by rfl, ?_⟩) ?_ ?_; rotate_left
  ·
   intro w'; go_simp
   with_reducible rfl
  rotate_left
  · simp only [Act.put, sA_, sZ_, sS_, i64_w, i32_w]; rfl
  refine take_ (i := 1) (N := some 55) (v := ?_) (a' := ?_) #[true,true,true,false,false,true,false,true,false,false,false,true,false,false,true,false,true,false,false,true,false,true,false,false,true,false,true,false,false,false,true,false,false,true,false,true,false,false,false,false] rfl rfl (take_ofW HT_.out HW_.out (by kernel_rfl)) (fun _ _ _ h => h) (Or.inl ⟨by rfl, ?_⟩) hHeld ?_ ?_; rotate_left
  ·
   rintro w' ⟨s0, s1, s2, s3, s4, s5, s6, s7, s8⟩; go_simp
   with_reducible rfl
  rotate_left
  · simp only [Act.put, sA_, sZ_, sS_, i64_w, i32_w]; rfl
  refine take_ (i := 3) (N := some 57) (v := ?_) (a' := ?_) #[true,true,true,true,false,true,false,true,false,false,false,true,false,false,true,false,true,false,false,true,false,true,false,false,true,false,true,false,false,false,true,false,false,true,false,true,false,false,false,false] rfl rfl (take_ofW HT_.out HW_.out (by kernel_rfl)) (fun _ _ _ h => h) (Or.inl ⟨by rfl, ?_⟩) hHeld ?_ ?_; rotate_left
  ·
   rintro w' ⟨s0, s1, s2, s3, s4, s5, s6, s7, s8⟩; go_simp
   with_reducible rfl
  rotate_left
  · simp only [Act.put, sA_, sZ_, sS_, i64_w, i32_w]; rfl
  refine pure_ (i := 4) (N := some 58) (v := ?_) (a' := ?_) #[true,true,true,true,true,true,false,true,false,false,false,true,false,false,true,false,true,false,false,true,false,true,false,false,true,false,true,false,false,false,true,false,false,true,false,true,false,false,false,false] rfl rfl (any_of HT_.out (by kernel_rfl)) (fun _ _ _ h => h) (Or.inl ⟨by rfl, ?_⟩) ?_ ?_; rotate_left
  ·
   intro w'; go_simp
   with_reducible rfl
  rotate_left
  · simp only [Act.put, sA_, sZ_, sS_, i64_w, i32_w]; rfl
  refine take_ (i := 6) (N := some 60) (v := ?_) (a' := ?_) #[true,true,true,true,true,true,true,true,false,false,false,true,false,false,true,false,true,false,false,true,false,true,false,false,true,false,true,false,false,false,true,false,false,true,false,true,false,false,false,false] rfl rfl (take_ofW HT_.out HW_.out (by kernel_rfl)) (fun _ _ _ h => h) (Or.inl ⟨by rfl, ?_⟩) hHeld ?_ ?_; rotate_left
  ·
   rintro w' ⟨s0, s1, s2, s3, s4, s5, s6, s7, s8⟩; go_simp
   with_reducible rfl
  rotate_left
  · simp only [Act.put, sA_, sZ_, sS_, i64_w, i32_w]; rfl
  refine take_ (i := 8) (N := some 62) (v := ?_) (a' := ?_) #[true,true,true,true,true,true,true,true,true,false,false,true,false,false,true,false,true,false,false,true,false,true,false,false,true,false,true,false,false,false,true,false,false,true,false,true,false,false,false,false] rfl rfl (take_ofW HT_.out HW_.out (by kernel_rfl)) (fun _ _ _ h => h) (Or.inl ⟨by rfl, ?_⟩) hHeld ?_ ?_; rotate_left
  ·
   rintro w' ⟨s0, s1, s2, s3, s4, s5, s6, s7, s8⟩; go_simp
   with_reducible rfl
  rotate_left
  · simp only [Act.put, sA_, sZ_, sS_, i64_w, i32_w]; rfl
  refine pure_ (i := 9) (N := some 63) (v := ?_) (a' := ?_) #[true,true,true,true,true,true,true,true,true,true,false,true,false,false,true,false,true,false,false,true,false,true,false,false,true,false,true,false,false,false,true,false,false,true,false,true,false,false,false,false] rfl rfl (any_of HT_.out (by kernel_rfl)) (fun _ _ _ h => h) (Or.inl ⟨by rfl, ?_⟩) ?_ ?_; rotate_left
  ·
   intro w'; go_simp
   with_reducible rfl
  rotate_left
  · simp only [Act.put, sA_, sZ_, sS_, i64_w, i32_w]; rfl
  refine pure_ (i := 10) (N := some 64) (v := ?_) (a' := ?_) #[true,true,true,true,true,true,true,true,true,true,true,true,false,false,true,false,true,false,false,true,false,true,false,false,true,false,true,false,false,false,true,false,false,true,false,true,false,false,false,false] rfl rfl (any_of HT_.out (by kernel_rfl)) (fun _ _ _ h => h) (Or.inl ⟨by rfl, ?_⟩) ?_ ?_; rotate_left
  ·
   intro w'; go_simp
   with_reducible rfl
  rotate_left
  · simp only [Act.put, sA_, sZ_, sS_, i64_w, i32_w]; rfl
  refine take_ (i := 12) (N := some 66) (v := ?_) (a' := ?_) #[true,true,true,true,true,true,true,true,true,true,true,true,true,false,true,false,true,false,false,true,false,true,false,false,true,false,true,false,false,false,true,false,false,true,false,true,false,false,false,false] rfl rfl (take_ofW HT_.out HW_.out (by kernel_rfl)) (fun _ _ _ h => h) (Or.inl ⟨by rfl, ?_⟩) hHeld ?_ ?_; rotate_left
  ·
   rintro w' ⟨s0, s1, s2, s3, s4, s5, s6, s7, s8⟩; go_simp
   with_reducible rfl
  rotate_left
  · simp only [Act.put, sA_, sZ_, sS_, i64_w, i32_w]; rfl
  refine pure_ (i := 13) (N := some 67) (v := ?_) (a' := ?_) #[true,true,true,true,true,true,true,true,true,true,true,true,true,true,true,false,true,false,false,true,false,true,false,false,true,false,true,false,false,false,true,false,false,true,false,true,false,false,false,false] rfl rfl (any_of HT_.out (by kernel_rfl)) (fun _ _ _ h => h) (Or.inl ⟨by rfl, ?_⟩) ?_ ?_; rotate_left
  ·
   intro w'; go_simp
   with_reducible rfl
  rotate_left
  · simp only [Act.put, sA_, sZ_, sS_, i64_w, i32_w]; rfl
  refine pure_ (i := 15) (N := some 69) (v := ?_) (a' := ?_) #[true,true,true,true,true,true,true,true,true,true,true,true,true,true,true,true,true,false,false,true,false,true,false,false,true,false,true,false,false,false,true,false,false,true,false,true,false,false,false,false] rfl rfl (any_of HT_.out (by kernel_rfl)) (fun _ _ _ h => h) (Or.inl ⟨by rfl, ?_⟩) ?_ ?_; rotate_left
  ·
   intro w'; go_simp
   with_reducible rfl
  rotate_left
  · simp only [Act.put, sA_, sZ_, sS_, i64_w, i32_w]; rfl
  refine take_ (i := 17) (N := some 71) (v := ?_) (a' := ?_) #[true,true,true,true,true,true,true,true,true,true,true,true,true,true,true,true,true,true,false,true,false,true,false,false,true,false,true,false,false,false,true,false,false,true,false,true,false,false,false,false] rfl rfl (take_ofW HT_.out HW_.out (by kernel_rfl)) (fun _ _ _ h => h) (Or.inl ⟨by rfl, ?_⟩) hHeld ?_ ?_; rotate_left
  ·
   rintro w' ⟨s0, s1, s2, s3, s4, s5, s6, s7, s8⟩; go_simp
   with_reducible rfl
  rotate_left
  · simp only [Act.put, sA_, sZ_, sS_, i64_w, i32_w]; rfl
  refine pure_ (i := 18) (N := some 72) (v := ?_) (a' := ?_) #[true,true,true,true,true,true,true,true,true,true,true,true,true,true,true,true,true,true,true,true,false,true,false,false,true,false,true,false,false,false,true,false,false,true,false,true,false,false,false,false] rfl rfl (any_of HT_.out (by kernel_rfl)) (fun _ _ _ h => h) (Or.inl ⟨by rfl, ?_⟩) ?_ ?_; rotate_left
  ·
   intro w'; go_simp
   with_reducible rfl
  rotate_left
  · simp only [Act.put, sA_, sZ_, sS_, i64_w, i32_w]; rfl
  refine take_ (i := 20) (N := some 74) (v := ?_) (a' := ?_) #[true,true,true,true,true,true,true,true,true,true,true,true,true,true,true,true,true,true,true,true,true,true,false,false,true,false,true,false,false,false,true,false,false,true,false,true,false,false,false,false] rfl rfl (take_ofW HT_.out HW_.out (by kernel_rfl)) (fun _ _ _ h => h) (Or.inl ⟨by rfl, ?_⟩) hHeld ?_ ?_; rotate_left
  ·
   rintro w' ⟨s0, s1, s2, s3, s4, s5, s6, s7, s8⟩; go_simp
   with_reducible rfl
  rotate_left
  · simp only [Act.put, sA_, sZ_, sS_, i64_w, i32_w]; rfl
  refine take_ (i := 22) (N := some 76) (v := ?_) (a' := ?_) #[true,true,true,true,true,true,true,true,true,true,true,true,true,true,true,true,true,true,true,true,true,true,true,false,true,false,true,false,false,false,true,false,false,true,false,true,false,false,false,false] rfl rfl (take_ofW HT_.out HW_.out (by kernel_rfl)) (fun _ _ _ h => h) (Or.inl ⟨by rfl, ?_⟩) hHeld ?_ ?_; rotate_left
  ·
   rintro w' ⟨s0, s1, s2, s3, s4, s5, s6, s7, s8⟩; go_simp
   with_reducible rfl
  rotate_left
  · simp only [Act.put, sA_, sZ_, sS_, i64_w, i32_w]; rfl
  refine pure_ (i := 23) (N := some 77) (v := ?_) (a' := ?_) #[true,true,true,true,true,true,true,true,true,true,true,true,true,true,true,true,true,true,true,true,true,true,true,true,true,false,true,false,false,false,true,false,false,true,false,true,false,false,false,false] rfl rfl (any_of HT_.out (by kernel_rfl)) (fun _ _ _ h => h) (Or.inl ⟨by rfl, ?_⟩) ?_ ?_; rotate_left
  ·
   intro w'; go_simp
   with_reducible rfl
  rotate_left
  · simp only [Act.put, sA_, sZ_, sS_, i64_w, i32_w]; rfl
  refine take_ (i := 25) (N := some 79) (v := ?_) (a' := ?_) #[true,true,true,true,true,true,true,true,true,true,true,true,true,true,true,true,true,true,true,true,true,true,true,true,true,true,true,false,false,false,true,false,false,true,false,true,false,false,false,false] rfl rfl (take_ofW HT_.out HW_.out (by kernel_rfl)) (fun _ _ _ h => h) (Or.inl ⟨by rfl, ?_⟩) hHeld ?_ ?_; rotate_left
  ·
   rintro w' ⟨s0, s1, s2, s3, s4, s5, s6, s7, s8⟩; go_simp
   with_reducible rfl
  rotate_left
  · simp only [Act.put, sA_, sZ_, sS_, i64_w, i32_w]; rfl
  refine take_ (i := 27) (N := some 81) (v := ?_) (a' := ?_) #[true,true,true,true,true,true,true,true,true,true,true,true,true,true,true,true,true,true,true,true,true,true,true,true,true,true,true,true,false,false,true,false,false,true,false,true,false,false,false,false] rfl rfl (take_ofW HT_.out HW_.out (by kernel_rfl)) (fun _ _ _ h => h) (Or.inl ⟨by rfl, ?_⟩) hHeld ?_ ?_; rotate_left
  ·
   rintro w' ⟨s0, s1, s2, s3, s4, s5, s6, s7, s8⟩; go_simp
   with_reducible rfl
  rotate_left
  · simp only [Act.put, sA_, sZ_, sS_, i64_w, i32_w]; rfl
  refine pure_ (i := 28) (N := some 82) (v := ?_) (a' := ?_) #[true,true,true,true,true,true,true,true,true,true,true,true,true,true,true,true,true,true,true,true,true,true,true,true,true,true,true,true,true,false,true,false,false,true,false,true,false,false,false,false] rfl rfl (any_of HT_.out (by kernel_rfl)) (fun _ _ _ h => h) (Or.inl ⟨by rfl, ?_⟩) ?_ ?_; rotate_left
  ·
   intro w'; go_simp
   with_reducible rfl
  rotate_left
  · simp only [Act.put, sA_, sZ_, sS_, i64_w, i32_w]; rfl
  refine pure_ (i := 29) (N := some 83) (v := ?_) (a' := ?_) #[true,true,true,true,true,true,true,true,true,true,true,true,true,true,true,true,true,true,true,true,true,true,true,true,true,true,true,true,true,true,true,false,false,true,false,true,false,false,false,false] rfl rfl (any_of HT_.out (by kernel_rfl)) (fun _ _ _ h => h) (Or.inl ⟨by rfl, ?_⟩) ?_ ?_; rotate_left
  ·
   intro w'; go_simp
   with_reducible rfl
  rotate_left
  · simp only [Act.put, sA_, sZ_, sS_, i64_w, i32_w]; rfl
  refine take_ (i := 31) (N := some 85) (v := ?_) (a' := ?_) #[true,true,true,true,true,true,true,true,true,true,true,true,true,true,true,true,true,true,true,true,true,true,true,true,true,true,true,true,true,true,true,true,false,true,false,true,false,false,false,false] rfl rfl (take_ofW HT_.out HW_.out (by kernel_rfl)) (fun _ _ _ h => h) (Or.inl ⟨by rfl, ?_⟩) hHeld ?_ ?_; rotate_left
  ·
   rintro w' ⟨s0, s1, s2, s3, s4, s5, s6, s7, s8⟩; go_simp
   with_reducible rfl
  rotate_left
  · simp only [Act.put, sA_, sZ_, sS_, i64_w, i32_w]; rfl
  refine pure_ (i := 32) (N := some 86) (v := ?_) (a' := ?_) #[true,true,true,true,true,true,true,true,true,true,true,true,true,true,true,true,true,true,true,true,true,true,true,true,true,true,true,true,true,true,true,true,true,true,false,true,false,false,false,false] rfl rfl (any_of HT_.out (by kernel_rfl)) (fun _ _ _ h => h) (Or.inl ⟨by rfl, ?_⟩) ?_ ?_; rotate_left
  ·
   intro w'; go_simp
   with_reducible rfl
  rotate_left
  · simp only [Act.put, sA_, sZ_, sS_, i64_w, i32_w]; rfl
  refine pure_ (i := 34) (N := some 88) (v := ?_) (a' := ?_) #[true,true,true,true,true,true,true,true,true,true,true,true,true,true,true,true,true,true,true,true,true,true,true,true,true,true,true,true,true,true,true,true,true,true,true,true,false,false,false,false] rfl rfl (any_of HT_.out (by kernel_rfl)) (fun _ _ _ h => h) (Or.inl ⟨by rfl, ?_⟩) ?_ ?_; rotate_left
  ·
   intro w'; go_simp
   with_reducible rfl
  rotate_left
  · simp only [Act.put, sA_, sZ_, sS_, i64_w, i32_w]; rfl
  refine take_ (i := 36) (N := some 90) (v := ?_) (a' := ?_) #[true,true,true,true,true,true,true,true,true,true,true,true,true,true,true,true,true,true,true,true,true,true,true,true,true,true,true,true,true,true,true,true,true,true,true,true,true,false,false,false] rfl rfl (take_ofW HT_.out HW_.out (by kernel_rfl)) (fun _ _ _ h => h) (Or.inl ⟨by rfl, ?_⟩) hHeld ?_ ?_; rotate_left
  ·
   rintro w' ⟨s0, s1, s2, s3, s4, s5, s6, s7, s8⟩; go_simp
   with_reducible rfl
  rotate_left
  · simp only [Act.put, sA_, sZ_, sS_, i64_w, i32_w]; rfl
  refine pure_ (i := 37) (N := some 91) (v := ?_) (a' := ?_) #[true,true,true,true,true,true,true,true,true,true,true,true,true,true,true,true,true,true,true,true,true,true,true,true,true,true,true,true,true,true,true,true,true,true,true,true,true,true,false,false] rfl rfl (any_of HT_.out (by kernel_rfl)) (fun _ _ _ h => h) (Or.inl ⟨by rfl, ?_⟩) ?_ ?_; rotate_left
  ·
   intro w'; go_simp
   with_reducible rfl
  rotate_left
  · simp only [Act.put, sA_, sZ_, sS_, i64_w, i32_w]; rfl
  refine pure_ (i := 38) (N := some 92) (v := ?_) (a' := ?_) #[true,true,true,true,true,true,true,true,true,true,true,true,true,true,true,true,true,true,true,true,true,true,true,true,true,true,true,true,true,true,true,true,true,true,true,true,true,true,true,false] rfl rfl (any_of HT_.out (by kernel_rfl)) (fun _ _ _ h => h) (Or.inl ⟨by rfl, ?_⟩) ?_ ?_; rotate_left
  ·
   intro w'; go_simp
   with_reducible rfl
  rotate_left
  · simp only [Act.put, sA_, sZ_, sS_, i64_w, i32_w]; rfl
  refine one_ (i := 39) (N := none) #[true,true,true,true,true,true,true,true,true,true,true,true,true,true,true,true,true,true,true,true,true,true,true,true,true,true,true,true,true,true,true,true,true,true,true,true,true,true,true,true] rfl rfl (one_of HT_.out (by kernel_rfl)) (by decide) (fun K hK => ?_)
  have hs17 : w16.cell? ⟨gb170, 0, none⟩ = some (.int .i64 0) := bc_ BK170 0
  have hfs17 := blk_frozen BK170.out 0; have hns17_0 := NB167_170.out; have hns17_1 := NB168_170.out; have hns17_2 := NB169_170.out; have hms17_0 := NB170_167.out; have hms17_1 := NB170_168.out; have hms17_2 := NB170_169.out
  have hs18 : w16.cell? ⟨gb170, 1, none⟩ = some (.int .i64 0) := bc_ BK170 1
  have hfs18 := blk_frozen BK170.out 1; have hns18_0 := NB167_170.out; have hns18_1 := NB168_170.out; have hns18_2 := NB169_170.out; have hms18_0 := NB170_167.out; have hms18_1 := NB170_168.out; have hms18_2 := NB170_169.out; refine skip_ (w1 := ?_) (by rfl) rfl ?_ ?_; rotate_left
  · go_simp; rfl
  refine hK.out _ _ ⟨((cell_far (p := ⟨gb170, _, none⟩) NB168_170.out _).trans (((cell_far (p := ⟨gb170, _, none⟩) NB168_170.out _).trans (hHeld.1)))), ((cell_far (p := ⟨gb170, _, none⟩) NB168_170.out _).trans (((cell_far (p := ⟨gb170, _, none⟩) NB168_170.out _).trans (hHeld.2.1)))), ((cell_far (p := ⟨gb170, _, none⟩) NB169_170.out _).trans (((cell_far (p := ⟨gb170, _, none⟩) NB169_170.out _).trans (hHeld.2.2.1)))), ((cell_far (p := ⟨gb170, _, none⟩) NB169_170.out _).trans (((cell_far (p := ⟨gb170, _, none⟩) NB169_170.out _).trans (hHeld.2.2.2.1)))), ((cell_far (p := ⟨gb170, _, none⟩) NB167_170.out _).trans (((cell_far (p := ⟨gb170, _, none⟩) NB167_170.out _).trans (hHeld.2.2.2.2.1)))), ((cell_far (p := ⟨gb170, _, none⟩) NB167_170.out _).trans (((cell_far (p := ⟨gb170, _, none⟩) NB167_170.out _).trans (hHeld.2.2.2.2.2.1)))), ((cell_far (p := ⟨gb170, _, none⟩) NB167_170.out _).trans (((cell_far (p := ⟨gb170, _, none⟩) NB167_170.out _).trans (hHeld.2.2.2.2.2.2.1)))), ((cell_far (p := ⟨gb170, _, none⟩) NB167_170.out _).trans (((cell_far (p := ⟨gb170, _, none⟩) NB167_170.out _).trans (hHeld.2.2.2.2.2.2.2.1)))), ((cell_far (p := ⟨gb170, _, none⟩) NB167_170.out _).trans (((cell_far (p := ⟨gb170, _, none⟩) NB167_170.out _).trans (hHeld.2.2.2.2.2.2.2.2))))⟩ (fun hHeld => ?_); clear hK K; refine done_ (done_of HT_.out (by kernel_rfl)) ?_
  try go_wp2
  refine bodyPost_ret (results_cell_row rfl _ _ gb170 26 #[.int .i64 (Int.tmod (wrap64 ((Int.tmod (wrap64 ((wrap64 (a1_0 * a2_1)) + (wrap64 (a1_1 * a2_0)))) a0_0) * t171)) a0_0), .int .i64 (Int.tmod (wrap64 ((Int.tmod (wrap64 ((wrap64 (a1_1 * a2_1)) + (wrap64 (a1_0 * a2_0)))) a0_0) * t173)) a0_0)] (0, 0) _ rfl (by (with_reducible repeat (first | refine blk_drewN ?_ _ | refine blk_drew ?_ | refine blk_alloc ?_ _)); refine blk_put (cs := #[.int .i64 (Int.tmod (wrap64 ((Int.tmod (wrap64 ((wrap64 (a1_0 * a2_1)) + (wrap64 (a1_1 * a2_0)))) a0_0) * t171)) a0_0), .int .i64 0]) ?_ 1 _ rfl; (with_reducible repeat (first | refine blk_drewN ?_ _ | refine blk_drew ?_ | refine blk_alloc ?_ _)); refine blk_put (cs := #[.int .i64 0, .int .i64 0]) ?_ 0 _ rfl; (with_reducible repeat (first | refine blk_drewN ?_ _ | refine blk_drew ?_ | refine blk_alloc ?_ _)); exact BK170.out) Try.underlying26 rfl (by kernel_rfl)) rfl ?_; exact ⟨by first | rfl | (simp [errW_none, errW_some] <;> rfl) | (simp [*, errW_none, errW_some] <;> rfl), by repeat (first | (with_reducible first | exact HB.out | apply below_alloc | apply pw_below_drewN | apply below_drew1 | refine below_set ?_ GE167.out | refine below_set ?_ GE168.out | refine below_set ?_ GE169.out | refine below_set ?_ GE170.out) | exact HB.out)⟩

/-! ### impl_Ed_times: function 40 -/
def impl_Ed_times.l0 : Nat → Int → Int → Int → Int → Int → Int → Int → Int → Int → Int → Int → Option (Int × Int)
  | 0, _, _, _, _, _, _, _, _, _, _, _ => none
  | k + 1, x1, x8, x176000, x176001, x176002, x176003, x176004, x177000, x177001, x179000, x179001 => if x8 ≥ 0 then ((impl_Ed_sum.f k x176000 x176001 x176002 x176003 x176004 x179000 x179001 x179000 x179001).bind fun bt180 => (if 0 ≤ x8 then (if (Go.bits .and .i64 (shr .i64 x1 x8) 1) = 1 then ((impl_Ed_sum.f k x176000 x176001 x176002 x176003 x176004 bt180.1 bt180.2 x177000 x177001).bind fun bt182 => (impl_Ed_times.l0 k x1 (wrap64 (x8 - 1)) x176000 x176001 x176002 x176003 x176004 x177000 x177001 bt182.1 bt182.2)) else (impl_Ed_times.l0 k x1 (wrap64 (x8 - 1)) x176000 x176001 x176002 x176003 x176004 x177000 x177001 bt180.1 bt180.2)) else (none))) else (some (x179000, x179001))
def impl_Ed_times.f (k : Nat) (a0_0 : Int) (a0_1 : Int) (a0_2 : Int) (a0_3 : Int) (a0_4 : Int) (a1 : Int) (a2_0 : Int) (a2_1 : Int) : Option (Int × Int) := (bits_Len.f k (IntKind.u64.wrap (a1))).bind fun t179 => (impl_Ed_times.l0 k a1 (wrap64 (t179 - 1)) a0_0 a0_1 a0_2 a0_3 a0_4 a2_0 a2_1 0 1)
theorem impl_Ed_times.mono_l : ∀ k, (∀ y0 y1 y2 y3 y4 y5 y6 y7 y8 y9 y10, LeO (impl_Ed_times.l0 k y0 y1 y2 y3 y4 y5 y6 y7 y8 y9 y10) (impl_Ed_times.l0 (k + 1) y0 y1 y2 y3 y4 y5 y6 y7 y8 y9 y10))
 | 0 => fun _ _ _ _ _ _ _ _ _ _ _ r h => by simp [impl_Ed_times.l0] at h
 | k + 1 => by
  have ih0 := impl_Ed_times.mono_l k
  ·
   intro y0 y1 y2 y3 y4 y5 y6 y7 y8 y9 y10
   unfold impl_Ed_times.l0
   repeat' first
   | (with_reducible exact ih0 _ _ _ _ _ _ _ _ _ _ _)
   | (with_reducible exact bits_Len.mono _ _)
   | (with_reducible exact impl_Ed_sum.mono _ _ _ _ _ _ _ _ _ _)
   | (with_reducible exact LeO.refl _)
   | (with_reducible exact LeO.none _)
   | (with_reducible refine LeO.ite ?_ ?_)
   | (with_reducible refine LeO.bind ?_ (fun _ => ?_))
   | exact ih0 _ _ _ _ _ _ _ _ _ _ _
   | exact bits_Len.mono _ _
   | exact impl_Ed_sum.mono _ _ _ _ _ _ _ _ _ _
   | exact LeO.none _
   | refine LeO.ite ?_ ?_
   | refine LeO.bind ?_ (fun _ => ?_)
theorem impl_Ed_times.mono : ∀ a0 a1 a2 a3 a4 a5 a6 a7 k, LeO (impl_Ed_times.f k a0 a1 a2 a3 a4 a5 a6 a7) (impl_Ed_times.f (k + 1) a0 a1 a2 a3 a4 a5 a6 a7) := by
 intro a0 a1 a2 a3 a4 a5 a6 a7 k; have ih0 := impl_Ed_times.mono_l k
 unfold impl_Ed_times.f
 repeat' first
   | (with_reducible exact ih0 _ _ _ _ _ _ _ _ _ _ _)
   | (with_reducible exact bits_Len.mono _ _)
   | (with_reducible exact impl_Ed_sum.mono _ _ _ _ _ _ _ _ _ _)
   | (with_reducible exact LeO.refl _)
   | (with_reducible exact LeO.none _)
   | (with_reducible refine LeO.ite ?_ ?_)
   | (with_reducible refine LeO.bind ?_ (fun _ => ?_))
   | exact ih0 _ _ _ _ _ _ _ _ _ _ _
   | exact bits_Len.mono _ _
   | exact impl_Ed_sum.mono _ _ _ _ _ _ _ _ _ _
   | exact LeO.none _
   | refine LeO.ite ?_ ?_
   | refine LeO.bind ?_ (fun _ => ?_)
set_option maxHeartbeats 8000000 in
set_option maxRecDepth 100000 in
theorem impl_Ed_times.calls (k : Nat) (a0_0 : Int) (a0_1 : Int) (a0_2 : Int) (a0_3 : Int) (a0_4 : Int) (a1 : Int) (a2_0 : Int) (a2_1 : Int) (r1 : Int) (r2 : Int) (w : World) (h : impl_Ed_times.f k a0_0 a0_1 a0_2 a0_3 a0_4 a1 a2_0 a2_1 = some (r1, r2)) :
  Calls Try.prog 40 #[.agg #[.int .i64 a0_0, .int .i64 a0_1, .int .i64 a0_2, .int .i64 a0_3, .int .i64 a0_4], .int .i64 a1, .agg #[.int .i64 a2_0, .int .i64 a2_1]] w fun e w' => e = .returned (.agg #[.int .i64 r1, .int .i64 r2]) ∧ Below w.heap.size w w' := by
 have hu29 := Try.underlying29; have hu26 := Try.underlying26; have HB := Aside0.mk (Below.refl w.heap.size w)
 have H : ((bits_Len.f k (IntKind.u64.wrap (a1))).bind fun t179 => (impl_Ed_times.l0 k a1 (wrap64 (t179 - 1)) a0_0 a0_1 a0_2 a0_3 a0_4 a2_0 a2_1 0 1)) = some (r1, r2) := h
 clear h; replace H := Option.bind_eq_some_iff.mp H; obtain ⟨t179, A40, H⟩ := H
 replace H : (impl_Ed_times.l0 k a1 (wrap64 (t179 - 1)) a0_0 a0_1 a0_2 a0_3 a0_4 a2_0 a2_1 0 1) = some (r1, r2) := H
 have A4 := Aside0.mk A40; clear A40
 have H' := Aside0.mk H
 clear H
 go_enter Try.func40, Try.ntmps40
 go_wp2_with (first | ((with_reducible refine gate_dst (N := 3) rfl ?_); refine box_event ?hg (N := 3) ?hd (cs := #[.int .i64 a0_0, .int .i64 a0_1, .int .i64 a0_2, .int .i64 a0_3, .int .i64 a0_4]) (t := 29) ?hr ?_; (case hd => rfl); (case hg => rfl); (case hr => first | (go_simp; done) | (go_simp; rfl)); intro gb175 hg w5 hbox hb; have n0_ := bs_ HB hb; have n1_ := Aside0.mk hbox; have n2_ := ge_ HB hg; have n3_ := ge_ HB hg; clear HB; have HB := n0_; have BK175 := n1_; have GW175 := n2_; have GE175 := n3_; clear n0_ n1_ n2_ n3_; clear hb hbox hg) | ((with_reducible refine gate_dst (N := 5) rfl ?_); refine box_event ?hg (N := 5) ?hd (cs := #[.int .i64 a2_0, .int .i64 a2_1]) (t := 26) ?hr ?_; (case hd => rfl); (case hg => rfl); (case hr => first | (go_simp; done) | (go_simp; rfl)); intro gb176 hg w6 hbox hb; have n0_ := bb_ BK175 hb; have n1_ := bs_ HB hb; have n2_ := Aside0.mk hbox; have n3_ := ge_ HB hg; have n4_ := ge_ HB hg; have n5_ := nl_ BK175 hg; have n6_ := nr_ BK175 hg; clear BK175; clear HB; have BK175 := n0_; have HB := n1_; have BK176 := n2_; have GW176 := n3_; have GE176 := n4_; have NB175_176 := n5_; have NB176_175 := n6_; clear n0_ n1_ n2_ n3_ n4_ n5_ n6_; clear hb hbox hg) | ((with_reducible refine gate_dst (N := 6) rfl ?_); refine box_event ?hg (N := 6) ?hd (cs := #[.int .i64 0, .int .i64 0]) (t := 26) ?hr ?_; (case hd => rfl); (case hg => rfl); (case hr => first | (go_simp; done) | (go_simp; rfl)); intro gb177 hg w7 hbox hb; have n0_ := bb_ BK175 hb; have n1_ := bb_ BK176 hb; have n2_ := bs_ HB hb; have n3_ := Aside0.mk hbox; have n4_ := ge_ HB hg; have n5_ := ge_ HB hg; have n6_ := nl_ BK175 hg; have n7_ := nr_ BK175 hg; have n8_ := nl_ BK176 hg; have n9_ := nr_ BK176 hg; clear BK175; clear BK176; clear HB; have BK175 := n0_; have BK176 := n1_; have HB := n2_; have BK177 := n3_; have GW177 := n4_; have GE177 := n5_; have NB175_177 := n6_; have NB177_175 := n7_; have NB176_177 := n8_; have NB177_176 := n9_; clear n0_ n1_ n2_ n3_ n4_ n5_ n6_ n7_ n8_ n9_; clear hb hbox hg) | ((with_reducible refine gate_dst (N := 7) rfl ?_); refine box_event ?hg (N := 7) ?hd (cs := #[.int .i64 0, .int .i64 0]) (t := 26) ?hr ?_; (case hd => rfl); (case hg => rfl); (case hr => first | (go_simp; done) | (go_simp; rfl)); intro gb178 hg w8 hbox hb; have n0_ := bb_ BK175 hb; have n1_ := bb_ BK176 hb; have n2_ := bb_ BK177 hb; have n3_ := bs_ HB hb; have n4_ := Aside0.mk hbox; have n5_ := ge_ HB hg; have n6_ := ge_ HB hg; have n7_ := nl_ BK175 hg; have n8_ := nr_ BK175 hg; have n9_ := nl_ BK176 hg; have n10_ := nr_ BK176 hg; have n11_ := nl_ BK177 hg; have n12_ := nr_ BK177 hg; clear BK175; clear BK176; clear BK177; clear HB; have BK175 := n0_; have BK176 := n1_; have BK177 := n2_; have HB := n3_; have BK178 := n4_; have GW178 := n5_; have GE178 := n6_; have NB175_178 := n7_; have NB178_175 := n8_; have NB176_178 := n9_; have NB178_176 := n10_; have NB177_178 := n11_; have NB178_177 := n12_; clear n0_ n1_ n2_ n3_ n4_ n5_ n6_ n7_ n8_ n9_ n10_ n11_ n12_; clear hb hbox hg; have hnb9 := NB178_175.out; have hnc9 := NB175_178.out; have hnb10 := NB178_176.out; have hnc10 := NB176_178.out; have hnb11 := NB178_177.out; have hnc11 := NB177_178.out; have hcz12_0 : w8.cell? ⟨gb178, 0, none⟩ = some (.int .i64 0) := bc_ BK178 0; have hcz12_1 : w8.cell? ⟨gb178, 1, none⟩ = some (.int .i64 0) := bc_ BK178 1; have hfz12_0 := blk_frozen BK178.out 0; have hfz12_1 := blk_frozen BK178.out 1) | ((with_reducible refine gate_callee (f := 55) rfl ?_); refine goesL_ (some 12) rfl rfl Try.func55 (by kernel_rfl) rfl #[.int .u64 (IntKind.u64.wrap (a1))] rfl (by (try simp only [List.map_toArray, List.map_cons, List.map_nil]); first | done | rfl | (simp only [List.length_drop, List.length_take]; rfl)) ?_; (with_reducible refine (bits_Len.calls k (IntKind.u64.wrap (a1)) t179 _ A4.out).mono ?_); rintro e w' ⟨rfl, ⟨nd, rfl⟩⟩; refine ⟨_, rfl, ?_⟩))
 go_loopg [8] k (fun kq v8 w' => ∃ (x8_1 : Int) (x179000_1 : Int) (x179001_1 : Int), v8 = .int .i64 x8_1 ∧ Aside0 (impl_Ed_times.l0 kq a1 x8_1 a0_0 a0_1 a0_2 a0_3 a0_4 a2_0 a2_1 x179000_1 x179001_1 = some (r1, r2)) ∧ Aside0 (kq ≤ k) ∧ Aside0 (w'.heap[gb175]? = some (.cells #[.int .i64 a0_0, .int .i64 a0_1, .int .i64 a0_2, .int .i64 a0_3, .int .i64 a0_4] 29 (0, 0))) ∧ Aside0 (w'.heap[gb176]? = some (.cells #[.int .i64 a2_0, .int .i64 a2_1] 26 (0, 0))) ∧ Aside0 (w'.heap[gb177]? = some (.cells #[.int .i64 0, .int .i64 0] 26 (0, 0))) ∧ Aside0 (w'.heap[gb178]? = some (.cells #[.int .i64 x179000_1, .int .i64 x179001_1] 26 (0, 0))) ∧ Aside0 (Below w.heap.size w w'))
 case atStart => exact ⟨(wrap64 (t179 - 1)), (0), (1), (by first | rfl | (simp; done) | (simp [*]; done)), H', ⟨Nat.le_refl _⟩, ⟨by (with_reducible repeat (first | refine blk_drewN ?_ _ | refine blk_drew ?_ | refine blk_alloc ?_ _)); refine blk_far ?_ NB175_178.out _; (with_reducible repeat (first | refine blk_drewN ?_ _ | refine blk_drew ?_ | refine blk_alloc ?_ _)); refine blk_far ?_ NB175_178.out _; (with_reducible repeat (first | refine blk_drewN ?_ _ | refine blk_drew ?_ | refine blk_alloc ?_ _)); exact BK175.out⟩, ⟨by (with_reducible repeat (first | refine blk_drewN ?_ _ | refine blk_drew ?_ | refine blk_alloc ?_ _)); refine blk_far ?_ NB176_178.out _; (with_reducible repeat (first | refine blk_drewN ?_ _ | refine blk_drew ?_ | refine blk_alloc ?_ _)); refine blk_far ?_ NB176_178.out _; (with_reducible repeat (first | refine blk_drewN ?_ _ | refine blk_drew ?_ | refine blk_alloc ?_ _)); exact BK176.out⟩, ⟨by (with_reducible repeat (first | refine blk_drewN ?_ _ | refine blk_drew ?_ | refine blk_alloc ?_ _)); refine blk_far ?_ NB177_178.out _; (with_reducible repeat (first | refine blk_drewN ?_ _ | refine blk_drew ?_ | refine blk_alloc ?_ _)); refine blk_far ?_ NB177_178.out _; (with_reducible repeat (first | refine blk_drewN ?_ _ | refine blk_drew ?_ | refine blk_alloc ?_ _)); exact BK177.out⟩, ⟨by (with_reducible repeat (first | refine blk_drewN ?_ _ | refine blk_drew ?_ | refine blk_alloc ?_ _)); refine blk_put (cs := #[.int .i64 0, .int .i64 0]) ?_ 1 _ rfl; (with_reducible repeat (first | refine blk_drewN ?_ _ | refine blk_drew ?_ | refine blk_alloc ?_ _)); refine blk_put (cs := #[.int .i64 0, .int .i64 0]) ?_ 0 _ rfl; (with_reducible repeat (first | refine blk_drewN ?_ _ | refine blk_drew ?_ | refine blk_alloc ?_ _)); exact BK178.out⟩, ⟨by repeat (first | (with_reducible first | exact HB.out | apply below_alloc | apply pw_below_drewN | apply below_drew1 | refine below_set ?_ GE175.out | refine below_set ?_ GE176.out | refine below_set ?_ GE177.out | refine below_set ?_ GE178.out) | exact HB.out)⟩⟩
 case round =>
  clear H'
  try clear c1
  try clear p2
  try clear c4
  try clear c5
  try clear p6
  try clear c9
  try clear c10
  try clear c11
  try clear hcz12_0
  try clear hcz12_1
  try clear hfz12_0
  try clear hfz12_1
  obtain ⟨x8_1, x179000_1, x179001_1, rfl, HA, HK1, BK175, BK176, BK177, BK178, HB⟩ := hrel
  cases gk with
  | zero => exact absurd HA.out (by simp [impl_Ed_times.l0])
  | succ k1 =>
   have H := HA.out; clear HA
   simp only [impl_Ed_times.l0] at H
   by_cases c13 : x8_1 ≥ 0
   ·
    rw [if_pos c13] at H
    have c13b0 : decide (0 ≤ x8_1) = true := decide_eq_true c13
    clear c13; replace H := Option.bind_eq_some_iff.mp H; obtain ⟨⟨t180, t181⟩, A140, H⟩ := H
    replace H : (if 0 ≤ x8_1 then (if (Go.bits .and .i64 (shr .i64 a1 x8_1) 1) = 1 then ((impl_Ed_sum.f k1 a0_0 a0_1 a0_2 a0_3 a0_4 t180 t181 a2_0 a2_1).bind fun bt182 => (impl_Ed_times.l0 k1 a1 (wrap64 (x8_1 - 1)) a0_0 a0_1 a0_2 a0_3 a0_4 a2_0 a2_1 bt182.1 bt182.2)) else (impl_Ed_times.l0 k1 a1 (wrap64 (x8_1 - 1)) a0_0 a0_1 a0_2 a0_3 a0_4 a2_0 a2_1 t180 t181)) else (none)) = some (r1, r2) := H
    have A14 := Aside0.mk A140; clear A140
    by_cases c15 : 0 ≤ x8_1
    ·
     rw [if_pos c15] at H; have c15b0 := eq_true c15
     have c15b1 : decide (0 ≤ x8_1) = true := decide_eq_true c15
     clear c15; obtain ⟨ji16, hji16⟩ : ∃ j_ : Int, (shr .i64 a1 x8_1) = j_ := ⟨_, rfl⟩
     replace H : (if (Go.bits .and .i64 (ji16) 1) = 1 then ((impl_Ed_sum.f k1 a0_0 a0_1 a0_2 a0_3 a0_4 t180 t181 a2_0 a2_1).bind fun bt182 => (impl_Ed_times.l0 k1 a1 (wrap64 (x8_1 - 1)) a0_0 a0_1 a0_2 a0_3 a0_4 a2_0 a2_1 bt182.1 bt182.2)) else (impl_Ed_times.l0 k1 a1 (wrap64 (x8_1 - 1)) a0_0 a0_1 a0_2 a0_3 a0_4 a2_0 a2_1 t180 t181)) = some (r1, r2) := by first | (rw [hji16] at H; exact H) | (simp only [hji16] at H ⊢; exact H)
     (try rw [hji16] at A14)
     have hji16_ : (a1 / 2 ^ min x8_1.toNat 64) = ji16 := hji16
     have hji16z : x8_1 ≤ 64 → (a1 / 2 ^ x8_1.toNat) = ji16 := shr_small hji16
     by_cases c17 : (Go.bits .and .i64 (ji16) 1) = 1
     ·
      rw [if_pos c17] at H
      have c17b0 : ((Go.bits .and .i64 (ji16) 1) == 1) = true := beq_iff_eq.mpr c17
      have c17b1 : ((Go.bits .and .i64 (ji16) 1) != 1) = false := bne_eq_false_iff_eq.mpr c17
      clear c17; replace H := Option.bind_eq_some_iff.mp H; obtain ⟨⟨t182, t183⟩, A180, H⟩ := H
      replace H : (impl_Ed_times.l0 k1 a1 (wrap64 (x8_1 - 1)) a0_0 a0_1 a0_2 a0_3 a0_4 a2_0 a2_1 t182 t183) = some (r1, r2) := H
      have A18 := Aside0.mk A180; clear A180
      have H' := Aside0.mk H
      clear H; have hnb19 := NB175_176.out; have hnc19 := NB176_175.out; have hnb20 := NB175_177.out; have hnc20 := NB177_175.out; have hnb21 := NB175_178.out; have hnc21 := NB178_175.out
      have hcz22_0 : wr.cell? ⟨gb175, 0, none⟩ = some (.int .i64 a0_0) := bc_ BK175 0
      have hcz22_1 : wr.cell? ⟨gb175, 1, none⟩ = some (.int .i64 a0_1) := bc_ BK175 1
      have hcz22_2 : wr.cell? ⟨gb175, 2, none⟩ = some (.int .i64 a0_2) := bc_ BK175 2
      have hcz22_3 : wr.cell? ⟨gb175, 3, none⟩ = some (.int .i64 a0_3) := bc_ BK175 3
      have hcz22_4 : wr.cell? ⟨gb175, 4, none⟩ = some (.int .i64 a0_4) := bc_ BK175 4
      have hfz22_0 := blk_frozen BK175.out 0; have hfz22_1 := blk_frozen BK175.out 1; have hfz22_2 := blk_frozen BK175.out 2; have hfz22_3 := blk_frozen BK175.out 3; have hfz22_4 := blk_frozen BK175.out 4; have hnb23 := NB178_176.out; have hnc23 := NB176_178.out; have hnb24 := NB178_177.out; have hnc24 := NB177_178.out
      have hcz25_0 : wr.cell? ⟨gb178, 0, none⟩ = some (.int .i64 x179000_1) := bc_ BK178 0
      have hcz25_1 : wr.cell? ⟨gb178, 1, none⟩ = some (.int .i64 x179001_1) := bc_ BK178 1
      have hfz25_0 := blk_frozen BK178.out 0; have hfz25_1 := blk_frozen BK178.out 1
      go_wp2_with (first | ((with_reducible refine gate_callee (f := 28) rfl ?_); refine goesL_ (some 21) rfl rfl Try.func28 (by kernel_rfl) rfl #[.agg #[.int .i64 a0_0, .int .i64 a0_1, .int .i64 a0_2, .int .i64 a0_3, .int .i64 a0_4], .agg #[.int .i64 x179000_1, .int .i64 x179001_1], .agg #[.int .i64 x179000_1, .int .i64 x179001_1]] rfl (by (try simp only [List.map_toArray, List.map_cons, List.map_nil]); first | done | rfl | (simp only [List.length_drop, List.length_take]; rfl)) ?_; (with_reducible refine (impl_Ed_sum.calls k1 a0_0 a0_1 a0_2 a0_3 a0_4 x179000_1 x179001_1 x179000_1 x179001_1 t180 t181 _ A14.out).mono ?_); rintro e w26 ⟨rfl, hb⟩; refine ⟨_, rfl, ?_⟩; have n0_ := bb_ BK175 hb; have n1_ := bb_ BK176 hb; have n2_ := bb_ BK177 hb; have n3_ := bb_ BK178 hb; have n4_ := bs_ HB hb; clear BK175; clear BK176; clear BK177; clear BK178; clear HB; have BK175 := n0_; have BK176 := n1_; have BK177 := n2_; have BK178 := n3_; have HB := n4_; clear n0_ n1_ n2_ n3_ n4_; (try clear hb); (try clear hb2); (try clear hk); (try clear hi); have hcz27_0 : w26.cell? ⟨gb178, 0, none⟩ = some (.int .i64 x179000_1) := bc_ BK178 0; have hcz27_1 : w26.cell? ⟨gb178, 1, none⟩ = some (.int .i64 x179001_1) := bc_ BK178 1; have hfz27_0 := blk_frozen BK178.out 0; have hfz27_1 := blk_frozen BK178.out 1; have hcz28_0 : w26.cell? ⟨gb175, 0, none⟩ = some (.int .i64 a0_0) := bc_ BK175 0; have hcz28_1 : w26.cell? ⟨gb175, 1, none⟩ = some (.int .i64 a0_1) := bc_ BK175 1; have hcz28_2 : w26.cell? ⟨gb175, 2, none⟩ = some (.int .i64 a0_2) := bc_ BK175 2; have hcz28_3 : w26.cell? ⟨gb175, 3, none⟩ = some (.int .i64 a0_3) := bc_ BK175 3; have hcz28_4 : w26.cell? ⟨gb175, 4, none⟩ = some (.int .i64 a0_4) := bc_ BK175 4; have hfz28_0 := blk_frozen BK175.out 0; have hfz28_1 := blk_frozen BK175.out 1; have hfz28_2 := blk_frozen BK175.out 2; have hfz28_3 := blk_frozen BK175.out 3; have hfz28_4 := blk_frozen BK175.out 4; have hnb29 := NB176_177.out; have hnc29 := NB177_176.out; have hcz30_0 : w26.cell? ⟨gb176, 0, none⟩ = some (.int .i64 a2_0) := bc_ BK176 0; have hcz30_1 : w26.cell? ⟨gb176, 1, none⟩ = some (.int .i64 a2_1) := bc_ BK176 1; have hfz30_0 := blk_frozen BK176.out 0; have hfz30_1 := blk_frozen BK176.out 1) | ((with_reducible refine gate_callee (f := 28) rfl ?_); refine goesL_ (some 30) rfl rfl Try.func28 (by kernel_rfl) rfl #[.agg #[.int .i64 a0_0, .int .i64 a0_1, .int .i64 a0_2, .int .i64 a0_3, .int .i64 a0_4], .agg #[.int .i64 t180, .int .i64 t181], .agg #[.int .i64 a2_0, .int .i64 a2_1]] rfl (by (try simp only [List.map_toArray, List.map_cons, List.map_nil]); first | done | rfl | (simp only [List.length_drop, List.length_take]; rfl)) ?_; (with_reducible refine (impl_Ed_sum.calls k1 a0_0 a0_1 a0_2 a0_3 a0_4 t180 t181 a2_0 a2_1 t182 t183 _ A18.out).mono ?_); rintro e w31 ⟨rfl, hb⟩; refine ⟨_, rfl, ?_⟩; have n0_ := Aside0.mk (blk_below (g := gb175) (o := .cells #[.int .i64 a0_0, .int .i64 a0_1, .int .i64 a0_2, .int .i64 a0_3, .int .i64 a0_4] 29 (0, 0)) (by (with_reducible repeat (first | refine blk_drewN ?_ _ | refine blk_drew ?_ | refine blk_alloc ?_ _)); refine blk_far ?_ NB175_178.out _; (with_reducible repeat (first | refine blk_drewN ?_ _ | refine blk_drew ?_ | refine blk_alloc ?_ _)); refine blk_far ?_ NB175_178.out _; (with_reducible repeat (first | refine blk_drewN ?_ _ | refine blk_drew ?_ | refine blk_alloc ?_ _)); exact BK175.out) hb); have n1_ := Aside0.mk (blk_below (g := gb176) (o := .cells #[.int .i64 a2_0, .int .i64 a2_1] 26 (0, 0)) (by (with_reducible repeat (first | refine blk_drewN ?_ _ | refine blk_drew ?_ | refine blk_alloc ?_ _)); refine blk_far ?_ NB176_178.out _; (with_reducible repeat (first | refine blk_drewN ?_ _ | refine blk_drew ?_ | refine blk_alloc ?_ _)); refine blk_far ?_ NB176_178.out _; (with_reducible repeat (first | refine blk_drewN ?_ _ | refine blk_drew ?_ | refine blk_alloc ?_ _)); exact BK176.out) hb); have n2_ := Aside0.mk (blk_below (g := gb177) (o := .cells #[.int .i64 0, .int .i64 0] 26 (0, 0)) (by (with_reducible repeat (first | refine blk_drewN ?_ _ | refine blk_drew ?_ | refine blk_alloc ?_ _)); refine blk_far ?_ NB177_178.out _; (with_reducible repeat (first | refine blk_drewN ?_ _ | refine blk_drew ?_ | refine blk_alloc ?_ _)); refine blk_far ?_ NB177_178.out _; (with_reducible repeat (first | refine blk_drewN ?_ _ | refine blk_drew ?_ | refine blk_alloc ?_ _)); exact BK177.out) hb); have n3_ := Aside0.mk (blk_below (g := gb178) (o := .cells #[.int .i64 t180, .int .i64 t181] 26 (0, 0)) (by (with_reducible repeat (first | refine blk_drewN ?_ _ | refine blk_drew ?_ | refine blk_alloc ?_ _)); refine blk_put (cs := #[.int .i64 t180, .int .i64 x179001_1]) ?_ 1 _ rfl; (with_reducible repeat (first | refine blk_drewN ?_ _ | refine blk_drew ?_ | refine blk_alloc ?_ _)); refine blk_put (cs := #[.int .i64 x179000_1, .int .i64 x179001_1]) ?_ 0 _ rfl; (with_reducible repeat (first | refine blk_drewN ?_ _ | refine blk_drew ?_ | refine blk_alloc ?_ _)); exact BK178.out) hb); have n4_ := bs_ HB hb; clear BK175; clear BK176; clear BK177; clear BK178; clear HB; have BK175 := n0_; have BK176 := n1_; have BK177 := n2_; have BK178 := n3_; have HB := n4_; clear n0_ n1_ n2_ n3_ n4_; (try clear hb); (try clear hb2); (try clear hk); (try clear hi); have hcz32_0 : w31.cell? ⟨gb178, 0, none⟩ = some (.int .i64 t180) := bc_ BK178 0; have hcz32_1 : w31.cell? ⟨gb178, 1, none⟩ = some (.int .i64 t181) := bc_ BK178 1; have hfz32_0 := blk_frozen BK178.out 0; have hfz32_1 := blk_frozen BK178.out 1))
      go_roundg k1
      case measure => have := HK1.out; omega
      case rel => exact ⟨(wrap64 (x8_1 - 1)), (t182), (t183), (by first | rfl | (simp; done) | (simp [*]; done)), H', ⟨by have := HK1.out; omega⟩, ⟨by (with_reducible repeat (first | refine blk_drewN ?_ _ | refine blk_drew ?_ | refine blk_alloc ?_ _)); refine blk_far ?_ NB175_178.out _; (with_reducible repeat (first | refine blk_drewN ?_ _ | refine blk_drew ?_ | refine blk_alloc ?_ _)); refine blk_far ?_ NB175_178.out _; (with_reducible repeat (first | refine blk_drewN ?_ _ | refine blk_drew ?_ | refine blk_alloc ?_ _)); exact BK175.out⟩, ⟨by (with_reducible repeat (first | refine blk_drewN ?_ _ | refine blk_drew ?_ | refine blk_alloc ?_ _)); refine blk_far ?_ NB176_178.out _; (with_reducible repeat (first | refine blk_drewN ?_ _ | refine blk_drew ?_ | refine blk_alloc ?_ _)); refine blk_far ?_ NB176_178.out _; (with_reducible repeat (first | refine blk_drewN ?_ _ | refine blk_drew ?_ | refine blk_alloc ?_ _)); exact BK176.out⟩, ⟨by (with_reducible repeat (first | refine blk_drewN ?_ _ | refine blk_drew ?_ | refine blk_alloc ?_ _)); refine blk_far ?_ NB177_178.out _; (with_reducible repeat (first | refine blk_drewN ?_ _ | refine blk_drew ?_ | refine blk_alloc ?_ _)); refine blk_far ?_ NB177_178.out _; (with_reducible repeat (first | refine blk_drewN ?_ _ | refine blk_drew ?_ | refine blk_alloc ?_ _)); exact BK177.out⟩, ⟨by (with_reducible repeat (first | refine blk_drewN ?_ _ | refine blk_drew ?_ | refine blk_alloc ?_ _)); refine blk_put (cs := #[.int .i64 t182, .int .i64 t181]) ?_ 1 _ rfl; (with_reducible repeat (first | refine blk_drewN ?_ _ | refine blk_drew ?_ | refine blk_alloc ?_ _)); refine blk_put (cs := #[.int .i64 t180, .int .i64 t181]) ?_ 0 _ rfl; (with_reducible repeat (first | refine blk_drewN ?_ _ | refine blk_drew ?_ | refine blk_alloc ?_ _)); exact BK178.out⟩, ⟨by repeat (first | (with_reducible first | exact HB.out | apply below_alloc | apply pw_below_drewN | apply below_drew1 | refine below_set ?_ GE175.out | refine below_set ?_ GE176.out | refine below_set ?_ GE177.out | refine below_set ?_ GE178.out) | exact HB.out)⟩⟩
     ·
      rw [if_neg c17] at H
      have c17b0 : ((Go.bits .and .i64 (ji16) 1) == 1) = false := beq_eq_false_iff_ne.mpr c17
      have c17b1 : ((Go.bits .and .i64 (ji16) 1) != 1) = true := bne_iff_ne.mpr c17
      have H' := Aside0.mk H
      clear H; have hnb33 := NB175_176.out; have hnc33 := NB176_175.out; have hnb34 := NB175_177.out; have hnc34 := NB177_175.out; have hnb35 := NB175_178.out; have hnc35 := NB178_175.out
      have hcz36_0 : wr.cell? ⟨gb175, 0, none⟩ = some (.int .i64 a0_0) := bc_ BK175 0
      have hcz36_1 : wr.cell? ⟨gb175, 1, none⟩ = some (.int .i64 a0_1) := bc_ BK175 1
      have hcz36_2 : wr.cell? ⟨gb175, 2, none⟩ = some (.int .i64 a0_2) := bc_ BK175 2
      have hcz36_3 : wr.cell? ⟨gb175, 3, none⟩ = some (.int .i64 a0_3) := bc_ BK175 3
      have hcz36_4 : wr.cell? ⟨gb175, 4, none⟩ = some (.int .i64 a0_4) := bc_ BK175 4
      have hfz36_0 := blk_frozen BK175.out 0; have hfz36_1 := blk_frozen BK175.out 1; have hfz36_2 := blk_frozen BK175.out 2; have hfz36_3 := blk_frozen BK175.out 3; have hfz36_4 := blk_frozen BK175.out 4; have hnb37 := NB178_176.out; have hnc37 := NB176_178.out; have hnb38 := NB178_177.out; have hnc38 := NB177_178.out
      have hcz39_0 : wr.cell? ⟨gb178, 0, none⟩ = some (.int .i64 x179000_1) := bc_ BK178 0
      have hcz39_1 : wr.cell? ⟨gb178, 1, none⟩ = some (.int .i64 x179001_1) := bc_ BK178 1
      have hfz39_0 := blk_frozen BK178.out 0; have hfz39_1 := blk_frozen BK178.out 1
      go_wp2_with (first | ((with_reducible refine gate_callee (f := 28) rfl ?_); refine goesL_ (some 21) rfl rfl Try.func28 (by kernel_rfl) rfl #[.agg #[.int .i64 a0_0, .int .i64 a0_1, .int .i64 a0_2, .int .i64 a0_3, .int .i64 a0_4], .agg #[.int .i64 x179000_1, .int .i64 x179001_1], .agg #[.int .i64 x179000_1, .int .i64 x179001_1]] rfl (by (try simp only [List.map_toArray, List.map_cons, List.map_nil]); first | done | rfl | (simp only [List.length_drop, List.length_take]; rfl)) ?_; (with_reducible refine (impl_Ed_sum.calls k1 a0_0 a0_1 a0_2 a0_3 a0_4 x179000_1 x179001_1 x179000_1 x179001_1 t180 t181 _ A14.out).mono ?_); rintro e w40 ⟨rfl, hb⟩; refine ⟨_, rfl, ?_⟩; have n0_ := bb_ BK175 hb; have n1_ := bb_ BK176 hb; have n2_ := bb_ BK177 hb; have n3_ := bb_ BK178 hb; have n4_ := bs_ HB hb; clear BK175; clear BK176; clear BK177; clear BK178; clear HB; have BK175 := n0_; have BK176 := n1_; have BK177 := n2_; have BK178 := n3_; have HB := n4_; clear n0_ n1_ n2_ n3_ n4_; (try clear hb); (try clear hb2); (try clear hk); (try clear hi); have hcz41_0 : w40.cell? ⟨gb178, 0, none⟩ = some (.int .i64 x179000_1) := bc_ BK178 0; have hcz41_1 : w40.cell? ⟨gb178, 1, none⟩ = some (.int .i64 x179001_1) := bc_ BK178 1; have hfz41_0 := blk_frozen BK178.out 0; have hfz41_1 := blk_frozen BK178.out 1))
      go_roundg k1
      case measure => have := HK1.out; omega
      case rel => exact ⟨(wrap64 (x8_1 - 1)), (t180), (t181), (by first | rfl | (simp; done) | (simp [*]; done)), H', ⟨by have := HK1.out; omega⟩, ⟨by (with_reducible repeat (first | refine blk_drewN ?_ _ | refine blk_drew ?_ | refine blk_alloc ?_ _)); refine blk_far ?_ NB175_178.out _; (with_reducible repeat (first | refine blk_drewN ?_ _ | refine blk_drew ?_ | refine blk_alloc ?_ _)); refine blk_far ?_ NB175_178.out _; (with_reducible repeat (first | refine blk_drewN ?_ _ | refine blk_drew ?_ | refine blk_alloc ?_ _)); exact BK175.out⟩, ⟨by (with_reducible repeat (first | refine blk_drewN ?_ _ | refine blk_drew ?_ | refine blk_alloc ?_ _)); refine blk_far ?_ NB176_178.out _; (with_reducible repeat (first | refine blk_drewN ?_ _ | refine blk_drew ?_ | refine blk_alloc ?_ _)); refine blk_far ?_ NB176_178.out _; (with_reducible repeat (first | refine blk_drewN ?_ _ | refine blk_drew ?_ | refine blk_alloc ?_ _)); exact BK176.out⟩, ⟨by (with_reducible repeat (first | refine blk_drewN ?_ _ | refine blk_drew ?_ | refine blk_alloc ?_ _)); refine blk_far ?_ NB177_178.out _; (with_reducible repeat (first | refine blk_drewN ?_ _ | refine blk_drew ?_ | refine blk_alloc ?_ _)); refine blk_far ?_ NB177_178.out _; (with_reducible repeat (first | refine blk_drewN ?_ _ | refine blk_drew ?_ | refine blk_alloc ?_ _)); exact BK177.out⟩, ⟨by (with_reducible repeat (first | refine blk_drewN ?_ _ | refine blk_drew ?_ | refine blk_alloc ?_ _)); refine blk_put (cs := #[.int .i64 t180, .int .i64 x179001_1]) ?_ 1 _ rfl; (with_reducible repeat (first | refine blk_drewN ?_ _ | refine blk_drew ?_ | refine blk_alloc ?_ _)); refine blk_put (cs := #[.int .i64 x179000_1, .int .i64 x179001_1]) ?_ 0 _ rfl; (with_reducible repeat (first | refine blk_drewN ?_ _ | refine blk_drew ?_ | refine blk_alloc ?_ _)); exact BK178.out⟩, ⟨by repeat (first | (with_reducible first | exact HB.out | apply below_alloc | apply pw_below_drewN | apply below_drew1 | refine below_set ?_ GE175.out | refine below_set ?_ GE176.out | refine below_set ?_ GE177.out | refine below_set ?_ GE178.out) | exact HB.out)⟩⟩
    · rw [if_neg c15] at H; exact absurd H (by simp)
   ·
    rw [if_neg c13] at H
    have c13b0 : decide (0 ≤ x8_1) = false := decide_eq_false c13
    clear c13
    simp only [Option.some.injEq, Prod.mk.injEq] at H
    obtain ⟨rfl, rfl⟩ := H; have hnb42 := NB178_175.out; have hnc42 := NB175_178.out; have hnb43 := NB178_176.out; have hnc43 := NB176_178.out; have hnb44 := NB178_177.out; have hnc44 := NB177_178.out
    have hcz45_0 : wr.cell? ⟨gb178, 0, none⟩ = some (.int .i64 x179000_1) := bc_ BK178 0
    have hcz45_1 : wr.cell? ⟨gb178, 1, none⟩ = some (.int .i64 x179001_1) := bc_ BK178 1
    have hfz45_0 := blk_frozen BK178.out 0; have hfz45_1 := blk_frozen BK178.out 1; have hnb46 := NB177_175.out; have hnc46 := NB175_177.out; have hnb47 := NB177_176.out; have hnc47 := NB176_177.out
    have hcz48_0 : wr.cell? ⟨gb177, 0, none⟩ = some (.int .i64 0) := bc_ BK177 0
    have hcz48_1 : wr.cell? ⟨gb177, 1, none⟩ = some (.int .i64 0) := bc_ BK177 1
    have hfz48_0 := blk_frozen BK177.out 0; have hfz48_1 := blk_frozen BK177.out 1
    go_wp2
    refine bodyPost_ret (results_cell_row rfl _ _ gb177 26 #[.int .i64 x179000_1, .int .i64 x179001_1] (0, 0) _ rfl (by (with_reducible repeat (first | refine blk_drewN ?_ _ | refine blk_drew ?_ | refine blk_alloc ?_ _)); refine blk_put (cs := #[.int .i64 x179000_1, .int .i64 0]) ?_ 1 _ rfl; (with_reducible repeat (first | refine blk_drewN ?_ _ | refine blk_drew ?_ | refine blk_alloc ?_ _)); refine blk_put (cs := #[.int .i64 0, .int .i64 0]) ?_ 0 _ rfl; (with_reducible repeat (first | refine blk_drewN ?_ _ | refine blk_drew ?_ | refine blk_alloc ?_ _)); exact BK177.out) Try.underlying26 rfl (by kernel_rfl)) rfl ?_; exact ⟨by first | rfl | (simp [errW_none, errW_some] <;> rfl) | (simp [*, errW_none, errW_some] <;> rfl), by repeat (first | (with_reducible first | exact HB.out | apply below_alloc | apply pw_below_drewN | apply below_drew1 | refine below_set ?_ GE175.out | refine below_set ?_ GE176.out | refine below_set ?_ GE177.out | refine below_set ?_ GE178.out) | exact HB.out)⟩

end Go.Proofs.Ytadmkolopcdffab.PFnExactEdAdd
