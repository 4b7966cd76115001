-- Written for this claim by a program of this session.
import Derived.Test.YtehdmpfeddieoaaPFnSmallModx0
import Derived.Test.YtehdmpfeddieoaaPFnSmallModx1
import Derived.Test.YtehdmpfeddieoaaPFnSmallModx5
import Derived.Test.YtehdmpfeddieoaaPFnSmallModx6
import Derived.Test.YtehdmpfeddieoaaPFnSmallModx7
namespace Go.Proofs.Ytehdmpfeddieoaa.PFnSmallMod
open Go.RowKit Go.Proofs.YtehdmpfeddieoaaW.PrintWords Go.Proofs.YtehdmpfeddieoaaW.PrintLast Go.Proofs.YtehdmpfeddieoaaW.PrintMore
attribute [local go_sem] max2_int min2_int max_two min_two max_three min_three max_four min_four   -- for this text's walks alone
set_option linter.unusedVariables false
set_option linter.unusedSimpArgs false

/-! ### impl_rootInt: function 66 -/
mutual
def impl_rootInt.j0 : Nat → Int → Int → Bool → Option (Int × Bool)
  | 0, _, _, _ => none
  | k + 1, x0, x1, x17 => if x17 = true then (some (0, false)) else (impl_rootInt.l0 k x0 x1 x1 0)
def impl_rootInt.l0 : Nat → Int → Int → Int → Int → Option (Int × Bool)
  | 0, _, _, _, _ => none
  | k + 1, x0, x1, x18, x19 => if x19 < x18 then (if x1 = 0 then (none) else (if (Int.tmod (wrap64 (x19 * x19)) x1) = x0 then (some (x19, true)) else (impl_rootInt.l0 k x0 x1 x18 (wrap64 (x19 + 1))))) else (some (0, false))
end
def impl_rootInt.f (k : Nat) (a0 : Int) (a1 : Int) : Option (Int × Bool) := if a0 = 0 then (impl_rootInt.j0 k a0 a1 false) else ((impl_powInt.f k a0 (wrap64 (Int.tdiv (wrap64 (a1 - 1)) 2)) a1).bind fun t339 => (impl_rootInt.j0 k a0 a1 (t339 != 1)))
theorem impl_rootInt.mono_l : ∀ k, (∀ y0 y1 y2, LeO (impl_rootInt.j0 k y0 y1 y2) (impl_rootInt.j0 (k + 1) y0 y1 y2)) ∧ (∀ y0 y1 y2 y3, LeO (impl_rootInt.l0 k y0 y1 y2 y3) (impl_rootInt.l0 (k + 1) y0 y1 y2 y3))
  | 0 => ⟨fun _ _ _ r h => by simp [impl_rootInt.j0] at h, fun _ _ _ _ r h => by simp [impl_rootInt.l0] at h⟩
  | k + 1 => by
    obtain ⟨ih0, ih1⟩ := impl_rootInt.mono_l k
    refine ⟨?_, ?_⟩
    · intro y0 y1 y2
      unfold impl_rootInt.j0
      repeat' first
      | (with_reducible exact ih0 _ _ _)
      | (with_reducible exact ih1 _ _ _ _)
      | (with_reducible exact impl_powInt.mono _ _ _ _)
      | (with_reducible exact LeO.refl _)
      | (with_reducible exact LeO.none _)
      | (with_reducible refine LeO.ite ?_ ?_)
      | (with_reducible refine LeO.bind ?_ (fun _ => ?_))
      | exact ih0 _ _ _
      | exact ih1 _ _ _ _
      | exact impl_powInt.mono _ _ _ _
      | exact LeO.none _
      | refine LeO.ite ?_ ?_
      | refine LeO.bind ?_ (fun _ => ?_)
    · intro y0 y1 y2 y3
      unfold impl_rootInt.l0
      repeat' first
      | (with_reducible exact ih0 _ _ _)
      | (with_reducible exact ih1 _ _ _ _)
      | (with_reducible exact impl_powInt.mono _ _ _ _)
      | (with_reducible exact LeO.refl _)
      | (with_reducible exact LeO.none _)
      | (with_reducible refine LeO.ite ?_ ?_)
      | (with_reducible refine LeO.bind ?_ (fun _ => ?_))
      | exact ih0 _ _ _
      | exact ih1 _ _ _ _
      | exact impl_powInt.mono _ _ _ _
      | exact LeO.none _
      | refine LeO.ite ?_ ?_
      | refine LeO.bind ?_ (fun _ => ?_)
theorem impl_rootInt.mono : ∀ a0 a1 k, LeO (impl_rootInt.f k a0 a1) (impl_rootInt.f (k + 1) a0 a1) := by
  intro a0 a1 k
  obtain ⟨ih0, ih1⟩ := impl_rootInt.mono_l k
  unfold impl_rootInt.f
  repeat' first
      | (with_reducible exact ih0 _ _ _)
      | (with_reducible exact ih1 _ _ _ _)
      | (with_reducible exact impl_powInt.mono _ _ _ _)
      | (with_reducible exact LeO.refl _)
      | (with_reducible exact LeO.none _)
      | (with_reducible refine LeO.ite ?_ ?_)
      | (with_reducible refine LeO.bind ?_ (fun _ => ?_))
      | exact ih0 _ _ _
      | exact ih1 _ _ _ _
      | exact impl_powInt.mono _ _ _ _
      | exact LeO.none _
      | refine LeO.ite ?_ ?_
      | refine LeO.bind ?_ (fun _ => ?_)
set_option maxHeartbeats 8000000 in
set_option maxRecDepth 100000 in
theorem impl_rootInt.calls (k : Nat) (a0 : Int) (a1 : Int) (r1 : Int) (r2 : Bool) (w : World) (h : impl_rootInt.f k a0 a1 = some (r1, r2)) :
    Calls Try.prog 66 #[.int .i64 a0, .int .i64 a1] w fun e w' => e = .returned (.tuple #[.int .i64 r1, .bool r2]) ∧ Drawn0 w w' := by
  have H : (if a0 = 0 then (impl_rootInt.j0 k a0 a1 false) else ((impl_powInt.f k a0 (wrap64 (Int.tdiv (wrap64 (a1 - 1)) 2)) a1).bind fun t339 => (impl_rootInt.j0 k a0 a1 (t339 != 1)))) = some (r1, r2) := h
  clear h
  have HC3 := Aside0.mk H
  clear H
  go_enter Try.func66, Try.ntmps66
  go_upto_region 1 with (fail)
  go_cut [17] (fun v17 wc => ∃ (kq : Nat) (x17_2 : Bool), v17 = .bool x17_2 ∧ Aside0 (impl_rootInt.j0 kq a0 a1 x17_2 = some (r1, r2)) ∧ Aside0 (kq ≤ k) ∧ Drawn0 w wc)
  case first =>
    have H := HC3.out
    clear HC3
    by_cases c4 : a0 = 0
    · rw [if_pos c4] at H
      have c4b0 : (a0 == 0) = true := beq_iff_eq.mpr c4
      have c4b1 : (a0 != 0) = false := bne_eq_false_iff_eq.mpr c4
      clear c4
      (first | rw [c4b0] | (simp only [i64_w, i32_w]; rw [c4b0]) | skip)
      have H' := Aside0.mk H
      clear H
      go_wp2
      go_meet
      case rel => exact ⟨_, (false), (by first | rfl | (simp; done) | (simp [*]; done)), H', ⟨by first | omega | exact Nat.le_refl _⟩, by repeat (first | exact Drawn0.refl _ | apply Drawn0.step)⟩
    · rw [if_neg c4] at H
      have c4b0 : (a0 == 0) = false := beq_eq_false_iff_ne.mpr c4
      have c4b1 : (a0 != 0) = true := bne_iff_ne.mpr c4
      (first | rw [c4b0] | (simp only [i64_w, i32_w]; rw [c4b0]) | skip)
      replace H := Option.bind_eq_some_iff.mp H
      obtain ⟨t339, A50, H⟩ := H
      replace H : (impl_rootInt.j0 k a0 a1 (t339 != 1)) = some (r1, r2) := H
      have A5 := Aside0.mk A50
      clear A50
      have H' := Aside0.mk H
      clear H
      go_wp2_with (first | (go_at_call 54; (with_reducible refine (impl_powInt.calls k a0 (wrap64 (Int.tdiv (wrap64 (a1 - 1)) 2)) a1 t339 _ A5.out).mono ?_); rintro e w' ⟨rfl, ⟨nd, rfl⟩⟩))
      go_meet
      case rel => exact ⟨_, ((t339 != 1)), (by first | rfl | (simp; done) | (simp [*]; done)), H', ⟨by first | omega | exact Nat.le_refl _⟩, by repeat (first | exact Drawn0.refl _ | apply Drawn0.step)⟩
  case rest =>
    clear HC3
    try clear p2
    try clear c4
    try clear c4b0
    try clear c4b1
    obtain ⟨kq, x17_2, rfl, HA, HJ2, ⟨mc2, rfl⟩⟩ := hcut
    cases kq with
    | zero => exact absurd HA.out (by simp [impl_rootInt.j0])
    | succ kj2 =>
      have H := HA.out
      clear HA
      simp only [impl_rootInt.j0] at H
      by_cases c6 : x17_2 = true
      · subst c6
        have H1 : (some (0, false)) = some (r1, r2) := by rw [if_pos rfl] at H; exact H
        clear H
        have H := H1
        clear H1
        simp only [Option.some.injEq, Prod.mk.injEq] at H
        obtain ⟨rfl, rfl⟩ := H
        go_wp2
        go_ret2
        exact ⟨by first | rfl | (simp; done) | (simp [*]; done), by repeat (first | exact Drawn0.refl _ | apply Drawn0.step)⟩
      · replace c6 := Bool.eq_false_iff.mpr c6
        subst c6
        have H1 : (impl_rootInt.l0 kj2 a0 a1 a1 0) = some (r1, r2) := by rw [if_neg (show ¬ (false = true) by decide)] at H; exact H
        clear H
        have H := H1
        clear H1
        have H' := Aside0.mk H
        clear H
        go_wp2
        go_loopg [19] kj2 (fun kq v19 w' => ∃ (x19_2 : Int), v19 = .int .i64 x19_2 ∧ Aside0 (impl_rootInt.l0 kq a0 a1 a1 x19_2 = some (r1, r2)) ∧ Aside0 (kq ≤ kj2) ∧ Drawn0 w w')
        case atStart => exact ⟨(0), (by first | rfl | (simp; done) | (simp [*]; done)), H', ⟨Nat.le_refl _⟩, by repeat (first | exact Drawn0.refl _ | apply Drawn0.step)⟩
        case round =>
          clear H'
          try clear c2
          try clear p2
          try clear c4
          try clear c4b0
          try clear c4b1
          try clear c6
          try clear p6
          try clear p2
          obtain ⟨x19_2, rfl, HA, HK2, ⟨m2, rfl⟩⟩ := hrel
          cases gk with
          | zero => exact absurd HA.out (by simp [impl_rootInt.l0])
          | succ k2 =>
            have H := HA.out
            clear HA
            simp only [impl_rootInt.l0] at H
            by_cases c7 : x19_2 < a1
            · rw [if_pos c7] at H
              have c7b0 : decide (x19_2 < a1) = true := decide_eq_true c7
              clear c7
              by_cases c8 : a1 = 0
              · rw [if_pos c8] at H
                exact absurd H (by simp)
              · rw [if_neg c8] at H
                have c8b0 : (a1 == 0) = false := beq_eq_false_iff_ne.mpr c8
                have c8b1 : (a1 != 0) = true := bne_iff_ne.mpr c8
                by_cases c9 : (Int.tmod (wrap64 (x19_2 * x19_2)) a1) = a0
                · rw [if_pos c9] at H
                  have c9b0 : ((Int.tmod (wrap64 (x19_2 * x19_2)) a1) == a0) = true := beq_iff_eq.mpr c9
                  have c9b1 : ((Int.tmod (wrap64 (x19_2 * x19_2)) a1) != a0) = false := bne_eq_false_iff_eq.mpr c9
                  clear c9
                  simp only [Option.some.injEq, Prod.mk.injEq] at H
                  obtain ⟨rfl, rfl⟩ := H
                  go_wp2
                  go_ret2
                  exact ⟨by first | rfl | (simp; done) | (simp [*]; done), by repeat (first | exact Drawn0.refl _ | apply Drawn0.step)⟩
                · rw [if_neg c9] at H
                  have c9b0 : ((Int.tmod (wrap64 (x19_2 * x19_2)) a1) == a0) = false := beq_eq_false_iff_ne.mpr c9
                  have c9b1 : ((Int.tmod (wrap64 (x19_2 * x19_2)) a1) != a0) = true := bne_iff_ne.mpr c9
                  have H' := Aside0.mk H
                  clear H
                  go_wp2
                  go_roundg k2
                  case measure => have := HJ2.out; have := HK2.out; omega
                  case rel => exact ⟨(wrap64 (x19_2 + 1)), (by first | rfl | (simp; done) | (simp [*]; done)), H', ⟨by have := HJ2.out; have := HK2.out; omega⟩, by repeat (first | exact Drawn0.refl _ | apply Drawn0.step)⟩
            · rw [if_neg c7] at H
              have c7b0 : decide (x19_2 < a1) = false := decide_eq_false c7
              clear c7
              simp only [Option.some.injEq, Prod.mk.injEq] at H
              obtain ⟨rfl, rfl⟩ := H
              go_wp2
              go_ret2
              exact ⟨by first | rfl | (simp; done) | (simp [*]; done), by repeat (first | exact Drawn0.refl _ | apply Drawn0.step)⟩

/-! ### impl_RootInt: function 28 -/
def impl_RootInt.f (k : Nat) (a0 : Int) (a1 : Int) : Option (Int × Bool) := (impl_within.f a1 3 1048576).bind fun t340 => (if t340 = true then ((impl_PrimeInt.f k a1).bind fun t341 => (if t341 = true then ((impl_within.f a0 0 (wrap64 (a1 - 1))).bind fun t342 => (if t342 = true then ((impl_rootInt.f k a0 a1).bind fun bt343 => (some (bt343.1, bt343.2))) else (some (0, false)))) else (some (0, false)))) else (some (0, false)))
theorem impl_RootInt.mono : ∀ a0 a1 k, LeO (impl_RootInt.f k a0 a1) (impl_RootInt.f (k + 1) a0 a1) := by
  intro a0 a1 k
  unfold impl_RootInt.f
  repeat' first
      | (with_reducible exact impl_PrimeInt.mono _ _)
      | (with_reducible exact impl_rootInt.mono _ _ _)
      | (with_reducible exact LeO.refl _)
      | (with_reducible exact LeO.none _)
      | (with_reducible refine LeO.ite ?_ ?_)
      | (with_reducible refine LeO.bind ?_ (fun _ => ?_))
      | exact impl_PrimeInt.mono _ _
      | exact impl_rootInt.mono _ _ _
      | exact LeO.none _
      | refine LeO.ite ?_ ?_
      | refine LeO.bind ?_ (fun _ => ?_)
set_option maxHeartbeats 8000000 in
set_option maxRecDepth 100000 in
theorem impl_RootInt.calls (k : Nat) (a0 : Int) (a1 : Int) (r1 : Int) (r2 : Bool) (w : World) (h : impl_RootInt.f k a0 a1 = some (r1, r2)) :
    Calls Try.prog 28 #[.int .i64 a0, .int .i64 a1] w fun e w' => e = .returned (.tuple #[.int .i64 r1, .bool r2]) ∧ Drawn0 w w' := by
  have H : ((impl_within.f a1 3 1048576).bind fun t340 => (if t340 = true then ((impl_PrimeInt.f k a1).bind fun t341 => (if t341 = true then ((impl_within.f a0 0 (wrap64 (a1 - 1))).bind fun t342 => (if t342 = true then ((impl_rootInt.f k a0 a1).bind fun bt343 => (some (bt343.1, bt343.2))) else (some (0, false)))) else (some (0, false)))) else (some (0, false)))) = some (r1, r2) := h
  clear h
  replace H := Option.bind_eq_some_iff.mp H
  obtain ⟨t340, A30, H⟩ := H
  replace H : (if t340 = true then ((impl_PrimeInt.f k a1).bind fun t341 => (if t341 = true then ((impl_within.f a0 0 (wrap64 (a1 - 1))).bind fun t342 => (if t342 = true then ((impl_rootInt.f k a0 a1).bind fun bt343 => (some (bt343.1, bt343.2))) else (some (0, false)))) else (some (0, false)))) else (some (0, false))) = some (r1, r2) := H
  have A3 := Aside0.mk A30
  clear A30
  by_cases c4 : t340 = true
  · subst c4
    have H1 : ((impl_PrimeInt.f k a1).bind fun t341 => (if t341 = true then ((impl_within.f a0 0 (wrap64 (a1 - 1))).bind fun t342 => (if t342 = true then ((impl_rootInt.f k a0 a1).bind fun bt343 => (some (bt343.1, bt343.2))) else (some (0, false)))) else (some (0, false)))) = some (r1, r2) := by rw [if_pos rfl] at H; exact H
    clear H
    have H := H1
    clear H1
    replace H := Option.bind_eq_some_iff.mp H
    obtain ⟨t341, A50, H⟩ := H
    replace H : (if t341 = true then ((impl_within.f a0 0 (wrap64 (a1 - 1))).bind fun t342 => (if t342 = true then ((impl_rootInt.f k a0 a1).bind fun bt343 => (some (bt343.1, bt343.2))) else (some (0, false)))) else (some (0, false))) = some (r1, r2) := H
    have A5 := Aside0.mk A50
    clear A50
    by_cases c6 : t341 = true
    · subst c6
      have H1 : ((impl_within.f a0 0 (wrap64 (a1 - 1))).bind fun t342 => (if t342 = true then ((impl_rootInt.f k a0 a1).bind fun bt343 => (some (bt343.1, bt343.2))) else (some (0, false)))) = some (r1, r2) := by rw [if_pos rfl] at H; exact H
      clear H
      have H := H1
      clear H1
      replace H := Option.bind_eq_some_iff.mp H
      obtain ⟨t342, A70, H⟩ := H
      replace H : (if t342 = true then ((impl_rootInt.f k a0 a1).bind fun bt343 => (some (bt343.1, bt343.2))) else (some (0, false))) = some (r1, r2) := H
      have A7 := Aside0.mk A70
      clear A70
      by_cases c8 : t342 = true
      · subst c8
        have H1 : ((impl_rootInt.f k a0 a1).bind fun bt343 => (some (bt343.1, bt343.2))) = some (r1, r2) := by rw [if_pos rfl] at H; exact H
        clear H
        have H := H1
        clear H1
        replace H := Option.bind_eq_some_iff.mp H
        obtain ⟨⟨t343, t344⟩, A90, H⟩ := H
        replace H : (some (t343, t344)) = some (r1, r2) := H
        have A9 := Aside0.mk A90
        clear A90
        simp only [Option.some.injEq, Prod.mk.injEq] at H
        obtain ⟨rfl, rfl⟩ := H
        go_enter Try.func28, Try.ntmps28
        go_wp2_with (first | ((with_reducible refine gate_callee (f := 53) rfl ?_); refine goesL_ (some 7) rfl rfl Try.func53 (by kernel_rfl) rfl #[.int .i64 a1, .int .i64 3, .int .i64 1048576] rfl (by (try simp only [List.map_toArray, List.map_cons, List.map_nil]); first | done | rfl | (simp only [List.length_drop, List.length_take]; rfl)) ?_; (with_reducible refine (impl_within.calls a1 3 1048576 true _ A3.out).mono ?_); rintro e w' ⟨rfl, ⟨nd, rfl⟩⟩; refine ⟨_, rfl, ?_⟩) | (go_at_call 29; (with_reducible refine (impl_PrimeInt.calls k a1 true _ A5.out).mono ?_); rintro e w' ⟨rfl, ⟨nd, rfl⟩⟩) | (go_at_call 53; (with_reducible refine (impl_within.calls a0 0 (wrap64 (a1 - 1)) true _ A7.out).mono ?_); rintro e w' ⟨rfl, ⟨nd, rfl⟩⟩) | ((with_reducible refine gate_callee (f := 66) rfl ?_); refine goesL_ (some 23) rfl rfl Try.func66 (by kernel_rfl) rfl #[.int .i64 a0, .int .i64 a1] rfl (by (try simp only [List.map_toArray, List.map_cons, List.map_nil]); first | done | rfl | (simp only [List.length_drop, List.length_take]; rfl)) ?_; (with_reducible refine (impl_rootInt.calls k a0 a1 t343 t344 _ A9.out).mono ?_); rintro e w' ⟨rfl, ⟨nd, rfl⟩⟩; refine ⟨_, rfl, ?_⟩))
        go_ret2
        exact ⟨by first | rfl | (simp; done) | (simp [*]; done), by repeat (first | exact Drawn0.refl _ | apply Drawn0.step)⟩
      · replace c8 := Bool.eq_false_iff.mpr c8
        subst c8
        have H1 : (some (0, false)) = some (r1, r2) := by rw [if_neg (show ¬ (false = true) by decide)] at H; exact H
        clear H
        have H := H1
        clear H1
        simp only [Option.some.injEq, Prod.mk.injEq] at H
        obtain ⟨rfl, rfl⟩ := H
        go_enter Try.func28, Try.ntmps28
        go_wp2_with (first | ((with_reducible refine gate_callee (f := 53) rfl ?_); refine goesL_ (some 7) rfl rfl Try.func53 (by kernel_rfl) rfl #[.int .i64 a1, .int .i64 3, .int .i64 1048576] rfl (by (try simp only [List.map_toArray, List.map_cons, List.map_nil]); first | done | rfl | (simp only [List.length_drop, List.length_take]; rfl)) ?_; (with_reducible refine (impl_within.calls a1 3 1048576 true _ A3.out).mono ?_); rintro e w' ⟨rfl, ⟨nd, rfl⟩⟩; refine ⟨_, rfl, ?_⟩) | (go_at_call 29; (with_reducible refine (impl_PrimeInt.calls k a1 true _ A5.out).mono ?_); rintro e w' ⟨rfl, ⟨nd, rfl⟩⟩) | (go_at_call 53; (with_reducible refine (impl_within.calls a0 0 (wrap64 (a1 - 1)) false _ A7.out).mono ?_); rintro e w' ⟨rfl, ⟨nd, rfl⟩⟩))
        go_ret2
        exact ⟨by first | rfl | (simp; done) | (simp [*]; done), by repeat (first | exact Drawn0.refl _ | apply Drawn0.step)⟩
    · replace c6 := Bool.eq_false_iff.mpr c6
      subst c6
      have H1 : (some (0, false)) = some (r1, r2) := by rw [if_neg (show ¬ (false = true) by decide)] at H; exact H
      clear H
      have H := H1
      clear H1
      simp only [Option.some.injEq, Prod.mk.injEq] at H
      obtain ⟨rfl, rfl⟩ := H
      go_enter Try.func28, Try.ntmps28
      go_wp2_with (first | ((with_reducible refine gate_callee (f := 53) rfl ?_); refine goesL_ (some 7) rfl rfl Try.func53 (by kernel_rfl) rfl #[.int .i64 a1, .int .i64 3, .int .i64 1048576] rfl (by (try simp only [List.map_toArray, List.map_cons, List.map_nil]); first | done | rfl | (simp only [List.length_drop, List.length_take]; rfl)) ?_; (with_reducible refine (impl_within.calls a1 3 1048576 true _ A3.out).mono ?_); rintro e w' ⟨rfl, ⟨nd, rfl⟩⟩; refine ⟨_, rfl, ?_⟩) | (go_at_call 29; (with_reducible refine (impl_PrimeInt.calls k a1 false _ A5.out).mono ?_); rintro e w' ⟨rfl, ⟨nd, rfl⟩⟩))
      go_ret2
      exact ⟨by first | rfl | (simp; done) | (simp [*]; done), by repeat (first | exact Drawn0.refl _ | apply Drawn0.step)⟩
  · replace c4 := Bool.eq_false_iff.mpr c4
    subst c4
    have H1 : (some (0, false)) = some (r1, r2) := by rw [if_neg (show ¬ (false = true) by decide)] at H; exact H
    clear H
    have H := H1
    clear H1
    simp only [Option.some.injEq, Prod.mk.injEq] at H
    obtain ⟨rfl, rfl⟩ := H
    go_enter Try.func28, Try.ntmps28
    go_wp2_with (first | ((with_reducible refine gate_callee (f := 53) rfl ?_); refine goesL_ (some 7) rfl rfl Try.func53 (by kernel_rfl) rfl #[.int .i64 a1, .int .i64 3, .int .i64 1048576] rfl (by (try simp only [List.map_toArray, List.map_cons, List.map_nil]); first | done | rfl | (simp only [List.length_drop, List.length_take]; rfl)) ?_; (with_reducible refine (impl_within.calls a1 3 1048576 false _ A3.out).mono ?_); rintro e w' ⟨rfl, ⟨nd, rfl⟩⟩; refine ⟨_, rfl, ?_⟩))
    go_ret2
    exact ⟨by first | rfl | (simp; done) | (simp [*]; done), by repeat (first | exact Drawn0.refl _ | apply Drawn0.step)⟩

/-! ### laws_FnSmallMod: function 6 -/
mutual
def laws_FnSmallMod.j0 : Nat → List Int → Bool → Option (Bool)
  | 0, _, _ => none
  | k + 1, x0, x126 => if x126 = true then (some false) else ((spec_DrawRootInt.f k x0).bind fun bt379 => ((impl_RootInt.f k bt379.1 bt379.2).bind fun bt381 => (if bt381.2 = true then (if bt379.2 = 0 then (none) else (if (Int.tmod (wrap64 (bt381.1 * bt381.1)) bt379.2) = bt379.1 then ((impl_PrimeInt.f k bt379.2).bind fun t383 => (if t383 = true then (laws_FnSmallMod.j1 k x0 (decide (bt381.1 > (wrap64 (Int.tdiv bt379.2 2))))) else (laws_FnSmallMod.j1 k x0 true))) else (laws_FnSmallMod.j1 k x0 true))) else (laws_FnSmallMod.j1 k x0 false))))
def laws_FnSmallMod.j1 : Nat → List Int → Bool → Option (Bool)
  | 0, _, _ => none
  | k + 1, x0, x158 => if x158 = true then (some false) else ((laws_at.f x0 5).bind fun t384 => ((impl_RootInt.f k (Int.tmod (wrap64 ((Int.tmod t384 103) * (Int.tmod t384 103))) 103) 103).bind fun bt385 => (if bt385.2 = true then ((impl_PrimeInt.f k 1019).bind fun t387 => (if t387 = true then ((impl_PrimeInt.f k 7147).bind fun t388 => (some (!t388))) else (some false))) else (some false))))
end
def laws_FnSmallMod.f (k : Nat) (l0 : List Int) : Option (Bool) := (laws_big.f l0).bind fun t345 => (if t345 = true then (some true) else ((laws_at.f l0 0).bind fun t346 => ((laws_at.f l0 1).bind fun t347 => ((laws_at.f l0 2).bind fun t348 => ((laws_at.f l0 3).bind fun t349 => ((laws_at.f l0 4).bind fun t350 => ((impl_PowInt.f k (wrap64 (t346 * t347)) t350 (wrap64 (2 + (wrap64 (t348 * t349))))).bind fun bt351 => ((impl_NatOf.f k (wrap64 (t346 * t347))).bind fun bt353 => ((impl_NatOf.f k t350).bind fun bt357 => ((impl_NatOf.f k (wrap64 (2 + (wrap64 (t348 * t349))))).bind fun bt361 => ((impl_ModPow.f k bt353.1 bt357.1 bt361.1).bind fun bt365 => ((impl_NatInt.f k bt365.1).bind fun bt369 => ((impl_InvInt.f k (wrap64 (t346 * t347)) (wrap64 (2 + (wrap64 (t348 * t349))))).bind fun bt371 => ((impl_ModInv.f k bt353.1 bt361.1).bind fun bt373 => ((impl_NatInt.f k bt373.1).bind fun bt377 => (if bt351.2 = true then (if bt351.1 = bt369.1 then (if (bt371.2 != bt373.2) = true then (laws_FnSmallMod.j0 k l0 true) else (if bt371.2 = true then (if bt371.1 = bt377.1 then (if (wrap64 (2 + (wrap64 (t348 * t349)))) = 0 then (none) else (laws_FnSmallMod.j0 k l0 ((Int.tmod (wrap64 ((Int.tmod (wrap64 (t346 * t347)) (wrap64 (2 + (wrap64 (t348 * t349))))) * bt371.1)) (wrap64 (2 + (wrap64 (t348 * t349))))) != 1))) else (laws_FnSmallMod.j0 k l0 true)) else (laws_FnSmallMod.j0 k l0 false))) else (laws_FnSmallMod.j0 k l0 true)) else (laws_FnSmallMod.j0 k l0 true)))))))))))))))))
theorem laws_FnSmallMod.mono_l : ∀ k, (∀ y0 y1, LeO (laws_FnSmallMod.j0 k y0 y1) (laws_FnSmallMod.j0 (k + 1) y0 y1)) ∧ (∀ y0 y1, LeO (laws_FnSmallMod.j1 k y0 y1) (laws_FnSmallMod.j1 (k + 1) y0 y1))
 | 0 => ⟨fun _ _ r h => by simp [laws_FnSmallMod.j0] at h, fun _ _ r h => by simp [laws_FnSmallMod.j1] at h⟩
 | k + 1 => by
  obtain ⟨ih0, ih1⟩ := laws_FnSmallMod.mono_l k
  refine ⟨?_, ?_⟩
  ·
   intro y0 y1
   unfold laws_FnSmallMod.j0
   repeat' first
   | (with_reducible exact ih0 _ _)
   | (with_reducible exact ih1 _ _)
   | (with_reducible exact impl_InvInt.mono _ _ _)
   | (with_reducible exact impl_ModInv.mono _ _ _)
   | (with_reducible exact impl_ModPow.mono _ _ _ _)
   | (with_reducible exact impl_NatInt.mono _ _)
   | (with_reducible exact impl_NatOf.mono _ _)
   | (with_reducible exact impl_PowInt.mono _ _ _ _)
   | (with_reducible exact impl_PrimeInt.mono _ _)
   | (with_reducible exact impl_RootInt.mono _ _ _)
   | (with_reducible exact spec_DrawRootInt.mono _ _)
   | (with_reducible exact LeO.refl _)
   | (with_reducible exact LeO.none _)
   | (with_reducible refine LeO.ite ?_ ?_)
   | (with_reducible refine LeO.bind ?_ (fun _ => ?_))
   | exact ih0 _ _
   | exact ih1 _ _
   | exact impl_InvInt.mono _ _ _
   | exact impl_ModInv.mono _ _ _
   | exact impl_ModPow.mono _ _ _ _
   | exact impl_NatInt.mono _ _
   | exact impl_NatOf.mono _ _
   | exact impl_PowInt.mono _ _ _ _
   | exact impl_PrimeInt.mono _ _
   | exact impl_RootInt.mono _ _ _
   | exact spec_DrawRootInt.mono _ _
   | exact LeO.none _
   | refine LeO.ite ?_ ?_
   | refine LeO.bind ?_ (fun _ => ?_)
  ·
   intro y0 y1
   unfold laws_FnSmallMod.j1
   repeat' first
   | (with_reducible exact ih0 _ _)
   | (with_reducible exact ih1 _ _)
   | (with_reducible exact impl_InvInt.mono _ _ _)
   | (with_reducible exact impl_ModInv.mono _ _ _)
   | (with_reducible exact impl_ModPow.mono _ _ _ _)
   | (with_reducible exact impl_NatInt.mono _ _)
   | (with_reducible exact impl_NatOf.mono _ _)
   | (with_reducible exact impl_PowInt.mono _ _ _ _)
   | (with_reducible exact impl_PrimeInt.mono _ _)
   | (with_reducible exact impl_RootInt.mono _ _ _)
   | (with_reducible exact spec_DrawRootInt.mono _ _)
   | (with_reducible exact LeO.refl _)
   | (with_reducible exact LeO.none _)
   | (with_reducible refine LeO.ite ?_ ?_)
   | (with_reducible refine LeO.bind ?_ (fun _ => ?_))
   | exact ih0 _ _
   | exact ih1 _ _
   | exact impl_InvInt.mono _ _ _
   | exact impl_ModInv.mono _ _ _
   | exact impl_ModPow.mono _ _ _ _
   | exact impl_NatInt.mono _ _
   | exact impl_NatOf.mono _ _
   | exact impl_PowInt.mono _ _ _ _
   | exact impl_PrimeInt.mono _ _
   | exact impl_RootInt.mono _ _ _
   | exact spec_DrawRootInt.mono _ _
   | exact LeO.none _
   | refine LeO.ite ?_ ?_
   | refine LeO.bind ?_ (fun _ => ?_)
theorem laws_FnSmallMod.mono : ∀ a0 k, LeO (laws_FnSmallMod.f k a0) (laws_FnSmallMod.f (k + 1) a0) := by
 intro a0 k; obtain ⟨ih0, ih1⟩ := laws_FnSmallMod.mono_l k
 unfold laws_FnSmallMod.f
 repeat' first
   | (with_reducible exact ih0 _ _)
   | (with_reducible exact ih1 _ _)
   | (with_reducible exact impl_InvInt.mono _ _ _)
   | (with_reducible exact impl_ModInv.mono _ _ _)
   | (with_reducible exact impl_ModPow.mono _ _ _ _)
   | (with_reducible exact impl_NatInt.mono _ _)
   | (with_reducible exact impl_NatOf.mono _ _)
   | (with_reducible exact impl_PowInt.mono _ _ _ _)
   | (with_reducible exact impl_PrimeInt.mono _ _)
   | (with_reducible exact impl_RootInt.mono _ _ _)
   | (with_reducible exact spec_DrawRootInt.mono _ _)
   | (with_reducible exact LeO.refl _)
   | (with_reducible exact LeO.none _)
   | (with_reducible refine LeO.ite ?_ ?_)
   | (with_reducible refine LeO.bind ?_ (fun _ => ?_))
   | exact ih0 _ _
   | exact ih1 _ _
   | exact impl_InvInt.mono _ _ _
   | exact impl_ModInv.mono _ _ _
   | exact impl_ModPow.mono _ _ _ _
   | exact impl_NatInt.mono _ _
   | exact impl_NatOf.mono _ _
   | exact impl_PowInt.mono _ _ _ _
   | exact impl_PrimeInt.mono _ _
   | exact impl_RootInt.mono _ _ _
   | exact spec_DrawRootInt.mono _ _
   | exact LeO.none _
   | refine LeO.ite ?_ ?_
   | refine LeO.bind ?_ (fun _ => ?_)
set_option maxHeartbeats 8000000 in
set_option maxRecDepth 100000 in
theorem laws_FnSmallMod.calls (k : Nat) (A0 : Option Addr) (c0 : Nat) (l0 : List Int) (r : Bool) (w : World) (hr0 : Kd.C (Kd.int .u8) w A0 l0.length l0) (hc0 : l0.length ≤ c0) (h : laws_FnSmallMod.f k l0 = some r) :
  Calls Try.prog 6 #[.slice A0 l0.length c0] w fun e w' => e = .returned (.bool r) ∧ Below w.heap.size w w' := by
 have HR0 := Aside0.mk hr0; have HC0 := Aside0.mk hc0; clear hr0 hc0; have HB := Aside0.mk (Below.refl w.heap.size w)
 have H : ((laws_big.f l0).bind fun t345 => (if t345 = true then (some true) else ((laws_at.f l0 0).bind fun t346 => ((laws_at.f l0 1).bind fun t347 => ((laws_at.f l0 2).bind fun t348 => ((laws_at.f l0 3).bind fun t349 => ((laws_at.f l0 4).bind fun t350 => ((impl_PowInt.f k (wrap64 (t346 * t347)) t350 (wrap64 (2 + (wrap64 (t348 * t349))))).bind fun bt351 => ((impl_NatOf.f k (wrap64 (t346 * t347))).bind fun bt353 => ((impl_NatOf.f k t350).bind fun bt357 => ((impl_NatOf.f k (wrap64 (2 + (wrap64 (t348 * t349))))).bind fun bt361 => ((impl_ModPow.f k bt353.1 bt357.1 bt361.1).bind fun bt365 => ((impl_NatInt.f k bt365.1).bind fun bt369 => ((impl_InvInt.f k (wrap64 (t346 * t347)) (wrap64 (2 + (wrap64 (t348 * t349))))).bind fun bt371 => ((impl_ModInv.f k bt353.1 bt361.1).bind fun bt373 => ((impl_NatInt.f k bt373.1).bind fun bt377 => (if bt351.2 = true then (if bt351.1 = bt369.1 then (if (bt371.2 != bt373.2) = true then (laws_FnSmallMod.j0 k l0 true) else (if bt371.2 = true then (if bt371.1 = bt377.1 then (if (wrap64 (2 + (wrap64 (t348 * t349)))) = 0 then (none) else (laws_FnSmallMod.j0 k l0 ((Int.tmod (wrap64 ((Int.tmod (wrap64 (t346 * t347)) (wrap64 (2 + (wrap64 (t348 * t349))))) * bt371.1)) (wrap64 (2 + (wrap64 (t348 * t349))))) != 1))) else (laws_FnSmallMod.j0 k l0 true)) else (laws_FnSmallMod.j0 k l0 false))) else (laws_FnSmallMod.j0 k l0 true)) else (laws_FnSmallMod.j0 k l0 true)))))))))))))))))) = some r := h
 clear h; obtain ⟨t345, A20, H⟩ := pb_ H
 have A2 := Aside0.mk A20; clear A20
 by_cases c3 : t345 = true
 ·
  subst c3
  rw [if_pos rfl] at H; obtain rfl := Option.some.inj H
  go_enter Try.func6, Try.ntmps6
  go_wp2_with (first | ((with_reducible refine gate_callee (f := 20) rfl ?_); refine gl_ 32 rfl rfl Try.func20 #[.slice A0 l0.length c0] rfl ?_; (with_reducible refine (laws_big.calls _ _ l0 true _ ?side1 ?side2 A2.out).mono ?_); (case side1 => repeat (first | exact HR0.out | (with_reducible refine Kd.C_alloc ?_ _) | (with_reducible refine Kd.C_drewN ?_ _) | (with_reducible refine Kd.C_drew ?_))); (case side2 => exact HC0.out); rintro e w' ⟨rfl, ⟨nd, rfl⟩⟩; refine ⟨_, rfl, ?_⟩))
  go_ret
  exact ⟨by first | rfl | (simp [errW_none, errW_some] <;> rfl) | (simp [*, errW_none, errW_some] <;> rfl), by repeat (first | (with_reducible first | exact HB.out | apply below_alloc | apply pw_below_drewN | apply below_drew1) | exact HB.out)⟩
 ·
  replace c3 := Bool.eq_false_iff.mpr c3; subst c3
  rw [if_neg (show ¬ (false = true) by decide)] at H; obtain ⟨t346, A40, H⟩ := pb_ H
  have A4 := Aside0.mk A40; clear A40; obtain ⟨t347, A50, H⟩ := pb_ H
  have A5 := Aside0.mk A50; clear A50; obtain ⟨t348, A60, H⟩ := pb_ H
  have A6 := Aside0.mk A60; clear A60; obtain ⟨t349, A70, H⟩ := pb_ H
  have A7 := Aside0.mk A70; clear A70; obtain ⟨t350, A80, H⟩ := pb_ H
  have A8 := Aside0.mk A80; clear A80; obtain ⟨⟨t351, t352⟩, A90, H⟩ := pb_ H
  have A9 := Aside0.mk A90; clear A90; obtain ⟨⟨t353, t354⟩, A100, H⟩ := pb_ H
  have A10 := Aside0.mk A100; clear A100; obtain ⟨⟨t357, t358⟩, A110, H⟩ := pb_ H
  have A11 := Aside0.mk A110; clear A110; obtain ⟨⟨t361, t362⟩, A120, H⟩ := pb_ H
  have A12 := Aside0.mk A120; clear A120; obtain ⟨⟨t365, t368⟩, A130, H⟩ := pb_ H
  have A13 := Aside0.mk A130; clear A130; obtain ⟨⟨t369, t370⟩, A140, H⟩ := pb_ H
  have A14 := Aside0.mk A140; clear A140; obtain ⟨⟨t371, t372⟩, A150, H⟩ := pb_ H
  have A15 := Aside0.mk A150; clear A150; obtain ⟨⟨t373, t376⟩, A160, H⟩ := pb_ H
  have A16 := Aside0.mk A160; clear A160; obtain ⟨⟨t377, t378⟩, A170, H⟩ := pb_ H
  have A17 := Aside0.mk A170; clear A170; have HC18 := Aside0.mk H; clear H
  go_enter Try.func6, Try.ntmps6
  go_upto_region 14 with (first | ((with_reducible refine gate_callee (f := 20) rfl ?_); refine gl_ 32 rfl rfl Try.func20 #[.slice A0 l0.length c0] rfl ?_; (with_reducible refine (laws_big.calls _ _ l0 false _ ?side1 ?side2 A2.out).mono ?_); (case side1 => repeat (first | exact HR0.out | (with_reducible refine Kd.C_alloc ?_ _) | (with_reducible refine Kd.C_drewN ?_ _) | (with_reducible refine Kd.C_drew ?_))); (case side2 => exact HC0.out); rintro e w' ⟨rfl, ⟨nd, rfl⟩⟩; refine ⟨_, rfl, ?_⟩) | ((with_reducible refine gate_callee (f := 21) rfl ?_); refine gl_ 34 rfl rfl Try.func21 #[.slice A0 l0.length c0, .int .i64 0] rfl ?_; (with_reducible refine (laws_at.calls _ _ l0 0 t346 _ ?side1 ?side2 A4.out).mono ?_); (case side1 => repeat (first | exact HR0.out | (with_reducible refine Kd.C_alloc ?_ _) | (with_reducible refine Kd.C_drewN ?_ _) | (with_reducible refine Kd.C_drew ?_))); (case side2 => exact HC0.out); rintro e w' ⟨rfl, ⟨nd, rfl⟩⟩; refine ⟨_, rfl, ?_⟩) | ((with_reducible refine gate_callee (f := 21) rfl ?_); refine gl_ 36 rfl rfl Try.func21 #[.slice A0 l0.length c0, .int .i64 1] rfl ?_; (with_reducible refine (laws_at.calls _ _ l0 1 t347 _ ?side1 ?side2 A5.out).mono ?_); (case side1 => repeat (first | exact HR0.out | (with_reducible refine Kd.C_alloc ?_ _) | (with_reducible refine Kd.C_drewN ?_ _) | (with_reducible refine Kd.C_drew ?_))); (case side2 => exact HC0.out); rintro e w' ⟨rfl, ⟨nd, rfl⟩⟩; refine ⟨_, rfl, ?_⟩) | ((with_reducible refine gate_callee (f := 21) rfl ?_); refine gl_ 39 rfl rfl Try.func21 #[.slice A0 l0.length c0, .int .i64 2] rfl ?_; (with_reducible refine (laws_at.calls _ _ l0 2 t348 _ ?side1 ?side2 A6.out).mono ?_); (case side1 => repeat (first | exact HR0.out | (with_reducible refine Kd.C_alloc ?_ _) | (with_reducible refine Kd.C_drewN ?_ _) | (with_reducible refine Kd.C_drew ?_))); (case side2 => exact HC0.out); rintro e w' ⟨rfl, ⟨nd, rfl⟩⟩; refine ⟨_, rfl, ?_⟩) | ((with_reducible refine gate_callee (f := 21) rfl ?_); refine gl_ 41 rfl rfl Try.func21 #[.slice A0 l0.length c0, .int .i64 3] rfl ?_; (with_reducible refine (laws_at.calls _ _ l0 3 t349 _ ?side1 ?side2 A7.out).mono ?_); (case side1 => repeat (first | exact HR0.out | (with_reducible refine Kd.C_alloc ?_ _) | (with_reducible refine Kd.C_drewN ?_ _) | (with_reducible refine Kd.C_drew ?_))); (case side2 => exact HC0.out); rintro e w' ⟨rfl, ⟨nd, rfl⟩⟩; refine ⟨_, rfl, ?_⟩) | ((with_reducible refine gate_callee (f := 21) rfl ?_); refine gl_ 45 rfl rfl Try.func21 #[.slice A0 l0.length c0, .int .i64 4] rfl ?_; (with_reducible refine (laws_at.calls _ _ l0 4 t350 _ ?side1 ?side2 A8.out).mono ?_); (case side1 => repeat (first | exact HR0.out | (with_reducible refine Kd.C_alloc ?_ _) | (with_reducible refine Kd.C_drewN ?_ _) | (with_reducible refine Kd.C_drew ?_))); (case side2 => exact HC0.out); rintro e w' ⟨rfl, ⟨nd, rfl⟩⟩; refine ⟨_, rfl, ?_⟩) | ((with_reducible refine gate_callee (f := 22) rfl ?_); refine gl_ 50 rfl rfl Try.func22 #[.int .i64 (wrap64 (t346 * t347)), .int .i64 t350, .int .i64 (wrap64 (2 + (wrap64 (t348 * t349))))] rfl ?_; (with_reducible refine (impl_PowInt.calls k (wrap64 (t346 * t347)) t350 (wrap64 (2 + (wrap64 (t348 * t349)))) t351 t352 _ A9.out).mono ?_); rintro e w' ⟨rfl, ⟨nd, rfl⟩⟩; refine ⟨_, rfl, ?_⟩) | ((with_reducible refine gate_callee (f := 23) rfl ?_); refine gl_ 55 rfl rfl Try.func23 #[.int .i64 (wrap64 (t346 * t347))] rfl ?_; (with_reducible refine (impl_NatOf.calls k (wrap64 (t346 * t347)) t353 t354 _ A10.out).mono ?_); rintro e w19 ⟨v355, rfl, ho0, hb⟩; refine ⟨_, rfl, ?_⟩; have HO356 := Aside0.mk (Kd.R_lower ho0 (below_size (bw_ HB))); replace HB := bs_ HB hb; (try clear hb); (try clear hb2); (try clear hk); (try clear hi); (try clear ho0)) | ((with_reducible refine gate_callee (f := 23) rfl ?_); refine gl_ 60 rfl rfl Try.func23 #[.int .i64 t350] rfl ?_; (with_reducible refine (impl_NatOf.calls k t350 t357 t358 _ A11.out).mono ?_); rintro e w20 ⟨v359, rfl, ho0, hb⟩; refine ⟨_, rfl, ?_⟩; have n0_ := Aside0.mk (Kd.R_elder' (by (with_reducible repeat (first | apply Kd.R_alloc | apply Kd.R_drewN | apply Kd.R_drew)); exact HO356.out) (Kd.R_base ho0) hb); have n1_ := Aside0.mk (Kd.R_lower (Kd.R_new' ho0 (Kd.R_lt (by (with_reducible repeat (first | apply Kd.R_alloc | apply Kd.R_drewN | apply Kd.R_drew)); exact HO356.out))) (below_size (bw_ HB))); have n2_ := bs_ HB hb; clear HO356; clear HB; have HO356 := n0_; have HO360 := n1_; have HB := n2_; clear n0_ n1_ n2_; (try clear hb); (try clear hb2); (try clear hk); (try clear hi); (try clear ho0)) | ((with_reducible refine gate_callee (f := 23) rfl ?_); refine gl_ 65 rfl rfl Try.func23 #[.int .i64 (wrap64 (2 + (wrap64 (t348 * t349))))] rfl ?_; (with_reducible refine (impl_NatOf.calls k (wrap64 (2 + (wrap64 (t348 * t349)))) t361 t362 _ A12.out).mono ?_); rintro e w21 ⟨v363, rfl, ho0, hb⟩; refine ⟨_, rfl, ?_⟩; have n0_ := Aside0.mk (Kd.R_elder' (by (with_reducible repeat (first | apply Kd.R_alloc | apply Kd.R_drewN | apply Kd.R_drew)); exact HO356.out) (Kd.R_base ho0) hb); have n1_ := Aside0.mk (Kd.R_elder' (by (with_reducible repeat (first | apply Kd.R_alloc | apply Kd.R_drewN | apply Kd.R_drew)); exact HO360.out) (Kd.R_base ho0) hb); have n2_ := Aside0.mk (Kd.R_lower (Kd.R_new' (Kd.R_new' ho0 (Kd.R_lt (by (with_reducible repeat (first | apply Kd.R_alloc | apply Kd.R_drewN | apply Kd.R_drew)); exact HO356.out))) (Kd.R_lt (by (with_reducible repeat (first | apply Kd.R_alloc | apply Kd.R_drewN | apply Kd.R_drew)); exact HO360.out))) (below_size (bw_ HB))); have n3_ := bs_ HB hb; clear HO356; clear HO360; clear HB; have HO356 := n0_; have HO360 := n1_; have HO364 := n2_; have HB := n3_; clear n0_ n1_ n2_ n3_; (try clear hb); (try clear hb2); (try clear hk); (try clear hi); (try clear ho0); obtain ⟨Ao22, co22, eo22⟩ := Kd.R_slice HO356.out; subst eo22; obtain ⟨Ao23, co23, eo23⟩ := Kd.R_slice HO360.out; subst eo23; obtain ⟨Ao24, co24, eo24⟩ := Kd.R_slice HO364.out; subst eo24) | ((with_reducible refine gate_callee (f := 19) rfl ?_); refine gl_ 72 rfl rfl Try.func19 #[.slice Ao22 t353.length co22, .slice Ao23 t357.length co23, .slice Ao24 t361.length co24] rfl ?_; (with_reducible refine (impl_ModPow.calls k (fun k_ => some k_ = (.slice Ao22 t353.length co22 : Value).ownBlock) _ _ t353 (fun k_ => some k_ = (.slice Ao23 t357.length co23 : Value).ownBlock) _ _ t357 (fun k_ => some k_ = (.slice Ao24 t361.length co24 : Value).ownBlock) _ _ t361 t365 t368 _ ?side1 ?side2 ?side3 A13.out).mono ?_); (case side1 => exact Kd.R_V (Kd.R_tight rfl (HO356.out))); (case side2 => exact Kd.R_V (Kd.R_tight rfl (HO360.out))); (case side3 => exact Kd.R_V (Kd.R_tight rfl (HO364.out))); rintro e w25 ⟨v366, rfl, ho0, hb⟩; refine ⟨_, rfl, ?_⟩; have n0_ := Aside0.mk (Kd.R_elder' (by (with_reducible repeat (first | apply Kd.R_alloc | apply Kd.R_drewN | apply Kd.R_drew)); exact HO356.out) (Kd.R_base ho0) hb); have n1_ := Aside0.mk (Kd.R_elder' (by (with_reducible repeat (first | apply Kd.R_alloc | apply Kd.R_drewN | apply Kd.R_drew)); exact HO360.out) (Kd.R_base ho0) hb); have n2_ := Aside0.mk (Kd.R_elder' (by (with_reducible repeat (first | apply Kd.R_alloc | apply Kd.R_drewN | apply Kd.R_drew)); exact HO364.out) (Kd.R_base ho0) hb); have n3_ := Aside0.mk (Kd.R_lower (Kd.R_new' (Kd.R_new' (Kd.R_new' (Kd.R_mono (ok' := fun k_ => True) ho0 (fun _ hk_ => trivial)) (Kd.R_lt (by (with_reducible repeat (first | apply Kd.R_alloc | apply Kd.R_drewN | apply Kd.R_drew)); exact HO356.out))) (Kd.R_lt (by (with_reducible repeat (first | apply Kd.R_alloc | apply Kd.R_drewN | apply Kd.R_drew)); exact HO360.out))) (Kd.R_lt (by (with_reducible repeat (first | apply Kd.R_alloc | apply Kd.R_drewN | apply Kd.R_drew)); exact HO364.out))) (below_size (bw_ HB))); have n4_ := bs_ HB hb; clear HO356; clear HO360; clear HO364; clear HB; have HO356 := n0_; have HO360 := n1_; have HO364 := n2_; have HO367 := n3_; have HB := n4_; clear n0_ n1_ n2_ n3_ n4_; (try clear hb); (try clear hb2); (try clear hk); (try clear hi); (try clear ho0); obtain ⟨Ao26, co26, eo26⟩ := Kd.R_slice HO367.out; subst eo26) | ((with_reducible refine gate_callee (f := 24) rfl ?_); refine gl_ 77 rfl rfl Try.func24 #[.slice Ao26 t365.length co26] rfl ?_; (with_reducible refine (impl_NatInt.calls k _ _ t365 t369 t370 _ ?side1 ?side2 A14.out).mono ?_); (case side1 => repeat (first | exact (Kd.R_reads' HO367.out).2.2 | (with_reducible refine Kd.C_alloc ?_ _) | (with_reducible refine Kd.C_drewN ?_ _) | (with_reducible refine Kd.C_drew ?_))); (case side2 => exact (Kd.R_reads' HO367.out).2.1); rintro e w' ⟨rfl, ⟨nd, rfl⟩⟩; refine ⟨_, rfl, ?_⟩) | ((with_reducible refine gate_callee (f := 25) rfl ?_); refine gl_ 83 rfl rfl Try.func25 #[.int .i64 (wrap64 (t346 * t347)), .int .i64 (wrap64 (2 + (wrap64 (t348 * t349))))] rfl ?_; (with_reducible refine (impl_InvInt.calls k (wrap64 (t346 * t347)) (wrap64 (2 + (wrap64 (t348 * t349)))) t371 t372 _ A15.out).mono ?_); rintro e w' ⟨rfl, ⟨nd, rfl⟩⟩; refine ⟨_, rfl, ?_⟩) | ((with_reducible refine gate_callee (f := 26) rfl ?_); refine gl_ 89 rfl rfl Try.func26 #[.slice Ao22 t353.length co22, .slice Ao24 t361.length co24] rfl ?_; (with_reducible refine (impl_ModInv.calls k (fun k_ => some k_ = (.slice Ao22 t353.length co22 : Value).ownBlock) _ _ t353 (fun k_ => some k_ = (.slice Ao24 t361.length co24 : Value).ownBlock) _ _ t361 t373 t376 _ ?side1 ?side2 A16.out).mono ?_); (case side1 => exact Kd.R_V (Kd.R_tight rfl (HO356.out))); (case side2 => exact Kd.R_V (Kd.R_tight rfl (HO364.out))); rintro e w27 ⟨v374, rfl, ho0, hb⟩; refine ⟨_, rfl, ?_⟩; have n0_ := Aside0.mk (Kd.R_elder' (by (with_reducible repeat (first | apply Kd.R_alloc | apply Kd.R_drewN | apply Kd.R_drew)); exact HO356.out) (Kd.R_base ho0) hb); have n1_ := Aside0.mk (Kd.R_elder' (by (with_reducible repeat (first | apply Kd.R_alloc | apply Kd.R_drewN | apply Kd.R_drew)); exact HO360.out) (Kd.R_base ho0) hb); have n2_ := Aside0.mk (Kd.R_elder' (by (with_reducible repeat (first | apply Kd.R_alloc | apply Kd.R_drewN | apply Kd.R_drew)); exact HO364.out) (Kd.R_base ho0) hb); have n3_ := Aside0.mk (Kd.R_elder' (by (with_reducible repeat (first | apply Kd.R_alloc | apply Kd.R_drewN | apply Kd.R_drew)); exact HO367.out) (Kd.R_base ho0) hb); have n4_ := Aside0.mk (Kd.R_lower (Kd.R_new' (Kd.R_new' (Kd.R_new' (Kd.R_new' (Kd.R_mono (ok' := fun k_ => True) ho0 (fun _ hk_ => trivial)) (Kd.R_lt (by (with_reducible repeat (first | apply Kd.R_alloc | apply Kd.R_drewN | apply Kd.R_drew)); exact HO356.out))) (Kd.R_lt (by (with_reducible repeat (first | apply Kd.R_alloc | apply Kd.R_drewN | apply Kd.R_drew)); exact HO360.out))) (Kd.R_lt (by (with_reducible repeat (first | apply Kd.R_alloc | apply Kd.R_drewN | apply Kd.R_drew)); exact HO364.out))) (Kd.R_lt (by (with_reducible repeat (first | apply Kd.R_alloc | apply Kd.R_drewN | apply Kd.R_drew)); exact HO367.out))) (below_size (bw_ HB))); have n5_ := bs_ HB hb; clear HO356; clear HO360; clear HO364; clear HO367; clear HB; have HO356 := n0_; have HO360 := n1_; have HO364 := n2_; have HO367 := n3_; have HO375 := n4_; have HB := n5_; clear n0_ n1_ n2_ n3_ n4_ n5_; (try clear hb); (try clear hb2); (try clear hk); (try clear hi); (try clear ho0); obtain ⟨Ao28, co28, eo28⟩ := Kd.R_slice HO375.out; subst eo28) | ((with_reducible refine gate_callee (f := 24) rfl ?_); refine gl_ 94 rfl rfl Try.func24 #[.slice Ao28 t373.length co28] rfl ?_; (with_reducible refine (impl_NatInt.calls k _ _ t373 t377 t378 _ ?side1 ?side2 A17.out).mono ?_); (case side1 => repeat (first | exact (Kd.R_reads' HO375.out).2.2 | (with_reducible refine Kd.C_alloc ?_ _) | (with_reducible refine Kd.C_drewN ?_ _) | (with_reducible refine Kd.C_drew ?_))); (case side2 => exact (Kd.R_reads' HO375.out).2.1); rintro e w' ⟨rfl, ⟨nd, rfl⟩⟩; refine ⟨_, rfl, ?_⟩))
  (try simp only [Act.put, sA_, sZ_, sS_])
  go_cut [126] (fun v126 wc => ∃ (kq : Nat) (x126_17 : Bool), v126 = .bool x126_17 ∧ Aside0 (laws_FnSmallMod.j0 kq l0 x126_17 = some r) ∧ Aside0 (kq ≤ k) ∧ Aside0 (Below w.heap.size w wc))
  case first =>
   have H := HC18.out; clear HC18
   by_cases c29 : t352 = true
   ·
    subst c29; rw [if_pos rfl] at H
    by_cases c30 : t351 = t369
    ·
     rw [if_pos c30] at H
     have c30b0 : (t351 == t369) = true := beq_iff_eq.mpr c30
     have c30b1 : (t351 != t369) = false := bne_eq_false_iff_eq.mpr c30
     clear c30
     (first | rw [c30b0] | (simp only [i64_w, i32_w]; rw [c30b0]) | skip)
     by_cases c31 : (t372 != t376) = true
     ·
      rw [if_pos c31] at H
      have c31b0 : (t372 != t376) = true := c31
      (try (have c31b1 : decide (t372 = t376) = false := by simpa using c31)); (try (have c31b2 : (t372 == t376) = false := by simpa using c31)); (try (have c31b3 : ¬ (t372 = t376) := by simpa using c31)); clear c31
      have H' := Aside0.mk H
      clear H
      go_wp2
      go_meet
      case rel => exact ⟨_, (true), (by first | rfl | (simp; done) | (simp [*]; done)), H', ⟨by first | omega | exact Nat.le_refl _⟩, ⟨bw_ HB⟩⟩
     ·
      rw [if_neg c31] at H
      have c31b0 : (t372 != t376) = false := by simpa using c31
      (try (have c31b1 : decide (t372 = t376) = true := by simpa using c31)); (try (have c31b2 : (t372 == t376) = true := by simpa using c31)); clear c31
      by_cases c32 : t372 = true
      ·
       subst c32; rw [if_pos rfl] at H
       by_cases c33 : t371 = t377
       ·
        rw [if_pos c33] at H
        have c33b0 : (t371 == t377) = true := beq_iff_eq.mpr c33
        have c33b1 : (t371 != t377) = false := bne_eq_false_iff_eq.mpr c33
        clear c33
        by_cases c34 : (wrap64 (2 + (wrap64 (t348 * t349)))) = 0
        · rw [if_pos c34] at H; exact absurd H (by simp)
        ·
         rw [if_neg c34] at H
         have c34b0 : ((wrap64 (2 + (wrap64 (t348 * t349)))) == 0) = false := beq_eq_false_iff_ne.mpr c34
         have c34b1 : ((wrap64 (2 + (wrap64 (t348 * t349)))) != 0) = true := bne_iff_ne.mpr c34
         have H' := Aside0.mk H
         clear H
         go_wp2
         go_meet
         case rel => exact ⟨_, (((Int.tmod (wrap64 ((Int.tmod (wrap64 (t346 * t347)) (wrap64 (2 + (wrap64 (t348 * t349))))) * t371)) (wrap64 (2 + (wrap64 (t348 * t349))))) != 1)), (by first | rfl | (simp; done) | (simp [*]; done)), H', ⟨by first | omega | exact Nat.le_refl _⟩, ⟨bw_ HB⟩⟩
       ·
        rw [if_neg c33] at H
        have c33b0 : (t371 == t377) = false := beq_eq_false_iff_ne.mpr c33
        have c33b1 : (t371 != t377) = true := bne_iff_ne.mpr c33
        have H' := Aside0.mk H
        clear H
        go_wp2
        go_meet
        case rel => exact ⟨_, (true), (by first | rfl | (simp; done) | (simp [*]; done)), H', ⟨by first | omega | exact Nat.le_refl _⟩, ⟨bw_ HB⟩⟩
      ·
       replace c32 := Bool.eq_false_iff.mpr c32; subst c32
       rw [if_neg (show ¬ (false = true) by decide)] at H
       have H' := Aside0.mk H
       clear H
       go_wp2
       go_meet
       case rel => exact ⟨_, (false), (by first | rfl | (simp; done) | (simp [*]; done)), H', ⟨by first | omega | exact Nat.le_refl _⟩, ⟨bw_ HB⟩⟩
    ·
     rw [if_neg c30] at H
     have c30b0 : (t351 == t369) = false := beq_eq_false_iff_ne.mpr c30
     have c30b1 : (t351 != t369) = true := bne_iff_ne.mpr c30
     (first | rw [c30b0] | (simp only [i64_w, i32_w]; rw [c30b0]) | skip)
     have H' := Aside0.mk H
     clear H
     go_wp2
     go_meet
     case rel => exact ⟨_, (true), (by first | rfl | (simp; done) | (simp [*]; done)), H', ⟨by first | omega | exact Nat.le_refl _⟩, ⟨bw_ HB⟩⟩
   ·
    replace c29 := Bool.eq_false_iff.mpr c29; subst c29
    rw [if_neg (show ¬ (false = true) by decide)] at H
    have H' := Aside0.mk H
    clear H
    go_wp2
    go_meet
    case rel => exact ⟨_, (true), (by first | rfl | (simp; done) | (simp [*]; done)), H', ⟨by first | omega | exact Nat.le_refl _⟩, ⟨bw_ HB⟩⟩
  case rest =>
   clear HC18
   try clear c1
   try clear c2
   try clear p2
   try clear c3
   try clear c6
   try clear p6
   try clear c19
   try clear c20
   try clear c21
   try clear c22
   try clear c23
   try clear c24
   try clear c25
   try clear c26
   try clear c29
   try clear c30
   try clear c30b0
   try clear c30b1
   try clear c31
   try clear c31b0
   try clear c31b1
   try clear c31b2
   try clear c32
   try clear c33
   try clear c33b0
   try clear c33b1
   try clear c34
   try clear c34b0
   try clear c34b1
   obtain ⟨kq, x126_17, rfl, HA, HJ17, HB⟩ := hcut
   cases kq with
   | zero => exact absurd HA.out (by simp [laws_FnSmallMod.j0])
   | succ kj17 =>
    have H := HA.out; clear HA
    simp only [laws_FnSmallMod.j0] at H
    by_cases c35 : x126_17 = true
    ·
     subst c35
     rw [if_pos rfl] at H; obtain rfl := Option.some.inj H
     go_wp2
     go_ret
     exact ⟨by first | rfl | (simp [errW_none, errW_some] <;> rfl) | (simp [*, errW_none, errW_some] <;> rfl), by repeat (first | (with_reducible first | exact HB.out | apply below_alloc | apply pw_below_drewN | apply below_drew1) | exact HB.out)⟩
    ·
     replace c35 := Bool.eq_false_iff.mpr c35; subst c35
     rw [if_neg (show ¬ (false = true) by decide)] at H; obtain ⟨⟨t379, t380⟩, A360, H⟩ := pb_ H
     have A36 := Aside0.mk A360; clear A360; obtain ⟨⟨t381, t382⟩, A370, H⟩ := pb_ H
     have A37 := Aside0.mk A370; clear A370; have HC38 := Aside0.mk H; clear H
     go_upto_region 18 with (first | ((with_reducible refine gate_callee (f := 27) rfl ?_); refine gl_ 129 rfl rfl Try.func27 #[.slice A0 l0.length c0] rfl ?_; (with_reducible refine (spec_DrawRootInt.calls kj17 _ _ l0 t379 t380 _ ?side1 ?side2 A36.out).mono ?_); (case side1 => repeat (first | exact (Kd.C_below HR0.out HB.out) | (with_reducible refine Kd.C_alloc ?_ _) | (with_reducible refine Kd.C_drewN ?_ _) | (with_reducible refine Kd.C_drew ?_))); (case side2 => exact HC0.out); rintro e w39 ⟨rfl, hb⟩; refine ⟨_, rfl, ?_⟩; replace HB := bs_ HB hb; (try clear hb); (try clear hb2); (try clear hk); (try clear hi)) | ((with_reducible refine gate_callee (f := 28) rfl ?_); refine gl_ 135 rfl rfl Try.func28 #[.int .i64 t379, .int .i64 t380] rfl ?_; (with_reducible refine (impl_RootInt.calls kj17 t379 t380 t381 t382 _ A37.out).mono ?_); rintro e w' ⟨rfl, ⟨nd, rfl⟩⟩; refine ⟨_, rfl, ?_⟩))
     (try simp only [Act.put, sA_, sZ_, sS_])
     go_cut [158] (fun v158 wc => ∃ (kq : Nat) (x158_37 : Bool), v158 = .bool x158_37 ∧ Aside0 (laws_FnSmallMod.j1 kq l0 x158_37 = some r) ∧ Aside0 (kq ≤ kj17) ∧ Aside0 (Below w.heap.size w wc))
     case first =>
      have H := HC38.out; clear HC38
      by_cases c40 : t382 = true
      ·
       subst c40; rw [if_pos rfl] at H
       by_cases c41 : t380 = 0
       · rw [if_pos c41] at H; exact absurd H (by simp)
       ·
        rw [if_neg c41] at H
        have c41b0 : (t380 == 0) = false := beq_eq_false_iff_ne.mpr c41
        have c41b1 : (t380 != 0) = true := bne_iff_ne.mpr c41
        (first | rw [c41b0] | (simp only [i64_w, i32_w]; rw [c41b0]) | skip)
        by_cases c42 : (Int.tmod (wrap64 (t381 * t381)) t380) = t379
        ·
         rw [if_pos c42] at H
         have c42b0 : ((Int.tmod (wrap64 (t381 * t381)) t380) == t379) = true := beq_iff_eq.mpr c42
         have c42b1 : ((Int.tmod (wrap64 (t381 * t381)) t380) != t379) = false := bne_eq_false_iff_eq.mpr c42
         clear c42; obtain ⟨t383, A430, H⟩ := pb_ H
         have A43 := Aside0.mk A430; clear A430
         by_cases c44 : t383 = true
         ·
          subst c44; rw [if_pos rfl] at H
          have H' := Aside0.mk H
          clear H
          go_wp2_with (first | (go_at_call 29; (with_reducible refine (impl_PrimeInt.calls kj17 t380 true _ A43.out).mono ?_); rintro e w' ⟨rfl, ⟨nd, rfl⟩⟩))
          go_meet
          case rel => exact ⟨_, (decide (t381 > (wrap64 (Int.tdiv t380 2)))), (by first | rfl | (simp; done) | (simp [*]; done)), H', ⟨by have := HJ17.out; first | omega | exact Nat.le_refl _⟩, ⟨bw_ HB⟩⟩
         ·
          replace c44 := Bool.eq_false_iff.mpr c44; subst c44
          rw [if_neg (show ¬ (false = true) by decide)] at H
          have H' := Aside0.mk H
          clear H
          go_wp2_with (first | (go_at_call 29; (with_reducible refine (impl_PrimeInt.calls kj17 t380 false _ A43.out).mono ?_); rintro e w' ⟨rfl, ⟨nd, rfl⟩⟩))
          go_meet
          case rel => exact ⟨_, (true), (by first | rfl | (simp; done) | (simp [*]; done)), H', ⟨by have := HJ17.out; first | omega | exact Nat.le_refl _⟩, ⟨bw_ HB⟩⟩
        ·
         rw [if_neg c42] at H
         have c42b0 : ((Int.tmod (wrap64 (t381 * t381)) t380) == t379) = false := beq_eq_false_iff_ne.mpr c42
         have c42b1 : ((Int.tmod (wrap64 (t381 * t381)) t380) != t379) = true := bne_iff_ne.mpr c42
         have H' := Aside0.mk H
         clear H
         go_wp2
         go_meet
         case rel => exact ⟨_, (true), (by first | rfl | (simp; done) | (simp [*]; done)), H', ⟨by have := HJ17.out; first | omega | exact Nat.le_refl _⟩, ⟨bw_ HB⟩⟩
      ·
       replace c40 := Bool.eq_false_iff.mpr c40; subst c40
       rw [if_neg (show ¬ (false = true) by decide)] at H
       have H' := Aside0.mk H
       clear H
       go_wp2
       go_meet
       case rel => exact ⟨_, (false), (by first | rfl | (simp; done) | (simp [*]; done)), H', ⟨by have := HJ17.out; first | omega | exact Nat.le_refl _⟩, ⟨bw_ HB⟩⟩
     case rest =>
      clear HC38
      try clear c1
      try clear c2
      try clear p2
      try clear c3
      try clear c4
      try clear c6
      try clear p6
      try clear c19
      try clear c20
      try clear c21
      try clear c22
      try clear c23
      try clear c24
      try clear c25
      try clear c26
      try clear c27
      try clear c28
      try clear c29
      try clear c30
      try clear c30b0
      try clear c30b1
      try clear c31
      try clear c31b0
      try clear c31b1
      try clear c31b2
      try clear c32
      try clear c33
      try clear c33b0
      try clear c33b1
      try clear c34
      try clear c34b0
      try clear c34b1
      try clear c35
      try clear c40
      try clear c41
      try clear c41b0
      try clear c41b1
      try clear c42
      try clear c42b0
      try clear c42b1
      try clear c44
      try clear p2
      try clear p6
      obtain ⟨kq, x158_37, rfl, HA, HJ37, HB⟩ := hcut
      cases kq with
      | zero => exact absurd HA.out (by simp [laws_FnSmallMod.j1])
      | succ kj37 =>
       have H := HA.out; clear HA
       simp only [laws_FnSmallMod.j1] at H
       by_cases c45 : x158_37 = true
       ·
        subst c45
        rw [if_pos rfl] at H; obtain rfl := Option.some.inj H
        go_wp2
        go_ret
        exact ⟨by first | rfl | (simp [errW_none, errW_some] <;> rfl) | (simp [*, errW_none, errW_some] <;> rfl), by repeat (first | (with_reducible first | exact HB.out | apply below_alloc | apply pw_below_drewN | apply below_drew1) | exact HB.out)⟩
       ·
        replace c45 := Bool.eq_false_iff.mpr c45; subst c45
        rw [if_neg (show ¬ (false = true) by decide)] at H; obtain ⟨t384, A460, H⟩ := pb_ H
        have A46 := Aside0.mk A460; clear A460; obtain ⟨⟨t385, t386⟩, A470, H⟩ := pb_ H
        have A47 := Aside0.mk A470; clear A470
        by_cases c48 : t386 = true
        ·
         subst c48
         rw [if_pos rfl] at H; obtain ⟨t387, A490, H⟩ := pb_ H
         have A49 := Aside0.mk A490; clear A490
         by_cases c50 : t387 = true
         ·
          subst c50
          rw [if_pos rfl] at H; obtain ⟨t388, A510, H⟩ := pb_ H
          have A51 := Aside0.mk A510; clear A510; obtain rfl := Option.some.inj H
          go_wp2_with (first | ((with_reducible refine gate_callee (f := 21) rfl ?_); refine gl_ 160 rfl rfl Try.func21 #[.slice A0 l0.length c0, .int .i64 5] rfl ?_; (with_reducible refine (laws_at.calls _ _ l0 5 t384 _ ?side1 ?side2 A46.out).mono ?_); (case side1 => repeat (first | exact (Kd.C_below HR0.out HB.out) | (with_reducible refine Kd.C_alloc ?_ _) | (with_reducible refine Kd.C_drewN ?_ _) | (with_reducible refine Kd.C_drew ?_))); (case side2 => exact HC0.out); rintro e w' ⟨rfl, ⟨nd, rfl⟩⟩; refine ⟨_, rfl, ?_⟩) | ((with_reducible refine gate_callee (f := 28) rfl ?_); refine gl_ 167 rfl rfl Try.func28 #[.int .i64 (Int.tmod (wrap64 ((Int.tmod t384 103) * (Int.tmod t384 103))) 103), .int .i64 103] rfl ?_; (with_reducible refine (impl_RootInt.calls kj37 (Int.tmod (wrap64 ((Int.tmod t384 103) * (Int.tmod t384 103))) 103) 103 t385 true _ A47.out).mono ?_); rintro e w' ⟨rfl, ⟨nd, rfl⟩⟩; refine ⟨_, rfl, ?_⟩) | (go_at_call 29; (with_reducible refine (impl_PrimeInt.calls kj37 1019 true _ A49.out).mono ?_); rintro e w' ⟨rfl, ⟨nd, rfl⟩⟩) | (go_at_call 29; (with_reducible refine (impl_PrimeInt.calls kj37 7147 t388 _ A51.out).mono ?_); rintro e w' ⟨rfl, ⟨nd, rfl⟩⟩))
          go_ret
          exact ⟨by first | rfl | (simp [errW_none, errW_some] <;> rfl) | (simp [*, errW_none, errW_some] <;> rfl), by repeat (first | (with_reducible first | exact HB.out | apply below_alloc | apply pw_below_drewN | apply below_drew1) | exact HB.out)⟩
         ·
          replace c50 := Bool.eq_false_iff.mpr c50; subst c50
          rw [if_neg (show ¬ (false = true) by decide)] at H; obtain rfl := Option.some.inj H
          go_wp2_with (first | ((with_reducible refine gate_callee (f := 21) rfl ?_); refine gl_ 160 rfl rfl Try.func21 #[.slice A0 l0.length c0, .int .i64 5] rfl ?_; (with_reducible refine (laws_at.calls _ _ l0 5 t384 _ ?side1 ?side2 A46.out).mono ?_); (case side1 => repeat (first | exact (Kd.C_below HR0.out HB.out) | (with_reducible refine Kd.C_alloc ?_ _) | (with_reducible refine Kd.C_drewN ?_ _) | (with_reducible refine Kd.C_drew ?_))); (case side2 => exact HC0.out); rintro e w' ⟨rfl, ⟨nd, rfl⟩⟩; refine ⟨_, rfl, ?_⟩) | ((with_reducible refine gate_callee (f := 28) rfl ?_); refine gl_ 167 rfl rfl Try.func28 #[.int .i64 (Int.tmod (wrap64 ((Int.tmod t384 103) * (Int.tmod t384 103))) 103), .int .i64 103] rfl ?_; (with_reducible refine (impl_RootInt.calls kj37 (Int.tmod (wrap64 ((Int.tmod t384 103) * (Int.tmod t384 103))) 103) 103 t385 true _ A47.out).mono ?_); rintro e w' ⟨rfl, ⟨nd, rfl⟩⟩; refine ⟨_, rfl, ?_⟩) | (go_at_call 29; (with_reducible refine (impl_PrimeInt.calls kj37 1019 false _ A49.out).mono ?_); rintro e w' ⟨rfl, ⟨nd, rfl⟩⟩))
          go_ret
          exact ⟨by first | rfl | (simp [errW_none, errW_some] <;> rfl) | (simp [*, errW_none, errW_some] <;> rfl), by repeat (first | (with_reducible first | exact HB.out | apply below_alloc | apply pw_below_drewN | apply below_drew1) | exact HB.out)⟩
        ·
         replace c48 := Bool.eq_false_iff.mpr c48; subst c48
         rw [if_neg (show ¬ (false = true) by decide)] at H; obtain rfl := Option.some.inj H
         go_wp2_with (first | ((with_reducible refine gate_callee (f := 21) rfl ?_); refine gl_ 160 rfl rfl Try.func21 #[.slice A0 l0.length c0, .int .i64 5] rfl ?_; (with_reducible refine (laws_at.calls _ _ l0 5 t384 _ ?side1 ?side2 A46.out).mono ?_); (case side1 => repeat (first | exact (Kd.C_below HR0.out HB.out) | (with_reducible refine Kd.C_alloc ?_ _) | (with_reducible refine Kd.C_drewN ?_ _) | (with_reducible refine Kd.C_drew ?_))); (case side2 => exact HC0.out); rintro e w' ⟨rfl, ⟨nd, rfl⟩⟩; refine ⟨_, rfl, ?_⟩) | ((with_reducible refine gate_callee (f := 28) rfl ?_); refine gl_ 167 rfl rfl Try.func28 #[.int .i64 (Int.tmod (wrap64 ((Int.tmod t384 103) * (Int.tmod t384 103))) 103), .int .i64 103] rfl ?_; (with_reducible refine (impl_RootInt.calls kj37 (Int.tmod (wrap64 ((Int.tmod t384 103) * (Int.tmod t384 103))) 103) 103 t385 false _ A47.out).mono ?_); rintro e w' ⟨rfl, ⟨nd, rfl⟩⟩; refine ⟨_, rfl, ?_⟩))
         go_ret
         exact ⟨by first | rfl | (simp [errW_none, errW_some] <;> rfl) | (simp [*, errW_none, errW_some] <;> rfl), by repeat (first | (with_reducible first | exact HB.out | apply below_alloc | apply pw_below_drewN | apply below_drew1) | exact HB.out)⟩

/-- THE ONE PURE STATEMENT of laws_FnSmallMod: yours. -/
def laws_FnSmallMod.Pure : Prop := ∀ (l0 : List Int), l0.length ≤ maxLen → l0.length * 1 ≤ 140737488351232 → (∀ x ∈ l0, (Lit.int .u8 x).wf = true) → ∃ k, laws_FnSmallMod.f k l0 = some true
theorem laws_FnSmallMod.walk (P : laws_FnSmallMod.Pure) (a0 : Option Addr) (len0 cap0 : Nat) (z0 : List Int) (w : World) (w0 : (a0 = none ∧ len0 = 0 ∧ cap0 = 0 ∧ z0 = []) ∨ ∃ x, a0 = some x ∧ len0 ≤ cap0 ∧ cap0 ≤ maxLen ∧ z0.length = cap0 ∧ (∀ i, i < z0.length → w.cell? (x.add i) = some (.int .u8 (z0.getD i 0))) ∧ ∀ n ∈ z0, (Lit.int .u8 n).wf = true) (y0 : len0 * 1 ≤ 140737488351232) :
  Calls Try.prog 6 #[.slice a0 len0 cap0] w fun e w' => e = .returned (.bool true) ∧ Below w.heap.size w w' := by
 obtain ⟨l0, rfl, hr0, hm0, hw0, hc0⟩ := ReadsInt.ofRowC w0; obtain ⟨k, h⟩ := P l0 hm0 y0 hw0; refine (laws_FnSmallMod.calls k _ _ l0 true w (Kd.C_of_reads (d := (0 : Int)) (h1 := fun _ => rfl) hr0) hc0 h).mono ?_; rintro e w' ⟨rfl, hd⟩; exact ⟨rfl, hd⟩

end Go.Proofs.Ytehdmpfeddieoaa.PFnSmallMod
