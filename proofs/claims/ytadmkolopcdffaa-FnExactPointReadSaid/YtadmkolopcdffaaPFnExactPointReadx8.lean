-- Written for this claim by a program of this session.
import Derived.Test.YtadmkolopcdffaaPFnExactPointReadx0
import Derived.Test.YtadmkolopcdffaaPFnExactPointReadx2
import Derived.Test.YtadmkolopcdffaaPFnExactPointReadx4
import Derived.Test.YtadmkolopcdffaaPFnExactPointReadx5
import Derived.Test.YtadmkolopcdffaaPFnExactPointReadx7
namespace Go.Proofs.Ytadmkolopcdffaa.PFnExactPointRead
open Go.RowKit Go.Proofs.YtadmkolopcdffaaW.PrintWords Go.Proofs.YtadmkolopcdffaaW.PrintLast Go.Proofs.YtadmkolopcdffaaW.PrintMore
attribute [local go_sem] max2_int min2_int max_two min_two max_three min_three max_four min_four   -- for this text's walks alone
set_option linter.unusedVariables false
set_option linter.unusedSimpArgs false

attribute [local go_sem] fld_
/-! ### impl_rootInt: function 61 -/
mutual
def impl_rootInt.j0 : Nat → Int → Int → Bool → Option (Int × Bool)
  | 0, _, _, _ => none
  | k + 1, x0, x1, x17 => if x17 = true then (some (0, false)) else (impl_rootInt.l0 k x0 x1 x1 0)
def impl_rootInt.l0 : Nat → Int → Int → Int → Int → Option (Int × Bool)
  | 0, _, _, _, _ => none
  | k + 1, x0, x1, x18, x19 => if x19 < x18 then (if x1 = 0 then (none) else (if (Int.tmod (wrap64 (x19 * x19)) x1) = x0 then (some (x19, true)) else (impl_rootInt.l0 k x0 x1 x18 (wrap64 (x19 + 1))))) else (some (0, false))
end
def impl_rootInt.f (k : Nat) (a0 : Int) (a1 : Int) : Option (Int × Bool) := if a0 = 0 then (impl_rootInt.j0 k a0 a1 false) else ((impl_powInt.f k a0 (wrap64 (Int.tdiv (wrap64 (a1 - 1)) 2)) a1).bind fun t272 => (impl_rootInt.j0 k a0 a1 (t272 != 1)))
theorem impl_rootInt.mono_l : ∀ k, (∀ y0 y1 y2, LeO (impl_rootInt.j0 k y0 y1 y2) (impl_rootInt.j0 (k + 1) y0 y1 y2)) ∧ (∀ y0 y1 y2 y3, LeO (impl_rootInt.l0 k y0 y1 y2 y3) (impl_rootInt.l0 (k + 1) y0 y1 y2 y3))
  | 0 => ⟨fun _ _ _ r h => by simp [impl_rootInt.j0] at h, fun _ _ _ _ r h => by simp [impl_rootInt.l0] at h⟩
  | k + 1 => by
    obtain ⟨ih0, ih1⟩ := impl_rootInt.mono_l k
    refine ⟨?_, ?_⟩
    · intro y0 y1 y2
      unfold impl_rootInt.j0
      repeat' first
      | (with_reducible exact ih0 _ _ _)
      | (with_reducible exact ih1 _ _ _ _)
      | (with_reducible exact impl_powInt.mono _ _ _ _)
      | (with_reducible exact LeO.refl _)
      | (with_reducible exact LeO.none _)
      | (with_reducible refine LeO.ite ?_ ?_)
      | (with_reducible refine LeO.bind ?_ (fun _ => ?_))
      | exact ih0 _ _ _
      | exact ih1 _ _ _ _
      | exact impl_powInt.mono _ _ _ _
      | exact LeO.none _
      | refine LeO.ite ?_ ?_
      | refine LeO.bind ?_ (fun _ => ?_)
    · intro y0 y1 y2 y3
      unfold impl_rootInt.l0
      repeat' first
      | (with_reducible exact ih0 _ _ _)
      | (with_reducible exact ih1 _ _ _ _)
      | (with_reducible exact impl_powInt.mono _ _ _ _)
      | (with_reducible exact LeO.refl _)
      | (with_reducible exact LeO.none _)
      | (with_reducible refine LeO.ite ?_ ?_)
      | (with_reducible refine LeO.bind ?_ (fun _ => ?_))
      | exact ih0 _ _ _
      | exact ih1 _ _ _ _
      | exact impl_powInt.mono _ _ _ _
      | exact LeO.none _
      | refine LeO.ite ?_ ?_
      | refine LeO.bind ?_ (fun _ => ?_)
theorem impl_rootInt.mono : ∀ a0 a1 k, LeO (impl_rootInt.f k a0 a1) (impl_rootInt.f (k + 1) a0 a1) := by
  intro a0 a1 k
  obtain ⟨ih0, ih1⟩ := impl_rootInt.mono_l k
  unfold impl_rootInt.f
  repeat' first
      | (with_reducible exact ih0 _ _ _)
      | (with_reducible exact ih1 _ _ _ _)
      | (with_reducible exact impl_powInt.mono _ _ _ _)
      | (with_reducible exact LeO.refl _)
      | (with_reducible exact LeO.none _)
      | (with_reducible refine LeO.ite ?_ ?_)
      | (with_reducible refine LeO.bind ?_ (fun _ => ?_))
      | exact ih0 _ _ _
      | exact ih1 _ _ _ _
      | exact impl_powInt.mono _ _ _ _
      | exact LeO.none _
      | refine LeO.ite ?_ ?_
      | refine LeO.bind ?_ (fun _ => ?_)
set_option maxHeartbeats 8000000 in
set_option maxRecDepth 100000 in
theorem impl_rootInt.calls (k : Nat) (a0 : Int) (a1 : Int) (r1 : Int) (r2 : Bool) (w : World) (h : impl_rootInt.f k a0 a1 = some (r1, r2)) :
    Calls Try.prog 61 #[.int .i64 a0, .int .i64 a1] w fun e w' => e = .returned (.tuple #[.int .i64 r1, .bool r2]) ∧ Drawn0 w w' := by
  have H : (if a0 = 0 then (impl_rootInt.j0 k a0 a1 false) else ((impl_powInt.f k a0 (wrap64 (Int.tdiv (wrap64 (a1 - 1)) 2)) a1).bind fun t272 => (impl_rootInt.j0 k a0 a1 (t272 != 1)))) = some (r1, r2) := h
  clear h
  have HC3 := Aside0.mk H
  clear H
  go_enter Try.func61, Try.ntmps61
  go_upto_region 1 with (fail)
  go_cut [17] (fun v17 wc => ∃ (kq : Nat) (x17_2 : Bool), v17 = .bool x17_2 ∧ Aside0 (impl_rootInt.j0 kq a0 a1 x17_2 = some (r1, r2)) ∧ Aside0 (kq ≤ k) ∧ Drawn0 w wc)
  case first =>
    have H := HC3.out
    clear HC3
    by_cases c4 : a0 = 0
    · rw [if_pos c4] at H
      have c4b0 : (a0 == 0) = true := beq_iff_eq.mpr c4
      have c4b1 : (a0 != 0) = false := bne_eq_false_iff_eq.mpr c4
      clear c4
      (first | rw [c4b0] | (simp only [i64_w, i32_w]; rw [c4b0]) | skip)
      have H' := Aside0.mk H
      clear H
      go_wp2
      go_meet
      case rel => exact ⟨_, (false), (by first | rfl | (simp; done) | (simp [*]; done)), H', ⟨by first | omega | exact Nat.le_refl _⟩, by repeat (first | exact Drawn0.refl _ | apply Drawn0.step)⟩
    · rw [if_neg c4] at H
      have c4b0 : (a0 == 0) = false := beq_eq_false_iff_ne.mpr c4
      have c4b1 : (a0 != 0) = true := bne_iff_ne.mpr c4
      (first | rw [c4b0] | (simp only [i64_w, i32_w]; rw [c4b0]) | skip)
      replace H := Option.bind_eq_some_iff.mp H
      obtain ⟨t272, A50, H⟩ := H
      replace H : (impl_rootInt.j0 k a0 a1 (t272 != 1)) = some (r1, r2) := H
      have A5 := Aside0.mk A50
      clear A50
      have H' := Aside0.mk H
      clear H
      go_wp2_with (first | (go_at_call 66; (with_reducible refine (impl_powInt.calls k a0 (wrap64 (Int.tdiv (wrap64 (a1 - 1)) 2)) a1 t272 _ A5.out).mono ?_); rintro e w' ⟨rfl, ⟨nd, rfl⟩⟩))
      go_meet
      case rel => exact ⟨_, ((t272 != 1)), (by first | rfl | (simp; done) | (simp [*]; done)), H', ⟨by first | omega | exact Nat.le_refl _⟩, by repeat (first | exact Drawn0.refl _ | apply Drawn0.step)⟩
  case rest =>
    clear HC3
    try clear p2
    try clear c4
    try clear c4b0
    try clear c4b1
    obtain ⟨kq, x17_2, rfl, HA, HJ2, ⟨mc2, rfl⟩⟩ := hcut
    cases kq with
    | zero => exact absurd HA.out (by simp [impl_rootInt.j0])
    | succ kj2 =>
      have H := HA.out
      clear HA
      simp only [impl_rootInt.j0] at H
      by_cases c6 : x17_2 = true
      · subst c6
        have H1 : (some (0, false)) = some (r1, r2) := by rw [if_pos rfl] at H; exact H
        clear H
        have H := H1
        clear H1
        simp only [Option.some.injEq, Prod.mk.injEq] at H
        obtain ⟨rfl, rfl⟩ := H
        go_wp2
        go_ret2
        exact ⟨by first | rfl | (simp; done) | (simp [*]; done), by repeat (first | exact Drawn0.refl _ | apply Drawn0.step)⟩
      · replace c6 := Bool.eq_false_iff.mpr c6
        subst c6
        have H1 : (impl_rootInt.l0 kj2 a0 a1 a1 0) = some (r1, r2) := by rw [if_neg (show ¬ (false = true) by decide)] at H; exact H
        clear H
        have H := H1
        clear H1
        have H' := Aside0.mk H
        clear H
        go_wp2
        go_loopg [19] kj2 (fun kq v19 w' => ∃ (x19_2 : Int), v19 = .int .i64 x19_2 ∧ Aside0 (impl_rootInt.l0 kq a0 a1 a1 x19_2 = some (r1, r2)) ∧ Aside0 (kq ≤ kj2) ∧ Drawn0 w w')
        case atStart => exact ⟨(0), (by first | rfl | (simp; done) | (simp [*]; done)), H', ⟨Nat.le_refl _⟩, by repeat (first | exact Drawn0.refl _ | apply Drawn0.step)⟩
        case round =>
          clear H'
          try clear c2
          try clear p2
          try clear c4
          try clear c4b0
          try clear c4b1
          try clear c6
          try clear p6
          try clear p2
          obtain ⟨x19_2, rfl, HA, HK2, ⟨m2, rfl⟩⟩ := hrel
          cases gk with
          | zero => exact absurd HA.out (by simp [impl_rootInt.l0])
          | succ k2 =>
            have H := HA.out
            clear HA
            simp only [impl_rootInt.l0] at H
            by_cases c7 : x19_2 < a1
            · rw [if_pos c7] at H
              have c7b0 : decide (x19_2 < a1) = true := decide_eq_true c7
              clear c7
              by_cases c8 : a1 = 0
              · rw [if_pos c8] at H
                exact absurd H (by simp)
              · rw [if_neg c8] at H
                have c8b0 : (a1 == 0) = false := beq_eq_false_iff_ne.mpr c8
                have c8b1 : (a1 != 0) = true := bne_iff_ne.mpr c8
                by_cases c9 : (Int.tmod (wrap64 (x19_2 * x19_2)) a1) = a0
                · rw [if_pos c9] at H
                  have c9b0 : ((Int.tmod (wrap64 (x19_2 * x19_2)) a1) == a0) = true := beq_iff_eq.mpr c9
                  have c9b1 : ((Int.tmod (wrap64 (x19_2 * x19_2)) a1) != a0) = false := bne_eq_false_iff_eq.mpr c9
                  clear c9
                  simp only [Option.some.injEq, Prod.mk.injEq] at H
                  obtain ⟨rfl, rfl⟩ := H
                  go_wp2
                  go_ret2
                  exact ⟨by first | rfl | (simp; done) | (simp [*]; done), by repeat (first | exact Drawn0.refl _ | apply Drawn0.step)⟩
                · rw [if_neg c9] at H
                  have c9b0 : ((Int.tmod (wrap64 (x19_2 * x19_2)) a1) == a0) = false := beq_eq_false_iff_ne.mpr c9
                  have c9b1 : ((Int.tmod (wrap64 (x19_2 * x19_2)) a1) != a0) = true := bne_iff_ne.mpr c9
                  have H' := Aside0.mk H
                  clear H
                  go_wp2
                  go_roundg k2
                  case measure => have := HJ2.out; have := HK2.out; omega
                  case rel => exact ⟨(wrap64 (x19_2 + 1)), (by first | rfl | (simp; done) | (simp [*]; done)), H', ⟨by have := HJ2.out; have := HK2.out; omega⟩, by repeat (first | exact Drawn0.refl _ | apply Drawn0.step)⟩
            · rw [if_neg c7] at H
              have c7b0 : decide (x19_2 < a1) = false := decide_eq_false c7
              clear c7
              simp only [Option.some.injEq, Prod.mk.injEq] at H
              obtain ⟨rfl, rfl⟩ := H
              go_wp2
              go_ret2
              exact ⟨by first | rfl | (simp; done) | (simp [*]; done), by repeat (first | exact Drawn0.refl _ | apply Drawn0.step)⟩

attribute [local go_sem] fld_
/-! ### bytes_Equal: function 62 -/
def bytes_Equal.f (l0 : List Int) (l1 : List Int) : Option (Bool) := some ((strOfNums l0).toList == (strOfNums l1).toList)
set_option maxHeartbeats 8000000 in
set_option maxRecDepth 100000 in
theorem bytes_Equal.calls (A0 : Option Addr) (c0 : Nat) (l0 : List Int) (A1 : Option Addr) (c1 : Nat) (l1 : List Int) (r : Bool) (w : World) (hr0 : Kd.C (Kd.int .u8) w A0 l0.length l0) (hc0 : l0.length ≤ c0) (hr1 : Kd.C (Kd.int .u8) w A1 l1.length l1) (hc1 : l1.length ≤ c1) (h : bytes_Equal.f l0 l1 = some r) :
    Calls Try.prog 62 #[.slice A0 l0.length c0, .slice A1 l1.length c1] w fun e w' => e = .returned (.bool r) ∧ Drawn0 w w' := by
  have HR0 := Aside0.mk hr0
  have HC0 := Aside0.mk hc0
  clear hr0 hc0
  have HR1 := Aside0.mk hr1
  have HC1 := Aside0.mk hc1
  clear hr1 hc1
  have H : (some ((strOfNums l0).toList == (strOfNums l1).toList)) = some r := h
  clear h
  obtain rfl := Option.some.inj H
  have hcv3 := Kd.C_string (P := Try.prog) (A := A0) (c := c0) Try.underlying34 Try.underlying5 Try.underlying9 HR0.out
  have hcv4 := Kd.C_string (P := Try.prog) (A := A1) (c := c1) Try.underlying34 Try.underlying5 Try.underlying9 HR1.out
  go_enter Try.func62, Try.ntmps62
  go_wp2
  go_ret
  exact ⟨by first | rfl | (simp; done) | (simp [*]; done), by repeat (first | exact Drawn0.refl _ | apply Drawn0.step)⟩

attribute [local go_sem] fld_
/-! ### impl_Curve_pointRead: function 38 -/
def impl_Curve_pointRead.j0 : Nat → List Int → Int → Int → Int → Int → Int → Int → Int → Int → Bool → Option (Int × Int × Bool × Bool)
  | 0, _, _, _, _, _, _, _, _, _, _ => none
  | k + 1, x1, x274000, x274001, x274002, x274003, x274004, x274005, x276000, x276001, x276002 => (impl_Curve_isPoint.f x274000 x274001 x274002 x274003 x274004 x274005 x276000 x276001 x276002).bind fun t285 => (if t285 = true then ((impl_pointBytes.f x276000 x276001 x276002 ((x1.length : Int) == 4)).bind fun t286 => ((bytes_Equal.f t286 x1).bind fun t289 => (if t289 = true then (some (x276000, x276001, x276002, true)) else (some (0, 0, false, false))))) else (some (0, 0, false, false)))
def impl_Curve_pointRead.f (k : Nat) (a0_0 : Int) (a0_1 : Int) (a0_2 : Int) (a0_3 : Int) (a0_4 : Int) (a0_5 : Int) (l1 : List Int) : Option (Int × Int × Bool × Bool) := if (l1.length : Int) = 1 then (impl_Curve_pointRead.j0 k l1 a0_0 a0_1 a0_2 a0_3 a0_4 a0_5 0 0 true) else (if (l1.length : Int) = 7 then (if 1 ≤ (l1.length : Int) then ((impl_ofThree.f (l1.drop 1)).bind fun t277 => (if 4 ≤ (l1.length : Int) then ((impl_ofThree.f (l1.drop 4)).bind fun t279 => (impl_Curve_pointRead.j0 k l1 a0_0 a0_1 a0_2 a0_3 a0_4 a0_5 t277 t279 false)) else (none))) else (none)) else (if (l1.length : Int) = 4 then (if 1 ≤ (l1.length : Int) then ((impl_ofThree.f (l1.drop 1)).bind fun t281 => (if t281 ≥ a0_0 then (some (0, 0, false, false)) else (if a0_0 = 0 then (none) else ((impl_rootInt.f k (Int.tmod (wrap64 ((wrap64 ((Int.tmod (wrap64 ((wrap64 (t281 * t281)) + a0_1)) a0_0) * t281)) + a0_2)) a0_0) a0_0).bind fun bt282 => (if bt282.2 = true then (if 0 < (l1.length : Int) then (if (Int.tmod bt282.1 2) = (Int.tmod (wrap64 (rd l1 0)) 2) then (impl_Curve_pointRead.j0 k l1 a0_0 a0_1 a0_2 a0_3 a0_4 a0_5 t281 bt282.1 false) else (impl_Curve_pointRead.j0 k l1 a0_0 a0_1 a0_2 a0_3 a0_4 a0_5 t281 (Int.tmod (wrap64 (a0_0 - bt282.1)) a0_0) false)) else (none)) else (some (0, 0, false, false))))))) else (none)) else (impl_Curve_pointRead.j0 k l1 a0_0 a0_1 a0_2 a0_3 a0_4 a0_5 0 0 false)))
theorem impl_Curve_pointRead.mono_l : ∀ k, (∀ y0 y1 y2 y3 y4 y5 y6 y7 y8 y9, LeO (impl_Curve_pointRead.j0 k y0 y1 y2 y3 y4 y5 y6 y7 y8 y9) (impl_Curve_pointRead.j0 (k + 1) y0 y1 y2 y3 y4 y5 y6 y7 y8 y9))
 | 0 => fun _ _ _ _ _ _ _ _ _ _ r h => by simp [impl_Curve_pointRead.j0] at h
 | k + 1 => by
  have ih0 := impl_Curve_pointRead.mono_l k
  ·
   intro y0 y1 y2 y3 y4 y5 y6 y7 y8 y9
   unfold impl_Curve_pointRead.j0
   repeat' first
   | (with_reducible exact ih0 _ _ _ _ _ _ _ _ _ _)
   | (with_reducible exact impl_rootInt.mono _ _ _)
   | (with_reducible exact LeO.refl _)
   | (with_reducible exact LeO.none _)
   | (with_reducible refine LeO.ite ?_ ?_)
   | (with_reducible refine LeO.bind ?_ (fun _ => ?_))
   | exact ih0 _ _ _ _ _ _ _ _ _ _
   | exact impl_rootInt.mono _ _ _
   | exact LeO.none _
   | refine LeO.ite ?_ ?_
   | refine LeO.bind ?_ (fun _ => ?_)
theorem impl_Curve_pointRead.mono : ∀ a0 a1 a2 a3 a4 a5 a6 k, LeO (impl_Curve_pointRead.f k a0 a1 a2 a3 a4 a5 a6) (impl_Curve_pointRead.f (k + 1) a0 a1 a2 a3 a4 a5 a6) := by
 intro a0 a1 a2 a3 a4 a5 a6 k; have ih0 := impl_Curve_pointRead.mono_l k
 unfold impl_Curve_pointRead.f
 repeat' first
   | (with_reducible exact ih0 _ _ _ _ _ _ _ _ _ _)
   | (with_reducible exact impl_rootInt.mono _ _ _)
   | (with_reducible exact LeO.refl _)
   | (with_reducible exact LeO.none _)
   | (with_reducible refine LeO.ite ?_ ?_)
   | (with_reducible refine LeO.bind ?_ (fun _ => ?_))
   | exact ih0 _ _ _ _ _ _ _ _ _ _
   | exact impl_rootInt.mono _ _ _
   | exact LeO.none _
   | refine LeO.ite ?_ ?_
   | refine LeO.bind ?_ (fun _ => ?_)
def impl_Curve_pointRead.T5 : Bool × List (List Nat × List Nat) := (true, [([], []), ([0], [0]), ([1], [1]), ([], []), ([3], [3]), ([4, 2], [4]), ([0, 1, 2], []), ([6, 2, 5, 0, 1, 2], [2, 6]), ([0, 1, 2, 3, 4, 5, 6, 7], []), ([8, 5, 7, 0, 1, 2, 3, 4, 5, 6, 7], [5, 8])])
def impl_Curve_pointRead.B5 : List Nat := [0, 1, 3, 0, 8, 31, 7, 127, 255, 511]
theorem impl_Curve_pointRead.tab5 : rtab .any (opsOf Try.f38 5) = impl_Curve_pointRead.T5 := by kernel_rfl
theorem impl_Curve_pointRead.bits5 : waitsOk impl_Curve_pointRead.T5.2 impl_Curve_pointRead.B5 = true := by kernel_rfl
def impl_Curve_pointRead.T10 : Bool × List (List Nat × List Nat) := (true, [([], []), ([0], [0]), ([], []), ([2], [2]), ([1, 3], [1, 3]), ([], []), ([5], [5]), ([4, 6], [4, 6]), ([], []), ([8], [8]), ([7, 9], [7, 9]), ([], []), ([11], [11]), ([10, 12], [10, 12]), ([], []), ([14], [14]), ([13, 15], [13, 15]), ([], []), ([17], [17]), ([16, 18], [16, 18]), ([], []), ([20], [20]), ([19, 21], [19, 21]), ([22], [22]), ([23], [23]), ([23], [23]), ([24, 22, 0, 1, 2, 3, 4, 5, 6, 7, 8, 9, 10, 11, 12, 13, 14, 15, 16, 17, 18, 19, 20, 21, 22, 23, 24], [24]), ([25, 26, 0, 1, 2, 3, 4, 5, 6, 7, 8, 9, 10, 11, 12, 13, 14, 15, 16, 17, 18, 19, 20, 21, 22, 23, 24, 25, 26], [25])])
def impl_Curve_pointRead.B10 : List Nat := [0, 1, 0, 4, 15, 0, 32, 127, 0, 256, 1023, 0, 2048, 8191, 0, 16384, 65535, 0, 131072, 524287, 0, 1048576, 4194303, 8388607, 16777215, 16777215, 33554431, 134217727]
theorem impl_Curve_pointRead.tab10 : rtab .any (opsOf Try.f38 10) = impl_Curve_pointRead.T10 := by kernel_rfl
theorem impl_Curve_pointRead.bits10 : waitsOk impl_Curve_pointRead.T10.2 impl_Curve_pointRead.B10 = true := by kernel_rfl
set_option maxHeartbeats 8000000 in
set_option maxRecDepth 100000 in
theorem impl_Curve_pointRead.calls (k : Nat) (a0_0 : Int) (a0_1 : Int) (a0_2 : Int) (a0_3 : Int) (a0_4 : Int) (a0_5 : Int) (A1 : Option Addr) (c1 : Nat) (l1 : List Int) (r1 : Int) (r2 : Int) (r3 : Bool) (r4 : Bool) (w : World) (hr1 : Kd.C (Kd.int .u8) w A1 l1.length l1) (hc1 : l1.length ≤ c1) (h : impl_Curve_pointRead.f k a0_0 a0_1 a0_2 a0_3 a0_4 a0_5 l1 = some (r1, r2, r3, r4)) :
  Calls Try.prog 38 #[.agg #[.int .i64 a0_0, .int .i64 a0_1, .int .i64 a0_2, .int .i64 a0_3, .int .i64 a0_4, .int .i64 a0_5], .slice A1 l1.length c1] w fun e w' => e = .returned (.tuple #[.agg #[.int .i64 r1, .int .i64 r2, .bool r3], .bool r4]) ∧ Below w.heap.size w w' := by
 have hu29 := Try.underlying29; have hu26 := Try.underlying26; have HR1 := Aside0.mk hr1; have HC1 := Aside0.mk hc1; clear hr1 hc1; have HB := Aside0.mk (Below.refl w.heap.size w)
 have H : (if (l1.length : Int) = 1 then (impl_Curve_pointRead.j0 k l1 a0_0 a0_1 a0_2 a0_3 a0_4 a0_5 0 0 true) else (if (l1.length : Int) = 7 then (if 1 ≤ (l1.length : Int) then ((impl_ofThree.f (l1.drop 1)).bind fun t277 => (if 4 ≤ (l1.length : Int) then ((impl_ofThree.f (l1.drop 4)).bind fun t279 => (impl_Curve_pointRead.j0 k l1 a0_0 a0_1 a0_2 a0_3 a0_4 a0_5 t277 t279 false)) else (none))) else (none)) else (if (l1.length : Int) = 4 then (if 1 ≤ (l1.length : Int) then ((impl_ofThree.f (l1.drop 1)).bind fun t281 => (if t281 ≥ a0_0 then (some (0, 0, false, false)) else (if a0_0 = 0 then (none) else ((impl_rootInt.f k (Int.tmod (wrap64 ((wrap64 ((Int.tmod (wrap64 ((wrap64 (t281 * t281)) + a0_1)) a0_0) * t281)) + a0_2)) a0_0) a0_0).bind fun bt282 => (if bt282.2 = true then (if 0 < (l1.length : Int) then (if (Int.tmod bt282.1 2) = (Int.tmod (wrap64 (rd l1 0)) 2) then (impl_Curve_pointRead.j0 k l1 a0_0 a0_1 a0_2 a0_3 a0_4 a0_5 t281 bt282.1 false) else (impl_Curve_pointRead.j0 k l1 a0_0 a0_1 a0_2 a0_3 a0_4 a0_5 t281 (Int.tmod (wrap64 (a0_0 - bt282.1)) a0_0) false)) else (none)) else (some (0, 0, false, false))))))) else (none)) else (impl_Curve_pointRead.j0 k l1 a0_0 a0_1 a0_2 a0_3 a0_4 a0_5 0 0 false)))) = some (r1, r2, r3, r4) := h
 clear h; have HC3 := Aside0.mk H; clear H
 go_enter Try.func38, Try.ntmps38
 go_upto_block 0 with (first | ((with_reducible refine gate_dst (N := 2) rfl ?_); (try (refine gate_guard (by rfl) ?_; dsimp only)); refine box_event ?hg (N := 2) ?hd (cs := #[.int .i64 a0_0, .int .i64 a0_1, .int .i64 a0_2, .int .i64 a0_3, .int .i64 a0_4, .int .i64 a0_5]) (t := 29) ?hr ?_; (case hd => rfl); (case hg => rfl); (case hr => first | (go_simp; done) | (go_simp; rfl)); intro gb273 hg w4 hbox hb; have BK273 := Aside0.mk hbox; have GW273 := ge_ HB hg; have GE273 := ge_ HB hg; replace HB := bs_ HB hb; clear hb hbox hg) | ((with_reducible refine gate_dst (N := 4) rfl ?_); (try (refine gate_guard (by rfl) ?_; dsimp only)); refine box_event ?hg (N := 4) ?hd (cs := #[.int .i64 0, .int .i64 0, .bool false]) (t := 26) ?hr ?_; (case hd => rfl); (case hg => rfl); (case hr => first | (go_simp; done) | (go_simp; rfl)); intro gb274 hg w5 hbox hb; have BK274 := Aside0.mk hbox; have GW274 := ge_ HB hg; have GE274 := ge_ HB hg; have NB273_274 := nl_ BK273 hg; have NB274_273 := nr_ BK273 hg; replace BK273 := bb_ BK273 hb; replace HB := bs_ HB hb; clear hb hbox hg) | ((with_reducible refine gate_dst (N := 6) rfl ?_); (try (refine gate_guard (by rfl) ?_; dsimp only)); refine box_event ?hg (N := 6) ?hd (cs := #[.int .i64 0, .int .i64 0, .bool false]) (t := 26) ?hr ?_; (case hd => rfl); (case hg => rfl); (case hr => first | (go_simp; done) | (go_simp; rfl)); intro gb275 hg w6 hbox hb; have BK275 := Aside0.mk hbox; have GW275 := ge_ HB hg; have GE275 := ge_ HB hg; have NB273_275 := nl_ BK273 hg; have NB275_273 := nr_ BK273 hg; have NB274_275 := nl_ BK274 hg; have NB275_274 := nr_ BK274 hg; replace BK273 := bb_ BK273 hb; replace BK274 := bb_ BK274 hb; replace HB := bs_ HB hb; clear hb hbox hg; obtain ⟨hnb7, hnc7⟩ := nn_ NB275_273; obtain ⟨hnb8, hnc8⟩ := nn_ NB275_274; obtain ⟨hcz9_0, hcz9_1, hcz9_2, hfz9_0, hfz9_1, hfz9_2⟩ := bx3_ BK275))
 (try simp only [Act.put, sA_, sZ_, sS_])
 go_cut [] (fun wc => ∃ (kq : Nat) (x275000_2 : Int) (x275001_2 : Int) (x275002_2 : Bool) (x276000_2 : Int) (x276001_2 : Int) (x276002_2 : Bool), Aside0 (impl_Curve_pointRead.j0 kq l1 a0_0 a0_1 a0_2 a0_3 a0_4 a0_5 x276000_2 x276001_2 x276002_2 = some (r1, r2, r3, r4)) ∧ Aside0 (kq ≤ k) ∧ Aside0 (wc.heap[gb273]? = some (.cells #[.int .i64 a0_0, .int .i64 a0_1, .int .i64 a0_2, .int .i64 a0_3, .int .i64 a0_4, .int .i64 a0_5] 29 (0, 0))) ∧ Aside0 (wc.heap[gb274]? = some (.cells #[.int .i64 x275000_2, .int .i64 x275001_2, .bool x275002_2] 26 (0, 0))) ∧ Aside0 (wc.heap[gb275]? = some (.cells #[.int .i64 x276000_2, .int .i64 x276001_2, .bool x276002_2] 26 (0, 0))) ∧ Aside0 (Below w.heap.size w wc))
 case first =>
  have H := HC3.out; clear HC3
  by_cases c10 : (l1.length : Int) = 1
  ·
   rw [if_pos c10] at H
   have c10b0 : ((l1.length : Int) == 1) = true := beq_iff_eq.mpr c10
   have c10b1 : ((l1.length : Int) != 1) = false := bne_eq_false_iff_eq.mpr c10
   clear c10
   (first | rw [c10b0] | (simp only [i64_w, i32_w]; rw [c10b0]) | skip)
   have H' := Aside0.mk H
   clear H; obtain ⟨hnb11, hnc11⟩ := nn_ NB275_273; obtain ⟨hnb12, hnc12⟩ := nn_ NB275_274
   obtain ⟨hcz13_0, hcz13_1, hcz13_2, hfz13_0, hfz13_1, hfz13_2⟩ := bx3_ BK275
   go_wp2
   go_meet
   case rel => exact ⟨_, (0), (0), (false), (0), (0), (true), H', ⟨by first | omega | exact Nat.le_refl _⟩, ⟨bf_ BK273⟩, ⟨bf_ BK274⟩, ⟨bq_ BK275⟩, ⟨bw_ HB⟩⟩
  ·
   rw [if_neg c10] at H
   have c10b0 : ((l1.length : Int) == 1) = false := beq_eq_false_iff_ne.mpr c10
   have c10b1 : ((l1.length : Int) != 1) = true := bne_iff_ne.mpr c10
   (first | rw [c10b0] | (simp only [i64_w, i32_w]; rw [c10b0]) | skip)
   by_cases c14 : (l1.length : Int) = 7
   ·
    rw [if_pos c14] at H
    have c14b0 : ((l1.length : Int) == 7) = true := beq_iff_eq.mpr c14
    have c14b1 : ((l1.length : Int) != 7) = false := bne_eq_false_iff_eq.mpr c14
    clear c14
    by_cases c15 : 1 ≤ (l1.length : Int)
    ·
     rw [if_pos c15] at H; have c15b0 := eq_true c15
     have c15b1 : decide (1 ≤ (l1.length : Int)) = true := decide_eq_true c15
     clear c15; obtain ⟨t277, A160, H⟩ := pb_ H
     have A16 := Aside0.mk A160; clear A160
     by_cases c17 : 4 ≤ (l1.length : Int)
     ·
      rw [if_pos c17] at H; have c17b0 := eq_true c17
      have c17b1 : decide (4 ≤ (l1.length : Int)) = true := decide_eq_true c17
      clear c17; obtain ⟨t279, A180, H⟩ := pb_ H
      have A18 := Aside0.mk A180; clear A180
      have H' := Aside0.mk H
      clear H
      try go_wp2
      refine gwR_ (fun w19 hq_ => ?_)
      have n0_ : Aside0 (w19.heap[gb273]? = some (.cells #[.int .i64 a0_0, .int .i64 a0_1, .int .i64 a0_2, .int .i64 a0_3, .int .i64 a0_4, .int .i64 a0_5] 29 (0, 0))) := ⟨by rw [← hq_]; exact bq_ BK273⟩
      have n1_ : Aside0 (w19.heap[gb274]? = some (.cells #[.int .i64 0, .int .i64 0, .bool false] 26 (0, 0))) := ⟨by rw [← hq_]; exact bq_ BK274⟩
      have n2_ : Aside0 (w19.heap[gb275]? = some (.cells #[.int .i64 0, .int .i64 0, .bool false] 26 (0, 0))) := ⟨by rw [← hq_]; exact bq_ BK275⟩
      have n3_ : Aside0 (Below w.heap.size w w19) := ⟨by rw [← hq_]; exact (bw_ HB)⟩
      (try clear BK273); (try clear BK274); (try clear BK275); (try clear HB)
      clear hq_; have BK273 := n0_; have BK274 := n1_; have BK275 := n2_; have HB := n3_; clear n0_ n1_ n2_ n3_; replace BK273 := Aside0.mk (blk_drew BK273.out); replace BK274 := Aside0.mk (blk_drew BK274.out); replace BK275 := Aside0.mk (blk_drew BK275.out); replace HB := Aside0.mk (below_drew1 HB.out); obtain ⟨i021, hi021, _, hsz21, _⟩ := info_parts info5; obtain ⟨A21, hcut21, hA21, hC21⟩ := print_drop_of (P := Try.prog) (Value.int .u8) 0 34 5 .i64 Try.underlying34 hi021 hsz21 A1 c1 l1 1 (by omega) (of_decide_eq_true (by first | (with_reducible assumption) | assumption)) HC1.out; have HR276 := Aside0.mk (Kd.C_of_reads (h1 := fun _ => rfl) (hA21 _ (Kd.reads_of_C HR1.out))); have HC276 := Aside0.mk hC21; clear hA21 hC21 hi021 hsz21; obtain ⟨i022, hi022, _, hsz22, _⟩ := info_parts info5; obtain ⟨A22, hcut22, hA22, hC22⟩ := print_drop_of (P := Try.prog) (Value.int .u8) 0 34 5 .i64 Try.underlying34 hi022 hsz22 A1 c1 l1 4 (by omega) (of_decide_eq_true (by first | (with_reducible assumption) | assumption)) HC1.out; have HR278 := Aside0.mk (Kd.C_of_reads (h1 := fun _ => rfl) (hA22 _ (Kd.reads_of_C HR1.out))); have HC278 := Aside0.mk hC22; clear hA22 hC22 hi022 hsz22; refine start_ (n := 10) (S := fun w' => True) (ds := []) (bl_ 10 0) (by kernel_rfl) rfl rfl trivial (fun hHeld => ?_); refine with_tabW impl_Curve_pointRead.tab5 impl_Curve_pointRead.bits5 (fun HT_ HW_ => ?_)
      generalize w19.drew = w20 at BK273 BK274 BK275 HB HR276 HR278 hHeld ⊢
      refine pu_ 0 19 (bl_ 10 1) rfl rfl HT_ ?_; refine pu_ 1 20 (bl_ 10 3) rfl rfl HT_ ?_; refine pu_ 3 22 (bl_ 10 11) rfl rfl HT_ ?_; refine pu_ 4 23 (bl_ 10 27) rfl rfl HT_ ?_; refine one_ (i := 2) (N := some 21) (bl_ 10 31) rfl rfl (one_of HT_.out (by kernel_rfl)) (by decide) (fun K hK => ?_); refine goes_ Try.func60 (by kernel_rfl) rfl #[.slice A21 (l1.drop 1).length (c1 - 1)] (by rfl) rfl rfl (by (try simp only [List.map_toArray, List.map_cons, List.map_nil]); first | done | (rw [show (l1.drop 1).length = (l1.length - 1) from List.length_drop] <;> rfl) | rfl | (simp only [List.length_drop, List.length_take]; rfl)) ?_
      with_reducible refine (impl_ofThree.calls _ _ (l1.drop 1) t277 _ ?side1 ?side2 A16.out).mono ?_
      (case side1 => repeat (first | exact (Kd.C_below HR276.out HB.out) | (with_reducible refine Kd.C_alloc ?_ _) | (with_reducible refine Kd.C_drewN ?_ _) | (with_reducible refine Kd.C_drew ?_)))
      (case side2 => exact HC276.out)
      rintro e w' ⟨rfl, ⟨nd, rfl⟩⟩; refine ⟨_, rfl, ?_⟩; refine hK.out _ _ trivial (fun hHeld => ?_); clear hK K
      apply norm_
      · show Act.put _ (some 21) _ = _; simp only [Act.put, sA_, sZ_, sS_, i64_w, i32_w]; rfl
      refine pu_ 6 25 (bl_ 10 95) rfl rfl HT_ ?_; refine one_ (i := 5) (N := some 24) (bl_ 10 127) rfl rfl (one_of HT_.out (by kernel_rfl)) (by decide) (fun K hK => ?_); refine goes_ Try.func60 (by kernel_rfl) rfl #[.slice A22 (l1.drop 4).length (c1 - 4)] (by rfl) rfl rfl (by (try simp only [List.map_toArray, List.map_cons, List.map_nil]); first | done | (rw [show (l1.drop 4).length = (l1.length - 4) from List.length_drop] <;> rfl) | rfl | (simp only [List.length_drop, List.length_take]; rfl)) ?_
      with_reducible refine (impl_ofThree.calls _ _ (l1.drop 4) t279 _ ?side1 ?side2 A18.out).mono ?_
      (case side1 => repeat (first | exact (Kd.C_below HR278.out (bw_ HB)) | (with_reducible refine Kd.C_alloc ?_ _) | (with_reducible refine Kd.C_drewN ?_ _) | (with_reducible refine Kd.C_drew ?_)))
      (case side2 => exact HC278.out)
      rintro e w' ⟨rfl, ⟨nd, rfl⟩⟩; refine ⟨_, rfl, ?_⟩; refine hK.out _ _ trivial (fun hHeld => ?_); clear hK K
      apply norm_
      · show Act.put _ (some 24) _ = _; simp only [Act.put, sA_, sZ_, sS_, i64_w, i32_w]; rfl
      refine one_ (i := 7) (N := none) (bl_ 10 255) rfl rfl (one_of HT_.out (by kernel_rfl)) (by decide) (fun K hK => ?_)
      have hs23 : w20.cell? ⟨gb275, 0, none⟩ = some (.int .i64 0) := bc_ BK275 0
      have hfs23 := blk_frozen BK275.out 0; have hns23_0 := NB273_275.out; have hns23_1 := NB274_275.out; have hms23_0 := NB275_273.out; have hms23_1 := NB275_274.out; refine skip_ (w1 := ?_) (by rfl) rfl ?_ ?_; rotate_left
      · go_simp; rfl
      refine hK.out _ _ trivial (fun hHeld => ?_); clear hK K; refine pu_ 8 26 (bl_ 10 511) rfl rfl HT_ ?_
      refine one_ (i := 9) (N := none) (bl_ 10 1023) rfl rfl (one_of HT_.out (by kernel_rfl)) (by decide) (fun K hK => ?_)
      have hs24 : w20.cell? ⟨gb275, 1, none⟩ = some (.int .i64 0) := bc_ BK275 1
      have hfs24 := blk_frozen BK275.out 1; have hns24_0 := NB273_275.out; have hns24_1 := NB274_275.out; have hms24_0 := NB275_273.out; have hms24_1 := NB275_274.out; refine skip_ (w1 := ?_) (by rfl) rfl ?_ ?_; rotate_left
      · go_simp; rfl
      refine hK.out _ _ trivial (fun hHeld => ?_); clear hK K; refine done_ (done_of HT_.out (by kernel_rfl)) ?_
      try go_wp2
      go_meet
      case rel => exact ⟨_, (0), (0), (false), (t277), (t279), (false), H', ⟨by first | omega | exact Nat.le_refl _⟩, ⟨bf_ BK273⟩, ⟨bf_ BK274⟩, ⟨bq_ BK275⟩, ⟨bw_ HB⟩⟩
     · rw [if_neg c17] at H; exact absurd H (by simp)
    · rw [if_neg c15] at H; exact absurd H (by simp)
   ·
    rw [if_neg c14] at H
    have c14b0 : ((l1.length : Int) == 7) = false := beq_eq_false_iff_ne.mpr c14
    have c14b1 : ((l1.length : Int) != 7) = true := bne_iff_ne.mpr c14
    by_cases c25 : (l1.length : Int) = 4
    ·
     rw [if_pos c25] at H
     have c25b0 : ((l1.length : Int) == 4) = true := beq_iff_eq.mpr c25
     have c25b1 : ((l1.length : Int) != 4) = false := bne_eq_false_iff_eq.mpr c25
     clear c25
     by_cases c26 : 1 ≤ (l1.length : Int)
     ·
      rw [if_pos c26] at H; have c26b0 := eq_true c26
      have c26b1 : decide (1 ≤ (l1.length : Int)) = true := decide_eq_true c26
      clear c26; obtain ⟨t281, A270, H⟩ := pb_ H
      have A27 := Aside0.mk A270; clear A270
      by_cases c28 : t281 ≥ a0_0
      ·
       rw [if_pos c28] at H
       have c28b0 : decide (a0_0 ≤ t281) = true := decide_eq_true c28
       clear c28
       simp only [Option.some.injEq, Prod.mk.injEq] at H
       obtain ⟨rfl, rfl, rfl, rfl⟩ := H; obtain ⟨i029, hi029, _, hsz29, _⟩ := info_parts info5; obtain ⟨A29, hcut29, hA29, hC29⟩ := print_drop_of (P := Try.prog) (Value.int .u8) 0 34 5 .i64 Try.underlying34 hi029 hsz29 A1 c1 l1 1 (by omega) (of_decide_eq_true (by first | (with_reducible assumption) | assumption)) HC1.out; have HR280 := Aside0.mk (Kd.C_of_reads (h1 := fun _ => rfl) (hA29 _ (Kd.reads_of_C HR1.out))); have HC280 := Aside0.mk hC29; clear hA29 hC29 hi029 hsz29
       go_wp2_with (first | ((with_reducible refine gate_callee (f := 60) rfl ?_); refine goesL_ (some 33) rfl rfl Try.func60 (by kernel_rfl) rfl #[.slice A29 (l1.drop 1).length (c1 - 1)] rfl (by (try simp only [List.map_toArray, List.map_cons, List.map_nil]); first | done | (rw [show (l1.drop 1).length = (l1.length - 1) from List.length_drop] <;> rfl) | rfl | (simp only [List.length_drop, List.length_take]; rfl)) ?_; (with_reducible refine (impl_ofThree.calls _ _ (l1.drop 1) t281 _ ?side1 ?side2 A27.out).mono ?_); (case side1 => exact Kd.C_below HR280.out (bw_ HB)); (case side2 => exact HC280.out); rintro e w' ⟨rfl, ⟨nd, rfl⟩⟩; refine ⟨_, rfl, ?_⟩; obtain ⟨hnb30, hnc30⟩ := nn_ NB275_273; obtain ⟨hnb31, hnc31⟩ := nn_ NB275_274; obtain ⟨hcz32_0, hcz32_1, hcz32_2, hfz32_0, hfz32_1, hfz32_2⟩ := bx3_ BK275; obtain ⟨hnb33, hnc33⟩ := nn_ NB273_274; obtain ⟨hcz34_0, hcz34_1, hcz34_2, hcz34_3, hcz34_4, hcz34_5, hfz34_0, hfz34_1, hfz34_2, hfz34_3, hfz34_4, hfz34_5⟩ := bx6_ BK273; obtain ⟨hcz35_0, hcz35_1, hcz35_2, hfz35_0, hfz35_1, hfz35_2⟩ := bx3_ BK274))
       refine bodyPost_ret (results_ct rfl _ _ gb274 26 #[.int .i64 0, .int .i64 0, .bool false] (0, 0) _ rfl (bq_ BK274) Try.underlying26 rfl (by kernel_rfl)) rfl ?_; exact ⟨by first | rfl | (simp [errW_none, errW_some] <;> rfl) | (simp [*, errW_none, errW_some] <;> rfl), by repeat (first | (with_reducible first | exact HB.out | apply below_alloc | apply pw_below_drewN | apply below_drew1 | refine below_set ?_ GE273.out | refine below_set ?_ GE274.out | refine below_set ?_ GE275.out) | exact HB.out)⟩
      ·
       rw [if_neg c28] at H
       have c28b0 : decide (a0_0 ≤ t281) = false := decide_eq_false c28
       clear c28
       by_cases c36 : a0_0 = 0
       · rw [if_pos c36] at H; exact absurd H (by simp)
       ·
        rw [if_neg c36] at H
        have c36b0 : (a0_0 == 0) = false := beq_eq_false_iff_ne.mpr c36
        have c36b1 : (a0_0 != 0) = true := bne_iff_ne.mpr c36
        obtain ⟨⟨t282, t283⟩, A370, H⟩ := pb_ H; have A37 := Aside0.mk A370; clear A370
        by_cases c38 : t283 = true
        ·
         subst c38; rw [if_pos rfl] at H
         by_cases c39 : 0 < (l1.length : Int)
         ·
          rw [if_pos c39] at H
          have c39b0 : decide (0 < (l1.length : Int)) = true := decide_eq_true c39
          have c39b1 : decide (0 < l1.length) = true := decide_eq_true (by omega)
          clear c39
          by_cases c40 : (Int.tmod t282 2) = (Int.tmod (wrap64 (rd l1 0)) 2)
          ·
           rw [if_pos c40] at H
           have c40b0 : ((Int.tmod t282 2) == (Int.tmod (wrap64 (rd l1 0)) 2)) = true := beq_iff_eq.mpr c40
           have c40b1 : ((Int.tmod t282 2) != (Int.tmod (wrap64 (rd l1 0)) 2)) = false := bne_eq_false_iff_eq.mpr c40
           clear c40
           have H' := Aside0.mk H
           clear H; obtain ⟨i041, hi041, _, hsz41, _⟩ := info_parts info5; obtain ⟨A41, hcut41, hA41, hC41⟩ := print_drop_of (P := Try.prog) (Value.int .u8) 0 34 5 .i64 Try.underlying34 hi041 hsz41 A1 c1 l1 1 (by omega) (of_decide_eq_true (by first | (with_reducible assumption) | assumption)) HC1.out; have HR280 := Aside0.mk (Kd.C_of_reads (h1 := fun _ => rfl) (hA41 _ (Kd.reads_of_C HR1.out))); have HC280 := Aside0.mk hC41; clear hA41 hC41 hi041 hsz41
           try go_wp2_with (first | ((with_reducible refine gate_callee (f := 60) rfl ?_); refine goesL_ (some 33) rfl rfl Try.func60 (by kernel_rfl) rfl #[.slice A41 (l1.drop 1).length (c1 - 1)] rfl (by (try simp only [List.map_toArray, List.map_cons, List.map_nil]); first | done | (rw [show (l1.drop 1).length = (l1.length - 1) from List.length_drop] <;> rfl) | rfl | (simp only [List.length_drop, List.length_take]; rfl)) ?_; (with_reducible refine (impl_ofThree.calls _ _ (l1.drop 1) t281 _ ?side1 ?side2 A27.out).mono ?_); (case side1 => exact Kd.C_below HR280.out (bw_ HB)); (case side2 => exact HC280.out); rintro e w' ⟨rfl, ⟨nd, rfl⟩⟩; refine ⟨_, rfl, ?_⟩; obtain ⟨hnb42, hnc42⟩ := nn_ NB275_273; obtain ⟨hnb43, hnc43⟩ := nn_ NB275_274; obtain ⟨hcz44_0, hcz44_1, hcz44_2, hfz44_0, hfz44_1, hfz44_2⟩ := bx3_ BK275; obtain ⟨hnb45, hnc45⟩ := nn_ NB273_274; obtain ⟨hcz46_0, hcz46_1, hcz46_2, hcz46_3, hcz46_4, hcz46_5, hfz46_0, hfz46_1, hfz46_2, hfz46_3, hfz46_4, hfz46_5⟩ := bx6_ BK273))
           refine gwR_ (fun w47 hq_ => ?_)
           have n0_ : Aside0 (w47.heap[gb273]? = some (.cells #[.int .i64 a0_0, .int .i64 a0_1, .int .i64 a0_2, .int .i64 a0_3, .int .i64 a0_4, .int .i64 a0_5] 29 (0, 0))) := ⟨by rw [← hq_]; exact bq_ BK273⟩
           have n1_ : Aside0 (w47.heap[gb274]? = some (.cells #[.int .i64 0, .int .i64 0, .bool false] 26 (0, 0))) := ⟨by rw [← hq_]; exact bq_ BK274⟩
           have n2_ : Aside0 (w47.heap[gb275]? = some (.cells #[.int .i64 t281, .int .i64 0, .bool false] 26 (0, 0))) := ⟨by rw [← hq_]; exact bq_ BK275⟩
           have n3_ : Aside0 (Below w.heap.size w w47) := ⟨by rw [← hq_]; exact (bw_ HB)⟩
           (try clear BK273); (try clear BK274); (try clear BK275); (try clear HB)
           clear hq_; have BK273 := n0_; have BK274 := n1_; have BK275 := n2_; have HB := n3_; clear n0_ n1_ n2_ n3_; (try (rw [drewN_self w47]; generalize hq_ : World.drewN w47 _ = w47; have n0_ : Aside0 (w47.heap[gb273]? = some (.cells #[.int .i64 a0_0, .int .i64 a0_1, .int .i64 a0_2, .int .i64 a0_3, .int .i64 a0_4, .int .i64 a0_5] 29 (0, 0))) := ⟨by rw [← hq_]; exact (bk_ BK273)⟩; have n1_ : Aside0 (w47.heap[gb274]? = some (.cells #[.int .i64 0, .int .i64 0, .bool false] 26 (0, 0))) := ⟨by rw [← hq_]; exact (bk_ BK274)⟩; have n2_ : Aside0 (w47.heap[gb275]? = some (.cells #[.int .i64 t281, .int .i64 0, .bool false] 26 (0, 0))) := ⟨by rw [← hq_]; exact (bk_ BK275)⟩; have n3_ : Aside0 (Below w.heap.size w w47) := ⟨by rw [← hq_]; exact (bw_ HB)⟩; clear BK273 BK274 BK275 HB hq_; have BK273 := n0_; have BK274 := n1_; have BK275 := n2_; have HB := n3_; clear n0_ n1_ n2_ n3_; obtain ⟨hcy273_0, hcy273_1, hcy273_2, hcy273_3, hcy273_4, hcy273_5⟩ := by6_ BK273; obtain ⟨hcy274_0, hcy274_1, hcy274_2⟩ := by3_ BK274; obtain ⟨hcy275_0, hcy275_1, hcy275_2⟩ := by3_ BK275)); replace BK273 := Aside0.mk (blk_drew BK273.out); replace BK274 := Aside0.mk (blk_drew BK274.out); replace BK275 := Aside0.mk (blk_drew BK275.out); replace HB := Aside0.mk (below_drew1 HB.out); refine start_ (n := 28) (S := fun w' => w'.cell? ⟨gb275, 0, none⟩ = some (.int .i64 t281) ∧ w'.cell? ⟨gb275, 1, none⟩ = some (.int .i64 0) ∧ w'.cell? ⟨gb275, 2, none⟩ = some (.bool false) ∧ w'.cell? ⟨gb273, 0, none⟩ = some (.int .i64 a0_0) ∧ w'.cell? ⟨gb273, 1, none⟩ = some (.int .i64 a0_1) ∧ w'.cell? ⟨gb273, 2, none⟩ = some (.int .i64 a0_2) ∧ w'.cell? ⟨gb273, 3, none⟩ = some (.int .i64 a0_3) ∧ w'.cell? ⟨gb273, 4, none⟩ = some (.int .i64 a0_4) ∧ w'.cell? ⟨gb273, 5, none⟩ = some (.int .i64 a0_5)) (ds := []) (bl_ 28 0) (by kernel_rfl) rfl rfl ⟨bc_ BK275 0, bc_ BK275 1, bc_ BK275 2, bc_ BK273 0, bc_ BK273 1, bc_ BK273 2, bc_ BK273 3, bc_ BK273 4, bc_ BK273 5⟩ (fun hHeld => ?_); refine with_tabW impl_Curve_pointRead.tab10 impl_Curve_pointRead.bits10 (fun HT_ HW_ => ?_)
           generalize w47.drew = w48 at BK273 BK274 BK275 HB hHeld ⊢
           refine pu_ 0 42 (bl_ 28 1) rfl rfl HT_ ?_; refine pu_ 2 44 (bl_ 28 5) rfl rfl HT_ ?_; refine pu_ 5 47 (bl_ 28 37) rfl rfl HT_ ?_; refine pu_ 8 50 (bl_ 28 293) rfl rfl HT_ ?_; refine pu_ 11 53 (bl_ 28 2341) rfl rfl HT_ ?_; refine pu_ 14 56 (bl_ 28 18725) rfl rfl HT_ ?_; refine pu_ 17 59 (bl_ 28 149797) rfl rfl HT_ ?_; refine pu_ 20 62 (bl_ 28 1198373) rfl rfl HT_ ?_; refine tk_ 1 43 (bl_ 28 1198375) rfl rfl HT_ HW_ hHeld (by rintro w' ⟨s0, s1, s2, s3, s4, s5, s6, s7, s8⟩; go_simp; with_reducible rfl) ?_; refine tk_ 3 45 (bl_ 28 1198383) rfl rfl HT_ HW_ hHeld (by rintro w' ⟨s0, s1, s2, s3, s4, s5, s6, s7, s8⟩; go_simp; with_reducible rfl) ?_; refine pu_ 4 46 (bl_ 28 1198399) rfl rfl HT_ ?_; refine tk_ 6 48 (bl_ 28 1198463) rfl rfl HT_ HW_ hHeld (by rintro w' ⟨s0, s1, s2, s3, s4, s5, s6, s7, s8⟩; go_simp; with_reducible rfl) ?_; refine pu_ 7 49 (bl_ 28 1198591) rfl rfl HT_ ?_; refine tk_ 9 51 (bl_ 28 1199103) rfl rfl HT_ HW_ hHeld (by rintro w' ⟨s0, s1, s2, s3, s4, s5, s6, s7, s8⟩; go_simp; with_reducible rfl) ?_; refine pu_ 10 52 (bl_ 28 1200127) rfl rfl HT_ ?_; refine tk_ 12 54 (bl_ 28 1204223) rfl rfl HT_ HW_ hHeld (by rintro w' ⟨s0, s1, s2, s3, s4, s5, s6, s7, s8⟩; go_simp; with_reducible rfl) ?_; refine pu_ 13 55 (bl_ 28 1212415) rfl rfl HT_ ?_; refine tk_ 15 57 (bl_ 28 1245183) rfl rfl HT_ HW_ hHeld (by rintro w' ⟨s0, s1, s2, s3, s4, s5, s6, s7, s8⟩; go_simp; with_reducible rfl) ?_; refine pu_ 16 58 (bl_ 28 1310719) rfl rfl HT_ ?_; refine tk_ 18 60 (bl_ 28 1572863) rfl rfl HT_ HW_ hHeld (by rintro w' ⟨s0, s1, s2, s3, s4, s5, s6, s7, s8⟩; go_simp; with_reducible rfl) ?_; refine pu_ 19 61 (bl_ 28 2097151) rfl rfl HT_ ?_; refine tk_ 21 63 (bl_ 28 4194303) rfl rfl HT_ HW_ hHeld (by rintro w' ⟨s0, s1, s2, s3, s4, s5, s6, s7, s8⟩; go_simp; with_reducible rfl) ?_; refine one_ (i := 22) (N := some 64) (bl_ 28 8388607) rfl rfl (one_of HT_.out (by kernel_rfl)) (by decide) (fun K hK => ?_); refine gs_ Try.func61 #[.int .i64 (Int.tmod (wrap64 ((wrap64 ((Int.tmod (wrap64 ((wrap64 (t281 * t281)) + a0_1)) a0_0) * t281)) + a0_2)) a0_0), .int .i64 a0_0] ?_
           with_reducible refine (impl_rootInt.calls k (Int.tmod (wrap64 ((wrap64 ((Int.tmod (wrap64 ((wrap64 (t281 * t281)) + a0_1)) a0_0) * t281)) + a0_2)) a0_0) a0_0 t282 true _ A37.out).mono ?_
           rintro e w' ⟨rfl, ⟨nd, rfl⟩⟩; refine ⟨_, rfl, ?_⟩; refine hK.out _ _ ⟨bc_ BK275 0, bc_ BK275 1, bc_ BK275 2, bc_ BK273 0, bc_ BK273 1, bc_ BK273 2, bc_ BK273 3, bc_ BK273 4, bc_ BK273 5⟩ (fun hHeld => ?_); clear hK K
           refine gw_ hHeld (fun w48 hq_ hHeld => ?_)
           have qBK273 : Aside0 (w48.heap[gb273]? = some (.cells #[.int .i64 a0_0, .int .i64 a0_1, .int .i64 a0_2, .int .i64 a0_3, .int .i64 a0_4, .int .i64 a0_5] 29 (0, 0))) := ⟨by rw [← hq_]; exact bk_ BK273⟩
           have qBK274 : Aside0 (w48.heap[gb274]? = some (.cells #[.int .i64 0, .int .i64 0, .bool false] 26 (0, 0))) := ⟨by rw [← hq_]; exact bk_ BK274⟩
           have qBK275 : Aside0 (w48.heap[gb275]? = some (.cells #[.int .i64 t281, .int .i64 0, .bool false] 26 (0, 0))) := ⟨by rw [← hq_]; exact bk_ BK275⟩
           have qHB : Aside0 (Below w.heap.size w w48) := ⟨by rw [← hq_]; exact bw_ HB⟩
           clear hq_ BK273 BK274 BK275 HB; have BK273 := qBK273; have BK274 := qBK274; have BK275 := qBK275; have HB := qHB; clear qBK273 qBK274 qBK275 qHB
           apply norm_
           · show Act.put _ (some 64) _ = _; simp only [Act.put, sA_, sZ_, sS_, i64_w, i32_w]; rfl
           refine pu_ 23 41 (bl_ 28 16777215) rfl rfl HT_ ?_; refine pu_ 24 65 (bl_ 28 33554431) rfl rfl HT_ ?_; refine pu_ 25 66 (bl_ 28 67108863) rfl rfl HT_ ?_; refine pu_ 26 7 (bl_ 28 134217727) rfl rfl HT_ ?_; refine pu_ 27 8 (bl_ 28 268435455) rfl rfl HT_ ?_; refine done_ (done_of HT_.out (by kernel_rfl)) ?_; obtain ⟨hcz49_0, hcz49_1, hcz49_2, hfz49_0, hfz49_1, hfz49_2⟩ := bx3_ BK275
           have p284 : 0 ≤ (0 : Int) := (by omega)
           have q284 : 0 < (l1.length : Int) := of_decide_eq_true (by first | (with_reducible assumption) | assumption)
           obtain ⟨ad284, e284, hx284_0⟩ := Kd.at_int HR1.out 0 p284 q284
           cases e284
           have qi284 : (0 < l1.length) = True := eq_true (by omega)
           (try rw [show ((0 : Int)).toNat = 0 from rfl] at hx284_0); (try rw [Addr.add_zero'] at hx284_0)
           have hn284_0 : ad284.block ≠ gb275 := Nat.ne_of_lt (Nat.lt_of_lt_of_le (by have := World.block_lt_of_cell? _ _ hx284_0; first | rwa [add_block] at this | exact this) GW275.out)
           replace hx284_0 := (HB.out.cell (World.block_lt_of_cell? w _ hx284_0)).trans hx284_0; replace hx284_0 := (cell_far (p := ⟨gb275, 1, none⟩) (by first | (rw [add_block]; exact hn284_0) | (show (Addr.add _ _).block ≠ _; rw [add_block]; exact hn284_0) | exact hn284_0) (.int .i64 t282)).trans hx284_0; clear hn284_0; replace p284 := eq_true p284; replace q284 := eq_true q284
           try go_wp2
           go_meet
           case rel => exact ⟨_, (0), (0), (false), (t281), (t282), (false), H', ⟨by first | omega | exact Nat.le_refl _⟩, ⟨bf_ BK273⟩, ⟨bf_ BK274⟩, ⟨bq_ BK275⟩, ⟨bw_ HB⟩⟩
          ·
           rw [if_neg c40] at H
           have c40b0 : ((Int.tmod t282 2) == (Int.tmod (wrap64 (rd l1 0)) 2)) = false := beq_eq_false_iff_ne.mpr c40
           have c40b1 : ((Int.tmod t282 2) != (Int.tmod (wrap64 (rd l1 0)) 2)) = true := bne_iff_ne.mpr c40
           have H' := Aside0.mk H
           clear H; obtain ⟨i050, hi050, _, hsz50, _⟩ := info_parts info5; obtain ⟨A50, hcut50, hA50, hC50⟩ := print_drop_of (P := Try.prog) (Value.int .u8) 0 34 5 .i64 Try.underlying34 hi050 hsz50 A1 c1 l1 1 (by omega) (of_decide_eq_true (by first | (with_reducible assumption) | assumption)) HC1.out; have HR280 := Aside0.mk (Kd.C_of_reads (h1 := fun _ => rfl) (hA50 _ (Kd.reads_of_C HR1.out))); have HC280 := Aside0.mk hC50; clear hA50 hC50 hi050 hsz50
           try go_wp2_with (first | ((with_reducible refine gate_callee (f := 60) rfl ?_); refine goesL_ (some 33) rfl rfl Try.func60 (by kernel_rfl) rfl #[.slice A50 (l1.drop 1).length (c1 - 1)] rfl (by (try simp only [List.map_toArray, List.map_cons, List.map_nil]); first | done | (rw [show (l1.drop 1).length = (l1.length - 1) from List.length_drop] <;> rfl) | rfl | (simp only [List.length_drop, List.length_take]; rfl)) ?_; (with_reducible refine (impl_ofThree.calls _ _ (l1.drop 1) t281 _ ?side1 ?side2 A27.out).mono ?_); (case side1 => exact Kd.C_below HR280.out (bw_ HB)); (case side2 => exact HC280.out); rintro e w' ⟨rfl, ⟨nd, rfl⟩⟩; refine ⟨_, rfl, ?_⟩; obtain ⟨hnb51, hnc51⟩ := nn_ NB275_273; obtain ⟨hnb52, hnc52⟩ := nn_ NB275_274; obtain ⟨hcz53_0, hcz53_1, hcz53_2, hfz53_0, hfz53_1, hfz53_2⟩ := bx3_ BK275; obtain ⟨hnb54, hnc54⟩ := nn_ NB273_274; obtain ⟨hcz55_0, hcz55_1, hcz55_2, hcz55_3, hcz55_4, hcz55_5, hfz55_0, hfz55_1, hfz55_2, hfz55_3, hfz55_4, hfz55_5⟩ := bx6_ BK273))
           refine gwR_ (fun w56 hq_ => ?_)
           have n0_ : Aside0 (w56.heap[gb273]? = some (.cells #[.int .i64 a0_0, .int .i64 a0_1, .int .i64 a0_2, .int .i64 a0_3, .int .i64 a0_4, .int .i64 a0_5] 29 (0, 0))) := ⟨by rw [← hq_]; exact bq_ BK273⟩
           have n1_ : Aside0 (w56.heap[gb274]? = some (.cells #[.int .i64 0, .int .i64 0, .bool false] 26 (0, 0))) := ⟨by rw [← hq_]; exact bq_ BK274⟩
           have n2_ : Aside0 (w56.heap[gb275]? = some (.cells #[.int .i64 t281, .int .i64 0, .bool false] 26 (0, 0))) := ⟨by rw [← hq_]; exact bq_ BK275⟩
           have n3_ : Aside0 (Below w.heap.size w w56) := ⟨by rw [← hq_]; exact (bw_ HB)⟩
           (try clear BK273); (try clear BK274); (try clear BK275); (try clear HB)
           clear hq_; have BK273 := n0_; have BK274 := n1_; have BK275 := n2_; have HB := n3_; clear n0_ n1_ n2_ n3_; (try (rw [drewN_self w56]; generalize hq_ : World.drewN w56 _ = w56; have n0_ : Aside0 (w56.heap[gb273]? = some (.cells #[.int .i64 a0_0, .int .i64 a0_1, .int .i64 a0_2, .int .i64 a0_3, .int .i64 a0_4, .int .i64 a0_5] 29 (0, 0))) := ⟨by rw [← hq_]; exact (bk_ BK273)⟩; have n1_ : Aside0 (w56.heap[gb274]? = some (.cells #[.int .i64 0, .int .i64 0, .bool false] 26 (0, 0))) := ⟨by rw [← hq_]; exact (bk_ BK274)⟩; have n2_ : Aside0 (w56.heap[gb275]? = some (.cells #[.int .i64 t281, .int .i64 0, .bool false] 26 (0, 0))) := ⟨by rw [← hq_]; exact (bk_ BK275)⟩; have n3_ : Aside0 (Below w.heap.size w w56) := ⟨by rw [← hq_]; exact (bw_ HB)⟩; clear BK273 BK274 BK275 HB hq_; have BK273 := n0_; have BK274 := n1_; have BK275 := n2_; have HB := n3_; clear n0_ n1_ n2_ n3_; obtain ⟨hcy273_0, hcy273_1, hcy273_2, hcy273_3, hcy273_4, hcy273_5⟩ := by6_ BK273; obtain ⟨hcy274_0, hcy274_1, hcy274_2⟩ := by3_ BK274; obtain ⟨hcy275_0, hcy275_1, hcy275_2⟩ := by3_ BK275)); replace BK273 := Aside0.mk (blk_drew BK273.out); replace BK274 := Aside0.mk (blk_drew BK274.out); replace BK275 := Aside0.mk (blk_drew BK275.out); replace HB := Aside0.mk (below_drew1 HB.out); refine start_ (n := 28) (S := fun w' => w'.cell? ⟨gb275, 0, none⟩ = some (.int .i64 t281) ∧ w'.cell? ⟨gb275, 1, none⟩ = some (.int .i64 0) ∧ w'.cell? ⟨gb275, 2, none⟩ = some (.bool false) ∧ w'.cell? ⟨gb273, 0, none⟩ = some (.int .i64 a0_0) ∧ w'.cell? ⟨gb273, 1, none⟩ = some (.int .i64 a0_1) ∧ w'.cell? ⟨gb273, 2, none⟩ = some (.int .i64 a0_2) ∧ w'.cell? ⟨gb273, 3, none⟩ = some (.int .i64 a0_3) ∧ w'.cell? ⟨gb273, 4, none⟩ = some (.int .i64 a0_4) ∧ w'.cell? ⟨gb273, 5, none⟩ = some (.int .i64 a0_5)) (ds := []) (bl_ 28 0) (by kernel_rfl) rfl rfl ⟨bc_ BK275 0, bc_ BK275 1, bc_ BK275 2, bc_ BK273 0, bc_ BK273 1, bc_ BK273 2, bc_ BK273 3, bc_ BK273 4, bc_ BK273 5⟩ (fun hHeld => ?_); refine with_tabW impl_Curve_pointRead.tab10 impl_Curve_pointRead.bits10 (fun HT_ HW_ => ?_)
           generalize w56.drew = w57 at BK273 BK274 BK275 HB hHeld ⊢
           refine pu_ 0 42 (bl_ 28 1) rfl rfl HT_ ?_; refine pu_ 2 44 (bl_ 28 5) rfl rfl HT_ ?_; refine pu_ 5 47 (bl_ 28 37) rfl rfl HT_ ?_; refine pu_ 8 50 (bl_ 28 293) rfl rfl HT_ ?_; refine pu_ 11 53 (bl_ 28 2341) rfl rfl HT_ ?_; refine pu_ 14 56 (bl_ 28 18725) rfl rfl HT_ ?_; refine pu_ 17 59 (bl_ 28 149797) rfl rfl HT_ ?_; refine pu_ 20 62 (bl_ 28 1198373) rfl rfl HT_ ?_; refine tk_ 1 43 (bl_ 28 1198375) rfl rfl HT_ HW_ hHeld (by rintro w' ⟨s0, s1, s2, s3, s4, s5, s6, s7, s8⟩; go_simp; with_reducible rfl) ?_; refine tk_ 3 45 (bl_ 28 1198383) rfl rfl HT_ HW_ hHeld (by rintro w' ⟨s0, s1, s2, s3, s4, s5, s6, s7, s8⟩; go_simp; with_reducible rfl) ?_; refine pu_ 4 46 (bl_ 28 1198399) rfl rfl HT_ ?_; refine tk_ 6 48 (bl_ 28 1198463) rfl rfl HT_ HW_ hHeld (by rintro w' ⟨s0, s1, s2, s3, s4, s5, s6, s7, s8⟩; go_simp; with_reducible rfl) ?_; refine pu_ 7 49 (bl_ 28 1198591) rfl rfl HT_ ?_; refine tk_ 9 51 (bl_ 28 1199103) rfl rfl HT_ HW_ hHeld (by rintro w' ⟨s0, s1, s2, s3, s4, s5, s6, s7, s8⟩; go_simp; with_reducible rfl) ?_; refine pu_ 10 52 (bl_ 28 1200127) rfl rfl HT_ ?_; refine tk_ 12 54 (bl_ 28 1204223) rfl rfl HT_ HW_ hHeld (by rintro w' ⟨s0, s1, s2, s3, s4, s5, s6, s7, s8⟩; go_simp; with_reducible rfl) ?_; refine pu_ 13 55 (bl_ 28 1212415) rfl rfl HT_ ?_; refine tk_ 15 57 (bl_ 28 1245183) rfl rfl HT_ HW_ hHeld (by rintro w' ⟨s0, s1, s2, s3, s4, s5, s6, s7, s8⟩; go_simp; with_reducible rfl) ?_; refine pu_ 16 58 (bl_ 28 1310719) rfl rfl HT_ ?_; refine tk_ 18 60 (bl_ 28 1572863) rfl rfl HT_ HW_ hHeld (by rintro w' ⟨s0, s1, s2, s3, s4, s5, s6, s7, s8⟩; go_simp; with_reducible rfl) ?_; refine pu_ 19 61 (bl_ 28 2097151) rfl rfl HT_ ?_; refine tk_ 21 63 (bl_ 28 4194303) rfl rfl HT_ HW_ hHeld (by rintro w' ⟨s0, s1, s2, s3, s4, s5, s6, s7, s8⟩; go_simp; with_reducible rfl) ?_; refine one_ (i := 22) (N := some 64) (bl_ 28 8388607) rfl rfl (one_of HT_.out (by kernel_rfl)) (by decide) (fun K hK => ?_); refine gs_ Try.func61 #[.int .i64 (Int.tmod (wrap64 ((wrap64 ((Int.tmod (wrap64 ((wrap64 (t281 * t281)) + a0_1)) a0_0) * t281)) + a0_2)) a0_0), .int .i64 a0_0] ?_
           with_reducible refine (impl_rootInt.calls k (Int.tmod (wrap64 ((wrap64 ((Int.tmod (wrap64 ((wrap64 (t281 * t281)) + a0_1)) a0_0) * t281)) + a0_2)) a0_0) a0_0 t282 true _ A37.out).mono ?_
           rintro e w' ⟨rfl, ⟨nd, rfl⟩⟩; refine ⟨_, rfl, ?_⟩; refine hK.out _ _ ⟨bc_ BK275 0, bc_ BK275 1, bc_ BK275 2, bc_ BK273 0, bc_ BK273 1, bc_ BK273 2, bc_ BK273 3, bc_ BK273 4, bc_ BK273 5⟩ (fun hHeld => ?_); clear hK K
           refine gw_ hHeld (fun w57 hq_ hHeld => ?_)
           have qBK273 : Aside0 (w57.heap[gb273]? = some (.cells #[.int .i64 a0_0, .int .i64 a0_1, .int .i64 a0_2, .int .i64 a0_3, .int .i64 a0_4, .int .i64 a0_5] 29 (0, 0))) := ⟨by rw [← hq_]; exact bk_ BK273⟩
           have qBK274 : Aside0 (w57.heap[gb274]? = some (.cells #[.int .i64 0, .int .i64 0, .bool false] 26 (0, 0))) := ⟨by rw [← hq_]; exact bk_ BK274⟩
           have qBK275 : Aside0 (w57.heap[gb275]? = some (.cells #[.int .i64 t281, .int .i64 0, .bool false] 26 (0, 0))) := ⟨by rw [← hq_]; exact bk_ BK275⟩
           have qHB : Aside0 (Below w.heap.size w w57) := ⟨by rw [← hq_]; exact bw_ HB⟩
           clear hq_ BK273 BK274 BK275 HB; have BK273 := qBK273; have BK274 := qBK274; have BK275 := qBK275; have HB := qHB; clear qBK273 qBK274 qBK275 qHB
           apply norm_
           · show Act.put _ (some 64) _ = _; simp only [Act.put, sA_, sZ_, sS_, i64_w, i32_w]; rfl
           refine pu_ 23 41 (bl_ 28 16777215) rfl rfl HT_ ?_; refine pu_ 24 65 (bl_ 28 33554431) rfl rfl HT_ ?_; refine pu_ 25 66 (bl_ 28 67108863) rfl rfl HT_ ?_; refine pu_ 26 7 (bl_ 28 134217727) rfl rfl HT_ ?_; refine pu_ 27 8 (bl_ 28 268435455) rfl rfl HT_ ?_; refine done_ (done_of HT_.out (by kernel_rfl)) ?_; obtain ⟨hcz58_0, hcz58_1, hcz58_2, hfz58_0, hfz58_1, hfz58_2⟩ := bx3_ BK275
           have p284 : 0 ≤ (0 : Int) := (by omega)
           have q284 : 0 < (l1.length : Int) := of_decide_eq_true (by first | (with_reducible assumption) | assumption)
           obtain ⟨ad284, e284, hx284_0⟩ := Kd.at_int HR1.out 0 p284 q284
           cases e284
           have qi284 : (0 < l1.length) = True := eq_true (by omega)
           (try rw [show ((0 : Int)).toNat = 0 from rfl] at hx284_0); (try rw [Addr.add_zero'] at hx284_0)
           have hn284_0 : ad284.block ≠ gb275 := Nat.ne_of_lt (Nat.lt_of_lt_of_le (by have := World.block_lt_of_cell? _ _ hx284_0; first | rwa [add_block] at this | exact this) GW275.out)
           replace hx284_0 := (HB.out.cell (World.block_lt_of_cell? w _ hx284_0)).trans hx284_0; replace hx284_0 := (cell_far (p := ⟨gb275, 1, none⟩) (by first | (rw [add_block]; exact hn284_0) | (show (Addr.add _ _).block ≠ _; rw [add_block]; exact hn284_0) | exact hn284_0) (.int .i64 t282)).trans hx284_0; clear hn284_0; replace p284 := eq_true p284; replace q284 := eq_true q284
           obtain ⟨hcz59_0, hcz59_1, hcz59_2, hcz59_3, hcz59_4, hcz59_5, hfz59_0, hfz59_1, hfz59_2, hfz59_3, hfz59_4, hfz59_5⟩ := bx6_ BK273
           try go_wp2
           go_meet
           case rel => exact ⟨_, (0), (0), (false), (t281), (Int.tmod (wrap64 (a0_0 - t282)) a0_0), (false), H', ⟨by first | omega | exact Nat.le_refl _⟩, ⟨bf_ BK273⟩, ⟨bf_ BK274⟩, ⟨bq_ BK275⟩, ⟨bw_ HB⟩⟩
         · rw [if_neg c39] at H; exact absurd H (by simp)
        ·
         replace c38 := Bool.eq_false_iff.mpr c38; subst c38
         rw [if_neg (show ¬ (false = true) by decide)] at H
         simp only [Option.some.injEq, Prod.mk.injEq] at H
         obtain ⟨rfl, rfl, rfl, rfl⟩ := H; obtain ⟨i060, hi060, _, hsz60, _⟩ := info_parts info5; obtain ⟨A60, hcut60, hA60, hC60⟩ := print_drop_of (P := Try.prog) (Value.int .u8) 0 34 5 .i64 Try.underlying34 hi060 hsz60 A1 c1 l1 1 (by omega) (of_decide_eq_true (by first | (with_reducible assumption) | assumption)) HC1.out; have HR280 := Aside0.mk (Kd.C_of_reads (h1 := fun _ => rfl) (hA60 _ (Kd.reads_of_C HR1.out))); have HC280 := Aside0.mk hC60; clear hA60 hC60 hi060 hsz60
         try go_wp2_with (first | ((with_reducible refine gate_callee (f := 60) rfl ?_); refine goesL_ (some 33) rfl rfl Try.func60 (by kernel_rfl) rfl #[.slice A60 (l1.drop 1).length (c1 - 1)] rfl (by (try simp only [List.map_toArray, List.map_cons, List.map_nil]); first | done | (rw [show (l1.drop 1).length = (l1.length - 1) from List.length_drop] <;> rfl) | rfl | (simp only [List.length_drop, List.length_take]; rfl)) ?_; (with_reducible refine (impl_ofThree.calls _ _ (l1.drop 1) t281 _ ?side1 ?side2 A27.out).mono ?_); (case side1 => exact Kd.C_below HR280.out (bw_ HB)); (case side2 => exact HC280.out); rintro e w' ⟨rfl, ⟨nd, rfl⟩⟩; refine ⟨_, rfl, ?_⟩; obtain ⟨hnb61, hnc61⟩ := nn_ NB275_273; obtain ⟨hnb62, hnc62⟩ := nn_ NB275_274; obtain ⟨hcz63_0, hcz63_1, hcz63_2, hfz63_0, hfz63_1, hfz63_2⟩ := bx3_ BK275; obtain ⟨hnb64, hnc64⟩ := nn_ NB273_274; obtain ⟨hcz65_0, hcz65_1, hcz65_2, hcz65_3, hcz65_4, hcz65_5, hfz65_0, hfz65_1, hfz65_2, hfz65_3, hfz65_4, hfz65_5⟩ := bx6_ BK273))
         refine gwR_ (fun w66 hq_ => ?_)
         have n0_ : Aside0 (w66.heap[gb273]? = some (.cells #[.int .i64 a0_0, .int .i64 a0_1, .int .i64 a0_2, .int .i64 a0_3, .int .i64 a0_4, .int .i64 a0_5] 29 (0, 0))) := ⟨by rw [← hq_]; exact bq_ BK273⟩
         have n1_ : Aside0 (w66.heap[gb274]? = some (.cells #[.int .i64 0, .int .i64 0, .bool false] 26 (0, 0))) := ⟨by rw [← hq_]; exact bq_ BK274⟩
         have n2_ : Aside0 (w66.heap[gb275]? = some (.cells #[.int .i64 t281, .int .i64 0, .bool false] 26 (0, 0))) := ⟨by rw [← hq_]; exact bq_ BK275⟩
         have n3_ : Aside0 (Below w.heap.size w w66) := ⟨by rw [← hq_]; exact (bw_ HB)⟩
         (try clear BK273); (try clear BK274); (try clear BK275); (try clear HB)
         clear hq_; have BK273 := n0_; have BK274 := n1_; have BK275 := n2_; have HB := n3_; clear n0_ n1_ n2_ n3_; (try (rw [drewN_self w66]; generalize hq_ : World.drewN w66 _ = w66; have n0_ : Aside0 (w66.heap[gb273]? = some (.cells #[.int .i64 a0_0, .int .i64 a0_1, .int .i64 a0_2, .int .i64 a0_3, .int .i64 a0_4, .int .i64 a0_5] 29 (0, 0))) := ⟨by rw [← hq_]; exact (bk_ BK273)⟩; have n1_ : Aside0 (w66.heap[gb274]? = some (.cells #[.int .i64 0, .int .i64 0, .bool false] 26 (0, 0))) := ⟨by rw [← hq_]; exact (bk_ BK274)⟩; have n2_ : Aside0 (w66.heap[gb275]? = some (.cells #[.int .i64 t281, .int .i64 0, .bool false] 26 (0, 0))) := ⟨by rw [← hq_]; exact (bk_ BK275)⟩; have n3_ : Aside0 (Below w.heap.size w w66) := ⟨by rw [← hq_]; exact (bw_ HB)⟩; clear BK273 BK274 BK275 HB hq_; have BK273 := n0_; have BK274 := n1_; have BK275 := n2_; have HB := n3_; clear n0_ n1_ n2_ n3_; obtain ⟨hcy273_0, hcy273_1, hcy273_2, hcy273_3, hcy273_4, hcy273_5⟩ := by6_ BK273; obtain ⟨hcy274_0, hcy274_1, hcy274_2⟩ := by3_ BK274; obtain ⟨hcy275_0, hcy275_1, hcy275_2⟩ := by3_ BK275)); replace BK273 := Aside0.mk (blk_drew BK273.out); replace BK274 := Aside0.mk (blk_drew BK274.out); replace BK275 := Aside0.mk (blk_drew BK275.out); replace HB := Aside0.mk (below_drew1 HB.out); refine start_ (n := 28) (S := fun w' => w'.cell? ⟨gb275, 0, none⟩ = some (.int .i64 t281) ∧ w'.cell? ⟨gb275, 1, none⟩ = some (.int .i64 0) ∧ w'.cell? ⟨gb275, 2, none⟩ = some (.bool false) ∧ w'.cell? ⟨gb273, 0, none⟩ = some (.int .i64 a0_0) ∧ w'.cell? ⟨gb273, 1, none⟩ = some (.int .i64 a0_1) ∧ w'.cell? ⟨gb273, 2, none⟩ = some (.int .i64 a0_2) ∧ w'.cell? ⟨gb273, 3, none⟩ = some (.int .i64 a0_3) ∧ w'.cell? ⟨gb273, 4, none⟩ = some (.int .i64 a0_4) ∧ w'.cell? ⟨gb273, 5, none⟩ = some (.int .i64 a0_5)) (ds := []) (bl_ 28 0) (by kernel_rfl) rfl rfl ⟨bc_ BK275 0, bc_ BK275 1, bc_ BK275 2, bc_ BK273 0, bc_ BK273 1, bc_ BK273 2, bc_ BK273 3, bc_ BK273 4, bc_ BK273 5⟩ (fun hHeld => ?_); refine with_tabW impl_Curve_pointRead.tab10 impl_Curve_pointRead.bits10 (fun HT_ HW_ => ?_)
         generalize w66.drew = w67 at BK273 BK274 BK275 HB hHeld ⊢
         refine pu_ 0 42 (bl_ 28 1) rfl rfl HT_ ?_; refine pu_ 2 44 (bl_ 28 5) rfl rfl HT_ ?_; refine pu_ 5 47 (bl_ 28 37) rfl rfl HT_ ?_; refine pu_ 8 50 (bl_ 28 293) rfl rfl HT_ ?_; refine pu_ 11 53 (bl_ 28 2341) rfl rfl HT_ ?_; refine pu_ 14 56 (bl_ 28 18725) rfl rfl HT_ ?_; refine pu_ 17 59 (bl_ 28 149797) rfl rfl HT_ ?_; refine pu_ 20 62 (bl_ 28 1198373) rfl rfl HT_ ?_; refine tk_ 1 43 (bl_ 28 1198375) rfl rfl HT_ HW_ hHeld (by rintro w' ⟨s0, s1, s2, s3, s4, s5, s6, s7, s8⟩; go_simp; with_reducible rfl) ?_; refine tk_ 3 45 (bl_ 28 1198383) rfl rfl HT_ HW_ hHeld (by rintro w' ⟨s0, s1, s2, s3, s4, s5, s6, s7, s8⟩; go_simp; with_reducible rfl) ?_; refine pu_ 4 46 (bl_ 28 1198399) rfl rfl HT_ ?_; refine tk_ 6 48 (bl_ 28 1198463) rfl rfl HT_ HW_ hHeld (by rintro w' ⟨s0, s1, s2, s3, s4, s5, s6, s7, s8⟩; go_simp; with_reducible rfl) ?_; refine pu_ 7 49 (bl_ 28 1198591) rfl rfl HT_ ?_; refine tk_ 9 51 (bl_ 28 1199103) rfl rfl HT_ HW_ hHeld (by rintro w' ⟨s0, s1, s2, s3, s4, s5, s6, s7, s8⟩; go_simp; with_reducible rfl) ?_; refine pu_ 10 52 (bl_ 28 1200127) rfl rfl HT_ ?_; refine tk_ 12 54 (bl_ 28 1204223) rfl rfl HT_ HW_ hHeld (by rintro w' ⟨s0, s1, s2, s3, s4, s5, s6, s7, s8⟩; go_simp; with_reducible rfl) ?_; refine pu_ 13 55 (bl_ 28 1212415) rfl rfl HT_ ?_; refine tk_ 15 57 (bl_ 28 1245183) rfl rfl HT_ HW_ hHeld (by rintro w' ⟨s0, s1, s2, s3, s4, s5, s6, s7, s8⟩; go_simp; with_reducible rfl) ?_; refine pu_ 16 58 (bl_ 28 1310719) rfl rfl HT_ ?_; refine tk_ 18 60 (bl_ 28 1572863) rfl rfl HT_ HW_ hHeld (by rintro w' ⟨s0, s1, s2, s3, s4, s5, s6, s7, s8⟩; go_simp; with_reducible rfl) ?_; refine pu_ 19 61 (bl_ 28 2097151) rfl rfl HT_ ?_; refine tk_ 21 63 (bl_ 28 4194303) rfl rfl HT_ HW_ hHeld (by rintro w' ⟨s0, s1, s2, s3, s4, s5, s6, s7, s8⟩; go_simp; with_reducible rfl) ?_; refine one_ (i := 22) (N := some 64) (bl_ 28 8388607) rfl rfl (one_of HT_.out (by kernel_rfl)) (by decide) (fun K hK => ?_); refine gs_ Try.func61 #[.int .i64 (Int.tmod (wrap64 ((wrap64 ((Int.tmod (wrap64 ((wrap64 (t281 * t281)) + a0_1)) a0_0) * t281)) + a0_2)) a0_0), .int .i64 a0_0] ?_
         with_reducible refine (impl_rootInt.calls k (Int.tmod (wrap64 ((wrap64 ((Int.tmod (wrap64 ((wrap64 (t281 * t281)) + a0_1)) a0_0) * t281)) + a0_2)) a0_0) a0_0 t282 false _ A37.out).mono ?_
         rintro e w' ⟨rfl, ⟨nd, rfl⟩⟩; refine ⟨_, rfl, ?_⟩; refine hK.out _ _ ⟨bc_ BK275 0, bc_ BK275 1, bc_ BK275 2, bc_ BK273 0, bc_ BK273 1, bc_ BK273 2, bc_ BK273 3, bc_ BK273 4, bc_ BK273 5⟩ (fun hHeld => ?_); clear hK K
         apply norm_
         · show Act.put _ (some 64) _ = _; simp only [Act.put, sA_, sZ_, sS_, i64_w, i32_w]; rfl
         refine pu_ 23 41 (bl_ 28 16777215) rfl rfl HT_ ?_; refine pu_ 24 65 (bl_ 28 33554431) rfl rfl HT_ ?_; refine pu_ 25 66 (bl_ 28 67108863) rfl rfl HT_ ?_; refine pu_ 26 7 (bl_ 28 134217727) rfl rfl HT_ ?_; refine pu_ 27 8 (bl_ 28 268435455) rfl rfl HT_ ?_; refine done_ (done_of HT_.out (by kernel_rfl)) ?_; obtain ⟨hcz68_0, hcz68_1, hcz68_2, hfz68_0, hfz68_1, hfz68_2⟩ := bx3_ BK274
         try go_wp2
         refine bodyPost_ret (results_ct rfl _ _ gb274 26 #[.int .i64 0, .int .i64 0, .bool false] (0, 0) _ rfl (bq_ BK274) Try.underlying26 rfl (by kernel_rfl)) rfl ?_; exact ⟨by first | rfl | (simp [errW_none, errW_some] <;> rfl) | (simp [*, errW_none, errW_some] <;> rfl), by repeat (first | (with_reducible first | exact HB.out | apply below_alloc | apply pw_below_drewN | apply below_drew1 | refine below_set ?_ GE273.out | refine below_set ?_ GE274.out | refine below_set ?_ GE275.out) | exact HB.out)⟩
     · rw [if_neg c26] at H; exact absurd H (by simp)
    ·
     rw [if_neg c25] at H
     have c25b0 : ((l1.length : Int) == 4) = false := beq_eq_false_iff_ne.mpr c25
     have c25b1 : ((l1.length : Int) != 4) = true := bne_iff_ne.mpr c25
     have H' := Aside0.mk H
     clear H
     go_wp2
     go_meet
     case rel => exact ⟨_, (0), (0), (false), (0), (0), (false), H', ⟨by first | omega | exact Nat.le_refl _⟩, ⟨bf_ BK273⟩, ⟨bf_ BK274⟩, ⟨bq_ BK275⟩, ⟨bw_ HB⟩⟩
 case rest =>
  clear HC3
  try clear c1
  try clear c2
  try clear p2
  try clear q2
  try clear hx2
  try clear qi2
  try clear c3
  try clear c4
  try clear c5
  try clear c6
  try clear p6
  try clear c25
  try clear c25b0
  try clear c25b1
  try clear c26
  try clear p28
  try clear q28
  try clear hx28
  try clear qi28
  try clear c38
  try clear c39
  try clear c40
  try clear c40b0
  try clear c40b1
  try clear c51
  try clear c52
  try clear c54
  try clear c60
  try clear c61
  try clear c62
  try clear c64
  try clear p64
  try clear hcz53_0 hcz53_1 hcz53_2
  try clear hcz55_0 hcz55_1 hcz55_2 hcz55_3 hcz55_4 hcz55_5
  try clear hcz58_0 hcz58_1 hcz58_2
  try clear hcz59_0 hcz59_1 hcz59_2 hcz59_3 hcz59_4 hcz59_5
  try clear hcz63_0 hcz63_1 hcz63_2
  try clear hcz65_0 hcz65_1 hcz65_2 hcz65_3 hcz65_4 hcz65_5
  try clear hcz68_0 hcz68_1 hcz68_2
  try clear hfz53_0 hfz53_1 hfz53_2
  try clear hfz55_0 hfz55_1 hfz55_2 hfz55_3 hfz55_4 hfz55_5
  try clear hfz58_0 hfz58_1 hfz58_2
  try clear hfz59_0 hfz59_1 hfz59_2 hfz59_3 hfz59_4 hfz59_5
  try clear hfz63_0 hfz63_1 hfz63_2
  try clear hfz65_0 hfz65_1 hfz65_2 hfz65_3 hfz65_4 hfz65_5
  try clear hfz68_0 hfz68_1 hfz68_2
  try clear hx284_0
  try clear p284
  try clear q284
  obtain ⟨kq, x275000_2, x275001_2, x275002_2, x276000_2, x276001_2, x276002_2, HA, HJ2, BK273, BK274, BK275, HB⟩ := hcut
  cases kq with
  | zero => exact absurd HA.out (by simp [impl_Curve_pointRead.j0])
  | succ kj2 =>
   have H := HA.out; clear HA
   simp only [impl_Curve_pointRead.j0] at H
   obtain ⟨t285, A690, H⟩ := pb_ H; have A69 := Aside0.mk A690; clear A690
   by_cases c70 : t285 = true
   ·
    subst c70
    rw [if_pos rfl] at H; obtain ⟨t286, A710, H⟩ := pb_ H
    have A71 := Aside0.mk A710; clear A710; obtain ⟨t289, A720, H⟩ := pb_ H
    have A72 := Aside0.mk A720; clear A720
    by_cases c73 : t289 = true
    ·
     subst c73; rw [if_pos rfl] at H
     simp only [Option.some.injEq, Prod.mk.injEq] at H
     obtain ⟨rfl, rfl, rfl, rfl⟩ := H; obtain ⟨hnb74, hnc74⟩ := nn_ NB273_274; obtain ⟨hnb75, hnc75⟩ := nn_ NB273_275
     obtain ⟨hcz76_0, hcz76_1, hcz76_2, hcz76_3, hcz76_4, hcz76_5, hfz76_0, hfz76_1, hfz76_2, hfz76_3, hfz76_4, hfz76_5⟩ := bx6_ BK273; obtain ⟨hnb77, hnc77⟩ := nn_ NB275_274
     obtain ⟨hcz78_0, hcz78_1, hcz78_2, hfz78_0, hfz78_1, hfz78_2⟩ := bx3_ BK275
     go_wp2_with (first | ((with_reducible refine gate_callee (f := 32) rfl ?_); refine gl_ 90 rfl rfl Try.func32 #[.agg #[.int .i64 a0_0, .int .i64 a0_1, .int .i64 a0_2, .int .i64 a0_3, .int .i64 a0_4, .int .i64 a0_5], .agg #[.int .i64 x276000_2, .int .i64 x276001_2, .bool x276002_2]] rfl ?_; (with_reducible refine (impl_Curve_isPoint.calls a0_0 a0_1 a0_2 a0_3 a0_4 a0_5 x276000_2 x276001_2 x276002_2 true _ A69.out).mono ?_); rintro e w79 ⟨rfl, hb⟩; refine ⟨_, rfl, ?_⟩; replace BK273 := bb_ BK273 hb; replace BK274 := bb_ BK274 hb; replace BK275 := bb_ BK275 hb; replace HB := bs_ HB hb; (try clear hb); (try clear hb2); (try clear hk); (try clear hi); have hcz80_0 : w79.cell? ⟨gb275, 0, none⟩ = some (.int .i64 x276000_2) := bc_ BK275 0; have hcz80_1 : w79.cell? ⟨gb275, 1, none⟩ = some (.int .i64 x276001_2) := bc_ BK275 1; have hcz80_2 : w79.cell? ⟨gb275, 2, none⟩ = some (.bool x276002_2) := bc_ BK275 2; have hfz80_0 := blk_frozen BK275.out 0; have hfz80_1 := blk_frozen BK275.out 1; have hfz80_2 := blk_frozen BK275.out 2) | (go_at_call 35; (with_reducible refine (impl_pointBytes.calls x276000_2 x276001_2 x276002_2 ((l1.length : Int) == 4) t286 _ A71.out).mono ?_); rintro e w81 ⟨v287, rfl, ho0, hb⟩; have HO288 := Aside0.mk (Kd.R_lower ho0 (below_size (bw_ HB))); replace BK273 := bb_ BK273 hb; replace BK274 := bb_ BK274 hb; replace BK275 := bb_ BK275 hb; replace HB := bs_ HB hb; (try clear hb); (try clear hb2); (try clear hk); (try clear hi); (try clear ho0); obtain ⟨Ao82, co82, eo82⟩ := Kd.R_slice HO288.out; subst eo82) | (go_at_call 62; (with_reducible refine (bytes_Equal.calls _ _ t286 _ _ l1 true _ ?side1 ?side2 ?side3 ?side4 A72.out).mono ?_); (case side1 => repeat (first | exact (Kd.R_reads' HO288.out).2.2 | (with_reducible refine Kd.C_alloc ?_ _) | (with_reducible refine Kd.C_drewN ?_ _) | (with_reducible refine Kd.C_drew ?_))); (case side2 => exact (Kd.R_reads' HO288.out).2.1); (case side3 => repeat (first | exact (Kd.C_below HR1.out HB.out) | (with_reducible refine Kd.C_alloc ?_ _) | (with_reducible refine Kd.C_drewN ?_ _) | (with_reducible refine Kd.C_drew ?_))); (case side4 => exact HC1.out); rintro e w' ⟨rfl, ⟨nd, rfl⟩⟩; (try (rw [drewN_self w81]; generalize hq_ : World.drewN w81 _ = w81; have n0_ : Aside0 (Kd.R (Kd.int .u8) 5 w81 w.heap.size (fun _ => True) (.slice Ao82 t286.length co82) t286) := ⟨by rw [← hq_]; exact (by (with_reducible repeat (first | apply Kd.R_alloc | apply Kd.R_drewN | apply Kd.R_drew)); exact HO288.out)⟩; have n1_ : Aside0 (w81.heap[gb273]? = some (.cells #[.int .i64 a0_0, .int .i64 a0_1, .int .i64 a0_2, .int .i64 a0_3, .int .i64 a0_4, .int .i64 a0_5] 29 (0, 0))) := ⟨by rw [← hq_]; exact (bk_ BK273)⟩; have n2_ : Aside0 (w81.heap[gb274]? = some (.cells #[.int .i64 x275000_2, .int .i64 x275001_2, .bool x275002_2] 26 (0, 0))) := ⟨by rw [← hq_]; exact (bk_ BK274)⟩; have n3_ : Aside0 (w81.heap[gb275]? = some (.cells #[.int .i64 x276000_2, .int .i64 x276001_2, .bool x276002_2] 26 (0, 0))) := ⟨by rw [← hq_]; exact (bk_ BK275)⟩; have n4_ : Aside0 (Below w.heap.size w w81) := ⟨by rw [← hq_]; exact (bw_ HB)⟩; clear HO288 BK273 BK274 BK275 HB hq_; have HO288 := n0_; have BK273 := n1_; have BK274 := n2_; have BK275 := n3_; have HB := n4_; clear n0_ n1_ n2_ n3_ n4_; obtain ⟨hcy273_0, hcy273_1, hcy273_2, hcy273_3, hcy273_4, hcy273_5⟩ := by6_ BK273; obtain ⟨hcy274_0, hcy274_1, hcy274_2⟩ := by3_ BK274; obtain ⟨hcy275_0, hcy275_1, hcy275_2⟩ := by3_ BK275)); obtain ⟨hcz83_0, hcz83_1, hcz83_2, hfz83_0, hfz83_1, hfz83_2⟩ := bx3_ BK275; obtain ⟨hcz84_0, hcz84_1, hcz84_2, hfz84_0, hfz84_1, hfz84_2⟩ := bx3_ BK274))
     refine bodyPost_ret (results_ct rfl _ _ gb274 26 #[.int .i64 x276000_2, .int .i64 x276001_2, .bool x276002_2] (0, 0) _ rfl (bq_ BK274) Try.underlying26 rfl (by kernel_rfl)) rfl ?_; exact ⟨by first | rfl | (simp [errW_none, errW_some] <;> rfl) | (simp [*, errW_none, errW_some] <;> rfl), by repeat (first | (with_reducible first | exact HB.out | apply below_alloc | apply pw_below_drewN | apply below_drew1 | refine below_set ?_ GE273.out | refine below_set ?_ GE274.out | refine below_set ?_ GE275.out) | exact HB.out)⟩
    ·
     replace c73 := Bool.eq_false_iff.mpr c73; subst c73
     rw [if_neg (show ¬ (false = true) by decide)] at H
     simp only [Option.some.injEq, Prod.mk.injEq] at H
     obtain ⟨rfl, rfl, rfl, rfl⟩ := H; obtain ⟨hnb85, hnc85⟩ := nn_ NB273_274; obtain ⟨hnb86, hnc86⟩ := nn_ NB273_275
     obtain ⟨hcz87_0, hcz87_1, hcz87_2, hcz87_3, hcz87_4, hcz87_5, hfz87_0, hfz87_1, hfz87_2, hfz87_3, hfz87_4, hfz87_5⟩ := bx6_ BK273; obtain ⟨hnb88, hnc88⟩ := nn_ NB275_274
     obtain ⟨hcz89_0, hcz89_1, hcz89_2, hfz89_0, hfz89_1, hfz89_2⟩ := bx3_ BK275
     go_wp2_with (first | ((with_reducible refine gate_callee (f := 32) rfl ?_); refine gl_ 90 rfl rfl Try.func32 #[.agg #[.int .i64 a0_0, .int .i64 a0_1, .int .i64 a0_2, .int .i64 a0_3, .int .i64 a0_4, .int .i64 a0_5], .agg #[.int .i64 x276000_2, .int .i64 x276001_2, .bool x276002_2]] rfl ?_; (with_reducible refine (impl_Curve_isPoint.calls a0_0 a0_1 a0_2 a0_3 a0_4 a0_5 x276000_2 x276001_2 x276002_2 true _ A69.out).mono ?_); rintro e w90 ⟨rfl, hb⟩; refine ⟨_, rfl, ?_⟩; replace BK273 := bb_ BK273 hb; replace BK274 := bb_ BK274 hb; replace BK275 := bb_ BK275 hb; replace HB := bs_ HB hb; (try clear hb); (try clear hb2); (try clear hk); (try clear hi); have hcz91_0 : w90.cell? ⟨gb275, 0, none⟩ = some (.int .i64 x276000_2) := bc_ BK275 0; have hcz91_1 : w90.cell? ⟨gb275, 1, none⟩ = some (.int .i64 x276001_2) := bc_ BK275 1; have hcz91_2 : w90.cell? ⟨gb275, 2, none⟩ = some (.bool x276002_2) := bc_ BK275 2; have hfz91_0 := blk_frozen BK275.out 0; have hfz91_1 := blk_frozen BK275.out 1; have hfz91_2 := blk_frozen BK275.out 2) | (go_at_call 35; (with_reducible refine (impl_pointBytes.calls x276000_2 x276001_2 x276002_2 ((l1.length : Int) == 4) t286 _ A71.out).mono ?_); rintro e w92 ⟨v287, rfl, ho0, hb⟩; have HO288 := Aside0.mk (Kd.R_lower ho0 (below_size (bw_ HB))); replace BK273 := bb_ BK273 hb; replace BK274 := bb_ BK274 hb; replace BK275 := bb_ BK275 hb; replace HB := bs_ HB hb; (try clear hb); (try clear hb2); (try clear hk); (try clear hi); (try clear ho0); obtain ⟨Ao93, co93, eo93⟩ := Kd.R_slice HO288.out; subst eo93) | (go_at_call 62; (with_reducible refine (bytes_Equal.calls _ _ t286 _ _ l1 false _ ?side1 ?side2 ?side3 ?side4 A72.out).mono ?_); (case side1 => repeat (first | exact (Kd.R_reads' HO288.out).2.2 | (with_reducible refine Kd.C_alloc ?_ _) | (with_reducible refine Kd.C_drewN ?_ _) | (with_reducible refine Kd.C_drew ?_))); (case side2 => exact (Kd.R_reads' HO288.out).2.1); (case side3 => repeat (first | exact (Kd.C_below HR1.out HB.out) | (with_reducible refine Kd.C_alloc ?_ _) | (with_reducible refine Kd.C_drewN ?_ _) | (with_reducible refine Kd.C_drew ?_))); (case side4 => exact HC1.out); rintro e w' ⟨rfl, ⟨nd, rfl⟩⟩; (try (rw [drewN_self w92]; generalize hq_ : World.drewN w92 _ = w92; have n0_ : Aside0 (Kd.R (Kd.int .u8) 5 w92 w.heap.size (fun _ => True) (.slice Ao93 t286.length co93) t286) := ⟨by rw [← hq_]; exact (by (with_reducible repeat (first | apply Kd.R_alloc | apply Kd.R_drewN | apply Kd.R_drew)); exact HO288.out)⟩; have n1_ : Aside0 (w92.heap[gb273]? = some (.cells #[.int .i64 a0_0, .int .i64 a0_1, .int .i64 a0_2, .int .i64 a0_3, .int .i64 a0_4, .int .i64 a0_5] 29 (0, 0))) := ⟨by rw [← hq_]; exact (bk_ BK273)⟩; have n2_ : Aside0 (w92.heap[gb274]? = some (.cells #[.int .i64 x275000_2, .int .i64 x275001_2, .bool x275002_2] 26 (0, 0))) := ⟨by rw [← hq_]; exact (bk_ BK274)⟩; have n3_ : Aside0 (w92.heap[gb275]? = some (.cells #[.int .i64 x276000_2, .int .i64 x276001_2, .bool x276002_2] 26 (0, 0))) := ⟨by rw [← hq_]; exact (bk_ BK275)⟩; have n4_ : Aside0 (Below w.heap.size w w92) := ⟨by rw [← hq_]; exact (bw_ HB)⟩; clear HO288 BK273 BK274 BK275 HB hq_; have HO288 := n0_; have BK273 := n1_; have BK274 := n2_; have BK275 := n3_; have HB := n4_; clear n0_ n1_ n2_ n3_ n4_; obtain ⟨hcy273_0, hcy273_1, hcy273_2, hcy273_3, hcy273_4, hcy273_5⟩ := by6_ BK273; obtain ⟨hcy274_0, hcy274_1, hcy274_2⟩ := by3_ BK274; obtain ⟨hcy275_0, hcy275_1, hcy275_2⟩ := by3_ BK275)); obtain ⟨hcz94_0, hcz94_1, hcz94_2, hfz94_0, hfz94_1, hfz94_2⟩ := bx3_ BK274))
     refine bodyPost_ret (results_ct rfl _ _ gb274 26 #[.int .i64 0, .int .i64 0, .bool false] (0, 0) _ rfl (bq_ BK274) Try.underlying26 rfl (by kernel_rfl)) rfl ?_; exact ⟨by first | rfl | (simp [errW_none, errW_some] <;> rfl) | (simp [*, errW_none, errW_some] <;> rfl), by repeat (first | (with_reducible first | exact HB.out | apply below_alloc | apply pw_below_drewN | apply below_drew1 | refine below_set ?_ GE273.out | refine below_set ?_ GE274.out | refine below_set ?_ GE275.out) | exact HB.out)⟩
   ·
    replace c70 := Bool.eq_false_iff.mpr c70; subst c70
    rw [if_neg (show ¬ (false = true) by decide)] at H
    simp only [Option.some.injEq, Prod.mk.injEq] at H
    obtain ⟨rfl, rfl, rfl, rfl⟩ := H; obtain ⟨hnb95, hnc95⟩ := nn_ NB273_274; obtain ⟨hnb96, hnc96⟩ := nn_ NB273_275
    obtain ⟨hcz97_0, hcz97_1, hcz97_2, hcz97_3, hcz97_4, hcz97_5, hfz97_0, hfz97_1, hfz97_2, hfz97_3, hfz97_4, hfz97_5⟩ := bx6_ BK273; obtain ⟨hnb98, hnc98⟩ := nn_ NB275_274
    obtain ⟨hcz99_0, hcz99_1, hcz99_2, hfz99_0, hfz99_1, hfz99_2⟩ := bx3_ BK275
    go_wp2_with (first | ((with_reducible refine gate_callee (f := 32) rfl ?_); refine gl_ 90 rfl rfl Try.func32 #[.agg #[.int .i64 a0_0, .int .i64 a0_1, .int .i64 a0_2, .int .i64 a0_3, .int .i64 a0_4, .int .i64 a0_5], .agg #[.int .i64 x276000_2, .int .i64 x276001_2, .bool x276002_2]] rfl ?_; (with_reducible refine (impl_Curve_isPoint.calls a0_0 a0_1 a0_2 a0_3 a0_4 a0_5 x276000_2 x276001_2 x276002_2 false _ A69.out).mono ?_); rintro e w100 ⟨rfl, hb⟩; refine ⟨_, rfl, ?_⟩; replace BK273 := bb_ BK273 hb; replace BK274 := bb_ BK274 hb; replace BK275 := bb_ BK275 hb; replace HB := bs_ HB hb; (try clear hb); (try clear hb2); (try clear hk); (try clear hi); obtain ⟨hcz101_0, hcz101_1, hcz101_2, hfz101_0, hfz101_1, hfz101_2⟩ := bx3_ BK274))
    refine bodyPost_ret (results_ct rfl _ _ gb274 26 #[.int .i64 0, .int .i64 0, .bool false] (0, 0) _ rfl (bq_ BK274) Try.underlying26 rfl (by kernel_rfl)) rfl ?_; exact ⟨by first | rfl | (simp [errW_none, errW_some] <;> rfl) | (simp [*, errW_none, errW_some] <;> rfl), by repeat (first | (with_reducible first | exact HB.out | apply below_alloc | apply pw_below_drewN | apply below_drew1 | refine below_set ?_ GE273.out | refine below_set ?_ GE274.out | refine below_set ?_ GE275.out) | exact HB.out)⟩

attribute [local go_sem] fld_
/-! ### impl_PointRead: function 20 -/
def impl_PointRead.f (k : Nat) (a0_0 : Int) (a0_1 : Int) (a0_2 : Int) (a0_3 : Int) (a0_4 : Int) (a0_5 : Int) (l1 : List Int) : Option (Int × Int × Bool × Bool) := (impl_CurveOk.f k a0_0 a0_1 a0_2 a0_3 a0_4 a0_5).bind fun t292 => (if t292 = true then ((impl_Curve_pointRead.f k a0_0 a0_1 a0_2 a0_3 a0_4 a0_5 l1).bind fun bt293 => (some (bt293.1, bt293.2.1, bt293.2.2.1, bt293.2.2.2))) else (some (0, 0, false, false)))
theorem impl_PointRead.mono : ∀ a0 a1 a2 a3 a4 a5 a6 k, LeO (impl_PointRead.f k a0 a1 a2 a3 a4 a5 a6) (impl_PointRead.f (k + 1) a0 a1 a2 a3 a4 a5 a6) := by
 intro a0 a1 a2 a3 a4 a5 a6 k
 unfold impl_PointRead.f
 repeat' first
   | (with_reducible exact impl_CurveOk.mono _ _ _ _ _ _ _)
   | (with_reducible exact impl_Curve_pointRead.mono _ _ _ _ _ _ _ _)
   | (with_reducible exact LeO.refl _)
   | (with_reducible exact LeO.none _)
   | (with_reducible refine LeO.ite ?_ ?_)
   | (with_reducible refine LeO.bind ?_ (fun _ => ?_))
   | exact impl_CurveOk.mono _ _ _ _ _ _ _
   | exact impl_Curve_pointRead.mono _ _ _ _ _ _ _ _
   | exact LeO.none _
   | refine LeO.ite ?_ ?_
   | refine LeO.bind ?_ (fun _ => ?_)
set_option maxHeartbeats 8000000 in
set_option maxRecDepth 100000 in
theorem impl_PointRead.calls (k : Nat) (a0_0 : Int) (a0_1 : Int) (a0_2 : Int) (a0_3 : Int) (a0_4 : Int) (a0_5 : Int) (A1 : Option Addr) (c1 : Nat) (l1 : List Int) (r1 : Int) (r2 : Int) (r3 : Bool) (r4 : Bool) (w : World) (hr1 : Kd.C (Kd.int .u8) w A1 l1.length l1) (hc1 : l1.length ≤ c1) (h : impl_PointRead.f k a0_0 a0_1 a0_2 a0_3 a0_4 a0_5 l1 = some (r1, r2, r3, r4)) :
  Calls Try.prog 20 #[.agg #[.int .i64 a0_0, .int .i64 a0_1, .int .i64 a0_2, .int .i64 a0_3, .int .i64 a0_4, .int .i64 a0_5], .slice A1 l1.length c1] w fun e w' => e = .returned (.tuple #[.agg #[.int .i64 r1, .int .i64 r2, .bool r3], .bool r4]) ∧ Below w.heap.size w w' := by
 have hu29 := Try.underlying29; have hu26 := Try.underlying26; have HR1 := Aside0.mk hr1; have HC1 := Aside0.mk hc1; clear hr1 hc1; have HB := Aside0.mk (Below.refl w.heap.size w)
 have H : ((impl_CurveOk.f k a0_0 a0_1 a0_2 a0_3 a0_4 a0_5).bind fun t292 => (if t292 = true then ((impl_Curve_pointRead.f k a0_0 a0_1 a0_2 a0_3 a0_4 a0_5 l1).bind fun bt293 => (some (bt293.1, bt293.2.1, bt293.2.2.1, bt293.2.2.2))) else (some (0, 0, false, false)))) = some (r1, r2, r3, r4) := h
 clear h; obtain ⟨t292, A30, H⟩ := pb_ H
 have A3 := Aside0.mk A30; clear A30
 by_cases c4 : t292 = true
 ·
  subst c4
  rw [if_pos rfl] at H; obtain ⟨⟨t293, t294, t295, t296⟩, A50, H⟩ := pb_ H
  have A5 := Aside0.mk A50; clear A50
  simp only [Option.some.injEq, Prod.mk.injEq] at H
  obtain ⟨rfl, rfl, rfl, rfl⟩ := H
  go_enter Try.func20, Try.ntmps20
  go_wp2_with (first | ((with_reducible refine gate_dst (N := 2) rfl ?_); refine box_event ?hg (N := 2) ?hd (cs := #[.int .i64 a0_0, .int .i64 a0_1, .int .i64 a0_2, .int .i64 a0_3, .int .i64 a0_4, .int .i64 a0_5]) (t := 29) ?hr ?_; (case hd => rfl); (case hg => rfl); (case hr => first | (go_simp; done) | (go_simp; rfl)); intro gb290 hg w6 hbox hb; have BK290 := Aside0.mk hbox; have GW290 := ge_ HB hg; have GE290 := ge_ HB hg; replace HB := bs_ HB hb; clear hb hbox hg) | ((with_reducible refine gate_dst (N := 4) rfl ?_); refine box_event ?hg (N := 4) ?hd (cs := #[.int .i64 0, .int .i64 0, .bool false]) (t := 26) ?hr ?_; (case hd => rfl); (case hg => rfl); (case hr => first | (go_simp; done) | (go_simp; rfl)); intro gb291 hg w7 hbox hb; have BK291 := Aside0.mk hbox; have GW291 := ge_ HB hg; have GE291 := ge_ HB hg; have NB290_291 := nl_ BK290 hg; have NB291_290 := nr_ BK290 hg; replace BK290 := bb_ BK290 hb; replace HB := bs_ HB hb; clear hb hbox hg; obtain ⟨hnb8, hnc8⟩ := nn_ NB290_291; have hcz9_0 : w7.cell? ⟨gb290, 0, none⟩ = some (.int .i64 a0_0) := bc_ BK290 0; have hcz9_1 : w7.cell? ⟨gb290, 1, none⟩ = some (.int .i64 a0_1) := bc_ BK290 1; have hcz9_2 : w7.cell? ⟨gb290, 2, none⟩ = some (.int .i64 a0_2) := bc_ BK290 2; have hcz9_3 : w7.cell? ⟨gb290, 3, none⟩ = some (.int .i64 a0_3) := bc_ BK290 3; have hcz9_4 : w7.cell? ⟨gb290, 4, none⟩ = some (.int .i64 a0_4) := bc_ BK290 4; have hcz9_5 : w7.cell? ⟨gb290, 5, none⟩ = some (.int .i64 a0_5) := bc_ BK290 5; have hfz9_0 := blk_frozen BK290.out 0; have hfz9_1 := blk_frozen BK290.out 1; have hfz9_2 := blk_frozen BK290.out 2; have hfz9_3 := blk_frozen BK290.out 3; have hfz9_4 := blk_frozen BK290.out 4; have hfz9_5 := blk_frozen BK290.out 5) | ((with_reducible refine gate_callee (f := 23) rfl ?_); refine gl_ 7 rfl rfl Try.func23 #[.agg #[.int .i64 a0_0, .int .i64 a0_1, .int .i64 a0_2, .int .i64 a0_3, .int .i64 a0_4, .int .i64 a0_5]] rfl ?_; (with_reducible refine (impl_CurveOk.calls k a0_0 a0_1 a0_2 a0_3 a0_4 a0_5 true _ A3.out).mono ?_); rintro e w10 ⟨rfl, hb⟩; refine ⟨_, rfl, ?_⟩; replace BK290 := bb_ BK290 hb; replace BK291 := bb_ BK291 hb; replace HB := bs_ HB hb; (try clear hb); (try clear hb2); (try clear hk); (try clear hi); have hcz11_0 : w10.cell? ⟨gb290, 0, none⟩ = some (.int .i64 a0_0) := bc_ BK290 0; have hcz11_1 : w10.cell? ⟨gb290, 1, none⟩ = some (.int .i64 a0_1) := bc_ BK290 1; have hcz11_2 : w10.cell? ⟨gb290, 2, none⟩ = some (.int .i64 a0_2) := bc_ BK290 2; have hcz11_3 : w10.cell? ⟨gb290, 3, none⟩ = some (.int .i64 a0_3) := bc_ BK290 3; have hcz11_4 : w10.cell? ⟨gb290, 4, none⟩ = some (.int .i64 a0_4) := bc_ BK290 4; have hcz11_5 : w10.cell? ⟨gb290, 5, none⟩ = some (.int .i64 a0_5) := bc_ BK290 5; have hfz11_0 := blk_frozen BK290.out 0; have hfz11_1 := blk_frozen BK290.out 1; have hfz11_2 := blk_frozen BK290.out 2; have hfz11_3 := blk_frozen BK290.out 3; have hfz11_4 := blk_frozen BK290.out 4; have hfz11_5 := blk_frozen BK290.out 5) | ((with_reducible refine gate_callee (f := 38) rfl ?_); refine gl_ 12 rfl rfl Try.func38 #[.agg #[.int .i64 a0_0, .int .i64 a0_1, .int .i64 a0_2, .int .i64 a0_3, .int .i64 a0_4, .int .i64 a0_5], .slice A1 l1.length c1] rfl ?_; (with_reducible refine (impl_Curve_pointRead.calls k a0_0 a0_1 a0_2 a0_3 a0_4 a0_5 _ _ l1 t293 t294 t295 t296 _ ?side1 ?side2 A5.out).mono ?_); (case side1 => repeat (first | exact (Kd.C_below HR1.out HB.out) | (with_reducible refine Kd.C_alloc ?_ _) | (with_reducible refine Kd.C_drewN ?_ _) | (with_reducible refine Kd.C_drew ?_))); (case side2 => exact HC1.out); rintro e w12 ⟨rfl, hb⟩; refine ⟨_, rfl, ?_⟩; replace BK290 := bb_ BK290 hb; replace BK291 := bb_ BK291 hb; replace HB := bs_ HB hb; (try clear hb); (try clear hb2); (try clear hk); (try clear hi); obtain ⟨hcz13_0, hcz13_1, hcz13_2, hfz13_0, hfz13_1, hfz13_2⟩ := bx3_ BK291))
  refine bodyPost_ret (results_ct rfl _ _ gb291 26 #[.int .i64 t293, .int .i64 t294, .bool t295] (0, 0) _ rfl (bq_ BK291) Try.underlying26 rfl (by kernel_rfl)) rfl ?_; exact ⟨by first | rfl | (simp [errW_none, errW_some] <;> rfl) | (simp [*, errW_none, errW_some] <;> rfl), by repeat (first | (with_reducible first | exact HB.out | apply below_alloc | apply pw_below_drewN | apply below_drew1 | refine below_set ?_ GE290.out | refine below_set ?_ GE291.out) | exact HB.out)⟩
 ·
  replace c4 := Bool.eq_false_iff.mpr c4; subst c4
  rw [if_neg (show ¬ (false = true) by decide)] at H
  simp only [Option.some.injEq, Prod.mk.injEq] at H
  obtain ⟨rfl, rfl, rfl, rfl⟩ := H
  go_enter Try.func20, Try.ntmps20
  go_wp2_with (first | ((with_reducible refine gate_dst (N := 2) rfl ?_); refine box_event ?hg (N := 2) ?hd (cs := #[.int .i64 a0_0, .int .i64 a0_1, .int .i64 a0_2, .int .i64 a0_3, .int .i64 a0_4, .int .i64 a0_5]) (t := 29) ?hr ?_; (case hd => rfl); (case hg => rfl); (case hr => first | (go_simp; done) | (go_simp; rfl)); intro gb290 hg w14 hbox hb; have BK290 := Aside0.mk hbox; have GW290 := ge_ HB hg; have GE290 := ge_ HB hg; replace HB := bs_ HB hb; clear hb hbox hg) | ((with_reducible refine gate_dst (N := 4) rfl ?_); refine box_event ?hg (N := 4) ?hd (cs := #[.int .i64 0, .int .i64 0, .bool false]) (t := 26) ?hr ?_; (case hd => rfl); (case hg => rfl); (case hr => first | (go_simp; done) | (go_simp; rfl)); intro gb291 hg w15 hbox hb; have BK291 := Aside0.mk hbox; have GW291 := ge_ HB hg; have GE291 := ge_ HB hg; have NB290_291 := nl_ BK290 hg; have NB291_290 := nr_ BK290 hg; replace BK290 := bb_ BK290 hb; replace HB := bs_ HB hb; clear hb hbox hg; obtain ⟨hnb16, hnc16⟩ := nn_ NB290_291; have hcz17_0 : w15.cell? ⟨gb290, 0, none⟩ = some (.int .i64 a0_0) := bc_ BK290 0; have hcz17_1 : w15.cell? ⟨gb290, 1, none⟩ = some (.int .i64 a0_1) := bc_ BK290 1; have hcz17_2 : w15.cell? ⟨gb290, 2, none⟩ = some (.int .i64 a0_2) := bc_ BK290 2; have hcz17_3 : w15.cell? ⟨gb290, 3, none⟩ = some (.int .i64 a0_3) := bc_ BK290 3; have hcz17_4 : w15.cell? ⟨gb290, 4, none⟩ = some (.int .i64 a0_4) := bc_ BK290 4; have hcz17_5 : w15.cell? ⟨gb290, 5, none⟩ = some (.int .i64 a0_5) := bc_ BK290 5; have hfz17_0 := blk_frozen BK290.out 0; have hfz17_1 := blk_frozen BK290.out 1; have hfz17_2 := blk_frozen BK290.out 2; have hfz17_3 := blk_frozen BK290.out 3; have hfz17_4 := blk_frozen BK290.out 4; have hfz17_5 := blk_frozen BK290.out 5) | ((with_reducible refine gate_callee (f := 23) rfl ?_); refine gl_ 7 rfl rfl Try.func23 #[.agg #[.int .i64 a0_0, .int .i64 a0_1, .int .i64 a0_2, .int .i64 a0_3, .int .i64 a0_4, .int .i64 a0_5]] rfl ?_; (with_reducible refine (impl_CurveOk.calls k a0_0 a0_1 a0_2 a0_3 a0_4 a0_5 false _ A3.out).mono ?_); rintro e w18 ⟨rfl, hb⟩; refine ⟨_, rfl, ?_⟩; replace BK290 := bb_ BK290 hb; replace BK291 := bb_ BK291 hb; replace HB := bs_ HB hb; (try clear hb); (try clear hb2); (try clear hk); (try clear hi); obtain ⟨hcz19_0, hcz19_1, hcz19_2, hfz19_0, hfz19_1, hfz19_2⟩ := bx3_ BK291))
  refine bodyPost_ret (results_ct rfl _ _ gb291 26 #[.int .i64 0, .int .i64 0, .bool false] (0, 0) _ rfl (bq_ BK291) Try.underlying26 rfl (by kernel_rfl)) rfl ?_; exact ⟨by first | rfl | (simp [errW_none, errW_some] <;> rfl) | (simp [*, errW_none, errW_some] <;> rfl), by repeat (first | (with_reducible first | exact HB.out | apply below_alloc | apply pw_below_drewN | apply below_drew1 | refine below_set ?_ GE290.out | refine below_set ?_ GE291.out) | exact HB.out)⟩

attribute [local go_sem] fld_
/-! ### laws_FnExactPointRead: function 5 -/
def laws_FnExactPointRead.j0 : Nat → List Int → List Int → Bool → Option (Bool)
  | 0, _, _, _ => none
  | k + 1, x1, x7, x38 => if x38 = true then (some false) else ((laws_toByteS.f k x1).bind fun t327 => ((laws_eqByteS.f k x7 t327).bind fun t330 => (if t330 = true then (some true) else (some false))))
def laws_FnExactPointRead.f (k : Nat) (a0_0 : Int) (a0_1 : Int) (a0_2 : Int) (a0_3 : Int) (a0_4 : Int) (a0_5 : Int) (l1 : List Int) : Option (Bool) := if (l1.length : Int) > 1048576 then (some true) else ((laws_toCurve.f a0_0 a0_1 a0_2 a0_3 a0_4 a0_5).bind fun bt298 => ((laws_toByteS.f k l1).bind fun t304 => ((spec_PointRead.f k bt298.1 bt298.2.1 bt298.2.2.1 bt298.2.2.2.1 bt298.2.2.2.2.1 bt298.2.2.2.2.2 t304).bind fun bt307 => ((laws_toByteS.f k l1).bind fun t312 => ((laws_toCurve.f a0_0 a0_1 a0_2 a0_3 a0_4 a0_5).bind fun bt315 => ((impl_PointRead.f k bt315.1 bt315.2.1 bt315.2.2.1 bt315.2.2.2.1 bt315.2.2.2.2.1 bt315.2.2.2.2.2 t312).bind fun bt321 => ((laws_eqPoint.f bt321.1 bt321.2.1 bt321.2.2.1 bt307.1 bt307.2.1 bt307.2.2.1).bind fun t326 => (if t326 = true then (laws_FnExactPointRead.j0 k l1 t312 (bt321.2.2.2 != bt307.2.2.2)) else (laws_FnExactPointRead.j0 k l1 t312 true)))))))))
theorem laws_FnExactPointRead.mono_l : ∀ k, (∀ y0 y1 y2, LeO (laws_FnExactPointRead.j0 k y0 y1 y2) (laws_FnExactPointRead.j0 (k + 1) y0 y1 y2))
 | 0 => fun _ _ _ r h => by simp [laws_FnExactPointRead.j0] at h
 | k + 1 => by
  have ih0 := laws_FnExactPointRead.mono_l k
  ·
   intro y0 y1 y2
   unfold laws_FnExactPointRead.j0
   repeat' first
   | (with_reducible exact ih0 _ _ _)
   | (with_reducible exact impl_PointRead.mono _ _ _ _ _ _ _ _)
   | (with_reducible exact laws_eqByteS.mono _ _ _)
   | (with_reducible exact laws_toByteS.mono _ _)
   | (with_reducible exact spec_PointRead.mono _ _ _ _ _ _ _ _)
   | (with_reducible exact LeO.refl _)
   | (with_reducible exact LeO.none _)
   | (with_reducible refine LeO.ite ?_ ?_)
   | (with_reducible refine LeO.bind ?_ (fun _ => ?_))
   | exact ih0 _ _ _
   | exact impl_PointRead.mono _ _ _ _ _ _ _ _
   | exact laws_eqByteS.mono _ _ _
   | exact laws_toByteS.mono _ _
   | exact spec_PointRead.mono _ _ _ _ _ _ _ _
   | exact LeO.none _
   | refine LeO.ite ?_ ?_
   | refine LeO.bind ?_ (fun _ => ?_)
theorem laws_FnExactPointRead.mono : ∀ a0 a1 a2 a3 a4 a5 a6 k, LeO (laws_FnExactPointRead.f k a0 a1 a2 a3 a4 a5 a6) (laws_FnExactPointRead.f (k + 1) a0 a1 a2 a3 a4 a5 a6) := by
 intro a0 a1 a2 a3 a4 a5 a6 k; have ih0 := laws_FnExactPointRead.mono_l k
 unfold laws_FnExactPointRead.f
 repeat' first
   | (with_reducible exact ih0 _ _ _)
   | (with_reducible exact impl_PointRead.mono _ _ _ _ _ _ _ _)
   | (with_reducible exact laws_eqByteS.mono _ _ _)
   | (with_reducible exact laws_toByteS.mono _ _)
   | (with_reducible exact spec_PointRead.mono _ _ _ _ _ _ _ _)
   | (with_reducible exact LeO.refl _)
   | (with_reducible exact LeO.none _)
   | (with_reducible refine LeO.ite ?_ ?_)
   | (with_reducible refine LeO.bind ?_ (fun _ => ?_))
   | exact ih0 _ _ _
   | exact impl_PointRead.mono _ _ _ _ _ _ _ _
   | exact laws_eqByteS.mono _ _ _
   | exact laws_toByteS.mono _ _
   | exact spec_PointRead.mono _ _ _ _ _ _ _ _
   | exact LeO.none _
   | refine LeO.ite ?_ ?_
   | refine LeO.bind ?_ (fun _ => ?_)
set_option maxHeartbeats 8000000 in
set_option maxRecDepth 100000 in
theorem laws_FnExactPointRead.calls (k : Nat) (a0_0 : Int) (a0_1 : Int) (a0_2 : Int) (a0_3 : Int) (a0_4 : Int) (a0_5 : Int) (A1 : Option Addr) (c1 : Nat) (l1 : List Int) (r : Bool) (w : World) (hr1 : Kd.C (Kd.int .u8) w A1 l1.length l1) (hc1 : l1.length ≤ c1) (h : laws_FnExactPointRead.f k a0_0 a0_1 a0_2 a0_3 a0_4 a0_5 l1 = some r) :
  Calls Try.prog 5 #[.agg #[.int .i64 a0_0, .int .i64 a0_1, .int .i64 a0_2, .int .i64 a0_3, .int .i64 a0_4, .int .i64 a0_5], .slice A1 l1.length c1] w fun e w' => e = .returned (.bool r) ∧ Below w.heap.size w w' := by
 have hu23 := Try.underlying23; have hu26 := Try.underlying26; have HR1 := Aside0.mk hr1; have HC1 := Aside0.mk hc1; clear hr1 hc1; have HB := Aside0.mk (Below.refl w.heap.size w)
 have H : (if (l1.length : Int) > 1048576 then (some true) else ((laws_toCurve.f a0_0 a0_1 a0_2 a0_3 a0_4 a0_5).bind fun bt298 => ((laws_toByteS.f k l1).bind fun t304 => ((spec_PointRead.f k bt298.1 bt298.2.1 bt298.2.2.1 bt298.2.2.2.1 bt298.2.2.2.2.1 bt298.2.2.2.2.2 t304).bind fun bt307 => ((laws_toByteS.f k l1).bind fun t312 => ((laws_toCurve.f a0_0 a0_1 a0_2 a0_3 a0_4 a0_5).bind fun bt315 => ((impl_PointRead.f k bt315.1 bt315.2.1 bt315.2.2.1 bt315.2.2.2.1 bt315.2.2.2.2.1 bt315.2.2.2.2.2 t312).bind fun bt321 => ((laws_eqPoint.f bt321.1 bt321.2.1 bt321.2.2.1 bt307.1 bt307.2.1 bt307.2.2.1).bind fun t326 => (if t326 = true then (laws_FnExactPointRead.j0 k l1 t312 (bt321.2.2.2 != bt307.2.2.2)) else (laws_FnExactPointRead.j0 k l1 t312 true)))))))))) = some r := h
 clear h
 by_cases c3 : (l1.length : Int) > 1048576
 ·
  rw [if_pos c3] at H
  have c3b0 : decide (1048576 < (l1.length : Int)) = true := decide_eq_true c3
  have c3b1 : decide (1048576 < l1.length) = true := decide_eq_true (by omega)
  clear c3; obtain rfl := Option.some.inj H
  go_enter Try.func5, Try.ntmps5
  go_wp2_with (first | ((with_reducible refine gate_dst (N := 2) rfl ?_); refine box_event ?hg (N := 2) ?hd (cs := #[.int .i64 a0_0, .int .i64 a0_1, .int .i64 a0_2, .int .i64 a0_3, .int .i64 a0_4, .int .i64 a0_5]) (t := 23) ?hr ?_; (case hd => rfl); (case hg => rfl); (case hr => first | (go_simp; done) | (go_simp; rfl)); intro gb297 hg w4 hbox hb; have BK297 := Aside0.mk hbox; have GW297 := ge_ HB hg; have GE297 := ge_ HB hg; replace HB := bs_ HB hb; clear hb hbox hg))
  go_ret
  exact ⟨by first | rfl | (simp [errW_none, errW_some] <;> rfl) | (simp [*, errW_none, errW_some] <;> rfl), by repeat (first | (with_reducible first | exact HB.out | apply below_alloc | apply pw_below_drewN | apply below_drew1 | refine below_set ?_ GE297.out) | exact HB.out)⟩
 ·
  rw [if_neg c3] at H
  have c3b0 : decide (1048576 < (l1.length : Int)) = false := decide_eq_false c3
  have c3b1 : decide (1048576 < l1.length) = false := decide_eq_false (by omega)
  clear c3; obtain ⟨⟨t298, t299, t300, t301, t302, t303⟩, A50, H⟩ := pb_ H
  have A5 := Aside0.mk A50; clear A50; obtain ⟨t304, A60, H⟩ := pb_ H
  have A6 := Aside0.mk A60; clear A60; obtain ⟨⟨t307, t308, t309, t310⟩, A70, H⟩ := pb_ H
  have A7 := Aside0.mk A70; clear A70; obtain ⟨t312, A80, H⟩ := pb_ H
  have A8 := Aside0.mk A80; clear A80; obtain ⟨⟨t315, t316, t317, t318, t319, t320⟩, A90, H⟩ := pb_ H
  have A9 := Aside0.mk A90; clear A90; obtain ⟨⟨t321, t322, t323, t324⟩, A100, H⟩ := pb_ H
  have A10 := Aside0.mk A100; clear A100; have HC11 := Aside0.mk H; clear H
  go_enter Try.func5, Try.ntmps5
  go_upto_region 6 with (first | ((with_reducible refine gate_dst (N := 2) rfl ?_); refine box_event ?hg (N := 2) ?hd (cs := #[.int .i64 a0_0, .int .i64 a0_1, .int .i64 a0_2, .int .i64 a0_3, .int .i64 a0_4, .int .i64 a0_5]) (t := 23) ?hr ?_; (case hd => rfl); (case hg => rfl); (case hr => first | (go_simp; done) | (go_simp; rfl)); intro gb297 hg w12 hbox hb; have BK297 := Aside0.mk hbox; have GW297 := ge_ HB hg; have GE297 := ge_ HB hg; replace HB := bs_ HB hb; clear hb hbox hg; have hcz13_0 : w12.cell? ⟨gb297, 0, none⟩ = some (.int .i64 a0_0) := bc_ BK297 0; have hcz13_1 : w12.cell? ⟨gb297, 1, none⟩ = some (.int .i64 a0_1) := bc_ BK297 1; have hcz13_2 : w12.cell? ⟨gb297, 2, none⟩ = some (.int .i64 a0_2) := bc_ BK297 2; have hcz13_3 : w12.cell? ⟨gb297, 3, none⟩ = some (.int .i64 a0_3) := bc_ BK297 3; have hcz13_4 : w12.cell? ⟨gb297, 4, none⟩ = some (.int .i64 a0_4) := bc_ BK297 4; have hcz13_5 : w12.cell? ⟨gb297, 5, none⟩ = some (.int .i64 a0_5) := bc_ BK297 5; have hfz13_0 := blk_frozen BK297.out 0; have hfz13_1 := blk_frozen BK297.out 1; have hfz13_2 := blk_frozen BK297.out 2; have hfz13_3 := blk_frozen BK297.out 3; have hfz13_4 := blk_frozen BK297.out 4; have hfz13_5 := blk_frozen BK297.out 5) | ((with_reducible refine gate_callee (f := 9) rfl ?_); refine gl_ 15 rfl rfl Try.func9 #[.agg #[.int .i64 a0_0, .int .i64 a0_1, .int .i64 a0_2, .int .i64 a0_3, .int .i64 a0_4, .int .i64 a0_5]] rfl ?_; (with_reducible refine (laws_toCurve.calls a0_0 a0_1 a0_2 a0_3 a0_4 a0_5 t298 t299 t300 t301 t302 t303 _ A5.out).mono ?_); rintro e w14 ⟨rfl, hb⟩; refine ⟨_, rfl, ?_⟩; replace BK297 := bb_ BK297 hb; replace HB := bs_ HB hb; (try clear hb); (try clear hb2); (try clear hk); (try clear hi)) | ((with_reducible refine gate_callee (f := 19) rfl ?_); refine gl_ 17 rfl rfl Try.func19 #[.slice A1 l1.length c1] rfl ?_; (with_reducible refine (laws_toByteS.calls k _ _ l1 t304 _ ?side1 ?side2 A6.out).mono ?_); (case side1 => repeat (first | exact (Kd.C_below HR1.out HB.out) | (with_reducible refine Kd.C_alloc ?_ _) | (with_reducible refine Kd.C_drewN ?_ _) | (with_reducible refine Kd.C_drew ?_))); (case side2 => exact HC1.out); rintro e w15 ⟨v305, rfl, ho0, hb⟩; refine ⟨_, rfl, ?_⟩; have HO306 := Aside0.mk (Kd.R_lower ho0 (below_size (bw_ HB))); replace BK297 := bb_ BK297 hb; replace HB := bs_ HB hb; (try clear hb); (try clear hb2); (try clear hk); (try clear hi); (try clear ho0); obtain ⟨Ao16, co16, eo16⟩ := Kd.R_slice HO306.out; subst eo16) | ((with_reducible refine gate_callee (f := 18) rfl ?_); refine gl_ 18 rfl rfl Try.func18 #[.agg #[.int .i64 t298, .int .i64 t299, .int .i64 t300, .int .i64 t301, .int .i64 t302, .int .i64 t303], .slice Ao16 t304.length co16] rfl ?_; (with_reducible refine (spec_PointRead.calls k t298 t299 t300 t301 t302 t303 _ _ t304 t307 t308 t309 t310 _ ?side1 ?side2 A7.out).mono ?_); (case side1 => repeat (first | exact (Kd.R_reads' HO306.out).2.2 | (with_reducible refine Kd.C_alloc ?_ _) | (with_reducible refine Kd.C_drewN ?_ _) | (with_reducible refine Kd.C_drew ?_))); (case side2 => exact (Kd.R_reads' HO306.out).2.1); rintro e w17 ⟨rfl, hb⟩; refine ⟨_, rfl, ?_⟩; have n0_ := Aside0.mk (Kd.R_below (by (with_reducible repeat (first | apply Kd.R_alloc | apply Kd.R_drewN | apply Kd.R_drew)); exact HO306.out) hb); have n1_ := bb_ BK297 hb; have n2_ := bs_ HB hb; clear HO306; clear BK297; clear HB; have HO306 := n0_; have BK297 := n1_; have HB := n2_; clear n0_ n1_ n2_; (try clear hb); (try clear hb2); (try clear hk); (try clear hi)) | ((with_reducible refine gate_dst (N := 5) rfl ?_); refine box_event ?hg (N := 5) ?hd (cs := #[.int .i64 0, .int .i64 0, .bool false]) (t := 26) ?hr ?_; (case hd => rfl); (case hg => rfl); (case hr => first | (go_simp; done) | (go_simp; rfl)); intro gb311 hg w18 hbox hb; have n0_ := Aside0.mk (Kd.R_below (by (with_reducible repeat (first | apply Kd.R_alloc | apply Kd.R_drewN | apply Kd.R_drew)); exact HO306.out) hb); have n1_ := bb_ BK297 hb; have n2_ := bs_ HB hb; have n3_ := Aside0.mk hbox; have n4_ := ge_ HB hg; have n5_ := ge_ HB hg; have n6_ := nl_ BK297 hg; have n7_ := nr_ BK297 hg; clear HO306; clear BK297; clear HB; have HO306 := n0_; have BK297 := n1_; have HB := n2_; have BK311 := n3_; have GW311 := n4_; have GE311 := n5_; have NB297_311 := n6_; have NB311_297 := n7_; clear n0_ n1_ n2_ n3_ n4_ n5_ n6_ n7_; clear hb hbox hg; obtain ⟨hnb19, hnc19⟩ := nn_ NB311_297; have hcz20_0 : w18.cell? ⟨gb311, 0, none⟩ = some (.int .i64 0) := bc_ BK311 0; have hcz20_1 : w18.cell? ⟨gb311, 1, none⟩ = some (.int .i64 0) := bc_ BK311 1; have hcz20_2 : w18.cell? ⟨gb311, 2, none⟩ = some (.bool false) := bc_ BK311 2; have hfz20_0 := blk_frozen BK311.out 0; have hfz20_1 := blk_frozen BK311.out 1; have hfz20_2 := blk_frozen BK311.out 2) | ((with_reducible refine gate_callee (f := 19) rfl ?_); refine gl_ 22 rfl rfl Try.func19 #[.slice A1 l1.length c1] rfl ?_; (with_reducible refine (laws_toByteS.calls k _ _ l1 t312 _ ?side1 ?side2 A8.out).mono ?_); (case side1 => exact Kd.C_below HR1.out (bw_ HB)); (case side2 => exact HC1.out); rintro e w21 ⟨v313, rfl, ho0, hb⟩; refine ⟨_, rfl, ?_⟩; have n0_ := Aside0.mk (Kd.R_elder' (by (with_reducible repeat (first | apply Kd.R_alloc | apply Kd.R_drewN | apply Kd.R_drew)); exact (Kd.R_mono (Kd.R_far (p := ⟨gb311, 2, none⟩) (Kd.R_far (p := ⟨gb311, 1, none⟩) (Kd.R_far (p := ⟨gb311, 0, none⟩) (Kd.R_types HO306.out BK311.out (by decide)) (fun _ hk => hk.2) (.int .i64 t307)) (fun _ hk => hk.2) (.int .i64 t308)) (fun _ hk => hk.2) (.bool t309)) (fun _ h_ => h_.1))) (Kd.R_base ho0) hb); have n1_ := Aside0.mk (Kd.R_lower (Kd.R_new' ho0 (Kd.R_lt (by (with_reducible repeat (first | apply Kd.R_alloc | apply Kd.R_drewN | apply Kd.R_drew)); exact (Kd.R_mono (Kd.R_far (p := ⟨gb311, 2, none⟩) (Kd.R_far (p := ⟨gb311, 1, none⟩) (Kd.R_far (p := ⟨gb311, 0, none⟩) (Kd.R_types HO306.out BK311.out (by decide)) (fun _ hk => hk.2) (.int .i64 t307)) (fun _ hk => hk.2) (.int .i64 t308)) (fun _ hk => hk.2) (.bool t309)) (fun _ h_ => h_.1))))) (below_size (bw_ HB))); have n2_ := bd_ BK297 hb; have n3_ := be_ #[.int .i64 t307, .int .i64 t308, .bool t309] BK311 hb; have n4_ := bs_ HB hb; clear HO306; clear BK297; clear BK311; clear HB; have HO306 := n0_; have HO314 := n1_; have BK297 := n2_; have BK311 := n3_; have HB := n4_; clear n0_ n1_ n2_ n3_ n4_; (try clear hb); (try clear hb2); (try clear hk); (try clear hi); (try clear ho0); have hcz22_0 : w21.cell? ⟨gb297, 0, none⟩ = some (.int .i64 a0_0) := bc_ BK297 0; have hcz22_1 : w21.cell? ⟨gb297, 1, none⟩ = some (.int .i64 a0_1) := bc_ BK297 1; have hcz22_2 : w21.cell? ⟨gb297, 2, none⟩ = some (.int .i64 a0_2) := bc_ BK297 2; have hcz22_3 : w21.cell? ⟨gb297, 3, none⟩ = some (.int .i64 a0_3) := bc_ BK297 3; have hcz22_4 : w21.cell? ⟨gb297, 4, none⟩ = some (.int .i64 a0_4) := bc_ BK297 4; have hcz22_5 : w21.cell? ⟨gb297, 5, none⟩ = some (.int .i64 a0_5) := bc_ BK297 5; have hfz22_0 := blk_frozen BK297.out 0; have hfz22_1 := blk_frozen BK297.out 1; have hfz22_2 := blk_frozen BK297.out 2; have hfz22_3 := blk_frozen BK297.out 3; have hfz22_4 := blk_frozen BK297.out 4; have hfz22_5 := blk_frozen BK297.out 5) | ((with_reducible refine gate_callee (f := 9) rfl ?_); refine gl_ 25 rfl rfl Try.func9 #[.agg #[.int .i64 a0_0, .int .i64 a0_1, .int .i64 a0_2, .int .i64 a0_3, .int .i64 a0_4, .int .i64 a0_5]] rfl ?_; (with_reducible refine (laws_toCurve.calls a0_0 a0_1 a0_2 a0_3 a0_4 a0_5 t315 t316 t317 t318 t319 t320 _ A9.out).mono ?_); rintro e w23 ⟨rfl, hb⟩; refine ⟨_, rfl, ?_⟩; have n0_ := Aside0.mk (Kd.R_below (by (with_reducible repeat (first | apply Kd.R_alloc | apply Kd.R_drewN | apply Kd.R_drew)); exact HO306.out) hb); have n1_ := Aside0.mk (Kd.R_below (by (with_reducible repeat (first | apply Kd.R_alloc | apply Kd.R_drewN | apply Kd.R_drew)); exact HO314.out) hb); have n2_ := bb_ BK297 hb; have n3_ := bb_ BK311 hb; have n4_ := bs_ HB hb; clear HO306; clear HO314; clear BK297; clear BK311; clear HB; have HO306 := n0_; have HO314 := n1_; have BK297 := n2_; have BK311 := n3_; have HB := n4_; clear n0_ n1_ n2_ n3_ n4_; (try clear hb); (try clear hb2); (try clear hk); (try clear hi); obtain ⟨Ao24, co24, eo24⟩ := Kd.R_slice HO314.out; subst eo24) | ((with_reducible refine gate_callee (f := 20) rfl ?_); refine gl_ 27 rfl rfl Try.func20 #[.agg #[.int .i64 t315, .int .i64 t316, .int .i64 t317, .int .i64 t318, .int .i64 t319, .int .i64 t320], .slice Ao24 t312.length co24] rfl ?_; (with_reducible refine (impl_PointRead.calls k t315 t316 t317 t318 t319 t320 _ _ t312 t321 t322 t323 t324 _ ?side1 ?side2 A10.out).mono ?_); (case side1 => repeat (first | exact (Kd.R_reads' HO314.out).2.2 | (with_reducible refine Kd.C_alloc ?_ _) | (with_reducible refine Kd.C_drewN ?_ _) | (with_reducible refine Kd.C_drew ?_))); (case side2 => exact (Kd.R_reads' HO314.out).2.1); rintro e w25 ⟨rfl, hb⟩; refine ⟨_, rfl, ?_⟩; have n0_ := Aside0.mk (Kd.R_below (by (with_reducible repeat (first | apply Kd.R_alloc | apply Kd.R_drewN | apply Kd.R_drew)); exact HO306.out) hb); have n1_ := Aside0.mk (Kd.R_below (by (with_reducible repeat (first | apply Kd.R_alloc | apply Kd.R_drewN | apply Kd.R_drew)); exact HO314.out) hb); have n2_ := bb_ BK297 hb; have n3_ := bb_ BK311 hb; have n4_ := bs_ HB hb; clear HO306; clear HO314; clear BK297; clear BK311; clear HB; have HO306 := n0_; have HO314 := n1_; have BK297 := n2_; have BK311 := n3_; have HB := n4_; clear n0_ n1_ n2_ n3_ n4_; (try clear hb); (try clear hb2); (try clear hk); (try clear hi)) | ((with_reducible refine gate_dst (N := 8) rfl ?_); refine box_event ?hg (N := 8) ?hd (cs := #[.int .i64 0, .int .i64 0, .bool false]) (t := 26) ?hr ?_; (case hd => rfl); (case hg => rfl); (case hr => first | (go_simp; done) | (go_simp; rfl)); intro gb325 hg w26 hbox hb; have n0_ := Aside0.mk (Kd.R_below (by (with_reducible repeat (first | apply Kd.R_alloc | apply Kd.R_drewN | apply Kd.R_drew)); exact HO306.out) hb); have n1_ := Aside0.mk (Kd.R_below (by (with_reducible repeat (first | apply Kd.R_alloc | apply Kd.R_drewN | apply Kd.R_drew)); exact HO314.out) hb); have n2_ := bb_ BK297 hb; have n3_ := bb_ BK311 hb; have n4_ := bs_ HB hb; have n5_ := Aside0.mk hbox; have n6_ := ge_ HB hg; have n7_ := ge_ HB hg; have n8_ := nl_ BK297 hg; have n9_ := nr_ BK297 hg; have n10_ := nl_ BK311 hg; have n11_ := nr_ BK311 hg; clear HO306; clear HO314; clear BK297; clear BK311; clear HB; have HO306 := n0_; have HO314 := n1_; have BK297 := n2_; have BK311 := n3_; have HB := n4_; have BK325 := n5_; have GW325 := n6_; have GE325 := n7_; have NB297_325 := n8_; have NB325_297 := n9_; have NB311_325 := n10_; have NB325_311 := n11_; clear n0_ n1_ n2_ n3_ n4_ n5_ n6_ n7_ n8_ n9_ n10_ n11_; clear hb hbox hg; obtain ⟨hnb27, hnc27⟩ := nn_ NB325_297; obtain ⟨hnb28, hnc28⟩ := nn_ NB325_311; obtain ⟨hcz29_0, hcz29_1, hcz29_2, hfz29_0, hfz29_1, hfz29_2⟩ := bx3_ BK325))
  (try simp only [Act.put, sA_, sZ_, sS_])
  go_cut [38] (fun v38 wc => ∃ (kq : Nat) (x38_10 : Bool), v38 = .bool x38_10 ∧ Aside0 (laws_FnExactPointRead.j0 kq l1 t312 x38_10 = some r) ∧ Aside0 (kq ≤ k) ∧ Aside0 (Kd.R (Kd.int .u8) 5 wc w.heap.size (fun _ => True) (.slice Ao24 t312.length co24) t312) ∧ Aside0 (wc.heap[gb297]? = some (.cells #[.int .i64 a0_0, .int .i64 a0_1, .int .i64 a0_2, .int .i64 a0_3, .int .i64 a0_4, .int .i64 a0_5] 23 (0, 0))) ∧ Aside0 (wc.heap[gb311]? = some (.cells #[.int .i64 t307, .int .i64 t308, .bool t309] 26 (0, 0))) ∧ Aside0 (wc.heap[gb325]? = some (.cells #[.int .i64 t321, .int .i64 t322, .bool t323] 26 (0, 0))) ∧ Aside0 (Below w.heap.size w wc))
  case first =>
   have H := HC11.out; clear HC11; obtain ⟨t326, A300, H⟩ := pb_ H
   have A30 := Aside0.mk A300; clear A300
   by_cases c31 : t326 = true
   ·
    subst c31; rw [if_pos rfl] at H
    have H' := Aside0.mk H
    clear H; obtain ⟨hnb32, hnc32⟩ := nn_ NB325_297; obtain ⟨hnb33, hnc33⟩ := nn_ NB325_311
    obtain ⟨hcz34_0, hcz34_1, hcz34_2, hfz34_0, hfz34_1, hfz34_2⟩ := bx3_ BK325; obtain ⟨hnb35, hnc35⟩ := nn_ NB311_297
    obtain ⟨hcz36_0, hcz36_1, hcz36_2, hfz36_0, hfz36_1, hfz36_2⟩ := bx3_ BK311
    go_wp2_with (first | ((with_reducible refine gate_callee (f := 12) rfl ?_); refine gl_ 32 rfl rfl Try.func12 #[.agg #[.int .i64 t321, .int .i64 t322, .bool t323], .agg #[.int .i64 t307, .int .i64 t308, .bool t309]] rfl ?_; (with_reducible refine (laws_eqPoint.calls t321 t322 t323 t307 t308 t309 true _ A30.out).mono ?_); rintro e w37 ⟨rfl, hb⟩; refine ⟨_, rfl, ?_⟩; have n0_ := Aside0.mk (Kd.R_below (by (with_reducible repeat (first | apply Kd.R_alloc | apply Kd.R_drewN | apply Kd.R_drew)); exact (Kd.R_mono (Kd.R_far (p := ⟨gb325, 2, none⟩) (Kd.R_far (p := ⟨gb325, 1, none⟩) (Kd.R_far (p := ⟨gb325, 0, none⟩) (Kd.R_types HO306.out BK325.out (by decide)) (fun _ hk => hk.2) (.int .i64 t321)) (fun _ hk => hk.2) (.int .i64 t322)) (fun _ hk => hk.2) (.bool t323)) (fun _ h_ => h_.1))) hb); have n1_ := Aside0.mk (Kd.R_below (by (with_reducible repeat (first | apply Kd.R_alloc | apply Kd.R_drewN | apply Kd.R_drew)); exact (Kd.R_mono (Kd.R_far (p := ⟨gb325, 2, none⟩) (Kd.R_far (p := ⟨gb325, 1, none⟩) (Kd.R_far (p := ⟨gb325, 0, none⟩) (Kd.R_types HO314.out BK325.out (by decide)) (fun _ hk => hk.2) (.int .i64 t321)) (fun _ hk => hk.2) (.int .i64 t322)) (fun _ hk => hk.2) (.bool t323)) (fun _ h_ => h_.1))) hb); have n2_ := bd_ BK297 hb; have n3_ := bd_ BK311 hb; have n4_ := be_ #[.int .i64 t321, .int .i64 t322, .bool t323] BK325 hb; have n5_ := bs_ HB hb; clear HO306; clear HO314; clear BK297; clear BK311; clear BK325; clear HB; have HO306 := n0_; have HO314 := n1_; have BK297 := n2_; have BK311 := n3_; have BK325 := n4_; have HB := n5_; clear n0_ n1_ n2_ n3_ n4_ n5_; (try clear hb); (try clear hb2); (try clear hk); (try clear hi)))
    go_meet
    case rel => exact ⟨_, ((t324 != t310)), (by first | rfl | (simp; done) | (simp [*]; done)), H', ⟨by first | omega | exact Nat.le_refl _⟩, ⟨by (with_reducible repeat (first | apply Kd.R_alloc | apply Kd.R_drewN | apply Kd.R_drew)); exact Kd.R_mono HO314.out (fun _ hk => trivial)⟩, ⟨bk_ BK297⟩, ⟨bk_ BK311⟩, ⟨bk_ BK325⟩, ⟨bw_ HB⟩⟩
   ·
    replace c31 := Bool.eq_false_iff.mpr c31; subst c31
    rw [if_neg (show ¬ (false = true) by decide)] at H
    have H' := Aside0.mk H
    clear H; obtain ⟨hnb38, hnc38⟩ := nn_ NB325_297; obtain ⟨hnb39, hnc39⟩ := nn_ NB325_311
    obtain ⟨hcz40_0, hcz40_1, hcz40_2, hfz40_0, hfz40_1, hfz40_2⟩ := bx3_ BK325; obtain ⟨hnb41, hnc41⟩ := nn_ NB311_297
    obtain ⟨hcz42_0, hcz42_1, hcz42_2, hfz42_0, hfz42_1, hfz42_2⟩ := bx3_ BK311
    go_wp2_with (first | ((with_reducible refine gate_callee (f := 12) rfl ?_); refine gl_ 32 rfl rfl Try.func12 #[.agg #[.int .i64 t321, .int .i64 t322, .bool t323], .agg #[.int .i64 t307, .int .i64 t308, .bool t309]] rfl ?_; (with_reducible refine (laws_eqPoint.calls t321 t322 t323 t307 t308 t309 false _ A30.out).mono ?_); rintro e w43 ⟨rfl, hb⟩; refine ⟨_, rfl, ?_⟩; have n0_ := Aside0.mk (Kd.R_below (by (with_reducible repeat (first | apply Kd.R_alloc | apply Kd.R_drewN | apply Kd.R_drew)); exact (Kd.R_mono (Kd.R_far (p := ⟨gb325, 2, none⟩) (Kd.R_far (p := ⟨gb325, 1, none⟩) (Kd.R_far (p := ⟨gb325, 0, none⟩) (Kd.R_types HO306.out BK325.out (by decide)) (fun _ hk => hk.2) (.int .i64 t321)) (fun _ hk => hk.2) (.int .i64 t322)) (fun _ hk => hk.2) (.bool t323)) (fun _ h_ => h_.1))) hb); have n1_ := Aside0.mk (Kd.R_below (by (with_reducible repeat (first | apply Kd.R_alloc | apply Kd.R_drewN | apply Kd.R_drew)); exact (Kd.R_mono (Kd.R_far (p := ⟨gb325, 2, none⟩) (Kd.R_far (p := ⟨gb325, 1, none⟩) (Kd.R_far (p := ⟨gb325, 0, none⟩) (Kd.R_types HO314.out BK325.out (by decide)) (fun _ hk => hk.2) (.int .i64 t321)) (fun _ hk => hk.2) (.int .i64 t322)) (fun _ hk => hk.2) (.bool t323)) (fun _ h_ => h_.1))) hb); have n2_ := bd_ BK297 hb; have n3_ := bd_ BK311 hb; have n4_ := be_ #[.int .i64 t321, .int .i64 t322, .bool t323] BK325 hb; have n5_ := bs_ HB hb; clear HO306; clear HO314; clear BK297; clear BK311; clear BK325; clear HB; have HO306 := n0_; have HO314 := n1_; have BK297 := n2_; have BK311 := n3_; have BK325 := n4_; have HB := n5_; clear n0_ n1_ n2_ n3_ n4_ n5_; (try clear hb); (try clear hb2); (try clear hk); (try clear hi)))
    go_meet
    case rel => exact ⟨_, (true), (by first | rfl | (simp; done) | (simp [*]; done)), H', ⟨by first | omega | exact Nat.le_refl _⟩, ⟨by (with_reducible repeat (first | apply Kd.R_alloc | apply Kd.R_drewN | apply Kd.R_drew)); exact Kd.R_mono HO314.out (fun _ hk => trivial)⟩, ⟨bk_ BK297⟩, ⟨bk_ BK311⟩, ⟨bk_ BK325⟩, ⟨bw_ HB⟩⟩
  case rest =>
   clear HC11
   try clear c1
   try clear c2
   try clear p2
   try clear c3
   try clear c3b0
   try clear c3b1
   try clear c4
   try clear c5
   try clear c9
   try clear c12
   try clear c18
   try clear c19
   try clear c20
   try clear c27
   try clear c28
   try clear c31
   try clear c32
   try clear c33
   try clear c35
   try clear c38
   try clear c39
   try clear c41
   try clear hcz13_0 hcz13_1 hcz13_2 hcz13_3 hcz13_4 hcz13_5
   try clear hcz20_0 hcz20_1 hcz20_2
   try clear hcz22_0 hcz22_1 hcz22_2 hcz22_3 hcz22_4 hcz22_5
   try clear hcz29_0 hcz29_1 hcz29_2
   try clear hcz34_0 hcz34_1 hcz34_2
   try clear hcz36_0 hcz36_1 hcz36_2
   try clear hcz40_0 hcz40_1 hcz40_2
   try clear hcz42_0 hcz42_1 hcz42_2
   try clear hfz13_0 hfz13_1 hfz13_2 hfz13_3 hfz13_4 hfz13_5
   try clear hfz20_0 hfz20_1 hfz20_2
   try clear hfz22_0 hfz22_1 hfz22_2 hfz22_3 hfz22_4 hfz22_5
   try clear hfz29_0 hfz29_1 hfz29_2
   try clear hfz34_0 hfz34_1 hfz34_2
   try clear hfz36_0 hfz36_1 hfz36_2
   try clear hfz40_0 hfz40_1 hfz40_2
   try clear hfz42_0 hfz42_1 hfz42_2
   obtain ⟨kq, x38_10, rfl, HA, HJ10, HO_7, BK297, BK311, BK325, HB⟩ := hcut
   cases kq with
   | zero => exact absurd HA.out (by simp [laws_FnExactPointRead.j0])
   | succ kj10 =>
    have H := HA.out; clear HA
    simp only [laws_FnExactPointRead.j0] at H
    by_cases c44 : x38_10 = true
    ·
     subst c44
     rw [if_pos rfl] at H; obtain rfl := Option.some.inj H
     go_wp2
     go_ret
     exact ⟨by first | rfl | (simp [errW_none, errW_some] <;> rfl) | (simp [*, errW_none, errW_some] <;> rfl), by repeat (first | (with_reducible first | exact HB.out | apply below_alloc | apply pw_below_drewN | apply below_drew1 | refine below_set ?_ GE297.out | refine below_set ?_ GE311.out | refine below_set ?_ GE325.out) | exact HB.out)⟩
    ·
     replace c44 := Bool.eq_false_iff.mpr c44; subst c44
     rw [if_neg (show ¬ (false = true) by decide)] at H; obtain ⟨t327, A450, H⟩ := pb_ H
     have A45 := Aside0.mk A450; clear A450; obtain ⟨t330, A460, H⟩ := pb_ H
     have A46 := Aside0.mk A460; clear A460
     by_cases c47 : t330 = true
     ·
      subst c47
      rw [if_pos rfl] at H; obtain rfl := Option.some.inj H
      go_wp2_with (first | ((with_reducible refine gate_callee (f := 19) rfl ?_); refine gl_ 41 rfl rfl Try.func19 #[.slice A1 l1.length c1] rfl ?_; (with_reducible refine (laws_toByteS.calls kj10 _ _ l1 t327 _ ?side1 ?side2 A45.out).mono ?_); (case side1 => repeat (first | exact (Kd.C_below HR1.out HB.out) | (with_reducible refine Kd.C_alloc ?_ _) | (with_reducible refine Kd.C_drewN ?_ _) | (with_reducible refine Kd.C_drew ?_))); (case side2 => exact HC1.out); rintro e w48 ⟨v328, rfl, ho0, hb⟩; refine ⟨_, rfl, ?_⟩; have n0_ := Aside0.mk (Kd.R_elder' (by (with_reducible repeat (first | apply Kd.R_alloc | apply Kd.R_drewN | apply Kd.R_drew)); exact HO_7.out) (Kd.R_base ho0) hb); have n1_ := Aside0.mk (Kd.R_lower (Kd.R_new' ho0 (Kd.R_lt (by (with_reducible repeat (first | apply Kd.R_alloc | apply Kd.R_drewN | apply Kd.R_drew)); exact HO_7.out))) (below_size (bw_ HB))); have n2_ := bb_ BK297 hb; have n3_ := bb_ BK311 hb; have n4_ := bb_ BK325 hb; have n5_ := bs_ HB hb; clear HO_7; clear BK297; clear BK311; clear BK325; clear HB; have HO_7 := n0_; have HO329 := n1_; have BK297 := n2_; have BK311 := n3_; have BK325 := n4_; have HB := n5_; clear n0_ n1_ n2_ n3_ n4_ n5_; (try clear hb); (try clear hb2); (try clear hk); (try clear hi); (try clear ho0); obtain ⟨Ao49, co49, eo49⟩ := Kd.R_slice HO329.out; subst eo49) | ((with_reducible refine gate_callee (f := 15) rfl ?_); refine gl_ 42 rfl rfl Try.func15 #[.slice Ao24 t312.length co24, .slice Ao49 t327.length co49] rfl ?_; (with_reducible refine (laws_eqByteS.calls kj10 _ _ t312 _ _ t327 true _ ?side1 ?side2 ?side3 ?side4 A46.out).mono ?_); (case side1 => repeat (first | exact (Kd.R_reads' HO_7.out).2.2 | (with_reducible refine Kd.C_alloc ?_ _) | (with_reducible refine Kd.C_drewN ?_ _) | (with_reducible refine Kd.C_drew ?_))); (case side2 => exact (Kd.R_reads' HO_7.out).2.1); (case side3 => repeat (first | exact (Kd.R_reads' HO329.out).2.2 | (with_reducible refine Kd.C_alloc ?_ _) | (with_reducible refine Kd.C_drewN ?_ _) | (with_reducible refine Kd.C_drew ?_))); (case side4 => exact (Kd.R_reads' HO329.out).2.1); rintro e w' ⟨rfl, ⟨nd, rfl⟩⟩; refine ⟨_, rfl, ?_⟩))
      go_ret
      exact ⟨by first | rfl | (simp [errW_none, errW_some] <;> rfl) | (simp [*, errW_none, errW_some] <;> rfl), by repeat (first | (with_reducible first | exact HB.out | apply below_alloc | apply pw_below_drewN | apply below_drew1 | refine below_set ?_ GE297.out | refine below_set ?_ GE311.out | refine below_set ?_ GE325.out) | exact HB.out)⟩
     ·
      replace c47 := Bool.eq_false_iff.mpr c47; subst c47
      rw [if_neg (show ¬ (false = true) by decide)] at H; obtain rfl := Option.some.inj H
      go_wp2_with (first | ((with_reducible refine gate_callee (f := 19) rfl ?_); refine gl_ 41 rfl rfl Try.func19 #[.slice A1 l1.length c1] rfl ?_; (with_reducible refine (laws_toByteS.calls kj10 _ _ l1 t327 _ ?side1 ?side2 A45.out).mono ?_); (case side1 => repeat (first | exact (Kd.C_below HR1.out HB.out) | (with_reducible refine Kd.C_alloc ?_ _) | (with_reducible refine Kd.C_drewN ?_ _) | (with_reducible refine Kd.C_drew ?_))); (case side2 => exact HC1.out); rintro e w50 ⟨v328, rfl, ho0, hb⟩; refine ⟨_, rfl, ?_⟩; have n0_ := Aside0.mk (Kd.R_elder' (by (with_reducible repeat (first | apply Kd.R_alloc | apply Kd.R_drewN | apply Kd.R_drew)); exact HO_7.out) (Kd.R_base ho0) hb); have n1_ := Aside0.mk (Kd.R_lower (Kd.R_new' ho0 (Kd.R_lt (by (with_reducible repeat (first | apply Kd.R_alloc | apply Kd.R_drewN | apply Kd.R_drew)); exact HO_7.out))) (below_size (bw_ HB))); have n2_ := bb_ BK297 hb; have n3_ := bb_ BK311 hb; have n4_ := bb_ BK325 hb; have n5_ := bs_ HB hb; clear HO_7; clear BK297; clear BK311; clear BK325; clear HB; have HO_7 := n0_; have HO329 := n1_; have BK297 := n2_; have BK311 := n3_; have BK325 := n4_; have HB := n5_; clear n0_ n1_ n2_ n3_ n4_ n5_; (try clear hb); (try clear hb2); (try clear hk); (try clear hi); (try clear ho0); obtain ⟨Ao51, co51, eo51⟩ := Kd.R_slice HO329.out; subst eo51) | ((with_reducible refine gate_callee (f := 15) rfl ?_); refine gl_ 42 rfl rfl Try.func15 #[.slice Ao24 t312.length co24, .slice Ao51 t327.length co51] rfl ?_; (with_reducible refine (laws_eqByteS.calls kj10 _ _ t312 _ _ t327 false _ ?side1 ?side2 ?side3 ?side4 A46.out).mono ?_); (case side1 => repeat (first | exact (Kd.R_reads' HO_7.out).2.2 | (with_reducible refine Kd.C_alloc ?_ _) | (with_reducible refine Kd.C_drewN ?_ _) | (with_reducible refine Kd.C_drew ?_))); (case side2 => exact (Kd.R_reads' HO_7.out).2.1); (case side3 => repeat (first | exact (Kd.R_reads' HO329.out).2.2 | (with_reducible refine Kd.C_alloc ?_ _) | (with_reducible refine Kd.C_drewN ?_ _) | (with_reducible refine Kd.C_drew ?_))); (case side4 => exact (Kd.R_reads' HO329.out).2.1); rintro e w' ⟨rfl, ⟨nd, rfl⟩⟩; refine ⟨_, rfl, ?_⟩))
      go_ret
      exact ⟨by first | rfl | (simp [errW_none, errW_some] <;> rfl) | (simp [*, errW_none, errW_some] <;> rfl), by repeat (first | (with_reducible first | exact HB.out | apply below_alloc | apply pw_below_drewN | apply below_drew1 | refine below_set ?_ GE297.out | refine below_set ?_ GE311.out | refine below_set ?_ GE325.out) | exact HB.out)⟩

/-- THE ONE PURE STATEMENT of laws_FnExactPointRead: yours. -/
def laws_FnExactPointRead.Pure : Prop := ∀ (a0_0 : Int) (a0_1 : Int) (a0_2 : Int) (a0_3 : Int) (a0_4 : Int) (a0_5 : Int) (l1 : List Int), (Lit.int .i64 a0_0).wf = true → (Lit.int .i64 a0_1).wf = true → (Lit.int .i64 a0_2).wf = true → (Lit.int .i64 a0_3).wf = true → (Lit.int .i64 a0_4).wf = true → (Lit.int .i64 a0_5).wf = true → l1.length ≤ maxLen → l1.length * 1 ≤ 140737488351232 → (∀ x ∈ l1, (Lit.int .u8 x).wf = true) → ∃ k, laws_FnExactPointRead.f k a0_0 a0_1 a0_2 a0_3 a0_4 a0_5 l1 = some true
theorem laws_FnExactPointRead.walk (P : laws_FnExactPointRead.Pure) (a0_0 : Int) (a0_1 : Int) (a0_2 : Int) (a0_3 : Int) (a0_4 : Int) (a0_5 : Int) (a1 : Option Addr) (len1 cap1 : Nat) (z1 : List Int) (w : World) (w0_0 : (Lit.int .i64 a0_0).wf = true) (w0_1 : (Lit.int .i64 a0_1).wf = true) (w0_2 : (Lit.int .i64 a0_2).wf = true) (w0_3 : (Lit.int .i64 a0_3).wf = true) (w0_4 : (Lit.int .i64 a0_4).wf = true) (w0_5 : (Lit.int .i64 a0_5).wf = true) (w1 : (a1 = none ∧ len1 = 0 ∧ cap1 = 0 ∧ z1 = []) ∨ ∃ x, a1 = some x ∧ len1 ≤ cap1 ∧ cap1 ≤ maxLen ∧ z1.length = cap1 ∧ (∀ i, i < z1.length → w.cell? (x.add i) = some (.int .u8 (z1.getD i 0))) ∧ ∀ n ∈ z1, (Lit.int .u8 n).wf = true) (y1 : len1 * 1 ≤ 140737488351232) :
  Calls Try.prog 5 #[.agg #[.int .i64 a0_0, .int .i64 a0_1, .int .i64 a0_2, .int .i64 a0_3, .int .i64 a0_4, .int .i64 a0_5], .slice a1 len1 cap1] w fun e w' => e = .returned (.bool true) ∧ Below w.heap.size w w' := by
 obtain ⟨l1, rfl, hr1, hm1, hw1, hc1⟩ := ReadsInt.ofRowC w1; obtain ⟨k, h⟩ := P a0_0 a0_1 a0_2 a0_3 a0_4 a0_5 l1 w0_0 w0_1 w0_2 w0_3 w0_4 w0_5 hm1 y1 hw1; refine (laws_FnExactPointRead.calls k a0_0 a0_1 a0_2 a0_3 a0_4 a0_5 _ _ l1 true w (Kd.C_of_reads (d := (0 : Int)) (h1 := fun _ => rfl) hr1) hc1 h).mono ?_; rintro e w' ⟨rfl, hd⟩; exact ⟨rfl, hd⟩

end Go.Proofs.Ytadmkolopcdffaa.PFnExactPointRead
