-- Written for this claim by a program of this session.
import Derived.Test.YtehdmpfeddieoaaPFnPowersx0
import Derived.Test.YtehdmpfeddieoaaPFnPowersx5
import Derived.Test.YtehdmpfeddieoaaPFnPowersx6
import Derived.Test.YtehdmpfeddieoaaPFnPowersx7
import Derived.Test.YtehdmpfeddieoaaPFnPowersx8
namespace Go.Proofs.Ytehdmpfeddieoaa.PFnPowers
open Go.RowKit Go.Proofs.YtehdmpfeddieoaaW.PrintWords Go.Proofs.YtehdmpfeddieoaaW.PrintLast Go.Proofs.YtehdmpfeddieoaaW.PrintMore
attribute [local go_sem] max2_int min2_int max_two min_two max_three min_three max_four min_four   -- for this text's walks alone
set_option linter.unusedVariables false
set_option linter.unusedSimpArgs false

/-! ### laws_FnPowers: function 7 -/
mutual
def laws_FnPowers.j0 : Nat → List Int → List Int → List Int → Bool → Option (Bool)
  | 0, _, _, _, _ => none
  | k + 1, x0, x3, x4, x52 => if x52 = true then (some true) else ((laws_at.f x0 0).bind fun t459 => ((laws_at.f x0 1).bind fun t460 => ((impl_NatOf.f k t459).bind fun bt461 => ((impl_NatOf.f k t460).bind fun bt465 => ((impl_NatOf.f k (wrap64 (t459 + t460))).bind fun bt469 => ((impl_ModPow.f k x3 bt461.1 x4).bind fun bt473 => ((impl_ModPow.f k x3 bt465.1 x4).bind fun bt477 => ((impl_ModPow.f k x3 bt469.1 x4).bind fun bt481 => ((impl_ModMul.f k bt473.1 bt477.1 x4).bind fun bt485 => (if bt473.2 = true then (if bt477.2 = true then (if bt481.2 = true then (if bt485.2 = true then ((laws_sameInts.f k bt481.1 bt485.1).bind fun t489 => (laws_FnPowers.j1 k x0 x3 x4 (!t489))) else (laws_FnPowers.j1 k x0 x3 x4 true)) else (laws_FnPowers.j1 k x0 x3 x4 true)) else (laws_FnPowers.j1 k x0 x3 x4 true)) else (laws_FnPowers.j1 k x0 x3 x4 true)))))))))))
def laws_FnPowers.j1 : Nat → List Int → List Int → List Int → Bool → Option (Bool)
  | 0, _, _, _, _ => none
  | k + 1, x0, x3, x4, x121 => if x121 = true then (some false) else ((impl_ModInv.f k x3 x4).bind fun bt490 => ((impl_ModMul.f k x3 bt490.1 x4).bind fun bt494 => (if bt490.2 = true then ((laws_sameInts.f k bt494.1 (([1] : List Int))).bind fun t501 => (laws_FnPowers.j2 k x0 (!t501))) else (laws_FnPowers.j2 k x0 false))))
def laws_FnPowers.j2 : Nat → List Int → Bool → Option (Bool)
  | 0, _, _ => none
  | k + 1, x0, x141 => if x141 = true then (some false) else ((spec_DrawGcd.f k x0).bind fun bt502 => ((impl_Gcd.f k bt502.1 bt502.2).bind fun t504 => ((impl_Gcd.f k bt502.2 bt502.1).bind fun t505 => (if t504 = t505 then (if bt502.1 < 0 then (some true) else (if bt502.2 < 0 then (some true) else (if t504 = 0 then (if bt502.1 = 0 then (if bt502.2 = 0 then (some true) else (if t504 > 0 then (none) else (some false))) else (if t504 > 0 then (none) else (some false))) else (if t504 > 0 then (if (Int.tmod bt502.1 t504) = 0 then (some ((Int.tmod bt502.2 t504) == 0)) else (some false)) else (some false))))) else (some false)))))
end
def laws_FnPowers.f (k : Nat) (l0 : List Int) : Option (Bool) := (laws_big.f l0).bind fun t450 => (if t450 = true then (some true) else ((spec_DrawModInv.f k l0).bind fun bt451 => ((spec_NatOk.f k bt451.1).bind fun t457 => (if t457 = true then ((spec_NatOk.f k bt451.2).bind fun t458 => (if t458 = true then (if (bt451.2.length : Int) = 0 then (laws_FnPowers.j0 k l0 bt451.1 bt451.2 true) else (laws_FnPowers.j0 k l0 bt451.1 bt451.2 (decide ((bt451.2.length : Int) > 20)))) else (laws_FnPowers.j0 k l0 bt451.1 bt451.2 true))) else (laws_FnPowers.j0 k l0 bt451.1 bt451.2 true)))))
theorem laws_FnPowers.mono_l : ∀ k, (∀ y0 y1 y2 y3, LeO (laws_FnPowers.j0 k y0 y1 y2 y3) (laws_FnPowers.j0 (k + 1) y0 y1 y2 y3)) ∧ (∀ y0 y1 y2 y3, LeO (laws_FnPowers.j1 k y0 y1 y2 y3) (laws_FnPowers.j1 (k + 1) y0 y1 y2 y3)) ∧ (∀ y0 y1, LeO (laws_FnPowers.j2 k y0 y1) (laws_FnPowers.j2 (k + 1) y0 y1))
 | 0 => ⟨fun _ _ _ _ r h => by simp [laws_FnPowers.j0] at h, fun _ _ _ _ r h => by simp [laws_FnPowers.j1] at h, fun _ _ r h => by simp [laws_FnPowers.j2] at h⟩
 | k + 1 => by
  obtain ⟨ih0, ih1, ih2⟩ := laws_FnPowers.mono_l k
  refine ⟨?_, ?_, ?_⟩
  ·
   intro y0 y1 y2 y3
   unfold laws_FnPowers.j0
   repeat' first
   | (with_reducible exact ih0 _ _ _ _)
   | (with_reducible exact ih1 _ _ _ _)
   | (with_reducible exact ih2 _ _)
   | (with_reducible exact impl_Gcd.mono _ _ _)
   | (with_reducible exact impl_ModInv.mono _ _ _)
   | (with_reducible exact impl_ModMul.mono _ _ _ _)
   | (with_reducible exact impl_ModPow.mono _ _ _ _)
   | (with_reducible exact impl_NatOf.mono _ _)
   | (with_reducible exact laws_sameInts.mono _ _ _)
   | (with_reducible exact spec_DrawGcd.mono _ _)
   | (with_reducible exact spec_DrawModInv.mono _ _)
   | (with_reducible exact spec_NatOk.mono _ _)
   | (with_reducible exact LeO.refl _)
   | (with_reducible exact LeO.none _)
   | (with_reducible refine LeO.ite ?_ ?_)
   | (with_reducible refine LeO.bind ?_ (fun _ => ?_))
   | exact ih0 _ _ _ _
   | exact ih1 _ _ _ _
   | exact ih2 _ _
   | exact impl_Gcd.mono _ _ _
   | exact impl_ModInv.mono _ _ _
   | exact impl_ModMul.mono _ _ _ _
   | exact impl_ModPow.mono _ _ _ _
   | exact impl_NatOf.mono _ _
   | exact laws_sameInts.mono _ _ _
   | exact spec_DrawGcd.mono _ _
   | exact spec_DrawModInv.mono _ _
   | exact spec_NatOk.mono _ _
   | exact LeO.none _
   | refine LeO.ite ?_ ?_
   | refine LeO.bind ?_ (fun _ => ?_)
  ·
   intro y0 y1 y2 y3
   unfold laws_FnPowers.j1
   repeat' first
   | (with_reducible exact ih0 _ _ _ _)
   | (with_reducible exact ih1 _ _ _ _)
   | (with_reducible exact ih2 _ _)
   | (with_reducible exact impl_Gcd.mono _ _ _)
   | (with_reducible exact impl_ModInv.mono _ _ _)
   | (with_reducible exact impl_ModMul.mono _ _ _ _)
   | (with_reducible exact impl_ModPow.mono _ _ _ _)
   | (with_reducible exact impl_NatOf.mono _ _)
   | (with_reducible exact laws_sameInts.mono _ _ _)
   | (with_reducible exact spec_DrawGcd.mono _ _)
   | (with_reducible exact spec_DrawModInv.mono _ _)
   | (with_reducible exact spec_NatOk.mono _ _)
   | (with_reducible exact LeO.refl _)
   | (with_reducible exact LeO.none _)
   | (with_reducible refine LeO.ite ?_ ?_)
   | (with_reducible refine LeO.bind ?_ (fun _ => ?_))
   | exact ih0 _ _ _ _
   | exact ih1 _ _ _ _
   | exact ih2 _ _
   | exact impl_Gcd.mono _ _ _
   | exact impl_ModInv.mono _ _ _
   | exact impl_ModMul.mono _ _ _ _
   | exact impl_ModPow.mono _ _ _ _
   | exact impl_NatOf.mono _ _
   | exact laws_sameInts.mono _ _ _
   | exact spec_DrawGcd.mono _ _
   | exact spec_DrawModInv.mono _ _
   | exact spec_NatOk.mono _ _
   | exact LeO.none _
   | refine LeO.ite ?_ ?_
   | refine LeO.bind ?_ (fun _ => ?_)
  ·
   intro y0 y1
   unfold laws_FnPowers.j2
   repeat' first
   | (with_reducible exact ih0 _ _ _ _)
   | (with_reducible exact ih1 _ _ _ _)
   | (with_reducible exact ih2 _ _)
   | (with_reducible exact impl_Gcd.mono _ _ _)
   | (with_reducible exact impl_ModInv.mono _ _ _)
   | (with_reducible exact impl_ModMul.mono _ _ _ _)
   | (with_reducible exact impl_ModPow.mono _ _ _ _)
   | (with_reducible exact impl_NatOf.mono _ _)
   | (with_reducible exact laws_sameInts.mono _ _ _)
   | (with_reducible exact spec_DrawGcd.mono _ _)
   | (with_reducible exact spec_DrawModInv.mono _ _)
   | (with_reducible exact spec_NatOk.mono _ _)
   | (with_reducible exact LeO.refl _)
   | (with_reducible exact LeO.none _)
   | (with_reducible refine LeO.ite ?_ ?_)
   | (with_reducible refine LeO.bind ?_ (fun _ => ?_))
   | exact ih0 _ _ _ _
   | exact ih1 _ _ _ _
   | exact ih2 _ _
   | exact impl_Gcd.mono _ _ _
   | exact impl_ModInv.mono _ _ _
   | exact impl_ModMul.mono _ _ _ _
   | exact impl_ModPow.mono _ _ _ _
   | exact impl_NatOf.mono _ _
   | exact laws_sameInts.mono _ _ _
   | exact spec_DrawGcd.mono _ _
   | exact spec_DrawModInv.mono _ _
   | exact spec_NatOk.mono _ _
   | exact LeO.none _
   | refine LeO.ite ?_ ?_
   | refine LeO.bind ?_ (fun _ => ?_)
theorem laws_FnPowers.mono : ∀ a0 k, LeO (laws_FnPowers.f k a0) (laws_FnPowers.f (k + 1) a0) := by
 intro a0 k; obtain ⟨ih0, ih1, ih2⟩ := laws_FnPowers.mono_l k
 unfold laws_FnPowers.f
 repeat' first
   | (with_reducible exact ih0 _ _ _ _)
   | (with_reducible exact ih1 _ _ _ _)
   | (with_reducible exact ih2 _ _)
   | (with_reducible exact impl_Gcd.mono _ _ _)
   | (with_reducible exact impl_ModInv.mono _ _ _)
   | (with_reducible exact impl_ModMul.mono _ _ _ _)
   | (with_reducible exact impl_ModPow.mono _ _ _ _)
   | (with_reducible exact impl_NatOf.mono _ _)
   | (with_reducible exact laws_sameInts.mono _ _ _)
   | (with_reducible exact spec_DrawGcd.mono _ _)
   | (with_reducible exact spec_DrawModInv.mono _ _)
   | (with_reducible exact spec_NatOk.mono _ _)
   | (with_reducible exact LeO.refl _)
   | (with_reducible exact LeO.none _)
   | (with_reducible refine LeO.ite ?_ ?_)
   | (with_reducible refine LeO.bind ?_ (fun _ => ?_))
   | exact ih0 _ _ _ _
   | exact ih1 _ _ _ _
   | exact ih2 _ _
   | exact impl_Gcd.mono _ _ _
   | exact impl_ModInv.mono _ _ _
   | exact impl_ModMul.mono _ _ _ _
   | exact impl_ModPow.mono _ _ _ _
   | exact impl_NatOf.mono _ _
   | exact laws_sameInts.mono _ _ _
   | exact spec_DrawGcd.mono _ _
   | exact spec_DrawModInv.mono _ _
   | exact spec_NatOk.mono _ _
   | exact LeO.none _
   | refine LeO.ite ?_ ?_
   | refine LeO.bind ?_ (fun _ => ?_)
set_option maxHeartbeats 8000000 in
set_option maxRecDepth 100000 in
theorem laws_FnPowers.calls (k : Nat) (A0 : Option Addr) (c0 : Nat) (l0 : List Int) (r : Bool) (w : World) (hr0 : Kd.C (Kd.int .u8) w A0 l0.length l0) (hc0 : l0.length ≤ c0) (h : laws_FnPowers.f k l0 = some r) :
  Calls Try.prog 7 #[.slice A0 l0.length c0] w fun e w' => e = .returned (.bool r) ∧ Below w.heap.size w w' := by
 have HR0 := Aside0.mk hr0; have HC0 := Aside0.mk hc0; clear hr0 hc0; have HB := Aside0.mk (Below.refl w.heap.size w)
 have H : ((laws_big.f l0).bind fun t450 => (if t450 = true then (some true) else ((spec_DrawModInv.f k l0).bind fun bt451 => ((spec_NatOk.f k bt451.1).bind fun t457 => (if t457 = true then ((spec_NatOk.f k bt451.2).bind fun t458 => (if t458 = true then (if (bt451.2.length : Int) = 0 then (laws_FnPowers.j0 k l0 bt451.1 bt451.2 true) else (laws_FnPowers.j0 k l0 bt451.1 bt451.2 (decide ((bt451.2.length : Int) > 20)))) else (laws_FnPowers.j0 k l0 bt451.1 bt451.2 true))) else (laws_FnPowers.j0 k l0 bt451.1 bt451.2 true)))))) = some r := h
 clear h; obtain ⟨t450, A20, H⟩ := pb_ H
 have A2 := Aside0.mk A20; clear A20
 by_cases c3 : t450 = true
 ·
  subst c3
  rw [if_pos rfl] at H; obtain rfl := Option.some.inj H
  go_enter Try.func7, Try.ntmps7
  go_wp2_with (first | ((with_reducible refine gate_callee (f := 20) rfl ?_); refine gl_ 29 rfl rfl Try.func20 #[.slice A0 l0.length c0] rfl ?_; (with_reducible refine (laws_big.calls _ _ l0 true _ ?side1 ?side2 A2.out).mono ?_); (case side1 => repeat (first | exact HR0.out | (with_reducible refine Kd.C_alloc ?_ _) | (with_reducible refine Kd.C_drewN ?_ _) | (with_reducible refine Kd.C_drew ?_))); (case side2 => exact HC0.out); rintro e w' ⟨rfl, ⟨nd, rfl⟩⟩; refine ⟨_, rfl, ?_⟩))
  go_ret
  exact ⟨by first | rfl | (simp [errW_none, errW_some] <;> rfl) | (simp [*, errW_none, errW_some] <;> rfl), by repeat (first | (with_reducible first | exact HB.out | apply below_alloc | apply pw_below_drewN | apply below_drew1) | exact HB.out)⟩
 ·
  replace c3 := Bool.eq_false_iff.mpr c3; subst c3
  rw [if_neg (show ¬ (false = true) by decide)] at H; obtain ⟨⟨t451, t452⟩, A40, H⟩ := pb_ H
  have A4 := Aside0.mk A40; clear A40; have HC5 := Aside0.mk H; clear H
  go_enter Try.func7, Try.ntmps7
  go_upto_region 4 with (first | ((with_reducible refine gate_callee (f := 20) rfl ?_); refine gl_ 29 rfl rfl Try.func20 #[.slice A0 l0.length c0] rfl ?_; (with_reducible refine (laws_big.calls _ _ l0 false _ ?side1 ?side2 A2.out).mono ?_); (case side1 => repeat (first | exact HR0.out | (with_reducible refine Kd.C_alloc ?_ _) | (with_reducible refine Kd.C_drewN ?_ _) | (with_reducible refine Kd.C_drew ?_))); (case side2 => exact HC0.out); rintro e w' ⟨rfl, ⟨nd, rfl⟩⟩; refine ⟨_, rfl, ?_⟩) | ((with_reducible refine gate_callee (f := 30) rfl ?_); refine gl_ 32 rfl rfl Try.func30 #[.slice A0 l0.length c0] rfl ?_; (with_reducible refine (spec_DrawModInv.calls k _ _ l0 t451 t452 _ ?side1 ?side2 A4.out).mono ?_); (case side1 => repeat (first | exact HR0.out | (with_reducible refine Kd.C_alloc ?_ _) | (with_reducible refine Kd.C_drewN ?_ _) | (with_reducible refine Kd.C_drew ?_))); (case side2 => exact HC0.out); rintro e w6 ⟨v453, v455, rfl, ho0, ho1, hb⟩; refine ⟨_, rfl, ?_⟩; have HO454 := Aside0.mk (Kd.R_lower ho0 (below_size (bw_ HB))); have HO456 := Aside0.mk (Kd.R_lower ho1 (below_size (bw_ HB))); replace HB := bs_ HB hb; (try clear hb); (try clear hb2); (try clear hk); (try clear hi); (try clear ho0); (try clear ho1)))
  (try simp only [Act.put, sA_, sZ_, sS_])
  go_cut [52] (fun v52 wc => ∃ (kq : Nat) (x52_4 : Bool), v52 = .bool x52_4 ∧ Aside0 (laws_FnPowers.j0 kq l0 t451 t452 x52_4 = some r) ∧ Aside0 (kq ≤ k) ∧ Aside0 (Kd.R (Kd.int .i64) 3 wc w.heap.size (fun k_ => some k_ ≠ (v455 : Value).ownBlock) v453 t451) ∧ Aside0 (Kd.R (Kd.int .i64) 3 wc w.heap.size (fun k_ => some k_ ≠ (v453 : Value).ownBlock) v455 t452) ∧ Aside0 (Below w.heap.size w wc))
  case first =>
   have H := HC5.out; clear HC5; obtain ⟨t457, A70, H⟩ := pb_ H
   have A7 := Aside0.mk A70; clear A70
   by_cases c8 : t457 = true
   ·
    subst c8
    rw [if_pos rfl] at H; obtain ⟨t458, A90, H⟩ := pb_ H
    have A9 := Aside0.mk A90; clear A90
    by_cases c10 : t458 = true
    ·
     subst c10; rw [if_pos rfl] at H
     by_cases c11 : (t452.length : Int) = 0
     ·
      rw [if_pos c11] at H
      have c11b0 : ((t452.length : Int) == 0) = true := beq_iff_eq.mpr c11
      have c11b1 : ((t452.length : Int) != 0) = false := bne_eq_false_iff_eq.mpr c11
      clear c11
      (first | rw [c11b0] | (simp only [i64_w, i32_w]; rw [c11b0]) | skip)
      have H' := Aside0.mk H
      clear H; obtain ⟨Ao12, co12, eo12⟩ := Kd.R_slice HO454.out; subst eo12
      go_wp2_with (first | ((with_reducible refine gate_callee (f := 31) rfl ?_); refine gl_ 36 rfl rfl Try.func31 #[.slice Ao12 t451.length co12] rfl ?_; (with_reducible refine (spec_NatOk.calls k _ _ t451 true _ ?side1 ?side2 A7.out).mono ?_); (case side1 => repeat (first | exact (Kd.R_reads' HO454.out).2.2 | (with_reducible refine Kd.C_alloc ?_ _) | (with_reducible refine Kd.C_drewN ?_ _) | (with_reducible refine Kd.C_drew ?_))); (case side2 => exact (Kd.R_reads' HO454.out).2.1); rintro e w' ⟨rfl, ⟨nd, rfl⟩⟩; refine ⟨_, rfl, ?_⟩; obtain ⟨Ao13, co13, eo13⟩ := Kd.R_slice HO456.out; subst eo13) | (go_at_call 31; (with_reducible refine (spec_NatOk.calls k _ _ t452 true _ ?side1 ?side2 A9.out).mono ?_); (case side1 => repeat (first | exact (Kd.R_reads' HO456.out).2.2 | (with_reducible refine Kd.C_alloc ?_ _) | (with_reducible refine Kd.C_drewN ?_ _) | (with_reducible refine Kd.C_drew ?_))); (case side2 => exact (Kd.R_reads' HO456.out).2.1); rintro e w' ⟨rfl, ⟨nd, rfl⟩⟩))
      go_meet
      case rel => exact ⟨_, (true), (by first | rfl | (simp; done) | (simp [*]; done)), H', ⟨by first | omega | exact Nat.le_refl _⟩, ⟨by (with_reducible repeat (first | apply Kd.R_alloc | apply Kd.R_drewN | apply Kd.R_drew)); exact HO454.out⟩, ⟨by (with_reducible repeat (first | apply Kd.R_alloc | apply Kd.R_drewN | apply Kd.R_drew)); exact HO456.out⟩, ⟨bw_ HB⟩⟩
     ·
      rw [if_neg c11] at H
      have c11b0 : ((t452.length : Int) == 0) = false := beq_eq_false_iff_ne.mpr c11
      have c11b1 : ((t452.length : Int) != 0) = true := bne_iff_ne.mpr c11
      have c11b2 : ¬ (t452 = []) := fun h_ => c11 (by rw [h_]; rfl)
      (first | rw [c11b0] | (simp only [i64_w, i32_w]; rw [c11b0]) | skip)
      have H' := Aside0.mk H
      clear H; obtain ⟨Ao14, co14, eo14⟩ := Kd.R_slice HO454.out; subst eo14
      go_wp2_with (first | ((with_reducible refine gate_callee (f := 31) rfl ?_); refine gl_ 36 rfl rfl Try.func31 #[.slice Ao14 t451.length co14] rfl ?_; (with_reducible refine (spec_NatOk.calls k _ _ t451 true _ ?side1 ?side2 A7.out).mono ?_); (case side1 => repeat (first | exact (Kd.R_reads' HO454.out).2.2 | (with_reducible refine Kd.C_alloc ?_ _) | (with_reducible refine Kd.C_drewN ?_ _) | (with_reducible refine Kd.C_drew ?_))); (case side2 => exact (Kd.R_reads' HO454.out).2.1); rintro e w' ⟨rfl, ⟨nd, rfl⟩⟩; refine ⟨_, rfl, ?_⟩; obtain ⟨Ao15, co15, eo15⟩ := Kd.R_slice HO456.out; subst eo15) | (go_at_call 31; (with_reducible refine (spec_NatOk.calls k _ _ t452 true _ ?side1 ?side2 A9.out).mono ?_); (case side1 => repeat (first | exact (Kd.R_reads' HO456.out).2.2 | (with_reducible refine Kd.C_alloc ?_ _) | (with_reducible refine Kd.C_drewN ?_ _) | (with_reducible refine Kd.C_drew ?_))); (case side2 => exact (Kd.R_reads' HO456.out).2.1); rintro e w' ⟨rfl, ⟨nd, rfl⟩⟩))
      go_meet
      case rel => exact ⟨_, (decide ((t452.length : Int) > 20)), (by first | rfl | (simp; done) | (simp [*]; done)), H', ⟨by first | omega | exact Nat.le_refl _⟩, ⟨by (with_reducible repeat (first | apply Kd.R_alloc | apply Kd.R_drewN | apply Kd.R_drew)); exact HO454.out⟩, ⟨by (with_reducible repeat (first | apply Kd.R_alloc | apply Kd.R_drewN | apply Kd.R_drew)); exact HO456.out⟩, ⟨bw_ HB⟩⟩
    ·
     replace c10 := Bool.eq_false_iff.mpr c10; subst c10
     rw [if_neg (show ¬ (false = true) by decide)] at H
     have H' := Aside0.mk H
     clear H; obtain ⟨Ao16, co16, eo16⟩ := Kd.R_slice HO454.out; subst eo16
     go_wp2_with (first | ((with_reducible refine gate_callee (f := 31) rfl ?_); refine gl_ 36 rfl rfl Try.func31 #[.slice Ao16 t451.length co16] rfl ?_; (with_reducible refine (spec_NatOk.calls k _ _ t451 true _ ?side1 ?side2 A7.out).mono ?_); (case side1 => repeat (first | exact (Kd.R_reads' HO454.out).2.2 | (with_reducible refine Kd.C_alloc ?_ _) | (with_reducible refine Kd.C_drewN ?_ _) | (with_reducible refine Kd.C_drew ?_))); (case side2 => exact (Kd.R_reads' HO454.out).2.1); rintro e w' ⟨rfl, ⟨nd, rfl⟩⟩; refine ⟨_, rfl, ?_⟩; obtain ⟨Ao17, co17, eo17⟩ := Kd.R_slice HO456.out; subst eo17) | (go_at_call 31; (with_reducible refine (spec_NatOk.calls k _ _ t452 false _ ?side1 ?side2 A9.out).mono ?_); (case side1 => repeat (first | exact (Kd.R_reads' HO456.out).2.2 | (with_reducible refine Kd.C_alloc ?_ _) | (with_reducible refine Kd.C_drewN ?_ _) | (with_reducible refine Kd.C_drew ?_))); (case side2 => exact (Kd.R_reads' HO456.out).2.1); rintro e w' ⟨rfl, ⟨nd, rfl⟩⟩))
     go_meet
     case rel => exact ⟨_, (true), (by first | rfl | (simp; done) | (simp [*]; done)), H', ⟨by first | omega | exact Nat.le_refl _⟩, ⟨by (with_reducible repeat (first | apply Kd.R_alloc | apply Kd.R_drewN | apply Kd.R_drew)); exact HO454.out⟩, ⟨by (with_reducible repeat (first | apply Kd.R_alloc | apply Kd.R_drewN | apply Kd.R_drew)); exact HO456.out⟩, ⟨bw_ HB⟩⟩
   ·
    replace c8 := Bool.eq_false_iff.mpr c8; subst c8
    rw [if_neg (show ¬ (false = true) by decide)] at H
    have H' := Aside0.mk H
    clear H; obtain ⟨Ao18, co18, eo18⟩ := Kd.R_slice HO454.out; subst eo18
    go_wp2_with (first | ((with_reducible refine gate_callee (f := 31) rfl ?_); refine gl_ 36 rfl rfl Try.func31 #[.slice Ao18 t451.length co18] rfl ?_; (with_reducible refine (spec_NatOk.calls k _ _ t451 false _ ?side1 ?side2 A7.out).mono ?_); (case side1 => repeat (first | exact (Kd.R_reads' HO454.out).2.2 | (with_reducible refine Kd.C_alloc ?_ _) | (with_reducible refine Kd.C_drewN ?_ _) | (with_reducible refine Kd.C_drew ?_))); (case side2 => exact (Kd.R_reads' HO454.out).2.1); rintro e w' ⟨rfl, ⟨nd, rfl⟩⟩; refine ⟨_, rfl, ?_⟩))
    go_meet
    case rel => exact ⟨_, (true), (by first | rfl | (simp; done) | (simp [*]; done)), H', ⟨by first | omega | exact Nat.le_refl _⟩, ⟨by (with_reducible repeat (first | apply Kd.R_alloc | apply Kd.R_drewN | apply Kd.R_drew)); exact HO454.out⟩, ⟨by (with_reducible repeat (first | apply Kd.R_alloc | apply Kd.R_drewN | apply Kd.R_drew)); exact HO456.out⟩, ⟨bw_ HB⟩⟩
  case rest =>
   clear HC5
   try clear c1
   try clear c2
   try clear p2
   try clear c3
   try clear c7
   try clear c8
   try clear c10
   try clear c11
   try clear c11b0
   try clear c11b1
   try clear c11b2
   obtain ⟨kq, x52_4, rfl, HA, HJ4, HO_3, HO_4, HB⟩ := hcut
   cases kq with
   | zero => exact absurd HA.out (by simp [laws_FnPowers.j0])
   | succ kj4 =>
    have H := HA.out; clear HA
    simp only [laws_FnPowers.j0] at H
    by_cases c19 : x52_4 = true
    ·
     subst c19
     rw [if_pos rfl] at H; obtain rfl := Option.some.inj H
     go_wp2
     go_ret
     exact ⟨by first | rfl | (simp [errW_none, errW_some] <;> rfl) | (simp [*, errW_none, errW_some] <;> rfl), by repeat (first | (with_reducible first | exact HB.out | apply below_alloc | apply pw_below_drewN | apply below_drew1) | exact HB.out)⟩
    ·
     replace c19 := Bool.eq_false_iff.mpr c19; subst c19
     rw [if_neg (show ¬ (false = true) by decide)] at H; obtain ⟨t459, A200, H⟩ := pb_ H
     have A20 := Aside0.mk A200; clear A200; obtain ⟨t460, A210, H⟩ := pb_ H
     have A21 := Aside0.mk A210; clear A210; obtain ⟨⟨t461, t462⟩, A220, H⟩ := pb_ H
     have A22 := Aside0.mk A220; clear A220; obtain ⟨⟨t465, t466⟩, A230, H⟩ := pb_ H
     have A23 := Aside0.mk A230; clear A230; obtain ⟨⟨t469, t470⟩, A240, H⟩ := pb_ H
     have A24 := Aside0.mk A240; clear A240; obtain ⟨⟨t473, t476⟩, A250, H⟩ := pb_ H
     have A25 := Aside0.mk A250; clear A250; obtain ⟨⟨t477, t480⟩, A260, H⟩ := pb_ H
     have A26 := Aside0.mk A260; clear A260; obtain ⟨⟨t481, t484⟩, A270, H⟩ := pb_ H
     have A27 := Aside0.mk A270; clear A270; obtain ⟨⟨t485, t488⟩, A280, H⟩ := pb_ H
     have A28 := Aside0.mk A280; clear A280; have HC29 := Aside0.mk H; clear H
     go_upto_region 14 with (first | ((with_reducible refine gate_callee (f := 21) rfl ?_); refine gl_ 54 rfl rfl Try.func21 #[.slice A0 l0.length c0, .int .i64 0] rfl ?_; (with_reducible refine (laws_at.calls _ _ l0 0 t459 _ ?side1 ?side2 A20.out).mono ?_); (case side1 => repeat (first | exact (Kd.C_below HR0.out HB.out) | (with_reducible refine Kd.C_alloc ?_ _) | (with_reducible refine Kd.C_drewN ?_ _) | (with_reducible refine Kd.C_drew ?_))); (case side2 => exact HC0.out); rintro e w' ⟨rfl, ⟨nd, rfl⟩⟩; refine ⟨_, rfl, ?_⟩) | ((with_reducible refine gate_callee (f := 21) rfl ?_); refine gl_ 56 rfl rfl Try.func21 #[.slice A0 l0.length c0, .int .i64 1] rfl ?_; (with_reducible refine (laws_at.calls _ _ l0 1 t460 _ ?side1 ?side2 A21.out).mono ?_); (case side1 => repeat (first | exact (Kd.C_below HR0.out (bw_ HB)) | (with_reducible refine Kd.C_alloc ?_ _) | (with_reducible refine Kd.C_drewN ?_ _) | (with_reducible refine Kd.C_drew ?_))); (case side2 => exact HC0.out); rintro e w' ⟨rfl, ⟨nd, rfl⟩⟩; refine ⟨_, rfl, ?_⟩) | ((with_reducible refine gate_callee (f := 23) rfl ?_); refine gl_ 59 rfl rfl Try.func23 #[.int .i64 t459] rfl ?_; (with_reducible refine (impl_NatOf.calls kj4 t459 t461 t462 _ A22.out).mono ?_); rintro e w30 ⟨v463, rfl, ho0, hb⟩; refine ⟨_, rfl, ?_⟩; have n0_ := Aside0.mk (Kd.R_elder' (by (with_reducible repeat (first | apply Kd.R_alloc | apply Kd.R_drewN | apply Kd.R_drew)); exact HO_3.out) (Kd.R_base ho0) hb); have n1_ := Aside0.mk (Kd.R_elder' (by (with_reducible repeat (first | apply Kd.R_alloc | apply Kd.R_drewN | apply Kd.R_drew)); exact HO_4.out) (Kd.R_base ho0) hb); have n2_ := Aside0.mk (Kd.R_lower (Kd.R_new' (Kd.R_new' ho0 (Kd.R_lt (by (with_reducible repeat (first | apply Kd.R_alloc | apply Kd.R_drewN | apply Kd.R_drew)); exact HO_3.out))) (Kd.R_lt (by (with_reducible repeat (first | apply Kd.R_alloc | apply Kd.R_drewN | apply Kd.R_drew)); exact HO_4.out))) (below_size (bw_ HB))); have n3_ := bs_ HB hb; clear HO_3; clear HO_4; clear HB; have HO_3 := n0_; have HO_4 := n1_; have HO464 := n2_; have HB := n3_; clear n0_ n1_ n2_ n3_; (try clear hb); (try clear hb2); (try clear hk); (try clear hi); (try clear ho0)) | ((with_reducible refine gate_callee (f := 23) rfl ?_); refine gl_ 64 rfl rfl Try.func23 #[.int .i64 t460] rfl ?_; (with_reducible refine (impl_NatOf.calls kj4 t460 t465 t466 _ A23.out).mono ?_); rintro e w31 ⟨v467, rfl, ho0, hb⟩; refine ⟨_, rfl, ?_⟩; have n0_ := Aside0.mk (Kd.R_elder' (by (with_reducible repeat (first | apply Kd.R_alloc | apply Kd.R_drewN | apply Kd.R_drew)); exact HO_3.out) (Kd.R_base ho0) hb); have n1_ := Aside0.mk (Kd.R_elder' (by (with_reducible repeat (first | apply Kd.R_alloc | apply Kd.R_drewN | apply Kd.R_drew)); exact HO_4.out) (Kd.R_base ho0) hb); have n2_ := Aside0.mk (Kd.R_elder' (by (with_reducible repeat (first | apply Kd.R_alloc | apply Kd.R_drewN | apply Kd.R_drew)); exact HO464.out) (Kd.R_base ho0) hb); have n3_ := Aside0.mk (Kd.R_lower (Kd.R_new' (Kd.R_new' (Kd.R_new' ho0 (Kd.R_lt (by (with_reducible repeat (first | apply Kd.R_alloc | apply Kd.R_drewN | apply Kd.R_drew)); exact HO_3.out))) (Kd.R_lt (by (with_reducible repeat (first | apply Kd.R_alloc | apply Kd.R_drewN | apply Kd.R_drew)); exact HO_4.out))) (Kd.R_lt (by (with_reducible repeat (first | apply Kd.R_alloc | apply Kd.R_drewN | apply Kd.R_drew)); exact HO464.out))) (below_size (bw_ HB))); have n4_ := bs_ HB hb; clear HO_3; clear HO_4; clear HO464; clear HB; have HO_3 := n0_; have HO_4 := n1_; have HO464 := n2_; have HO468 := n3_; have HB := n4_; clear n0_ n1_ n2_ n3_ n4_; (try clear hb); (try clear hb2); (try clear hk); (try clear hi); (try clear ho0)) | ((with_reducible refine gate_callee (f := 23) rfl ?_); refine gl_ 71 rfl rfl Try.func23 #[.int .i64 (wrap64 (t459 + t460))] rfl ?_; (with_reducible refine (impl_NatOf.calls kj4 (wrap64 (t459 + t460)) t469 t470 _ A24.out).mono ?_); rintro e w32 ⟨v471, rfl, ho0, hb⟩; refine ⟨_, rfl, ?_⟩; have n0_ := Aside0.mk (Kd.R_elder' (by (with_reducible repeat (first | apply Kd.R_alloc | apply Kd.R_drewN | apply Kd.R_drew)); exact HO_3.out) (Kd.R_base ho0) hb); have n1_ := Aside0.mk (Kd.R_elder' (by (with_reducible repeat (first | apply Kd.R_alloc | apply Kd.R_drewN | apply Kd.R_drew)); exact HO_4.out) (Kd.R_base ho0) hb); have n2_ := Aside0.mk (Kd.R_elder' (by (with_reducible repeat (first | apply Kd.R_alloc | apply Kd.R_drewN | apply Kd.R_drew)); exact HO464.out) (Kd.R_base ho0) hb); have n3_ := Aside0.mk (Kd.R_elder' (by (with_reducible repeat (first | apply Kd.R_alloc | apply Kd.R_drewN | apply Kd.R_drew)); exact HO468.out) (Kd.R_base ho0) hb); have n4_ := Aside0.mk (Kd.R_lower (Kd.R_new' (Kd.R_new' (Kd.R_new' (Kd.R_new' ho0 (Kd.R_lt (by (with_reducible repeat (first | apply Kd.R_alloc | apply Kd.R_drewN | apply Kd.R_drew)); exact HO_3.out))) (Kd.R_lt (by (with_reducible repeat (first | apply Kd.R_alloc | apply Kd.R_drewN | apply Kd.R_drew)); exact HO_4.out))) (Kd.R_lt (by (with_reducible repeat (first | apply Kd.R_alloc | apply Kd.R_drewN | apply Kd.R_drew)); exact HO464.out))) (Kd.R_lt (by (with_reducible repeat (first | apply Kd.R_alloc | apply Kd.R_drewN | apply Kd.R_drew)); exact HO468.out))) (below_size (bw_ HB))); have n5_ := bs_ HB hb; clear HO_3; clear HO_4; clear HO464; clear HO468; clear HB; have HO_3 := n0_; have HO_4 := n1_; have HO464 := n2_; have HO468 := n3_; have HO472 := n4_; have HB := n5_; clear n0_ n1_ n2_ n3_ n4_ n5_; (try clear hb); (try clear hb2); (try clear hk); (try clear hi); (try clear ho0); obtain ⟨Ao33, co33, eo33⟩ := Kd.R_slice HO_3.out; subst eo33; obtain ⟨Ao34, co34, eo34⟩ := Kd.R_slice HO464.out; subst eo34; obtain ⟨Ao35, co35, eo35⟩ := Kd.R_slice HO_4.out; subst eo35) | ((with_reducible refine gate_callee (f := 19) rfl ?_); refine gl_ 78 rfl rfl Try.func19 #[.slice Ao33 t451.length co33, .slice Ao34 t461.length co34, .slice Ao35 t452.length co35] rfl ?_; (with_reducible refine (impl_ModPow.calls kj4 (fun k_ => some k_ = (.slice Ao33 t451.length co33 : Value).ownBlock) _ _ t451 (fun k_ => some k_ = (.slice Ao34 t461.length co34 : Value).ownBlock) _ _ t461 (fun k_ => some k_ = (.slice Ao35 t452.length co35 : Value).ownBlock) _ _ t452 t473 t476 _ ?side1 ?side2 ?side3 A25.out).mono ?_); (case side1 => exact Kd.R_V (Kd.R_tight rfl (HO_3.out))); (case side2 => exact Kd.R_V (Kd.R_tight rfl (HO464.out))); (case side3 => exact Kd.R_V (Kd.R_tight rfl (HO_4.out))); rintro e w36 ⟨v474, rfl, ho0, hb⟩; refine ⟨_, rfl, ?_⟩; have n0_ := Aside0.mk (Kd.R_elder' (by (with_reducible repeat (first | apply Kd.R_alloc | apply Kd.R_drewN | apply Kd.R_drew)); exact HO_3.out) (Kd.R_base ho0) hb); have n1_ := Aside0.mk (Kd.R_elder' (by (with_reducible repeat (first | apply Kd.R_alloc | apply Kd.R_drewN | apply Kd.R_drew)); exact HO_4.out) (Kd.R_base ho0) hb); have n2_ := Aside0.mk (Kd.R_elder' (by (with_reducible repeat (first | apply Kd.R_alloc | apply Kd.R_drewN | apply Kd.R_drew)); exact HO464.out) (Kd.R_base ho0) hb); have n3_ := Aside0.mk (Kd.R_elder' (by (with_reducible repeat (first | apply Kd.R_alloc | apply Kd.R_drewN | apply Kd.R_drew)); exact HO468.out) (Kd.R_base ho0) hb); have n4_ := Aside0.mk (Kd.R_elder' (by (with_reducible repeat (first | apply Kd.R_alloc | apply Kd.R_drewN | apply Kd.R_drew)); exact HO472.out) (Kd.R_base ho0) hb); have n5_ := Aside0.mk (Kd.R_lower (Kd.R_new' (Kd.R_new' (Kd.R_new' (Kd.R_new' (Kd.R_new' (Kd.R_mono (ok' := fun k_ => True) ho0 (fun _ hk_ => trivial)) (Kd.R_lt (by (with_reducible repeat (first | apply Kd.R_alloc | apply Kd.R_drewN | apply Kd.R_drew)); exact HO_3.out))) (Kd.R_lt (by (with_reducible repeat (first | apply Kd.R_alloc | apply Kd.R_drewN | apply Kd.R_drew)); exact HO_4.out))) (Kd.R_lt (by (with_reducible repeat (first | apply Kd.R_alloc | apply Kd.R_drewN | apply Kd.R_drew)); exact HO464.out))) (Kd.R_lt (by (with_reducible repeat (first | apply Kd.R_alloc | apply Kd.R_drewN | apply Kd.R_drew)); exact HO468.out))) (Kd.R_lt (by (with_reducible repeat (first | apply Kd.R_alloc | apply Kd.R_drewN | apply Kd.R_drew)); exact HO472.out))) (below_size (bw_ HB))); have n6_ := bs_ HB hb; clear HO_3; clear HO_4; clear HO464; clear HO468; clear HO472; clear HB; have HO_3 := n0_; have HO_4 := n1_; have HO464 := n2_; have HO468 := n3_; have HO472 := n4_; have HO475 := n5_; have HB := n6_; clear n0_ n1_ n2_ n3_ n4_ n5_ n6_; (try clear hb); (try clear hb2); (try clear hk); (try clear hi); (try clear ho0); obtain ⟨Ao37, co37, eo37⟩ := Kd.R_slice HO468.out; subst eo37) | ((with_reducible refine gate_callee (f := 19) rfl ?_); refine gl_ 85 rfl rfl Try.func19 #[.slice Ao33 t451.length co33, .slice Ao37 t465.length co37, .slice Ao35 t452.length co35] rfl ?_; (with_reducible refine (impl_ModPow.calls kj4 (fun k_ => some k_ = (.slice Ao33 t451.length co33 : Value).ownBlock) _ _ t451 (fun k_ => some k_ = (.slice Ao37 t465.length co37 : Value).ownBlock) _ _ t465 (fun k_ => some k_ = (.slice Ao35 t452.length co35 : Value).ownBlock) _ _ t452 t477 t480 _ ?side1 ?side2 ?side3 A26.out).mono ?_); (case side1 => exact Kd.R_V (Kd.R_tight rfl (HO_3.out))); (case side2 => exact Kd.R_V (Kd.R_tight rfl (HO468.out))); (case side3 => exact Kd.R_V (Kd.R_tight rfl (HO_4.out))); rintro e w38 ⟨v478, rfl, ho0, hb⟩; refine ⟨_, rfl, ?_⟩; have n0_ := Aside0.mk (Kd.R_elder' (by (with_reducible repeat (first | apply Kd.R_alloc | apply Kd.R_drewN | apply Kd.R_drew)); exact HO_3.out) (Kd.R_base ho0) hb); have n1_ := Aside0.mk (Kd.R_elder' (by (with_reducible repeat (first | apply Kd.R_alloc | apply Kd.R_drewN | apply Kd.R_drew)); exact HO_4.out) (Kd.R_base ho0) hb); have n2_ := Aside0.mk (Kd.R_elder' (by (with_reducible repeat (first | apply Kd.R_alloc | apply Kd.R_drewN | apply Kd.R_drew)); exact HO464.out) (Kd.R_base ho0) hb); have n3_ := Aside0.mk (Kd.R_elder' (by (with_reducible repeat (first | apply Kd.R_alloc | apply Kd.R_drewN | apply Kd.R_drew)); exact HO468.out) (Kd.R_base ho0) hb); have n4_ := Aside0.mk (Kd.R_elder' (by (with_reducible repeat (first | apply Kd.R_alloc | apply Kd.R_drewN | apply Kd.R_drew)); exact HO472.out) (Kd.R_base ho0) hb); have n5_ := Aside0.mk (Kd.R_elder' (by (with_reducible repeat (first | apply Kd.R_alloc | apply Kd.R_drewN | apply Kd.R_drew)); exact HO475.out) (Kd.R_base ho0) hb); have n6_ := Aside0.mk (Kd.R_lower (Kd.R_new' (Kd.R_new' (Kd.R_new' (Kd.R_new' (Kd.R_new' (Kd.R_new' (Kd.R_mono (ok' := fun k_ => True) ho0 (fun _ hk_ => trivial)) (Kd.R_lt (by (with_reducible repeat (first | apply Kd.R_alloc | apply Kd.R_drewN | apply Kd.R_drew)); exact HO_3.out))) (Kd.R_lt (by (with_reducible repeat (first | apply Kd.R_alloc | apply Kd.R_drewN | apply Kd.R_drew)); exact HO_4.out))) (Kd.R_lt (by (with_reducible repeat (first | apply Kd.R_alloc | apply Kd.R_drewN | apply Kd.R_drew)); exact HO464.out))) (Kd.R_lt (by (with_reducible repeat (first | apply Kd.R_alloc | apply Kd.R_drewN | apply Kd.R_drew)); exact HO468.out))) (Kd.R_lt (by (with_reducible repeat (first | apply Kd.R_alloc | apply Kd.R_drewN | apply Kd.R_drew)); exact HO472.out))) (Kd.R_lt (by (with_reducible repeat (first | apply Kd.R_alloc | apply Kd.R_drewN | apply Kd.R_drew)); exact HO475.out))) (below_size (bw_ HB))); have n7_ := bs_ HB hb; clear HO_3; clear HO_4; clear HO464; clear HO468; clear HO472; clear HO475; clear HB; have HO_3 := n0_; have HO_4 := n1_; have HO464 := n2_; have HO468 := n3_; have HO472 := n4_; have HO475 := n5_; have HO479 := n6_; have HB := n7_; clear n0_ n1_ n2_ n3_ n4_ n5_ n6_ n7_; (try clear hb); (try clear hb2); (try clear hk); (try clear hi); (try clear ho0); obtain ⟨Ao39, co39, eo39⟩ := Kd.R_slice HO472.out; subst eo39) | ((with_reducible refine gate_callee (f := 19) rfl ?_); refine gl_ 92 rfl rfl Try.func19 #[.slice Ao33 t451.length co33, .slice Ao39 t469.length co39, .slice Ao35 t452.length co35] rfl ?_; (with_reducible refine (impl_ModPow.calls kj4 (fun k_ => some k_ = (.slice Ao33 t451.length co33 : Value).ownBlock) _ _ t451 (fun k_ => some k_ = (.slice Ao39 t469.length co39 : Value).ownBlock) _ _ t469 (fun k_ => some k_ = (.slice Ao35 t452.length co35 : Value).ownBlock) _ _ t452 t481 t484 _ ?side1 ?side2 ?side3 A27.out).mono ?_); (case side1 => exact Kd.R_V (Kd.R_tight rfl (HO_3.out))); (case side2 => exact Kd.R_V (Kd.R_tight rfl (HO472.out))); (case side3 => exact Kd.R_V (Kd.R_tight rfl (HO_4.out))); rintro e w40 ⟨v482, rfl, ho0, hb⟩; refine ⟨_, rfl, ?_⟩; have n0_ := Aside0.mk (Kd.R_elder' (by (with_reducible repeat (first | apply Kd.R_alloc | apply Kd.R_drewN | apply Kd.R_drew)); exact HO_3.out) (Kd.R_base ho0) hb); have n1_ := Aside0.mk (Kd.R_elder' (by (with_reducible repeat (first | apply Kd.R_alloc | apply Kd.R_drewN | apply Kd.R_drew)); exact HO_4.out) (Kd.R_base ho0) hb); have n2_ := Aside0.mk (Kd.R_elder' (by (with_reducible repeat (first | apply Kd.R_alloc | apply Kd.R_drewN | apply Kd.R_drew)); exact HO464.out) (Kd.R_base ho0) hb); have n3_ := Aside0.mk (Kd.R_elder' (by (with_reducible repeat (first | apply Kd.R_alloc | apply Kd.R_drewN | apply Kd.R_drew)); exact HO468.out) (Kd.R_base ho0) hb); have n4_ := Aside0.mk (Kd.R_elder' (by (with_reducible repeat (first | apply Kd.R_alloc | apply Kd.R_drewN | apply Kd.R_drew)); exact HO472.out) (Kd.R_base ho0) hb); have n5_ := Aside0.mk (Kd.R_elder' (by (with_reducible repeat (first | apply Kd.R_alloc | apply Kd.R_drewN | apply Kd.R_drew)); exact HO475.out) (Kd.R_base ho0) hb); have n6_ := Aside0.mk (Kd.R_elder' (by (with_reducible repeat (first | apply Kd.R_alloc | apply Kd.R_drewN | apply Kd.R_drew)); exact HO479.out) (Kd.R_base ho0) hb); have n7_ := Aside0.mk (Kd.R_lower (Kd.R_new' (Kd.R_new' (Kd.R_new' (Kd.R_new' (Kd.R_new' (Kd.R_new' (Kd.R_new' (Kd.R_mono (ok' := fun k_ => True) ho0 (fun _ hk_ => trivial)) (Kd.R_lt (by (with_reducible repeat (first | apply Kd.R_alloc | apply Kd.R_drewN | apply Kd.R_drew)); exact HO_3.out))) (Kd.R_lt (by (with_reducible repeat (first | apply Kd.R_alloc | apply Kd.R_drewN | apply Kd.R_drew)); exact HO_4.out))) (Kd.R_lt (by (with_reducible repeat (first | apply Kd.R_alloc | apply Kd.R_drewN | apply Kd.R_drew)); exact HO464.out))) (Kd.R_lt (by (with_reducible repeat (first | apply Kd.R_alloc | apply Kd.R_drewN | apply Kd.R_drew)); exact HO468.out))) (Kd.R_lt (by (with_reducible repeat (first | apply Kd.R_alloc | apply Kd.R_drewN | apply Kd.R_drew)); exact HO472.out))) (Kd.R_lt (by (with_reducible repeat (first | apply Kd.R_alloc | apply Kd.R_drewN | apply Kd.R_drew)); exact HO475.out))) (Kd.R_lt (by (with_reducible repeat (first | apply Kd.R_alloc | apply Kd.R_drewN | apply Kd.R_drew)); exact HO479.out))) (below_size (bw_ HB))); have n8_ := bs_ HB hb; clear HO_3; clear HO_4; clear HO464; clear HO468; clear HO472; clear HO475; clear HO479; clear HB; have HO_3 := n0_; have HO_4 := n1_; have HO464 := n2_; have HO468 := n3_; have HO472 := n4_; have HO475 := n5_; have HO479 := n6_; have HO483 := n7_; have HB := n8_; clear n0_ n1_ n2_ n3_ n4_ n5_ n6_ n7_ n8_; (try clear hb); (try clear hb2); (try clear hk); (try clear hi); (try clear ho0); obtain ⟨Ao41, co41, eo41⟩ := Kd.R_slice HO475.out; subst eo41; obtain ⟨Ao42, co42, eo42⟩ := Kd.R_slice HO479.out; subst eo42) | ((with_reducible refine gate_callee (f := 17) rfl ?_); refine gl_ 99 rfl rfl Try.func17 #[.slice Ao41 t473.length co41, .slice Ao42 t477.length co42, .slice Ao35 t452.length co35] rfl ?_; (with_reducible refine (impl_ModMul.calls kj4 (fun k_ => some k_ = (.slice Ao41 t473.length co41 : Value).ownBlock) _ _ t473 (fun k_ => some k_ = (.slice Ao42 t477.length co42 : Value).ownBlock) _ _ t477 (fun k_ => some k_ = (.slice Ao35 t452.length co35 : Value).ownBlock) _ _ t452 t485 t488 _ ?side1 ?side2 ?side3 A28.out).mono ?_); (case side1 => exact Kd.R_V (Kd.R_tight rfl (HO475.out))); (case side2 => exact Kd.R_V (Kd.R_tight rfl (HO479.out))); (case side3 => exact Kd.R_V (Kd.R_tight rfl (HO_4.out))); rintro e w43 ⟨v486, rfl, ho0, hb⟩; refine ⟨_, rfl, ?_⟩; have n0_ := Aside0.mk (Kd.R_elder' (by (with_reducible repeat (first | apply Kd.R_alloc | apply Kd.R_drewN | apply Kd.R_drew)); exact HO_3.out) (Kd.R_base ho0) hb); have n1_ := Aside0.mk (Kd.R_elder' (by (with_reducible repeat (first | apply Kd.R_alloc | apply Kd.R_drewN | apply Kd.R_drew)); exact HO_4.out) (Kd.R_base ho0) hb); have n2_ := Aside0.mk (Kd.R_elder' (by (with_reducible repeat (first | apply Kd.R_alloc | apply Kd.R_drewN | apply Kd.R_drew)); exact HO464.out) (Kd.R_base ho0) hb); have n3_ := Aside0.mk (Kd.R_elder' (by (with_reducible repeat (first | apply Kd.R_alloc | apply Kd.R_drewN | apply Kd.R_drew)); exact HO468.out) (Kd.R_base ho0) hb); have n4_ := Aside0.mk (Kd.R_elder' (by (with_reducible repeat (first | apply Kd.R_alloc | apply Kd.R_drewN | apply Kd.R_drew)); exact HO472.out) (Kd.R_base ho0) hb); have n5_ := Aside0.mk (Kd.R_elder' (by (with_reducible repeat (first | apply Kd.R_alloc | apply Kd.R_drewN | apply Kd.R_drew)); exact HO475.out) (Kd.R_base ho0) hb); have n6_ := Aside0.mk (Kd.R_elder' (by (with_reducible repeat (first | apply Kd.R_alloc | apply Kd.R_drewN | apply Kd.R_drew)); exact HO479.out) (Kd.R_base ho0) hb); have n7_ := Aside0.mk (Kd.R_elder' (by (with_reducible repeat (first | apply Kd.R_alloc | apply Kd.R_drewN | apply Kd.R_drew)); exact HO483.out) (Kd.R_base ho0) hb); have n8_ := Aside0.mk (Kd.R_lower (Kd.R_new' (Kd.R_new' (Kd.R_new' (Kd.R_new' (Kd.R_new' (Kd.R_new' (Kd.R_new' (Kd.R_new' (Kd.R_mono (ok' := fun k_ => True) ho0 (fun _ hk_ => trivial)) (Kd.R_lt (by (with_reducible repeat (first | apply Kd.R_alloc | apply Kd.R_drewN | apply Kd.R_drew)); exact HO_3.out))) (Kd.R_lt (by (with_reducible repeat (first | apply Kd.R_alloc | apply Kd.R_drewN | apply Kd.R_drew)); exact HO_4.out))) (Kd.R_lt (by (with_reducible repeat (first | apply Kd.R_alloc | apply Kd.R_drewN | apply Kd.R_drew)); exact HO464.out))) (Kd.R_lt (by (with_reducible repeat (first | apply Kd.R_alloc | apply Kd.R_drewN | apply Kd.R_drew)); exact HO468.out))) (Kd.R_lt (by (with_reducible repeat (first | apply Kd.R_alloc | apply Kd.R_drewN | apply Kd.R_drew)); exact HO472.out))) (Kd.R_lt (by (with_reducible repeat (first | apply Kd.R_alloc | apply Kd.R_drewN | apply Kd.R_drew)); exact HO475.out))) (Kd.R_lt (by (with_reducible repeat (first | apply Kd.R_alloc | apply Kd.R_drewN | apply Kd.R_drew)); exact HO479.out))) (Kd.R_lt (by (with_reducible repeat (first | apply Kd.R_alloc | apply Kd.R_drewN | apply Kd.R_drew)); exact HO483.out))) (below_size (bw_ HB))); have n9_ := bs_ HB hb; clear HO_3; clear HO_4; clear HO464; clear HO468; clear HO472; clear HO475; clear HO479; clear HO483; clear HB; have HO_3 := n0_; have HO_4 := n1_; have HO464 := n2_; have HO468 := n3_; have HO472 := n4_; have HO475 := n5_; have HO479 := n6_; have HO483 := n7_; have HO487 := n8_; have HB := n9_; clear n0_ n1_ n2_ n3_ n4_ n5_ n6_ n7_ n8_ n9_; (try clear hb); (try clear hb2); (try clear hk); (try clear hi); (try clear ho0)))
     (try simp only [Act.put, sA_, sZ_, sS_])
     go_cut [121] (fun v121 wc => ∃ (kq : Nat) (x121_28 : Bool), v121 = .bool x121_28 ∧ Aside0 (laws_FnPowers.j1 kq l0 t451 t452 x121_28 = some r) ∧ Aside0 (kq ≤ kj4) ∧ Aside0 (Kd.R (Kd.int .i64) 3 wc w.heap.size (fun k_ => some k_ ≠ ((.slice Ao35 t452.length co35) : Value).ownBlock) (.slice Ao33 t451.length co33) t451) ∧ Aside0 (Kd.R (Kd.int .i64) 3 wc w.heap.size (fun k_ => some k_ ≠ ((.slice Ao33 t451.length co33) : Value).ownBlock) (.slice Ao35 t452.length co35) t452) ∧ Aside0 (Below w.heap.size w wc))
     case first =>
      have H := HC29.out; clear HC29
      by_cases c44 : t476 = true
      ·
       subst c44; rw [if_pos rfl] at H
       by_cases c45 : t480 = true
       ·
        subst c45; rw [if_pos rfl] at H
        by_cases c46 : t484 = true
        ·
         subst c46; rw [if_pos rfl] at H
         by_cases c47 : t488 = true
         ·
          subst c47
          rw [if_pos rfl] at H; obtain ⟨t489, A480, H⟩ := pb_ H
          have A48 := Aside0.mk A480; clear A480
          have H' := Aside0.mk H
          clear H; obtain ⟨Ao49, co49, eo49⟩ := Kd.R_slice HO483.out; subst eo49; obtain ⟨Ao50, co50, eo50⟩ := Kd.R_slice HO487.out; subst eo50
          go_wp2_with (first | (go_at_call 32; (with_reducible refine (laws_sameInts.calls kj4 _ _ t481 _ _ t485 t489 _ ?side1 ?side2 ?side3 ?side4 A48.out).mono ?_); (case side1 => repeat (first | exact (Kd.R_reads' HO483.out).2.2 | (with_reducible refine Kd.C_alloc ?_ _) | (with_reducible refine Kd.C_drewN ?_ _) | (with_reducible refine Kd.C_drew ?_))); (case side2 => exact (Kd.R_reads' HO483.out).2.1); (case side3 => repeat (first | exact (Kd.R_reads' HO487.out).2.2 | (with_reducible refine Kd.C_alloc ?_ _) | (with_reducible refine Kd.C_drewN ?_ _) | (with_reducible refine Kd.C_drew ?_))); (case side4 => exact (Kd.R_reads' HO487.out).2.1); rintro e w' ⟨rfl, ⟨nd, rfl⟩⟩))
          go_meet
          case rel => exact ⟨_, (!t489), (by first | rfl | (simp; done) | (simp [*]; done)), H', ⟨by have := HJ4.out; first | omega | exact Nat.le_refl _⟩, ⟨by (with_reducible repeat (first | apply Kd.R_alloc | apply Kd.R_drewN | apply Kd.R_drew)); exact Kd.R_mono HO_3.out (fun _ hk => hk.1.1.1.1.1.1.1)⟩, ⟨by (with_reducible repeat (first | apply Kd.R_alloc | apply Kd.R_drewN | apply Kd.R_drew)); exact Kd.R_mono HO_4.out (fun _ hk => hk.1.1.1.1.1.1.1)⟩, ⟨bw_ HB⟩⟩
         ·
          replace c47 := Bool.eq_false_iff.mpr c47; subst c47
          rw [if_neg (show ¬ (false = true) by decide)] at H
          have H' := Aside0.mk H
          clear H
          go_wp2
          go_meet
          case rel => exact ⟨_, (true), (by first | rfl | (simp; done) | (simp [*]; done)), H', ⟨by have := HJ4.out; first | omega | exact Nat.le_refl _⟩, ⟨by (with_reducible repeat (first | apply Kd.R_alloc | apply Kd.R_drewN | apply Kd.R_drew)); exact Kd.R_mono HO_3.out (fun _ hk => hk.1.1.1.1.1.1.1)⟩, ⟨by (with_reducible repeat (first | apply Kd.R_alloc | apply Kd.R_drewN | apply Kd.R_drew)); exact Kd.R_mono HO_4.out (fun _ hk => hk.1.1.1.1.1.1.1)⟩, ⟨bw_ HB⟩⟩
        ·
         replace c46 := Bool.eq_false_iff.mpr c46; subst c46
         rw [if_neg (show ¬ (false = true) by decide)] at H
         have H' := Aside0.mk H
         clear H
         go_wp2
         go_meet
         case rel => exact ⟨_, (true), (by first | rfl | (simp; done) | (simp [*]; done)), H', ⟨by have := HJ4.out; first | omega | exact Nat.le_refl _⟩, ⟨by (with_reducible repeat (first | apply Kd.R_alloc | apply Kd.R_drewN | apply Kd.R_drew)); exact Kd.R_mono HO_3.out (fun _ hk => hk.1.1.1.1.1.1.1)⟩, ⟨by (with_reducible repeat (first | apply Kd.R_alloc | apply Kd.R_drewN | apply Kd.R_drew)); exact Kd.R_mono HO_4.out (fun _ hk => hk.1.1.1.1.1.1.1)⟩, ⟨bw_ HB⟩⟩
       ·
        replace c45 := Bool.eq_false_iff.mpr c45; subst c45
        rw [if_neg (show ¬ (false = true) by decide)] at H
        have H' := Aside0.mk H
        clear H
        go_wp2
        go_meet
        case rel => exact ⟨_, (true), (by first | rfl | (simp; done) | (simp [*]; done)), H', ⟨by have := HJ4.out; first | omega | exact Nat.le_refl _⟩, ⟨by (with_reducible repeat (first | apply Kd.R_alloc | apply Kd.R_drewN | apply Kd.R_drew)); exact Kd.R_mono HO_3.out (fun _ hk => hk.1.1.1.1.1.1.1)⟩, ⟨by (with_reducible repeat (first | apply Kd.R_alloc | apply Kd.R_drewN | apply Kd.R_drew)); exact Kd.R_mono HO_4.out (fun _ hk => hk.1.1.1.1.1.1.1)⟩, ⟨bw_ HB⟩⟩
      ·
       replace c44 := Bool.eq_false_iff.mpr c44; subst c44
       rw [if_neg (show ¬ (false = true) by decide)] at H
       have H' := Aside0.mk H
       clear H
       go_wp2
       go_meet
       case rel => exact ⟨_, (true), (by first | rfl | (simp; done) | (simp [*]; done)), H', ⟨by have := HJ4.out; first | omega | exact Nat.le_refl _⟩, ⟨by (with_reducible repeat (first | apply Kd.R_alloc | apply Kd.R_drewN | apply Kd.R_drew)); exact Kd.R_mono HO_3.out (fun _ hk => hk.1.1.1.1.1.1.1)⟩, ⟨by (with_reducible repeat (first | apply Kd.R_alloc | apply Kd.R_drewN | apply Kd.R_drew)); exact Kd.R_mono HO_4.out (fun _ hk => hk.1.1.1.1.1.1.1)⟩, ⟨bw_ HB⟩⟩
     case rest =>
      clear HC29
      try clear c1
      try clear c2
      try clear p2
      try clear c3
      try clear c4
      try clear p6
      try clear c7
      try clear c8
      try clear c10
      try clear c11
      try clear c11b0
      try clear c11b1
      try clear c11b2
      try clear c17
      try clear c19
      try clear c20
      try clear c21
      try clear c23
      try clear c30
      try clear c31
      try clear c44
      try clear c45
      try clear c46
      try clear c47
      try clear p2
      obtain ⟨kq, x121_28, rfl, HA, HJ28, HO_3, HO_4, HB⟩ := hcut
      cases kq with
      | zero => exact absurd HA.out (by simp [laws_FnPowers.j1])
      | succ kj28 =>
       have H := HA.out; clear HA
       simp only [laws_FnPowers.j1] at H
       by_cases c51 : x121_28 = true
       ·
        subst c51
        rw [if_pos rfl] at H; obtain rfl := Option.some.inj H
        go_wp2
        go_ret
        exact ⟨by first | rfl | (simp [errW_none, errW_some] <;> rfl) | (simp [*, errW_none, errW_some] <;> rfl), by repeat (first | (with_reducible first | exact HB.out | apply below_alloc | apply pw_below_drewN | apply below_drew1) | exact HB.out)⟩
       ·
        replace c51 := Bool.eq_false_iff.mpr c51; subst c51
        rw [if_neg (show ¬ (false = true) by decide)] at H; obtain ⟨⟨t490, t493⟩, A520, H⟩ := pb_ H
        have A52 := Aside0.mk A520; clear A520; obtain ⟨⟨t494, t497⟩, A530, H⟩ := pb_ H
        have A53 := Aside0.mk A530; clear A530; have HC54 := Aside0.mk H; clear H
        go_upto_region 18 with (first | ((with_reducible refine gate_callee (f := 26) rfl ?_); refine gl_ 125 rfl rfl Try.func26 #[.slice Ao33 t451.length co33, .slice Ao35 t452.length co35] rfl ?_; (with_reducible refine (impl_ModInv.calls kj28 (fun k_ => some k_ = (.slice Ao33 t451.length co33 : Value).ownBlock) _ _ t451 (fun k_ => some k_ = (.slice Ao35 t452.length co35 : Value).ownBlock) _ _ t452 t490 t493 _ ?side1 ?side2 A52.out).mono ?_); (case side1 => exact Kd.R_V (Kd.R_tight rfl (HO_3.out))); (case side2 => exact Kd.R_V (Kd.R_tight rfl (HO_4.out))); rintro e w55 ⟨v491, rfl, ho0, hb⟩; refine ⟨_, rfl, ?_⟩; have n0_ := Aside0.mk (Kd.R_elder' (by (with_reducible repeat (first | apply Kd.R_alloc | apply Kd.R_drewN | apply Kd.R_drew)); exact HO_3.out) (Kd.R_base ho0) hb); have n1_ := Aside0.mk (Kd.R_elder' (by (with_reducible repeat (first | apply Kd.R_alloc | apply Kd.R_drewN | apply Kd.R_drew)); exact HO_4.out) (Kd.R_base ho0) hb); have n2_ := Aside0.mk (Kd.R_lower (Kd.R_new' (Kd.R_new' (Kd.R_mono (ok' := fun k_ => True) ho0 (fun _ hk_ => trivial)) (Kd.R_lt (by (with_reducible repeat (first | apply Kd.R_alloc | apply Kd.R_drewN | apply Kd.R_drew)); exact HO_3.out))) (Kd.R_lt (by (with_reducible repeat (first | apply Kd.R_alloc | apply Kd.R_drewN | apply Kd.R_drew)); exact HO_4.out))) (below_size (bw_ HB))); have n3_ := bs_ HB hb; clear HO_3; clear HO_4; clear HB; have HO_3 := n0_; have HO_4 := n1_; have HO492 := n2_; have HB := n3_; clear n0_ n1_ n2_ n3_; (try clear hb); (try clear hb2); (try clear hk); (try clear hi); (try clear ho0); obtain ⟨Ao56, co56, eo56⟩ := Kd.R_slice HO492.out; subst eo56) | ((with_reducible refine gate_callee (f := 17) rfl ?_); refine gl_ 132 rfl rfl Try.func17 #[.slice Ao33 t451.length co33, .slice Ao56 t490.length co56, .slice Ao35 t452.length co35] rfl ?_; (with_reducible refine (impl_ModMul.calls kj28 (fun k_ => some k_ = (.slice Ao33 t451.length co33 : Value).ownBlock) _ _ t451 (fun k_ => some k_ = (.slice Ao56 t490.length co56 : Value).ownBlock) _ _ t490 (fun k_ => some k_ = (.slice Ao35 t452.length co35 : Value).ownBlock) _ _ t452 t494 t497 _ ?side1 ?side2 ?side3 A53.out).mono ?_); (case side1 => exact Kd.R_V (Kd.R_tight rfl (HO_3.out))); (case side2 => exact Kd.R_V (Kd.R_tight rfl (HO492.out))); (case side3 => exact Kd.R_V (Kd.R_tight rfl (HO_4.out))); rintro e w57 ⟨v495, rfl, ho0, hb⟩; refine ⟨_, rfl, ?_⟩; have n0_ := Aside0.mk (Kd.R_elder' (by (with_reducible repeat (first | apply Kd.R_alloc | apply Kd.R_drewN | apply Kd.R_drew)); exact HO_3.out) (Kd.R_base ho0) hb); have n1_ := Aside0.mk (Kd.R_elder' (by (with_reducible repeat (first | apply Kd.R_alloc | apply Kd.R_drewN | apply Kd.R_drew)); exact HO_4.out) (Kd.R_base ho0) hb); have n2_ := Aside0.mk (Kd.R_elder' (by (with_reducible repeat (first | apply Kd.R_alloc | apply Kd.R_drewN | apply Kd.R_drew)); exact HO492.out) (Kd.R_base ho0) hb); have n3_ := Aside0.mk (Kd.R_lower (Kd.R_new' (Kd.R_new' (Kd.R_new' (Kd.R_mono (ok' := fun k_ => True) ho0 (fun _ hk_ => trivial)) (Kd.R_lt (by (with_reducible repeat (first | apply Kd.R_alloc | apply Kd.R_drewN | apply Kd.R_drew)); exact HO_3.out))) (Kd.R_lt (by (with_reducible repeat (first | apply Kd.R_alloc | apply Kd.R_drewN | apply Kd.R_drew)); exact HO_4.out))) (Kd.R_lt (by (with_reducible repeat (first | apply Kd.R_alloc | apply Kd.R_drewN | apply Kd.R_drew)); exact HO492.out))) (below_size (bw_ HB))); have n4_ := bs_ HB hb; clear HO_3; clear HO_4; clear HO492; clear HB; have HO_3 := n0_; have HO_4 := n1_; have HO492 := n2_; have HO496 := n3_; have HB := n4_; clear n0_ n1_ n2_ n3_ n4_; (try clear hb); (try clear hb2); (try clear hk); (try clear hi); (try clear ho0)))
        (try simp only [Act.put, sA_, sZ_, sS_])
        go_cut [141] (fun v141 wc => ∃ (kq : Nat) (x141_53 : Bool), v141 = .bool x141_53 ∧ Aside0 (laws_FnPowers.j2 kq l0 x141_53 = some r) ∧ Aside0 (kq ≤ kj28) ∧ Aside0 (Below w.heap.size w wc))
        case first =>
         have H := HC54.out; clear HC54
         by_cases c58 : t493 = true
         ·
          subst c58
          rw [if_pos rfl] at H; obtain ⟨y498, hy498⟩ : ∃ y_ : List Int, y_ = (([1] : List Int)) := ⟨_, rfl⟩
          replace H : ((laws_sameInts.f kj28 t494 y498).bind fun t501 => (laws_FnPowers.j2 kj28 l0 (!t501))) = some r := by first | (rw [hy498]; with_reducible exact H) | (have H2_ := (Option.bind_some _ _).symm.trans H; rw [hy498]; with_reducible exact H2_) | (have H2_ := (Option.bind_some _ _).symm.trans H; with_reducible exact H2_) | with_reducible exact H | (rw [hy498]; exact H) | exact H
          have Ny498 := Aside0.mk hy498; clear hy498; obtain ⟨t501, A590, H⟩ := pb_ H
          have A59 := Aside0.mk A590; clear A590
          have H' := Aside0.mk H
          clear H
          go_wp2_with (first | ((with_reducible refine gate_dst (N := 138) rfl ?_); (try (refine gate_guard (by rfl) ?_; dsimp only)); refine Kd.R_lit (Kd.int .i64) _ 3 ?hg (N := 138) ?hd (xs := ([1] : List Int)) (inner := [.int .i64 1]) (ok := fun _ => True) (okp := fun _ => True) ?hr ?hp (fun _ hk => hk) trivial (Below.refl _ _) (Nat.le_refl _) (by simp) ?_; (case hd => rfl); (case hg => rfl); (case hr => first | (go_simp; done) | (go_simp; rfl)); (case hp => exact (Reps.one (show Kd.M (Kd.int .i64) _ _ _ 1 [.int .i64 1] from rfl) (Reps.none _ _))); intro v499 w60 ho61 hb hg_ hnew_; clear hg_ hnew_; (first | rw [← Ny498.out] at ho61 | (simp only [Int.reduceToNat] at ho61; rw [← Ny498.out] at ho61)); have n0_ := Aside0.mk (Kd.R_elder' (by (with_reducible repeat (first | apply Kd.R_alloc | apply Kd.R_drewN | apply Kd.R_drew)); exact HO_3.out) (Kd.R_base ho61) hb); have n1_ := Aside0.mk (Kd.R_elder' (by (with_reducible repeat (first | apply Kd.R_alloc | apply Kd.R_drewN | apply Kd.R_drew)); exact HO_4.out) (Kd.R_base ho61) hb); have n2_ := Aside0.mk (Kd.R_elder' (by (with_reducible repeat (first | apply Kd.R_alloc | apply Kd.R_drewN | apply Kd.R_drew)); exact HO492.out) (Kd.R_base ho61) hb); have n3_ := Aside0.mk (Kd.R_elder' (by (with_reducible repeat (first | apply Kd.R_alloc | apply Kd.R_drewN | apply Kd.R_drew)); exact HO496.out) (Kd.R_base ho61) hb); have n4_ := Aside0.mk (Kd.R_lower (Kd.R_new' (Kd.R_new' (Kd.R_new' (Kd.R_new' ho61 (Kd.R_lt (by (with_reducible repeat (first | apply Kd.R_alloc | apply Kd.R_drewN | apply Kd.R_drew)); exact HO_3.out))) (Kd.R_lt (by (with_reducible repeat (first | apply Kd.R_alloc | apply Kd.R_drewN | apply Kd.R_drew)); exact HO_4.out))) (Kd.R_lt (by (with_reducible repeat (first | apply Kd.R_alloc | apply Kd.R_drewN | apply Kd.R_drew)); exact HO492.out))) (Kd.R_lt (by (with_reducible repeat (first | apply Kd.R_alloc | apply Kd.R_drewN | apply Kd.R_drew)); exact HO496.out))) (below_size (bw_ HB))); have n5_ := bs_ HB hb; clear HO_3; clear HO_4; clear HO492; clear HO496; clear HB; have HO_3 := n0_; have HO_4 := n1_; have HO492 := n2_; have HO496 := n3_; have HO500 := n4_; have HB := n5_; clear n0_ n1_ n2_ n3_ n4_ n5_; clear hb ho61; obtain ⟨Ao62, co62, eo62⟩ := Kd.R_slice HO496.out; subst eo62; obtain ⟨Ao63, co63, eo63⟩ := Kd.R_slice HO500.out; subst eo63) | (go_at_call 32; (with_reducible refine (laws_sameInts.calls kj28 _ _ t494 _ _ y498 t501 _ ?side1 ?side2 ?side3 ?side4 A59.out).mono ?_); (case side1 => repeat (first | exact (Kd.R_reads' HO496.out).2.2 | (with_reducible refine Kd.C_alloc ?_ _) | (with_reducible refine Kd.C_drewN ?_ _) | (with_reducible refine Kd.C_drew ?_))); (case side2 => exact (Kd.R_reads' HO496.out).2.1); (case side3 => repeat (first | exact (Kd.R_reads' HO500.out).2.2 | (with_reducible refine Kd.C_alloc ?_ _) | (with_reducible refine Kd.C_drewN ?_ _) | (with_reducible refine Kd.C_drew ?_))); (case side4 => exact (Kd.R_reads' HO500.out).2.1); rintro e w' ⟨rfl, ⟨nd, rfl⟩⟩))
          go_meet
          case rel => exact ⟨_, (!t501), (by first | rfl | (simp; done) | (simp [*]; done)), H', ⟨by have := HJ4.out; have := HJ28.out; first | omega | exact Nat.le_refl _⟩, ⟨bw_ HB⟩⟩
         ·
          replace c58 := Bool.eq_false_iff.mpr c58; subst c58
          rw [if_neg (show ¬ (false = true) by decide)] at H
          have H' := Aside0.mk H
          clear H
          go_wp2
          go_meet
          case rel => exact ⟨_, (false), (by first | rfl | (simp; done) | (simp [*]; done)), H', ⟨by have := HJ4.out; have := HJ28.out; first | omega | exact Nat.le_refl _⟩, ⟨bw_ HB⟩⟩
        case rest =>
         clear HC54
         try clear c1
         try clear c2
         try clear p2
         try clear c3
         try clear c4
         try clear c5
         try clear p6
         try clear c7
         try clear c8
         try clear c10
         try clear c11
         try clear c11b0
         try clear c11b1
         try clear c11b2
         try clear c17
         try clear c19
         try clear c20
         try clear c21
         try clear c23
         try clear c26
         try clear c30
         try clear c31
         try clear c44
         try clear c45
         try clear c46
         try clear c47
         try clear c51
         try clear c58
         try clear p2
         try clear p6
         obtain ⟨kq, x141_53, rfl, HA, HJ53, HB⟩ := hcut
         cases kq with
         | zero => exact absurd HA.out (by simp [laws_FnPowers.j2])
         | succ kj53 =>
          have H := HA.out; clear HA
          simp only [laws_FnPowers.j2] at H
          by_cases c64 : x141_53 = true
          ·
           subst c64
           rw [if_pos rfl] at H; obtain rfl := Option.some.inj H
           go_wp2
           go_ret
           exact ⟨by first | rfl | (simp [errW_none, errW_some] <;> rfl) | (simp [*, errW_none, errW_some] <;> rfl), by repeat (first | (with_reducible first | exact HB.out | apply below_alloc | apply pw_below_drewN | apply below_drew1) | exact HB.out)⟩
          ·
           replace c64 := Bool.eq_false_iff.mpr c64; subst c64
           rw [if_neg (show ¬ (false = true) by decide)] at H; obtain ⟨⟨t502, t503⟩, A650, H⟩ := pb_ H
           have A65 := Aside0.mk A650; clear A650; obtain ⟨t504, A660, H⟩ := pb_ H
           have A66 := Aside0.mk A660; clear A660; obtain ⟨t505, A670, H⟩ := pb_ H
           have A67 := Aside0.mk A670; clear A670
           by_cases c68 : t504 = t505
           ·
            rw [if_pos c68] at H
            have c68b0 : (t504 == t505) = true := beq_iff_eq.mpr c68
            have c68b1 : (t504 != t505) = false := bne_eq_false_iff_eq.mpr c68
            clear c68
            by_cases c69 : t502 < 0
            ·
             rw [if_pos c69] at H
             have c69b0 : decide (t502 < 0) = true := decide_eq_true c69
             clear c69; obtain rfl := Option.some.inj H
             go_wp2_with (first | ((with_reducible refine gate_callee (f := 33) rfl ?_); refine gl_ 144 rfl rfl Try.func33 #[.slice A0 l0.length c0] rfl ?_; (with_reducible refine (spec_DrawGcd.calls kj53 _ _ l0 t502 t503 _ ?side1 ?side2 A65.out).mono ?_); (case side1 => repeat (first | exact (Kd.C_below HR0.out HB.out) | (with_reducible refine Kd.C_alloc ?_ _) | (with_reducible refine Kd.C_drewN ?_ _) | (with_reducible refine Kd.C_drew ?_))); (case side2 => exact HC0.out); rintro e w70 ⟨rfl, hb⟩; refine ⟨_, rfl, ?_⟩; replace HB := bs_ HB hb; (try clear hb); (try clear hb2); (try clear hk); (try clear hi)) | ((with_reducible refine gate_callee (f := 34) rfl ?_); refine gl_ 149 rfl rfl Try.func34 #[.int .i64 t502, .int .i64 t503] rfl ?_; (with_reducible refine (impl_Gcd.calls kj53 t502 t503 t504 _ A66.out).mono ?_); rintro e w' ⟨rfl, ⟨nd, rfl⟩⟩; refine ⟨_, rfl, ?_⟩) | ((with_reducible refine gate_callee (f := 34) rfl ?_); refine gl_ 153 rfl rfl Try.func34 #[.int .i64 t503, .int .i64 t502] rfl ?_; (with_reducible refine (impl_Gcd.calls kj53 t503 t502 t505 _ A67.out).mono ?_); rintro e w' ⟨rfl, ⟨nd, rfl⟩⟩; refine ⟨_, rfl, ?_⟩))
             go_ret
             exact ⟨by first | rfl | (simp [errW_none, errW_some] <;> rfl) | (simp [*, errW_none, errW_some] <;> rfl), by repeat (first | (with_reducible first | exact HB.out | apply below_alloc | apply pw_below_drewN | apply below_drew1) | exact HB.out)⟩
            ·
             rw [if_neg c69] at H
             have c69b0 : decide (t502 < 0) = false := decide_eq_false c69
             clear c69
             by_cases c71 : t503 < 0
             ·
              rw [if_pos c71] at H
              have c71b0 : decide (t503 < 0) = true := decide_eq_true c71
              clear c71; obtain rfl := Option.some.inj H
              go_wp2_with (first | ((with_reducible refine gate_callee (f := 33) rfl ?_); refine gl_ 144 rfl rfl Try.func33 #[.slice A0 l0.length c0] rfl ?_; (with_reducible refine (spec_DrawGcd.calls kj53 _ _ l0 t502 t503 _ ?side1 ?side2 A65.out).mono ?_); (case side1 => repeat (first | exact (Kd.C_below HR0.out HB.out) | (with_reducible refine Kd.C_alloc ?_ _) | (with_reducible refine Kd.C_drewN ?_ _) | (with_reducible refine Kd.C_drew ?_))); (case side2 => exact HC0.out); rintro e w72 ⟨rfl, hb⟩; refine ⟨_, rfl, ?_⟩; replace HB := bs_ HB hb; (try clear hb); (try clear hb2); (try clear hk); (try clear hi)) | ((with_reducible refine gate_callee (f := 34) rfl ?_); refine gl_ 149 rfl rfl Try.func34 #[.int .i64 t502, .int .i64 t503] rfl ?_; (with_reducible refine (impl_Gcd.calls kj53 t502 t503 t504 _ A66.out).mono ?_); rintro e w' ⟨rfl, ⟨nd, rfl⟩⟩; refine ⟨_, rfl, ?_⟩) | ((with_reducible refine gate_callee (f := 34) rfl ?_); refine gl_ 153 rfl rfl Try.func34 #[.int .i64 t503, .int .i64 t502] rfl ?_; (with_reducible refine (impl_Gcd.calls kj53 t503 t502 t505 _ A67.out).mono ?_); rintro e w' ⟨rfl, ⟨nd, rfl⟩⟩; refine ⟨_, rfl, ?_⟩))
              go_ret
              exact ⟨by first | rfl | (simp [errW_none, errW_some] <;> rfl) | (simp [*, errW_none, errW_some] <;> rfl), by repeat (first | (with_reducible first | exact HB.out | apply below_alloc | apply pw_below_drewN | apply below_drew1) | exact HB.out)⟩
             ·
              rw [if_neg c71] at H
              have c71b0 : decide (t503 < 0) = false := decide_eq_false c71
              clear c71
              by_cases c73 : t504 = 0
              ·
               rw [if_pos c73] at H
               have c73b0 : (t504 == 0) = true := beq_iff_eq.mpr c73
               have c73b1 : (t504 != 0) = false := bne_eq_false_iff_eq.mpr c73
               clear c73
               by_cases c74 : t502 = 0
               ·
                rw [if_pos c74] at H
                have c74b0 : (t502 == 0) = true := beq_iff_eq.mpr c74
                have c74b1 : (t502 != 0) = false := bne_eq_false_iff_eq.mpr c74
                clear c74
                by_cases c75 : t503 = 0
                ·
                 rw [if_pos c75] at H
                 have c75b0 : (t503 == 0) = true := beq_iff_eq.mpr c75
                 have c75b1 : (t503 != 0) = false := bne_eq_false_iff_eq.mpr c75
                 clear c75; obtain rfl := Option.some.inj H
                 go_wp2_with (first | ((with_reducible refine gate_callee (f := 33) rfl ?_); refine gl_ 144 rfl rfl Try.func33 #[.slice A0 l0.length c0] rfl ?_; (with_reducible refine (spec_DrawGcd.calls kj53 _ _ l0 t502 t503 _ ?side1 ?side2 A65.out).mono ?_); (case side1 => repeat (first | exact (Kd.C_below HR0.out HB.out) | (with_reducible refine Kd.C_alloc ?_ _) | (with_reducible refine Kd.C_drewN ?_ _) | (with_reducible refine Kd.C_drew ?_))); (case side2 => exact HC0.out); rintro e w76 ⟨rfl, hb⟩; refine ⟨_, rfl, ?_⟩; replace HB := bs_ HB hb; (try clear hb); (try clear hb2); (try clear hk); (try clear hi)) | ((with_reducible refine gate_callee (f := 34) rfl ?_); refine gl_ 149 rfl rfl Try.func34 #[.int .i64 t502, .int .i64 t503] rfl ?_; (with_reducible refine (impl_Gcd.calls kj53 t502 t503 t504 _ A66.out).mono ?_); rintro e w' ⟨rfl, ⟨nd, rfl⟩⟩; refine ⟨_, rfl, ?_⟩) | ((with_reducible refine gate_callee (f := 34) rfl ?_); refine gl_ 153 rfl rfl Try.func34 #[.int .i64 t503, .int .i64 t502] rfl ?_; (with_reducible refine (impl_Gcd.calls kj53 t503 t502 t505 _ A67.out).mono ?_); rintro e w' ⟨rfl, ⟨nd, rfl⟩⟩; refine ⟨_, rfl, ?_⟩))
                 go_ret
                 exact ⟨by first | rfl | (simp [errW_none, errW_some] <;> rfl) | (simp [*, errW_none, errW_some] <;> rfl), by repeat (first | (with_reducible first | exact HB.out | apply below_alloc | apply pw_below_drewN | apply below_drew1) | exact HB.out)⟩
                ·
                 rw [if_neg c75] at H
                 have c75b0 : (t503 == 0) = false := beq_eq_false_iff_ne.mpr c75
                 have c75b1 : (t503 != 0) = true := bne_iff_ne.mpr c75
                 by_cases c77 : t504 > 0
                 · rw [if_pos c77] at H; exact absurd H (by simp)
                 ·
                  rw [if_neg c77] at H
                  have c77b0 : decide (0 < t504) = false := decide_eq_false c77
                  clear c77; obtain rfl := Option.some.inj H
                  go_wp2_with (first | ((with_reducible refine gate_callee (f := 33) rfl ?_); refine gl_ 144 rfl rfl Try.func33 #[.slice A0 l0.length c0] rfl ?_; (with_reducible refine (spec_DrawGcd.calls kj53 _ _ l0 t502 t503 _ ?side1 ?side2 A65.out).mono ?_); (case side1 => repeat (first | exact (Kd.C_below HR0.out HB.out) | (with_reducible refine Kd.C_alloc ?_ _) | (with_reducible refine Kd.C_drewN ?_ _) | (with_reducible refine Kd.C_drew ?_))); (case side2 => exact HC0.out); rintro e w78 ⟨rfl, hb⟩; refine ⟨_, rfl, ?_⟩; replace HB := bs_ HB hb; (try clear hb); (try clear hb2); (try clear hk); (try clear hi)) | ((with_reducible refine gate_callee (f := 34) rfl ?_); refine gl_ 149 rfl rfl Try.func34 #[.int .i64 t502, .int .i64 t503] rfl ?_; (with_reducible refine (impl_Gcd.calls kj53 t502 t503 t504 _ A66.out).mono ?_); rintro e w' ⟨rfl, ⟨nd, rfl⟩⟩; refine ⟨_, rfl, ?_⟩) | ((with_reducible refine gate_callee (f := 34) rfl ?_); refine gl_ 153 rfl rfl Try.func34 #[.int .i64 t503, .int .i64 t502] rfl ?_; (with_reducible refine (impl_Gcd.calls kj53 t503 t502 t505 _ A67.out).mono ?_); rintro e w' ⟨rfl, ⟨nd, rfl⟩⟩; refine ⟨_, rfl, ?_⟩))
                  go_ret
                  exact ⟨by first | rfl | (simp [errW_none, errW_some] <;> rfl) | (simp [*, errW_none, errW_some] <;> rfl), by repeat (first | (with_reducible first | exact HB.out | apply below_alloc | apply pw_below_drewN | apply below_drew1) | exact HB.out)⟩
               ·
                rw [if_neg c74] at H
                have c74b0 : (t502 == 0) = false := beq_eq_false_iff_ne.mpr c74
                have c74b1 : (t502 != 0) = true := bne_iff_ne.mpr c74
                by_cases c79 : t504 > 0
                · rw [if_pos c79] at H; exact absurd H (by simp)
                ·
                 rw [if_neg c79] at H
                 have c79b0 : decide (0 < t504) = false := decide_eq_false c79
                 clear c79; obtain rfl := Option.some.inj H
                 go_wp2_with (first | ((with_reducible refine gate_callee (f := 33) rfl ?_); refine gl_ 144 rfl rfl Try.func33 #[.slice A0 l0.length c0] rfl ?_; (with_reducible refine (spec_DrawGcd.calls kj53 _ _ l0 t502 t503 _ ?side1 ?side2 A65.out).mono ?_); (case side1 => repeat (first | exact (Kd.C_below HR0.out HB.out) | (with_reducible refine Kd.C_alloc ?_ _) | (with_reducible refine Kd.C_drewN ?_ _) | (with_reducible refine Kd.C_drew ?_))); (case side2 => exact HC0.out); rintro e w80 ⟨rfl, hb⟩; refine ⟨_, rfl, ?_⟩; replace HB := bs_ HB hb; (try clear hb); (try clear hb2); (try clear hk); (try clear hi)) | ((with_reducible refine gate_callee (f := 34) rfl ?_); refine gl_ 149 rfl rfl Try.func34 #[.int .i64 t502, .int .i64 t503] rfl ?_; (with_reducible refine (impl_Gcd.calls kj53 t502 t503 t504 _ A66.out).mono ?_); rintro e w' ⟨rfl, ⟨nd, rfl⟩⟩; refine ⟨_, rfl, ?_⟩) | ((with_reducible refine gate_callee (f := 34) rfl ?_); refine gl_ 153 rfl rfl Try.func34 #[.int .i64 t503, .int .i64 t502] rfl ?_; (with_reducible refine (impl_Gcd.calls kj53 t503 t502 t505 _ A67.out).mono ?_); rintro e w' ⟨rfl, ⟨nd, rfl⟩⟩; refine ⟨_, rfl, ?_⟩))
                 go_ret
                 exact ⟨by first | rfl | (simp [errW_none, errW_some] <;> rfl) | (simp [*, errW_none, errW_some] <;> rfl), by repeat (first | (with_reducible first | exact HB.out | apply below_alloc | apply pw_below_drewN | apply below_drew1) | exact HB.out)⟩
              ·
               rw [if_neg c73] at H
               have c73b0 : (t504 == 0) = false := beq_eq_false_iff_ne.mpr c73
               have c73b1 : (t504 != 0) = true := bne_iff_ne.mpr c73
               by_cases c81 : t504 > 0
               ·
                rw [if_pos c81] at H
                have c81b0 : decide (0 < t504) = true := decide_eq_true c81
                clear c81
                by_cases c82 : (Int.tmod t502 t504) = 0
                ·
                 rw [if_pos c82] at H
                 have c82b0 : ((Int.tmod t502 t504) == 0) = true := beq_iff_eq.mpr c82
                 have c82b1 : ((Int.tmod t502 t504) != 0) = false := bne_eq_false_iff_eq.mpr c82
                 clear c82; obtain rfl := Option.some.inj H
                 go_wp2_with (first | ((with_reducible refine gate_callee (f := 33) rfl ?_); refine gl_ 144 rfl rfl Try.func33 #[.slice A0 l0.length c0] rfl ?_; (with_reducible refine (spec_DrawGcd.calls kj53 _ _ l0 t502 t503 _ ?side1 ?side2 A65.out).mono ?_); (case side1 => repeat (first | exact (Kd.C_below HR0.out HB.out) | (with_reducible refine Kd.C_alloc ?_ _) | (with_reducible refine Kd.C_drewN ?_ _) | (with_reducible refine Kd.C_drew ?_))); (case side2 => exact HC0.out); rintro e w83 ⟨rfl, hb⟩; refine ⟨_, rfl, ?_⟩; replace HB := bs_ HB hb; (try clear hb); (try clear hb2); (try clear hk); (try clear hi)) | ((with_reducible refine gate_callee (f := 34) rfl ?_); refine gl_ 149 rfl rfl Try.func34 #[.int .i64 t502, .int .i64 t503] rfl ?_; (with_reducible refine (impl_Gcd.calls kj53 t502 t503 t504 _ A66.out).mono ?_); rintro e w' ⟨rfl, ⟨nd, rfl⟩⟩; refine ⟨_, rfl, ?_⟩) | ((with_reducible refine gate_callee (f := 34) rfl ?_); refine gl_ 153 rfl rfl Try.func34 #[.int .i64 t503, .int .i64 t502] rfl ?_; (with_reducible refine (impl_Gcd.calls kj53 t503 t502 t505 _ A67.out).mono ?_); rintro e w' ⟨rfl, ⟨nd, rfl⟩⟩; refine ⟨_, rfl, ?_⟩))
                 go_ret
                 exact ⟨by first | rfl | (simp [errW_none, errW_some] <;> rfl) | (simp [*, errW_none, errW_some] <;> rfl), by repeat (first | (with_reducible first | exact HB.out | apply below_alloc | apply pw_below_drewN | apply below_drew1) | exact HB.out)⟩
                ·
                 rw [if_neg c82] at H
                 have c82b0 : ((Int.tmod t502 t504) == 0) = false := beq_eq_false_iff_ne.mpr c82
                 have c82b1 : ((Int.tmod t502 t504) != 0) = true := bne_iff_ne.mpr c82
                 obtain rfl := Option.some.inj H
                 go_wp2_with (first | ((with_reducible refine gate_callee (f := 33) rfl ?_); refine gl_ 144 rfl rfl Try.func33 #[.slice A0 l0.length c0] rfl ?_; (with_reducible refine (spec_DrawGcd.calls kj53 _ _ l0 t502 t503 _ ?side1 ?side2 A65.out).mono ?_); (case side1 => repeat (first | exact (Kd.C_below HR0.out HB.out) | (with_reducible refine Kd.C_alloc ?_ _) | (with_reducible refine Kd.C_drewN ?_ _) | (with_reducible refine Kd.C_drew ?_))); (case side2 => exact HC0.out); rintro e w84 ⟨rfl, hb⟩; refine ⟨_, rfl, ?_⟩; replace HB := bs_ HB hb; (try clear hb); (try clear hb2); (try clear hk); (try clear hi)) | ((with_reducible refine gate_callee (f := 34) rfl ?_); refine gl_ 149 rfl rfl Try.func34 #[.int .i64 t502, .int .i64 t503] rfl ?_; (with_reducible refine (impl_Gcd.calls kj53 t502 t503 t504 _ A66.out).mono ?_); rintro e w' ⟨rfl, ⟨nd, rfl⟩⟩; refine ⟨_, rfl, ?_⟩) | ((with_reducible refine gate_callee (f := 34) rfl ?_); refine gl_ 153 rfl rfl Try.func34 #[.int .i64 t503, .int .i64 t502] rfl ?_; (with_reducible refine (impl_Gcd.calls kj53 t503 t502 t505 _ A67.out).mono ?_); rintro e w' ⟨rfl, ⟨nd, rfl⟩⟩; refine ⟨_, rfl, ?_⟩))
                 go_ret
                 exact ⟨by first | rfl | (simp [errW_none, errW_some] <;> rfl) | (simp [*, errW_none, errW_some] <;> rfl), by repeat (first | (with_reducible first | exact HB.out | apply below_alloc | apply pw_below_drewN | apply below_drew1) | exact HB.out)⟩
               ·
                rw [if_neg c81] at H
                have c81b0 : decide (0 < t504) = false := decide_eq_false c81
                clear c81; obtain rfl := Option.some.inj H
                go_wp2_with (first | ((with_reducible refine gate_callee (f := 33) rfl ?_); refine gl_ 144 rfl rfl Try.func33 #[.slice A0 l0.length c0] rfl ?_; (with_reducible refine (spec_DrawGcd.calls kj53 _ _ l0 t502 t503 _ ?side1 ?side2 A65.out).mono ?_); (case side1 => repeat (first | exact (Kd.C_below HR0.out HB.out) | (with_reducible refine Kd.C_alloc ?_ _) | (with_reducible refine Kd.C_drewN ?_ _) | (with_reducible refine Kd.C_drew ?_))); (case side2 => exact HC0.out); rintro e w85 ⟨rfl, hb⟩; refine ⟨_, rfl, ?_⟩; replace HB := bs_ HB hb; (try clear hb); (try clear hb2); (try clear hk); (try clear hi)) | ((with_reducible refine gate_callee (f := 34) rfl ?_); refine gl_ 149 rfl rfl Try.func34 #[.int .i64 t502, .int .i64 t503] rfl ?_; (with_reducible refine (impl_Gcd.calls kj53 t502 t503 t504 _ A66.out).mono ?_); rintro e w' ⟨rfl, ⟨nd, rfl⟩⟩; refine ⟨_, rfl, ?_⟩) | ((with_reducible refine gate_callee (f := 34) rfl ?_); refine gl_ 153 rfl rfl Try.func34 #[.int .i64 t503, .int .i64 t502] rfl ?_; (with_reducible refine (impl_Gcd.calls kj53 t503 t502 t505 _ A67.out).mono ?_); rintro e w' ⟨rfl, ⟨nd, rfl⟩⟩; refine ⟨_, rfl, ?_⟩))
                go_ret
                exact ⟨by first | rfl | (simp [errW_none, errW_some] <;> rfl) | (simp [*, errW_none, errW_some] <;> rfl), by repeat (first | (with_reducible first | exact HB.out | apply below_alloc | apply pw_below_drewN | apply below_drew1) | exact HB.out)⟩
           ·
            rw [if_neg c68] at H
            have c68b0 : (t504 == t505) = false := beq_eq_false_iff_ne.mpr c68
            have c68b1 : (t504 != t505) = true := bne_iff_ne.mpr c68
            obtain rfl := Option.some.inj H
            go_wp2_with (first | ((with_reducible refine gate_callee (f := 33) rfl ?_); refine gl_ 144 rfl rfl Try.func33 #[.slice A0 l0.length c0] rfl ?_; (with_reducible refine (spec_DrawGcd.calls kj53 _ _ l0 t502 t503 _ ?side1 ?side2 A65.out).mono ?_); (case side1 => repeat (first | exact (Kd.C_below HR0.out HB.out) | (with_reducible refine Kd.C_alloc ?_ _) | (with_reducible refine Kd.C_drewN ?_ _) | (with_reducible refine Kd.C_drew ?_))); (case side2 => exact HC0.out); rintro e w86 ⟨rfl, hb⟩; refine ⟨_, rfl, ?_⟩; replace HB := bs_ HB hb; (try clear hb); (try clear hb2); (try clear hk); (try clear hi)) | ((with_reducible refine gate_callee (f := 34) rfl ?_); refine gl_ 149 rfl rfl Try.func34 #[.int .i64 t502, .int .i64 t503] rfl ?_; (with_reducible refine (impl_Gcd.calls kj53 t502 t503 t504 _ A66.out).mono ?_); rintro e w' ⟨rfl, ⟨nd, rfl⟩⟩; refine ⟨_, rfl, ?_⟩) | ((with_reducible refine gate_callee (f := 34) rfl ?_); refine gl_ 153 rfl rfl Try.func34 #[.int .i64 t503, .int .i64 t502] rfl ?_; (with_reducible refine (impl_Gcd.calls kj53 t503 t502 t505 _ A67.out).mono ?_); rintro e w' ⟨rfl, ⟨nd, rfl⟩⟩; refine ⟨_, rfl, ?_⟩))
            go_ret
            exact ⟨by first | rfl | (simp [errW_none, errW_some] <;> rfl) | (simp [*, errW_none, errW_some] <;> rfl), by repeat (first | (with_reducible first | exact HB.out | apply below_alloc | apply pw_below_drewN | apply below_drew1) | exact HB.out)⟩

/-- THE ONE PURE STATEMENT of laws_FnPowers: yours. -/
def laws_FnPowers.Pure : Prop := ∀ (l0 : List Int), l0.length ≤ maxLen → l0.length * 1 ≤ 140737488351232 → (∀ x ∈ l0, (Lit.int .u8 x).wf = true) → ∃ k, laws_FnPowers.f k l0 = some true
theorem laws_FnPowers.walk (P : laws_FnPowers.Pure) (a0 : Option Addr) (len0 cap0 : Nat) (z0 : List Int) (w : World) (w0 : (a0 = none ∧ len0 = 0 ∧ cap0 = 0 ∧ z0 = []) ∨ ∃ x, a0 = some x ∧ len0 ≤ cap0 ∧ cap0 ≤ maxLen ∧ z0.length = cap0 ∧ (∀ i, i < z0.length → w.cell? (x.add i) = some (.int .u8 (z0.getD i 0))) ∧ ∀ n ∈ z0, (Lit.int .u8 n).wf = true) (y0 : len0 * 1 ≤ 140737488351232) :
  Calls Try.prog 7 #[.slice a0 len0 cap0] w fun e w' => e = .returned (.bool true) ∧ Below w.heap.size w w' := by
 obtain ⟨l0, rfl, hr0, hm0, hw0, hc0⟩ := ReadsInt.ofRowC w0; obtain ⟨k, h⟩ := P l0 hm0 y0 hw0; refine (laws_FnPowers.calls k _ _ l0 true w (Kd.C_of_reads (d := (0 : Int)) (h1 := fun _ => rfl) hr0) hc0 h).mono ?_; rintro e w' ⟨rfl, hd⟩; exact ⟨rfl, hd⟩

end Go.Proofs.Ytehdmpfeddieoaa.PFnPowers
