-- Written for this claim by a program of this session.
import Derived.Test.YtehdmpfeddieoaaPFnDividedx0
import Derived.Test.YtehdmpfeddieoaaPFnDividedx2
import Derived.Test.YtehdmpfeddieoaaPFnDividedx6
import Derived.Test.YtehdmpfeddieoaaPFnDividedx7
import Derived.Test.YtehdmpfeddieoaaPFnDividedx8
namespace Go.Proofs.Ytehdmpfeddieoaa.PFnDivided
open Go.RowKit Go.Proofs.YtehdmpfeddieoaaW.PrintWords Go.Proofs.YtehdmpfeddieoaaW.PrintLast Go.Proofs.YtehdmpfeddieoaaW.PrintMore
attribute [local go_sem] max2_int min2_int max_two min_two max_three min_three max_four min_four   -- for this text's walks alone
set_option linter.unusedVariables false
set_option linter.unusedSimpArgs false

/-! ### laws_FnDivided: function 9 -/
mutual
def laws_FnDivided.j0 : Nat → List Int → List Int → List Int → List Int → List Int → Bool → Bool → Bool → Option (Bool)
  | 0, _, _, _, _, _, _, _, _ => none
  | k + 1, x0, x3, x4, x5, x6, x7, x10, x54 => if x54 = true then (if (x7 == x10) = true then (if (x5.length : Int) = 0 then (some ((x6.length : Int) == 0)) else (some false)) else (some false)) else ((impl_NatMul.f k x5 x4).bind fun bt500 => ((impl_NatAdd.f k bt500.1 x6).bind fun bt504 => (if bt500.2 = true then (if bt504.2 = true then ((laws_sameInts.f k bt504.1 x3).bind fun t508 => (if t508 = true then ((impl_NatCompare.f k x6 x4).bind fun t509 => (laws_FnDivided.j1 k x0 x3 (t509 != (-1)))) else (laws_FnDivided.j1 k x0 x3 true))) else (laws_FnDivided.j1 k x0 x3 true)) else (laws_FnDivided.j1 k x0 x3 true))))
def laws_FnDivided.j1 : Nat → List Int → List Int → Bool → Option (Bool)
  | 0, _, _, _ => none
  | k + 1, x0, x3, x97 => if x97 = true then (some false) else ((impl_NatBits.f k x3).bind fun t510 => ((impl_NatBytes.f k x3 (wrap64 (Int.tdiv (wrap64 (t510 + 7)) 8))).bind fun bt511 => ((impl_NatRead.f k bt511.1).bind fun bt515 => (if (wrap64 (Int.tdiv (wrap64 (t510 + 7)) 8)) > 0 then ((impl_NatBytes.f k x3 (wrap64 ((wrap64 (Int.tdiv (wrap64 (t510 + 7)) 8)) - 1))).bind fun bt519 => (if bt519.2 = true then (some false) else (laws_FnDivided.j2 k x0 x3 bt511.2 bt515.1 bt515.2))) else (laws_FnDivided.j2 k x0 x3 bt511.2 bt515.1 bt515.2)))))
def laws_FnDivided.j2 : Nat → List Int → List Int → Bool → List Int → Bool → Option (Bool)
  | 0, _, _, _, _, _ => none
  | k + 1, x0, x3, x17, x18, x19 => (laws_at.f x0 0).bind fun t523 => ((laws_at.f x0 1).bind fun t524 => ((impl_NatOf.f k (wrap64 (t523 * t524))).bind fun bt525 => ((impl_NatInt.f k bt525.1).bind fun bt529 => (if x17 = true then (if x19 = true then ((laws_sameInts.f k x18 x3).bind fun t531 => (if t531 = true then (if bt529.2 = true then (some (bt529.1 == (wrap64 (t523 * t524)))) else (some false)) else (some false))) else (some false)) else (some false)))))
end
def laws_FnDivided.f (k : Nat) (l0 : List Int) : Option (Bool) := (laws_big.f l0).bind fun t479 => (if t479 = true then (some true) else ((spec_DrawNatDiv.f k l0).bind fun bt480 => ((impl_NatDiv.f k bt480.1 bt480.2).bind fun bt486 => ((spec_NatDiv.f k bt480.1 bt480.2).bind fun bt493 => (if (bt486.2.2 != bt493.2.2) = true then (laws_FnDivided.j0 k l0 bt480.1 bt480.2 bt486.1 bt486.2.1 bt486.2.2 bt493.2.2 true) else (laws_FnDivided.j0 k l0 bt480.1 bt480.2 bt486.1 bt486.2.1 bt486.2.2 bt493.2.2 (!bt486.2.2)))))))
theorem laws_FnDivided.mono_l : ∀ k, (∀ y0 y1 y2 y3 y4 y5 y6 y7, LeO (laws_FnDivided.j0 k y0 y1 y2 y3 y4 y5 y6 y7) (laws_FnDivided.j0 (k + 1) y0 y1 y2 y3 y4 y5 y6 y7)) ∧ (∀ y0 y1 y2, LeO (laws_FnDivided.j1 k y0 y1 y2) (laws_FnDivided.j1 (k + 1) y0 y1 y2)) ∧ (∀ y0 y1 y2 y3 y4, LeO (laws_FnDivided.j2 k y0 y1 y2 y3 y4) (laws_FnDivided.j2 (k + 1) y0 y1 y2 y3 y4))
 | 0 => ⟨fun _ _ _ _ _ _ _ _ r h => by simp [laws_FnDivided.j0] at h, fun _ _ _ r h => by simp [laws_FnDivided.j1] at h, fun _ _ _ _ _ r h => by simp [laws_FnDivided.j2] at h⟩
 | k + 1 => by
  obtain ⟨ih0, ih1, ih2⟩ := laws_FnDivided.mono_l k
  refine ⟨?_, ?_, ?_⟩
  ·
   intro y0 y1 y2 y3 y4 y5 y6 y7
   unfold laws_FnDivided.j0
   repeat' first
   | (with_reducible exact ih0 _ _ _ _ _ _ _ _)
   | (with_reducible exact ih1 _ _ _)
   | (with_reducible exact ih2 _ _ _ _ _)
   | (with_reducible exact impl_NatAdd.mono _ _ _)
   | (with_reducible exact impl_NatBits.mono _ _)
   | (with_reducible exact impl_NatBytes.mono _ _ _)
   | (with_reducible exact impl_NatCompare.mono _ _ _)
   | (with_reducible exact impl_NatDiv.mono _ _ _)
   | (with_reducible exact impl_NatInt.mono _ _)
   | (with_reducible exact impl_NatMul.mono _ _ _)
   | (with_reducible exact impl_NatOf.mono _ _)
   | (with_reducible exact impl_NatRead.mono _ _)
   | (with_reducible exact laws_sameInts.mono _ _ _)
   | (with_reducible exact spec_DrawNatDiv.mono _ _)
   | (with_reducible exact spec_NatDiv.mono _ _ _)
   | (with_reducible exact LeO.refl _)
   | (with_reducible exact LeO.none _)
   | (with_reducible refine LeO.ite ?_ ?_)
   | (with_reducible refine LeO.bind ?_ (fun _ => ?_))
   | exact ih0 _ _ _ _ _ _ _ _
   | exact ih1 _ _ _
   | exact ih2 _ _ _ _ _
   | exact impl_NatAdd.mono _ _ _
   | exact impl_NatBits.mono _ _
   | exact impl_NatBytes.mono _ _ _
   | exact impl_NatCompare.mono _ _ _
   | exact impl_NatDiv.mono _ _ _
   | exact impl_NatInt.mono _ _
   | exact impl_NatMul.mono _ _ _
   | exact impl_NatOf.mono _ _
   | exact impl_NatRead.mono _ _
   | exact laws_sameInts.mono _ _ _
   | exact spec_DrawNatDiv.mono _ _
   | exact spec_NatDiv.mono _ _ _
   | exact LeO.none _
   | refine LeO.ite ?_ ?_
   | refine LeO.bind ?_ (fun _ => ?_)
  ·
   intro y0 y1 y2
   unfold laws_FnDivided.j1
   repeat' first
   | (with_reducible exact ih0 _ _ _ _ _ _ _ _)
   | (with_reducible exact ih1 _ _ _)
   | (with_reducible exact ih2 _ _ _ _ _)
   | (with_reducible exact impl_NatAdd.mono _ _ _)
   | (with_reducible exact impl_NatBits.mono _ _)
   | (with_reducible exact impl_NatBytes.mono _ _ _)
   | (with_reducible exact impl_NatCompare.mono _ _ _)
   | (with_reducible exact impl_NatDiv.mono _ _ _)
   | (with_reducible exact impl_NatInt.mono _ _)
   | (with_reducible exact impl_NatMul.mono _ _ _)
   | (with_reducible exact impl_NatOf.mono _ _)
   | (with_reducible exact impl_NatRead.mono _ _)
   | (with_reducible exact laws_sameInts.mono _ _ _)
   | (with_reducible exact spec_DrawNatDiv.mono _ _)
   | (with_reducible exact spec_NatDiv.mono _ _ _)
   | (with_reducible exact LeO.refl _)
   | (with_reducible exact LeO.none _)
   | (with_reducible refine LeO.ite ?_ ?_)
   | (with_reducible refine LeO.bind ?_ (fun _ => ?_))
   | exact ih0 _ _ _ _ _ _ _ _
   | exact ih1 _ _ _
   | exact ih2 _ _ _ _ _
   | exact impl_NatAdd.mono _ _ _
   | exact impl_NatBits.mono _ _
   | exact impl_NatBytes.mono _ _ _
   | exact impl_NatCompare.mono _ _ _
   | exact impl_NatDiv.mono _ _ _
   | exact impl_NatInt.mono _ _
   | exact impl_NatMul.mono _ _ _
   | exact impl_NatOf.mono _ _
   | exact impl_NatRead.mono _ _
   | exact laws_sameInts.mono _ _ _
   | exact spec_DrawNatDiv.mono _ _
   | exact spec_NatDiv.mono _ _ _
   | exact LeO.none _
   | refine LeO.ite ?_ ?_
   | refine LeO.bind ?_ (fun _ => ?_)
  ·
   intro y0 y1 y2 y3 y4
   unfold laws_FnDivided.j2
   repeat' first
   | (with_reducible exact ih0 _ _ _ _ _ _ _ _)
   | (with_reducible exact ih1 _ _ _)
   | (with_reducible exact ih2 _ _ _ _ _)
   | (with_reducible exact impl_NatAdd.mono _ _ _)
   | (with_reducible exact impl_NatBits.mono _ _)
   | (with_reducible exact impl_NatBytes.mono _ _ _)
   | (with_reducible exact impl_NatCompare.mono _ _ _)
   | (with_reducible exact impl_NatDiv.mono _ _ _)
   | (with_reducible exact impl_NatInt.mono _ _)
   | (with_reducible exact impl_NatMul.mono _ _ _)
   | (with_reducible exact impl_NatOf.mono _ _)
   | (with_reducible exact impl_NatRead.mono _ _)
   | (with_reducible exact laws_sameInts.mono _ _ _)
   | (with_reducible exact spec_DrawNatDiv.mono _ _)
   | (with_reducible exact spec_NatDiv.mono _ _ _)
   | (with_reducible exact LeO.refl _)
   | (with_reducible exact LeO.none _)
   | (with_reducible refine LeO.ite ?_ ?_)
   | (with_reducible refine LeO.bind ?_ (fun _ => ?_))
   | exact ih0 _ _ _ _ _ _ _ _
   | exact ih1 _ _ _
   | exact ih2 _ _ _ _ _
   | exact impl_NatAdd.mono _ _ _
   | exact impl_NatBits.mono _ _
   | exact impl_NatBytes.mono _ _ _
   | exact impl_NatCompare.mono _ _ _
   | exact impl_NatDiv.mono _ _ _
   | exact impl_NatInt.mono _ _
   | exact impl_NatMul.mono _ _ _
   | exact impl_NatOf.mono _ _
   | exact impl_NatRead.mono _ _
   | exact laws_sameInts.mono _ _ _
   | exact spec_DrawNatDiv.mono _ _
   | exact spec_NatDiv.mono _ _ _
   | exact LeO.none _
   | refine LeO.ite ?_ ?_
   | refine LeO.bind ?_ (fun _ => ?_)
theorem laws_FnDivided.mono : ∀ a0 k, LeO (laws_FnDivided.f k a0) (laws_FnDivided.f (k + 1) a0) := by
 intro a0 k; obtain ⟨ih0, ih1, ih2⟩ := laws_FnDivided.mono_l k
 unfold laws_FnDivided.f
 repeat' first
   | (with_reducible exact ih0 _ _ _ _ _ _ _ _)
   | (with_reducible exact ih1 _ _ _)
   | (with_reducible exact ih2 _ _ _ _ _)
   | (with_reducible exact impl_NatAdd.mono _ _ _)
   | (with_reducible exact impl_NatBits.mono _ _)
   | (with_reducible exact impl_NatBytes.mono _ _ _)
   | (with_reducible exact impl_NatCompare.mono _ _ _)
   | (with_reducible exact impl_NatDiv.mono _ _ _)
   | (with_reducible exact impl_NatInt.mono _ _)
   | (with_reducible exact impl_NatMul.mono _ _ _)
   | (with_reducible exact impl_NatOf.mono _ _)
   | (with_reducible exact impl_NatRead.mono _ _)
   | (with_reducible exact laws_sameInts.mono _ _ _)
   | (with_reducible exact spec_DrawNatDiv.mono _ _)
   | (with_reducible exact spec_NatDiv.mono _ _ _)
   | (with_reducible exact LeO.refl _)
   | (with_reducible exact LeO.none _)
   | (with_reducible refine LeO.ite ?_ ?_)
   | (with_reducible refine LeO.bind ?_ (fun _ => ?_))
   | exact ih0 _ _ _ _ _ _ _ _
   | exact ih1 _ _ _
   | exact ih2 _ _ _ _ _
   | exact impl_NatAdd.mono _ _ _
   | exact impl_NatBits.mono _ _
   | exact impl_NatBytes.mono _ _ _
   | exact impl_NatCompare.mono _ _ _
   | exact impl_NatDiv.mono _ _ _
   | exact impl_NatInt.mono _ _
   | exact impl_NatMul.mono _ _ _
   | exact impl_NatOf.mono _ _
   | exact impl_NatRead.mono _ _
   | exact laws_sameInts.mono _ _ _
   | exact spec_DrawNatDiv.mono _ _
   | exact spec_NatDiv.mono _ _ _
   | exact LeO.none _
   | refine LeO.ite ?_ ?_
   | refine LeO.bind ?_ (fun _ => ?_)
set_option maxHeartbeats 8000000 in
set_option maxRecDepth 100000 in
theorem laws_FnDivided.calls (k : Nat) (A0 : Option Addr) (c0 : Nat) (l0 : List Int) (r : Bool) (w : World) (hr0 : Kd.C (Kd.int .u8) w A0 l0.length l0) (hc0 : l0.length ≤ c0) (h : laws_FnDivided.f k l0 = some r) :
  Calls Try.prog 9 #[.slice A0 l0.length c0] w fun e w' => e = .returned (.bool r) ∧ Below w.heap.size w w' := by
 have HR0 := Aside0.mk hr0; have HC0 := Aside0.mk hc0; clear hr0 hc0; have HB := Aside0.mk (Below.refl w.heap.size w)
 have H : ((laws_big.f l0).bind fun t479 => (if t479 = true then (some true) else ((spec_DrawNatDiv.f k l0).bind fun bt480 => ((impl_NatDiv.f k bt480.1 bt480.2).bind fun bt486 => ((spec_NatDiv.f k bt480.1 bt480.2).bind fun bt493 => (if (bt486.2.2 != bt493.2.2) = true then (laws_FnDivided.j0 k l0 bt480.1 bt480.2 bt486.1 bt486.2.1 bt486.2.2 bt493.2.2 true) else (laws_FnDivided.j0 k l0 bt480.1 bt480.2 bt486.1 bt486.2.1 bt486.2.2 bt493.2.2 (!bt486.2.2)))))))) = some r := h
 clear h; obtain ⟨t479, A20, H⟩ := pb_ H
 have A2 := Aside0.mk A20; clear A20
 by_cases c3 : t479 = true
 ·
  subst c3
  rw [if_pos rfl] at H; obtain rfl := Option.some.inj H
  go_enter Try.func9, Try.ntmps9
  go_wp2_with (first | ((with_reducible refine gate_callee (f := 20) rfl ?_); refine gl_ 28 rfl rfl Try.func20 #[.slice A0 l0.length c0] rfl ?_; (with_reducible refine (laws_big.calls _ _ l0 true _ ?side1 ?side2 A2.out).mono ?_); (case side1 => repeat (first | exact HR0.out | (with_reducible refine Kd.C_alloc ?_ _) | (with_reducible refine Kd.C_drewN ?_ _) | (with_reducible refine Kd.C_drew ?_))); (case side2 => exact HC0.out); rintro e w' ⟨rfl, ⟨nd, rfl⟩⟩; refine ⟨_, rfl, ?_⟩))
  go_ret
  exact ⟨by first | rfl | (simp [errW_none, errW_some] <;> rfl) | (simp [*, errW_none, errW_some] <;> rfl), by repeat (first | (with_reducible first | exact HB.out | apply below_alloc | apply pw_below_drewN | apply below_drew1) | exact HB.out)⟩
 ·
  replace c3 := Bool.eq_false_iff.mpr c3; subst c3
  rw [if_neg (show ¬ (false = true) by decide)] at H; obtain ⟨⟨t480, t481⟩, A40, H⟩ := pb_ H
  have A4 := Aside0.mk A40; clear A40; obtain ⟨⟨t486, t489, t492⟩, A50, H⟩ := pb_ H
  have A5 := Aside0.mk A50; clear A50; obtain ⟨⟨t493, t494, t495⟩, A60, H⟩ := pb_ H
  have A6 := Aside0.mk A60; clear A60; have HC7 := Aside0.mk H; clear H
  go_enter Try.func9, Try.ntmps9
  go_upto_region 6 with (first | ((with_reducible refine gate_callee (f := 20) rfl ?_); refine gl_ 28 rfl rfl Try.func20 #[.slice A0 l0.length c0] rfl ?_; (with_reducible refine (laws_big.calls _ _ l0 false _ ?side1 ?side2 A2.out).mono ?_); (case side1 => repeat (first | exact HR0.out | (with_reducible refine Kd.C_alloc ?_ _) | (with_reducible refine Kd.C_drewN ?_ _) | (with_reducible refine Kd.C_drew ?_))); (case side2 => exact HC0.out); rintro e w' ⟨rfl, ⟨nd, rfl⟩⟩; refine ⟨_, rfl, ?_⟩) | ((with_reducible refine gate_callee (f := 36) rfl ?_); refine gl_ 31 rfl rfl Try.func36 #[.slice A0 l0.length c0] rfl ?_; (with_reducible refine (spec_DrawNatDiv.calls k _ _ l0 t480 t481 _ ?side1 ?side2 A4.out).mono ?_); (case side1 => repeat (first | exact HR0.out | (with_reducible refine Kd.C_alloc ?_ _) | (with_reducible refine Kd.C_drewN ?_ _) | (with_reducible refine Kd.C_drew ?_))); (case side2 => exact HC0.out); rintro e w8 ⟨v482, v484, rfl, ho0, ho1, hb⟩; refine ⟨_, rfl, ?_⟩; have HO483 := Aside0.mk (Kd.R_lower ho0 (below_size (bw_ HB))); have HO485 := Aside0.mk (Kd.R_lower ho1 (below_size (bw_ HB))); replace HB := bs_ HB hb; (try clear hb); (try clear hb2); (try clear hk); (try clear hi); (try clear ho0); (try clear ho1); obtain ⟨Ao9, co9, eo9⟩ := Kd.R_slice HO483.out; subst eo9; obtain ⟨Ao10, co10, eo10⟩ := Kd.R_slice HO485.out; subst eo10) | ((with_reducible refine gate_callee (f := 12) rfl ?_); refine gl_ 37 rfl rfl Try.func12 #[.slice Ao9 t480.length co9, .slice Ao10 t481.length co10] rfl ?_; (with_reducible refine (impl_NatDiv.calls k (fun k_ => some k_ = (.slice Ao9 t480.length co9 : Value).ownBlock) _ _ t480 (fun k_ => some k_ = (.slice Ao10 t481.length co10 : Value).ownBlock) _ _ t481 t486 t489 t492 _ ?side1 ?side2 A5.out).mono ?_); (case side1 => exact Kd.R_V (Kd.R_tight rfl (HO483.out))); (case side2 => exact Kd.R_V (Kd.R_tight rfl (HO485.out))); rintro e w11 ⟨v487, v490, rfl, ho0, ho1, hb⟩; refine ⟨_, rfl, ?_⟩; have n0_ := Aside0.mk (Kd.R_mono (Kd.R_told (Kd.R_told (Kd.R_old (by (with_reducible repeat (first | apply Kd.R_alloc | apply Kd.R_drewN | apply Kd.R_drew)); exact HO483.out) hb) (Kd.R_base ho0)) (Kd.R_base ho1)) (fun _ h_ => h_.1)); have n1_ := Aside0.mk (Kd.R_mono (Kd.R_told (Kd.R_told (Kd.R_old (by (with_reducible repeat (first | apply Kd.R_alloc | apply Kd.R_drewN | apply Kd.R_drew)); exact HO485.out) hb) (Kd.R_base ho0)) (Kd.R_base ho1)) (fun _ h_ => h_.1)); have n2_ := Aside0.mk (Kd.R_lower (Kd.R_new' (Kd.R_new' (Kd.R_mono (ok' := fun k_ => some k_ ≠ (v490 : Value).ownBlock) ho0 (fun _ hk_ => hk_.2)) (Kd.R_lt (by (with_reducible repeat (first | apply Kd.R_alloc | apply Kd.R_drewN | apply Kd.R_drew)); exact HO483.out))) (Kd.R_lt (by (with_reducible repeat (first | apply Kd.R_alloc | apply Kd.R_drewN | apply Kd.R_drew)); exact HO485.out))) (below_size (bw_ HB))); have n3_ := Aside0.mk (Kd.R_lower (Kd.R_new' (Kd.R_new' (Kd.R_mono (ok' := fun k_ => some k_ ≠ (v487 : Value).ownBlock) ho1 (fun _ hk_ => hk_.2)) (Kd.R_lt (by (with_reducible repeat (first | apply Kd.R_alloc | apply Kd.R_drewN | apply Kd.R_drew)); exact HO483.out))) (Kd.R_lt (by (with_reducible repeat (first | apply Kd.R_alloc | apply Kd.R_drewN | apply Kd.R_drew)); exact HO485.out))) (below_size (bw_ HB))); have n4_ := bs_ HB hb; clear HO483; clear HO485; clear HB; have HO483 := n0_; have HO485 := n1_; have HO488 := n2_; have HO491 := n3_; have HB := n4_; clear n0_ n1_ n2_ n3_ n4_; (try clear hb); (try clear hb2); (try clear hk); (try clear hi); (try clear ho0); (try clear ho1)) | ((with_reducible refine gate_callee (f := 10) rfl ?_); refine gl_ 44 rfl rfl Try.func10 #[.slice Ao9 t480.length co9, .slice Ao10 t481.length co10] rfl ?_; (with_reducible refine (spec_NatDiv.calls k _ _ t480 _ _ t481 t493 t494 t495 _ ?side1 ?side2 ?side3 ?side4 A6.out).mono ?_); (case side1 => repeat (first | exact (Kd.R_reads' HO483.out).2.2 | (with_reducible refine Kd.C_alloc ?_ _) | (with_reducible refine Kd.C_drewN ?_ _) | (with_reducible refine Kd.C_drew ?_))); (case side2 => exact (Kd.R_reads' HO483.out).2.1); (case side3 => repeat (first | exact (Kd.R_reads' HO485.out).2.2 | (with_reducible refine Kd.C_alloc ?_ _) | (with_reducible refine Kd.C_drewN ?_ _) | (with_reducible refine Kd.C_drew ?_))); (case side4 => exact (Kd.R_reads' HO485.out).2.1); rintro e w12 ⟨v496, v498, rfl, ho0, ho1, hb⟩; refine ⟨_, rfl, ?_⟩; have n0_ := Aside0.mk (Kd.R_mono (Kd.R_told (Kd.R_told (Kd.R_old (by (with_reducible repeat (first | apply Kd.R_alloc | apply Kd.R_drewN | apply Kd.R_drew)); exact HO483.out) hb) (Kd.R_base ho0)) (Kd.R_base ho1)) (fun _ h_ => h_.1)); have n1_ := Aside0.mk (Kd.R_mono (Kd.R_told (Kd.R_told (Kd.R_old (by (with_reducible repeat (first | apply Kd.R_alloc | apply Kd.R_drewN | apply Kd.R_drew)); exact HO485.out) hb) (Kd.R_base ho0)) (Kd.R_base ho1)) (fun _ h_ => h_.1)); have n2_ := Aside0.mk (Kd.R_mono (Kd.R_told (Kd.R_told (Kd.R_old (by (with_reducible repeat (first | apply Kd.R_alloc | apply Kd.R_drewN | apply Kd.R_drew)); exact HO488.out) hb) (Kd.R_base ho0)) (Kd.R_base ho1)) (fun _ h_ => h_.1)); have n3_ := Aside0.mk (Kd.R_mono (Kd.R_told (Kd.R_told (Kd.R_old (by (with_reducible repeat (first | apply Kd.R_alloc | apply Kd.R_drewN | apply Kd.R_drew)); exact HO491.out) hb) (Kd.R_base ho0)) (Kd.R_base ho1)) (fun _ h_ => h_.1)); have n4_ := Aside0.mk (Kd.R_lower (Kd.R_new' (Kd.R_new' (Kd.R_new' (Kd.R_new' ho0 (Kd.R_lt (by (with_reducible repeat (first | apply Kd.R_alloc | apply Kd.R_drewN | apply Kd.R_drew)); exact HO483.out))) (Kd.R_lt (by (with_reducible repeat (first | apply Kd.R_alloc | apply Kd.R_drewN | apply Kd.R_drew)); exact HO485.out))) (Kd.R_lt (by (with_reducible repeat (first | apply Kd.R_alloc | apply Kd.R_drewN | apply Kd.R_drew)); exact HO488.out))) (Kd.R_lt (by (with_reducible repeat (first | apply Kd.R_alloc | apply Kd.R_drewN | apply Kd.R_drew)); exact HO491.out))) (below_size (bw_ HB))); have n5_ := Aside0.mk (Kd.R_lower (Kd.R_new' (Kd.R_new' (Kd.R_new' (Kd.R_new' ho1 (Kd.R_lt (by (with_reducible repeat (first | apply Kd.R_alloc | apply Kd.R_drewN | apply Kd.R_drew)); exact HO483.out))) (Kd.R_lt (by (with_reducible repeat (first | apply Kd.R_alloc | apply Kd.R_drewN | apply Kd.R_drew)); exact HO485.out))) (Kd.R_lt (by (with_reducible repeat (first | apply Kd.R_alloc | apply Kd.R_drewN | apply Kd.R_drew)); exact HO488.out))) (Kd.R_lt (by (with_reducible repeat (first | apply Kd.R_alloc | apply Kd.R_drewN | apply Kd.R_drew)); exact HO491.out))) (below_size (bw_ HB))); have n6_ := bs_ HB hb; clear HO483; clear HO485; clear HO488; clear HO491; clear HB; have HO483 := n0_; have HO485 := n1_; have HO488 := n2_; have HO491 := n3_; have HO497 := n4_; have HO499 := n5_; have HB := n6_; clear n0_ n1_ n2_ n3_ n4_ n5_ n6_; (try clear hb); (try clear hb2); (try clear hk); (try clear hi); (try clear ho0); (try clear ho1)))
  (try simp only [Act.put, sA_, sZ_, sS_])
  go_cut [54] (fun v54 wc => ∃ (kq : Nat) (x54_6 : Bool), v54 = .bool x54_6 ∧ Aside0 (laws_FnDivided.j0 kq l0 t480 t481 t486 t489 t492 t495 x54_6 = some r) ∧ Aside0 (kq ≤ k) ∧ Aside0 (Kd.R (Kd.int .i64) 3 wc w.heap.size (fun k_ => some k_ ≠ ((.slice Ao10 t481.length co10) : Value).ownBlock ∧ some k_ ≠ (v487 : Value).ownBlock ∧ some k_ ≠ (v490 : Value).ownBlock) (.slice Ao9 t480.length co9) t480) ∧ Aside0 (Kd.R (Kd.int .i64) 3 wc w.heap.size (fun k_ => some k_ ≠ ((.slice Ao9 t480.length co9) : Value).ownBlock ∧ some k_ ≠ (v487 : Value).ownBlock ∧ some k_ ≠ (v490 : Value).ownBlock) (.slice Ao10 t481.length co10) t481) ∧ Aside0 (Kd.R (Kd.int .i64) 3 wc w.heap.size (fun k_ => some k_ ≠ ((.slice Ao9 t480.length co9) : Value).ownBlock ∧ some k_ ≠ ((.slice Ao10 t481.length co10) : Value).ownBlock ∧ some k_ ≠ (v490 : Value).ownBlock) v487 t486) ∧ Aside0 (Kd.R (Kd.int .i64) 3 wc w.heap.size (fun k_ => some k_ ≠ ((.slice Ao9 t480.length co9) : Value).ownBlock ∧ some k_ ≠ ((.slice Ao10 t481.length co10) : Value).ownBlock ∧ some k_ ≠ (v487 : Value).ownBlock) v490 t489) ∧ Aside0 (Below w.heap.size w wc))
  case first =>
   have H := HC7.out; clear HC7
   by_cases c13 : (t492 != t495) = true
   ·
    rw [if_pos c13] at H
    have c13b0 : (t492 != t495) = true := c13
    (try (have c13b1 : decide (t492 = t495) = false := by simpa using c13)); (try (have c13b2 : (t492 == t495) = false := by simpa using c13)); (try (have c13b3 : ¬ (t492 = t495) := by simpa using c13)); clear c13
    (first | rw [c13b0] | (simp only [i64_w, i32_w]; rw [c13b0]) | skip)
    have H' := Aside0.mk H
    clear H
    go_wp2
    go_meet
    case rel => exact ⟨_, (true), (by first | rfl | (simp; done) | (simp [*]; done)), H', ⟨by first | omega | exact Nat.le_refl _⟩, ⟨by (with_reducible repeat (first | apply Kd.R_alloc | apply Kd.R_drewN | apply Kd.R_drew)); exact Kd.R_mono HO483.out (fun _ hk => ⟨hk.1.1.1.1, ⟨hk.1.1.1.2, hk.1.1.2⟩⟩)⟩, ⟨by (with_reducible repeat (first | apply Kd.R_alloc | apply Kd.R_drewN | apply Kd.R_drew)); exact Kd.R_mono HO485.out (fun _ hk => ⟨hk.1.1.1.1, ⟨hk.1.1.1.2, hk.1.1.2⟩⟩)⟩, ⟨by (with_reducible repeat (first | apply Kd.R_alloc | apply Kd.R_drewN | apply Kd.R_drew)); exact Kd.R_mono HO488.out (fun _ hk => ⟨hk.1.1.1.2, ⟨hk.1.1.2, hk.1.1.1.1⟩⟩)⟩, ⟨by (with_reducible repeat (first | apply Kd.R_alloc | apply Kd.R_drewN | apply Kd.R_drew)); exact Kd.R_mono HO491.out (fun _ hk => ⟨hk.1.1.1.2, ⟨hk.1.1.2, hk.1.1.1.1⟩⟩)⟩, ⟨bw_ HB⟩⟩
   ·
    rw [if_neg c13] at H
    have c13b0 : (t492 != t495) = false := by simpa using c13
    (try (have c13b1 : decide (t492 = t495) = true := by simpa using c13)); (try (have c13b2 : (t492 == t495) = true := by simpa using c13)); clear c13
    (first | rw [c13b0] | (simp only [i64_w, i32_w]; rw [c13b0]) | skip)
    have H' := Aside0.mk H
    clear H
    go_wp2
    go_meet
    case rel => exact ⟨_, (!t492), (by first | rfl | (simp; done) | (simp [*]; done)), H', ⟨by first | omega | exact Nat.le_refl _⟩, ⟨by (with_reducible repeat (first | apply Kd.R_alloc | apply Kd.R_drewN | apply Kd.R_drew)); exact Kd.R_mono HO483.out (fun _ hk => ⟨hk.1.1.1.1, ⟨hk.1.1.1.2, hk.1.1.2⟩⟩)⟩, ⟨by (with_reducible repeat (first | apply Kd.R_alloc | apply Kd.R_drewN | apply Kd.R_drew)); exact Kd.R_mono HO485.out (fun _ hk => ⟨hk.1.1.1.1, ⟨hk.1.1.1.2, hk.1.1.2⟩⟩)⟩, ⟨by (with_reducible repeat (first | apply Kd.R_alloc | apply Kd.R_drewN | apply Kd.R_drew)); exact Kd.R_mono HO488.out (fun _ hk => ⟨hk.1.1.1.2, ⟨hk.1.1.2, hk.1.1.1.1⟩⟩)⟩, ⟨by (with_reducible repeat (first | apply Kd.R_alloc | apply Kd.R_drewN | apply Kd.R_drew)); exact Kd.R_mono HO491.out (fun _ hk => ⟨hk.1.1.1.2, ⟨hk.1.1.2, hk.1.1.1.1⟩⟩)⟩, ⟨bw_ HB⟩⟩
  case rest =>
   clear HC7
   try clear c1
   try clear c2
   try clear p2
   try clear c3
   try clear c9
   try clear c10
   try clear c12
   try clear c13
   try clear c13b0
   try clear c13b1
   try clear c13b2
   obtain ⟨kq, x54_6, rfl, HA, HJ6, HO_3, HO_4, HO_5, HO_6, HB⟩ := hcut
   cases kq with
   | zero => exact absurd HA.out (by simp [laws_FnDivided.j0])
   | succ kj6 =>
    have H := HA.out; clear HA
    simp only [laws_FnDivided.j0] at H
    by_cases c14 : x54_6 = true
    ·
     subst c14; rw [if_pos rfl] at H
     by_cases c15 : (t492 == t495) = true
     ·
      rw [if_pos c15] at H
      have c15b0 : (t492 == t495) = true := c15
      (try (have c15b1 : decide (t492 = t495) = true := by simpa using c15)); (try (have c15b2 : (t492 == t495) = true := by simpa using c15)); clear c15
      by_cases c16 : (t486.length : Int) = 0
      ·
       rw [if_pos c16] at H
       have c16b0 : ((t486.length : Int) == 0) = true := beq_iff_eq.mpr c16
       have c16b1 : ((t486.length : Int) != 0) = false := bne_eq_false_iff_eq.mpr c16
       clear c16; obtain rfl := Option.some.inj H; obtain ⟨Ao17, co17, eo17⟩ := Kd.R_slice HO_5.out; subst eo17; obtain ⟨Ao18, co18, eo18⟩ := Kd.R_slice HO_6.out; subst eo18
       go_wp2
       go_ret
       exact ⟨by first | rfl | (simp [errW_none, errW_some] <;> rfl) | (simp [*, errW_none, errW_some] <;> rfl), by repeat (first | (with_reducible first | exact HB.out | apply below_alloc | apply pw_below_drewN | apply below_drew1) | exact HB.out)⟩
      ·
       rw [if_neg c16] at H
       have c16b0 : ((t486.length : Int) == 0) = false := beq_eq_false_iff_ne.mpr c16
       have c16b1 : ((t486.length : Int) != 0) = true := bne_iff_ne.mpr c16
       have c16b2 : ¬ (t486 = []) := fun h_ => c16 (by rw [h_]; rfl)
       obtain rfl := Option.some.inj H; obtain ⟨Ao19, co19, eo19⟩ := Kd.R_slice HO_5.out; subst eo19
       go_wp2
       go_ret
       exact ⟨by first | rfl | (simp [errW_none, errW_some] <;> rfl) | (simp [*, errW_none, errW_some] <;> rfl), by repeat (first | (with_reducible first | exact HB.out | apply below_alloc | apply pw_below_drewN | apply below_drew1) | exact HB.out)⟩
     ·
      rw [if_neg c15] at H
      have c15b0 : (t492 == t495) = false := by simpa using c15
      (try (have c15b1 : decide (t492 = t495) = false := by simpa using c15)); (try (have c15b2 : (t492 == t495) = false := by simpa using c15)); (try (have c15b3 : ¬ (t492 = t495) := by simpa using c15)); clear c15; obtain rfl := Option.some.inj H
      go_wp2
      go_ret
      exact ⟨by first | rfl | (simp [errW_none, errW_some] <;> rfl) | (simp [*, errW_none, errW_some] <;> rfl), by repeat (first | (with_reducible first | exact HB.out | apply below_alloc | apply pw_below_drewN | apply below_drew1) | exact HB.out)⟩
    ·
     replace c14 := Bool.eq_false_iff.mpr c14; subst c14
     rw [if_neg (show ¬ (false = true) by decide)] at H; obtain ⟨⟨t500, t503⟩, A200, H⟩ := pb_ H
     have A20 := Aside0.mk A200; clear A200; obtain ⟨⟨t504, t507⟩, A210, H⟩ := pb_ H
     have A21 := Aside0.mk A210; clear A210; have HC22 := Aside0.mk H; clear H; obtain ⟨Ao23, co23, eo23⟩ := Kd.R_slice HO_5.out; subst eo23
     go_upto_region 10 with (first | ((with_reducible refine gate_callee (f := 37) rfl ?_); refine gl_ 71 rfl rfl Try.func37 #[.slice Ao23 t486.length co23, .slice Ao10 t481.length co10] rfl ?_; (with_reducible refine (impl_NatMul.calls kj6 (fun k_ => some k_ = (.slice Ao23 t486.length co23 : Value).ownBlock) _ _ t486 (fun k_ => some k_ = (.slice Ao10 t481.length co10 : Value).ownBlock) _ _ t481 t500 t503 _ ?side1 ?side2 A20.out).mono ?_); (case side1 => exact Kd.R_V (Kd.R_tight rfl (HO_5.out))); (case side2 => exact Kd.R_V (Kd.R_tight rfl (HO_4.out))); rintro e w24 ⟨v501, rfl, ho0, hb⟩; refine ⟨_, rfl, ?_⟩; have n0_ := Aside0.mk (Kd.R_elder' (by (with_reducible repeat (first | apply Kd.R_alloc | apply Kd.R_drewN | apply Kd.R_drew)); exact HO_3.out) (Kd.R_base ho0) hb); have n1_ := Aside0.mk (Kd.R_elder' (by (with_reducible repeat (first | apply Kd.R_alloc | apply Kd.R_drewN | apply Kd.R_drew)); exact HO_4.out) (Kd.R_base ho0) hb); have n2_ := Aside0.mk (Kd.R_elder' (by (with_reducible repeat (first | apply Kd.R_alloc | apply Kd.R_drewN | apply Kd.R_drew)); exact HO_5.out) (Kd.R_base ho0) hb); have n3_ := Aside0.mk (Kd.R_elder' (by (with_reducible repeat (first | apply Kd.R_alloc | apply Kd.R_drewN | apply Kd.R_drew)); exact HO_6.out) (Kd.R_base ho0) hb); have n4_ := Aside0.mk (Kd.R_lower (Kd.R_new' (Kd.R_new' (Kd.R_new' (Kd.R_new' (Kd.R_mono (ok' := fun k_ => True) ho0 (fun _ hk_ => trivial)) (Kd.R_lt (by (with_reducible repeat (first | apply Kd.R_alloc | apply Kd.R_drewN | apply Kd.R_drew)); exact HO_3.out))) (Kd.R_lt (by (with_reducible repeat (first | apply Kd.R_alloc | apply Kd.R_drewN | apply Kd.R_drew)); exact HO_4.out))) (Kd.R_lt (by (with_reducible repeat (first | apply Kd.R_alloc | apply Kd.R_drewN | apply Kd.R_drew)); exact HO_5.out))) (Kd.R_lt (by (with_reducible repeat (first | apply Kd.R_alloc | apply Kd.R_drewN | apply Kd.R_drew)); exact HO_6.out))) (below_size (bw_ HB))); have n5_ := bs_ HB hb; clear HO_3; clear HO_4; clear HO_5; clear HO_6; clear HB; have HO_3 := n0_; have HO_4 := n1_; have HO_5 := n2_; have HO_6 := n3_; have HO502 := n4_; have HB := n5_; clear n0_ n1_ n2_ n3_ n4_ n5_; (try clear hb); (try clear hb2); (try clear hk); (try clear hi); (try clear ho0); obtain ⟨Ao25, co25, eo25⟩ := Kd.R_slice HO502.out; subst eo25; obtain ⟨Ao26, co26, eo26⟩ := Kd.R_slice HO_6.out; subst eo26) | ((with_reducible refine gate_callee (f := 38) rfl ?_); refine gl_ 77 rfl rfl Try.func38 #[.slice Ao25 t500.length co25, .slice Ao26 t489.length co26] rfl ?_; (with_reducible refine (impl_NatAdd.calls kj6 (fun k_ => some k_ = (.slice Ao25 t500.length co25 : Value).ownBlock) _ _ t500 (fun k_ => some k_ = (.slice Ao26 t489.length co26 : Value).ownBlock) _ _ t489 t504 t507 _ ?side1 ?side2 A21.out).mono ?_); (case side1 => exact Kd.R_V (Kd.R_tight rfl (HO502.out))); (case side2 => exact Kd.R_V (Kd.R_tight rfl (HO_6.out))); rintro e w27 ⟨v505, rfl, ho0, hb⟩; refine ⟨_, rfl, ?_⟩; have n0_ := Aside0.mk (Kd.R_elder' (by (with_reducible repeat (first | apply Kd.R_alloc | apply Kd.R_drewN | apply Kd.R_drew)); exact HO_3.out) (Kd.R_base ho0) hb); have n1_ := Aside0.mk (Kd.R_elder' (by (with_reducible repeat (first | apply Kd.R_alloc | apply Kd.R_drewN | apply Kd.R_drew)); exact HO_4.out) (Kd.R_base ho0) hb); have n2_ := Aside0.mk (Kd.R_elder' (by (with_reducible repeat (first | apply Kd.R_alloc | apply Kd.R_drewN | apply Kd.R_drew)); exact HO_5.out) (Kd.R_base ho0) hb); have n3_ := Aside0.mk (Kd.R_elder' (by (with_reducible repeat (first | apply Kd.R_alloc | apply Kd.R_drewN | apply Kd.R_drew)); exact HO_6.out) (Kd.R_base ho0) hb); have n4_ := Aside0.mk (Kd.R_elder' (by (with_reducible repeat (first | apply Kd.R_alloc | apply Kd.R_drewN | apply Kd.R_drew)); exact HO502.out) (Kd.R_base ho0) hb); have n5_ := Aside0.mk (Kd.R_lower (Kd.R_new' (Kd.R_new' (Kd.R_new' (Kd.R_new' (Kd.R_new' (Kd.R_mono (ok' := fun k_ => True) ho0 (fun _ hk_ => trivial)) (Kd.R_lt (by (with_reducible repeat (first | apply Kd.R_alloc | apply Kd.R_drewN | apply Kd.R_drew)); exact HO_3.out))) (Kd.R_lt (by (with_reducible repeat (first | apply Kd.R_alloc | apply Kd.R_drewN | apply Kd.R_drew)); exact HO_4.out))) (Kd.R_lt (by (with_reducible repeat (first | apply Kd.R_alloc | apply Kd.R_drewN | apply Kd.R_drew)); exact HO_5.out))) (Kd.R_lt (by (with_reducible repeat (first | apply Kd.R_alloc | apply Kd.R_drewN | apply Kd.R_drew)); exact HO_6.out))) (Kd.R_lt (by (with_reducible repeat (first | apply Kd.R_alloc | apply Kd.R_drewN | apply Kd.R_drew)); exact HO502.out))) (below_size (bw_ HB))); have n6_ := bs_ HB hb; clear HO_3; clear HO_4; clear HO_5; clear HO_6; clear HO502; clear HB; have HO_3 := n0_; have HO_4 := n1_; have HO_5 := n2_; have HO_6 := n3_; have HO502 := n4_; have HO506 := n5_; have HB := n6_; clear n0_ n1_ n2_ n3_ n4_ n5_ n6_; (try clear hb); (try clear hb2); (try clear hk); (try clear hi); (try clear ho0)))
     (try simp only [Act.put, sA_, sZ_, sS_])
     go_cut [97] (fun v97 wc => ∃ (kq : Nat) (x97_21 : Bool), v97 = .bool x97_21 ∧ Aside0 (laws_FnDivided.j1 kq l0 t480 x97_21 = some r) ∧ Aside0 (kq ≤ kj6) ∧ Aside0 (Kd.R (Kd.int .i64) 3 wc w.heap.size (fun _ => True) (.slice Ao9 t480.length co9) t480) ∧ Aside0 (Below w.heap.size w wc))
     case first =>
      have H := HC22.out; clear HC22
      by_cases c28 : t503 = true
      ·
       subst c28; rw [if_pos rfl] at H
       by_cases c29 : t507 = true
       ·
        subst c29
        rw [if_pos rfl] at H; obtain ⟨t508, A300, H⟩ := pb_ H
        have A30 := Aside0.mk A300; clear A300
        by_cases c31 : t508 = true
        ·
         subst c31
         rw [if_pos rfl] at H; obtain ⟨t509, A320, H⟩ := pb_ H
         have A32 := Aside0.mk A320; clear A320
         have H' := Aside0.mk H
         clear H; obtain ⟨Ao33, co33, eo33⟩ := Kd.R_slice HO506.out; subst eo33
         go_wp2_with (first | (go_at_call 32; (with_reducible refine (laws_sameInts.calls kj6 _ _ t504 _ _ t480 true _ ?side1 ?side2 ?side3 ?side4 A30.out).mono ?_); (case side1 => repeat (first | exact (Kd.R_reads' HO506.out).2.2 | (with_reducible refine Kd.C_alloc ?_ _) | (with_reducible refine Kd.C_drewN ?_ _) | (with_reducible refine Kd.C_drew ?_))); (case side2 => exact (Kd.R_reads' HO506.out).2.1); (case side3 => repeat (first | exact (Kd.R_reads' HO_3.out).2.2 | (with_reducible refine Kd.C_alloc ?_ _) | (with_reducible refine Kd.C_drewN ?_ _) | (with_reducible refine Kd.C_drew ?_))); (case side4 => exact (Kd.R_reads' HO_3.out).2.1); rintro e w' ⟨rfl, ⟨nd, rfl⟩⟩) | (go_at_call 39; (with_reducible refine (impl_NatCompare.calls kj6 (fun k_ => some k_ = (.slice Ao26 t489.length co26 : Value).ownBlock) _ _ t489 (fun k_ => some k_ = (.slice Ao10 t481.length co10 : Value).ownBlock) _ _ t481 t509 _ ?side1 ?side2 A32.out).mono ?_); (case side1 => exact Kd.R_V (Kd.R_tight rfl (HO_6.out))); (case side2 => exact Kd.R_V (Kd.R_tight rfl (HO_4.out))); rintro e w34 ⟨rfl, hb⟩; have n0_ := Aside0.mk (Kd.R_below (by (with_reducible repeat (first | apply Kd.R_alloc | apply Kd.R_drewN | apply Kd.R_drew)); exact HO_3.out) hb); have n1_ := Aside0.mk (Kd.R_below (by (with_reducible repeat (first | apply Kd.R_alloc | apply Kd.R_drewN | apply Kd.R_drew)); exact HO_4.out) hb); have n2_ := Aside0.mk (Kd.R_below (by (with_reducible repeat (first | apply Kd.R_alloc | apply Kd.R_drewN | apply Kd.R_drew)); exact HO_5.out) hb); have n3_ := Aside0.mk (Kd.R_below (by (with_reducible repeat (first | apply Kd.R_alloc | apply Kd.R_drewN | apply Kd.R_drew)); exact HO_6.out) hb); have n4_ := Aside0.mk (Kd.R_below (by (with_reducible repeat (first | apply Kd.R_alloc | apply Kd.R_drewN | apply Kd.R_drew)); exact HO502.out) hb); have n5_ := Aside0.mk (Kd.R_below (by (with_reducible repeat (first | apply Kd.R_alloc | apply Kd.R_drewN | apply Kd.R_drew)); exact HO506.out) hb); have n6_ := bs_ HB hb; clear HO_3; clear HO_4; clear HO_5; clear HO_6; clear HO502; clear HO506; clear HB; have HO_3 := n0_; have HO_4 := n1_; have HO_5 := n2_; have HO_6 := n3_; have HO502 := n4_; have HO506 := n5_; have HB := n6_; clear n0_ n1_ n2_ n3_ n4_ n5_ n6_; (try clear hb); (try clear hb2); (try clear hk); (try clear hi)))
         go_meet
         case rel => exact ⟨_, ((t509 != (-1))), (by first | rfl | (simp; done) | (simp [*]; done)), H', ⟨by have := HJ6.out; first | omega | exact Nat.le_refl _⟩, ⟨by (with_reducible repeat (first | apply Kd.R_alloc | apply Kd.R_drewN | apply Kd.R_drew)); exact Kd.R_mono HO_3.out (fun _ hk => trivial)⟩, ⟨bw_ HB⟩⟩
        ·
         replace c31 := Bool.eq_false_iff.mpr c31; subst c31
         rw [if_neg (show ¬ (false = true) by decide)] at H
         have H' := Aside0.mk H
         clear H; obtain ⟨Ao35, co35, eo35⟩ := Kd.R_slice HO506.out; subst eo35
         go_wp2_with (first | (go_at_call 32; (with_reducible refine (laws_sameInts.calls kj6 _ _ t504 _ _ t480 false _ ?side1 ?side2 ?side3 ?side4 A30.out).mono ?_); (case side1 => repeat (first | exact (Kd.R_reads' HO506.out).2.2 | (with_reducible refine Kd.C_alloc ?_ _) | (with_reducible refine Kd.C_drewN ?_ _) | (with_reducible refine Kd.C_drew ?_))); (case side2 => exact (Kd.R_reads' HO506.out).2.1); (case side3 => repeat (first | exact (Kd.R_reads' HO_3.out).2.2 | (with_reducible refine Kd.C_alloc ?_ _) | (with_reducible refine Kd.C_drewN ?_ _) | (with_reducible refine Kd.C_drew ?_))); (case side4 => exact (Kd.R_reads' HO_3.out).2.1); rintro e w' ⟨rfl, ⟨nd, rfl⟩⟩))
         go_meet
         case rel => exact ⟨_, (true), (by first | rfl | (simp; done) | (simp [*]; done)), H', ⟨by have := HJ6.out; first | omega | exact Nat.le_refl _⟩, ⟨by (with_reducible repeat (first | apply Kd.R_alloc | apply Kd.R_drewN | apply Kd.R_drew)); exact Kd.R_mono HO_3.out (fun _ hk => trivial)⟩, ⟨bw_ HB⟩⟩
       ·
        replace c29 := Bool.eq_false_iff.mpr c29; subst c29
        rw [if_neg (show ¬ (false = true) by decide)] at H
        have H' := Aside0.mk H
        clear H
        go_wp2
        go_meet
        case rel => exact ⟨_, (true), (by first | rfl | (simp; done) | (simp [*]; done)), H', ⟨by have := HJ6.out; first | omega | exact Nat.le_refl _⟩, ⟨by (with_reducible repeat (first | apply Kd.R_alloc | apply Kd.R_drewN | apply Kd.R_drew)); exact Kd.R_mono HO_3.out (fun _ hk => trivial)⟩, ⟨bw_ HB⟩⟩
      ·
       replace c28 := Bool.eq_false_iff.mpr c28; subst c28
       rw [if_neg (show ¬ (false = true) by decide)] at H
       have H' := Aside0.mk H
       clear H
       go_wp2
       go_meet
       case rel => exact ⟨_, (true), (by first | rfl | (simp; done) | (simp [*]; done)), H', ⟨by have := HJ6.out; first | omega | exact Nat.le_refl _⟩, ⟨by (with_reducible repeat (first | apply Kd.R_alloc | apply Kd.R_drewN | apply Kd.R_drew)); exact Kd.R_mono HO_3.out (fun _ hk => trivial)⟩, ⟨bw_ HB⟩⟩
     case rest =>
      clear HC22
      try clear c1
      try clear c2
      try clear p2
      try clear c3
      try clear c9
      try clear c10
      try clear c12
      try clear c13
      try clear c13b0
      try clear c13b1
      try clear c13b2
      try clear c14
      try clear c15
      try clear c15b0
      try clear c15b1
      try clear c15b2
      try clear c16
      try clear c16b0
      try clear c16b1
      try clear c16b2
      try clear c20
      try clear c28
      try clear c29
      try clear c31
      try clear p2
      obtain ⟨kq, x97_21, rfl, HA, HJ21, HO_3, HB⟩ := hcut
      cases kq with
      | zero => exact absurd HA.out (by simp [laws_FnDivided.j1])
      | succ kj21 =>
       have H := HA.out; clear HA
       simp only [laws_FnDivided.j1] at H
       by_cases c36 : x97_21 = true
       ·
        subst c36
        rw [if_pos rfl] at H; obtain rfl := Option.some.inj H
        go_wp2
        go_ret
        exact ⟨by first | rfl | (simp [errW_none, errW_some] <;> rfl) | (simp [*, errW_none, errW_some] <;> rfl), by repeat (first | (with_reducible first | exact HB.out | apply below_alloc | apply pw_below_drewN | apply below_drew1) | exact HB.out)⟩
       ·
        replace c36 := Bool.eq_false_iff.mpr c36; subst c36
        rw [if_neg (show ¬ (false = true) by decide)] at H; obtain ⟨t510, A370, H⟩ := pb_ H
        have A37 := Aside0.mk A370; clear A370; obtain ⟨⟨t511, t512⟩, A380, H⟩ := pb_ H
        have A38 := Aside0.mk A380; clear A380; obtain ⟨⟨t515, t516⟩, A390, H⟩ := pb_ H
        have A39 := Aside0.mk A390; clear A390; have HC40 := Aside0.mk H; clear H
        go_upto_if 114 with (first | ((with_reducible refine gate_callee (f := 40) rfl ?_); refine gl_ 99 rfl rfl Try.func40 #[.slice Ao9 t480.length co9] rfl ?_; (with_reducible refine (impl_NatBits.calls kj21 _ _ t480 t510 _ ?side1 ?side2 A37.out).mono ?_); (case side1 => repeat (first | exact (Kd.R_reads' HO_3.out).2.2 | (with_reducible refine Kd.C_alloc ?_ _) | (with_reducible refine Kd.C_drewN ?_ _) | (with_reducible refine Kd.C_drew ?_))); (case side2 => exact (Kd.R_reads' HO_3.out).2.1); rintro e w' ⟨rfl, ⟨nd, rfl⟩⟩; refine ⟨_, rfl, ?_⟩) | ((with_reducible refine gate_callee (f := 41) rfl ?_); refine gl_ 105 rfl rfl Try.func41 #[.slice Ao9 t480.length co9, .int .i64 (wrap64 (Int.tdiv (wrap64 (t510 + 7)) 8))] rfl ?_; (with_reducible refine (impl_NatBytes.calls kj21 _ _ t480 (wrap64 (Int.tdiv (wrap64 (t510 + 7)) 8)) t511 t512 _ ?side1 ?side2 A38.out).mono ?_); (case side1 => repeat (first | exact (Kd.R_reads' HO_3.out).2.2 | (with_reducible refine Kd.C_alloc ?_ _) | (with_reducible refine Kd.C_drewN ?_ _) | (with_reducible refine Kd.C_drew ?_))); (case side2 => exact (Kd.R_reads' HO_3.out).2.1); rintro e w41 ⟨v513, rfl, ho0, hb⟩; refine ⟨_, rfl, ?_⟩; have n0_ := Aside0.mk (Kd.R_below (by (with_reducible repeat (first | apply Kd.R_alloc | apply Kd.R_drewN | apply Kd.R_drew)); exact HO_3.out) hb); have n1_ := Aside0.mk (Kd.R_lower ho0 (below_size (bw_ HB))); have n2_ := bs_ HB hb; clear HO_3; clear HB; have HO_3 := n0_; have HO514 := n1_; have HB := n2_; clear n0_ n1_ n2_; (try clear hb); (try clear hb2); (try clear hk); (try clear hi); (try clear ho0); obtain ⟨Ao42, co42, eo42⟩ := Kd.R_slice HO514.out; subst eo42) | ((with_reducible refine gate_callee (f := 42) rfl ?_); refine gl_ 110 rfl rfl Try.func42 #[.slice Ao42 t511.length co42] rfl ?_; (with_reducible refine (impl_NatRead.calls kj21 _ _ t511 t515 t516 _ ?side1 ?side2 A39.out).mono ?_); (case side1 => repeat (first | exact (Kd.R_reads' HO514.out).2.2 | (with_reducible refine Kd.C_alloc ?_ _) | (with_reducible refine Kd.C_drewN ?_ _) | (with_reducible refine Kd.C_drew ?_))); (case side2 => exact (Kd.R_reads' HO514.out).2.1); rintro e w43 ⟨v517, rfl, ho0, hb⟩; refine ⟨_, rfl, ?_⟩; have n0_ := Aside0.mk (Kd.R_elder' (by (with_reducible repeat (first | apply Kd.R_alloc | apply Kd.R_drewN | apply Kd.R_drew)); exact HO_3.out) (Kd.R_base ho0) hb); have n1_ := Aside0.mk (Kd.R_below (by (with_reducible repeat (first | apply Kd.R_alloc | apply Kd.R_drewN | apply Kd.R_drew)); exact HO514.out) hb); have n2_ := Aside0.mk (Kd.R_lower (Kd.R_new' ho0 (Kd.R_lt (by (with_reducible repeat (first | apply Kd.R_alloc | apply Kd.R_drewN | apply Kd.R_drew)); exact HO_3.out))) (below_size (bw_ HB))); have n3_ := bs_ HB hb; clear HO_3; clear HO514; clear HB; have HO_3 := n0_; have HO514 := n1_; have HO518 := n2_; have HB := n3_; clear n0_ n1_ n2_ n3_; (try clear hb); (try clear hb2); (try clear hk); (try clear hi); (try clear ho0)))
        (try simp only [Act.put, sA_, sZ_, sS_])
        go_cut [] (fun wc => ∃ (kq : Nat), Aside0 (laws_FnDivided.j2 kq l0 t480 t512 t515 t516 = some r) ∧ Aside0 (kq ≤ kj21) ∧ Aside0 (Kd.R (Kd.int .i64) 3 wc w.heap.size (fun k_ => some k_ ≠ (v517 : Value).ownBlock) (.slice Ao9 t480.length co9) t480) ∧ Aside0 (Kd.R (Kd.int .i64) 3 wc w.heap.size (fun k_ => some k_ ≠ ((.slice Ao9 t480.length co9) : Value).ownBlock) v517 t515) ∧ Aside0 (Below w.heap.size w wc))
        case first =>
         have H := HC40.out; clear HC40
         by_cases c44 : (wrap64 (Int.tdiv (wrap64 (t510 + 7)) 8)) > 0
         ·
          rw [if_pos c44] at H
          have c44b0 : decide (0 < (wrap64 (Int.tdiv (wrap64 (t510 + 7)) 8))) = true := decide_eq_true c44
          clear c44
          (first | rw [c44b0] | (simp only [i64_w, i32_w]; rw [c44b0]) | skip)
          obtain ⟨⟨t519, t520⟩, A450, H⟩ := pb_ H; have A45 := Aside0.mk A450; clear A450
          by_cases c46 : t520 = true
          ·
           subst c46
           rw [if_pos rfl] at H; obtain rfl := Option.some.inj H
           go_wp2_with (first | ((with_reducible refine gate_callee (f := 41) rfl ?_); refine gl_ 119 rfl rfl Try.func41 #[.slice Ao9 t480.length co9, .int .i64 (wrap64 ((wrap64 (Int.tdiv (wrap64 (t510 + 7)) 8)) - 1))] rfl ?_; (with_reducible refine (impl_NatBytes.calls kj21 _ _ t480 (wrap64 ((wrap64 (Int.tdiv (wrap64 (t510 + 7)) 8)) - 1)) t519 true _ ?side1 ?side2 A45.out).mono ?_); (case side1 => repeat (first | exact (Kd.R_reads' HO_3.out).2.2 | (with_reducible refine Kd.C_alloc ?_ _) | (with_reducible refine Kd.C_drewN ?_ _) | (with_reducible refine Kd.C_drew ?_))); (case side2 => exact (Kd.R_reads' HO_3.out).2.1); rintro e w47 ⟨v521, rfl, ho0, hb⟩; refine ⟨_, rfl, ?_⟩; have n0_ := Aside0.mk (Kd.R_below (by (with_reducible repeat (first | apply Kd.R_alloc | apply Kd.R_drewN | apply Kd.R_drew)); exact HO_3.out) hb); have n1_ := Aside0.mk (Kd.R_elder' (by (with_reducible repeat (first | apply Kd.R_alloc | apply Kd.R_drewN | apply Kd.R_drew)); exact HO514.out) (Kd.R_base ho0) hb); have n2_ := Aside0.mk (Kd.R_below (by (with_reducible repeat (first | apply Kd.R_alloc | apply Kd.R_drewN | apply Kd.R_drew)); exact HO518.out) hb); have n3_ := Aside0.mk (Kd.R_lower (Kd.R_new' ho0 (Kd.R_lt (by (with_reducible repeat (first | apply Kd.R_alloc | apply Kd.R_drewN | apply Kd.R_drew)); exact HO514.out))) (below_size (bw_ HB))); have n4_ := bs_ HB hb; clear HO_3; clear HO514; clear HO518; clear HB; have HO_3 := n0_; have HO514 := n1_; have HO518 := n2_; have HO522 := n3_; have HB := n4_; clear n0_ n1_ n2_ n3_ n4_; (try clear hb); (try clear hb2); (try clear hk); (try clear hi); (try clear ho0)))
           go_ret
           exact ⟨by first | rfl | (simp [errW_none, errW_some] <;> rfl) | (simp [*, errW_none, errW_some] <;> rfl), by repeat (first | (with_reducible first | exact HB.out | apply below_alloc | apply pw_below_drewN | apply below_drew1) | exact HB.out)⟩
          ·
           replace c46 := Bool.eq_false_iff.mpr c46; subst c46
           rw [if_neg (show ¬ (false = true) by decide)] at H
           have H' := Aside0.mk H
           clear H
           go_wp2_with (first | ((with_reducible refine gate_callee (f := 41) rfl ?_); refine gl_ 119 rfl rfl Try.func41 #[.slice Ao9 t480.length co9, .int .i64 (wrap64 ((wrap64 (Int.tdiv (wrap64 (t510 + 7)) 8)) - 1))] rfl ?_; (with_reducible refine (impl_NatBytes.calls kj21 _ _ t480 (wrap64 ((wrap64 (Int.tdiv (wrap64 (t510 + 7)) 8)) - 1)) t519 false _ ?side1 ?side2 A45.out).mono ?_); (case side1 => repeat (first | exact (Kd.R_reads' HO_3.out).2.2 | (with_reducible refine Kd.C_alloc ?_ _) | (with_reducible refine Kd.C_drewN ?_ _) | (with_reducible refine Kd.C_drew ?_))); (case side2 => exact (Kd.R_reads' HO_3.out).2.1); rintro e w48 ⟨v521, rfl, ho0, hb⟩; refine ⟨_, rfl, ?_⟩; have n0_ := Aside0.mk (Kd.R_below (by (with_reducible repeat (first | apply Kd.R_alloc | apply Kd.R_drewN | apply Kd.R_drew)); exact HO_3.out) hb); have n1_ := Aside0.mk (Kd.R_elder' (by (with_reducible repeat (first | apply Kd.R_alloc | apply Kd.R_drewN | apply Kd.R_drew)); exact HO514.out) (Kd.R_base ho0) hb); have n2_ := Aside0.mk (Kd.R_below (by (with_reducible repeat (first | apply Kd.R_alloc | apply Kd.R_drewN | apply Kd.R_drew)); exact HO518.out) hb); have n3_ := Aside0.mk (Kd.R_lower (Kd.R_new' ho0 (Kd.R_lt (by (with_reducible repeat (first | apply Kd.R_alloc | apply Kd.R_drewN | apply Kd.R_drew)); exact HO514.out))) (below_size (bw_ HB))); have n4_ := bs_ HB hb; clear HO_3; clear HO514; clear HO518; clear HB; have HO_3 := n0_; have HO514 := n1_; have HO518 := n2_; have HO522 := n3_; have HB := n4_; clear n0_ n1_ n2_ n3_ n4_; (try clear hb); (try clear hb2); (try clear hk); (try clear hi); (try clear ho0)))
           go_meet
           case rel => exact ⟨_, H', ⟨by have := HJ6.out; have := HJ21.out; first | omega | exact Nat.le_refl _⟩, ⟨by (with_reducible repeat (first | apply Kd.R_alloc | apply Kd.R_drewN | apply Kd.R_drew)); exact Kd.R_mono HO_3.out (fun _ hk => hk.2)⟩, ⟨by (with_reducible repeat (first | apply Kd.R_alloc | apply Kd.R_drewN | apply Kd.R_drew)); exact Kd.R_mono HO518.out (fun _ hk => hk.2)⟩, ⟨bw_ HB⟩⟩
         ·
          rw [if_neg c44] at H
          have c44b0 : decide (0 < (wrap64 (Int.tdiv (wrap64 (t510 + 7)) 8))) = false := decide_eq_false c44
          clear c44
          (first | rw [c44b0] | (simp only [i64_w, i32_w]; rw [c44b0]) | skip)
          have H' := Aside0.mk H
          clear H
          go_wp2
          go_meet
          case rel => exact ⟨_, H', ⟨by have := HJ6.out; have := HJ21.out; first | omega | exact Nat.le_refl _⟩, ⟨by (with_reducible repeat (first | apply Kd.R_alloc | apply Kd.R_drewN | apply Kd.R_drew)); exact Kd.R_mono HO_3.out (fun _ hk => hk.2)⟩, ⟨by (with_reducible repeat (first | apply Kd.R_alloc | apply Kd.R_drewN | apply Kd.R_drew)); exact Kd.R_mono HO518.out (fun _ hk => hk.2)⟩, ⟨bw_ HB⟩⟩
        case rest =>
         clear HC40
         try clear c1
         try clear c2
         try clear p2
         try clear c3
         try clear c4
         try clear p6
         try clear c9
         try clear c10
         try clear c12
         try clear c13
         try clear c13b0
         try clear c13b1
         try clear c13b2
         try clear c14
         try clear c15
         try clear c15b0
         try clear c15b1
         try clear c15b2
         try clear c16
         try clear c16b0
         try clear c16b1
         try clear c16b2
         try clear c20
         try clear c28
         try clear c29
         try clear c31
         try clear c36
         try clear c37
         try clear c38
         try clear c40
         try clear c41
         try clear c42
         try clear c44
         try clear c44b0
         try clear c46
         try clear p2
         obtain ⟨kq, HA, HJ39, HO_3, HO_18, HB⟩ := hcut
         cases kq with
         | zero => exact absurd HA.out (by simp [laws_FnDivided.j2])
         | succ kj39 =>
          have H := HA.out; clear HA
          simp only [laws_FnDivided.j2] at H
          obtain ⟨t523, A490, H⟩ := pb_ H; have A49 := Aside0.mk A490; clear A490; obtain ⟨t524, A500, H⟩ := pb_ H
          have A50 := Aside0.mk A500; clear A500; obtain ⟨⟨t525, t526⟩, A510, H⟩ := pb_ H
          have A51 := Aside0.mk A510; clear A510; obtain ⟨⟨t529, t530⟩, A520, H⟩ := pb_ H
          have A52 := Aside0.mk A520; clear A520
          by_cases c53 : t512 = true
          ·
           subst c53; rw [if_pos rfl] at H
           by_cases c54 : t516 = true
           ·
            subst c54
            rw [if_pos rfl] at H; obtain ⟨t531, A550, H⟩ := pb_ H
            have A55 := Aside0.mk A550; clear A550
            by_cases c56 : t531 = true
            ·
             subst c56; rw [if_pos rfl] at H
             by_cases c57 : t530 = true
             ·
              subst c57
              rw [if_pos rfl] at H; obtain rfl := Option.some.inj H
              go_wp2_with (first | ((with_reducible refine gate_callee (f := 21) rfl ?_); refine gl_ 124 rfl rfl Try.func21 #[.slice A0 l0.length c0, .int .i64 0] rfl ?_; (with_reducible refine (laws_at.calls _ _ l0 0 t523 _ ?side1 ?side2 A49.out).mono ?_); (case side1 => repeat (first | exact (Kd.C_below HR0.out HB.out) | (with_reducible refine Kd.C_alloc ?_ _) | (with_reducible refine Kd.C_drewN ?_ _) | (with_reducible refine Kd.C_drew ?_))); (case side2 => exact HC0.out); rintro e w' ⟨rfl, ⟨nd, rfl⟩⟩; refine ⟨_, rfl, ?_⟩) | ((with_reducible refine gate_callee (f := 21) rfl ?_); refine gl_ 126 rfl rfl Try.func21 #[.slice A0 l0.length c0, .int .i64 1] rfl ?_; (with_reducible refine (laws_at.calls _ _ l0 1 t524 _ ?side1 ?side2 A50.out).mono ?_); (case side1 => repeat (first | exact (Kd.C_below HR0.out (bw_ HB)) | (with_reducible refine Kd.C_alloc ?_ _) | (with_reducible refine Kd.C_drewN ?_ _) | (with_reducible refine Kd.C_drew ?_))); (case side2 => exact HC0.out); rintro e w' ⟨rfl, ⟨nd, rfl⟩⟩; refine ⟨_, rfl, ?_⟩) | ((with_reducible refine gate_callee (f := 23) rfl ?_); refine gl_ 130 rfl rfl Try.func23 #[.int .i64 (wrap64 (t523 * t524))] rfl ?_; (with_reducible refine (impl_NatOf.calls kj39 (wrap64 (t523 * t524)) t525 t526 _ A51.out).mono ?_); rintro e w58 ⟨v527, rfl, ho0, hb⟩; refine ⟨_, rfl, ?_⟩; have n0_ := Aside0.mk (Kd.R_elder' (by (with_reducible repeat (first | apply Kd.R_alloc | apply Kd.R_drewN | apply Kd.R_drew)); exact HO_3.out) (Kd.R_base ho0) hb); have n1_ := Aside0.mk (Kd.R_elder' (by (with_reducible repeat (first | apply Kd.R_alloc | apply Kd.R_drewN | apply Kd.R_drew)); exact HO_18.out) (Kd.R_base ho0) hb); have n2_ := Aside0.mk (Kd.R_lower (Kd.R_new' (Kd.R_new' ho0 (Kd.R_lt (by (with_reducible repeat (first | apply Kd.R_alloc | apply Kd.R_drewN | apply Kd.R_drew)); exact HO_3.out))) (Kd.R_lt (by (with_reducible repeat (first | apply Kd.R_alloc | apply Kd.R_drewN | apply Kd.R_drew)); exact HO_18.out))) (below_size (bw_ HB))); have n3_ := bs_ HB hb; clear HO_3; clear HO_18; clear HB; have HO_3 := n0_; have HO_18 := n1_; have HO528 := n2_; have HB := n3_; clear n0_ n1_ n2_ n3_; (try clear hb); (try clear hb2); (try clear hk); (try clear hi); (try clear ho0); obtain ⟨Ao59, co59, eo59⟩ := Kd.R_slice HO528.out; subst eo59) | ((with_reducible refine gate_callee (f := 24) rfl ?_); refine gl_ 135 rfl rfl Try.func24 #[.slice Ao59 t525.length co59] rfl ?_; (with_reducible refine (impl_NatInt.calls kj39 _ _ t525 t529 true _ ?side1 ?side2 A52.out).mono ?_); (case side1 => repeat (first | exact (Kd.R_reads' HO528.out).2.2 | (with_reducible refine Kd.C_alloc ?_ _) | (with_reducible refine Kd.C_drewN ?_ _) | (with_reducible refine Kd.C_drew ?_))); (case side2 => exact (Kd.R_reads' HO528.out).2.1); rintro e w' ⟨rfl, ⟨nd, rfl⟩⟩; refine ⟨_, rfl, ?_⟩; obtain ⟨Ao60, co60, eo60⟩ := Kd.R_slice HO_18.out; subst eo60) | (go_at_call 32; (with_reducible refine (laws_sameInts.calls kj39 _ _ t515 _ _ t480 true _ ?side1 ?side2 ?side3 ?side4 A55.out).mono ?_); (case side1 => repeat (first | exact (Kd.R_reads' HO_18.out).2.2 | (with_reducible refine Kd.C_alloc ?_ _) | (with_reducible refine Kd.C_drewN ?_ _) | (with_reducible refine Kd.C_drew ?_))); (case side2 => exact (Kd.R_reads' HO_18.out).2.1); (case side3 => repeat (first | exact (Kd.R_reads' HO_3.out).2.2 | (with_reducible refine Kd.C_alloc ?_ _) | (with_reducible refine Kd.C_drewN ?_ _) | (with_reducible refine Kd.C_drew ?_))); (case side4 => exact (Kd.R_reads' HO_3.out).2.1); rintro e w' ⟨rfl, ⟨nd, rfl⟩⟩))
              go_ret
              exact ⟨by first | rfl | (simp [errW_none, errW_some] <;> rfl) | (simp [*, errW_none, errW_some] <;> rfl), by repeat (first | (with_reducible first | exact HB.out | apply below_alloc | apply pw_below_drewN | apply below_drew1) | exact HB.out)⟩
             ·
              replace c57 := Bool.eq_false_iff.mpr c57; subst c57
              rw [if_neg (show ¬ (false = true) by decide)] at H; obtain rfl := Option.some.inj H
              go_wp2_with (first | ((with_reducible refine gate_callee (f := 21) rfl ?_); refine gl_ 124 rfl rfl Try.func21 #[.slice A0 l0.length c0, .int .i64 0] rfl ?_; (with_reducible refine (laws_at.calls _ _ l0 0 t523 _ ?side1 ?side2 A49.out).mono ?_); (case side1 => repeat (first | exact (Kd.C_below HR0.out HB.out) | (with_reducible refine Kd.C_alloc ?_ _) | (with_reducible refine Kd.C_drewN ?_ _) | (with_reducible refine Kd.C_drew ?_))); (case side2 => exact HC0.out); rintro e w' ⟨rfl, ⟨nd, rfl⟩⟩; refine ⟨_, rfl, ?_⟩) | ((with_reducible refine gate_callee (f := 21) rfl ?_); refine gl_ 126 rfl rfl Try.func21 #[.slice A0 l0.length c0, .int .i64 1] rfl ?_; (with_reducible refine (laws_at.calls _ _ l0 1 t524 _ ?side1 ?side2 A50.out).mono ?_); (case side1 => repeat (first | exact (Kd.C_below HR0.out (bw_ HB)) | (with_reducible refine Kd.C_alloc ?_ _) | (with_reducible refine Kd.C_drewN ?_ _) | (with_reducible refine Kd.C_drew ?_))); (case side2 => exact HC0.out); rintro e w' ⟨rfl, ⟨nd, rfl⟩⟩; refine ⟨_, rfl, ?_⟩) | ((with_reducible refine gate_callee (f := 23) rfl ?_); refine gl_ 130 rfl rfl Try.func23 #[.int .i64 (wrap64 (t523 * t524))] rfl ?_; (with_reducible refine (impl_NatOf.calls kj39 (wrap64 (t523 * t524)) t525 t526 _ A51.out).mono ?_); rintro e w61 ⟨v527, rfl, ho0, hb⟩; refine ⟨_, rfl, ?_⟩; have n0_ := Aside0.mk (Kd.R_elder' (by (with_reducible repeat (first | apply Kd.R_alloc | apply Kd.R_drewN | apply Kd.R_drew)); exact HO_3.out) (Kd.R_base ho0) hb); have n1_ := Aside0.mk (Kd.R_elder' (by (with_reducible repeat (first | apply Kd.R_alloc | apply Kd.R_drewN | apply Kd.R_drew)); exact HO_18.out) (Kd.R_base ho0) hb); have n2_ := Aside0.mk (Kd.R_lower (Kd.R_new' (Kd.R_new' ho0 (Kd.R_lt (by (with_reducible repeat (first | apply Kd.R_alloc | apply Kd.R_drewN | apply Kd.R_drew)); exact HO_3.out))) (Kd.R_lt (by (with_reducible repeat (first | apply Kd.R_alloc | apply Kd.R_drewN | apply Kd.R_drew)); exact HO_18.out))) (below_size (bw_ HB))); have n3_ := bs_ HB hb; clear HO_3; clear HO_18; clear HB; have HO_3 := n0_; have HO_18 := n1_; have HO528 := n2_; have HB := n3_; clear n0_ n1_ n2_ n3_; (try clear hb); (try clear hb2); (try clear hk); (try clear hi); (try clear ho0); obtain ⟨Ao62, co62, eo62⟩ := Kd.R_slice HO528.out; subst eo62) | ((with_reducible refine gate_callee (f := 24) rfl ?_); refine gl_ 135 rfl rfl Try.func24 #[.slice Ao62 t525.length co62] rfl ?_; (with_reducible refine (impl_NatInt.calls kj39 _ _ t525 t529 false _ ?side1 ?side2 A52.out).mono ?_); (case side1 => repeat (first | exact (Kd.R_reads' HO528.out).2.2 | (with_reducible refine Kd.C_alloc ?_ _) | (with_reducible refine Kd.C_drewN ?_ _) | (with_reducible refine Kd.C_drew ?_))); (case side2 => exact (Kd.R_reads' HO528.out).2.1); rintro e w' ⟨rfl, ⟨nd, rfl⟩⟩; refine ⟨_, rfl, ?_⟩; obtain ⟨Ao63, co63, eo63⟩ := Kd.R_slice HO_18.out; subst eo63) | (go_at_call 32; (with_reducible refine (laws_sameInts.calls kj39 _ _ t515 _ _ t480 true _ ?side1 ?side2 ?side3 ?side4 A55.out).mono ?_); (case side1 => repeat (first | exact (Kd.R_reads' HO_18.out).2.2 | (with_reducible refine Kd.C_alloc ?_ _) | (with_reducible refine Kd.C_drewN ?_ _) | (with_reducible refine Kd.C_drew ?_))); (case side2 => exact (Kd.R_reads' HO_18.out).2.1); (case side3 => repeat (first | exact (Kd.R_reads' HO_3.out).2.2 | (with_reducible refine Kd.C_alloc ?_ _) | (with_reducible refine Kd.C_drewN ?_ _) | (with_reducible refine Kd.C_drew ?_))); (case side4 => exact (Kd.R_reads' HO_3.out).2.1); rintro e w' ⟨rfl, ⟨nd, rfl⟩⟩))
              go_ret
              exact ⟨by first | rfl | (simp [errW_none, errW_some] <;> rfl) | (simp [*, errW_none, errW_some] <;> rfl), by repeat (first | (with_reducible first | exact HB.out | apply below_alloc | apply pw_below_drewN | apply below_drew1) | exact HB.out)⟩
            ·
             replace c56 := Bool.eq_false_iff.mpr c56; subst c56
             rw [if_neg (show ¬ (false = true) by decide)] at H; obtain rfl := Option.some.inj H
             go_wp2_with (first | ((with_reducible refine gate_callee (f := 21) rfl ?_); refine gl_ 124 rfl rfl Try.func21 #[.slice A0 l0.length c0, .int .i64 0] rfl ?_; (with_reducible refine (laws_at.calls _ _ l0 0 t523 _ ?side1 ?side2 A49.out).mono ?_); (case side1 => repeat (first | exact (Kd.C_below HR0.out HB.out) | (with_reducible refine Kd.C_alloc ?_ _) | (with_reducible refine Kd.C_drewN ?_ _) | (with_reducible refine Kd.C_drew ?_))); (case side2 => exact HC0.out); rintro e w' ⟨rfl, ⟨nd, rfl⟩⟩; refine ⟨_, rfl, ?_⟩) | ((with_reducible refine gate_callee (f := 21) rfl ?_); refine gl_ 126 rfl rfl Try.func21 #[.slice A0 l0.length c0, .int .i64 1] rfl ?_; (with_reducible refine (laws_at.calls _ _ l0 1 t524 _ ?side1 ?side2 A50.out).mono ?_); (case side1 => repeat (first | exact (Kd.C_below HR0.out (bw_ HB)) | (with_reducible refine Kd.C_alloc ?_ _) | (with_reducible refine Kd.C_drewN ?_ _) | (with_reducible refine Kd.C_drew ?_))); (case side2 => exact HC0.out); rintro e w' ⟨rfl, ⟨nd, rfl⟩⟩; refine ⟨_, rfl, ?_⟩) | ((with_reducible refine gate_callee (f := 23) rfl ?_); refine gl_ 130 rfl rfl Try.func23 #[.int .i64 (wrap64 (t523 * t524))] rfl ?_; (with_reducible refine (impl_NatOf.calls kj39 (wrap64 (t523 * t524)) t525 t526 _ A51.out).mono ?_); rintro e w64 ⟨v527, rfl, ho0, hb⟩; refine ⟨_, rfl, ?_⟩; have n0_ := Aside0.mk (Kd.R_elder' (by (with_reducible repeat (first | apply Kd.R_alloc | apply Kd.R_drewN | apply Kd.R_drew)); exact HO_3.out) (Kd.R_base ho0) hb); have n1_ := Aside0.mk (Kd.R_elder' (by (with_reducible repeat (first | apply Kd.R_alloc | apply Kd.R_drewN | apply Kd.R_drew)); exact HO_18.out) (Kd.R_base ho0) hb); have n2_ := Aside0.mk (Kd.R_lower (Kd.R_new' (Kd.R_new' ho0 (Kd.R_lt (by (with_reducible repeat (first | apply Kd.R_alloc | apply Kd.R_drewN | apply Kd.R_drew)); exact HO_3.out))) (Kd.R_lt (by (with_reducible repeat (first | apply Kd.R_alloc | apply Kd.R_drewN | apply Kd.R_drew)); exact HO_18.out))) (below_size (bw_ HB))); have n3_ := bs_ HB hb; clear HO_3; clear HO_18; clear HB; have HO_3 := n0_; have HO_18 := n1_; have HO528 := n2_; have HB := n3_; clear n0_ n1_ n2_ n3_; (try clear hb); (try clear hb2); (try clear hk); (try clear hi); (try clear ho0); obtain ⟨Ao65, co65, eo65⟩ := Kd.R_slice HO528.out; subst eo65) | ((with_reducible refine gate_callee (f := 24) rfl ?_); refine gl_ 135 rfl rfl Try.func24 #[.slice Ao65 t525.length co65] rfl ?_; (with_reducible refine (impl_NatInt.calls kj39 _ _ t525 t529 t530 _ ?side1 ?side2 A52.out).mono ?_); (case side1 => repeat (first | exact (Kd.R_reads' HO528.out).2.2 | (with_reducible refine Kd.C_alloc ?_ _) | (with_reducible refine Kd.C_drewN ?_ _) | (with_reducible refine Kd.C_drew ?_))); (case side2 => exact (Kd.R_reads' HO528.out).2.1); rintro e w' ⟨rfl, ⟨nd, rfl⟩⟩; refine ⟨_, rfl, ?_⟩; obtain ⟨Ao66, co66, eo66⟩ := Kd.R_slice HO_18.out; subst eo66) | (go_at_call 32; (with_reducible refine (laws_sameInts.calls kj39 _ _ t515 _ _ t480 false _ ?side1 ?side2 ?side3 ?side4 A55.out).mono ?_); (case side1 => repeat (first | exact (Kd.R_reads' HO_18.out).2.2 | (with_reducible refine Kd.C_alloc ?_ _) | (with_reducible refine Kd.C_drewN ?_ _) | (with_reducible refine Kd.C_drew ?_))); (case side2 => exact (Kd.R_reads' HO_18.out).2.1); (case side3 => repeat (first | exact (Kd.R_reads' HO_3.out).2.2 | (with_reducible refine Kd.C_alloc ?_ _) | (with_reducible refine Kd.C_drewN ?_ _) | (with_reducible refine Kd.C_drew ?_))); (case side4 => exact (Kd.R_reads' HO_3.out).2.1); rintro e w' ⟨rfl, ⟨nd, rfl⟩⟩))
             go_ret
             exact ⟨by first | rfl | (simp [errW_none, errW_some] <;> rfl) | (simp [*, errW_none, errW_some] <;> rfl), by repeat (first | (with_reducible first | exact HB.out | apply below_alloc | apply pw_below_drewN | apply below_drew1) | exact HB.out)⟩
           ·
            replace c54 := Bool.eq_false_iff.mpr c54; subst c54
            rw [if_neg (show ¬ (false = true) by decide)] at H; obtain rfl := Option.some.inj H
            go_wp2_with (first | ((with_reducible refine gate_callee (f := 21) rfl ?_); refine gl_ 124 rfl rfl Try.func21 #[.slice A0 l0.length c0, .int .i64 0] rfl ?_; (with_reducible refine (laws_at.calls _ _ l0 0 t523 _ ?side1 ?side2 A49.out).mono ?_); (case side1 => repeat (first | exact (Kd.C_below HR0.out HB.out) | (with_reducible refine Kd.C_alloc ?_ _) | (with_reducible refine Kd.C_drewN ?_ _) | (with_reducible refine Kd.C_drew ?_))); (case side2 => exact HC0.out); rintro e w' ⟨rfl, ⟨nd, rfl⟩⟩; refine ⟨_, rfl, ?_⟩) | ((with_reducible refine gate_callee (f := 21) rfl ?_); refine gl_ 126 rfl rfl Try.func21 #[.slice A0 l0.length c0, .int .i64 1] rfl ?_; (with_reducible refine (laws_at.calls _ _ l0 1 t524 _ ?side1 ?side2 A50.out).mono ?_); (case side1 => repeat (first | exact (Kd.C_below HR0.out (bw_ HB)) | (with_reducible refine Kd.C_alloc ?_ _) | (with_reducible refine Kd.C_drewN ?_ _) | (with_reducible refine Kd.C_drew ?_))); (case side2 => exact HC0.out); rintro e w' ⟨rfl, ⟨nd, rfl⟩⟩; refine ⟨_, rfl, ?_⟩) | ((with_reducible refine gate_callee (f := 23) rfl ?_); refine gl_ 130 rfl rfl Try.func23 #[.int .i64 (wrap64 (t523 * t524))] rfl ?_; (with_reducible refine (impl_NatOf.calls kj39 (wrap64 (t523 * t524)) t525 t526 _ A51.out).mono ?_); rintro e w67 ⟨v527, rfl, ho0, hb⟩; refine ⟨_, rfl, ?_⟩; have n0_ := Aside0.mk (Kd.R_elder' (by (with_reducible repeat (first | apply Kd.R_alloc | apply Kd.R_drewN | apply Kd.R_drew)); exact HO_3.out) (Kd.R_base ho0) hb); have n1_ := Aside0.mk (Kd.R_elder' (by (with_reducible repeat (first | apply Kd.R_alloc | apply Kd.R_drewN | apply Kd.R_drew)); exact HO_18.out) (Kd.R_base ho0) hb); have n2_ := Aside0.mk (Kd.R_lower (Kd.R_new' (Kd.R_new' ho0 (Kd.R_lt (by (with_reducible repeat (first | apply Kd.R_alloc | apply Kd.R_drewN | apply Kd.R_drew)); exact HO_3.out))) (Kd.R_lt (by (with_reducible repeat (first | apply Kd.R_alloc | apply Kd.R_drewN | apply Kd.R_drew)); exact HO_18.out))) (below_size (bw_ HB))); have n3_ := bs_ HB hb; clear HO_3; clear HO_18; clear HB; have HO_3 := n0_; have HO_18 := n1_; have HO528 := n2_; have HB := n3_; clear n0_ n1_ n2_ n3_; (try clear hb); (try clear hb2); (try clear hk); (try clear hi); (try clear ho0); obtain ⟨Ao68, co68, eo68⟩ := Kd.R_slice HO528.out; subst eo68) | ((with_reducible refine gate_callee (f := 24) rfl ?_); refine gl_ 135 rfl rfl Try.func24 #[.slice Ao68 t525.length co68] rfl ?_; (with_reducible refine (impl_NatInt.calls kj39 _ _ t525 t529 t530 _ ?side1 ?side2 A52.out).mono ?_); (case side1 => repeat (first | exact (Kd.R_reads' HO528.out).2.2 | (with_reducible refine Kd.C_alloc ?_ _) | (with_reducible refine Kd.C_drewN ?_ _) | (with_reducible refine Kd.C_drew ?_))); (case side2 => exact (Kd.R_reads' HO528.out).2.1); rintro e w' ⟨rfl, ⟨nd, rfl⟩⟩; refine ⟨_, rfl, ?_⟩))
            go_ret
            exact ⟨by first | rfl | (simp [errW_none, errW_some] <;> rfl) | (simp [*, errW_none, errW_some] <;> rfl), by repeat (first | (with_reducible first | exact HB.out | apply below_alloc | apply pw_below_drewN | apply below_drew1) | exact HB.out)⟩
          ·
           replace c53 := Bool.eq_false_iff.mpr c53; subst c53
           rw [if_neg (show ¬ (false = true) by decide)] at H; obtain rfl := Option.some.inj H
           go_wp2_with (first | ((with_reducible refine gate_callee (f := 21) rfl ?_); refine gl_ 124 rfl rfl Try.func21 #[.slice A0 l0.length c0, .int .i64 0] rfl ?_; (with_reducible refine (laws_at.calls _ _ l0 0 t523 _ ?side1 ?side2 A49.out).mono ?_); (case side1 => repeat (first | exact (Kd.C_below HR0.out HB.out) | (with_reducible refine Kd.C_alloc ?_ _) | (with_reducible refine Kd.C_drewN ?_ _) | (with_reducible refine Kd.C_drew ?_))); (case side2 => exact HC0.out); rintro e w' ⟨rfl, ⟨nd, rfl⟩⟩; refine ⟨_, rfl, ?_⟩) | ((with_reducible refine gate_callee (f := 21) rfl ?_); refine gl_ 126 rfl rfl Try.func21 #[.slice A0 l0.length c0, .int .i64 1] rfl ?_; (with_reducible refine (laws_at.calls _ _ l0 1 t524 _ ?side1 ?side2 A50.out).mono ?_); (case side1 => repeat (first | exact (Kd.C_below HR0.out (bw_ HB)) | (with_reducible refine Kd.C_alloc ?_ _) | (with_reducible refine Kd.C_drewN ?_ _) | (with_reducible refine Kd.C_drew ?_))); (case side2 => exact HC0.out); rintro e w' ⟨rfl, ⟨nd, rfl⟩⟩; refine ⟨_, rfl, ?_⟩) | ((with_reducible refine gate_callee (f := 23) rfl ?_); refine gl_ 130 rfl rfl Try.func23 #[.int .i64 (wrap64 (t523 * t524))] rfl ?_; (with_reducible refine (impl_NatOf.calls kj39 (wrap64 (t523 * t524)) t525 t526 _ A51.out).mono ?_); rintro e w69 ⟨v527, rfl, ho0, hb⟩; refine ⟨_, rfl, ?_⟩; have n0_ := Aside0.mk (Kd.R_elder' (by (with_reducible repeat (first | apply Kd.R_alloc | apply Kd.R_drewN | apply Kd.R_drew)); exact HO_3.out) (Kd.R_base ho0) hb); have n1_ := Aside0.mk (Kd.R_elder' (by (with_reducible repeat (first | apply Kd.R_alloc | apply Kd.R_drewN | apply Kd.R_drew)); exact HO_18.out) (Kd.R_base ho0) hb); have n2_ := Aside0.mk (Kd.R_lower (Kd.R_new' (Kd.R_new' ho0 (Kd.R_lt (by (with_reducible repeat (first | apply Kd.R_alloc | apply Kd.R_drewN | apply Kd.R_drew)); exact HO_3.out))) (Kd.R_lt (by (with_reducible repeat (first | apply Kd.R_alloc | apply Kd.R_drewN | apply Kd.R_drew)); exact HO_18.out))) (below_size (bw_ HB))); have n3_ := bs_ HB hb; clear HO_3; clear HO_18; clear HB; have HO_3 := n0_; have HO_18 := n1_; have HO528 := n2_; have HB := n3_; clear n0_ n1_ n2_ n3_; (try clear hb); (try clear hb2); (try clear hk); (try clear hi); (try clear ho0); obtain ⟨Ao70, co70, eo70⟩ := Kd.R_slice HO528.out; subst eo70) | ((with_reducible refine gate_callee (f := 24) rfl ?_); refine gl_ 135 rfl rfl Try.func24 #[.slice Ao70 t525.length co70] rfl ?_; (with_reducible refine (impl_NatInt.calls kj39 _ _ t525 t529 t530 _ ?side1 ?side2 A52.out).mono ?_); (case side1 => repeat (first | exact (Kd.R_reads' HO528.out).2.2 | (with_reducible refine Kd.C_alloc ?_ _) | (with_reducible refine Kd.C_drewN ?_ _) | (with_reducible refine Kd.C_drew ?_))); (case side2 => exact (Kd.R_reads' HO528.out).2.1); rintro e w' ⟨rfl, ⟨nd, rfl⟩⟩; refine ⟨_, rfl, ?_⟩))
           go_ret
           exact ⟨by first | rfl | (simp [errW_none, errW_some] <;> rfl) | (simp [*, errW_none, errW_some] <;> rfl), by repeat (first | (with_reducible first | exact HB.out | apply below_alloc | apply pw_below_drewN | apply below_drew1) | exact HB.out)⟩

/-- THE ONE PURE STATEMENT of laws_FnDivided: yours. -/
def laws_FnDivided.Pure : Prop := ∀ (l0 : List Int), l0.length ≤ maxLen → l0.length * 1 ≤ 140737488351232 → (∀ x ∈ l0, (Lit.int .u8 x).wf = true) → ∃ k, laws_FnDivided.f k l0 = some true
theorem laws_FnDivided.walk (P : laws_FnDivided.Pure) (a0 : Option Addr) (len0 cap0 : Nat) (z0 : List Int) (w : World) (w0 : (a0 = none ∧ len0 = 0 ∧ cap0 = 0 ∧ z0 = []) ∨ ∃ x, a0 = some x ∧ len0 ≤ cap0 ∧ cap0 ≤ maxLen ∧ z0.length = cap0 ∧ (∀ i, i < z0.length → w.cell? (x.add i) = some (.int .u8 (z0.getD i 0))) ∧ ∀ n ∈ z0, (Lit.int .u8 n).wf = true) (y0 : len0 * 1 ≤ 140737488351232) :
  Calls Try.prog 9 #[.slice a0 len0 cap0] w fun e w' => e = .returned (.bool true) ∧ Below w.heap.size w w' := by
 obtain ⟨l0, rfl, hr0, hm0, hw0, hc0⟩ := ReadsInt.ofRowC w0; obtain ⟨k, h⟩ := P l0 hm0 y0 hw0; refine (laws_FnDivided.calls k _ _ l0 true w (Kd.C_of_reads (d := (0 : Int)) (h1 := fun _ => rfl) hr0) hc0 h).mono ?_; rintro e w' ⟨rfl, hd⟩; exact ⟨rfl, hd⟩

end Go.Proofs.Ytehdmpfeddieoaa.PFnDivided
