-- Written for this claim by a program of this session.
import Derived.Test.YtadmkolopcdffabPFnExactEdReadx0
import Derived.Test.YtadmkolopcdffabPFnExactEdReadx1
import Derived.Test.YtadmkolopcdffabPFnExactEdReadx5
import Derived.Test.YtadmkolopcdffabPFnExactEdReadx6
import Derived.Test.YtadmkolopcdffabPFnExactEdReadx7
namespace Go.Proofs.Ytadmkolopcdffab.PFnExactEdRead
open Go.RowKit Go.Proofs.YtadmkolopcdffabW.PrintWords Go.Proofs.YtadmkolopcdffabW.PrintLast Go.Proofs.YtadmkolopcdffabW.PrintMore
attribute [local go_sem] max2_int min2_int max_two min_two max_three min_three max_four min_four   -- for this text's walks alone
set_option linter.unusedVariables false
set_option linter.unusedSimpArgs false

attribute [local go_sem high] eqA26
/-! ### impl_EdOk: function 17 -/
mutual
def impl_EdOk.j0 : Nat → Bool → Int → Int → Int → Int → Int → Option (Bool)
  | 0, _, _, _, _, _, _ => none
  | k + 1, x39, x198000, x198001, x198002, x198003, x198004 => if x39 = true then (some false) else ((impl_powInt.f k x198001 (wrap64 (Int.tdiv (wrap64 (x198000 - 1)) 2)) x198000).bind fun t203 => (if t203 = 1 then (impl_EdOk.j1 k true x198000 x198001 x198002 x198003 x198004) else ((impl_Ed_base.f x198000 x198001 x198002 x198003 x198004).bind fun bt204 => ((impl_Ed_isPair.f x198000 x198001 x198002 x198003 x198004 bt204.1 bt204.2).bind fun t206 => (if t206 = true then ((impl_Ed_base.f x198000 x198001 x198002 x198003 x198004).bind fun bt207 => (impl_EdOk.j1 k (bt207.1 == 0 && (bt207.2 == 1)) x198000 x198001 x198002 x198003 x198004)) else (impl_EdOk.j1 k true x198000 x198001 x198002 x198003 x198004))))))
def impl_EdOk.j1 : Nat → Bool → Int → Int → Int → Int → Int → Option (Bool)
  | 0, _, _, _, _, _, _ => none
  | k + 1, x62, x198000, x198001, x198002, x198003, x198004 => if x62 = true then (some false) else ((impl_Ed_base.f x198000 x198001 x198002 x198003 x198004).bind fun bt209 => ((impl_Ed_times.f k x198000 x198001 x198002 x198003 x198004 x198002 bt209.1 bt209.2).bind fun bt211 => (some (bt211.1 == 0 && (bt211.2 == 1)))))
end
def impl_EdOk.f (k : Nat) (a0_0 : Int) (a0_1 : Int) (a0_2 : Int) (a0_3 : Int) (a0_4 : Int) : Option (Bool) := (impl_within.f a0_0 13 1048576).bind fun t198 => (if t198 = true then (if (Int.tmod a0_0 8) = 5 then ((impl_within.f a0_1 2 (wrap64 (a0_0 - 1))).bind fun t199 => (if t199 = true then ((impl_within.f a0_2 5 2097152).bind fun t200 => (if t200 = true then ((impl_PrimeInt.f k a0_0).bind fun t201 => (if t201 = true then ((impl_PrimeInt.f k a0_2).bind fun t202 => (impl_EdOk.j0 k (!t202) a0_0 a0_1 a0_2 a0_3 a0_4)) else (impl_EdOk.j0 k true a0_0 a0_1 a0_2 a0_3 a0_4))) else (impl_EdOk.j0 k true a0_0 a0_1 a0_2 a0_3 a0_4))) else (impl_EdOk.j0 k true a0_0 a0_1 a0_2 a0_3 a0_4))) else (impl_EdOk.j0 k true a0_0 a0_1 a0_2 a0_3 a0_4)) else (impl_EdOk.j0 k true a0_0 a0_1 a0_2 a0_3 a0_4))
theorem impl_EdOk.mono_l : ∀ k, (∀ y0 y1 y2 y3 y4 y5, LeO (impl_EdOk.j0 k y0 y1 y2 y3 y4 y5) (impl_EdOk.j0 (k + 1) y0 y1 y2 y3 y4 y5)) ∧ (∀ y0 y1 y2 y3 y4 y5, LeO (impl_EdOk.j1 k y0 y1 y2 y3 y4 y5) (impl_EdOk.j1 (k + 1) y0 y1 y2 y3 y4 y5))
 | 0 => ⟨fun _ _ _ _ _ _ r h => by simp [impl_EdOk.j0] at h, fun _ _ _ _ _ _ r h => by simp [impl_EdOk.j1] at h⟩
 | k + 1 => by
  obtain ⟨ih0, ih1⟩ := impl_EdOk.mono_l k
  refine ⟨?_, ?_⟩
  ·
   intro y0 y1 y2 y3 y4 y5
   unfold impl_EdOk.j0
   repeat' first
   | (with_reducible exact ih0 _ _ _ _ _ _)
   | (with_reducible exact ih1 _ _ _ _ _ _)
   | (with_reducible exact impl_Ed_times.mono _ _ _ _ _ _ _ _ _)
   | (with_reducible exact impl_PrimeInt.mono _ _)
   | (with_reducible exact impl_powInt.mono _ _ _ _)
   | (with_reducible exact LeO.refl _)
   | (with_reducible exact LeO.none _)
   | (with_reducible refine LeO.ite ?_ ?_)
   | (with_reducible refine LeO.bind ?_ (fun _ => ?_))
   | exact ih0 _ _ _ _ _ _
   | exact ih1 _ _ _ _ _ _
   | exact impl_Ed_times.mono _ _ _ _ _ _ _ _ _
   | exact impl_PrimeInt.mono _ _
   | exact impl_powInt.mono _ _ _ _
   | exact LeO.none _
   | refine LeO.ite ?_ ?_
   | refine LeO.bind ?_ (fun _ => ?_)
  ·
   intro y0 y1 y2 y3 y4 y5
   unfold impl_EdOk.j1
   repeat' first
   | (with_reducible exact ih0 _ _ _ _ _ _)
   | (with_reducible exact ih1 _ _ _ _ _ _)
   | (with_reducible exact impl_Ed_times.mono _ _ _ _ _ _ _ _ _)
   | (with_reducible exact impl_PrimeInt.mono _ _)
   | (with_reducible exact impl_powInt.mono _ _ _ _)
   | (with_reducible exact LeO.refl _)
   | (with_reducible exact LeO.none _)
   | (with_reducible refine LeO.ite ?_ ?_)
   | (with_reducible refine LeO.bind ?_ (fun _ => ?_))
   | exact ih0 _ _ _ _ _ _
   | exact ih1 _ _ _ _ _ _
   | exact impl_Ed_times.mono _ _ _ _ _ _ _ _ _
   | exact impl_PrimeInt.mono _ _
   | exact impl_powInt.mono _ _ _ _
   | exact LeO.none _
   | refine LeO.ite ?_ ?_
   | refine LeO.bind ?_ (fun _ => ?_)
theorem impl_EdOk.mono : ∀ a0 a1 a2 a3 a4 k, LeO (impl_EdOk.f k a0 a1 a2 a3 a4) (impl_EdOk.f (k + 1) a0 a1 a2 a3 a4) := by
 intro a0 a1 a2 a3 a4 k; obtain ⟨ih0, ih1⟩ := impl_EdOk.mono_l k
 unfold impl_EdOk.f
 repeat' first
   | (with_reducible exact ih0 _ _ _ _ _ _)
   | (with_reducible exact ih1 _ _ _ _ _ _)
   | (with_reducible exact impl_Ed_times.mono _ _ _ _ _ _ _ _ _)
   | (with_reducible exact impl_PrimeInt.mono _ _)
   | (with_reducible exact impl_powInt.mono _ _ _ _)
   | (with_reducible exact LeO.refl _)
   | (with_reducible exact LeO.none _)
   | (with_reducible refine LeO.ite ?_ ?_)
   | (with_reducible refine LeO.bind ?_ (fun _ => ?_))
   | exact ih0 _ _ _ _ _ _
   | exact ih1 _ _ _ _ _ _
   | exact impl_Ed_times.mono _ _ _ _ _ _ _ _ _
   | exact impl_PrimeInt.mono _ _
   | exact impl_powInt.mono _ _ _ _
   | exact LeO.none _
   | refine LeO.ite ?_ ?_
   | refine LeO.bind ?_ (fun _ => ?_)
def impl_EdOk.T3 : Bool × List (List Nat × List Nat) := (true, [([], []), ([0], [0]), ([], []), ([2], [2]), ([3], [3]), ([4], [4]), ([], []), ([6], [6]), ([1, 5, 7], [1, 5, 7]), ([8], [8]), ([9, 8], [9]), ([10], [10]), ([10], [10]), ([12, 10, 10], [10, 12]), ([11, 13, 13, 10], [10, 11, 13]), ([14, 10], [10, 14]), ([10, 15], [10, 15]), ([16, 14], [16]), ([17], [17]), ([18, 17, 17], [17, 18]), ([17], [17]), ([19, 20, 17], [17, 19, 20]), ([17, 21], [17, 21])])
def impl_EdOk.B3 : List Nat := [0, 1, 0, 4, 12, 28, 0, 64, 255, 511, 1023, 2047, 2047, 6143, 16383, 32767, 65535, 131071, 262143, 524287, 262143, 2097151, 4194303]
theorem impl_EdOk.tab3 : rtab .any (opsOf Try.f17 3) = impl_EdOk.T3 := by kernel_rfl
theorem impl_EdOk.bits3 : waitsOk impl_EdOk.T3.2 impl_EdOk.B3 = true := by kernel_rfl
def impl_EdOk.T5 : Bool × List (List Nat × List Nat) := (true, [([], []), ([], []), ([1], [1]), ([], []), ([3], [3]), ([0, 2, 4, 4], [0, 2, 4]), ([], []), ([5, 6], [5, 6]), ([7, 5, 0, 1, 2, 3, 4, 5, 6, 7], [7])])
def impl_EdOk.B5 : List Nat := [0, 0, 2, 0, 8, 31, 0, 127, 255]
theorem impl_EdOk.tab5 : rtab .any (opsOf Try.f17 5) = impl_EdOk.T5 := by kernel_rfl
theorem impl_EdOk.bits5 : waitsOk impl_EdOk.T5.2 impl_EdOk.B5 = true := by kernel_rfl
set_option maxHeartbeats 8000000 in
set_option maxRecDepth 100000 in
theorem impl_EdOk.calls (k : Nat) (a0_0 : Int) (a0_1 : Int) (a0_2 : Int) (a0_3 : Int) (a0_4 : Int) (r : Bool) (w : World) (h : impl_EdOk.f k a0_0 a0_1 a0_2 a0_3 a0_4 = some r) :
  Calls Try.prog 17 #[.agg #[.int .i64 a0_0, .int .i64 a0_1, .int .i64 a0_2, .int .i64 a0_3, .int .i64 a0_4]] w fun e w' => e = .returned (.bool r) ∧ Below w.heap.size w w' := by
 have hu29 := Try.underlying29; have hu26 := Try.underlying26; have HB := Aside0.mk (Below.refl w.heap.size w)
 have H : ((impl_within.f a0_0 13 1048576).bind fun t198 => (if t198 = true then (if (Int.tmod a0_0 8) = 5 then ((impl_within.f a0_1 2 (wrap64 (a0_0 - 1))).bind fun t199 => (if t199 = true then ((impl_within.f a0_2 5 2097152).bind fun t200 => (if t200 = true then ((impl_PrimeInt.f k a0_0).bind fun t201 => (if t201 = true then ((impl_PrimeInt.f k a0_2).bind fun t202 => (impl_EdOk.j0 k (!t202) a0_0 a0_1 a0_2 a0_3 a0_4)) else (impl_EdOk.j0 k true a0_0 a0_1 a0_2 a0_3 a0_4))) else (impl_EdOk.j0 k true a0_0 a0_1 a0_2 a0_3 a0_4))) else (impl_EdOk.j0 k true a0_0 a0_1 a0_2 a0_3 a0_4))) else (impl_EdOk.j0 k true a0_0 a0_1 a0_2 a0_3 a0_4)) else (impl_EdOk.j0 k true a0_0 a0_1 a0_2 a0_3 a0_4))) = some r := h
 clear h; have HC2 := Aside0.mk H; clear H
 go_enter Try.func17, Try.ntmps17
 go_upto_region 1 with (first | ((with_reducible refine gate_dst (N := 1) rfl ?_); refine box_event ?hg (N := 1) ?hd (cs := #[.int .i64 a0_0, .int .i64 a0_1, .int .i64 a0_2, .int .i64 a0_3, .int .i64 a0_4]) (t := 29) ?hr ?_; (case hd => rfl); (case hg => rfl); (case hr => first | (go_simp; done) | (go_simp; rfl)); intro gb197 hg w3 hbox hb; have n0_ := bs_ HB hb; have n1_ := Aside0.mk hbox; have n2_ := ge_ HB hg; have n3_ := ge_ HB hg; clear HB; have HB := n0_; have BK197 := n1_; have GW197 := n2_; have GE197 := n3_; clear n0_ n1_ n2_ n3_; clear hb hbox hg))
 (try simp only [Act.put, sA_, sZ_, sS_])
 go_cut [39] (fun v39 wc => ∃ (kq : Nat) (x39_1 : Bool), v39 = .bool x39_1 ∧ Aside0 (impl_EdOk.j0 kq x39_1 a0_0 a0_1 a0_2 a0_3 a0_4 = some r) ∧ Aside0 (kq ≤ k) ∧ Aside0 (wc.heap[gb197]? = some (.cells #[.int .i64 a0_0, .int .i64 a0_1, .int .i64 a0_2, .int .i64 a0_3, .int .i64 a0_4] 29 (0, 0))) ∧ Aside0 (Below w.heap.size w wc))
 case first =>
  have H := HC2.out; clear HC2; replace H := Option.bind_eq_some_iff.mp H; obtain ⟨t198, A40, H⟩ := H
  replace H : (if t198 = true then (if (Int.tmod a0_0 8) = 5 then ((impl_within.f a0_1 2 (wrap64 (a0_0 - 1))).bind fun t199 => (if t199 = true then ((impl_within.f a0_2 5 2097152).bind fun t200 => (if t200 = true then ((impl_PrimeInt.f k a0_0).bind fun t201 => (if t201 = true then ((impl_PrimeInt.f k a0_2).bind fun t202 => (impl_EdOk.j0 k (!t202) a0_0 a0_1 a0_2 a0_3 a0_4)) else (impl_EdOk.j0 k true a0_0 a0_1 a0_2 a0_3 a0_4))) else (impl_EdOk.j0 k true a0_0 a0_1 a0_2 a0_3 a0_4))) else (impl_EdOk.j0 k true a0_0 a0_1 a0_2 a0_3 a0_4))) else (impl_EdOk.j0 k true a0_0 a0_1 a0_2 a0_3 a0_4)) else (impl_EdOk.j0 k true a0_0 a0_1 a0_2 a0_3 a0_4)) = some r := H
  have A4 := Aside0.mk A40; clear A40
  by_cases c5 : t198 = true
  ·
   subst c5
   have H1 : (if (Int.tmod a0_0 8) = 5 then ((impl_within.f a0_1 2 (wrap64 (a0_0 - 1))).bind fun t199 => (if t199 = true then ((impl_within.f a0_2 5 2097152).bind fun t200 => (if t200 = true then ((impl_PrimeInt.f k a0_0).bind fun t201 => (if t201 = true then ((impl_PrimeInt.f k a0_2).bind fun t202 => (impl_EdOk.j0 k (!t202) a0_0 a0_1 a0_2 a0_3 a0_4)) else (impl_EdOk.j0 k true a0_0 a0_1 a0_2 a0_3 a0_4))) else (impl_EdOk.j0 k true a0_0 a0_1 a0_2 a0_3 a0_4))) else (impl_EdOk.j0 k true a0_0 a0_1 a0_2 a0_3 a0_4))) else (impl_EdOk.j0 k true a0_0 a0_1 a0_2 a0_3 a0_4)) = some r := by rw [if_pos rfl] at H; exact H
   clear H; have H := H1; clear H1
   by_cases c6 : (Int.tmod a0_0 8) = 5
   ·
    rw [if_pos c6] at H
    have c6b0 : ((Int.tmod a0_0 8) == 5) = true := beq_iff_eq.mpr c6
    have c6b1 : ((Int.tmod a0_0 8) != 5) = false := bne_eq_false_iff_eq.mpr c6
    clear c6
    (first | rw [c6b0] | (simp only [i64_w, i32_w]; rw [c6b0]) | skip)
    replace H := Option.bind_eq_some_iff.mp H; obtain ⟨t199, A70, H⟩ := H
    replace H : (if t199 = true then ((impl_within.f a0_2 5 2097152).bind fun t200 => (if t200 = true then ((impl_PrimeInt.f k a0_0).bind fun t201 => (if t201 = true then ((impl_PrimeInt.f k a0_2).bind fun t202 => (impl_EdOk.j0 k (!t202) a0_0 a0_1 a0_2 a0_3 a0_4)) else (impl_EdOk.j0 k true a0_0 a0_1 a0_2 a0_3 a0_4))) else (impl_EdOk.j0 k true a0_0 a0_1 a0_2 a0_3 a0_4))) else (impl_EdOk.j0 k true a0_0 a0_1 a0_2 a0_3 a0_4)) = some r := H
    have A7 := Aside0.mk A70; clear A70
    by_cases c8 : t199 = true
    ·
     subst c8
     have H1 : ((impl_within.f a0_2 5 2097152).bind fun t200 => (if t200 = true then ((impl_PrimeInt.f k a0_0).bind fun t201 => (if t201 = true then ((impl_PrimeInt.f k a0_2).bind fun t202 => (impl_EdOk.j0 k (!t202) a0_0 a0_1 a0_2 a0_3 a0_4)) else (impl_EdOk.j0 k true a0_0 a0_1 a0_2 a0_3 a0_4))) else (impl_EdOk.j0 k true a0_0 a0_1 a0_2 a0_3 a0_4))) = some r := by rw [if_pos rfl] at H; exact H
     clear H; have H := H1; clear H1; replace H := Option.bind_eq_some_iff.mp H; obtain ⟨t200, A90, H⟩ := H
     replace H : (if t200 = true then ((impl_PrimeInt.f k a0_0).bind fun t201 => (if t201 = true then ((impl_PrimeInt.f k a0_2).bind fun t202 => (impl_EdOk.j0 k (!t202) a0_0 a0_1 a0_2 a0_3 a0_4)) else (impl_EdOk.j0 k true a0_0 a0_1 a0_2 a0_3 a0_4))) else (impl_EdOk.j0 k true a0_0 a0_1 a0_2 a0_3 a0_4)) = some r := H
     have A9 := Aside0.mk A90; clear A90
     by_cases c10 : t200 = true
     ·
      subst c10
      have H1 : ((impl_PrimeInt.f k a0_0).bind fun t201 => (if t201 = true then ((impl_PrimeInt.f k a0_2).bind fun t202 => (impl_EdOk.j0 k (!t202) a0_0 a0_1 a0_2 a0_3 a0_4)) else (impl_EdOk.j0 k true a0_0 a0_1 a0_2 a0_3 a0_4))) = some r := by rw [if_pos rfl] at H; exact H
      clear H; have H := H1; clear H1; replace H := Option.bind_eq_some_iff.mp H; obtain ⟨t201, A110, H⟩ := H
      replace H : (if t201 = true then ((impl_PrimeInt.f k a0_2).bind fun t202 => (impl_EdOk.j0 k (!t202) a0_0 a0_1 a0_2 a0_3 a0_4)) else (impl_EdOk.j0 k true a0_0 a0_1 a0_2 a0_3 a0_4)) = some r := H
      have A11 := Aside0.mk A110; clear A110
      by_cases c12 : t201 = true
      ·
       subst c12
       have H1 : ((impl_PrimeInt.f k a0_2).bind fun t202 => (impl_EdOk.j0 k (!t202) a0_0 a0_1 a0_2 a0_3 a0_4)) = some r := by rw [if_pos rfl] at H; exact H
       clear H; have H := H1; clear H1; replace H := Option.bind_eq_some_iff.mp H; obtain ⟨t202, A130, H⟩ := H
       replace H : (impl_EdOk.j0 k (!t202) a0_0 a0_1 a0_2 a0_3 a0_4) = some r := H
       have A13 := Aside0.mk A130; clear A130
       have H' := Aside0.mk H
       clear H
       have hcz14_0 : w3.cell? ⟨gb197, 0, none⟩ = some (.int .i64 a0_0) := bc_ BK197 0
       have hcz14_1 : w3.cell? ⟨gb197, 1, none⟩ = some (.int .i64 a0_1) := bc_ BK197 1
       have hcz14_2 : w3.cell? ⟨gb197, 2, none⟩ = some (.int .i64 a0_2) := bc_ BK197 2
       have hcz14_3 : w3.cell? ⟨gb197, 3, none⟩ = some (.int .i64 a0_3) := bc_ BK197 3
       have hcz14_4 : w3.cell? ⟨gb197, 4, none⟩ = some (.int .i64 a0_4) := bc_ BK197 4
       have hfz14_0 := blk_frozen BK197.out 0; have hfz14_1 := blk_frozen BK197.out 1; have hfz14_2 := blk_frozen BK197.out 2; have hfz14_3 := blk_frozen BK197.out 3; have hfz14_4 := blk_frozen BK197.out 4
       go_wp2_with (first | ((with_reducible refine gate_callee (f := 36) rfl ?_); refine goesL_ (some 5) rfl rfl Try.func36 (by kernel_rfl) rfl #[.int .i64 a0_0, .int .i64 13, .int .i64 1048576] rfl (by (try simp only [List.map_toArray, List.map_cons, List.map_nil]); first | done | rfl | (simp only [List.length_drop, List.length_take]; rfl)) ?_; (with_reducible refine (impl_within.calls a0_0 13 1048576 true _ A4.out).mono ?_); rintro e w' ⟨rfl, ⟨nd, rfl⟩⟩; refine ⟨_, rfl, ?_⟩) | (go_at_call 36; (with_reducible refine (impl_within.calls a0_1 2 (wrap64 (a0_0 - 1)) true _ A7.out).mono ?_); rintro e w' ⟨rfl, ⟨nd, rfl⟩⟩) | (go_at_call 36; (with_reducible refine (impl_within.calls a0_2 5 2097152 true _ A9.out).mono ?_); rintro e w' ⟨rfl, ⟨nd, rfl⟩⟩) | (go_at_call 37; (with_reducible refine (impl_PrimeInt.calls k a0_0 true _ A11.out).mono ?_); rintro e w' ⟨rfl, ⟨nd, rfl⟩⟩) | (go_at_call 37; (with_reducible refine (impl_PrimeInt.calls k a0_2 t202 _ A13.out).mono ?_); rintro e w' ⟨rfl, ⟨nd, rfl⟩⟩))
       go_meet
       case rel => exact ⟨_, (!t202), (by first | rfl | (simp; done) | (simp [*]; done)), H', ⟨by first | omega | exact Nat.le_refl _⟩, ⟨by (with_reducible repeat (first | refine blk_drewN ?_ _ | refine blk_drew ?_ | refine blk_alloc ?_ _)); exact BK197.out⟩, ⟨by repeat (first | (with_reducible first | exact HB.out | apply below_alloc | apply pw_below_drewN | apply below_drew1 | refine below_set ?_ GE197.out) | exact HB.out)⟩⟩
      ·
       replace c12 := Bool.eq_false_iff.mpr c12; subst c12
       have H1 : (impl_EdOk.j0 k true a0_0 a0_1 a0_2 a0_3 a0_4) = some r := by rw [if_neg (show ¬ (false = true) by decide)] at H; exact H
       clear H; have H := H1; clear H1
       have H' := Aside0.mk H
       clear H
       have hcz15_0 : w3.cell? ⟨gb197, 0, none⟩ = some (.int .i64 a0_0) := bc_ BK197 0
       have hcz15_1 : w3.cell? ⟨gb197, 1, none⟩ = some (.int .i64 a0_1) := bc_ BK197 1
       have hcz15_2 : w3.cell? ⟨gb197, 2, none⟩ = some (.int .i64 a0_2) := bc_ BK197 2
       have hcz15_3 : w3.cell? ⟨gb197, 3, none⟩ = some (.int .i64 a0_3) := bc_ BK197 3
       have hcz15_4 : w3.cell? ⟨gb197, 4, none⟩ = some (.int .i64 a0_4) := bc_ BK197 4
       have hfz15_0 := blk_frozen BK197.out 0; have hfz15_1 := blk_frozen BK197.out 1; have hfz15_2 := blk_frozen BK197.out 2; have hfz15_3 := blk_frozen BK197.out 3; have hfz15_4 := blk_frozen BK197.out 4
       go_wp2_with (first | ((with_reducible refine gate_callee (f := 36) rfl ?_); refine goesL_ (some 5) rfl rfl Try.func36 (by kernel_rfl) rfl #[.int .i64 a0_0, .int .i64 13, .int .i64 1048576] rfl (by (try simp only [List.map_toArray, List.map_cons, List.map_nil]); first | done | rfl | (simp only [List.length_drop, List.length_take]; rfl)) ?_; (with_reducible refine (impl_within.calls a0_0 13 1048576 true _ A4.out).mono ?_); rintro e w' ⟨rfl, ⟨nd, rfl⟩⟩; refine ⟨_, rfl, ?_⟩) | (go_at_call 36; (with_reducible refine (impl_within.calls a0_1 2 (wrap64 (a0_0 - 1)) true _ A7.out).mono ?_); rintro e w' ⟨rfl, ⟨nd, rfl⟩⟩) | (go_at_call 36; (with_reducible refine (impl_within.calls a0_2 5 2097152 true _ A9.out).mono ?_); rintro e w' ⟨rfl, ⟨nd, rfl⟩⟩) | (go_at_call 37; (with_reducible refine (impl_PrimeInt.calls k a0_0 false _ A11.out).mono ?_); rintro e w' ⟨rfl, ⟨nd, rfl⟩⟩))
       go_meet
       case rel => exact ⟨_, (true), (by first | rfl | (simp; done) | (simp [*]; done)), H', ⟨by first | omega | exact Nat.le_refl _⟩, ⟨by (with_reducible repeat (first | refine blk_drewN ?_ _ | refine blk_drew ?_ | refine blk_alloc ?_ _)); exact BK197.out⟩, ⟨by repeat (first | (with_reducible first | exact HB.out | apply below_alloc | apply pw_below_drewN | apply below_drew1 | refine below_set ?_ GE197.out) | exact HB.out)⟩⟩
     ·
      replace c10 := Bool.eq_false_iff.mpr c10; subst c10
      have H1 : (impl_EdOk.j0 k true a0_0 a0_1 a0_2 a0_3 a0_4) = some r := by rw [if_neg (show ¬ (false = true) by decide)] at H; exact H
      clear H; have H := H1; clear H1
      have H' := Aside0.mk H
      clear H
      have hcz16_0 : w3.cell? ⟨gb197, 0, none⟩ = some (.int .i64 a0_0) := bc_ BK197 0
      have hcz16_1 : w3.cell? ⟨gb197, 1, none⟩ = some (.int .i64 a0_1) := bc_ BK197 1
      have hcz16_2 : w3.cell? ⟨gb197, 2, none⟩ = some (.int .i64 a0_2) := bc_ BK197 2
      have hcz16_3 : w3.cell? ⟨gb197, 3, none⟩ = some (.int .i64 a0_3) := bc_ BK197 3
      have hcz16_4 : w3.cell? ⟨gb197, 4, none⟩ = some (.int .i64 a0_4) := bc_ BK197 4
      have hfz16_0 := blk_frozen BK197.out 0; have hfz16_1 := blk_frozen BK197.out 1; have hfz16_2 := blk_frozen BK197.out 2; have hfz16_3 := blk_frozen BK197.out 3; have hfz16_4 := blk_frozen BK197.out 4
      go_wp2_with (first | ((with_reducible refine gate_callee (f := 36) rfl ?_); refine goesL_ (some 5) rfl rfl Try.func36 (by kernel_rfl) rfl #[.int .i64 a0_0, .int .i64 13, .int .i64 1048576] rfl (by (try simp only [List.map_toArray, List.map_cons, List.map_nil]); first | done | rfl | (simp only [List.length_drop, List.length_take]; rfl)) ?_; (with_reducible refine (impl_within.calls a0_0 13 1048576 true _ A4.out).mono ?_); rintro e w' ⟨rfl, ⟨nd, rfl⟩⟩; refine ⟨_, rfl, ?_⟩) | (go_at_call 36; (with_reducible refine (impl_within.calls a0_1 2 (wrap64 (a0_0 - 1)) true _ A7.out).mono ?_); rintro e w' ⟨rfl, ⟨nd, rfl⟩⟩) | (go_at_call 36; (with_reducible refine (impl_within.calls a0_2 5 2097152 false _ A9.out).mono ?_); rintro e w' ⟨rfl, ⟨nd, rfl⟩⟩))
      go_meet
      case rel => exact ⟨_, (true), (by first | rfl | (simp; done) | (simp [*]; done)), H', ⟨by first | omega | exact Nat.le_refl _⟩, ⟨by (with_reducible repeat (first | refine blk_drewN ?_ _ | refine blk_drew ?_ | refine blk_alloc ?_ _)); exact BK197.out⟩, ⟨by repeat (first | (with_reducible first | exact HB.out | apply below_alloc | apply pw_below_drewN | apply below_drew1 | refine below_set ?_ GE197.out) | exact HB.out)⟩⟩
    ·
     replace c8 := Bool.eq_false_iff.mpr c8; subst c8
     have H1 : (impl_EdOk.j0 k true a0_0 a0_1 a0_2 a0_3 a0_4) = some r := by rw [if_neg (show ¬ (false = true) by decide)] at H; exact H
     clear H; have H := H1; clear H1
     have H' := Aside0.mk H
     clear H
     have hcz17_0 : w3.cell? ⟨gb197, 0, none⟩ = some (.int .i64 a0_0) := bc_ BK197 0
     have hcz17_1 : w3.cell? ⟨gb197, 1, none⟩ = some (.int .i64 a0_1) := bc_ BK197 1
     have hcz17_2 : w3.cell? ⟨gb197, 2, none⟩ = some (.int .i64 a0_2) := bc_ BK197 2
     have hcz17_3 : w3.cell? ⟨gb197, 3, none⟩ = some (.int .i64 a0_3) := bc_ BK197 3
     have hcz17_4 : w3.cell? ⟨gb197, 4, none⟩ = some (.int .i64 a0_4) := bc_ BK197 4
     have hfz17_0 := blk_frozen BK197.out 0; have hfz17_1 := blk_frozen BK197.out 1; have hfz17_2 := blk_frozen BK197.out 2; have hfz17_3 := blk_frozen BK197.out 3; have hfz17_4 := blk_frozen BK197.out 4
     go_wp2_with (first | ((with_reducible refine gate_callee (f := 36) rfl ?_); refine goesL_ (some 5) rfl rfl Try.func36 (by kernel_rfl) rfl #[.int .i64 a0_0, .int .i64 13, .int .i64 1048576] rfl (by (try simp only [List.map_toArray, List.map_cons, List.map_nil]); first | done | rfl | (simp only [List.length_drop, List.length_take]; rfl)) ?_; (with_reducible refine (impl_within.calls a0_0 13 1048576 true _ A4.out).mono ?_); rintro e w' ⟨rfl, ⟨nd, rfl⟩⟩; refine ⟨_, rfl, ?_⟩) | (go_at_call 36; (with_reducible refine (impl_within.calls a0_1 2 (wrap64 (a0_0 - 1)) false _ A7.out).mono ?_); rintro e w' ⟨rfl, ⟨nd, rfl⟩⟩))
     go_meet
     case rel => exact ⟨_, (true), (by first | rfl | (simp; done) | (simp [*]; done)), H', ⟨by first | omega | exact Nat.le_refl _⟩, ⟨by (with_reducible repeat (first | refine blk_drewN ?_ _ | refine blk_drew ?_ | refine blk_alloc ?_ _)); exact BK197.out⟩, ⟨by repeat (first | (with_reducible first | exact HB.out | apply below_alloc | apply pw_below_drewN | apply below_drew1 | refine below_set ?_ GE197.out) | exact HB.out)⟩⟩
   ·
    rw [if_neg c6] at H
    have c6b0 : ((Int.tmod a0_0 8) == 5) = false := beq_eq_false_iff_ne.mpr c6
    have c6b1 : ((Int.tmod a0_0 8) != 5) = true := bne_iff_ne.mpr c6
    (first | rw [c6b0] | (simp only [i64_w, i32_w]; rw [c6b0]) | skip)
    have H' := Aside0.mk H
    clear H
    have hcz18_0 : w3.cell? ⟨gb197, 0, none⟩ = some (.int .i64 a0_0) := bc_ BK197 0
    have hcz18_1 : w3.cell? ⟨gb197, 1, none⟩ = some (.int .i64 a0_1) := bc_ BK197 1
    have hcz18_2 : w3.cell? ⟨gb197, 2, none⟩ = some (.int .i64 a0_2) := bc_ BK197 2
    have hcz18_3 : w3.cell? ⟨gb197, 3, none⟩ = some (.int .i64 a0_3) := bc_ BK197 3
    have hcz18_4 : w3.cell? ⟨gb197, 4, none⟩ = some (.int .i64 a0_4) := bc_ BK197 4
    have hfz18_0 := blk_frozen BK197.out 0; have hfz18_1 := blk_frozen BK197.out 1; have hfz18_2 := blk_frozen BK197.out 2; have hfz18_3 := blk_frozen BK197.out 3; have hfz18_4 := blk_frozen BK197.out 4
    go_wp2_with (first | ((with_reducible refine gate_callee (f := 36) rfl ?_); refine goesL_ (some 5) rfl rfl Try.func36 (by kernel_rfl) rfl #[.int .i64 a0_0, .int .i64 13, .int .i64 1048576] rfl (by (try simp only [List.map_toArray, List.map_cons, List.map_nil]); first | done | rfl | (simp only [List.length_drop, List.length_take]; rfl)) ?_; (with_reducible refine (impl_within.calls a0_0 13 1048576 true _ A4.out).mono ?_); rintro e w' ⟨rfl, ⟨nd, rfl⟩⟩; refine ⟨_, rfl, ?_⟩))
    go_meet
    case rel => exact ⟨_, (true), (by first | rfl | (simp; done) | (simp [*]; done)), H', ⟨by first | omega | exact Nat.le_refl _⟩, ⟨by (with_reducible repeat (first | refine blk_drewN ?_ _ | refine blk_drew ?_ | refine blk_alloc ?_ _)); exact BK197.out⟩, ⟨by repeat (first | (with_reducible first | exact HB.out | apply below_alloc | apply pw_below_drewN | apply below_drew1 | refine below_set ?_ GE197.out) | exact HB.out)⟩⟩
  ·
   replace c5 := Bool.eq_false_iff.mpr c5; subst c5
   have H1 : (impl_EdOk.j0 k true a0_0 a0_1 a0_2 a0_3 a0_4) = some r := by rw [if_neg (show ¬ (false = true) by decide)] at H; exact H
   clear H; have H := H1; clear H1
   have H' := Aside0.mk H
   clear H
   have hcz19_0 : w3.cell? ⟨gb197, 0, none⟩ = some (.int .i64 a0_0) := bc_ BK197 0
   have hcz19_1 : w3.cell? ⟨gb197, 1, none⟩ = some (.int .i64 a0_1) := bc_ BK197 1
   have hcz19_2 : w3.cell? ⟨gb197, 2, none⟩ = some (.int .i64 a0_2) := bc_ BK197 2
   have hcz19_3 : w3.cell? ⟨gb197, 3, none⟩ = some (.int .i64 a0_3) := bc_ BK197 3
   have hcz19_4 : w3.cell? ⟨gb197, 4, none⟩ = some (.int .i64 a0_4) := bc_ BK197 4
   have hfz19_0 := blk_frozen BK197.out 0; have hfz19_1 := blk_frozen BK197.out 1; have hfz19_2 := blk_frozen BK197.out 2; have hfz19_3 := blk_frozen BK197.out 3; have hfz19_4 := blk_frozen BK197.out 4
   go_wp2_with (first | ((with_reducible refine gate_callee (f := 36) rfl ?_); refine goesL_ (some 5) rfl rfl Try.func36 (by kernel_rfl) rfl #[.int .i64 a0_0, .int .i64 13, .int .i64 1048576] rfl (by (try simp only [List.map_toArray, List.map_cons, List.map_nil]); first | done | rfl | (simp only [List.length_drop, List.length_take]; rfl)) ?_; (with_reducible refine (impl_within.calls a0_0 13 1048576 false _ A4.out).mono ?_); rintro e w' ⟨rfl, ⟨nd, rfl⟩⟩; refine ⟨_, rfl, ?_⟩))
   go_meet
   case rel => exact ⟨_, (true), (by first | rfl | (simp; done) | (simp [*]; done)), H', ⟨by first | omega | exact Nat.le_refl _⟩, ⟨by (with_reducible repeat (first | refine blk_drewN ?_ _ | refine blk_drew ?_ | refine blk_alloc ?_ _)); exact BK197.out⟩, ⟨by repeat (first | (with_reducible first | exact HB.out | apply below_alloc | apply pw_below_drewN | apply below_drew1 | refine below_set ?_ GE197.out) | exact HB.out)⟩⟩
 case rest =>
  clear HC2
  try clear c1
  try clear p2
  try clear c3
  try clear c5
  try clear c6
  try clear c6b0
  try clear c6b1
  try clear p6
  try clear c8
  try clear c10
  try clear c12
  try clear c17
  try clear hcz14_0
  try clear hcz14_1
  try clear hcz14_2
  try clear hcz14_3
  try clear hcz14_4
  try clear hcz15_0
  try clear hcz15_1
  try clear hcz15_2
  try clear hcz15_3
  try clear hcz15_4
  try clear hcz16_0
  try clear hcz16_1
  try clear hcz16_2
  try clear hcz16_3
  try clear hcz16_4
  try clear hcz17_0
  try clear hcz17_1
  try clear hcz17_2
  try clear hcz17_3
  try clear hcz17_4
  try clear hcz18_0
  try clear hcz18_1
  try clear hcz18_2
  try clear hcz18_3
  try clear hcz18_4
  try clear hcz19_0
  try clear hcz19_1
  try clear hcz19_2
  try clear hcz19_3
  try clear hcz19_4
  try clear hfz14_0
  try clear hfz14_1
  try clear hfz14_2
  try clear hfz14_3
  try clear hfz14_4
  try clear hfz15_0
  try clear hfz15_1
  try clear hfz15_2
  try clear hfz15_3
  try clear hfz15_4
  try clear hfz16_0
  try clear hfz16_1
  try clear hfz16_2
  try clear hfz16_3
  try clear hfz16_4
  try clear hfz17_0
  try clear hfz17_1
  try clear hfz17_2
  try clear hfz17_3
  try clear hfz17_4
  try clear hfz18_0
  try clear hfz18_1
  try clear hfz18_2
  try clear hfz18_3
  try clear hfz18_4
  try clear hfz19_0
  try clear hfz19_1
  try clear hfz19_2
  try clear hfz19_3
  try clear hfz19_4
  obtain ⟨kq, x39_1, rfl, HA, HJ1, BK197, HB⟩ := hcut
  cases kq with
  | zero => exact absurd HA.out (by simp [impl_EdOk.j0])
  | succ kj1 =>
   have H := HA.out; clear HA
   simp only [impl_EdOk.j0] at H
   by_cases c20 : x39_1 = true
   ·
    subst c20
    have H1 : (some false) = some r := by rw [if_pos rfl] at H; exact H
    clear H; have H := H1; clear H1; obtain rfl := Option.some.inj H
    go_wp2
    go_ret
    exact ⟨by first | rfl | (simp [errW_none, errW_some] <;> rfl) | (simp [*, errW_none, errW_some] <;> rfl), by repeat (first | (with_reducible first | exact HB.out | apply below_alloc | apply pw_below_drewN | apply below_drew1 | refine below_set ?_ GE197.out) | exact HB.out)⟩
   ·
    replace c20 := Bool.eq_false_iff.mpr c20; subst c20
    have H1 : ((impl_powInt.f kj1 a0_1 (wrap64 (Int.tdiv (wrap64 (a0_0 - 1)) 2)) a0_0).bind fun t203 => (if t203 = 1 then (impl_EdOk.j1 kj1 true a0_0 a0_1 a0_2 a0_3 a0_4) else ((impl_Ed_base.f a0_0 a0_1 a0_2 a0_3 a0_4).bind fun bt204 => ((impl_Ed_isPair.f a0_0 a0_1 a0_2 a0_3 a0_4 bt204.1 bt204.2).bind fun t206 => (if t206 = true then ((impl_Ed_base.f a0_0 a0_1 a0_2 a0_3 a0_4).bind fun bt207 => (impl_EdOk.j1 kj1 (bt207.1 == 0 && (bt207.2 == 1)) a0_0 a0_1 a0_2 a0_3 a0_4)) else (impl_EdOk.j1 kj1 true a0_0 a0_1 a0_2 a0_3 a0_4)))))) = some r := by rw [if_neg (show ¬ (false = true) by decide)] at H; exact H
    clear H; have H := H1; clear H1; have HC21 := Aside0.mk H; clear H
    go_upto_region 3 with (fail)
    go_cut [62] (fun v62 wc => ∃ (kq : Nat) (x62_20 : Bool), v62 = .bool x62_20 ∧ Aside0 (impl_EdOk.j1 kq x62_20 a0_0 a0_1 a0_2 a0_3 a0_4 = some r) ∧ Aside0 (kq ≤ kj1) ∧ Aside0 (wc.heap[gb197]? = some (.cells #[.int .i64 a0_0, .int .i64 a0_1, .int .i64 a0_2, .int .i64 a0_3, .int .i64 a0_4] 29 (0, 0))) ∧ Aside0 (Below w.heap.size w wc))
    case first =>
     have H := HC21.out; clear HC21; replace H := Option.bind_eq_some_iff.mp H; obtain ⟨t203, A220, H⟩ := H
     replace H : (if t203 = 1 then (impl_EdOk.j1 kj1 true a0_0 a0_1 a0_2 a0_3 a0_4) else ((impl_Ed_base.f a0_0 a0_1 a0_2 a0_3 a0_4).bind fun bt204 => ((impl_Ed_isPair.f a0_0 a0_1 a0_2 a0_3 a0_4 bt204.1 bt204.2).bind fun t206 => (if t206 = true then ((impl_Ed_base.f a0_0 a0_1 a0_2 a0_3 a0_4).bind fun bt207 => (impl_EdOk.j1 kj1 (bt207.1 == 0 && (bt207.2 == 1)) a0_0 a0_1 a0_2 a0_3 a0_4)) else (impl_EdOk.j1 kj1 true a0_0 a0_1 a0_2 a0_3 a0_4))))) = some r := H
     have A22 := Aside0.mk A220; clear A220
     by_cases c23 : t203 = 1
     ·
      rw [if_pos c23] at H
      have c23b0 : (t203 == 1) = true := beq_iff_eq.mpr c23
      have c23b1 : (t203 != 1) = false := bne_eq_false_iff_eq.mpr c23
      clear c23
      (first | rw [c23b0] | (simp only [i64_w, i32_w]; rw [c23b0]) | skip)
      have H' := Aside0.mk H
      clear H
      try go_wp2
      replace BK197 := Aside0.mk (blk_drew BK197.out); replace HB := Aside0.mk (below_drew1 HB.out); refine start_ (n := 23) (S := fun w' => w'.cell? ⟨gb197, 0, none⟩ = some (.int .i64 a0_0) ∧ w'.cell? ⟨gb197, 1, none⟩ = some (.int .i64 a0_1) ∧ w'.cell? ⟨gb197, 2, none⟩ = some (.int .i64 a0_2) ∧ w'.cell? ⟨gb197, 3, none⟩ = some (.int .i64 a0_3) ∧ w'.cell? ⟨gb197, 4, none⟩ = some (.int .i64 a0_4)) (ds := []) #[false,false,false,false,false,false,false,false,false,false,false,false,false,false,false,false,false,false,false,false,false,false,false] (by kernel_rfl) rfl rfl ⟨bc_ BK197 0, bc_ BK197 1, bc_ BK197 2, bc_ BK197 3, bc_ BK197 4⟩ (fun hHeld => ?_); refine with_tabW impl_EdOk.tab3 impl_EdOk.bits3 (fun HT_ HW_ => ?_)
      generalize wc.drew = w24 at BK197 HB hHeld ⊢
      refine pure_ (i := 0) (N := some 40) (v := ?_) (a' := ?_) #[true,false,false,false,false,false,false,false,false,false,false,false,false,false,false,false,false,false,false,false,false,false,false] rfl rfl (any_of HT_.out (by kernel_rfl)) (fun _ _ _ h => h) (Or.inl ⟨by rfl, ?_⟩) ?_ ?_; rotate_left
      ·
       intro w'; go_simp
       with_reducible rfl
      rotate_left
      · simp only [Act.put, sA_, sZ_, sS_, i64_w, i32_w]; rfl
      refine pure_ (i := 2) (N := some 42) (v := ?_) (a' := ?_) #[true,false,true,false,false,false,false,false,false,false,false,false,false,false,false,false,false,false,false,false,false,false,false] rfl rfl (any_of HT_.out (by kernel_rfl)) (fun _ _ _ h => h) (Or.inl ⟨by rfl, ?_⟩) ?_ ?_; rotate_left
      ·
       intro w'; go_simp
       with_reducible rfl
      rotate_left
      · simp only [Act.put, sA_, sZ_, sS_, i64_w, i32_w]; rfl
      refine pure_ (i := 6) (N := some 46) (v := ?_) (a' := ?_) #[true,false,true,false,false,false,true,false,false,false,false,false,false,false,false,false,false,false,false,false,false,false,false] rfl rfl (any_of HT_.out (by kernel_rfl)) (fun _ _ _ h => h) (Or.inl ⟨by rfl, ?_⟩) ?_ ?_; rotate_left
      ·
       intro w'; go_simp
       with_reducible rfl
      rotate_left
      · simp only [Act.put, sA_, sZ_, sS_, i64_w, i32_w]; rfl
      refine take_ (i := 1) (N := some 41) (v := ?_) (a' := ?_) #[true,true,true,false,false,false,true,false,false,false,false,false,false,false,false,false,false,false,false,false,false,false,false] rfl rfl (take_ofW HT_.out HW_.out (by kernel_rfl)) (fun _ _ _ h => h) (Or.inl ⟨by rfl, ?_⟩) hHeld ?_ ?_; rotate_left
      ·
       rintro w' ⟨s0, s1, s2, s3, s4⟩; go_simp
       with_reducible rfl
      rotate_left
      · simp only [Act.put, sA_, sZ_, sS_, i64_w, i32_w]; rfl
      refine take_ (i := 3) (N := some 43) (v := ?_) (a' := ?_) #[true,true,true,true,false,false,true,false,false,false,false,false,false,false,false,false,false,false,false,false,false,false,false] rfl rfl (take_ofW HT_.out HW_.out (by kernel_rfl)) (fun _ _ _ h => h) (Or.inl ⟨by rfl, ?_⟩) hHeld ?_ ?_; rotate_left
      ·
       rintro w' ⟨s0, s1, s2, s3, s4⟩; go_simp
       with_reducible rfl
      rotate_left
      · simp only [Act.put, sA_, sZ_, sS_, i64_w, i32_w]; rfl
      refine pure_ (i := 4) (N := some 44) (v := ?_) (a' := ?_) #[true,true,true,true,true,false,true,false,false,false,false,false,false,false,false,false,false,false,false,false,false,false,false] rfl rfl (any_of HT_.out (by kernel_rfl)) (fun _ _ _ h => h) (Or.inl ⟨by rfl, ?_⟩) ?_ ?_; rotate_left
      ·
       intro w'; go_simp
       with_reducible rfl
      rotate_left
      · simp only [Act.put, sA_, sZ_, sS_, i64_w, i32_w]; rfl
      refine pure_ (i := 5) (N := some 45) (v := ?_) (a' := ?_) #[true,true,true,true,true,true,true,false,false,false,false,false,false,false,false,false,false,false,false,false,false,false,false] rfl rfl (any_of HT_.out (by kernel_rfl)) (fun _ _ _ h => h) (Or.inl ⟨by rfl, ?_⟩) ?_ ?_; rotate_left
      ·
       intro w'; go_simp
       with_reducible rfl
      rotate_left
      · simp only [Act.put, sA_, sZ_, sS_, i64_w, i32_w]; rfl
      refine take_ (i := 7) (N := some 47) (v := ?_) (a' := ?_) #[true,true,true,true,true,true,true,true,false,false,false,false,false,false,false,false,false,false,false,false,false,false,false] rfl rfl (take_ofW HT_.out HW_.out (by kernel_rfl)) (fun _ _ _ h => h) (Or.inl ⟨by rfl, ?_⟩) hHeld ?_ ?_; rotate_left
      ·
       rintro w' ⟨s0, s1, s2, s3, s4⟩; go_simp
       with_reducible rfl
      rotate_left
      · simp only [Act.put, sA_, sZ_, sS_, i64_w, i32_w]; rfl
      refine one_ (i := 8) (N := some 48) #[true,true,true,true,true,true,true,true,true,false,false,false,false,false,false,false,false,false,false,false,false,false,false] rfl rfl (one_of HT_.out (by kernel_rfl)) (by decide) (fun K hK => ?_); refine gs_ Try.func38 #[.int .i64 a0_1, .int .i64 (wrap64 (Int.tdiv (wrap64 (a0_0 - 1)) 2)), .int .i64 a0_0] ?_
      with_reducible refine (impl_powInt.calls kj1 a0_1 (wrap64 (Int.tdiv (wrap64 (a0_0 - 1)) 2)) a0_0 t203 _ A22.out).mono ?_
      rintro e w' ⟨rfl, ⟨nd, rfl⟩⟩; refine ⟨_, rfl, ?_⟩; refine hK.out _ _ ⟨bc_ BK197 0, bc_ BK197 1, bc_ BK197 2, bc_ BK197 3, bc_ BK197 4⟩ (fun hHeld => ?_); clear hK K
      apply norm_
      · show Act.put _ (some 48) _ = _; simp only [Act.put, sA_, sZ_, sS_, i64_w, i32_w]; rfl
      refine pure_ (i := 9) (N := some 49) (v := ?_) (a' := ?_) #[true,true,true,true,true,true,true,true,true,true,false,false,false,false,false,false,false,false,false,false,false,false,false] rfl rfl (any_of HT_.out (by kernel_rfl)) (fun _ _ _ h => h) (Or.inl ⟨by rfl, ?_⟩) ?_ ?_; rotate_left
      ·
       intro w'; go_simp
       with_reducible rfl
      rotate_left
      · simp only [Act.put, sA_, sZ_, sS_, i64_w, i32_w]; rfl
      refine pure_ (i := 10) (N := some 50) (v := ?_) (a' := ?_) #[true,true,true,true,true,true,true,true,true,true,true,false,false,false,false,false,false,false,false,false,false,false,false] rfl rfl (any_of HT_.out (by kernel_rfl)) (fun _ _ _ h => h) (Or.inl ⟨by rfl, ?_⟩) ?_ ?_; rotate_left
      ·
       intro w'; go_simp
       with_reducible rfl
      rotate_left
      · simp only [Act.put, sA_, sZ_, sS_, i64_w, i32_w]; rfl
      refine pure_ (i := 11) (N := some 51) (v := undef) (a' := ?_) #[true,true,true,true,true,true,true,true,true,true,true,true,false,false,false,false,false,false,false,false,false,false,false] rfl rfl (any_of HT_.out (by kernel_rfl)) (fun _ _ _ h => h) (Or.inr ⟨by rfl, rfl⟩) ?_ ?_; rotate_left
      · simp only [Act.put, sA_, sZ_, sS_, i64_w, i32_w]; rfl
      refine pure_ (i := 12) (N := some 52) (v := undef) (a' := ?_) #[true,true,true,true,true,true,true,true,true,true,true,true,true,false,false,false,false,false,false,false,false,false,false] rfl rfl (any_of HT_.out (by kernel_rfl)) (fun _ _ _ h => h) (Or.inr ⟨by rfl, rfl⟩) ?_ ?_; rotate_left
      · simp only [Act.put, sA_, sZ_, sS_, i64_w, i32_w]; rfl
      refine pure_ (i := 13) (N := some 53) (v := undef) (a' := ?_) #[true,true,true,true,true,true,true,true,true,true,true,true,true,true,false,false,false,false,false,false,false,false,false] rfl rfl (any_of HT_.out (by kernel_rfl)) (fun _ _ _ h => h) (Or.inr ⟨by rfl, rfl⟩) ?_ ?_; rotate_left
      · simp only [Act.put, sA_, sZ_, sS_, i64_w, i32_w]; rfl
      refine pure_ (i := 14) (N := some 54) (v := undef) (a' := ?_) #[true,true,true,true,true,true,true,true,true,true,true,true,true,true,true,false,false,false,false,false,false,false,false] rfl rfl (any_of HT_.out (by kernel_rfl)) (fun _ _ _ h => h) (Or.inr ⟨by rfl, rfl⟩) ?_ ?_; rotate_left
      · simp only [Act.put, sA_, sZ_, sS_, i64_w, i32_w]; rfl
      refine pure_ (i := 15) (N := some 55) (v := undef) (a' := ?_) #[true,true,true,true,true,true,true,true,true,true,true,true,true,true,true,true,false,false,false,false,false,false,false] rfl rfl (any_of HT_.out (by kernel_rfl)) (fun _ _ _ h => h) (Or.inr ⟨by rfl, rfl⟩) ?_ ?_; rotate_left
      · simp only [Act.put, sA_, sZ_, sS_, i64_w, i32_w]; rfl
      refine pure_ (i := 16) (N := some 56) (v := ?_) (a' := ?_) #[true,true,true,true,true,true,true,true,true,true,true,true,true,true,true,true,true,false,false,false,false,false,false] rfl rfl (any_of HT_.out (by kernel_rfl)) (fun _ _ _ h => h) (Or.inl ⟨by rfl, ?_⟩) ?_ ?_; rotate_left
      ·
       intro w'; go_simp
       with_reducible rfl
      rotate_left
      · simp only [Act.put, sA_, sZ_, sS_, i64_w, i32_w]; rfl
      refine pure_ (i := 17) (N := some 57) (v := ?_) (a' := ?_) #[true,true,true,true,true,true,true,true,true,true,true,true,true,true,true,true,true,true,false,false,false,false,false] rfl rfl (any_of HT_.out (by kernel_rfl)) (fun _ _ _ h => h) (Or.inl ⟨by rfl, ?_⟩) ?_ ?_; rotate_left
      ·
       intro w'; go_simp
       with_reducible rfl
      rotate_left
      · simp only [Act.put, sA_, sZ_, sS_, i64_w, i32_w]; rfl
      refine pure_ (i := 18) (N := some 58) (v := undef) (a' := ?_) #[true,true,true,true,true,true,true,true,true,true,true,true,true,true,true,true,true,true,true,false,false,false,false] rfl rfl (any_of HT_.out (by kernel_rfl)) (fun _ _ _ h => h) (Or.inr ⟨by rfl, rfl⟩) ?_ ?_; rotate_left
      · simp only [Act.put, sA_, sZ_, sS_, i64_w, i32_w]; rfl
      refine pure_ (i := 19) (N := some 59) (v := undef) (a' := ?_) #[true,true,true,true,true,true,true,true,true,true,true,true,true,true,true,true,true,true,true,true,false,false,false] rfl rfl (any_of HT_.out (by kernel_rfl)) (fun _ _ _ h => h) (Or.inr ⟨by rfl, rfl⟩) ?_ ?_; rotate_left
      · simp only [Act.put, sA_, sZ_, sS_, i64_w, i32_w]; rfl
      refine pure_ (i := 20) (N := some 60) (v := undef) (a' := ?_) #[true,true,true,true,true,true,true,true,true,true,true,true,true,true,true,true,true,true,true,true,true,false,false] rfl rfl (any_of HT_.out (by kernel_rfl)) (fun _ _ _ h => h) (Or.inr ⟨by rfl, rfl⟩) ?_ ?_; rotate_left
      · simp only [Act.put, sA_, sZ_, sS_, i64_w, i32_w]; rfl
      refine pure_ (i := 21) (N := some 61) (v := undef) (a' := ?_) #[true,true,true,true,true,true,true,true,true,true,true,true,true,true,true,true,true,true,true,true,true,true,false] rfl rfl (any_of HT_.out (by kernel_rfl)) (fun _ _ _ h => h) (Or.inr ⟨by rfl, rfl⟩) ?_ ?_; rotate_left
      · simp only [Act.put, sA_, sZ_, sS_, i64_w, i32_w]; rfl
      refine pure_ (i := 22) (N := some 62) (v := ?_) (a' := ?_) #[true,true,true,true,true,true,true,true,true,true,true,true,true,true,true,true,true,true,true,true,true,true,true] rfl rfl (any_of HT_.out (by kernel_rfl)) (fun _ _ _ h => h) (Or.inl ⟨by rfl, ?_⟩) ?_ ?_; rotate_left
      ·
       intro w'; go_simp
       with_reducible rfl
      rotate_left
      · simp only [Act.put, sA_, sZ_, sS_, i64_w, i32_w]; rfl
      refine done_ (done_of HT_.out (by kernel_rfl)) ?_
      try go_wp2
      go_meet
      case rel => exact ⟨_, (true), (by first | rfl | (simp; done) | (simp [*]; done)), H', ⟨by have := HJ1.out; first | omega | exact Nat.le_refl _⟩, ⟨by (with_reducible repeat (first | refine blk_drewN ?_ _ | refine blk_drew ?_ | refine blk_alloc ?_ _)); exact BK197.out⟩, ⟨by repeat (first | (with_reducible first | exact HB.out | apply below_alloc | apply pw_below_drewN | apply below_drew1 | refine below_set ?_ GE197.out) | exact HB.out)⟩⟩
     ·
      rw [if_neg c23] at H
      have c23b0 : (t203 == 1) = false := beq_eq_false_iff_ne.mpr c23
      have c23b1 : (t203 != 1) = true := bne_iff_ne.mpr c23
      (first | rw [c23b0] | (simp only [i64_w, i32_w]; rw [c23b0]) | skip)
      replace H := Option.bind_eq_some_iff.mp H; obtain ⟨⟨t204, t205⟩, A250, H⟩ := H
      replace H : ((impl_Ed_isPair.f a0_0 a0_1 a0_2 a0_3 a0_4 t204 t205).bind fun t206 => (if t206 = true then ((impl_Ed_base.f a0_0 a0_1 a0_2 a0_3 a0_4).bind fun bt207 => (impl_EdOk.j1 kj1 (bt207.1 == 0 && (bt207.2 == 1)) a0_0 a0_1 a0_2 a0_3 a0_4)) else (impl_EdOk.j1 kj1 true a0_0 a0_1 a0_2 a0_3 a0_4))) = some r := H
      have A25 := Aside0.mk A250; clear A250; replace H := Option.bind_eq_some_iff.mp H; obtain ⟨t206, A260, H⟩ := H
      replace H : (if t206 = true then ((impl_Ed_base.f a0_0 a0_1 a0_2 a0_3 a0_4).bind fun bt207 => (impl_EdOk.j1 kj1 (bt207.1 == 0 && (bt207.2 == 1)) a0_0 a0_1 a0_2 a0_3 a0_4)) else (impl_EdOk.j1 kj1 true a0_0 a0_1 a0_2 a0_3 a0_4)) = some r := H
      have A26 := Aside0.mk A260; clear A260
      by_cases c27 : t206 = true
      ·
       subst c27
       have H1 : ((impl_Ed_base.f a0_0 a0_1 a0_2 a0_3 a0_4).bind fun bt207 => (impl_EdOk.j1 kj1 (bt207.1 == 0 && (bt207.2 == 1)) a0_0 a0_1 a0_2 a0_3 a0_4)) = some r := by rw [if_pos rfl] at H; exact H
       clear H; have H := H1; clear H1; replace H := Option.bind_eq_some_iff.mp H; obtain ⟨⟨t207, t208⟩, A280, H⟩ := H
       replace H : (impl_EdOk.j1 kj1 (t207 == 0 && (t208 == 1)) a0_0 a0_1 a0_2 a0_3 a0_4) = some r := H
       have A28 := Aside0.mk A280; clear A280
       have H' := Aside0.mk H
       clear H
       try go_wp2
       replace BK197 := Aside0.mk (blk_drew BK197.out); replace HB := Aside0.mk (below_drew1 HB.out); refine start_ (n := 23) (S := fun w' => w'.cell? ⟨gb197, 0, none⟩ = some (.int .i64 a0_0) ∧ w'.cell? ⟨gb197, 1, none⟩ = some (.int .i64 a0_1) ∧ w'.cell? ⟨gb197, 2, none⟩ = some (.int .i64 a0_2) ∧ w'.cell? ⟨gb197, 3, none⟩ = some (.int .i64 a0_3) ∧ w'.cell? ⟨gb197, 4, none⟩ = some (.int .i64 a0_4)) (ds := []) #[false,false,false,false,false,false,false,false,false,false,false,false,false,false,false,false,false,false,false,false,false,false,false] (by kernel_rfl) rfl rfl ⟨bc_ BK197 0, bc_ BK197 1, bc_ BK197 2, bc_ BK197 3, bc_ BK197 4⟩ (fun hHeld => ?_); refine with_tabW impl_EdOk.tab3 impl_EdOk.bits3 (fun HT_ HW_ => ?_)
       generalize wc.drew = w29 at BK197 HB hHeld ⊢
       refine pure_ (i := 0) (N := some 40) (v := ?_) (a' := ?_) #[true,false,false,false,false,false,false,false,false,false,false,false,false,false,false,false,false,false,false,false,false,false,false] rfl rfl (any_of HT_.out (by kernel_rfl)) (fun _ _ _ h => h) (Or.inl ⟨by rfl, ?_⟩) ?_ ?_; rotate_left
       ·
        intro w'; go_simp
        with_reducible rfl
       rotate_left
       · simp only [Act.put, sA_, sZ_, sS_, i64_w, i32_w]; rfl
       refine pure_ (i := 2) (N := some 42) (v := ?_) (a' := ?_) #[true,false,true,false,false,false,false,false,false,false,false,false,false,false,false,false,false,false,false,false,false,false,false] rfl rfl (any_of HT_.out (by kernel_rfl)) (fun _ _ _ h => h) (Or.inl ⟨by rfl, ?_⟩) ?_ ?_; rotate_left
       ·
        intro w'; go_simp
        with_reducible rfl
       rotate_left
       · simp only [Act.put, sA_, sZ_, sS_, i64_w, i32_w]; rfl
       refine pure_ (i := 6) (N := some 46) (v := ?_) (a' := ?_) #[true,false,true,false,false,false,true,false,false,false,false,false,false,false,false,false,false,false,false,false,false,false,false] rfl rfl (any_of HT_.out (by kernel_rfl)) (fun _ _ _ h => h) (Or.inl ⟨by rfl, ?_⟩) ?_ ?_; rotate_left
       ·
        intro w'; go_simp
        with_reducible rfl
       rotate_left
       · simp only [Act.put, sA_, sZ_, sS_, i64_w, i32_w]; rfl
       refine take_ (i := 1) (N := some 41) (v := ?_) (a' := ?_) #[true,true,true,false,false,false,true,false,false,false,false,false,false,false,false,false,false,false,false,false,false,false,false] rfl rfl (take_ofW HT_.out HW_.out (by kernel_rfl)) (fun _ _ _ h => h) (Or.inl ⟨by rfl, ?_⟩) hHeld ?_ ?_; rotate_left
       ·
        rintro w' ⟨s0, s1, s2, s3, s4⟩; go_simp
        with_reducible rfl
       rotate_left
       · simp only [Act.put, sA_, sZ_, sS_, i64_w, i32_w]; rfl
       refine take_ (i := 3) (N := some 43) (v := ?_) (a' := ?_) #[true,true,true,true,false,false,true,false,false,false,false,false,false,false,false,false,false,false,false,false,false,false,false] rfl rfl (take_ofW HT_.out HW_.out (by kernel_rfl)) (fun _ _ _ h => h) (Or.inl ⟨by rfl, ?_⟩) hHeld ?_ ?_; rotate_left
       ·
        rintro w' ⟨s0, s1, s2, s3, s4⟩; go_simp
        with_reducible rfl
       rotate_left
       · simp only [Act.put, sA_, sZ_, sS_, i64_w, i32_w]; rfl
       refine pure_ (i := 4) (N := some 44) (v := ?_) (a' := ?_) #[true,true,true,true,true,false,true,false,false,false,false,false,false,false,false,false,false,false,false,false,false,false,false] rfl rfl (any_of HT_.out (by kernel_rfl)) (fun _ _ _ h => h) (Or.inl ⟨by rfl, ?_⟩) ?_ ?_; rotate_left
       ·
        intro w'; go_simp
        with_reducible rfl
       rotate_left
       · simp only [Act.put, sA_, sZ_, sS_, i64_w, i32_w]; rfl
       refine pure_ (i := 5) (N := some 45) (v := ?_) (a' := ?_) #[true,true,true,true,true,true,true,false,false,false,false,false,false,false,false,false,false,false,false,false,false,false,false] rfl rfl (any_of HT_.out (by kernel_rfl)) (fun _ _ _ h => h) (Or.inl ⟨by rfl, ?_⟩) ?_ ?_; rotate_left
       ·
        intro w'; go_simp
        with_reducible rfl
       rotate_left
       · simp only [Act.put, sA_, sZ_, sS_, i64_w, i32_w]; rfl
       refine take_ (i := 7) (N := some 47) (v := ?_) (a' := ?_) #[true,true,true,true,true,true,true,true,false,false,false,false,false,false,false,false,false,false,false,false,false,false,false] rfl rfl (take_ofW HT_.out HW_.out (by kernel_rfl)) (fun _ _ _ h => h) (Or.inl ⟨by rfl, ?_⟩) hHeld ?_ ?_; rotate_left
       ·
        rintro w' ⟨s0, s1, s2, s3, s4⟩; go_simp
        with_reducible rfl
       rotate_left
       · simp only [Act.put, sA_, sZ_, sS_, i64_w, i32_w]; rfl
       refine one_ (i := 8) (N := some 48) #[true,true,true,true,true,true,true,true,true,false,false,false,false,false,false,false,false,false,false,false,false,false,false] rfl rfl (one_of HT_.out (by kernel_rfl)) (by decide) (fun K hK => ?_); refine gs_ Try.func38 #[.int .i64 a0_1, .int .i64 (wrap64 (Int.tdiv (wrap64 (a0_0 - 1)) 2)), .int .i64 a0_0] ?_
       with_reducible refine (impl_powInt.calls kj1 a0_1 (wrap64 (Int.tdiv (wrap64 (a0_0 - 1)) 2)) a0_0 t203 _ A22.out).mono ?_
       rintro e w' ⟨rfl, ⟨nd, rfl⟩⟩; refine ⟨_, rfl, ?_⟩; refine hK.out _ _ ⟨bc_ BK197 0, bc_ BK197 1, bc_ BK197 2, bc_ BK197 3, bc_ BK197 4⟩ (fun hHeld => ?_); clear hK K
       apply norm_
       · show Act.put _ (some 48) _ = _; simp only [Act.put, sA_, sZ_, sS_, i64_w, i32_w]; rfl
       refine pure_ (i := 9) (N := some 49) (v := ?_) (a' := ?_) #[true,true,true,true,true,true,true,true,true,true,false,false,false,false,false,false,false,false,false,false,false,false,false] rfl rfl (any_of HT_.out (by kernel_rfl)) (fun _ _ _ h => h) (Or.inl ⟨by rfl, ?_⟩) ?_ ?_; rotate_left
       ·
        intro w'; go_simp
        with_reducible rfl
       rotate_left
       · simp only [Act.put, sA_, sZ_, sS_, i64_w, i32_w]; rfl
       refine pure_ (i := 10) (N := some 50) (v := ?_) (a' := ?_) #[true,true,true,true,true,true,true,true,true,true,true,false,false,false,false,false,false,false,false,false,false,false,false] rfl rfl (any_of HT_.out (by kernel_rfl)) (fun _ _ _ h => h) (Or.inl ⟨by rfl, ?_⟩) ?_ ?_; rotate_left
       ·
        intro w'; go_simp
        with_reducible rfl
       rotate_left
       · simp only [Act.put, sA_, sZ_, sS_, i64_w, i32_w]; rfl
       refine take_ (i := 11) (N := some 51) (v := ?_) (a' := ?_) #[true,true,true,true,true,true,true,true,true,true,true,true,false,false,false,false,false,false,false,false,false,false,false] rfl rfl (take_ofW HT_.out HW_.out (by kernel_rfl)) (fun _ _ _ h => h) (Or.inl ⟨by rfl, ?_⟩) hHeld ?_ ?_; rotate_left
       ·
        rintro w' ⟨s0, s1, s2, s3, s4⟩; go_simp
        with_reducible rfl
       rotate_left
       · simp only [Act.put, sA_, sZ_, sS_, i64_w, i32_w]; rfl
       refine take_ (i := 12) (N := some 52) (v := ?_) (a' := ?_) #[true,true,true,true,true,true,true,true,true,true,true,true,true,false,false,false,false,false,false,false,false,false,false] rfl rfl (take_ofW HT_.out HW_.out (by kernel_rfl)) (fun _ _ _ h => h) (Or.inl ⟨by rfl, ?_⟩) hHeld ?_ ?_; rotate_left
       ·
        rintro w' ⟨s0, s1, s2, s3, s4⟩; go_simp
        with_reducible rfl
       rotate_left
       · simp only [Act.put, sA_, sZ_, sS_, i64_w, i32_w]; rfl
       refine one_ (i := 13) (N := some 53) #[true,true,true,true,true,true,true,true,true,true,true,true,true,true,false,false,false,false,false,false,false,false,false] rfl rfl (one_of HT_.out (by kernel_rfl)) (by decide) (fun K hK => ?_); refine gs_ Try.func39 #[.agg #[.int .i64 a0_0, .int .i64 a0_1, .int .i64 a0_2, .int .i64 a0_3, .int .i64 a0_4]] ?_
       with_reducible refine (impl_Ed_base.calls a0_0 a0_1 a0_2 a0_3 a0_4 t204 t205 _ A25.out).mono ?_
       rintro e w30 ⟨rfl, hb⟩; refine ⟨_, rfl, ?_⟩; replace BK197 := bb_ BK197 hb; replace HB := bs_ HB hb; (try clear hb); refine hK.out _ _ ⟨bc_ BK197 0, bc_ BK197 1, bc_ BK197 2, bc_ BK197 3, bc_ BK197 4⟩ (fun hHeld => ?_); clear hK K
       apply norm_
       · show Act.put _ (some 53) _ = _; simp only [Act.put, sA_, sZ_, sS_, i64_w, i32_w]; rfl
       refine one_ (i := 14) (N := some 54) #[true,true,true,true,true,true,true,true,true,true,true,true,true,true,true,false,false,false,false,false,false,false,false] rfl rfl (one_of HT_.out (by kernel_rfl)) (by decide) (fun K hK => ?_); refine gs_ Try.func27 #[.agg #[.int .i64 a0_0, .int .i64 a0_1, .int .i64 a0_2, .int .i64 a0_3, .int .i64 a0_4], .agg #[.int .i64 t204, .int .i64 t205]] ?_
       with_reducible refine (impl_Ed_isPair.calls a0_0 a0_1 a0_2 a0_3 a0_4 t204 t205 true _ A26.out).mono ?_
       rintro e w31 ⟨rfl, hb⟩; refine ⟨_, rfl, ?_⟩; replace BK197 := bb_ BK197 hb; replace HB := bs_ HB hb; (try clear hb); refine hK.out _ _ ⟨bc_ BK197 0, bc_ BK197 1, bc_ BK197 2, bc_ BK197 3, bc_ BK197 4⟩ (fun hHeld => ?_); clear hK K
       apply norm_
       · show Act.put _ (some 54) _ = _; simp only [Act.put, sA_, sZ_, sS_, i64_w, i32_w]; rfl
       refine pure_ (i := 15) (N := some 55) (v := ?_) (a' := ?_) #[true,true,true,true,true,true,true,true,true,true,true,true,true,true,true,true,false,false,false,false,false,false,false] rfl rfl (any_of HT_.out (by kernel_rfl)) (fun _ _ _ h => h) (Or.inl ⟨by rfl, ?_⟩) ?_ ?_; rotate_left
       ·
        intro w'; go_simp
        with_reducible rfl
       rotate_left
       · simp only [Act.put, sA_, sZ_, sS_, i64_w, i32_w]; rfl
       refine pure_ (i := 16) (N := some 56) (v := ?_) (a' := ?_) #[true,true,true,true,true,true,true,true,true,true,true,true,true,true,true,true,true,false,false,false,false,false,false] rfl rfl (any_of HT_.out (by kernel_rfl)) (fun _ _ _ h => h) (Or.inl ⟨by rfl, ?_⟩) ?_ ?_; rotate_left
       ·
        intro w'; go_simp
        with_reducible rfl
       rotate_left
       · simp only [Act.put, sA_, sZ_, sS_, i64_w, i32_w]; rfl
       refine pure_ (i := 17) (N := some 57) (v := ?_) (a' := ?_) #[true,true,true,true,true,true,true,true,true,true,true,true,true,true,true,true,true,true,false,false,false,false,false] rfl rfl (any_of HT_.out (by kernel_rfl)) (fun _ _ _ h => h) (Or.inl ⟨by rfl, ?_⟩) ?_ ?_; rotate_left
       ·
        intro w'; go_simp
        with_reducible rfl
       rotate_left
       · simp only [Act.put, sA_, sZ_, sS_, i64_w, i32_w]; rfl
       refine pure_ (i := 20) (N := some 60) (v := ?_) (a' := ?_) #[true,true,true,true,true,true,true,true,true,true,true,true,true,true,true,true,true,true,false,false,true,false,false] rfl rfl (any_of HT_.out (by kernel_rfl)) (fun _ _ _ h => h) (Or.inl ⟨by rfl, ?_⟩) ?_ ?_; rotate_left
       ·
        intro w'; go_simp
        with_reducible rfl
       rotate_left
       · simp only [Act.put, sA_, sZ_, sS_, i64_w, i32_w]; rfl
       refine take_ (i := 18) (N := some 58) (v := ?_) (a' := ?_) #[true,true,true,true,true,true,true,true,true,true,true,true,true,true,true,true,true,true,true,false,true,false,false] rfl rfl (take_ofW HT_.out HW_.out (by kernel_rfl)) (fun _ _ _ h => h) (Or.inl ⟨by rfl, ?_⟩) hHeld ?_ ?_; rotate_left
       ·
        rintro w' ⟨s0, s1, s2, s3, s4⟩; go_simp
        with_reducible rfl
       rotate_left
       · simp only [Act.put, sA_, sZ_, sS_, i64_w, i32_w]; rfl
       refine one_ (i := 19) (N := some 59) #[true,true,true,true,true,true,true,true,true,true,true,true,true,true,true,true,true,true,true,true,true,false,false] rfl rfl (one_of HT_.out (by kernel_rfl)) (by decide) (fun K hK => ?_); refine gs_ Try.func39 #[.agg #[.int .i64 a0_0, .int .i64 a0_1, .int .i64 a0_2, .int .i64 a0_3, .int .i64 a0_4]] ?_
       with_reducible refine (impl_Ed_base.calls a0_0 a0_1 a0_2 a0_3 a0_4 t207 t208 _ A28.out).mono ?_
       rintro e w32 ⟨rfl, hb⟩; refine ⟨_, rfl, ?_⟩; replace BK197 := bb_ BK197 hb; replace HB := bs_ HB hb; (try clear hb); refine hK.out _ _ ⟨bc_ BK197 0, bc_ BK197 1, bc_ BK197 2, bc_ BK197 3, bc_ BK197 4⟩ (fun hHeld => ?_); clear hK K
       apply norm_
       · show Act.put _ (some 59) _ = _; simp only [Act.put, sA_, sZ_, sS_, i64_w, i32_w]; rfl
       refine pure_ (i := 21) (N := some 61) (v := ?_) (a' := ?_) #[true,true,true,true,true,true,true,true,true,true,true,true,true,true,true,true,true,true,true,true,true,true,false] rfl rfl (any_of HT_.out (by kernel_rfl)) (fun _ _ _ h => h) (Or.inl ⟨by rfl, ?_⟩) ?_ ?_; rotate_left
       ·
        intro w'; go_simp
        with_reducible rfl
       rotate_left
       · simp only [Act.put, sA_, sZ_, sS_, i64_w, i32_w]; rfl
       refine pure_ (i := 22) (N := some 62) (v := ?_) (a' := ?_) #[true,true,true,true,true,true,true,true,true,true,true,true,true,true,true,true,true,true,true,true,true,true,true] rfl rfl (any_of HT_.out (by kernel_rfl)) (fun _ _ _ h => h) (Or.inl ⟨by rfl, ?_⟩) ?_ ?_; rotate_left
       ·
        intro w'; go_simp
        with_reducible rfl
       rotate_left
       · simp only [Act.put, sA_, sZ_, sS_, i64_w, i32_w]; rfl
       refine done_ (done_of HT_.out (by kernel_rfl)) ?_
       try go_wp2
       go_meet
       case rel => exact ⟨_, ((t207 == 0 && (t208 == 1))), (by first | rfl | (simp; done) | (simp [*]; done)), H', ⟨by have := HJ1.out; first | omega | exact Nat.le_refl _⟩, ⟨by (with_reducible repeat (first | refine blk_drewN ?_ _ | refine blk_drew ?_ | refine blk_alloc ?_ _)); exact BK197.out⟩, ⟨by repeat (first | (with_reducible first | exact HB.out | apply below_alloc | apply pw_below_drewN | apply below_drew1 | refine below_set ?_ GE197.out) | exact HB.out)⟩⟩
      ·
       replace c27 := Bool.eq_false_iff.mpr c27; subst c27
       have H1 : (impl_EdOk.j1 kj1 true a0_0 a0_1 a0_2 a0_3 a0_4) = some r := by rw [if_neg (show ¬ (false = true) by decide)] at H; exact H
       clear H; have H := H1; clear H1
       have H' := Aside0.mk H
       clear H
       try go_wp2
       replace BK197 := Aside0.mk (blk_drew BK197.out); replace HB := Aside0.mk (below_drew1 HB.out); refine start_ (n := 23) (S := fun w' => w'.cell? ⟨gb197, 0, none⟩ = some (.int .i64 a0_0) ∧ w'.cell? ⟨gb197, 1, none⟩ = some (.int .i64 a0_1) ∧ w'.cell? ⟨gb197, 2, none⟩ = some (.int .i64 a0_2) ∧ w'.cell? ⟨gb197, 3, none⟩ = some (.int .i64 a0_3) ∧ w'.cell? ⟨gb197, 4, none⟩ = some (.int .i64 a0_4)) (ds := []) #[false,false,false,false,false,false,false,false,false,false,false,false,false,false,false,false,false,false,false,false,false,false,false] (by kernel_rfl) rfl rfl ⟨bc_ BK197 0, bc_ BK197 1, bc_ BK197 2, bc_ BK197 3, bc_ BK197 4⟩ (fun hHeld => ?_); refine with_tabW impl_EdOk.tab3 impl_EdOk.bits3 (fun HT_ HW_ => ?_)
       generalize wc.drew = w33 at BK197 HB hHeld ⊢
       refine pure_ (i := 0) (N := some 40) (v := ?_) (a' := ?_) #[true,false,false,false,false,false,false,false,false,false,false,false,false,false,false,false,false,false,false,false,false,false,false] rfl rfl (any_of HT_.out (by kernel_rfl)) (fun _ _ _ h => h) (Or.inl ⟨by rfl, ?_⟩) ?_ ?_; rotate_left
       ·
        intro w'; go_simp
        with_reducible rfl
       rotate_left
       · simp only [Act.put, sA_, sZ_, sS_, i64_w, i32_w]; rfl
       refine pure_ (i := 2) (N := some 42) (v := ?_) (a' := ?_) #[true,false,true,false,false,false,false,false,false,false,false,false,false,false,false,false,false,false,false,false,false,false,false] rfl rfl (any_of HT_.out (by kernel_rfl)) (fun _ _ _ h => h) (Or.inl ⟨by rfl, ?_⟩) ?_ ?_; rotate_left
       ·
        intro w'; go_simp
        with_reducible rfl
       rotate_left
       · simp only [Act.put, sA_, sZ_, sS_, i64_w, i32_w]; rfl
       refine pure_ (i := 6) (N := some 46) (v := ?_) (a' := ?_) #[true,false,true,false,false,false,true,false,false,false,false,false,false,false,false,false,false,false,false,false,false,false,false] rfl rfl (any_of HT_.out (by kernel_rfl)) (fun _ _ _ h => h) (Or.inl ⟨by rfl, ?_⟩) ?_ ?_; rotate_left
       ·
        intro w'; go_simp
        with_reducible rfl
       rotate_left
       · simp only [Act.put, sA_, sZ_, sS_, i64_w, i32_w]; rfl
       refine take_ (i := 1) (N := some 41) (v := ?_) (a' := ?_) #[true,true,true,false,false,false,true,false,false,false,false,false,false,false,false,false,false,false,false,false,false,false,false] rfl rfl (take_ofW HT_.out HW_.out (by kernel_rfl)) (fun _ _ _ h => h) (Or.inl ⟨by rfl, ?_⟩) hHeld ?_ ?_; rotate_left
       ·
        rintro w' ⟨s0, s1, s2, s3, s4⟩; go_simp
        with_reducible rfl
       rotate_left
       · simp only [Act.put, sA_, sZ_, sS_, i64_w, i32_w]; rfl
       refine take_ (i := 3) (N := some 43) (v := ?_) (a' := ?_) #[true,true,true,true,false,false,true,false,false,false,false,false,false,false,false,false,false,false,false,false,false,false,false] rfl rfl (take_ofW HT_.out HW_.out (by kernel_rfl)) (fun _ _ _ h => h) (Or.inl ⟨by rfl, ?_⟩) hHeld ?_ ?_; rotate_left
       ·
        rintro w' ⟨s0, s1, s2, s3, s4⟩; go_simp
        with_reducible rfl
       rotate_left
       · simp only [Act.put, sA_, sZ_, sS_, i64_w, i32_w]; rfl
       refine pure_ (i := 4) (N := some 44) (v := ?_) (a' := ?_) #[true,true,true,true,true,false,true,false,false,false,false,false,false,false,false,false,false,false,false,false,false,false,false] rfl rfl (any_of HT_.out (by kernel_rfl)) (fun _ _ _ h => h) (Or.inl ⟨by rfl, ?_⟩) ?_ ?_; rotate_left
       ·
        intro w'; go_simp
        with_reducible rfl
       rotate_left
       · simp only [Act.put, sA_, sZ_, sS_, i64_w, i32_w]; rfl
       refine pure_ (i := 5) (N := some 45) (v := ?_) (a' := ?_) #[true,true,true,true,true,true,true,false,false,false,false,false,false,false,false,false,false,false,false,false,false,false,false] rfl rfl (any_of HT_.out (by kernel_rfl)) (fun _ _ _ h => h) (Or.inl ⟨by rfl, ?_⟩) ?_ ?_; rotate_left
       ·
        intro w'; go_simp
        with_reducible rfl
       rotate_left
       · simp only [Act.put, sA_, sZ_, sS_, i64_w, i32_w]; rfl
       refine take_ (i := 7) (N := some 47) (v := ?_) (a' := ?_) #[true,true,true,true,true,true,true,true,false,false,false,false,false,false,false,false,false,false,false,false,false,false,false] rfl rfl (take_ofW HT_.out HW_.out (by kernel_rfl)) (fun _ _ _ h => h) (Or.inl ⟨by rfl, ?_⟩) hHeld ?_ ?_; rotate_left
       ·
        rintro w' ⟨s0, s1, s2, s3, s4⟩; go_simp
        with_reducible rfl
       rotate_left
       · simp only [Act.put, sA_, sZ_, sS_, i64_w, i32_w]; rfl
       refine one_ (i := 8) (N := some 48) #[true,true,true,true,true,true,true,true,true,false,false,false,false,false,false,false,false,false,false,false,false,false,false] rfl rfl (one_of HT_.out (by kernel_rfl)) (by decide) (fun K hK => ?_); refine gs_ Try.func38 #[.int .i64 a0_1, .int .i64 (wrap64 (Int.tdiv (wrap64 (a0_0 - 1)) 2)), .int .i64 a0_0] ?_
       with_reducible refine (impl_powInt.calls kj1 a0_1 (wrap64 (Int.tdiv (wrap64 (a0_0 - 1)) 2)) a0_0 t203 _ A22.out).mono ?_
       rintro e w' ⟨rfl, ⟨nd, rfl⟩⟩; refine ⟨_, rfl, ?_⟩; refine hK.out _ _ ⟨bc_ BK197 0, bc_ BK197 1, bc_ BK197 2, bc_ BK197 3, bc_ BK197 4⟩ (fun hHeld => ?_); clear hK K
       apply norm_
       · show Act.put _ (some 48) _ = _; simp only [Act.put, sA_, sZ_, sS_, i64_w, i32_w]; rfl
       refine pure_ (i := 9) (N := some 49) (v := ?_) (a' := ?_) #[true,true,true,true,true,true,true,true,true,true,false,false,false,false,false,false,false,false,false,false,false,false,false] rfl rfl (any_of HT_.out (by kernel_rfl)) (fun _ _ _ h => h) (Or.inl ⟨by rfl, ?_⟩) ?_ ?_; rotate_left
       ·
        intro w'; go_simp
        with_reducible rfl
       rotate_left
       · simp only [Act.put, sA_, sZ_, sS_, i64_w, i32_w]; rfl
       refine pure_ (i := 10) (N := some 50) (v := ?_) (a' := ?_) #[true,true,true,true,true,true,true,true,true,true,true,false,false,false,false,false,false,false,false,false,false,false,false] rfl rfl (any_of HT_.out (by kernel_rfl)) (fun _ _ _ h => h) (Or.inl ⟨by rfl, ?_⟩) ?_ ?_; rotate_left
       ·
        intro w'; go_simp
        with_reducible rfl
       rotate_left
       · simp only [Act.put, sA_, sZ_, sS_, i64_w, i32_w]; rfl
       refine take_ (i := 11) (N := some 51) (v := ?_) (a' := ?_) #[true,true,true,true,true,true,true,true,true,true,true,true,false,false,false,false,false,false,false,false,false,false,false] rfl rfl (take_ofW HT_.out HW_.out (by kernel_rfl)) (fun _ _ _ h => h) (Or.inl ⟨by rfl, ?_⟩) hHeld ?_ ?_; rotate_left
       ·
        rintro w' ⟨s0, s1, s2, s3, s4⟩; go_simp
        with_reducible rfl
       rotate_left
       · simp only [Act.put, sA_, sZ_, sS_, i64_w, i32_w]; rfl
       refine take_ (i := 12) (N := some 52) (v := ?_) (a' := ?_) #[true,true,true,true,true,true,true,true,true,true,true,true,true,false,false,false,false,false,false,false,false,false,false] rfl rfl (take_ofW HT_.out HW_.out (by kernel_rfl)) (fun _ _ _ h => h) (Or.inl ⟨by rfl, ?_⟩) hHeld ?_ ?_; rotate_left
       ·
        rintro w' ⟨s0, s1, s2, s3, s4⟩; go_simp
        with_reducible rfl
       rotate_left
       · simp only [Act.put, sA_, sZ_, sS_, i64_w, i32_w]; rfl
       refine one_ (i := 13) (N := some 53) #[true,true,true,true,true,true,true,true,true,true,true,true,true,true,false,false,false,false,false,false,false,false,false] rfl rfl (one_of HT_.out (by kernel_rfl)) (by decide) (fun K hK => ?_); refine gs_ Try.func39 #[.agg #[.int .i64 a0_0, .int .i64 a0_1, .int .i64 a0_2, .int .i64 a0_3, .int .i64 a0_4]] ?_
       with_reducible refine (impl_Ed_base.calls a0_0 a0_1 a0_2 a0_3 a0_4 t204 t205 _ A25.out).mono ?_
       rintro e w34 ⟨rfl, hb⟩; refine ⟨_, rfl, ?_⟩; replace BK197 := bb_ BK197 hb; replace HB := bs_ HB hb; (try clear hb); refine hK.out _ _ ⟨bc_ BK197 0, bc_ BK197 1, bc_ BK197 2, bc_ BK197 3, bc_ BK197 4⟩ (fun hHeld => ?_); clear hK K
       apply norm_
       · show Act.put _ (some 53) _ = _; simp only [Act.put, sA_, sZ_, sS_, i64_w, i32_w]; rfl
       refine one_ (i := 14) (N := some 54) #[true,true,true,true,true,true,true,true,true,true,true,true,true,true,true,false,false,false,false,false,false,false,false] rfl rfl (one_of HT_.out (by kernel_rfl)) (by decide) (fun K hK => ?_); refine gs_ Try.func27 #[.agg #[.int .i64 a0_0, .int .i64 a0_1, .int .i64 a0_2, .int .i64 a0_3, .int .i64 a0_4], .agg #[.int .i64 t204, .int .i64 t205]] ?_
       with_reducible refine (impl_Ed_isPair.calls a0_0 a0_1 a0_2 a0_3 a0_4 t204 t205 false _ A26.out).mono ?_
       rintro e w35 ⟨rfl, hb⟩; refine ⟨_, rfl, ?_⟩; replace BK197 := bb_ BK197 hb; replace HB := bs_ HB hb; (try clear hb); refine hK.out _ _ ⟨bc_ BK197 0, bc_ BK197 1, bc_ BK197 2, bc_ BK197 3, bc_ BK197 4⟩ (fun hHeld => ?_); clear hK K
       apply norm_
       · show Act.put _ (some 54) _ = _; simp only [Act.put, sA_, sZ_, sS_, i64_w, i32_w]; rfl
       refine pure_ (i := 15) (N := some 55) (v := ?_) (a' := ?_) #[true,true,true,true,true,true,true,true,true,true,true,true,true,true,true,true,false,false,false,false,false,false,false] rfl rfl (any_of HT_.out (by kernel_rfl)) (fun _ _ _ h => h) (Or.inl ⟨by rfl, ?_⟩) ?_ ?_; rotate_left
       ·
        intro w'; go_simp
        with_reducible rfl
       rotate_left
       · simp only [Act.put, sA_, sZ_, sS_, i64_w, i32_w]; rfl
       refine pure_ (i := 16) (N := some 56) (v := ?_) (a' := ?_) #[true,true,true,true,true,true,true,true,true,true,true,true,true,true,true,true,true,false,false,false,false,false,false] rfl rfl (any_of HT_.out (by kernel_rfl)) (fun _ _ _ h => h) (Or.inl ⟨by rfl, ?_⟩) ?_ ?_; rotate_left
       ·
        intro w'; go_simp
        with_reducible rfl
       rotate_left
       · simp only [Act.put, sA_, sZ_, sS_, i64_w, i32_w]; rfl
       refine pure_ (i := 17) (N := some 57) (v := ?_) (a' := ?_) #[true,true,true,true,true,true,true,true,true,true,true,true,true,true,true,true,true,true,false,false,false,false,false] rfl rfl (any_of HT_.out (by kernel_rfl)) (fun _ _ _ h => h) (Or.inl ⟨by rfl, ?_⟩) ?_ ?_; rotate_left
       ·
        intro w'; go_simp
        with_reducible rfl
       rotate_left
       · simp only [Act.put, sA_, sZ_, sS_, i64_w, i32_w]; rfl
       refine pure_ (i := 18) (N := some 58) (v := undef) (a' := ?_) #[true,true,true,true,true,true,true,true,true,true,true,true,true,true,true,true,true,true,true,false,false,false,false] rfl rfl (any_of HT_.out (by kernel_rfl)) (fun _ _ _ h => h) (Or.inr ⟨by rfl, rfl⟩) ?_ ?_; rotate_left
       · simp only [Act.put, sA_, sZ_, sS_, i64_w, i32_w]; rfl
       refine pure_ (i := 19) (N := some 59) (v := undef) (a' := ?_) #[true,true,true,true,true,true,true,true,true,true,true,true,true,true,true,true,true,true,true,true,false,false,false] rfl rfl (any_of HT_.out (by kernel_rfl)) (fun _ _ _ h => h) (Or.inr ⟨by rfl, rfl⟩) ?_ ?_; rotate_left
       · simp only [Act.put, sA_, sZ_, sS_, i64_w, i32_w]; rfl
       refine pure_ (i := 20) (N := some 60) (v := undef) (a' := ?_) #[true,true,true,true,true,true,true,true,true,true,true,true,true,true,true,true,true,true,true,true,true,false,false] rfl rfl (any_of HT_.out (by kernel_rfl)) (fun _ _ _ h => h) (Or.inr ⟨by rfl, rfl⟩) ?_ ?_; rotate_left
       · simp only [Act.put, sA_, sZ_, sS_, i64_w, i32_w]; rfl
       refine pure_ (i := 21) (N := some 61) (v := undef) (a' := ?_) #[true,true,true,true,true,true,true,true,true,true,true,true,true,true,true,true,true,true,true,true,true,true,false] rfl rfl (any_of HT_.out (by kernel_rfl)) (fun _ _ _ h => h) (Or.inr ⟨by rfl, rfl⟩) ?_ ?_; rotate_left
       · simp only [Act.put, sA_, sZ_, sS_, i64_w, i32_w]; rfl
       refine pure_ (i := 22) (N := some 62) (v := ?_) (a' := ?_) #[true,true,true,true,true,true,true,true,true,true,true,true,true,true,true,true,true,true,true,true,true,true,true] rfl rfl (any_of HT_.out (by kernel_rfl)) (fun _ _ _ h => h) (Or.inl ⟨by rfl, ?_⟩) ?_ ?_; rotate_left
       ·
        intro w'; go_simp
        with_reducible rfl
       rotate_left
       · simp only [Act.put, sA_, sZ_, sS_, i64_w, i32_w]; rfl
       refine done_ (done_of HT_.out (by kernel_rfl)) ?_
       try go_wp2
       go_meet
       case rel => exact ⟨_, (true), (by first | rfl | (simp; done) | (simp [*]; done)), H', ⟨by have := HJ1.out; first | omega | exact Nat.le_refl _⟩, ⟨by (with_reducible repeat (first | refine blk_drewN ?_ _ | refine blk_drew ?_ | refine blk_alloc ?_ _)); exact BK197.out⟩, ⟨by repeat (first | (with_reducible first | exact HB.out | apply below_alloc | apply pw_below_drewN | apply below_drew1 | refine below_set ?_ GE197.out) | exact HB.out)⟩⟩
    case rest =>
     clear HC21
     try clear c2
     try clear p2
     try clear c3
     try clear p6
     try clear c23
     try clear c23b0
     try clear c23b1
     try clear c27
     obtain ⟨kq, x62_20, rfl, HA, HJ20, BK197, HB⟩ := hcut
     cases kq with
     | zero => exact absurd HA.out (by simp [impl_EdOk.j1])
     | succ kj20 =>
      have H := HA.out; clear HA
      simp only [impl_EdOk.j1] at H
      by_cases c36 : x62_20 = true
      ·
       subst c36
       have H1 : (some false) = some r := by rw [if_pos rfl] at H; exact H
       clear H; have H := H1; clear H1; obtain rfl := Option.some.inj H
       go_wp2
       go_ret
       exact ⟨by first | rfl | (simp [errW_none, errW_some] <;> rfl) | (simp [*, errW_none, errW_some] <;> rfl), by repeat (first | (with_reducible first | exact HB.out | apply below_alloc | apply pw_below_drewN | apply below_drew1 | refine below_set ?_ GE197.out) | exact HB.out)⟩
      ·
       replace c36 := Bool.eq_false_iff.mpr c36; subst c36
       have H1 : ((impl_Ed_base.f a0_0 a0_1 a0_2 a0_3 a0_4).bind fun bt209 => ((impl_Ed_times.f kj20 a0_0 a0_1 a0_2 a0_3 a0_4 a0_2 bt209.1 bt209.2).bind fun bt211 => (some (bt211.1 == 0 && (bt211.2 == 1))))) = some r := by rw [if_neg (show ¬ (false = true) by decide)] at H; exact H
       clear H; have H := H1; clear H1; replace H := Option.bind_eq_some_iff.mp H; obtain ⟨⟨t209, t210⟩, A370, H⟩ := H
       replace H : ((impl_Ed_times.f kj20 a0_0 a0_1 a0_2 a0_3 a0_4 a0_2 t209 t210).bind fun bt211 => (some (bt211.1 == 0 && (bt211.2 == 1)))) = some r := H
       have A37 := Aside0.mk A370; clear A370; replace H := Option.bind_eq_some_iff.mp H; obtain ⟨⟨t211, t212⟩, A380, H⟩ := H
       replace H : (some (t211 == 0 && (t212 == 1))) = some r := H
       have A38 := Aside0.mk A380; clear A380; obtain rfl := Option.some.inj H
       try go_wp2
       replace BK197 := Aside0.mk (blk_drew BK197.out); replace HB := Aside0.mk (below_drew1 HB.out); refine start_ (n := 9) (S := fun w' => w'.cell? ⟨gb197, 0, none⟩ = some (.int .i64 a0_0) ∧ w'.cell? ⟨gb197, 1, none⟩ = some (.int .i64 a0_1) ∧ w'.cell? ⟨gb197, 2, none⟩ = some (.int .i64 a0_2) ∧ w'.cell? ⟨gb197, 3, none⟩ = some (.int .i64 a0_3) ∧ w'.cell? ⟨gb197, 4, none⟩ = some (.int .i64 a0_4)) (ds := []) #[false,false,false,false,false,false,false,false,false] (by kernel_rfl) rfl rfl ⟨bc_ BK197 0, bc_ BK197 1, bc_ BK197 2, bc_ BK197 3, bc_ BK197 4⟩ (fun hHeld => ?_); refine with_tabW impl_EdOk.tab5 impl_EdOk.bits5 (fun HT_ HW_ => ?_)
       generalize wc.drew = w39 at BK197 HB hHeld ⊢
       refine pure_ (i := 1) (N := some 64) (v := ?_) (a' := ?_) #[false,true,false,false,false,false,false,false,false] rfl rfl (any_of HT_.out (by kernel_rfl)) (fun _ _ _ h => h) (Or.inl ⟨by rfl, ?_⟩) ?_ ?_; rotate_left
       ·
        intro w'; go_simp
        with_reducible rfl
       rotate_left
       · simp only [Act.put, sA_, sZ_, sS_, i64_w, i32_w]; rfl
       refine pure_ (i := 6) (N := some 69) (v := ?_) (a' := ?_) #[false,true,false,false,false,false,true,false,false] rfl rfl (any_of HT_.out (by kernel_rfl)) (fun _ _ _ h => h) (Or.inl ⟨by rfl, ?_⟩) ?_ ?_; rotate_left
       ·
        intro w'; go_simp
        with_reducible rfl
       rotate_left
       · simp only [Act.put, sA_, sZ_, sS_, i64_w, i32_w]; rfl
       refine take_ (i := 0) (N := some 63) (v := ?_) (a' := ?_) #[true,true,false,false,false,false,true,false,false] rfl rfl (take_ofW HT_.out HW_.out (by kernel_rfl)) (fun _ _ _ h => h) (Or.inl ⟨by rfl, ?_⟩) hHeld ?_ ?_; rotate_left
       ·
        rintro w' ⟨s0, s1, s2, s3, s4⟩; go_simp
        with_reducible rfl
       rotate_left
       · simp only [Act.put, sA_, sZ_, sS_, i64_w, i32_w]; rfl
       refine take_ (i := 2) (N := some 65) (v := ?_) (a' := ?_) #[true,true,true,false,false,false,true,false,false] rfl rfl (take_ofW HT_.out HW_.out (by kernel_rfl)) (fun _ _ _ h => h) (Or.inl ⟨by rfl, ?_⟩) hHeld ?_ ?_; rotate_left
       ·
        rintro w' ⟨s0, s1, s2, s3, s4⟩; go_simp
        with_reducible rfl
       rotate_left
       · simp only [Act.put, sA_, sZ_, sS_, i64_w, i32_w]; rfl
       refine take_ (i := 3) (N := some 66) (v := ?_) (a' := ?_) #[true,true,true,true,false,false,true,false,false] rfl rfl (take_ofW HT_.out HW_.out (by kernel_rfl)) (fun _ _ _ h => h) (Or.inl ⟨by rfl, ?_⟩) hHeld ?_ ?_; rotate_left
       ·
        rintro w' ⟨s0, s1, s2, s3, s4⟩; go_simp
        with_reducible rfl
       rotate_left
       · simp only [Act.put, sA_, sZ_, sS_, i64_w, i32_w]; rfl
       refine one_ (i := 4) (N := some 67) #[true,true,true,true,true,false,true,false,false] rfl rfl (one_of HT_.out (by kernel_rfl)) (by decide) (fun K hK => ?_); refine gs_ Try.func39 #[.agg #[.int .i64 a0_0, .int .i64 a0_1, .int .i64 a0_2, .int .i64 a0_3, .int .i64 a0_4]] ?_
       with_reducible refine (impl_Ed_base.calls a0_0 a0_1 a0_2 a0_3 a0_4 t209 t210 _ A37.out).mono ?_
       rintro e w40 ⟨rfl, hb⟩; refine ⟨_, rfl, ?_⟩; replace BK197 := bb_ BK197 hb; replace HB := bs_ HB hb; (try clear hb); refine hK.out _ _ ⟨bc_ BK197 0, bc_ BK197 1, bc_ BK197 2, bc_ BK197 3, bc_ BK197 4⟩ (fun hHeld => ?_); clear hK K
       apply norm_
       · show Act.put _ (some 67) _ = _; simp only [Act.put, sA_, sZ_, sS_, i64_w, i32_w]; rfl
       refine one_ (i := 5) (N := some 68) #[true,true,true,true,true,true,true,false,false] rfl rfl (one_of HT_.out (by kernel_rfl)) (by decide) (fun K hK => ?_); refine gs_ Try.func40 #[.agg #[.int .i64 a0_0, .int .i64 a0_1, .int .i64 a0_2, .int .i64 a0_3, .int .i64 a0_4], .int .i64 a0_2, .agg #[.int .i64 t209, .int .i64 t210]] ?_
       with_reducible refine (impl_Ed_times.calls kj20 a0_0 a0_1 a0_2 a0_3 a0_4 a0_2 t209 t210 t211 t212 _ A38.out).mono ?_
       rintro e w41 ⟨rfl, hb⟩; refine ⟨_, rfl, ?_⟩; replace BK197 := bb_ BK197 hb; replace HB := bs_ HB hb; (try clear hb); refine hK.out _ _ ⟨bc_ BK197 0, bc_ BK197 1, bc_ BK197 2, bc_ BK197 3, bc_ BK197 4⟩ (fun hHeld => ?_); clear hK K
       apply norm_
       · show Act.put _ (some 68) _ = _; simp only [Act.put, sA_, sZ_, sS_, i64_w, i32_w]; rfl
       refine pure_ (i := 7) (N := some 70) (v := ?_) (a' := ?_) #[true,true,true,true,true,true,true,true,false] rfl rfl (any_of HT_.out (by kernel_rfl)) (fun _ _ _ h => h) (Or.inl ⟨by rfl, ?_⟩) ?_ ?_; rotate_left
       ·
        intro w'; go_simp
        with_reducible rfl
       rotate_left
       · simp only [Act.put, sA_, sZ_, sS_, i64_w, i32_w]; rfl
       refine pure_ (i := 8) (N := some 2) (v := ?_) (a' := ?_) #[true,true,true,true,true,true,true,true,true] rfl rfl (any_of HT_.out (by kernel_rfl)) (fun _ _ _ h => h) (Or.inl ⟨by rfl, ?_⟩) ?_ ?_; rotate_left
       ·
        intro w'; go_simp
        with_reducible rfl
       rotate_left
       · simp only [Act.put, sA_, sZ_, sS_, i64_w, i32_w]; rfl
       refine done_ (done_of HT_.out (by kernel_rfl)) ?_
       try go_wp2
       go_ret
       exact ⟨by first | rfl | (simp [errW_none, errW_some] <;> rfl) | (simp [*, errW_none, errW_some] <;> rfl), by repeat (first | (with_reducible first | exact HB.out | apply below_alloc | apply pw_below_drewN | apply below_drew1 | refine below_set ?_ GE197.out) | exact HB.out)⟩

/-! ### impl_edBytes: function 41 -/
def impl_edBytes.f (a0_0 : Int) (a0_1 : Int) : Option (List Int) := some (([(a0_1) % 256, (a0_1 / 256) % 256, (Go.bits .or .i64 (a0_1 / 65536) (wrap64 ((Int.tmod a0_0 2) * 128))) % 256] : List Int))
set_option maxHeartbeats 8000000 in
set_option maxRecDepth 100000 in
theorem impl_edBytes.calls (a0_0 : Int) (a0_1 : Int) (r : List Int) (w : World) (h : impl_edBytes.f a0_0 a0_1 = some r) :
    Calls Try.prog 41 #[.agg #[.int .i64 a0_0, .int .i64 a0_1]] w fun e w' => ∃ v0_ : Value, e = .returned (v0_) ∧ Kd.R (Kd.int .u8) 5 w' w.heap.size (fun _ => True) v0_ r ∧ Below w.heap.size w w' := by
  have hu26 := Try.underlying26
  have HB := Aside0.mk (Below.refl w.heap.size w)
  have H : (some (([(a0_1) % 256, (a0_1 / 256) % 256, (Go.bits .or .i64 (a0_1 / 65536) (wrap64 ((Int.tmod a0_0 2) * 128))) % 256] : List Int))) = some r := h
  clear h
  obtain ⟨y214, hy214⟩ : ∃ y_ : List Int, y_ = (([(a0_1) % 256, (a0_1 / 256) % 256, (Go.bits .or .i64 (a0_1 / 65536) (wrap64 ((Int.tmod a0_0 2) * 128))) % 256] : List Int)) := ⟨_, rfl⟩
  replace H : (some y214) = some r := by first | (rw [hy214]; with_reducible exact H) | (have H2_ := (Option.bind_some _ _).symm.trans H; rw [hy214]; with_reducible exact H2_) | (have H2_ := (Option.bind_some _ _).symm.trans H; with_reducible exact H2_) | with_reducible exact H | (rw [hy214]; exact H) | exact H
  have Ny214 := Aside0.mk hy214
  clear hy214
  obtain rfl := Option.some.inj H
  go_enter Try.func41, Try.ntmps41
  go_wp2_with (first | ((with_reducible refine gate_dst (N := 1) rfl ?_); refine box_event ?hg (N := 1) ?hd (cs := #[.int .i64 a0_0, .int .i64 a0_1]) (t := 26) ?hr ?_; (case hd => rfl); (case hg => rfl); (case hr => first | (go_simp; done) | (go_simp; rfl)); intro gb213 hg w2 hbox hb; have n0_ := Aside0.mk (below_step (by repeat (first | (with_reducible first | exact HB.out | apply below_alloc | apply pw_below_drewN | apply below_drew1) | exact HB.out)) hb); have n1_ := Aside0.mk (hbox); have n2_ := Aside0.mk ((by rw [hg]; exact (below_size (by repeat (first | (with_reducible first | exact HB.out | apply below_alloc | apply pw_below_drewN | apply below_drew1) | exact HB.out))) : w.heap.size ≤ gb213)); have n3_ := Aside0.mk ((by rw [hg]; exact (below_size (by repeat (first | (with_reducible first | exact HB.out | apply below_alloc | apply pw_below_drewN | apply below_drew1) | exact HB.out))) : w.heap.size ≤ gb213)); clear HB; have HB := n0_; have BK213 := n1_; have GW213 := n2_; have GE213 := n3_; clear n0_ n1_ n2_ n3_; clear hb hbox hg; have hcz3_0 : w2.cell? ⟨gb213, 0, none⟩ = some (.int .i64 a0_0) := (blk_cell BK213.out 0).trans rfl; have hcz3_1 : w2.cell? ⟨gb213, 1, none⟩ = some (.int .i64 a0_1) := (blk_cell BK213.out 1).trans rfl; have hfz3_0 := blk_frozen BK213.out 0; have hfz3_1 := blk_frozen BK213.out 1) | ((with_reducible refine gate_dst (N := 19) rfl ?_); refine Kd.R_lit (Kd.int .u8) _ 5 ?hg (N := 19) ?hd (xs := ([(a0_1) % 256, (a0_1 / 256) % 256, (Go.bits .or .i64 (a0_1 / 65536) (wrap64 ((Int.tmod a0_0 2) * 128))) % 256] : List Int)) (inner := [.int .u8 ((a0_1) % 256), .int .u8 ((a0_1 / 256) % 256), .int .u8 ((Go.bits .or .i64 (a0_1 / 65536) (wrap64 ((Int.tmod a0_0 2) * 128))) % 256)]) (ok := fun _ => True) (okp := fun _ => True) ?hr ?hp (fun _ hk => hk) trivial (Below.refl _ _) (Nat.le_refl _) (by simp) ?_; (case hd => rfl); (case hg => rfl); (case hr => first | (go_simp; done) | (go_simp; rfl)); (case hp => exact (Reps.one (show Kd.M (Kd.int .u8) _ _ _ ((a0_1) % 256) [.int .u8 ((a0_1) % 256)] from rfl) (Reps.one (show Kd.M (Kd.int .u8) _ _ _ ((a0_1 / 256) % 256) [.int .u8 ((a0_1 / 256) % 256)] from rfl) (Reps.one (show Kd.M (Kd.int .u8) _ _ _ ((Go.bits .or .i64 (a0_1 / 65536) (wrap64 ((Int.tmod a0_0 2) * 128))) % 256) [.int .u8 ((Go.bits .or .i64 (a0_1 / 65536) (wrap64 ((Int.tmod a0_0 2) * 128))) % 256)] from rfl) (Reps.none _ _))))); intro v215 w4 ho5 hb hg_ hnew_; clear hg_ hnew_; (first | rw [← Ny214.out] at ho5 | (simp only [Int.reduceToNat] at ho5; rw [← Ny214.out] at ho5)); have n0_ := Aside0.mk (Kd.R_lower ho5 (below_size (by repeat (first | (with_reducible first | exact HB.out | apply below_alloc | apply pw_below_drewN | apply below_drew1 | refine below_set ?_ GE213.out) | exact HB.out)))); have n1_ := Aside0.mk (blk_below (g := gb213) (o := .cells #[.int .i64 a0_0, .int .i64 a0_1] 26 (0, 0)) (by (with_reducible repeat (first | refine blk_drewN ?_ _ | refine blk_drew ?_ | refine blk_alloc ?_ _)); exact BK213.out) hb); have n2_ := Aside0.mk (below_step (by repeat (first | (with_reducible first | exact HB.out | apply below_alloc | apply pw_below_drewN | apply below_drew1 | refine below_set ?_ GE213.out) | exact HB.out)) hb); clear BK213; clear HB; have HO216 := n0_; have BK213 := n1_; have HB := n2_; clear n0_ n1_ n2_; clear hb ho5))
  go_ret
  exact ⟨_, by first | rfl | (simp [errW_none, errW_some] <;> rfl) | (simp [*, errW_none, errW_some] <;> rfl), by (with_reducible repeat (first | apply Kd.R_alloc | apply Kd.R_drewN | apply Kd.R_drew)); exact HO216.out, by repeat (first | (with_reducible first | exact HB.out | apply below_alloc | apply pw_below_drewN | apply below_drew1 | refine below_set ?_ GE213.out) | exact HB.out)⟩

end Go.Proofs.Ytadmkolopcdffab.PFnExactEdRead
