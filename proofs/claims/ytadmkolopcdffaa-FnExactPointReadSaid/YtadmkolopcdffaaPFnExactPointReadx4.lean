-- Written for this claim by a program of this session.
import Derived.Test.YtadmkolopcdffaaPFnExactPointReadx0
import Derived.Test.YtadmkolopcdffaaPFnExactPointReadx2
import Derived.Test.YtadmkolopcdffaaPFnExactPointReadx3
namespace Go.Proofs.Ytadmkolopcdffaa.PFnExactPointRead
open Go.RowKit Go.Proofs.YtadmkolopcdffaaW.PrintWords Go.Proofs.YtadmkolopcdffaaW.PrintLast Go.Proofs.YtadmkolopcdffaaW.PrintMore
attribute [local go_sem] max2_int min2_int max_two min_two max_three min_three max_four min_four   -- for this text's walks alone
set_option linter.unusedVariables false
set_option linter.unusedSimpArgs false

attribute [local go_sem] fld_
/-! ### spec_l3Point: function 37 -/
mutual
def spec_l3Point.j0 : Nat → List Int → Bool → Int → Int → Int → Int → Int → Int → Int → Int → Bool → Option (Int × Int × Bool × Bool)
  | 0, _, _, _, _, _, _, _, _, _, _, _ => none
  | k + 1, x1, x12, x155000, x155001, x155002, x155003, x155004, x155005, x157000, x157001, x157002 => if x12 = true then (some (0, 0, true, true)) else (if (x1.length : Int) = 7 then (if 0 < (x1.length : Int) then (spec_l3Point.j1 k x1 ((rd x1 0) == 4) x155000 x155001 x155002 x155003 x155004 x155005 x157000 x157001 x157002) else (none)) else (spec_l3Point.j1 k x1 false x155000 x155001 x155002 x155003 x155004 x155005 x157000 x157001 x157002))
def spec_l3Point.j1 : Nat → List Int → Bool → Int → Int → Int → Int → Int → Int → Int → Int → Bool → Option (Int × Int × Bool × Bool)
  | 0, _, _, _, _, _, _, _, _, _, _, _ => none
  | k + 1, x1, x23, x155000, x155001, x155002, x155003, x155004, x155005, x157000, x157001, x157002 => if x23 = true then (if 1 ≤ 4 then (if 4 ≤ (x1.length : Int) then ((spec_l3Read.f ((x1.take 4).drop 1)).bind fun t160 => (if 4 ≤ 7 then (if 7 ≤ (x1.length : Int) then ((spec_l3Read.f ((x1.take 7).drop 4)).bind fun t162 => ((spec_l3On.f x155000 x155001 x155002 x155003 x155004 x155005 t160 t162 false).bind fun t164 => (if t164 = true then (some (t160, t162, false, true)) else (some (x157000, x157001, x157002, false))))) else (none)) else (none))) else (none)) else (none)) else (if (x1.length : Int) = 4 then (if 0 < (x1.length : Int) then (if (rd x1 0) = 2 then (spec_l3Point.j2 k x1 true x155000 x155001 x155002 x155003 x155004 x155005 x157000 x157001 x157002) else (spec_l3Point.j2 k x1 ((rd x1 0) == 3) x155000 x155001 x155002 x155003 x155004 x155005 x157000 x157001 x157002)) else (none)) else (spec_l3Point.j2 k x1 false x155000 x155001 x155002 x155003 x155004 x155005 x157000 x157001 x157002))
def spec_l3Point.j2 : Nat → List Int → Bool → Int → Int → Int → Int → Int → Int → Int → Int → Bool → Option (Int × Int × Bool × Bool)
  | 0, _, _, _, _, _, _, _, _, _, _, _ => none
  | k + 1, x1, x46, x155000, x155001, x155002, x155003, x155004, x155005, x157000, x157001, x157002 => if x46 = true then (if 1 ≤ 4 then (if 4 ≤ (x1.length : Int) then ((spec_l3Read.f ((x1.take 4).drop 1)).bind fun t168 => (if t168 ≥ x155000 then (some (x157000, x157001, x157002, false)) else (if x155000 = 0 then (none) else ((spec_l2Pow.f k (Int.tmod (wrap64 ((wrap64 ((wrap64 ((Int.tmod (wrap64 (t168 * t168)) x155000) + x155001)) * t168)) + x155002)) x155000) (wrap64 (Int.tdiv (wrap64 (x155000 + 1)) 4)) x155000).bind fun t169 => (if 0 < (x1.length : Int) then (if (Int.tmod t169 2) = (wrap64 ((wrap64 (rd x1 0)) - 2)) then ((spec_l3On.f x155000 x155001 x155002 x155003 x155004 x155005 t168 t169 false).bind fun t172 => (if t172 = true then (some (t168, t169, false, true)) else (some (x157000, x157001, x157002, false)))) else ((spec_l3On.f x155000 x155001 x155002 x155003 x155004 x155005 t168 (wrap64 (x155000 - t169)) false).bind fun t175 => (if t175 = true then (if (Int.tmod (wrap64 (x155000 - t169)) 2) = (wrap64 ((wrap64 (rd x1 0)) - 2)) then (some (t168, wrap64 (x155000 - t169), false, true)) else (some (x157000, x157001, x157002, false))) else (some (x157000, x157001, x157002, false))))) else (none)))))) else (none)) else (none)) else (some (x157000, x157001, x157002, false))
end
def spec_l3Point.f (k : Nat) (a0_0 : Int) (a0_1 : Int) (a0_2 : Int) (a0_3 : Int) (a0_4 : Int) (a0_5 : Int) (l1 : List Int) : Option (Int × Int × Bool × Bool) := if (l1.length : Int) = 1 then (if 0 < (l1.length : Int) then (spec_l3Point.j0 k l1 ((rd l1 0) == 0) a0_0 a0_1 a0_2 a0_3 a0_4 a0_5 0 0 false) else (none)) else (spec_l3Point.j0 k l1 false a0_0 a0_1 a0_2 a0_3 a0_4 a0_5 0 0 false)
theorem spec_l3Point.mono_l : ∀ k, (∀ y0 y1 y2 y3 y4 y5 y6 y7 y8 y9 y10, LeO (spec_l3Point.j0 k y0 y1 y2 y3 y4 y5 y6 y7 y8 y9 y10) (spec_l3Point.j0 (k + 1) y0 y1 y2 y3 y4 y5 y6 y7 y8 y9 y10)) ∧ (∀ y0 y1 y2 y3 y4 y5 y6 y7 y8 y9 y10, LeO (spec_l3Point.j1 k y0 y1 y2 y3 y4 y5 y6 y7 y8 y9 y10) (spec_l3Point.j1 (k + 1) y0 y1 y2 y3 y4 y5 y6 y7 y8 y9 y10)) ∧ (∀ y0 y1 y2 y3 y4 y5 y6 y7 y8 y9 y10, LeO (spec_l3Point.j2 k y0 y1 y2 y3 y4 y5 y6 y7 y8 y9 y10) (spec_l3Point.j2 (k + 1) y0 y1 y2 y3 y4 y5 y6 y7 y8 y9 y10))
 | 0 => ⟨fun _ _ _ _ _ _ _ _ _ _ _ r h => by simp [spec_l3Point.j0] at h, fun _ _ _ _ _ _ _ _ _ _ _ r h => by simp [spec_l3Point.j1] at h, fun _ _ _ _ _ _ _ _ _ _ _ r h => by simp [spec_l3Point.j2] at h⟩
 | k + 1 => by
  obtain ⟨ih0, ih1, ih2⟩ := spec_l3Point.mono_l k
  refine ⟨?_, ?_, ?_⟩
  ·
   intro y0 y1 y2 y3 y4 y5 y6 y7 y8 y9 y10
   unfold spec_l3Point.j0
   repeat' first
   | (with_reducible exact ih0 _ _ _ _ _ _ _ _ _ _ _)
   | (with_reducible exact ih1 _ _ _ _ _ _ _ _ _ _ _)
   | (with_reducible exact ih2 _ _ _ _ _ _ _ _ _ _ _)
   | (with_reducible exact spec_l2Pow.mono _ _ _ _)
   | (with_reducible exact LeO.refl _)
   | (with_reducible exact LeO.none _)
   | (with_reducible refine LeO.ite ?_ ?_)
   | (with_reducible refine LeO.bind ?_ (fun _ => ?_))
   | exact ih0 _ _ _ _ _ _ _ _ _ _ _
   | exact ih1 _ _ _ _ _ _ _ _ _ _ _
   | exact ih2 _ _ _ _ _ _ _ _ _ _ _
   | exact spec_l2Pow.mono _ _ _ _
   | exact LeO.none _
   | refine LeO.ite ?_ ?_
   | refine LeO.bind ?_ (fun _ => ?_)
  ·
   intro y0 y1 y2 y3 y4 y5 y6 y7 y8 y9 y10
   unfold spec_l3Point.j1
   repeat' first
   | (with_reducible exact ih0 _ _ _ _ _ _ _ _ _ _ _)
   | (with_reducible exact ih1 _ _ _ _ _ _ _ _ _ _ _)
   | (with_reducible exact ih2 _ _ _ _ _ _ _ _ _ _ _)
   | (with_reducible exact spec_l2Pow.mono _ _ _ _)
   | (with_reducible exact LeO.refl _)
   | (with_reducible exact LeO.none _)
   | (with_reducible refine LeO.ite ?_ ?_)
   | (with_reducible refine LeO.bind ?_ (fun _ => ?_))
   | exact ih0 _ _ _ _ _ _ _ _ _ _ _
   | exact ih1 _ _ _ _ _ _ _ _ _ _ _
   | exact ih2 _ _ _ _ _ _ _ _ _ _ _
   | exact spec_l2Pow.mono _ _ _ _
   | exact LeO.none _
   | refine LeO.ite ?_ ?_
   | refine LeO.bind ?_ (fun _ => ?_)
  ·
   intro y0 y1 y2 y3 y4 y5 y6 y7 y8 y9 y10
   unfold spec_l3Point.j2
   repeat' first
   | (with_reducible exact ih0 _ _ _ _ _ _ _ _ _ _ _)
   | (with_reducible exact ih1 _ _ _ _ _ _ _ _ _ _ _)
   | (with_reducible exact ih2 _ _ _ _ _ _ _ _ _ _ _)
   | (with_reducible exact spec_l2Pow.mono _ _ _ _)
   | (with_reducible exact LeO.refl _)
   | (with_reducible exact LeO.none _)
   | (with_reducible refine LeO.ite ?_ ?_)
   | (with_reducible refine LeO.bind ?_ (fun _ => ?_))
   | exact ih0 _ _ _ _ _ _ _ _ _ _ _
   | exact ih1 _ _ _ _ _ _ _ _ _ _ _
   | exact ih2 _ _ _ _ _ _ _ _ _ _ _
   | exact spec_l2Pow.mono _ _ _ _
   | exact LeO.none _
   | refine LeO.ite ?_ ?_
   | refine LeO.bind ?_ (fun _ => ?_)
theorem spec_l3Point.mono : ∀ a0 a1 a2 a3 a4 a5 a6 k, LeO (spec_l3Point.f k a0 a1 a2 a3 a4 a5 a6) (spec_l3Point.f (k + 1) a0 a1 a2 a3 a4 a5 a6) := by
 intro a0 a1 a2 a3 a4 a5 a6 k; obtain ⟨ih0, ih1, ih2⟩ := spec_l3Point.mono_l k
 unfold spec_l3Point.f
 repeat' first
   | (with_reducible exact ih0 _ _ _ _ _ _ _ _ _ _ _)
   | (with_reducible exact ih1 _ _ _ _ _ _ _ _ _ _ _)
   | (with_reducible exact ih2 _ _ _ _ _ _ _ _ _ _ _)
   | (with_reducible exact spec_l2Pow.mono _ _ _ _)
   | (with_reducible exact LeO.refl _)
   | (with_reducible exact LeO.none _)
   | (with_reducible refine LeO.ite ?_ ?_)
   | (with_reducible refine LeO.bind ?_ (fun _ => ?_))
   | exact ih0 _ _ _ _ _ _ _ _ _ _ _
   | exact ih1 _ _ _ _ _ _ _ _ _ _ _
   | exact ih2 _ _ _ _ _ _ _ _ _ _ _
   | exact spec_l2Pow.mono _ _ _ _
   | exact LeO.none _
   | refine LeO.ite ?_ ?_
   | refine LeO.bind ?_ (fun _ => ?_)
def spec_l3Point.T5 : Bool × List (List Nat × List Nat) := (true, [([], []), ([0], [0]), ([1], [1]), ([], []), ([3], [3]), ([4, 2], [4]), ([2, 5], [2, 5]), ([], []), ([7, 6, 5, 0, 1, 2, 3, 4, 5, 6, 7], [6, 7])])
def spec_l3Point.B5 : List Nat := [0, 1, 3, 0, 8, 31, 63, 0, 255]
theorem spec_l3Point.tab5 : rtab .any (opsOf Try.f37 5) = spec_l3Point.T5 := by kernel_rfl
theorem spec_l3Point.bits5 : waitsOk spec_l3Point.T5.2 spec_l3Point.B5 = true := by kernel_rfl
def spec_l3Point.T13 : Bool × List (List Nat × List Nat) := (true, [([], []), ([], []), ([0, 1], [0, 1]), ([], []), ([3], [3]), ([2, 4], [2, 4]), ([], []), ([6], [6]), ([5, 7], [5, 7]), ([], []), ([8, 9], [8, 9]), ([], []), ([11], [11]), ([10, 12], [10, 12]), ([], []), ([14], [14]), ([13, 15], [13, 15]), ([], []), ([17], [17]), ([18], [18]), ([19], [19]), ([], []), ([21], [21]), ([16, 20, 22], [16, 20, 22]), ([23, 23, 0, 1, 2, 3, 4, 5, 6, 7, 8, 9, 10, 11, 12, 13, 14, 15, 16, 17, 18, 19, 20, 21, 22, 23], [23])])
def spec_l3Point.B13 : List Nat := [0, 0, 3, 0, 8, 31, 0, 64, 255, 0, 1023, 0, 2048, 8191, 0, 16384, 65535, 0, 131072, 393216, 917504, 0, 2097152, 8388607, 16777215]
theorem spec_l3Point.tab13 : rtab .any (opsOf Try.f37 13) = spec_l3Point.T13 := by kernel_rfl
theorem spec_l3Point.bits13 : waitsOk spec_l3Point.T13.2 spec_l3Point.B13 = true := by kernel_rfl
set_option maxHeartbeats 8000000 in
set_option maxRecDepth 100000 in
theorem spec_l3Point.calls (k : Nat) (a0_0 : Int) (a0_1 : Int) (a0_2 : Int) (a0_3 : Int) (a0_4 : Int) (a0_5 : Int) (A1 : Option Addr) (c1 : Nat) (l1 : List Int) (r1 : Int) (r2 : Int) (r3 : Bool) (r4 : Bool) (w : World) (hr1 : Kd.C (Kd.int .u8) w A1 l1.length l1) (hc1 : l1.length ≤ c1) (h : spec_l3Point.f k a0_0 a0_1 a0_2 a0_3 a0_4 a0_5 l1 = some (r1, r2, r3, r4)) :
  Calls Try.prog 37 #[.agg #[.int .i64 a0_0, .int .i64 a0_1, .int .i64 a0_2, .int .i64 a0_3, .int .i64 a0_4, .int .i64 a0_5], .slice A1 l1.length c1] w fun e w' => e = .returned (.tuple #[.agg #[.int .i64 r1, .int .i64 r2, .bool r3], .bool r4]) ∧ Below w.heap.size w w' := by
 have hu29 := Try.underlying29; have hu26 := Try.underlying26; have HR1 := Aside0.mk hr1; have HC1 := Aside0.mk hc1; clear hr1 hc1; have HB := Aside0.mk (Below.refl w.heap.size w)
 have H : (if (l1.length : Int) = 1 then (if 0 < (l1.length : Int) then (spec_l3Point.j0 k l1 ((rd l1 0) == 0) a0_0 a0_1 a0_2 a0_3 a0_4 a0_5 0 0 false) else (none)) else (spec_l3Point.j0 k l1 false a0_0 a0_1 a0_2 a0_3 a0_4 a0_5 0 0 false)) = some (r1, r2, r3, r4) := h
 clear h; have HC3 := Aside0.mk H; clear H
 go_enter Try.func37, Try.ntmps37
 go_upto_region 2 with (first | ((with_reducible refine gate_dst (N := 2) rfl ?_); refine box_event ?hg (N := 2) ?hd (cs := #[.int .i64 a0_0, .int .i64 a0_1, .int .i64 a0_2, .int .i64 a0_3, .int .i64 a0_4, .int .i64 a0_5]) (t := 29) ?hr ?_; (case hd => rfl); (case hg => rfl); (case hr => first | (go_simp; done) | (go_simp; rfl)); intro gb154 hg w4 hbox hb; have BK154 := Aside0.mk hbox; have GW154 := ge_ HB hg; have GE154 := ge_ HB hg; replace HB := bs_ HB hb; clear hb hbox hg) | ((with_reducible refine gate_dst (N := 4) rfl ?_); refine box_event ?hg (N := 4) ?hd (cs := #[.int .i64 0, .int .i64 0, .bool false]) (t := 26) ?hr ?_; (case hd => rfl); (case hg => rfl); (case hr => first | (go_simp; done) | (go_simp; rfl)); intro gb155 hg w5 hbox hb; have BK155 := Aside0.mk hbox; have GW155 := ge_ HB hg; have GE155 := ge_ HB hg; have NB154_155 := nl_ BK154 hg; have NB155_154 := nr_ BK154 hg; replace BK154 := bb_ BK154 hb; replace HB := bs_ HB hb; clear hb hbox hg) | ((with_reducible refine gate_dst (N := 6) rfl ?_); refine box_event ?hg (N := 6) ?hd (cs := #[.int .i64 0, .int .i64 0, .bool false]) (t := 26) ?hr ?_; (case hd => rfl); (case hg => rfl); (case hr => first | (go_simp; done) | (go_simp; rfl)); intro gb156 hg w6 hbox hb; have BK156 := Aside0.mk hbox; have GW156 := ge_ HB hg; have GE156 := ge_ HB hg; have NB154_156 := nl_ BK154 hg; have NB156_154 := nr_ BK154 hg; have NB155_156 := nl_ BK155 hg; have NB156_155 := nr_ BK155 hg; replace BK154 := bb_ BK154 hb; replace BK155 := bb_ BK155 hb; replace HB := bs_ HB hb; clear hb hbox hg; obtain ⟨hnb7, hnc7⟩ := nn_ NB156_154; obtain ⟨hnb8, hnc8⟩ := nn_ NB156_155; obtain ⟨hcz9_0, hcz9_1, hcz9_2, hfz9_0, hfz9_1, hfz9_2⟩ := bx3_ BK156))
 (try simp only [Act.put, sA_, sZ_, sS_])
 go_cut [12] (fun v12 wc => ∃ (kq : Nat) (x12_2 : Bool), v12 = .bool x12_2 ∧ Aside0 (spec_l3Point.j0 kq l1 x12_2 a0_0 a0_1 a0_2 a0_3 a0_4 a0_5 0 0 false = some (r1, r2, r3, r4)) ∧ Aside0 (kq ≤ k) ∧ Aside0 (wc.heap[gb154]? = some (.cells #[.int .i64 a0_0, .int .i64 a0_1, .int .i64 a0_2, .int .i64 a0_3, .int .i64 a0_4, .int .i64 a0_5] 29 (0, 0))) ∧ Aside0 (wc.heap[gb155]? = some (.cells #[.int .i64 0, .int .i64 0, .bool false] 26 (0, 0))) ∧ Aside0 (wc.heap[gb156]? = some (.cells #[.int .i64 0, .int .i64 0, .bool false] 26 (0, 0))) ∧ Aside0 (Below w.heap.size w wc))
 case first =>
  have H := HC3.out; clear HC3
  by_cases c10 : (l1.length : Int) = 1
  ·
   rw [if_pos c10] at H
   have c10b0 : ((l1.length : Int) == 1) = true := beq_iff_eq.mpr c10
   have c10b1 : ((l1.length : Int) != 1) = false := bne_eq_false_iff_eq.mpr c10
   clear c10
   (first | rw [c10b0] | (simp only [i64_w, i32_w]; rw [c10b0]) | skip)
   by_cases c11 : 0 < (l1.length : Int)
   ·
    rw [if_pos c11] at H
    have c11b0 : decide (0 < (l1.length : Int)) = true := decide_eq_true c11
    have c11b1 : decide (0 < l1.length) = true := decide_eq_true (by omega)
    clear c11
    have H' := Aside0.mk H
    clear H
    have p157 : 0 ≤ (0 : Int) := (by omega)
    have q157 : 0 < (l1.length : Int) := of_decide_eq_true (by first | (with_reducible assumption) | assumption)
    obtain ⟨ad157, e157, hx157_0⟩ := Kd.at_int HR1.out 0 p157 q157
    cases e157
    have qi157 : (0 < l1.length) = True := eq_true (by omega)
    (try rw [show ((0 : Int)).toNat = 0 from rfl] at hx157_0); (try rw [Addr.add_zero'] at hx157_0)
    have hn157_0 : ad157.block ≠ gb156 := Nat.ne_of_lt (Nat.lt_of_lt_of_le (by have := World.block_lt_of_cell? _ _ hx157_0; first | rwa [add_block] at this | exact this) GW156.out)
    have hn157_1 : ad157.block ≠ gb156 := Nat.ne_of_lt (Nat.lt_of_lt_of_le (by have := World.block_lt_of_cell? _ _ hx157_0; first | rwa [add_block] at this | exact this) GW156.out)
    have hn157_2 : ad157.block ≠ gb156 := Nat.ne_of_lt (Nat.lt_of_lt_of_le (by have := World.block_lt_of_cell? _ _ hx157_0; first | rwa [add_block] at this | exact this) GW156.out)
    replace hx157_0 := (HB.out.cell (World.block_lt_of_cell? w _ hx157_0)).trans hx157_0; replace hx157_0 := (cell_far (p := ⟨gb156, 0, none⟩) (by first | (rw [add_block]; exact hn157_0) | (show (Addr.add _ _).block ≠ _; rw [add_block]; exact hn157_0) | exact hn157_0) (.int .i64 0)).trans hx157_0; replace hx157_0 := (cell_far (p := ⟨gb156, 1, none⟩) (by first | (rw [add_block]; exact hn157_1) | (show (Addr.add _ _).block ≠ _; rw [add_block]; exact hn157_1) | exact hn157_1) (.int .i64 0)).trans hx157_0; replace hx157_0 := (cell_far (p := ⟨gb156, 2, none⟩) (by first | (rw [add_block]; exact hn157_2) | (show (Addr.add _ _).block ≠ _; rw [add_block]; exact hn157_2) | exact hn157_2) (.bool false)).trans hx157_0; clear hn157_0; clear hn157_1; clear hn157_2; replace p157 := eq_true p157; replace q157 := eq_true q157
    go_wp2
    go_meet
    case rel => exact ⟨_, (((rd l1 0) == 0)), (by first | rfl | (simp; done) | (simp [*]; done)), H', ⟨by first | omega | exact Nat.le_refl _⟩, ⟨bf_ BK154⟩, ⟨bf_ BK155⟩, ⟨bq_ BK156⟩, ⟨bw_ HB⟩⟩
   · rw [if_neg c11] at H; exact absurd H (by simp)
  ·
   rw [if_neg c10] at H
   have c10b0 : ((l1.length : Int) == 1) = false := beq_eq_false_iff_ne.mpr c10
   have c10b1 : ((l1.length : Int) != 1) = true := bne_iff_ne.mpr c10
   (first | rw [c10b0] | (simp only [i64_w, i32_w]; rw [c10b0]) | skip)
   have H' := Aside0.mk H
   clear H
   go_wp2
   go_meet
   case rel => exact ⟨_, (false), (by first | rfl | (simp; done) | (simp [*]; done)), H', ⟨by first | omega | exact Nat.le_refl _⟩, ⟨bf_ BK154⟩, ⟨bf_ BK155⟩, ⟨bq_ BK156⟩, ⟨bw_ HB⟩⟩
 case rest =>
  clear HC3
  try clear c1
  try clear p1
  try clear q1
  try clear hx1
  try clear qi1
  try clear p2
  try clear c3
  try clear c7
  try clear c8
  try clear c10
  try clear c10b0
  try clear c10b1
  try clear c11
  try clear c11b0
  try clear c11b1
  try clear hcz9_0 hcz9_1 hcz9_2
  try clear hfz9_0 hfz9_1 hfz9_2
  try clear hx157_0
  try clear p157
  try clear q157
  obtain ⟨kq, x12_2, rfl, HA, HJ2, BK154, BK155, BK156, HB⟩ := hcut
  cases kq with
  | zero => exact absurd HA.out (by simp [spec_l3Point.j0])
  | succ kj2 =>
   have H := HA.out; clear HA
   simp only [spec_l3Point.j0] at H
   by_cases c12 : x12_2 = true
   ·
    subst c12; rw [if_pos rfl] at H
    simp only [Option.some.injEq, Prod.mk.injEq] at H
    obtain ⟨rfl, rfl, rfl, rfl⟩ := H; obtain ⟨hnb13, hnc13⟩ := nn_ NB155_154; obtain ⟨hnb14, hnc14⟩ := nn_ NB155_156
    obtain ⟨hcz15_0, hcz15_1, hcz15_2, hfz15_0, hfz15_1, hfz15_2⟩ := bx3_ BK155
    go_wp2
    refine bodyPost_ret (results_ct rfl _ _ gb155 26 #[.int .i64 0, .int .i64 0, .bool true] (0, 0) _ rfl (bq_ BK155) Try.underlying26 rfl (by kernel_rfl)) rfl ?_; exact ⟨by first | rfl | (simp [errW_none, errW_some] <;> rfl) | (simp [*, errW_none, errW_some] <;> rfl), by repeat (first | (with_reducible first | exact HB.out | apply below_alloc | apply pw_below_drewN | apply below_drew1 | refine below_set ?_ GE154.out | refine below_set ?_ GE155.out | refine below_set ?_ GE156.out) | exact HB.out)⟩
   ·
    replace c12 := Bool.eq_false_iff.mpr c12; subst c12
    rw [if_neg (show ¬ (false = true) by decide)] at H; have HC16 := Aside0.mk H; clear H
    go_upto_region 4 with (fail)
    go_cut [23] (fun v23 wc => ∃ (kq : Nat) (x23_15 : Bool), v23 = .bool x23_15 ∧ Aside0 (spec_l3Point.j1 kq l1 x23_15 a0_0 a0_1 a0_2 a0_3 a0_4 a0_5 0 0 false = some (r1, r2, r3, r4)) ∧ Aside0 (kq ≤ kj2) ∧ Aside0 (wc.heap[gb154]? = some (.cells #[.int .i64 a0_0, .int .i64 a0_1, .int .i64 a0_2, .int .i64 a0_3, .int .i64 a0_4, .int .i64 a0_5] 29 (0, 0))) ∧ Aside0 (wc.heap[gb155]? = some (.cells #[.int .i64 0, .int .i64 0, .bool false] 26 (0, 0))) ∧ Aside0 (wc.heap[gb156]? = some (.cells #[.int .i64 0, .int .i64 0, .bool false] 26 (0, 0))) ∧ Aside0 (Below w.heap.size w wc))
    case first =>
     have H := HC16.out; clear HC16
     by_cases c17 : (l1.length : Int) = 7
     ·
      rw [if_pos c17] at H
      have c17b0 : ((l1.length : Int) == 7) = true := beq_iff_eq.mpr c17
      have c17b1 : ((l1.length : Int) != 7) = false := bne_eq_false_iff_eq.mpr c17
      clear c17
      (first | rw [c17b0] | (simp only [i64_w, i32_w]; rw [c17b0]) | skip)
      by_cases c18 : 0 < (l1.length : Int)
      ·
       rw [if_pos c18] at H
       have c18b0 : decide (0 < (l1.length : Int)) = true := decide_eq_true c18
       have c18b1 : decide (0 < l1.length) = true := decide_eq_true (by omega)
       clear c18
       have H' := Aside0.mk H
       clear H
       have p158 : 0 ≤ (0 : Int) := (by omega)
       have q158 : 0 < (l1.length : Int) := of_decide_eq_true (by first | (with_reducible assumption) | assumption)
       obtain ⟨ad158, e158, hx158_0⟩ := Kd.at_int HR1.out 0 p158 q158
       cases e158
       have qi158 : (0 < l1.length) = True := eq_true (by omega)
       (try rw [show ((0 : Int)).toNat = 0 from rfl] at hx158_0); (try rw [Addr.add_zero'] at hx158_0); replace hx158_0 := (HB.out.cell (World.block_lt_of_cell? w _ hx158_0)).trans hx158_0; replace p158 := eq_true p158; replace q158 := eq_true q158
       go_wp2
       go_meet
       case rel => exact ⟨_, (((rd l1 0) == 4)), (by first | rfl | (simp; done) | (simp [*]; done)), H', ⟨by have := HJ2.out; first | omega | exact Nat.le_refl _⟩, ⟨bk_ BK154⟩, ⟨bk_ BK155⟩, ⟨bk_ BK156⟩, ⟨bw_ HB⟩⟩
      · rw [if_neg c18] at H; exact absurd H (by simp)
     ·
      rw [if_neg c17] at H
      have c17b0 : ((l1.length : Int) == 7) = false := beq_eq_false_iff_ne.mpr c17
      have c17b1 : ((l1.length : Int) != 7) = true := bne_iff_ne.mpr c17
      (first | rw [c17b0] | (simp only [i64_w, i32_w]; rw [c17b0]) | skip)
      have H' := Aside0.mk H
      clear H
      go_wp2
      go_meet
      case rel => exact ⟨_, (false), (by first | rfl | (simp; done) | (simp [*]; done)), H', ⟨by have := HJ2.out; first | omega | exact Nat.le_refl _⟩, ⟨bk_ BK154⟩, ⟨bk_ BK155⟩, ⟨bk_ BK156⟩, ⟨bw_ HB⟩⟩
    case rest =>
     clear HC16
     try clear c1
     try clear p1
     try clear q1
     try clear hx1
     try clear qi1
     try clear p2
     try clear c3
     try clear c7
     try clear c8
     try clear c10
     try clear c10b0
     try clear c10b1
     try clear c11
     try clear c11b0
     try clear c11b1
     try clear c12
     try clear c13
     try clear c14
     try clear p15
     try clear q15
     try clear hx15
     try clear qi15
     try clear c17
     try clear c17b0
     try clear c17b1
     try clear c18
     try clear c18b0
     try clear c18b1
     try clear hcz15_0 hcz15_1 hcz15_2
     try clear hcz9_0 hcz9_1 hcz9_2
     try clear hfz15_0 hfz15_1 hfz15_2
     try clear hfz9_0 hfz9_1 hfz9_2
     try clear hx157_0
     try clear hx158_0
     try clear p1
     try clear p157
     try clear p158
     try clear p2
     try clear q1
     try clear q157
     try clear q158
     obtain ⟨kq, x23_15, rfl, HA, HJ15, BK154, BK155, BK156, HB⟩ := hcut
     cases kq with
     | zero => exact absurd HA.out (by simp [spec_l3Point.j1])
     | succ kj15 =>
      have H := HA.out; clear HA
      simp only [spec_l3Point.j1] at H
      by_cases c19 : x23_15 = true
      ·
       subst c19; rw [if_pos rfl] at H
       by_cases c20 : 1 ≤ 4
       ·
        rw [if_pos c20] at H; have c20b0 := eq_true c20
        have c20b1 : decide (1 ≤ 4) = true := decide_eq_true c20
        clear c20
        by_cases c21 : 4 ≤ (l1.length : Int)
        ·
         rw [if_pos c21] at H; have c21b0 := eq_true c21
         have c21b1 : decide (4 ≤ (l1.length : Int)) = true := decide_eq_true c21
         clear c21; obtain ⟨t160, A220, H⟩ := pb_ H
         have A22 := Aside0.mk A220; clear A220
         by_cases c23 : 4 ≤ 7
         ·
          rw [if_pos c23] at H; have c23b0 := eq_true c23
          have c23b1 : decide (4 ≤ 7) = true := decide_eq_true c23
          clear c23
          by_cases c24 : 7 ≤ (l1.length : Int)
          ·
           rw [if_pos c24] at H; have c24b0 := eq_true c24
           have c24b1 : decide (7 ≤ (l1.length : Int)) = true := decide_eq_true c24
           clear c24; obtain ⟨t162, A250, H⟩ := pb_ H
           have A25 := Aside0.mk A250; clear A250; obtain ⟨t164, A260, H⟩ := pb_ H
           have A26 := Aside0.mk A260; clear A260
           by_cases c27 : t164 = true
           ·
            subst c27; rw [if_pos rfl] at H
            simp only [Option.some.injEq, Prod.mk.injEq] at H
            obtain ⟨rfl, rfl, rfl, rfl⟩ := H
            try go_wp2
            replace BK154 := Aside0.mk (blk_drew BK154.out); replace BK155 := Aside0.mk (blk_drew BK155.out); replace BK156 := Aside0.mk (blk_drew BK156.out); replace HB := Aside0.mk (below_drew1 HB.out); obtain ⟨i029, hi029, _, hsz29, _⟩ := info_parts info5; obtain ⟨A29, hcut29, hA29, hC29⟩ := print_mid_of (P := Try.prog) (Value.int .u8) 0 34 5 .i64 .i64 Try.underlying34 hi029 hsz29 A1 c1 l1 1 4 (by omega) (by first | omega | exact of_decide_eq_true (by first | (with_reducible assumption) | assumption)) (of_decide_eq_true (by first | (with_reducible assumption) | assumption)) HC1.out; have HR159 := Aside0.mk (Kd.C_of_reads (h1 := fun _ => rfl) (hA29 _ (Kd.reads_of_C HR1.out))); have HC159 := Aside0.mk hC29; clear hA29 hC29 hi029 hsz29; obtain ⟨i030, hi030, _, hsz30, _⟩ := info_parts info5; obtain ⟨A30, hcut30, hA30, hC30⟩ := print_mid_of (P := Try.prog) (Value.int .u8) 0 34 5 .i64 .i64 Try.underlying34 hi030 hsz30 A1 c1 l1 4 7 (by omega) (by first | omega | exact of_decide_eq_true (by first | (with_reducible assumption) | assumption)) (of_decide_eq_true (by first | (with_reducible assumption) | assumption)) HC1.out; have HR161 := Aside0.mk (Kd.C_of_reads (h1 := fun _ => rfl) (hA30 _ (Kd.reads_of_C HR1.out))); have HC161 := Aside0.mk hC30; clear hA30 hC30 hi030 hsz30; refine start_ (n := 9) (S := fun w' => True) (ds := []) (bl_ 9 0) (by kernel_rfl) rfl rfl trivial (fun hHeld => ?_); refine with_tabW spec_l3Point.tab5 spec_l3Point.bits5 (fun HT_ HW_ => ?_)
            generalize wc.drew = w28 at BK154 BK155 BK156 HB HR159 HR161 hHeld ⊢
            refine pu_ 0 33 (bl_ 9 1) rfl rfl HT_ ?_; refine pu_ 1 34 (bl_ 9 3) rfl rfl HT_ ?_; refine pu_ 3 36 (bl_ 9 11) rfl rfl HT_ ?_; refine pu_ 4 37 (bl_ 9 27) rfl rfl HT_ ?_; refine join_ (σ := Nat) 1 (bl_ 9 255) (fun s_ => [(35, .int .i64 t160), (38, .int .i64 t162), (7, .pointer (some ⟨s_, 0, none⟩)), (39, .agg #[.int .i64 t160, .int .i64 t162, .bool false])]) (fun s_ w' => (w'.heap[gb154]? = some (.cells #[.int .i64 a0_0, .int .i64 a0_1, .int .i64 a0_2, .int .i64 a0_3, .int .i64 a0_4, .int .i64 a0_5] 29 (0, 0))) ∧ (w'.heap[gb155]? = some (.cells #[.int .i64 0, .int .i64 0, .bool false] 26 (0, 0))) ∧ (w'.heap[gb156]? = some (.cells #[.int .i64 0, .int .i64 0, .bool false] 26 (0, 0))) ∧ (w'.heap[s_]? = some (.cells #[.int .i64 0, .int .i64 0, .bool false] 26 (0, 0))) ∧ (w.heap.size ≤ s_) ∧ (w.heap.size ≤ s_) ∧ (gb154 ≠ s_) ∧ (s_ ≠ gb154) ∧ (gb155 ≠ s_) ∧ (s_ ≠ gb155) ∧ (gb156 ≠ s_) ∧ (s_ ≠ gb156) ∧ (Below w.heap.size w w')) ?_ ?_; rotate_left
            ·
             intro hCont; refine two_ (i := 2) (j := 7) (Ni := some 35) (Nj := some 7) (bl_ 9 31) (bl_ 9 155) rfl rfl rfl rfl (two_of HT_.out (by kernel_rfl)) (by decide) (by decide) (fun K hK => ?_) (fun K hK => ?_)
             ·
              refine goes_ Try.func58 (by kernel_rfl) rfl #[.slice A29 ((l1.take 4).drop 1).length (c1 - 1)] (by rfl) rfl rfl (by (try simp only [List.map_toArray, List.map_cons, List.map_nil]); first | done | (rw [show ((l1.take 4).drop 1).length = (4 - 1) from (by rw [List.length_drop, List.length_take]; have h_ : (4 : Int) ≤ (l1.length : Int) := of_decide_eq_true (by first | (with_reducible assumption) | assumption); omega)] <;> rfl) | rfl | (simp only [List.length_drop, List.length_take]; rfl)) ?_
              with_reducible refine (spec_l3Read.calls _ _ ((l1.take 4).drop 1) t160 _ ?side1 ?side2 A22.out).mono ?_
              (case side1 => repeat (first | exact (Kd.C_below HR159.out HB.out) | (with_reducible refine Kd.C_alloc ?_ _) | (with_reducible refine Kd.C_drewN ?_ _) | (with_reducible refine Kd.C_drew ?_)))
              (case side2 => exact HC159.out)
              rintro e w' ⟨rfl, ⟨nd, rfl⟩⟩; refine ⟨_, rfl, ?_⟩; refine hK.out _ _ trivial (fun hHeld => ?_); clear hK K
              apply norm_
              · show Act.put _ (some 35) _ = _; simp only [Act.put, sA_, sZ_, sS_, i64_w, i32_w]; rfl
              refine two_ (i := 5) (j := 7) (Ni := some 38) (Nj := some 7) (bl_ 9 63) (bl_ 9 159) rfl rfl rfl rfl (two_of HT_.out (by kernel_rfl)) (by decide) (by decide) (fun K hK => ?_) (fun K hK => ?_)
              ·
               refine goes_ Try.func58 (by kernel_rfl) rfl #[.slice A30 ((l1.take 7).drop 4).length (c1 - 4)] (by rfl) rfl rfl (by (try simp only [List.map_toArray, List.map_cons, List.map_nil]); first | done | (rw [show ((l1.take 7).drop 4).length = (7 - 4) from (by rw [List.length_drop, List.length_take]; have h_ : (7 : Int) ≤ (l1.length : Int) := of_decide_eq_true (by first | (with_reducible assumption) | assumption); omega)] <;> rfl) | rfl | (simp only [List.length_drop, List.length_take]; rfl)) ?_
               with_reducible refine (spec_l3Read.calls _ _ ((l1.take 7).drop 4) t162 _ ?side1 ?side2 A25.out).mono ?_
               (case side1 => repeat (first | exact (Kd.C_below HR161.out (bw_ HB)) | (with_reducible refine Kd.C_alloc ?_ _) | (with_reducible refine Kd.C_drewN ?_ _) | (with_reducible refine Kd.C_drew ?_)))
               (case side2 => exact HC161.out)
               rintro e w' ⟨rfl, ⟨nd, rfl⟩⟩; refine ⟨_, rfl, ?_⟩; refine hK.out _ _ trivial (fun hHeld => ?_); clear hK K
               apply norm_
               · show Act.put _ (some 38) _ = _; simp only [Act.put, sA_, sZ_, sS_, i64_w, i32_w]; rfl
               refine pu_ 6 39 (bl_ 9 127) rfl rfl HT_ ?_; refine one_ (i := 7) (N := some 7) (bl_ 9 255) rfl rfl (one_of HT_.out (by kernel_rfl)) (by decide) (fun K hK => ?_); refine box_step ?hg (N := 7) ?hd (cs := #[.int .i64 0, .int .i64 0, .bool false]) (t := 26) ?hr ?_; (case hd => rfl); (case hg => rfl); (case hr => first | (go_simp; done) | (go_simp; rfl))
               intro gb163 hg w31 hbox hb; have BK163 := Aside0.mk hbox; have GW163 := ge_ HB hg; have GE163 := ge_ HB hg; have NB154_163 := nl_ BK154 hg; have NB163_154 := nr_ BK154 hg; have NB155_163 := nl_ BK155 hg; have NB163_155 := nr_ BK155 hg; have NB156_163 := nl_ BK156 hg; have NB163_156 := nr_ BK156 hg; replace BK154 := bb_ BK154 hb; replace BK155 := bb_ BK155 hb; replace BK156 := bb_ BK156 hb; replace HB := bs_ HB hb; clear hb hbox hg; refine hK.out _ _ trivial (fun hHeld => ?_); clear hK K
               apply norm_
               · show Act.put _ (some 7) _ = _; simp only [Act.put, sA_, sZ_, sS_, i64_w, i32_w]; rfl
               exact norm_ (by simp only [putAll, Act.put, sA_, sZ_, sS_]) (hCont (gb163) _ ⟨(bk_ BK154), (bk_ BK155), (bk_ BK156), (bk_ BK163), GW163.out, GE163.out, NB154_163.out, NB163_154.out, NB155_163.out, NB163_155.out, NB156_163.out, NB163_156.out, (bw_ HB)⟩)
              ·
               refine box_step ?hg (N := 7) ?hd (cs := #[.int .i64 0, .int .i64 0, .bool false]) (t := 26) ?hr ?_; (case hd => rfl); (case hg => rfl); (case hr => first | (go_simp; done) | (go_simp; rfl))
               intro gb163 hg w31 hbox hb; have BK163 := Aside0.mk hbox; have GW163 := ge_ HB hg; have GE163 := ge_ HB hg; have NB154_163 := nl_ BK154 hg; have NB163_154 := nr_ BK154 hg; have NB155_163 := nl_ BK155 hg; have NB163_155 := nr_ BK155 hg; have NB156_163 := nl_ BK156 hg; have NB163_156 := nr_ BK156 hg; replace BK154 := bb_ BK154 hb; replace BK155 := bb_ BK155 hb; replace BK156 := bb_ BK156 hb; replace HB := bs_ HB hb; clear hb hbox hg; refine hK.out _ _ trivial (fun hHeld => ?_); clear hK K
               apply norm_
               · show Act.put _ (some 7) _ = _; simp only [Act.put, sA_, sZ_, sS_, i64_w, i32_w]; rfl
               refine one_ (i := 5) (N := some 38) (bl_ 9 191) rfl rfl (one_of HT_.out (by kernel_rfl)) (by decide) (fun K hK => ?_); refine goes_ Try.func58 (by kernel_rfl) rfl #[.slice A30 ((l1.take 7).drop 4).length (c1 - 4)] (by rfl) rfl rfl (by (try simp only [List.map_toArray, List.map_cons, List.map_nil]); first | done | (rw [show ((l1.take 7).drop 4).length = (7 - 4) from (by rw [List.length_drop, List.length_take]; have h_ : (7 : Int) ≤ (l1.length : Int) := of_decide_eq_true (by first | (with_reducible assumption) | assumption); omega)] <;> rfl) | rfl | (simp only [List.length_drop, List.length_take]; rfl)) ?_
               with_reducible refine (spec_l3Read.calls _ _ ((l1.take 7).drop 4) t162 _ ?side1 ?side2 A25.out).mono ?_
               (case side1 => repeat (first | exact (Kd.C_below HR161.out HB.out) | (with_reducible refine Kd.C_alloc ?_ _) | (with_reducible refine Kd.C_drewN ?_ _) | (with_reducible refine Kd.C_drew ?_)))
               (case side2 => exact HC161.out)
               rintro e w' ⟨rfl, ⟨nd, rfl⟩⟩; refine ⟨_, rfl, ?_⟩; refine hK.out _ _ trivial (fun hHeld => ?_); clear hK K
               apply norm_
               · show Act.put _ (some 38) _ = _; simp only [Act.put, sA_, sZ_, sS_, i64_w, i32_w]; rfl
               refine pu_ 6 39 (bl_ 9 255) rfl rfl HT_ ?_; exact norm_ (by simp only [putAll, Act.put, sA_, sZ_, sS_]) (hCont (gb163) _ ⟨(bk_ BK154), (bk_ BK155), (bk_ BK156), (bk_ BK163), GW163.out, GE163.out, NB154_163.out, NB163_154.out, NB155_163.out, NB163_155.out, NB156_163.out, NB163_156.out, (bw_ HB)⟩)
             ·
              refine box_step ?hg (N := 7) ?hd (cs := #[.int .i64 0, .int .i64 0, .bool false]) (t := 26) ?hr ?_; (case hd => rfl); (case hg => rfl); (case hr => first | (go_simp; done) | (go_simp; rfl))
              intro gb163 hg w31 hbox hb; have BK163 := Aside0.mk hbox; have GW163 := ge_ HB hg; have GE163 := ge_ HB hg; have NB154_163 := nl_ BK154 hg; have NB163_154 := nr_ BK154 hg; have NB155_163 := nl_ BK155 hg; have NB163_155 := nr_ BK155 hg; have NB156_163 := nl_ BK156 hg; have NB163_156 := nr_ BK156 hg; replace BK154 := bb_ BK154 hb; replace BK155 := bb_ BK155 hb; replace BK156 := bb_ BK156 hb; replace HB := bs_ HB hb; clear hb hbox hg; refine hK.out _ _ trivial (fun hHeld => ?_); clear hK K
              apply norm_
              · show Act.put _ (some 7) _ = _; simp only [Act.put, sA_, sZ_, sS_, i64_w, i32_w]; rfl
              refine one_ (i := 2) (N := some 35) (bl_ 9 159) rfl rfl (one_of HT_.out (by kernel_rfl)) (by decide) (fun K hK => ?_); refine goes_ Try.func58 (by kernel_rfl) rfl #[.slice A29 ((l1.take 4).drop 1).length (c1 - 1)] (by rfl) rfl rfl (by (try simp only [List.map_toArray, List.map_cons, List.map_nil]); first | done | (rw [show ((l1.take 4).drop 1).length = (4 - 1) from (by rw [List.length_drop, List.length_take]; have h_ : (4 : Int) ≤ (l1.length : Int) := of_decide_eq_true (by first | (with_reducible assumption) | assumption); omega)] <;> rfl) | rfl | (simp only [List.length_drop, List.length_take]; rfl)) ?_
              with_reducible refine (spec_l3Read.calls _ _ ((l1.take 4).drop 1) t160 _ ?side1 ?side2 A22.out).mono ?_
              (case side1 => repeat (first | exact (Kd.C_below HR159.out HB.out) | (with_reducible refine Kd.C_alloc ?_ _) | (with_reducible refine Kd.C_drewN ?_ _) | (with_reducible refine Kd.C_drew ?_)))
              (case side2 => exact HC159.out)
              rintro e w' ⟨rfl, ⟨nd, rfl⟩⟩; refine ⟨_, rfl, ?_⟩; refine hK.out _ _ trivial (fun hHeld => ?_); clear hK K
              apply norm_
              · show Act.put _ (some 35) _ = _; simp only [Act.put, sA_, sZ_, sS_, i64_w, i32_w]; rfl
              refine one_ (i := 5) (N := some 38) (bl_ 9 191) rfl rfl (one_of HT_.out (by kernel_rfl)) (by decide) (fun K hK => ?_); refine goes_ Try.func58 (by kernel_rfl) rfl #[.slice A30 ((l1.take 7).drop 4).length (c1 - 4)] (by rfl) rfl rfl (by (try simp only [List.map_toArray, List.map_cons, List.map_nil]); first | done | (rw [show ((l1.take 7).drop 4).length = (7 - 4) from (by rw [List.length_drop, List.length_take]; have h_ : (7 : Int) ≤ (l1.length : Int) := of_decide_eq_true (by first | (with_reducible assumption) | assumption); omega)] <;> rfl) | rfl | (simp only [List.length_drop, List.length_take]; rfl)) ?_
              with_reducible refine (spec_l3Read.calls _ _ ((l1.take 7).drop 4) t162 _ ?side1 ?side2 A25.out).mono ?_
              (case side1 => repeat (first | exact (Kd.C_below HR161.out (bw_ HB)) | (with_reducible refine Kd.C_alloc ?_ _) | (with_reducible refine Kd.C_drewN ?_ _) | (with_reducible refine Kd.C_drew ?_)))
              (case side2 => exact HC161.out)
              rintro e w' ⟨rfl, ⟨nd, rfl⟩⟩; refine ⟨_, rfl, ?_⟩; refine hK.out _ _ trivial (fun hHeld => ?_); clear hK K
              apply norm_
              · show Act.put _ (some 38) _ = _; simp only [Act.put, sA_, sZ_, sS_, i64_w, i32_w]; rfl
              refine pu_ 6 39 (bl_ 9 255) rfl rfl HT_ ?_; exact norm_ (by simp only [putAll, Act.put, sA_, sZ_, sS_]) (hCont (gb163) _ ⟨(bk_ BK154), (bk_ BK155), (bk_ BK156), (bk_ BK163), GW163.out, GE163.out, NB154_163.out, NB163_154.out, NB155_163.out, NB163_155.out, NB156_163.out, NB163_156.out, (bw_ HB)⟩)
            rintro gb163 w32 ⟨h0_, h1_, h2_, h3_, h4_, h5_, h6_, h7_, h8_, h9_, h10_, h11_, h12_⟩; replace BK154 := Aside0.mk h0_; replace BK155 := Aside0.mk h1_; replace BK156 := Aside0.mk h2_; have BK163 := Aside0.mk h3_; have GW163 := Aside0.mk h4_; have GE163 := Aside0.mk h5_; have NB154_163 := Aside0.mk h6_; have NB163_154 := Aside0.mk h7_; have NB155_163 := Aside0.mk h8_; have NB163_155 := Aside0.mk h9_; have NB156_163 := Aside0.mk h10_; have NB163_156 := Aside0.mk h11_; replace HB := Aside0.mk h12_; clear h0_ h1_ h2_ h3_ h4_ h5_ h6_ h7_ h8_ h9_ h10_ h11_ h12_; have hHeld := trivial
            apply norm_
            · simp only [putAll, Act.put, sA_, sZ_, sS_]; rfl
            refine one_ (i := 8) (N := none) (bl_ 9 511) rfl rfl (one_of HT_.out (by kernel_rfl)) (by decide) (fun K hK => ?_)
            have hs33 : w32.cell? ⟨gb163, 0, none⟩ = some (.int .i64 0) := bc_ BK163 0
            have hfs33 := blk_frozen BK163.out 0; have hns33_0 := NB154_163.out; have hns33_1 := NB155_163.out; have hns33_2 := NB156_163.out; have hms33_0 := NB163_154.out; have hms33_1 := NB163_155.out; have hms33_2 := NB163_156.out
            have hs34 : w32.cell? ⟨gb163, 1, none⟩ = some (.int .i64 0) := bc_ BK163 1
            have hfs34 := blk_frozen BK163.out 1; have hns34_0 := NB154_163.out; have hns34_1 := NB155_163.out; have hns34_2 := NB156_163.out; have hms34_0 := NB163_154.out; have hms34_1 := NB163_155.out; have hms34_2 := NB163_156.out
            have hs35 : w32.cell? ⟨gb163, 2, none⟩ = some (.bool false) := bc_ BK163 2
            have hfs35 := blk_frozen BK163.out 2; have hns35_0 := NB154_163.out; have hns35_1 := NB155_163.out; have hns35_2 := NB156_163.out; have hms35_0 := NB163_154.out; have hms35_1 := NB163_155.out; have hms35_2 := NB163_156.out; refine skip_ (w1 := ?_) (by rfl) rfl ?_ ?_; rotate_left
            · go_simp; rfl
            refine hK.out _ _ trivial (fun hHeld => ?_); clear hK K; refine done_ (done_of HT_.out (by kernel_rfl)) ?_; obtain ⟨hnb36, hnc36⟩ := nn_ NB154_155; obtain ⟨hnb37, hnc37⟩ := nn_ NB154_156; obtain ⟨hnb38, hnc38⟩ := nn_ NB154_163
            obtain ⟨hcz39_0, hcz39_1, hcz39_2, hcz39_3, hcz39_4, hcz39_5, hfz39_0, hfz39_1, hfz39_2, hfz39_3, hfz39_4, hfz39_5⟩ := bx6_ BK154; obtain ⟨hnb40, hnc40⟩ := nn_ NB163_155; obtain ⟨hnb41, hnc41⟩ := nn_ NB163_156
            obtain ⟨hcz42_0, hcz42_1, hcz42_2, hfz42_0, hfz42_1, hfz42_2⟩ := bx3_ BK163
            try go_wp2_with (first | ((with_reducible refine gate_callee (f := 30) rfl ?_); refine gl_ 42 rfl rfl Try.func30 #[.agg #[.int .i64 a0_0, .int .i64 a0_1, .int .i64 a0_2, .int .i64 a0_3, .int .i64 a0_4, .int .i64 a0_5], .agg #[.int .i64 t160, .int .i64 t162, .bool false]] rfl ?_; (with_reducible refine (spec_l3On.calls a0_0 a0_1 a0_2 a0_3 a0_4 a0_5 t160 t162 false true _ A26.out).mono ?_); rintro e w43 ⟨rfl, hb⟩; refine ⟨_, rfl, ?_⟩; replace BK154 := bd_ BK154 hb; replace BK155 := bd_ BK155 hb; replace BK156 := bd_ BK156 hb; replace BK163 := be_ #[.int .i64 t160, .int .i64 t162, .bool false] BK163 hb; replace HB := bs_ HB hb; (try clear hb); (try clear hb2); (try clear hk); (try clear hi); obtain ⟨hcz44_0, hcz44_1, hcz44_2, hfz44_0, hfz44_1, hfz44_2⟩ := bx3_ BK163; obtain ⟨hnb45, hnc45⟩ := nn_ NB155_156; obtain ⟨hcz46_0, hcz46_1, hcz46_2, hfz46_0, hfz46_1, hfz46_2⟩ := bx3_ BK155))
            refine bodyPost_ret (results_ct rfl _ _ gb155 26 #[.int .i64 t160, .int .i64 t162, .bool false] (0, 0) _ rfl (bq_ BK155) Try.underlying26 rfl (by kernel_rfl)) rfl ?_; exact ⟨by first | rfl | (simp [errW_none, errW_some] <;> rfl) | (simp [*, errW_none, errW_some] <;> rfl), by repeat (first | (with_reducible first | exact HB.out | apply below_alloc | apply pw_below_drewN | apply below_drew1 | refine below_set ?_ GE154.out | refine below_set ?_ GE155.out | refine below_set ?_ GE156.out | refine below_set ?_ GE163.out) | exact HB.out)⟩
           ·
            replace c27 := Bool.eq_false_iff.mpr c27; subst c27
            rw [if_neg (show ¬ (false = true) by decide)] at H
            simp only [Option.some.injEq, Prod.mk.injEq] at H
            obtain ⟨rfl, rfl, rfl, rfl⟩ := H
            try go_wp2
            replace BK154 := Aside0.mk (blk_drew BK154.out); replace BK155 := Aside0.mk (blk_drew BK155.out); replace BK156 := Aside0.mk (blk_drew BK156.out); replace HB := Aside0.mk (below_drew1 HB.out); obtain ⟨i048, hi048, _, hsz48, _⟩ := info_parts info5; obtain ⟨A48, hcut48, hA48, hC48⟩ := print_mid_of (P := Try.prog) (Value.int .u8) 0 34 5 .i64 .i64 Try.underlying34 hi048 hsz48 A1 c1 l1 1 4 (by omega) (by first | omega | exact of_decide_eq_true (by first | (with_reducible assumption) | assumption)) (of_decide_eq_true (by first | (with_reducible assumption) | assumption)) HC1.out; have HR159 := Aside0.mk (Kd.C_of_reads (h1 := fun _ => rfl) (hA48 _ (Kd.reads_of_C HR1.out))); have HC159 := Aside0.mk hC48; clear hA48 hC48 hi048 hsz48; obtain ⟨i049, hi049, _, hsz49, _⟩ := info_parts info5; obtain ⟨A49, hcut49, hA49, hC49⟩ := print_mid_of (P := Try.prog) (Value.int .u8) 0 34 5 .i64 .i64 Try.underlying34 hi049 hsz49 A1 c1 l1 4 7 (by omega) (by first | omega | exact of_decide_eq_true (by first | (with_reducible assumption) | assumption)) (of_decide_eq_true (by first | (with_reducible assumption) | assumption)) HC1.out; have HR161 := Aside0.mk (Kd.C_of_reads (h1 := fun _ => rfl) (hA49 _ (Kd.reads_of_C HR1.out))); have HC161 := Aside0.mk hC49; clear hA49 hC49 hi049 hsz49; refine start_ (n := 9) (S := fun w' => True) (ds := []) (bl_ 9 0) (by kernel_rfl) rfl rfl trivial (fun hHeld => ?_); refine with_tabW spec_l3Point.tab5 spec_l3Point.bits5 (fun HT_ HW_ => ?_)
            generalize wc.drew = w47 at BK154 BK155 BK156 HB HR159 HR161 hHeld ⊢
            refine pu_ 0 33 (bl_ 9 1) rfl rfl HT_ ?_; refine pu_ 1 34 (bl_ 9 3) rfl rfl HT_ ?_; refine pu_ 3 36 (bl_ 9 11) rfl rfl HT_ ?_; refine pu_ 4 37 (bl_ 9 27) rfl rfl HT_ ?_; refine join_ (σ := Nat) 1 (bl_ 9 255) (fun s_ => [(35, .int .i64 t160), (38, .int .i64 t162), (7, .pointer (some ⟨s_, 0, none⟩)), (39, .agg #[.int .i64 t160, .int .i64 t162, .bool false])]) (fun s_ w' => (w'.heap[gb154]? = some (.cells #[.int .i64 a0_0, .int .i64 a0_1, .int .i64 a0_2, .int .i64 a0_3, .int .i64 a0_4, .int .i64 a0_5] 29 (0, 0))) ∧ (w'.heap[gb155]? = some (.cells #[.int .i64 0, .int .i64 0, .bool false] 26 (0, 0))) ∧ (w'.heap[gb156]? = some (.cells #[.int .i64 0, .int .i64 0, .bool false] 26 (0, 0))) ∧ (w'.heap[s_]? = some (.cells #[.int .i64 0, .int .i64 0, .bool false] 26 (0, 0))) ∧ (w.heap.size ≤ s_) ∧ (w.heap.size ≤ s_) ∧ (gb154 ≠ s_) ∧ (s_ ≠ gb154) ∧ (gb155 ≠ s_) ∧ (s_ ≠ gb155) ∧ (gb156 ≠ s_) ∧ (s_ ≠ gb156) ∧ (Below w.heap.size w w')) ?_ ?_; rotate_left
            ·
             intro hCont; refine two_ (i := 2) (j := 7) (Ni := some 35) (Nj := some 7) (bl_ 9 31) (bl_ 9 155) rfl rfl rfl rfl (two_of HT_.out (by kernel_rfl)) (by decide) (by decide) (fun K hK => ?_) (fun K hK => ?_)
             ·
              refine goes_ Try.func58 (by kernel_rfl) rfl #[.slice A48 ((l1.take 4).drop 1).length (c1 - 1)] (by rfl) rfl rfl (by (try simp only [List.map_toArray, List.map_cons, List.map_nil]); first | done | (rw [show ((l1.take 4).drop 1).length = (4 - 1) from (by rw [List.length_drop, List.length_take]; have h_ : (4 : Int) ≤ (l1.length : Int) := of_decide_eq_true (by first | (with_reducible assumption) | assumption); omega)] <;> rfl) | rfl | (simp only [List.length_drop, List.length_take]; rfl)) ?_
              with_reducible refine (spec_l3Read.calls _ _ ((l1.take 4).drop 1) t160 _ ?side1 ?side2 A22.out).mono ?_
              (case side1 => repeat (first | exact (Kd.C_below HR159.out HB.out) | (with_reducible refine Kd.C_alloc ?_ _) | (with_reducible refine Kd.C_drewN ?_ _) | (with_reducible refine Kd.C_drew ?_)))
              (case side2 => exact HC159.out)
              rintro e w' ⟨rfl, ⟨nd, rfl⟩⟩; refine ⟨_, rfl, ?_⟩; refine hK.out _ _ trivial (fun hHeld => ?_); clear hK K
              apply norm_
              · show Act.put _ (some 35) _ = _; simp only [Act.put, sA_, sZ_, sS_, i64_w, i32_w]; rfl
              refine two_ (i := 5) (j := 7) (Ni := some 38) (Nj := some 7) (bl_ 9 63) (bl_ 9 159) rfl rfl rfl rfl (two_of HT_.out (by kernel_rfl)) (by decide) (by decide) (fun K hK => ?_) (fun K hK => ?_)
              ·
               refine goes_ Try.func58 (by kernel_rfl) rfl #[.slice A49 ((l1.take 7).drop 4).length (c1 - 4)] (by rfl) rfl rfl (by (try simp only [List.map_toArray, List.map_cons, List.map_nil]); first | done | (rw [show ((l1.take 7).drop 4).length = (7 - 4) from (by rw [List.length_drop, List.length_take]; have h_ : (7 : Int) ≤ (l1.length : Int) := of_decide_eq_true (by first | (with_reducible assumption) | assumption); omega)] <;> rfl) | rfl | (simp only [List.length_drop, List.length_take]; rfl)) ?_
               with_reducible refine (spec_l3Read.calls _ _ ((l1.take 7).drop 4) t162 _ ?side1 ?side2 A25.out).mono ?_
               (case side1 => repeat (first | exact (Kd.C_below HR161.out (bw_ HB)) | (with_reducible refine Kd.C_alloc ?_ _) | (with_reducible refine Kd.C_drewN ?_ _) | (with_reducible refine Kd.C_drew ?_)))
               (case side2 => exact HC161.out)
               rintro e w' ⟨rfl, ⟨nd, rfl⟩⟩; refine ⟨_, rfl, ?_⟩; refine hK.out _ _ trivial (fun hHeld => ?_); clear hK K
               apply norm_
               · show Act.put _ (some 38) _ = _; simp only [Act.put, sA_, sZ_, sS_, i64_w, i32_w]; rfl
               refine pu_ 6 39 (bl_ 9 127) rfl rfl HT_ ?_; refine one_ (i := 7) (N := some 7) (bl_ 9 255) rfl rfl (one_of HT_.out (by kernel_rfl)) (by decide) (fun K hK => ?_); refine box_step ?hg (N := 7) ?hd (cs := #[.int .i64 0, .int .i64 0, .bool false]) (t := 26) ?hr ?_; (case hd => rfl); (case hg => rfl); (case hr => first | (go_simp; done) | (go_simp; rfl))
               intro gb163 hg w50 hbox hb; have BK163 := Aside0.mk hbox; have GW163 := ge_ HB hg; have GE163 := ge_ HB hg; have NB154_163 := nl_ BK154 hg; have NB163_154 := nr_ BK154 hg; have NB155_163 := nl_ BK155 hg; have NB163_155 := nr_ BK155 hg; have NB156_163 := nl_ BK156 hg; have NB163_156 := nr_ BK156 hg; replace BK154 := bb_ BK154 hb; replace BK155 := bb_ BK155 hb; replace BK156 := bb_ BK156 hb; replace HB := bs_ HB hb; clear hb hbox hg; refine hK.out _ _ trivial (fun hHeld => ?_); clear hK K
               apply norm_
               · show Act.put _ (some 7) _ = _; simp only [Act.put, sA_, sZ_, sS_, i64_w, i32_w]; rfl
               exact norm_ (by simp only [putAll, Act.put, sA_, sZ_, sS_]) (hCont (gb163) _ ⟨(bk_ BK154), (bk_ BK155), (bk_ BK156), (bk_ BK163), GW163.out, GE163.out, NB154_163.out, NB163_154.out, NB155_163.out, NB163_155.out, NB156_163.out, NB163_156.out, (bw_ HB)⟩)
              ·
               refine box_step ?hg (N := 7) ?hd (cs := #[.int .i64 0, .int .i64 0, .bool false]) (t := 26) ?hr ?_; (case hd => rfl); (case hg => rfl); (case hr => first | (go_simp; done) | (go_simp; rfl))
               intro gb163 hg w50 hbox hb; have BK163 := Aside0.mk hbox; have GW163 := ge_ HB hg; have GE163 := ge_ HB hg; have NB154_163 := nl_ BK154 hg; have NB163_154 := nr_ BK154 hg; have NB155_163 := nl_ BK155 hg; have NB163_155 := nr_ BK155 hg; have NB156_163 := nl_ BK156 hg; have NB163_156 := nr_ BK156 hg; replace BK154 := bb_ BK154 hb; replace BK155 := bb_ BK155 hb; replace BK156 := bb_ BK156 hb; replace HB := bs_ HB hb; clear hb hbox hg; refine hK.out _ _ trivial (fun hHeld => ?_); clear hK K
               apply norm_
               · show Act.put _ (some 7) _ = _; simp only [Act.put, sA_, sZ_, sS_, i64_w, i32_w]; rfl
               refine one_ (i := 5) (N := some 38) (bl_ 9 191) rfl rfl (one_of HT_.out (by kernel_rfl)) (by decide) (fun K hK => ?_); refine goes_ Try.func58 (by kernel_rfl) rfl #[.slice A49 ((l1.take 7).drop 4).length (c1 - 4)] (by rfl) rfl rfl (by (try simp only [List.map_toArray, List.map_cons, List.map_nil]); first | done | (rw [show ((l1.take 7).drop 4).length = (7 - 4) from (by rw [List.length_drop, List.length_take]; have h_ : (7 : Int) ≤ (l1.length : Int) := of_decide_eq_true (by first | (with_reducible assumption) | assumption); omega)] <;> rfl) | rfl | (simp only [List.length_drop, List.length_take]; rfl)) ?_
               with_reducible refine (spec_l3Read.calls _ _ ((l1.take 7).drop 4) t162 _ ?side1 ?side2 A25.out).mono ?_
               (case side1 => repeat (first | exact (Kd.C_below HR161.out HB.out) | (with_reducible refine Kd.C_alloc ?_ _) | (with_reducible refine Kd.C_drewN ?_ _) | (with_reducible refine Kd.C_drew ?_)))
               (case side2 => exact HC161.out)
               rintro e w' ⟨rfl, ⟨nd, rfl⟩⟩; refine ⟨_, rfl, ?_⟩; refine hK.out _ _ trivial (fun hHeld => ?_); clear hK K
               apply norm_
               · show Act.put _ (some 38) _ = _; simp only [Act.put, sA_, sZ_, sS_, i64_w, i32_w]; rfl
               refine pu_ 6 39 (bl_ 9 255) rfl rfl HT_ ?_; exact norm_ (by simp only [putAll, Act.put, sA_, sZ_, sS_]) (hCont (gb163) _ ⟨(bk_ BK154), (bk_ BK155), (bk_ BK156), (bk_ BK163), GW163.out, GE163.out, NB154_163.out, NB163_154.out, NB155_163.out, NB163_155.out, NB156_163.out, NB163_156.out, (bw_ HB)⟩)
             ·
              refine box_step ?hg (N := 7) ?hd (cs := #[.int .i64 0, .int .i64 0, .bool false]) (t := 26) ?hr ?_; (case hd => rfl); (case hg => rfl); (case hr => first | (go_simp; done) | (go_simp; rfl))
              intro gb163 hg w50 hbox hb; have BK163 := Aside0.mk hbox; have GW163 := ge_ HB hg; have GE163 := ge_ HB hg; have NB154_163 := nl_ BK154 hg; have NB163_154 := nr_ BK154 hg; have NB155_163 := nl_ BK155 hg; have NB163_155 := nr_ BK155 hg; have NB156_163 := nl_ BK156 hg; have NB163_156 := nr_ BK156 hg; replace BK154 := bb_ BK154 hb; replace BK155 := bb_ BK155 hb; replace BK156 := bb_ BK156 hb; replace HB := bs_ HB hb; clear hb hbox hg; refine hK.out _ _ trivial (fun hHeld => ?_); clear hK K
              apply norm_
              · show Act.put _ (some 7) _ = _; simp only [Act.put, sA_, sZ_, sS_, i64_w, i32_w]; rfl
              refine one_ (i := 2) (N := some 35) (bl_ 9 159) rfl rfl (one_of HT_.out (by kernel_rfl)) (by decide) (fun K hK => ?_); refine goes_ Try.func58 (by kernel_rfl) rfl #[.slice A48 ((l1.take 4).drop 1).length (c1 - 1)] (by rfl) rfl rfl (by (try simp only [List.map_toArray, List.map_cons, List.map_nil]); first | done | (rw [show ((l1.take 4).drop 1).length = (4 - 1) from (by rw [List.length_drop, List.length_take]; have h_ : (4 : Int) ≤ (l1.length : Int) := of_decide_eq_true (by first | (with_reducible assumption) | assumption); omega)] <;> rfl) | rfl | (simp only [List.length_drop, List.length_take]; rfl)) ?_
              with_reducible refine (spec_l3Read.calls _ _ ((l1.take 4).drop 1) t160 _ ?side1 ?side2 A22.out).mono ?_
              (case side1 => repeat (first | exact (Kd.C_below HR159.out HB.out) | (with_reducible refine Kd.C_alloc ?_ _) | (with_reducible refine Kd.C_drewN ?_ _) | (with_reducible refine Kd.C_drew ?_)))
              (case side2 => exact HC159.out)
              rintro e w' ⟨rfl, ⟨nd, rfl⟩⟩; refine ⟨_, rfl, ?_⟩; refine hK.out _ _ trivial (fun hHeld => ?_); clear hK K
              apply norm_
              · show Act.put _ (some 35) _ = _; simp only [Act.put, sA_, sZ_, sS_, i64_w, i32_w]; rfl
              refine one_ (i := 5) (N := some 38) (bl_ 9 191) rfl rfl (one_of HT_.out (by kernel_rfl)) (by decide) (fun K hK => ?_); refine goes_ Try.func58 (by kernel_rfl) rfl #[.slice A49 ((l1.take 7).drop 4).length (c1 - 4)] (by rfl) rfl rfl (by (try simp only [List.map_toArray, List.map_cons, List.map_nil]); first | done | (rw [show ((l1.take 7).drop 4).length = (7 - 4) from (by rw [List.length_drop, List.length_take]; have h_ : (7 : Int) ≤ (l1.length : Int) := of_decide_eq_true (by first | (with_reducible assumption) | assumption); omega)] <;> rfl) | rfl | (simp only [List.length_drop, List.length_take]; rfl)) ?_
              with_reducible refine (spec_l3Read.calls _ _ ((l1.take 7).drop 4) t162 _ ?side1 ?side2 A25.out).mono ?_
              (case side1 => repeat (first | exact (Kd.C_below HR161.out (bw_ HB)) | (with_reducible refine Kd.C_alloc ?_ _) | (with_reducible refine Kd.C_drewN ?_ _) | (with_reducible refine Kd.C_drew ?_)))
              (case side2 => exact HC161.out)
              rintro e w' ⟨rfl, ⟨nd, rfl⟩⟩; refine ⟨_, rfl, ?_⟩; refine hK.out _ _ trivial (fun hHeld => ?_); clear hK K
              apply norm_
              · show Act.put _ (some 38) _ = _; simp only [Act.put, sA_, sZ_, sS_, i64_w, i32_w]; rfl
              refine pu_ 6 39 (bl_ 9 255) rfl rfl HT_ ?_; exact norm_ (by simp only [putAll, Act.put, sA_, sZ_, sS_]) (hCont (gb163) _ ⟨(bk_ BK154), (bk_ BK155), (bk_ BK156), (bk_ BK163), GW163.out, GE163.out, NB154_163.out, NB163_154.out, NB155_163.out, NB163_155.out, NB156_163.out, NB163_156.out, (bw_ HB)⟩)
            rintro gb163 w51 ⟨h0_, h1_, h2_, h3_, h4_, h5_, h6_, h7_, h8_, h9_, h10_, h11_, h12_⟩; replace BK154 := Aside0.mk h0_; replace BK155 := Aside0.mk h1_; replace BK156 := Aside0.mk h2_; have BK163 := Aside0.mk h3_; have GW163 := Aside0.mk h4_; have GE163 := Aside0.mk h5_; have NB154_163 := Aside0.mk h6_; have NB163_154 := Aside0.mk h7_; have NB155_163 := Aside0.mk h8_; have NB163_155 := Aside0.mk h9_; have NB156_163 := Aside0.mk h10_; have NB163_156 := Aside0.mk h11_; replace HB := Aside0.mk h12_; clear h0_ h1_ h2_ h3_ h4_ h5_ h6_ h7_ h8_ h9_ h10_ h11_ h12_; have hHeld := trivial
            apply norm_
            · simp only [putAll, Act.put, sA_, sZ_, sS_]; rfl
            refine one_ (i := 8) (N := none) (bl_ 9 511) rfl rfl (one_of HT_.out (by kernel_rfl)) (by decide) (fun K hK => ?_)
            have hs52 : w51.cell? ⟨gb163, 0, none⟩ = some (.int .i64 0) := bc_ BK163 0
            have hfs52 := blk_frozen BK163.out 0; have hns52_0 := NB154_163.out; have hns52_1 := NB155_163.out; have hns52_2 := NB156_163.out; have hms52_0 := NB163_154.out; have hms52_1 := NB163_155.out; have hms52_2 := NB163_156.out
            have hs53 : w51.cell? ⟨gb163, 1, none⟩ = some (.int .i64 0) := bc_ BK163 1
            have hfs53 := blk_frozen BK163.out 1; have hns53_0 := NB154_163.out; have hns53_1 := NB155_163.out; have hns53_2 := NB156_163.out; have hms53_0 := NB163_154.out; have hms53_1 := NB163_155.out; have hms53_2 := NB163_156.out
            have hs54 : w51.cell? ⟨gb163, 2, none⟩ = some (.bool false) := bc_ BK163 2
            have hfs54 := blk_frozen BK163.out 2; have hns54_0 := NB154_163.out; have hns54_1 := NB155_163.out; have hns54_2 := NB156_163.out; have hms54_0 := NB163_154.out; have hms54_1 := NB163_155.out; have hms54_2 := NB163_156.out; refine skip_ (w1 := ?_) (by rfl) rfl ?_ ?_; rotate_left
            · go_simp; rfl
            refine hK.out _ _ trivial (fun hHeld => ?_); clear hK K; refine done_ (done_of HT_.out (by kernel_rfl)) ?_; obtain ⟨hnb55, hnc55⟩ := nn_ NB154_155; obtain ⟨hnb56, hnc56⟩ := nn_ NB154_156; obtain ⟨hnb57, hnc57⟩ := nn_ NB154_163
            obtain ⟨hcz58_0, hcz58_1, hcz58_2, hcz58_3, hcz58_4, hcz58_5, hfz58_0, hfz58_1, hfz58_2, hfz58_3, hfz58_4, hfz58_5⟩ := bx6_ BK154; obtain ⟨hnb59, hnc59⟩ := nn_ NB163_155; obtain ⟨hnb60, hnc60⟩ := nn_ NB163_156
            obtain ⟨hcz61_0, hcz61_1, hcz61_2, hfz61_0, hfz61_1, hfz61_2⟩ := bx3_ BK163
            try go_wp2_with (first | ((with_reducible refine gate_callee (f := 30) rfl ?_); refine gl_ 42 rfl rfl Try.func30 #[.agg #[.int .i64 a0_0, .int .i64 a0_1, .int .i64 a0_2, .int .i64 a0_3, .int .i64 a0_4, .int .i64 a0_5], .agg #[.int .i64 t160, .int .i64 t162, .bool false]] rfl ?_; (with_reducible refine (spec_l3On.calls a0_0 a0_1 a0_2 a0_3 a0_4 a0_5 t160 t162 false false _ A26.out).mono ?_); rintro e w62 ⟨rfl, hb⟩; refine ⟨_, rfl, ?_⟩; replace BK154 := bd_ BK154 hb; replace BK155 := bd_ BK155 hb; replace BK156 := bd_ BK156 hb; replace BK163 := be_ #[.int .i64 t160, .int .i64 t162, .bool false] BK163 hb; replace HB := bs_ HB hb; (try clear hb); (try clear hb2); (try clear hk); (try clear hi); obtain ⟨hnb63, hnc63⟩ := nn_ NB156_155; obtain ⟨hcz64_0, hcz64_1, hcz64_2, hfz64_0, hfz64_1, hfz64_2⟩ := bx3_ BK156; obtain ⟨hcz65_0, hcz65_1, hcz65_2, hfz65_0, hfz65_1, hfz65_2⟩ := bx3_ BK155))
            refine bodyPost_ret (results_ct rfl _ _ gb155 26 #[.int .i64 0, .int .i64 0, .bool false] (0, 0) _ rfl (bq_ BK155) Try.underlying26 rfl (by kernel_rfl)) rfl ?_; exact ⟨by first | rfl | (simp [errW_none, errW_some] <;> rfl) | (simp [*, errW_none, errW_some] <;> rfl), by repeat (first | (with_reducible first | exact HB.out | apply below_alloc | apply pw_below_drewN | apply below_drew1 | refine below_set ?_ GE154.out | refine below_set ?_ GE155.out | refine below_set ?_ GE156.out | refine below_set ?_ GE163.out) | exact HB.out)⟩
          · rw [if_neg c24] at H; exact absurd H (by simp)
         · rw [if_neg c23] at H; exact absurd H (by simp)
        · rw [if_neg c21] at H; exact absurd H (by simp)
       · rw [if_neg c20] at H; exact absurd H (by simp)
      ·
       replace c19 := Bool.eq_false_iff.mpr c19; subst c19
       rw [if_neg (show ¬ (false = true) by decide)] at H; have HC66 := Aside0.mk H; clear H
       go_upto_region 9 with (fail)
       go_cut [46] (fun v46 wc => ∃ (kq : Nat) (x46_65 : Bool), v46 = .bool x46_65 ∧ Aside0 (spec_l3Point.j2 kq l1 x46_65 a0_0 a0_1 a0_2 a0_3 a0_4 a0_5 0 0 false = some (r1, r2, r3, r4)) ∧ Aside0 (kq ≤ kj15) ∧ Aside0 (wc.heap[gb154]? = some (.cells #[.int .i64 a0_0, .int .i64 a0_1, .int .i64 a0_2, .int .i64 a0_3, .int .i64 a0_4, .int .i64 a0_5] 29 (0, 0))) ∧ Aside0 (wc.heap[gb155]? = some (.cells #[.int .i64 0, .int .i64 0, .bool false] 26 (0, 0))) ∧ Aside0 (wc.heap[gb156]? = some (.cells #[.int .i64 0, .int .i64 0, .bool false] 26 (0, 0))) ∧ Aside0 (Below w.heap.size w wc))
       case first =>
        have H := HC66.out; clear HC66
        by_cases c67 : (l1.length : Int) = 4
        ·
         rw [if_pos c67] at H
         have c67b0 : ((l1.length : Int) == 4) = true := beq_iff_eq.mpr c67
         have c67b1 : ((l1.length : Int) != 4) = false := bne_eq_false_iff_eq.mpr c67
         clear c67
         (first | rw [c67b0] | (simp only [i64_w, i32_w]; rw [c67b0]) | skip)
         by_cases c68 : 0 < (l1.length : Int)
         ·
          rw [if_pos c68] at H
          have c68b0 : decide (0 < (l1.length : Int)) = true := decide_eq_true c68
          have c68b1 : decide (0 < l1.length) = true := decide_eq_true (by omega)
          clear c68
          by_cases c69 : (rd l1 0) = 2
          ·
           rw [if_pos c69] at H
           have c69b0 : ((rd l1 0) == 2) = true := beq_iff_eq.mpr c69
           have c69b1 : ((rd l1 0) != 2) = false := bne_eq_false_iff_eq.mpr c69
           clear c69
           have H' := Aside0.mk H
           clear H
           have p165 : 0 ≤ (0 : Int) := (by omega)
           have q165 : 0 < (l1.length : Int) := of_decide_eq_true (by first | (with_reducible assumption) | assumption)
           obtain ⟨ad165, e165, hx165_0⟩ := Kd.at_int HR1.out 0 p165 q165
           cases e165
           have qi165 : (0 < l1.length) = True := eq_true (by omega)
           (try rw [show ((0 : Int)).toNat = 0 from rfl] at hx165_0); (try rw [Addr.add_zero'] at hx165_0); replace hx165_0 := (HB.out.cell (World.block_lt_of_cell? w _ hx165_0)).trans hx165_0; replace p165 := eq_true p165; replace q165 := eq_true q165
           go_wp2
           go_meet
           case rel => exact ⟨_, (true), (by first | rfl | (simp; done) | (simp [*]; done)), H', ⟨by have := HJ2.out; have := HJ15.out; first | omega | exact Nat.le_refl _⟩, ⟨bk_ BK154⟩, ⟨bk_ BK155⟩, ⟨bk_ BK156⟩, ⟨bw_ HB⟩⟩
          ·
           rw [if_neg c69] at H
           have c69b0 : ((rd l1 0) == 2) = false := beq_eq_false_iff_ne.mpr c69
           have c69b1 : ((rd l1 0) != 2) = true := bne_iff_ne.mpr c69
           have H' := Aside0.mk H
           clear H
           have p165 : 0 ≤ (0 : Int) := (by omega)
           have q165 : 0 < (l1.length : Int) := of_decide_eq_true (by first | (with_reducible assumption) | assumption)
           obtain ⟨ad165, e165, hx165_0⟩ := Kd.at_int HR1.out 0 p165 q165
           cases e165
           have qi165 : (0 < l1.length) = True := eq_true (by omega)
           (try rw [show ((0 : Int)).toNat = 0 from rfl] at hx165_0); (try rw [Addr.add_zero'] at hx165_0); replace hx165_0 := (HB.out.cell (World.block_lt_of_cell? w _ hx165_0)).trans hx165_0; replace p165 := eq_true p165; replace q165 := eq_true q165
           have p166 : 0 ≤ (0 : Int) := (by omega)
           have q166 : 0 < (l1.length : Int) := of_decide_eq_true (by first | (with_reducible assumption) | assumption)
           obtain ⟨ad166, e166, hx166_0⟩ := Kd.at_int HR1.out 0 p166 q166; obtain rfl : ad165 = ad166 := (by injection e166)
           have qi166 : (0 < l1.length) = True := eq_true (by omega)
           (try rw [show ((0 : Int)).toNat = 0 from rfl] at hx166_0); (try rw [Addr.add_zero'] at hx166_0); replace hx166_0 := (HB.out.cell (World.block_lt_of_cell? w _ hx166_0)).trans hx166_0; replace p166 := eq_true p166; replace q166 := eq_true q166
           go_wp2
           go_meet
           case rel => exact ⟨_, (((rd l1 0) == 3)), (by first | rfl | (simp; done) | (simp [*]; done)), H', ⟨by have := HJ2.out; have := HJ15.out; first | omega | exact Nat.le_refl _⟩, ⟨bk_ BK154⟩, ⟨bk_ BK155⟩, ⟨bk_ BK156⟩, ⟨bw_ HB⟩⟩
         · rw [if_neg c68] at H; exact absurd H (by simp)
        ·
         rw [if_neg c67] at H
         have c67b0 : ((l1.length : Int) == 4) = false := beq_eq_false_iff_ne.mpr c67
         have c67b1 : ((l1.length : Int) != 4) = true := bne_iff_ne.mpr c67
         (first | rw [c67b0] | (simp only [i64_w, i32_w]; rw [c67b0]) | skip)
         have H' := Aside0.mk H
         clear H
         go_wp2
         go_meet
         case rel => exact ⟨_, (false), (by first | rfl | (simp; done) | (simp [*]; done)), H', ⟨by have := HJ2.out; have := HJ15.out; first | omega | exact Nat.le_refl _⟩, ⟨bk_ BK154⟩, ⟨bk_ BK155⟩, ⟨bk_ BK156⟩, ⟨bw_ HB⟩⟩
       case rest =>
        clear HC66
        try clear c1
        try clear p1
        try clear q1
        try clear hx1
        try clear qi1
        try clear c2
        try clear p2
        try clear c3
        try clear c4
        try clear c5
        try clear c6
        try clear p16
        try clear q16
        try clear hx16
        try clear qi16
        try clear c19
        try clear c20
        try clear c21
        try clear c23
        try clear c24
        try clear c27
        try clear c30
        try clear c36
        try clear c37
        try clear c38
        try clear c40
        try clear c41
        try clear c45
        try clear c55
        try clear c56
        try clear c57
        try clear c58
        try clear c59
        try clear c60
        try clear c63
        try clear c67
        try clear c67b0
        try clear c67b1
        try clear c68
        try clear c68b0
        try clear c68b1
        try clear c69
        try clear c69b0
        try clear c69b1
        try clear hcz39_0 hcz39_1 hcz39_2 hcz39_3 hcz39_4 hcz39_5
        try clear hcz42_0 hcz42_1 hcz42_2
        try clear hcz44_0 hcz44_1 hcz44_2
        try clear hcz46_0 hcz46_1 hcz46_2
        try clear hcz58_0 hcz58_1 hcz58_2 hcz58_3 hcz58_4 hcz58_5
        try clear hcz61_0 hcz61_1 hcz61_2
        try clear hcz64_0 hcz64_1 hcz64_2
        try clear hcz65_0 hcz65_1 hcz65_2
        try clear hfz39_0 hfz39_1 hfz39_2 hfz39_3 hfz39_4 hfz39_5
        try clear hfz42_0 hfz42_1 hfz42_2
        try clear hfz44_0 hfz44_1 hfz44_2
        try clear hfz46_0 hfz46_1 hfz46_2
        try clear hfz58_0 hfz58_1 hfz58_2 hfz58_3 hfz58_4 hfz58_5
        try clear hfz61_0 hfz61_1 hfz61_2
        try clear hfz64_0 hfz64_1 hfz64_2
        try clear hfz65_0 hfz65_1 hfz65_2
        try clear hx165_0
        try clear hx166_0
        try clear p165
        try clear p166
        try clear q165
        try clear q166
        obtain ⟨kq, x46_65, rfl, HA, HJ65, BK154, BK155, BK156, HB⟩ := hcut
        cases kq with
        | zero => exact absurd HA.out (by simp [spec_l3Point.j2])
        | succ kj65 =>
         have H := HA.out; clear HA
         simp only [spec_l3Point.j2] at H
         by_cases c70 : x46_65 = true
         ·
          subst c70; rw [if_pos rfl] at H
          by_cases c71 : 1 ≤ 4
          ·
           rw [if_pos c71] at H; have c71b0 := eq_true c71
           have c71b1 : decide (1 ≤ 4) = true := decide_eq_true c71
           clear c71
           by_cases c72 : 4 ≤ (l1.length : Int)
           ·
            rw [if_pos c72] at H; have c72b0 := eq_true c72
            have c72b1 : decide (4 ≤ (l1.length : Int)) = true := decide_eq_true c72
            clear c72; obtain ⟨t168, A730, H⟩ := pb_ H
            have A73 := Aside0.mk A730; clear A730
            by_cases c74 : t168 ≥ a0_0
            ·
             rw [if_pos c74] at H
             have c74b0 : decide (a0_0 ≤ t168) = true := decide_eq_true c74
             clear c74
             simp only [Option.some.injEq, Prod.mk.injEq] at H
             obtain ⟨rfl, rfl, rfl, rfl⟩ := H; obtain ⟨i075, hi075, _, hsz75, _⟩ := info_parts info5; obtain ⟨A75, hcut75, hA75, hC75⟩ := print_mid_of (P := Try.prog) (Value.int .u8) 0 34 5 .i64 .i64 Try.underlying34 hi075 hsz75 A1 c1 l1 1 4 (by omega) (by first | omega | exact of_decide_eq_true (by first | (with_reducible assumption) | assumption)) (of_decide_eq_true (by first | (with_reducible assumption) | assumption)) HC1.out; have HR167 := Aside0.mk (Kd.C_of_reads (h1 := fun _ => rfl) (hA75 _ (Kd.reads_of_C HR1.out))); have HC167 := Aside0.mk hC75; clear hA75 hC75 hi075 hsz75
             go_wp2_with (first | ((with_reducible refine gate_callee (f := 58) rfl ?_); refine goesL_ (some 64) rfl rfl Try.func58 (by kernel_rfl) rfl #[.slice A75 ((l1.take 4).drop 1).length (c1 - 1)] rfl (by (try simp only [List.map_toArray, List.map_cons, List.map_nil]); first | done | (rw [show ((l1.take 4).drop 1).length = (4 - 1) from (by rw [List.length_drop, List.length_take]; have h_ : (4 : Int) ≤ (l1.length : Int) := of_decide_eq_true (by first | (with_reducible assumption) | assumption); omega)] <;> rfl) | rfl | (simp only [List.length_drop, List.length_take]; rfl)) ?_; (with_reducible refine (spec_l3Read.calls _ _ ((l1.take 4).drop 1) t168 _ ?side1 ?side2 A73.out).mono ?_); (case side1 => repeat (first | exact (Kd.C_below HR167.out HB.out) | (with_reducible refine Kd.C_alloc ?_ _) | (with_reducible refine Kd.C_drewN ?_ _) | (with_reducible refine Kd.C_drew ?_))); (case side2 => exact HC167.out); rintro e w' ⟨rfl, ⟨nd, rfl⟩⟩; refine ⟨_, rfl, ?_⟩; (try (rw [drewN_self wc]; generalize hq_ : World.drewN wc _ = wc; have n0_ : Aside0 (wc.heap[gb154]? = some (.cells #[.int .i64 a0_0, .int .i64 a0_1, .int .i64 a0_2, .int .i64 a0_3, .int .i64 a0_4, .int .i64 a0_5] 29 (0, 0))) := ⟨by rw [← hq_]; exact (bk_ BK154)⟩; have n1_ : Aside0 (wc.heap[gb155]? = some (.cells #[.int .i64 0, .int .i64 0, .bool false] 26 (0, 0))) := ⟨by rw [← hq_]; exact (bk_ BK155)⟩; have n2_ : Aside0 (wc.heap[gb156]? = some (.cells #[.int .i64 0, .int .i64 0, .bool false] 26 (0, 0))) := ⟨by rw [← hq_]; exact (bk_ BK156)⟩; have n3_ : Aside0 (Below w.heap.size w wc) := ⟨by rw [← hq_]; exact (bw_ HB)⟩; clear BK154 BK155 BK156 HB hq_; have BK154 := n0_; have BK155 := n1_; have BK156 := n2_; have HB := n3_; clear n0_ n1_ n2_ n3_; obtain ⟨hcy154_0, hcy154_1, hcy154_2, hcy154_3, hcy154_4, hcy154_5⟩ := by6_ BK154; obtain ⟨hcy155_0, hcy155_1, hcy155_2⟩ := by3_ BK155; obtain ⟨hcy156_0, hcy156_1, hcy156_2⟩ := by3_ BK156)); obtain ⟨hnb76, hnc76⟩ := nn_ NB154_155; obtain ⟨hnb77, hnc77⟩ := nn_ NB154_156; obtain ⟨hcz78_0, hcz78_1, hcz78_2, hcz78_3, hcz78_4, hcz78_5, hfz78_0, hfz78_1, hfz78_2, hfz78_3, hfz78_4, hfz78_5⟩ := bx6_ BK154; obtain ⟨hnb79, hnc79⟩ := nn_ NB156_155; obtain ⟨hcz80_0, hcz80_1, hcz80_2, hfz80_0, hfz80_1, hfz80_2⟩ := bx3_ BK156; obtain ⟨hcz81_0, hcz81_1, hcz81_2, hfz81_0, hfz81_1, hfz81_2⟩ := bx3_ BK155))
             refine bodyPost_ret (results_ct rfl _ _ gb155 26 #[.int .i64 0, .int .i64 0, .bool false] (0, 0) _ rfl (bq_ BK155) Try.underlying26 rfl (by kernel_rfl)) rfl ?_; exact ⟨by first | rfl | (simp [errW_none, errW_some] <;> rfl) | (simp [*, errW_none, errW_some] <;> rfl), by repeat (first | (with_reducible first | exact HB.out | apply below_alloc | apply pw_below_drewN | apply below_drew1 | refine below_set ?_ GE154.out | refine below_set ?_ GE155.out | refine below_set ?_ GE156.out) | exact HB.out)⟩
            ·
             rw [if_neg c74] at H
             have c74b0 : decide (a0_0 ≤ t168) = false := decide_eq_false c74
             clear c74
             by_cases c82 : a0_0 = 0
             · rw [if_pos c82] at H; exact absurd H (by simp)
             ·
              rw [if_neg c82] at H
              have c82b0 : (a0_0 == 0) = false := beq_eq_false_iff_ne.mpr c82
              have c82b1 : (a0_0 != 0) = true := bne_iff_ne.mpr c82
              obtain ⟨t169, A830, H⟩ := pb_ H; have A83 := Aside0.mk A830; clear A830
              by_cases c84 : 0 < (l1.length : Int)
              ·
               rw [if_pos c84] at H
               have c84b0 : decide (0 < (l1.length : Int)) = true := decide_eq_true c84
               have c84b1 : decide (0 < l1.length) = true := decide_eq_true (by omega)
               clear c84
               by_cases c85 : (Int.tmod t169 2) = (wrap64 ((wrap64 (rd l1 0)) - 2))
               ·
                rw [if_pos c85] at H
                have c85b0 : ((Int.tmod t169 2) == (wrap64 ((wrap64 (rd l1 0)) - 2))) = true := beq_iff_eq.mpr c85
                have c85b1 : ((Int.tmod t169 2) != (wrap64 ((wrap64 (rd l1 0)) - 2))) = false := bne_eq_false_iff_eq.mpr c85
                clear c85; obtain ⟨t172, A860, H⟩ := pb_ H
                have A86 := Aside0.mk A860; clear A860
                by_cases c87 : t172 = true
                ·
                 subst c87; rw [if_pos rfl] at H
                 simp only [Option.some.injEq, Prod.mk.injEq] at H
                 obtain ⟨rfl, rfl, rfl, rfl⟩ := H; obtain ⟨i088, hi088, _, hsz88, _⟩ := info_parts info5; obtain ⟨A88, hcut88, hA88, hC88⟩ := print_mid_of (P := Try.prog) (Value.int .u8) 0 34 5 .i64 .i64 Try.underlying34 hi088 hsz88 A1 c1 l1 1 4 (by omega) (by first | omega | exact of_decide_eq_true (by first | (with_reducible assumption) | assumption)) (of_decide_eq_true (by first | (with_reducible assumption) | assumption)) HC1.out; have HR167 := Aside0.mk (Kd.C_of_reads (h1 := fun _ => rfl) (hA88 _ (Kd.reads_of_C HR1.out))); have HC167 := Aside0.mk hC88; clear hA88 hC88 hi088 hsz88
                 try go_wp2_with (first | ((with_reducible refine gate_callee (f := 58) rfl ?_); refine goesL_ (some 64) rfl rfl Try.func58 (by kernel_rfl) rfl #[.slice A88 ((l1.take 4).drop 1).length (c1 - 1)] rfl (by (try simp only [List.map_toArray, List.map_cons, List.map_nil]); first | done | (rw [show ((l1.take 4).drop 1).length = (4 - 1) from (by rw [List.length_drop, List.length_take]; have h_ : (4 : Int) ≤ (l1.length : Int) := of_decide_eq_true (by first | (with_reducible assumption) | assumption); omega)] <;> rfl) | rfl | (simp only [List.length_drop, List.length_take]; rfl)) ?_; (with_reducible refine (spec_l3Read.calls _ _ ((l1.take 4).drop 1) t168 _ ?side1 ?side2 A73.out).mono ?_); (case side1 => repeat (first | exact (Kd.C_below HR167.out HB.out) | (with_reducible refine Kd.C_alloc ?_ _) | (with_reducible refine Kd.C_drewN ?_ _) | (with_reducible refine Kd.C_drew ?_))); (case side2 => exact HC167.out); rintro e w' ⟨rfl, ⟨nd, rfl⟩⟩; refine ⟨_, rfl, ?_⟩; (try (rw [drewN_self wc]; generalize hq_ : World.drewN wc _ = wc; have n0_ : Aside0 (wc.heap[gb154]? = some (.cells #[.int .i64 a0_0, .int .i64 a0_1, .int .i64 a0_2, .int .i64 a0_3, .int .i64 a0_4, .int .i64 a0_5] 29 (0, 0))) := ⟨by rw [← hq_]; exact (bk_ BK154)⟩; have n1_ : Aside0 (wc.heap[gb155]? = some (.cells #[.int .i64 0, .int .i64 0, .bool false] 26 (0, 0))) := ⟨by rw [← hq_]; exact (bk_ BK155)⟩; have n2_ : Aside0 (wc.heap[gb156]? = some (.cells #[.int .i64 0, .int .i64 0, .bool false] 26 (0, 0))) := ⟨by rw [← hq_]; exact (bk_ BK156)⟩; have n3_ : Aside0 (Below w.heap.size w wc) := ⟨by rw [← hq_]; exact (bw_ HB)⟩; clear BK154 BK155 BK156 HB hq_; have BK154 := n0_; have BK155 := n1_; have BK156 := n2_; have HB := n3_; clear n0_ n1_ n2_ n3_; obtain ⟨hcy154_0, hcy154_1, hcy154_2, hcy154_3, hcy154_4, hcy154_5⟩ := by6_ BK154; obtain ⟨hcy155_0, hcy155_1, hcy155_2⟩ := by3_ BK155; obtain ⟨hcy156_0, hcy156_1, hcy156_2⟩ := by3_ BK156)); obtain ⟨hnb89, hnc89⟩ := nn_ NB154_155; obtain ⟨hnb90, hnc90⟩ := nn_ NB154_156; obtain ⟨hcz91_0, hcz91_1, hcz91_2, hcz91_3, hcz91_4, hcz91_5, hfz91_0, hfz91_1, hfz91_2, hfz91_3, hfz91_4, hfz91_5⟩ := bx6_ BK154))
                 replace BK154 := Aside0.mk (blk_drew BK154.out); replace BK155 := Aside0.mk (blk_drew BK155.out); replace BK156 := Aside0.mk (blk_drew BK156.out); replace HB := Aside0.mk (below_drew1 HB.out); refine start_ (n := 25) (S := fun w' => w'.cell? ⟨gb154, 0, none⟩ = some (.int .i64 a0_0) ∧ w'.cell? ⟨gb154, 1, none⟩ = some (.int .i64 a0_1) ∧ w'.cell? ⟨gb154, 2, none⟩ = some (.int .i64 a0_2) ∧ w'.cell? ⟨gb154, 3, none⟩ = some (.int .i64 a0_3) ∧ w'.cell? ⟨gb154, 4, none⟩ = some (.int .i64 a0_4) ∧ w'.cell? ⟨gb154, 5, none⟩ = some (.int .i64 a0_5)) (ds := []) (bl_ 25 0) (by kernel_rfl) rfl rfl ⟨bc_ BK154 0, bc_ BK154 1, bc_ BK154 2, bc_ BK154 3, bc_ BK154 4, bc_ BK154 5⟩ (fun hHeld => ?_); refine with_tabW spec_l3Point.tab13 spec_l3Point.bits13 (fun HT_ HW_ => ?_)
                 generalize wc.drew = w92 at BK154 BK155 BK156 HB hHeld ⊢
                 refine pu_ 0 70 (bl_ 25 1) rfl rfl HT_ ?_; refine pu_ 1 71 (bl_ 25 3) rfl rfl HT_ ?_; refine pu_ 2 72 (bl_ 25 7) rfl rfl HT_ ?_; refine pu_ 3 73 (bl_ 25 15) rfl rfl HT_ ?_; refine pu_ 6 76 (bl_ 25 79) rfl rfl HT_ ?_; refine pu_ 9 79 (bl_ 25 591) rfl rfl HT_ ?_; refine pu_ 11 81 (bl_ 25 2639) rfl rfl HT_ ?_; refine pu_ 14 84 (bl_ 25 19023) rfl rfl HT_ ?_; refine pu_ 17 87 (bl_ 25 150095) rfl rfl HT_ ?_; refine pu_ 21 91 (bl_ 25 2247247) rfl rfl HT_ ?_; refine tk_ 4 74 (bl_ 25 2247263) rfl rfl HT_ HW_ hHeld (by rintro w' ⟨s0, s1, s2, s3, s4, s5⟩; go_simp; with_reducible rfl) ?_; refine pu_ 5 75 (bl_ 25 2247295) rfl rfl HT_ ?_; refine tk_ 7 77 (bl_ 25 2247423) rfl rfl HT_ HW_ hHeld (by rintro w' ⟨s0, s1, s2, s3, s4, s5⟩; go_simp; with_reducible rfl) ?_; refine pu_ 8 78 (bl_ 25 2247679) rfl rfl HT_ ?_; refine pu_ 10 80 (bl_ 25 2248703) rfl rfl HT_ ?_; refine tk_ 12 82 (bl_ 25 2252799) rfl rfl HT_ HW_ hHeld (by rintro w' ⟨s0, s1, s2, s3, s4, s5⟩; go_simp; with_reducible rfl) ?_; refine pu_ 13 83 (bl_ 25 2260991) rfl rfl HT_ ?_; refine tk_ 15 85 (bl_ 25 2293759) rfl rfl HT_ HW_ hHeld (by rintro w' ⟨s0, s1, s2, s3, s4, s5⟩; go_simp; with_reducible rfl) ?_; refine pu_ 16 86 (bl_ 25 2359295) rfl rfl HT_ ?_; refine tk_ 18 88 (bl_ 25 2621439) rfl rfl HT_ HW_ hHeld (by rintro w' ⟨s0, s1, s2, s3, s4, s5⟩; go_simp; with_reducible rfl) ?_; refine pu_ 19 89 (bl_ 25 3145727) rfl rfl HT_ ?_; refine pu_ 20 90 (bl_ 25 4194303) rfl rfl HT_ ?_; refine tk_ 22 92 (bl_ 25 8388607) rfl rfl HT_ HW_ hHeld (by rintro w' ⟨s0, s1, s2, s3, s4, s5⟩; go_simp; with_reducible rfl) ?_; refine one_ (i := 23) (N := some 93) (bl_ 25 16777215) rfl rfl (one_of HT_.out (by kernel_rfl)) (by decide) (fun K hK => ?_); refine gs_ Try.func59 #[.int .i64 (Int.tmod (wrap64 ((wrap64 ((wrap64 ((Int.tmod (wrap64 (t168 * t168)) a0_0) + a0_1)) * t168)) + a0_2)) a0_0), .int .i64 (wrap64 (Int.tdiv (wrap64 (a0_0 + 1)) 4)), .int .i64 a0_0] ?_
                 with_reducible refine (spec_l2Pow.calls kj65 (Int.tmod (wrap64 ((wrap64 ((wrap64 ((Int.tmod (wrap64 (t168 * t168)) a0_0) + a0_1)) * t168)) + a0_2)) a0_0) (wrap64 (Int.tdiv (wrap64 (a0_0 + 1)) 4)) a0_0 t169 _ A83.out).mono ?_
                 rintro e w' ⟨rfl, ⟨nd, rfl⟩⟩; refine ⟨_, rfl, ?_⟩; refine hK.out _ _ ⟨bc_ BK154 0, bc_ BK154 1, bc_ BK154 2, bc_ BK154 3, bc_ BK154 4, bc_ BK154 5⟩ (fun hHeld => ?_); clear hK K
                 apply norm_
                 · show Act.put _ (some 93) _ = _; simp only [Act.put, sA_, sZ_, sS_, i64_w, i32_w]; rfl
                 refine pu_ 24 9 (bl_ 25 33554431) rfl rfl HT_ ?_; refine done_ (done_of HT_.out (by kernel_rfl)) ?_
                 have p170 : 0 ≤ (0 : Int) := (by omega)
                 have q170 : 0 < (l1.length : Int) := of_decide_eq_true (by first | (with_reducible assumption) | assumption)
                 obtain ⟨ad170, e170, hx170_0⟩ := Kd.at_int HR1.out 0 p170 q170
                 cases e170
                 have qi170 : (0 < l1.length) = True := eq_true (by omega)
                 (try rw [show ((0 : Int)).toNat = 0 from rfl] at hx170_0); (try rw [Addr.add_zero'] at hx170_0); replace hx170_0 := (HB.out.cell (World.block_lt_of_cell? w _ hx170_0)).trans hx170_0; replace p170 := eq_true p170; replace q170 := eq_true q170
                 try go_wp2_with (first | ((with_reducible refine gate_dst (N := 10) rfl ?_); refine box_event ?hg (N := 10) ?hd (cs := #[.int .i64 0, .int .i64 0, .bool false]) (t := 26) ?hr ?_; (case hd => rfl); (case hg => rfl); (case hr => first | (go_simp; done) | (go_simp; rfl)); intro gb171 hg w93 hbox hb; have BK171 := Aside0.mk hbox; have GW171 := ge_ HB hg; have GE171 := ge_ HB hg; have NB154_171 := nl_ BK154 hg; have NB171_154 := nr_ BK154 hg; have NB155_171 := nl_ BK155 hg; have NB171_155 := nr_ BK155 hg; have NB156_171 := nl_ BK156 hg; have NB171_156 := nr_ BK156 hg; replace BK154 := bb_ BK154 hb; replace BK155 := bb_ BK155 hb; replace BK156 := bb_ BK156 hb; replace HB := bs_ HB hb; clear hb hbox hg; obtain ⟨hnb94, hnc94⟩ := nn_ NB171_154; obtain ⟨hnb95, hnc95⟩ := nn_ NB171_155; obtain ⟨hnb96, hnc96⟩ := nn_ NB171_156; obtain ⟨hcz97_0, hcz97_1, hcz97_2, hfz97_0, hfz97_1, hfz97_2⟩ := bx3_ BK171; have hcz98_0 : w93.cell? ⟨gb154, 0, none⟩ = some (.int .i64 a0_0) := bc_ BK154 0; have hcz98_1 : w93.cell? ⟨gb154, 1, none⟩ = some (.int .i64 a0_1) := bc_ BK154 1; have hcz98_2 : w93.cell? ⟨gb154, 2, none⟩ = some (.int .i64 a0_2) := bc_ BK154 2; have hcz98_3 : w93.cell? ⟨gb154, 3, none⟩ = some (.int .i64 a0_3) := bc_ BK154 3; have hcz98_4 : w93.cell? ⟨gb154, 4, none⟩ = some (.int .i64 a0_4) := bc_ BK154 4; have hcz98_5 : w93.cell? ⟨gb154, 5, none⟩ = some (.int .i64 a0_5) := bc_ BK154 5; have hfz98_0 := blk_frozen BK154.out 0; have hfz98_1 := blk_frozen BK154.out 1; have hfz98_2 := blk_frozen BK154.out 2; have hfz98_3 := blk_frozen BK154.out 3; have hfz98_4 := blk_frozen BK154.out 4; have hfz98_5 := blk_frozen BK154.out 5) | ((with_reducible refine gate_callee (f := 30) rfl ?_); refine gl_ 111 rfl rfl Try.func30 #[.agg #[.int .i64 a0_0, .int .i64 a0_1, .int .i64 a0_2, .int .i64 a0_3, .int .i64 a0_4, .int .i64 a0_5], .agg #[.int .i64 t168, .int .i64 t169, .bool false]] rfl ?_; (with_reducible refine (spec_l3On.calls a0_0 a0_1 a0_2 a0_3 a0_4 a0_5 t168 t169 false true _ A86.out).mono ?_); rintro e w99 ⟨rfl, hb⟩; refine ⟨_, rfl, ?_⟩; replace BK154 := bd_ BK154 hb; replace BK155 := bd_ BK155 hb; replace BK156 := bd_ BK156 hb; replace BK171 := be_ #[.int .i64 t168, .int .i64 t169, .bool false] BK171 hb; replace HB := bs_ HB hb; (try clear hb); (try clear hb2); (try clear hk); (try clear hi); have p173 : 0 ≤ (0 : Int) := (by omega); have q173 : 0 < (l1.length : Int) := of_decide_eq_true (by first | (with_reducible assumption) | assumption); obtain ⟨ad173, e173, hx173_0⟩ := Kd.at_int HR1.out 0 p173 q173; obtain rfl : ad170 = ad173 := (by injection e173); have qi173 : (0 < l1.length) = True := eq_true (by omega); (try rw [show ((0 : Int)).toNat = 0 from rfl] at hx173_0); (try rw [Addr.add_zero'] at hx173_0); replace hx173_0 := (HB.out.cell (World.block_lt_of_cell? w _ hx173_0)).trans hx173_0; replace p173 := eq_true p173; replace q173 := eq_true q173; obtain ⟨hcz100_0, hcz100_1, hcz100_2, hfz100_0, hfz100_1, hfz100_2⟩ := bx3_ BK171; obtain ⟨hnb101, hnc101⟩ := nn_ NB155_156; obtain ⟨hcz102_0, hcz102_1, hcz102_2, hfz102_0, hfz102_1, hfz102_2⟩ := bx3_ BK155))
                 refine bodyPost_ret (results_ct rfl _ _ gb155 26 #[.int .i64 t168, .int .i64 t169, .bool false] (0, 0) _ rfl (bq_ BK155) Try.underlying26 rfl (by kernel_rfl)) rfl ?_; exact ⟨by first | rfl | (simp [errW_none, errW_some] <;> rfl) | (simp [*, errW_none, errW_some] <;> rfl), by repeat (first | (with_reducible first | exact HB.out | apply below_alloc | apply pw_below_drewN | apply below_drew1 | refine below_set ?_ GE154.out | refine below_set ?_ GE155.out | refine below_set ?_ GE156.out | refine below_set ?_ GE171.out) | exact HB.out)⟩
                ·
                 replace c87 := Bool.eq_false_iff.mpr c87; subst c87
                 rw [if_neg (show ¬ (false = true) by decide)] at H
                 simp only [Option.some.injEq, Prod.mk.injEq] at H
                 obtain ⟨rfl, rfl, rfl, rfl⟩ := H; obtain ⟨i0103, hi0103, _, hsz103, _⟩ := info_parts info5; obtain ⟨A103, hcut103, hA103, hC103⟩ := print_mid_of (P := Try.prog) (Value.int .u8) 0 34 5 .i64 .i64 Try.underlying34 hi0103 hsz103 A1 c1 l1 1 4 (by omega) (by first | omega | exact of_decide_eq_true (by first | (with_reducible assumption) | assumption)) (of_decide_eq_true (by first | (with_reducible assumption) | assumption)) HC1.out; have HR167 := Aside0.mk (Kd.C_of_reads (h1 := fun _ => rfl) (hA103 _ (Kd.reads_of_C HR1.out))); have HC167 := Aside0.mk hC103; clear hA103 hC103 hi0103 hsz103
                 try go_wp2_with (first | ((with_reducible refine gate_callee (f := 58) rfl ?_); refine goesL_ (some 64) rfl rfl Try.func58 (by kernel_rfl) rfl #[.slice A103 ((l1.take 4).drop 1).length (c1 - 1)] rfl (by (try simp only [List.map_toArray, List.map_cons, List.map_nil]); first | done | (rw [show ((l1.take 4).drop 1).length = (4 - 1) from (by rw [List.length_drop, List.length_take]; have h_ : (4 : Int) ≤ (l1.length : Int) := of_decide_eq_true (by first | (with_reducible assumption) | assumption); omega)] <;> rfl) | rfl | (simp only [List.length_drop, List.length_take]; rfl)) ?_; (with_reducible refine (spec_l3Read.calls _ _ ((l1.take 4).drop 1) t168 _ ?side1 ?side2 A73.out).mono ?_); (case side1 => repeat (first | exact (Kd.C_below HR167.out HB.out) | (with_reducible refine Kd.C_alloc ?_ _) | (with_reducible refine Kd.C_drewN ?_ _) | (with_reducible refine Kd.C_drew ?_))); (case side2 => exact HC167.out); rintro e w' ⟨rfl, ⟨nd, rfl⟩⟩; refine ⟨_, rfl, ?_⟩; (try (rw [drewN_self wc]; generalize hq_ : World.drewN wc _ = wc; have n0_ : Aside0 (wc.heap[gb154]? = some (.cells #[.int .i64 a0_0, .int .i64 a0_1, .int .i64 a0_2, .int .i64 a0_3, .int .i64 a0_4, .int .i64 a0_5] 29 (0, 0))) := ⟨by rw [← hq_]; exact (bk_ BK154)⟩; have n1_ : Aside0 (wc.heap[gb155]? = some (.cells #[.int .i64 0, .int .i64 0, .bool false] 26 (0, 0))) := ⟨by rw [← hq_]; exact (bk_ BK155)⟩; have n2_ : Aside0 (wc.heap[gb156]? = some (.cells #[.int .i64 0, .int .i64 0, .bool false] 26 (0, 0))) := ⟨by rw [← hq_]; exact (bk_ BK156)⟩; have n3_ : Aside0 (Below w.heap.size w wc) := ⟨by rw [← hq_]; exact (bw_ HB)⟩; clear BK154 BK155 BK156 HB hq_; have BK154 := n0_; have BK155 := n1_; have BK156 := n2_; have HB := n3_; clear n0_ n1_ n2_ n3_; obtain ⟨hcy154_0, hcy154_1, hcy154_2, hcy154_3, hcy154_4, hcy154_5⟩ := by6_ BK154; obtain ⟨hcy155_0, hcy155_1, hcy155_2⟩ := by3_ BK155; obtain ⟨hcy156_0, hcy156_1, hcy156_2⟩ := by3_ BK156)); obtain ⟨hnb104, hnc104⟩ := nn_ NB154_155; obtain ⟨hnb105, hnc105⟩ := nn_ NB154_156; obtain ⟨hcz106_0, hcz106_1, hcz106_2, hcz106_3, hcz106_4, hcz106_5, hfz106_0, hfz106_1, hfz106_2, hfz106_3, hfz106_4, hfz106_5⟩ := bx6_ BK154))
                 replace BK154 := Aside0.mk (blk_drew BK154.out); replace BK155 := Aside0.mk (blk_drew BK155.out); replace BK156 := Aside0.mk (blk_drew BK156.out); replace HB := Aside0.mk (below_drew1 HB.out); refine start_ (n := 25) (S := fun w' => w'.cell? ⟨gb154, 0, none⟩ = some (.int .i64 a0_0) ∧ w'.cell? ⟨gb154, 1, none⟩ = some (.int .i64 a0_1) ∧ w'.cell? ⟨gb154, 2, none⟩ = some (.int .i64 a0_2) ∧ w'.cell? ⟨gb154, 3, none⟩ = some (.int .i64 a0_3) ∧ w'.cell? ⟨gb154, 4, none⟩ = some (.int .i64 a0_4) ∧ w'.cell? ⟨gb154, 5, none⟩ = some (.int .i64 a0_5)) (ds := []) (bl_ 25 0) (by kernel_rfl) rfl rfl ⟨bc_ BK154 0, bc_ BK154 1, bc_ BK154 2, bc_ BK154 3, bc_ BK154 4, bc_ BK154 5⟩ (fun hHeld => ?_); refine with_tabW spec_l3Point.tab13 spec_l3Point.bits13 (fun HT_ HW_ => ?_)
                 generalize wc.drew = w107 at BK154 BK155 BK156 HB hHeld ⊢
                 refine pu_ 0 70 (bl_ 25 1) rfl rfl HT_ ?_; refine pu_ 1 71 (bl_ 25 3) rfl rfl HT_ ?_; refine pu_ 2 72 (bl_ 25 7) rfl rfl HT_ ?_; refine pu_ 3 73 (bl_ 25 15) rfl rfl HT_ ?_; refine pu_ 6 76 (bl_ 25 79) rfl rfl HT_ ?_; refine pu_ 9 79 (bl_ 25 591) rfl rfl HT_ ?_; refine pu_ 11 81 (bl_ 25 2639) rfl rfl HT_ ?_; refine pu_ 14 84 (bl_ 25 19023) rfl rfl HT_ ?_; refine pu_ 17 87 (bl_ 25 150095) rfl rfl HT_ ?_; refine pu_ 21 91 (bl_ 25 2247247) rfl rfl HT_ ?_; refine tk_ 4 74 (bl_ 25 2247263) rfl rfl HT_ HW_ hHeld (by rintro w' ⟨s0, s1, s2, s3, s4, s5⟩; go_simp; with_reducible rfl) ?_; refine pu_ 5 75 (bl_ 25 2247295) rfl rfl HT_ ?_; refine tk_ 7 77 (bl_ 25 2247423) rfl rfl HT_ HW_ hHeld (by rintro w' ⟨s0, s1, s2, s3, s4, s5⟩; go_simp; with_reducible rfl) ?_; refine pu_ 8 78 (bl_ 25 2247679) rfl rfl HT_ ?_; refine pu_ 10 80 (bl_ 25 2248703) rfl rfl HT_ ?_; refine tk_ 12 82 (bl_ 25 2252799) rfl rfl HT_ HW_ hHeld (by rintro w' ⟨s0, s1, s2, s3, s4, s5⟩; go_simp; with_reducible rfl) ?_; refine pu_ 13 83 (bl_ 25 2260991) rfl rfl HT_ ?_; refine tk_ 15 85 (bl_ 25 2293759) rfl rfl HT_ HW_ hHeld (by rintro w' ⟨s0, s1, s2, s3, s4, s5⟩; go_simp; with_reducible rfl) ?_; refine pu_ 16 86 (bl_ 25 2359295) rfl rfl HT_ ?_; refine tk_ 18 88 (bl_ 25 2621439) rfl rfl HT_ HW_ hHeld (by rintro w' ⟨s0, s1, s2, s3, s4, s5⟩; go_simp; with_reducible rfl) ?_; refine pu_ 19 89 (bl_ 25 3145727) rfl rfl HT_ ?_; refine pu_ 20 90 (bl_ 25 4194303) rfl rfl HT_ ?_; refine tk_ 22 92 (bl_ 25 8388607) rfl rfl HT_ HW_ hHeld (by rintro w' ⟨s0, s1, s2, s3, s4, s5⟩; go_simp; with_reducible rfl) ?_; refine one_ (i := 23) (N := some 93) (bl_ 25 16777215) rfl rfl (one_of HT_.out (by kernel_rfl)) (by decide) (fun K hK => ?_); refine gs_ Try.func59 #[.int .i64 (Int.tmod (wrap64 ((wrap64 ((wrap64 ((Int.tmod (wrap64 (t168 * t168)) a0_0) + a0_1)) * t168)) + a0_2)) a0_0), .int .i64 (wrap64 (Int.tdiv (wrap64 (a0_0 + 1)) 4)), .int .i64 a0_0] ?_
                 with_reducible refine (spec_l2Pow.calls kj65 (Int.tmod (wrap64 ((wrap64 ((wrap64 ((Int.tmod (wrap64 (t168 * t168)) a0_0) + a0_1)) * t168)) + a0_2)) a0_0) (wrap64 (Int.tdiv (wrap64 (a0_0 + 1)) 4)) a0_0 t169 _ A83.out).mono ?_
                 rintro e w' ⟨rfl, ⟨nd, rfl⟩⟩; refine ⟨_, rfl, ?_⟩; refine hK.out _ _ ⟨bc_ BK154 0, bc_ BK154 1, bc_ BK154 2, bc_ BK154 3, bc_ BK154 4, bc_ BK154 5⟩ (fun hHeld => ?_); clear hK K
                 apply norm_
                 · show Act.put _ (some 93) _ = _; simp only [Act.put, sA_, sZ_, sS_, i64_w, i32_w]; rfl
                 refine pu_ 24 9 (bl_ 25 33554431) rfl rfl HT_ ?_; refine done_ (done_of HT_.out (by kernel_rfl)) ?_
                 have p170 : 0 ≤ (0 : Int) := (by omega)
                 have q170 : 0 < (l1.length : Int) := of_decide_eq_true (by first | (with_reducible assumption) | assumption)
                 obtain ⟨ad170, e170, hx170_0⟩ := Kd.at_int HR1.out 0 p170 q170
                 cases e170
                 have qi170 : (0 < l1.length) = True := eq_true (by omega)
                 (try rw [show ((0 : Int)).toNat = 0 from rfl] at hx170_0); (try rw [Addr.add_zero'] at hx170_0); replace hx170_0 := (HB.out.cell (World.block_lt_of_cell? w _ hx170_0)).trans hx170_0; replace p170 := eq_true p170; replace q170 := eq_true q170
                 try go_wp2_with (first | ((with_reducible refine gate_dst (N := 10) rfl ?_); refine box_event ?hg (N := 10) ?hd (cs := #[.int .i64 0, .int .i64 0, .bool false]) (t := 26) ?hr ?_; (case hd => rfl); (case hg => rfl); (case hr => first | (go_simp; done) | (go_simp; rfl)); intro gb171 hg w108 hbox hb; have BK171 := Aside0.mk hbox; have GW171 := ge_ HB hg; have GE171 := ge_ HB hg; have NB154_171 := nl_ BK154 hg; have NB171_154 := nr_ BK154 hg; have NB155_171 := nl_ BK155 hg; have NB171_155 := nr_ BK155 hg; have NB156_171 := nl_ BK156 hg; have NB171_156 := nr_ BK156 hg; replace BK154 := bb_ BK154 hb; replace BK155 := bb_ BK155 hb; replace BK156 := bb_ BK156 hb; replace HB := bs_ HB hb; clear hb hbox hg; obtain ⟨hnb109, hnc109⟩ := nn_ NB171_154; obtain ⟨hnb110, hnc110⟩ := nn_ NB171_155; obtain ⟨hnb111, hnc111⟩ := nn_ NB171_156; obtain ⟨hcz112_0, hcz112_1, hcz112_2, hfz112_0, hfz112_1, hfz112_2⟩ := bx3_ BK171; have hcz113_0 : w108.cell? ⟨gb154, 0, none⟩ = some (.int .i64 a0_0) := bc_ BK154 0; have hcz113_1 : w108.cell? ⟨gb154, 1, none⟩ = some (.int .i64 a0_1) := bc_ BK154 1; have hcz113_2 : w108.cell? ⟨gb154, 2, none⟩ = some (.int .i64 a0_2) := bc_ BK154 2; have hcz113_3 : w108.cell? ⟨gb154, 3, none⟩ = some (.int .i64 a0_3) := bc_ BK154 3; have hcz113_4 : w108.cell? ⟨gb154, 4, none⟩ = some (.int .i64 a0_4) := bc_ BK154 4; have hcz113_5 : w108.cell? ⟨gb154, 5, none⟩ = some (.int .i64 a0_5) := bc_ BK154 5; have hfz113_0 := blk_frozen BK154.out 0; have hfz113_1 := blk_frozen BK154.out 1; have hfz113_2 := blk_frozen BK154.out 2; have hfz113_3 := blk_frozen BK154.out 3; have hfz113_4 := blk_frozen BK154.out 4; have hfz113_5 := blk_frozen BK154.out 5) | ((with_reducible refine gate_callee (f := 30) rfl ?_); refine gl_ 111 rfl rfl Try.func30 #[.agg #[.int .i64 a0_0, .int .i64 a0_1, .int .i64 a0_2, .int .i64 a0_3, .int .i64 a0_4, .int .i64 a0_5], .agg #[.int .i64 t168, .int .i64 t169, .bool false]] rfl ?_; (with_reducible refine (spec_l3On.calls a0_0 a0_1 a0_2 a0_3 a0_4 a0_5 t168 t169 false false _ A86.out).mono ?_); rintro e w114 ⟨rfl, hb⟩; refine ⟨_, rfl, ?_⟩; replace BK154 := bd_ BK154 hb; replace BK155 := bd_ BK155 hb; replace BK156 := bd_ BK156 hb; replace BK171 := be_ #[.int .i64 t168, .int .i64 t169, .bool false] BK171 hb; replace HB := bs_ HB hb; (try clear hb); (try clear hb2); (try clear hk); (try clear hi); obtain ⟨hnb115, hnc115⟩ := nn_ NB156_155; obtain ⟨hcz116_0, hcz116_1, hcz116_2, hfz116_0, hfz116_1, hfz116_2⟩ := bx3_ BK156; obtain ⟨hcz117_0, hcz117_1, hcz117_2, hfz117_0, hfz117_1, hfz117_2⟩ := bx3_ BK155))
                 refine bodyPost_ret (results_ct rfl _ _ gb155 26 #[.int .i64 0, .int .i64 0, .bool false] (0, 0) _ rfl (bq_ BK155) Try.underlying26 rfl (by kernel_rfl)) rfl ?_; exact ⟨by first | rfl | (simp [errW_none, errW_some] <;> rfl) | (simp [*, errW_none, errW_some] <;> rfl), by repeat (first | (with_reducible first | exact HB.out | apply below_alloc | apply pw_below_drewN | apply below_drew1 | refine below_set ?_ GE154.out | refine below_set ?_ GE155.out | refine below_set ?_ GE156.out | refine below_set ?_ GE171.out) | exact HB.out)⟩
               ·
                rw [if_neg c85] at H
                have c85b0 : ((Int.tmod t169 2) == (wrap64 ((wrap64 (rd l1 0)) - 2))) = false := beq_eq_false_iff_ne.mpr c85
                have c85b1 : ((Int.tmod t169 2) != (wrap64 ((wrap64 (rd l1 0)) - 2))) = true := bne_iff_ne.mpr c85
                obtain ⟨t175, A1180, H⟩ := pb_ H; have A118 := Aside0.mk A1180; clear A1180
                by_cases c119 : t175 = true
                ·
                 subst c119; rw [if_pos rfl] at H
                 by_cases c120 : (Int.tmod (wrap64 (a0_0 - t169)) 2) = (wrap64 ((wrap64 (rd l1 0)) - 2))
                 ·
                  rw [if_pos c120] at H
                  have c120b0 : ((Int.tmod (wrap64 (a0_0 - t169)) 2) == (wrap64 ((wrap64 (rd l1 0)) - 2))) = true := beq_iff_eq.mpr c120
                  have c120b1 : ((Int.tmod (wrap64 (a0_0 - t169)) 2) != (wrap64 ((wrap64 (rd l1 0)) - 2))) = false := bne_eq_false_iff_eq.mpr c120
                  clear c120
                  simp only [Option.some.injEq, Prod.mk.injEq] at H
                  obtain ⟨rfl, rfl, rfl, rfl⟩ := H; obtain ⟨i0121, hi0121, _, hsz121, _⟩ := info_parts info5; obtain ⟨A121, hcut121, hA121, hC121⟩ := print_mid_of (P := Try.prog) (Value.int .u8) 0 34 5 .i64 .i64 Try.underlying34 hi0121 hsz121 A1 c1 l1 1 4 (by omega) (by first | omega | exact of_decide_eq_true (by first | (with_reducible assumption) | assumption)) (of_decide_eq_true (by first | (with_reducible assumption) | assumption)) HC1.out; have HR167 := Aside0.mk (Kd.C_of_reads (h1 := fun _ => rfl) (hA121 _ (Kd.reads_of_C HR1.out))); have HC167 := Aside0.mk hC121; clear hA121 hC121 hi0121 hsz121
                  try go_wp2_with (first | ((with_reducible refine gate_callee (f := 58) rfl ?_); refine goesL_ (some 64) rfl rfl Try.func58 (by kernel_rfl) rfl #[.slice A121 ((l1.take 4).drop 1).length (c1 - 1)] rfl (by (try simp only [List.map_toArray, List.map_cons, List.map_nil]); first | done | (rw [show ((l1.take 4).drop 1).length = (4 - 1) from (by rw [List.length_drop, List.length_take]; have h_ : (4 : Int) ≤ (l1.length : Int) := of_decide_eq_true (by first | (with_reducible assumption) | assumption); omega)] <;> rfl) | rfl | (simp only [List.length_drop, List.length_take]; rfl)) ?_; (with_reducible refine (spec_l3Read.calls _ _ ((l1.take 4).drop 1) t168 _ ?side1 ?side2 A73.out).mono ?_); (case side1 => repeat (first | exact (Kd.C_below HR167.out HB.out) | (with_reducible refine Kd.C_alloc ?_ _) | (with_reducible refine Kd.C_drewN ?_ _) | (with_reducible refine Kd.C_drew ?_))); (case side2 => exact HC167.out); rintro e w' ⟨rfl, ⟨nd, rfl⟩⟩; refine ⟨_, rfl, ?_⟩; (try (rw [drewN_self wc]; generalize hq_ : World.drewN wc _ = wc; have n0_ : Aside0 (wc.heap[gb154]? = some (.cells #[.int .i64 a0_0, .int .i64 a0_1, .int .i64 a0_2, .int .i64 a0_3, .int .i64 a0_4, .int .i64 a0_5] 29 (0, 0))) := ⟨by rw [← hq_]; exact (bk_ BK154)⟩; have n1_ : Aside0 (wc.heap[gb155]? = some (.cells #[.int .i64 0, .int .i64 0, .bool false] 26 (0, 0))) := ⟨by rw [← hq_]; exact (bk_ BK155)⟩; have n2_ : Aside0 (wc.heap[gb156]? = some (.cells #[.int .i64 0, .int .i64 0, .bool false] 26 (0, 0))) := ⟨by rw [← hq_]; exact (bk_ BK156)⟩; have n3_ : Aside0 (Below w.heap.size w wc) := ⟨by rw [← hq_]; exact (bw_ HB)⟩; clear BK154 BK155 BK156 HB hq_; have BK154 := n0_; have BK155 := n1_; have BK156 := n2_; have HB := n3_; clear n0_ n1_ n2_ n3_; obtain ⟨hcy154_0, hcy154_1, hcy154_2, hcy154_3, hcy154_4, hcy154_5⟩ := by6_ BK154; obtain ⟨hcy155_0, hcy155_1, hcy155_2⟩ := by3_ BK155; obtain ⟨hcy156_0, hcy156_1, hcy156_2⟩ := by3_ BK156)); obtain ⟨hnb122, hnc122⟩ := nn_ NB154_155; obtain ⟨hnb123, hnc123⟩ := nn_ NB154_156; obtain ⟨hcz124_0, hcz124_1, hcz124_2, hcz124_3, hcz124_4, hcz124_5, hfz124_0, hfz124_1, hfz124_2, hfz124_3, hfz124_4, hfz124_5⟩ := bx6_ BK154))
                  replace BK154 := Aside0.mk (blk_drew BK154.out); replace BK155 := Aside0.mk (blk_drew BK155.out); replace BK156 := Aside0.mk (blk_drew BK156.out); replace HB := Aside0.mk (below_drew1 HB.out); refine start_ (n := 25) (S := fun w' => w'.cell? ⟨gb154, 0, none⟩ = some (.int .i64 a0_0) ∧ w'.cell? ⟨gb154, 1, none⟩ = some (.int .i64 a0_1) ∧ w'.cell? ⟨gb154, 2, none⟩ = some (.int .i64 a0_2) ∧ w'.cell? ⟨gb154, 3, none⟩ = some (.int .i64 a0_3) ∧ w'.cell? ⟨gb154, 4, none⟩ = some (.int .i64 a0_4) ∧ w'.cell? ⟨gb154, 5, none⟩ = some (.int .i64 a0_5)) (ds := []) (bl_ 25 0) (by kernel_rfl) rfl rfl ⟨bc_ BK154 0, bc_ BK154 1, bc_ BK154 2, bc_ BK154 3, bc_ BK154 4, bc_ BK154 5⟩ (fun hHeld => ?_); refine with_tabW spec_l3Point.tab13 spec_l3Point.bits13 (fun HT_ HW_ => ?_)
                  generalize wc.drew = w125 at BK154 BK155 BK156 HB hHeld ⊢
                  refine pu_ 0 70 (bl_ 25 1) rfl rfl HT_ ?_; refine pu_ 1 71 (bl_ 25 3) rfl rfl HT_ ?_; refine pu_ 2 72 (bl_ 25 7) rfl rfl HT_ ?_; refine pu_ 3 73 (bl_ 25 15) rfl rfl HT_ ?_; refine pu_ 6 76 (bl_ 25 79) rfl rfl HT_ ?_; refine pu_ 9 79 (bl_ 25 591) rfl rfl HT_ ?_; refine pu_ 11 81 (bl_ 25 2639) rfl rfl HT_ ?_; refine pu_ 14 84 (bl_ 25 19023) rfl rfl HT_ ?_; refine pu_ 17 87 (bl_ 25 150095) rfl rfl HT_ ?_; refine pu_ 21 91 (bl_ 25 2247247) rfl rfl HT_ ?_; refine tk_ 4 74 (bl_ 25 2247263) rfl rfl HT_ HW_ hHeld (by rintro w' ⟨s0, s1, s2, s3, s4, s5⟩; go_simp; with_reducible rfl) ?_; refine pu_ 5 75 (bl_ 25 2247295) rfl rfl HT_ ?_; refine tk_ 7 77 (bl_ 25 2247423) rfl rfl HT_ HW_ hHeld (by rintro w' ⟨s0, s1, s2, s3, s4, s5⟩; go_simp; with_reducible rfl) ?_; refine pu_ 8 78 (bl_ 25 2247679) rfl rfl HT_ ?_; refine pu_ 10 80 (bl_ 25 2248703) rfl rfl HT_ ?_; refine tk_ 12 82 (bl_ 25 2252799) rfl rfl HT_ HW_ hHeld (by rintro w' ⟨s0, s1, s2, s3, s4, s5⟩; go_simp; with_reducible rfl) ?_; refine pu_ 13 83 (bl_ 25 2260991) rfl rfl HT_ ?_; refine tk_ 15 85 (bl_ 25 2293759) rfl rfl HT_ HW_ hHeld (by rintro w' ⟨s0, s1, s2, s3, s4, s5⟩; go_simp; with_reducible rfl) ?_; refine pu_ 16 86 (bl_ 25 2359295) rfl rfl HT_ ?_; refine tk_ 18 88 (bl_ 25 2621439) rfl rfl HT_ HW_ hHeld (by rintro w' ⟨s0, s1, s2, s3, s4, s5⟩; go_simp; with_reducible rfl) ?_; refine pu_ 19 89 (bl_ 25 3145727) rfl rfl HT_ ?_; refine pu_ 20 90 (bl_ 25 4194303) rfl rfl HT_ ?_; refine tk_ 22 92 (bl_ 25 8388607) rfl rfl HT_ HW_ hHeld (by rintro w' ⟨s0, s1, s2, s3, s4, s5⟩; go_simp; with_reducible rfl) ?_; refine one_ (i := 23) (N := some 93) (bl_ 25 16777215) rfl rfl (one_of HT_.out (by kernel_rfl)) (by decide) (fun K hK => ?_); refine gs_ Try.func59 #[.int .i64 (Int.tmod (wrap64 ((wrap64 ((wrap64 ((Int.tmod (wrap64 (t168 * t168)) a0_0) + a0_1)) * t168)) + a0_2)) a0_0), .int .i64 (wrap64 (Int.tdiv (wrap64 (a0_0 + 1)) 4)), .int .i64 a0_0] ?_
                  with_reducible refine (spec_l2Pow.calls kj65 (Int.tmod (wrap64 ((wrap64 ((wrap64 ((Int.tmod (wrap64 (t168 * t168)) a0_0) + a0_1)) * t168)) + a0_2)) a0_0) (wrap64 (Int.tdiv (wrap64 (a0_0 + 1)) 4)) a0_0 t169 _ A83.out).mono ?_
                  rintro e w' ⟨rfl, ⟨nd, rfl⟩⟩; refine ⟨_, rfl, ?_⟩; refine hK.out _ _ ⟨bc_ BK154 0, bc_ BK154 1, bc_ BK154 2, bc_ BK154 3, bc_ BK154 4, bc_ BK154 5⟩ (fun hHeld => ?_); clear hK K
                  apply norm_
                  · show Act.put _ (some 93) _ = _; simp only [Act.put, sA_, sZ_, sS_, i64_w, i32_w]; rfl
                  refine pu_ 24 9 (bl_ 25 33554431) rfl rfl HT_ ?_; refine done_ (done_of HT_.out (by kernel_rfl)) ?_
                  have p170 : 0 ≤ (0 : Int) := (by omega)
                  have q170 : 0 < (l1.length : Int) := of_decide_eq_true (by first | (with_reducible assumption) | assumption)
                  obtain ⟨ad170, e170, hx170_0⟩ := Kd.at_int HR1.out 0 p170 q170
                  cases e170
                  have qi170 : (0 < l1.length) = True := eq_true (by omega)
                  (try rw [show ((0 : Int)).toNat = 0 from rfl] at hx170_0); (try rw [Addr.add_zero'] at hx170_0); replace hx170_0 := (HB.out.cell (World.block_lt_of_cell? w _ hx170_0)).trans hx170_0; replace p170 := eq_true p170; replace q170 := eq_true q170
                  obtain ⟨hcz126_0, hcz126_1, hcz126_2, hcz126_3, hcz126_4, hcz126_5, hfz126_0, hfz126_1, hfz126_2, hfz126_3, hfz126_4, hfz126_5⟩ := bx6_ BK154
                  try go_wp2_with (first | ((with_reducible refine gate_dst (N := 10) rfl ?_); refine box_event ?hg (N := 10) ?hd (cs := #[.int .i64 0, .int .i64 0, .bool false]) (t := 26) ?hr ?_; (case hd => rfl); (case hg => rfl); (case hr => first | (go_simp; done) | (go_simp; rfl)); intro gb174 hg w127 hbox hb; have BK174 := Aside0.mk hbox; have GW174 := ge_ HB hg; have GE174 := ge_ HB hg; have NB154_174 := nl_ BK154 hg; have NB174_154 := nr_ BK154 hg; have NB155_174 := nl_ BK155 hg; have NB174_155 := nr_ BK155 hg; have NB156_174 := nl_ BK156 hg; have NB174_156 := nr_ BK156 hg; replace BK154 := bb_ BK154 hb; replace BK155 := bb_ BK155 hb; replace BK156 := bb_ BK156 hb; replace HB := bs_ HB hb; clear hb hbox hg; obtain ⟨hnb128, hnc128⟩ := nn_ NB174_154; obtain ⟨hnb129, hnc129⟩ := nn_ NB174_155; obtain ⟨hnb130, hnc130⟩ := nn_ NB174_156; obtain ⟨hcz131_0, hcz131_1, hcz131_2, hfz131_0, hfz131_1, hfz131_2⟩ := bx3_ BK174; have hcz132_0 : w127.cell? ⟨gb154, 0, none⟩ = some (.int .i64 a0_0) := bc_ BK154 0; have hcz132_1 : w127.cell? ⟨gb154, 1, none⟩ = some (.int .i64 a0_1) := bc_ BK154 1; have hcz132_2 : w127.cell? ⟨gb154, 2, none⟩ = some (.int .i64 a0_2) := bc_ BK154 2; have hcz132_3 : w127.cell? ⟨gb154, 3, none⟩ = some (.int .i64 a0_3) := bc_ BK154 3; have hcz132_4 : w127.cell? ⟨gb154, 4, none⟩ = some (.int .i64 a0_4) := bc_ BK154 4; have hcz132_5 : w127.cell? ⟨gb154, 5, none⟩ = some (.int .i64 a0_5) := bc_ BK154 5; have hfz132_0 := blk_frozen BK154.out 0; have hfz132_1 := blk_frozen BK154.out 1; have hfz132_2 := blk_frozen BK154.out 2; have hfz132_3 := blk_frozen BK154.out 3; have hfz132_4 := blk_frozen BK154.out 4; have hfz132_5 := blk_frozen BK154.out 5) | ((with_reducible refine gate_callee (f := 30) rfl ?_); refine gl_ 111 rfl rfl Try.func30 #[.agg #[.int .i64 a0_0, .int .i64 a0_1, .int .i64 a0_2, .int .i64 a0_3, .int .i64 a0_4, .int .i64 a0_5], .agg #[.int .i64 t168, .int .i64 (wrap64 (a0_0 - t169)), .bool false]] rfl ?_; (with_reducible refine (spec_l3On.calls a0_0 a0_1 a0_2 a0_3 a0_4 a0_5 t168 (wrap64 (a0_0 - t169)) false true _ A118.out).mono ?_); rintro e w133 ⟨rfl, hb⟩; refine ⟨_, rfl, ?_⟩; replace BK154 := bd_ BK154 hb; replace BK155 := bd_ BK155 hb; replace BK156 := bd_ BK156 hb; replace BK174 := be_ #[.int .i64 t168, .int .i64 (wrap64 (a0_0 - t169)), .bool false] BK174 hb; replace HB := bs_ HB hb; (try clear hb); (try clear hb2); (try clear hk); (try clear hi); have p176 : 0 ≤ (0 : Int) := (by omega); have q176 : 0 < (l1.length : Int) := of_decide_eq_true (by first | (with_reducible assumption) | assumption); obtain ⟨ad176, e176, hx176_0⟩ := Kd.at_int HR1.out 0 p176 q176; obtain rfl : ad170 = ad176 := (by injection e176); have qi176 : (0 < l1.length) = True := eq_true (by omega); (try rw [show ((0 : Int)).toNat = 0 from rfl] at hx176_0); (try rw [Addr.add_zero'] at hx176_0); replace hx176_0 := (HB.out.cell (World.block_lt_of_cell? w _ hx176_0)).trans hx176_0; replace p176 := eq_true p176; replace q176 := eq_true q176; have hcz134_0 : w133.cell? ⟨gb174, 0, none⟩ = some (.int .i64 t168) := bc_ BK174 0; have hcz134_1 : w133.cell? ⟨gb174, 1, none⟩ = some (.int .i64 (wrap64 (a0_0 - t169))) := bc_ BK174 1; have hcz134_2 : w133.cell? ⟨gb174, 2, none⟩ = some (.bool false) := bc_ BK174 2; have hfz134_0 := blk_frozen BK174.out 0; have hfz134_1 := blk_frozen BK174.out 1; have hfz134_2 := blk_frozen BK174.out 2; obtain ⟨hnb135, hnc135⟩ := nn_ NB155_156; obtain ⟨hcz136_0, hcz136_1, hcz136_2, hfz136_0, hfz136_1, hfz136_2⟩ := bx3_ BK155))
                  refine bodyPost_ret (results_ct rfl _ _ gb155 26 #[.int .i64 t168, .int .i64 (wrap64 (a0_0 - t169)), .bool false] (0, 0) _ rfl (bq_ BK155) Try.underlying26 rfl (by kernel_rfl)) rfl ?_; exact ⟨by first | rfl | (simp [errW_none, errW_some] <;> rfl) | (simp [*, errW_none, errW_some] <;> rfl), by repeat (first | (with_reducible first | exact HB.out | apply below_alloc | apply pw_below_drewN | apply below_drew1 | refine below_set ?_ GE154.out | refine below_set ?_ GE155.out | refine below_set ?_ GE156.out | refine below_set ?_ GE174.out) | exact HB.out)⟩
                 ·
                  rw [if_neg c120] at H
                  have c120b0 : ((Int.tmod (wrap64 (a0_0 - t169)) 2) == (wrap64 ((wrap64 (rd l1 0)) - 2))) = false := beq_eq_false_iff_ne.mpr c120
                  have c120b1 : ((Int.tmod (wrap64 (a0_0 - t169)) 2) != (wrap64 ((wrap64 (rd l1 0)) - 2))) = true := bne_iff_ne.mpr c120
                  simp only [Option.some.injEq, Prod.mk.injEq] at H
                  obtain ⟨rfl, rfl, rfl, rfl⟩ := H; obtain ⟨i0137, hi0137, _, hsz137, _⟩ := info_parts info5; obtain ⟨A137, hcut137, hA137, hC137⟩ := print_mid_of (P := Try.prog) (Value.int .u8) 0 34 5 .i64 .i64 Try.underlying34 hi0137 hsz137 A1 c1 l1 1 4 (by omega) (by first | omega | exact of_decide_eq_true (by first | (with_reducible assumption) | assumption)) (of_decide_eq_true (by first | (with_reducible assumption) | assumption)) HC1.out; have HR167 := Aside0.mk (Kd.C_of_reads (h1 := fun _ => rfl) (hA137 _ (Kd.reads_of_C HR1.out))); have HC167 := Aside0.mk hC137; clear hA137 hC137 hi0137 hsz137
                  try go_wp2_with (first | ((with_reducible refine gate_callee (f := 58) rfl ?_); refine goesL_ (some 64) rfl rfl Try.func58 (by kernel_rfl) rfl #[.slice A137 ((l1.take 4).drop 1).length (c1 - 1)] rfl (by (try simp only [List.map_toArray, List.map_cons, List.map_nil]); first | done | (rw [show ((l1.take 4).drop 1).length = (4 - 1) from (by rw [List.length_drop, List.length_take]; have h_ : (4 : Int) ≤ (l1.length : Int) := of_decide_eq_true (by first | (with_reducible assumption) | assumption); omega)] <;> rfl) | rfl | (simp only [List.length_drop, List.length_take]; rfl)) ?_; (with_reducible refine (spec_l3Read.calls _ _ ((l1.take 4).drop 1) t168 _ ?side1 ?side2 A73.out).mono ?_); (case side1 => repeat (first | exact (Kd.C_below HR167.out HB.out) | (with_reducible refine Kd.C_alloc ?_ _) | (with_reducible refine Kd.C_drewN ?_ _) | (with_reducible refine Kd.C_drew ?_))); (case side2 => exact HC167.out); rintro e w' ⟨rfl, ⟨nd, rfl⟩⟩; refine ⟨_, rfl, ?_⟩; (try (rw [drewN_self wc]; generalize hq_ : World.drewN wc _ = wc; have n0_ : Aside0 (wc.heap[gb154]? = some (.cells #[.int .i64 a0_0, .int .i64 a0_1, .int .i64 a0_2, .int .i64 a0_3, .int .i64 a0_4, .int .i64 a0_5] 29 (0, 0))) := ⟨by rw [← hq_]; exact (bk_ BK154)⟩; have n1_ : Aside0 (wc.heap[gb155]? = some (.cells #[.int .i64 0, .int .i64 0, .bool false] 26 (0, 0))) := ⟨by rw [← hq_]; exact (bk_ BK155)⟩; have n2_ : Aside0 (wc.heap[gb156]? = some (.cells #[.int .i64 0, .int .i64 0, .bool false] 26 (0, 0))) := ⟨by rw [← hq_]; exact (bk_ BK156)⟩; have n3_ : Aside0 (Below w.heap.size w wc) := ⟨by rw [← hq_]; exact (bw_ HB)⟩; clear BK154 BK155 BK156 HB hq_; have BK154 := n0_; have BK155 := n1_; have BK156 := n2_; have HB := n3_; clear n0_ n1_ n2_ n3_; obtain ⟨hcy154_0, hcy154_1, hcy154_2, hcy154_3, hcy154_4, hcy154_5⟩ := by6_ BK154; obtain ⟨hcy155_0, hcy155_1, hcy155_2⟩ := by3_ BK155; obtain ⟨hcy156_0, hcy156_1, hcy156_2⟩ := by3_ BK156)); obtain ⟨hnb138, hnc138⟩ := nn_ NB154_155; obtain ⟨hnb139, hnc139⟩ := nn_ NB154_156; obtain ⟨hcz140_0, hcz140_1, hcz140_2, hcz140_3, hcz140_4, hcz140_5, hfz140_0, hfz140_1, hfz140_2, hfz140_3, hfz140_4, hfz140_5⟩ := bx6_ BK154))
                  replace BK154 := Aside0.mk (blk_drew BK154.out); replace BK155 := Aside0.mk (blk_drew BK155.out); replace BK156 := Aside0.mk (blk_drew BK156.out); replace HB := Aside0.mk (below_drew1 HB.out); refine start_ (n := 25) (S := fun w' => w'.cell? ⟨gb154, 0, none⟩ = some (.int .i64 a0_0) ∧ w'.cell? ⟨gb154, 1, none⟩ = some (.int .i64 a0_1) ∧ w'.cell? ⟨gb154, 2, none⟩ = some (.int .i64 a0_2) ∧ w'.cell? ⟨gb154, 3, none⟩ = some (.int .i64 a0_3) ∧ w'.cell? ⟨gb154, 4, none⟩ = some (.int .i64 a0_4) ∧ w'.cell? ⟨gb154, 5, none⟩ = some (.int .i64 a0_5)) (ds := []) (bl_ 25 0) (by kernel_rfl) rfl rfl ⟨bc_ BK154 0, bc_ BK154 1, bc_ BK154 2, bc_ BK154 3, bc_ BK154 4, bc_ BK154 5⟩ (fun hHeld => ?_); refine with_tabW spec_l3Point.tab13 spec_l3Point.bits13 (fun HT_ HW_ => ?_)
                  generalize wc.drew = w141 at BK154 BK155 BK156 HB hHeld ⊢
                  refine pu_ 0 70 (bl_ 25 1) rfl rfl HT_ ?_; refine pu_ 1 71 (bl_ 25 3) rfl rfl HT_ ?_; refine pu_ 2 72 (bl_ 25 7) rfl rfl HT_ ?_; refine pu_ 3 73 (bl_ 25 15) rfl rfl HT_ ?_; refine pu_ 6 76 (bl_ 25 79) rfl rfl HT_ ?_; refine pu_ 9 79 (bl_ 25 591) rfl rfl HT_ ?_; refine pu_ 11 81 (bl_ 25 2639) rfl rfl HT_ ?_; refine pu_ 14 84 (bl_ 25 19023) rfl rfl HT_ ?_; refine pu_ 17 87 (bl_ 25 150095) rfl rfl HT_ ?_; refine pu_ 21 91 (bl_ 25 2247247) rfl rfl HT_ ?_; refine tk_ 4 74 (bl_ 25 2247263) rfl rfl HT_ HW_ hHeld (by rintro w' ⟨s0, s1, s2, s3, s4, s5⟩; go_simp; with_reducible rfl) ?_; refine pu_ 5 75 (bl_ 25 2247295) rfl rfl HT_ ?_; refine tk_ 7 77 (bl_ 25 2247423) rfl rfl HT_ HW_ hHeld (by rintro w' ⟨s0, s1, s2, s3, s4, s5⟩; go_simp; with_reducible rfl) ?_; refine pu_ 8 78 (bl_ 25 2247679) rfl rfl HT_ ?_; refine pu_ 10 80 (bl_ 25 2248703) rfl rfl HT_ ?_; refine tk_ 12 82 (bl_ 25 2252799) rfl rfl HT_ HW_ hHeld (by rintro w' ⟨s0, s1, s2, s3, s4, s5⟩; go_simp; with_reducible rfl) ?_; refine pu_ 13 83 (bl_ 25 2260991) rfl rfl HT_ ?_; refine tk_ 15 85 (bl_ 25 2293759) rfl rfl HT_ HW_ hHeld (by rintro w' ⟨s0, s1, s2, s3, s4, s5⟩; go_simp; with_reducible rfl) ?_; refine pu_ 16 86 (bl_ 25 2359295) rfl rfl HT_ ?_; refine tk_ 18 88 (bl_ 25 2621439) rfl rfl HT_ HW_ hHeld (by rintro w' ⟨s0, s1, s2, s3, s4, s5⟩; go_simp; with_reducible rfl) ?_; refine pu_ 19 89 (bl_ 25 3145727) rfl rfl HT_ ?_; refine pu_ 20 90 (bl_ 25 4194303) rfl rfl HT_ ?_; refine tk_ 22 92 (bl_ 25 8388607) rfl rfl HT_ HW_ hHeld (by rintro w' ⟨s0, s1, s2, s3, s4, s5⟩; go_simp; with_reducible rfl) ?_; refine one_ (i := 23) (N := some 93) (bl_ 25 16777215) rfl rfl (one_of HT_.out (by kernel_rfl)) (by decide) (fun K hK => ?_); refine gs_ Try.func59 #[.int .i64 (Int.tmod (wrap64 ((wrap64 ((wrap64 ((Int.tmod (wrap64 (t168 * t168)) a0_0) + a0_1)) * t168)) + a0_2)) a0_0), .int .i64 (wrap64 (Int.tdiv (wrap64 (a0_0 + 1)) 4)), .int .i64 a0_0] ?_
                  with_reducible refine (spec_l2Pow.calls kj65 (Int.tmod (wrap64 ((wrap64 ((wrap64 ((Int.tmod (wrap64 (t168 * t168)) a0_0) + a0_1)) * t168)) + a0_2)) a0_0) (wrap64 (Int.tdiv (wrap64 (a0_0 + 1)) 4)) a0_0 t169 _ A83.out).mono ?_
                  rintro e w' ⟨rfl, ⟨nd, rfl⟩⟩; refine ⟨_, rfl, ?_⟩; refine hK.out _ _ ⟨bc_ BK154 0, bc_ BK154 1, bc_ BK154 2, bc_ BK154 3, bc_ BK154 4, bc_ BK154 5⟩ (fun hHeld => ?_); clear hK K
                  apply norm_
                  · show Act.put _ (some 93) _ = _; simp only [Act.put, sA_, sZ_, sS_, i64_w, i32_w]; rfl
                  refine pu_ 24 9 (bl_ 25 33554431) rfl rfl HT_ ?_; refine done_ (done_of HT_.out (by kernel_rfl)) ?_
                  have p170 : 0 ≤ (0 : Int) := (by omega)
                  have q170 : 0 < (l1.length : Int) := of_decide_eq_true (by first | (with_reducible assumption) | assumption)
                  obtain ⟨ad170, e170, hx170_0⟩ := Kd.at_int HR1.out 0 p170 q170
                  cases e170
                  have qi170 : (0 < l1.length) = True := eq_true (by omega)
                  (try rw [show ((0 : Int)).toNat = 0 from rfl] at hx170_0); (try rw [Addr.add_zero'] at hx170_0); replace hx170_0 := (HB.out.cell (World.block_lt_of_cell? w _ hx170_0)).trans hx170_0; replace p170 := eq_true p170; replace q170 := eq_true q170
                  obtain ⟨hcz142_0, hcz142_1, hcz142_2, hcz142_3, hcz142_4, hcz142_5, hfz142_0, hfz142_1, hfz142_2, hfz142_3, hfz142_4, hfz142_5⟩ := bx6_ BK154
                  try go_wp2_with (first | ((with_reducible refine gate_dst (N := 10) rfl ?_); refine box_event ?hg (N := 10) ?hd (cs := #[.int .i64 0, .int .i64 0, .bool false]) (t := 26) ?hr ?_; (case hd => rfl); (case hg => rfl); (case hr => first | (go_simp; done) | (go_simp; rfl)); intro gb174 hg w143 hbox hb; have BK174 := Aside0.mk hbox; have GW174 := ge_ HB hg; have GE174 := ge_ HB hg; have NB154_174 := nl_ BK154 hg; have NB174_154 := nr_ BK154 hg; have NB155_174 := nl_ BK155 hg; have NB174_155 := nr_ BK155 hg; have NB156_174 := nl_ BK156 hg; have NB174_156 := nr_ BK156 hg; replace BK154 := bb_ BK154 hb; replace BK155 := bb_ BK155 hb; replace BK156 := bb_ BK156 hb; replace HB := bs_ HB hb; clear hb hbox hg; obtain ⟨hnb144, hnc144⟩ := nn_ NB174_154; obtain ⟨hnb145, hnc145⟩ := nn_ NB174_155; obtain ⟨hnb146, hnc146⟩ := nn_ NB174_156; obtain ⟨hcz147_0, hcz147_1, hcz147_2, hfz147_0, hfz147_1, hfz147_2⟩ := bx3_ BK174; have hcz148_0 : w143.cell? ⟨gb154, 0, none⟩ = some (.int .i64 a0_0) := bc_ BK154 0; have hcz148_1 : w143.cell? ⟨gb154, 1, none⟩ = some (.int .i64 a0_1) := bc_ BK154 1; have hcz148_2 : w143.cell? ⟨gb154, 2, none⟩ = some (.int .i64 a0_2) := bc_ BK154 2; have hcz148_3 : w143.cell? ⟨gb154, 3, none⟩ = some (.int .i64 a0_3) := bc_ BK154 3; have hcz148_4 : w143.cell? ⟨gb154, 4, none⟩ = some (.int .i64 a0_4) := bc_ BK154 4; have hcz148_5 : w143.cell? ⟨gb154, 5, none⟩ = some (.int .i64 a0_5) := bc_ BK154 5; have hfz148_0 := blk_frozen BK154.out 0; have hfz148_1 := blk_frozen BK154.out 1; have hfz148_2 := blk_frozen BK154.out 2; have hfz148_3 := blk_frozen BK154.out 3; have hfz148_4 := blk_frozen BK154.out 4; have hfz148_5 := blk_frozen BK154.out 5) | ((with_reducible refine gate_callee (f := 30) rfl ?_); refine gl_ 111 rfl rfl Try.func30 #[.agg #[.int .i64 a0_0, .int .i64 a0_1, .int .i64 a0_2, .int .i64 a0_3, .int .i64 a0_4, .int .i64 a0_5], .agg #[.int .i64 t168, .int .i64 (wrap64 (a0_0 - t169)), .bool false]] rfl ?_; (with_reducible refine (spec_l3On.calls a0_0 a0_1 a0_2 a0_3 a0_4 a0_5 t168 (wrap64 (a0_0 - t169)) false true _ A118.out).mono ?_); rintro e w149 ⟨rfl, hb⟩; refine ⟨_, rfl, ?_⟩; replace BK154 := bd_ BK154 hb; replace BK155 := bd_ BK155 hb; replace BK156 := bd_ BK156 hb; replace BK174 := be_ #[.int .i64 t168, .int .i64 (wrap64 (a0_0 - t169)), .bool false] BK174 hb; replace HB := bs_ HB hb; (try clear hb); (try clear hb2); (try clear hk); (try clear hi); have p176 : 0 ≤ (0 : Int) := (by omega); have q176 : 0 < (l1.length : Int) := of_decide_eq_true (by first | (with_reducible assumption) | assumption); obtain ⟨ad176, e176, hx176_0⟩ := Kd.at_int HR1.out 0 p176 q176; obtain rfl : ad170 = ad176 := (by injection e176); have qi176 : (0 < l1.length) = True := eq_true (by omega); (try rw [show ((0 : Int)).toNat = 0 from rfl] at hx176_0); (try rw [Addr.add_zero'] at hx176_0); replace hx176_0 := (HB.out.cell (World.block_lt_of_cell? w _ hx176_0)).trans hx176_0; replace p176 := eq_true p176; replace q176 := eq_true q176; obtain ⟨hnb150, hnc150⟩ := nn_ NB156_155; obtain ⟨hcz151_0, hcz151_1, hcz151_2, hfz151_0, hfz151_1, hfz151_2⟩ := bx3_ BK156; obtain ⟨hcz152_0, hcz152_1, hcz152_2, hfz152_0, hfz152_1, hfz152_2⟩ := bx3_ BK155))
                  refine bodyPost_ret (results_ct rfl _ _ gb155 26 #[.int .i64 0, .int .i64 0, .bool false] (0, 0) _ rfl (bq_ BK155) Try.underlying26 rfl (by kernel_rfl)) rfl ?_; exact ⟨by first | rfl | (simp [errW_none, errW_some] <;> rfl) | (simp [*, errW_none, errW_some] <;> rfl), by repeat (first | (with_reducible first | exact HB.out | apply below_alloc | apply pw_below_drewN | apply below_drew1 | refine below_set ?_ GE154.out | refine below_set ?_ GE155.out | refine below_set ?_ GE156.out | refine below_set ?_ GE174.out) | exact HB.out)⟩
                ·
                 replace c119 := Bool.eq_false_iff.mpr c119; subst c119
                 rw [if_neg (show ¬ (false = true) by decide)] at H
                 simp only [Option.some.injEq, Prod.mk.injEq] at H
                 obtain ⟨rfl, rfl, rfl, rfl⟩ := H; obtain ⟨i0153, hi0153, _, hsz153, _⟩ := info_parts info5; obtain ⟨A153, hcut153, hA153, hC153⟩ := print_mid_of (P := Try.prog) (Value.int .u8) 0 34 5 .i64 .i64 Try.underlying34 hi0153 hsz153 A1 c1 l1 1 4 (by omega) (by first | omega | exact of_decide_eq_true (by first | (with_reducible assumption) | assumption)) (of_decide_eq_true (by first | (with_reducible assumption) | assumption)) HC1.out; have HR167 := Aside0.mk (Kd.C_of_reads (h1 := fun _ => rfl) (hA153 _ (Kd.reads_of_C HR1.out))); have HC167 := Aside0.mk hC153; clear hA153 hC153 hi0153 hsz153
                 try go_wp2_with (first | ((with_reducible refine gate_callee (f := 58) rfl ?_); refine goesL_ (some 64) rfl rfl Try.func58 (by kernel_rfl) rfl #[.slice A153 ((l1.take 4).drop 1).length (c1 - 1)] rfl (by (try simp only [List.map_toArray, List.map_cons, List.map_nil]); first | done | (rw [show ((l1.take 4).drop 1).length = (4 - 1) from (by rw [List.length_drop, List.length_take]; have h_ : (4 : Int) ≤ (l1.length : Int) := of_decide_eq_true (by first | (with_reducible assumption) | assumption); omega)] <;> rfl) | rfl | (simp only [List.length_drop, List.length_take]; rfl)) ?_; (with_reducible refine (spec_l3Read.calls _ _ ((l1.take 4).drop 1) t168 _ ?side1 ?side2 A73.out).mono ?_); (case side1 => repeat (first | exact (Kd.C_below HR167.out HB.out) | (with_reducible refine Kd.C_alloc ?_ _) | (with_reducible refine Kd.C_drewN ?_ _) | (with_reducible refine Kd.C_drew ?_))); (case side2 => exact HC167.out); rintro e w' ⟨rfl, ⟨nd, rfl⟩⟩; refine ⟨_, rfl, ?_⟩; (try (rw [drewN_self wc]; generalize hq_ : World.drewN wc _ = wc; have n0_ : Aside0 (wc.heap[gb154]? = some (.cells #[.int .i64 a0_0, .int .i64 a0_1, .int .i64 a0_2, .int .i64 a0_3, .int .i64 a0_4, .int .i64 a0_5] 29 (0, 0))) := ⟨by rw [← hq_]; exact (bk_ BK154)⟩; have n1_ : Aside0 (wc.heap[gb155]? = some (.cells #[.int .i64 0, .int .i64 0, .bool false] 26 (0, 0))) := ⟨by rw [← hq_]; exact (bk_ BK155)⟩; have n2_ : Aside0 (wc.heap[gb156]? = some (.cells #[.int .i64 0, .int .i64 0, .bool false] 26 (0, 0))) := ⟨by rw [← hq_]; exact (bk_ BK156)⟩; have n3_ : Aside0 (Below w.heap.size w wc) := ⟨by rw [← hq_]; exact (bw_ HB)⟩; clear BK154 BK155 BK156 HB hq_; have BK154 := n0_; have BK155 := n1_; have BK156 := n2_; have HB := n3_; clear n0_ n1_ n2_ n3_; obtain ⟨hcy154_0, hcy154_1, hcy154_2, hcy154_3, hcy154_4, hcy154_5⟩ := by6_ BK154; obtain ⟨hcy155_0, hcy155_1, hcy155_2⟩ := by3_ BK155; obtain ⟨hcy156_0, hcy156_1, hcy156_2⟩ := by3_ BK156)); obtain ⟨hnb154, hnc154⟩ := nn_ NB154_155; obtain ⟨hnb155, hnc155⟩ := nn_ NB154_156; obtain ⟨hcz156_0, hcz156_1, hcz156_2, hcz156_3, hcz156_4, hcz156_5, hfz156_0, hfz156_1, hfz156_2, hfz156_3, hfz156_4, hfz156_5⟩ := bx6_ BK154))
                 replace BK154 := Aside0.mk (blk_drew BK154.out); replace BK155 := Aside0.mk (blk_drew BK155.out); replace BK156 := Aside0.mk (blk_drew BK156.out); replace HB := Aside0.mk (below_drew1 HB.out); refine start_ (n := 25) (S := fun w' => w'.cell? ⟨gb154, 0, none⟩ = some (.int .i64 a0_0) ∧ w'.cell? ⟨gb154, 1, none⟩ = some (.int .i64 a0_1) ∧ w'.cell? ⟨gb154, 2, none⟩ = some (.int .i64 a0_2) ∧ w'.cell? ⟨gb154, 3, none⟩ = some (.int .i64 a0_3) ∧ w'.cell? ⟨gb154, 4, none⟩ = some (.int .i64 a0_4) ∧ w'.cell? ⟨gb154, 5, none⟩ = some (.int .i64 a0_5)) (ds := []) (bl_ 25 0) (by kernel_rfl) rfl rfl ⟨bc_ BK154 0, bc_ BK154 1, bc_ BK154 2, bc_ BK154 3, bc_ BK154 4, bc_ BK154 5⟩ (fun hHeld => ?_); refine with_tabW spec_l3Point.tab13 spec_l3Point.bits13 (fun HT_ HW_ => ?_)
                 generalize wc.drew = w157 at BK154 BK155 BK156 HB hHeld ⊢
                 refine pu_ 0 70 (bl_ 25 1) rfl rfl HT_ ?_; refine pu_ 1 71 (bl_ 25 3) rfl rfl HT_ ?_; refine pu_ 2 72 (bl_ 25 7) rfl rfl HT_ ?_; refine pu_ 3 73 (bl_ 25 15) rfl rfl HT_ ?_; refine pu_ 6 76 (bl_ 25 79) rfl rfl HT_ ?_; refine pu_ 9 79 (bl_ 25 591) rfl rfl HT_ ?_; refine pu_ 11 81 (bl_ 25 2639) rfl rfl HT_ ?_; refine pu_ 14 84 (bl_ 25 19023) rfl rfl HT_ ?_; refine pu_ 17 87 (bl_ 25 150095) rfl rfl HT_ ?_; refine pu_ 21 91 (bl_ 25 2247247) rfl rfl HT_ ?_; refine tk_ 4 74 (bl_ 25 2247263) rfl rfl HT_ HW_ hHeld (by rintro w' ⟨s0, s1, s2, s3, s4, s5⟩; go_simp; with_reducible rfl) ?_; refine pu_ 5 75 (bl_ 25 2247295) rfl rfl HT_ ?_; refine tk_ 7 77 (bl_ 25 2247423) rfl rfl HT_ HW_ hHeld (by rintro w' ⟨s0, s1, s2, s3, s4, s5⟩; go_simp; with_reducible rfl) ?_; refine pu_ 8 78 (bl_ 25 2247679) rfl rfl HT_ ?_; refine pu_ 10 80 (bl_ 25 2248703) rfl rfl HT_ ?_; refine tk_ 12 82 (bl_ 25 2252799) rfl rfl HT_ HW_ hHeld (by rintro w' ⟨s0, s1, s2, s3, s4, s5⟩; go_simp; with_reducible rfl) ?_; refine pu_ 13 83 (bl_ 25 2260991) rfl rfl HT_ ?_; refine tk_ 15 85 (bl_ 25 2293759) rfl rfl HT_ HW_ hHeld (by rintro w' ⟨s0, s1, s2, s3, s4, s5⟩; go_simp; with_reducible rfl) ?_; refine pu_ 16 86 (bl_ 25 2359295) rfl rfl HT_ ?_; refine tk_ 18 88 (bl_ 25 2621439) rfl rfl HT_ HW_ hHeld (by rintro w' ⟨s0, s1, s2, s3, s4, s5⟩; go_simp; with_reducible rfl) ?_; refine pu_ 19 89 (bl_ 25 3145727) rfl rfl HT_ ?_; refine pu_ 20 90 (bl_ 25 4194303) rfl rfl HT_ ?_; refine tk_ 22 92 (bl_ 25 8388607) rfl rfl HT_ HW_ hHeld (by rintro w' ⟨s0, s1, s2, s3, s4, s5⟩; go_simp; with_reducible rfl) ?_; refine one_ (i := 23) (N := some 93) (bl_ 25 16777215) rfl rfl (one_of HT_.out (by kernel_rfl)) (by decide) (fun K hK => ?_); refine gs_ Try.func59 #[.int .i64 (Int.tmod (wrap64 ((wrap64 ((wrap64 ((Int.tmod (wrap64 (t168 * t168)) a0_0) + a0_1)) * t168)) + a0_2)) a0_0), .int .i64 (wrap64 (Int.tdiv (wrap64 (a0_0 + 1)) 4)), .int .i64 a0_0] ?_
                 with_reducible refine (spec_l2Pow.calls kj65 (Int.tmod (wrap64 ((wrap64 ((wrap64 ((Int.tmod (wrap64 (t168 * t168)) a0_0) + a0_1)) * t168)) + a0_2)) a0_0) (wrap64 (Int.tdiv (wrap64 (a0_0 + 1)) 4)) a0_0 t169 _ A83.out).mono ?_
                 rintro e w' ⟨rfl, ⟨nd, rfl⟩⟩; refine ⟨_, rfl, ?_⟩; refine hK.out _ _ ⟨bc_ BK154 0, bc_ BK154 1, bc_ BK154 2, bc_ BK154 3, bc_ BK154 4, bc_ BK154 5⟩ (fun hHeld => ?_); clear hK K
                 apply norm_
                 · show Act.put _ (some 93) _ = _; simp only [Act.put, sA_, sZ_, sS_, i64_w, i32_w]; rfl
                 refine pu_ 24 9 (bl_ 25 33554431) rfl rfl HT_ ?_; refine done_ (done_of HT_.out (by kernel_rfl)) ?_
                 have p170 : 0 ≤ (0 : Int) := (by omega)
                 have q170 : 0 < (l1.length : Int) := of_decide_eq_true (by first | (with_reducible assumption) | assumption)
                 obtain ⟨ad170, e170, hx170_0⟩ := Kd.at_int HR1.out 0 p170 q170
                 cases e170
                 have qi170 : (0 < l1.length) = True := eq_true (by omega)
                 (try rw [show ((0 : Int)).toNat = 0 from rfl] at hx170_0); (try rw [Addr.add_zero'] at hx170_0); replace hx170_0 := (HB.out.cell (World.block_lt_of_cell? w _ hx170_0)).trans hx170_0; replace p170 := eq_true p170; replace q170 := eq_true q170
                 obtain ⟨hcz158_0, hcz158_1, hcz158_2, hcz158_3, hcz158_4, hcz158_5, hfz158_0, hfz158_1, hfz158_2, hfz158_3, hfz158_4, hfz158_5⟩ := bx6_ BK154
                 try go_wp2_with (first | ((with_reducible refine gate_dst (N := 10) rfl ?_); refine box_event ?hg (N := 10) ?hd (cs := #[.int .i64 0, .int .i64 0, .bool false]) (t := 26) ?hr ?_; (case hd => rfl); (case hg => rfl); (case hr => first | (go_simp; done) | (go_simp; rfl)); intro gb174 hg w159 hbox hb; have BK174 := Aside0.mk hbox; have GW174 := ge_ HB hg; have GE174 := ge_ HB hg; have NB154_174 := nl_ BK154 hg; have NB174_154 := nr_ BK154 hg; have NB155_174 := nl_ BK155 hg; have NB174_155 := nr_ BK155 hg; have NB156_174 := nl_ BK156 hg; have NB174_156 := nr_ BK156 hg; replace BK154 := bb_ BK154 hb; replace BK155 := bb_ BK155 hb; replace BK156 := bb_ BK156 hb; replace HB := bs_ HB hb; clear hb hbox hg; obtain ⟨hnb160, hnc160⟩ := nn_ NB174_154; obtain ⟨hnb161, hnc161⟩ := nn_ NB174_155; obtain ⟨hnb162, hnc162⟩ := nn_ NB174_156; obtain ⟨hcz163_0, hcz163_1, hcz163_2, hfz163_0, hfz163_1, hfz163_2⟩ := bx3_ BK174; have hcz164_0 : w159.cell? ⟨gb154, 0, none⟩ = some (.int .i64 a0_0) := bc_ BK154 0; have hcz164_1 : w159.cell? ⟨gb154, 1, none⟩ = some (.int .i64 a0_1) := bc_ BK154 1; have hcz164_2 : w159.cell? ⟨gb154, 2, none⟩ = some (.int .i64 a0_2) := bc_ BK154 2; have hcz164_3 : w159.cell? ⟨gb154, 3, none⟩ = some (.int .i64 a0_3) := bc_ BK154 3; have hcz164_4 : w159.cell? ⟨gb154, 4, none⟩ = some (.int .i64 a0_4) := bc_ BK154 4; have hcz164_5 : w159.cell? ⟨gb154, 5, none⟩ = some (.int .i64 a0_5) := bc_ BK154 5; have hfz164_0 := blk_frozen BK154.out 0; have hfz164_1 := blk_frozen BK154.out 1; have hfz164_2 := blk_frozen BK154.out 2; have hfz164_3 := blk_frozen BK154.out 3; have hfz164_4 := blk_frozen BK154.out 4; have hfz164_5 := blk_frozen BK154.out 5) | ((with_reducible refine gate_callee (f := 30) rfl ?_); refine gl_ 111 rfl rfl Try.func30 #[.agg #[.int .i64 a0_0, .int .i64 a0_1, .int .i64 a0_2, .int .i64 a0_3, .int .i64 a0_4, .int .i64 a0_5], .agg #[.int .i64 t168, .int .i64 (wrap64 (a0_0 - t169)), .bool false]] rfl ?_; (with_reducible refine (spec_l3On.calls a0_0 a0_1 a0_2 a0_3 a0_4 a0_5 t168 (wrap64 (a0_0 - t169)) false false _ A118.out).mono ?_); rintro e w165 ⟨rfl, hb⟩; refine ⟨_, rfl, ?_⟩; replace BK154 := bd_ BK154 hb; replace BK155 := bd_ BK155 hb; replace BK156 := bd_ BK156 hb; replace BK174 := be_ #[.int .i64 t168, .int .i64 (wrap64 (a0_0 - t169)), .bool false] BK174 hb; replace HB := bs_ HB hb; (try clear hb); (try clear hb2); (try clear hk); (try clear hi); obtain ⟨hnb166, hnc166⟩ := nn_ NB156_155; obtain ⟨hcz167_0, hcz167_1, hcz167_2, hfz167_0, hfz167_1, hfz167_2⟩ := bx3_ BK156; obtain ⟨hcz168_0, hcz168_1, hcz168_2, hfz168_0, hfz168_1, hfz168_2⟩ := bx3_ BK155))
                 refine bodyPost_ret (results_ct rfl _ _ gb155 26 #[.int .i64 0, .int .i64 0, .bool false] (0, 0) _ rfl (bq_ BK155) Try.underlying26 rfl (by kernel_rfl)) rfl ?_; exact ⟨by first | rfl | (simp [errW_none, errW_some] <;> rfl) | (simp [*, errW_none, errW_some] <;> rfl), by repeat (first | (with_reducible first | exact HB.out | apply below_alloc | apply pw_below_drewN | apply below_drew1 | refine below_set ?_ GE154.out | refine below_set ?_ GE155.out | refine below_set ?_ GE156.out | refine below_set ?_ GE174.out) | exact HB.out)⟩
              · rw [if_neg c84] at H; exact absurd H (by simp)
           · rw [if_neg c72] at H; exact absurd H (by simp)
          · rw [if_neg c71] at H; exact absurd H (by simp)
         ·
          replace c70 := Bool.eq_false_iff.mpr c70; subst c70
          rw [if_neg (show ¬ (false = true) by decide)] at H
          simp only [Option.some.injEq, Prod.mk.injEq] at H
          obtain ⟨rfl, rfl, rfl, rfl⟩ := H; obtain ⟨hnb169, hnc169⟩ := nn_ NB156_154; obtain ⟨hnb170, hnc170⟩ := nn_ NB156_155
          obtain ⟨hcz171_0, hcz171_1, hcz171_2, hfz171_0, hfz171_1, hfz171_2⟩ := bx3_ BK156; obtain ⟨hnb172, hnc172⟩ := nn_ NB155_154
          obtain ⟨hcz173_0, hcz173_1, hcz173_2, hfz173_0, hfz173_1, hfz173_2⟩ := bx3_ BK155
          go_wp2
          refine bodyPost_ret (results_ct rfl _ _ gb155 26 #[.int .i64 0, .int .i64 0, .bool false] (0, 0) _ rfl (bq_ BK155) Try.underlying26 rfl (by kernel_rfl)) rfl ?_; exact ⟨by first | rfl | (simp [errW_none, errW_some] <;> rfl) | (simp [*, errW_none, errW_some] <;> rfl), by repeat (first | (with_reducible first | exact HB.out | apply below_alloc | apply pw_below_drewN | apply below_drew1 | refine below_set ?_ GE154.out | refine below_set ?_ GE155.out | refine below_set ?_ GE156.out) | exact HB.out)⟩

attribute [local go_sem] fld_
/-! ### spec_PointRead: function 18 -/
def spec_PointRead.f (k : Nat) (a0_0 : Int) (a0_1 : Int) (a0_2 : Int) (a0_3 : Int) (a0_4 : Int) (a0_5 : Int) (l1 : List Int) : Option (Int × Int × Bool × Bool) := (spec_CurveOk.f k a0_0 a0_1 a0_2 a0_3 a0_4 a0_5).bind fun t179 => (if t179 = true then ((spec_l3Point.f k a0_0 a0_1 a0_2 a0_3 a0_4 a0_5 l1).bind fun bt180 => (some (bt180.1, bt180.2.1, bt180.2.2.1, bt180.2.2.2))) else (some (0, 0, false, false)))
theorem spec_PointRead.mono : ∀ a0 a1 a2 a3 a4 a5 a6 k, LeO (spec_PointRead.f k a0 a1 a2 a3 a4 a5 a6) (spec_PointRead.f (k + 1) a0 a1 a2 a3 a4 a5 a6) := by
 intro a0 a1 a2 a3 a4 a5 a6 k
 unfold spec_PointRead.f
 repeat' first
   | (with_reducible exact spec_CurveOk.mono _ _ _ _ _ _ _)
   | (with_reducible exact spec_l3Point.mono _ _ _ _ _ _ _ _)
   | (with_reducible exact LeO.refl _)
   | (with_reducible exact LeO.none _)
   | (with_reducible refine LeO.ite ?_ ?_)
   | (with_reducible refine LeO.bind ?_ (fun _ => ?_))
   | exact spec_CurveOk.mono _ _ _ _ _ _ _
   | exact spec_l3Point.mono _ _ _ _ _ _ _ _
   | exact LeO.none _
   | refine LeO.ite ?_ ?_
   | refine LeO.bind ?_ (fun _ => ?_)
set_option maxHeartbeats 8000000 in
set_option maxRecDepth 100000 in
theorem spec_PointRead.calls (k : Nat) (a0_0 : Int) (a0_1 : Int) (a0_2 : Int) (a0_3 : Int) (a0_4 : Int) (a0_5 : Int) (A1 : Option Addr) (c1 : Nat) (l1 : List Int) (r1 : Int) (r2 : Int) (r3 : Bool) (r4 : Bool) (w : World) (hr1 : Kd.C (Kd.int .u8) w A1 l1.length l1) (hc1 : l1.length ≤ c1) (h : spec_PointRead.f k a0_0 a0_1 a0_2 a0_3 a0_4 a0_5 l1 = some (r1, r2, r3, r4)) :
  Calls Try.prog 18 #[.agg #[.int .i64 a0_0, .int .i64 a0_1, .int .i64 a0_2, .int .i64 a0_3, .int .i64 a0_4, .int .i64 a0_5], .slice A1 l1.length c1] w fun e w' => e = .returned (.tuple #[.agg #[.int .i64 r1, .int .i64 r2, .bool r3], .bool r4]) ∧ Below w.heap.size w w' := by
 have hu29 := Try.underlying29; have hu26 := Try.underlying26; have HR1 := Aside0.mk hr1; have HC1 := Aside0.mk hc1; clear hr1 hc1; have HB := Aside0.mk (Below.refl w.heap.size w)
 have H : ((spec_CurveOk.f k a0_0 a0_1 a0_2 a0_3 a0_4 a0_5).bind fun t179 => (if t179 = true then ((spec_l3Point.f k a0_0 a0_1 a0_2 a0_3 a0_4 a0_5 l1).bind fun bt180 => (some (bt180.1, bt180.2.1, bt180.2.2.1, bt180.2.2.2))) else (some (0, 0, false, false)))) = some (r1, r2, r3, r4) := h
 clear h; obtain ⟨t179, A30, H⟩ := pb_ H
 have A3 := Aside0.mk A30; clear A30
 by_cases c4 : t179 = true
 ·
  subst c4
  rw [if_pos rfl] at H; obtain ⟨⟨t180, t181, t182, t183⟩, A50, H⟩ := pb_ H
  have A5 := Aside0.mk A50; clear A50
  simp only [Option.some.injEq, Prod.mk.injEq] at H
  obtain ⟨rfl, rfl, rfl, rfl⟩ := H
  go_enter Try.func18, Try.ntmps18
  go_wp2_with (first | ((with_reducible refine gate_dst (N := 2) rfl ?_); refine box_event ?hg (N := 2) ?hd (cs := #[.int .i64 a0_0, .int .i64 a0_1, .int .i64 a0_2, .int .i64 a0_3, .int .i64 a0_4, .int .i64 a0_5]) (t := 29) ?hr ?_; (case hd => rfl); (case hg => rfl); (case hr => first | (go_simp; done) | (go_simp; rfl)); intro gb177 hg w6 hbox hb; have BK177 := Aside0.mk hbox; have GW177 := ge_ HB hg; have GE177 := ge_ HB hg; replace HB := bs_ HB hb; clear hb hbox hg) | ((with_reducible refine gate_dst (N := 4) rfl ?_); refine box_event ?hg (N := 4) ?hd (cs := #[.int .i64 0, .int .i64 0, .bool false]) (t := 26) ?hr ?_; (case hd => rfl); (case hg => rfl); (case hr => first | (go_simp; done) | (go_simp; rfl)); intro gb178 hg w7 hbox hb; have BK178 := Aside0.mk hbox; have GW178 := ge_ HB hg; have GE178 := ge_ HB hg; have NB177_178 := nl_ BK177 hg; have NB178_177 := nr_ BK177 hg; replace BK177 := bb_ BK177 hb; replace HB := bs_ HB hb; clear hb hbox hg; obtain ⟨hnb8, hnc8⟩ := nn_ NB177_178; have hcz9_0 : w7.cell? ⟨gb177, 0, none⟩ = some (.int .i64 a0_0) := bc_ BK177 0; have hcz9_1 : w7.cell? ⟨gb177, 1, none⟩ = some (.int .i64 a0_1) := bc_ BK177 1; have hcz9_2 : w7.cell? ⟨gb177, 2, none⟩ = some (.int .i64 a0_2) := bc_ BK177 2; have hcz9_3 : w7.cell? ⟨gb177, 3, none⟩ = some (.int .i64 a0_3) := bc_ BK177 3; have hcz9_4 : w7.cell? ⟨gb177, 4, none⟩ = some (.int .i64 a0_4) := bc_ BK177 4; have hcz9_5 : w7.cell? ⟨gb177, 5, none⟩ = some (.int .i64 a0_5) := bc_ BK177 5; have hfz9_0 := blk_frozen BK177.out 0; have hfz9_1 := blk_frozen BK177.out 1; have hfz9_2 := blk_frozen BK177.out 2; have hfz9_3 := blk_frozen BK177.out 3; have hfz9_4 := blk_frozen BK177.out 4; have hfz9_5 := blk_frozen BK177.out 5) | ((with_reducible refine gate_callee (f := 36) rfl ?_); refine gl_ 7 rfl rfl Try.func36 #[.agg #[.int .i64 a0_0, .int .i64 a0_1, .int .i64 a0_2, .int .i64 a0_3, .int .i64 a0_4, .int .i64 a0_5]] rfl ?_; (with_reducible refine (spec_CurveOk.calls k a0_0 a0_1 a0_2 a0_3 a0_4 a0_5 true _ A3.out).mono ?_); rintro e w10 ⟨rfl, hb⟩; refine ⟨_, rfl, ?_⟩; replace BK177 := bb_ BK177 hb; replace BK178 := bb_ BK178 hb; replace HB := bs_ HB hb; (try clear hb); (try clear hb2); (try clear hk); (try clear hi); have hcz11_0 : w10.cell? ⟨gb177, 0, none⟩ = some (.int .i64 a0_0) := bc_ BK177 0; have hcz11_1 : w10.cell? ⟨gb177, 1, none⟩ = some (.int .i64 a0_1) := bc_ BK177 1; have hcz11_2 : w10.cell? ⟨gb177, 2, none⟩ = some (.int .i64 a0_2) := bc_ BK177 2; have hcz11_3 : w10.cell? ⟨gb177, 3, none⟩ = some (.int .i64 a0_3) := bc_ BK177 3; have hcz11_4 : w10.cell? ⟨gb177, 4, none⟩ = some (.int .i64 a0_4) := bc_ BK177 4; have hcz11_5 : w10.cell? ⟨gb177, 5, none⟩ = some (.int .i64 a0_5) := bc_ BK177 5; have hfz11_0 := blk_frozen BK177.out 0; have hfz11_1 := blk_frozen BK177.out 1; have hfz11_2 := blk_frozen BK177.out 2; have hfz11_3 := blk_frozen BK177.out 3; have hfz11_4 := blk_frozen BK177.out 4; have hfz11_5 := blk_frozen BK177.out 5) | ((with_reducible refine gate_callee (f := 37) rfl ?_); refine gl_ 12 rfl rfl Try.func37 #[.agg #[.int .i64 a0_0, .int .i64 a0_1, .int .i64 a0_2, .int .i64 a0_3, .int .i64 a0_4, .int .i64 a0_5], .slice A1 l1.length c1] rfl ?_; (with_reducible refine (spec_l3Point.calls k a0_0 a0_1 a0_2 a0_3 a0_4 a0_5 _ _ l1 t180 t181 t182 t183 _ ?side1 ?side2 A5.out).mono ?_); (case side1 => repeat (first | exact (Kd.C_below HR1.out HB.out) | (with_reducible refine Kd.C_alloc ?_ _) | (with_reducible refine Kd.C_drewN ?_ _) | (with_reducible refine Kd.C_drew ?_))); (case side2 => exact HC1.out); rintro e w12 ⟨rfl, hb⟩; refine ⟨_, rfl, ?_⟩; replace BK177 := bb_ BK177 hb; replace BK178 := bb_ BK178 hb; replace HB := bs_ HB hb; (try clear hb); (try clear hb2); (try clear hk); (try clear hi); obtain ⟨hcz13_0, hcz13_1, hcz13_2, hfz13_0, hfz13_1, hfz13_2⟩ := bx3_ BK178))
  refine bodyPost_ret (results_ct rfl _ _ gb178 26 #[.int .i64 t180, .int .i64 t181, .bool t182] (0, 0) _ rfl (bq_ BK178) Try.underlying26 rfl (by kernel_rfl)) rfl ?_; exact ⟨by first | rfl | (simp [errW_none, errW_some] <;> rfl) | (simp [*, errW_none, errW_some] <;> rfl), by repeat (first | (with_reducible first | exact HB.out | apply below_alloc | apply pw_below_drewN | apply below_drew1 | refine below_set ?_ GE177.out | refine below_set ?_ GE178.out) | exact HB.out)⟩
 ·
  replace c4 := Bool.eq_false_iff.mpr c4; subst c4
  rw [if_neg (show ¬ (false = true) by decide)] at H
  simp only [Option.some.injEq, Prod.mk.injEq] at H
  obtain ⟨rfl, rfl, rfl, rfl⟩ := H
  go_enter Try.func18, Try.ntmps18
  go_wp2_with (first | ((with_reducible refine gate_dst (N := 2) rfl ?_); refine box_event ?hg (N := 2) ?hd (cs := #[.int .i64 a0_0, .int .i64 a0_1, .int .i64 a0_2, .int .i64 a0_3, .int .i64 a0_4, .int .i64 a0_5]) (t := 29) ?hr ?_; (case hd => rfl); (case hg => rfl); (case hr => first | (go_simp; done) | (go_simp; rfl)); intro gb177 hg w14 hbox hb; have BK177 := Aside0.mk hbox; have GW177 := ge_ HB hg; have GE177 := ge_ HB hg; replace HB := bs_ HB hb; clear hb hbox hg) | ((with_reducible refine gate_dst (N := 4) rfl ?_); refine box_event ?hg (N := 4) ?hd (cs := #[.int .i64 0, .int .i64 0, .bool false]) (t := 26) ?hr ?_; (case hd => rfl); (case hg => rfl); (case hr => first | (go_simp; done) | (go_simp; rfl)); intro gb178 hg w15 hbox hb; have BK178 := Aside0.mk hbox; have GW178 := ge_ HB hg; have GE178 := ge_ HB hg; have NB177_178 := nl_ BK177 hg; have NB178_177 := nr_ BK177 hg; replace BK177 := bb_ BK177 hb; replace HB := bs_ HB hb; clear hb hbox hg; obtain ⟨hnb16, hnc16⟩ := nn_ NB177_178; have hcz17_0 : w15.cell? ⟨gb177, 0, none⟩ = some (.int .i64 a0_0) := bc_ BK177 0; have hcz17_1 : w15.cell? ⟨gb177, 1, none⟩ = some (.int .i64 a0_1) := bc_ BK177 1; have hcz17_2 : w15.cell? ⟨gb177, 2, none⟩ = some (.int .i64 a0_2) := bc_ BK177 2; have hcz17_3 : w15.cell? ⟨gb177, 3, none⟩ = some (.int .i64 a0_3) := bc_ BK177 3; have hcz17_4 : w15.cell? ⟨gb177, 4, none⟩ = some (.int .i64 a0_4) := bc_ BK177 4; have hcz17_5 : w15.cell? ⟨gb177, 5, none⟩ = some (.int .i64 a0_5) := bc_ BK177 5; have hfz17_0 := blk_frozen BK177.out 0; have hfz17_1 := blk_frozen BK177.out 1; have hfz17_2 := blk_frozen BK177.out 2; have hfz17_3 := blk_frozen BK177.out 3; have hfz17_4 := blk_frozen BK177.out 4; have hfz17_5 := blk_frozen BK177.out 5) | ((with_reducible refine gate_callee (f := 36) rfl ?_); refine gl_ 7 rfl rfl Try.func36 #[.agg #[.int .i64 a0_0, .int .i64 a0_1, .int .i64 a0_2, .int .i64 a0_3, .int .i64 a0_4, .int .i64 a0_5]] rfl ?_; (with_reducible refine (spec_CurveOk.calls k a0_0 a0_1 a0_2 a0_3 a0_4 a0_5 false _ A3.out).mono ?_); rintro e w18 ⟨rfl, hb⟩; refine ⟨_, rfl, ?_⟩; replace BK177 := bb_ BK177 hb; replace BK178 := bb_ BK178 hb; replace HB := bs_ HB hb; (try clear hb); (try clear hb2); (try clear hk); (try clear hi); obtain ⟨hcz19_0, hcz19_1, hcz19_2, hfz19_0, hfz19_1, hfz19_2⟩ := bx3_ BK178))
  refine bodyPost_ret (results_ct rfl _ _ gb178 26 #[.int .i64 0, .int .i64 0, .bool false] (0, 0) _ rfl (bq_ BK178) Try.underlying26 rfl (by kernel_rfl)) rfl ?_; exact ⟨by first | rfl | (simp [errW_none, errW_some] <;> rfl) | (simp [*, errW_none, errW_some] <;> rfl), by repeat (first | (with_reducible first | exact HB.out | apply below_alloc | apply pw_below_drewN | apply below_drew1 | refine below_set ?_ GE177.out | refine below_set ?_ GE178.out) | exact HB.out)⟩

end Go.Proofs.Ytadmkolopcdffaa.PFnExactPointRead
