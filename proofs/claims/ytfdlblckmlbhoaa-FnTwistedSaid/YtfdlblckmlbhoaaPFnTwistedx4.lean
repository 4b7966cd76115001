-- Written for this claim by a program of this session.
import Derived.Test.YtfdlblckmlbhoaaPFnTwistedx0
import Derived.Test.YtfdlblckmlbhoaaPFnTwistedx1
import Derived.Test.YtfdlblckmlbhoaaPFnTwistedx2
import Derived.Test.YtfdlblckmlbhoaaPFnTwistedx3
namespace Go.Proofs.Ytfdlblckmlbhoaa.PFnTwisted
open Go.RowKit Go.Proofs.YtfdlblckmlbhoaaW.PrintWords Go.Proofs.YtfdlblckmlbhoaaW.PrintLast Go.Proofs.YtfdlblckmlbhoaaW.PrintMore
attribute [local go_sem] max2_int min2_int max_two min_two max_three min_three max_four min_four   -- for this text's walks alone
set_option linter.unusedVariables false
set_option linter.unusedSimpArgs false

attribute [local go_sem high] eqA27
attribute [local go_sem] fld_
/-! ### impl_Ed_times: function 29 -/
def impl_Ed_times.l0 : Nat → Int → Int → Int → Int → Int → Int → Int → Int → Int → Int → Int → Option (Int × Int)
  | 0, _, _, _, _, _, _, _, _, _, _, _ => none
  | k + 1, x1, x8, x189000, x189001, x189002, x189003, x189004, x190000, x190001, x192000, x192001 => if x8 ≥ 0 then ((impl_Ed_sum.f k x189000 x189001 x189002 x189003 x189004 x192000 x192001 x192000 x192001).bind fun bt193 => (if 0 ≤ x8 then (if (Go.bits .and .i64 (shr .i64 x1 x8) 1) = 1 then ((impl_Ed_sum.f k x189000 x189001 x189002 x189003 x189004 bt193.1 bt193.2 x190000 x190001).bind fun bt195 => (impl_Ed_times.l0 k x1 (wrap64 (x8 - 1)) x189000 x189001 x189002 x189003 x189004 x190000 x190001 bt195.1 bt195.2)) else (impl_Ed_times.l0 k x1 (wrap64 (x8 - 1)) x189000 x189001 x189002 x189003 x189004 x190000 x190001 bt193.1 bt193.2)) else (none))) else (some (x192000, x192001))
def impl_Ed_times.f (k : Nat) (a0_0 : Int) (a0_1 : Int) (a0_2 : Int) (a0_3 : Int) (a0_4 : Int) (a1 : Int) (a2_0 : Int) (a2_1 : Int) : Option (Int × Int) := (bits_Len.f k (IntKind.u64.wrap (a1))).bind fun t192 => (impl_Ed_times.l0 k a1 (wrap64 (t192 - 1)) a0_0 a0_1 a0_2 a0_3 a0_4 a2_0 a2_1 0 1)
theorem impl_Ed_times.mono_l : ∀ k, (∀ y0 y1 y2 y3 y4 y5 y6 y7 y8 y9 y10, LeO (impl_Ed_times.l0 k y0 y1 y2 y3 y4 y5 y6 y7 y8 y9 y10) (impl_Ed_times.l0 (k + 1) y0 y1 y2 y3 y4 y5 y6 y7 y8 y9 y10))
 | 0 => fun _ _ _ _ _ _ _ _ _ _ _ r h => by simp [impl_Ed_times.l0] at h
 | k + 1 => by
  have ih0 := impl_Ed_times.mono_l k
  ·
   intro y0 y1 y2 y3 y4 y5 y6 y7 y8 y9 y10
   unfold impl_Ed_times.l0
   repeat' first
   | (with_reducible exact ih0 _ _ _ _ _ _ _ _ _ _ _)
   | (with_reducible exact bits_Len.mono _ _)
   | (with_reducible exact impl_Ed_sum.mono _ _ _ _ _ _ _ _ _ _)
   | (with_reducible exact LeO.refl _)
   | (with_reducible exact LeO.none _)
   | (with_reducible refine LeO.ite ?_ ?_)
   | (with_reducible refine LeO.bind ?_ (fun _ => ?_))
   | exact ih0 _ _ _ _ _ _ _ _ _ _ _
   | exact bits_Len.mono _ _
   | exact impl_Ed_sum.mono _ _ _ _ _ _ _ _ _ _
   | exact LeO.none _
   | refine LeO.ite ?_ ?_
   | refine LeO.bind ?_ (fun _ => ?_)
theorem impl_Ed_times.mono : ∀ a0 a1 a2 a3 a4 a5 a6 a7 k, LeO (impl_Ed_times.f k a0 a1 a2 a3 a4 a5 a6 a7) (impl_Ed_times.f (k + 1) a0 a1 a2 a3 a4 a5 a6 a7) := by
 intro a0 a1 a2 a3 a4 a5 a6 a7 k; have ih0 := impl_Ed_times.mono_l k
 unfold impl_Ed_times.f
 repeat' first
   | (with_reducible exact ih0 _ _ _ _ _ _ _ _ _ _ _)
   | (with_reducible exact bits_Len.mono _ _)
   | (with_reducible exact impl_Ed_sum.mono _ _ _ _ _ _ _ _ _ _)
   | (with_reducible exact LeO.refl _)
   | (with_reducible exact LeO.none _)
   | (with_reducible refine LeO.ite ?_ ?_)
   | (with_reducible refine LeO.bind ?_ (fun _ => ?_))
   | exact ih0 _ _ _ _ _ _ _ _ _ _ _
   | exact bits_Len.mono _ _
   | exact impl_Ed_sum.mono _ _ _ _ _ _ _ _ _ _
   | exact LeO.none _
   | refine LeO.ite ?_ ?_
   | refine LeO.bind ?_ (fun _ => ?_)
set_option maxHeartbeats 8000000 in
set_option maxRecDepth 100000 in
theorem impl_Ed_times.calls (k : Nat) (a0_0 : Int) (a0_1 : Int) (a0_2 : Int) (a0_3 : Int) (a0_4 : Int) (a1 : Int) (a2_0 : Int) (a2_1 : Int) (r1 : Int) (r2 : Int) (w : World) (h : impl_Ed_times.f k a0_0 a0_1 a0_2 a0_3 a0_4 a1 a2_0 a2_1 = some (r1, r2)) :
  Calls Try.prog 29 #[.agg #[.int .i64 a0_0, .int .i64 a0_1, .int .i64 a0_2, .int .i64 a0_3, .int .i64 a0_4], .int .i64 a1, .agg #[.int .i64 a2_0, .int .i64 a2_1]] w fun e w' => e = .returned (.agg #[.int .i64 r1, .int .i64 r2]) ∧ Below w.heap.size w w' := by
 have hu25 := Try.underlying25; have hu27 := Try.underlying27; have HB := Aside0.mk (Below.refl w.heap.size w)
 have H : ((bits_Len.f k (IntKind.u64.wrap (a1))).bind fun t192 => (impl_Ed_times.l0 k a1 (wrap64 (t192 - 1)) a0_0 a0_1 a0_2 a0_3 a0_4 a2_0 a2_1 0 1)) = some (r1, r2) := h
 clear h; obtain ⟨t192, A40, H⟩ := pb_ H
 have A4 := Aside0.mk A40; clear A40
 have H' := Aside0.mk H
 clear H
 go_enter Try.func29, Try.ntmps29
 go_wp2_with (first | ((with_reducible refine gate_dst (N := 3) rfl ?_); refine box_event ?hg (N := 3) ?hd (cs := #[.int .i64 a0_0, .int .i64 a0_1, .int .i64 a0_2, .int .i64 a0_3, .int .i64 a0_4]) (t := 25) ?hr ?_; (case hd => rfl); (case hg => rfl); (case hr => first | (go_simp; done) | (go_simp; rfl)); intro gb188 hg w5 hbox hb; have BK188 := Aside0.mk hbox; have GW188 := ge_ HB hg; have GE188 := ge_ HB hg; replace HB := bs_ HB hb; clear hb hbox hg) | ((with_reducible refine gate_dst (N := 5) rfl ?_); refine box_event ?hg (N := 5) ?hd (cs := #[.int .i64 a2_0, .int .i64 a2_1]) (t := 27) ?hr ?_; (case hd => rfl); (case hg => rfl); (case hr => first | (go_simp; done) | (go_simp; rfl)); intro gb189 hg w6 hbox hb; have BK189 := Aside0.mk hbox; have GW189 := ge_ HB hg; have GE189 := ge_ HB hg; have NB188_189 := nl_ BK188 hg; have NB189_188 := nr_ BK188 hg; replace BK188 := bb_ BK188 hb; replace HB := bs_ HB hb; clear hb hbox hg) | ((with_reducible refine gate_dst (N := 6) rfl ?_); refine box_event ?hg (N := 6) ?hd (cs := #[.int .i64 0, .int .i64 0]) (t := 27) ?hr ?_; (case hd => rfl); (case hg => rfl); (case hr => first | (go_simp; done) | (go_simp; rfl)); intro gb190 hg w7 hbox hb; have BK190 := Aside0.mk hbox; have GW190 := ge_ HB hg; have GE190 := ge_ HB hg; have NB188_190 := nl_ BK188 hg; have NB190_188 := nr_ BK188 hg; have NB189_190 := nl_ BK189 hg; have NB190_189 := nr_ BK189 hg; replace BK188 := bb_ BK188 hb; replace BK189 := bb_ BK189 hb; replace HB := bs_ HB hb; clear hb hbox hg) | ((with_reducible refine gate_dst (N := 7) rfl ?_); refine box_event ?hg (N := 7) ?hd (cs := #[.int .i64 0, .int .i64 0]) (t := 27) ?hr ?_; (case hd => rfl); (case hg => rfl); (case hr => first | (go_simp; done) | (go_simp; rfl)); intro gb191 hg w8 hbox hb; have BK191 := Aside0.mk hbox; have GW191 := ge_ HB hg; have GE191 := ge_ HB hg; have NB188_191 := nl_ BK188 hg; have NB191_188 := nr_ BK188 hg; have NB189_191 := nl_ BK189 hg; have NB191_189 := nr_ BK189 hg; have NB190_191 := nl_ BK190 hg; have NB191_190 := nr_ BK190 hg; replace BK188 := bb_ BK188 hb; replace BK189 := bb_ BK189 hb; replace BK190 := bb_ BK190 hb; replace HB := bs_ HB hb; clear hb hbox hg; obtain ⟨hnb9, hnc9⟩ := nn_ NB191_188; obtain ⟨hnb10, hnc10⟩ := nn_ NB191_189; obtain ⟨hnb11, hnc11⟩ := nn_ NB191_190; have hcz12_0 : w8.cell? ⟨gb191, 0, none⟩ = some (.int .i64 0) := bc_ BK191 0; have hcz12_1 : w8.cell? ⟨gb191, 1, none⟩ = some (.int .i64 0) := bc_ BK191 1; have hfz12_0 := blk_frozen BK191.out 0; have hfz12_1 := blk_frozen BK191.out 1) | ((with_reducible refine gate_callee (f := 48) rfl ?_); refine gl_ 12 rfl rfl Try.func48 #[.int .u64 (IntKind.u64.wrap (a1))] rfl ?_; (with_reducible refine (bits_Len.calls k (IntKind.u64.wrap (a1)) t192 _ A4.out).mono ?_); rintro e w' ⟨rfl, ⟨nd, rfl⟩⟩; refine ⟨_, rfl, ?_⟩))
 go_loopg [8] k (fun kq v8 w' => ∃ (x8_1 : Int) (x192000_1 : Int) (x192001_1 : Int), v8 = .int .i64 x8_1 ∧ Aside0 (impl_Ed_times.l0 kq a1 x8_1 a0_0 a0_1 a0_2 a0_3 a0_4 a2_0 a2_1 x192000_1 x192001_1 = some (r1, r2)) ∧ Aside0 (kq ≤ k) ∧ Aside0 (w'.heap[gb188]? = some (.cells #[.int .i64 a0_0, .int .i64 a0_1, .int .i64 a0_2, .int .i64 a0_3, .int .i64 a0_4] 25 (0, 0))) ∧ Aside0 (w'.heap[gb189]? = some (.cells #[.int .i64 a2_0, .int .i64 a2_1] 27 (0, 0))) ∧ Aside0 (w'.heap[gb190]? = some (.cells #[.int .i64 0, .int .i64 0] 27 (0, 0))) ∧ Aside0 (w'.heap[gb191]? = some (.cells #[.int .i64 x192000_1, .int .i64 x192001_1] 27 (0, 0))) ∧ Aside0 (Below w.heap.size w w'))
 case atStart => exact ⟨(wrap64 (t192 - 1)), (0), (1), (by first | rfl | (simp; done) | (simp [*]; done)), H', ⟨Nat.le_refl _⟩, ⟨bf_ BK188⟩, ⟨bf_ BK189⟩, ⟨bf_ BK190⟩, ⟨bq_ BK191⟩, ⟨bw_ HB⟩⟩
 case round =>
  clear H'
  try clear c1
  try clear c2
  try clear p2
  try clear c4
  try clear p6
  try clear c9
  try clear c10
  try clear c11
  try clear hcz12_0 hcz12_1
  try clear hfz12_0 hfz12_1
  obtain ⟨x8_1, x192000_1, x192001_1, rfl, HA, HK1, BK188, BK189, BK190, BK191, HB⟩ := hrel
  cases gk with
  | zero => exact absurd HA.out (by simp [impl_Ed_times.l0])
  | succ k1 =>
   have H := HA.out; clear HA
   simp only [impl_Ed_times.l0] at H
   by_cases c13 : x8_1 ≥ 0
   ·
    rw [if_pos c13] at H
    have c13b0 : decide (0 ≤ x8_1) = true := decide_eq_true c13
    clear c13; obtain ⟨⟨t193, t194⟩, A140, H⟩ := pb_ H
    have A14 := Aside0.mk A140; clear A140
    by_cases c15 : 0 ≤ x8_1
    ·
     rw [if_pos c15] at H; have c15b0 := eq_true c15
     have c15b1 : decide (0 ≤ x8_1) = true := decide_eq_true c15
     clear c15; obtain ⟨ji16, hji16⟩ : ∃ j_ : Int, (shr .i64 a1 x8_1) = j_ := ⟨_, rfl⟩
     replace H : (if (Go.bits .and .i64 (ji16) 1) = 1 then ((impl_Ed_sum.f k1 a0_0 a0_1 a0_2 a0_3 a0_4 t193 t194 a2_0 a2_1).bind fun bt195 => (impl_Ed_times.l0 k1 a1 (wrap64 (x8_1 - 1)) a0_0 a0_1 a0_2 a0_3 a0_4 a2_0 a2_1 bt195.1 bt195.2)) else (impl_Ed_times.l0 k1 a1 (wrap64 (x8_1 - 1)) a0_0 a0_1 a0_2 a0_3 a0_4 a2_0 a2_1 t193 t194)) = some (r1, r2) := by first | (rw [hji16] at H; exact H) | (simp only [hji16] at H ⊢; exact H)
     (try rw [hji16] at A14)
     have hji16_ : (a1 / 2 ^ min x8_1.toNat 64) = ji16 := hji16
     have hji16z : x8_1 ≤ 64 → (a1 / 2 ^ x8_1.toNat) = ji16 := shr_small hji16
     by_cases c17 : (Go.bits .and .i64 (ji16) 1) = 1
     ·
      rw [if_pos c17] at H
      have c17b0 : ((Go.bits .and .i64 (ji16) 1) == 1) = true := beq_iff_eq.mpr c17
      have c17b1 : ((Go.bits .and .i64 (ji16) 1) != 1) = false := bne_eq_false_iff_eq.mpr c17
      clear c17; obtain ⟨⟨t195, t196⟩, A180, H⟩ := pb_ H
      have A18 := Aside0.mk A180; clear A180
      have H' := Aside0.mk H
      clear H; obtain ⟨hnb19, hnc19⟩ := nn_ NB188_189; obtain ⟨hnb20, hnc20⟩ := nn_ NB188_190; obtain ⟨hnb21, hnc21⟩ := nn_ NB188_191
      obtain ⟨hcz22_0, hcz22_1, hcz22_2, hcz22_3, hcz22_4, hfz22_0, hfz22_1, hfz22_2, hfz22_3, hfz22_4⟩ := bx5_ BK188; obtain ⟨hnb23, hnc23⟩ := nn_ NB191_189; obtain ⟨hnb24, hnc24⟩ := nn_ NB191_190
      obtain ⟨hcz25_0, hcz25_1, hfz25_0, hfz25_1⟩ := bx2_ BK191
      go_wp2_with (first | ((with_reducible refine gate_callee (f := 30) rfl ?_); refine gl_ 21 rfl rfl Try.func30 #[.agg #[.int .i64 a0_0, .int .i64 a0_1, .int .i64 a0_2, .int .i64 a0_3, .int .i64 a0_4], .agg #[.int .i64 x192000_1, .int .i64 x192001_1], .agg #[.int .i64 x192000_1, .int .i64 x192001_1]] rfl ?_; (with_reducible refine (impl_Ed_sum.calls k1 a0_0 a0_1 a0_2 a0_3 a0_4 x192000_1 x192001_1 x192000_1 x192001_1 t193 t194 _ A14.out).mono ?_); rintro e w26 ⟨rfl, hb⟩; refine ⟨_, rfl, ?_⟩; replace BK188 := bb_ BK188 hb; replace BK189 := bb_ BK189 hb; replace BK190 := bb_ BK190 hb; replace BK191 := bb_ BK191 hb; replace HB := bs_ HB hb; (try clear hb); (try clear hb2); (try clear hk); (try clear hi); obtain ⟨hcz27_0, hcz27_1, hfz27_0, hfz27_1⟩ := bx2_ BK191; obtain ⟨hcz28_0, hcz28_1, hcz28_2, hcz28_3, hcz28_4, hfz28_0, hfz28_1, hfz28_2, hfz28_3, hfz28_4⟩ := bx5_ BK188; obtain ⟨hnb29, hnc29⟩ := nn_ NB189_190; have hcz30_0 : w26.cell? ⟨gb189, 0, none⟩ = some (.int .i64 a2_0) := bc_ BK189 0; have hcz30_1 : w26.cell? ⟨gb189, 1, none⟩ = some (.int .i64 a2_1) := bc_ BK189 1; have hfz30_0 := blk_frozen BK189.out 0; have hfz30_1 := blk_frozen BK189.out 1) | ((with_reducible refine gate_callee (f := 30) rfl ?_); refine gl_ 30 rfl rfl Try.func30 #[.agg #[.int .i64 a0_0, .int .i64 a0_1, .int .i64 a0_2, .int .i64 a0_3, .int .i64 a0_4], .agg #[.int .i64 t193, .int .i64 t194], .agg #[.int .i64 a2_0, .int .i64 a2_1]] rfl ?_; (with_reducible refine (impl_Ed_sum.calls k1 a0_0 a0_1 a0_2 a0_3 a0_4 t193 t194 a2_0 a2_1 t195 t196 _ A18.out).mono ?_); rintro e w31 ⟨rfl, hb⟩; refine ⟨_, rfl, ?_⟩; replace BK188 := bd_ BK188 hb; replace BK189 := bd_ BK189 hb; replace BK190 := bd_ BK190 hb; replace BK191 := be_ #[.int .i64 t193, .int .i64 t194] BK191 hb; replace HB := bs_ HB hb; (try clear hb); (try clear hb2); (try clear hk); (try clear hi); obtain ⟨hcz32_0, hcz32_1, hfz32_0, hfz32_1⟩ := bx2_ BK191))
      go_roundg k1
      case measure => have := HK1.out; omega
      case rel => exact ⟨(wrap64 (x8_1 - 1)), (t195), (t196), (by first | rfl | (simp; done) | (simp [*]; done)), H', ⟨by have := HK1.out; omega⟩, ⟨bf_ BK188⟩, ⟨bf_ BK189⟩, ⟨bf_ BK190⟩, ⟨bq_ BK191⟩, ⟨bw_ HB⟩⟩
     ·
      rw [if_neg c17] at H
      have c17b0 : ((Go.bits .and .i64 (ji16) 1) == 1) = false := beq_eq_false_iff_ne.mpr c17
      have c17b1 : ((Go.bits .and .i64 (ji16) 1) != 1) = true := bne_iff_ne.mpr c17
      have H' := Aside0.mk H
      clear H; obtain ⟨hnb33, hnc33⟩ := nn_ NB188_189; obtain ⟨hnb34, hnc34⟩ := nn_ NB188_190; obtain ⟨hnb35, hnc35⟩ := nn_ NB188_191
      obtain ⟨hcz36_0, hcz36_1, hcz36_2, hcz36_3, hcz36_4, hfz36_0, hfz36_1, hfz36_2, hfz36_3, hfz36_4⟩ := bx5_ BK188; obtain ⟨hnb37, hnc37⟩ := nn_ NB191_189; obtain ⟨hnb38, hnc38⟩ := nn_ NB191_190
      obtain ⟨hcz39_0, hcz39_1, hfz39_0, hfz39_1⟩ := bx2_ BK191
      go_wp2_with (first | ((with_reducible refine gate_callee (f := 30) rfl ?_); refine gl_ 21 rfl rfl Try.func30 #[.agg #[.int .i64 a0_0, .int .i64 a0_1, .int .i64 a0_2, .int .i64 a0_3, .int .i64 a0_4], .agg #[.int .i64 x192000_1, .int .i64 x192001_1], .agg #[.int .i64 x192000_1, .int .i64 x192001_1]] rfl ?_; (with_reducible refine (impl_Ed_sum.calls k1 a0_0 a0_1 a0_2 a0_3 a0_4 x192000_1 x192001_1 x192000_1 x192001_1 t193 t194 _ A14.out).mono ?_); rintro e w40 ⟨rfl, hb⟩; refine ⟨_, rfl, ?_⟩; replace BK188 := bb_ BK188 hb; replace BK189 := bb_ BK189 hb; replace BK190 := bb_ BK190 hb; replace BK191 := bb_ BK191 hb; replace HB := bs_ HB hb; (try clear hb); (try clear hb2); (try clear hk); (try clear hi); obtain ⟨hcz41_0, hcz41_1, hfz41_0, hfz41_1⟩ := bx2_ BK191))
      go_roundg k1
      case measure => have := HK1.out; omega
      case rel => exact ⟨(wrap64 (x8_1 - 1)), (t193), (t194), (by first | rfl | (simp; done) | (simp [*]; done)), H', ⟨by have := HK1.out; omega⟩, ⟨bf_ BK188⟩, ⟨bf_ BK189⟩, ⟨bf_ BK190⟩, ⟨bq_ BK191⟩, ⟨bw_ HB⟩⟩
    · rw [if_neg c15] at H; exact absurd H (by simp)
   ·
    rw [if_neg c13] at H
    have c13b0 : decide (0 ≤ x8_1) = false := decide_eq_false c13
    clear c13
    simp only [Option.some.injEq, Prod.mk.injEq] at H
    obtain ⟨rfl, rfl⟩ := H; obtain ⟨hnb42, hnc42⟩ := nn_ NB191_188; obtain ⟨hnb43, hnc43⟩ := nn_ NB191_189; obtain ⟨hnb44, hnc44⟩ := nn_ NB191_190
    obtain ⟨hcz45_0, hcz45_1, hfz45_0, hfz45_1⟩ := bx2_ BK191; obtain ⟨hnb46, hnc46⟩ := nn_ NB190_188; obtain ⟨hnb47, hnc47⟩ := nn_ NB190_189
    obtain ⟨hcz48_0, hcz48_1, hfz48_0, hfz48_1⟩ := bx2_ BK190
    go_wp2
    refine bodyPost_ret (results_cell_row rfl _ _ gb190 27 #[.int .i64 x192000_1, .int .i64 x192001_1] (0, 0) _ rfl (bq_ BK190) Try.underlying27 rfl (by kernel_rfl)) rfl ?_; exact ⟨by first | rfl | (simp [errW_none, errW_some] <;> rfl) | (simp [*, errW_none, errW_some] <;> rfl), by repeat (first | (with_reducible first | exact HB.out | apply below_alloc | apply pw_below_drewN | apply below_drew1 | refine below_set ?_ GE188.out | refine below_set ?_ GE189.out | refine below_set ?_ GE190.out | refine below_set ?_ GE191.out) | exact HB.out)⟩

attribute [local go_sem] fld_
/-! ### impl_EdOk: function 7 -/
mutual
def impl_EdOk.j0 : Nat → Bool → Int → Int → Int → Int → Int → Option (Bool)
  | 0, _, _, _, _, _, _ => none
  | k + 1, x39, x198000, x198001, x198002, x198003, x198004 => if x39 = true then (some false) else ((impl_powInt.f k x198001 (wrap64 (Int.tdiv (wrap64 (x198000 - 1)) 2)) x198000).bind fun t203 => (if t203 = 1 then (impl_EdOk.j1 k true x198000 x198001 x198002 x198003 x198004) else ((impl_Ed_base.f x198000 x198001 x198002 x198003 x198004).bind fun bt204 => ((impl_Ed_isPair.f x198000 x198001 x198002 x198003 x198004 bt204.1 bt204.2).bind fun t206 => (if t206 = true then ((impl_Ed_base.f x198000 x198001 x198002 x198003 x198004).bind fun bt207 => (impl_EdOk.j1 k (bt207.1 == 0 && (bt207.2 == 1)) x198000 x198001 x198002 x198003 x198004)) else (impl_EdOk.j1 k true x198000 x198001 x198002 x198003 x198004))))))
def impl_EdOk.j1 : Nat → Bool → Int → Int → Int → Int → Int → Option (Bool)
  | 0, _, _, _, _, _, _ => none
  | k + 1, x62, x198000, x198001, x198002, x198003, x198004 => if x62 = true then (some false) else ((impl_Ed_base.f x198000 x198001 x198002 x198003 x198004).bind fun bt209 => ((impl_Ed_times.f k x198000 x198001 x198002 x198003 x198004 x198002 bt209.1 bt209.2).bind fun bt211 => (some (bt211.1 == 0 && (bt211.2 == 1)))))
end
def impl_EdOk.f (k : Nat) (a0_0 : Int) (a0_1 : Int) (a0_2 : Int) (a0_3 : Int) (a0_4 : Int) : Option (Bool) := (impl_within.f a0_0 13 1048576).bind fun t198 => (if t198 = true then (if (Int.tmod a0_0 8) = 5 then ((impl_within.f a0_1 2 (wrap64 (a0_0 - 1))).bind fun t199 => (if t199 = true then ((impl_within.f a0_2 5 2097152).bind fun t200 => (if t200 = true then ((impl_PrimeInt.f k a0_0).bind fun t201 => (if t201 = true then ((impl_PrimeInt.f k a0_2).bind fun t202 => (impl_EdOk.j0 k (!t202) a0_0 a0_1 a0_2 a0_3 a0_4)) else (impl_EdOk.j0 k true a0_0 a0_1 a0_2 a0_3 a0_4))) else (impl_EdOk.j0 k true a0_0 a0_1 a0_2 a0_3 a0_4))) else (impl_EdOk.j0 k true a0_0 a0_1 a0_2 a0_3 a0_4))) else (impl_EdOk.j0 k true a0_0 a0_1 a0_2 a0_3 a0_4)) else (impl_EdOk.j0 k true a0_0 a0_1 a0_2 a0_3 a0_4))
theorem impl_EdOk.mono_l : ∀ k, (∀ y0 y1 y2 y3 y4 y5, LeO (impl_EdOk.j0 k y0 y1 y2 y3 y4 y5) (impl_EdOk.j0 (k + 1) y0 y1 y2 y3 y4 y5)) ∧ (∀ y0 y1 y2 y3 y4 y5, LeO (impl_EdOk.j1 k y0 y1 y2 y3 y4 y5) (impl_EdOk.j1 (k + 1) y0 y1 y2 y3 y4 y5))
 | 0 => ⟨fun _ _ _ _ _ _ r h => by simp [impl_EdOk.j0] at h, fun _ _ _ _ _ _ r h => by simp [impl_EdOk.j1] at h⟩
 | k + 1 => by
  obtain ⟨ih0, ih1⟩ := impl_EdOk.mono_l k
  refine ⟨?_, ?_⟩
  ·
   intro y0 y1 y2 y3 y4 y5
   unfold impl_EdOk.j0
   repeat' first
   | (with_reducible exact ih0 _ _ _ _ _ _)
   | (with_reducible exact ih1 _ _ _ _ _ _)
   | (with_reducible exact impl_Ed_times.mono _ _ _ _ _ _ _ _ _)
   | (with_reducible exact impl_PrimeInt.mono _ _)
   | (with_reducible exact impl_powInt.mono _ _ _ _)
   | (with_reducible exact LeO.refl _)
   | (with_reducible exact LeO.none _)
   | (with_reducible refine LeO.ite ?_ ?_)
   | (with_reducible refine LeO.bind ?_ (fun _ => ?_))
   | exact ih0 _ _ _ _ _ _
   | exact ih1 _ _ _ _ _ _
   | exact impl_Ed_times.mono _ _ _ _ _ _ _ _ _
   | exact impl_PrimeInt.mono _ _
   | exact impl_powInt.mono _ _ _ _
   | exact LeO.none _
   | refine LeO.ite ?_ ?_
   | refine LeO.bind ?_ (fun _ => ?_)
  ·
   intro y0 y1 y2 y3 y4 y5
   unfold impl_EdOk.j1
   repeat' first
   | (with_reducible exact ih0 _ _ _ _ _ _)
   | (with_reducible exact ih1 _ _ _ _ _ _)
   | (with_reducible exact impl_Ed_times.mono _ _ _ _ _ _ _ _ _)
   | (with_reducible exact impl_PrimeInt.mono _ _)
   | (with_reducible exact impl_powInt.mono _ _ _ _)
   | (with_reducible exact LeO.refl _)
   | (with_reducible exact LeO.none _)
   | (with_reducible refine LeO.ite ?_ ?_)
   | (with_reducible refine LeO.bind ?_ (fun _ => ?_))
   | exact ih0 _ _ _ _ _ _
   | exact ih1 _ _ _ _ _ _
   | exact impl_Ed_times.mono _ _ _ _ _ _ _ _ _
   | exact impl_PrimeInt.mono _ _
   | exact impl_powInt.mono _ _ _ _
   | exact LeO.none _
   | refine LeO.ite ?_ ?_
   | refine LeO.bind ?_ (fun _ => ?_)
theorem impl_EdOk.mono : ∀ a0 a1 a2 a3 a4 k, LeO (impl_EdOk.f k a0 a1 a2 a3 a4) (impl_EdOk.f (k + 1) a0 a1 a2 a3 a4) := by
 intro a0 a1 a2 a3 a4 k; obtain ⟨ih0, ih1⟩ := impl_EdOk.mono_l k
 unfold impl_EdOk.f
 repeat' first
   | (with_reducible exact ih0 _ _ _ _ _ _)
   | (with_reducible exact ih1 _ _ _ _ _ _)
   | (with_reducible exact impl_Ed_times.mono _ _ _ _ _ _ _ _ _)
   | (with_reducible exact impl_PrimeInt.mono _ _)
   | (with_reducible exact impl_powInt.mono _ _ _ _)
   | (with_reducible exact LeO.refl _)
   | (with_reducible exact LeO.none _)
   | (with_reducible refine LeO.ite ?_ ?_)
   | (with_reducible refine LeO.bind ?_ (fun _ => ?_))
   | exact ih0 _ _ _ _ _ _
   | exact ih1 _ _ _ _ _ _
   | exact impl_Ed_times.mono _ _ _ _ _ _ _ _ _
   | exact impl_PrimeInt.mono _ _
   | exact impl_powInt.mono _ _ _ _
   | exact LeO.none _
   | refine LeO.ite ?_ ?_
   | refine LeO.bind ?_ (fun _ => ?_)
def impl_EdOk.T3 : Bool × List (List Nat × List Nat) := (true, [([], []), ([0], [0]), ([], []), ([2], [2]), ([3], [3]), ([4], [4]), ([], []), ([6], [6]), ([1, 5, 7], [1, 5, 7]), ([8], [8]), ([9, 8], [9]), ([10], [10]), ([10], [10]), ([12, 10, 10], [10, 12]), ([11, 13, 13, 10], [10, 11, 13]), ([14, 10], [10, 14]), ([10, 15], [10, 15]), ([16, 14], [16]), ([17], [17]), ([18, 17, 17], [17, 18]), ([17], [17]), ([19, 20, 17], [17, 19, 20]), ([17, 21], [17, 21])])
def impl_EdOk.B3 : List Nat := [0, 1, 0, 4, 12, 28, 0, 64, 255, 511, 1023, 2047, 2047, 6143, 16383, 32767, 65535, 131071, 262143, 524287, 262143, 2097151, 4194303]
theorem impl_EdOk.tab3 : rtab .any (opsOf Try.f7 3) = impl_EdOk.T3 := by kernel_rfl
theorem impl_EdOk.bits3 : waitsOk impl_EdOk.T3.2 impl_EdOk.B3 = true := by kernel_rfl
def impl_EdOk.T5 : Bool × List (List Nat × List Nat) := (true, [([], []), ([], []), ([1], [1]), ([], []), ([3], [3]), ([0, 2, 4, 4], [0, 2, 4]), ([], []), ([5, 6], [5, 6]), ([7, 5, 0, 1, 2, 3, 4, 5, 6, 7], [7])])
def impl_EdOk.B5 : List Nat := [0, 0, 2, 0, 8, 31, 0, 127, 255]
theorem impl_EdOk.tab5 : rtab .any (opsOf Try.f7 5) = impl_EdOk.T5 := by kernel_rfl
theorem impl_EdOk.bits5 : waitsOk impl_EdOk.T5.2 impl_EdOk.B5 = true := by kernel_rfl
set_option maxHeartbeats 8000000 in
set_option maxRecDepth 100000 in
theorem impl_EdOk.calls (k : Nat) (a0_0 : Int) (a0_1 : Int) (a0_2 : Int) (a0_3 : Int) (a0_4 : Int) (r : Bool) (w : World) (h : impl_EdOk.f k a0_0 a0_1 a0_2 a0_3 a0_4 = some r) :
  Calls Try.prog 7 #[.agg #[.int .i64 a0_0, .int .i64 a0_1, .int .i64 a0_2, .int .i64 a0_3, .int .i64 a0_4]] w fun e w' => e = .returned (.bool r) ∧ Below w.heap.size w w' := by
 have hu25 := Try.underlying25; have hu27 := Try.underlying27; have HB := Aside0.mk (Below.refl w.heap.size w)
 have H : ((impl_within.f a0_0 13 1048576).bind fun t198 => (if t198 = true then (if (Int.tmod a0_0 8) = 5 then ((impl_within.f a0_1 2 (wrap64 (a0_0 - 1))).bind fun t199 => (if t199 = true then ((impl_within.f a0_2 5 2097152).bind fun t200 => (if t200 = true then ((impl_PrimeInt.f k a0_0).bind fun t201 => (if t201 = true then ((impl_PrimeInt.f k a0_2).bind fun t202 => (impl_EdOk.j0 k (!t202) a0_0 a0_1 a0_2 a0_3 a0_4)) else (impl_EdOk.j0 k true a0_0 a0_1 a0_2 a0_3 a0_4))) else (impl_EdOk.j0 k true a0_0 a0_1 a0_2 a0_3 a0_4))) else (impl_EdOk.j0 k true a0_0 a0_1 a0_2 a0_3 a0_4))) else (impl_EdOk.j0 k true a0_0 a0_1 a0_2 a0_3 a0_4)) else (impl_EdOk.j0 k true a0_0 a0_1 a0_2 a0_3 a0_4))) = some r := h
 clear h; have HC2 := Aside0.mk H; clear H
 go_enter Try.func7, Try.ntmps7
 go_upto_region 1 with (first | ((with_reducible refine gate_dst (N := 1) rfl ?_); refine box_event ?hg (N := 1) ?hd (cs := #[.int .i64 a0_0, .int .i64 a0_1, .int .i64 a0_2, .int .i64 a0_3, .int .i64 a0_4]) (t := 25) ?hr ?_; (case hd => rfl); (case hg => rfl); (case hr => first | (go_simp; done) | (go_simp; rfl)); intro gb197 hg w3 hbox hb; have BK197 := Aside0.mk hbox; have GW197 := ge_ HB hg; have GE197 := ge_ HB hg; replace HB := bs_ HB hb; clear hb hbox hg))
 (try simp only [Act.put, sA_, sZ_, sS_])
 go_cut [39] (fun v39 wc => ∃ (kq : Nat) (x39_1 : Bool), v39 = .bool x39_1 ∧ Aside0 (impl_EdOk.j0 kq x39_1 a0_0 a0_1 a0_2 a0_3 a0_4 = some r) ∧ Aside0 (kq ≤ k) ∧ Aside0 (wc.heap[gb197]? = some (.cells #[.int .i64 a0_0, .int .i64 a0_1, .int .i64 a0_2, .int .i64 a0_3, .int .i64 a0_4] 25 (0, 0))) ∧ Aside0 (Below w.heap.size w wc))
 case first =>
  have H := HC2.out; clear HC2; obtain ⟨t198, A40, H⟩ := pb_ H
  have A4 := Aside0.mk A40; clear A40
  by_cases c5 : t198 = true
  ·
   subst c5; rw [if_pos rfl] at H
   by_cases c6 : (Int.tmod a0_0 8) = 5
   ·
    rw [if_pos c6] at H
    have c6b0 : ((Int.tmod a0_0 8) == 5) = true := beq_iff_eq.mpr c6
    have c6b1 : ((Int.tmod a0_0 8) != 5) = false := bne_eq_false_iff_eq.mpr c6
    clear c6
    (first | rw [c6b0] | (simp only [i64_w, i32_w]; rw [c6b0]) | skip)
    obtain ⟨t199, A70, H⟩ := pb_ H; have A7 := Aside0.mk A70; clear A70
    by_cases c8 : t199 = true
    ·
     subst c8
     rw [if_pos rfl] at H; obtain ⟨t200, A90, H⟩ := pb_ H
     have A9 := Aside0.mk A90; clear A90
     by_cases c10 : t200 = true
     ·
      subst c10
      rw [if_pos rfl] at H; obtain ⟨t201, A110, H⟩ := pb_ H
      have A11 := Aside0.mk A110; clear A110
      by_cases c12 : t201 = true
      ·
       subst c12
       rw [if_pos rfl] at H; obtain ⟨t202, A130, H⟩ := pb_ H
       have A13 := Aside0.mk A130; clear A130
       have H' := Aside0.mk H
       clear H; obtain ⟨hcz14_0, hcz14_1, hcz14_2, hcz14_3, hcz14_4, hfz14_0, hfz14_1, hfz14_2, hfz14_3, hfz14_4⟩ := bx5_ BK197
       go_wp2_with (first | ((with_reducible refine gate_callee (f := 24) rfl ?_); refine gl_ 5 rfl rfl Try.func24 #[.int .i64 a0_0, .int .i64 13, .int .i64 1048576] rfl ?_; (with_reducible refine (impl_within.calls a0_0 13 1048576 true _ A4.out).mono ?_); rintro e w' ⟨rfl, ⟨nd, rfl⟩⟩; refine ⟨_, rfl, ?_⟩) | (go_at_call 24; (with_reducible refine (impl_within.calls a0_1 2 (wrap64 (a0_0 - 1)) true _ A7.out).mono ?_); rintro e w' ⟨rfl, ⟨nd, rfl⟩⟩) | (go_at_call 24; (with_reducible refine (impl_within.calls a0_2 5 2097152 true _ A9.out).mono ?_); rintro e w' ⟨rfl, ⟨nd, rfl⟩⟩) | (go_at_call 25; (with_reducible refine (impl_PrimeInt.calls k a0_0 true _ A11.out).mono ?_); rintro e w' ⟨rfl, ⟨nd, rfl⟩⟩) | (go_at_call 25; (with_reducible refine (impl_PrimeInt.calls k a0_2 t202 _ A13.out).mono ?_); rintro e w' ⟨rfl, ⟨nd, rfl⟩⟩))
       go_meet
       case rel => exact ⟨_, (!t202), (by first | rfl | (simp; done) | (simp [*]; done)), H', ⟨by first | omega | exact Nat.le_refl _⟩, ⟨bk_ BK197⟩, ⟨bw_ HB⟩⟩
      ·
       replace c12 := Bool.eq_false_iff.mpr c12; subst c12
       rw [if_neg (show ¬ (false = true) by decide)] at H
       have H' := Aside0.mk H
       clear H; obtain ⟨hcz15_0, hcz15_1, hcz15_2, hcz15_3, hcz15_4, hfz15_0, hfz15_1, hfz15_2, hfz15_3, hfz15_4⟩ := bx5_ BK197
       go_wp2_with (first | ((with_reducible refine gate_callee (f := 24) rfl ?_); refine gl_ 5 rfl rfl Try.func24 #[.int .i64 a0_0, .int .i64 13, .int .i64 1048576] rfl ?_; (with_reducible refine (impl_within.calls a0_0 13 1048576 true _ A4.out).mono ?_); rintro e w' ⟨rfl, ⟨nd, rfl⟩⟩; refine ⟨_, rfl, ?_⟩) | (go_at_call 24; (with_reducible refine (impl_within.calls a0_1 2 (wrap64 (a0_0 - 1)) true _ A7.out).mono ?_); rintro e w' ⟨rfl, ⟨nd, rfl⟩⟩) | (go_at_call 24; (with_reducible refine (impl_within.calls a0_2 5 2097152 true _ A9.out).mono ?_); rintro e w' ⟨rfl, ⟨nd, rfl⟩⟩) | (go_at_call 25; (with_reducible refine (impl_PrimeInt.calls k a0_0 false _ A11.out).mono ?_); rintro e w' ⟨rfl, ⟨nd, rfl⟩⟩))
       go_meet
       case rel => exact ⟨_, (true), (by first | rfl | (simp; done) | (simp [*]; done)), H', ⟨by first | omega | exact Nat.le_refl _⟩, ⟨bk_ BK197⟩, ⟨bw_ HB⟩⟩
     ·
      replace c10 := Bool.eq_false_iff.mpr c10; subst c10
      rw [if_neg (show ¬ (false = true) by decide)] at H
      have H' := Aside0.mk H
      clear H; obtain ⟨hcz16_0, hcz16_1, hcz16_2, hcz16_3, hcz16_4, hfz16_0, hfz16_1, hfz16_2, hfz16_3, hfz16_4⟩ := bx5_ BK197
      go_wp2_with (first | ((with_reducible refine gate_callee (f := 24) rfl ?_); refine gl_ 5 rfl rfl Try.func24 #[.int .i64 a0_0, .int .i64 13, .int .i64 1048576] rfl ?_; (with_reducible refine (impl_within.calls a0_0 13 1048576 true _ A4.out).mono ?_); rintro e w' ⟨rfl, ⟨nd, rfl⟩⟩; refine ⟨_, rfl, ?_⟩) | (go_at_call 24; (with_reducible refine (impl_within.calls a0_1 2 (wrap64 (a0_0 - 1)) true _ A7.out).mono ?_); rintro e w' ⟨rfl, ⟨nd, rfl⟩⟩) | (go_at_call 24; (with_reducible refine (impl_within.calls a0_2 5 2097152 false _ A9.out).mono ?_); rintro e w' ⟨rfl, ⟨nd, rfl⟩⟩))
      go_meet
      case rel => exact ⟨_, (true), (by first | rfl | (simp; done) | (simp [*]; done)), H', ⟨by first | omega | exact Nat.le_refl _⟩, ⟨bk_ BK197⟩, ⟨bw_ HB⟩⟩
    ·
     replace c8 := Bool.eq_false_iff.mpr c8; subst c8
     rw [if_neg (show ¬ (false = true) by decide)] at H
     have H' := Aside0.mk H
     clear H; obtain ⟨hcz17_0, hcz17_1, hcz17_2, hcz17_3, hcz17_4, hfz17_0, hfz17_1, hfz17_2, hfz17_3, hfz17_4⟩ := bx5_ BK197
     go_wp2_with (first | ((with_reducible refine gate_callee (f := 24) rfl ?_); refine gl_ 5 rfl rfl Try.func24 #[.int .i64 a0_0, .int .i64 13, .int .i64 1048576] rfl ?_; (with_reducible refine (impl_within.calls a0_0 13 1048576 true _ A4.out).mono ?_); rintro e w' ⟨rfl, ⟨nd, rfl⟩⟩; refine ⟨_, rfl, ?_⟩) | (go_at_call 24; (with_reducible refine (impl_within.calls a0_1 2 (wrap64 (a0_0 - 1)) false _ A7.out).mono ?_); rintro e w' ⟨rfl, ⟨nd, rfl⟩⟩))
     go_meet
     case rel => exact ⟨_, (true), (by first | rfl | (simp; done) | (simp [*]; done)), H', ⟨by first | omega | exact Nat.le_refl _⟩, ⟨bk_ BK197⟩, ⟨bw_ HB⟩⟩
   ·
    rw [if_neg c6] at H
    have c6b0 : ((Int.tmod a0_0 8) == 5) = false := beq_eq_false_iff_ne.mpr c6
    have c6b1 : ((Int.tmod a0_0 8) != 5) = true := bne_iff_ne.mpr c6
    (first | rw [c6b0] | (simp only [i64_w, i32_w]; rw [c6b0]) | skip)
    have H' := Aside0.mk H
    clear H; obtain ⟨hcz18_0, hcz18_1, hcz18_2, hcz18_3, hcz18_4, hfz18_0, hfz18_1, hfz18_2, hfz18_3, hfz18_4⟩ := bx5_ BK197
    go_wp2_with (first | ((with_reducible refine gate_callee (f := 24) rfl ?_); refine gl_ 5 rfl rfl Try.func24 #[.int .i64 a0_0, .int .i64 13, .int .i64 1048576] rfl ?_; (with_reducible refine (impl_within.calls a0_0 13 1048576 true _ A4.out).mono ?_); rintro e w' ⟨rfl, ⟨nd, rfl⟩⟩; refine ⟨_, rfl, ?_⟩))
    go_meet
    case rel => exact ⟨_, (true), (by first | rfl | (simp; done) | (simp [*]; done)), H', ⟨by first | omega | exact Nat.le_refl _⟩, ⟨bk_ BK197⟩, ⟨bw_ HB⟩⟩
  ·
   replace c5 := Bool.eq_false_iff.mpr c5; subst c5
   rw [if_neg (show ¬ (false = true) by decide)] at H
   have H' := Aside0.mk H
   clear H; obtain ⟨hcz19_0, hcz19_1, hcz19_2, hcz19_3, hcz19_4, hfz19_0, hfz19_1, hfz19_2, hfz19_3, hfz19_4⟩ := bx5_ BK197
   go_wp2_with (first | ((with_reducible refine gate_callee (f := 24) rfl ?_); refine gl_ 5 rfl rfl Try.func24 #[.int .i64 a0_0, .int .i64 13, .int .i64 1048576] rfl ?_; (with_reducible refine (impl_within.calls a0_0 13 1048576 false _ A4.out).mono ?_); rintro e w' ⟨rfl, ⟨nd, rfl⟩⟩; refine ⟨_, rfl, ?_⟩))
   go_meet
   case rel => exact ⟨_, (true), (by first | rfl | (simp; done) | (simp [*]; done)), H', ⟨by first | omega | exact Nat.le_refl _⟩, ⟨bk_ BK197⟩, ⟨bw_ HB⟩⟩
 case rest =>
  clear HC2
  try clear c1
  try clear c2
  try clear p2
  try clear c5
  try clear c6
  try clear c6b0
  try clear c6b1
  try clear p6
  try clear c7
  try clear c8
  try clear c10
  try clear c12
  try clear hcz14_0 hcz14_1 hcz14_2 hcz14_3 hcz14_4
  try clear hcz15_0 hcz15_1 hcz15_2 hcz15_3 hcz15_4
  try clear hcz16_0 hcz16_1 hcz16_2 hcz16_3 hcz16_4
  try clear hcz17_0 hcz17_1 hcz17_2 hcz17_3 hcz17_4
  try clear hcz18_0 hcz18_1 hcz18_2 hcz18_3 hcz18_4
  try clear hcz19_0 hcz19_1 hcz19_2 hcz19_3 hcz19_4
  try clear hfz14_0 hfz14_1 hfz14_2 hfz14_3 hfz14_4
  try clear hfz15_0 hfz15_1 hfz15_2 hfz15_3 hfz15_4
  try clear hfz16_0 hfz16_1 hfz16_2 hfz16_3 hfz16_4
  try clear hfz17_0 hfz17_1 hfz17_2 hfz17_3 hfz17_4
  try clear hfz18_0 hfz18_1 hfz18_2 hfz18_3 hfz18_4
  try clear hfz19_0 hfz19_1 hfz19_2 hfz19_3 hfz19_4
  obtain ⟨kq, x39_1, rfl, HA, HJ1, BK197, HB⟩ := hcut
  cases kq with
  | zero => exact absurd HA.out (by simp [impl_EdOk.j0])
  | succ kj1 =>
   have H := HA.out; clear HA
   simp only [impl_EdOk.j0] at H
   by_cases c20 : x39_1 = true
   ·
    subst c20
    rw [if_pos rfl] at H; obtain rfl := Option.some.inj H
    go_wp2
    go_ret
    exact ⟨by first | rfl | (simp [errW_none, errW_some] <;> rfl) | (simp [*, errW_none, errW_some] <;> rfl), by repeat (first | (with_reducible first | exact HB.out | apply below_alloc | apply pw_below_drewN | apply below_drew1 | refine below_set ?_ GE197.out) | exact HB.out)⟩
   ·
    replace c20 := Bool.eq_false_iff.mpr c20; subst c20
    rw [if_neg (show ¬ (false = true) by decide)] at H; have HC21 := Aside0.mk H; clear H
    go_upto_region 3 with (fail)
    go_cut [62] (fun v62 wc => ∃ (kq : Nat) (x62_20 : Bool), v62 = .bool x62_20 ∧ Aside0 (impl_EdOk.j1 kq x62_20 a0_0 a0_1 a0_2 a0_3 a0_4 = some r) ∧ Aside0 (kq ≤ kj1) ∧ Aside0 (wc.heap[gb197]? = some (.cells #[.int .i64 a0_0, .int .i64 a0_1, .int .i64 a0_2, .int .i64 a0_3, .int .i64 a0_4] 25 (0, 0))) ∧ Aside0 (Below w.heap.size w wc))
    case first =>
     have H := HC21.out; clear HC21; obtain ⟨t203, A220, H⟩ := pb_ H
     have A22 := Aside0.mk A220; clear A220
     by_cases c23 : t203 = 1
     ·
      rw [if_pos c23] at H
      have c23b0 : (t203 == 1) = true := beq_iff_eq.mpr c23
      have c23b1 : (t203 != 1) = false := bne_eq_false_iff_eq.mpr c23
      clear c23
      (first | rw [c23b0] | (simp only [i64_w, i32_w]; rw [c23b0]) | skip)
      have H' := Aside0.mk H
      clear H
      try go_wp2
      replace BK197 := Aside0.mk (blk_drew BK197.out); replace HB := Aside0.mk (below_drew1 HB.out); refine start_ (n := 23) (S := fun w' => w'.cell? ⟨gb197, 0, none⟩ = some (.int .i64 a0_0) ∧ w'.cell? ⟨gb197, 1, none⟩ = some (.int .i64 a0_1) ∧ w'.cell? ⟨gb197, 2, none⟩ = some (.int .i64 a0_2) ∧ w'.cell? ⟨gb197, 3, none⟩ = some (.int .i64 a0_3) ∧ w'.cell? ⟨gb197, 4, none⟩ = some (.int .i64 a0_4)) (ds := []) (bl_ 23 0) (by kernel_rfl) rfl rfl ⟨bc_ BK197 0, bc_ BK197 1, bc_ BK197 2, bc_ BK197 3, bc_ BK197 4⟩ (fun hHeld => ?_); refine with_tabW impl_EdOk.tab3 impl_EdOk.bits3 (fun HT_ HW_ => ?_)
      generalize wc.drew = w24 at BK197 HB hHeld ⊢
      refine pu_ 0 40 (bl_ 23 1) rfl rfl HT_ ?_; refine pu_ 2 42 (bl_ 23 5) rfl rfl HT_ ?_; refine pu_ 6 46 (bl_ 23 69) rfl rfl HT_ ?_; refine tk_ 1 41 (bl_ 23 71) rfl rfl HT_ HW_ hHeld (by rintro w' ⟨s0, s1, s2, s3, s4⟩; go_simp; with_reducible rfl) ?_; refine tk_ 3 43 (bl_ 23 79) rfl rfl HT_ HW_ hHeld (by rintro w' ⟨s0, s1, s2, s3, s4⟩; go_simp; with_reducible rfl) ?_; refine pu_ 4 44 (bl_ 23 95) rfl rfl HT_ ?_; refine pu_ 5 45 (bl_ 23 127) rfl rfl HT_ ?_; refine tk_ 7 47 (bl_ 23 255) rfl rfl HT_ HW_ hHeld (by rintro w' ⟨s0, s1, s2, s3, s4⟩; go_simp; with_reducible rfl) ?_; refine one_ (i := 8) (N := some 48) (bl_ 23 511) rfl rfl (one_of HT_.out (by kernel_rfl)) (by decide) (fun K hK => ?_); refine gs_ Try.func26 #[.int .i64 a0_1, .int .i64 (wrap64 (Int.tdiv (wrap64 (a0_0 - 1)) 2)), .int .i64 a0_0] ?_
      with_reducible refine (impl_powInt.calls kj1 a0_1 (wrap64 (Int.tdiv (wrap64 (a0_0 - 1)) 2)) a0_0 t203 _ A22.out).mono ?_
      rintro e w' ⟨rfl, ⟨nd, rfl⟩⟩; refine ⟨_, rfl, ?_⟩; refine hK.out _ _ ⟨bc_ BK197 0, bc_ BK197 1, bc_ BK197 2, bc_ BK197 3, bc_ BK197 4⟩ (fun hHeld => ?_); clear hK K
      apply norm_
      · show Act.put _ (some 48) _ = _; simp only [Act.put, sA_, sZ_, sS_, i64_w, i32_w]; rfl
      refine pu_ 9 49 (bl_ 23 1023) rfl rfl HT_ ?_; refine pu_ 10 50 (bl_ 23 2047) rfl rfl HT_ ?_; refine pz_ 11 51 (bl_ 23 4095) rfl rfl HT_ ?_; refine pz_ 12 52 (bl_ 23 8191) rfl rfl HT_ ?_; refine pz_ 13 53 (bl_ 23 16383) rfl rfl HT_ ?_; refine pz_ 14 54 (bl_ 23 32767) rfl rfl HT_ ?_; refine pz_ 15 55 (bl_ 23 65535) rfl rfl HT_ ?_; refine pu_ 16 56 (bl_ 23 131071) rfl rfl HT_ ?_; refine pu_ 17 57 (bl_ 23 262143) rfl rfl HT_ ?_; refine pz_ 18 58 (bl_ 23 524287) rfl rfl HT_ ?_; refine pz_ 19 59 (bl_ 23 1048575) rfl rfl HT_ ?_; refine pz_ 20 60 (bl_ 23 2097151) rfl rfl HT_ ?_; refine pz_ 21 61 (bl_ 23 4194303) rfl rfl HT_ ?_; refine pu_ 22 62 (bl_ 23 8388607) rfl rfl HT_ ?_; refine done_ (done_of HT_.out (by kernel_rfl)) ?_
      try go_wp2
      go_meet
      case rel => exact ⟨_, (true), (by first | rfl | (simp; done) | (simp [*]; done)), H', ⟨by have := HJ1.out; first | omega | exact Nat.le_refl _⟩, ⟨bk_ BK197⟩, ⟨bw_ HB⟩⟩
     ·
      rw [if_neg c23] at H
      have c23b0 : (t203 == 1) = false := beq_eq_false_iff_ne.mpr c23
      have c23b1 : (t203 != 1) = true := bne_iff_ne.mpr c23
      (first | rw [c23b0] | (simp only [i64_w, i32_w]; rw [c23b0]) | skip)
      obtain ⟨⟨t204, t205⟩, A250, H⟩ := pb_ H; have A25 := Aside0.mk A250; clear A250; obtain ⟨t206, A260, H⟩ := pb_ H
      have A26 := Aside0.mk A260; clear A260
      by_cases c27 : t206 = true
      ·
       subst c27
       rw [if_pos rfl] at H; obtain ⟨⟨t207, t208⟩, A280, H⟩ := pb_ H
       have A28 := Aside0.mk A280; clear A280
       have H' := Aside0.mk H
       clear H
       try go_wp2
       replace BK197 := Aside0.mk (blk_drew BK197.out); replace HB := Aside0.mk (below_drew1 HB.out); refine start_ (n := 23) (S := fun w' => w'.cell? ⟨gb197, 0, none⟩ = some (.int .i64 a0_0) ∧ w'.cell? ⟨gb197, 1, none⟩ = some (.int .i64 a0_1) ∧ w'.cell? ⟨gb197, 2, none⟩ = some (.int .i64 a0_2) ∧ w'.cell? ⟨gb197, 3, none⟩ = some (.int .i64 a0_3) ∧ w'.cell? ⟨gb197, 4, none⟩ = some (.int .i64 a0_4)) (ds := []) (bl_ 23 0) (by kernel_rfl) rfl rfl ⟨bc_ BK197 0, bc_ BK197 1, bc_ BK197 2, bc_ BK197 3, bc_ BK197 4⟩ (fun hHeld => ?_); refine with_tabW impl_EdOk.tab3 impl_EdOk.bits3 (fun HT_ HW_ => ?_)
       generalize wc.drew = w29 at BK197 HB hHeld ⊢
       refine pu_ 0 40 (bl_ 23 1) rfl rfl HT_ ?_; refine pu_ 2 42 (bl_ 23 5) rfl rfl HT_ ?_; refine pu_ 6 46 (bl_ 23 69) rfl rfl HT_ ?_; refine tk_ 1 41 (bl_ 23 71) rfl rfl HT_ HW_ hHeld (by rintro w' ⟨s0, s1, s2, s3, s4⟩; go_simp; with_reducible rfl) ?_; refine tk_ 3 43 (bl_ 23 79) rfl rfl HT_ HW_ hHeld (by rintro w' ⟨s0, s1, s2, s3, s4⟩; go_simp; with_reducible rfl) ?_; refine pu_ 4 44 (bl_ 23 95) rfl rfl HT_ ?_; refine pu_ 5 45 (bl_ 23 127) rfl rfl HT_ ?_; refine tk_ 7 47 (bl_ 23 255) rfl rfl HT_ HW_ hHeld (by rintro w' ⟨s0, s1, s2, s3, s4⟩; go_simp; with_reducible rfl) ?_; refine one_ (i := 8) (N := some 48) (bl_ 23 511) rfl rfl (one_of HT_.out (by kernel_rfl)) (by decide) (fun K hK => ?_); refine gs_ Try.func26 #[.int .i64 a0_1, .int .i64 (wrap64 (Int.tdiv (wrap64 (a0_0 - 1)) 2)), .int .i64 a0_0] ?_
       with_reducible refine (impl_powInt.calls kj1 a0_1 (wrap64 (Int.tdiv (wrap64 (a0_0 - 1)) 2)) a0_0 t203 _ A22.out).mono ?_
       rintro e w' ⟨rfl, ⟨nd, rfl⟩⟩; refine ⟨_, rfl, ?_⟩; refine hK.out _ _ ⟨bc_ BK197 0, bc_ BK197 1, bc_ BK197 2, bc_ BK197 3, bc_ BK197 4⟩ (fun hHeld => ?_); clear hK K
       apply norm_
       · show Act.put _ (some 48) _ = _; simp only [Act.put, sA_, sZ_, sS_, i64_w, i32_w]; rfl
       refine pu_ 9 49 (bl_ 23 1023) rfl rfl HT_ ?_; refine pu_ 10 50 (bl_ 23 2047) rfl rfl HT_ ?_; refine tk_ 11 51 (bl_ 23 4095) rfl rfl HT_ HW_ hHeld (by rintro w' ⟨s0, s1, s2, s3, s4⟩; go_simp; with_reducible rfl) ?_; refine tk_ 12 52 (bl_ 23 8191) rfl rfl HT_ HW_ hHeld (by rintro w' ⟨s0, s1, s2, s3, s4⟩; go_simp; with_reducible rfl) ?_; refine one_ (i := 13) (N := some 53) (bl_ 23 16383) rfl rfl (one_of HT_.out (by kernel_rfl)) (by decide) (fun K hK => ?_); refine gs_ Try.func28 #[.agg #[.int .i64 a0_0, .int .i64 a0_1, .int .i64 a0_2, .int .i64 a0_3, .int .i64 a0_4]] ?_
       with_reducible refine (impl_Ed_base.calls a0_0 a0_1 a0_2 a0_3 a0_4 t204 t205 _ A25.out).mono ?_
       rintro e w30 ⟨rfl, hb⟩; refine ⟨_, rfl, ?_⟩; replace BK197 := bb_ BK197 hb; replace HB := bs_ HB hb; (try clear hb); refine hK.out _ _ ⟨bc_ BK197 0, bc_ BK197 1, bc_ BK197 2, bc_ BK197 3, bc_ BK197 4⟩ (fun hHeld => ?_); clear hK K
       apply norm_
       · show Act.put _ (some 53) _ = _; simp only [Act.put, sA_, sZ_, sS_, i64_w, i32_w]; rfl
       refine one_ (i := 14) (N := some 54) (bl_ 23 32767) rfl rfl (one_of HT_.out (by kernel_rfl)) (by decide) (fun K hK => ?_); refine gs_ Try.func27 #[.agg #[.int .i64 a0_0, .int .i64 a0_1, .int .i64 a0_2, .int .i64 a0_3, .int .i64 a0_4], .agg #[.int .i64 t204, .int .i64 t205]] ?_
       with_reducible refine (impl_Ed_isPair.calls a0_0 a0_1 a0_2 a0_3 a0_4 t204 t205 true _ A26.out).mono ?_
       rintro e w31 ⟨rfl, hb⟩; refine ⟨_, rfl, ?_⟩; replace BK197 := bb_ BK197 hb; replace HB := bs_ HB hb; (try clear hb); refine hK.out _ _ ⟨bc_ BK197 0, bc_ BK197 1, bc_ BK197 2, bc_ BK197 3, bc_ BK197 4⟩ (fun hHeld => ?_); clear hK K
       apply norm_
       · show Act.put _ (some 54) _ = _; simp only [Act.put, sA_, sZ_, sS_, i64_w, i32_w]; rfl
       refine pu_ 15 55 (bl_ 23 65535) rfl rfl HT_ ?_; refine pu_ 16 56 (bl_ 23 131071) rfl rfl HT_ ?_; refine pu_ 17 57 (bl_ 23 262143) rfl rfl HT_ ?_; refine pu_ 20 60 (bl_ 23 1310719) rfl rfl HT_ ?_; refine tk_ 18 58 (bl_ 23 1572863) rfl rfl HT_ HW_ hHeld (by rintro w' ⟨s0, s1, s2, s3, s4⟩; go_simp; with_reducible rfl) ?_; refine one_ (i := 19) (N := some 59) (bl_ 23 2097151) rfl rfl (one_of HT_.out (by kernel_rfl)) (by decide) (fun K hK => ?_); refine gs_ Try.func28 #[.agg #[.int .i64 a0_0, .int .i64 a0_1, .int .i64 a0_2, .int .i64 a0_3, .int .i64 a0_4]] ?_
       with_reducible refine (impl_Ed_base.calls a0_0 a0_1 a0_2 a0_3 a0_4 t207 t208 _ A28.out).mono ?_
       rintro e w32 ⟨rfl, hb⟩; refine ⟨_, rfl, ?_⟩; replace BK197 := bb_ BK197 hb; replace HB := bs_ HB hb; (try clear hb); refine hK.out _ _ ⟨bc_ BK197 0, bc_ BK197 1, bc_ BK197 2, bc_ BK197 3, bc_ BK197 4⟩ (fun hHeld => ?_); clear hK K
       apply norm_
       · show Act.put _ (some 59) _ = _; simp only [Act.put, sA_, sZ_, sS_, i64_w, i32_w]; rfl
       refine pu_ 21 61 (bl_ 23 4194303) rfl rfl HT_ ?_; refine pu_ 22 62 (bl_ 23 8388607) rfl rfl HT_ ?_; refine done_ (done_of HT_.out (by kernel_rfl)) ?_
       try go_wp2
       go_meet
       case rel => exact ⟨_, ((t207 == 0 && (t208 == 1))), (by first | rfl | (simp; done) | (simp [*]; done)), H', ⟨by have := HJ1.out; first | omega | exact Nat.le_refl _⟩, ⟨bk_ BK197⟩, ⟨bw_ HB⟩⟩
      ·
       replace c27 := Bool.eq_false_iff.mpr c27; subst c27
       rw [if_neg (show ¬ (false = true) by decide)] at H
       have H' := Aside0.mk H
       clear H
       try go_wp2
       replace BK197 := Aside0.mk (blk_drew BK197.out); replace HB := Aside0.mk (below_drew1 HB.out); refine start_ (n := 23) (S := fun w' => w'.cell? ⟨gb197, 0, none⟩ = some (.int .i64 a0_0) ∧ w'.cell? ⟨gb197, 1, none⟩ = some (.int .i64 a0_1) ∧ w'.cell? ⟨gb197, 2, none⟩ = some (.int .i64 a0_2) ∧ w'.cell? ⟨gb197, 3, none⟩ = some (.int .i64 a0_3) ∧ w'.cell? ⟨gb197, 4, none⟩ = some (.int .i64 a0_4)) (ds := []) (bl_ 23 0) (by kernel_rfl) rfl rfl ⟨bc_ BK197 0, bc_ BK197 1, bc_ BK197 2, bc_ BK197 3, bc_ BK197 4⟩ (fun hHeld => ?_); refine with_tabW impl_EdOk.tab3 impl_EdOk.bits3 (fun HT_ HW_ => ?_)
       generalize wc.drew = w33 at BK197 HB hHeld ⊢
       refine pu_ 0 40 (bl_ 23 1) rfl rfl HT_ ?_; refine pu_ 2 42 (bl_ 23 5) rfl rfl HT_ ?_; refine pu_ 6 46 (bl_ 23 69) rfl rfl HT_ ?_; refine tk_ 1 41 (bl_ 23 71) rfl rfl HT_ HW_ hHeld (by rintro w' ⟨s0, s1, s2, s3, s4⟩; go_simp; with_reducible rfl) ?_; refine tk_ 3 43 (bl_ 23 79) rfl rfl HT_ HW_ hHeld (by rintro w' ⟨s0, s1, s2, s3, s4⟩; go_simp; with_reducible rfl) ?_; refine pu_ 4 44 (bl_ 23 95) rfl rfl HT_ ?_; refine pu_ 5 45 (bl_ 23 127) rfl rfl HT_ ?_; refine tk_ 7 47 (bl_ 23 255) rfl rfl HT_ HW_ hHeld (by rintro w' ⟨s0, s1, s2, s3, s4⟩; go_simp; with_reducible rfl) ?_; refine one_ (i := 8) (N := some 48) (bl_ 23 511) rfl rfl (one_of HT_.out (by kernel_rfl)) (by decide) (fun K hK => ?_); refine gs_ Try.func26 #[.int .i64 a0_1, .int .i64 (wrap64 (Int.tdiv (wrap64 (a0_0 - 1)) 2)), .int .i64 a0_0] ?_
       with_reducible refine (impl_powInt.calls kj1 a0_1 (wrap64 (Int.tdiv (wrap64 (a0_0 - 1)) 2)) a0_0 t203 _ A22.out).mono ?_
       rintro e w' ⟨rfl, ⟨nd, rfl⟩⟩; refine ⟨_, rfl, ?_⟩; refine hK.out _ _ ⟨bc_ BK197 0, bc_ BK197 1, bc_ BK197 2, bc_ BK197 3, bc_ BK197 4⟩ (fun hHeld => ?_); clear hK K
       apply norm_
       · show Act.put _ (some 48) _ = _; simp only [Act.put, sA_, sZ_, sS_, i64_w, i32_w]; rfl
       refine pu_ 9 49 (bl_ 23 1023) rfl rfl HT_ ?_; refine pu_ 10 50 (bl_ 23 2047) rfl rfl HT_ ?_; refine tk_ 11 51 (bl_ 23 4095) rfl rfl HT_ HW_ hHeld (by rintro w' ⟨s0, s1, s2, s3, s4⟩; go_simp; with_reducible rfl) ?_; refine tk_ 12 52 (bl_ 23 8191) rfl rfl HT_ HW_ hHeld (by rintro w' ⟨s0, s1, s2, s3, s4⟩; go_simp; with_reducible rfl) ?_; refine one_ (i := 13) (N := some 53) (bl_ 23 16383) rfl rfl (one_of HT_.out (by kernel_rfl)) (by decide) (fun K hK => ?_); refine gs_ Try.func28 #[.agg #[.int .i64 a0_0, .int .i64 a0_1, .int .i64 a0_2, .int .i64 a0_3, .int .i64 a0_4]] ?_
       with_reducible refine (impl_Ed_base.calls a0_0 a0_1 a0_2 a0_3 a0_4 t204 t205 _ A25.out).mono ?_
       rintro e w34 ⟨rfl, hb⟩; refine ⟨_, rfl, ?_⟩; replace BK197 := bb_ BK197 hb; replace HB := bs_ HB hb; (try clear hb); refine hK.out _ _ ⟨bc_ BK197 0, bc_ BK197 1, bc_ BK197 2, bc_ BK197 3, bc_ BK197 4⟩ (fun hHeld => ?_); clear hK K
       apply norm_
       · show Act.put _ (some 53) _ = _; simp only [Act.put, sA_, sZ_, sS_, i64_w, i32_w]; rfl
       refine one_ (i := 14) (N := some 54) (bl_ 23 32767) rfl rfl (one_of HT_.out (by kernel_rfl)) (by decide) (fun K hK => ?_); refine gs_ Try.func27 #[.agg #[.int .i64 a0_0, .int .i64 a0_1, .int .i64 a0_2, .int .i64 a0_3, .int .i64 a0_4], .agg #[.int .i64 t204, .int .i64 t205]] ?_
       with_reducible refine (impl_Ed_isPair.calls a0_0 a0_1 a0_2 a0_3 a0_4 t204 t205 false _ A26.out).mono ?_
       rintro e w35 ⟨rfl, hb⟩; refine ⟨_, rfl, ?_⟩; replace BK197 := bb_ BK197 hb; replace HB := bs_ HB hb; (try clear hb); refine hK.out _ _ ⟨bc_ BK197 0, bc_ BK197 1, bc_ BK197 2, bc_ BK197 3, bc_ BK197 4⟩ (fun hHeld => ?_); clear hK K
       apply norm_
       · show Act.put _ (some 54) _ = _; simp only [Act.put, sA_, sZ_, sS_, i64_w, i32_w]; rfl
       refine pu_ 15 55 (bl_ 23 65535) rfl rfl HT_ ?_; refine pu_ 16 56 (bl_ 23 131071) rfl rfl HT_ ?_; refine pu_ 17 57 (bl_ 23 262143) rfl rfl HT_ ?_; refine pz_ 18 58 (bl_ 23 524287) rfl rfl HT_ ?_; refine pz_ 19 59 (bl_ 23 1048575) rfl rfl HT_ ?_; refine pz_ 20 60 (bl_ 23 2097151) rfl rfl HT_ ?_; refine pz_ 21 61 (bl_ 23 4194303) rfl rfl HT_ ?_; refine pu_ 22 62 (bl_ 23 8388607) rfl rfl HT_ ?_; refine done_ (done_of HT_.out (by kernel_rfl)) ?_
       try go_wp2
       go_meet
       case rel => exact ⟨_, (true), (by first | rfl | (simp; done) | (simp [*]; done)), H', ⟨by have := HJ1.out; first | omega | exact Nat.le_refl _⟩, ⟨bk_ BK197⟩, ⟨bw_ HB⟩⟩
    case rest =>
     clear HC21
     try clear c2
     try clear p2
     try clear p6
     try clear c23
     try clear c23b0
     try clear c23b1
     try clear c26
     try clear c27
     try clear c28
     obtain ⟨kq, x62_20, rfl, HA, HJ20, BK197, HB⟩ := hcut
     cases kq with
     | zero => exact absurd HA.out (by simp [impl_EdOk.j1])
     | succ kj20 =>
      have H := HA.out; clear HA
      simp only [impl_EdOk.j1] at H
      by_cases c36 : x62_20 = true
      ·
       subst c36
       rw [if_pos rfl] at H; obtain rfl := Option.some.inj H
       go_wp2
       go_ret
       exact ⟨by first | rfl | (simp [errW_none, errW_some] <;> rfl) | (simp [*, errW_none, errW_some] <;> rfl), by repeat (first | (with_reducible first | exact HB.out | apply below_alloc | apply pw_below_drewN | apply below_drew1 | refine below_set ?_ GE197.out) | exact HB.out)⟩
      ·
       replace c36 := Bool.eq_false_iff.mpr c36; subst c36
       rw [if_neg (show ¬ (false = true) by decide)] at H; obtain ⟨⟨t209, t210⟩, A370, H⟩ := pb_ H
       have A37 := Aside0.mk A370; clear A370; obtain ⟨⟨t211, t212⟩, A380, H⟩ := pb_ H
       have A38 := Aside0.mk A380; clear A380; obtain rfl := Option.some.inj H
       try go_wp2
       replace BK197 := Aside0.mk (blk_drew BK197.out); replace HB := Aside0.mk (below_drew1 HB.out); refine start_ (n := 9) (S := fun w' => w'.cell? ⟨gb197, 0, none⟩ = some (.int .i64 a0_0) ∧ w'.cell? ⟨gb197, 1, none⟩ = some (.int .i64 a0_1) ∧ w'.cell? ⟨gb197, 2, none⟩ = some (.int .i64 a0_2) ∧ w'.cell? ⟨gb197, 3, none⟩ = some (.int .i64 a0_3) ∧ w'.cell? ⟨gb197, 4, none⟩ = some (.int .i64 a0_4)) (ds := []) (bl_ 9 0) (by kernel_rfl) rfl rfl ⟨bc_ BK197 0, bc_ BK197 1, bc_ BK197 2, bc_ BK197 3, bc_ BK197 4⟩ (fun hHeld => ?_); refine with_tabW impl_EdOk.tab5 impl_EdOk.bits5 (fun HT_ HW_ => ?_)
       generalize wc.drew = w39 at BK197 HB hHeld ⊢
       refine pu_ 1 64 (bl_ 9 2) rfl rfl HT_ ?_; refine pu_ 6 69 (bl_ 9 66) rfl rfl HT_ ?_; refine tk_ 0 63 (bl_ 9 67) rfl rfl HT_ HW_ hHeld (by rintro w' ⟨s0, s1, s2, s3, s4⟩; go_simp; with_reducible rfl) ?_; refine tk_ 2 65 (bl_ 9 71) rfl rfl HT_ HW_ hHeld (by rintro w' ⟨s0, s1, s2, s3, s4⟩; go_simp; with_reducible rfl) ?_; refine tk_ 3 66 (bl_ 9 79) rfl rfl HT_ HW_ hHeld (by rintro w' ⟨s0, s1, s2, s3, s4⟩; go_simp; with_reducible rfl) ?_; refine one_ (i := 4) (N := some 67) (bl_ 9 95) rfl rfl (one_of HT_.out (by kernel_rfl)) (by decide) (fun K hK => ?_); refine gs_ Try.func28 #[.agg #[.int .i64 a0_0, .int .i64 a0_1, .int .i64 a0_2, .int .i64 a0_3, .int .i64 a0_4]] ?_
       with_reducible refine (impl_Ed_base.calls a0_0 a0_1 a0_2 a0_3 a0_4 t209 t210 _ A37.out).mono ?_
       rintro e w40 ⟨rfl, hb⟩; refine ⟨_, rfl, ?_⟩; replace BK197 := bb_ BK197 hb; replace HB := bs_ HB hb; (try clear hb); refine hK.out _ _ ⟨bc_ BK197 0, bc_ BK197 1, bc_ BK197 2, bc_ BK197 3, bc_ BK197 4⟩ (fun hHeld => ?_); clear hK K
       apply norm_
       · show Act.put _ (some 67) _ = _; simp only [Act.put, sA_, sZ_, sS_, i64_w, i32_w]; rfl
       refine one_ (i := 5) (N := some 68) (bl_ 9 127) rfl rfl (one_of HT_.out (by kernel_rfl)) (by decide) (fun K hK => ?_); refine gs_ Try.func29 #[.agg #[.int .i64 a0_0, .int .i64 a0_1, .int .i64 a0_2, .int .i64 a0_3, .int .i64 a0_4], .int .i64 a0_2, .agg #[.int .i64 t209, .int .i64 t210]] ?_
       with_reducible refine (impl_Ed_times.calls kj20 a0_0 a0_1 a0_2 a0_3 a0_4 a0_2 t209 t210 t211 t212 _ A38.out).mono ?_
       rintro e w41 ⟨rfl, hb⟩; refine ⟨_, rfl, ?_⟩; replace BK197 := bb_ BK197 hb; replace HB := bs_ HB hb; (try clear hb); refine hK.out _ _ ⟨bc_ BK197 0, bc_ BK197 1, bc_ BK197 2, bc_ BK197 3, bc_ BK197 4⟩ (fun hHeld => ?_); clear hK K
       apply norm_
       · show Act.put _ (some 68) _ = _; simp only [Act.put, sA_, sZ_, sS_, i64_w, i32_w]; rfl
       refine pu_ 7 70 (bl_ 9 255) rfl rfl HT_ ?_; refine pu_ 8 2 (bl_ 9 511) rfl rfl HT_ ?_; refine done_ (done_of HT_.out (by kernel_rfl)) ?_
       try go_wp2
       go_ret
       exact ⟨by first | rfl | (simp [errW_none, errW_some] <;> rfl) | (simp [*, errW_none, errW_some] <;> rfl), by repeat (first | (with_reducible first | exact HB.out | apply below_alloc | apply pw_below_drewN | apply below_drew1 | refine below_set ?_ GE197.out) | exact HB.out)⟩

attribute [local go_sem] fld_
/-! ### impl_PairOk: function 8 -/
def impl_PairOk.f (k : Nat) (a0_0 : Int) (a0_1 : Int) (a0_2 : Int) (a0_3 : Int) (a0_4 : Int) (a1_0 : Int) (a1_1 : Int) : Option (Bool) := (impl_EdOk.f k a0_0 a0_1 a0_2 a0_3 a0_4).bind fun t215 => (if t215 = true then ((impl_Ed_isPair.f a0_0 a0_1 a0_2 a0_3 a0_4 a1_0 a1_1).bind fun t216 => (some t216)) else (some false))
theorem impl_PairOk.mono : ∀ a0 a1 a2 a3 a4 a5 a6 k, LeO (impl_PairOk.f k a0 a1 a2 a3 a4 a5 a6) (impl_PairOk.f (k + 1) a0 a1 a2 a3 a4 a5 a6) := by
  intro a0 a1 a2 a3 a4 a5 a6 k
  unfold impl_PairOk.f
  repeat' first
      | (with_reducible exact impl_EdOk.mono _ _ _ _ _ _)
      | (with_reducible exact LeO.refl _)
      | (with_reducible exact LeO.none _)
      | (with_reducible refine LeO.ite ?_ ?_)
      | (with_reducible refine LeO.bind ?_ (fun _ => ?_))
      | exact impl_EdOk.mono _ _ _ _ _ _
      | exact LeO.none _
      | refine LeO.ite ?_ ?_
      | refine LeO.bind ?_ (fun _ => ?_)
set_option maxHeartbeats 8000000 in
set_option maxRecDepth 100000 in
theorem impl_PairOk.calls (k : Nat) (a0_0 : Int) (a0_1 : Int) (a0_2 : Int) (a0_3 : Int) (a0_4 : Int) (a1_0 : Int) (a1_1 : Int) (r : Bool) (w : World) (h : impl_PairOk.f k a0_0 a0_1 a0_2 a0_3 a0_4 a1_0 a1_1 = some r) :
    Calls Try.prog 8 #[.agg #[.int .i64 a0_0, .int .i64 a0_1, .int .i64 a0_2, .int .i64 a0_3, .int .i64 a0_4], .agg #[.int .i64 a1_0, .int .i64 a1_1]] w fun e w' => e = .returned (.bool r) ∧ Below w.heap.size w w' := by
  have hu25 := Try.underlying25
  have hu27 := Try.underlying27
  have HB := Aside0.mk (Below.refl w.heap.size w)
  have H : ((impl_EdOk.f k a0_0 a0_1 a0_2 a0_3 a0_4).bind fun t215 => (if t215 = true then ((impl_Ed_isPair.f a0_0 a0_1 a0_2 a0_3 a0_4 a1_0 a1_1).bind fun t216 => (some t216)) else (some false))) = some r := h
  clear h
  replace H := Option.bind_eq_some_iff.mp H
  obtain ⟨t215, A30, H⟩ := H
  replace H : (if t215 = true then ((impl_Ed_isPair.f a0_0 a0_1 a0_2 a0_3 a0_4 a1_0 a1_1).bind fun t216 => (some t216)) else (some false)) = some r := H
  have A3 := Aside0.mk A30
  clear A30
  by_cases c4 : t215 = true
  · subst c4
    have H1 : ((impl_Ed_isPair.f a0_0 a0_1 a0_2 a0_3 a0_4 a1_0 a1_1).bind fun t216 => (some t216)) = some r := by rw [if_pos rfl] at H; exact H
    clear H
    have H := H1
    clear H1
    replace H := Option.bind_eq_some_iff.mp H
    obtain ⟨t216, A50, H⟩ := H
    replace H : (some t216) = some r := H
    have A5 := Aside0.mk A50
    clear A50
    obtain rfl := Option.some.inj H
    go_enter Try.func8, Try.ntmps8
    go_wp2_with (first | ((with_reducible refine gate_dst (N := 2) rfl ?_); refine box_event ?hg (N := 2) ?hd (cs := #[.int .i64 a0_0, .int .i64 a0_1, .int .i64 a0_2, .int .i64 a0_3, .int .i64 a0_4]) (t := 25) ?hr ?_; (case hd => rfl); (case hg => rfl); (case hr => first | (go_simp; done) | (go_simp; rfl)); intro gb213 hg w6 hbox hb; have n0_ := Aside0.mk (below_step (by repeat (first | (with_reducible first | exact HB.out | apply below_alloc | apply pw_below_drewN | apply below_drew1) | exact HB.out)) hb); have n1_ := Aside0.mk (hbox); have n2_ := Aside0.mk ((by rw [hg]; exact (below_size (by repeat (first | (with_reducible first | exact HB.out | apply below_alloc | apply pw_below_drewN | apply below_drew1) | exact HB.out))) : w.heap.size ≤ gb213)); have n3_ := Aside0.mk ((by rw [hg]; exact (below_size (by repeat (first | (with_reducible first | exact HB.out | apply below_alloc | apply pw_below_drewN | apply below_drew1) | exact HB.out))) : w.heap.size ≤ gb213)); clear HB; have HB := n0_; have BK213 := n1_; have GW213 := n2_; have GE213 := n3_; clear n0_ n1_ n2_ n3_; clear hb hbox hg) | ((with_reducible refine gate_dst (N := 3) rfl ?_); refine box_event ?hg (N := 3) ?hd (cs := #[.int .i64 a1_0, .int .i64 a1_1]) (t := 27) ?hr ?_; (case hd => rfl); (case hg => rfl); (case hr => first | (go_simp; done) | (go_simp; rfl)); intro gb214 hg w7 hbox hb; have n0_ := Aside0.mk (blk_below (g := gb213) (o := .cells #[.int .i64 a0_0, .int .i64 a0_1, .int .i64 a0_2, .int .i64 a0_3, .int .i64 a0_4] 25 (0, 0)) (by (with_reducible repeat (first | refine blk_drewN ?_ _ | refine blk_drew ?_ | refine blk_alloc ?_ _)); exact BK213.out) hb); have n1_ := Aside0.mk (below_step (by repeat (first | (with_reducible first | exact HB.out | apply below_alloc | apply pw_below_drewN | apply below_drew1 | refine below_set ?_ GE213.out) | exact HB.out)) hb); have n2_ := Aside0.mk (hbox); have n3_ := Aside0.mk ((by rw [hg]; exact (below_size (by repeat (first | (with_reducible first | exact HB.out | apply below_alloc | apply pw_below_drewN | apply below_drew1 | refine below_set ?_ GE213.out) | exact HB.out))) : w.heap.size ≤ gb214)); have n4_ := Aside0.mk ((by rw [hg]; exact (below_size (by repeat (first | (with_reducible first | exact HB.out | apply below_alloc | apply pw_below_drewN | apply below_drew1 | refine below_set ?_ GE213.out) | exact HB.out))) : w.heap.size ≤ gb214)); have n5_ := Aside0.mk ((by rw [hg]; exact Nat.ne_of_lt (blk_lt (g := gb213) (o := .cells #[.int .i64 a0_0, .int .i64 a0_1, .int .i64 a0_2, .int .i64 a0_3, .int .i64 a0_4] 25 (0, 0)) (by (with_reducible repeat (first | refine blk_drewN ?_ _ | refine blk_drew ?_ | refine blk_alloc ?_ _)); exact BK213.out)) : gb213 ≠ gb214)); have n6_ := Aside0.mk ((by rw [hg]; exact Nat.ne_of_gt (blk_lt (g := gb213) (o := .cells #[.int .i64 a0_0, .int .i64 a0_1, .int .i64 a0_2, .int .i64 a0_3, .int .i64 a0_4] 25 (0, 0)) (by (with_reducible repeat (first | refine blk_drewN ?_ _ | refine blk_drew ?_ | refine blk_alloc ?_ _)); exact BK213.out)) : gb214 ≠ gb213)); clear BK213; clear HB; have BK213 := n0_; have HB := n1_; have BK214 := n2_; have GW214 := n3_; have GE214 := n4_; have NB213_214 := n5_; have NB214_213 := n6_; clear n0_ n1_ n2_ n3_ n4_ n5_ n6_; clear hb hbox hg; have hnb8 := NB213_214.out; have hnc8 := NB214_213.out; have hcz9_0 : w7.cell? ⟨gb213, 0, none⟩ = some (.int .i64 a0_0) := (blk_cell BK213.out 0).trans rfl; have hcz9_1 : w7.cell? ⟨gb213, 1, none⟩ = some (.int .i64 a0_1) := (blk_cell BK213.out 1).trans rfl; have hcz9_2 : w7.cell? ⟨gb213, 2, none⟩ = some (.int .i64 a0_2) := (blk_cell BK213.out 2).trans rfl; have hcz9_3 : w7.cell? ⟨gb213, 3, none⟩ = some (.int .i64 a0_3) := (blk_cell BK213.out 3).trans rfl; have hcz9_4 : w7.cell? ⟨gb213, 4, none⟩ = some (.int .i64 a0_4) := (blk_cell BK213.out 4).trans rfl; have hfz9_0 := blk_frozen BK213.out 0; have hfz9_1 := blk_frozen BK213.out 1; have hfz9_2 := blk_frozen BK213.out 2; have hfz9_3 := blk_frozen BK213.out 3; have hfz9_4 := blk_frozen BK213.out 4) | ((with_reducible refine gate_callee (f := 7) rfl ?_); refine goesL_ (some 6) rfl rfl Try.func7 (by kernel_rfl) rfl #[.agg #[.int .i64 a0_0, .int .i64 a0_1, .int .i64 a0_2, .int .i64 a0_3, .int .i64 a0_4]] rfl (by (try simp only [List.map_toArray, List.map_cons, List.map_nil]); first | done | rfl | (simp only [List.length_drop, List.length_take]; rfl)) ?_; (with_reducible refine (impl_EdOk.calls k a0_0 a0_1 a0_2 a0_3 a0_4 true _ A3.out).mono ?_); rintro e w10 ⟨rfl, hb⟩; refine ⟨_, rfl, ?_⟩; have n0_ := Aside0.mk (blk_below (g := gb213) (o := .cells #[.int .i64 a0_0, .int .i64 a0_1, .int .i64 a0_2, .int .i64 a0_3, .int .i64 a0_4] 25 (0, 0)) (by (with_reducible repeat (first | refine blk_drewN ?_ _ | refine blk_drew ?_ | refine blk_alloc ?_ _)); exact BK213.out) hb); have n1_ := Aside0.mk (blk_below (g := gb214) (o := .cells #[.int .i64 a1_0, .int .i64 a1_1] 27 (0, 0)) (by (with_reducible repeat (first | refine blk_drewN ?_ _ | refine blk_drew ?_ | refine blk_alloc ?_ _)); exact BK214.out) hb); have n2_ := Aside0.mk (below_step (by repeat (first | (with_reducible first | exact HB.out | apply below_alloc | apply pw_below_drewN | apply below_drew1 | refine below_set ?_ GE213.out | refine below_set ?_ GE214.out) | exact HB.out)) hb); clear BK213; clear BK214; clear HB; have BK213 := n0_; have BK214 := n1_; have HB := n2_; clear n0_ n1_ n2_; (try clear hb); (try clear hb2); (try clear hk); (try clear hi); have hcz11_0 : w10.cell? ⟨gb213, 0, none⟩ = some (.int .i64 a0_0) := (blk_cell BK213.out 0).trans rfl; have hcz11_1 : w10.cell? ⟨gb213, 1, none⟩ = some (.int .i64 a0_1) := (blk_cell BK213.out 1).trans rfl; have hcz11_2 : w10.cell? ⟨gb213, 2, none⟩ = some (.int .i64 a0_2) := (blk_cell BK213.out 2).trans rfl; have hcz11_3 : w10.cell? ⟨gb213, 3, none⟩ = some (.int .i64 a0_3) := (blk_cell BK213.out 3).trans rfl; have hcz11_4 : w10.cell? ⟨gb213, 4, none⟩ = some (.int .i64 a0_4) := (blk_cell BK213.out 4).trans rfl; have hfz11_0 := blk_frozen BK213.out 0; have hfz11_1 := blk_frozen BK213.out 1; have hfz11_2 := blk_frozen BK213.out 2; have hfz11_3 := blk_frozen BK213.out 3; have hfz11_4 := blk_frozen BK213.out 4; have hcz12_0 : w10.cell? ⟨gb214, 0, none⟩ = some (.int .i64 a1_0) := (blk_cell BK214.out 0).trans rfl; have hcz12_1 : w10.cell? ⟨gb214, 1, none⟩ = some (.int .i64 a1_1) := (blk_cell BK214.out 1).trans rfl; have hfz12_0 := blk_frozen BK214.out 0; have hfz12_1 := blk_frozen BK214.out 1) | (go_at_call 27; (with_reducible refine (impl_Ed_isPair.calls a0_0 a0_1 a0_2 a0_3 a0_4 a1_0 a1_1 t216 _ A5.out).mono ?_); rintro e w13 ⟨rfl, hb⟩; have n0_ := Aside0.mk (blk_below (g := gb213) (o := .cells #[.int .i64 a0_0, .int .i64 a0_1, .int .i64 a0_2, .int .i64 a0_3, .int .i64 a0_4] 25 (0, 0)) (by (with_reducible repeat (first | refine blk_drewN ?_ _ | refine blk_drew ?_ | refine blk_alloc ?_ _)); exact BK213.out) hb); have n1_ := Aside0.mk (blk_below (g := gb214) (o := .cells #[.int .i64 a1_0, .int .i64 a1_1] 27 (0, 0)) (by (with_reducible repeat (first | refine blk_drewN ?_ _ | refine blk_drew ?_ | refine blk_alloc ?_ _)); exact BK214.out) hb); have n2_ := Aside0.mk (below_step (by repeat (first | (with_reducible first | exact HB.out | apply below_alloc | apply pw_below_drewN | apply below_drew1 | refine below_set ?_ GE213.out | refine below_set ?_ GE214.out) | exact HB.out)) hb); clear BK213; clear BK214; clear HB; have BK213 := n0_; have BK214 := n1_; have HB := n2_; clear n0_ n1_ n2_; (try clear hb); (try clear hb2); (try clear hk); (try clear hi)))
    go_ret
    exact ⟨by first | rfl | (simp [errW_none, errW_some] <;> rfl) | (simp [*, errW_none, errW_some] <;> rfl), by repeat (first | (with_reducible first | exact HB.out | apply below_alloc | apply pw_below_drewN | apply below_drew1 | refine below_set ?_ GE213.out | refine below_set ?_ GE214.out) | exact HB.out)⟩
  · replace c4 := Bool.eq_false_iff.mpr c4
    subst c4
    have H1 : (some false) = some r := by rw [if_neg (show ¬ (false = true) by decide)] at H; exact H
    clear H
    have H := H1
    clear H1
    obtain rfl := Option.some.inj H
    go_enter Try.func8, Try.ntmps8
    go_wp2_with (first | ((with_reducible refine gate_dst (N := 2) rfl ?_); refine box_event ?hg (N := 2) ?hd (cs := #[.int .i64 a0_0, .int .i64 a0_1, .int .i64 a0_2, .int .i64 a0_3, .int .i64 a0_4]) (t := 25) ?hr ?_; (case hd => rfl); (case hg => rfl); (case hr => first | (go_simp; done) | (go_simp; rfl)); intro gb213 hg w14 hbox hb; have n0_ := Aside0.mk (below_step (by repeat (first | (with_reducible first | exact HB.out | apply below_alloc | apply pw_below_drewN | apply below_drew1) | exact HB.out)) hb); have n1_ := Aside0.mk (hbox); have n2_ := Aside0.mk ((by rw [hg]; exact (below_size (by repeat (first | (with_reducible first | exact HB.out | apply below_alloc | apply pw_below_drewN | apply below_drew1) | exact HB.out))) : w.heap.size ≤ gb213)); have n3_ := Aside0.mk ((by rw [hg]; exact (below_size (by repeat (first | (with_reducible first | exact HB.out | apply below_alloc | apply pw_below_drewN | apply below_drew1) | exact HB.out))) : w.heap.size ≤ gb213)); clear HB; have HB := n0_; have BK213 := n1_; have GW213 := n2_; have GE213 := n3_; clear n0_ n1_ n2_ n3_; clear hb hbox hg) | ((with_reducible refine gate_dst (N := 3) rfl ?_); refine box_event ?hg (N := 3) ?hd (cs := #[.int .i64 a1_0, .int .i64 a1_1]) (t := 27) ?hr ?_; (case hd => rfl); (case hg => rfl); (case hr => first | (go_simp; done) | (go_simp; rfl)); intro gb214 hg w15 hbox hb; have n0_ := Aside0.mk (blk_below (g := gb213) (o := .cells #[.int .i64 a0_0, .int .i64 a0_1, .int .i64 a0_2, .int .i64 a0_3, .int .i64 a0_4] 25 (0, 0)) (by (with_reducible repeat (first | refine blk_drewN ?_ _ | refine blk_drew ?_ | refine blk_alloc ?_ _)); exact BK213.out) hb); have n1_ := Aside0.mk (below_step (by repeat (first | (with_reducible first | exact HB.out | apply below_alloc | apply pw_below_drewN | apply below_drew1 | refine below_set ?_ GE213.out) | exact HB.out)) hb); have n2_ := Aside0.mk (hbox); have n3_ := Aside0.mk ((by rw [hg]; exact (below_size (by repeat (first | (with_reducible first | exact HB.out | apply below_alloc | apply pw_below_drewN | apply below_drew1 | refine below_set ?_ GE213.out) | exact HB.out))) : w.heap.size ≤ gb214)); have n4_ := Aside0.mk ((by rw [hg]; exact (below_size (by repeat (first | (with_reducible first | exact HB.out | apply below_alloc | apply pw_below_drewN | apply below_drew1 | refine below_set ?_ GE213.out) | exact HB.out))) : w.heap.size ≤ gb214)); have n5_ := Aside0.mk ((by rw [hg]; exact Nat.ne_of_lt (blk_lt (g := gb213) (o := .cells #[.int .i64 a0_0, .int .i64 a0_1, .int .i64 a0_2, .int .i64 a0_3, .int .i64 a0_4] 25 (0, 0)) (by (with_reducible repeat (first | refine blk_drewN ?_ _ | refine blk_drew ?_ | refine blk_alloc ?_ _)); exact BK213.out)) : gb213 ≠ gb214)); have n6_ := Aside0.mk ((by rw [hg]; exact Nat.ne_of_gt (blk_lt (g := gb213) (o := .cells #[.int .i64 a0_0, .int .i64 a0_1, .int .i64 a0_2, .int .i64 a0_3, .int .i64 a0_4] 25 (0, 0)) (by (with_reducible repeat (first | refine blk_drewN ?_ _ | refine blk_drew ?_ | refine blk_alloc ?_ _)); exact BK213.out)) : gb214 ≠ gb213)); clear BK213; clear HB; have BK213 := n0_; have HB := n1_; have BK214 := n2_; have GW214 := n3_; have GE214 := n4_; have NB213_214 := n5_; have NB214_213 := n6_; clear n0_ n1_ n2_ n3_ n4_ n5_ n6_; clear hb hbox hg; have hnb16 := NB213_214.out; have hnc16 := NB214_213.out; have hcz17_0 : w15.cell? ⟨gb213, 0, none⟩ = some (.int .i64 a0_0) := (blk_cell BK213.out 0).trans rfl; have hcz17_1 : w15.cell? ⟨gb213, 1, none⟩ = some (.int .i64 a0_1) := (blk_cell BK213.out 1).trans rfl; have hcz17_2 : w15.cell? ⟨gb213, 2, none⟩ = some (.int .i64 a0_2) := (blk_cell BK213.out 2).trans rfl; have hcz17_3 : w15.cell? ⟨gb213, 3, none⟩ = some (.int .i64 a0_3) := (blk_cell BK213.out 3).trans rfl; have hcz17_4 : w15.cell? ⟨gb213, 4, none⟩ = some (.int .i64 a0_4) := (blk_cell BK213.out 4).trans rfl; have hfz17_0 := blk_frozen BK213.out 0; have hfz17_1 := blk_frozen BK213.out 1; have hfz17_2 := blk_frozen BK213.out 2; have hfz17_3 := blk_frozen BK213.out 3; have hfz17_4 := blk_frozen BK213.out 4) | ((with_reducible refine gate_callee (f := 7) rfl ?_); refine goesL_ (some 6) rfl rfl Try.func7 (by kernel_rfl) rfl #[.agg #[.int .i64 a0_0, .int .i64 a0_1, .int .i64 a0_2, .int .i64 a0_3, .int .i64 a0_4]] rfl (by (try simp only [List.map_toArray, List.map_cons, List.map_nil]); first | done | rfl | (simp only [List.length_drop, List.length_take]; rfl)) ?_; (with_reducible refine (impl_EdOk.calls k a0_0 a0_1 a0_2 a0_3 a0_4 false _ A3.out).mono ?_); rintro e w18 ⟨rfl, hb⟩; refine ⟨_, rfl, ?_⟩; have n0_ := Aside0.mk (blk_below (g := gb213) (o := .cells #[.int .i64 a0_0, .int .i64 a0_1, .int .i64 a0_2, .int .i64 a0_3, .int .i64 a0_4] 25 (0, 0)) (by (with_reducible repeat (first | refine blk_drewN ?_ _ | refine blk_drew ?_ | refine blk_alloc ?_ _)); exact BK213.out) hb); have n1_ := Aside0.mk (blk_below (g := gb214) (o := .cells #[.int .i64 a1_0, .int .i64 a1_1] 27 (0, 0)) (by (with_reducible repeat (first | refine blk_drewN ?_ _ | refine blk_drew ?_ | refine blk_alloc ?_ _)); exact BK214.out) hb); have n2_ := Aside0.mk (below_step (by repeat (first | (with_reducible first | exact HB.out | apply below_alloc | apply pw_below_drewN | apply below_drew1 | refine below_set ?_ GE213.out | refine below_set ?_ GE214.out) | exact HB.out)) hb); clear BK213; clear BK214; clear HB; have BK213 := n0_; have BK214 := n1_; have HB := n2_; clear n0_ n1_ n2_; (try clear hb); (try clear hb2); (try clear hk); (try clear hi)))
    go_ret
    exact ⟨by first | rfl | (simp [errW_none, errW_some] <;> rfl) | (simp [*, errW_none, errW_some] <;> rfl), by repeat (first | (with_reducible first | exact HB.out | apply below_alloc | apply pw_below_drewN | apply below_drew1 | refine below_set ?_ GE213.out | refine below_set ?_ GE214.out) | exact HB.out)⟩

attribute [local go_sem] fld_
/-! ### impl_EdAdd: function 9 -/
def impl_EdAdd.f (k : Nat) (a0_0 : Int) (a0_1 : Int) (a0_2 : Int) (a0_3 : Int) (a0_4 : Int) (a1_0 : Int) (a1_1 : Int) (a2_0 : Int) (a2_1 : Int) : Option (Int × Int × Bool) := (impl_PairOk.f k a0_0 a0_1 a0_2 a0_3 a0_4 a1_0 a1_1).bind fun t221 => (if t221 = true then ((impl_Ed_isPair.f a0_0 a0_1 a0_2 a0_3 a0_4 a2_0 a2_1).bind fun t222 => (if t222 = true then ((impl_Ed_sum.f k a0_0 a0_1 a0_2 a0_3 a0_4 a1_0 a1_1 a2_0 a2_1).bind fun bt223 => (some (bt223.1, bt223.2, true))) else (some (0, 0, false)))) else (some (0, 0, false)))
theorem impl_EdAdd.mono : ∀ a0 a1 a2 a3 a4 a5 a6 a7 a8 k, LeO (impl_EdAdd.f k a0 a1 a2 a3 a4 a5 a6 a7 a8) (impl_EdAdd.f (k + 1) a0 a1 a2 a3 a4 a5 a6 a7 a8) := by
 intro a0 a1 a2 a3 a4 a5 a6 a7 a8 k
 unfold impl_EdAdd.f
 repeat' first
   | (with_reducible exact impl_Ed_sum.mono _ _ _ _ _ _ _ _ _ _)
   | (with_reducible exact impl_PairOk.mono _ _ _ _ _ _ _ _)
   | (with_reducible exact LeO.refl _)
   | (with_reducible exact LeO.none _)
   | (with_reducible refine LeO.ite ?_ ?_)
   | (with_reducible refine LeO.bind ?_ (fun _ => ?_))
   | exact impl_Ed_sum.mono _ _ _ _ _ _ _ _ _ _
   | exact impl_PairOk.mono _ _ _ _ _ _ _ _
   | exact LeO.none _
   | refine LeO.ite ?_ ?_
   | refine LeO.bind ?_ (fun _ => ?_)
set_option maxHeartbeats 8000000 in
set_option maxRecDepth 100000 in
theorem impl_EdAdd.calls (k : Nat) (a0_0 : Int) (a0_1 : Int) (a0_2 : Int) (a0_3 : Int) (a0_4 : Int) (a1_0 : Int) (a1_1 : Int) (a2_0 : Int) (a2_1 : Int) (r1 : Int) (r2 : Int) (r3 : Bool) (w : World) (h : impl_EdAdd.f k a0_0 a0_1 a0_2 a0_3 a0_4 a1_0 a1_1 a2_0 a2_1 = some (r1, r2, r3)) :
  Calls Try.prog 9 #[.agg #[.int .i64 a0_0, .int .i64 a0_1, .int .i64 a0_2, .int .i64 a0_3, .int .i64 a0_4], .agg #[.int .i64 a1_0, .int .i64 a1_1], .agg #[.int .i64 a2_0, .int .i64 a2_1]] w fun e w' => e = .returned (.tuple #[.agg #[.int .i64 r1, .int .i64 r2], .bool r3]) ∧ Below w.heap.size w w' := by
 have hu25 := Try.underlying25; have hu27 := Try.underlying27; have HB := Aside0.mk (Below.refl w.heap.size w)
 have H : ((impl_PairOk.f k a0_0 a0_1 a0_2 a0_3 a0_4 a1_0 a1_1).bind fun t221 => (if t221 = true then ((impl_Ed_isPair.f a0_0 a0_1 a0_2 a0_3 a0_4 a2_0 a2_1).bind fun t222 => (if t222 = true then ((impl_Ed_sum.f k a0_0 a0_1 a0_2 a0_3 a0_4 a1_0 a1_1 a2_0 a2_1).bind fun bt223 => (some (bt223.1, bt223.2, true))) else (some (0, 0, false)))) else (some (0, 0, false)))) = some (r1, r2, r3) := h
 clear h; obtain ⟨t221, A40, H⟩ := pb_ H
 have A4 := Aside0.mk A40; clear A40
 by_cases c5 : t221 = true
 ·
  subst c5
  rw [if_pos rfl] at H; obtain ⟨t222, A60, H⟩ := pb_ H
  have A6 := Aside0.mk A60; clear A60
  by_cases c7 : t222 = true
  ·
   subst c7
   rw [if_pos rfl] at H; obtain ⟨⟨t223, t224⟩, A80, H⟩ := pb_ H
   have A8 := Aside0.mk A80; clear A80
   simp only [Option.some.injEq, Prod.mk.injEq] at H
   obtain ⟨rfl, rfl, rfl⟩ := H
   go_enter Try.func9, Try.ntmps9
   go_wp2_with (first | ((with_reducible refine gate_dst (N := 3) rfl ?_); refine box_event ?hg (N := 3) ?hd (cs := #[.int .i64 a0_0, .int .i64 a0_1, .int .i64 a0_2, .int .i64 a0_3, .int .i64 a0_4]) (t := 25) ?hr ?_; (case hd => rfl); (case hg => rfl); (case hr => first | (go_simp; done) | (go_simp; rfl)); intro gb217 hg w9 hbox hb; have BK217 := Aside0.mk hbox; have GW217 := ge_ HB hg; have GE217 := ge_ HB hg; replace HB := bs_ HB hb; clear hb hbox hg) | ((with_reducible refine gate_dst (N := 4) rfl ?_); refine box_event ?hg (N := 4) ?hd (cs := #[.int .i64 a1_0, .int .i64 a1_1]) (t := 27) ?hr ?_; (case hd => rfl); (case hg => rfl); (case hr => first | (go_simp; done) | (go_simp; rfl)); intro gb218 hg w10 hbox hb; have BK218 := Aside0.mk hbox; have GW218 := ge_ HB hg; have GE218 := ge_ HB hg; have NB217_218 := nl_ BK217 hg; have NB218_217 := nr_ BK217 hg; replace BK217 := bb_ BK217 hb; replace HB := bs_ HB hb; clear hb hbox hg) | ((with_reducible refine gate_dst (N := 5) rfl ?_); refine box_event ?hg (N := 5) ?hd (cs := #[.int .i64 a2_0, .int .i64 a2_1]) (t := 27) ?hr ?_; (case hd => rfl); (case hg => rfl); (case hr => first | (go_simp; done) | (go_simp; rfl)); intro gb219 hg w11 hbox hb; have BK219 := Aside0.mk hbox; have GW219 := ge_ HB hg; have GE219 := ge_ HB hg; have NB217_219 := nl_ BK217 hg; have NB219_217 := nr_ BK217 hg; have NB218_219 := nl_ BK218 hg; have NB219_218 := nr_ BK218 hg; replace BK217 := bb_ BK217 hb; replace BK218 := bb_ BK218 hb; replace HB := bs_ HB hb; clear hb hbox hg) | ((with_reducible refine gate_dst (N := 6) rfl ?_); refine box_event ?hg (N := 6) ?hd (cs := #[.int .i64 0, .int .i64 0]) (t := 27) ?hr ?_; (case hd => rfl); (case hg => rfl); (case hr => first | (go_simp; done) | (go_simp; rfl)); intro gb220 hg w12 hbox hb; have BK220 := Aside0.mk hbox; have GW220 := ge_ HB hg; have GE220 := ge_ HB hg; have NB217_220 := nl_ BK217 hg; have NB220_217 := nr_ BK217 hg; have NB218_220 := nl_ BK218 hg; have NB220_218 := nr_ BK218 hg; have NB219_220 := nl_ BK219 hg; have NB220_219 := nr_ BK219 hg; replace BK217 := bb_ BK217 hb; replace BK218 := bb_ BK218 hb; replace BK219 := bb_ BK219 hb; replace HB := bs_ HB hb; clear hb hbox hg; obtain ⟨hnb13, hnc13⟩ := nn_ NB217_218; obtain ⟨hnb14, hnc14⟩ := nn_ NB217_219; obtain ⟨hnb15, hnc15⟩ := nn_ NB217_220; obtain ⟨hcz16_0, hcz16_1, hcz16_2, hcz16_3, hcz16_4, hfz16_0, hfz16_1, hfz16_2, hfz16_3, hfz16_4⟩ := bx5_ BK217; obtain ⟨hnb17, hnc17⟩ := nn_ NB218_219; obtain ⟨hnb18, hnc18⟩ := nn_ NB218_220; have hcz19_0 : w12.cell? ⟨gb218, 0, none⟩ = some (.int .i64 a1_0) := bc_ BK218 0; have hcz19_1 : w12.cell? ⟨gb218, 1, none⟩ = some (.int .i64 a1_1) := bc_ BK218 1; have hfz19_0 := blk_frozen BK218.out 0; have hfz19_1 := blk_frozen BK218.out 1) | ((with_reducible refine gate_callee (f := 8) rfl ?_); refine gl_ 10 rfl rfl Try.func8 #[.agg #[.int .i64 a0_0, .int .i64 a0_1, .int .i64 a0_2, .int .i64 a0_3, .int .i64 a0_4], .agg #[.int .i64 a1_0, .int .i64 a1_1]] rfl ?_; (with_reducible refine (impl_PairOk.calls k a0_0 a0_1 a0_2 a0_3 a0_4 a1_0 a1_1 true _ A4.out).mono ?_); rintro e w20 ⟨rfl, hb⟩; refine ⟨_, rfl, ?_⟩; replace BK217 := bb_ BK217 hb; replace BK218 := bb_ BK218 hb; replace BK219 := bb_ BK219 hb; replace BK220 := bb_ BK220 hb; replace HB := bs_ HB hb; (try clear hb); (try clear hb2); (try clear hk); (try clear hi); obtain ⟨hcz21_0, hcz21_1, hcz21_2, hcz21_3, hcz21_4, hfz21_0, hfz21_1, hfz21_2, hfz21_3, hfz21_4⟩ := bx5_ BK217; obtain ⟨hnb22, hnc22⟩ := nn_ NB219_220; have hcz23_0 : w20.cell? ⟨gb219, 0, none⟩ = some (.int .i64 a2_0) := bc_ BK219 0; have hcz23_1 : w20.cell? ⟨gb219, 1, none⟩ = some (.int .i64 a2_1) := bc_ BK219 1; have hfz23_0 := blk_frozen BK219.out 0; have hfz23_1 := blk_frozen BK219.out 1) | (go_at_call 27; (with_reducible refine (impl_Ed_isPair.calls a0_0 a0_1 a0_2 a0_3 a0_4 a2_0 a2_1 true _ A6.out).mono ?_); rintro e w24 ⟨rfl, hb⟩; replace BK217 := bb_ BK217 hb; replace BK218 := bb_ BK218 hb; replace BK219 := bb_ BK219 hb; replace BK220 := bb_ BK220 hb; replace HB := bs_ HB hb; (try clear hb); (try clear hb2); (try clear hk); (try clear hi); obtain ⟨hcz25_0, hcz25_1, hcz25_2, hcz25_3, hcz25_4, hfz25_0, hfz25_1, hfz25_2, hfz25_3, hfz25_4⟩ := bx5_ BK217; obtain ⟨hcz26_0, hcz26_1, hfz26_0, hfz26_1⟩ := bx2_ BK218; have hcz27_0 : w24.cell? ⟨gb219, 0, none⟩ = some (.int .i64 a2_0) := bc_ BK219 0; have hcz27_1 : w24.cell? ⟨gb219, 1, none⟩ = some (.int .i64 a2_1) := bc_ BK219 1; have hfz27_0 := blk_frozen BK219.out 0; have hfz27_1 := blk_frozen BK219.out 1) | ((with_reducible refine gate_callee (f := 30) rfl ?_); refine gl_ 22 rfl rfl Try.func30 #[.agg #[.int .i64 a0_0, .int .i64 a0_1, .int .i64 a0_2, .int .i64 a0_3, .int .i64 a0_4], .agg #[.int .i64 a1_0, .int .i64 a1_1], .agg #[.int .i64 a2_0, .int .i64 a2_1]] rfl ?_; (with_reducible refine (impl_Ed_sum.calls k a0_0 a0_1 a0_2 a0_3 a0_4 a1_0 a1_1 a2_0 a2_1 t223 t224 _ A8.out).mono ?_); rintro e w28 ⟨rfl, hb⟩; refine ⟨_, rfl, ?_⟩; replace BK217 := bb_ BK217 hb; replace BK218 := bb_ BK218 hb; replace BK219 := bb_ BK219 hb; replace BK220 := bb_ BK220 hb; replace HB := bs_ HB hb; (try clear hb); (try clear hb2); (try clear hk); (try clear hi); obtain ⟨hcz29_0, hcz29_1, hfz29_0, hfz29_1⟩ := bx2_ BK220))
   refine bodyPost_ret (results_ct rfl _ _ gb220 27 #[.int .i64 t223, .int .i64 t224] (0, 0) _ rfl (bq_ BK220) Try.underlying27 rfl (by kernel_rfl)) rfl ?_; exact ⟨by first | rfl | (simp [errW_none, errW_some] <;> rfl) | (simp [*, errW_none, errW_some] <;> rfl), by repeat (first | (with_reducible first | exact HB.out | apply below_alloc | apply pw_below_drewN | apply below_drew1 | refine below_set ?_ GE217.out | refine below_set ?_ GE218.out | refine below_set ?_ GE219.out | refine below_set ?_ GE220.out) | exact HB.out)⟩
  ·
   replace c7 := Bool.eq_false_iff.mpr c7; subst c7
   rw [if_neg (show ¬ (false = true) by decide)] at H
   simp only [Option.some.injEq, Prod.mk.injEq] at H
   obtain ⟨rfl, rfl, rfl⟩ := H
   go_enter Try.func9, Try.ntmps9
   go_wp2_with (first | ((with_reducible refine gate_dst (N := 3) rfl ?_); refine box_event ?hg (N := 3) ?hd (cs := #[.int .i64 a0_0, .int .i64 a0_1, .int .i64 a0_2, .int .i64 a0_3, .int .i64 a0_4]) (t := 25) ?hr ?_; (case hd => rfl); (case hg => rfl); (case hr => first | (go_simp; done) | (go_simp; rfl)); intro gb217 hg w30 hbox hb; have BK217 := Aside0.mk hbox; have GW217 := ge_ HB hg; have GE217 := ge_ HB hg; replace HB := bs_ HB hb; clear hb hbox hg) | ((with_reducible refine gate_dst (N := 4) rfl ?_); refine box_event ?hg (N := 4) ?hd (cs := #[.int .i64 a1_0, .int .i64 a1_1]) (t := 27) ?hr ?_; (case hd => rfl); (case hg => rfl); (case hr => first | (go_simp; done) | (go_simp; rfl)); intro gb218 hg w31 hbox hb; have BK218 := Aside0.mk hbox; have GW218 := ge_ HB hg; have GE218 := ge_ HB hg; have NB217_218 := nl_ BK217 hg; have NB218_217 := nr_ BK217 hg; replace BK217 := bb_ BK217 hb; replace HB := bs_ HB hb; clear hb hbox hg) | ((with_reducible refine gate_dst (N := 5) rfl ?_); refine box_event ?hg (N := 5) ?hd (cs := #[.int .i64 a2_0, .int .i64 a2_1]) (t := 27) ?hr ?_; (case hd => rfl); (case hg => rfl); (case hr => first | (go_simp; done) | (go_simp; rfl)); intro gb219 hg w32 hbox hb; have BK219 := Aside0.mk hbox; have GW219 := ge_ HB hg; have GE219 := ge_ HB hg; have NB217_219 := nl_ BK217 hg; have NB219_217 := nr_ BK217 hg; have NB218_219 := nl_ BK218 hg; have NB219_218 := nr_ BK218 hg; replace BK217 := bb_ BK217 hb; replace BK218 := bb_ BK218 hb; replace HB := bs_ HB hb; clear hb hbox hg) | ((with_reducible refine gate_dst (N := 6) rfl ?_); refine box_event ?hg (N := 6) ?hd (cs := #[.int .i64 0, .int .i64 0]) (t := 27) ?hr ?_; (case hd => rfl); (case hg => rfl); (case hr => first | (go_simp; done) | (go_simp; rfl)); intro gb220 hg w33 hbox hb; have BK220 := Aside0.mk hbox; have GW220 := ge_ HB hg; have GE220 := ge_ HB hg; have NB217_220 := nl_ BK217 hg; have NB220_217 := nr_ BK217 hg; have NB218_220 := nl_ BK218 hg; have NB220_218 := nr_ BK218 hg; have NB219_220 := nl_ BK219 hg; have NB220_219 := nr_ BK219 hg; replace BK217 := bb_ BK217 hb; replace BK218 := bb_ BK218 hb; replace BK219 := bb_ BK219 hb; replace HB := bs_ HB hb; clear hb hbox hg; obtain ⟨hnb34, hnc34⟩ := nn_ NB217_218; obtain ⟨hnb35, hnc35⟩ := nn_ NB217_219; obtain ⟨hnb36, hnc36⟩ := nn_ NB217_220; obtain ⟨hcz37_0, hcz37_1, hcz37_2, hcz37_3, hcz37_4, hfz37_0, hfz37_1, hfz37_2, hfz37_3, hfz37_4⟩ := bx5_ BK217; obtain ⟨hnb38, hnc38⟩ := nn_ NB218_219; obtain ⟨hnb39, hnc39⟩ := nn_ NB218_220; have hcz40_0 : w33.cell? ⟨gb218, 0, none⟩ = some (.int .i64 a1_0) := bc_ BK218 0; have hcz40_1 : w33.cell? ⟨gb218, 1, none⟩ = some (.int .i64 a1_1) := bc_ BK218 1; have hfz40_0 := blk_frozen BK218.out 0; have hfz40_1 := blk_frozen BK218.out 1) | ((with_reducible refine gate_callee (f := 8) rfl ?_); refine gl_ 10 rfl rfl Try.func8 #[.agg #[.int .i64 a0_0, .int .i64 a0_1, .int .i64 a0_2, .int .i64 a0_3, .int .i64 a0_4], .agg #[.int .i64 a1_0, .int .i64 a1_1]] rfl ?_; (with_reducible refine (impl_PairOk.calls k a0_0 a0_1 a0_2 a0_3 a0_4 a1_0 a1_1 true _ A4.out).mono ?_); rintro e w41 ⟨rfl, hb⟩; refine ⟨_, rfl, ?_⟩; replace BK217 := bb_ BK217 hb; replace BK218 := bb_ BK218 hb; replace BK219 := bb_ BK219 hb; replace BK220 := bb_ BK220 hb; replace HB := bs_ HB hb; (try clear hb); (try clear hb2); (try clear hk); (try clear hi); obtain ⟨hcz42_0, hcz42_1, hcz42_2, hcz42_3, hcz42_4, hfz42_0, hfz42_1, hfz42_2, hfz42_3, hfz42_4⟩ := bx5_ BK217; obtain ⟨hnb43, hnc43⟩ := nn_ NB219_220; have hcz44_0 : w41.cell? ⟨gb219, 0, none⟩ = some (.int .i64 a2_0) := bc_ BK219 0; have hcz44_1 : w41.cell? ⟨gb219, 1, none⟩ = some (.int .i64 a2_1) := bc_ BK219 1; have hfz44_0 := blk_frozen BK219.out 0; have hfz44_1 := blk_frozen BK219.out 1) | (go_at_call 27; (with_reducible refine (impl_Ed_isPair.calls a0_0 a0_1 a0_2 a0_3 a0_4 a2_0 a2_1 false _ A6.out).mono ?_); rintro e w45 ⟨rfl, hb⟩; replace BK217 := bb_ BK217 hb; replace BK218 := bb_ BK218 hb; replace BK219 := bb_ BK219 hb; replace BK220 := bb_ BK220 hb; replace HB := bs_ HB hb; (try clear hb); (try clear hb2); (try clear hk); (try clear hi); obtain ⟨hcz46_0, hcz46_1, hfz46_0, hfz46_1⟩ := bx2_ BK220))
   refine bodyPost_ret (results_ct rfl _ _ gb220 27 #[.int .i64 0, .int .i64 0] (0, 0) _ rfl (bq_ BK220) Try.underlying27 rfl (by kernel_rfl)) rfl ?_; exact ⟨by first | rfl | (simp [errW_none, errW_some] <;> rfl) | (simp [*, errW_none, errW_some] <;> rfl), by repeat (first | (with_reducible first | exact HB.out | apply below_alloc | apply pw_below_drewN | apply below_drew1 | refine below_set ?_ GE217.out | refine below_set ?_ GE218.out | refine below_set ?_ GE219.out | refine below_set ?_ GE220.out) | exact HB.out)⟩
 ·
  replace c5 := Bool.eq_false_iff.mpr c5; subst c5
  rw [if_neg (show ¬ (false = true) by decide)] at H
  simp only [Option.some.injEq, Prod.mk.injEq] at H
  obtain ⟨rfl, rfl, rfl⟩ := H
  go_enter Try.func9, Try.ntmps9
  go_wp2_with (first | ((with_reducible refine gate_dst (N := 3) rfl ?_); refine box_event ?hg (N := 3) ?hd (cs := #[.int .i64 a0_0, .int .i64 a0_1, .int .i64 a0_2, .int .i64 a0_3, .int .i64 a0_4]) (t := 25) ?hr ?_; (case hd => rfl); (case hg => rfl); (case hr => first | (go_simp; done) | (go_simp; rfl)); intro gb217 hg w47 hbox hb; have BK217 := Aside0.mk hbox; have GW217 := ge_ HB hg; have GE217 := ge_ HB hg; replace HB := bs_ HB hb; clear hb hbox hg) | ((with_reducible refine gate_dst (N := 4) rfl ?_); refine box_event ?hg (N := 4) ?hd (cs := #[.int .i64 a1_0, .int .i64 a1_1]) (t := 27) ?hr ?_; (case hd => rfl); (case hg => rfl); (case hr => first | (go_simp; done) | (go_simp; rfl)); intro gb218 hg w48 hbox hb; have BK218 := Aside0.mk hbox; have GW218 := ge_ HB hg; have GE218 := ge_ HB hg; have NB217_218 := nl_ BK217 hg; have NB218_217 := nr_ BK217 hg; replace BK217 := bb_ BK217 hb; replace HB := bs_ HB hb; clear hb hbox hg) | ((with_reducible refine gate_dst (N := 5) rfl ?_); refine box_event ?hg (N := 5) ?hd (cs := #[.int .i64 a2_0, .int .i64 a2_1]) (t := 27) ?hr ?_; (case hd => rfl); (case hg => rfl); (case hr => first | (go_simp; done) | (go_simp; rfl)); intro gb219 hg w49 hbox hb; have BK219 := Aside0.mk hbox; have GW219 := ge_ HB hg; have GE219 := ge_ HB hg; have NB217_219 := nl_ BK217 hg; have NB219_217 := nr_ BK217 hg; have NB218_219 := nl_ BK218 hg; have NB219_218 := nr_ BK218 hg; replace BK217 := bb_ BK217 hb; replace BK218 := bb_ BK218 hb; replace HB := bs_ HB hb; clear hb hbox hg) | ((with_reducible refine gate_dst (N := 6) rfl ?_); refine box_event ?hg (N := 6) ?hd (cs := #[.int .i64 0, .int .i64 0]) (t := 27) ?hr ?_; (case hd => rfl); (case hg => rfl); (case hr => first | (go_simp; done) | (go_simp; rfl)); intro gb220 hg w50 hbox hb; have BK220 := Aside0.mk hbox; have GW220 := ge_ HB hg; have GE220 := ge_ HB hg; have NB217_220 := nl_ BK217 hg; have NB220_217 := nr_ BK217 hg; have NB218_220 := nl_ BK218 hg; have NB220_218 := nr_ BK218 hg; have NB219_220 := nl_ BK219 hg; have NB220_219 := nr_ BK219 hg; replace BK217 := bb_ BK217 hb; replace BK218 := bb_ BK218 hb; replace BK219 := bb_ BK219 hb; replace HB := bs_ HB hb; clear hb hbox hg; obtain ⟨hnb51, hnc51⟩ := nn_ NB217_218; obtain ⟨hnb52, hnc52⟩ := nn_ NB217_219; obtain ⟨hnb53, hnc53⟩ := nn_ NB217_220; obtain ⟨hcz54_0, hcz54_1, hcz54_2, hcz54_3, hcz54_4, hfz54_0, hfz54_1, hfz54_2, hfz54_3, hfz54_4⟩ := bx5_ BK217; obtain ⟨hnb55, hnc55⟩ := nn_ NB218_219; obtain ⟨hnb56, hnc56⟩ := nn_ NB218_220; have hcz57_0 : w50.cell? ⟨gb218, 0, none⟩ = some (.int .i64 a1_0) := bc_ BK218 0; have hcz57_1 : w50.cell? ⟨gb218, 1, none⟩ = some (.int .i64 a1_1) := bc_ BK218 1; have hfz57_0 := blk_frozen BK218.out 0; have hfz57_1 := blk_frozen BK218.out 1) | ((with_reducible refine gate_callee (f := 8) rfl ?_); refine gl_ 10 rfl rfl Try.func8 #[.agg #[.int .i64 a0_0, .int .i64 a0_1, .int .i64 a0_2, .int .i64 a0_3, .int .i64 a0_4], .agg #[.int .i64 a1_0, .int .i64 a1_1]] rfl ?_; (with_reducible refine (impl_PairOk.calls k a0_0 a0_1 a0_2 a0_3 a0_4 a1_0 a1_1 false _ A4.out).mono ?_); rintro e w58 ⟨rfl, hb⟩; refine ⟨_, rfl, ?_⟩; replace BK217 := bb_ BK217 hb; replace BK218 := bb_ BK218 hb; replace BK219 := bb_ BK219 hb; replace BK220 := bb_ BK220 hb; replace HB := bs_ HB hb; (try clear hb); (try clear hb2); (try clear hk); (try clear hi); obtain ⟨hnb59, hnc59⟩ := nn_ NB220_219; obtain ⟨hcz60_0, hcz60_1, hfz60_0, hfz60_1⟩ := bx2_ BK220))
  refine bodyPost_ret (results_ct rfl _ _ gb220 27 #[.int .i64 0, .int .i64 0] (0, 0) _ rfl (bq_ BK220) Try.underlying27 rfl (by kernel_rfl)) rfl ?_; exact ⟨by first | rfl | (simp [errW_none, errW_some] <;> rfl) | (simp [*, errW_none, errW_some] <;> rfl), by repeat (first | (with_reducible first | exact HB.out | apply below_alloc | apply pw_below_drewN | apply below_drew1 | refine below_set ?_ GE217.out | refine below_set ?_ GE218.out | refine below_set ?_ GE219.out | refine below_set ?_ GE220.out) | exact HB.out)⟩

attribute [local go_sem] fld_
/-! ### laws_at: function 10 -/
def laws_at.f (l0 : List Int) (a1 : Int) : Option (Int) := if a1 < (l0.length : Int) then (if 0 ≤ a1 then (some (wrap64 (rd l0 a1))) else (none)) else (some (Int.tmod (wrap64 ((wrap64 (a1 * 7)) + (l0.length : Int))) 256))
set_option maxHeartbeats 8000000 in
set_option maxRecDepth 100000 in
theorem laws_at.calls (A0 : Option Addr) (c0 : Nat) (l0 : List Int) (a1 : Int) (r : Int) (w : World) (hr0 : Kd.C (Kd.int .u8) w A0 l0.length l0) (hc0 : l0.length ≤ c0) (h : laws_at.f l0 a1 = some r) :
    Calls Try.prog 10 #[.slice A0 l0.length c0, .int .i64 a1] w fun e w' => e = .returned (.int .i64 r) ∧ Drawn0 w w' := by
  have HR0 := Aside0.mk hr0
  have HC0 := Aside0.mk hc0
  clear hr0 hc0
  have H : (if a1 < (l0.length : Int) then (if 0 ≤ a1 then (some (wrap64 (rd l0 a1))) else (none)) else (some (Int.tmod (wrap64 ((wrap64 (a1 * 7)) + (l0.length : Int))) 256))) = some r := h
  clear h
  by_cases c3 : a1 < (l0.length : Int)
  · rw [if_pos c3] at H
    have c3b0 : decide (a1 < (l0.length : Int)) = true := decide_eq_true c3
    clear c3
    by_cases c4 : 0 ≤ a1
    · rw [if_pos c4] at H
      have c4b0 : decide (0 ≤ a1) = true := decide_eq_true c4
      clear c4
      obtain rfl := Option.some.inj H
      have p225 : 0 ≤ (a1 : Int) := of_decide_eq_true (by first | (with_reducible assumption) | assumption)
      have q225 : a1 < (l0.length : Int) := of_decide_eq_true (by first | (with_reducible assumption) | assumption)
      obtain ⟨ad225, e225, hx225_0⟩ := Kd.at_int HR0.out a1 p225 q225
      cases e225
      replace p225 := eq_true p225
      replace q225 := eq_true q225
      go_enter Try.func10, Try.ntmps10
      go_wp2
      go_ret
      exact ⟨by first | rfl | (simp; done) | (simp [*]; done), by repeat (first | exact Drawn0.refl _ | apply Drawn0.step)⟩
    · rw [if_neg c4] at H
      exact absurd H (by simp)
  · rw [if_neg c3] at H
    have c3b0 : decide (a1 < (l0.length : Int)) = false := decide_eq_false c3
    clear c3
    obtain rfl := Option.some.inj H
    go_enter Try.func10, Try.ntmps10
    go_wp2
    go_ret
    exact ⟨by first | rfl | (simp; done) | (simp [*]; done), by repeat (first | exact Drawn0.refl _ | apply Drawn0.step)⟩

attribute [local go_sem] fld_
/-! ### impl_EdMul: function 11 -/
def impl_EdMul.f (k : Nat) (a0_0 : Int) (a0_1 : Int) (a0_2 : Int) (a0_3 : Int) (a0_4 : Int) (a1 : Int) (a2_0 : Int) (a2_1 : Int) : Option (Int × Int × Bool) := (impl_PairOk.f k a0_0 a0_1 a0_2 a0_3 a0_4 a2_0 a2_1).bind fun t229 => (if t229 = true then ((impl_within.f a1 0 1099511627776).bind fun t230 => (if t230 = true then ((impl_Ed_times.f k a0_0 a0_1 a0_2 a0_3 a0_4 a1 a2_0 a2_1).bind fun bt231 => (some (bt231.1, bt231.2, true))) else (some (0, 0, false)))) else (some (0, 0, false)))
theorem impl_EdMul.mono : ∀ a0 a1 a2 a3 a4 a5 a6 a7 k, LeO (impl_EdMul.f k a0 a1 a2 a3 a4 a5 a6 a7) (impl_EdMul.f (k + 1) a0 a1 a2 a3 a4 a5 a6 a7) := by
 intro a0 a1 a2 a3 a4 a5 a6 a7 k
 unfold impl_EdMul.f
 repeat' first
   | (with_reducible exact impl_Ed_times.mono _ _ _ _ _ _ _ _ _)
   | (with_reducible exact impl_PairOk.mono _ _ _ _ _ _ _ _)
   | (with_reducible exact LeO.refl _)
   | (with_reducible exact LeO.none _)
   | (with_reducible refine LeO.ite ?_ ?_)
   | (with_reducible refine LeO.bind ?_ (fun _ => ?_))
   | exact impl_Ed_times.mono _ _ _ _ _ _ _ _ _
   | exact impl_PairOk.mono _ _ _ _ _ _ _ _
   | exact LeO.none _
   | refine LeO.ite ?_ ?_
   | refine LeO.bind ?_ (fun _ => ?_)
set_option maxHeartbeats 8000000 in
set_option maxRecDepth 100000 in
theorem impl_EdMul.calls (k : Nat) (a0_0 : Int) (a0_1 : Int) (a0_2 : Int) (a0_3 : Int) (a0_4 : Int) (a1 : Int) (a2_0 : Int) (a2_1 : Int) (r1 : Int) (r2 : Int) (r3 : Bool) (w : World) (h : impl_EdMul.f k a0_0 a0_1 a0_2 a0_3 a0_4 a1 a2_0 a2_1 = some (r1, r2, r3)) :
  Calls Try.prog 11 #[.agg #[.int .i64 a0_0, .int .i64 a0_1, .int .i64 a0_2, .int .i64 a0_3, .int .i64 a0_4], .int .i64 a1, .agg #[.int .i64 a2_0, .int .i64 a2_1]] w fun e w' => e = .returned (.tuple #[.agg #[.int .i64 r1, .int .i64 r2], .bool r3]) ∧ Below w.heap.size w w' := by
 have hu25 := Try.underlying25; have hu27 := Try.underlying27; have HB := Aside0.mk (Below.refl w.heap.size w)
 have H : ((impl_PairOk.f k a0_0 a0_1 a0_2 a0_3 a0_4 a2_0 a2_1).bind fun t229 => (if t229 = true then ((impl_within.f a1 0 1099511627776).bind fun t230 => (if t230 = true then ((impl_Ed_times.f k a0_0 a0_1 a0_2 a0_3 a0_4 a1 a2_0 a2_1).bind fun bt231 => (some (bt231.1, bt231.2, true))) else (some (0, 0, false)))) else (some (0, 0, false)))) = some (r1, r2, r3) := h
 clear h; obtain ⟨t229, A40, H⟩ := pb_ H
 have A4 := Aside0.mk A40; clear A40
 by_cases c5 : t229 = true
 ·
  subst c5
  rw [if_pos rfl] at H; obtain ⟨t230, A60, H⟩ := pb_ H
  have A6 := Aside0.mk A60; clear A60
  by_cases c7 : t230 = true
  ·
   subst c7
   rw [if_pos rfl] at H; obtain ⟨⟨t231, t232⟩, A80, H⟩ := pb_ H
   have A8 := Aside0.mk A80; clear A80
   simp only [Option.some.injEq, Prod.mk.injEq] at H
   obtain ⟨rfl, rfl, rfl⟩ := H
   go_enter Try.func11, Try.ntmps11
   go_wp2_with (first | ((with_reducible refine gate_dst (N := 3) rfl ?_); refine box_event ?hg (N := 3) ?hd (cs := #[.int .i64 a0_0, .int .i64 a0_1, .int .i64 a0_2, .int .i64 a0_3, .int .i64 a0_4]) (t := 25) ?hr ?_; (case hd => rfl); (case hg => rfl); (case hr => first | (go_simp; done) | (go_simp; rfl)); intro gb226 hg w9 hbox hb; have BK226 := Aside0.mk hbox; have GW226 := ge_ HB hg; have GE226 := ge_ HB hg; replace HB := bs_ HB hb; clear hb hbox hg) | ((with_reducible refine gate_dst (N := 5) rfl ?_); refine box_event ?hg (N := 5) ?hd (cs := #[.int .i64 a2_0, .int .i64 a2_1]) (t := 27) ?hr ?_; (case hd => rfl); (case hg => rfl); (case hr => first | (go_simp; done) | (go_simp; rfl)); intro gb227 hg w10 hbox hb; have BK227 := Aside0.mk hbox; have GW227 := ge_ HB hg; have GE227 := ge_ HB hg; have NB226_227 := nl_ BK226 hg; have NB227_226 := nr_ BK226 hg; replace BK226 := bb_ BK226 hb; replace HB := bs_ HB hb; clear hb hbox hg) | ((with_reducible refine gate_dst (N := 6) rfl ?_); refine box_event ?hg (N := 6) ?hd (cs := #[.int .i64 0, .int .i64 0]) (t := 27) ?hr ?_; (case hd => rfl); (case hg => rfl); (case hr => first | (go_simp; done) | (go_simp; rfl)); intro gb228 hg w11 hbox hb; have BK228 := Aside0.mk hbox; have GW228 := ge_ HB hg; have GE228 := ge_ HB hg; have NB226_228 := nl_ BK226 hg; have NB228_226 := nr_ BK226 hg; have NB227_228 := nl_ BK227 hg; have NB228_227 := nr_ BK227 hg; replace BK226 := bb_ BK226 hb; replace BK227 := bb_ BK227 hb; replace HB := bs_ HB hb; clear hb hbox hg; obtain ⟨hnb12, hnc12⟩ := nn_ NB226_227; obtain ⟨hnb13, hnc13⟩ := nn_ NB226_228; obtain ⟨hcz14_0, hcz14_1, hcz14_2, hcz14_3, hcz14_4, hfz14_0, hfz14_1, hfz14_2, hfz14_3, hfz14_4⟩ := bx5_ BK226; obtain ⟨hnb15, hnc15⟩ := nn_ NB227_228; have hcz16_0 : w11.cell? ⟨gb227, 0, none⟩ = some (.int .i64 a2_0) := bc_ BK227 0; have hcz16_1 : w11.cell? ⟨gb227, 1, none⟩ = some (.int .i64 a2_1) := bc_ BK227 1; have hfz16_0 := blk_frozen BK227.out 0; have hfz16_1 := blk_frozen BK227.out 1) | ((with_reducible refine gate_callee (f := 8) rfl ?_); refine gl_ 10 rfl rfl Try.func8 #[.agg #[.int .i64 a0_0, .int .i64 a0_1, .int .i64 a0_2, .int .i64 a0_3, .int .i64 a0_4], .agg #[.int .i64 a2_0, .int .i64 a2_1]] rfl ?_; (with_reducible refine (impl_PairOk.calls k a0_0 a0_1 a0_2 a0_3 a0_4 a2_0 a2_1 true _ A4.out).mono ?_); rintro e w17 ⟨rfl, hb⟩; refine ⟨_, rfl, ?_⟩; replace BK226 := bb_ BK226 hb; replace BK227 := bb_ BK227 hb; replace BK228 := bb_ BK228 hb; replace HB := bs_ HB hb; (try clear hb); (try clear hb2); (try clear hk); (try clear hi)) | (go_at_call 24; (with_reducible refine (impl_within.calls a1 0 1099511627776 true _ A6.out).mono ?_); rintro e w' ⟨rfl, ⟨nd, rfl⟩⟩; (try (rw [drewN_self w17]; generalize hq_ : World.drewN w17 _ = w17; have n0_ : Aside0 (w17.heap[gb226]? = some (.cells #[.int .i64 a0_0, .int .i64 a0_1, .int .i64 a0_2, .int .i64 a0_3, .int .i64 a0_4] 25 (0, 0))) := ⟨by rw [← hq_]; exact (bk_ BK226)⟩; have n1_ : Aside0 (w17.heap[gb227]? = some (.cells #[.int .i64 a2_0, .int .i64 a2_1] 27 (0, 0))) := ⟨by rw [← hq_]; exact (bk_ BK227)⟩; have n2_ : Aside0 (w17.heap[gb228]? = some (.cells #[.int .i64 0, .int .i64 0] 27 (0, 0))) := ⟨by rw [← hq_]; exact (bk_ BK228)⟩; have n3_ : Aside0 (Below w.heap.size w w17) := ⟨by rw [← hq_]; exact (bw_ HB)⟩; clear BK226 BK227 BK228 HB hq_; have BK226 := n0_; have BK227 := n1_; have BK228 := n2_; have HB := n3_; clear n0_ n1_ n2_ n3_; obtain ⟨hcy226_0, hcy226_1, hcy226_2, hcy226_3, hcy226_4⟩ := by5_ BK226; obtain ⟨hcy227_0, hcy227_1⟩ := by2_ BK227; obtain ⟨hcy228_0, hcy228_1⟩ := by2_ BK228)); obtain ⟨hcz18_0, hcz18_1, hcz18_2, hcz18_3, hcz18_4, hfz18_0, hfz18_1, hfz18_2, hfz18_3, hfz18_4⟩ := bx5_ BK226; have hcz19_0 : w17.cell? ⟨gb227, 0, none⟩ = some (.int .i64 a2_0) := bc_ BK227 0; have hcz19_1 : w17.cell? ⟨gb227, 1, none⟩ = some (.int .i64 a2_1) := bc_ BK227 1; have hfz19_0 := blk_frozen BK227.out 0; have hfz19_1 := blk_frozen BK227.out 1) | ((with_reducible refine gate_callee (f := 29) rfl ?_); refine gl_ 21 rfl rfl Try.func29 #[.agg #[.int .i64 a0_0, .int .i64 a0_1, .int .i64 a0_2, .int .i64 a0_3, .int .i64 a0_4], .int .i64 a1, .agg #[.int .i64 a2_0, .int .i64 a2_1]] rfl ?_; (with_reducible refine (impl_Ed_times.calls k a0_0 a0_1 a0_2 a0_3 a0_4 a1 a2_0 a2_1 t231 t232 _ A8.out).mono ?_); rintro e w20 ⟨rfl, hb⟩; refine ⟨_, rfl, ?_⟩; replace BK226 := bb_ BK226 hb; replace BK227 := bb_ BK227 hb; replace BK228 := bb_ BK228 hb; replace HB := bs_ HB hb; (try clear hb); (try clear hb2); (try clear hk); (try clear hi); obtain ⟨hcz21_0, hcz21_1, hfz21_0, hfz21_1⟩ := bx2_ BK228))
   refine bodyPost_ret (results_ct rfl _ _ gb228 27 #[.int .i64 t231, .int .i64 t232] (0, 0) _ rfl (bq_ BK228) Try.underlying27 rfl (by kernel_rfl)) rfl ?_; exact ⟨by first | rfl | (simp [errW_none, errW_some] <;> rfl) | (simp [*, errW_none, errW_some] <;> rfl), by repeat (first | (with_reducible first | exact HB.out | apply below_alloc | apply pw_below_drewN | apply below_drew1 | refine below_set ?_ GE226.out | refine below_set ?_ GE227.out | refine below_set ?_ GE228.out) | exact HB.out)⟩
  ·
   replace c7 := Bool.eq_false_iff.mpr c7; subst c7
   rw [if_neg (show ¬ (false = true) by decide)] at H
   simp only [Option.some.injEq, Prod.mk.injEq] at H
   obtain ⟨rfl, rfl, rfl⟩ := H
   go_enter Try.func11, Try.ntmps11
   go_wp2_with (first | ((with_reducible refine gate_dst (N := 3) rfl ?_); refine box_event ?hg (N := 3) ?hd (cs := #[.int .i64 a0_0, .int .i64 a0_1, .int .i64 a0_2, .int .i64 a0_3, .int .i64 a0_4]) (t := 25) ?hr ?_; (case hd => rfl); (case hg => rfl); (case hr => first | (go_simp; done) | (go_simp; rfl)); intro gb226 hg w22 hbox hb; have BK226 := Aside0.mk hbox; have GW226 := ge_ HB hg; have GE226 := ge_ HB hg; replace HB := bs_ HB hb; clear hb hbox hg) | ((with_reducible refine gate_dst (N := 5) rfl ?_); refine box_event ?hg (N := 5) ?hd (cs := #[.int .i64 a2_0, .int .i64 a2_1]) (t := 27) ?hr ?_; (case hd => rfl); (case hg => rfl); (case hr => first | (go_simp; done) | (go_simp; rfl)); intro gb227 hg w23 hbox hb; have BK227 := Aside0.mk hbox; have GW227 := ge_ HB hg; have GE227 := ge_ HB hg; have NB226_227 := nl_ BK226 hg; have NB227_226 := nr_ BK226 hg; replace BK226 := bb_ BK226 hb; replace HB := bs_ HB hb; clear hb hbox hg) | ((with_reducible refine gate_dst (N := 6) rfl ?_); refine box_event ?hg (N := 6) ?hd (cs := #[.int .i64 0, .int .i64 0]) (t := 27) ?hr ?_; (case hd => rfl); (case hg => rfl); (case hr => first | (go_simp; done) | (go_simp; rfl)); intro gb228 hg w24 hbox hb; have BK228 := Aside0.mk hbox; have GW228 := ge_ HB hg; have GE228 := ge_ HB hg; have NB226_228 := nl_ BK226 hg; have NB228_226 := nr_ BK226 hg; have NB227_228 := nl_ BK227 hg; have NB228_227 := nr_ BK227 hg; replace BK226 := bb_ BK226 hb; replace BK227 := bb_ BK227 hb; replace HB := bs_ HB hb; clear hb hbox hg; obtain ⟨hnb25, hnc25⟩ := nn_ NB226_227; obtain ⟨hnb26, hnc26⟩ := nn_ NB226_228; obtain ⟨hcz27_0, hcz27_1, hcz27_2, hcz27_3, hcz27_4, hfz27_0, hfz27_1, hfz27_2, hfz27_3, hfz27_4⟩ := bx5_ BK226; obtain ⟨hnb28, hnc28⟩ := nn_ NB227_228; have hcz29_0 : w24.cell? ⟨gb227, 0, none⟩ = some (.int .i64 a2_0) := bc_ BK227 0; have hcz29_1 : w24.cell? ⟨gb227, 1, none⟩ = some (.int .i64 a2_1) := bc_ BK227 1; have hfz29_0 := blk_frozen BK227.out 0; have hfz29_1 := blk_frozen BK227.out 1) | ((with_reducible refine gate_callee (f := 8) rfl ?_); refine gl_ 10 rfl rfl Try.func8 #[.agg #[.int .i64 a0_0, .int .i64 a0_1, .int .i64 a0_2, .int .i64 a0_3, .int .i64 a0_4], .agg #[.int .i64 a2_0, .int .i64 a2_1]] rfl ?_; (with_reducible refine (impl_PairOk.calls k a0_0 a0_1 a0_2 a0_3 a0_4 a2_0 a2_1 true _ A4.out).mono ?_); rintro e w30 ⟨rfl, hb⟩; refine ⟨_, rfl, ?_⟩; replace BK226 := bb_ BK226 hb; replace BK227 := bb_ BK227 hb; replace BK228 := bb_ BK228 hb; replace HB := bs_ HB hb; (try clear hb); (try clear hb2); (try clear hk); (try clear hi)) | (go_at_call 24; (with_reducible refine (impl_within.calls a1 0 1099511627776 false _ A6.out).mono ?_); rintro e w' ⟨rfl, ⟨nd, rfl⟩⟩; (try (rw [drewN_self w30]; generalize hq_ : World.drewN w30 _ = w30; have n0_ : Aside0 (w30.heap[gb226]? = some (.cells #[.int .i64 a0_0, .int .i64 a0_1, .int .i64 a0_2, .int .i64 a0_3, .int .i64 a0_4] 25 (0, 0))) := ⟨by rw [← hq_]; exact (bk_ BK226)⟩; have n1_ : Aside0 (w30.heap[gb227]? = some (.cells #[.int .i64 a2_0, .int .i64 a2_1] 27 (0, 0))) := ⟨by rw [← hq_]; exact (bk_ BK227)⟩; have n2_ : Aside0 (w30.heap[gb228]? = some (.cells #[.int .i64 0, .int .i64 0] 27 (0, 0))) := ⟨by rw [← hq_]; exact (bk_ BK228)⟩; have n3_ : Aside0 (Below w.heap.size w w30) := ⟨by rw [← hq_]; exact (bw_ HB)⟩; clear BK226 BK227 BK228 HB hq_; have BK226 := n0_; have BK227 := n1_; have BK228 := n2_; have HB := n3_; clear n0_ n1_ n2_ n3_; obtain ⟨hcy226_0, hcy226_1, hcy226_2, hcy226_3, hcy226_4⟩ := by5_ BK226; obtain ⟨hcy227_0, hcy227_1⟩ := by2_ BK227; obtain ⟨hcy228_0, hcy228_1⟩ := by2_ BK228)); obtain ⟨hcz31_0, hcz31_1, hfz31_0, hfz31_1⟩ := bx2_ BK228))
   refine bodyPost_ret (results_ct rfl _ _ gb228 27 #[.int .i64 0, .int .i64 0] (0, 0) _ rfl (bq_ BK228) Try.underlying27 rfl (by kernel_rfl)) rfl ?_; exact ⟨by first | rfl | (simp [errW_none, errW_some] <;> rfl) | (simp [*, errW_none, errW_some] <;> rfl), by repeat (first | (with_reducible first | exact HB.out | apply below_alloc | apply pw_below_drewN | apply below_drew1 | refine below_set ?_ GE226.out | refine below_set ?_ GE227.out | refine below_set ?_ GE228.out) | exact HB.out)⟩
 ·
  replace c5 := Bool.eq_false_iff.mpr c5; subst c5
  rw [if_neg (show ¬ (false = true) by decide)] at H
  simp only [Option.some.injEq, Prod.mk.injEq] at H
  obtain ⟨rfl, rfl, rfl⟩ := H
  go_enter Try.func11, Try.ntmps11
  go_wp2_with (first | ((with_reducible refine gate_dst (N := 3) rfl ?_); refine box_event ?hg (N := 3) ?hd (cs := #[.int .i64 a0_0, .int .i64 a0_1, .int .i64 a0_2, .int .i64 a0_3, .int .i64 a0_4]) (t := 25) ?hr ?_; (case hd => rfl); (case hg => rfl); (case hr => first | (go_simp; done) | (go_simp; rfl)); intro gb226 hg w32 hbox hb; have BK226 := Aside0.mk hbox; have GW226 := ge_ HB hg; have GE226 := ge_ HB hg; replace HB := bs_ HB hb; clear hb hbox hg) | ((with_reducible refine gate_dst (N := 5) rfl ?_); refine box_event ?hg (N := 5) ?hd (cs := #[.int .i64 a2_0, .int .i64 a2_1]) (t := 27) ?hr ?_; (case hd => rfl); (case hg => rfl); (case hr => first | (go_simp; done) | (go_simp; rfl)); intro gb227 hg w33 hbox hb; have BK227 := Aside0.mk hbox; have GW227 := ge_ HB hg; have GE227 := ge_ HB hg; have NB226_227 := nl_ BK226 hg; have NB227_226 := nr_ BK226 hg; replace BK226 := bb_ BK226 hb; replace HB := bs_ HB hb; clear hb hbox hg) | ((with_reducible refine gate_dst (N := 6) rfl ?_); refine box_event ?hg (N := 6) ?hd (cs := #[.int .i64 0, .int .i64 0]) (t := 27) ?hr ?_; (case hd => rfl); (case hg => rfl); (case hr => first | (go_simp; done) | (go_simp; rfl)); intro gb228 hg w34 hbox hb; have BK228 := Aside0.mk hbox; have GW228 := ge_ HB hg; have GE228 := ge_ HB hg; have NB226_228 := nl_ BK226 hg; have NB228_226 := nr_ BK226 hg; have NB227_228 := nl_ BK227 hg; have NB228_227 := nr_ BK227 hg; replace BK226 := bb_ BK226 hb; replace BK227 := bb_ BK227 hb; replace HB := bs_ HB hb; clear hb hbox hg; obtain ⟨hnb35, hnc35⟩ := nn_ NB226_227; obtain ⟨hnb36, hnc36⟩ := nn_ NB226_228; obtain ⟨hcz37_0, hcz37_1, hcz37_2, hcz37_3, hcz37_4, hfz37_0, hfz37_1, hfz37_2, hfz37_3, hfz37_4⟩ := bx5_ BK226; obtain ⟨hnb38, hnc38⟩ := nn_ NB227_228; have hcz39_0 : w34.cell? ⟨gb227, 0, none⟩ = some (.int .i64 a2_0) := bc_ BK227 0; have hcz39_1 : w34.cell? ⟨gb227, 1, none⟩ = some (.int .i64 a2_1) := bc_ BK227 1; have hfz39_0 := blk_frozen BK227.out 0; have hfz39_1 := blk_frozen BK227.out 1) | ((with_reducible refine gate_callee (f := 8) rfl ?_); refine gl_ 10 rfl rfl Try.func8 #[.agg #[.int .i64 a0_0, .int .i64 a0_1, .int .i64 a0_2, .int .i64 a0_3, .int .i64 a0_4], .agg #[.int .i64 a2_0, .int .i64 a2_1]] rfl ?_; (with_reducible refine (impl_PairOk.calls k a0_0 a0_1 a0_2 a0_3 a0_4 a2_0 a2_1 false _ A4.out).mono ?_); rintro e w40 ⟨rfl, hb⟩; refine ⟨_, rfl, ?_⟩; replace BK226 := bb_ BK226 hb; replace BK227 := bb_ BK227 hb; replace BK228 := bb_ BK228 hb; replace HB := bs_ HB hb; (try clear hb); (try clear hb2); (try clear hk); (try clear hi); obtain ⟨hcz41_0, hcz41_1, hfz41_0, hfz41_1⟩ := bx2_ BK228))
  refine bodyPost_ret (results_ct rfl _ _ gb228 27 #[.int .i64 0, .int .i64 0] (0, 0) _ rfl (bq_ BK228) Try.underlying27 rfl (by kernel_rfl)) rfl ?_; exact ⟨by first | rfl | (simp [errW_none, errW_some] <;> rfl) | (simp [*, errW_none, errW_some] <;> rfl), by repeat (first | (with_reducible first | exact HB.out | apply below_alloc | apply pw_below_drewN | apply below_drew1 | refine below_set ?_ GE226.out | refine below_set ?_ GE227.out | refine below_set ?_ GE228.out) | exact HB.out)⟩

attribute [local go_sem] fld_
/-! ### impl_EdCofactor: function 12 -/
def impl_EdCofactor.f (k : Nat) (a0_0 : Int) (a0_1 : Int) (a0_2 : Int) (a0_3 : Int) (a0_4 : Int) (a1_0 : Int) (a1_1 : Int) : Option (Int × Int × Bool) := (impl_EdMul.f k a0_0 a0_1 a0_2 a0_3 a0_4 8 a1_0 a1_1).bind fun bt236 => (some (bt236.1, bt236.2.1, bt236.2.2))
theorem impl_EdCofactor.mono : ∀ a0 a1 a2 a3 a4 a5 a6 k, LeO (impl_EdCofactor.f k a0 a1 a2 a3 a4 a5 a6) (impl_EdCofactor.f (k + 1) a0 a1 a2 a3 a4 a5 a6) := by
  intro a0 a1 a2 a3 a4 a5 a6 k
  unfold impl_EdCofactor.f
  repeat' first
      | (with_reducible exact impl_EdMul.mono _ _ _ _ _ _ _ _ _)
      | (with_reducible exact LeO.refl _)
      | (with_reducible exact LeO.none _)
      | (with_reducible refine LeO.ite ?_ ?_)
      | (with_reducible refine LeO.bind ?_ (fun _ => ?_))
      | exact impl_EdMul.mono _ _ _ _ _ _ _ _ _
      | exact LeO.none _
      | refine LeO.ite ?_ ?_
      | refine LeO.bind ?_ (fun _ => ?_)
set_option maxHeartbeats 8000000 in
set_option maxRecDepth 100000 in
theorem impl_EdCofactor.calls (k : Nat) (a0_0 : Int) (a0_1 : Int) (a0_2 : Int) (a0_3 : Int) (a0_4 : Int) (a1_0 : Int) (a1_1 : Int) (r1 : Int) (r2 : Int) (r3 : Bool) (w : World) (h : impl_EdCofactor.f k a0_0 a0_1 a0_2 a0_3 a0_4 a1_0 a1_1 = some (r1, r2, r3)) :
    Calls Try.prog 12 #[.agg #[.int .i64 a0_0, .int .i64 a0_1, .int .i64 a0_2, .int .i64 a0_3, .int .i64 a0_4], .agg #[.int .i64 a1_0, .int .i64 a1_1]] w fun e w' => e = .returned (.tuple #[.agg #[.int .i64 r1, .int .i64 r2], .bool r3]) ∧ Below w.heap.size w w' := by
  have hu25 := Try.underlying25
  have hu27 := Try.underlying27
  have HB := Aside0.mk (Below.refl w.heap.size w)
  have H : ((impl_EdMul.f k a0_0 a0_1 a0_2 a0_3 a0_4 8 a1_0 a1_1).bind fun bt236 => (some (bt236.1, bt236.2.1, bt236.2.2))) = some (r1, r2, r3) := h
  clear h
  replace H := Option.bind_eq_some_iff.mp H
  obtain ⟨⟨t236, t237, t238⟩, A30, H⟩ := H
  replace H : (some (t236, t237, t238)) = some (r1, r2, r3) := H
  have A3 := Aside0.mk A30
  clear A30
  simp only [Option.some.injEq, Prod.mk.injEq] at H
  obtain ⟨rfl, rfl, rfl⟩ := H
  go_enter Try.func12, Try.ntmps12
  go_wp2_with (first | ((with_reducible refine gate_dst (N := 2) rfl ?_); refine box_event ?hg (N := 2) ?hd (cs := #[.int .i64 a0_0, .int .i64 a0_1, .int .i64 a0_2, .int .i64 a0_3, .int .i64 a0_4]) (t := 25) ?hr ?_; (case hd => rfl); (case hg => rfl); (case hr => first | (go_simp; done) | (go_simp; rfl)); intro gb233 hg w4 hbox hb; have n0_ := Aside0.mk (below_step (by repeat (first | (with_reducible first | exact HB.out | apply below_alloc | apply pw_below_drewN | apply below_drew1) | exact HB.out)) hb); have n1_ := Aside0.mk (hbox); have n2_ := Aside0.mk ((by rw [hg]; exact (below_size (by repeat (first | (with_reducible first | exact HB.out | apply below_alloc | apply pw_below_drewN | apply below_drew1) | exact HB.out))) : w.heap.size ≤ gb233)); have n3_ := Aside0.mk ((by rw [hg]; exact (below_size (by repeat (first | (with_reducible first | exact HB.out | apply below_alloc | apply pw_below_drewN | apply below_drew1) | exact HB.out))) : w.heap.size ≤ gb233)); clear HB; have HB := n0_; have BK233 := n1_; have GW233 := n2_; have GE233 := n3_; clear n0_ n1_ n2_ n3_; clear hb hbox hg) | ((with_reducible refine gate_dst (N := 3) rfl ?_); refine box_event ?hg (N := 3) ?hd (cs := #[.int .i64 a1_0, .int .i64 a1_1]) (t := 27) ?hr ?_; (case hd => rfl); (case hg => rfl); (case hr => first | (go_simp; done) | (go_simp; rfl)); intro gb234 hg w5 hbox hb; have n0_ := Aside0.mk (blk_below (g := gb233) (o := .cells #[.int .i64 a0_0, .int .i64 a0_1, .int .i64 a0_2, .int .i64 a0_3, .int .i64 a0_4] 25 (0, 0)) (by (with_reducible repeat (first | refine blk_drewN ?_ _ | refine blk_drew ?_ | refine blk_alloc ?_ _)); exact BK233.out) hb); have n1_ := Aside0.mk (below_step (by repeat (first | (with_reducible first | exact HB.out | apply below_alloc | apply pw_below_drewN | apply below_drew1 | refine below_set ?_ GE233.out) | exact HB.out)) hb); have n2_ := Aside0.mk (hbox); have n3_ := Aside0.mk ((by rw [hg]; exact (below_size (by repeat (first | (with_reducible first | exact HB.out | apply below_alloc | apply pw_below_drewN | apply below_drew1 | refine below_set ?_ GE233.out) | exact HB.out))) : w.heap.size ≤ gb234)); have n4_ := Aside0.mk ((by rw [hg]; exact (below_size (by repeat (first | (with_reducible first | exact HB.out | apply below_alloc | apply pw_below_drewN | apply below_drew1 | refine below_set ?_ GE233.out) | exact HB.out))) : w.heap.size ≤ gb234)); have n5_ := Aside0.mk ((by rw [hg]; exact Nat.ne_of_lt (blk_lt (g := gb233) (o := .cells #[.int .i64 a0_0, .int .i64 a0_1, .int .i64 a0_2, .int .i64 a0_3, .int .i64 a0_4] 25 (0, 0)) (by (with_reducible repeat (first | refine blk_drewN ?_ _ | refine blk_drew ?_ | refine blk_alloc ?_ _)); exact BK233.out)) : gb233 ≠ gb234)); have n6_ := Aside0.mk ((by rw [hg]; exact Nat.ne_of_gt (blk_lt (g := gb233) (o := .cells #[.int .i64 a0_0, .int .i64 a0_1, .int .i64 a0_2, .int .i64 a0_3, .int .i64 a0_4] 25 (0, 0)) (by (with_reducible repeat (first | refine blk_drewN ?_ _ | refine blk_drew ?_ | refine blk_alloc ?_ _)); exact BK233.out)) : gb234 ≠ gb233)); clear BK233; clear HB; have BK233 := n0_; have HB := n1_; have BK234 := n2_; have GW234 := n3_; have GE234 := n4_; have NB233_234 := n5_; have NB234_233 := n6_; clear n0_ n1_ n2_ n3_ n4_ n5_ n6_; clear hb hbox hg) | ((with_reducible refine gate_dst (N := 4) rfl ?_); refine box_event ?hg (N := 4) ?hd (cs := #[.int .i64 0, .int .i64 0]) (t := 27) ?hr ?_; (case hd => rfl); (case hg => rfl); (case hr => first | (go_simp; done) | (go_simp; rfl)); intro gb235 hg w6 hbox hb; have n0_ := Aside0.mk (blk_below (g := gb233) (o := .cells #[.int .i64 a0_0, .int .i64 a0_1, .int .i64 a0_2, .int .i64 a0_3, .int .i64 a0_4] 25 (0, 0)) (by (with_reducible repeat (first | refine blk_drewN ?_ _ | refine blk_drew ?_ | refine blk_alloc ?_ _)); exact BK233.out) hb); have n1_ := Aside0.mk (blk_below (g := gb234) (o := .cells #[.int .i64 a1_0, .int .i64 a1_1] 27 (0, 0)) (by (with_reducible repeat (first | refine blk_drewN ?_ _ | refine blk_drew ?_ | refine blk_alloc ?_ _)); exact BK234.out) hb); have n2_ := Aside0.mk (below_step (by repeat (first | (with_reducible first | exact HB.out | apply below_alloc | apply pw_below_drewN | apply below_drew1 | refine below_set ?_ GE233.out | refine below_set ?_ GE234.out) | exact HB.out)) hb); have n3_ := Aside0.mk (hbox); have n4_ := Aside0.mk ((by rw [hg]; exact (below_size (by repeat (first | (with_reducible first | exact HB.out | apply below_alloc | apply pw_below_drewN | apply below_drew1 | refine below_set ?_ GE233.out | refine below_set ?_ GE234.out) | exact HB.out))) : w.heap.size ≤ gb235)); have n5_ := Aside0.mk ((by rw [hg]; exact (below_size (by repeat (first | (with_reducible first | exact HB.out | apply below_alloc | apply pw_below_drewN | apply below_drew1 | refine below_set ?_ GE233.out | refine below_set ?_ GE234.out) | exact HB.out))) : w.heap.size ≤ gb235)); have n6_ := Aside0.mk ((by rw [hg]; exact Nat.ne_of_lt (blk_lt (g := gb233) (o := .cells #[.int .i64 a0_0, .int .i64 a0_1, .int .i64 a0_2, .int .i64 a0_3, .int .i64 a0_4] 25 (0, 0)) (by (with_reducible repeat (first | refine blk_drewN ?_ _ | refine blk_drew ?_ | refine blk_alloc ?_ _)); exact BK233.out)) : gb233 ≠ gb235)); have n7_ := Aside0.mk ((by rw [hg]; exact Nat.ne_of_gt (blk_lt (g := gb233) (o := .cells #[.int .i64 a0_0, .int .i64 a0_1, .int .i64 a0_2, .int .i64 a0_3, .int .i64 a0_4] 25 (0, 0)) (by (with_reducible repeat (first | refine blk_drewN ?_ _ | refine blk_drew ?_ | refine blk_alloc ?_ _)); exact BK233.out)) : gb235 ≠ gb233)); have n8_ := Aside0.mk ((by rw [hg]; exact Nat.ne_of_lt (blk_lt (g := gb234) (o := .cells #[.int .i64 a1_0, .int .i64 a1_1] 27 (0, 0)) (by (with_reducible repeat (first | refine blk_drewN ?_ _ | refine blk_drew ?_ | refine blk_alloc ?_ _)); exact BK234.out)) : gb234 ≠ gb235)); have n9_ := Aside0.mk ((by rw [hg]; exact Nat.ne_of_gt (blk_lt (g := gb234) (o := .cells #[.int .i64 a1_0, .int .i64 a1_1] 27 (0, 0)) (by (with_reducible repeat (first | refine blk_drewN ?_ _ | refine blk_drew ?_ | refine blk_alloc ?_ _)); exact BK234.out)) : gb235 ≠ gb234)); clear BK233; clear BK234; clear HB; have BK233 := n0_; have BK234 := n1_; have HB := n2_; have BK235 := n3_; have GW235 := n4_; have GE235 := n5_; have NB233_235 := n6_; have NB235_233 := n7_; have NB234_235 := n8_; have NB235_234 := n9_; clear n0_ n1_ n2_ n3_ n4_ n5_ n6_ n7_ n8_ n9_; clear hb hbox hg; have hnb7 := NB233_234.out; have hnc7 := NB234_233.out; have hnb8 := NB233_235.out; have hnc8 := NB235_233.out; have hcz9_0 : w6.cell? ⟨gb233, 0, none⟩ = some (.int .i64 a0_0) := (blk_cell BK233.out 0).trans rfl; have hcz9_1 : w6.cell? ⟨gb233, 1, none⟩ = some (.int .i64 a0_1) := (blk_cell BK233.out 1).trans rfl; have hcz9_2 : w6.cell? ⟨gb233, 2, none⟩ = some (.int .i64 a0_2) := (blk_cell BK233.out 2).trans rfl; have hcz9_3 : w6.cell? ⟨gb233, 3, none⟩ = some (.int .i64 a0_3) := (blk_cell BK233.out 3).trans rfl; have hcz9_4 : w6.cell? ⟨gb233, 4, none⟩ = some (.int .i64 a0_4) := (blk_cell BK233.out 4).trans rfl; have hfz9_0 := blk_frozen BK233.out 0; have hfz9_1 := blk_frozen BK233.out 1; have hfz9_2 := blk_frozen BK233.out 2; have hfz9_3 := blk_frozen BK233.out 3; have hfz9_4 := blk_frozen BK233.out 4; have hnb10 := NB234_235.out; have hnc10 := NB235_234.out; have hcz11_0 : w6.cell? ⟨gb234, 0, none⟩ = some (.int .i64 a1_0) := (blk_cell BK234.out 0).trans rfl; have hcz11_1 : w6.cell? ⟨gb234, 1, none⟩ = some (.int .i64 a1_1) := (blk_cell BK234.out 1).trans rfl; have hfz11_0 := blk_frozen BK234.out 0; have hfz11_1 := blk_frozen BK234.out 1) | ((with_reducible refine gate_callee (f := 11) rfl ?_); refine goesL_ (some 8) rfl rfl Try.func11 (by kernel_rfl) rfl #[.agg #[.int .i64 a0_0, .int .i64 a0_1, .int .i64 a0_2, .int .i64 a0_3, .int .i64 a0_4], .int .i64 8, .agg #[.int .i64 a1_0, .int .i64 a1_1]] rfl (by (try simp only [List.map_toArray, List.map_cons, List.map_nil]); first | done | rfl | (simp only [List.length_drop, List.length_take]; rfl)) ?_; (with_reducible refine (impl_EdMul.calls k a0_0 a0_1 a0_2 a0_3 a0_4 8 a1_0 a1_1 t236 t237 t238 _ A3.out).mono ?_); rintro e w12 ⟨rfl, hb⟩; refine ⟨_, rfl, ?_⟩; have n0_ := Aside0.mk (blk_below (g := gb233) (o := .cells #[.int .i64 a0_0, .int .i64 a0_1, .int .i64 a0_2, .int .i64 a0_3, .int .i64 a0_4] 25 (0, 0)) (by (with_reducible repeat (first | refine blk_drewN ?_ _ | refine blk_drew ?_ | refine blk_alloc ?_ _)); exact BK233.out) hb); have n1_ := Aside0.mk (blk_below (g := gb234) (o := .cells #[.int .i64 a1_0, .int .i64 a1_1] 27 (0, 0)) (by (with_reducible repeat (first | refine blk_drewN ?_ _ | refine blk_drew ?_ | refine blk_alloc ?_ _)); exact BK234.out) hb); have n2_ := Aside0.mk (blk_below (g := gb235) (o := .cells #[.int .i64 0, .int .i64 0] 27 (0, 0)) (by (with_reducible repeat (first | refine blk_drewN ?_ _ | refine blk_drew ?_ | refine blk_alloc ?_ _)); exact BK235.out) hb); have n3_ := Aside0.mk (below_step (by repeat (first | (with_reducible first | exact HB.out | apply below_alloc | apply pw_below_drewN | apply below_drew1 | refine below_set ?_ GE233.out | refine below_set ?_ GE234.out | refine below_set ?_ GE235.out) | exact HB.out)) hb); clear BK233; clear BK234; clear BK235; clear HB; have BK233 := n0_; have BK234 := n1_; have BK235 := n2_; have HB := n3_; clear n0_ n1_ n2_ n3_; (try clear hb); (try clear hb2); (try clear hk); (try clear hi); have hcz13_0 : w12.cell? ⟨gb235, 0, none⟩ = some (.int .i64 0) := (blk_cell BK235.out 0).trans rfl; have hcz13_1 : w12.cell? ⟨gb235, 1, none⟩ = some (.int .i64 0) := (blk_cell BK235.out 1).trans rfl; have hfz13_0 := blk_frozen BK235.out 0; have hfz13_1 := blk_frozen BK235.out 1))
  refine bodyPost_ret (results_ct rfl _ _ gb235 27 #[.int .i64 t236, .int .i64 t237] (0, 0) _ rfl (by (with_reducible repeat (first | refine blk_drewN ?_ _ | refine blk_drew ?_ | refine blk_alloc ?_ _)); refine blk_put (cs := #[.int .i64 t236, .int .i64 0]) ?_ 1 _ rfl; (with_reducible repeat (first | refine blk_drewN ?_ _ | refine blk_drew ?_ | refine blk_alloc ?_ _)); refine blk_put (cs := #[.int .i64 0, .int .i64 0]) ?_ 0 _ rfl; (with_reducible repeat (first | refine blk_drewN ?_ _ | refine blk_drew ?_ | refine blk_alloc ?_ _)); exact BK235.out) Try.underlying27 rfl (by kernel_rfl)) rfl ?_
  exact ⟨by first | rfl | (simp [errW_none, errW_some] <;> rfl) | (simp [*, errW_none, errW_some] <;> rfl), by repeat (first | (with_reducible first | exact HB.out | apply below_alloc | apply pw_below_drewN | apply below_drew1 | refine below_set ?_ GE233.out | refine below_set ?_ GE234.out | refine below_set ?_ GE235.out) | exact HB.out)⟩

attribute [local go_sem] fld_
/-! ### impl_edBytes: function 31 -/
def impl_edBytes.f (a0_0 : Int) (a0_1 : Int) : Option (List Int) := some (([(a0_1) % 256, (a0_1 / 256) % 256, (Go.bits .or .i64 (a0_1 / 65536) (wrap64 ((Int.tmod a0_0 2) * 128))) % 256] : List Int))
set_option maxHeartbeats 8000000 in
set_option maxRecDepth 100000 in
theorem impl_edBytes.calls (a0_0 : Int) (a0_1 : Int) (r : List Int) (w : World) (h : impl_edBytes.f a0_0 a0_1 = some r) :
    Calls Try.prog 31 #[.agg #[.int .i64 a0_0, .int .i64 a0_1]] w fun e w' => ∃ v0_ : Value, e = .returned (v0_) ∧ Kd.R (Kd.int .u8) 5 w' w.heap.size (fun _ => True) v0_ r ∧ Below w.heap.size w w' := by
  have hu27 := Try.underlying27
  have HB := Aside0.mk (Below.refl w.heap.size w)
  have H : (some (([(a0_1) % 256, (a0_1 / 256) % 256, (Go.bits .or .i64 (a0_1 / 65536) (wrap64 ((Int.tmod a0_0 2) * 128))) % 256] : List Int))) = some r := h
  clear h
  obtain ⟨y240, hy240⟩ : ∃ y_ : List Int, y_ = (([(a0_1) % 256, (a0_1 / 256) % 256, (Go.bits .or .i64 (a0_1 / 65536) (wrap64 ((Int.tmod a0_0 2) * 128))) % 256] : List Int)) := ⟨_, rfl⟩
  replace H : (some y240) = some r := by first | (rw [hy240]; with_reducible exact H) | (have H2_ := (Option.bind_some _ _).symm.trans H; rw [hy240]; with_reducible exact H2_) | (have H2_ := (Option.bind_some _ _).symm.trans H; with_reducible exact H2_) | with_reducible exact H | (rw [hy240]; exact H) | exact H
  have Ny240 := Aside0.mk hy240
  clear hy240
  obtain rfl := Option.some.inj H
  go_enter Try.func31, Try.ntmps31
  go_wp2_with (first | ((with_reducible refine gate_dst (N := 1) rfl ?_); refine box_event ?hg (N := 1) ?hd (cs := #[.int .i64 a0_0, .int .i64 a0_1]) (t := 27) ?hr ?_; (case hd => rfl); (case hg => rfl); (case hr => first | (go_simp; done) | (go_simp; rfl)); intro gb239 hg w2 hbox hb; have n0_ := Aside0.mk (below_step (by repeat (first | (with_reducible first | exact HB.out | apply below_alloc | apply pw_below_drewN | apply below_drew1) | exact HB.out)) hb); have n1_ := Aside0.mk (hbox); have n2_ := Aside0.mk ((by rw [hg]; exact (below_size (by repeat (first | (with_reducible first | exact HB.out | apply below_alloc | apply pw_below_drewN | apply below_drew1) | exact HB.out))) : w.heap.size ≤ gb239)); have n3_ := Aside0.mk ((by rw [hg]; exact (below_size (by repeat (first | (with_reducible first | exact HB.out | apply below_alloc | apply pw_below_drewN | apply below_drew1) | exact HB.out))) : w.heap.size ≤ gb239)); clear HB; have HB := n0_; have BK239 := n1_; have GW239 := n2_; have GE239 := n3_; clear n0_ n1_ n2_ n3_; clear hb hbox hg; have hcz3_0 : w2.cell? ⟨gb239, 0, none⟩ = some (.int .i64 a0_0) := (blk_cell BK239.out 0).trans rfl; have hcz3_1 : w2.cell? ⟨gb239, 1, none⟩ = some (.int .i64 a0_1) := (blk_cell BK239.out 1).trans rfl; have hfz3_0 := blk_frozen BK239.out 0; have hfz3_1 := blk_frozen BK239.out 1) | ((with_reducible refine gate_dst (N := 19) rfl ?_); refine Kd.R_lit (Kd.int .u8) _ 5 ?hg (N := 19) ?hd (xs := ([(a0_1) % 256, (a0_1 / 256) % 256, (Go.bits .or .i64 (a0_1 / 65536) (wrap64 ((Int.tmod a0_0 2) * 128))) % 256] : List Int)) (inner := [.int .u8 ((a0_1) % 256), .int .u8 ((a0_1 / 256) % 256), .int .u8 ((Go.bits .or .i64 (a0_1 / 65536) (wrap64 ((Int.tmod a0_0 2) * 128))) % 256)]) (ok := fun _ => True) (okp := fun _ => True) ?hr ?hp (fun _ hk => hk) trivial (Below.refl _ _) (Nat.le_refl _) (by simp) ?_; (case hd => rfl); (case hg => rfl); (case hr => first | (go_simp; done) | (go_simp; rfl)); (case hp => exact (Reps.one (show Kd.M (Kd.int .u8) _ _ _ ((a0_1) % 256) [.int .u8 ((a0_1) % 256)] from rfl) (Reps.one (show Kd.M (Kd.int .u8) _ _ _ ((a0_1 / 256) % 256) [.int .u8 ((a0_1 / 256) % 256)] from rfl) (Reps.one (show Kd.M (Kd.int .u8) _ _ _ ((Go.bits .or .i64 (a0_1 / 65536) (wrap64 ((Int.tmod a0_0 2) * 128))) % 256) [.int .u8 ((Go.bits .or .i64 (a0_1 / 65536) (wrap64 ((Int.tmod a0_0 2) * 128))) % 256)] from rfl) (Reps.none _ _))))); intro v241 w4 ho5 hb hg_ hnew_; clear hg_ hnew_; (first | rw [← Ny240.out] at ho5 | (simp only [Int.reduceToNat] at ho5; rw [← Ny240.out] at ho5)); have n0_ := Aside0.mk (Kd.R_lower ho5 (below_size (by repeat (first | (with_reducible first | exact HB.out | apply below_alloc | apply pw_below_drewN | apply below_drew1 | refine below_set ?_ GE239.out) | exact HB.out)))); have n1_ := Aside0.mk (blk_below (g := gb239) (o := .cells #[.int .i64 a0_0, .int .i64 a0_1] 27 (0, 0)) (by (with_reducible repeat (first | refine blk_drewN ?_ _ | refine blk_drew ?_ | refine blk_alloc ?_ _)); exact BK239.out) hb); have n2_ := Aside0.mk (below_step (by repeat (first | (with_reducible first | exact HB.out | apply below_alloc | apply pw_below_drewN | apply below_drew1 | refine below_set ?_ GE239.out) | exact HB.out)) hb); clear BK239; clear HB; have HO242 := n0_; have BK239 := n1_; have HB := n2_; clear n0_ n1_ n2_; clear hb ho5))
  go_ret
  exact ⟨_, by first | rfl | (simp [errW_none, errW_some] <;> rfl) | (simp [*, errW_none, errW_some] <;> rfl), by (with_reducible repeat (first | apply Kd.R_alloc | apply Kd.R_drewN | apply Kd.R_drew)); exact HO242.out, by repeat (first | (with_reducible first | exact HB.out | apply below_alloc | apply pw_below_drewN | apply below_drew1 | refine below_set ?_ GE239.out) | exact HB.out)⟩

attribute [local go_sem] fld_
/-! ### impl_EdBytes: function 13 -/
def impl_EdBytes.f (k : Nat) (a0_0 : Int) (a0_1 : Int) (a0_2 : Int) (a0_3 : Int) (a0_4 : Int) (a1_0 : Int) (a1_1 : Int) : Option (List Int × Bool) := (impl_PairOk.f k a0_0 a0_1 a0_2 a0_3 a0_4 a1_0 a1_1).bind fun t245 => (if t245 = true then ((impl_edBytes.f a1_0 a1_1).bind fun t246 => (some (t246, true))) else (some (([] : List Int), false)))
theorem impl_EdBytes.mono : ∀ a0 a1 a2 a3 a4 a5 a6 k, LeO (impl_EdBytes.f k a0 a1 a2 a3 a4 a5 a6) (impl_EdBytes.f (k + 1) a0 a1 a2 a3 a4 a5 a6) := by
  intro a0 a1 a2 a3 a4 a5 a6 k
  unfold impl_EdBytes.f
  repeat' first
      | (with_reducible exact impl_PairOk.mono _ _ _ _ _ _ _ _)
      | (with_reducible exact LeO.refl _)
      | (with_reducible exact LeO.none _)
      | (with_reducible refine LeO.ite ?_ ?_)
      | (with_reducible refine LeO.bind ?_ (fun _ => ?_))
      | exact impl_PairOk.mono _ _ _ _ _ _ _ _
      | exact LeO.none _
      | refine LeO.ite ?_ ?_
      | refine LeO.bind ?_ (fun _ => ?_)
set_option maxHeartbeats 8000000 in
set_option maxRecDepth 100000 in
theorem impl_EdBytes.calls (k : Nat) (a0_0 : Int) (a0_1 : Int) (a0_2 : Int) (a0_3 : Int) (a0_4 : Int) (a1_0 : Int) (a1_1 : Int) (r1 : List Int) (r2 : Bool) (w : World) (h : impl_EdBytes.f k a0_0 a0_1 a0_2 a0_3 a0_4 a1_0 a1_1 = some (r1, r2)) :
    Calls Try.prog 13 #[.agg #[.int .i64 a0_0, .int .i64 a0_1, .int .i64 a0_2, .int .i64 a0_3, .int .i64 a0_4], .agg #[.int .i64 a1_0, .int .i64 a1_1]] w fun e w' => ∃ v0_ : Value, e = .returned (.tuple #[v0_, .bool r2]) ∧ Kd.R (Kd.int .u8) 5 w' w.heap.size (fun _ => True) v0_ r1 ∧ Below w.heap.size w w' := by
  have hu25 := Try.underlying25
  have hu27 := Try.underlying27
  have HB := Aside0.mk (Below.refl w.heap.size w)
  have H : ((impl_PairOk.f k a0_0 a0_1 a0_2 a0_3 a0_4 a1_0 a1_1).bind fun t245 => (if t245 = true then ((impl_edBytes.f a1_0 a1_1).bind fun t246 => (some (t246, true))) else (some (([] : List Int), false)))) = some (r1, r2) := h
  clear h
  replace H := Option.bind_eq_some_iff.mp H
  obtain ⟨t245, A30, H⟩ := H
  replace H : (if t245 = true then ((impl_edBytes.f a1_0 a1_1).bind fun t246 => (some (t246, true))) else (some (([] : List Int), false))) = some (r1, r2) := H
  have A3 := Aside0.mk A30
  clear A30
  by_cases c4 : t245 = true
  · subst c4
    have H1 : ((impl_edBytes.f a1_0 a1_1).bind fun t246 => (some (t246, true))) = some (r1, r2) := by rw [if_pos rfl] at H; exact H
    clear H
    have H := H1
    clear H1
    replace H := Option.bind_eq_some_iff.mp H
    obtain ⟨t246, A50, H⟩ := H
    replace H : (some (t246, true)) = some (r1, r2) := H
    have A5 := Aside0.mk A50
    clear A50
    simp only [Option.some.injEq, Prod.mk.injEq] at H
    obtain ⟨rfl, rfl⟩ := H
    go_enter Try.func13, Try.ntmps13
    go_wp2_with (first | ((with_reducible refine gate_dst (N := 2) rfl ?_); refine box_event ?hg (N := 2) ?hd (cs := #[.int .i64 a0_0, .int .i64 a0_1, .int .i64 a0_2, .int .i64 a0_3, .int .i64 a0_4]) (t := 25) ?hr ?_; (case hd => rfl); (case hg => rfl); (case hr => first | (go_simp; done) | (go_simp; rfl)); intro gb243 hg w6 hbox hb; have n0_ := Aside0.mk (below_step (by repeat (first | (with_reducible first | exact HB.out | apply below_alloc | apply pw_below_drewN | apply below_drew1) | exact HB.out)) hb); have n1_ := Aside0.mk (hbox); have n2_ := Aside0.mk ((by rw [hg]; exact (below_size (by repeat (first | (with_reducible first | exact HB.out | apply below_alloc | apply pw_below_drewN | apply below_drew1) | exact HB.out))) : w.heap.size ≤ gb243)); have n3_ := Aside0.mk ((by rw [hg]; exact (below_size (by repeat (first | (with_reducible first | exact HB.out | apply below_alloc | apply pw_below_drewN | apply below_drew1) | exact HB.out))) : w.heap.size ≤ gb243)); clear HB; have HB := n0_; have BK243 := n1_; have GW243 := n2_; have GE243 := n3_; clear n0_ n1_ n2_ n3_; clear hb hbox hg) | ((with_reducible refine gate_dst (N := 3) rfl ?_); refine box_event ?hg (N := 3) ?hd (cs := #[.int .i64 a1_0, .int .i64 a1_1]) (t := 27) ?hr ?_; (case hd => rfl); (case hg => rfl); (case hr => first | (go_simp; done) | (go_simp; rfl)); intro gb244 hg w7 hbox hb; have n0_ := Aside0.mk (blk_below (g := gb243) (o := .cells #[.int .i64 a0_0, .int .i64 a0_1, .int .i64 a0_2, .int .i64 a0_3, .int .i64 a0_4] 25 (0, 0)) (by (with_reducible repeat (first | refine blk_drewN ?_ _ | refine blk_drew ?_ | refine blk_alloc ?_ _)); exact BK243.out) hb); have n1_ := Aside0.mk (below_step (by repeat (first | (with_reducible first | exact HB.out | apply below_alloc | apply pw_below_drewN | apply below_drew1 | refine below_set ?_ GE243.out) | exact HB.out)) hb); have n2_ := Aside0.mk (hbox); have n3_ := Aside0.mk ((by rw [hg]; exact (below_size (by repeat (first | (with_reducible first | exact HB.out | apply below_alloc | apply pw_below_drewN | apply below_drew1 | refine below_set ?_ GE243.out) | exact HB.out))) : w.heap.size ≤ gb244)); have n4_ := Aside0.mk ((by rw [hg]; exact (below_size (by repeat (first | (with_reducible first | exact HB.out | apply below_alloc | apply pw_below_drewN | apply below_drew1 | refine below_set ?_ GE243.out) | exact HB.out))) : w.heap.size ≤ gb244)); have n5_ := Aside0.mk ((by rw [hg]; exact Nat.ne_of_lt (blk_lt (g := gb243) (o := .cells #[.int .i64 a0_0, .int .i64 a0_1, .int .i64 a0_2, .int .i64 a0_3, .int .i64 a0_4] 25 (0, 0)) (by (with_reducible repeat (first | refine blk_drewN ?_ _ | refine blk_drew ?_ | refine blk_alloc ?_ _)); exact BK243.out)) : gb243 ≠ gb244)); have n6_ := Aside0.mk ((by rw [hg]; exact Nat.ne_of_gt (blk_lt (g := gb243) (o := .cells #[.int .i64 a0_0, .int .i64 a0_1, .int .i64 a0_2, .int .i64 a0_3, .int .i64 a0_4] 25 (0, 0)) (by (with_reducible repeat (first | refine blk_drewN ?_ _ | refine blk_drew ?_ | refine blk_alloc ?_ _)); exact BK243.out)) : gb244 ≠ gb243)); clear BK243; clear HB; have BK243 := n0_; have HB := n1_; have BK244 := n2_; have GW244 := n3_; have GE244 := n4_; have NB243_244 := n5_; have NB244_243 := n6_; clear n0_ n1_ n2_ n3_ n4_ n5_ n6_; clear hb hbox hg; have hnb8 := NB243_244.out; have hnc8 := NB244_243.out; have hcz9_0 : w7.cell? ⟨gb243, 0, none⟩ = some (.int .i64 a0_0) := (blk_cell BK243.out 0).trans rfl; have hcz9_1 : w7.cell? ⟨gb243, 1, none⟩ = some (.int .i64 a0_1) := (blk_cell BK243.out 1).trans rfl; have hcz9_2 : w7.cell? ⟨gb243, 2, none⟩ = some (.int .i64 a0_2) := (blk_cell BK243.out 2).trans rfl; have hcz9_3 : w7.cell? ⟨gb243, 3, none⟩ = some (.int .i64 a0_3) := (blk_cell BK243.out 3).trans rfl; have hcz9_4 : w7.cell? ⟨gb243, 4, none⟩ = some (.int .i64 a0_4) := (blk_cell BK243.out 4).trans rfl; have hfz9_0 := blk_frozen BK243.out 0; have hfz9_1 := blk_frozen BK243.out 1; have hfz9_2 := blk_frozen BK243.out 2; have hfz9_3 := blk_frozen BK243.out 3; have hfz9_4 := blk_frozen BK243.out 4; have hcz10_0 : w7.cell? ⟨gb244, 0, none⟩ = some (.int .i64 a1_0) := (blk_cell BK244.out 0).trans rfl; have hcz10_1 : w7.cell? ⟨gb244, 1, none⟩ = some (.int .i64 a1_1) := (blk_cell BK244.out 1).trans rfl; have hfz10_0 := blk_frozen BK244.out 0; have hfz10_1 := blk_frozen BK244.out 1) | ((with_reducible refine gate_callee (f := 8) rfl ?_); refine goesL_ (some 8) rfl rfl Try.func8 (by kernel_rfl) rfl #[.agg #[.int .i64 a0_0, .int .i64 a0_1, .int .i64 a0_2, .int .i64 a0_3, .int .i64 a0_4], .agg #[.int .i64 a1_0, .int .i64 a1_1]] rfl (by (try simp only [List.map_toArray, List.map_cons, List.map_nil]); first | done | rfl | (simp only [List.length_drop, List.length_take]; rfl)) ?_; (with_reducible refine (impl_PairOk.calls k a0_0 a0_1 a0_2 a0_3 a0_4 a1_0 a1_1 true _ A3.out).mono ?_); rintro e w11 ⟨rfl, hb⟩; refine ⟨_, rfl, ?_⟩; have n0_ := Aside0.mk (blk_below (g := gb243) (o := .cells #[.int .i64 a0_0, .int .i64 a0_1, .int .i64 a0_2, .int .i64 a0_3, .int .i64 a0_4] 25 (0, 0)) (by (with_reducible repeat (first | refine blk_drewN ?_ _ | refine blk_drew ?_ | refine blk_alloc ?_ _)); exact BK243.out) hb); have n1_ := Aside0.mk (blk_below (g := gb244) (o := .cells #[.int .i64 a1_0, .int .i64 a1_1] 27 (0, 0)) (by (with_reducible repeat (first | refine blk_drewN ?_ _ | refine blk_drew ?_ | refine blk_alloc ?_ _)); exact BK244.out) hb); have n2_ := Aside0.mk (below_step (by repeat (first | (with_reducible first | exact HB.out | apply below_alloc | apply pw_below_drewN | apply below_drew1 | refine below_set ?_ GE243.out | refine below_set ?_ GE244.out) | exact HB.out)) hb); clear BK243; clear BK244; clear HB; have BK243 := n0_; have BK244 := n1_; have HB := n2_; clear n0_ n1_ n2_; (try clear hb); (try clear hb2); (try clear hk); (try clear hi); have hcz12_0 : w11.cell? ⟨gb244, 0, none⟩ = some (.int .i64 a1_0) := (blk_cell BK244.out 0).trans rfl; have hcz12_1 : w11.cell? ⟨gb244, 1, none⟩ = some (.int .i64 a1_1) := (blk_cell BK244.out 1).trans rfl; have hfz12_0 := blk_frozen BK244.out 0; have hfz12_1 := blk_frozen BK244.out 1) | ((with_reducible refine gate_callee (f := 31) rfl ?_); refine goesL_ (some 11) rfl rfl Try.func31 (by kernel_rfl) rfl #[.agg #[.int .i64 a1_0, .int .i64 a1_1]] rfl (by (try simp only [List.map_toArray, List.map_cons, List.map_nil]); first | done | rfl | (simp only [List.length_drop, List.length_take]; rfl)) ?_; (with_reducible refine (impl_edBytes.calls a1_0 a1_1 t246 _ A5.out).mono ?_); rintro e w13 ⟨v247, rfl, ho0, hb⟩; refine ⟨_, rfl, ?_⟩; have n0_ := Aside0.mk (Kd.R_lower ho0 (below_size (by repeat (first | (with_reducible first | exact HB.out | apply below_alloc | apply pw_below_drewN | apply below_drew1 | refine below_set ?_ GE243.out | refine below_set ?_ GE244.out) | exact HB.out)))); have n1_ := Aside0.mk (blk_below (g := gb243) (o := .cells #[.int .i64 a0_0, .int .i64 a0_1, .int .i64 a0_2, .int .i64 a0_3, .int .i64 a0_4] 25 (0, 0)) (by (with_reducible repeat (first | refine blk_drewN ?_ _ | refine blk_drew ?_ | refine blk_alloc ?_ _)); exact BK243.out) hb); have n2_ := Aside0.mk (blk_below (g := gb244) (o := .cells #[.int .i64 a1_0, .int .i64 a1_1] 27 (0, 0)) (by (with_reducible repeat (first | refine blk_drewN ?_ _ | refine blk_drew ?_ | refine blk_alloc ?_ _)); exact BK244.out) hb); have n3_ := Aside0.mk (below_step (by repeat (first | (with_reducible first | exact HB.out | apply below_alloc | apply pw_below_drewN | apply below_drew1 | refine below_set ?_ GE243.out | refine below_set ?_ GE244.out) | exact HB.out)) hb); clear BK243; clear BK244; clear HB; have HO248 := n0_; have BK243 := n1_; have BK244 := n2_; have HB := n3_; clear n0_ n1_ n2_ n3_; (try clear hb); (try clear hb2); (try clear hk); (try clear hi); (try clear ho0)))
    go_ret2
    exact ⟨_, by first | rfl | (simp [errW_none, errW_some] <;> rfl) | (simp [*, errW_none, errW_some] <;> rfl), by (with_reducible repeat (first | apply Kd.R_alloc | apply Kd.R_drewN | apply Kd.R_drew)); exact HO248.out, by repeat (first | (with_reducible first | exact HB.out | apply below_alloc | apply pw_below_drewN | apply below_drew1 | refine below_set ?_ GE243.out | refine below_set ?_ GE244.out) | exact HB.out)⟩
  · replace c4 := Bool.eq_false_iff.mpr c4
    subst c4
    have H1 : (some (([] : List Int), false)) = some (r1, r2) := by rw [if_neg (show ¬ (false = true) by decide)] at H; exact H
    clear H
    have H := H1
    clear H1
    simp only [Option.some.injEq, Prod.mk.injEq] at H
    obtain ⟨rfl, rfl⟩ := H
    go_enter Try.func13, Try.ntmps13
    go_wp2_with (first | ((with_reducible refine gate_dst (N := 2) rfl ?_); refine box_event ?hg (N := 2) ?hd (cs := #[.int .i64 a0_0, .int .i64 a0_1, .int .i64 a0_2, .int .i64 a0_3, .int .i64 a0_4]) (t := 25) ?hr ?_; (case hd => rfl); (case hg => rfl); (case hr => first | (go_simp; done) | (go_simp; rfl)); intro gb243 hg w14 hbox hb; have n0_ := Aside0.mk (below_step (by repeat (first | (with_reducible first | exact HB.out | apply below_alloc | apply pw_below_drewN | apply below_drew1) | exact HB.out)) hb); have n1_ := Aside0.mk (hbox); have n2_ := Aside0.mk ((by rw [hg]; exact (below_size (by repeat (first | (with_reducible first | exact HB.out | apply below_alloc | apply pw_below_drewN | apply below_drew1) | exact HB.out))) : w.heap.size ≤ gb243)); have n3_ := Aside0.mk ((by rw [hg]; exact (below_size (by repeat (first | (with_reducible first | exact HB.out | apply below_alloc | apply pw_below_drewN | apply below_drew1) | exact HB.out))) : w.heap.size ≤ gb243)); clear HB; have HB := n0_; have BK243 := n1_; have GW243 := n2_; have GE243 := n3_; clear n0_ n1_ n2_ n3_; clear hb hbox hg) | ((with_reducible refine gate_dst (N := 3) rfl ?_); refine box_event ?hg (N := 3) ?hd (cs := #[.int .i64 a1_0, .int .i64 a1_1]) (t := 27) ?hr ?_; (case hd => rfl); (case hg => rfl); (case hr => first | (go_simp; done) | (go_simp; rfl)); intro gb244 hg w15 hbox hb; have n0_ := Aside0.mk (blk_below (g := gb243) (o := .cells #[.int .i64 a0_0, .int .i64 a0_1, .int .i64 a0_2, .int .i64 a0_3, .int .i64 a0_4] 25 (0, 0)) (by (with_reducible repeat (first | refine blk_drewN ?_ _ | refine blk_drew ?_ | refine blk_alloc ?_ _)); exact BK243.out) hb); have n1_ := Aside0.mk (below_step (by repeat (first | (with_reducible first | exact HB.out | apply below_alloc | apply pw_below_drewN | apply below_drew1 | refine below_set ?_ GE243.out) | exact HB.out)) hb); have n2_ := Aside0.mk (hbox); have n3_ := Aside0.mk ((by rw [hg]; exact (below_size (by repeat (first | (with_reducible first | exact HB.out | apply below_alloc | apply pw_below_drewN | apply below_drew1 | refine below_set ?_ GE243.out) | exact HB.out))) : w.heap.size ≤ gb244)); have n4_ := Aside0.mk ((by rw [hg]; exact (below_size (by repeat (first | (with_reducible first | exact HB.out | apply below_alloc | apply pw_below_drewN | apply below_drew1 | refine below_set ?_ GE243.out) | exact HB.out))) : w.heap.size ≤ gb244)); have n5_ := Aside0.mk ((by rw [hg]; exact Nat.ne_of_lt (blk_lt (g := gb243) (o := .cells #[.int .i64 a0_0, .int .i64 a0_1, .int .i64 a0_2, .int .i64 a0_3, .int .i64 a0_4] 25 (0, 0)) (by (with_reducible repeat (first | refine blk_drewN ?_ _ | refine blk_drew ?_ | refine blk_alloc ?_ _)); exact BK243.out)) : gb243 ≠ gb244)); have n6_ := Aside0.mk ((by rw [hg]; exact Nat.ne_of_gt (blk_lt (g := gb243) (o := .cells #[.int .i64 a0_0, .int .i64 a0_1, .int .i64 a0_2, .int .i64 a0_3, .int .i64 a0_4] 25 (0, 0)) (by (with_reducible repeat (first | refine blk_drewN ?_ _ | refine blk_drew ?_ | refine blk_alloc ?_ _)); exact BK243.out)) : gb244 ≠ gb243)); clear BK243; clear HB; have BK243 := n0_; have HB := n1_; have BK244 := n2_; have GW244 := n3_; have GE244 := n4_; have NB243_244 := n5_; have NB244_243 := n6_; clear n0_ n1_ n2_ n3_ n4_ n5_ n6_; clear hb hbox hg; have hnb16 := NB243_244.out; have hnc16 := NB244_243.out; have hcz17_0 : w15.cell? ⟨gb243, 0, none⟩ = some (.int .i64 a0_0) := (blk_cell BK243.out 0).trans rfl; have hcz17_1 : w15.cell? ⟨gb243, 1, none⟩ = some (.int .i64 a0_1) := (blk_cell BK243.out 1).trans rfl; have hcz17_2 : w15.cell? ⟨gb243, 2, none⟩ = some (.int .i64 a0_2) := (blk_cell BK243.out 2).trans rfl; have hcz17_3 : w15.cell? ⟨gb243, 3, none⟩ = some (.int .i64 a0_3) := (blk_cell BK243.out 3).trans rfl; have hcz17_4 : w15.cell? ⟨gb243, 4, none⟩ = some (.int .i64 a0_4) := (blk_cell BK243.out 4).trans rfl; have hfz17_0 := blk_frozen BK243.out 0; have hfz17_1 := blk_frozen BK243.out 1; have hfz17_2 := blk_frozen BK243.out 2; have hfz17_3 := blk_frozen BK243.out 3; have hfz17_4 := blk_frozen BK243.out 4; have hcz18_0 : w15.cell? ⟨gb244, 0, none⟩ = some (.int .i64 a1_0) := (blk_cell BK244.out 0).trans rfl; have hcz18_1 : w15.cell? ⟨gb244, 1, none⟩ = some (.int .i64 a1_1) := (blk_cell BK244.out 1).trans rfl; have hfz18_0 := blk_frozen BK244.out 0; have hfz18_1 := blk_frozen BK244.out 1) | ((with_reducible refine gate_callee (f := 8) rfl ?_); refine goesL_ (some 8) rfl rfl Try.func8 (by kernel_rfl) rfl #[.agg #[.int .i64 a0_0, .int .i64 a0_1, .int .i64 a0_2, .int .i64 a0_3, .int .i64 a0_4], .agg #[.int .i64 a1_0, .int .i64 a1_1]] rfl (by (try simp only [List.map_toArray, List.map_cons, List.map_nil]); first | done | rfl | (simp only [List.length_drop, List.length_take]; rfl)) ?_; (with_reducible refine (impl_PairOk.calls k a0_0 a0_1 a0_2 a0_3 a0_4 a1_0 a1_1 false _ A3.out).mono ?_); rintro e w19 ⟨rfl, hb⟩; refine ⟨_, rfl, ?_⟩; have n0_ := Aside0.mk (blk_below (g := gb243) (o := .cells #[.int .i64 a0_0, .int .i64 a0_1, .int .i64 a0_2, .int .i64 a0_3, .int .i64 a0_4] 25 (0, 0)) (by (with_reducible repeat (first | refine blk_drewN ?_ _ | refine blk_drew ?_ | refine blk_alloc ?_ _)); exact BK243.out) hb); have n1_ := Aside0.mk (blk_below (g := gb244) (o := .cells #[.int .i64 a1_0, .int .i64 a1_1] 27 (0, 0)) (by (with_reducible repeat (first | refine blk_drewN ?_ _ | refine blk_drew ?_ | refine blk_alloc ?_ _)); exact BK244.out) hb); have n2_ := Aside0.mk (below_step (by repeat (first | (with_reducible first | exact HB.out | apply below_alloc | apply pw_below_drewN | apply below_drew1 | refine below_set ?_ GE243.out | refine below_set ?_ GE244.out) | exact HB.out)) hb); clear BK243; clear BK244; clear HB; have BK243 := n0_; have BK244 := n1_; have HB := n2_; clear n0_ n1_ n2_; (try clear hb); (try clear hb2); (try clear hk); (try clear hi)))
    go_ret2
    exact ⟨_, by first | rfl | (simp [errW_none, errW_some] <;> rfl) | (simp [*, errW_none, errW_some] <;> rfl), by first | exact Kd.R_nil _ _ _ _ _ | exact Kd.N_nil _ _ _ _ _ | exact Kd.V_nil _ _ _ _ _ | exact Kd.Q_nil _ _ _ _ _ | exact Kd.S_nil _ _ _ _ _, by repeat (first | (with_reducible first | exact HB.out | apply below_alloc | apply pw_below_drewN | apply below_drew1 | refine below_set ?_ GE243.out | refine below_set ?_ GE244.out) | exact HB.out)⟩

end Go.Proofs.Ytfdlblckmlbhoaa.PFnTwisted
