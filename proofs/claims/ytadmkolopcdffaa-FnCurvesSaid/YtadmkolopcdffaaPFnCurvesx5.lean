-- Written for this claim by a program of this session.
import Derived.Test.YtadmkolopcdffaaPFnCurvesx0
import Derived.Test.YtadmkolopcdffaaPFnCurvesx2
import Derived.Test.YtadmkolopcdffaaPFnCurvesx3
import Derived.Test.YtadmkolopcdffaaPFnCurvesx4
namespace Go.Proofs.Ytadmkolopcdffaa.PFnCurves
open Go.RowKit Go.Proofs.YtadmkolopcdffaaW.PrintWords Go.Proofs.YtadmkolopcdffaaW.PrintLast Go.Proofs.YtadmkolopcdffaaW.PrintMore
attribute [local go_sem] max2_int min2_int max_two min_two max_three min_three max_four min_four   -- for this text's walks alone
set_option linter.unusedVariables false
set_option linter.unusedSimpArgs false

attribute [local go_sem] fld_
/-! ### spec_l3Mul: function 41 -/
def spec_l3Mul.l0 : Nat → Int → Int → Int → Int → Int → Int → Int → Int → Int → Bool → Int → Int → Bool → Option (Int × Int × Bool)
  | 0, _, _, _, _, _, _, _, _, _, _, _, _, _ => none
  | k + 1, x1, x206000, x206001, x206002, x206003, x206004, x206005, x207000, x207001, x207002, x209000, x209001, x209002 => if x1 > 0 then (if (Int.tmod x1 2) = 1 then ((spec_l3Add.f k x206000 x206001 x206002 x206003 x206004 x206005 x209000 x209001 x209002 x207000 x207001 x207002).bind fun bt209 => ((spec_l3Add.f k x206000 x206001 x206002 x206003 x206004 x206005 x207000 x207001 x207002 x207000 x207001 x207002).bind fun bt212 => (spec_l3Mul.l0 k (wrap64 (Int.tdiv x1 2)) x206000 x206001 x206002 x206003 x206004 x206005 bt212.1 bt212.2.1 bt212.2.2 bt209.1 bt209.2.1 bt209.2.2))) else ((spec_l3Add.f k x206000 x206001 x206002 x206003 x206004 x206005 x207000 x207001 x207002 x207000 x207001 x207002).bind fun bt215 => (spec_l3Mul.l0 k (wrap64 (Int.tdiv x1 2)) x206000 x206001 x206002 x206003 x206004 x206005 bt215.1 bt215.2.1 bt215.2.2 x209000 x209001 x209002))) else (some (x209000, x209001, x209002))
def spec_l3Mul.f (k : Nat) (a0_0 : Int) (a0_1 : Int) (a0_2 : Int) (a0_3 : Int) (a0_4 : Int) (a0_5 : Int) (a1 : Int) (a2_0 : Int) (a2_1 : Int) (a2_2 : Bool) : Option (Int × Int × Bool) := spec_l3Mul.l0 k a1 a0_0 a0_1 a0_2 a0_3 a0_4 a0_5 a2_0 a2_1 a2_2 0 0 true
theorem spec_l3Mul.mono_l : ∀ k, (∀ y0 y1 y2 y3 y4 y5 y6 y7 y8 y9 y10 y11 y12, LeO (spec_l3Mul.l0 k y0 y1 y2 y3 y4 y5 y6 y7 y8 y9 y10 y11 y12) (spec_l3Mul.l0 (k + 1) y0 y1 y2 y3 y4 y5 y6 y7 y8 y9 y10 y11 y12))
 | 0 => fun _ _ _ _ _ _ _ _ _ _ _ _ _ r h => by simp [spec_l3Mul.l0] at h
 | k + 1 => by
  have ih0 := spec_l3Mul.mono_l k
  ·
   intro y0 y1 y2 y3 y4 y5 y6 y7 y8 y9 y10 y11 y12
   unfold spec_l3Mul.l0
   repeat' first
   | (with_reducible exact ih0 _ _ _ _ _ _ _ _ _ _ _ _ _)
   | (with_reducible exact spec_l3Add.mono _ _ _ _ _ _ _ _ _ _ _ _ _)
   | (with_reducible exact LeO.refl _)
   | (with_reducible exact LeO.none _)
   | (with_reducible refine LeO.ite ?_ ?_)
   | (with_reducible refine LeO.bind ?_ (fun _ => ?_))
   | exact ih0 _ _ _ _ _ _ _ _ _ _ _ _ _
   | exact spec_l3Add.mono _ _ _ _ _ _ _ _ _ _ _ _ _
   | exact LeO.none _
   | refine LeO.ite ?_ ?_
   | refine LeO.bind ?_ (fun _ => ?_)
theorem spec_l3Mul.mono : ∀ a0 a1 a2 a3 a4 a5 a6 a7 a8 a9 k, LeO (spec_l3Mul.f k a0 a1 a2 a3 a4 a5 a6 a7 a8 a9) (spec_l3Mul.f (k + 1) a0 a1 a2 a3 a4 a5 a6 a7 a8 a9) := by
 intro a0 a1 a2 a3 a4 a5 a6 a7 a8 a9 k; have ih0 := spec_l3Mul.mono_l k
 unfold spec_l3Mul.f
 repeat' first
   | (with_reducible exact ih0 _ _ _ _ _ _ _ _ _ _ _ _ _)
   | (with_reducible exact spec_l3Add.mono _ _ _ _ _ _ _ _ _ _ _ _ _)
   | (with_reducible exact LeO.refl _)
   | (with_reducible exact LeO.none _)
   | (with_reducible refine LeO.ite ?_ ?_)
   | (with_reducible refine LeO.bind ?_ (fun _ => ?_))
   | exact ih0 _ _ _ _ _ _ _ _ _ _ _ _ _
   | exact spec_l3Add.mono _ _ _ _ _ _ _ _ _ _ _ _ _
   | exact LeO.none _
   | refine LeO.ite ?_ ?_
   | refine LeO.bind ?_ (fun _ => ?_)
set_option maxHeartbeats 8000000 in
set_option maxRecDepth 100000 in
theorem spec_l3Mul.calls (k : Nat) (a0_0 : Int) (a0_1 : Int) (a0_2 : Int) (a0_3 : Int) (a0_4 : Int) (a0_5 : Int) (a1 : Int) (a2_0 : Int) (a2_1 : Int) (a2_2 : Bool) (r1 : Int) (r2 : Int) (r3 : Bool) (w : World) (h : spec_l3Mul.f k a0_0 a0_1 a0_2 a0_3 a0_4 a0_5 a1 a2_0 a2_1 a2_2 = some (r1, r2, r3)) :
  Calls Try.prog 41 #[.agg #[.int .i64 a0_0, .int .i64 a0_1, .int .i64 a0_2, .int .i64 a0_3, .int .i64 a0_4, .int .i64 a0_5], .int .i64 a1, .agg #[.int .i64 a2_0, .int .i64 a2_1, .bool a2_2]] w fun e w' => e = .returned (.agg #[.int .i64 r1, .int .i64 r2, .bool r3]) ∧ Below w.heap.size w w' := by
 have hu29 := Try.underlying29; have hu26 := Try.underlying26; have HB := Aside0.mk (Below.refl w.heap.size w)
 have H : (spec_l3Mul.l0 k a1 a0_0 a0_1 a0_2 a0_3 a0_4 a0_5 a2_0 a2_1 a2_2 0 0 true) = some (r1, r2, r3) := h
 clear h
 have H' := Aside0.mk H
 clear H
 go_enter Try.func41, Try.ntmps41
 go_wp2_with (first | ((with_reducible refine gate_dst (N := 3) rfl ?_); refine box_event ?hg (N := 3) ?hd (cs := #[.int .i64 a0_0, .int .i64 a0_1, .int .i64 a0_2, .int .i64 a0_3, .int .i64 a0_4, .int .i64 a0_5]) (t := 29) ?hr ?_; (case hd => rfl); (case hg => rfl); (case hr => first | (go_simp; done) | (go_simp; rfl)); intro gb205 hg w4 hbox hb; have BK205 := Aside0.mk hbox; have GW205 := ge_ HB hg; have GE205 := ge_ HB hg; replace HB := bs_ HB hb; clear hb hbox hg) | ((with_reducible refine gate_dst (N := 5) rfl ?_); refine box_event ?hg (N := 5) ?hd (cs := #[.int .i64 a2_0, .int .i64 a2_1, .bool a2_2]) (t := 26) ?hr ?_; (case hd => rfl); (case hg => rfl); (case hr => first | (go_simp; done) | (go_simp; rfl)); intro gb206 hg w5 hbox hb; have BK206 := Aside0.mk hbox; have GW206 := ge_ HB hg; have GE206 := ge_ HB hg; have NB205_206 := nl_ BK205 hg; have NB206_205 := nr_ BK205 hg; replace BK205 := bb_ BK205 hb; replace HB := bs_ HB hb; clear hb hbox hg) | ((with_reducible refine gate_dst (N := 6) rfl ?_); refine box_event ?hg (N := 6) ?hd (cs := #[.int .i64 0, .int .i64 0, .bool false]) (t := 26) ?hr ?_; (case hd => rfl); (case hg => rfl); (case hr => first | (go_simp; done) | (go_simp; rfl)); intro gb207 hg w6 hbox hb; have BK207 := Aside0.mk hbox; have GW207 := ge_ HB hg; have GE207 := ge_ HB hg; have NB205_207 := nl_ BK205 hg; have NB207_205 := nr_ BK205 hg; have NB206_207 := nl_ BK206 hg; have NB207_206 := nr_ BK206 hg; replace BK205 := bb_ BK205 hb; replace BK206 := bb_ BK206 hb; replace HB := bs_ HB hb; clear hb hbox hg) | ((with_reducible refine gate_dst (N := 7) rfl ?_); refine box_event ?hg (N := 7) ?hd (cs := #[.int .i64 0, .int .i64 0, .bool false]) (t := 26) ?hr ?_; (case hd => rfl); (case hg => rfl); (case hr => first | (go_simp; done) | (go_simp; rfl)); intro gb208 hg w7 hbox hb; have BK208 := Aside0.mk hbox; have GW208 := ge_ HB hg; have GE208 := ge_ HB hg; have NB205_208 := nl_ BK205 hg; have NB208_205 := nr_ BK205 hg; have NB206_208 := nl_ BK206 hg; have NB208_206 := nr_ BK206 hg; have NB207_208 := nl_ BK207 hg; have NB208_207 := nr_ BK207 hg; replace BK205 := bb_ BK205 hb; replace BK206 := bb_ BK206 hb; replace BK207 := bb_ BK207 hb; replace HB := bs_ HB hb; clear hb hbox hg; obtain ⟨hnb8, hnc8⟩ := nn_ NB208_205; obtain ⟨hnb9, hnc9⟩ := nn_ NB208_206; obtain ⟨hnb10, hnc10⟩ := nn_ NB208_207; obtain ⟨hcz11_0, hcz11_1, hcz11_2, hfz11_0, hfz11_1, hfz11_2⟩ := bx3_ BK208))
 go_loopg [1] k (fun kq v1 w' => ∃ (x1_1 : Int) (x207000_1 : Int) (x207001_1 : Int) (x207002_1 : Bool) (x209000_1 : Int) (x209001_1 : Int) (x209002_1 : Bool), v1 = .int .i64 x1_1 ∧ Aside0 (spec_l3Mul.l0 kq x1_1 a0_0 a0_1 a0_2 a0_3 a0_4 a0_5 x207000_1 x207001_1 x207002_1 x209000_1 x209001_1 x209002_1 = some (r1, r2, r3)) ∧ Aside0 (kq ≤ k) ∧ Aside0 (w'.heap[gb205]? = some (.cells #[.int .i64 a0_0, .int .i64 a0_1, .int .i64 a0_2, .int .i64 a0_3, .int .i64 a0_4, .int .i64 a0_5] 29 (0, 0))) ∧ Aside0 (w'.heap[gb206]? = some (.cells #[.int .i64 x207000_1, .int .i64 x207001_1, .bool x207002_1] 26 (0, 0))) ∧ Aside0 (w'.heap[gb207]? = some (.cells #[.int .i64 0, .int .i64 0, .bool false] 26 (0, 0))) ∧ Aside0 (w'.heap[gb208]? = some (.cells #[.int .i64 x209000_1, .int .i64 x209001_1, .bool x209002_1] 26 (0, 0))) ∧ Aside0 (Below w.heap.size w w'))
 case atStart => exact ⟨(a1), (a2_0), (a2_1), (a2_2), (0), (0), (true), (by first | rfl | (simp; done) | (simp [*]; done)), H', ⟨Nat.le_refl _⟩, ⟨bf_ BK205⟩, ⟨bf_ BK206⟩, ⟨bf_ BK207⟩, ⟨bq_ BK208⟩, ⟨bw_ HB⟩⟩
 case round =>
  clear H'
  try clear c1
  try clear p2
  try clear c4
  try clear c8
  try clear c9
  try clear c10
  try clear hcz11_0 hcz11_1 hcz11_2
  try clear hfz11_0 hfz11_1 hfz11_2
  obtain ⟨x1_1, x207000_1, x207001_1, x207002_1, x209000_1, x209001_1, x209002_1, rfl, HA, HK1, BK205, BK206, BK207, BK208, HB⟩ := hrel
  cases gk with
  | zero => exact absurd HA.out (by simp [spec_l3Mul.l0])
  | succ k1 =>
   have H := HA.out; clear HA
   simp only [spec_l3Mul.l0] at H
   by_cases c12 : x1_1 > 0
   ·
    rw [if_pos c12] at H
    have c12b0 : decide (0 < x1_1) = true := decide_eq_true c12
    clear c12
    by_cases c13 : (Int.tmod x1_1 2) = 1
    ·
     rw [if_pos c13] at H
     have c13b0 : ((Int.tmod x1_1 2) == 1) = true := beq_iff_eq.mpr c13
     have c13b1 : ((Int.tmod x1_1 2) != 1) = false := bne_eq_false_iff_eq.mpr c13
     clear c13; obtain ⟨⟨t209, t210, t211⟩, A140, H⟩ := pb_ H
     have A14 := Aside0.mk A140; clear A140; obtain ⟨⟨t212, t213, t214⟩, A150, H⟩ := pb_ H
     have A15 := Aside0.mk A150; clear A150
     have H' := Aside0.mk H
     clear H; obtain ⟨hnb16, hnc16⟩ := nn_ NB205_206; obtain ⟨hnb17, hnc17⟩ := nn_ NB205_207; obtain ⟨hnb18, hnc18⟩ := nn_ NB205_208
     obtain ⟨hcz19_0, hcz19_1, hcz19_2, hcz19_3, hcz19_4, hcz19_5, hfz19_0, hfz19_1, hfz19_2, hfz19_3, hfz19_4, hfz19_5⟩ := bx6_ BK205; obtain ⟨hnb20, hnc20⟩ := nn_ NB208_206; obtain ⟨hnb21, hnc21⟩ := nn_ NB208_207
     obtain ⟨hcz22_0, hcz22_1, hcz22_2, hfz22_0, hfz22_1, hfz22_2⟩ := bx3_ BK208; obtain ⟨hnb23, hnc23⟩ := nn_ NB206_207
     obtain ⟨hcz24_0, hcz24_1, hcz24_2, hfz24_0, hfz24_1, hfz24_2⟩ := bx3_ BK206
     go_wp2_with (first | ((with_reducible refine gate_callee (f := 31) rfl ?_); refine gl_ 17 rfl rfl Try.func31 #[.agg #[.int .i64 a0_0, .int .i64 a0_1, .int .i64 a0_2, .int .i64 a0_3, .int .i64 a0_4, .int .i64 a0_5], .agg #[.int .i64 x209000_1, .int .i64 x209001_1, .bool x209002_1], .agg #[.int .i64 x207000_1, .int .i64 x207001_1, .bool x207002_1]] rfl ?_; (with_reducible refine (spec_l3Add.calls k1 a0_0 a0_1 a0_2 a0_3 a0_4 a0_5 x209000_1 x209001_1 x209002_1 x207000_1 x207001_1 x207002_1 t209 t210 t211 _ A14.out).mono ?_); rintro e w25 ⟨rfl, hb⟩; refine ⟨_, rfl, ?_⟩; replace BK205 := bb_ BK205 hb; replace BK206 := bb_ BK206 hb; replace BK207 := bb_ BK207 hb; replace BK208 := bb_ BK208 hb; replace HB := bs_ HB hb; (try clear hb); (try clear hb2); (try clear hk); (try clear hi); obtain ⟨hcz26_0, hcz26_1, hcz26_2, hfz26_0, hfz26_1, hfz26_2⟩ := bx3_ BK208; obtain ⟨hcz27_0, hcz27_1, hcz27_2, hcz27_3, hcz27_4, hcz27_5, hfz27_0, hfz27_1, hfz27_2, hfz27_3, hfz27_4, hfz27_5⟩ := bx6_ BK205; have hcz28_0 : w25.cell? ⟨gb206, 0, none⟩ = some (.int .i64 x207000_1) := bc_ BK206 0; have hcz28_1 : w25.cell? ⟨gb206, 1, none⟩ = some (.int .i64 x207001_1) := bc_ BK206 1; have hcz28_2 : w25.cell? ⟨gb206, 2, none⟩ = some (.bool x207002_1) := bc_ BK206 2; have hfz28_0 := blk_frozen BK206.out 0; have hfz28_1 := blk_frozen BK206.out 1; have hfz28_2 := blk_frozen BK206.out 2) | ((with_reducible refine gate_callee (f := 31) rfl ?_); refine gl_ 21 rfl rfl Try.func31 #[.agg #[.int .i64 a0_0, .int .i64 a0_1, .int .i64 a0_2, .int .i64 a0_3, .int .i64 a0_4, .int .i64 a0_5], .agg #[.int .i64 x207000_1, .int .i64 x207001_1, .bool x207002_1], .agg #[.int .i64 x207000_1, .int .i64 x207001_1, .bool x207002_1]] rfl ?_; (with_reducible refine (spec_l3Add.calls k1 a0_0 a0_1 a0_2 a0_3 a0_4 a0_5 x207000_1 x207001_1 x207002_1 x207000_1 x207001_1 x207002_1 t212 t213 t214 _ A15.out).mono ?_); rintro e w29 ⟨rfl, hb⟩; refine ⟨_, rfl, ?_⟩; replace BK205 := bd_ BK205 hb; replace BK206 := bd_ BK206 hb; replace BK207 := bd_ BK207 hb; replace BK208 := be_ #[.int .i64 t209, .int .i64 t210, .bool t211] BK208 hb; replace HB := bs_ HB hb; (try clear hb); (try clear hb2); (try clear hk); (try clear hi); obtain ⟨hcz30_0, hcz30_1, hcz30_2, hfz30_0, hfz30_1, hfz30_2⟩ := bx3_ BK206))
     go_roundg k1
     case measure => have := HK1.out; omega
     case rel => exact ⟨(wrap64 (Int.tdiv x1_1 2)), (t212), (t213), (t214), (t209), (t210), (t211), (by first | rfl | (simp; done) | (simp [*]; done)), H', ⟨by have := HK1.out; omega⟩, ⟨bf_ BK205⟩, ⟨bq_ BK206⟩, ⟨bf_ BK207⟩, ⟨bf_ BK208⟩, ⟨bw_ HB⟩⟩
    ·
     rw [if_neg c13] at H
     have c13b0 : ((Int.tmod x1_1 2) == 1) = false := beq_eq_false_iff_ne.mpr c13
     have c13b1 : ((Int.tmod x1_1 2) != 1) = true := bne_iff_ne.mpr c13
     obtain ⟨⟨t215, t216, t217⟩, A310, H⟩ := pb_ H; have A31 := Aside0.mk A310; clear A310
     have H' := Aside0.mk H
     clear H; obtain ⟨hnb32, hnc32⟩ := nn_ NB205_206; obtain ⟨hnb33, hnc33⟩ := nn_ NB205_207; obtain ⟨hnb34, hnc34⟩ := nn_ NB205_208
     obtain ⟨hcz35_0, hcz35_1, hcz35_2, hcz35_3, hcz35_4, hcz35_5, hfz35_0, hfz35_1, hfz35_2, hfz35_3, hfz35_4, hfz35_5⟩ := bx6_ BK205; obtain ⟨hnb36, hnc36⟩ := nn_ NB206_207; obtain ⟨hnb37, hnc37⟩ := nn_ NB206_208
     obtain ⟨hcz38_0, hcz38_1, hcz38_2, hfz38_0, hfz38_1, hfz38_2⟩ := bx3_ BK206
     go_wp2_with (first | ((with_reducible refine gate_callee (f := 31) rfl ?_); refine gl_ 21 rfl rfl Try.func31 #[.agg #[.int .i64 a0_0, .int .i64 a0_1, .int .i64 a0_2, .int .i64 a0_3, .int .i64 a0_4, .int .i64 a0_5], .agg #[.int .i64 x207000_1, .int .i64 x207001_1, .bool x207002_1], .agg #[.int .i64 x207000_1, .int .i64 x207001_1, .bool x207002_1]] rfl ?_; (with_reducible refine (spec_l3Add.calls k1 a0_0 a0_1 a0_2 a0_3 a0_4 a0_5 x207000_1 x207001_1 x207002_1 x207000_1 x207001_1 x207002_1 t215 t216 t217 _ A31.out).mono ?_); rintro e w39 ⟨rfl, hb⟩; refine ⟨_, rfl, ?_⟩; replace BK205 := bb_ BK205 hb; replace BK206 := bb_ BK206 hb; replace BK207 := bb_ BK207 hb; replace BK208 := bb_ BK208 hb; replace HB := bs_ HB hb; (try clear hb); (try clear hb2); (try clear hk); (try clear hi); obtain ⟨hcz40_0, hcz40_1, hcz40_2, hfz40_0, hfz40_1, hfz40_2⟩ := bx3_ BK206))
     go_roundg k1
     case measure => have := HK1.out; omega
     case rel => exact ⟨(wrap64 (Int.tdiv x1_1 2)), (t215), (t216), (t217), (x209000_1), (x209001_1), (x209002_1), (by first | rfl | (simp; done) | (simp [*]; done)), H', ⟨by have := HK1.out; omega⟩, ⟨bf_ BK205⟩, ⟨bq_ BK206⟩, ⟨bf_ BK207⟩, ⟨bf_ BK208⟩, ⟨bw_ HB⟩⟩
   ·
    rw [if_neg c12] at H
    have c12b0 : decide (0 < x1_1) = false := decide_eq_false c12
    clear c12
    simp only [Option.some.injEq, Prod.mk.injEq] at H
    obtain ⟨rfl, rfl, rfl⟩ := H; obtain ⟨hnb41, hnc41⟩ := nn_ NB208_205; obtain ⟨hnb42, hnc42⟩ := nn_ NB208_206; obtain ⟨hnb43, hnc43⟩ := nn_ NB208_207
    obtain ⟨hcz44_0, hcz44_1, hcz44_2, hfz44_0, hfz44_1, hfz44_2⟩ := bx3_ BK208; obtain ⟨hnb45, hnc45⟩ := nn_ NB207_205; obtain ⟨hnb46, hnc46⟩ := nn_ NB207_206
    obtain ⟨hcz47_0, hcz47_1, hcz47_2, hfz47_0, hfz47_1, hfz47_2⟩ := bx3_ BK207
    go_wp2
    refine bodyPost_ret (results_cell_row rfl _ _ gb207 26 #[.int .i64 x209000_1, .int .i64 x209001_1, .bool x209002_1] (0, 0) _ rfl (bq_ BK207) Try.underlying26 rfl (by kernel_rfl)) rfl ?_; exact ⟨by first | rfl | (simp [errW_none, errW_some] <;> rfl) | (simp [*, errW_none, errW_some] <;> rfl), by repeat (first | (with_reducible first | exact HB.out | apply below_alloc | apply pw_below_drewN | apply below_drew1 | refine below_set ?_ GE205.out | refine below_set ?_ GE206.out | refine below_set ?_ GE207.out | refine below_set ?_ GE208.out) | exact HB.out)⟩

attribute [local go_sem] fld_
/-! ### spec_DrawCurve: function 22 -/
def spec_DrawCurve.f (k : Nat) (l0 : List Int) : Option (Int × Int × Int × Int × Int × Int × Int × Int × Bool × Int × Int × Bool) := (spec_l1New.f k l0).bind fun bt221 => ((spec_l3Draw.f bt221.1 bt221.2.1 bt221.2.2).bind fun bt225 => ((spec_l1Below.f bt221.1 bt225.2.2.2.2.2.2.1 bt225.2.2.2.2.2.2.2 20000).bind fun bt235 => ((spec_l3Mul.f k bt225.1 bt225.2.1 bt225.2.2.1 bt225.2.2.2.1 bt225.2.2.2.2.1 bt225.2.2.2.2.2.1 bt235.1 bt225.2.2.2.2.1 bt225.2.2.2.2.2.1 false).bind fun bt238 => ((spec_l1Below.f bt221.1 bt235.2.1 bt235.2.2 300).bind fun bt241 => ((spec_l3Mul.f k bt225.1 bt225.2.1 bt225.2.2.1 bt225.2.2.2.1 bt225.2.2.2.2.1 bt225.2.2.2.2.2.1 bt241.1 bt225.2.2.2.2.1 bt225.2.2.2.2.2.1 false).bind fun bt244 => (some (bt225.1, bt225.2.1, bt225.2.2.1, bt225.2.2.2.1, bt225.2.2.2.2.1, bt225.2.2.2.2.2.1, bt238.1, bt238.2.1, bt238.2.2, bt244.1, bt244.2.1, bt244.2.2)))))))
theorem spec_DrawCurve.mono : ∀ a0 k, LeO (spec_DrawCurve.f k a0) (spec_DrawCurve.f (k + 1) a0) := by
 intro a0 k
 unfold spec_DrawCurve.f
 repeat' first
   | (with_reducible exact spec_l1New.mono _ _)
   | (with_reducible exact spec_l3Mul.mono _ _ _ _ _ _ _ _ _ _ _)
   | (with_reducible exact LeO.refl _)
   | (with_reducible exact LeO.none _)
   | (with_reducible refine LeO.ite ?_ ?_)
   | (with_reducible refine LeO.bind ?_ (fun _ => ?_))
   | exact spec_l1New.mono _ _
   | exact spec_l3Mul.mono _ _ _ _ _ _ _ _ _ _ _
   | exact LeO.none _
   | refine LeO.ite ?_ ?_
   | refine LeO.bind ?_ (fun _ => ?_)
def spec_DrawCurve.T4 : Bool × List (List Nat × List Nat) := (true, [([], []), ([], []), ([], []), ([2], [2]), ([], []), ([1, 3, 4, 3], [1, 3, 4]), ([], []), ([], []), ([7, 5], [7]), ([], []), ([6, 8, 9, 8], [6, 8, 9]), ([0, 10, 0], [0]), ([5, 11, 0, 1, 2, 3, 4, 5, 11], [5]), ([10, 12, 0, 1, 2, 3, 4, 5, 6, 7, 8, 9, 10, 11, 12], [10])])
def spec_DrawCurve.B4 : List Nat := [0, 0, 0, 4, 0, 30, 0, 0, 190, 0, 1022, 2047, 4095, 8191]
theorem spec_DrawCurve.tab4 : rtab .any (opsOf Try.f22 4) = spec_DrawCurve.T4 := by kernel_rfl
theorem spec_DrawCurve.bits4 : waitsOk spec_DrawCurve.T4.2 spec_DrawCurve.B4 = true := by kernel_rfl
set_option maxHeartbeats 8000000 in
set_option maxRecDepth 100000 in
theorem spec_DrawCurve.calls (k : Nat) (A0 : Option Addr) (c0 : Nat) (l0 : List Int) (r1 : Int) (r2 : Int) (r3 : Int) (r4 : Int) (r5 : Int) (r6 : Int) (r7 : Int) (r8 : Int) (r9 : Bool) (r10 : Int) (r11 : Int) (r12 : Bool) (w : World) (hr0 : Kd.C (Kd.int .u8) w A0 l0.length l0) (hc0 : l0.length ≤ c0) (h : spec_DrawCurve.f k l0 = some (r1, r2, r3, r4, r5, r6, r7, r8, r9, r10, r11, r12)) :
  Calls Try.prog 22 #[.slice A0 l0.length c0] w fun e w' => e = .returned (.tuple #[.agg #[.int .i64 r1, .int .i64 r2, .int .i64 r3, .int .i64 r4, .int .i64 r5, .int .i64 r6], .agg #[.int .i64 r7, .int .i64 r8, .bool r9], .agg #[.int .i64 r10, .int .i64 r11, .bool r12]]) ∧ Below w.heap.size w w' := by
 have hu29 := Try.underlying29; have hu26 := Try.underlying26; have HR0 := Aside0.mk hr0; have HC0 := Aside0.mk hc0; clear hr0 hc0; have HB := Aside0.mk (Below.refl w.heap.size w)
 have H : ((spec_l1New.f k l0).bind fun bt221 => ((spec_l3Draw.f bt221.1 bt221.2.1 bt221.2.2).bind fun bt225 => ((spec_l1Below.f bt221.1 bt225.2.2.2.2.2.2.1 bt225.2.2.2.2.2.2.2 20000).bind fun bt235 => ((spec_l3Mul.f k bt225.1 bt225.2.1 bt225.2.2.1 bt225.2.2.2.1 bt225.2.2.2.2.1 bt225.2.2.2.2.2.1 bt235.1 bt225.2.2.2.2.1 bt225.2.2.2.2.2.1 false).bind fun bt238 => ((spec_l1Below.f bt221.1 bt235.2.1 bt235.2.2 300).bind fun bt241 => ((spec_l3Mul.f k bt225.1 bt225.2.1 bt225.2.2.1 bt225.2.2.2.1 bt225.2.2.2.2.1 bt225.2.2.2.2.2.1 bt241.1 bt225.2.2.2.2.1 bt225.2.2.2.2.2.1 false).bind fun bt244 => (some (bt225.1, bt225.2.1, bt225.2.2.1, bt225.2.2.2.1, bt225.2.2.2.2.1, bt225.2.2.2.2.2.1, bt238.1, bt238.2.1, bt238.2.2, bt244.1, bt244.2.1, bt244.2.2)))))))) = some (r1, r2, r3, r4, r5, r6, r7, r8, r9, r10, r11, r12) := h
 clear h; obtain ⟨⟨t221, t222, t223⟩, A20, H⟩ := pb_ H
 have A2 := Aside0.mk A20; clear A20; obtain ⟨⟨t225, t226, t227, t228, t229, t230, t231, t232⟩, A30, H⟩ := pb_ H
 have A3 := Aside0.mk A30; clear A30; obtain ⟨⟨t235, t236, t237⟩, A40, H⟩ := pb_ H
 have A4 := Aside0.mk A40; clear A40; obtain ⟨⟨t238, t239, t240⟩, A50, H⟩ := pb_ H
 have A5 := Aside0.mk A50; clear A50; obtain ⟨⟨t241, t242, t243⟩, A60, H⟩ := pb_ H
 have A6 := Aside0.mk A60; clear A60; obtain ⟨⟨t244, t245, t246⟩, A70, H⟩ := pb_ H
 have A7 := Aside0.mk A70; clear A70
 simp only [Option.some.injEq, Prod.mk.injEq] at H
 obtain ⟨rfl, rfl, rfl, rfl, rfl, rfl, rfl, rfl, rfl, rfl, rfl, rfl⟩ := H
 go_enter Try.func22, Try.ntmps22
 try go_wp2_with (first | ((with_reducible refine gate_dst (N := 2) rfl ?_); refine box_event ?hg (N := 2) ?hd (cs := #[.int .i64 0, .int .i64 0, .int .i64 0, .int .i64 0, .int .i64 0, .int .i64 0]) (t := 29) ?hr ?_; (case hd => rfl); (case hg => rfl); (case hr => first | (go_simp; done) | (go_simp; rfl)); intro gb218 hg w8 hbox hb; have BK218 := Aside0.mk hbox; have GW218 := ge_ HB hg; have GE218 := ge_ HB hg; replace HB := bs_ HB hb; clear hb hbox hg) | ((with_reducible refine gate_dst (N := 3) rfl ?_); refine box_event ?hg (N := 3) ?hd (cs := #[.int .i64 0, .int .i64 0, .bool false]) (t := 26) ?hr ?_; (case hd => rfl); (case hg => rfl); (case hr => first | (go_simp; done) | (go_simp; rfl)); intro gb219 hg w9 hbox hb; have BK219 := Aside0.mk hbox; have GW219 := ge_ HB hg; have GE219 := ge_ HB hg; have NB218_219 := nl_ BK218 hg; have NB219_218 := nr_ BK218 hg; replace BK218 := bb_ BK218 hb; replace HB := bs_ HB hb; clear hb hbox hg) | ((with_reducible refine gate_dst (N := 4) rfl ?_); refine box_event ?hg (N := 4) ?hd (cs := #[.int .i64 0, .int .i64 0, .bool false]) (t := 26) ?hr ?_; (case hd => rfl); (case hg => rfl); (case hr => first | (go_simp; done) | (go_simp; rfl)); intro gb220 hg w10 hbox hb; have BK220 := Aside0.mk hbox; have GW220 := ge_ HB hg; have GE220 := ge_ HB hg; have NB218_220 := nl_ BK218 hg; have NB220_218 := nr_ BK218 hg; have NB219_220 := nl_ BK219 hg; have NB220_219 := nr_ BK219 hg; replace BK218 := bb_ BK218 hb; replace BK219 := bb_ BK219 hb; replace HB := bs_ HB hb; clear hb hbox hg) | ((with_reducible refine gate_callee (f := 39) rfl ?_); refine gl_ 9 rfl rfl Try.func39 #[.slice A0 l0.length c0] rfl ?_; (with_reducible refine (spec_l1New.calls k _ _ l0 t221 t222 t223 w _ ?side1 ?side2 ?side3 A2.out).mono ?_); (case side1 => repeat (first | (with_reducible first | exact HB.out | apply below_alloc | apply pw_below_drewN | apply below_drew1 | refine below_set ?_ GE218.out | refine below_set ?_ GE219.out | refine below_set ?_ GE220.out) | exact HB.out)); (case side2 => exact HR0.out); (case side3 => exact HC0.out); rintro e w11 ⟨g224, rfl, hi, hb, hb2⟩; refine ⟨_, rfl, ?_⟩; have HI224 := Aside0.mk hi; have NB224_218 := Aside0.mk (IsS77.ne_blk hi (blk_below (g := gb218) (o := .cells #[.int .i64 0, .int .i64 0, .int .i64 0, .int .i64 0, .int .i64 0, .int .i64 0] 29 (0, 0)) (bk_ BK218) hb2) (by decide)); have NB218_224 := Aside0.mk (Ne.symm (IsS77.ne_blk hi (blk_below (g := gb218) (o := .cells #[.int .i64 0, .int .i64 0, .int .i64 0, .int .i64 0, .int .i64 0, .int .i64 0] 29 (0, 0)) (bk_ BK218) hb2) (by decide))); have NB224_219 := Aside0.mk (IsS77.ne_blk hi (blk_below (g := gb219) (o := .cells #[.int .i64 0, .int .i64 0, .bool false] 26 (0, 0)) (bk_ BK219) hb2) (by decide)); have NB219_224 := Aside0.mk (Ne.symm (IsS77.ne_blk hi (blk_below (g := gb219) (o := .cells #[.int .i64 0, .int .i64 0, .bool false] 26 (0, 0)) (bk_ BK219) hb2) (by decide))); have NB224_220 := Aside0.mk (IsS77.ne_blk hi (blk_below (g := gb220) (o := .cells #[.int .i64 0, .int .i64 0, .bool false] 26 (0, 0)) (bk_ BK220) hb2) (by decide)); have NB220_224 := Aside0.mk (Ne.symm (IsS77.ne_blk hi (blk_below (g := gb220) (o := .cells #[.int .i64 0, .int .i64 0, .bool false] 26 (0, 0)) (bk_ BK220) hb2) (by decide))); replace BK218 := Aside0.mk (blk_below (g := gb218) (o := .cells #[.int .i64 0, .int .i64 0, .int .i64 0, .int .i64 0, .int .i64 0, .int .i64 0] 29 (0, 0)) (bk_ BK218) hb2); replace BK219 := Aside0.mk (blk_below (g := gb219) (o := .cells #[.int .i64 0, .int .i64 0, .bool false] 26 (0, 0)) (bk_ BK219) hb2); replace BK220 := Aside0.mk (blk_below (g := gb220) (o := .cells #[.int .i64 0, .int .i64 0, .bool false] 26 (0, 0)) (bk_ BK220) hb2); replace HB := Aside0.mk hb; (try clear hb); (try clear hb2); (try clear hk); (try clear hi)) | ((with_reducible refine gate_callee (f := 40) rfl ?_); refine gl_ 11 rfl rfl Try.func40 #[.pointer (some ⟨g224, 0, none⟩)] rfl ?_; (with_reducible refine (spec_l3Draw.calls g224 t221 t222 t223 t225 t226 t227 t228 t229 t230 t231 t232 w _ ?side1 ?side2 A3.out).mono ?_); (case side1 => repeat (first | (with_reducible first | exact HI224.out | apply IsS77.alloc | apply IsS77.drewN | apply IsS77.drew | apply IsS77.set_1 | apply IsS77.set_2 | refine IsS77.far ?_ NB224_218.out _ | refine IsS77.far ?_ NB224_219.out _ | refine IsS77.far ?_ NB224_220.out _) | exact HI224.out)); (case side2 => repeat (first | (with_reducible first | exact HB.out | apply below_alloc | apply pw_below_drewN | apply below_drew1 | refine below_set ?_ (IsS77.ge HI224.out) | refine below_set ?_ GE218.out | refine below_set ?_ GE219.out | refine below_set ?_ GE220.out) | exact HB.out)); rintro e w12 ⟨rfl, hi, hb, hk⟩; refine ⟨_, rfl, ?_⟩; replace BK218 := Aside0.mk (KeepBut.blk hk (g' := gb218) (o := .cells #[.int .i64 0, .int .i64 0, .int .i64 0, .int .i64 0, .int .i64 0, .int .i64 0] 29 (0, 0)) (bk_ BK218) NB218_224.out (by simp)); replace BK219 := Aside0.mk (KeepBut.blk hk (g' := gb219) (o := .cells #[.int .i64 0, .int .i64 0, .bool false] 26 (0, 0)) (bk_ BK219) NB219_224.out (by simp)); replace BK220 := Aside0.mk (KeepBut.blk hk (g' := gb220) (o := .cells #[.int .i64 0, .int .i64 0, .bool false] 26 (0, 0)) (bk_ BK220) NB220_224.out (by simp)); replace HB := Aside0.mk hb; replace HI224 := Aside0.mk hi; (try clear hb); (try clear hb2); (try clear hk); (try clear hi)) | ((with_reducible refine gate_dst (N := 6) rfl ?_); refine box_event ?hg (N := 6) ?hd (cs := #[.int .i64 0, .int .i64 0, .int .i64 0, .int .i64 0, .int .i64 0, .int .i64 0]) (t := 29) ?hr ?_; (case hd => rfl); (case hg => rfl); (case hr => first | (go_simp; done) | (go_simp; rfl)); intro gb233 hg w13 hbox hb; have n0_ := bb_ BK218 hb; have n1_ := bb_ BK219 hb; have n2_ := bb_ BK220 hb; have n3_ := Aside0.mk (IsS77.below (by repeat (first | (with_reducible first | exact HI224.out | apply IsS77.alloc | apply IsS77.drewN | apply IsS77.drew | apply IsS77.set_1 | apply IsS77.set_2 | refine IsS77.far ?_ NB224_218.out _ | refine IsS77.far ?_ NB224_219.out _ | refine IsS77.far ?_ NB224_220.out _) | exact HI224.out)) hb); have n4_ := Aside0.mk (below_step (by repeat (first | (with_reducible first | exact HB.out | apply below_alloc | apply pw_below_drewN | apply below_drew1 | refine below_set ?_ (IsS77.ge HI224.out) | refine below_set ?_ GE218.out | refine below_set ?_ GE219.out | refine below_set ?_ GE220.out) | exact HB.out)) hb); have n5_ := Aside0.mk hbox; have n6_ := Aside0.mk ((by rw [hg]; exact (below_size (by repeat (first | (with_reducible first | exact HB.out | apply below_alloc | apply pw_below_drewN | apply below_drew1 | refine below_set ?_ (IsS77.ge HI224.out) | refine below_set ?_ GE218.out | refine below_set ?_ GE219.out | refine below_set ?_ GE220.out) | exact HB.out))) : w.heap.size ≤ gb233)); have n7_ := Aside0.mk ((by rw [hg]; exact (below_size (by repeat (first | (with_reducible first | exact HB.out | apply below_alloc | apply pw_below_drewN | apply below_drew1 | refine below_set ?_ (IsS77.ge HI224.out) | refine below_set ?_ GE218.out | refine below_set ?_ GE219.out | refine below_set ?_ GE220.out) | exact HB.out))) : w.heap.size ≤ gb233)); have n8_ := nl_ BK218 hg; have n9_ := nr_ BK218 hg; have n10_ := nl_ BK219 hg; have n11_ := nr_ BK219 hg; have n12_ := nl_ BK220 hg; have n13_ := nr_ BK220 hg; have n14_ := Aside0.mk ((by rw [hg]; exact Nat.ne_of_lt (IsS77.lt (show IsS77 w _ g224 t221 t231 t232 from by repeat (first | (with_reducible first | exact HI224.out | apply IsS77.alloc | apply IsS77.drewN | apply IsS77.drew | apply IsS77.set_1 | apply IsS77.set_2 | refine IsS77.far ?_ NB224_218.out _ | refine IsS77.far ?_ NB224_219.out _ | refine IsS77.far ?_ NB224_220.out _) | exact HI224.out))) : g224 ≠ gb233)); have n15_ := Aside0.mk ((by rw [hg]; exact Nat.ne_of_gt (IsS77.lt (show IsS77 w _ g224 t221 t231 t232 from by repeat (first | (with_reducible first | exact HI224.out | apply IsS77.alloc | apply IsS77.drewN | apply IsS77.drew | apply IsS77.set_1 | apply IsS77.set_2 | refine IsS77.far ?_ NB224_218.out _ | refine IsS77.far ?_ NB224_219.out _ | refine IsS77.far ?_ NB224_220.out _) | exact HI224.out))) : gb233 ≠ g224)); clear BK218; clear BK219; clear BK220; clear HI224; clear HB; have BK218 := n0_; have BK219 := n1_; have BK220 := n2_; have HI224 := n3_; have HB := n4_; have BK233 := n5_; have GW233 := n6_; have GE233 := n7_; have NB218_233 := n8_; have NB233_218 := n9_; have NB219_233 := n10_; have NB233_219 := n11_; have NB220_233 := n12_; have NB233_220 := n13_; have NB224_233 := n14_; have NB233_224 := n15_; clear n0_ n1_ n2_ n3_ n4_ n5_ n6_ n7_ n8_ n9_ n10_ n11_ n12_ n13_ n14_ n15_; clear hb hbox hg; obtain ⟨hnb14, hnc14⟩ := nn_ NB233_218; obtain ⟨hnb15, hnc15⟩ := nn_ NB233_219; obtain ⟨hnb16, hnc16⟩ := nn_ NB233_220; obtain ⟨hnb17, hnc17⟩ := nn_ NB233_224; have hcz18_0 : w13.cell? ⟨gb233, 0, none⟩ = some (.int .i64 0) := bc_ BK233 0; have hcz18_1 : w13.cell? ⟨gb233, 1, none⟩ = some (.int .i64 0) := bc_ BK233 1; have hcz18_2 : w13.cell? ⟨gb233, 2, none⟩ = some (.int .i64 0) := bc_ BK233 2; have hcz18_3 : w13.cell? ⟨gb233, 3, none⟩ = some (.int .i64 0) := bc_ BK233 3; have hcz18_4 : w13.cell? ⟨gb233, 4, none⟩ = some (.int .i64 0) := bc_ BK233 4; have hcz18_5 : w13.cell? ⟨gb233, 5, none⟩ = some (.int .i64 0) := bc_ BK233 5; have hfz18_0 := blk_frozen BK233.out 0; have hfz18_1 := blk_frozen BK233.out 1; have hfz18_2 := blk_frozen BK233.out 2; have hfz18_3 := blk_frozen BK233.out 3; have hfz18_4 := blk_frozen BK233.out 4; have hfz18_5 := blk_frozen BK233.out 5) | ((with_reducible refine gate_dst (N := 7) rfl ?_); refine box_event ?hg (N := 7) ?hd (cs := #[.int .i64 0, .int .i64 0, .bool false]) (t := 26) ?hr ?_; (case hd => rfl); (case hg => rfl); (case hr => first | (go_simp; done) | (go_simp; rfl)); intro gb234 hg w19 hbox hb; have n0_ := bd_ BK218 hb; have n1_ := bd_ BK219 hb; have n2_ := bd_ BK220 hb; have n3_ := Aside0.mk (IsS77.below (show IsS77 w _ g224 t221 t231 t232 from by repeat (first | (with_reducible first | exact HI224.out | apply IsS77.alloc | apply IsS77.drewN | apply IsS77.drew | apply IsS77.set_1 | apply IsS77.set_2 | refine IsS77.far ?_ NB224_218.out _ | refine IsS77.far ?_ NB224_219.out _ | refine IsS77.far ?_ NB224_220.out _ | refine IsS77.far ?_ NB224_233.out _) | exact HI224.out)) hb); have n4_ := be_ #[.int .i64 t225, .int .i64 t226, .int .i64 t227, .int .i64 t228, .int .i64 t229, .int .i64 t230] BK233 hb; have n5_ := Aside0.mk (below_step (by repeat (first | (with_reducible first | exact HB.out | apply below_alloc | apply pw_below_drewN | apply below_drew1 | refine below_set ?_ (IsS77.ge HI224.out) | refine below_set ?_ GE218.out | refine below_set ?_ GE219.out | refine below_set ?_ GE220.out | refine below_set ?_ GE233.out) | exact HB.out)) hb); have n6_ := Aside0.mk hbox; have n7_ := Aside0.mk ((by rw [hg]; exact (below_size (by repeat (first | (with_reducible first | exact HB.out | apply below_alloc | apply pw_below_drewN | apply below_drew1 | refine below_set ?_ (IsS77.ge HI224.out) | refine below_set ?_ GE218.out | refine below_set ?_ GE219.out | refine below_set ?_ GE220.out | refine below_set ?_ GE233.out) | exact HB.out))) : w.heap.size ≤ gb234)); have n8_ := Aside0.mk ((by rw [hg]; exact (below_size (by repeat (first | (with_reducible first | exact HB.out | apply below_alloc | apply pw_below_drewN | apply below_drew1 | refine below_set ?_ (IsS77.ge HI224.out) | refine below_set ?_ GE218.out | refine below_set ?_ GE219.out | refine below_set ?_ GE220.out | refine below_set ?_ GE233.out) | exact HB.out))) : w.heap.size ≤ gb234)); have n9_ := Aside0.mk ((by rw [hg]; exact Nat.ne_of_lt (blk_lt (g := gb218) (o := .cells #[.int .i64 0, .int .i64 0, .int .i64 0, .int .i64 0, .int .i64 0, .int .i64 0] 29 (0, 0)) (bf_ BK218)) : gb218 ≠ gb234)); have n10_ := Aside0.mk ((by rw [hg]; exact Nat.ne_of_gt (blk_lt (g := gb218) (o := .cells #[.int .i64 0, .int .i64 0, .int .i64 0, .int .i64 0, .int .i64 0, .int .i64 0] 29 (0, 0)) (bf_ BK218)) : gb234 ≠ gb218)); have n11_ := Aside0.mk ((by rw [hg]; exact Nat.ne_of_lt (blk_lt (g := gb219) (o := .cells #[.int .i64 0, .int .i64 0, .bool false] 26 (0, 0)) (bf_ BK219)) : gb219 ≠ gb234)); have n12_ := Aside0.mk ((by rw [hg]; exact Nat.ne_of_gt (blk_lt (g := gb219) (o := .cells #[.int .i64 0, .int .i64 0, .bool false] 26 (0, 0)) (bf_ BK219)) : gb234 ≠ gb219)); have n13_ := Aside0.mk ((by rw [hg]; exact Nat.ne_of_lt (blk_lt (g := gb220) (o := .cells #[.int .i64 0, .int .i64 0, .bool false] 26 (0, 0)) (bf_ BK220)) : gb220 ≠ gb234)); have n14_ := Aside0.mk ((by rw [hg]; exact Nat.ne_of_gt (blk_lt (g := gb220) (o := .cells #[.int .i64 0, .int .i64 0, .bool false] 26 (0, 0)) (bf_ BK220)) : gb234 ≠ gb220)); have n15_ := Aside0.mk ((by rw [hg]; exact Nat.ne_of_lt (blk_lt (g := gb233) (o := .cells #[.int .i64 t225, .int .i64 t226, .int .i64 t227, .int .i64 t228, .int .i64 t229, .int .i64 t230] 29 (0, 0)) (bq_ BK233)) : gb233 ≠ gb234)); have n16_ := Aside0.mk ((by rw [hg]; exact Nat.ne_of_gt (blk_lt (g := gb233) (o := .cells #[.int .i64 t225, .int .i64 t226, .int .i64 t227, .int .i64 t228, .int .i64 t229, .int .i64 t230] 29 (0, 0)) (bq_ BK233)) : gb234 ≠ gb233)); have n17_ := Aside0.mk ((by rw [hg]; exact Nat.ne_of_lt (IsS77.lt (show IsS77 w _ g224 t221 t231 t232 from by repeat (first | (with_reducible first | exact HI224.out | apply IsS77.alloc | apply IsS77.drewN | apply IsS77.drew | apply IsS77.set_1 | apply IsS77.set_2 | refine IsS77.far ?_ NB224_218.out _ | refine IsS77.far ?_ NB224_219.out _ | refine IsS77.far ?_ NB224_220.out _ | refine IsS77.far ?_ NB224_233.out _) | exact HI224.out))) : g224 ≠ gb234)); have n18_ := Aside0.mk ((by rw [hg]; exact Nat.ne_of_gt (IsS77.lt (show IsS77 w _ g224 t221 t231 t232 from by repeat (first | (with_reducible first | exact HI224.out | apply IsS77.alloc | apply IsS77.drewN | apply IsS77.drew | apply IsS77.set_1 | apply IsS77.set_2 | refine IsS77.far ?_ NB224_218.out _ | refine IsS77.far ?_ NB224_219.out _ | refine IsS77.far ?_ NB224_220.out _ | refine IsS77.far ?_ NB224_233.out _) | exact HI224.out))) : gb234 ≠ g224)); clear BK218; clear BK219; clear BK220; clear HI224; clear BK233; clear HB; have BK218 := n0_; have BK219 := n1_; have BK220 := n2_; have HI224 := n3_; have BK233 := n4_; have HB := n5_; have BK234 := n6_; have GW234 := n7_; have GE234 := n8_; have NB218_234 := n9_; have NB234_218 := n10_; have NB219_234 := n11_; have NB234_219 := n12_; have NB220_234 := n13_; have NB234_220 := n14_; have NB233_234 := n15_; have NB234_233 := n16_; have NB224_234 := n17_; have NB234_224 := n18_; clear n0_ n1_ n2_ n3_ n4_ n5_ n6_ n7_ n8_ n9_ n10_ n11_ n12_ n13_ n14_ n15_ n16_ n17_ n18_; clear hb hbox hg; obtain ⟨hnb20, hnc20⟩ := nn_ NB234_218; obtain ⟨hnb21, hnc21⟩ := nn_ NB234_219; obtain ⟨hnb22, hnc22⟩ := nn_ NB234_220; obtain ⟨hnb23, hnc23⟩ := nn_ NB234_233; obtain ⟨hnb24, hnc24⟩ := nn_ NB234_224; obtain ⟨hcz25_0, hcz25_1, hcz25_2, hfz25_0, hfz25_1, hfz25_2⟩ := bx3_ BK234))
 refine gwR_ (fun w26 hq_ => ?_)
 have n0_ : Aside0 (w26.heap[gb218]? = some (.cells #[.int .i64 0, .int .i64 0, .int .i64 0, .int .i64 0, .int .i64 0, .int .i64 0] 29 (0, 0))) := ⟨by rw [← hq_]; exact bq_ BK218⟩
 have n1_ : Aside0 (w26.heap[gb219]? = some (.cells #[.int .i64 0, .int .i64 0, .bool false] 26 (0, 0))) := ⟨by rw [← hq_]; exact bq_ BK219⟩
 have n2_ : Aside0 (w26.heap[gb220]? = some (.cells #[.int .i64 0, .int .i64 0, .bool false] 26 (0, 0))) := ⟨by rw [← hq_]; exact bq_ BK220⟩
 have n3_ : Aside0 (w26.heap[gb233]? = some (.cells #[.int .i64 t225, .int .i64 t226, .int .i64 t227, .int .i64 t228, .int .i64 t229, .int .i64 t230] 29 (0, 0))) := ⟨by rw [← hq_]; exact bq_ BK233⟩
 have n4_ : Aside0 (w26.heap[gb234]? = some (.cells #[.int .i64 t229, .int .i64 t230, .bool false] 26 (0, 0))) := ⟨by rw [← hq_]; exact bq_ BK234⟩
 have n5_ : Aside0 (IsS77 w w26 g224 t221 t231 t232) := ⟨by rw [← hq_]; repeat (first | (with_reducible first | exact HI224.out | apply IsS77.alloc | apply IsS77.drewN | apply IsS77.drew | apply IsS77.set_1 | apply IsS77.set_2 | refine IsS77.far ?_ NB224_218.out _ | refine IsS77.far ?_ NB224_219.out _ | refine IsS77.far ?_ NB224_220.out _ | refine IsS77.far ?_ NB224_233.out _ | refine IsS77.far ?_ NB224_234.out _) | exact HI224.out)⟩
 have n6_ : Aside0 (Below w.heap.size w w26) := ⟨by rw [← hq_]; repeat (first | (with_reducible first | exact HB.out | apply below_alloc | apply pw_below_drewN | apply below_drew1 | refine below_set ?_ (IsS77.ge HI224.out) | refine below_set ?_ GE218.out | refine below_set ?_ GE219.out | refine below_set ?_ GE220.out | refine below_set ?_ GE233.out | refine below_set ?_ GE234.out) | exact HB.out)⟩
 (try clear BK218); (try clear BK219); (try clear BK220); (try clear BK233); (try clear BK234); (try clear HI224); (try clear HB)
 clear hq_; have BK218 := n0_; have BK219 := n1_; have BK220 := n2_; have BK233 := n3_; have BK234 := n4_; have HI224 := n5_; have HB := n6_; clear n0_ n1_ n2_ n3_ n4_ n5_ n6_; replace BK218 := Aside0.mk (blk_drew BK218.out); replace BK219 := Aside0.mk (blk_drew BK219.out); replace BK220 := Aside0.mk (blk_drew BK220.out); replace BK233 := Aside0.mk (blk_drew BK233.out); replace BK234 := Aside0.mk (blk_drew BK234.out); replace HI224 := Aside0.mk (IsS77.drew HI224.out); replace HB := Aside0.mk (below_drew1 HB.out); refine start_ (n := 14) (S := fun w' => w'.cell? ⟨gb233, 0, none⟩ = some (.int .i64 t225) ∧ w'.cell? ⟨gb233, 1, none⟩ = some (.int .i64 t226) ∧ w'.cell? ⟨gb233, 2, none⟩ = some (.int .i64 t227) ∧ w'.cell? ⟨gb233, 3, none⟩ = some (.int .i64 t228) ∧ w'.cell? ⟨gb233, 4, none⟩ = some (.int .i64 t229) ∧ w'.cell? ⟨gb233, 5, none⟩ = some (.int .i64 t230) ∧ w'.cell? ⟨gb234, 0, none⟩ = some (.int .i64 t229) ∧ w'.cell? ⟨gb234, 1, none⟩ = some (.int .i64 t230) ∧ w'.cell? ⟨gb234, 2, none⟩ = some (.bool false)) (ds := []) (bl_ 14 0) (by kernel_rfl) rfl rfl ⟨bc_ BK233 0, bc_ BK233 1, bc_ BK233 2, bc_ BK233 3, bc_ BK233 4, bc_ BK233 5, bc_ BK234 0, bc_ BK234 1, bc_ BK234 2⟩ (fun hHeld => ?_); refine with_tabW spec_DrawCurve.tab4 spec_DrawCurve.bits4 (fun HT_ HW_ => ?_)
 generalize w26.drew = w27 at BK218 BK219 BK220 BK233 BK234 HI224 HB hHeld ⊢
 refine pu_ 2 19 (bl_ 14 4) rfl rfl HT_ ?_; refine pu_ 7 24 (bl_ 14 132) rfl rfl HT_ ?_; refine tk_ 0 17 (bl_ 14 133) rfl rfl HT_ HW_ hHeld (by rintro w' ⟨s0, s1, s2, s3, s4, s5, s6, s7, s8⟩; go_simp; with_reducible rfl) ?_; refine tk_ 1 18 (bl_ 14 135) rfl rfl HT_ HW_ hHeld (by rintro w' ⟨s0, s1, s2, s3, s4, s5, s6, s7, s8⟩; go_simp; with_reducible rfl) ?_; refine tk_ 4 21 (bl_ 14 151) rfl rfl HT_ HW_ hHeld (by rintro w' ⟨s0, s1, s2, s3, s4, s5, s6, s7, s8⟩; go_simp; with_reducible rfl) ?_; refine tk_ 6 23 (bl_ 14 215) rfl rfl HT_ HW_ hHeld (by rintro w' ⟨s0, s1, s2, s3, s4, s5, s6, s7, s8⟩; go_simp; with_reducible rfl) ?_; refine tk_ 9 26 (bl_ 14 727) rfl rfl HT_ HW_ hHeld (by rintro w' ⟨s0, s1, s2, s3, s4, s5, s6, s7, s8⟩; go_simp; with_reducible rfl) ?_; refine one_ (i := 3) (N := some 20) (bl_ 14 735) rfl rfl (one_of HT_.out (by kernel_rfl)) (by decide) (fun K hK => ?_); refine gs_ Try.func42 #[.pointer (some ⟨g224, 0, none⟩), .int .i64 20000] ?_
 with_reducible refine (spec_l1Below.calls g224 t221 t231 t232 20000 t235 t236 t237 w _ ?side1 ?side2 A4.out).mono ?_
 (case side1 => repeat (first | (with_reducible first | exact HI224.out | apply IsS77.alloc | apply IsS77.drewN | apply IsS77.drew | apply IsS77.set_1 | apply IsS77.set_2 | refine IsS77.far ?_ NB224_218.out _ | refine IsS77.far ?_ NB224_219.out _ | refine IsS77.far ?_ NB224_220.out _ | refine IsS77.far ?_ NB224_233.out _ | refine IsS77.far ?_ NB224_234.out _) | exact HI224.out))
 (case side2 => repeat (first | (with_reducible first | exact HB.out | apply below_alloc | apply pw_below_drewN | apply below_drew1 | refine below_set ?_ (IsS77.ge HI224.out) | refine below_set ?_ GE218.out | refine below_set ?_ GE219.out | refine below_set ?_ GE220.out | refine below_set ?_ GE233.out | refine below_set ?_ GE234.out) | exact HB.out))
 rintro e w28 ⟨rfl, hi, hb, hk⟩; refine ⟨_, rfl, ?_⟩; replace BK218 := Aside0.mk (KeepBut.blk hk (g' := gb218) (o := .cells #[.int .i64 0, .int .i64 0, .int .i64 0, .int .i64 0, .int .i64 0, .int .i64 0] 29 (0, 0)) (bk_ BK218) NB218_224.out (by simp)); replace BK219 := Aside0.mk (KeepBut.blk hk (g' := gb219) (o := .cells #[.int .i64 0, .int .i64 0, .bool false] 26 (0, 0)) (bk_ BK219) NB219_224.out (by simp)); replace BK220 := Aside0.mk (KeepBut.blk hk (g' := gb220) (o := .cells #[.int .i64 0, .int .i64 0, .bool false] 26 (0, 0)) (bk_ BK220) NB220_224.out (by simp)); replace BK233 := Aside0.mk (KeepBut.blk hk (g' := gb233) (o := .cells #[.int .i64 t225, .int .i64 t226, .int .i64 t227, .int .i64 t228, .int .i64 t229, .int .i64 t230] 29 (0, 0)) (bk_ BK233) NB233_224.out (by simp)); replace BK234 := Aside0.mk (KeepBut.blk hk (g' := gb234) (o := .cells #[.int .i64 t229, .int .i64 t230, .bool false] 26 (0, 0)) (bk_ BK234) NB234_224.out (by simp)); replace HB := Aside0.mk hb; replace HI224 := Aside0.mk hi; (try clear hb); (try clear hb2); (try clear hk); (try clear hi); refine hK.out _ _ ⟨bc_ BK233 0, bc_ BK233 1, bc_ BK233 2, bc_ BK233 3, bc_ BK233 4, bc_ BK233 5, bc_ BK234 0, bc_ BK234 1, bc_ BK234 2⟩ (fun hHeld => ?_); clear hK K
 apply norm_
 · show Act.put _ (some 20) _ = _; simp only [Act.put, sA_, sZ_, sS_, i64_w, i32_w]; rfl
 refine one_ (i := 5) (N := some 22) (bl_ 14 767) rfl rfl (one_of HT_.out (by kernel_rfl)) (by decide) (fun K hK => ?_); refine gs_ Try.func41 #[.agg #[.int .i64 t225, .int .i64 t226, .int .i64 t227, .int .i64 t228, .int .i64 t229, .int .i64 t230], .int .i64 t235, .agg #[.int .i64 t229, .int .i64 t230, .bool false]] ?_
 with_reducible refine (spec_l3Mul.calls k t225 t226 t227 t228 t229 t230 t235 t229 t230 false t238 t239 t240 _ A5.out).mono ?_
 rintro e w29 ⟨rfl, hb⟩; refine ⟨_, rfl, ?_⟩; have n0_ := bb_ BK218 hb; have n1_ := bb_ BK219 hb; have n2_ := bb_ BK220 hb; have n3_ := Aside0.mk (IsS77.below (by repeat (first | (with_reducible first | exact HI224.out | apply IsS77.alloc | apply IsS77.drewN | apply IsS77.drew | apply IsS77.set_1 | apply IsS77.set_2 | refine IsS77.far ?_ NB224_218.out _ | refine IsS77.far ?_ NB224_219.out _ | refine IsS77.far ?_ NB224_220.out _ | refine IsS77.far ?_ NB224_233.out _ | refine IsS77.far ?_ NB224_234.out _) | exact HI224.out)) hb); have n4_ := bb_ BK233 hb; have n5_ := bb_ BK234 hb; have n6_ := Aside0.mk (below_step (by repeat (first | (with_reducible first | exact HB.out | apply below_alloc | apply pw_below_drewN | apply below_drew1 | refine below_set ?_ (IsS77.ge HI224.out) | refine below_set ?_ GE218.out | refine below_set ?_ GE219.out | refine below_set ?_ GE220.out | refine below_set ?_ GE233.out | refine below_set ?_ GE234.out) | exact HB.out)) hb); clear BK218 BK219 BK220 HI224 BK233 BK234 HB; have BK218 := n0_; have BK219 := n1_; have BK220 := n2_; have HI224 := n3_; have BK233 := n4_; have BK234 := n5_; have HB := n6_; clear n0_ n1_ n2_ n3_ n4_ n5_ n6_; (try clear hb); (try clear hb2); (try clear hk); (try clear hi); refine hK.out _ _ ⟨bc_ BK233 0, bc_ BK233 1, bc_ BK233 2, bc_ BK233 3, bc_ BK233 4, bc_ BK233 5, bc_ BK234 0, bc_ BK234 1, bc_ BK234 2⟩ (fun hHeld => ?_); clear hK K
 apply norm_
 · show Act.put _ (some 22) _ = _; simp only [Act.put, sA_, sZ_, sS_, i64_w, i32_w]; rfl
 refine one_ (i := 8) (N := some 25) (bl_ 14 1023) rfl rfl (one_of HT_.out (by kernel_rfl)) (by decide) (fun K hK => ?_); refine gs_ Try.func42 #[.pointer (some ⟨g224, 0, none⟩), .int .i64 300] ?_
 with_reducible refine (spec_l1Below.calls g224 t221 t236 t237 300 t241 t242 t243 w _ ?side1 ?side2 A6.out).mono ?_
 (case side1 => repeat (first | (with_reducible first | exact HI224.out | apply IsS77.alloc | apply IsS77.drewN | apply IsS77.drew | apply IsS77.set_1 | apply IsS77.set_2 | refine IsS77.far ?_ NB224_218.out _ | refine IsS77.far ?_ NB224_219.out _ | refine IsS77.far ?_ NB224_220.out _ | refine IsS77.far ?_ NB224_233.out _ | refine IsS77.far ?_ NB224_234.out _) | exact HI224.out))
 (case side2 => repeat (first | (with_reducible first | exact HB.out | apply below_alloc | apply pw_below_drewN | apply below_drew1 | refine below_set ?_ (IsS77.ge HI224.out) | refine below_set ?_ GE218.out | refine below_set ?_ GE219.out | refine below_set ?_ GE220.out | refine below_set ?_ GE233.out | refine below_set ?_ GE234.out) | exact HB.out))
 rintro e w30 ⟨rfl, hi, hb, hk⟩; refine ⟨_, rfl, ?_⟩; replace BK218 := Aside0.mk (KeepBut.blk hk (g' := gb218) (o := .cells #[.int .i64 0, .int .i64 0, .int .i64 0, .int .i64 0, .int .i64 0, .int .i64 0] 29 (0, 0)) (bk_ BK218) NB218_224.out (by simp)); replace BK219 := Aside0.mk (KeepBut.blk hk (g' := gb219) (o := .cells #[.int .i64 0, .int .i64 0, .bool false] 26 (0, 0)) (bk_ BK219) NB219_224.out (by simp)); replace BK220 := Aside0.mk (KeepBut.blk hk (g' := gb220) (o := .cells #[.int .i64 0, .int .i64 0, .bool false] 26 (0, 0)) (bk_ BK220) NB220_224.out (by simp)); replace BK233 := Aside0.mk (KeepBut.blk hk (g' := gb233) (o := .cells #[.int .i64 t225, .int .i64 t226, .int .i64 t227, .int .i64 t228, .int .i64 t229, .int .i64 t230] 29 (0, 0)) (bk_ BK233) NB233_224.out (by simp)); replace BK234 := Aside0.mk (KeepBut.blk hk (g' := gb234) (o := .cells #[.int .i64 t229, .int .i64 t230, .bool false] 26 (0, 0)) (bk_ BK234) NB234_224.out (by simp)); replace HB := Aside0.mk hb; replace HI224 := Aside0.mk hi; (try clear hb); (try clear hb2); (try clear hk); (try clear hi); refine hK.out _ _ ⟨bc_ BK233 0, bc_ BK233 1, bc_ BK233 2, bc_ BK233 3, bc_ BK233 4, bc_ BK233 5, bc_ BK234 0, bc_ BK234 1, bc_ BK234 2⟩ (fun hHeld => ?_); clear hK K
 apply norm_
 · show Act.put _ (some 25) _ = _; simp only [Act.put, sA_, sZ_, sS_, i64_w, i32_w]; rfl
 refine one_ (i := 10) (N := some 27) (bl_ 14 2047) rfl rfl (one_of HT_.out (by kernel_rfl)) (by decide) (fun K hK => ?_); refine gs_ Try.func41 #[.agg #[.int .i64 t225, .int .i64 t226, .int .i64 t227, .int .i64 t228, .int .i64 t229, .int .i64 t230], .int .i64 t241, .agg #[.int .i64 t229, .int .i64 t230, .bool false]] ?_
 with_reducible refine (spec_l3Mul.calls k t225 t226 t227 t228 t229 t230 t241 t229 t230 false t244 t245 t246 _ A7.out).mono ?_
 rintro e w31 ⟨rfl, hb⟩; refine ⟨_, rfl, ?_⟩; have n0_ := bb_ BK218 hb; have n1_ := bb_ BK219 hb; have n2_ := bb_ BK220 hb; have n3_ := Aside0.mk (IsS77.below (by repeat (first | (with_reducible first | exact HI224.out | apply IsS77.alloc | apply IsS77.drewN | apply IsS77.drew | apply IsS77.set_1 | apply IsS77.set_2 | refine IsS77.far ?_ NB224_218.out _ | refine IsS77.far ?_ NB224_219.out _ | refine IsS77.far ?_ NB224_220.out _ | refine IsS77.far ?_ NB224_233.out _ | refine IsS77.far ?_ NB224_234.out _) | exact HI224.out)) hb); have n4_ := bb_ BK233 hb; have n5_ := bb_ BK234 hb; have n6_ := Aside0.mk (below_step (by repeat (first | (with_reducible first | exact HB.out | apply below_alloc | apply pw_below_drewN | apply below_drew1 | refine below_set ?_ (IsS77.ge HI224.out) | refine below_set ?_ GE218.out | refine below_set ?_ GE219.out | refine below_set ?_ GE220.out | refine below_set ?_ GE233.out | refine below_set ?_ GE234.out) | exact HB.out)) hb); clear BK218 BK219 BK220 HI224 BK233 BK234 HB; have BK218 := n0_; have BK219 := n1_; have BK220 := n2_; have HI224 := n3_; have BK233 := n4_; have BK234 := n5_; have HB := n6_; clear n0_ n1_ n2_ n3_ n4_ n5_ n6_; (try clear hb); (try clear hb2); (try clear hk); (try clear hi); refine hK.out _ _ ⟨bc_ BK233 0, bc_ BK233 1, bc_ BK233 2, bc_ BK233 3, bc_ BK233 4, bc_ BK233 5, bc_ BK234 0, bc_ BK234 1, bc_ BK234 2⟩ (fun hHeld => ?_); clear hK K
 apply norm_
 · show Act.put _ (some 27) _ = _; simp only [Act.put, sA_, sZ_, sS_, i64_w, i32_w]; rfl
 refine one_ (i := 11) (N := none) (bl_ 14 4095) rfl rfl (one_of HT_.out (by kernel_rfl)) (by decide) (fun K hK => ?_)
 have hs32 : w31.cell? ⟨gb218, 0, none⟩ = some (.int .i64 0) := bc_ BK218 0
 have hfs32 := blk_frozen BK218.out 0; have hns32_1 := NB219_218.out; have hns32_2 := NB220_218.out; have hns32_3 := NB233_218.out; have hns32_4 := NB234_218.out; have hms32_1 := NB218_219.out; have hms32_2 := NB218_220.out; have hms32_3 := NB218_233.out; have hms32_4 := NB218_234.out
 have hs33 : w31.cell? ⟨gb218, 1, none⟩ = some (.int .i64 0) := bc_ BK218 1
 have hfs33 := blk_frozen BK218.out 1; have hns33_1 := NB219_218.out; have hns33_2 := NB220_218.out; have hns33_3 := NB233_218.out; have hns33_4 := NB234_218.out; have hms33_1 := NB218_219.out; have hms33_2 := NB218_220.out; have hms33_3 := NB218_233.out; have hms33_4 := NB218_234.out
 have hs34 : w31.cell? ⟨gb218, 2, none⟩ = some (.int .i64 0) := bc_ BK218 2
 have hfs34 := blk_frozen BK218.out 2; have hns34_1 := NB219_218.out; have hns34_2 := NB220_218.out; have hns34_3 := NB233_218.out; have hns34_4 := NB234_218.out; have hms34_1 := NB218_219.out; have hms34_2 := NB218_220.out; have hms34_3 := NB218_233.out; have hms34_4 := NB218_234.out
 have hs35 : w31.cell? ⟨gb218, 3, none⟩ = some (.int .i64 0) := bc_ BK218 3
 have hfs35 := blk_frozen BK218.out 3; have hns35_1 := NB219_218.out; have hns35_2 := NB220_218.out; have hns35_3 := NB233_218.out; have hns35_4 := NB234_218.out; have hms35_1 := NB218_219.out; have hms35_2 := NB218_220.out; have hms35_3 := NB218_233.out; have hms35_4 := NB218_234.out
 have hs36 : w31.cell? ⟨gb218, 4, none⟩ = some (.int .i64 0) := bc_ BK218 4
 have hfs36 := blk_frozen BK218.out 4; have hns36_1 := NB219_218.out; have hns36_2 := NB220_218.out; have hns36_3 := NB233_218.out; have hns36_4 := NB234_218.out; have hms36_1 := NB218_219.out; have hms36_2 := NB218_220.out; have hms36_3 := NB218_233.out; have hms36_4 := NB218_234.out
 have hs37 : w31.cell? ⟨gb218, 5, none⟩ = some (.int .i64 0) := bc_ BK218 5
 have hfs37 := blk_frozen BK218.out 5; have hns37_1 := NB219_218.out; have hns37_2 := NB220_218.out; have hns37_3 := NB233_218.out; have hns37_4 := NB234_218.out; have hms37_1 := NB218_219.out; have hms37_2 := NB218_220.out; have hms37_3 := NB218_233.out; have hms37_4 := NB218_234.out; refine skip_ (w1 := ?_) (by rfl) rfl ?_ ?_; rotate_left
 · go_simp; rfl
 refine hK.out _ _ ⟨((cell_far (p := ⟨gb218, _, none⟩) NB233_218.out _).trans (((cell_far (p := ⟨gb218, _, none⟩) NB233_218.out _).trans (((cell_far (p := ⟨gb218, _, none⟩) NB233_218.out _).trans (((cell_far (p := ⟨gb218, _, none⟩) NB233_218.out _).trans (((cell_far (p := ⟨gb218, _, none⟩) NB233_218.out _).trans (((cell_far (p := ⟨gb218, _, none⟩) NB233_218.out _).trans (hHeld.1)))))))))))), ((cell_far (p := ⟨gb218, _, none⟩) NB233_218.out _).trans (((cell_far (p := ⟨gb218, _, none⟩) NB233_218.out _).trans (((cell_far (p := ⟨gb218, _, none⟩) NB233_218.out _).trans (((cell_far (p := ⟨gb218, _, none⟩) NB233_218.out _).trans (((cell_far (p := ⟨gb218, _, none⟩) NB233_218.out _).trans (((cell_far (p := ⟨gb218, _, none⟩) NB233_218.out _).trans (hHeld.2.1)))))))))))), ((cell_far (p := ⟨gb218, _, none⟩) NB233_218.out _).trans (((cell_far (p := ⟨gb218, _, none⟩) NB233_218.out _).trans (((cell_far (p := ⟨gb218, _, none⟩) NB233_218.out _).trans (((cell_far (p := ⟨gb218, _, none⟩) NB233_218.out _).trans (((cell_far (p := ⟨gb218, _, none⟩) NB233_218.out _).trans (((cell_far (p := ⟨gb218, _, none⟩) NB233_218.out _).trans (hHeld.2.2.1)))))))))))), ((cell_far (p := ⟨gb218, _, none⟩) NB233_218.out _).trans (((cell_far (p := ⟨gb218, _, none⟩) NB233_218.out _).trans (((cell_far (p := ⟨gb218, _, none⟩) NB233_218.out _).trans (((cell_far (p := ⟨gb218, _, none⟩) NB233_218.out _).trans (((cell_far (p := ⟨gb218, _, none⟩) NB233_218.out _).trans (((cell_far (p := ⟨gb218, _, none⟩) NB233_218.out _).trans (hHeld.2.2.2.1)))))))))))), ((cell_far (p := ⟨gb218, _, none⟩) NB233_218.out _).trans (((cell_far (p := ⟨gb218, _, none⟩) NB233_218.out _).trans (((cell_far (p := ⟨gb218, _, none⟩) NB233_218.out _).trans (((cell_far (p := ⟨gb218, _, none⟩) NB233_218.out _).trans (((cell_far (p := ⟨gb218, _, none⟩) NB233_218.out _).trans (((cell_far (p := ⟨gb218, _, none⟩) NB233_218.out _).trans (hHeld.2.2.2.2.1)))))))))))), ((cell_far (p := ⟨gb218, _, none⟩) NB233_218.out _).trans (((cell_far (p := ⟨gb218, _, none⟩) NB233_218.out _).trans (((cell_far (p := ⟨gb218, _, none⟩) NB233_218.out _).trans (((cell_far (p := ⟨gb218, _, none⟩) NB233_218.out _).trans (((cell_far (p := ⟨gb218, _, none⟩) NB233_218.out _).trans (((cell_far (p := ⟨gb218, _, none⟩) NB233_218.out _).trans (hHeld.2.2.2.2.2.1)))))))))))), ((cell_far (p := ⟨gb218, _, none⟩) NB234_218.out _).trans (((cell_far (p := ⟨gb218, _, none⟩) NB234_218.out _).trans (((cell_far (p := ⟨gb218, _, none⟩) NB234_218.out _).trans (((cell_far (p := ⟨gb218, _, none⟩) NB234_218.out _).trans (((cell_far (p := ⟨gb218, _, none⟩) NB234_218.out _).trans (((cell_far (p := ⟨gb218, _, none⟩) NB234_218.out _).trans (hHeld.2.2.2.2.2.2.1)))))))))))), ((cell_far (p := ⟨gb218, _, none⟩) NB234_218.out _).trans (((cell_far (p := ⟨gb218, _, none⟩) NB234_218.out _).trans (((cell_far (p := ⟨gb218, _, none⟩) NB234_218.out _).trans (((cell_far (p := ⟨gb218, _, none⟩) NB234_218.out _).trans (((cell_far (p := ⟨gb218, _, none⟩) NB234_218.out _).trans (((cell_far (p := ⟨gb218, _, none⟩) NB234_218.out _).trans (hHeld.2.2.2.2.2.2.2.1)))))))))))), ((cell_far (p := ⟨gb218, _, none⟩) NB234_218.out _).trans (((cell_far (p := ⟨gb218, _, none⟩) NB234_218.out _).trans (((cell_far (p := ⟨gb218, _, none⟩) NB234_218.out _).trans (((cell_far (p := ⟨gb218, _, none⟩) NB234_218.out _).trans (((cell_far (p := ⟨gb218, _, none⟩) NB234_218.out _).trans (((cell_far (p := ⟨gb218, _, none⟩) NB234_218.out _).trans (hHeld.2.2.2.2.2.2.2.2))))))))))))⟩ (fun hHeld => ?_); clear hK K
 refine gw_ hHeld (fun w901 hq_ hHeld => ?_)
 have qgb218 : Aside0 (w901.heap[gb218]? = some (.cells #[.int .i64 t225, .int .i64 t226, .int .i64 t227, .int .i64 t228, .int .i64 t229, .int .i64 t230] 29 (0, 0))) := ⟨by rw [← hq_]; exact bq_ BK218⟩
 have qgb219 : Aside0 (w901.heap[gb219]? = some (.cells #[.int .i64 0, .int .i64 0, .bool false] 26 (0, 0))) := ⟨by rw [← hq_]; exact bq_ BK219⟩
 have qgb220 : Aside0 (w901.heap[gb220]? = some (.cells #[.int .i64 0, .int .i64 0, .bool false] 26 (0, 0))) := ⟨by rw [← hq_]; exact bq_ BK220⟩
 have qHB : Aside0 (Below w.heap.size w w901) := ⟨by rw [← hq_]; exact bw_ HB⟩
 clear hq_ BK218 BK219 BK220 HB; have BK218 := qgb218; have BK219 := qgb219; have BK220 := qgb220; have HB := qHB; clear qgb218 qgb219 qgb220 qHB
 refine one_ (i := 12) (N := none) (bl_ 14 8191) rfl rfl (one_of HT_.out (by kernel_rfl)) (by decide) (fun K hK => ?_)
 have hs38 : w901.cell? ⟨gb219, 0, none⟩ = some (.int .i64 0) := bc_ BK219 0
 have hfs38 := blk_frozen BK219.out 0; have hns38_0 := NB218_219.out; have hns38_2 := NB220_219.out; have hns38_3 := NB233_219.out; have hns38_4 := NB234_219.out; have hms38_0 := NB219_218.out; have hms38_2 := NB219_220.out; have hms38_3 := NB219_233.out; have hms38_4 := NB219_234.out
 have hs39 : w901.cell? ⟨gb219, 1, none⟩ = some (.int .i64 0) := bc_ BK219 1
 have hfs39 := blk_frozen BK219.out 1; have hns39_0 := NB218_219.out; have hns39_2 := NB220_219.out; have hns39_3 := NB233_219.out; have hns39_4 := NB234_219.out; have hms39_0 := NB219_218.out; have hms39_2 := NB219_220.out; have hms39_3 := NB219_233.out; have hms39_4 := NB219_234.out
 have hs40 : w901.cell? ⟨gb219, 2, none⟩ = some (.bool false) := bc_ BK219 2
 have hfs40 := blk_frozen BK219.out 2; have hns40_0 := NB218_219.out; have hns40_2 := NB220_219.out; have hns40_3 := NB233_219.out; have hns40_4 := NB234_219.out; have hms40_0 := NB219_218.out; have hms40_2 := NB219_220.out; have hms40_3 := NB219_233.out; have hms40_4 := NB219_234.out; refine skip_ (w1 := ?_) (by rfl) rfl ?_ ?_; rotate_left
 · go_simp; rfl
 refine hK.out _ _ ⟨((cell_far (p := ⟨gb219, _, none⟩) NB233_219.out _).trans (((cell_far (p := ⟨gb219, _, none⟩) NB233_219.out _).trans (((cell_far (p := ⟨gb219, _, none⟩) NB233_219.out _).trans (hHeld.1)))))), ((cell_far (p := ⟨gb219, _, none⟩) NB233_219.out _).trans (((cell_far (p := ⟨gb219, _, none⟩) NB233_219.out _).trans (((cell_far (p := ⟨gb219, _, none⟩) NB233_219.out _).trans (hHeld.2.1)))))), ((cell_far (p := ⟨gb219, _, none⟩) NB233_219.out _).trans (((cell_far (p := ⟨gb219, _, none⟩) NB233_219.out _).trans (((cell_far (p := ⟨gb219, _, none⟩) NB233_219.out _).trans (hHeld.2.2.1)))))), ((cell_far (p := ⟨gb219, _, none⟩) NB233_219.out _).trans (((cell_far (p := ⟨gb219, _, none⟩) NB233_219.out _).trans (((cell_far (p := ⟨gb219, _, none⟩) NB233_219.out _).trans (hHeld.2.2.2.1)))))), ((cell_far (p := ⟨gb219, _, none⟩) NB233_219.out _).trans (((cell_far (p := ⟨gb219, _, none⟩) NB233_219.out _).trans (((cell_far (p := ⟨gb219, _, none⟩) NB233_219.out _).trans (hHeld.2.2.2.2.1)))))), ((cell_far (p := ⟨gb219, _, none⟩) NB233_219.out _).trans (((cell_far (p := ⟨gb219, _, none⟩) NB233_219.out _).trans (((cell_far (p := ⟨gb219, _, none⟩) NB233_219.out _).trans (hHeld.2.2.2.2.2.1)))))), ((cell_far (p := ⟨gb219, _, none⟩) NB234_219.out _).trans (((cell_far (p := ⟨gb219, _, none⟩) NB234_219.out _).trans (((cell_far (p := ⟨gb219, _, none⟩) NB234_219.out _).trans (hHeld.2.2.2.2.2.2.1)))))), ((cell_far (p := ⟨gb219, _, none⟩) NB234_219.out _).trans (((cell_far (p := ⟨gb219, _, none⟩) NB234_219.out _).trans (((cell_far (p := ⟨gb219, _, none⟩) NB234_219.out _).trans (hHeld.2.2.2.2.2.2.2.1)))))), ((cell_far (p := ⟨gb219, _, none⟩) NB234_219.out _).trans (((cell_far (p := ⟨gb219, _, none⟩) NB234_219.out _).trans (((cell_far (p := ⟨gb219, _, none⟩) NB234_219.out _).trans (hHeld.2.2.2.2.2.2.2.2))))))⟩ (fun hHeld => ?_); clear hK K
 refine gw_ hHeld (fun w902 hq_ hHeld => ?_)
 have qgb218 : Aside0 (w902.heap[gb218]? = some (.cells #[.int .i64 t225, .int .i64 t226, .int .i64 t227, .int .i64 t228, .int .i64 t229, .int .i64 t230] 29 (0, 0))) := ⟨by rw [← hq_]; exact bq_ BK218⟩
 have qgb219 : Aside0 (w902.heap[gb219]? = some (.cells #[.int .i64 t238, .int .i64 t239, .bool t240] 26 (0, 0))) := ⟨by rw [← hq_]; exact bq_ BK219⟩
 have qgb220 : Aside0 (w902.heap[gb220]? = some (.cells #[.int .i64 0, .int .i64 0, .bool false] 26 (0, 0))) := ⟨by rw [← hq_]; exact bq_ BK220⟩
 have qHB : Aside0 (Below w.heap.size w w902) := ⟨by rw [← hq_]; exact bw_ HB⟩
 clear hq_ BK218 BK219 BK220 HB; have BK218 := qgb218; have BK219 := qgb219; have BK220 := qgb220; have HB := qHB; clear qgb218 qgb219 qgb220 qHB
 refine one_ (i := 13) (N := none) (bl_ 14 16383) rfl rfl (one_of HT_.out (by kernel_rfl)) (by decide) (fun K hK => ?_)
 have hs41 : w902.cell? ⟨gb220, 0, none⟩ = some (.int .i64 0) := bc_ BK220 0
 have hfs41 := blk_frozen BK220.out 0; have hns41_0 := NB218_220.out; have hns41_1 := NB219_220.out; have hns41_3 := NB233_220.out; have hns41_4 := NB234_220.out; have hms41_0 := NB220_218.out; have hms41_1 := NB220_219.out; have hms41_3 := NB220_233.out; have hms41_4 := NB220_234.out
 have hs42 : w902.cell? ⟨gb220, 1, none⟩ = some (.int .i64 0) := bc_ BK220 1
 have hfs42 := blk_frozen BK220.out 1; have hns42_0 := NB218_220.out; have hns42_1 := NB219_220.out; have hns42_3 := NB233_220.out; have hns42_4 := NB234_220.out; have hms42_0 := NB220_218.out; have hms42_1 := NB220_219.out; have hms42_3 := NB220_233.out; have hms42_4 := NB220_234.out
 have hs43 : w902.cell? ⟨gb220, 2, none⟩ = some (.bool false) := bc_ BK220 2
 have hfs43 := blk_frozen BK220.out 2; have hns43_0 := NB218_220.out; have hns43_1 := NB219_220.out; have hns43_3 := NB233_220.out; have hns43_4 := NB234_220.out; have hms43_0 := NB220_218.out; have hms43_1 := NB220_219.out; have hms43_3 := NB220_233.out; have hms43_4 := NB220_234.out; refine skip_ (w1 := ?_) (by rfl) rfl ?_ ?_; rotate_left
 · go_simp; rfl
 refine hK.out _ _ ⟨((cell_far (p := ⟨gb220, _, none⟩) NB233_220.out _).trans (((cell_far (p := ⟨gb220, _, none⟩) NB233_220.out _).trans (((cell_far (p := ⟨gb220, _, none⟩) NB233_220.out _).trans (hHeld.1)))))), ((cell_far (p := ⟨gb220, _, none⟩) NB233_220.out _).trans (((cell_far (p := ⟨gb220, _, none⟩) NB233_220.out _).trans (((cell_far (p := ⟨gb220, _, none⟩) NB233_220.out _).trans (hHeld.2.1)))))), ((cell_far (p := ⟨gb220, _, none⟩) NB233_220.out _).trans (((cell_far (p := ⟨gb220, _, none⟩) NB233_220.out _).trans (((cell_far (p := ⟨gb220, _, none⟩) NB233_220.out _).trans (hHeld.2.2.1)))))), ((cell_far (p := ⟨gb220, _, none⟩) NB233_220.out _).trans (((cell_far (p := ⟨gb220, _, none⟩) NB233_220.out _).trans (((cell_far (p := ⟨gb220, _, none⟩) NB233_220.out _).trans (hHeld.2.2.2.1)))))), ((cell_far (p := ⟨gb220, _, none⟩) NB233_220.out _).trans (((cell_far (p := ⟨gb220, _, none⟩) NB233_220.out _).trans (((cell_far (p := ⟨gb220, _, none⟩) NB233_220.out _).trans (hHeld.2.2.2.2.1)))))), ((cell_far (p := ⟨gb220, _, none⟩) NB233_220.out _).trans (((cell_far (p := ⟨gb220, _, none⟩) NB233_220.out _).trans (((cell_far (p := ⟨gb220, _, none⟩) NB233_220.out _).trans (hHeld.2.2.2.2.2.1)))))), ((cell_far (p := ⟨gb220, _, none⟩) NB234_220.out _).trans (((cell_far (p := ⟨gb220, _, none⟩) NB234_220.out _).trans (((cell_far (p := ⟨gb220, _, none⟩) NB234_220.out _).trans (hHeld.2.2.2.2.2.2.1)))))), ((cell_far (p := ⟨gb220, _, none⟩) NB234_220.out _).trans (((cell_far (p := ⟨gb220, _, none⟩) NB234_220.out _).trans (((cell_far (p := ⟨gb220, _, none⟩) NB234_220.out _).trans (hHeld.2.2.2.2.2.2.2.1)))))), ((cell_far (p := ⟨gb220, _, none⟩) NB234_220.out _).trans (((cell_far (p := ⟨gb220, _, none⟩) NB234_220.out _).trans (((cell_far (p := ⟨gb220, _, none⟩) NB234_220.out _).trans (hHeld.2.2.2.2.2.2.2.2))))))⟩ (fun hHeld => ?_); clear hK K; refine done_ (done_of HT_.out (by kernel_rfl)) ?_
 try go_wp2
 refine bodyPost_ret (results_list (rs := [.cell 2 29, .cell 3 26, .cell 4 26]) rfl (by simp) (.cell gb218 29 #[.int .i64 t225, .int .i64 t226, .int .i64 t227, .int .i64 t228, .int .i64 t229, .int .i64 t230] (0, 0) _ rfl (bq_ BK218) Try.underlying29 rfl (by kernel_rfl) (.cell gb219 26 #[.int .i64 t238, .int .i64 t239, .bool t240] (0, 0) _ rfl (bq_ BK219) Try.underlying26 rfl (by kernel_rfl) (.cell gb220 26 #[.int .i64 t244, .int .i64 t245, .bool t246] (0, 0) _ rfl (bq_ BK220) Try.underlying26 rfl (by kernel_rfl) .nil)))) rfl ?_; exact ⟨by first | rfl | (simp [errW_none, errW_some] <;> rfl) | (simp [*, errW_none, errW_some] <;> rfl), by repeat (first | (with_reducible first | exact HB.out | apply below_alloc | apply pw_below_drewN | apply below_drew1 | refine below_set ?_ (IsS77.ge HI224.out) | refine below_set ?_ GE218.out | refine below_set ?_ GE219.out | refine below_set ?_ GE220.out | refine below_set ?_ GE233.out | refine below_set ?_ GE234.out) | exact HB.out)⟩

attribute [local go_sem] fld_
/-! ### laws_at: function 25 -/
def laws_at.f (l0 : List Int) (a1 : Int) : Option (Int) := if a1 < (l0.length : Int) then (if 0 ≤ a1 then (some (wrap64 (rd l0 a1))) else (none)) else (some (Int.tmod (wrap64 ((wrap64 (a1 * 7)) + (l0.length : Int))) 256))
set_option maxHeartbeats 8000000 in
set_option maxRecDepth 100000 in
theorem laws_at.calls (A0 : Option Addr) (c0 : Nat) (l0 : List Int) (a1 : Int) (r : Int) (w : World) (hr0 : Kd.C (Kd.int .u8) w A0 l0.length l0) (hc0 : l0.length ≤ c0) (h : laws_at.f l0 a1 = some r) :
    Calls Try.prog 25 #[.slice A0 l0.length c0, .int .i64 a1] w fun e w' => e = .returned (.int .i64 r) ∧ Drawn0 w w' := by
  have HR0 := Aside0.mk hr0
  have HC0 := Aside0.mk hc0
  clear hr0 hc0
  have H : (if a1 < (l0.length : Int) then (if 0 ≤ a1 then (some (wrap64 (rd l0 a1))) else (none)) else (some (Int.tmod (wrap64 ((wrap64 (a1 * 7)) + (l0.length : Int))) 256))) = some r := h
  clear h
  by_cases c3 : a1 < (l0.length : Int)
  · rw [if_pos c3] at H
    have c3b0 : decide (a1 < (l0.length : Int)) = true := decide_eq_true c3
    clear c3
    by_cases c4 : 0 ≤ a1
    · rw [if_pos c4] at H
      have c4b0 : decide (0 ≤ a1) = true := decide_eq_true c4
      clear c4
      obtain rfl := Option.some.inj H
      have p247 : 0 ≤ (a1 : Int) := of_decide_eq_true (by first | (with_reducible assumption) | assumption)
      have q247 : a1 < (l0.length : Int) := of_decide_eq_true (by first | (with_reducible assumption) | assumption)
      obtain ⟨ad247, e247, hx247_0⟩ := Kd.at_int HR0.out a1 p247 q247
      cases e247
      replace p247 := eq_true p247
      replace q247 := eq_true q247
      go_enter Try.func25, Try.ntmps25
      go_wp2
      go_ret
      exact ⟨by first | rfl | (simp; done) | (simp [*]; done), by repeat (first | exact Drawn0.refl _ | apply Drawn0.step)⟩
    · rw [if_neg c4] at H
      exact absurd H (by simp)
  · rw [if_neg c3] at H
    have c3b0 : decide (a1 < (l0.length : Int)) = false := decide_eq_false c3
    clear c3
    obtain rfl := Option.some.inj H
    go_enter Try.func25, Try.ntmps25
    go_wp2
    go_ret
    exact ⟨by first | rfl | (simp; done) | (simp [*]; done), by repeat (first | exact Drawn0.refl _ | apply Drawn0.step)⟩

attribute [local go_sem] fld_
/-! ### impl_PointMul: function 26 -/
def impl_PointMul.f (k : Nat) (a0_0 : Int) (a0_1 : Int) (a0_2 : Int) (a0_3 : Int) (a0_4 : Int) (a0_5 : Int) (a1 : Int) (a2_0 : Int) (a2_1 : Int) (a2_2 : Bool) : Option (Int × Int × Bool × Bool) := (impl_PointOk.f k a0_0 a0_1 a0_2 a0_3 a0_4 a0_5 a2_0 a2_1 a2_2).bind fun t251 => (if t251 = true then ((impl_within.f a1 0 1099511627776).bind fun t252 => (if t252 = true then ((impl_Curve_times.f k a0_0 a0_1 a0_2 a0_3 a0_4 a0_5 a1 a2_0 a2_1 a2_2).bind fun bt253 => (some (bt253.1, bt253.2.1, bt253.2.2, true))) else (some (0, 0, false, false)))) else (some (0, 0, false, false)))
theorem impl_PointMul.mono : ∀ a0 a1 a2 a3 a4 a5 a6 a7 a8 a9 k, LeO (impl_PointMul.f k a0 a1 a2 a3 a4 a5 a6 a7 a8 a9) (impl_PointMul.f (k + 1) a0 a1 a2 a3 a4 a5 a6 a7 a8 a9) := by
 intro a0 a1 a2 a3 a4 a5 a6 a7 a8 a9 k
 unfold impl_PointMul.f
 repeat' first
   | (with_reducible exact impl_Curve_times.mono _ _ _ _ _ _ _ _ _ _ _)
   | (with_reducible exact impl_PointOk.mono _ _ _ _ _ _ _ _ _ _)
   | (with_reducible exact LeO.refl _)
   | (with_reducible exact LeO.none _)
   | (with_reducible refine LeO.ite ?_ ?_)
   | (with_reducible refine LeO.bind ?_ (fun _ => ?_))
   | exact impl_Curve_times.mono _ _ _ _ _ _ _ _ _ _ _
   | exact impl_PointOk.mono _ _ _ _ _ _ _ _ _ _
   | exact LeO.none _
   | refine LeO.ite ?_ ?_
   | refine LeO.bind ?_ (fun _ => ?_)
set_option maxHeartbeats 8000000 in
set_option maxRecDepth 100000 in
theorem impl_PointMul.calls (k : Nat) (a0_0 : Int) (a0_1 : Int) (a0_2 : Int) (a0_3 : Int) (a0_4 : Int) (a0_5 : Int) (a1 : Int) (a2_0 : Int) (a2_1 : Int) (a2_2 : Bool) (r1 : Int) (r2 : Int) (r3 : Bool) (r4 : Bool) (w : World) (h : impl_PointMul.f k a0_0 a0_1 a0_2 a0_3 a0_4 a0_5 a1 a2_0 a2_1 a2_2 = some (r1, r2, r3, r4)) :
  Calls Try.prog 26 #[.agg #[.int .i64 a0_0, .int .i64 a0_1, .int .i64 a0_2, .int .i64 a0_3, .int .i64 a0_4, .int .i64 a0_5], .int .i64 a1, .agg #[.int .i64 a2_0, .int .i64 a2_1, .bool a2_2]] w fun e w' => e = .returned (.tuple #[.agg #[.int .i64 r1, .int .i64 r2, .bool r3], .bool r4]) ∧ Below w.heap.size w w' := by
 have hu29 := Try.underlying29; have hu26 := Try.underlying26; have HB := Aside0.mk (Below.refl w.heap.size w)
 have H : ((impl_PointOk.f k a0_0 a0_1 a0_2 a0_3 a0_4 a0_5 a2_0 a2_1 a2_2).bind fun t251 => (if t251 = true then ((impl_within.f a1 0 1099511627776).bind fun t252 => (if t252 = true then ((impl_Curve_times.f k a0_0 a0_1 a0_2 a0_3 a0_4 a0_5 a1 a2_0 a2_1 a2_2).bind fun bt253 => (some (bt253.1, bt253.2.1, bt253.2.2, true))) else (some (0, 0, false, false)))) else (some (0, 0, false, false)))) = some (r1, r2, r3, r4) := h
 clear h; obtain ⟨t251, A40, H⟩ := pb_ H
 have A4 := Aside0.mk A40; clear A40
 by_cases c5 : t251 = true
 ·
  subst c5
  rw [if_pos rfl] at H; obtain ⟨t252, A60, H⟩ := pb_ H
  have A6 := Aside0.mk A60; clear A60
  by_cases c7 : t252 = true
  ·
   subst c7
   rw [if_pos rfl] at H; obtain ⟨⟨t253, t254, t255⟩, A80, H⟩ := pb_ H
   have A8 := Aside0.mk A80; clear A80
   simp only [Option.some.injEq, Prod.mk.injEq] at H
   obtain ⟨rfl, rfl, rfl, rfl⟩ := H
   go_enter Try.func26, Try.ntmps26
   go_wp2_with (first | ((with_reducible refine gate_dst (N := 3) rfl ?_); refine box_event ?hg (N := 3) ?hd (cs := #[.int .i64 a0_0, .int .i64 a0_1, .int .i64 a0_2, .int .i64 a0_3, .int .i64 a0_4, .int .i64 a0_5]) (t := 29) ?hr ?_; (case hd => rfl); (case hg => rfl); (case hr => first | (go_simp; done) | (go_simp; rfl)); intro gb248 hg w9 hbox hb; have BK248 := Aside0.mk hbox; have GW248 := ge_ HB hg; have GE248 := ge_ HB hg; replace HB := bs_ HB hb; clear hb hbox hg) | ((with_reducible refine gate_dst (N := 5) rfl ?_); refine box_event ?hg (N := 5) ?hd (cs := #[.int .i64 a2_0, .int .i64 a2_1, .bool a2_2]) (t := 26) ?hr ?_; (case hd => rfl); (case hg => rfl); (case hr => first | (go_simp; done) | (go_simp; rfl)); intro gb249 hg w10 hbox hb; have BK249 := Aside0.mk hbox; have GW249 := ge_ HB hg; have GE249 := ge_ HB hg; have NB248_249 := nl_ BK248 hg; have NB249_248 := nr_ BK248 hg; replace BK248 := bb_ BK248 hb; replace HB := bs_ HB hb; clear hb hbox hg) | ((with_reducible refine gate_dst (N := 6) rfl ?_); refine box_event ?hg (N := 6) ?hd (cs := #[.int .i64 0, .int .i64 0, .bool false]) (t := 26) ?hr ?_; (case hd => rfl); (case hg => rfl); (case hr => first | (go_simp; done) | (go_simp; rfl)); intro gb250 hg w11 hbox hb; have BK250 := Aside0.mk hbox; have GW250 := ge_ HB hg; have GE250 := ge_ HB hg; have NB248_250 := nl_ BK248 hg; have NB250_248 := nr_ BK248 hg; have NB249_250 := nl_ BK249 hg; have NB250_249 := nr_ BK249 hg; replace BK248 := bb_ BK248 hb; replace BK249 := bb_ BK249 hb; replace HB := bs_ HB hb; clear hb hbox hg; obtain ⟨hnb12, hnc12⟩ := nn_ NB248_249; obtain ⟨hnb13, hnc13⟩ := nn_ NB248_250; obtain ⟨hcz14_0, hcz14_1, hcz14_2, hcz14_3, hcz14_4, hcz14_5, hfz14_0, hfz14_1, hfz14_2, hfz14_3, hfz14_4, hfz14_5⟩ := bx6_ BK248; obtain ⟨hnb15, hnc15⟩ := nn_ NB249_250; have hcz16_0 : w11.cell? ⟨gb249, 0, none⟩ = some (.int .i64 a2_0) := bc_ BK249 0; have hcz16_1 : w11.cell? ⟨gb249, 1, none⟩ = some (.int .i64 a2_1) := bc_ BK249 1; have hcz16_2 : w11.cell? ⟨gb249, 2, none⟩ = some (.bool a2_2) := bc_ BK249 2; have hfz16_0 := blk_frozen BK249.out 0; have hfz16_1 := blk_frozen BK249.out 1; have hfz16_2 := blk_frozen BK249.out 2) | ((with_reducible refine gate_callee (f := 24) rfl ?_); refine gl_ 10 rfl rfl Try.func24 #[.agg #[.int .i64 a0_0, .int .i64 a0_1, .int .i64 a0_2, .int .i64 a0_3, .int .i64 a0_4, .int .i64 a0_5], .agg #[.int .i64 a2_0, .int .i64 a2_1, .bool a2_2]] rfl ?_; (with_reducible refine (impl_PointOk.calls k a0_0 a0_1 a0_2 a0_3 a0_4 a0_5 a2_0 a2_1 a2_2 true _ A4.out).mono ?_); rintro e w17 ⟨rfl, hb⟩; refine ⟨_, rfl, ?_⟩; replace BK248 := bb_ BK248 hb; replace BK249 := bb_ BK249 hb; replace BK250 := bb_ BK250 hb; replace HB := bs_ HB hb; (try clear hb); (try clear hb2); (try clear hk); (try clear hi)) | (go_at_call 43; (with_reducible refine (impl_within.calls a1 0 1099511627776 true _ A6.out).mono ?_); rintro e w' ⟨rfl, ⟨nd, rfl⟩⟩; (try (rw [drewN_self w17]; generalize hq_ : World.drewN w17 _ = w17; have n0_ : Aside0 (w17.heap[gb248]? = some (.cells #[.int .i64 a0_0, .int .i64 a0_1, .int .i64 a0_2, .int .i64 a0_3, .int .i64 a0_4, .int .i64 a0_5] 29 (0, 0))) := ⟨by rw [← hq_]; exact (bk_ BK248)⟩; have n1_ : Aside0 (w17.heap[gb249]? = some (.cells #[.int .i64 a2_0, .int .i64 a2_1, .bool a2_2] 26 (0, 0))) := ⟨by rw [← hq_]; exact (bk_ BK249)⟩; have n2_ : Aside0 (w17.heap[gb250]? = some (.cells #[.int .i64 0, .int .i64 0, .bool false] 26 (0, 0))) := ⟨by rw [← hq_]; exact (bk_ BK250)⟩; have n3_ : Aside0 (Below w.heap.size w w17) := ⟨by rw [← hq_]; exact (bw_ HB)⟩; clear BK248 BK249 BK250 HB hq_; have BK248 := n0_; have BK249 := n1_; have BK250 := n2_; have HB := n3_; clear n0_ n1_ n2_ n3_; obtain ⟨hcy248_0, hcy248_1, hcy248_2, hcy248_3, hcy248_4, hcy248_5⟩ := by6_ BK248; obtain ⟨hcy249_0, hcy249_1, hcy249_2⟩ := by3_ BK249; obtain ⟨hcy250_0, hcy250_1, hcy250_2⟩ := by3_ BK250)); obtain ⟨hcz18_0, hcz18_1, hcz18_2, hcz18_3, hcz18_4, hcz18_5, hfz18_0, hfz18_1, hfz18_2, hfz18_3, hfz18_4, hfz18_5⟩ := bx6_ BK248; have hcz19_0 : w17.cell? ⟨gb249, 0, none⟩ = some (.int .i64 a2_0) := bc_ BK249 0; have hcz19_1 : w17.cell? ⟨gb249, 1, none⟩ = some (.int .i64 a2_1) := bc_ BK249 1; have hcz19_2 : w17.cell? ⟨gb249, 2, none⟩ = some (.bool a2_2) := bc_ BK249 2; have hfz19_0 := blk_frozen BK249.out 0; have hfz19_1 := blk_frozen BK249.out 1; have hfz19_2 := blk_frozen BK249.out 2) | ((with_reducible refine gate_callee (f := 46) rfl ?_); refine gl_ 21 rfl rfl Try.func46 #[.agg #[.int .i64 a0_0, .int .i64 a0_1, .int .i64 a0_2, .int .i64 a0_3, .int .i64 a0_4, .int .i64 a0_5], .int .i64 a1, .agg #[.int .i64 a2_0, .int .i64 a2_1, .bool a2_2]] rfl ?_; (with_reducible refine (impl_Curve_times.calls k a0_0 a0_1 a0_2 a0_3 a0_4 a0_5 a1 a2_0 a2_1 a2_2 t253 t254 t255 _ A8.out).mono ?_); rintro e w20 ⟨rfl, hb⟩; refine ⟨_, rfl, ?_⟩; replace BK248 := bb_ BK248 hb; replace BK249 := bb_ BK249 hb; replace BK250 := bb_ BK250 hb; replace HB := bs_ HB hb; (try clear hb); (try clear hb2); (try clear hk); (try clear hi); obtain ⟨hcz21_0, hcz21_1, hcz21_2, hfz21_0, hfz21_1, hfz21_2⟩ := bx3_ BK250))
   refine bodyPost_ret (results_ct rfl _ _ gb250 26 #[.int .i64 t253, .int .i64 t254, .bool t255] (0, 0) _ rfl (bq_ BK250) Try.underlying26 rfl (by kernel_rfl)) rfl ?_; exact ⟨by first | rfl | (simp [errW_none, errW_some] <;> rfl) | (simp [*, errW_none, errW_some] <;> rfl), by repeat (first | (with_reducible first | exact HB.out | apply below_alloc | apply pw_below_drewN | apply below_drew1 | refine below_set ?_ GE248.out | refine below_set ?_ GE249.out | refine below_set ?_ GE250.out) | exact HB.out)⟩
  ·
   replace c7 := Bool.eq_false_iff.mpr c7; subst c7
   rw [if_neg (show ¬ (false = true) by decide)] at H
   simp only [Option.some.injEq, Prod.mk.injEq] at H
   obtain ⟨rfl, rfl, rfl, rfl⟩ := H
   go_enter Try.func26, Try.ntmps26
   go_wp2_with (first | ((with_reducible refine gate_dst (N := 3) rfl ?_); refine box_event ?hg (N := 3) ?hd (cs := #[.int .i64 a0_0, .int .i64 a0_1, .int .i64 a0_2, .int .i64 a0_3, .int .i64 a0_4, .int .i64 a0_5]) (t := 29) ?hr ?_; (case hd => rfl); (case hg => rfl); (case hr => first | (go_simp; done) | (go_simp; rfl)); intro gb248 hg w22 hbox hb; have BK248 := Aside0.mk hbox; have GW248 := ge_ HB hg; have GE248 := ge_ HB hg; replace HB := bs_ HB hb; clear hb hbox hg) | ((with_reducible refine gate_dst (N := 5) rfl ?_); refine box_event ?hg (N := 5) ?hd (cs := #[.int .i64 a2_0, .int .i64 a2_1, .bool a2_2]) (t := 26) ?hr ?_; (case hd => rfl); (case hg => rfl); (case hr => first | (go_simp; done) | (go_simp; rfl)); intro gb249 hg w23 hbox hb; have BK249 := Aside0.mk hbox; have GW249 := ge_ HB hg; have GE249 := ge_ HB hg; have NB248_249 := nl_ BK248 hg; have NB249_248 := nr_ BK248 hg; replace BK248 := bb_ BK248 hb; replace HB := bs_ HB hb; clear hb hbox hg) | ((with_reducible refine gate_dst (N := 6) rfl ?_); refine box_event ?hg (N := 6) ?hd (cs := #[.int .i64 0, .int .i64 0, .bool false]) (t := 26) ?hr ?_; (case hd => rfl); (case hg => rfl); (case hr => first | (go_simp; done) | (go_simp; rfl)); intro gb250 hg w24 hbox hb; have BK250 := Aside0.mk hbox; have GW250 := ge_ HB hg; have GE250 := ge_ HB hg; have NB248_250 := nl_ BK248 hg; have NB250_248 := nr_ BK248 hg; have NB249_250 := nl_ BK249 hg; have NB250_249 := nr_ BK249 hg; replace BK248 := bb_ BK248 hb; replace BK249 := bb_ BK249 hb; replace HB := bs_ HB hb; clear hb hbox hg; obtain ⟨hnb25, hnc25⟩ := nn_ NB248_249; obtain ⟨hnb26, hnc26⟩ := nn_ NB248_250; obtain ⟨hcz27_0, hcz27_1, hcz27_2, hcz27_3, hcz27_4, hcz27_5, hfz27_0, hfz27_1, hfz27_2, hfz27_3, hfz27_4, hfz27_5⟩ := bx6_ BK248; obtain ⟨hnb28, hnc28⟩ := nn_ NB249_250; have hcz29_0 : w24.cell? ⟨gb249, 0, none⟩ = some (.int .i64 a2_0) := bc_ BK249 0; have hcz29_1 : w24.cell? ⟨gb249, 1, none⟩ = some (.int .i64 a2_1) := bc_ BK249 1; have hcz29_2 : w24.cell? ⟨gb249, 2, none⟩ = some (.bool a2_2) := bc_ BK249 2; have hfz29_0 := blk_frozen BK249.out 0; have hfz29_1 := blk_frozen BK249.out 1; have hfz29_2 := blk_frozen BK249.out 2) | ((with_reducible refine gate_callee (f := 24) rfl ?_); refine gl_ 10 rfl rfl Try.func24 #[.agg #[.int .i64 a0_0, .int .i64 a0_1, .int .i64 a0_2, .int .i64 a0_3, .int .i64 a0_4, .int .i64 a0_5], .agg #[.int .i64 a2_0, .int .i64 a2_1, .bool a2_2]] rfl ?_; (with_reducible refine (impl_PointOk.calls k a0_0 a0_1 a0_2 a0_3 a0_4 a0_5 a2_0 a2_1 a2_2 true _ A4.out).mono ?_); rintro e w30 ⟨rfl, hb⟩; refine ⟨_, rfl, ?_⟩; replace BK248 := bb_ BK248 hb; replace BK249 := bb_ BK249 hb; replace BK250 := bb_ BK250 hb; replace HB := bs_ HB hb; (try clear hb); (try clear hb2); (try clear hk); (try clear hi)) | (go_at_call 43; (with_reducible refine (impl_within.calls a1 0 1099511627776 false _ A6.out).mono ?_); rintro e w' ⟨rfl, ⟨nd, rfl⟩⟩; (try (rw [drewN_self w30]; generalize hq_ : World.drewN w30 _ = w30; have n0_ : Aside0 (w30.heap[gb248]? = some (.cells #[.int .i64 a0_0, .int .i64 a0_1, .int .i64 a0_2, .int .i64 a0_3, .int .i64 a0_4, .int .i64 a0_5] 29 (0, 0))) := ⟨by rw [← hq_]; exact (bk_ BK248)⟩; have n1_ : Aside0 (w30.heap[gb249]? = some (.cells #[.int .i64 a2_0, .int .i64 a2_1, .bool a2_2] 26 (0, 0))) := ⟨by rw [← hq_]; exact (bk_ BK249)⟩; have n2_ : Aside0 (w30.heap[gb250]? = some (.cells #[.int .i64 0, .int .i64 0, .bool false] 26 (0, 0))) := ⟨by rw [← hq_]; exact (bk_ BK250)⟩; have n3_ : Aside0 (Below w.heap.size w w30) := ⟨by rw [← hq_]; exact (bw_ HB)⟩; clear BK248 BK249 BK250 HB hq_; have BK248 := n0_; have BK249 := n1_; have BK250 := n2_; have HB := n3_; clear n0_ n1_ n2_ n3_; obtain ⟨hcy248_0, hcy248_1, hcy248_2, hcy248_3, hcy248_4, hcy248_5⟩ := by6_ BK248; obtain ⟨hcy249_0, hcy249_1, hcy249_2⟩ := by3_ BK249; obtain ⟨hcy250_0, hcy250_1, hcy250_2⟩ := by3_ BK250)); obtain ⟨hcz31_0, hcz31_1, hcz31_2, hfz31_0, hfz31_1, hfz31_2⟩ := bx3_ BK250))
   refine bodyPost_ret (results_ct rfl _ _ gb250 26 #[.int .i64 0, .int .i64 0, .bool false] (0, 0) _ rfl (bq_ BK250) Try.underlying26 rfl (by kernel_rfl)) rfl ?_; exact ⟨by first | rfl | (simp [errW_none, errW_some] <;> rfl) | (simp [*, errW_none, errW_some] <;> rfl), by repeat (first | (with_reducible first | exact HB.out | apply below_alloc | apply pw_below_drewN | apply below_drew1 | refine below_set ?_ GE248.out | refine below_set ?_ GE249.out | refine below_set ?_ GE250.out) | exact HB.out)⟩
 ·
  replace c5 := Bool.eq_false_iff.mpr c5; subst c5
  rw [if_neg (show ¬ (false = true) by decide)] at H
  simp only [Option.some.injEq, Prod.mk.injEq] at H
  obtain ⟨rfl, rfl, rfl, rfl⟩ := H
  go_enter Try.func26, Try.ntmps26
  go_wp2_with (first | ((with_reducible refine gate_dst (N := 3) rfl ?_); refine box_event ?hg (N := 3) ?hd (cs := #[.int .i64 a0_0, .int .i64 a0_1, .int .i64 a0_2, .int .i64 a0_3, .int .i64 a0_4, .int .i64 a0_5]) (t := 29) ?hr ?_; (case hd => rfl); (case hg => rfl); (case hr => first | (go_simp; done) | (go_simp; rfl)); intro gb248 hg w32 hbox hb; have BK248 := Aside0.mk hbox; have GW248 := ge_ HB hg; have GE248 := ge_ HB hg; replace HB := bs_ HB hb; clear hb hbox hg) | ((with_reducible refine gate_dst (N := 5) rfl ?_); refine box_event ?hg (N := 5) ?hd (cs := #[.int .i64 a2_0, .int .i64 a2_1, .bool a2_2]) (t := 26) ?hr ?_; (case hd => rfl); (case hg => rfl); (case hr => first | (go_simp; done) | (go_simp; rfl)); intro gb249 hg w33 hbox hb; have BK249 := Aside0.mk hbox; have GW249 := ge_ HB hg; have GE249 := ge_ HB hg; have NB248_249 := nl_ BK248 hg; have NB249_248 := nr_ BK248 hg; replace BK248 := bb_ BK248 hb; replace HB := bs_ HB hb; clear hb hbox hg) | ((with_reducible refine gate_dst (N := 6) rfl ?_); refine box_event ?hg (N := 6) ?hd (cs := #[.int .i64 0, .int .i64 0, .bool false]) (t := 26) ?hr ?_; (case hd => rfl); (case hg => rfl); (case hr => first | (go_simp; done) | (go_simp; rfl)); intro gb250 hg w34 hbox hb; have BK250 := Aside0.mk hbox; have GW250 := ge_ HB hg; have GE250 := ge_ HB hg; have NB248_250 := nl_ BK248 hg; have NB250_248 := nr_ BK248 hg; have NB249_250 := nl_ BK249 hg; have NB250_249 := nr_ BK249 hg; replace BK248 := bb_ BK248 hb; replace BK249 := bb_ BK249 hb; replace HB := bs_ HB hb; clear hb hbox hg; obtain ⟨hnb35, hnc35⟩ := nn_ NB248_249; obtain ⟨hnb36, hnc36⟩ := nn_ NB248_250; obtain ⟨hcz37_0, hcz37_1, hcz37_2, hcz37_3, hcz37_4, hcz37_5, hfz37_0, hfz37_1, hfz37_2, hfz37_3, hfz37_4, hfz37_5⟩ := bx6_ BK248; obtain ⟨hnb38, hnc38⟩ := nn_ NB249_250; have hcz39_0 : w34.cell? ⟨gb249, 0, none⟩ = some (.int .i64 a2_0) := bc_ BK249 0; have hcz39_1 : w34.cell? ⟨gb249, 1, none⟩ = some (.int .i64 a2_1) := bc_ BK249 1; have hcz39_2 : w34.cell? ⟨gb249, 2, none⟩ = some (.bool a2_2) := bc_ BK249 2; have hfz39_0 := blk_frozen BK249.out 0; have hfz39_1 := blk_frozen BK249.out 1; have hfz39_2 := blk_frozen BK249.out 2) | ((with_reducible refine gate_callee (f := 24) rfl ?_); refine gl_ 10 rfl rfl Try.func24 #[.agg #[.int .i64 a0_0, .int .i64 a0_1, .int .i64 a0_2, .int .i64 a0_3, .int .i64 a0_4, .int .i64 a0_5], .agg #[.int .i64 a2_0, .int .i64 a2_1, .bool a2_2]] rfl ?_; (with_reducible refine (impl_PointOk.calls k a0_0 a0_1 a0_2 a0_3 a0_4 a0_5 a2_0 a2_1 a2_2 false _ A4.out).mono ?_); rintro e w40 ⟨rfl, hb⟩; refine ⟨_, rfl, ?_⟩; replace BK248 := bb_ BK248 hb; replace BK249 := bb_ BK249 hb; replace BK250 := bb_ BK250 hb; replace HB := bs_ HB hb; (try clear hb); (try clear hb2); (try clear hk); (try clear hi); obtain ⟨hcz41_0, hcz41_1, hcz41_2, hfz41_0, hfz41_1, hfz41_2⟩ := bx3_ BK250))
  refine bodyPost_ret (results_ct rfl _ _ gb250 26 #[.int .i64 0, .int .i64 0, .bool false] (0, 0) _ rfl (bq_ BK250) Try.underlying26 rfl (by kernel_rfl)) rfl ?_; exact ⟨by first | rfl | (simp [errW_none, errW_some] <;> rfl) | (simp [*, errW_none, errW_some] <;> rfl), by repeat (first | (with_reducible first | exact HB.out | apply below_alloc | apply pw_below_drewN | apply below_drew1 | refine below_set ?_ GE248.out | refine below_set ?_ GE249.out | refine below_set ?_ GE250.out) | exact HB.out)⟩

attribute [local go_sem] fld_
/-! ### impl_TwoMul: function 27 -/
def impl_TwoMul.j0 : Nat → Int → Int → Bool → Int → Int → Int → Int → Int → Int → Int → Int → Bool → Option (Int × Int × Bool × Bool)
  | 0, _, _, _, _, _, _, _, _, _, _, _, _ => none
  | k + 1, x1, x2, x23, x257000, x257001, x257002, x257003, x257004, x257005, x258000, x258001, x258002 => if x23 = true then (some (0, 0, false, false)) else ((impl_Curve_base.f x257000 x257001 x257002 x257003 x257004 x257005).bind fun bt262 => ((impl_Curve_times.f k x257000 x257001 x257002 x257003 x257004 x257005 x1 bt262.1 bt262.2.1 bt262.2.2).bind fun bt265 => ((impl_Curve_times.f k x257000 x257001 x257002 x257003 x257004 x257005 x2 x258000 x258001 x258002).bind fun bt268 => ((impl_Curve_sum.f k x257000 x257001 x257002 x257003 x257004 x257005 bt265.1 bt265.2.1 bt265.2.2 bt268.1 bt268.2.1 bt268.2.2).bind fun bt271 => (some (bt271.1, bt271.2.1, bt271.2.2, true))))))
def impl_TwoMul.f (k : Nat) (a0_0 : Int) (a0_1 : Int) (a0_2 : Int) (a0_3 : Int) (a0_4 : Int) (a0_5 : Int) (a1 : Int) (a2 : Int) (a3_0 : Int) (a3_1 : Int) (a3_2 : Bool) : Option (Int × Int × Bool × Bool) := (impl_PointOk.f k a0_0 a0_1 a0_2 a0_3 a0_4 a0_5 a3_0 a3_1 a3_2).bind fun t259 => (if t259 = true then ((impl_within.f a1 0 1099511627776).bind fun t260 => (if t260 = true then ((impl_within.f a2 0 1099511627776).bind fun t261 => (impl_TwoMul.j0 k a1 a2 (!t261) a0_0 a0_1 a0_2 a0_3 a0_4 a0_5 a3_0 a3_1 a3_2)) else (impl_TwoMul.j0 k a1 a2 true a0_0 a0_1 a0_2 a0_3 a0_4 a0_5 a3_0 a3_1 a3_2))) else (impl_TwoMul.j0 k a1 a2 true a0_0 a0_1 a0_2 a0_3 a0_4 a0_5 a3_0 a3_1 a3_2))
theorem impl_TwoMul.mono_l : ∀ k, (∀ y0 y1 y2 y3 y4 y5 y6 y7 y8 y9 y10 y11, LeO (impl_TwoMul.j0 k y0 y1 y2 y3 y4 y5 y6 y7 y8 y9 y10 y11) (impl_TwoMul.j0 (k + 1) y0 y1 y2 y3 y4 y5 y6 y7 y8 y9 y10 y11))
 | 0 => fun _ _ _ _ _ _ _ _ _ _ _ _ r h => by simp [impl_TwoMul.j0] at h
 | k + 1 => by
  have ih0 := impl_TwoMul.mono_l k
  ·
   intro y0 y1 y2 y3 y4 y5 y6 y7 y8 y9 y10 y11
   unfold impl_TwoMul.j0
   repeat' first
   | (with_reducible exact ih0 _ _ _ _ _ _ _ _ _ _ _ _)
   | (with_reducible exact impl_Curve_sum.mono _ _ _ _ _ _ _ _ _ _ _ _ _)
   | (with_reducible exact impl_Curve_times.mono _ _ _ _ _ _ _ _ _ _ _)
   | (with_reducible exact impl_PointOk.mono _ _ _ _ _ _ _ _ _ _)
   | (with_reducible exact LeO.refl _)
   | (with_reducible exact LeO.none _)
   | (with_reducible refine LeO.ite ?_ ?_)
   | (with_reducible refine LeO.bind ?_ (fun _ => ?_))
   | exact ih0 _ _ _ _ _ _ _ _ _ _ _ _
   | exact impl_Curve_sum.mono _ _ _ _ _ _ _ _ _ _ _ _ _
   | exact impl_Curve_times.mono _ _ _ _ _ _ _ _ _ _ _
   | exact impl_PointOk.mono _ _ _ _ _ _ _ _ _ _
   | exact LeO.none _
   | refine LeO.ite ?_ ?_
   | refine LeO.bind ?_ (fun _ => ?_)
theorem impl_TwoMul.mono : ∀ a0 a1 a2 a3 a4 a5 a6 a7 a8 a9 a10 k, LeO (impl_TwoMul.f k a0 a1 a2 a3 a4 a5 a6 a7 a8 a9 a10) (impl_TwoMul.f (k + 1) a0 a1 a2 a3 a4 a5 a6 a7 a8 a9 a10) := by
 intro a0 a1 a2 a3 a4 a5 a6 a7 a8 a9 a10 k; have ih0 := impl_TwoMul.mono_l k
 unfold impl_TwoMul.f
 repeat' first
   | (with_reducible exact ih0 _ _ _ _ _ _ _ _ _ _ _ _)
   | (with_reducible exact impl_Curve_sum.mono _ _ _ _ _ _ _ _ _ _ _ _ _)
   | (with_reducible exact impl_Curve_times.mono _ _ _ _ _ _ _ _ _ _ _)
   | (with_reducible exact impl_PointOk.mono _ _ _ _ _ _ _ _ _ _)
   | (with_reducible exact LeO.refl _)
   | (with_reducible exact LeO.none _)
   | (with_reducible refine LeO.ite ?_ ?_)
   | (with_reducible refine LeO.bind ?_ (fun _ => ?_))
   | exact ih0 _ _ _ _ _ _ _ _ _ _ _ _
   | exact impl_Curve_sum.mono _ _ _ _ _ _ _ _ _ _ _ _ _
   | exact impl_Curve_times.mono _ _ _ _ _ _ _ _ _ _ _
   | exact impl_PointOk.mono _ _ _ _ _ _ _ _ _ _
   | exact LeO.none _
   | refine LeO.ite ?_ ?_
   | refine LeO.bind ?_ (fun _ => ?_)
def impl_TwoMul.T3 : Bool × List (List Nat × List Nat) := (true, [([], []), ([], []), ([], []), ([], []), ([3], [3]), ([1, 2, 4, 4], [1, 2, 4]), ([], []), ([], []), ([], []), ([6, 7, 8, 5], [6, 7, 8]), ([0, 5, 9, 9], [0, 5, 9]), ([10, 10, 0, 1, 2, 3, 4, 5, 6, 7, 8, 9, 10], [10]), ([11, 0, 1, 2, 3, 4, 5, 6, 7, 8, 9, 10, 11], [])])
def impl_TwoMul.B3 : List Nat := [0, 0, 0, 0, 8, 30, 0, 0, 0, 510, 1023, 2047, 4095]
theorem impl_TwoMul.tab3 : rtab .any (opsOf Try.f27 3) = impl_TwoMul.T3 := by kernel_rfl
theorem impl_TwoMul.bits3 : waitsOk impl_TwoMul.T3.2 impl_TwoMul.B3 = true := by kernel_rfl
set_option maxHeartbeats 8000000 in
set_option maxRecDepth 100000 in
theorem impl_TwoMul.calls (k : Nat) (a0_0 : Int) (a0_1 : Int) (a0_2 : Int) (a0_3 : Int) (a0_4 : Int) (a0_5 : Int) (a1 : Int) (a2 : Int) (a3_0 : Int) (a3_1 : Int) (a3_2 : Bool) (r1 : Int) (r2 : Int) (r3 : Bool) (r4 : Bool) (w : World) (h : impl_TwoMul.f k a0_0 a0_1 a0_2 a0_3 a0_4 a0_5 a1 a2 a3_0 a3_1 a3_2 = some (r1, r2, r3, r4)) :
  Calls Try.prog 27 #[.agg #[.int .i64 a0_0, .int .i64 a0_1, .int .i64 a0_2, .int .i64 a0_3, .int .i64 a0_4, .int .i64 a0_5], .int .i64 a1, .int .i64 a2, .agg #[.int .i64 a3_0, .int .i64 a3_1, .bool a3_2]] w fun e w' => e = .returned (.tuple #[.agg #[.int .i64 r1, .int .i64 r2, .bool r3], .bool r4]) ∧ Below w.heap.size w w' := by
 have hu29 := Try.underlying29; have hu26 := Try.underlying26; have HB := Aside0.mk (Below.refl w.heap.size w)
 have H : ((impl_PointOk.f k a0_0 a0_1 a0_2 a0_3 a0_4 a0_5 a3_0 a3_1 a3_2).bind fun t259 => (if t259 = true then ((impl_within.f a1 0 1099511627776).bind fun t260 => (if t260 = true then ((impl_within.f a2 0 1099511627776).bind fun t261 => (impl_TwoMul.j0 k a1 a2 (!t261) a0_0 a0_1 a0_2 a0_3 a0_4 a0_5 a3_0 a3_1 a3_2)) else (impl_TwoMul.j0 k a1 a2 true a0_0 a0_1 a0_2 a0_3 a0_4 a0_5 a3_0 a3_1 a3_2))) else (impl_TwoMul.j0 k a1 a2 true a0_0 a0_1 a0_2 a0_3 a0_4 a0_5 a3_0 a3_1 a3_2))) = some (r1, r2, r3, r4) := h
 clear h; have HC5 := Aside0.mk H; clear H
 go_enter Try.func27, Try.ntmps27
 go_upto_region 1 with (first | ((with_reducible refine gate_dst (N := 4) rfl ?_); refine box_event ?hg (N := 4) ?hd (cs := #[.int .i64 a0_0, .int .i64 a0_1, .int .i64 a0_2, .int .i64 a0_3, .int .i64 a0_4, .int .i64 a0_5]) (t := 29) ?hr ?_; (case hd => rfl); (case hg => rfl); (case hr => first | (go_simp; done) | (go_simp; rfl)); intro gb256 hg w6 hbox hb; have BK256 := Aside0.mk hbox; have GW256 := ge_ HB hg; have GE256 := ge_ HB hg; replace HB := bs_ HB hb; clear hb hbox hg) | ((with_reducible refine gate_dst (N := 7) rfl ?_); refine box_event ?hg (N := 7) ?hd (cs := #[.int .i64 a3_0, .int .i64 a3_1, .bool a3_2]) (t := 26) ?hr ?_; (case hd => rfl); (case hg => rfl); (case hr => first | (go_simp; done) | (go_simp; rfl)); intro gb257 hg w7 hbox hb; have BK257 := Aside0.mk hbox; have GW257 := ge_ HB hg; have GE257 := ge_ HB hg; have NB256_257 := nl_ BK256 hg; have NB257_256 := nr_ BK256 hg; replace BK256 := bb_ BK256 hb; replace HB := bs_ HB hb; clear hb hbox hg) | ((with_reducible refine gate_dst (N := 8) rfl ?_); refine box_event ?hg (N := 8) ?hd (cs := #[.int .i64 0, .int .i64 0, .bool false]) (t := 26) ?hr ?_; (case hd => rfl); (case hg => rfl); (case hr => first | (go_simp; done) | (go_simp; rfl)); intro gb258 hg w8 hbox hb; have BK258 := Aside0.mk hbox; have GW258 := ge_ HB hg; have GE258 := ge_ HB hg; have NB256_258 := nl_ BK256 hg; have NB258_256 := nr_ BK256 hg; have NB257_258 := nl_ BK257 hg; have NB258_257 := nr_ BK257 hg; replace BK256 := bb_ BK256 hb; replace BK257 := bb_ BK257 hb; replace HB := bs_ HB hb; clear hb hbox hg))
 (try simp only [Act.put, sA_, sZ_, sS_])
 go_cut [23] (fun v23 wc => ∃ (kq : Nat) (x23_4 : Bool), v23 = .bool x23_4 ∧ Aside0 (impl_TwoMul.j0 kq a1 a2 x23_4 a0_0 a0_1 a0_2 a0_3 a0_4 a0_5 a3_0 a3_1 a3_2 = some (r1, r2, r3, r4)) ∧ Aside0 (kq ≤ k) ∧ Aside0 (wc.heap[gb256]? = some (.cells #[.int .i64 a0_0, .int .i64 a0_1, .int .i64 a0_2, .int .i64 a0_3, .int .i64 a0_4, .int .i64 a0_5] 29 (0, 0))) ∧ Aside0 (wc.heap[gb257]? = some (.cells #[.int .i64 a3_0, .int .i64 a3_1, .bool a3_2] 26 (0, 0))) ∧ Aside0 (wc.heap[gb258]? = some (.cells #[.int .i64 0, .int .i64 0, .bool false] 26 (0, 0))) ∧ Aside0 (Below w.heap.size w wc))
 case first =>
  have H := HC5.out; clear HC5; obtain ⟨t259, A90, H⟩ := pb_ H
  have A9 := Aside0.mk A90; clear A90
  by_cases c10 : t259 = true
  ·
   subst c10
   rw [if_pos rfl] at H; obtain ⟨t260, A110, H⟩ := pb_ H
   have A11 := Aside0.mk A110; clear A110
   by_cases c12 : t260 = true
   ·
    subst c12
    rw [if_pos rfl] at H; obtain ⟨t261, A130, H⟩ := pb_ H
    have A13 := Aside0.mk A130; clear A130
    have H' := Aside0.mk H
    clear H; obtain ⟨hnb14, hnc14⟩ := nn_ NB256_257; obtain ⟨hnb15, hnc15⟩ := nn_ NB256_258
    obtain ⟨hcz16_0, hcz16_1, hcz16_2, hcz16_3, hcz16_4, hcz16_5, hfz16_0, hfz16_1, hfz16_2, hfz16_3, hfz16_4, hfz16_5⟩ := bx6_ BK256; obtain ⟨hnb17, hnc17⟩ := nn_ NB257_258
    obtain ⟨hcz18_0, hcz18_1, hcz18_2, hfz18_0, hfz18_1, hfz18_2⟩ := bx3_ BK257
    go_wp2_with (first | ((with_reducible refine gate_callee (f := 24) rfl ?_); refine gl_ 12 rfl rfl Try.func24 #[.agg #[.int .i64 a0_0, .int .i64 a0_1, .int .i64 a0_2, .int .i64 a0_3, .int .i64 a0_4, .int .i64 a0_5], .agg #[.int .i64 a3_0, .int .i64 a3_1, .bool a3_2]] rfl ?_; (with_reducible refine (impl_PointOk.calls k a0_0 a0_1 a0_2 a0_3 a0_4 a0_5 a3_0 a3_1 a3_2 true _ A9.out).mono ?_); rintro e w19 ⟨rfl, hb⟩; refine ⟨_, rfl, ?_⟩; replace BK256 := bb_ BK256 hb; replace BK257 := bb_ BK257 hb; replace BK258 := bb_ BK258 hb; replace HB := bs_ HB hb; (try clear hb); (try clear hb2); (try clear hk); (try clear hi)) | (go_at_call 43; (with_reducible refine (impl_within.calls a1 0 1099511627776 true _ A11.out).mono ?_); rintro e w' ⟨rfl, ⟨nd, rfl⟩⟩) | (go_at_call 43; (with_reducible refine (impl_within.calls a2 0 1099511627776 t261 _ A13.out).mono ?_); rintro e w' ⟨rfl, ⟨nd, rfl⟩⟩))
    go_meet
    case rel => exact ⟨_, (!t261), (by first | rfl | (simp; done) | (simp [*]; done)), H', ⟨by first | omega | exact Nat.le_refl _⟩, ⟨bk_ BK256⟩, ⟨bk_ BK257⟩, ⟨bk_ BK258⟩, ⟨bw_ HB⟩⟩
   ·
    replace c12 := Bool.eq_false_iff.mpr c12; subst c12
    rw [if_neg (show ¬ (false = true) by decide)] at H
    have H' := Aside0.mk H
    clear H; obtain ⟨hnb20, hnc20⟩ := nn_ NB256_257; obtain ⟨hnb21, hnc21⟩ := nn_ NB256_258
    obtain ⟨hcz22_0, hcz22_1, hcz22_2, hcz22_3, hcz22_4, hcz22_5, hfz22_0, hfz22_1, hfz22_2, hfz22_3, hfz22_4, hfz22_5⟩ := bx6_ BK256; obtain ⟨hnb23, hnc23⟩ := nn_ NB257_258
    obtain ⟨hcz24_0, hcz24_1, hcz24_2, hfz24_0, hfz24_1, hfz24_2⟩ := bx3_ BK257
    go_wp2_with (first | ((with_reducible refine gate_callee (f := 24) rfl ?_); refine gl_ 12 rfl rfl Try.func24 #[.agg #[.int .i64 a0_0, .int .i64 a0_1, .int .i64 a0_2, .int .i64 a0_3, .int .i64 a0_4, .int .i64 a0_5], .agg #[.int .i64 a3_0, .int .i64 a3_1, .bool a3_2]] rfl ?_; (with_reducible refine (impl_PointOk.calls k a0_0 a0_1 a0_2 a0_3 a0_4 a0_5 a3_0 a3_1 a3_2 true _ A9.out).mono ?_); rintro e w25 ⟨rfl, hb⟩; refine ⟨_, rfl, ?_⟩; replace BK256 := bb_ BK256 hb; replace BK257 := bb_ BK257 hb; replace BK258 := bb_ BK258 hb; replace HB := bs_ HB hb; (try clear hb); (try clear hb2); (try clear hk); (try clear hi)) | (go_at_call 43; (with_reducible refine (impl_within.calls a1 0 1099511627776 false _ A11.out).mono ?_); rintro e w' ⟨rfl, ⟨nd, rfl⟩⟩))
    go_meet
    case rel => exact ⟨_, (true), (by first | rfl | (simp; done) | (simp [*]; done)), H', ⟨by first | omega | exact Nat.le_refl _⟩, ⟨bk_ BK256⟩, ⟨bk_ BK257⟩, ⟨bk_ BK258⟩, ⟨bw_ HB⟩⟩
  ·
   replace c10 := Bool.eq_false_iff.mpr c10; subst c10
   rw [if_neg (show ¬ (false = true) by decide)] at H
   have H' := Aside0.mk H
   clear H; obtain ⟨hnb26, hnc26⟩ := nn_ NB256_257; obtain ⟨hnb27, hnc27⟩ := nn_ NB256_258
   obtain ⟨hcz28_0, hcz28_1, hcz28_2, hcz28_3, hcz28_4, hcz28_5, hfz28_0, hfz28_1, hfz28_2, hfz28_3, hfz28_4, hfz28_5⟩ := bx6_ BK256; obtain ⟨hnb29, hnc29⟩ := nn_ NB257_258
   obtain ⟨hcz30_0, hcz30_1, hcz30_2, hfz30_0, hfz30_1, hfz30_2⟩ := bx3_ BK257
   go_wp2_with (first | ((with_reducible refine gate_callee (f := 24) rfl ?_); refine gl_ 12 rfl rfl Try.func24 #[.agg #[.int .i64 a0_0, .int .i64 a0_1, .int .i64 a0_2, .int .i64 a0_3, .int .i64 a0_4, .int .i64 a0_5], .agg #[.int .i64 a3_0, .int .i64 a3_1, .bool a3_2]] rfl ?_; (with_reducible refine (impl_PointOk.calls k a0_0 a0_1 a0_2 a0_3 a0_4 a0_5 a3_0 a3_1 a3_2 false _ A9.out).mono ?_); rintro e w31 ⟨rfl, hb⟩; refine ⟨_, rfl, ?_⟩; replace BK256 := bb_ BK256 hb; replace BK257 := bb_ BK257 hb; replace BK258 := bb_ BK258 hb; replace HB := bs_ HB hb; (try clear hb); (try clear hb2); (try clear hk); (try clear hi)))
   go_meet
   case rel => exact ⟨_, (true), (by first | rfl | (simp; done) | (simp [*]; done)), H', ⟨by first | omega | exact Nat.le_refl _⟩, ⟨bk_ BK256⟩, ⟨bk_ BK257⟩, ⟨bk_ BK258⟩, ⟨bw_ HB⟩⟩
 case rest =>
  clear HC5
  try clear c1
  try clear c2
  try clear p2
  try clear c10
  try clear c12
  try clear c14
  try clear c15
  try clear c17
  try clear c20
  try clear c21
  try clear c23
  try clear c24
  try clear c26
  try clear c27
  try clear c29
  try clear hcz16_0 hcz16_1 hcz16_2 hcz16_3 hcz16_4 hcz16_5
  try clear hcz18_0 hcz18_1 hcz18_2
  try clear hcz22_0 hcz22_1 hcz22_2 hcz22_3 hcz22_4 hcz22_5
  try clear hcz24_0 hcz24_1 hcz24_2
  try clear hcz28_0 hcz28_1 hcz28_2 hcz28_3 hcz28_4 hcz28_5
  try clear hcz30_0 hcz30_1 hcz30_2
  try clear hfz16_0 hfz16_1 hfz16_2 hfz16_3 hfz16_4 hfz16_5
  try clear hfz18_0 hfz18_1 hfz18_2
  try clear hfz22_0 hfz22_1 hfz22_2 hfz22_3 hfz22_4 hfz22_5
  try clear hfz24_0 hfz24_1 hfz24_2
  try clear hfz28_0 hfz28_1 hfz28_2 hfz28_3 hfz28_4 hfz28_5
  try clear hfz30_0 hfz30_1 hfz30_2
  obtain ⟨kq, x23_4, rfl, HA, HJ4, BK256, BK257, BK258, HB⟩ := hcut
  cases kq with
  | zero => exact absurd HA.out (by simp [impl_TwoMul.j0])
  | succ kj4 =>
   have H := HA.out; clear HA
   simp only [impl_TwoMul.j0] at H
   by_cases c32 : x23_4 = true
   ·
    subst c32; rw [if_pos rfl] at H
    simp only [Option.some.injEq, Prod.mk.injEq] at H
    obtain ⟨rfl, rfl, rfl, rfl⟩ := H; obtain ⟨hnb33, hnc33⟩ := nn_ NB258_256; obtain ⟨hnb34, hnc34⟩ := nn_ NB258_257
    obtain ⟨hcz35_0, hcz35_1, hcz35_2, hfz35_0, hfz35_1, hfz35_2⟩ := bx3_ BK258
    go_wp2
    refine bodyPost_ret (results_ct rfl _ _ gb258 26 #[.int .i64 0, .int .i64 0, .bool false] (0, 0) _ rfl (bq_ BK258) Try.underlying26 rfl (by kernel_rfl)) rfl ?_; exact ⟨by first | rfl | (simp [errW_none, errW_some] <;> rfl) | (simp [*, errW_none, errW_some] <;> rfl), by repeat (first | (with_reducible first | exact HB.out | apply below_alloc | apply pw_below_drewN | apply below_drew1 | refine below_set ?_ GE256.out | refine below_set ?_ GE257.out | refine below_set ?_ GE258.out) | exact HB.out)⟩
   ·
    replace c32 := Bool.eq_false_iff.mpr c32; subst c32
    rw [if_neg (show ¬ (false = true) by decide)] at H; obtain ⟨⟨t262, t263, t264⟩, A360, H⟩ := pb_ H
    have A36 := Aside0.mk A360; clear A360; obtain ⟨⟨t265, t266, t267⟩, A370, H⟩ := pb_ H
    have A37 := Aside0.mk A370; clear A370; obtain ⟨⟨t268, t269, t270⟩, A380, H⟩ := pb_ H
    have A38 := Aside0.mk A380; clear A380; obtain ⟨⟨t271, t272, t273⟩, A390, H⟩ := pb_ H
    have A39 := Aside0.mk A390; clear A390
    simp only [Option.some.injEq, Prod.mk.injEq] at H
    obtain ⟨rfl, rfl, rfl, rfl⟩ := H
    try go_wp2
    replace BK256 := Aside0.mk (blk_drew BK256.out); replace BK257 := Aside0.mk (blk_drew BK257.out); replace BK258 := Aside0.mk (blk_drew BK258.out); replace HB := Aside0.mk (below_drew1 HB.out); refine start_ (n := 13) (S := fun w' => w'.cell? ⟨gb256, 0, none⟩ = some (.int .i64 a0_0) ∧ w'.cell? ⟨gb256, 1, none⟩ = some (.int .i64 a0_1) ∧ w'.cell? ⟨gb256, 2, none⟩ = some (.int .i64 a0_2) ∧ w'.cell? ⟨gb256, 3, none⟩ = some (.int .i64 a0_3) ∧ w'.cell? ⟨gb256, 4, none⟩ = some (.int .i64 a0_4) ∧ w'.cell? ⟨gb256, 5, none⟩ = some (.int .i64 a0_5) ∧ w'.cell? ⟨gb257, 0, none⟩ = some (.int .i64 a3_0) ∧ w'.cell? ⟨gb257, 1, none⟩ = some (.int .i64 a3_1) ∧ w'.cell? ⟨gb257, 2, none⟩ = some (.bool a3_2)) (ds := []) (bl_ 13 0) (by kernel_rfl) rfl rfl ⟨bc_ BK256 0, bc_ BK256 1, bc_ BK256 2, bc_ BK256 3, bc_ BK256 4, bc_ BK256 5, bc_ BK257 0, bc_ BK257 1, bc_ BK257 2⟩ (fun hHeld => ?_); refine with_tabW impl_TwoMul.tab3 impl_TwoMul.bits3 (fun HT_ HW_ => ?_)
    generalize wc.drew = w40 at BK256 BK257 BK258 HB hHeld ⊢
    refine pu_ 2 27 (bl_ 13 4) rfl rfl HT_ ?_; refine pu_ 7 32 (bl_ 13 132) rfl rfl HT_ ?_; refine tk_ 0 25 (bl_ 13 133) rfl rfl HT_ HW_ hHeld (by rintro w' ⟨s0, s1, s2, s3, s4, s5, s6, s7, s8⟩; go_simp; with_reducible rfl) ?_; refine tk_ 1 26 (bl_ 13 135) rfl rfl HT_ HW_ hHeld (by rintro w' ⟨s0, s1, s2, s3, s4, s5, s6, s7, s8⟩; go_simp; with_reducible rfl) ?_; refine tk_ 3 28 (bl_ 13 143) rfl rfl HT_ HW_ hHeld (by rintro w' ⟨s0, s1, s2, s3, s4, s5, s6, s7, s8⟩; go_simp; with_reducible rfl) ?_; refine tk_ 6 31 (bl_ 13 207) rfl rfl HT_ HW_ hHeld (by rintro w' ⟨s0, s1, s2, s3, s4, s5, s6, s7, s8⟩; go_simp; with_reducible rfl) ?_; refine tk_ 8 33 (bl_ 13 463) rfl rfl HT_ HW_ hHeld (by rintro w' ⟨s0, s1, s2, s3, s4, s5, s6, s7, s8⟩; go_simp; with_reducible rfl) ?_; refine one_ (i := 4) (N := some 29) (bl_ 13 479) rfl rfl (one_of HT_.out (by kernel_rfl)) (by decide) (fun K hK => ?_); refine gs_ Try.func45 #[.agg #[.int .i64 a0_0, .int .i64 a0_1, .int .i64 a0_2, .int .i64 a0_3, .int .i64 a0_4, .int .i64 a0_5]] ?_
    with_reducible refine (impl_Curve_base.calls a0_0 a0_1 a0_2 a0_3 a0_4 a0_5 t262 t263 t264 _ A36.out).mono ?_
    rintro e w41 ⟨rfl, hb⟩; refine ⟨_, rfl, ?_⟩; replace BK256 := bb_ BK256 hb; replace BK257 := bb_ BK257 hb; replace BK258 := bb_ BK258 hb; replace HB := bs_ HB hb; (try clear hb); refine hK.out _ _ ⟨bc_ BK256 0, bc_ BK256 1, bc_ BK256 2, bc_ BK256 3, bc_ BK256 4, bc_ BK256 5, bc_ BK257 0, bc_ BK257 1, bc_ BK257 2⟩ (fun hHeld => ?_); clear hK K
    apply norm_
    · show Act.put _ (some 29) _ = _; simp only [Act.put, sA_, sZ_, sS_, i64_w, i32_w]; rfl
    refine one_ (i := 5) (N := some 30) (bl_ 13 511) rfl rfl (one_of HT_.out (by kernel_rfl)) (by decide) (fun K hK => ?_); refine gs_ Try.func46 #[.agg #[.int .i64 a0_0, .int .i64 a0_1, .int .i64 a0_2, .int .i64 a0_3, .int .i64 a0_4, .int .i64 a0_5], .int .i64 a1, .agg #[.int .i64 t262, .int .i64 t263, .bool t264]] ?_
    with_reducible refine (impl_Curve_times.calls kj4 a0_0 a0_1 a0_2 a0_3 a0_4 a0_5 a1 t262 t263 t264 t265 t266 t267 _ A37.out).mono ?_
    rintro e w42 ⟨rfl, hb⟩; refine ⟨_, rfl, ?_⟩; replace BK256 := bb_ BK256 hb; replace BK257 := bb_ BK257 hb; replace BK258 := bb_ BK258 hb; replace HB := bs_ HB hb; (try clear hb); refine hK.out _ _ ⟨bc_ BK256 0, bc_ BK256 1, bc_ BK256 2, bc_ BK256 3, bc_ BK256 4, bc_ BK256 5, bc_ BK257 0, bc_ BK257 1, bc_ BK257 2⟩ (fun hHeld => ?_); clear hK K
    apply norm_
    · show Act.put _ (some 30) _ = _; simp only [Act.put, sA_, sZ_, sS_, i64_w, i32_w]; rfl
    refine one_ (i := 9) (N := some 34) (bl_ 13 1023) rfl rfl (one_of HT_.out (by kernel_rfl)) (by decide) (fun K hK => ?_); refine gs_ Try.func46 #[.agg #[.int .i64 a0_0, .int .i64 a0_1, .int .i64 a0_2, .int .i64 a0_3, .int .i64 a0_4, .int .i64 a0_5], .int .i64 a2, .agg #[.int .i64 a3_0, .int .i64 a3_1, .bool a3_2]] ?_
    with_reducible refine (impl_Curve_times.calls kj4 a0_0 a0_1 a0_2 a0_3 a0_4 a0_5 a2 a3_0 a3_1 a3_2 t268 t269 t270 _ A38.out).mono ?_
    rintro e w43 ⟨rfl, hb⟩; refine ⟨_, rfl, ?_⟩; replace BK256 := bb_ BK256 hb; replace BK257 := bb_ BK257 hb; replace BK258 := bb_ BK258 hb; replace HB := bs_ HB hb; (try clear hb); refine hK.out _ _ ⟨bc_ BK256 0, bc_ BK256 1, bc_ BK256 2, bc_ BK256 3, bc_ BK256 4, bc_ BK256 5, bc_ BK257 0, bc_ BK257 1, bc_ BK257 2⟩ (fun hHeld => ?_); clear hK K
    apply norm_
    · show Act.put _ (some 34) _ = _; simp only [Act.put, sA_, sZ_, sS_, i64_w, i32_w]; rfl
    refine one_ (i := 10) (N := some 35) (bl_ 13 2047) rfl rfl (one_of HT_.out (by kernel_rfl)) (by decide) (fun K hK => ?_); refine gs_ Try.func33 #[.agg #[.int .i64 a0_0, .int .i64 a0_1, .int .i64 a0_2, .int .i64 a0_3, .int .i64 a0_4, .int .i64 a0_5], .agg #[.int .i64 t265, .int .i64 t266, .bool t267], .agg #[.int .i64 t268, .int .i64 t269, .bool t270]] ?_
    with_reducible refine (impl_Curve_sum.calls kj4 a0_0 a0_1 a0_2 a0_3 a0_4 a0_5 t265 t266 t267 t268 t269 t270 t271 t272 t273 _ A39.out).mono ?_
    rintro e w44 ⟨rfl, hb⟩; refine ⟨_, rfl, ?_⟩; replace BK256 := bb_ BK256 hb; replace BK257 := bb_ BK257 hb; replace BK258 := bb_ BK258 hb; replace HB := bs_ HB hb; (try clear hb); refine hK.out _ _ ⟨bc_ BK256 0, bc_ BK256 1, bc_ BK256 2, bc_ BK256 3, bc_ BK256 4, bc_ BK256 5, bc_ BK257 0, bc_ BK257 1, bc_ BK257 2⟩ (fun hHeld => ?_); clear hK K
    apply norm_
    · show Act.put _ (some 35) _ = _; simp only [Act.put, sA_, sZ_, sS_, i64_w, i32_w]; rfl
    refine one_ (i := 11) (N := none) (bl_ 13 4095) rfl rfl (one_of HT_.out (by kernel_rfl)) (by decide) (fun K hK => ?_)
    have hs45 : w44.cell? ⟨gb258, 0, none⟩ = some (.int .i64 0) := bc_ BK258 0
    have hfs45 := blk_frozen BK258.out 0; have hns45_0 := NB256_258.out; have hns45_1 := NB257_258.out; have hms45_0 := NB258_256.out; have hms45_1 := NB258_257.out
    have hs46 : w44.cell? ⟨gb258, 1, none⟩ = some (.int .i64 0) := bc_ BK258 1
    have hfs46 := blk_frozen BK258.out 1; have hns46_0 := NB256_258.out; have hns46_1 := NB257_258.out; have hms46_0 := NB258_256.out; have hms46_1 := NB258_257.out
    have hs47 : w44.cell? ⟨gb258, 2, none⟩ = some (.bool false) := bc_ BK258 2
    have hfs47 := blk_frozen BK258.out 2; have hns47_0 := NB256_258.out; have hns47_1 := NB257_258.out; have hms47_0 := NB258_256.out; have hms47_1 := NB258_257.out; refine skip_ (w1 := ?_) (by rfl) rfl ?_ ?_; rotate_left
    · go_simp; rfl
    refine hK.out _ _ ⟨((cell_far (p := ⟨gb258, _, none⟩) NB256_258.out _).trans (((cell_far (p := ⟨gb258, _, none⟩) NB256_258.out _).trans (((cell_far (p := ⟨gb258, _, none⟩) NB256_258.out _).trans (hHeld.1)))))), ((cell_far (p := ⟨gb258, _, none⟩) NB256_258.out _).trans (((cell_far (p := ⟨gb258, _, none⟩) NB256_258.out _).trans (((cell_far (p := ⟨gb258, _, none⟩) NB256_258.out _).trans (hHeld.2.1)))))), ((cell_far (p := ⟨gb258, _, none⟩) NB256_258.out _).trans (((cell_far (p := ⟨gb258, _, none⟩) NB256_258.out _).trans (((cell_far (p := ⟨gb258, _, none⟩) NB256_258.out _).trans (hHeld.2.2.1)))))), ((cell_far (p := ⟨gb258, _, none⟩) NB256_258.out _).trans (((cell_far (p := ⟨gb258, _, none⟩) NB256_258.out _).trans (((cell_far (p := ⟨gb258, _, none⟩) NB256_258.out _).trans (hHeld.2.2.2.1)))))), ((cell_far (p := ⟨gb258, _, none⟩) NB256_258.out _).trans (((cell_far (p := ⟨gb258, _, none⟩) NB256_258.out _).trans (((cell_far (p := ⟨gb258, _, none⟩) NB256_258.out _).trans (hHeld.2.2.2.2.1)))))), ((cell_far (p := ⟨gb258, _, none⟩) NB256_258.out _).trans (((cell_far (p := ⟨gb258, _, none⟩) NB256_258.out _).trans (((cell_far (p := ⟨gb258, _, none⟩) NB256_258.out _).trans (hHeld.2.2.2.2.2.1)))))), ((cell_far (p := ⟨gb258, _, none⟩) NB257_258.out _).trans (((cell_far (p := ⟨gb258, _, none⟩) NB257_258.out _).trans (((cell_far (p := ⟨gb258, _, none⟩) NB257_258.out _).trans (hHeld.2.2.2.2.2.2.1)))))), ((cell_far (p := ⟨gb258, _, none⟩) NB257_258.out _).trans (((cell_far (p := ⟨gb258, _, none⟩) NB257_258.out _).trans (((cell_far (p := ⟨gb258, _, none⟩) NB257_258.out _).trans (hHeld.2.2.2.2.2.2.2.1)))))), ((cell_far (p := ⟨gb258, _, none⟩) NB257_258.out _).trans (((cell_far (p := ⟨gb258, _, none⟩) NB257_258.out _).trans (((cell_far (p := ⟨gb258, _, none⟩) NB257_258.out _).trans (hHeld.2.2.2.2.2.2.2.2))))))⟩ (fun hHeld => ?_); clear hK K; refine pu_ 12 9 (bl_ 13 8191) rfl rfl HT_ ?_
    refine done_ (done_of HT_.out (by kernel_rfl)) ?_
    try go_wp2
    refine bodyPost_ret (results_ct rfl _ _ gb258 26 #[.int .i64 t271, .int .i64 t272, .bool t273] (0, 0) _ rfl (bq_ BK258) Try.underlying26 rfl (by kernel_rfl)) rfl ?_; exact ⟨by first | rfl | (simp [errW_none, errW_some] <;> rfl) | (simp [*, errW_none, errW_some] <;> rfl), by repeat (first | (with_reducible first | exact HB.out | apply below_alloc | apply pw_below_drewN | apply below_drew1 | refine below_set ?_ GE256.out | refine below_set ?_ GE257.out | refine below_set ?_ GE258.out) | exact HB.out)⟩

end Go.Proofs.Ytadmkolopcdffaa.PFnCurves
