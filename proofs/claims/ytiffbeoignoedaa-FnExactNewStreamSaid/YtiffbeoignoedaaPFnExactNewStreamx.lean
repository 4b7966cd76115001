-- Written for this claim by a program of this session.
import Derived.Test.YtiffbeoignoedaaPFnExactShax0
import Derived.Test.YtiffbeoignoedaaPFnExactShax1
import Derived.Test.YtiffbeoignoedaaPFnExactShax2
import Derived.Test.YtiffbeoignoedaaPFnExactShax3
import Derived.Test.YtiffbeoignoedaaPFnExactShax4
import Derived.Test.YtiffbeoignoedaaPFnExactShax5
namespace Go.Proofs.Ytiffbeoignoedaa.PFnExactNewStream
open Go.RowKit Go.Proofs.YtiffbeoignoedaaW.PrintWords Go.Proofs.YtiffbeoignoedaaW.PrintLast Go.Proofs.YtiffbeoignoedaaW.PrintMore Go.Proofs.Ytiffbeoignoedaa.PFnExactSha
attribute [local go_sem] max2_int min2_int max_two min_two max_three min_three max_four min_four   -- for this text's walks alone
set_option linter.unusedVariables false
set_option linter.unusedSimpArgs false
/-! ### The law FnExactNewStream, walked by hand -/
set_option maxHeartbeats 8000000 in
set_option maxRecDepth 100000 in
theorem eqIntA8 (H : List Int) (hH8 : H.length = 8) (w : World) :
    Calls Try.prog 39 #[.agg (U .i64 H), .agg (U .i64 H)] w fun e w' => e = .returned (.bool true) ∧ Below w.heap.size w w' := by
  have LH := Aside0.mk hH8
  have HS : Aside0 (Arrs w w []) := ⟨Arrs.refl w⟩
  clear hH8
  go_enter Try.func39, Try.ntmps39
  go_wp2_with (first
   | ((with_reducible refine gate_dst (N := 2) rfl ?_); refine box_arrs ?hg2 (N := 2) ?hd2 (U .i64 H) 22 HS ?hr2 ?_; (case hd2 => rfl); (case hg2 => rfl); (case hr2 => first | (go_simp; done) | (go_simp; rfl)); intro g2 w2 h_; clear HS; have HS := h_; clear h_)
   | ((with_reducible refine gate_dst (N := 3) rfl ?_); refine box_arrs ?hg3 (N := 3) ?hd3 (U .i64 H) 22 HS ?hr3 ?_; (case hd3 => rfl); (case hg3 => rfl); (case hr3 => first | (go_simp; done) | (go_simp; rfl)); intro g3 w3 h_; clear HS; have HS := h_; clear h_))
  go_loopg [5] 8 (fun kq v5 w' => ∃ i : Nat, v5 = .int .i64 i ∧ i + kq = 8 ∧ Aside0 (Arrs w w' [(g3, U .i64 H, 22), (g2, U .i64 H, 22)]))
  case atStart => exact ⟨0, by go_num, by omega, HS⟩
  case round =>
    clear HS
    obtain ⟨i, rfl, hi, HS⟩ := hrel
    by_cases c : i < 8
    · have hc3 := HS.out.cell (l := H) 0 i (by rw [LH.out]; exact c)
      have hc2 := HS.out.cell (l := H) 1 i (by rw [LH.out]; exact c)
      have hf3 := HS.out.free 0 i
      have hf2 := HS.out.free 1 i
      go_wp2
      go_quiet (fail)
      go_wp2
      go_roundg (8 - i - 1)
      case measure => omega
      case rel => exact ⟨i + 1, by go_num, by omega, ⟨HS.out.drewN _⟩⟩
    · obtain rfl : i = 8 := by omega
      clear c
      go_wp2
      go_ret
      exact ⟨rfl, HS.out.1⟩
set_option maxHeartbeats 8000000 in
set_option maxRecDepth 100000 in
theorem eqStream (k : Nat) (H : List Int) (hH8 : H.length = 8) (A1 A2 : Option Addr) (c1 c2 : Nat) (l : List Int) (m : Int) (w : World) (h1 : Kd.C (Kd.int .u8) w A1 l.length l) (hc1 : l.length ≤ c1) (h2 : Kd.C (Kd.int .u8) w A2 l.length l) (hc2 : l.length ≤ c2) (he : laws_eqByteS.f k l l = some true) :
    Calls Try.prog 13 #[.agg (SV H (.slice A1 l.length c1) m), .agg (SV H (.slice A2 l.length c2) m)] w fun e w' => e = .returned (.bool true) ∧ Below w.heap.size w w' := by
  have LH := Aside0.mk hH8
  have H1 := Aside0.mk h1
  have H2 := Aside0.mk h2
  have HC1 := Aside0.mk hc1
  have HC2 := Aside0.mk hc2
  have HE := Aside0.mk he
  have HS : Aside0 (Arrs w w []) := ⟨Arrs.refl w⟩
  clear hH8 h1 h2 hc1 hc2 he
  go_enter Try.func13, Try.ntmps13
  go_wp2_with (first
   | ((with_reducible refine gate_dst (N := 2) rfl ?_); refine box_arrs ?hg2 (N := 2) ?hd2 (SV H (.slice A1 l.length c1) m) 28 HS ?hr2 ?_; (case hd2 => rfl); (case hg2 => rfl); (case hr2 => first | (go_simp; done) | (go_simp; rfl)); intro g2 w2 h_; clear HS; have HS := h_; clear h_; skip)
   | ((with_reducible refine gate_dst (N := 3) rfl ?_); refine box_arrs ?hg3 (N := 3) ?hd3 (SV H (.slice A2 l.length c2) m) 28 HS ?hr3 ?_; (case hd3 => rfl); (case hg3 => rfl); (case hr3 => first | (go_simp; done) | (go_simp; rfl)); intro g3 w3 h_; clear HS; have HS := h_; clear h_; have ca8 : w3.cell? ⟨g2, 8, none⟩ = some (.slice A1 l.length c1) := (blk_cell (HS.out.get 1) 8).trans (SV_rest _ _ _ LH.out); have cb8 : w3.cell? ⟨g3, 8, none⟩ = some (.slice A2 l.length c2) := (blk_cell (HS.out.get 0) 8).trans (SV_rest _ _ _ LH.out); have ca9 : w3.cell? ⟨g2, 9, none⟩ = some (.int .i64 m) := (blk_cell (HS.out.get 1) 9).trans (SV_many _ _ _ LH.out); have cb9 : w3.cell? ⟨g3, 9, none⟩ = some (.int .i64 m) := (blk_cell (HS.out.get 0) 9).trans (SV_many _ _ _ LH.out))
   | ((with_reducible refine gate_dst (N := 6) rfl ?_); refine load_mid_U rfl (N := 6) rfl 22 (.tmp 5) rfl rfl LH.out (HS.out.get 1) Try.underlying22 rfl size22 ?_)
   | ((with_reducible refine gate_dst (N := 8) rfl ?_); refine load_mid_U rfl (N := 8) rfl 22 (.tmp 7) rfl rfl LH.out (HS.out.get 0) Try.underlying22 rfl size22 ?_)
   | (go_at_call 39; ((with_reducible refine (eqIntA8 H LH.out _).mono ?_); rintro e w9 ⟨rfl, hb⟩; have h_ := Aside0.mk (HS.out.below hb); clear HS hb ca8 cb8 ca9 cb9; have HS := h_; clear h_; have ca8 : w9.cell? ⟨g2, 8, none⟩ = some (.slice A1 l.length c1) := (blk_cell (HS.out.get 1) 8).trans (SV_rest _ _ _ LH.out); have cb8 : w9.cell? ⟨g3, 8, none⟩ = some (.slice A2 l.length c2) := (blk_cell (HS.out.get 0) 8).trans (SV_rest _ _ _ LH.out); have ca9 : w9.cell? ⟨g2, 9, none⟩ = some (.int .i64 m) := (blk_cell (HS.out.get 1) 9).trans (SV_many _ _ _ LH.out); have cb9 : w9.cell? ⟨g3, 9, none⟩ = some (.int .i64 m) := (blk_cell (HS.out.get 0) 9).trans (SV_many _ _ _ LH.out)))
   | (go_at_call 21; have hB_ := HS.out.1; ((with_reducible refine (laws_eqByteS.calls k A1 c1 l A2 c2 l true _ (Kd.C_below H1.out hB_) HC1.out (Kd.C_below H2.out hB_) HC2.out HE.out).mono ?_); clear hB_; rintro e w15 ⟨rfl, hd⟩; have h_ := Aside0.mk (HS.out.below hd.below); clear HS hd ca8 cb8 ca9 cb9; have HS := h_; clear h_; have ca8 : w15.cell? ⟨g2, 8, none⟩ = some (.slice A1 l.length c1) := (blk_cell (HS.out.get 1) 8).trans (SV_rest _ _ _ LH.out); have cb8 : w15.cell? ⟨g3, 8, none⟩ = some (.slice A2 l.length c2) := (blk_cell (HS.out.get 0) 8).trans (SV_rest _ _ _ LH.out); have ca9 : w15.cell? ⟨g2, 9, none⟩ = some (.int .i64 m) := (blk_cell (HS.out.get 1) 9).trans (SV_many _ _ _ LH.out); have cb9 : w15.cell? ⟨g3, 9, none⟩ = some (.int .i64 m) := (blk_cell (HS.out.get 0) 9).trans (SV_many _ _ _ LH.out))))
  go_ret
  exact ⟨rfl, HS.out.1⟩
set_option maxHeartbeats 8000000 in
set_option maxRecDepth 100000 in
theorem markStream0 (H : List Int) (hH8 : H.length = 8) (m : Int) (w : World) :
    Calls Try.prog 16 #[.agg (SV H (.slice none 0 0) m), .int .i64 1] w fun e w' => e = .returned (.int .i64 1) ∧ Below w.heap.size w w' := by
  have LH := Aside0.mk hH8
  have HE : Aside0 (laws_markByteS.f 5 [] 1 = some (1, [])) := ⟨by kernel_rfl⟩
  have HS : Aside0 (Arrs w w []) := ⟨Arrs.refl w⟩
  clear hH8
  go_enter Try.func16, Try.ntmps16
  go_wp2_with (first
   | ((with_reducible refine gate_dst (N := 2) rfl ?_); refine box_arrs ?hg2 (N := 2) ?hd2 (SV H (.slice none 0 0) m) 28 HS ?hr2 ?_; (case hd2 => rfl); (case hg2 => rfl); (case hr2 => first | (go_simp; done) | (go_simp; rfl)); intro g2 w2 h_; clear HS; have HS := h_; clear h_; have ca8 : w2.cell? ⟨g2, 8, none⟩ = some (.slice none 0 0) := (blk_cell (HS.out.get 0) 8).trans (SV_rest _ _ _ LH.out))
   | (go_at_call 22; have hB_ := HS.out.1; ((with_reducible refine (laws_markByteS.calls 5 (fun _ => True) (.slice none 0 0) [] 1 1 [] w _ hB_ (Kd.R_nil (Kd.int .u8) 5 _ w.heap.size (fun _ => True)) HE.out).mono ?_); rintro e w8 ⟨rfl, ho, hb, hk⟩; have HB := Aside0.mk hb; clear HS ho hb hk ca8 hB_)))
  go_ret
  exact ⟨rfl, HB.out⟩
set_option maxHeartbeats 8000000 in
set_option maxRecDepth 100000 in
theorem heldStream0 (H : List Int) (hH8 : H.length = 8) (m : Int) (w : World) :
    Calls Try.prog 17 #[.agg (SV H (.slice none 0 0) m), .int .i64 1] w fun e w' => e = .returned (.int .i64 1) ∧ Below w.heap.size w w' := by
  have LH := Aside0.mk hH8
  have HE : Aside0 (∀ W : World, Calls Try.prog 23 #[.slice none 0 0, .int .i64 1] W fun e w' => e = .returned (.int .i64 1) ∧ Drawn0 W w') := ⟨fun W => laws_heldByteS.calls 5 none 0 [] 1 1 W (Kd.C_nil _ _) (Nat.le_refl _) (by kernel_rfl)⟩
  have HS : Aside0 (Arrs w w []) := ⟨Arrs.refl w⟩
  clear hH8
  go_enter Try.func17, Try.ntmps17
  go_wp2_with (first
   | ((with_reducible refine gate_dst (N := 2) rfl ?_); refine box_arrs ?hg2 (N := 2) ?hd2 (SV H (.slice none 0 0) m) 28 HS ?hr2 ?_; (case hd2 => rfl); (case hg2 => rfl); (case hr2 => first | (go_simp; done) | (go_simp; rfl)); intro g2 w2 h_; clear HS; have HS := h_; clear h_; have ca8 : w2.cell? ⟨g2, 8, none⟩ = some (.slice none 0 0) := (blk_cell (HS.out.get 0) 8).trans (SV_rest _ _ _ LH.out))
   | (go_at_call 23; ((with_reducible refine (HE.out _).mono ?_); rintro e w8 ⟨rfl, hd⟩; have HB := Aside0.mk (HS.out.below hd.below).1; clear HS hd ca8)))
  go_ret
  exact ⟨rfl, HB.out⟩
theorem H0_start : H0 = startL := by kernel_rfl
set_option maxHeartbeats 8000000 in
set_option maxRecDepth 100000 in
theorem law (w : World) : Calls Try.prog 4 #[] w fun e w' => e = .returned (.bool true) ∧ Below w.heap.size w w' := by
  obtain ⟨N, hN⟩ : ∃ N, N = H0 := ⟨_, rfl⟩
  have LH : Aside0 (N.length = 8) := ⟨by rw [hN]; exact fill_len _ _ _⟩
  have L0 : Aside0 (z8.length = 8) := ⟨rfl⟩
  have HI : Aside0 (∀ W : World, Calls Try.prog 15 #[] W fun e w' => e = .returned (.agg (SV N (.slice none 0 0) 0)) ∧ Below W.heap.size W w') := ⟨by rw [hN]; exact impl_NewStream_⟩
  have HP : Aside0 (∀ W : World, Calls Try.prog 14 #[] W fun e w' => e = .returned (.agg (SV N (.slice none 0 0) 0)) ∧ Below W.heap.size W w') := ⟨by rw [hN, H0_start]; exact spec_NewStream_⟩
  have HQ : Aside0 (∀ W : World, Calls Try.prog 13 #[.agg (SV N (.slice none 0 0) 0), .agg (SV N (.slice none 0 0) 0)] W fun e w' => e = .returned (.bool true) ∧ Below W.heap.size W w') := ⟨fun W => eqStream 5 N LH.out none none 0 0 [] 0 W (Kd.C_nil _ _) (Nat.le_refl _) (Kd.C_nil _ _) (Nat.le_refl _) (by kernel_rfl)⟩
  have HS : Aside0 (Arrs w w []) := ⟨Arrs.refl w⟩
  clear hN
  go_enter Try.func4, Try.ntmps4
  go_wp2_with (first
   | (go_at_call 14; ((with_reducible refine (HP.out _).mono ?_); rintro e w6 ⟨rfl, hb⟩; have h_ := Aside0.mk (HS.out.below hb); clear HS hb; have HS := h_; clear h_))
   | (go_at_call 15; ((with_reducible refine (HI.out _).mono ?_); rintro e w7 ⟨rfl, hb⟩; have h_ := Aside0.mk (HS.out.below hb); clear HS hb; have HS := h_; clear h_))
   | (go_at_call 13; ((with_reducible refine (HQ.out _).mono ?_); rintro e w10 ⟨rfl, hb⟩; have h_ := Aside0.mk (HS.out.below hb); clear HS hb; have HS := h_; clear h_))
   | (go_at_call 16; ((with_reducible refine (markStream0 N LH.out 0 _).mono ?_); rintro e w14 ⟨rfl, hb⟩; have h_ := Aside0.mk (HS.out.below hb); clear HS hb; have HS := h_; clear h_))
   | (go_at_call 17; ((with_reducible refine (heldStream0 N LH.out 0 _).mono ?_); rintro e w17 ⟨rfl, hb⟩; have h_ := Aside0.mk (HS.out.below hb); clear HS hb; have HS := h_; clear h_))
   | ((with_reducible refine gate_dst (N := 1) rfl ?_); refine box_arrs ?hg1 (N := 1) ?hd1 (SV z8 (.slice none 0 0) 0) 28 HS ?hr1 ?_; (case hd1 => rfl); (case hg1 => rfl); (case hr1 => first | (go_simp; done) | (go_simp; rfl)); intro g1 w1 h_; clear HS; have HS := h_; clear h_)
   | ((with_reducible refine gate_dst (N := 2) rfl ?_); refine box_arrs ?hg2 (N := 2) ?hd2 (SV z8 (.slice none 0 0) 0) 28 HS ?hr2 ?_; (case hd2 => rfl); (case hg2 => rfl); (case hr2 => first | (go_simp; done) | (go_simp; rfl)); intro g2 w2 h_; clear HS; have HS := h_; clear h_)
   | ((with_reducible refine gate_dst (N := 5) rfl ?_); refine box_arrs ?hg5 (N := 5) ?hd5 (SV z8 (.slice none 0 0) 0) 28 HS ?hr5 ?_; (case hd5 => rfl); (case hg5 => rfl); (case hr5 => first | (go_simp; done) | (go_simp; rfl)); intro g5 w5 h_; clear HS; have HS := h_; clear h_)
   | ((with_reducible refine gate_store (t := 28) (p := 1) rfl ?_); refine store_arrs rfl 28 (.tmp 6) rfl rfl 0 (SV N (.slice none 0 0) 0) HS rfl rfl rfl (info_S _ _ _ LH.out) (by rw [SV_size _ _ _ LH.out]; rfl) (SV_one _ _ _ rfl) ?_; intro w5 h_; clear HS; have HS := h_; clear h_)
   | ((with_reducible refine gate_store (t := 28) (p := 2) rfl ?_); refine store_arrs rfl 28 (.tmp 7) rfl rfl 0 (SV N (.slice none 0 0) 0) HS rfl rfl rfl (info_S _ _ _ LH.out) (by rw [SV_size _ _ _ LH.out]; rfl) (SV_one _ _ _ rfl) ?_; intro w5 h_; clear HS; have HS := h_; clear h_)
   | ((with_reducible refine gate_store (t := 28) (p := 5) rfl ?_); refine store_arrs rfl 28 (.tmp 23) rfl rfl 0 (SV N (.slice none 0 0) 0) HS rfl rfl rfl (info_S _ _ _ LH.out) (by rw [SV_size _ _ _ LH.out]; rfl) (SV_one _ _ _ rfl) ?_; intro w5 h_; clear HS; have HS := h_; clear h_)
   | ((with_reducible refine gate_dst (N := 8) rfl ?_); refine load_arrs rfl (N := 8) rfl 28 (.tmp 2) rfl 0 HS rfl rfl Try.underlying28 rfl (info_S _ _ _ LH.out) ?_)
   | ((with_reducible refine gate_dst (N := 9) rfl ?_); refine load_arrs rfl (N := 9) rfl 28 (.tmp 1) rfl 1 HS rfl rfl Try.underlying28 rfl (info_S _ _ _ LH.out) ?_)
   | ((with_reducible refine gate_dst (N := 12) rfl ?_); refine load_arrs rfl (N := 12) rfl 28 (.tmp 2) rfl 0 HS rfl rfl Try.underlying28 rfl (info_S _ _ _ LH.out) ?_)
   | ((with_reducible refine gate_dst (N := 15) rfl ?_); refine load_arrs rfl (N := 15) rfl 28 (.tmp 2) rfl 0 HS rfl rfl Try.underlying28 rfl (info_S _ _ _ LH.out) ?_)
   | ((with_reducible refine gate_dst (N := 24) rfl ?_); refine load_arrs rfl (N := 24) rfl 28 (.tmp 5) rfl 0 HS rfl rfl Try.underlying28 rfl (info_S _ _ _ LH.out) ?_)
   | ((with_reducible refine gate_dst (N := 25) rfl ?_); refine load_arrs rfl (N := 25) rfl 28 (.tmp 1) rfl 2 HS rfl rfl Try.underlying28 rfl (info_S _ _ _ LH.out) ?_)
   | ((with_reducible refine gate_dst (N := 28) rfl ?_); refine load_arrs rfl (N := 28) rfl 28 (.tmp 2) rfl 1 HS rfl rfl Try.underlying28 rfl (info_S _ _ _ LH.out) ?_))
  go_ret
  exact ⟨rfl, HS.out.1⟩
end Go.Proofs.Ytiffbeoignoedaa.PFnExactNewStream
