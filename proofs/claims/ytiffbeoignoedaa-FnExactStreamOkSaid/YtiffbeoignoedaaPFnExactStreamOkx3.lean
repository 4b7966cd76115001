-- Written for this claim by a program of this session.
import Derived.Test.YtiffbeoignoedaaPFnExactStreamOkx0
import Derived.Test.YtiffbeoignoedaaPFnExactStreamOkx1
import Derived.Test.YtiffbeoignoedaaPFnExactStreamOkx2
namespace Go.Proofs.Ytiffbeoignoedaa.PFnExactStreamOk
open Go.RowKit Go.Proofs.YtiffbeoignoedaaW.PrintWords Go.Proofs.YtiffbeoignoedaaW.PrintLast Go.Proofs.YtiffbeoignoedaaW.PrintMore
attribute [local go_sem] max2_int min2_int max_two min_two max_three min_three max_four min_four   -- for this text's walks alone
set_option linter.unusedVariables false
set_option linter.unusedSimpArgs false
theorem size25 : (Try.prog.info? 25).map (·.size) = some 10 := by kernel_rfl
theorem info_S25 (H : List Int) (v : Value) (m : Int) (h : H.length = 8) : (Try.prog.info? 25).map (·.size) = some (SV H v m).size := by rw [size25, SV_size H v m h]
theorem fill_self (H : List Int) (h : H.length = 8) : fill (fun i => rd H i) 8 z8 = H := by
  match H, h with
  | [h0, h1, h2, h3, h4, h5, h6, h7], _ => rfl
/-- What a stream is held to. -/
def okS (H : List Int) (n : Nat) (m : Int) : Bool := H.all (fun x => decide (0 ≤ x ∧ x ≤ 4294967295)) && (decide (0 ≤ m ∧ m ≤ 20000) && decide ((n : Int) = m % 64))
theorem l1In_eq (n a b : Int) : spec_l1In.f n a b = some (decide (a ≤ n ∧ n ≤ b)) := by
  unfold spec_l1In.f
  by_cases h : n ≥ a
  · rw [if_pos h]
    have : a ≤ n := h
    simp [this]
  · rw [if_neg h]
    have : ¬ a ≤ n := h
    simp [this]
theorem within_eq_ (n a b : Int) : impl_within.f n a b = some (decide (a ≤ n ∧ n ≤ b)) := by
  unfold impl_within.f
  by_cases h : n ≥ a
  · rw [if_pos h]
    have : a ≤ n := h
    simp [this]
  · rw [if_neg h]
    have : ¬ a ≤ n := h
    simp [this]
set_option maxHeartbeats 8000000 in
set_option maxRecDepth 100000 in
theorem eqIntA8 (H : List Int) (hH8 : H.length = 8) (w : World) :
    Calls Try.prog 39 #[.agg (U .i64 H), .agg (U .i64 H)] w fun e w' => e = .returned (.bool true) ∧ Below w.heap.size w w' := by
  have LH := Aside0.mk hH8
  have HS : Aside0 (Arrs w w []) := ⟨Arrs.refl w⟩
  clear hH8
  go_enter Try.func39, Try.ntmps39
  go_wp2_with (first
   | ((with_reducible refine gate_dst (N := 2) rfl ?_); refine box_arrs ?hg2 (N := 2) ?hd2 (U .i64 H) 22 HS ?hr2 ?_; (case hd2 => rfl); (case hg2 => rfl); (case hr2 => first | (go_simp; done) | (go_simp; rfl)); intro g2 w2 h_; clear HS; have HS := h_; clear h_)
   | ((with_reducible refine gate_dst (N := 3) rfl ?_); refine box_arrs ?hg3 (N := 3) ?hd3 (U .i64 H) 22 HS ?hr3 ?_; (case hd3 => rfl); (case hg3 => rfl); (case hr3 => first | (go_simp; done) | (go_simp; rfl)); intro g3 w3 h_; clear HS; have HS := h_; clear h_))
  go_loopg [5] 8 (fun kq v5 w' => ∃ i : Nat, v5 = .int .i64 i ∧ i + kq = 8 ∧ Aside0 (Arrs w w' [(g3, U .i64 H, 22), (g2, U .i64 H, 22)]))
  case atStart => exact ⟨0, by go_num, by omega, HS⟩
  case round =>
    clear HS
    obtain ⟨i, rfl, hi, HS⟩ := hrel
    by_cases c : i < 8
    · have hc3 := HS.out.cell (l := H) 0 i (by rw [LH.out]; exact c)
      have hc2 := HS.out.cell (l := H) 1 i (by rw [LH.out]; exact c)
      have hf3 := HS.out.free 0 i
      have hf2 := HS.out.free 1 i
      go_wp2
      go_quiet (fail)
      go_wp2
      go_roundg (8 - i - 1)
      case measure => omega
      case rel => exact ⟨i + 1, by go_num, by omega, ⟨HS.out.drewN _⟩⟩
    · obtain rfl : i = 8 := by omega
      clear c
      go_wp2
      go_ret
      exact ⟨rfl, HS.out.1⟩
set_option maxHeartbeats 8000000 in
set_option maxRecDepth 100000 in
theorem eqStream (k : Nat) (H : List Int) (hH8 : H.length = 8) (A1 A2 : Option Addr) (c1 c2 : Nat) (l : List Int) (m : Int) (w : World) (h1 : Kd.C (Kd.int .u8) w A1 l.length l) (hc1 : l.length ≤ c1) (h2 : Kd.C (Kd.int .u8) w A2 l.length l) (hc2 : l.length ≤ c2) (he : laws_eqByteS.f k l l = some true) :
    Calls Try.prog 13 #[.agg (SV H (.slice A1 l.length c1) m), .agg (SV H (.slice A2 l.length c2) m)] w fun e w' => e = .returned (.bool true) ∧ Below w.heap.size w w' := by
  have LH := Aside0.mk hH8
  have H1 := Aside0.mk h1
  have H2 := Aside0.mk h2
  have HC1 := Aside0.mk hc1
  have HC2 := Aside0.mk hc2
  have HE := Aside0.mk he
  have HS : Aside0 (Arrs w w []) := ⟨Arrs.refl w⟩
  clear hH8 h1 h2 hc1 hc2 he
  go_enter Try.func13, Try.ntmps13
  go_wp2_with (first
   | ((with_reducible refine gate_dst (N := 2) rfl ?_); refine box_arrs ?hg2 (N := 2) ?hd2 (SV H (.slice A1 l.length c1) m) 28 HS ?hr2 ?_; (case hd2 => rfl); (case hg2 => rfl); (case hr2 => first | (go_simp; done) | (go_simp; rfl)); intro g2 w2 h_; clear HS; have HS := h_; clear h_; skip)
   | ((with_reducible refine gate_dst (N := 3) rfl ?_); refine box_arrs ?hg3 (N := 3) ?hd3 (SV H (.slice A2 l.length c2) m) 28 HS ?hr3 ?_; (case hd3 => rfl); (case hg3 => rfl); (case hr3 => first | (go_simp; done) | (go_simp; rfl)); intro g3 w3 h_; clear HS; have HS := h_; clear h_; have ca8 : w3.cell? ⟨g2, 8, none⟩ = some (.slice A1 l.length c1) := (blk_cell (HS.out.get 1) 8).trans (SV_rest _ _ _ LH.out); have cb8 : w3.cell? ⟨g3, 8, none⟩ = some (.slice A2 l.length c2) := (blk_cell (HS.out.get 0) 8).trans (SV_rest _ _ _ LH.out); have ca9 : w3.cell? ⟨g2, 9, none⟩ = some (.int .i64 m) := (blk_cell (HS.out.get 1) 9).trans (SV_many _ _ _ LH.out); have cb9 : w3.cell? ⟨g3, 9, none⟩ = some (.int .i64 m) := (blk_cell (HS.out.get 0) 9).trans (SV_many _ _ _ LH.out))
   | ((with_reducible refine gate_dst (N := 6) rfl ?_); refine load_mid_U rfl (N := 6) rfl 22 (.tmp 5) rfl rfl LH.out (HS.out.get 1) Try.underlying22 rfl size22 ?_)
   | ((with_reducible refine gate_dst (N := 8) rfl ?_); refine load_mid_U rfl (N := 8) rfl 22 (.tmp 7) rfl rfl LH.out (HS.out.get 0) Try.underlying22 rfl size22 ?_)
   | (go_at_call 39; ((with_reducible refine (eqIntA8 H LH.out _).mono ?_); rintro e w9 ⟨rfl, hb⟩; have h_ := Aside0.mk (HS.out.below hb); clear HS hb ca8 cb8 ca9 cb9; have HS := h_; clear h_; have ca8 : w9.cell? ⟨g2, 8, none⟩ = some (.slice A1 l.length c1) := (blk_cell (HS.out.get 1) 8).trans (SV_rest _ _ _ LH.out); have cb8 : w9.cell? ⟨g3, 8, none⟩ = some (.slice A2 l.length c2) := (blk_cell (HS.out.get 0) 8).trans (SV_rest _ _ _ LH.out); have ca9 : w9.cell? ⟨g2, 9, none⟩ = some (.int .i64 m) := (blk_cell (HS.out.get 1) 9).trans (SV_many _ _ _ LH.out); have cb9 : w9.cell? ⟨g3, 9, none⟩ = some (.int .i64 m) := (blk_cell (HS.out.get 0) 9).trans (SV_many _ _ _ LH.out)))
   | (go_at_call 21; have hB_ := HS.out.1; ((with_reducible refine (laws_eqByteS.calls k A1 c1 l A2 c2 l true _ (Kd.C_below H1.out hB_) HC1.out (Kd.C_below H2.out hB_) HC2.out HE.out).mono ?_); clear hB_; rintro e w15 ⟨rfl, hd⟩; have h_ := Aside0.mk (HS.out.below hd.below); clear HS hd ca8 cb8 ca9 cb9; have HS := h_; clear h_; have ca8 : w15.cell? ⟨g2, 8, none⟩ = some (.slice A1 l.length c1) := (blk_cell (HS.out.get 1) 8).trans (SV_rest _ _ _ LH.out); have cb8 : w15.cell? ⟨g3, 8, none⟩ = some (.slice A2 l.length c2) := (blk_cell (HS.out.get 0) 8).trans (SV_rest _ _ _ LH.out); have ca9 : w15.cell? ⟨g2, 9, none⟩ = some (.int .i64 m) := (blk_cell (HS.out.get 1) 9).trans (SV_many _ _ _ LH.out); have cb9 : w15.cell? ⟨g3, 9, none⟩ = some (.int .i64 m) := (blk_cell (HS.out.get 0) 9).trans (SV_many _ _ _ LH.out))))
  go_ret
  exact ⟨rfl, HS.out.1⟩
set_option maxHeartbeats 8000000 in
set_option maxRecDepth 100000 in
theorem toIntA8 (H : List Int) (hH8 : H.length = 8) (w : World) :
    Calls Try.prog 36 #[.agg (U .i64 H)] w fun e w' => e = .returned (.agg (U .i64 H)) ∧ Below w.heap.size w w' := by
  have LH := Aside0.mk hH8
  have HS : Aside0 (Arrs w w []) := ⟨Arrs.refl w⟩
  clear hH8
  go_enter Try.func36, Try.ntmps36
  go_wp2_with (first
   | ((with_reducible refine gate_dst (N := 1) rfl ?_); refine box_arrs ?hg1 (N := 1) ?hd1 (U .i64 H) 22 HS ?hr1 ?_; (case hd1 => rfl); (case hg1 => rfl); (case hr1 => first | (go_simp; done) | (go_simp; rfl)); intro g1 w1 h_; clear HS; have HS := h_; clear h_)
   | ((with_reducible refine gate_dst (N := 2) rfl ?_); refine box_arrs ?hg2 (N := 2) ?hd2 (U .i64 z8) 22 HS ?hr2 ?_; (case hd2 => rfl); (case hg2 => rfl); (case hr2 => first | (go_simp; done) | (go_simp; rfl)); intro g2 w2 h_; clear HS; have HS := h_; clear h_)
   | ((with_reducible refine gate_dst (N := 3) rfl ?_); refine box_arrs ?hg3 (N := 3) ?hd3 (U .i64 z8) 22 HS ?hr3 ?_; (case hd3 => rfl); (case hg3 => rfl); (case hr3 => first | (go_simp; done) | (go_simp; rfl)); intro g3 w3 h_; clear HS; have HS := h_; clear h_))
  go_loopg [4] 8 (fun kq v4 w' => ∃ i : Nat, v4 = .int .i64 i ∧ i + kq = 8 ∧ Aside0 (Arrs w w' [(g3, U .i64 (fill (fun i => rd H i) i z8), 22), (g2, U .i64 z8, 22), (g1, U .i64 H, 22)]))
  case atStart => exact ⟨0, by go_num, by omega, HS⟩
  case round =>
    clear HS
    obtain ⟨i, rfl, hi, HS⟩ := hrel
    by_cases c : i < 8
    · have hc1 := HS.out.cell (l := H) 2 i (by rw [LH.out]; exact c)
      have hc3 := HS.out.cell (l := fill (fun i => rd H i) i z8) 0 i (by rw [fill_len]; exact c)
      have hf3 := HS.out.free 0 i
      go_wp2
      go_roundg (8 - i - 1)
      case measure => omega
      case rel => exact ⟨i + 1, by go_num, by omega, ⟨HS.out.putU 0 i _⟩⟩
    · obtain rfl : i = 8 := by omega
      clear c
      have hl : (fill (fun i => rd H i) 8 z8).length = 8 := fill_len _ _ _
      go_wp2_with (first
       | ((with_reducible refine gate_dst (N := 14) rfl ?_); refine load_arrs rfl (N := 14) rfl 22 (.tmp 3) rfl 0 HS rfl rfl Try.underlying22 rfl (info_U _ size22 hl) ?_)
       | ((with_reducible refine gate_store (t := 22) (p := 2) rfl ?_); refine store_arrs rfl 22 (.tmp 14) rfl rfl 1 (U .i64 (fill (fun i => rd H i) 8 z8)) HS rfl rfl rfl (info_U _ size22 hl) (by rw [U_size, U_size, hl]; rfl) (U_one _ _) ?_; intro w5 h_; clear HS; have HS := h_; clear h_))
      refine bodyPost_ret (results_cell_row rfl _ _ _ 22 _ (0, 0) _ rfl (HS.out.get 1) Try.underlying22 rfl (info_U _ size22 hl)) rfl ⟨by rw [fill_self H LH.out], HS.out.1⟩
set_option maxHeartbeats 8000000 in
set_option maxRecDepth 100000 in
theorem szStream (H : List Int) (hH8 : H.length = 8) (A : Option Addr) (c : Nat) (l : List Int) (m a1 r : Int) (w : World) (h1 : Kd.C (Kd.int .u8) w A l.length l) (hc : l.length ≤ c) (hs : laws_szByteS.f l a1 = some r) (hr : -1 ≤ r) :
    Calls Try.prog 9 #[.agg (SV H (.slice A l.length c) m), .int .i64 a1] w fun e w' => e = .returned (.int .i64 r) ∧ Below w.heap.size w w' := by
  have LH := Aside0.mk hH8
  have H1 := Aside0.mk h1
  have HC := Aside0.mk hc
  have HE := Aside0.mk hs
  have HS : Aside0 (Arrs w w []) := ⟨Arrs.refl w⟩
  clear hH8 h1 hc hs
  by_cases c0 : r < 0
  · obtain rfl : r = -1 := by omega
    go_enter Try.func9, Try.ntmps9
    go_wp2_with (first
     | ((with_reducible refine gate_dst (N := 2) rfl ?_); refine box_arrs ?hg2 (N := 2) ?hd2 (SV H (.slice A l.length c) m) 25 HS ?hr2 ?_; (case hd2 => rfl); (case hg2 => rfl); (case hr2 => first | (go_simp; done) | (go_simp; rfl)); intro g2 w2 h_; clear HS; have HS := h_; clear h_; have ca8 : w2.cell? ⟨g2, 8, none⟩ = some (.slice A l.length c) := (blk_cell (HS.out.get 0) 8).trans (SV_rest _ _ _ LH.out))
     | (go_at_call 34; have hB_ := HS.out.1; ((with_reducible refine (laws_szByteS.calls A c l a1 _ _ (Kd.C_below H1.out hB_) HC.out HE.out).mono ?_); clear hB_; rintro e w8 ⟨rfl, hd⟩; have h_ := Aside0.mk (HS.out.below hd.below); clear HS hd ca8; have HS := h_; clear h_)))
    go_ret
    exact ⟨rfl, HS.out.1⟩
  · go_enter Try.func9, Try.ntmps9
    go_wp2_with (first
     | ((with_reducible refine gate_dst (N := 2) rfl ?_); refine box_arrs ?hg2 (N := 2) ?hd2 (SV H (.slice A l.length c) m) 25 HS ?hr2 ?_; (case hd2 => rfl); (case hg2 => rfl); (case hr2 => first | (go_simp; done) | (go_simp; rfl)); intro g2 w2 h_; clear HS; have HS := h_; clear h_; have ca8 : w2.cell? ⟨g2, 8, none⟩ = some (.slice A l.length c) := (blk_cell (HS.out.get 0) 8).trans (SV_rest _ _ _ LH.out))
     | (go_at_call 34; have hB_ := HS.out.1; ((with_reducible refine (laws_szByteS.calls A c l a1 _ _ (Kd.C_below H1.out hB_) HC.out HE.out).mono ?_); clear hB_; rintro e w8 ⟨rfl, hd⟩; have h_ := Aside0.mk (HS.out.below hd.below); clear HS hd ca8; have HS := h_; clear h_)))
    go_ret
    exact ⟨rfl, HS.out.1⟩
set_option maxHeartbeats 8000000 in
set_option maxRecDepth 100000 in
theorem toStream (k : Nat) (H : List Int) (hH8 : H.length = 8) (A : Option Addr) (c : Nat) (l : List Int) (m : Int) (w : World) (h1 : Kd.C (Kd.int .u8) w A l.length l) (hc : l.length ≤ c) (ht : laws_toByteS.f k l = some l) :
    Calls Try.prog 11 #[.agg (SV H (.slice A l.length c) m)] w fun e w' => ∃ A' c', e = .returned (.agg (SV H (.slice A' l.length c') m)) ∧ Kd.R (Kd.int .u8) 5 w' w.heap.size (fun _ => True) (.slice A' l.length c') l ∧ Below w.heap.size w w' := by
  have LH := Aside0.mk hH8
  have L0 : Aside0 (z8.length = 8) := ⟨rfl⟩
  have H1 := Aside0.mk h1
  have HC := Aside0.mk hc
  have HE := Aside0.mk ht
  have HS : Aside0 (Arrs w w []) := ⟨Arrs.refl w⟩
  clear hH8 h1 hc ht
  go_enter Try.func11, Try.ntmps11
  go_upto_region 4 with (first
   | ((with_reducible refine gate_dst (N := 1) rfl ?_); refine box_arrs ?hg1 (N := 1) ?hd1 (SV H (.slice A l.length c) m) 25 HS ?hr1 ?_; (case hd1 => rfl); (case hg1 => rfl); (case hr1 => first | (go_simp; done) | (go_simp; rfl)); intro g1 w1 h_; clear HS; have HS := h_; clear h_; skip)
   | ((with_reducible refine gate_dst (N := 2) rfl ?_); refine box_arrs ?hg2 (N := 2) ?hd2 (SV z8 (.slice none 0 0) 0) 28 HS ?hr2 ?_; (case hd2 => rfl); (case hg2 => rfl); (case hr2 => first | (go_simp; done) | (go_simp; rfl)); intro g2 w2 h_; clear HS; have HS := h_; clear h_)
   | ((with_reducible refine gate_dst (N := 3) rfl ?_); refine box_arrs ?hg3 (N := 3) ?hd3 (SV z8 (.slice none 0 0) 0) 28 HS ?hr3 ?_; (case hd3 => rfl); (case hg3 => rfl); (case hr3 => first | (go_simp; done) | (go_simp; rfl)); intro g3 w3 h_; clear HS; have HS := h_; clear h_)
   | ((with_reducible refine gate_dst (N := 5) rfl ?_); refine load_mid_U rfl (N := 5) rfl 22 (.tmp 4) rfl rfl LH.out (HS.out.get 2) Try.underlying22 rfl size22 ?_)
   | (go_at_call 36; ((with_reducible refine (toIntA8 H LH.out _).mono ?_); rintro e w6 ⟨rfl, hb⟩; have h_ := Aside0.mk (HS.out.below hb); clear HS hb; have HS := h_; clear h_))
   | ((with_reducible refine gate_store (t := 22) (p := 7) rfl ?_); refine wpList_store_mid rfl 22 (.tmp 7) (.tmp 6) rfl g3 0 (U .i64 H) rfl rfl (SV_there L0.out (by rw [U_size, LH.out]) (HS.out.get 0)) (info_U _ size22 LH.out) (U_one _ _) ?_; have h_ := Aside0.mk (HS.out.mid (H' := H) 0 L0.out LH.out); generalize World.setCells _ g3 0 (U .i64 H).toList = w7 at h_ ⊢; clear HS; have HS := h_; clear h_; have ca8 : w7.cell? ⟨g1, 8, none⟩ = some (.slice A l.length c) := (blk_cell (HS.out.get 2) 8).trans (SV_rest _ _ _ LH.out))
   | (go_at_call 19; have hB_ := HS.out.1; ((with_reducible refine (laws_toByteS.calls k A c l l _ (Kd.C_below H1.out hB_) HC.out HE.out).mono ?_); rintro e w10 ⟨v10, rfl, ho, hb⟩; have h_ := Aside0.mk (HS.out.below hb); have HO := Aside0.mk (R_not (R_not (Kd.R_lower ho (below_size hB_)) (h_.out.get 1) (by decide)) (h_.out.get 0) (by decide)); clear hB_ HS hb ho ca8; have HS := h_; clear h_; obtain ⟨A10, c10, rfl⟩ := Kd.R_slice HO.out; have hc8 : w10.cell? ⟨g3, 8, none⟩ = some (.slice none 0 0) := (blk_cell (HS.out.get 0) 8).trans (SV_rest _ _ _ LH.out); have hf8 := HS.out.free 0 8)))
  have h_ : Aside0 (Arrs w (w10.setCell ⟨g3, 8, none⟩ (.slice A10 l.length c10)) [(g3, SV H (.slice A10 l.length c10) 0, 28), (g2, SV z8 (.slice none 0 0) 0, 28), (g1, SV H (.slice A l.length c) m, 25)]) := ⟨HS.out.put8 0 (.slice A10 l.length c10) LH.out⟩
  have r_ := Aside0.mk (Kd.R_far HO.out (p := ⟨g3, 8, none⟩) (fun k hk => hk.2) (.slice A10 l.length c10))
  clear HS HO hc8 hf8
  generalize w10.setCell ⟨g3, 8, none⟩ (.slice A10 l.length c10) = w11 at h_ r_ ⊢
  have ca9 : w11.cell? ⟨g1, 9, none⟩ = some (.int .i64 m) := (blk_cell (h_.out.get 2) 9).trans (SV_many _ _ _ LH.out)
  have cb9 : w11.cell? ⟨g3, 9, none⟩ = some (.int .i64 0) := (blk_cell (h_.out.get 0) 9).trans (SV_many _ _ _ LH.out)
  have hf9 := h_.out.free 0 9
  go_upto_region 5 with (fail)
  have q_ := h_.out.put 0 9 (.int .i64 m)
  rw [SV_set9 _ LH.out] at q_
  have HS : Aside0 (Arrs w (w11.setCell ⟨g3, 9, none⟩ (.int .i64 m)) [(g3, SV H (.slice A10 l.length c10) m, 28), (g2, SV z8 (.slice none 0 0) 0, 28), (g1, SV H (.slice A l.length c) m, 25)]) := ⟨q_⟩
  have HO := Aside0.mk (Kd.R_far r_.out (p := ⟨g3, 9, none⟩) (fun k hk => hk.2) (.int .i64 m))
  clear h_ r_ q_ ca9 cb9 hf9
  generalize w11.setCell ⟨g3, 9, none⟩ (.int .i64 m) = w12 at HS HO ⊢
  go_wp2_with (first
   | ((with_reducible refine gate_dst (N := 15) rfl ?_); refine load_arrs rfl (N := 15) rfl 28 (.tmp 3) rfl 0 HS rfl rfl Try.underlying28 rfl (info_S _ _ _ LH.out) ?_)
   | ((with_reducible refine gate_store (t := 28) (p := 2) rfl ?_); refine wpList_store_row rfl 28 (.tmp 2) (.tmp 15) rfl g2 (SV H (.slice A10 l.length c10) m) rfl rfl 28 (SV z8 (.slice none 0 0) 0) (HS.out.get 1) (info_S _ _ _ LH.out) (by rw [SV_size _ _ _ LH.out]; rfl) (SV_one _ _ _ rfl) ?_))
  have HE := HS.out.row 1 (SV H (.slice A10 l.length c10) m)
  have HRe := Kd.R_step HO.out (fun k hk _ => setRow_other _ g2 k (SV H (.slice A10 l.length c10) m) hk.1.2)
  exact bodyPost_ret (results_cell_row rfl _ _ _ 28 _ (0, 0) _ rfl (HE.get 1) Try.underlying28 rfl (info_S _ _ _ LH.out)) rfl ⟨A10, c10, rfl, Kd.R_mono HRe (fun _ _ => trivial), HE.1⟩
theorem okS_bad (H : List Int) (n : Nat) (m : Int) (i : Nat) (hi : i < H.length) (h : ¬ (0 ≤ rd H i ∧ rd H i ≤ 4294967295)) : okS H n m = false := by
  have h1 : H.all (fun x => decide (0 ≤ x ∧ x ≤ 4294967295)) = false := by
    rw [List.all_eq_false]
    refine ⟨H[i], List.getElem_mem _, ?_⟩
    have e : rd H i = H[i] := by simp [rd, List.getD_eq_getElem?_getD, List.getElem?_eq_getElem hi]
    rw [e] at h
    simpa using h
  unfold okS
  rw [h1, Bool.false_and]
theorem all_good (H : List Int) (h8 : H.length = 8) (h : ∀ j : Nat, j < 8 → 0 ≤ rd H j ∧ rd H j ≤ 4294967295) : H.all (fun x => decide (0 ≤ x ∧ x ≤ 4294967295)) = true := by
  rw [List.all_eq_true]
  intro x hx
  obtain ⟨i, hi, rfl⟩ := List.mem_iff_getElem.1 hx
  have e : rd H i = H[i] := by simp [rd, List.getD_eq_getElem?_getD, List.getElem?_eq_getElem hi]
  have := h i (by omega)
  rw [e] at this
  simpa using this
theorem okS_good (H : List Int) (n : Nat) (m : Int) (h8 : H.length = 8) (h : ∀ j : Nat, j < 8 → 0 ≤ rd H j ∧ rd H j ≤ 4294967295) (hm : 0 ≤ m ∧ m ≤ 20000) : okS H n m = decide ((n : Int) = m % 64) := by
  unfold okS
  rw [all_good H h8 h, decide_eq_true hm, Bool.true_and, Bool.true_and]
theorem okS_far (H : List Int) (n : Nat) (m : Int) (hm : ¬ (0 ≤ m ∧ m ≤ 20000)) : okS H n m = false := by
  unfold okS
  rw [decide_eq_false hm, Bool.false_and, Bool.and_false]
set_option maxHeartbeats 8000000 in
set_option maxRecDepth 100000 in
theorem specOk (H : List Int) (hH8 : H.length = 8) (A : Option Addr) (c : Nat) (l : List Int) (m : Int) (w : World) :
    Calls Try.prog 10 #[.agg (SV H (.slice A l.length c) m)] w fun e w' => e = .returned (.bool (okS H l.length m)) ∧ Below w.heap.size w w' := by
  have LH := Aside0.mk hH8
  have HS : Aside0 (Arrs w w []) := ⟨Arrs.refl w⟩
  clear hH8
  go_enter Try.func10, Try.ntmps10
  go_wp2_with (first
   | ((with_reducible refine gate_dst (N := 1) rfl ?_); refine box_arrs ?hg1 (N := 1) ?hd1 (SV H (.slice A l.length c) m) 28 HS ?hr1 ?_; (case hd1 => rfl); (case hg1 => rfl); (case hr1 => first | (go_simp; done) | (go_simp; rfl)); intro g1 w1 h_; clear HS; have HS := h_; clear h_; skip))
  go_loopg [3] 8 (fun kq v3 w' => ∃ i : Nat, v3 = .int .i64 i ∧ i + kq = 8 ∧ Aside0 (∀ j : Nat, j < i → 0 ≤ rd H j ∧ rd H j ≤ 4294967295) ∧ Aside0 (Arrs w w' [(g1, SV H (.slice A l.length c) m, 28)]))
  case atStart => exact ⟨0, by go_num, by omega, ⟨fun j hj => by omega⟩, HS⟩
  case round =>
    clear HS
    obtain ⟨i, rfl, hi, HA, HS⟩ := hrel
    by_cases cc : i < 8
    · have hc1 : wr.cell? ⟨g1, i, none⟩ = some (.int .i64 (rd H i)) := (blk_cell (HS.out.get 0) i).trans (SV_at _ _ _ _ (by rw [LH.out]; exact cc))
      by_cases c1 : 0 ≤ rd H i ∧ rd H i ≤ 4294967295
      · have HW : Aside0 (spec_l1In.f (rd H i) 0 4294967295 = some true) := ⟨by rw [l1In_eq, decide_eq_true c1]⟩
        have C1 := Aside0.mk c1
        clear c1
        go_wp2_with (first
         | (go_at_call 35; ((with_reducible refine (spec_l1In.calls (rd H i) 0 4294967295 true _ HW.out).mono ?_); rintro e w12 ⟨rfl, hd⟩; obtain ⟨nd, hnd⟩ := hd; have h_ := Aside0.mk (HS.out.drewN nd); rw [← hnd] at h_; clear HS hnd; (try clear hc1); (try clear ca8 ca9); have HS := h_; clear h_)))
        go_roundg (8 - i - 1)
        case measure => omega
        case rel => exact ⟨i + 1, by go_num, by omega, ⟨fun j hj => by rcases Nat.lt_succ_iff_lt_or_eq.1 hj with h | h; exact HA.out j h; subst h; exact C1.out⟩, HS⟩
      · have HW : Aside0 (spec_l1In.f (rd H i) 0 4294967295 = some false) := ⟨by rw [l1In_eq, decide_eq_false c1]⟩
        have C1 := Aside0.mk c1
        clear c1
        go_wp2_with (first
         | (go_at_call 35; ((with_reducible refine (spec_l1In.calls (rd H i) 0 4294967295 false _ HW.out).mono ?_); rintro e w12 ⟨rfl, hd⟩; obtain ⟨nd, hnd⟩ := hd; have h_ := Aside0.mk (HS.out.drewN nd); rw [← hnd] at h_; clear HS hnd; (try clear hc1); (try clear ca8 ca9); have HS := h_; clear h_)))
        go_ret
        exact ⟨by rw [okS_bad H _ _ i (by rw [LH.out]; exact cc) C1.out]; rfl, HS.out.1⟩
    · obtain rfl : i = 8 := by omega
      clear cc hi
      have ca8 : wr.cell? ⟨g1, 8, none⟩ = some (.slice A l.length c) := (blk_cell (HS.out.get 0) 8).trans (SV_rest _ _ _ LH.out)
      have ca9 : wr.cell? ⟨g1, 9, none⟩ = some (.int .i64 m) := (blk_cell (HS.out.get 0) 9).trans (SV_many _ _ _ LH.out)
      by_cases c1 : 0 ≤ m ∧ m ≤ 20000
      · have HW : Aside0 (spec_l1In.f m 0 20000 = some true) := ⟨by rw [l1In_eq, decide_eq_true c1]⟩
        go_wp2_with (first
         | (go_at_call 35; ((with_reducible refine (spec_l1In.calls (m) 0 20000 true _ HW.out).mono ?_); rintro e w12 ⟨rfl, hd⟩; obtain ⟨nd, hnd⟩ := hd; have h_ := Aside0.mk (HS.out.drewN nd); rw [← hnd] at h_; clear HS hnd; (try clear hc1); (try clear ca8 ca9); have HS := h_; clear h_; have ca8 : w12.cell? ⟨g1, 8, none⟩ = some (.slice A l.length c) := (blk_cell (HS.out.get 0) 8).trans (SV_rest _ _ _ LH.out); have ca9 : w12.cell? ⟨g1, 9, none⟩ = some (.int .i64 m) := (blk_cell (HS.out.get 0) 9).trans (SV_many _ _ _ LH.out))))
        go_ret
        exact ⟨by rw [okS_good H _ _ LH.out HA.out c1]; rfl, HS.out.1⟩
      · have HW : Aside0 (spec_l1In.f m 0 20000 = some false) := ⟨by rw [l1In_eq, decide_eq_false c1]⟩
        have C1 := Aside0.mk c1
        clear c1
        go_wp2_with (first
         | (go_at_call 35; ((with_reducible refine (spec_l1In.calls (m) 0 20000 false _ HW.out).mono ?_); rintro e w12 ⟨rfl, hd⟩; obtain ⟨nd, hnd⟩ := hd; have h_ := Aside0.mk (HS.out.drewN nd); rw [← hnd] at h_; clear HS hnd; (try clear hc1); (try clear ca8 ca9); have HS := h_; clear h_; have ca8 : w12.cell? ⟨g1, 8, none⟩ = some (.slice A l.length c) := (blk_cell (HS.out.get 0) 8).trans (SV_rest _ _ _ LH.out); have ca9 : w12.cell? ⟨g1, 9, none⟩ = some (.int .i64 m) := (blk_cell (HS.out.get 0) 9).trans (SV_many _ _ _ LH.out))))
        go_ret
        exact ⟨by rw [okS_far H _ _ C1.out]; rfl, HS.out.1⟩
theorem w64 {n : Int} (h : -9223372036854775808 ≤ n) (h' : n ≤ 9223372036854775807) : wrap64 n = n := by
  unfold wrap64
  omega
theorem allWithin_loop (l : List Int) (a b : Int) (hl : l.length ≤ 1099511627776) : ∀ (d : Nat) (i : Int), 0 ≤ i → (l.length : Int) - i = d →
    Ev (fun k => impl_allWithin.l0 k a b l (l.length : Int) i) ((l.drop i.toNat).all (fun d => decide (a ≤ d ∧ d ≤ b))) := by
  intro d
  induction d with
  | zero =>
    intro i h0 hd
    refine Ev.step (fun k => by rw [impl_allWithin.l0]) ?_
    simp only [if_neg (show ¬ i < (l.length : Int) by omega)]
    rw [List.drop_eq_nil_of_le (by omega)]
    exact Ev.now _
  | succ d ih =>
    intro i h0 hd
    refine Ev.step (fun k => by rw [impl_allWithin.l0]) ?_
    have hi : i.toNat < l.length := by omega
    rw [List.drop_eq_getElem_cons hi, List.all_cons]
    have hr : rd l i = l[i.toNat] := by simp [rd, List.getD_eq_getElem?_getD, List.getElem?_eq_getElem hi]
    simp only [if_pos (show i < (l.length : Int) by omega), if_pos h0, within_eq_, hr, Option.bind_some]
    by_cases h1 : a ≤ l[i.toNat] ∧ l[i.toNat] ≤ b
    · simp only [h1.1, h1.2, and_self, decide_true, if_true, Bool.true_and]
      rw [w64 (by omega) (by omega)]
      have := ih (i + 1) (by omega) (by omega)
      rwa [show (i + 1).toNat = i.toNat + 1 by omega] at this
    · simp only [h1, decide_false, Bool.false_and]
      simpa using Ev.now false

theorem allWithin_eq (l : List Int) (a b : Int) (hl : l.length ≤ 1099511627776) : Ev (fun k => impl_allWithin.f k l a b) (l.all (fun d => decide (a ≤ d ∧ d ≤ b))) := by
  unfold impl_allWithin.f
  have := allWithin_loop l a b hl l.length 0 (by omega) (by omega)
  rwa [Int.toNat_zero, List.drop_zero] at this

theorem stream_C {W : World} {g : Nat} {H : List Int} {v : Value} {m : Int} {t : TypeId} (hH8 : H.length = 8) (hb : W.heap[g]? = some (.cells (SV H v m) t (0, 0))) : Kd.C (Kd.int .i64) W (some ⟨g, 0, none⟩) H.length H := by
  refine ⟨rfl, by omega, fun _ => ⟨_, rfl, fun j p hp => ⟨[.int .i64 p], rfl, rfl, fun i u hu => ?_⟩⟩⟩
  have hj : j < H.length := (List.getElem?_eq_some_iff.1 hp).1
  have e1 : rd H j = p := by simp [rd, List.getD_eq_getElem?_getD, hp]
  cases i with
  | zero =>
    simp only [List.getElem?_cons_zero, Option.some.injEq] at hu
    subst hu
    have e2 : (⟨g, 0, none⟩ : Addr).add (j * (Kd.int .i64).sz + 0) = ⟨g, j, none⟩ := by
      have hsz : (Kd.int .i64).sz = 1 := rfl
      rw [hsz, Nat.mul_one, Nat.add_zero]
      simp [Addr.add]
      intro h
      exact h.symm
    rw [e2, blk_cell hb j, SV_at H v m j hj, e1]
  | succ i => simp at hu
theorem allW {W : World} {g : Nat} {H : List Int} {v : Value} {m : Int} {t : TypeId} (hH8 : H.length = 8) (hb : W.heap[g]? = some (.cells (SV H v m) t (0, 0))) :
    Calls Try.prog 37 #[.slice (some ⟨g, 0, none⟩) 8 8, .int .i64 0, .int .i64 4294967295] W fun e w' => e = .returned (.bool (H.all (fun x => decide (0 ≤ x ∧ x ≤ 4294967295)))) ∧ Drawn0 W w' := by
  obtain ⟨k, hk⟩ := Ev.rounds (allWithin_eq H 0 4294967295 (by omega))
  have h := impl_allWithin.calls k (some ⟨g, 0, none⟩) 8 H 0 4294967295 _ W (stream_C hH8 hb) (by omega) hk
  rw [hH8] at h
  exact h
set_option maxHeartbeats 8000000 in
set_option maxRecDepth 100000 in
theorem implOk (H : List Int) (hH8 : H.length = 8) (A : Option Addr) (c : Nat) (l : List Int) (m : Int) (w : World) :
    Calls Try.prog 12 #[.agg (SV H (.slice A l.length c) m)] w fun e w' => e = .returned (.bool (okS H l.length m)) ∧ Below w.heap.size w w' := by
  have LH := Aside0.mk hH8
  have HS : Aside0 (Arrs w w []) := ⟨Arrs.refl w⟩
  clear hH8
  cases ca : H.all (fun x => decide (0 ≤ x ∧ x ≤ 4294967295)) with
  | false =>
    have CA := Aside0.mk ca
    clear ca
    go_enter Try.func12, Try.ntmps12
    go_wp2_with (first
     | ((with_reducible refine gate_dst (N := 1) rfl ?_); refine box_arrs ?hg1 (N := 1) ?hd1 (SV H (.slice A l.length c) m) 28 HS ?hr1 ?_; (case hd1 => rfl); (case hg1 => rfl); (case hr1 => first | (go_simp; done) | (go_simp; rfl)); intro g1 w1 h_; clear HS; have HS := h_; clear h_; have ca8 : w1.cell? ⟨g1, 8, none⟩ = some (.slice A l.length c) := (blk_cell (HS.out.get 0) 8).trans (SV_rest _ _ _ LH.out); have ca9 : w1.cell? ⟨g1, 9, none⟩ = some (.int .i64 m) := (blk_cell (HS.out.get 0) 9).trans (SV_many _ _ _ LH.out))
     | (go_at_call 37; have hb_ := HS.out.get 0; ((with_reducible refine (allW LH.out hb_).mono ?_); clear hb_; rw [CA.out]; rintro e w5 ⟨rfl, hd⟩; have h_ := Aside0.mk (HS.out.below hd.below); clear HS hd ca8 ca9; have HS := h_; clear h_; have ca8 : w5.cell? ⟨g1, 8, none⟩ = some (.slice A l.length c) := (blk_cell (HS.out.get 0) 8).trans (SV_rest _ _ _ LH.out); have ca9 : w5.cell? ⟨g1, 9, none⟩ = some (.int .i64 m) := (blk_cell (HS.out.get 0) 9).trans (SV_many _ _ _ LH.out))))
    go_ret
    exact ⟨by unfold okS; rw [CA.out]; rfl, HS.out.1⟩
  | true =>
    have CA := Aside0.mk ca
    clear ca
    by_cases c1 : 0 ≤ m ∧ m ≤ 20000
    · have HW : Aside0 (impl_within.f m 0 20000 = some true) := ⟨by rw [within_eq_, decide_eq_true c1]⟩
      go_enter Try.func12, Try.ntmps12
      go_wp2_with (first
       | ((with_reducible refine gate_dst (N := 1) rfl ?_); refine box_arrs ?hg1 (N := 1) ?hd1 (SV H (.slice A l.length c) m) 28 HS ?hr1 ?_; (case hd1 => rfl); (case hg1 => rfl); (case hr1 => first | (go_simp; done) | (go_simp; rfl)); intro g1 w1 h_; clear HS; have HS := h_; clear h_; have ca8 : w1.cell? ⟨g1, 8, none⟩ = some (.slice A l.length c) := (blk_cell (HS.out.get 0) 8).trans (SV_rest _ _ _ LH.out); have ca9 : w1.cell? ⟨g1, 9, none⟩ = some (.int .i64 m) := (blk_cell (HS.out.get 0) 9).trans (SV_many _ _ _ LH.out))
       | (go_at_call 37; have hb_ := HS.out.get 0; ((with_reducible refine (allW LH.out hb_).mono ?_); clear hb_; rw [CA.out]; rintro e w5 ⟨rfl, hd⟩; have h_ := Aside0.mk (HS.out.below hd.below); clear HS hd ca8 ca9; have HS := h_; clear h_; have ca8 : w5.cell? ⟨g1, 8, none⟩ = some (.slice A l.length c) := (blk_cell (HS.out.get 0) 8).trans (SV_rest _ _ _ LH.out); have ca9 : w5.cell? ⟨g1, 9, none⟩ = some (.int .i64 m) := (blk_cell (HS.out.get 0) 9).trans (SV_many _ _ _ LH.out)))
       | (go_at_call 38; ((with_reducible refine (impl_within.calls m 0 20000 true _ HW.out).mono ?_); rintro e w9 ⟨rfl, hd⟩; obtain ⟨nd, hnd⟩ := hd; have h_ := Aside0.mk (HS.out.drewN nd); rw [← hnd] at h_; clear HS hnd ca8 ca9; have HS := h_; clear h_; have ca8 : w9.cell? ⟨g1, 8, none⟩ = some (.slice A l.length c) := (blk_cell (HS.out.get 0) 8).trans (SV_rest _ _ _ LH.out); have ca9 : w9.cell? ⟨g1, 9, none⟩ = some (.int .i64 m) := (blk_cell (HS.out.get 0) 9).trans (SV_many _ _ _ LH.out))))
      go_ret
      exact ⟨by unfold okS; rw [CA.out, decide_eq_true c1]; rfl, HS.out.1⟩
    · have HW : Aside0 (impl_within.f m 0 20000 = some false) := ⟨by rw [within_eq_, decide_eq_false c1]⟩
      have C1 := Aside0.mk c1
      clear c1
      go_enter Try.func12, Try.ntmps12
      go_wp2_with (first
       | ((with_reducible refine gate_dst (N := 1) rfl ?_); refine box_arrs ?hg1 (N := 1) ?hd1 (SV H (.slice A l.length c) m) 28 HS ?hr1 ?_; (case hd1 => rfl); (case hg1 => rfl); (case hr1 => first | (go_simp; done) | (go_simp; rfl)); intro g1 w1 h_; clear HS; have HS := h_; clear h_; have ca8 : w1.cell? ⟨g1, 8, none⟩ = some (.slice A l.length c) := (blk_cell (HS.out.get 0) 8).trans (SV_rest _ _ _ LH.out); have ca9 : w1.cell? ⟨g1, 9, none⟩ = some (.int .i64 m) := (blk_cell (HS.out.get 0) 9).trans (SV_many _ _ _ LH.out))
       | (go_at_call 37; have hb_ := HS.out.get 0; ((with_reducible refine (allW LH.out hb_).mono ?_); clear hb_; rw [CA.out]; rintro e w5 ⟨rfl, hd⟩; have h_ := Aside0.mk (HS.out.below hd.below); clear HS hd ca8 ca9; have HS := h_; clear h_; have ca8 : w5.cell? ⟨g1, 8, none⟩ = some (.slice A l.length c) := (blk_cell (HS.out.get 0) 8).trans (SV_rest _ _ _ LH.out); have ca9 : w5.cell? ⟨g1, 9, none⟩ = some (.int .i64 m) := (blk_cell (HS.out.get 0) 9).trans (SV_many _ _ _ LH.out)))
       | (go_at_call 38; ((with_reducible refine (impl_within.calls m 0 20000 false _ HW.out).mono ?_); rintro e w9 ⟨rfl, hd⟩; obtain ⟨nd, hnd⟩ := hd; have h_ := Aside0.mk (HS.out.drewN nd); rw [← hnd] at h_; clear HS hnd ca8 ca9; have HS := h_; clear h_; have ca8 : w9.cell? ⟨g1, 8, none⟩ = some (.slice A l.length c) := (blk_cell (HS.out.get 0) 8).trans (SV_rest _ _ _ LH.out); have ca9 : w9.cell? ⟨g1, 9, none⟩ = some (.int .i64 m) := (blk_cell (HS.out.get 0) 9).trans (SV_many _ _ _ LH.out))))
      go_ret
      exact ⟨by unfold okS; rw [CA.out, decide_eq_false C1.out]; rfl, HS.out.1⟩
set_option maxHeartbeats 8000000 in
set_option maxRecDepth 100000 in
theorem lawBig (H : List Int) (hH8 : H.length = 8) (A : Option Addr) (c : Nat) (l : List Int) (m : Int) (w : World) (h1 : Kd.C (Kd.int .u8) w A l.length l) (hc : l.length ≤ c) (hl : 1048576 < l.length) :
    Calls Try.prog 3 #[.agg (SV H (.slice A l.length c) m)] w fun e w' => e = .returned (.bool true) ∧ Below w.heap.size w w' := by
  have LH := Aside0.mk hH8
  have hsz : laws_szByteS.f l 1048576 = some (-1) := by
    have h2 := h1.2.1
    unfold laws_szByteS.f
    rw [w64 (by omega) (by omega), if_pos (by omega)]
  have HZ : Aside0 (∀ W : World, Below w.heap.size w W → Calls Try.prog 9 #[.agg (SV H (.slice A l.length c) m), .int .i64 1048576] W fun e w' => e = .returned (.int .i64 (-1)) ∧ Below W.heap.size W w') := ⟨fun W hb => szStream H hH8 A c l m 1048576 (-1) W (Kd.C_below h1 hb) hc hsz (by omega)⟩
  have HS : Aside0 (Arrs w w []) := ⟨Arrs.refl w⟩
  clear hH8 h1 hc hsz hl
  go_enter Try.func3, Try.ntmps3
  go_wp2_with (first
   | ((with_reducible refine gate_dst (N := 1) rfl ?_); refine box_arrs ?hg1 (N := 1) ?hd1 (SV H (.slice A l.length c) m) 25 HS ?hr1 ?_; (case hd1 => rfl); (case hg1 => rfl); (case hr1 => first | (go_simp; done) | (go_simp; rfl)); intro g1 w1 h_; clear HS; have HS := h_; clear h_; skip)
   | ((with_reducible refine gate_dst (N := 7) rfl ?_); refine load_arrs rfl (N := 7) rfl 25 (.tmp 1) rfl 0 HS rfl rfl Try.underlying25 rfl (info_S25 _ _ _ LH.out) ?_)
   | (go_at_call 9; have hB_ := HS.out.1; ((with_reducible refine (HZ.out _ hB_).mono ?_); clear hB_; rintro e w9 ⟨rfl, hb⟩; have h_ := Aside0.mk (HS.out.below hb); clear HS hb; have HS := h_; clear h_)))
  go_ret
  exact ⟨rfl, HS.out.1⟩
/-- What the operations of the law's last comparison have given. -/
def lawFact (H l : List Int) (m : Int) (A A16 : Option Addr) (c c16 : Nat) : Nat → Value → World → Prop
  | 0, v, _ => v = .agg (SV H (.slice A16 l.length c16) m)
  | 1, v, _ => v = .agg (SV H (.slice A l.length c) m)
  | 2, v, W => ∃ A2 c2, v = .agg (SV H (.slice A2 l.length c2) m) ∧ Kd.C (Kd.int .u8) W A2 l.length l ∧ l.length ≤ c2
  | 3, v, _ => v = .bool true
  | _, _, _ => True
theorem lawFact_grow {H l : List Int} {m : Int} {A A16 : Option Addr} {c c16 : Nat} {W W' : World} (hb : Below W.heap.size W W') (j : Nat) (v : Value) (hh : lawFact H l m A A16 c c16 j v W) : lawFact H l m A A16 c c16 j v W' := by
  match j, hh with
  | 0, h | 1, h | 3, h => exact h
  | 2, ⟨A2, c2, h1, h2, h3⟩ => exact ⟨A2, c2, h1, Kd.C_below h2 hb, h3⟩
  | _ + 4, _ => exact trivial
set_option maxHeartbeats 8000000 in
set_option maxRecDepth 100000 in
theorem lawSmall (k : Nat) (H : List Int) (hH8 : H.length = 8) (A : Option Addr) (c : Nat) (l : List Int) (m : Int) (w : World) (h1 : Kd.C (Kd.int .u8) w A l.length l) (hc : l.length ≤ c) (hl : l.length ≤ 1048576) (ht : laws_toByteS.f k l = some l) (he : laws_eqByteS.f k l l = some true) :
    Calls Try.prog 3 #[.agg (SV H (.slice A l.length c) m)] w fun e w' => e = .returned (.bool true) ∧ Below w.heap.size w w' := by
  have LH := Aside0.mk hH8
  have L0 : Aside0 (z8.length = 8) := ⟨rfl⟩
  have hsz : laws_szByteS.f l 1048576 = some (1048576 - (l.length : Int)) := by
    unfold laws_szByteS.f
    rw [w64 (by omega) (by omega), if_neg (by omega)]
  obtain ⟨r, hr⟩ : ∃ r : Int, r = 1048576 - (l.length : Int) := ⟨_, rfl⟩
  have hr0 : 0 ≤ r := by omega
  rw [← hr] at hsz
  have HZ : Aside0 (∀ W : World, Below w.heap.size w W → Calls Try.prog 9 #[.agg (SV H (.slice A l.length c) m), .int .i64 1048576] W fun e w' => e = .returned (.int .i64 r) ∧ Below W.heap.size W w') := ⟨fun W hb => szStream H hH8 A c l m 1048576 r W (Kd.C_below h1 hb) hc hsz (by omega)⟩
  have HT : Aside0 (∀ W : World, Below w.heap.size w W → Calls Try.prog 11 #[.agg (SV H (.slice A l.length c) m)] W fun e w' => ∃ A' c', e = .returned (.agg (SV H (.slice A' l.length c') m)) ∧ Kd.R (Kd.int .u8) 5 w' W.heap.size (fun _ => True) (.slice A' l.length c') l ∧ Below W.heap.size W w') := ⟨fun W hb => toStream k H hH8 A c l m W (Kd.C_below h1 hb) hc ht⟩
  have HE := Aside0.mk he
  obtain ⟨b, hb0⟩ : ∃ b, b = okS H l.length m := ⟨_, rfl⟩
  have HP : Aside0 (∀ (A' : Option Addr) (c' : Nat) (W : World), Calls Try.prog 10 #[.agg (SV H (.slice A' l.length c') m)] W fun e w' => e = .returned (.bool b) ∧ Below W.heap.size W w') := ⟨fun A' c' W => by rw [hb0]; exact specOk H hH8 A' c' l m W⟩
  have HI : Aside0 (∀ (A' : Option Addr) (c' : Nat) (W : World), Calls Try.prog 12 #[.agg (SV H (.slice A' l.length c') m)] W fun e w' => e = .returned (.bool b) ∧ Below W.heap.size W w') := ⟨fun A' c' W => by rw [hb0]; exact implOk H hH8 A' c' l m W⟩
  have HS : Aside0 (Arrs w w []) := ⟨Arrs.refl w⟩
  clear hH8 h1 hc hsz hl ht he hr hb0
  go_enter Try.func3, Try.ntmps3
  go_upto_region 6 with (first
   | ((with_reducible refine gate_dst (N := 1) rfl ?_); refine box_arrs ?hg1 (N := 1) ?hd1 (SV H (.slice A l.length c) m) 25 HS ?hr1 ?_; (case hd1 => rfl); (case hg1 => rfl); (case hr1 => first | (go_simp; done) | (go_simp; rfl)); intro g1 w1 h_; clear HS; have HS := h_; clear h_; skip)
   | ((with_reducible refine gate_dst (N := 7) rfl ?_); refine load_arrs rfl (N := 7) rfl 25 (.tmp 1) rfl 0 HS rfl rfl Try.underlying25 rfl (info_S25 _ _ _ LH.out) ?_)
   | (go_at_call 9; have hB_ := HS.out.1; ((with_reducible refine (HZ.out _ hB_).mono ?_); clear hB_; rintro e w9 ⟨rfl, hb⟩; have h_ := Aside0.mk (HS.out.below hb); clear HS; have HS := h_; clear h_; clear hb))
   | ((with_reducible refine gate_dst (N := 12) rfl ?_); refine load_arrs rfl (N := 12) rfl 25 (.tmp 1) rfl 0 HS rfl rfl Try.underlying25 rfl (info_S25 _ _ _ LH.out) ?_)
   | (go_at_call 11; have hB_ := HS.out.1; ((with_reducible refine (HT.out _ hB_).mono ?_); clear hB_; rintro e w13 ⟨A13, c13, rfl, ho, hb⟩; clear ho; have h_ := Aside0.mk (HS.out.below hb); clear HS; have HS := h_; clear h_; clear hb))
   | (go_at_call 10; ((with_reducible refine (HP.out A13 c13 _).mono ?_); rintro e w14 ⟨rfl, hb⟩; have h_ := Aside0.mk (HS.out.below hb); clear HS; have HS := h_; clear h_; clear hb)))
  go_upto_region 10 with (first
   | ((with_reducible refine gate_dst (N := 15) rfl ?_); refine load_arrs rfl (N := 15) rfl 25 (.tmp 1) rfl 0 HS rfl rfl Try.underlying25 rfl (info_S25 _ _ _ LH.out) ?_)
   | (go_at_call 11; have hB_ := HS.out.1; ((with_reducible refine (HT.out _ hB_).mono ?_); clear hB_; rintro e w16 ⟨A16, c16, rfl, ho, hb⟩; have HC16 := Aside0.mk (Kd.R_reads' ho).2.1; have HR := Aside0.mk (RdB.of_R ho); clear ho; have h_ := Aside0.mk (HS.out.below hb); clear HS; have HS := h_; clear h_; clear hb))
   | ((with_reducible refine gate_dst (N := 5) rfl ?_); refine box_arrs2 ?hg5 (N := 5) ?hd5 (SV z8 (.slice none 0 0) 0) 28 HS ?hr5 ?_; (case hd5 => rfl); (case hg5 => rfl); (case hr5 => first | (go_simp; done) | (go_simp; rfl)); intro g5 w5 h_ k_; have r_ := Aside0.mk (HR.out.below k_); clear HS HR k_; have HS := h_; have HR := r_; clear h_ r_)
   | ((with_reducible refine gate_store (t := 28) (p := 5) rfl ?_); refine store_arrs2 rfl 28 (.tmp 16) rfl rfl 0 (SV H (.slice A16 l.length c16) m) HS rfl rfl rfl (info_S _ _ _ LH.out) (by rw [SV_size _ _ _ LH.out]; rfl) (SV_one _ _ _ rfl) (by decide) ?_; intro w5 h_ k_; have r_ := Aside0.mk (k_ _ _ HR.out); clear HS HR k_; have HS := h_; have HR := r_; clear h_ r_)
   | ((with_reducible refine gate_dst (N := 17) rfl ?_); refine load_arrs rfl (N := 17) rfl 28 (.tmp 5) rfl 0 HS rfl rfl Try.underlying28 rfl (info_S _ _ _ LH.out) ?_)
   | (go_at_call 12; ((with_reducible refine (HI.out A16 c16 _).mono ?_); rintro e w18 ⟨rfl, hb⟩; have h_ := Aside0.mk (HS.out.below hb); clear HS; have HS := h_; clear h_; have r_ := Aside0.mk (HR.out.below hb); clear HR hb; have HR := r_; clear r_)))
  go_wp2
  refine wp_region_stable 4 (by kernel_rfl) (by kernel_rfl) (fun listed a W => ∃ V : Nat → Value, a = (⟨#[.agg (SV H (.slice A l.length c) m), .pointer (some ⟨g1, 0, none⟩), .bool false, .int .i64 r, .bool b, .pointer (some ⟨g5, 0, none⟩), .bool b, .agg (SV H (.slice A l.length c) m), .int .i64 1048576, .int .i64 r, .int .i64 r, .bool (decide (r < 0)), .agg (SV H (.slice A l.length c) m), .agg (SV H (.slice A13 l.length c13) m), .bool b, .agg (SV H (.slice A l.length c) m), .agg (SV H (.slice A16 l.length c16) m), .agg (SV H (.slice A16 l.length c16) m), .bool b, .bool b, .bool b, .bool false, V 0, V 1, V 2, V 3, undef], []⟩ : Act) ∧ StI (lawFact H l m A A16 c c16) 4 listed V W ∧ Arrs w W [(g5, SV H (.slice A16 l.length c16) m, 28), (g1, SV H (.slice A l.length c) m, 25)] ∧ RdB W A16 l) ?h0 ?hstep ?hend
  case h0 => exact ⟨fun j => undef, rfl, (by intro j hj h; rw [getD_replicate_false] at h; cases h), HS.out.drew1, HR.out.below (below_drew1 (Below.refl _ _))⟩
  case hstep =>
    clear HS HR
    rintro listed a W inv ⟨V, rfl, HV, HSW, HRW⟩ i hi hr
    have hgo : ∀ (v : Value) (W' : World), Below W.heap.size W W' → lawFact H l m A A16 c c16 i v W' → StI (lawFact H l m A A16 c c16) 4 (listed.setIfInBounds i true) (fun j => if j = i then v else V j) W' ∧ Arrs w W' [(g5, SV H (.slice A16 l.length c16) m, 28), (g1, SV H (.slice A l.length c) m, 25)] ∧ RdB W' A16 l :=
      fun v W' hb hf => ⟨HV.step (fun j v h => lawFact_grow hb j v h) i v hf, HSW.below hb, HRW.below hb⟩
    match i, hi, hr, hgo with
    | 0, _, hr, hgo => exact op_load rfl rfl 28 (.tmp 5) rfl rfl (HSW.get 0) Try.underlying28 rfl (info_S _ _ _ LH.out) ⟨_, rfl, hgo _ _ (Below.refl _ _) rfl⟩
    | 1, _, hr, hgo => exact op_load rfl rfl 25 (.tmp 1) rfl rfl (HSW.get 1) Try.underlying25 rfl (info_S25 _ _ _ LH.out) ⟨_, rfl, hgo _ _ (Below.refl _ _) rfl⟩
    | 2, _, hr, hgo =>
      have e1 : V 1 = .agg (SV H (.slice A l.length c) m) := HV 1 (by omega) (dep_of hr (by kernel_rfl))
      refine op_call rfl rfl Try.func11 (by kernel_rfl) rfl #[.agg (SV H (.slice A l.length c) m)] rfl (by simp only [List.map_toArray, List.map_cons, List.map_nil]; show (⟨[V 1]⟩ : Array Value) = _; rw [e1]) ((HT.out W HSW.1).mono ?_)
      rintro e W' ⟨A2, c2, rfl, ho, hb⟩
      exact ⟨_, rfl, _, rfl, hgo _ _ hb ⟨A2, c2, rfl, (Kd.R_reads' ho).2.2, (Kd.R_reads' ho).2.1⟩⟩
    | 3, _, hr, hgo =>
      have e0 : V 0 = .agg (SV H (.slice A16 l.length c16) m) := HV 0 (by omega) (dep_of hr (by kernel_rfl))
      obtain ⟨A2, c2, e2, hC, hc2⟩ := HV 2 (by omega) (dep_of hr (by kernel_rfl))
      refine op_call rfl rfl Try.func13 (by kernel_rfl) rfl #[.agg (SV H (.slice A16 l.length c16) m), .agg (SV H (.slice A2 l.length c2) m)] rfl (by simp only [List.map_toArray, List.map_cons, List.map_nil]; show (⟨[V 0, V 2]⟩ : Array Value) = _; rw [e0, e2]) ((eqStream k H LH.out A16 A2 c16 c2 l m W HRW.1 HC16.out hC hc2 HE.out).mono ?_)
      rintro e W' ⟨rfl, hb⟩
      exact ⟨_, rfl, _, rfl, hgo _ _ hb rfl⟩
    | _ + 4, h, _, _ => exact absurd h (by omega)
  case hend =>
    clear HS HR
    rintro listed a W ⟨V, rfl, HV, HSW, HRW⟩ hall
    have e3 : V 3 = .bool true := HV 3 (by omega) (hall 3 (by omega))
    have HB := Aside0.mk HSW.1
    simp only [List.drop_succ_cons, List.drop_zero, e3]
    clear HV hall HSW HRW e3
    go_wp2
    go_ret
    exact ⟨rfl, HB.out⟩
theorem wf64 {n : Int} (h : (Lit.int .i64 n).wf = true) : -9223372036854775808 ≤ n ∧ n ≤ 9223372036854775807 := by
  simpa [Lit.wf, IntKind.min, IntKind.max, IntKind.signed, IntKind.bits] using h

theorem wsucc {i : Nat} (h : i ≤ 1099511627776) : wrap64 ((i : Int) + 1) = ((i + 1 : Nat) : Int) := by
  rw [w64 (by omega) (by omega)]
  omega

theorem wpred {i : Nat} (h : i ≤ 1099511627776) : wrap64 (((i + 1 : Nat) : Int) - 1) = (i : Int) := by
  rw [w64 (by omega) (by omega)]
  omega

theorem toByteS_loop (l : List Int) (hl : l.length ≤ 1099511627776) : ∀ (d : Nat) (x : List Int) (i : Int), 0 ≤ i → (l.length : Int) - i = d → x.length = l.length → (∀ j : Nat, (j : Int) < i → x.getD j 0 = l.getD j 0) →
    Ev (fun k => laws_toByteS.l0 k l x i) l := by
  intro d
  induction d with
  | zero =>
    intro x i h0 hd hx he
    refine Ev.step (fun k => by rw [laws_toByteS.l0]) ?_
    simp only [if_neg (show ¬ i < (l.length : Int) by omega)]
    have : x = l := by
      apply List.ext_getElem hx
      intro j h1 h2
      have := he j (by omega)
      rwa [List.getD_eq_getElem?_getD, List.getD_eq_getElem?_getD, List.getElem?_eq_getElem h1, List.getElem?_eq_getElem h2] at this
    rw [this]
    exact Ev.now _
  | succ d ih =>
    intro x i h0 hd hx he
    refine Ev.step (fun k => by rw [laws_toByteS.l0]) ?_
    simp only [if_pos (show i < (l.length : Int) by omega), if_pos h0, hx]
    rw [w64 (n := i + 1) (by omega) (by omega)]
    refine ih _ (i + 1) (by omega) (by omega) (by simpa using hx) (fun j hj => ?_)
    unfold rd
    rw [List.getD_eq_getElem?_getD, List.getElem?_set]
    by_cases hji : i.toNat = j
    · subst hji
      rw [if_pos rfl, if_pos (by omega)]
      rfl
    · rw [if_neg hji, ← List.getD_eq_getElem?_getD]
      exact he j (by omega)

theorem toByteS_eq (l : List Int) (hl : l.length ≤ 1099511627776) : Ev (fun k => laws_toByteS.f k l) l := by
  unfold laws_toByteS.f
  simp only [if_pos (show 0 ≤ (l.length : Int) by omega), if_pos (show ((l.length : Int)).toNat ≤ 281474976710656 by omega)]
  exact toByteS_loop l hl l.length _ 0 (by omega) (by omega) (by simp) (fun j hj => by omega)

theorem eqByteS_loop (l : List Int) (hl : l.length ≤ 1099511627776) : ∀ (d : Nat) (i : Int), 0 ≤ i → (l.length : Int) - i = d → Ev (fun k => laws_eqByteS.l0 k l l i) true := by
  intro d
  induction d with
  | zero =>
    intro i h0 hd
    refine Ev.step (fun k => by rw [laws_eqByteS.l0]) ?_
    simp only [if_neg (show ¬ i < (l.length : Int) by omega)]
    exact Ev.now _
  | succ d ih =>
    intro i h0 hd
    refine Ev.step (fun k => by rw [laws_eqByteS.l0]) ?_
    simp only [if_pos (show i < (l.length : Int) by omega), if_pos h0, if_true]
    rw [w64 (n := i + 1) (by omega) (by omega)]
    exact ih (i + 1) (by omega) (by omega)

theorem eqByteS_eq (l : List Int) (hl : l.length ≤ 1099511627776) : Ev (fun k => laws_eqByteS.f k l l) true := by
  unfold laws_eqByteS.f
  simp only [if_true]
  exact eqByteS_loop l hl l.length 0 (by omega) (by omega)

theorem law (H : List Int) (hH8 : H.length = 8) (m : Int) (a0 : Option Addr) (len0 cap0 : Nat) (z0 : List Int) (w : World) (w0 : (a0 = none ∧ len0 = 0 ∧ cap0 = 0 ∧ z0 = []) ∨ ∃ x, a0 = some x ∧ len0 ≤ cap0 ∧ cap0 ≤ maxLen ∧ z0.length = cap0 ∧ (∀ i, i < z0.length → w.cell? (x.add i) = some (.int .u8 (z0.getD i 0))) ∧ ∀ n ∈ z0, (Lit.int .u8 n).wf = true) :
    Calls Try.prog 3 #[.agg (SV H (.slice a0 len0 cap0) m)] w fun e w' => e = .returned (.bool true) ∧ Below w.heap.size w w' := by
  obtain ⟨l0, rfl, hr0, hm0, hw0, hc0⟩ := ReadsInt.ofRowC w0
  have hC := Kd.C_of_reads (d := (0 : Int)) (h1 := fun _ => rfl) hr0
  by_cases hl : 1048576 < l0.length
  · exact lawBig H hH8 a0 cap0 l0 m w hC hc0 hl
  · obtain ⟨K1, h1⟩ := toByteS_eq l0 (by omega)
    obtain ⟨K2, h2⟩ := eqByteS_eq l0 (by omega)
    exact lawSmall (K1 + K2) H hH8 a0 cap0 l0 m w hC hc0 (by omega) (h1 _ (by omega)) (h2 _ (by omega))
end Go.Proofs.Ytiffbeoignoedaa.PFnExactStreamOk
