-- Written for this claim by a program of this session.
import Derived.Test.YtiffbeoignoedaaPFnPiecesx0
import Derived.Test.YtiffbeoignoedaaPFnPiecesx1
import Derived.Test.YtiffbeoignoedaaPFnPiecesx2
import Derived.Test.YtiffbeoignoedaaPFnPiecesx3
import Derived.Test.YtiffbeoignoedaaPFnPiecesx4
import Derived.Test.YtiffbeoignoedaaPFnPiecesx5
import Derived.Laws.ResultCell
import Derived.Outline
namespace Go.Proofs.Ytiffbeoignoedaa.PFnPieces
open Go.RowKit Go.Proofs.YtiffbeoignoedaaW.PrintWords Go.Proofs.YtiffbeoignoedaaW.PrintLast Go.Proofs.YtiffbeoignoedaaW.PrintMore
attribute [local go_sem] max2_int min2_int max_two min_two max_three min_three max_four min_four   -- for this text's walks alone
set_option linter.unusedVariables false
set_option linter.unusedSimpArgs false
theorem results_cell_row_tmp {P : Program} {fn : Func} {p u : Tmp} {ty : TypeId} (h : fn.results = #[.cell p ty, .tmp u]) (tmps : Array Value) (w : World) (g : Nat) (t : TypeId) (cs : Array Value) (fr : Nat × Nat) (d : TypeDesc)
    (hp : tmps.getD p undef = .pointer (some ⟨g, 0, none⟩)) (hg : w.heap[g]? = some (.cells cs t fr))
    (hu : P.underlying ty = some d) (hd : (match d with | .struct _ | .array _ _ => true | _ => false) = true) (hi : (P.info? ty).map (·.size) = some cs.size) :
    (results fn tmps).run P w = .ok (.tuple #[.agg cs, tmps.getD u undef]) w := by
  have hp' : tmps[p]?.getD undef = .pointer (some ⟨g, 0, none⟩) := by simpa using hp
  rw [results_cell_tmp h]
  simp [hp', asAddr, run_loadVar_row w g t ty cs fr d hg hu hd hi, Result.andThen]
set_option maxHeartbeats 8000000 in
set_option maxRecDepth 100000 in
theorem digestGood (H : List Int) (hH8 : H.length = 8) (A : Option Addr) (c : Nat) (l : List Int) (m : Int) (w : World) (h1 : Kd.C (Kd.int .u8) w A l.length l) (hl : l.length ≤ 100000000000) (hm0 : 0 ≤ m) (hm1 : m ≤ 100000000000) (hok : okS H l.length m = true) :
    Calls Try.prog 30 #[.agg (SV H (.slice A l.length c) m)] w fun e w' => ∃ vr : Value, e = .returned vr ∧ Kd.R (Kd.int .u8) 5 w' w.heap.size (fun _ => True) vr (digL H l m) ∧ Below w.heap.size w w' := by
  have LH := Aside0.mk hH8
  have HI : Aside0 (∀ W : World, Calls Try.prog 12 #[.agg (SV H (.slice A l.length c) m)] W fun e w' => e = .returned (.bool true) ∧ Below W.heap.size W w') := ⟨fun W => by rw [← hok]; exact implOk H hH8 A c l m W⟩
  have HD : Aside0 (∀ W : World, Below w.heap.size w W → Calls Try.prog 51 #[.agg (SV H (.slice A l.length c) m)] W fun e w' => ∃ vr : Value, e = .returned vr ∧ Kd.R (Kd.int .u8) 5 w' W.heap.size (fun _ => True) vr (digL H l m) ∧ Below W.heap.size W w') := ⟨fun W hb => digest2 H hH8 A c l m W (Kd.C_below h1 hb) hl hm0 hm1⟩
  have HS : Aside0 (Arrs w w []) := ⟨Arrs.refl w⟩
  clear hH8 h1 hl hm0 hm1 hok
  go_enter Try.func30, Try.ntmps30
  go_wp2_with (first
   | ((with_reducible refine gate_dst (N := 1) rfl ?_); refine box_arrs ?hg1 (N := 1) ?hd1 (SV H (.slice A l.length c) m) 28 HS ?hr1 ?_; (case hd1 => rfl); (case hg1 => rfl); (case hr1 => first | (go_simp; done) | (go_simp; rfl)); intro g1 w1 h_; clear HS; have HS := h_; clear h_; skip)
   | ((with_reducible refine gate_dst (N := 3) rfl ?_); refine load_arrs rfl (N := 3) rfl 28 (.tmp 1) rfl 0 HS rfl rfl Try.underlying28 rfl (info_S _ _ _ LH.out) ?_)
   | ((with_reducible refine gate_dst (N := 6) rfl ?_); refine load_arrs rfl (N := 6) rfl 28 (.tmp 1) rfl 0 HS rfl rfl Try.underlying28 rfl (info_S _ _ _ LH.out) ?_)
   | (go_at_call 12; ((with_reducible refine (HI.out _).mono ?_); rintro e w4 ⟨rfl, hb⟩; have h_ := Aside0.mk (HS.out.below hb); clear HS; have HS := h_; clear h_; clear hb))
   | (go_at_call 51; have hB_ := HS.out.1; ((with_reducible refine (HD.out _ hB_).mono ?_); rintro e w7 ⟨vr, rfl, ho, hb⟩; have HO := Aside0.mk (Kd.R_mono (Kd.R_lower ho (below_size hB_)) (fun _ hk => hk)); clear hB_ ho; have h_ := Aside0.mk (HS.out.below hb); clear HS; have HS := h_; clear h_; clear hb)))
  go_ret
  exact ⟨vr, rfl, HO.out, HS.out.1⟩
set_option maxHeartbeats 8000000 in
set_option maxRecDepth 100000 in
theorem feedGood (H : List Int) (hH8 : H.length = 8) (A A2 : Option Addr) (c c2 : Nat) (l d : List Int) (m : Int) (w : World) (h1 : Kd.C (Kd.int .u8) w A l.length l) (h2 : Kd.C (Kd.int .u8) w A2 d.length d) (hl : l.length + d.length ≤ 1000000000000) (hm0 : 0 ≤ m) (hm1 : m ≤ 20000) (hd : (d.length : Int) ≤ 20000 - m) (hok : okS H l.length m = true) :
    Calls Try.prog 28 #[.agg (SV H (.slice A l.length c) m), .slice A2 d.length c2] w fun e w' => ∃ Av cv, e = .returned (.tuple #[.agg (SV (fedL H l d).1 (.slice Av (fedL H l d).2.length cv) (m + d.length)), .bool true]) ∧ Kd.R (Kd.int .u8) 5 w' w.heap.size (fun _ => True) (.slice Av (fedL H l d).2.length cv) (fedL H l d).2 ∧ Below w.heap.size w w' := by
  have LH := Aside0.mk hH8
  have HI : Aside0 (∀ W : World, Calls Try.prog 12 #[.agg (SV H (.slice A l.length c) m)] W fun e w' => e = .returned (.bool true) ∧ Below W.heap.size W w') := ⟨fun W => by rw [← hok]; exact implOk H hH8 A c l m W⟩
  obtain ⟨F, hF⟩ : ∃ F, F = fedL H l d := ⟨_, rfl⟩
  have LF : Aside0 (F.1.length = 8) := ⟨by rw [hF]; exact fedL_len _ _ _⟩
  have HD : Aside0 (∀ W : World, Below w.heap.size w W → Calls Try.prog 50 #[.agg (SV H (.slice A l.length c) m), .slice A2 d.length c2] W fun e w' => ∃ vr : Value, e = .returned (.agg (SV F.1 vr (m + d.length))) ∧ Kd.R (Kd.int .u8) 5 w' W.heap.size (fun _ => True) vr F.2 ∧ Below W.heap.size W w') := ⟨fun W hb => by rw [hF]; exact fed2 H hH8 A A2 c c2 l d m W (Kd.C_below h1 hb) (Kd.C_below h2 hb) hl hm0 (by omega)⟩
  rw [← hF]
  have HS : Aside0 (Arrs w w []) := ⟨Arrs.refl w⟩
  clear hH8 h1 h2 hl hok hF
  obtain ⟨F1, F2⟩ := F
  have c1 : decide ((d.length : Int) > 20000 - m) = false := decide_eq_false (by omega)
  go_enter Try.func28, Try.ntmps28
  go_wp2_with (first
   | ((with_reducible refine gate_dst (N := 2) rfl ?_); refine box_arrs ?hg2 (N := 2) ?hd2 (SV H (.slice A l.length c) m) 28 HS ?hr2 ?_; (case hd2 => rfl); (case hg2 => rfl); (case hr2 => first | (go_simp; done) | (go_simp; rfl)); intro g2 w2 h_; clear HS; have HS := h_; clear h_; skip)
   | ((with_reducible refine gate_dst (N := 4) rfl ?_); refine box_arrs ?hg4 (N := 4) ?hd4 (SV z8 (.slice none 0 0) 0) 28 HS ?hr4 ?_; (case hd4 => rfl); (case hg4 => rfl); (case hr4 => first | (go_simp; done) | (go_simp; rfl)); intro g4 w4 h_; clear HS; have HS := h_; clear h_; have ca9 : w4.cell? ⟨g2, 9, none⟩ = some (.int .i64 m) := (blk_cell (HS.out.get 1) 9).trans (SV_many _ _ _ LH.out))
   | ((with_reducible refine gate_dst (N := 6) rfl ?_); refine load_arrs rfl (N := 6) rfl 28 (.tmp 2) rfl 1 HS rfl rfl Try.underlying28 rfl (info_S _ _ _ LH.out) ?_)
   | ((with_reducible refine gate_dst (N := 22) rfl ?_); refine load_arrs rfl (N := 22) rfl 28 (.tmp 2) rfl 1 HS rfl rfl Try.underlying28 rfl (info_S _ _ _ LH.out) ?_)
   | (go_at_call 12; ((with_reducible refine (HI.out _).mono ?_); rintro e w7 ⟨rfl, hb⟩; have h_ := Aside0.mk (HS.out.below hb); clear HS; have HS := h_; clear h_; clear hb ca9; have ca9 : w7.cell? ⟨g2, 9, none⟩ = some (.int .i64 m) := (blk_cell (HS.out.get 1) 9).trans (SV_many _ _ _ LH.out)))
   | (go_at_call 50; have hB_ := HS.out.1; ((with_reducible refine (HD.out _ hB_).mono ?_); rintro e w24 ⟨vr, rfl, ho, hb⟩; have h_ := Aside0.mk (HS.out.below hb); have HO := Aside0.mk (R_not (Kd.R_lower ho (below_size hB_)) (h_.out.get 0) (by decide)); clear hB_ ho HS hb ca9; have HS := h_; clear h_; obtain ⟨Av, cv, rfl⟩ := Kd.R_slice HO.out))
   | ((with_reducible refine gate_store (t := 28) (p := 4) rfl ?_); refine wpList_store_row rfl 28 (.tmp 4) (.tmp 24) rfl g4 (SV F1 (.slice Av F2.length cv) (m + d.length)) rfl rfl 28 (SV z8 (.slice none 0 0) 0) (HS.out.get 0) (info_S _ _ _ LF.out) (by rw [SV_size _ _ _ LF.out]; rfl) (SV_one _ _ _ rfl) ?_; have h_ := Aside0.mk (HS.out.row 0 (SV F1 (.slice Av F2.length cv) (m + d.length))); have r_ := Aside0.mk (Kd.R_step HO.out (fun k hk _ => setRow_other _ g4 k (SV F1 (.slice Av F2.length cv) (m + d.length)) hk.2)); generalize World.setRow _ g4 (SV F1 (.slice Av F2.length cv) (m + d.length)) = w25 at h_ r_ ⊢; clear HS HO; have HS := h_; have HO := r_; clear h_ r_))
  exact bodyPost_ret (results_cell_row_tmp rfl _ _ _ 28 _ (0, 0) _ rfl (HS.out.get 0) Try.underlying28 rfl (info_S _ _ _ LF.out)) rfl ⟨Av, cv, rfl, Kd.R_mono HO.out (fun _ _ => trivial), HS.out.1⟩
set_option maxHeartbeats 8000000 in
set_option maxRecDepth 100000 in
theorem feedBad (H : List Int) (hH8 : H.length = 8) (A A2 : Option Addr) (c c2 : Nat) (l d : List Int) (m : Int) (w : World) (h1 : Kd.C (Kd.int .u8) w A l.length l) (hc : l.length ≤ c) (hl : l.length ≤ 1000000) (hm0 : 0 ≤ m) (hm1 : m ≤ 20000) (hd : (d.length : Int) > 20000 - m) (hok : okS H l.length m = true) :
    Calls Try.prog 28 #[.agg (SV H (.slice A l.length c) m), .slice A2 d.length c2] w fun e w' => ∃ Av cv, e = .returned (.tuple #[.agg (SV H (.slice Av l.length cv) m), .bool false]) ∧ Below w.heap.size w w' := by
  have LH := Aside0.mk hH8
  have HI : Aside0 (∀ W : World, Calls Try.prog 12 #[.agg (SV H (.slice A l.length c) m)] W fun e w' => e = .returned (.bool true) ∧ Below W.heap.size W w') := ⟨fun W => by rw [← hok]; exact implOk H hH8 A c l m W⟩
  have HD : Aside0 (∀ W : World, Below w.heap.size w W → Calls Try.prog 49 #[.slice A l.length c] W fun e w' => ∃ v0_ : Value, e = .returned (v0_) ∧ Kd.R (Kd.int .u8) 5 w' W.heap.size (fun _ => True) v0_ l ∧ Below W.heap.size W w') := ⟨fun W hb => slices_Clone_byte.calls A c l l W (Kd.C_below h1 hb) hc (by unfold slices_Clone_byte.f; rw [if_pos (by omega)])⟩
  have HS : Aside0 (Arrs w w []) := ⟨Arrs.refl w⟩
  clear hH8 h1 hc hl hok
  have c1 : decide ((d.length : Int) > 20000 - m) = true := decide_eq_true hd
  clear hd
  go_enter Try.func28, Try.ntmps28
  go_upto_region 3 with (first
   | ((with_reducible refine gate_dst (N := 2) rfl ?_); refine box_arrs ?hg2 (N := 2) ?hd2 (SV H (.slice A l.length c) m) 28 HS ?hr2 ?_; (case hd2 => rfl); (case hg2 => rfl); (case hr2 => first | (go_simp; done) | (go_simp; rfl)); intro g2 w2 h_; clear HS; have HS := h_; clear h_; skip)
   | ((with_reducible refine gate_dst (N := 4) rfl ?_); refine box_arrs ?hg4 (N := 4) ?hd4 (SV z8 (.slice none 0 0) 0) 28 HS ?hr4 ?_; (case hd4 => rfl); (case hg4 => rfl); (case hr4 => first | (go_simp; done) | (go_simp; rfl)); intro g4 w4 h_; clear HS; have HS := h_; clear h_; have ca9 : w4.cell? ⟨g2, 9, none⟩ = some (.int .i64 m) := (blk_cell (HS.out.get 1) 9).trans (SV_many _ _ _ LH.out); have ca8 : w4.cell? ⟨g2, 8, none⟩ = some (.slice A l.length c) := (blk_cell (HS.out.get 1) 8).trans (SV_rest _ _ _ LH.out))
   | ((with_reducible refine gate_dst (N := 6) rfl ?_); refine load_arrs rfl (N := 6) rfl 28 (.tmp 2) rfl 1 HS rfl rfl Try.underlying28 rfl (info_S _ _ _ LH.out) ?_)
   | (go_at_call 12; ((with_reducible refine (HI.out _).mono ?_); rintro e w7 ⟨rfl, hb⟩; have h_ := Aside0.mk (HS.out.below hb); clear HS; have HS := h_; clear h_; clear hb ca9 ca8; have ca9 : w7.cell? ⟨g2, 9, none⟩ = some (.int .i64 m) := (blk_cell (HS.out.get 1) 9).trans (SV_many _ _ _ LH.out); have ca8 : w7.cell? ⟨g2, 8, none⟩ = some (.slice A l.length c) := (blk_cell (HS.out.get 1) 8).trans (SV_rest _ _ _ LH.out)))
   | (go_at_call 49; have hB_ := HS.out.1; ((with_reducible refine (HD.out _ hB_).mono ?_); rintro e w19 ⟨vr, rfl, ho, hb⟩; obtain ⟨Av, cv, rfl⟩ := Kd.R_slice ho; clear hB_ ho; have h_ := Aside0.mk (HS.out.below hb); clear HS; have HS := h_; clear h_; clear hb ca9 ca8; have hc8 : w19.cell? ⟨g2, 8, none⟩ = some (.slice A l.length c) := (blk_cell (HS.out.get 1) 8).trans (SV_rest _ _ _ LH.out); have hf8 := HS.out.free 1 8)))
  have h_ : Aside0 (Arrs w (w19.setCell ⟨g2, 8, none⟩ (.slice Av l.length cv)) [(g4, SV z8 (.slice none 0 0) 0, 28), (g2, SV H (.slice Av l.length cv) m, 28)]) := ⟨HS.out.put8 1 (.slice Av l.length cv) LH.out⟩
  clear HS hc8 hf8
  generalize w19.setCell ⟨g2, 8, none⟩ (.slice Av l.length cv) = w20 at h_ ⊢
  have HS := h_
  clear h_
  go_wp2_with (first
   | ((with_reducible refine gate_dst (N := 21) rfl ?_); refine load_arrs rfl (N := 21) rfl 28 (.tmp 2) rfl 1 HS rfl rfl Try.underlying28 rfl (info_S _ _ _ LH.out) ?_)
   | ((with_reducible refine gate_store (t := 28) (p := 4) rfl ?_); refine store_arrs rfl 28 (.tmp 21) rfl rfl 0 (SV H (.slice Av l.length cv) m) HS rfl rfl rfl (info_S _ _ _ LH.out) (by rw [SV_size _ _ _ LH.out]; rfl) (SV_one _ _ _ rfl) ?_; intro w5 h_; clear HS; have HS := h_; clear h_))
  exact bodyPost_ret (results_cell_row_tmp rfl _ _ _ 28 _ (0, 0) _ rfl (HS.out.get 0) Try.underlying28 rfl (info_S _ _ _ LH.out)) rfl ⟨Av, cv, rfl, HS.out.1⟩
set_option maxHeartbeats 8000000 in
set_option maxRecDepth 100000 in
theorem hmac32 (k : Nat) (A0 A1 : Option Addr) (c0 c1 : Nat) (l0 l1 X Y : List Int) (w : World) (h0 : Kd.C (Kd.int .u8) w A0 l0.length l0) (hc0 : l0.length ≤ c0) (h1 : Kd.C (Kd.int .u8) w A1 l1.length l1) (hl0 : l0.length ≤ 64) (hl1 : l1.length ≤ 10000)
    (hX : impl_crossed.f k (l0 ++ List.replicate (64 - l0.length) 0) 54 = some X) (hXl : X.length = 64) (hY : impl_crossed.f k (l0 ++ List.replicate (64 - l0.length) 0) 92 = some Y) (hYl : Y.length = 64) :
    Calls Try.prog 32 #[.slice A0 l0.length c0, .slice A1 l1.length c1] w fun e w' => ∃ (Av : Option Addr) (cv : Nat), e = .returned (.tuple #[.slice Av 32 cv, .bool true]) ∧ Below w.heap.size w w' := by
  have HA0 := Aside0.mk h0
  have HA1 := Aside0.mk h1
  have HC0 := Aside0.mk hc0
  have XL := Aside0.mk hXl
  have YL := Aside0.mk hYl
  have HCL : Aside0 (slices_Clone_byte.f l0 = some l0) := ⟨by unfold slices_Clone_byte.f; rw [if_pos (by omega)]⟩
  obtain ⟨Z, hZ⟩ : ∃ Z, Z = l0 ++ List.replicate (64 - l0.length) 0 := ⟨_, rfl⟩
  have ZL : Aside0 (Z.length = 64) := ⟨by rw [hZ, List.length_append, List.length_replicate]; omega⟩
  rw [← hZ] at hX hY
  have HX := Aside0.mk hX
  have HY := Aside0.mk hY
  have NZ := Aside0.mk hZ
  obtain ⟨I, hI⟩ : ∃ I, I = X ++ l1 := ⟨_, rfl⟩
  have IL : I.length ≤ 20000 := by rw [hI, List.length_append, hXl]; omega
  have HSI : Aside0 (impl_sha.f I = some (shaL I)) := ⟨by unfold impl_sha.f; rw [if_pos (by omega)]⟩
  obtain ⟨S, hS⟩ : ∃ S, S = shaL I := ⟨_, rfl⟩
  rw [← hS] at HSI
  have SL : Aside0 (S.length = 32) := ⟨by rw [hS, shaL_len32]⟩
  obtain ⟨J, hJ⟩ : ∃ J, J = Y ++ S := ⟨_, rfl⟩
  have HSJ : Aside0 (impl_sha.f J = some (shaL J)) := ⟨by unfold impl_sha.f; rw [if_pos (by rw [hJ, List.length_append, hYl, SL.out]; omega)]⟩
  obtain ⟨V, hV⟩ : ∃ V, V = shaL J := ⟨_, rfl⟩
  rw [← hV] at HSJ
  have VL : Aside0 (V.length = 32) := ⟨by rw [hV, shaL_len32]⟩
  have NI := Aside0.mk hI
  have NJ := Aside0.mk hJ
  have HB := Aside0.mk (Below.refl w.heap.size w)
  clear h0 h1 hc0 hX hY hXl hYl hZ hI IL hS hJ hV
  go_enter Try.func32, Try.ntmps32
  go_wp2_with (first
   | (go_at_call 49; ((with_reducible refine (slices_Clone_byte.calls A0 c0 l0 l0 _ (Kd.C_below HA0.out HB.out) HC0.out HCL.out).mono ?_); rintro e w22 ⟨v22, rfl, ho, hb⟩; have n0_ := Aside0.mk (below_step HB.out hb); have HO := Aside0.mk (Kd.R_mono (Kd.R_lower ho (below_size HB.out)) (fun _ hk => hk)); obtain ⟨A22, c22, rfl⟩ := Kd.R_slice HO.out; clear HB ho hb; have HB := n0_; clear n0_))
   | ((with_reducible refine gate_builtin (b := .append) (xs := #[.tmp 22, .tmp 25]) rfl ?_); at_builtin; refine Kd.R_append_zeros (Kd.int .u8) (w0 := w) w.heap.size rfl (.tmp 22) (.tmp 25) 23 3 5 (.int .u8 0) 1 rfl Try.underlying23 Try.underlying3 info5 rfl (by decide) (by decide) (.slice A22 l0.length c22) l0 0 (64 - (l0.length : Int)) (fun _ => True) rfl rfl ?z1 (fun _ _ => trivial) HO.out ?z3 HB.out (below_size HB.out) ?z2 ?_; (case z1 => exact rfl); (case z3 => omega); (case z2 => omega); intro v26 w26 ho hb hg hat; have n0_ := Aside0.mk hb; have e_ : (64 - (l0.length : Int)).toNat = 64 - l0.length := (by omega); rw [e_, ← NZ.out] at ho; obtain ⟨A26, c26, rfl⟩ := Kd.R_slice ho; have n1_ := Aside0.mk (Kd.R_reads' ho); clear HB HO; have HB := n0_; have HZ := n1_; clear n0_ n1_ ho hb hg hat e_)
   | (go_at_call 54; ((with_reducible refine (impl_crossed.calls k A26 c26 Z 54 X _ HZ.out.2.2 HZ.out.2.1 HX.out).mono ?_); rintro e w28 ⟨v28, rfl, ho, hb⟩; obtain ⟨A28, c28, rfl⟩ := Kd.R_slice ho; have n0_ := Aside0.mk (below_step HB.out hb); have n1_ := Aside0.mk (And.intro HZ.out.2.1 (Kd.C_below HZ.out.2.2 hb)); have HXR := Aside0.mk (Kd.R_reads' ho).2.2; clear HZ; have HZ := n1_; clear n1_; clear HB ho hb; have HB := n0_; clear n0_))
   | ((with_reducible refine gate_dst (N := 30) rfl ?_); refine row_event (N := 30) ?hg30 ?hd30 #[.slice A28 X.length c28, .slice A1 l1.length c1] 23 2 ?hr30 ?_; (case hd30 => rfl); (case hg30 => rfl); (case hr30 => first | (go_simp; done) | (go_simp; rfl)); intro g30 w30 hbk hb; have HG := Aside0.mk hbk; have n0_ := Aside0.mk (below_step HB.out hb); have n1_ := Aside0.mk (Kd.C_below HXR.out hb); have n2_ := Aside0.mk (And.intro HZ.out.1 (Kd.C_below HZ.out.2 hb)); clear HXR HZ HB hbk hb; have HB := n0_; have HXR := n1_; have HZ := n2_; clear n0_ n1_ n2_)
   | (go_at_call 53; first | ((with_reducible refine (slices_Concat g30 A28 A1 c28 c1 X l1 _ HG.out HXR.out (Kd.C_below HA1.out HB.out) (by have := XL.out; omega)).mono ?_); rintro e w31 ⟨v31, rfl, ho, hb⟩; rw [← NI.out] at ho; obtain ⟨A31, c31, rfl⟩ := Kd.R_slice ho; have n0_ := Aside0.mk (below_step HB.out hb); have HY1 := Aside0.mk (Kd.R_reads' ho); have n2_ := Aside0.mk (And.intro HZ.out.1 (Kd.C_below HZ.out.2 hb)); clear HZ HG; have HZ := n2_; clear n2_; clear HB ho hb; have HB := n0_; clear n0_) | ((with_reducible refine (slices_Concat g36 A34 A32 c34 c32 Y S _ HG.out HYR.out HSR.out (by have := YL.out; have := SL.out; omega)).mono ?_); rintro e w37 ⟨v37, rfl, ho, hb⟩; rw [← NJ.out] at ho; obtain ⟨A37, c37, rfl⟩ := Kd.R_slice ho; have n0_ := Aside0.mk (below_step HB.out hb); have HY2 := Aside0.mk (Kd.R_reads' ho); clear HB ho hb; have HB := n0_; clear n0_))
   | (go_at_call 45; first | ((with_reducible refine (impl_sha.calls A31 c31 I S _ HY1.out.2.2 HY1.out.2.1 HSI.out).mono ?_); rintro e w32 ⟨v32, rfl, ho, hb⟩; obtain ⟨A32, c32, rfl⟩ := Kd.R_slice ho; have n0_ := Aside0.mk (below_step HB.out hb); have HSR := Aside0.mk (Kd.R_reads' ho).2.2; have n2_ := Aside0.mk (And.intro HZ.out.1 (Kd.C_below HZ.out.2 hb)); clear HZ HY1; have HZ := n2_; clear n2_; clear HB ho hb; have HB := n0_; clear n0_) | ((with_reducible refine (impl_sha.calls A37 c37 J V _ HY2.out.2.2 HY2.out.2.1 HSJ.out).mono ?_); rintro e w38 ⟨v38, rfl, ho, hb⟩; obtain ⟨A38, c38, rfl⟩ := Kd.R_slice ho; rw [VL.out]; have n0_ := Aside0.mk (below_step HB.out hb); clear HB ho hb; have HB := n0_; clear n0_))
   | (go_at_call 54; ((with_reducible refine (impl_crossed.calls k A26 c26 Z 92 Y _ HZ.out.2 HZ.out.1 HY.out).mono ?_); rintro e w34 ⟨v34, rfl, ho, hb⟩; obtain ⟨A34, c34, rfl⟩ := Kd.R_slice ho; have n0_ := Aside0.mk (below_step HB.out hb); have n1_ := Aside0.mk (Kd.C_below HSR.out hb); have HYR := Aside0.mk (Kd.R_reads' ho).2.2; clear HSR; have HSR := n1_; clear n1_; clear HB ho hb; have HB := n0_; clear n0_))
   | ((with_reducible refine gate_dst (N := 36) rfl ?_); refine row_event (N := 36) ?hg36 ?hd36 #[.slice A34 Y.length c34, .slice A32 S.length c32] 23 2 ?hr36 ?_; (case hd36 => rfl); (case hg36 => rfl); (case hr36 => first | (go_simp; done) | (go_simp; rfl)); intro g36 w36 hbk hb; have HG := Aside0.mk hbk; have n0_ := Aside0.mk (below_step HB.out hb); have n1_ := Aside0.mk (Kd.C_below HYR.out hb); have n2_ := Aside0.mk (Kd.C_below HSR.out hb); clear HYR HSR HB hbk hb; have HB := n0_; have HYR := n1_; have HSR := n2_; clear n0_ n1_ n2_))
  go_ret2
  exact ⟨_, _, rfl, HB.out⟩
section
variable {P : Program} {ops : Array Oper}
/-- One operation that only gives a value, and is wanted. -/
theorem op_val_w {Q : Exit → Act → World → Prop} {i : Nat} {o : Oper} {K : Act → World → Prop} {a : Act} {w w' : World} {v : Value} (hi : ops[i]? = some o) (hw : Region.wanted o (yielded ops a.tmps) = true) (hr : (execOp a.eval o).run P w = .ok (.value v) w') (h : K (a.put o.dst v) w') : wpOp P ops Q i K a w := by
  unfold wpOp
  rw [hi]
  show if Region.wanted o (yielded ops a.tmps) = true then _ else _
  rw [if_pos hw]
  refine .inl ?_
  unfold Oper.wp
  rw [hr]
  exact h
/-- A call that is wanted. -/
theorem op_call_w {Q : Exit → Act → World → Prop} {i : Nat} {o : Oper} {K : Act → World → Prop} {a : Act} {w : World} (hi : ops[i]? = some o) (hw : Region.wanted o (yielded ops a.tmps) = true) {f : FuncId} {fn : Func} {us : Array Operand} {ts : Array TypeId}
    (hf : P.funcs[f]? = some fn) (hname : (fn.name == "runtime.NumGoroutine") = false) (hb : fn.body.isSome = true) (args : Array Value)
    (hop : o.op = .call { callee := .value (.func f), args := us, argTypes := ts }) (hargs : us.map a.eval = args)
    (h : Calls P f args w fun e w' => ∃ v, e = .returned v ∧ K (a.put o.dst v) w') : wpOp P ops Q i K a w := by
  unfold wpOp
  rw [hi]
  show if Region.wanted o (yielded ops a.tmps) = true then _ else _
  rw [if_pos hw]
  refine .inl ?_
  have he := enters_ hf hname hb args w
  have hrun : (execOp a.eval o).run P w = .ok (.enter f args) w := by
    unfold execOp
    simp [hop, resolve, Act.eval, Deferred.ofValue, invoke, hargs, he]
  unfold Oper.wp
  rw [hrun, Oper.upon_enter]
  refine h.mono fun e w'' hh => ?_
  obtain ⟨v, rfl, hk⟩ := hh
  exact hk
end
end Go.Proofs.Ytiffbeoignoedaa.PFnPieces
