-- Written for this claim by a program of this session.
import Derived.Test.YtiffbeoignoedaaPFnPiecesx0
import Derived.Test.YtiffbeoignoedaaPFnPiecesx1
import Derived.Test.YtiffbeoignoedaaPFnPiecesx2
import Derived.Test.YtiffbeoignoedaaPFnPiecesx3
import Derived.Test.YtiffbeoignoedaaPFnPiecesx4
namespace Go.Proofs.Ytiffbeoignoedaa.PFnPieces
open Go.RowKit Go.Proofs.YtiffbeoignoedaaW.PrintWords Go.Proofs.YtiffbeoignoedaaW.PrintLast Go.Proofs.YtiffbeoignoedaaW.PrintMore
attribute [local go_sem] max2_int min2_int max_two min_two max_three min_three max_four min_four   -- for this text's walks alone
set_option linter.unusedVariables false
set_option linter.unusedSimpArgs false
def keysL : List Int := [1116352408, 1899447441, 3049323471, 3921009573, 961987163, 1508970993, 2453635748, 2870763221, 3624381080, 310598401, 607225278, 1426881987, 1925078388, 2162078206, 2614888103, 3248222580, 3835390401, 4022224774, 264347078, 604807628, 770255983, 1249150122, 1555081692, 1996064986, 2554220882, 2821834349, 2952996808, 3210313671, 3336571891, 3584528711, 113926993, 338241895, 666307205, 773529912, 1294757372, 1396182291, 1695183700, 1986661051, 2177026350, 2456956037, 2730485921, 2820302411, 3259730800, 3345764771, 3516065817, 3600352804, 4094571909, 275423344, 430227734, 506948616, 659060556, 883997877, 958139571, 1322822218, 1537002063, 1747873779, 1955562222, 2024104815, 2227730452, 2361852424, 2428436474, 2756734187, 3204031479, 3329325298]
def startL : List Int := [1779033703, 3144134277, 1013904242, 2773480762, 1359893119, 2600822924, 528734635, 1541459225]
theorem SV_set8 (H : List Int) (h : H.length = 8) (v v' : Value) (m : Int) : (SV H v m).setIfInBounds 8 v' = SV H v' m := by
  match H, h with
  | [h0, h1, h2, h3, h4, h5, h6, h7], _ => rfl
theorem Arrs.put8 {w0 W : World} {xs : List (Nat × Array Value × TypeId)} {g : Nat} {H : List Int} {v : Value} {m : Int} {t : TypeId} (h : Arrs w0 W xs) (i : Nat) (v' : Value) (hH : H.length = 8) (e : xs[i]? = some (g, SV H v m, t) := by rfl) : Arrs w0 (W.setCell ⟨g, 8, none⟩ v') (xs.set i (g, SV H v' m, t)) := by
  have h1 := h.put i 8 v' e
  rw [SV_set8 H hH] at h1
  exact h1
theorem block_len (K H b : List Int) : (block_ K H b).length = 8 := by
  unfold block_
  rw [fill_len]
  rfl
/-- What is fed to the reference: the numbers behind all whole blocks, and what is left. -/
def feedS (K : List Int) : Nat → List Int → List Int → List Int × List Int
  | 0, h, b => (h, b)
  | n + 1, h, b => if 64 ≤ b.length then feedS K n (block_ K h (b.take 64)) (b.drop 64) else (h, b)
theorem feedS_succ (K : List Int) (n : Nat) (h b : List Int) : feedS K (n + 1) h b = if 64 ≤ b.length then feedS K n (block_ K h (b.take 64)) (b.drop 64) else (h, b) := rfl
theorem feedS_len (K : List Int) (n : Nat) (h b : List Int) (hh : h.length = 8) : (feedS K n h b).1.length = 8 := by
  induction n generalizing h b with
  | zero => exact hh
  | succ n ih =>
    rw [feedS_succ]
    split
    · exact ih _ _ (block_len _ _ _)
    · exact hh
theorem feedS_rest (K : List Int) (n : Nat) (h b : List Int) : (feedS K n h b).2.length ≤ b.length := by
  induction n generalizing h b with
  | zero => exact Nat.le_refl _
  | succ n ih =>
    rw [feedS_succ]
    split
    · refine Nat.le_trans (ih _ _) ?_
      rw [List.length_drop]
      omega
    · exact Nat.le_refl _
theorem sqrts_ : [2, 3, 5, 7, 11, 13, 17, 19].map sqrtW = startL := by kernel_rfl
theorem cubes_ : P64.map cubeW = keysL := by kernel_rfl
theorem H0_start : H0 = startL := by kernel_rfl
/-! ### The program's digest is the reference's -/
theorem fill8 (f : Nat → Int) (L : List Int) (h : L.length = 8) : fill f 8 L = [f 0, f 1, f 2, f 3, f 4, f 5, f 6, f 7] := by
  match L, h with
  | [a, b, c, d, e, g, i, j], _ => rfl
def inR (h : List Int) : Prop := h.length = 8 ∧ ∀ x, x ∈ h → 0 ≤ x ∧ x < 4294967296
theorem u32_in (x : Int) (h0 : 0 ≤ x) (h1 : x < 4294967296) : IntKind.u32.wrap x = x := IntWalk.u32_in _ (by omega)
theorem wds_in (h : List Int) (hh : inR h) : wds h = h := by
  obtain ⟨h8, hr⟩ := hh
  match h, h8, hr with
  | [a, b, c, d, e, g, i, j], _, hr =>
    unfold wds
    rw [fill8 _ _ rfl]
    simp only [List.mem_cons, List.not_mem_nil, or_false, forall_eq_or_imp, forall_eq] at hr
    obtain ⟨r0, r1, r2, r3, r4, r5, r6, r7⟩ := hr
    show [IntKind.u32.wrap a, IntKind.u32.wrap b, IntKind.u32.wrap c, IntKind.u32.wrap d, IntKind.u32.wrap e, IntKind.u32.wrap g, IntKind.u32.wrap i, IntKind.u32.wrap j] = _
    rw [u32_in _ r0.1 r0.2, u32_in _ r1.1 r1.2, u32_in _ r2.1 r2.2, u32_in _ r3.1 r3.2, u32_in _ r4.1 r4.2, u32_in _ r5.1 r5.2, u32_in _ r6.1 r6.2, u32_in _ r7.1 r7.2]
theorem w64_in (x : Int) (h0 : 0 ≤ x) (h1 : x < 4294967296) : wrap64 x = x := by unfold wrap64; omega
theorem fedH_in (h : List Int) (hh : inR h) : fedH h = h := by
  obtain ⟨h8, hr⟩ := hh
  match h, h8, hr with
  | [a, b, c, d, e, g, i, j], _, hr =>
    unfold fedH
    rw [fill8 _ _ rfl]
    simp only [List.mem_cons, List.not_mem_nil, or_false, forall_eq_or_imp, forall_eq] at hr
    obtain ⟨r0, r1, r2, r3, r4, r5, r6, r7⟩ := hr
    show [wrap64 a, wrap64 b, wrap64 c, wrap64 d, wrap64 e, wrap64 g, wrap64 i, wrap64 j] = _
    rw [w64_in _ r0.1 r0.2, w64_in _ r1.1 r1.2, w64_in _ r2.1 r2.2, w64_in _ r3.1 r3.2, w64_in _ r4.1 r4.2, w64_in _ r5.1 r5.2, w64_in _ r6.1 r6.2, w64_in _ r7.1 r7.2]
theorem block_in (K H b : List Int) : inR (block_ K H b) := by
  unfold block_
  rw [fill8 _ _ rfl]
  refine ⟨rfl, fun x hx => ?_⟩
  simp only [List.mem_cons, List.not_mem_nil, or_false] at hx
  rcases hx with rfl | rfl | rfl | rfl | rfl | rfl | rfl | rfl <;> omega
theorem iter_congr {α : Type} (F G : Nat → α → α) (n : Nat) (x : α) (h : ∀ i, i < n → ∀ y, F i y = G i y) : iter F n x = iter G n x := by
  induction n with
  | zero => rfl
  | succ n ih =>
    show F n (iter F n x) = G n (iter G n x)
    rw [ih (fun i hi y => h i (by omega) y), h n (by omega)]
theorem iter_add {α : Type} (F : Nat → α → α) (a n : Nat) (x : α) : iter F (a + n) x = iter (fun i => F (a + i)) n (iter F a x) := by
  induction n with
  | zero => rfl
  | succ n ih =>
    show F (a + n) (iter F (a + n) x) = F (a + n) _
    rw [ih]
theorem scheds_mores (b : List Int) : scheds b 64 z64 = mores 48 (fill (wrd b) 16 z64) := by
  show iter (sched b) (16 + 48) z64 = _
  rw [iter_add]
  unfold mores
  have e1 : iter (sched b) 16 z64 = fill (wrd b) 16 z64 := iter_congr _ _ _ _ (fun i hi y => if_pos hi)
  rw [e1]
  exact iter_congr _ _ _ _ (fun i hi y => if_neg (by omega))
theorem rd_take (b : List Int) (n : Nat) (i : Int) (h0 : 0 ≤ i) (h1 : i < n) : rd (b.take n) i = rd b i := by
  unfold rd
  rw [List.getD_eq_getElem?_getD, List.getD_eq_getElem?_getD, List.getElem?_take, if_pos (by omega)]
theorem wrd_take (b : List Int) (t : Nat) (h : t < 16) : wrd (b.take 64) t = wrd b t := by
  unfold wrd
  rw [rd_take _ _ _ (by omega) (by omega), rd_take _ _ _ (by omega) (by omega), rd_take _ _ _ (by omega) (by omega), rd_take _ _ _ (by omega) (by omega)]
theorem blockW_eq (K H b : List Int) (hh : inR H) : blockW K H b = block_ K H (b.take 64) := by
  unfold blockW block_
  have e1 : fill (wrd (b.take 64)) 16 z64 = fill (wrd b) 16 z64 := iter_congr _ _ _ _ (fun i hi y => by show y.set i _ = y.set i _; rw [wrd_take b i hi])
  rw [fill8 _ _ (rounds_len _ _ _ _ hh.1), fill8 _ _ rfl, e1, scheds_mores, wds_in H hh]
  simp only [Int.add_comm]
theorem feed_eq (K : List Int) (n : Nat) (h b : List Int) (hh : inR h) : feed K n h b = feedS K n h b := by
  induction n generalizing h b with
  | zero => rfl
  | succ n ih =>
    rw [feed_succ, feedS_succ, blockW_eq K h b hh, ih _ _ (block_in _ _ _)]
theorem feedS_in (K : List Int) (n : Nat) (h b : List Int) (hh : inR h) : inR (feedS K n h b).1 := by
  induction n generalizing h b with
  | zero => exact hh
  | succ n ih =>
    rw [feedS_succ]
    split
    · exact ih _ _ (block_in _ _ _)
    · exact hh
theorem feedS_mod (K : List Int) (n : Nat) (h b : List Int) (hn : b.length ≤ n) : (feedS K n h b).2.length = b.length % 64 := by
  induction n generalizing h b with
  | zero =>
    show b.length = _
    omega
  | succ n ih =>
    rw [feedS_succ]
    split
    · rename_i hc
      rw [ih _ _ (by rw [List.length_drop]; omega), List.length_drop]
      omega
    · show b.length = _
      omega
theorem KC_keys : KC = keysL := by
  have h : KC = P64.map cubeW := by
    unfold KC
    have hl : ∀ n, n ≤ 64 → fill (fun i => cubeW (rd P64 i)) n z64 = (P64.map cubeW).take n ++ List.replicate (64 - n) 0 := by
      intro n hn
      induction n with
      | zero => rfl
      | succ n ih =>
        show (fill (fun i => cubeW (rd P64 i)) n z64).set n (cubeW (rd P64 n)) = _
        rw [ih (by omega)]
        have hlen : ((P64.map cubeW).take n).length = n := by
          rw [List.length_take, List.length_map]
          show min n 64 = n
          omega
        rw [List.set_append_right _ _ (by omega), hlen, Nat.sub_self, show 64 - n = (64 - (n + 1)) + 1 by omega, List.replicate_succ, List.set_cons_zero]
        have hlt : n < (P64.map cubeW).length := by rw [List.length_map]; show n < 64; omega
        rw [List.take_succ_eq_append_getElem hlt, List.append_assoc]
        congr 1
        simp only [List.getElem_map, List.singleton_append, List.cons.injEq, and_true]
        unfold rd
        have hlt2 : n < P64.length := by show n < 64; omega
        simp [List.getD_eq_getElem?_getD, List.getElem?_eq_getElem hlt2]
    rw [hl 64 (Nat.le_refl _), List.take_of_length_le (by rw [List.length_map]; exact Nat.le_refl 64)]
    simp
  rw [h, cubes_]
theorem start_in : inR startL := ⟨rfl, by decide⟩
theorem fedL_eq (d : List Int) : fedL H0 [] d = feedS keysL d.length startL d := by
  unfold fedL
  rw [KC_keys, H0_start, wds_in _ start_in, List.nil_append, feed_eq _ _ _ _ start_in, fedH_in _ (feedS_in _ _ _ _ start_in)]
theorem size25 : (Try.prog.info? 25).map (·.size) = some 10 := by kernel_rfl
theorem info_S25 (H : List Int) (v : Value) (m : Int) (h : H.length = 8) : (Try.prog.info? 25).map (·.size) = some (SV H v m).size := by rw [size25, SV_size H v m h]
theorem fill_self (H : List Int) (h : H.length = 8) : fill (fun i => rd H i) 8 z8 = H := by
  match H, h with
  | [h0, h1, h2, h3, h4, h5, h6, h7], _ => rfl
/-- What a stream is held to. -/
def okS (H : List Int) (n : Nat) (m : Int) : Bool := H.all (fun x => decide (0 ≤ x ∧ x ≤ 4294967295)) && (decide (0 ≤ m ∧ m ≤ 20000) && decide ((n : Int) = m % 64))
theorem within_eq_ (n a b : Int) : impl_within.f n a b = some (decide (a ≤ n ∧ n ≤ b)) := by
  unfold impl_within.f
  by_cases h : n ≥ a
  · rw [if_pos h]
    have : a ≤ n := h
    simp [this]
  · rw [if_neg h]
    have : ¬ a ≤ n := h
    simp [this]
theorem w64 {n : Int} (h : -9223372036854775808 ≤ n) (h' : n ≤ 9223372036854775807) : wrap64 n = n := by
  unfold wrap64
  omega
theorem allWithin_loop (l : List Int) (a b : Int) (hl : l.length ≤ 1099511627776) : ∀ (d : Nat) (i : Int), 0 ≤ i → (l.length : Int) - i = d →
    Ev (fun k => impl_allWithin.l0 k a b l (l.length : Int) i) ((l.drop i.toNat).all (fun d => decide (a ≤ d ∧ d ≤ b))) := by
  intro d
  induction d with
  | zero =>
    intro i h0 hd
    refine Ev.step (fun k => by rw [impl_allWithin.l0]) ?_
    simp only [if_neg (show ¬ i < (l.length : Int) by omega)]
    rw [List.drop_eq_nil_of_le (by omega)]
    exact Ev.now _
  | succ d ih =>
    intro i h0 hd
    refine Ev.step (fun k => by rw [impl_allWithin.l0]) ?_
    have hi : i.toNat < l.length := by omega
    rw [List.drop_eq_getElem_cons hi, List.all_cons]
    have hr : rd l i = l[i.toNat] := by simp [rd, List.getD_eq_getElem?_getD, List.getElem?_eq_getElem hi]
    simp only [if_pos (show i < (l.length : Int) by omega), if_pos h0, within_eq_, hr, Option.bind_some]
    by_cases h1 : a ≤ l[i.toNat] ∧ l[i.toNat] ≤ b
    · simp only [h1.1, h1.2, and_self, decide_true, if_true, Bool.true_and]
      rw [w64 (by omega) (by omega)]
      have := ih (i + 1) (by omega) (by omega)
      rwa [show (i + 1).toNat = i.toNat + 1 by omega] at this
    · simp only [h1, decide_false, Bool.false_and]
      simpa using Ev.now false

theorem allWithin_eq (l : List Int) (a b : Int) (hl : l.length ≤ 1099511627776) : Ev (fun k => impl_allWithin.f k l a b) (l.all (fun d => decide (a ≤ d ∧ d ≤ b))) := by
  unfold impl_allWithin.f
  have := allWithin_loop l a b hl l.length 0 (by omega) (by omega)
  rwa [Int.toNat_zero, List.drop_zero] at this

theorem stream_C {W : World} {g : Nat} {H : List Int} {v : Value} {m : Int} {t : TypeId} (hH8 : H.length = 8) (hb : W.heap[g]? = some (.cells (SV H v m) t (0, 0))) : Kd.C (Kd.int .i64) W (some ⟨g, 0, none⟩) H.length H := by
  refine ⟨rfl, by omega, fun _ => ⟨_, rfl, fun j p hp => ⟨[.int .i64 p], rfl, rfl, fun i u hu => ?_⟩⟩⟩
  have hj : j < H.length := (List.getElem?_eq_some_iff.1 hp).1
  have e1 : rd H j = p := by simp [rd, List.getD_eq_getElem?_getD, hp]
  cases i with
  | zero =>
    simp only [List.getElem?_cons_zero, Option.some.injEq] at hu
    subst hu
    have e2 : (⟨g, 0, none⟩ : Addr).add (j * (Kd.int .i64).sz + 0) = ⟨g, j, none⟩ := by
      have hsz : (Kd.int .i64).sz = 1 := rfl
      rw [hsz, Nat.mul_one, Nat.add_zero]
      simp [Addr.add]
      intro h
      exact h.symm
    rw [e2, blk_cell hb j, SV_at H v m j hj, e1]
  | succ i => simp at hu
theorem allW {W : World} {g : Nat} {H : List Int} {v : Value} {m : Int} {t : TypeId} (hH8 : H.length = 8) (hb : W.heap[g]? = some (.cells (SV H v m) t (0, 0))) :
    Calls Try.prog 37 #[.slice (some ⟨g, 0, none⟩) 8 8, .int .i64 0, .int .i64 4294967295] W fun e w' => e = .returned (.bool (H.all (fun x => decide (0 ≤ x ∧ x ≤ 4294967295)))) ∧ Drawn0 W w' := by
  obtain ⟨k, hk⟩ := Ev.rounds (allWithin_eq H 0 4294967295 (by omega))
  have h := impl_allWithin.calls k (some ⟨g, 0, none⟩) 8 H 0 4294967295 _ W (stream_C hH8 hb) (by omega) hk
  rw [hH8] at h
  exact h
set_option maxHeartbeats 8000000 in
set_option maxRecDepth 100000 in
theorem implOk (H : List Int) (hH8 : H.length = 8) (A : Option Addr) (c : Nat) (l : List Int) (m : Int) (w : World) :
    Calls Try.prog 12 #[.agg (SV H (.slice A l.length c) m)] w fun e w' => e = .returned (.bool (okS H l.length m)) ∧ Below w.heap.size w w' := by
  have LH := Aside0.mk hH8
  have HS : Aside0 (Arrs w w []) := ⟨Arrs.refl w⟩
  clear hH8
  cases ca : H.all (fun x => decide (0 ≤ x ∧ x ≤ 4294967295)) with
  | false =>
    have CA := Aside0.mk ca
    clear ca
    go_enter Try.func12, Try.ntmps12
    go_wp2_with (first
     | ((with_reducible refine gate_dst (N := 1) rfl ?_); refine box_arrs ?hg1 (N := 1) ?hd1 (SV H (.slice A l.length c) m) 28 HS ?hr1 ?_; (case hd1 => rfl); (case hg1 => rfl); (case hr1 => first | (go_simp; done) | (go_simp; rfl)); intro g1 w1 h_; clear HS; have HS := h_; clear h_; have ca8 : w1.cell? ⟨g1, 8, none⟩ = some (.slice A l.length c) := (blk_cell (HS.out.get 0) 8).trans (SV_rest _ _ _ LH.out); have ca9 : w1.cell? ⟨g1, 9, none⟩ = some (.int .i64 m) := (blk_cell (HS.out.get 0) 9).trans (SV_many _ _ _ LH.out))
     | (go_at_call 37; have hb_ := HS.out.get 0; ((with_reducible refine (allW LH.out hb_).mono ?_); clear hb_; rw [CA.out]; rintro e w5 ⟨rfl, hd⟩; have h_ := Aside0.mk (HS.out.below hd.below); clear HS hd ca8 ca9; have HS := h_; clear h_; have ca8 : w5.cell? ⟨g1, 8, none⟩ = some (.slice A l.length c) := (blk_cell (HS.out.get 0) 8).trans (SV_rest _ _ _ LH.out); have ca9 : w5.cell? ⟨g1, 9, none⟩ = some (.int .i64 m) := (blk_cell (HS.out.get 0) 9).trans (SV_many _ _ _ LH.out))))
    go_ret
    exact ⟨by unfold okS; rw [CA.out]; rfl, HS.out.1⟩
  | true =>
    have CA := Aside0.mk ca
    clear ca
    by_cases c1 : 0 ≤ m ∧ m ≤ 20000
    · have HW : Aside0 (impl_within.f m 0 20000 = some true) := ⟨by rw [within_eq_, decide_eq_true c1]⟩
      go_enter Try.func12, Try.ntmps12
      go_wp2_with (first
       | ((with_reducible refine gate_dst (N := 1) rfl ?_); refine box_arrs ?hg1 (N := 1) ?hd1 (SV H (.slice A l.length c) m) 28 HS ?hr1 ?_; (case hd1 => rfl); (case hg1 => rfl); (case hr1 => first | (go_simp; done) | (go_simp; rfl)); intro g1 w1 h_; clear HS; have HS := h_; clear h_; have ca8 : w1.cell? ⟨g1, 8, none⟩ = some (.slice A l.length c) := (blk_cell (HS.out.get 0) 8).trans (SV_rest _ _ _ LH.out); have ca9 : w1.cell? ⟨g1, 9, none⟩ = some (.int .i64 m) := (blk_cell (HS.out.get 0) 9).trans (SV_many _ _ _ LH.out))
       | (go_at_call 37; have hb_ := HS.out.get 0; ((with_reducible refine (allW LH.out hb_).mono ?_); clear hb_; rw [CA.out]; rintro e w5 ⟨rfl, hd⟩; have h_ := Aside0.mk (HS.out.below hd.below); clear HS hd ca8 ca9; have HS := h_; clear h_; have ca8 : w5.cell? ⟨g1, 8, none⟩ = some (.slice A l.length c) := (blk_cell (HS.out.get 0) 8).trans (SV_rest _ _ _ LH.out); have ca9 : w5.cell? ⟨g1, 9, none⟩ = some (.int .i64 m) := (blk_cell (HS.out.get 0) 9).trans (SV_many _ _ _ LH.out)))
       | (go_at_call 38; ((with_reducible refine (impl_within.calls m 0 20000 true _ HW.out).mono ?_); rintro e w9 ⟨rfl, hd⟩; obtain ⟨nd, hnd⟩ := hd; have h_ := Aside0.mk (HS.out.drewN nd); rw [← hnd] at h_; clear HS hnd ca8 ca9; have HS := h_; clear h_; have ca8 : w9.cell? ⟨g1, 8, none⟩ = some (.slice A l.length c) := (blk_cell (HS.out.get 0) 8).trans (SV_rest _ _ _ LH.out); have ca9 : w9.cell? ⟨g1, 9, none⟩ = some (.int .i64 m) := (blk_cell (HS.out.get 0) 9).trans (SV_many _ _ _ LH.out))))
      go_ret
      exact ⟨by unfold okS; rw [CA.out, decide_eq_true c1]; rfl, HS.out.1⟩
    · have HW : Aside0 (impl_within.f m 0 20000 = some false) := ⟨by rw [within_eq_, decide_eq_false c1]⟩
      have C1 := Aside0.mk c1
      clear c1
      go_enter Try.func12, Try.ntmps12
      go_wp2_with (first
       | ((with_reducible refine gate_dst (N := 1) rfl ?_); refine box_arrs ?hg1 (N := 1) ?hd1 (SV H (.slice A l.length c) m) 28 HS ?hr1 ?_; (case hd1 => rfl); (case hg1 => rfl); (case hr1 => first | (go_simp; done) | (go_simp; rfl)); intro g1 w1 h_; clear HS; have HS := h_; clear h_; have ca8 : w1.cell? ⟨g1, 8, none⟩ = some (.slice A l.length c) := (blk_cell (HS.out.get 0) 8).trans (SV_rest _ _ _ LH.out); have ca9 : w1.cell? ⟨g1, 9, none⟩ = some (.int .i64 m) := (blk_cell (HS.out.get 0) 9).trans (SV_many _ _ _ LH.out))
       | (go_at_call 37; have hb_ := HS.out.get 0; ((with_reducible refine (allW LH.out hb_).mono ?_); clear hb_; rw [CA.out]; rintro e w5 ⟨rfl, hd⟩; have h_ := Aside0.mk (HS.out.below hd.below); clear HS hd ca8 ca9; have HS := h_; clear h_; have ca8 : w5.cell? ⟨g1, 8, none⟩ = some (.slice A l.length c) := (blk_cell (HS.out.get 0) 8).trans (SV_rest _ _ _ LH.out); have ca9 : w5.cell? ⟨g1, 9, none⟩ = some (.int .i64 m) := (blk_cell (HS.out.get 0) 9).trans (SV_many _ _ _ LH.out)))
       | (go_at_call 38; ((with_reducible refine (impl_within.calls m 0 20000 false _ HW.out).mono ?_); rintro e w9 ⟨rfl, hd⟩; obtain ⟨nd, hnd⟩ := hd; have h_ := Aside0.mk (HS.out.drewN nd); rw [← hnd] at h_; clear HS hnd ca8 ca9; have HS := h_; clear h_; have ca8 : w9.cell? ⟨g1, 8, none⟩ = some (.slice A l.length c) := (blk_cell (HS.out.get 0) 8).trans (SV_rest _ _ _ LH.out); have ca9 : w9.cell? ⟨g1, 9, none⟩ = some (.int .i64 m) := (blk_cell (HS.out.get 0) 9).trans (SV_many _ _ _ LH.out))))
      go_ret
      exact ⟨by unfold okS; rw [CA.out, decide_eq_false C1.out]; rfl, HS.out.1⟩
theorem feedS_fuel (K : List Int) : ∀ (n m : Nat) (h b : List Int), b.length ≤ n → b.length ≤ m → feedS K n h b = feedS K m h b := by
  intro n
  induction n with
  | zero =>
    intro m h b hn hm
    cases m with
    | zero => rfl
    | succ m =>
      rw [feedS_succ, if_neg (by omega)]
      rfl
  | succ n ih =>
    intro m h b hn hm
    cases m with
    | zero =>
      rw [feedS_succ, if_neg (by omega)]
      rfl
    | succ m =>
      rw [feedS_succ, feedS_succ]
      by_cases c : 64 ≤ b.length
      · rw [if_pos c, if_pos c]
        exact ih m _ _ (by rw [List.length_drop]; omega) (by rw [List.length_drop]; omega)
      · rw [if_neg c, if_neg c]
theorem feedS_more (K : List Int) : ∀ (n : Nat) (h b d : List Int) (N : Nat), b.length ≤ n → (b ++ d).length ≤ N → feedS K N h (b ++ d) = feedS K N (feedS K n h b).1 ((feedS K n h b).2 ++ d) := by
  intro n
  induction n with
  | zero => intro h b d N hn hN; rfl
  | succ n ih =>
    intro h b d N hn hN
    by_cases c : 64 ≤ b.length
    · have e1 : feedS K (n + 1) h b = feedS K n (block_ K h (b.take 64)) (b.drop 64) := by rw [feedS_succ, if_pos c]
      obtain ⟨N, rfl⟩ : ∃ M, N = M + 1 := ⟨N - 1, by rw [List.length_append] at hN; omega⟩
      have e2 : feedS K (N + 1) h (b ++ d) = feedS K N (block_ K h (b.take 64)) (b.drop 64 ++ d) := by
        rw [feedS_succ, if_pos (by rw [List.length_append]; omega), List.take_append_of_le_length c, List.drop_append_of_le_length c]
      have hl : (b.drop 64 ++ d).length ≤ N := by rw [List.length_append, List.length_drop]; rw [List.length_append] at hN; omega
      rw [e1, e2, ih _ (b.drop 64) d N (by rw [List.length_drop]; omega) hl]
      have h3 := feedS_rest K n (block_ K h (b.take 64)) (b.drop 64)
      have hl2 : ((feedS K n (block_ K h (b.take 64)) (b.drop 64)).2 ++ d).length ≤ N := by
        rw [List.length_append] at hl ⊢
        omega
      exact feedS_fuel K _ _ _ _ hl2 (by omega)
    · rw [show feedS K (n + 1) h b = (h, b) by rw [feedS_succ, if_neg c]]
theorem fedL_gen (H l d : List Int) (hH : inR H) : fedL H l d = feedS keysL (l ++ d).length H (l ++ d) := by
  unfold fedL
  rw [KC_keys, wds_in _ hH, feed_eq _ _ _ _ hH, fedH_in _ (feedS_in _ _ _ _ hH)]
theorem fed_in (d : List Int) : inR (fedL H0 [] d).1 := by
  rw [fedL_eq]
  exact feedS_in _ _ _ _ start_in
/-- Data that is fed in two pieces. -/
theorem fed_pieces (a b : List Int) : fedL (fedL H0 [] a).1 (fedL H0 [] a).2 b = fedL H0 [] (a ++ b) := by
  rw [fedL_gen _ _ _ (fed_in a), fedL_eq, fedL_eq, feedS_more keysL a.length startL a b (a ++ b).length (Nat.le_refl _) (Nat.le_refl _)]
  have h := feedS_rest keysL a.length startL a
  exact feedS_fuel _ _ _ _ _ (Nat.le_refl _) (by rw [List.length_append, List.length_append]; omega)
theorem fed_mod (d : List Int) : (fedL H0 [] d).2.length = d.length % 64 := by
  rw [fedL_eq]
  exact feedS_mod _ _ _ _ (Nat.le_refl _)
/-- What was fed is a right stream. -/
theorem fed_ok (d : List Int) (hd : d.length ≤ 20000) : okS (fedL H0 [] d).1 (fedL H0 [] d).2.length d.length = true := by
  unfold okS
  have h1 : (fedL H0 [] d).1.all (fun x => decide (0 ≤ x ∧ x ≤ 4294967295)) = true := by
    rw [List.all_eq_true]
    intro x hx
    have := (fed_in d).2 x hx
    rw [decide_eq_true_eq]
    omega
  rw [h1, decide_eq_true (show 0 ≤ (d.length : Int) ∧ (d.length : Int) ≤ 20000 by omega), fed_mod, decide_eq_true (by omega)]
  rfl
end Go.Proofs.Ytiffbeoignoedaa.PFnPieces
