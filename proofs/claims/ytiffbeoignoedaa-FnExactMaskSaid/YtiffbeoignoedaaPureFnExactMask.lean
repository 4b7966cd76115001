/- The law FnExactMask answers true at all bytes and lengths: both make the same mask, and the answer is the call's own. -/
import Derived.Test.YtiffbeoignoedaaPFnExactMaskx5
namespace Go.Proofs.Ytiffbeoignoedaa.Pure
open Go.RowKit Go.Proofs.Ytiffbeoignoedaa.PFnExactMask Go.Proofs.YtiffbeoignoedaaW.PrintWords Go.Proofs.YtiffbeoignoedaaW.PrintLast

set_option linter.unusedVariables false
set_option linter.unusedSimpArgs false

theorem w64 {n : Int} (h : -9223372036854775808 ≤ n) (h' : n ≤ 9223372036854775807) : wrap64 n = n := by
  unfold wrap64
  omega

theorem wf64 {n : Int} (h : (Lit.int .i64 n).wf = true) : -9223372036854775808 ≤ n ∧ n ≤ 9223372036854775807 := by
  simpa [Lit.wf, IntKind.min, IntKind.max, IntKind.signed, IntKind.bits] using h

theorem wsucc {i : Nat} (h : i ≤ 1099511627776) : wrap64 ((i : Int) + 1) = ((i + 1 : Nat) : Int) := by
  rw [w64 (by omega) (by omega)]
  omega

theorem wpred {i : Nat} (h : i ≤ 1099511627776) : wrap64 (((i + 1 : Nat) : Int) - 1) = (i : Int) := by
  rw [w64 (by omega) (by omega)]
  omega

theorem in_eq (n a b : Int) : spec_l1In.f n a b = some (decide (a ≤ n ∧ n ≤ b)) := by
  unfold spec_l1In.f
  by_cases h : n ≥ a
  · rw [if_pos h]
    have : a ≤ n := h
    simp [this]
  · rw [if_neg h]
    have : ¬ a ≤ n := h
    simp [this]

theorem within_eq (n a b : Int) : impl_within.f n a b = some (decide (a ≤ n ∧ n ≤ b)) := by
  unfold impl_within.f
  by_cases h : n ≥ a
  · rw [if_pos h]
    have : a ≤ n := h
    simp [this]
  · rw [if_neg h]
    have : ¬ a ≤ n := h
    simp [this]

theorem toByteS_loop (l : List Int) (hl : l.length ≤ 1099511627776) : ∀ (d : Nat) (x : List Int) (i : Int), 0 ≤ i → (l.length : Int) - i = d → x.length = l.length → (∀ j : Nat, (j : Int) < i → x.getD j 0 = l.getD j 0) →
    Ev (fun k => laws_toByteS.l0 k l x i) l := by
  intro d
  induction d with
  | zero =>
    intro x i h0 hd hx he
    refine Ev.step (fun k => by rw [laws_toByteS.l0]) ?_
    simp only [if_neg (show ¬ i < (l.length : Int) by omega)]
    have : x = l := by
      apply List.ext_getElem hx
      intro j h1 h2
      have := he j (by omega)
      rwa [List.getD_eq_getElem?_getD, List.getD_eq_getElem?_getD, List.getElem?_eq_getElem h1, List.getElem?_eq_getElem h2] at this
    rw [this]
    exact Ev.now _
  | succ d ih =>
    intro x i h0 hd hx he
    refine Ev.step (fun k => by rw [laws_toByteS.l0]) ?_
    simp only [if_pos (show i < (l.length : Int) by omega), if_pos h0, hx]
    rw [w64 (n := i + 1) (by omega) (by omega)]
    refine ih _ (i + 1) (by omega) (by omega) (by simpa using hx) (fun j hj => ?_)
    unfold rd
    rw [List.getD_eq_getElem?_getD, List.getElem?_set]
    by_cases hji : i.toNat = j
    · subst hji
      rw [if_pos rfl, if_pos (by omega)]
      rfl
    · rw [if_neg hji, ← List.getD_eq_getElem?_getD]
      exact he j (by omega)

theorem toByteS_eq (l : List Int) (hl : l.length ≤ 1099511627776) : Ev (fun k => laws_toByteS.f k l) l := by
  unfold laws_toByteS.f
  simp only [if_pos (show 0 ≤ (l.length : Int) by omega), if_pos (show ((l.length : Int)).toNat ≤ 281474976710656 by omega)]
  exact toByteS_loop l hl l.length _ 0 (by omega) (by omega) (by simp) (fun j hj => by omega)

theorem eqByteS_loop (l : List Int) (hl : l.length ≤ 1099511627776) : ∀ (d : Nat) (i : Int), 0 ≤ i → (l.length : Int) - i = d → Ev (fun k => laws_eqByteS.l0 k l l i) true := by
  intro d
  induction d with
  | zero =>
    intro i h0 hd
    refine Ev.step (fun k => by rw [laws_eqByteS.l0]) ?_
    simp only [if_neg (show ¬ i < (l.length : Int) by omega)]
    exact Ev.now _
  | succ d ih =>
    intro i h0 hd
    refine Ev.step (fun k => by rw [laws_eqByteS.l0]) ?_
    simp only [if_pos (show i < (l.length : Int) by omega), if_pos h0, if_true]
    rw [w64 (n := i + 1) (by omega) (by omega)]
    exact ih (i + 1) (by omega) (by omega)

theorem eqByteS_eq (l : List Int) (hl : l.length ≤ 1099511627776) : Ev (fun k => laws_eqByteS.f k l l) true := by
  unfold laws_eqByteS.f
  simp only [if_true]
  exact eqByteS_loop l hl l.length 0 (by omega) (by omega)

theorem markByteS_loop (n : Nat) (m0 : Int) (hm : 1 ≤ m0) (hm' : m0 ≤ 1099511627776) (hl : n ≤ 1099511627776) : ∀ (d : Nat) (x : List Int) (i : Int), 0 ≤ i → (n : Int) - i = d → x.length = n →
    (∀ j : Nat, (j : Int) < i → x.getD j 0 = (m0 + j) % 256) → Ev (fun k => laws_markByteS.l0 k x (m0 + i) i) (m0 + n, (List.range n).map (fun j => (m0 + ((j : Nat) : Int)) % 256)) := by
  intro d
  induction d with
  | zero =>
    intro x i h0 hd hx he
    refine Ev.step (fun k => by rw [laws_markByteS.l0]) ?_
    simp only [hx, if_neg (show ¬ i < (n : Int) by omega)]
    have : x = (List.range n).map (fun j => (m0 + ((j : Nat) : Int)) % 256) := by
      apply List.ext_getElem (by simpa using hx)
      intro j h1 h2
      have := he j (by omega)
      rw [List.getD_eq_getElem?_getD, List.getElem?_eq_getElem h1] at this
      simpa using this
    rw [this, show m0 + i = m0 + (n : Int) by omega]
    exact Ev.now _
  | succ d ih =>
    intro x i h0 hd hx he
    refine Ev.step (fun k => by rw [laws_markByteS.l0]) ?_
    simp only [hx, if_pos (show i < (n : Int) by omega), if_pos h0]
    rw [w64 (n := i + 1) (by omega) (by omega), w64 (n := m0 + i + 1) (by omega) (by omega), show m0 + i + 1 = m0 + (i + 1) by omega]
    refine ih _ (i + 1) (by omega) (by omega) (by simpa using hx) (fun j hj => ?_)
    rw [List.getD_eq_getElem?_getD, List.getElem?_set]
    by_cases hji : i.toNat = j
    · subst hji
      rw [if_pos rfl, if_pos (by omega)]
      simp only [Option.getD_some]
      omega
    · rw [if_neg hji, ← List.getD_eq_getElem?_getD]
      exact he j (by omega)

def markedB (n : Nat) (m0 : Int) : List Int := (List.range n).map (fun j => (m0 + ((j : Nat) : Int)) % 256)

theorem markByteS_eq (l : List Int) {m0 : Int} (hm : 1 ≤ m0) (hm' : m0 ≤ 1099511627776) (hl : l.length ≤ 1099511627776) : Ev (fun k => laws_markByteS.f k l m0) (m0 + l.length, markedB l.length m0) := by
  unfold laws_markByteS.f
  have := markByteS_loop l.length m0 hm hm' hl l.length l 0 (by omega) (by omega) rfl (fun j hj => by omega)
  rwa [Int.add_zero] at this


theorem heldByteS_loop (n : Nat) (m0 : Int) (hm : 1 ≤ m0) (hm' : m0 ≤ 1099511627776) (hl : n ≤ 1099511627776) : ∀ (d : Nat) (i : Int), 0 ≤ i → (n : Int) - i = d →
    Ev (fun k => laws_heldByteS.l0 k (markedB n m0) (m0 + i) i) (m0 + n) := by
  have hlen : (markedB n m0).length = n := by simp [markedB]
  intro d
  induction d with
  | zero =>
    intro i h0 hd
    refine Ev.step (fun k => by rw [laws_heldByteS.l0]) ?_
    simp only [hlen, if_neg (show ¬ i < (n : Int) by omega)]
    rw [show m0 + i = m0 + (n : Int) by omega]
    exact Ev.now _
  | succ d ih =>
    intro i h0 hd
    refine Ev.step (fun k => by rw [laws_heldByteS.l0]) ?_
    have hr : rd (markedB n m0) i = (m0 + i) % 256 := by
      unfold rd markedB
      rw [List.getD_eq_getElem?_getD, List.getElem?_map, List.getElem?_range (by omega)]
      simp only [Option.map_some, Option.getD_some]
      omega
    simp only [hlen, if_pos (show i < (n : Int) by omega), if_pos h0, hr, if_true]
    rw [w64 (n := i + 1) (by omega) (by omega), w64 (n := m0 + i + 1) (by omega) (by omega), show m0 + i + 1 = m0 + (i + 1) by omega]
    exact ih (i + 1) (by omega) (by omega)

theorem heldByteS_eq (n : Nat) {m0 : Int} (hm : 1 ≤ m0) (hm' : m0 ≤ 1099511627776) (hl : n ≤ 1099511627776) : Ev (fun k => laws_heldByteS.f k (markedB n m0) m0) (m0 + n) := by
  unfold laws_heldByteS.f
  have := heldByteS_loop n m0 hm hm' hl n 0 (by omega) (by omega)
  rwa [Int.add_zero] at this

theorem sqrts_ : [2, 3, 5, 7, 11, 13, 17, 19].map sqrtW = startL := by kernel_rfl
theorem cubes_ : P64.map cubeW = keysL := by kernel_rfl
theorem H0_start : H0 = startL := by kernel_rfl
/-! ### The program's digest is the reference's -/
theorem fill8 (f : Nat → Int) (L : List Int) (h : L.length = 8) : fill f 8 L = [f 0, f 1, f 2, f 3, f 4, f 5, f 6, f 7] := by
  match L, h with
  | [a, b, c, d, e, g, i, j], _ => rfl
def inR (h : List Int) : Prop := h.length = 8 ∧ ∀ x, x ∈ h → 0 ≤ x ∧ x < 4294967296
theorem u32_in (x : Int) (h0 : 0 ≤ x) (h1 : x < 4294967296) : IntKind.u32.wrap x = x := IntWalk.u32_in _ (by omega)
theorem wds_in (h : List Int) (hh : inR h) : wds h = h := by
  obtain ⟨h8, hr⟩ := hh
  match h, h8, hr with
  | [a, b, c, d, e, g, i, j], _, hr =>
    unfold wds
    rw [fill8 _ _ rfl]
    simp only [List.mem_cons, List.not_mem_nil, or_false, forall_eq_or_imp, forall_eq] at hr
    obtain ⟨r0, r1, r2, r3, r4, r5, r6, r7⟩ := hr
    show [IntKind.u32.wrap a, IntKind.u32.wrap b, IntKind.u32.wrap c, IntKind.u32.wrap d, IntKind.u32.wrap e, IntKind.u32.wrap g, IntKind.u32.wrap i, IntKind.u32.wrap j] = _
    rw [u32_in _ r0.1 r0.2, u32_in _ r1.1 r1.2, u32_in _ r2.1 r2.2, u32_in _ r3.1 r3.2, u32_in _ r4.1 r4.2, u32_in _ r5.1 r5.2, u32_in _ r6.1 r6.2, u32_in _ r7.1 r7.2]
theorem w64_in (x : Int) (h0 : 0 ≤ x) (h1 : x < 4294967296) : wrap64 x = x := by unfold wrap64; omega
theorem fedH_in (h : List Int) (hh : inR h) : fedH h = h := by
  obtain ⟨h8, hr⟩ := hh
  match h, h8, hr with
  | [a, b, c, d, e, g, i, j], _, hr =>
    unfold fedH
    rw [fill8 _ _ rfl]
    simp only [List.mem_cons, List.not_mem_nil, or_false, forall_eq_or_imp, forall_eq] at hr
    obtain ⟨r0, r1, r2, r3, r4, r5, r6, r7⟩ := hr
    show [wrap64 a, wrap64 b, wrap64 c, wrap64 d, wrap64 e, wrap64 g, wrap64 i, wrap64 j] = _
    rw [w64_in _ r0.1 r0.2, w64_in _ r1.1 r1.2, w64_in _ r2.1 r2.2, w64_in _ r3.1 r3.2, w64_in _ r4.1 r4.2, w64_in _ r5.1 r5.2, w64_in _ r6.1 r6.2, w64_in _ r7.1 r7.2]
theorem block_in (K H b : List Int) : inR (block_ K H b) := by
  unfold block_
  rw [fill8 _ _ rfl]
  refine ⟨rfl, fun x hx => ?_⟩
  simp only [List.mem_cons, List.not_mem_nil, or_false] at hx
  rcases hx with rfl | rfl | rfl | rfl | rfl | rfl | rfl | rfl <;> omega
theorem iter_congr {α : Type} (F G : Nat → α → α) (n : Nat) (x : α) (h : ∀ i, i < n → ∀ y, F i y = G i y) : iter F n x = iter G n x := by
  induction n with
  | zero => rfl
  | succ n ih =>
    show F n (iter F n x) = G n (iter G n x)
    rw [ih (fun i hi y => h i (by omega) y), h n (by omega)]
theorem iter_add {α : Type} (F : Nat → α → α) (a n : Nat) (x : α) : iter F (a + n) x = iter (fun i => F (a + i)) n (iter F a x) := by
  induction n with
  | zero => rfl
  | succ n ih =>
    show F (a + n) (iter F (a + n) x) = F (a + n) _
    rw [ih]
theorem scheds_mores (b : List Int) : scheds b 64 z64 = mores 48 (fill (wrd b) 16 z64) := by
  show iter (sched b) (16 + 48) z64 = _
  rw [iter_add]
  unfold mores
  have e1 : iter (sched b) 16 z64 = fill (wrd b) 16 z64 := iter_congr _ _ _ _ (fun i hi y => if_pos hi)
  rw [e1]
  exact iter_congr _ _ _ _ (fun i hi y => if_neg (by omega))
theorem rd_take (b : List Int) (n : Nat) (i : Int) (h0 : 0 ≤ i) (h1 : i < n) : rd (b.take n) i = rd b i := by
  unfold rd
  rw [List.getD_eq_getElem?_getD, List.getD_eq_getElem?_getD, List.getElem?_take, if_pos (by omega)]
theorem wrd_take (b : List Int) (t : Nat) (h : t < 16) : wrd (b.take 64) t = wrd b t := by
  unfold wrd
  rw [rd_take _ _ _ (by omega) (by omega), rd_take _ _ _ (by omega) (by omega), rd_take _ _ _ (by omega) (by omega), rd_take _ _ _ (by omega) (by omega)]
theorem blockW_eq (K H b : List Int) (hh : inR H) : blockW K H b = block_ K H (b.take 64) := by
  unfold blockW block_
  have e1 : fill (wrd (b.take 64)) 16 z64 = fill (wrd b) 16 z64 := iter_congr _ _ _ _ (fun i hi y => by show y.set i _ = y.set i _; rw [wrd_take b i hi])
  rw [fill8 _ _ (rounds_len _ _ _ _ hh.1), fill8 _ _ rfl, e1, scheds_mores, wds_in H hh]
  simp only [Int.add_comm]
theorem feed_eq (K : List Int) (n : Nat) (h b : List Int) (hh : inR h) : feed K n h b = feedS K n h b := by
  induction n generalizing h b with
  | zero => rfl
  | succ n ih =>
    rw [feed_succ, feedS_succ, blockW_eq K h b hh, ih _ _ (block_in _ _ _)]
theorem feedS_in (K : List Int) (n : Nat) (h b : List Int) (hh : inR h) : inR (feedS K n h b).1 := by
  induction n generalizing h b with
  | zero => exact hh
  | succ n ih =>
    rw [feedS_succ]
    split
    · exact ih _ _ (block_in _ _ _)
    · exact hh
theorem feedS_mod (K : List Int) (n : Nat) (h b : List Int) (hn : b.length ≤ n) : (feedS K n h b).2.length = b.length % 64 := by
  induction n generalizing h b with
  | zero =>
    show b.length = _
    omega
  | succ n ih =>
    rw [feedS_succ]
    split
    · rename_i hc
      rw [ih _ _ (by rw [List.length_drop]; omega), List.length_drop]
      omega
    · show b.length = _
      omega
theorem KC_keys : KC = keysL := by
  have h : KC = P64.map cubeW := by
    unfold KC
    have hl : ∀ n, n ≤ 64 → fill (fun i => cubeW (rd P64 i)) n z64 = (P64.map cubeW).take n ++ List.replicate (64 - n) 0 := by
      intro n hn
      induction n with
      | zero => rfl
      | succ n ih =>
        show (fill (fun i => cubeW (rd P64 i)) n z64).set n (cubeW (rd P64 n)) = _
        rw [ih (by omega)]
        have hlen : ((P64.map cubeW).take n).length = n := by
          rw [List.length_take, List.length_map]
          show min n 64 = n
          omega
        rw [List.set_append_right _ _ (by omega), hlen, Nat.sub_self, show 64 - n = (64 - (n + 1)) + 1 by omega, List.replicate_succ, List.set_cons_zero]
        have hlt : n < (P64.map cubeW).length := by rw [List.length_map]; show n < 64; omega
        rw [List.take_succ_eq_append_getElem hlt, List.append_assoc]
        congr 1
        simp only [List.getElem_map, List.singleton_append, List.cons.injEq, and_true]
        unfold rd
        have hlt2 : n < P64.length := by show n < 64; omega
        simp [List.getD_eq_getElem?_getD, List.getElem?_eq_getElem hlt2]
    rw [hl 64 (Nat.le_refl _), List.take_of_length_le (by rw [List.length_map]; exact Nat.le_refl 64)]
    simp
  rw [h, cubes_]
theorem start_in : inR startL := ⟨rfl, by decide⟩
theorem fedL_eq (d : List Int) : fedL H0 [] d = feedS keysL d.length startL d := by
  unfold fedL
  rw [KC_keys, H0_start, wds_in _ start_in, List.nil_append, feed_eq _ _ _ _ start_in, fedH_in _ (feedS_in _ _ _ _ start_in)]
theorem padS_eq (n : Nat) (t : List Int) (h : (120 - t.length % 64) % 64 ≤ n) : padS n t = t ++ List.replicate ((120 - t.length % 64) % 64) 0 := by
  induction n generalizing t with
  | zero =>
    have : (120 - t.length % 64) % 64 = 0 := by omega
    rw [this]
    simp [padS]
  | succ n ih =>
    rw [padS_succ]
    split
    · rename_i hc
      have : (120 - t.length % 64) % 64 = 0 := by omega
      rw [this]
      simp
    · rename_i hc
      have hl : (t ++ [(0 : Int)]).length = t.length + 1 := by simp
      rw [ih _ (by rw [hl]; omega), hl]
      have : (120 - t.length % 64) % 64 = (120 - (t.length + 1) % 64) % 64 + 1 := by omega
      rw [this, List.replicate_succ, List.append_assoc]
      rfl
theorem pad_eq (l : List Int) (m : Int) (hm : (l.length : Int) = m % 64) : l ++ padN m 8 = tailS l m := by
  unfold tailS
  have hl : (l ++ [(128 : Int)]).length = l.length + 1 := by simp
  rw [padS_eq _ _ (by omega), hl]
  have e1 : (padZ m).toNat = (120 - (l.length + 1) % 64) % 64 := by unfold padZ; omega
  have e2 : padN m 8 = pad0 m ++ bytesD m 8 := by
    show (((((((pad0 m ++ [_]) ++ [_]) ++ [_]) ++ [_]) ++ [_]) ++ [_]) ++ [_]) ++ [_] = _
    simp only [List.append_assoc]
    rfl
  rw [e2]
  unfold pad0
  rw [e1]
  simp only [List.append_assoc]
theorem blocksS_eq (K : List Int) (n : Nat) (h b : List Int) (hb : b.length % 64 = 0) : blocksS K n h b = (feedS K n h b).1 := by
  induction n generalizing h b with
  | zero => rfl
  | succ n ih =>
    rw [blocksS_succ, feedS_succ]
    by_cases c : 64 ≤ b.length
    · rw [if_pos c, if_pos (by omega), ih _ _ (by rw [List.length_drop]; omega)]
    · rw [if_neg c, if_neg (by omega)]
theorem digL_eq (H l : List Int) (m : Int) (hh : inR H) (hm : (l.length : Int) = m % 64) : digL H l m = digS H l m := by
  unfold digL digS
  rw [pad_eq l m hm, KC_keys, wds_in _ hh, feed_eq _ _ _ _ hh, fedH_in _ (feedS_in _ _ _ _ hh), blocksS_eq _ _ _ _ (tailS_mod l m)]
theorem sha_eq (d : List Int) : shaL d = shaS d := by
  unfold shaL shaS
  rw [fedL_eq]
  exact digL_eq _ _ _ (feedS_in _ _ _ _ start_in) (by rw [feedS_mod _ _ _ _ (Nat.le_refl _)]; omega)
theorem shaL_len (d : List Int) : (shaL d).length = 32 := by
  unfold shaL digL
  exact outN_len _ 8

theorem spec_Sha_eq (l : List Int) (h : l.length ≤ 20000) : spec_Sha.f l = some (shaL l) := by
  unfold spec_Sha.f
  rw [if_pos (by omega), if_neg (by omega), sha_eq]
theorem bytes_eq (l : List Int) (h : l.length ≤ 20000) : spec_l1Bytes.f l = some l := by
  show (if (([] : List Int).length + l.length < 140737488355328) then some ([] ++ l) else none) = some l
  rw [if_pos (by simp only [List.length_nil]; omega)]
  rfl
theorem specLoop (l : List Int) (n : Nat) (hl : l.length ≤ 1000) (hn : n ≤ 200) : ∀ d j : Nat, j + d = (n + 31) / 32 →
    Ev (fun k => spec_Mask.l0 k l n (maskCat l j) j) ((maskCat l ((n + 31) / 32)).take n, true) := by
  intro d
  induction d with
  | zero =>
    intro j hj
    have hlen := maskCat_len l j
    refine Ev.step (fun k => by rw [spec_Mask.l0]) ?_
    simp only [if_neg (show ¬ ((maskCat l j).length : Int) < n by omega), if_pos (show (0 : Int) ≤ n by omega), if_pos (show (n : Int) ≤ (maskCat l j).length by omega), Int.toNat_natCast]
    obtain rfl : j = (n + 31) / 32 := by omega
    exact Ev.now _
  | succ d ih =>
    intro j hj
    have hlen := maskCat_len l j
    have e2 : spec_Sha.f (l ++ [0, 0, 0, (j : Int) % 256]) = some (maskBlk l j) := spec_Sha_eq _ (by rw [List.length_append]; simp only [List.length_cons, List.length_nil]; omega)
    have e3 : (maskBlk l j).length = 32 := shaL_len32 _
    refine Ev.step (fun k => by rw [spec_Mask.l0]) ?_
    simp only [if_pos (show ((maskCat l j).length : Int) < n by omega), bytes_eq l (by omega), Option.bind_some, if_pos (show l.length + [0, 0, 0, (j : Int) % 256].length < 140737488355328 by simp only [List.length_cons, List.length_nil]; omega), e2,
      if_pos (show (maskCat l j).length + (maskBlk l j).length < 140737488355328 by omega)]
    rw [wsucc (by omega)]
    exact ih (j + 1) (by omega)

theorem both (a : List Int) (n : Int) (hl : a.length ≤ 1048576) : ∃ r b, r.length ≤ 300 ∧ Ev (fun k => spec_Mask.f k a n) (r, b) ∧ impl_Mask.f a n = some (r, b) := by
  by_cases hn : 0 ≤ n ∧ n ≤ 200
  · by_cases h1 : (a.length : Int) > 1000
    · refine ⟨[], false, by simp, ?_, ?_⟩
      · unfold spec_Mask.f
        simp only [in_eq, hn, and_self, decide_true, Option.bind_some, if_true, h1]
        refine Ev.step (fun k => by rw [spec_Mask.j0]) ?_
        simp only [if_true]
        exact Ev.now _
      · unfold impl_Mask.f
        simp only [within_eq, hn, and_self, decide_true, Option.bind_some, if_true, if_pos h1]
    · obtain ⟨m, rfl⟩ : ∃ m : Nat, n = m := ⟨n.toNat, by omega⟩
      refine ⟨(maskCat a ((m + 31) / 32)).take m, true, by rw [List.length_take]; omega, ?_, ?_⟩
      · unfold spec_Mask.f
        simp only [in_eq, hn, and_self, decide_true, Option.bind_some, if_true, h1, decide_false]
        refine Ev.step (fun k => by rw [spec_Mask.j0]) ?_
        simp only [Bool.false_eq_true, if_false]
        exact specLoop a m (by omega) (by omega) ((m + 31) / 32) 0 (by omega)
      · unfold impl_Mask.f impl_mask.f
        have c_ : a.length ≤ 1000 ∧ 0 ≤ (m : Int) ∧ (m : Int) ≤ 200 := ⟨by omega, hn⟩
        rw [within_eq, decide_eq_true hn, if_pos c_]
        simp only [Option.bind_some, if_true, if_neg h1, Int.toNat_natCast]
  · refine ⟨[], false, by simp, ?_, ?_⟩
    · unfold spec_Mask.f
      simp only [in_eq, hn, decide_false, Option.bind_some, Bool.false_eq_true, if_false]
      refine Ev.step (fun k => by rw [spec_Mask.j0]) ?_
      simp only [if_true]
      exact Ev.now _
    · unfold impl_Mask.f
      simp only [within_eq, hn, decide_false, Option.bind_some, Bool.false_eq_true, if_false]

theorem FnExactMask : laws_FnExactMask.Pure := by
  intro a n _ _ _ _
  refine Ev.rounds (r := true) ?_
  unfold laws_FnExactMask.f
  by_cases h : (a.length : Int) > 1048576
  · simp only [if_pos h]; exact Ev.now _
  simp only [if_neg h]
  have ta := toByteS_eq a (by omega)
  have ea := eqByteS_eq a (by omega)
  obtain ⟨r, bb, hl, r1, r2⟩ := both a n (by omega)
  have er := eqByteS_eq r (by omega)
  have ma := markByteS_eq a (m0 := 1) (by omega) (by omega) (by omega)
  have mr := markByteS_eq r (m0 := 1) (by omega) (by omega) (by omega)
  have hr := heldByteS_eq r.length (m0 := 1) (by omega) (by omega) (by omega)
  have f1 : ¬ (1 : Int) + a.length < 0 := by omega
  have f2 : ¬ (1 : Int) + r.length < 0 := by omega
  refine Ev.bind ta (Ev.bind r1 (Ev.bind ta ?_))
  simp only [r2, Option.bind_some]
  refine Ev.bind er ?_
  simp only [if_true, bne_self_eq_false]
  refine Ev.step (fun k => by rw [laws_FnExactMask.j0]) ?_
  simp only [Bool.false_eq_true, if_false]
  refine Ev.bind ta (Ev.bind ea ?_)
  simp only [if_true]
  refine Ev.bind ma ?_
  simp only [if_neg f1]
  refine Ev.bind er ?_
  simp only [if_true, bne_self_eq_false]
  refine Ev.step (fun k => by rw [laws_FnExactMask.j1]) ?_
  simp only [Bool.false_eq_true, if_false]
  refine Ev.bind mr (Ev.bind hr ?_)
  simp only [if_neg f2, if_true]
  refine Ev.bind ta ?_
  simp only [r2, Option.bind_some]
  refine Ev.bind er ?_
  simp only [if_true, bne_self_eq_false]
  refine Ev.step (fun k => by rw [laws_FnExactMask.j2]) ?_
  simp only [Bool.false_eq_true, if_false]
  refine Ev.bind hr ?_
  simp only [if_neg f2, if_true]
  exact Ev.now _

end Go.Proofs.Ytiffbeoignoedaa.Pure
