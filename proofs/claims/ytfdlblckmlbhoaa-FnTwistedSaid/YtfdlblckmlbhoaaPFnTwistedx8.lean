-- Written for this claim by a program of this session.
import Derived.Test.YtfdlblckmlbhoaaPFnTwistedx0
import Derived.Test.YtfdlblckmlbhoaaPFnTwistedx1
import Derived.Test.YtfdlblckmlbhoaaPFnTwistedx2
import Derived.Test.YtfdlblckmlbhoaaPFnTwistedx4
import Derived.Test.YtfdlblckmlbhoaaPFnTwistedx5
import Derived.Test.YtfdlblckmlbhoaaPFnTwistedx7
import Derived.Lib.SliceRun
import Derived.Laws.CopyOwn
import Derived.StillTailTactics
import Derived.LoopN
import Derived.Deep.MidRow
import Derived.Laws.ResultCell
import Derived.Outline
namespace Go.Proofs.Ytfdlblckmlbhoaa.PFnTwisted
open Go.RowKit Go.Proofs.YtfdlblckmlbhoaaW.PrintWords Go.Proofs.YtfdlblckmlbhoaaW.PrintLast Go.Proofs.YtfdlblckmlbhoaaW.PrintMore
attribute [local go_sem] max2_int min2_int max_two min_two max_three min_three max_four min_four   -- for this text's walks alone
set_option linter.unusedVariables false
set_option linter.unusedSimpArgs false
/-! ### Arrays of whole numbers in a block of their own -/
/-- The cells of an array of whole numbers. -/
def U (k : IntKind) (l : List Int) : Array Value := ⟨l.map (Value.int k)⟩
theorem U_set (k : IntKind) (l : List Int) (i : Nat) (v : Int) : (U k l).setIfInBounds i (.int k v) = U k (l.set i v) := by
  unfold U
  rw [List.setIfInBounds_toArray, List.map_set]
theorem U_size (k : IntKind) (l : List Int) : (U k l).size = l.length := by
  show (l.map _).length = _
  rw [List.length_map]
theorem U_get (k : IntKind) (l : List Int) (i : Nat) (h : i < l.length) : (U k l)[i]? = some (.int k (rd l i)) := by
  unfold U rd
  rw [List.getElem?_toArray, List.getElem?_map, List.getElem?_eq_getElem h]
  simp [List.getD, List.getElem?_eq_getElem h]
theorem cellU {w : World} {g : Nat} {t : TypeId} {k : IntKind} {l : List Int} (h : w.heap[g]? = some (.cells (U k l) t (0, 0))) (i : Nat) (hi : i < l.length) : w.cell? ⟨g, i, none⟩ = some (.int k (rd l i)) :=
  (blk_cell h i).trans (U_get k l i hi)
theorem setU {w : World} {g : Nat} {t : TypeId} {k : IntKind} {l : List Int} (h : w.heap[g]? = some (.cells (U k l) t (0, 0))) (i : Nat) (v : Int) : (w.setCell ⟨g, i, none⟩ (.int k v)).heap[g]? = some (.cells (U k (l.set i v)) t (0, 0)) := by
  rw [blk_set h, U_set]
/-- The steps F 0, F 1, .., F (n - 1), one behind the other. -/
def iter {α : Type} (F : Nat → α → α) : Nat → α → α
  | 0, x => x
  | n + 1, x => F n (iter F n x)
def fill (f : Nat → Int) : Nat → List Int → List Int := iter fun i l => l.set i (f i)
theorem fill_len (f : Nat → Int) (n : Nat) (l : List Int) : (fill f n l).length = l.length := by
  induction n with
  | zero => rfl
  | succ n ih => rw [← ih]; exact List.length_set
theorem ix_nat (i : Nat) : ((i : Int)).toNat = i := rfl
theorem U_one (k : IntKind) (l : List Int) : (U k l).all (·.oneCell') = true := by
  rw [Array.all_eq_true_iff_forall_mem]
  intro x hx
  simp only [U, List.mem_toArray, List.mem_map] at hx
  obtain ⟨a, _, rfl⟩ := hx
  rfl
theorem info_U {P : Program} {ty n : Nat} (k : IntKind) {l : List Int} (h : (P.info? ty).map (·.size) = some n) (hl : l.length = n) : (P.info? ty).map (·.size) = some (U k l).size := by rw [h, U_size, hl]
theorem setRow_blk {w : World} {g : Nat} {old : Array Value} {t : TypeId} {fr : Nat × Nat} (h : w.heap[g]? = some (.cells old t fr)) (cs : Array Value) : (w.setRow g cs).heap[g]? = some (.cells cs t fr) := setRow_heap w g old cs t fr h
theorem setRow_far {w : World} {g k : Nat} {o : Obj} (h : w.heap[k]? = some o) (hk : k ≠ g) (cs : Array Value) : (w.setRow g cs).heap[k]? = some o := by rw [setRow_other w g k cs hk, h]
theorem below_row {w W : World} {g : Nat} (h : Below w.heap.size w W) (hg : w.heap.size ≤ g) (cs : Array Value) : Below w.heap.size w (W.setRow g cs) := Go.below_setRow h hg cs
/-- Blocks of the call's own: each holds these cells; what there was ahead of the call is as it was. -/
def Arrs (w0 W : World) (xs : List (Nat × Array Value × TypeId)) : Prop :=
  Below w0.heap.size w0 W ∧ (∀ (i : Nat) (g : Nat) (cs : Array Value) (t : TypeId), xs[i]? = some (g, cs, t) → w0.heap.size ≤ g ∧ W.heap[g]? = some (.cells cs t (0, 0))) ∧ (∀ (i j : Nat) (g h : Nat) (cs ds : Array Value) (t u : TypeId), xs[i]? = some (g, cs, t) → xs[j]? = some (h, ds, u) → i ≠ j → g ≠ h)
theorem Arrs.refl (w : World) : Arrs w w [] := ⟨Below.refl _ _, fun i g cs t h => by simp at h, fun i j g h cs ds t u e => by simp at e⟩
section
variable {w0 W : World} {xs : List (Nat × Array Value × TypeId)} {g : Nat} {cs : Array Value} {t : TypeId}
theorem Arrs.get (h : Arrs w0 W xs) (i : Nat) (e : xs[i]? = some (g, cs, t) := by rfl) : W.heap[g]? = some (.cells cs t (0, 0)) := (h.2.1 i g cs t e).2
theorem Arrs.ge (h : Arrs w0 W xs) (i : Nat) (e : xs[i]? = some (g, cs, t) := by rfl) : w0.heap.size ≤ g := (h.2.1 i g cs t e).1
theorem Arrs.lt (h : Arrs w0 W xs) (i : Nat) (e : xs[i]? = some (g, cs, t) := by rfl) : g < W.heap.size := blk_lt (h.get i e)
/-- What only makes memory, or draws. -/
theorem Arrs.below {W' : World} (h : Arrs w0 W xs) (hb : Below W.heap.size W W') : Arrs w0 W' xs :=
  ⟨below_step h.1 hb, fun i g cs t e => ⟨h.ge i e, blk_below (h.get i e) hb⟩, h.2.2⟩
theorem Arrs.drewN (h : Arrs w0 W xs) (n : Nat) : Arrs w0 (W.drewN n) xs := h.below (pw_below_drewN (Below.refl _ _) n)
theorem Arrs.drew1 (h : Arrs w0 W xs) : Arrs w0 W.drew xs := h.below (below_drew1 (Below.refl _ _))
/-- A block that was made. -/
theorem Arrs.made {W' : World} (h : Arrs w0 W xs) (hg : g = W.heap.size) (hb : Below W.heap.size W W') (hn : W'.heap[g]? = some (.cells cs t (0, 0))) : Arrs w0 W' ((g, cs, t) :: xs) := by
  refine ⟨below_step h.1 hb, fun i g1 cs1 t1 e => ?_, fun i j g1 g2 c1 c2 t1 t2 e1 e2 hij => ?_⟩
  · cases i with
    | zero =>
      simp only [List.getElem?_cons_zero, Option.some.injEq, Prod.mk.injEq] at e
      obtain ⟨rfl, rfl, rfl⟩ := e
      exact ⟨by rw [hg]; exact below_size h.1, hn⟩
    | succ i =>
      rw [List.getElem?_cons_succ] at e
      exact ⟨h.ge i e, blk_below (h.get i e) hb⟩
  · cases i with
    | zero =>
      cases j with
      | zero => exact absurd rfl hij
      | succ j =>
        simp only [List.getElem?_cons_zero, Option.some.injEq, Prod.mk.injEq] at e1
        obtain ⟨rfl, _, _⟩ := e1
        rw [List.getElem?_cons_succ] at e2
        have := h.lt j e2
        omega
    | succ i =>
      rw [List.getElem?_cons_succ] at e1
      cases j with
      | zero =>
        simp only [List.getElem?_cons_zero, Option.some.injEq, Prod.mk.injEq] at e2
        obtain ⟨rfl, _, _⟩ := e2
        have := h.lt i e1
        omega
      | succ j =>
        rw [List.getElem?_cons_succ] at e2
        exact h.2.2 i j g1 g2 c1 c2 t1 t2 e1 e2 (by omega)
/-- What turns block i alone. -/
theorem Arrs.turn {W' : World} {cs' : Array Value} (h : Arrs w0 W xs) (i : Nat) (e : xs[i]? = some (g, cs, t)) (hb : Below w0.heap.size w0 W') (hn : W'.heap[g]? = some (.cells cs' t (0, 0))) (hk : ∀ k, k ≠ g → W'.heap[k]? = W.heap[k]?) : Arrs w0 W' (xs.set i (g, cs', t)) := by
  have hi : i < xs.length := (List.getElem?_eq_some_iff.1 e).1
  have hx : ∀ j g1 c1 t1, (xs.set i (g, cs', t))[j]? = some (g1, c1, t1) → j ≠ i → xs[j]? = some (g1, c1, t1) := fun j g1 c1 t1 e1 hj => by
    rwa [List.getElem?_set_ne (fun q => hj q.symm)] at e1
  have hs : ∀ g1 c1 t1, (xs.set i (g, cs', t))[i]? = some (g1, c1, t1) → g = g1 ∧ cs' = c1 ∧ t = t1 := fun g1 c1 t1 e1 => by
    rw [List.getElem?_set_self hi, Option.some.injEq, Prod.mk.injEq, Prod.mk.injEq] at e1
    exact e1
  refine ⟨hb, fun j g1 c1 t1 e1 => ?_, fun j k g1 g2 c1 c2 t1 t2 e1 e2 hjk => ?_⟩
  · by_cases hj : j = i
    · subst hj
      obtain ⟨rfl, rfl, rfl⟩ := hs _ _ _ e1
      exact ⟨h.ge j e, hn⟩
    · have e3 := hx _ _ _ _ e1 hj
      exact ⟨h.ge j e3, (hk g1 (h.2.2 j i _ _ _ _ _ _ e3 e hj)).trans (h.get j e3)⟩
  · by_cases hj : j = i
    · subst hj
      obtain ⟨rfl, _, _⟩ := hs _ _ _ e1
      exact h.2.2 j k _ _ _ _ _ _ e (hx _ _ _ _ e2 (fun q => hjk q.symm)) hjk
    · by_cases hk2 : k = i
      · subst hk2
        obtain ⟨rfl, _, _⟩ := hs _ _ _ e2
        exact h.2.2 j k _ _ _ _ _ _ (hx _ _ _ _ e1 hj) e hjk
      · exact h.2.2 j k _ _ _ _ _ _ (hx _ _ _ _ e1 hj) (hx _ _ _ _ e2 hk2) hjk
theorem Arrs.put (h : Arrs w0 W xs) (i : Nat) (j : Nat) (v : Value) (e : xs[i]? = some (g, cs, t) := by rfl) : Arrs w0 (W.setCell ⟨g, j, none⟩ v) (xs.set i (g, cs.setIfInBounds j v, t)) :=
  h.turn i e (below_set h.1 (h.ge i e)) (blk_set (h.get i e) j v) (fun k hk => heap_setCell_other W ⟨g, j, none⟩ k v hk)
theorem Arrs.putU {k : IntKind} {l : List Int} (h : Arrs w0 W xs) (i : Nat) (j : Nat) (v : Int) (e : xs[i]? = some (g, U k l, t) := by rfl) : Arrs w0 (W.setCell ⟨g, j, none⟩ (.int k v)) (xs.set i (g, U k (l.set j v), t)) := by
  rw [← U_set]
  exact h.put i j _ e
theorem Arrs.row (h : Arrs w0 W xs) (i : Nat) (ds : Array Value) (e : xs[i]? = some (g, cs, t) := by rfl) : Arrs w0 (W.setRow g ds) (xs.set i (g, ds, t)) :=
  h.turn i e (below_row h.1 (h.ge i e) ds) (setRow_blk (h.get i e) ds) (fun k hk => setRow_other W g k ds hk)
theorem Arrs.cell {k : IntKind} {l : List Int} (h : Arrs w0 W xs) (i : Nat) (j : Nat) (hj : j < l.length) (e : xs[i]? = some (g, U k l, t) := by rfl) : W.cell? ⟨g, j, none⟩ = some (.int k (rd l j)) := cellU (h.get i e) j hj
theorem Arrs.free (h : Arrs w0 W xs) (i : Nat) (j : Nat) (e : xs[i]? = some (g, cs, t) := by rfl) : W.frozen? ⟨g, j, none⟩ = false := blk_frozen (h.get i e) j
theorem Arrs.drop (h : Arrs w0 W ((g, cs, t) :: xs)) : Arrs w0 W xs :=
  ⟨h.1, fun i g1 cs1 t1 e => h.2.1 (i + 1) g1 cs1 t1 (by rw [List.getElem?_cons_succ]; exact e), fun i j g1 g2 c1 c2 t1 t2 e1 e2 hij => h.2.2 (i + 1) (j + 1) g1 g2 c1 c2 t1 t2 (by rw [List.getElem?_cons_succ]; exact e1) (by rw [List.getElem?_cons_succ]; exact e2) (by omega)⟩
theorem Arrs.cast {ys : List (Nat × Array Value × TypeId)} (h : Arrs w0 W xs) (e : xs = ys := by rfl) : Arrs w0 W ys := e ▸ h
theorem Arrs.at_ {W' : World} (h : Arrs w0 W xs) (e : W = W') : Arrs w0 W' xs := e ▸ h
theorem Arrs.cells {ds : Array Value} (h : Arrs w0 W xs) (i : Nat) (e : xs[i]? = some (g, cs, t)) (hc : cs = ds) : Arrs w0 W (xs.set i (g, ds, t)) := by
  subst hc
  have e2 : xs.set i (g, cs, t) = xs := by
    apply List.ext_getElem?
    intro j
    by_cases hj : j = i
    · subst hj
      rw [List.getElem?_set_self (List.getElem?_eq_some_iff.1 e).1, e]
    · rw [List.getElem?_set_ne (fun q => hj q.symm)]
  rw [e2]
  exact h
end
theorem Arrs.alloc {w0 W : World} {xs : List (Nat × Array Value × TypeId)} {cs : Array Value} {t : TypeId} (h : Arrs w0 W xs) {g : Nat} (hg : g = W.heap.size := by simp) : Arrs w0 (W.alloc (.cells cs t)) ((g, cs, t) :: xs) :=
  h.made hg (below_alloc (Below.refl _ _) _) (by rw [hg]; exact blk_new _ _)
section
variable {P : Program} {ops : Array Oper} {rest : List Oper} {o : Oper} {a : Act} {Q : Exit → Act → World → Prop} {W w0 : World}
/-- An aggregate is built. -/
theorem build_event (hgd : o.guard = none) {N : Tmp} (_hd : o.dst = some N) (t : TypeId) (parts : Array (Nat × Operand)) (ho : o.op = .build t parts) (cs : Array Value)
    (hb : P.built t (parts.map fun (i, x) => (i, a.eval x)).toList = some cs) (h : wpList P ops Q rest (a.put o.dst (.agg cs)) W) : wpList P ops Q (o :: rest) a W := by
  refine wpList_build hgd t parts ho (by rw [hb]; rfl) ?_
  rw [hb]
  exact h
/-- A block is made. -/
theorem box_arrs (hgd : o.guard = none) {N : Tmp} (_hd : o.dst = some N) (cs : Array Value) (t : TypeId) {xs : List (Nat × Array Value × TypeId)} (HS : Aside0 (Arrs w0 W xs))
    (hrun : (execOp a.eval o).run P W = .ok (.value (.pointer (some ⟨W.heap.size, 0, none⟩))) (W.alloc (.cells cs t (0, 0))))
    (h : ∀ g w1, Aside0 (Arrs w0 w1 ((g, cs, t) :: xs)) → wpList P ops Q rest (a.put o.dst (.pointer (some ⟨g, 0, none⟩))) w1) : wpList P ops Q (o :: rest) a W :=
  Kd.event_run hgd hrun (h _ _ ⟨HS.out.alloc rfl⟩)
/-- A whole array is read. -/
theorem load_arrs (hgd : o.guard = none) {N : Tmp} (_hd : o.dst = some N) (ty : TypeId) (x : Operand) (ho : o.op = .load ty x) (i : Nat) {xs : List (Nat × Array Value × TypeId)} {g : Nat} {cs : Array Value} {t : TypeId} (HS : Aside0 (Arrs w0 W xs)) (e : xs[i]? = some (g, cs, t))
    (hx : a.eval x = .pointer (some ⟨g, 0, none⟩)) {d : TypeDesc} (hu : P.underlying ty = some d) (hd : (match d with | .struct _ | .array _ _ => true | _ => false) = true) (hi : (P.info? ty).map (·.size) = some cs.size)
    (h : wpList P ops Q rest (a.put o.dst (.agg cs)) W) : wpList P ops Q (o :: rest) a W :=
  wpList_load_row hgd ty x ho g hx t cs (0, 0) d (HS.out.get i e) hu hd hi h
/-- A whole array is written. -/
theorem store_arrs (hgd : o.guard = none) (ty : TypeId) {p : Tmp} (y : Operand) (ho : o.op = .store ty (.tmp p) y) (hN : o.dst = none) (i : Nat) {xs : List (Nat × Array Value × TypeId)} {g : Nat} {old : Array Value} (cs : Array Value) {t : TypeId} (HS : Aside0 (Arrs w0 W xs)) (e : xs[i]? = some (g, old, t))
    (hx : a.eval (.tmp p) = .pointer (some ⟨g, 0, none⟩)) (hy : a.eval y = .agg cs) (hi : (P.info? ty).map (·.size) = some cs.size) (hold : old.size = cs.size) (h1 : cs.all (·.oneCell') = true)
    (h : ∀ w1, Aside0 (Arrs w0 w1 (xs.set i (g, cs, t))) → wpList P ops Q rest a w1) : wpList P ops Q (o :: rest) a W := by
  refine wpList_store_row hgd ty (.tmp p) y ho g cs hx hy t old (HS.out.get i e) hi hold h1 ?_
  rw [hN]
  exact h _ ⟨HS.out.row i cs e⟩
end
/-! ### A region that draws its order, whose operations make memory: what holds of what has been carried out -/
section
variable {P : Program} {ops : Array Oper} {md : Region.Mode}
/-- How many of the first n are not listed. -/
def unl (listed : Array Bool) : Nat → Nat
  | 0 => 0
  | k + 1 => unl listed k + if listed.getD k false then 0 else 1
theorem unl_far (listed : Array Bool) (i : Nat) : ∀ k, k ≤ i → unl (listed.setIfInBounds i true) k = unl listed k
  | 0, _ => rfl
  | k + 1, h => by
    unfold unl
    rw [unl_far listed i k (by omega), getD_set_ne false (by omega)]
theorem unl_set (listed : Array Bool) (i : Nat) (hs : i < listed.size) (hi : listed.getD i false = false) : ∀ k, i < k → unl (listed.setIfInBounds i true) k + 1 = unl listed k
  | 0, h => absurd h (by omega)
  | k + 1, h => by
    unfold unl
    by_cases hik : i = k
    · subst hik
      rw [unl_far listed i i (Nat.le_refl _), hi]
      have : (listed.setIfInBounds i true).getD i false = true := by simp [hs]
      rw [this]
      simp
    · rw [getD_set_ne false hik, ← unl_set listed i hs hi k (by omega)]
      omega
theorem unl_zero (listed : Array Bool) : ∀ k, unl listed k = 0 → ∀ i, i < k → listed.getD i false = true
  | 0, _, i, h => absurd h (by omega)
  | k + 1, h, i, hi => by
    unfold unl at h
    by_cases hik : i = k
    · subst hik
      cases hl : listed.getD i false with
      | true => rfl
      | false => rw [hl] at h; simp at h
    · exact unl_zero listed k (by omega) i (by omega)
theorem unl_pos (listed : Array Bool) : ∀ k, unl listed k ≠ 0 → ∃ i, i < k ∧ listed.getD i false = false ∧ ∀ j, j < i → listed.getD j false = true
  | 0, h => absurd rfl h
  | k + 1, h => by
    by_cases h0 : unl listed k = 0
    · refine ⟨k, by omega, ?_, unl_zero listed k h0⟩
      unfold unl at h
      rw [h0] at h
      cases hl : listed.getD k false with
      | true => rw [hl] at h; simp at h
      | false => rfl
    · obtain ⟨i, hi, h1, h2⟩ := unl_pos listed k h0
      exact ⟨i, by omega, h1, h2⟩
/-- Every edge points back. -/
def Region.downB (md : Region.Mode) (ops : Array Oper) : Bool :=
  (List.range ops.size).all fun j => match ops[j]? with
    | some o => o.after.all fun e => !Region.binds md e || decide (e.on < j)
    | none => true
def Region.stableB (md : Region.Mode) (ops : Array Oper) (n : Nat) : Bool :=
  decide (n < ops.size) && Region.sinkB md ops n && Region.chainB md ops n && Region.downB md ops && Region.seqB md ops (ops.size - n) n (Array.replicate n true ++ Array.replicate (ops.size - n) false)
theorem wpAny_stable {Q : Exit → Act → World → Prop} (n : Nat) (hB : Region.stableB md ops n = true) (l : List Oper) (hl : ops = l.toArray) (J : Array Bool → Act → World → Prop)
    (hstep : ∀ listed a w, HeadInv md ops n listed → J listed a w → ∀ i, i < n → i ∈ Region.ready md ops listed → wpOp P ops Q i (fun a' w' => J (listed.setIfInBounds i true) a' w') a w)
    (hend : ∀ listed a w, J listed a w → (∀ i, i < n → listed.getD i false = true) → wpList P ops Q (l.drop n) a w) :
    ∀ (f : Nat) (listed : Array Bool) (a : Act) (w : World), unl listed n = f → HeadInv md ops n listed → J listed a w → wpAny P md ops Q (f + (ops.size - n)) listed a w := by
  simp only [Region.stableB, Bool.and_eq_true, decide_eq_true_eq] at hB
  obtain ⟨⟨⟨⟨hn, hs⟩, hc⟩, hd⟩, hq⟩ := hB
  intro f
  induction f with
  | zero =>
    intro listed a w hf inv hJ
    have hall := unl_zero listed n hf
    have he : listed = Array.replicate n true ++ Array.replicate (ops.size - n) false := by
      apply Array.ext
      · rw [inv.size]; simp; omega
      · intro j h1 h2
        by_cases hj : j < n
        · have h3 := hall j hj
          rw [Array.getElem_append_left (by simpa using hj)]
          simp [h1] at h3
          simp [h3]
        · have h3 := inv.tail j (by omega) (by rw [← inv.size]; exact h1)
          rw [Array.getElem_append_right (by simpa using hj)]
          simp [h1] at h3
          simp [h3]
    have hlen : (l.drop n).length = ops.size - n := by rw [hl]; simp
    rw [Nat.zero_add, ← hlen]
    exact wpAny_of_seq (l.drop n) n listed a w (fun j => by rw [hl]; simp [List.getElem?_drop]) (by rw [hlen, he]; exact hq) (hend listed a w hJ hall)
  | succ f ih =>
    intro listed a w hf inv hJ
    obtain ⟨i, hin, hi, hlow⟩ := unl_pos listed n (by rw [hf]; omega)
    have hir : i ∈ Region.ready md ops listed := by
      refine mem_ready.2 ⟨getD_in (by rw [inv.size]; omega) hi, ops[i]'(by omega), Array.getElem?_eq_getElem (by omega), fun e he hb => hlow _ ?_⟩
      have h1 := List.all_eq_true.1 hd i (List.mem_range.2 (by omega))
      rw [Array.getElem?_eq_getElem (by omega)] at h1
      have h2 := Array.all_eq_true_iff_forall_mem.1 h1 e he
      simpa [hb] using h2
    rw [show f + 1 + (ops.size - n) = (f + (ops.size - n)) + 1 by omega]
    refine ⟨fun h0 => (by rw [h0] at hir; cases hir), fun j hj => ?_⟩
    have hjn : j < n := by
      rcases Nat.lt_or_ge j n with h | h
      · exact h
      · exact absurd hj (tail_waits hs hc hn inv _ i rfl hin (getD_in (by rw [inv.size]; omega) hi) j h)
    have hjun := (mem_ready.1 hj).1
    refine wpOp_mono (fun a' w' h' => ih _ a' w' ?_ (inv.set hj hjn) h') (hstep listed a w inv hJ j hjn hj)
    have := unl_set listed j (by rw [inv.size]; omega) (getD_both hjun) n hjn
    omega
theorem wp_region_stable {id : Nat} {Q : Exit → Act → World → Prop} {a : Act} {w : World} {l : List Oper} (n : Nat) (hm : P.follows .mixedOrders = true) (hB : Region.stableB .any l.toArray n = true) (J : Array Bool → Act → World → Prop)
    (h0 : J (Array.replicate l.toArray.size false) a w.drew)
    (hstep : ∀ listed a w, HeadInv .any l.toArray n listed → J listed a w → ∀ i, i < n → i ∈ Region.ready .any l.toArray listed → wpOp P l.toArray Q i (fun a' w' => J (listed.setIfInBounds i true) a' w') a w)
    (hend : ∀ listed a w, J listed a w → (∀ i, i < n → listed.getD i false = true) → wpList P l.toArray Q (l.drop n) a w) : (Code.region id l.toArray true).wp P Q a w := by
  refine wp_region_any hm ?_
  have hn : n < l.toArray.size := by
    simp only [Region.stableB, Bool.and_eq_true, decide_eq_true_eq] at hB
    exact hB.1.1.1.1
  have inv0 : HeadInv .any l.toArray n (Array.replicate l.toArray.size false) :=
    ⟨by simp, fun j oj _ hl => (by rw [getD_replicate_false] at hl; cases hl), fun t _ ht => getD_in (by simpa using ht) (getD_replicate_false _ _)⟩
  have hu : ∀ k, unl (Array.replicate l.toArray.size false) k = k := by
    intro k
    induction k with
    | zero => rfl
    | succ k ih => unfold unl; rw [ih, getD_replicate_false]; rfl
  have := wpAny_stable (P := P) (Q := Q) n hB l rfl J hstep hend n _ a w.drew (hu n) inv0 h0
  rwa [show n + (l.toArray.size - n) = l.toArray.size by omega] at this
/-- One operation that only gives a value. -/
theorem op_val {Q : Exit → Act → World → Prop} {i : Nat} {o : Oper} {K : Act → World → Prop} {a : Act} {w w' : World} {v : Value} (hi : ops[i]? = some o) (hg : o.guard = none) (hr : (execOp a.eval o).run P w = .ok (.value v) w') (h : K (a.put o.dst v) w') : wpOp P ops Q i K a w := by
  unfold wpOp
  rw [hi]
  have hw : Region.wanted o (yielded ops a.tmps) = true := by unfold Region.wanted; rw [hg]
  show if Region.wanted o (yielded ops a.tmps) = true then _ else _
  rw [if_pos hw]
  refine .inl ?_
  unfold Oper.wp
  rw [hr]
  exact h
/-- A call. -/
theorem op_call {Q : Exit → Act → World → Prop} {i : Nat} {o : Oper} {K : Act → World → Prop} {a : Act} {w : World} (hi : ops[i]? = some o) (hg : o.guard = none) {f : FuncId} {fn : Func} {us : Array Operand} {ts : Array TypeId}
    (hf : P.funcs[f]? = some fn) (hname : (fn.name == "runtime.NumGoroutine") = false) (hb : fn.body.isSome = true) (args : Array Value)
    (hop : o.op = .call { callee := .value (.func f), args := us, argTypes := ts }) (hargs : us.map a.eval = args)
    (h : Calls P f args w fun e w' => ∃ v, e = .returned v ∧ K (a.put o.dst v) w') : wpOp P ops Q i K a w := by
  unfold wpOp
  rw [hi]
  have hw : Region.wanted o (yielded ops a.tmps) = true := by unfold Region.wanted; rw [hg]
  show if Region.wanted o (yielded ops a.tmps) = true then _ else _
  rw [if_pos hw]
  refine .inl ?_
  have he := enters_ hf hname hb args w
  have hrun : (execOp a.eval o).run P w = .ok (.enter f args) w := by
    unfold execOp
    simp [hop, resolve, Act.eval, Deferred.ofValue, invoke, hargs, he]
  unfold Oper.wp
  rw [hrun, Oper.upon_enter]
  refine h.mono fun e w'' hh => ?_
  obtain ⟨v, rfl, hk⟩ := hh
  exact hk
end
/-- A whole array is read. -/
theorem op_load {P : Program} {ops : Array Oper} {Q : Exit → Act → World → Prop} {i : Nat} {o : Oper} {K : Act → World → Prop} {a : Act} {w : World} (hi : ops[i]? = some o) (hg : o.guard = none) (ty : TypeId) (x : Operand) (ho : o.op = .load ty x)
    {g : Nat} {cs : Array Value} {t : TypeId} (hx : a.eval x = .pointer (some ⟨g, 0, none⟩)) (hb : w.heap[g]? = some (.cells cs t (0, 0))) {d : TypeDesc} (hu : P.underlying ty = some d) (hd : (match d with | .struct _ | .array _ _ => true | _ => false) = true) (hs : (P.info? ty).map (·.size) = some cs.size)
    (h : K (a.put o.dst (.agg cs)) w) : wpOp P ops Q i K a w := by
  refine op_val hi hg (v := .agg cs) (w' := w) ?_ h
  unfold execOp
  simp only [ho, hx, Instr.loadAt, Instr.sureAddr, Sem.run_bind, Sem.run_pure, Result.andThen_ok, run_loadVar_row w g t ty cs (0, 0) d hb hu hd hs]
/-- What holds of what has been carried out of a region that draws. -/
def StI (fact : Nat → Value → World → Prop) (n : Nat) (listed : Array Bool) (V : Nat → Value) (W : World) : Prop := ∀ j, j < n → listed.getD j false = true → fact j (V j) W
theorem StI.step {fact : Nat → Value → World → Prop} {n : Nat} {listed : Array Bool} {V : Nat → Value} {W W' : World} (h : StI fact n listed V W) (hst : ∀ j v, fact j v W → fact j v W') (i : Nat) (v : Value) (hf : fact i v W') :
    StI fact n (listed.setIfInBounds i true) (fun j => if j = i then v else V j) W' := by
  intro j hj hl
  by_cases hji : j = i
  · subst hji
    simpa using hf
  · rw [getD_set_ne false (fun e => hji e.symm)] at hl
    simpa [hji] using hst j _ (h j hj hl)
theorem dep_of {md : Region.Mode} {ops : Array Oper} {listed : Array Bool} {i j : Nat} (hr : i ∈ Region.ready md ops listed) (hw : Region.waitsFor md ops i j = true) : listed.getD j false = true := by
  obtain ⟨_, o, ho, hall⟩ := mem_ready.1 hr
  obtain ⟨o', ho', e, he, hb, hon⟩ := Region.waitsFor_spec hw
  have : o' = o := Option.some.inj (ho'.symm.trans ho)
  subst this
  rw [← hon]
  exact hall e he hb
/-! ### Bytes that are read, in a block of bytes -/
def RdB (W : World) (A : Option Addr) (l : List Int) : Prop := Kd.C (Kd.int .u8) W A l.length l ∧ ∀ ad, A = some ad → 0 < l.length → ∃ cs, W.heap[ad.block]? = some (.cells cs 5 (0, 0))
theorem RdB.below {W W' : World} {A : Option Addr} {l : List Int} (h : RdB W A l) (hb : Below W.heap.size W W') : RdB W' A l := ⟨Kd.C_below h.1 hb, fun ad e hl => by obtain ⟨cs, hc⟩ := h.2 ad e hl; exact ⟨cs, blk_below hc hb⟩⟩
theorem RdB.keep {W W' : World} {A : Option Addr} {l : List Int} (h : RdB W A l) {g : Nat} {cs : Array Value} {t : TypeId} (hg : W.heap[g]? = some (.cells cs t (0, 0))) (ht : t ≠ 5) (hs : W.heap.size ≤ W'.heap.size) (hk : ∀ k, k ≠ g → W'.heap[k]? = W.heap[k]?) : RdB W' A l := by
  have hne : ∀ ad, A = some ad → 0 < l.length → ad.block ≠ g := fun ad e hl he => by
    obtain ⟨cs', hc⟩ := h.2 ad e hl
    rw [he, hg] at hc
    injection hc with hc
    injection hc with _ hc _
    exact ht hc
  refine ⟨Kd.C_keep (0 : Int) h.1 ⟨hs, fun i hi hig _ => hk i hig⟩ hne, fun ad e hl => ?_⟩
  obtain ⟨cs', hc⟩ := h.2 ad e hl
  exact ⟨cs', (hk _ (hne ad e hl)).trans hc⟩
theorem RdB.row {W : World} {A : Option Addr} {l : List Int} (h : RdB W A l) {g : Nat} {cs : Array Value} {t : TypeId} (hg : W.heap[g]? = some (.cells cs t (0, 0))) (ht : t ≠ 5) (ds : Array Value) : RdB (W.setRow g ds) A l :=
  h.keep hg ht (by simp) (fun k hk => setRow_other W g k ds hk)
theorem RdB.put {W : World} {A : Option Addr} {l : List Int} (h : RdB W A l) {g : Nat} {cs : Array Value} {t : TypeId} (hg : W.heap[g]? = some (.cells cs t (0, 0))) (ht : t ≠ 5) (j : Nat) (v : Value) : RdB (W.setCell ⟨g, j, none⟩ v) A l :=
  h.keep hg ht (by simp [World.setCell]) (fun k hk => heap_setCell_other W ⟨g, j, none⟩ k v hk)
theorem RdB.of_R {W : World} {A : Option Addr} {n c base : Nat} {ok : Nat → Prop} {l : List Int} (h : (Kd.int .u8).R 5 W base ok (.slice A n c) l) : RdB W A l := by
  refine ⟨(Kd.R_reads' h).2.2, fun ad e _ => ?_⟩
  obtain ⟨_, _, _, q, hq, cs, hc⟩ := (Kd.R_bound h).1 ad.block (by rw [e]; rfl)
  have : q = 5 := by
    have h2 : q ∈ [5] := hq
    simpa using h2
  subst this
  exact ⟨cs, hc⟩
section
variable {P : Program} {ops : Array Oper} {rest : List Oper} {o : Oper} {a : Act} {Q : Exit → Act → World → Prop} {W w0 : World}
theorem box_arrs2 (hgd : o.guard = none) {N : Tmp} (_hd : o.dst = some N) (cs : Array Value) (t : TypeId) {xs : List (Nat × Array Value × TypeId)} (HS : Aside0 (Arrs w0 W xs))
    (hrun : (execOp a.eval o).run P W = .ok (.value (.pointer (some ⟨W.heap.size, 0, none⟩))) (W.alloc (.cells cs t (0, 0))))
    (h : ∀ g w1, Aside0 (Arrs w0 w1 ((g, cs, t) :: xs)) → Below W.heap.size W w1 → wpList P ops Q rest (a.put o.dst (.pointer (some ⟨g, 0, none⟩))) w1) : wpList P ops Q (o :: rest) a W :=
  Kd.event_run hgd hrun (h _ _ ⟨HS.out.alloc rfl⟩ (below_alloc (Below.refl _ _) _))
theorem store_arrs2 (hgd : o.guard = none) (ty : TypeId) {p : Tmp} (y : Operand) (ho : o.op = .store ty (.tmp p) y) (hN : o.dst = none) (i : Nat) {xs : List (Nat × Array Value × TypeId)} {g : Nat} {old : Array Value} (cs : Array Value) {t : TypeId} (HS : Aside0 (Arrs w0 W xs)) (e : xs[i]? = some (g, old, t))
    (hx : a.eval (.tmp p) = .pointer (some ⟨g, 0, none⟩)) (hy : a.eval y = .agg cs) (hi : (P.info? ty).map (·.size) = some cs.size) (hold : old.size = cs.size) (h1 : cs.all (·.oneCell') = true) (ht : t ≠ 5)
    (h : ∀ w1, Aside0 (Arrs w0 w1 (xs.set i (g, cs, t))) → (∀ A l, RdB W A l → RdB w1 A l) → wpList P ops Q rest a w1) : wpList P ops Q (o :: rest) a W := by
  refine wpList_store_row hgd ty (.tmp p) y ho g cs hx hy t old (HS.out.get i e) hi hold h1 ?_
  rw [hN]
  exact h _ ⟨HS.out.row i cs e⟩ (fun A l hr => hr.row (HS.out.get i e) ht cs)
end
theorem Arrs.b {w0 W : World} {xs : List (Nat × Array Value × TypeId)} (h : Arrs w0 W xs) : Below w0.heap.size w0 W := h.1
theorem RdB.c {W : World} {A : Option Addr} {l : List Int} (h : RdB W A l) : Kd.C (Kd.int .u8) W A l.length l := h.1
theorem wanted_of {ops : Array Oper} {o : Oper} {tmps : Array Value} {j : Nat} {b : Bool} (hg : o.guard = some (j, b)) {o2 : Oper} (h2 : ops[j]? = some o2) {t : Tmp} (hd : o2.dst = some t) (hv : tmps[t]? = some (.bool b)) : Region.wanted o (yielded ops tmps) = true := by
  unfold Region.wanted yielded
  rw [hg]
  simp [h2, hd, hv]
theorem wanted_free {ops : Array Oper} {o : Oper} {tmps : Array Value} (hg : o.guard = none) : Region.wanted o (yielded ops tmps) = true := by
  unfold Region.wanted
  rw [hg]
/-- An operation that is wanted, as one that has no guard. -/
theorem wpList_strip {P : Program} {ops : Array Oper} {Q : Exit → Act → World → Prop} {a : Act} {W : World} {rest : List Oper} {o : Oper} {j : Nat} {b : Bool} (hg : o.guard = some (j, b)) {o2 : Oper} (h2 : ops[j]? = some o2) {t : Tmp} (hd : o2.dst = some t) (hv : a.tmps[t]? = some (.bool b))
    (h : wpList P ops Q ({ o with guard := none } :: rest) a W) : wpList P ops Q (o :: rest) a W := by
  show if Region.wanted o (yielded ops a.tmps) = true then _ else _
  rw [if_pos (wanted_of hg h2 hd hv)]
  have h' : if Region.wanted { o with guard := none } (yielded ops a.tmps) = true then _ else _ := h
  rw [if_pos (wanted_free rfl)] at h'
  exact h'
/-- A curve's cells, and a pair's. -/
def C5 (p d q bx by' : Int) : Array Value := #[.int .i64 p, .int .i64 d, .int .i64 q, .int .i64 bx, .int .i64 by']
def P2 (x y : Int) : Array Value := #[.int .i64 x, .int .i64 y]
theorem info_C (p d q bx by' : Int) : (Try.prog.info? 25).map (·.size) = some (C5 p d q bx by').size := by
  have h : (Try.prog.info? 25).map (·.size) = some 5 := by kernel_rfl
  exact h
theorem info_P (x y : Int) : (Try.prog.info? 27).map (·.size) = some (P2 x y).size := by
  have h : (Try.prog.info? 27).map (·.size) = some 2 := by kernel_rfl
  exact h
theorem C5_one (p d q bx by' : Int) : (C5 p d q bx by').all (·.oneCell') = true := by
  rw [Array.all_eq_true_iff_forall_mem]
  intro v hv
  simp only [C5, List.mem_toArray, List.mem_cons, List.not_mem_nil, or_false] at hv
  rcases hv with rfl | rfl | rfl | rfl | rfl <;> rfl
theorem P2_one (x y : Int) : (P2 x y).all (·.oneCell') = true := by
  rw [Array.all_eq_true_iff_forall_mem]
  intro v hv
  simp only [P2, List.mem_toArray, List.mem_cons, List.not_mem_nil, or_false] at hv
  rcases hv with rfl | rfl <;> rfl
theorem eqP2 (d : Nat) (w : World) (x0 y0 x1 y1 : Int) : (Op.equalIn (d + 2) 27 (.agg (P2 x0 x1)) (.agg (P2 y0 y1))).run Try.prog w = .ok (x0 == y0 && (x1 == y1)) w := eqA27 d w x0 y0 x1 y1
attribute [local go_sem high] eqP2
theorem wrapI (n : Int) : IntKind.i64.wrap n = wrap64 n := by
  unfold wrap64
  exact IntKind.wrap_i64 n
/-- A block that one operation (ja) makes and another one (jb) fills, in a region that draws. -/
def blkI (w : World) (base : List (Nat × Array Value × TypeId)) (Z F : Array Value) (t : TypeId) (ja jb : Nat) (listed : Array Bool) (v : Value) (W : World) : Prop :=
  (listed.getD ja false = false ∧ Arrs w W base) ∨ ∃ g, v = .pointer (some ⟨g, 0, none⟩) ∧ ((listed.getD jb false = false ∧ Arrs w W ((g, Z, t) :: base)) ∨ (listed.getD jb false = true ∧ Arrs w W ((g, F, t) :: base)))
section
variable {w : World} {base : List (Nat × Array Value × TypeId)} {Z F : Array Value} {t : TypeId} {ja jb : Nat} {listed : Array Bool} {v : Value} {W : World}
theorem blkI.below {W' : World} (h : blkI w base Z F t ja jb listed v W) (hb : Below W.heap.size W W') (i : Nat) (h8 : i ≠ ja) (h9 : i ≠ jb) : blkI w base Z F t ja jb (listed.setIfInBounds i true) v W' := by
  unfold blkI
  rw [getD_set_ne false h8, getD_set_ne false h9]
  rcases h with ⟨h1, h2⟩ | ⟨g, h1, ⟨h2, h3⟩ | ⟨h2, h3⟩⟩
  · exact .inl ⟨h1, h2.below hb⟩
  · exact .inr ⟨g, h1, .inl ⟨h2, h3.below hb⟩⟩
  · exact .inr ⟨g, h1, .inr ⟨h2, h3.below hb⟩⟩
theorem blkI.none_ (h : blkI w base Z F t ja jb listed v W) : Arrs w W base := by
  rcases h with ⟨_, h2⟩ | ⟨g, h1, ⟨h2, h3⟩ | ⟨h2, h3⟩⟩
  · exact h2
  · exact h3.drop
  · exact h3.drop
theorem blkI.made (h : blkI w base Z F t ja jb listed v W) (hj : ja ≠ jb) (h9 : listed.getD jb false = false) : blkI w base Z F t ja jb (listed.setIfInBounds ja true) (.pointer (some ⟨W.heap.size, 0, none⟩)) (W.alloc (.cells Z t)) :=
  .inr ⟨_, rfl, .inl ⟨by rw [getD_set_ne false hj]; exact h9, h.none_.alloc rfl⟩⟩
theorem blkI.open_ (h : blkI w base Z F t ja jb listed v W) (h8 : listed.getD ja false = true) (h9 : listed.getD jb false = false) : ∃ g, v = .pointer (some ⟨g, 0, none⟩) ∧ Arrs w W ((g, Z, t) :: base) := by
  rcases h with ⟨h2, _⟩ | ⟨g, h1, ⟨_, h3⟩ | ⟨h2, _⟩⟩
  · rw [h8] at h2
    cases h2
  · exact ⟨g, h1, h3⟩
  · rw [h9] at h2
    cases h2
theorem blkI.end_ (h : blkI w base Z F t ja jb listed v W) (h8 : listed.getD ja false = true) (h9 : listed.getD jb false = true) : ∃ g, v = .pointer (some ⟨g, 0, none⟩) ∧ Arrs w W ((g, F, t) :: base) := by
  rcases h with ⟨h2, _⟩ | ⟨g, h1, ⟨h2, _⟩ | ⟨_, h3⟩⟩
  · rw [h8] at h2
    cases h2
  · rw [h9] at h2
    cases h2
  · exact ⟨g, h1, h3⟩
end
/-- A whole struct is written: one operation of a region that draws. -/
theorem op_store {P : Program} {ops : Array Oper} {Q : Exit → Act → World → Prop} {i : Nat} {o : Oper} {K : Act → World → Prop} {a : Act} {w : World} (hi : ops[i]? = some o) (hg : o.guard = none) (ty : TypeId) (x y : Operand) (ho : o.op = .store ty x y)
    {g : Nat} {cs old : Array Value} {t : TypeId} (hx : a.eval x = .pointer (some ⟨g, 0, none⟩)) (hy : a.eval y = .agg cs) (hb : w.heap[g]? = some (.cells old t (0, 0))) (hs : (P.info? ty).map (·.size) = some cs.size) (hold : old.size = cs.size) (h1 : cs.all (·.oneCell') = true)
    (h : K (a.put o.dst undef) (w.setRow g cs)) : wpOp P ops Q i K a w := by
  unfold wpOp
  rw [hi]
  show if Region.wanted o (yielded ops a.tmps) = true then _ else _
  rw [if_pos (wanted_free hg)]
  exact .inl (wp_store_row ty x y ho g cs hx hy t old hb hs hold h1 h)
/-- An aggregate is built: one operation of a region that draws. -/
theorem op_build {P : Program} {ops : Array Oper} {Q : Exit → Act → World → Prop} {i : Nat} {o : Oper} {K : Act → World → Prop} {a : Act} {w : World} (hi : ops[i]? = some o) (hg : o.guard = none) (t : TypeId) (parts : Array (Nat × Operand)) (ho : o.op = .build t parts) (cs : Array Value)
    (hb : P.built t (parts.map fun (i, x) => (i, a.eval x)).toList = some cs) (h : K (a.put o.dst (.agg cs)) w) : wpOp P ops Q i K a w := by
  unfold wpOp
  rw [hi]
  show if Region.wanted o (yielded ops a.tmps) = true then _ else _
  rw [if_pos (wanted_free hg)]
  refine .inl (wp_build t parts ho (by rw [hb]; rfl) ?_)
  rw [hb]
  exact h
/-- What the operations of the statement that takes the other side give. -/
def tabN (k a s4 p x n nn y b r r0 : Value) (pp px py : Value) : Nat → Value
  | 0 => k
  | 1 => a
  | 2 | 7 => pp
  | 3 | 8 => p
  | 4 => px
  | 5 => x
  | 6 => n
  | 9 => nn
  | 10 => py
  | 11 => y
  | 12 => b
  | 13 | 14 => r
  | 15 => r0
  | 16 => .bool true
  | _ => undef
def tnFact (c : Nat → Value) : Nat → Value → World → Prop := fun j v _ => j < 17 → v = c j
set_option maxHeartbeats 8000000 in
set_option maxRecDepth 100000 in
theorem lawGood (A0 : Option Addr) (c0 : Nat) (l0 : List Int) (w : World) (p d q bx by' x y u v x1 y1 x3 y3 x4 y4 x7 y7 x8 y8 xa ya a0 a1 : Int) (bs : List Int) (p2 d2 q2 bx2 by2 r s : Int) (t : Bool) (bs2 : List Int) (hp : ¬ p = 0)
    (HBig : Aside0 (∀ W : World, Below w.heap.size w W → Calls Try.prog 5 #[.slice A0 l0.length c0] W fun e w' => e = .returned (.bool false) ∧ Below W.heap.size W w'))
    (HDraw : Aside0 (∀ W : World, Below w.heap.size w W → Calls Try.prog 6 #[.slice A0 l0.length c0] W fun e w' => e = .returned (.tuple #[.agg (C5 p d q bx by'), .agg (P2 x y), .agg (P2 u v)]) ∧ Below W.heap.size W w'))
    (HOk : Aside0 (∀ W : World, Calls Try.prog 7 #[.agg (C5 p d q bx by')] W fun e w' => e = .returned (.bool true) ∧ Below W.heap.size W w'))
    (HPair : Aside0 (∀ W : World, Calls Try.prog 8 #[.agg (C5 p d q bx by'), .agg (P2 x y)] W fun e w' => e = .returned (.bool true) ∧ Below W.heap.size W w'))
    (HE1 : Aside0 (∀ W : World, Calls Try.prog 9 #[.agg (C5 p d q bx by'), .agg (P2 x y), .agg (P2 u v)] W fun e w' => e = .returned (.tuple #[.agg (P2 x1 y1), .bool true]) ∧ Below W.heap.size W w'))
    (HE2 : Aside0 (∀ W : World, Calls Try.prog 9 #[.agg (C5 p d q bx by'), .agg (P2 u v), .agg (P2 x y)] W fun e w' => e = .returned (.tuple #[.agg (P2 x1 y1), .bool true]) ∧ Below W.heap.size W w'))
    (HE3 : Aside0 (∀ W : World, Calls Try.prog 9 #[.agg (C5 p d q bx by'), .agg (P2 x1 y1), .agg (P2 bx by')] W fun e w' => e = .returned (.tuple #[.agg (P2 x3 y3), .bool true]) ∧ Below W.heap.size W w'))
    (HE4 : Aside0 (∀ W : World, Calls Try.prog 9 #[.agg (C5 p d q bx by'), .agg (P2 u v), .agg (P2 bx by')] W fun e w' => e = .returned (.tuple #[.agg (P2 x4 y4), .bool true]) ∧ Below W.heap.size W w'))
    (HE5 : Aside0 (∀ W : World, Calls Try.prog 9 #[.agg (C5 p d q bx by'), .agg (P2 x y), .agg (P2 x4 y4)] W fun e w' => e = .returned (.tuple #[.agg (P2 x3 y3), .bool true]) ∧ Below W.heap.size W w'))
    (HE6 : Aside0 (∀ W : World, Calls Try.prog 9 #[.agg (C5 p d q bx by'), .agg (P2 x y), .agg (P2 (Int.tmod (wrap64 (p - x)) p) y)] W fun e w' => e = .returned (.tuple #[.agg (P2 0 1), .bool true]) ∧ Below W.heap.size W w'))
    (HE9 : Aside0 (∀ W : World, Calls Try.prog 9 #[.agg (C5 p d q bx by'), .agg (P2 x7 y7), .agg (P2 x y)] W fun e w' => e = .returned (.tuple #[.agg (P2 x8 y8), .bool true]) ∧ Below W.heap.size W w'))
    (HAt0 : Aside0 (∀ W : World, Below w.heap.size w W → Calls Try.prog 10 #[.slice A0 l0.length c0, .int .i64 0] W fun e w' => e = .returned (.int .i64 a0) ∧ Below W.heap.size W w'))
    (HAt1 : Aside0 (∀ W : World, Below w.heap.size w W → Calls Try.prog 10 #[.slice A0 l0.length c0, .int .i64 1] W fun e w' => e = .returned (.int .i64 a1) ∧ Below W.heap.size W w'))
    (HM7 : Aside0 (∀ W : World, Calls Try.prog 11 #[.agg (C5 p d q bx by'), .int .i64 (wrap64 (a0 * a1)), .agg (P2 x y)] W fun e w' => e = .returned (.tuple #[.agg (P2 x7 y7), .bool true]) ∧ Below W.heap.size W w'))
    (HM8 : Aside0 (∀ W : World, Calls Try.prog 11 #[.agg (C5 p d q bx by'), .int .i64 (wrap64 (wrap64 (a0 * a1) + 1)), .agg (P2 x y)] W fun e w' => e = .returned (.tuple #[.agg (P2 x8 y8), .bool true]) ∧ Below W.heap.size W w'))
    (HMa : Aside0 (∀ W : World, Calls Try.prog 11 #[.agg (C5 p d q bx by'), .int .i64 8, .agg (P2 x y)] W fun e w' => e = .returned (.tuple #[.agg (P2 xa ya), .bool true]) ∧ Below W.heap.size W w'))
    (HCo : Aside0 (∀ W : World, Calls Try.prog 12 #[.agg (C5 p d q bx by'), .agg (P2 x y)] W fun e w' => e = .returned (.tuple #[.agg (P2 xa ya), .bool true]) ∧ Below W.heap.size W w'))
    (HBy : Aside0 (∀ W : World, Calls Try.prog 13 #[.agg (C5 p d q bx by'), .agg (P2 x y)] W fun e w' => ∃ (Av : Option Addr) (cv : Nat), e = .returned (.tuple #[.slice Av bs.length cv, .bool true]) ∧ RdB w' Av bs ∧ bs.length ≤ cv ∧ Below W.heap.size W w'))
    (HRd : Aside0 (∀ (W : World) (A : Option Addr) (c : Nat), Kd.C (Kd.int .u8) W A bs.length bs → bs.length ≤ c → Calls Try.prog 14 #[.agg (C5 p d q bx by'), .slice A bs.length c] W fun e w' => e = .returned (.tuple #[.agg (P2 x y), .bool true]) ∧ Below W.heap.size W w'))
    (HDr2 : Aside0 (∀ W : World, Below w.heap.size w W → Calls Try.prog 15 #[.slice A0 l0.length c0] W fun e w' => ∃ (Av : Option Addr) (cv : Nat), e = .returned (.tuple #[.agg (C5 p2 d2 q2 bx2 by2), .slice Av bs2.length cv]) ∧ RdB w' Av bs2 ∧ bs2.length ≤ cv ∧ Below W.heap.size W w'))
    (HRd2 : Aside0 (∀ (W : World) (A : Option Addr) (c : Nat), Kd.C (Kd.int .u8) W A bs2.length bs2 → bs2.length ≤ c → Calls Try.prog 14 #[.agg (C5 p2 d2 q2 bx2 by2), .slice A bs2.length c] W fun e w' => e = .returned (.tuple #[.agg (P2 r s), .bool t]) ∧ Below W.heap.size W w'))
    (HBy2 : Aside0 (t = true → ∀ W : World, Calls Try.prog 13 #[.agg (C5 p2 d2 q2 bx2 by2), .agg (P2 r s)] W fun e w' => ∃ (Av : Option Addr) (cv : Nat), e = .returned (.tuple #[.slice Av bs2.length cv, .bool true]) ∧ RdB w' Av bs2 ∧ bs2.length ≤ cv ∧ Below W.heap.size W w'))
    (HT0 : Aside0 (t = false → r = 0 ∧ s = 0)) :
    Calls Try.prog 3 #[.slice A0 l0.length c0] w fun e w' => e = .returned (.bool true) ∧ Below w.heap.size w w' := by
  have HS : Aside0 (Arrs w w []) := ⟨Arrs.refl w⟩
  go_enter Try.func3, Try.ntmps3
  go_upto_region 12 with (first
   | (go_at_call 5; ((with_reducible refine (HBig.out _ HS.out.b).mono ?_); rintro e wn_ ⟨rfl, hb⟩; have h_ := Aside0.mk (HS.out.below hb); clear HS; have HS := h_; clear h_; clear hb))
   | (go_at_call 6; ((with_reducible refine (HDraw.out _ HS.out.b).mono ?_); rintro e wn_ ⟨rfl, hb⟩; have h_ := Aside0.mk (HS.out.below hb); clear HS; have HS := h_; clear h_; clear hb))
   | ((with_reducible refine gate_dst (N := 3) rfl ?_); refine box_arrs2 ?hg3 (N := 3) ?hd3 (C5 0 0 0 0 0) 25 HS ?hr3 ?_; (case hd3 => rfl); (case hg3 => rfl); (case hr3 => first | (go_simp; done) | (go_simp; rfl)); intro g3 w3 h_ k_; clear HS k_; have HS := h_; clear h_)
   | ((with_reducible refine gate_dst (N := 4) rfl ?_); refine box_arrs2 ?hg4 (N := 4) ?hd4 (P2 0 0) 27 HS ?hr4 ?_; (case hd4 => rfl); (case hg4 => rfl); (case hr4 => first | (go_simp; done) | (go_simp; rfl)); intro g4 w4 h_ k_; clear HS k_; have HS := h_; clear h_)
   | ((with_reducible refine gate_dst (N := 5) rfl ?_); refine box_arrs2 ?hg5 (N := 5) ?hd5 (P2 0 0) 27 HS ?hr5 ?_; (case hd5 => rfl); (case hg5 => rfl); (case hr5 => first | (go_simp; done) | (go_simp; rfl)); intro g5 w5 h_ k_; clear HS k_; have HS := h_; clear h_)
   | ((with_reducible refine gate_store (t := 25) (p := 3) rfl ?_); refine store_arrs2 rfl 25 (.tmp 45) rfl rfl 2 (C5 p d q bx by') HS rfl rfl rfl (info_C _ _ _ _ _) (by rfl) (C5_one _ _ _ _ _) (by decide) ?_; intro w5 h_ k_; clear HS k_; have HS := h_; clear h_)
   | ((with_reducible refine gate_store (t := 27) (p := 4) rfl ?_); refine store_arrs2 rfl 27 (.tmp 46) rfl rfl 1 (P2 x y) HS rfl rfl rfl (info_P _ _) (by rfl) (P2_one _ _) (by decide) ?_; intro w5 h_ k_; clear HS k_; have HS := h_; clear h_)
   | ((with_reducible refine gate_store (t := 27) (p := 5) rfl ?_); refine store_arrs2 rfl 27 (.tmp 47) rfl rfl 0 (P2 u v) HS rfl rfl rfl (info_P _ _) (by rfl) (P2_one _ _) (by decide) ?_; intro w5 h_ k_; clear HS k_; have HS := h_; clear h_)
   | ((with_reducible refine gate_dst (N := 48) rfl ?_); refine load_arrs rfl (N := 48) rfl 25 (.tmp 3) rfl 2 HS rfl rfl Try.underlying25 rfl (info_C _ _ _ _ _) ?_)
   | (go_at_call 7; ((with_reducible refine (HOk.out _).mono ?_); rintro e wn_ ⟨rfl, hb⟩; have h_ := Aside0.mk (HS.out.below hb); clear HS; have HS := h_; clear h_; clear hb))
   | ((with_reducible refine gate_dst (N := 52) rfl ?_); refine wpList_strip rfl rfl rfl rfl ?_; refine load_arrs rfl (N := 52) rfl 25 (.tmp 3) rfl 2 HS rfl rfl Try.underlying25 rfl (info_C _ _ _ _ _) ?_)
   | ((with_reducible refine gate_dst (N := 53) rfl ?_); refine wpList_strip rfl rfl rfl rfl ?_; refine load_arrs rfl (N := 53) rfl 27 (.tmp 4) rfl 1 HS rfl rfl Try.underlying27 rfl (info_P _ _) ?_)
   | (go_at_call 8; ((with_reducible refine (HPair.out _).mono ?_); rintro e wn_ ⟨rfl, hb⟩; have h_ := Aside0.mk (HS.out.below hb); clear HS; have HS := h_; clear h_; have ca3 : wn_.cell? ⟨g3, 3, none⟩ = some (.int .i64 bx) := (blk_cell (HS.out.get 2) 3).trans rfl; have ca4 : wn_.cell? ⟨g3, 4, none⟩ = some (.int .i64 by') := (blk_cell (HS.out.get 2) 4).trans rfl; clear hb))
   | ((with_reducible refine gate_dst (N := 61) rfl ?_); refine build_event rfl (N := 61) rfl 27 _ rfl (P2 bx by') (by kernel_rfl) ?_)
   | ((with_reducible refine gate_dst (N := 6) rfl ?_); refine box_arrs2 ?hg6 (N := 6) ?hd6 (P2 0 0) 27 HS ?hr6 ?_; (case hd6 => rfl); (case hg6 => rfl); (case hr6 => first | (go_simp; done) | (go_simp; rfl)); intro g6 w6 h_ k_; clear HS k_; have HS := h_; clear h_; (try clear ca3 ca4))
   | ((with_reducible refine gate_store (t := 27) (p := 6) rfl ?_); refine store_arrs2 rfl 27 (.tmp 61) rfl rfl 0 (P2 bx by') HS rfl rfl rfl (info_P _ _) (by rfl) (P2_one _ _) (by decide) ?_; intro w5 h_ k_; clear HS k_; have HS := h_; clear h_)
   | ((with_reducible refine gate_dst (N := 63) rfl ?_); refine load_arrs rfl (N := 63) rfl 25 (.tmp 3) rfl 3 HS rfl rfl Try.underlying25 rfl (info_C _ _ _ _ _) ?_)
   | ((with_reducible refine gate_dst (N := 64) rfl ?_); refine load_arrs rfl (N := 64) rfl 27 (.tmp 4) rfl 2 HS rfl rfl Try.underlying27 rfl (info_P _ _) ?_)
   | ((with_reducible refine gate_dst (N := 65) rfl ?_); refine load_arrs rfl (N := 65) rfl 27 (.tmp 5) rfl 1 HS rfl rfl Try.underlying27 rfl (info_P _ _) ?_)
   | (go_at_call 9; first | ((with_reducible refine (HE1.out _).mono ?_); rintro e wn_ ⟨rfl, hb⟩; have h_ := Aside0.mk (HS.out.below hb); clear HS; have HS := h_; clear h_; clear hb) | ((with_reducible refine (HE2.out _).mono ?_); rintro e wn_ ⟨rfl, hb⟩; have h_ := Aside0.mk (HS.out.below hb); clear HS; have HS := h_; clear h_; clear hb) | ((with_reducible refine (HE3.out _).mono ?_); rintro e wn_ ⟨rfl, hb⟩; have h_ := Aside0.mk (HS.out.below hb); clear HS; have HS := h_; clear h_; clear hb) | ((with_reducible refine (HE4.out _).mono ?_); rintro e wn_ ⟨rfl, hb⟩; have h_ := Aside0.mk (HS.out.below hb); clear HS; have HS := h_; clear h_; clear hb) | ((with_reducible refine (HE5.out _).mono ?_); rintro e wn_ ⟨rfl, hb⟩; have h_ := Aside0.mk (HS.out.below hb); clear HS; have HS := h_; clear h_; clear hb) | ((with_reducible refine (HE9.out _).mono ?_); rintro e wn_ ⟨rfl, hb⟩; have h_ := Aside0.mk (HS.out.below hb); clear HS; have HS := h_; clear h_; clear hb))
   | ((with_reducible refine gate_dst (N := 7) rfl ?_); refine box_arrs2 ?hg7 (N := 7) ?hd7 (P2 0 0) 27 HS ?hr7 ?_; (case hd7 => rfl); (case hg7 => rfl); (case hr7 => first | (go_simp; done) | (go_simp; rfl)); intro g7 w7 h_ k_; clear HS k_; have HS := h_; clear h_)
   | ((with_reducible refine gate_store (t := 27) (p := 7) rfl ?_); refine store_arrs2 rfl 27 (.tmp 67) rfl rfl 0 (P2 x1 y1) HS rfl rfl rfl (info_P _ _) (by rfl) (P2_one _ _) (by decide) ?_; intro w5 h_ k_; clear HS k_; have HS := h_; clear h_)
   | ((with_reducible refine gate_dst (N := 70) rfl ?_); refine load_arrs rfl (N := 70) rfl 25 (.tmp 3) rfl 4 HS rfl rfl Try.underlying25 rfl (info_C _ _ _ _ _) ?_)
   | ((with_reducible refine gate_dst (N := 71) rfl ?_); refine load_arrs rfl (N := 71) rfl 27 (.tmp 5) rfl 2 HS rfl rfl Try.underlying27 rfl (info_P _ _) ?_)
   | ((with_reducible refine gate_dst (N := 72) rfl ?_); refine load_arrs rfl (N := 72) rfl 27 (.tmp 4) rfl 3 HS rfl rfl Try.underlying27 rfl (info_P _ _) ?_)
   | ((with_reducible refine gate_dst (N := 9) rfl ?_); refine box_arrs2 ?hg9 (N := 9) ?hd9 (P2 0 0) 27 HS ?hr9 ?_; (case hd9 => rfl); (case hg9 => rfl); (case hr9 => first | (go_simp; done) | (go_simp; rfl)); intro g9 w9 h_ k_; clear HS k_; have HS := h_; clear h_)
   | ((with_reducible refine gate_store (t := 27) (p := 9) rfl ?_); refine store_arrs2 rfl 27 (.tmp 74) rfl rfl 0 (P2 x1 y1) HS rfl rfl rfl (info_P _ _) (by rfl) (P2_one _ _) (by decide) ?_; intro w5 h_ k_; clear HS k_; have HS := h_; clear h_)
   | ((with_reducible refine gate_dst (N := 77) rfl ?_); refine load_arrs rfl (N := 77) rfl 25 (.tmp 3) rfl 5 HS rfl rfl Try.underlying25 rfl (info_C _ _ _ _ _) ?_)
   | ((with_reducible refine gate_dst (N := 78) rfl ?_); refine load_arrs rfl (N := 78) rfl 27 (.tmp 7) rfl 1 HS rfl rfl Try.underlying27 rfl (info_P _ _) ?_)
   | ((with_reducible refine gate_dst (N := 79) rfl ?_); refine load_arrs rfl (N := 79) rfl 27 (.tmp 6) rfl 2 HS rfl rfl Try.underlying27 rfl (info_P _ _) ?_)
   | ((with_reducible refine gate_dst (N := 11) rfl ?_); refine box_arrs2 ?hg11 (N := 11) ?hd11 (P2 0 0) 27 HS ?hr11 ?_; (case hd11 => rfl); (case hg11 => rfl); (case hr11 => first | (go_simp; done) | (go_simp; rfl)); intro g11 w11 h_ k_; clear HS k_; have HS := h_; clear h_)
   | ((with_reducible refine gate_store (t := 27) (p := 11) rfl ?_); refine store_arrs2 rfl 27 (.tmp 81) rfl rfl 0 (P2 x3 y3) HS rfl rfl rfl (info_P _ _) (by rfl) (P2_one _ _) (by decide) ?_; intro w5 h_ k_; clear HS k_; have HS := h_; clear h_)
   | ((with_reducible refine gate_dst (N := 84) rfl ?_); refine load_arrs rfl (N := 84) rfl 25 (.tmp 3) rfl 6 HS rfl rfl Try.underlying25 rfl (info_C _ _ _ _ _) ?_)
   | ((with_reducible refine gate_dst (N := 85) rfl ?_); refine load_arrs rfl (N := 85) rfl 27 (.tmp 5) rfl 4 HS rfl rfl Try.underlying27 rfl (info_P _ _) ?_)
   | ((with_reducible refine gate_dst (N := 86) rfl ?_); refine load_arrs rfl (N := 86) rfl 27 (.tmp 6) rfl 3 HS rfl rfl Try.underlying27 rfl (info_P _ _) ?_)
   | ((with_reducible refine gate_dst (N := 13) rfl ?_); refine box_arrs2 ?hg13 (N := 13) ?hd13 (P2 0 0) 27 HS ?hr13 ?_; (case hd13 => rfl); (case hg13 => rfl); (case hr13 => first | (go_simp; done) | (go_simp; rfl)); intro g13 w13 h_ k_; clear HS k_; have HS := h_; clear h_)
   | ((with_reducible refine gate_store (t := 27) (p := 13) rfl ?_); refine store_arrs2 rfl 27 (.tmp 88) rfl rfl 0 (P2 x4 y4) HS rfl rfl rfl (info_P _ _) (by rfl) (P2_one _ _) (by decide) ?_; intro w5 h_ k_; clear HS k_; have HS := h_; clear h_)
   | ((with_reducible refine gate_dst (N := 91) rfl ?_); refine load_arrs rfl (N := 91) rfl 25 (.tmp 3) rfl 7 HS rfl rfl Try.underlying25 rfl (info_C _ _ _ _ _) ?_)
   | ((with_reducible refine gate_dst (N := 92) rfl ?_); refine load_arrs rfl (N := 92) rfl 27 (.tmp 4) rfl 6 HS rfl rfl Try.underlying27 rfl (info_P _ _) ?_)
   | ((with_reducible refine gate_dst (N := 93) rfl ?_); refine load_arrs rfl (N := 93) rfl 27 (.tmp 13) rfl 0 HS rfl rfl Try.underlying27 rfl (info_P _ _) ?_)
   | ((with_reducible refine gate_dst (N := 15) rfl ?_); refine box_arrs2 ?hg15 (N := 15) ?hd15 (P2 0 0) 27 HS ?hr15 ?_; (case hd15 => rfl); (case hg15 => rfl); (case hr15 => first | (go_simp; done) | (go_simp; rfl)); intro g15 w15 h_ k_; clear HS k_; have HS := h_; clear h_)
   | ((with_reducible refine gate_store (t := 27) (p := 15) rfl ?_); refine store_arrs2 rfl 27 (.tmp 95) rfl rfl 0 (P2 x3 y3) HS rfl rfl rfl (info_P _ _) (by rfl) (P2_one _ _) (by decide) ?_; intro w5 h_ k_; clear HS k_; have HS := h_; clear h_))
  refine wp_region_stable 19 (by kernel_rfl) (by kernel_rfl) (fun listed a W => ∃ V : Nat → Value, a = (⟨#[.slice A0 l0.length c0, undef, .bool false, .pointer (some ⟨g3, 0, none⟩), .pointer (some ⟨g4, 0, none⟩), .pointer (some ⟨g5, 0, none⟩), .pointer (some ⟨g6, 0, none⟩), .pointer (some ⟨g7, 0, none⟩), .bool true, .pointer (some ⟨g9, 0, none⟩), .bool true, .pointer (some ⟨g11, 0, none⟩), .bool true, .pointer (some ⟨g13, 0, none⟩), .bool true, .pointer (some ⟨g15, 0, none⟩), .bool true, V 17, undef, undef, undef, undef, undef, undef, undef, undef, undef, undef, undef, undef, undef, undef, undef, undef, undef, undef, undef, undef, undef, undef, .slice A0 l0.length c0, .bool false, .tuple #[.agg (C5 p d q bx by'), .agg (P2 x y), .agg (P2 u v)], .slice A0 l0.length c0, .tuple #[.agg (C5 p d q bx by'), .agg (P2 x y), .agg (P2 u v)], .agg (C5 p d q bx by'), .agg (P2 x y), .agg (P2 u v), .agg (C5 p d q bx by'), .bool true, .bool false, .bool false, .agg (C5 p d q bx by'), .agg (P2 x y), .bool true, .bool false, .bool false, .pointer (some ⟨g3, 3, none⟩), .int .i64 bx, .pointer (some ⟨g3, 4, none⟩), .int .i64 by', .agg (P2 bx by'), .tuple #[.agg (P2 x1 y1), .bool true], .agg (C5 p d q bx by'), .agg (P2 x y), .agg (P2 u v), .tuple #[.agg (P2 x1 y1), .bool true], .agg (P2 x1 y1), .bool true, .tuple #[.agg (P2 x1 y1), .bool true], .agg (C5 p d q bx by'), .agg (P2 u v), .agg (P2 x y), .tuple #[.agg (P2 x1 y1), .bool true], .agg (P2 x1 y1), .bool true, .tuple #[.agg (P2 x3 y3), .bool true], .agg (C5 p d q bx by'), .agg (P2 x1 y1), .agg (P2 bx by'), .tuple #[.agg (P2 x3 y3), .bool true], .agg (P2 x3 y3), .bool true, .tuple #[.agg (P2 x4 y4), .bool true], .agg (C5 p d q bx by'), .agg (P2 u v), .agg (P2 bx by'), .tuple #[.agg (P2 x4 y4), .bool true], .agg (P2 x4 y4), .bool true, .tuple #[.agg (P2 x3 y3), .bool true], .agg (C5 p d q bx by'), .agg (P2 x y), .agg (P2 x4 y4), .tuple #[.agg (P2 x3 y3), .bool true], .agg (P2 x3 y3), .bool true, V 14, V 0, V 1, V 2, V 3, V 4, V 5, V 6, V 7, V 8, V 9, V 10, V 11, V 12, V 13, V 15, V 16, undef, undef, undef, undef, undef, undef, undef, undef, undef, undef, undef, undef, undef, undef, undef, undef, undef, undef, undef, undef, undef, undef, undef, undef, undef, undef, undef, undef, undef, undef, undef, undef, undef, undef, undef, undef, undef, undef, undef, undef, undef, undef, undef, undef, undef, undef, undef, undef, undef, undef, undef, undef, undef, undef, undef, undef, undef, undef, undef, undef, undef, undef, undef, undef, undef, undef, undef, undef, undef, undef, undef, undef, undef, undef, undef, undef, undef, undef, undef, undef, undef, undef, undef, undef, undef, undef, undef, undef, undef, undef, undef, undef, undef, undef, undef, undef, undef, undef, undef, undef, undef, undef, undef, undef, undef, undef, undef, undef, undef, undef, undef, undef, undef, undef, undef, undef, undef, undef, undef, undef, undef, undef], []⟩ : Act) ∧ StI (tnFact (tabN (.agg (C5 p d q bx by')) (.agg (P2 x y)) undef (.int .i64 p) (.int .i64 x) (.int .i64 (wrap64 (p - x))) (.int .i64 (Int.tmod (wrap64 (p - x)) p)) (.int .i64 y) (.agg (P2 (Int.tmod (wrap64 (p - x)) p) y)) (.tuple #[.agg (P2 0 1), .bool true]) (.agg (P2 0 1)) (.pointer (some ⟨g3, 0, none⟩)) (.pointer (some ⟨g4, 0, none⟩)) (.pointer (some ⟨g4, 1, none⟩)))) 19 listed V W ∧ blkI w [(g15, P2 x3 y3, 27), (g13, P2 x4 y4, 27), (g11, P2 x3 y3, 27), (g9, P2 x1 y1, 27), (g7, P2 x1 y1, 27), (g6, P2 bx by', 27), (g5, P2 u v, 27), (g4, P2 x y, 27), (g3, C5 p d q bx by', 25)] (P2 0 0) (P2 0 1) 27 17 18 listed (V 17) W) ?h0 ?hstep ?hend
  case h0 => exact ⟨fun _ => undef, rfl, (by intro j hj h; rw [getD_replicate_false] at h; cases h), .inl ⟨getD_replicate_false _ _, HS.out.drew1⟩⟩
  case hstep =>
    clear HS
    rintro listed a W inv ⟨V, rfl, HI, HK⟩ i hi hr
    have hgo : ∀ (vv : Value) (W' : World), i ≠ 17 → i ≠ 18 → Below W.heap.size W W' → tnFact (tabN (.agg (C5 p d q bx by')) (.agg (P2 x y)) undef (.int .i64 p) (.int .i64 x) (.int .i64 (wrap64 (p - x))) (.int .i64 (Int.tmod (wrap64 (p - x)) p)) (.int .i64 y) (.agg (P2 (Int.tmod (wrap64 (p - x)) p) y)) (.tuple #[.agg (P2 0 1), .bool true]) (.agg (P2 0 1)) (.pointer (some ⟨g3, 0, none⟩)) (.pointer (some ⟨g4, 0, none⟩)) (.pointer (some ⟨g4, 1, none⟩))) i vv W' → StI (tnFact (tabN (.agg (C5 p d q bx by')) (.agg (P2 x y)) undef (.int .i64 p) (.int .i64 x) (.int .i64 (wrap64 (p - x))) (.int .i64 (Int.tmod (wrap64 (p - x)) p)) (.int .i64 y) (.agg (P2 (Int.tmod (wrap64 (p - x)) p) y)) (.tuple #[.agg (P2 0 1), .bool true]) (.agg (P2 0 1)) (.pointer (some ⟨g3, 0, none⟩)) (.pointer (some ⟨g4, 0, none⟩)) (.pointer (some ⟨g4, 1, none⟩)))) 19 (listed.setIfInBounds i true) (fun j => if j = i then vv else V j) W' ∧ blkI w [(g15, P2 x3 y3, 27), (g13, P2 x4 y4, 27), (g11, P2 x3 y3, 27), (g9, P2 x1 y1, 27), (g7, P2 x1 y1, 27), (g6, P2 bx by', 27), (g5, P2 u v, 27), (g4, P2 x y, 27), (g3, C5 p d q bx by', 25)] (P2 0 0) (P2 0 1) 27 17 18 (listed.setIfInBounds i true) (if 17 = i then vv else V 17) W' :=
      fun vv W' h8 h9 hb hf => ⟨HI.step (fun j v h => h) i vv hf, (by rw [if_neg (fun e => h8 e.symm)]; exact HK.below hb i h8 h9)⟩
    match i, hi, hr, hgo with
    | 0, _, hr, hgo =>
      exact op_load rfl rfl 25 (.tmp 3) rfl rfl (HK.none_.get 8) Try.underlying25 rfl (info_C _ _ _ _ _) ⟨_, rfl, hgo _ _ (by decide) (by decide) (Below.refl _ _) (fun _ => rfl)⟩
    | 1, _, hr, hgo =>
      exact op_load rfl rfl 27 (.tmp 4) rfl rfl (HK.none_.get 7) Try.underlying27 rfl (info_P _ _) ⟨_, rfl, hgo _ _ (by decide) (by decide) (Below.refl _ _) (fun _ => rfl)⟩
    | 2, _, hr, hgo =>
      refine op_val rfl rfl (v := .pointer (some ⟨g3, 0, none⟩)) (w' := W) ?_ ⟨_, rfl, hgo _ _ (by decide) (by decide) (Below.refl _ _) (fun _ => rfl)⟩
      first | (go_simp; done) | (go_simp; rfl) | (go_simp; exact wrapI _)
    | 3, _, hr, hgo =>
      have e2 : V 2 = .pointer (some ⟨g3, 0, none⟩) := HI 2 (by omega) (dep_of hr (by kernel_rfl)) (by omega)
      have hx : W.cell? ⟨g3, 0, none⟩ = some (.int .i64 p) := (blk_cell (HK.none_.get 8) 0).trans rfl
      refine op_val rfl rfl (v := .int .i64 p) (w' := W) ?_ ⟨_, rfl, hgo _ _ (by decide) (by decide) (Below.refl _ _) (fun _ => rfl)⟩
      first | (go_simp; done) | (go_simp; rfl) | (go_simp; exact wrapI _)
    | 4, _, hr, hgo =>
      refine op_val rfl rfl (v := .pointer (some ⟨g4, 0, none⟩)) (w' := W) ?_ ⟨_, rfl, hgo _ _ (by decide) (by decide) (Below.refl _ _) (fun _ => rfl)⟩
      first | (go_simp; done) | (go_simp; rfl) | (go_simp; exact wrapI _)
    | 5, _, hr, hgo =>
      have e4 : V 4 = .pointer (some ⟨g4, 0, none⟩) := HI 4 (by omega) (dep_of hr (by kernel_rfl)) (by omega)
      have hx : W.cell? ⟨g4, 0, none⟩ = some (.int .i64 x) := (blk_cell (HK.none_.get 7) 0).trans rfl
      refine op_val rfl rfl (v := .int .i64 x) (w' := W) ?_ ⟨_, rfl, hgo _ _ (by decide) (by decide) (Below.refl _ _) (fun _ => rfl)⟩
      first | (go_simp; done) | (go_simp; rfl) | (go_simp; exact wrapI _)
    | 6, _, hr, hgo =>
      have e3 : V 3 = .int .i64 p := HI 3 (by omega) (dep_of hr (by kernel_rfl)) (by omega)
      have e5 : V 5 = .int .i64 x := HI 5 (by omega) (dep_of hr (by kernel_rfl)) (by omega)
      refine op_val rfl rfl (v := .int .i64 (wrap64 (p - x))) (w' := W) ?_ ⟨_, rfl, hgo _ _ (by decide) (by decide) (Below.refl _ _) (fun _ => rfl)⟩
      first | (go_simp; done) | (go_simp; rfl) | (go_simp; exact wrapI _)
    | 7, _, hr, hgo =>
      refine op_val rfl rfl (v := .pointer (some ⟨g3, 0, none⟩)) (w' := W) ?_ ⟨_, rfl, hgo _ _ (by decide) (by decide) (Below.refl _ _) (fun _ => rfl)⟩
      first | (go_simp; done) | (go_simp; rfl) | (go_simp; exact wrapI _)
    | 8, _, hr, hgo =>
      have e7 : V 7 = .pointer (some ⟨g3, 0, none⟩) := HI 7 (by omega) (dep_of hr (by kernel_rfl)) (by omega)
      have hx : W.cell? ⟨g3, 0, none⟩ = some (.int .i64 p) := (blk_cell (HK.none_.get 8) 0).trans rfl
      refine op_val rfl rfl (v := .int .i64 p) (w' := W) ?_ ⟨_, rfl, hgo _ _ (by decide) (by decide) (Below.refl _ _) (fun _ => rfl)⟩
      first | (go_simp; done) | (go_simp; rfl) | (go_simp; exact wrapI _)
    | 9, _, hr, hgo =>
      have e6 : V 6 = .int .i64 (wrap64 (p - x)) := HI 6 (by omega) (dep_of hr (by kernel_rfl)) (by omega)
      have e8 : V 8 = .int .i64 p := HI 8 (by omega) (dep_of hr (by kernel_rfl)) (by omega)
      refine op_val rfl rfl (v := .int .i64 (Int.tmod (wrap64 (p - x)) p)) (w' := W) ?_ ⟨_, rfl, hgo _ _ (by decide) (by decide) (Below.refl _ _) (fun _ => rfl)⟩
      first | (go_simp; done) | (go_simp; rfl) | (go_simp; exact wrapI _)
    | 10, _, hr, hgo =>
      refine op_val rfl rfl (v := .pointer (some ⟨g4, 1, none⟩)) (w' := W) ?_ ⟨_, rfl, hgo _ _ (by decide) (by decide) (Below.refl _ _) (fun _ => rfl)⟩
      first | (go_simp; done) | (go_simp; rfl) | (go_simp; exact wrapI _)
    | 11, _, hr, hgo =>
      have e10 : V 10 = .pointer (some ⟨g4, 1, none⟩) := HI 10 (by omega) (dep_of hr (by kernel_rfl)) (by omega)
      have hx : W.cell? ⟨g4, 1, none⟩ = some (.int .i64 y) := (blk_cell (HK.none_.get 7) 1).trans rfl
      refine op_val rfl rfl (v := .int .i64 y) (w' := W) ?_ ⟨_, rfl, hgo _ _ (by decide) (by decide) (Below.refl _ _) (fun _ => rfl)⟩
      first | (go_simp; done) | (go_simp; rfl) | (go_simp; exact wrapI _)
    | 12, _, hr, hgo =>
      have e9 : V 9 = .int .i64 (Int.tmod (wrap64 (p - x)) p) := HI 9 (by omega) (dep_of hr (by kernel_rfl)) (by omega)
      have e11 : V 11 = .int .i64 y := HI 11 (by omega) (dep_of hr (by kernel_rfl)) (by omega)
      refine op_build rfl rfl 27 _ rfl (P2 (Int.tmod (wrap64 (p - x)) p) y) ?_ ⟨_, rfl, hgo _ _ (by decide) (by decide) (Below.refl _ _) (fun _ => rfl)⟩
      simp only [List.map_toArray, List.map_cons, List.map_nil]
      show Try.prog.built 27 [(0, V 9), (1, V 11)] = _
      rw [e9, e11]
      kernel_rfl
    | 13, _, hr, hgo =>
      have e0 : V 0 = .agg (C5 p d q bx by') := HI 0 (by omega) (dep_of hr (by kernel_rfl)) (by omega)
      have e1 : V 1 = .agg (P2 x y) := HI 1 (by omega) (dep_of hr (by kernel_rfl)) (by omega)
      have e12 : V 12 = .agg (P2 (Int.tmod (wrap64 (p - x)) p) y) := HI 12 (by omega) (dep_of hr (by kernel_rfl)) (by omega)
      refine op_call rfl rfl Try.func9 (by kernel_rfl) rfl #[.agg (C5 p d q bx by'), .agg (P2 x y), .agg (P2 (Int.tmod (wrap64 (p - x)) p) y)] rfl (by simp only [List.map_toArray, List.map_cons, List.map_nil]; show (⟨[V 0, V 1, V 12]⟩ : Array Value) = _; rw [e0, e1, e12]) ((HE6.out W).mono ?_)
      rintro e W' ⟨rfl, hb⟩
      exact ⟨_, rfl, _, rfl, hgo _ _ (by decide) (by decide) hb (fun _ => rfl)⟩
    | 14, _, hr, hgo =>
      have e13 : V 13 = .tuple #[.agg (P2 0 1), .bool true] := HI 13 (by omega) (dep_of hr (by kernel_rfl)) (by omega)
      refine op_val rfl rfl (v := .tuple #[.agg (P2 0 1), .bool true]) (w' := W) ?_ ⟨_, rfl, hgo _ _ (by decide) (by decide) (Below.refl _ _) (fun _ => rfl)⟩
      first | (go_simp; done) | (go_simp; rfl) | (go_simp; exact wrapI _)
    | 15, _, hr, hgo =>
      have e14 : V 14 = .tuple #[.agg (P2 0 1), .bool true] := HI 14 (by omega) (dep_of hr (by kernel_rfl)) (by omega)
      refine op_val rfl rfl (v := .agg (P2 0 1)) (w' := W) ?_ ⟨_, rfl, hgo _ _ (by decide) (by decide) (Below.refl _ _) (fun _ => rfl)⟩
      first | (go_simp; done) | (go_simp; rfl) | (go_simp; exact wrapI _)
    | 16, _, hr, hgo =>
      have e14 : V 14 = .tuple #[.agg (P2 0 1), .bool true] := HI 14 (by omega) (dep_of hr (by kernel_rfl)) (by omega)
      refine op_val rfl rfl (v := .bool true) (w' := W) ?_ ⟨_, rfl, hgo _ _ (by decide) (by decide) (Below.refl _ _) (fun _ => rfl)⟩
      first | (go_simp; done) | (go_simp; rfl) | (go_simp; exact wrapI _)
    | 17, _, hr, _ =>
      have h8 : listed.getD 17 false = false := getD_both (mem_ready.1 hr).1
      have h9 : listed.getD 18 false = false := by
        cases h : listed.getD 18 false with
        | false => rfl
        | true => rw [inv.closed 18 _ rfl h ⟨17, .data⟩ (by simp) rfl] at h8; cases h8
      refine op_val rfl rfl (v := .pointer (some ⟨W.heap.size, 0, none⟩)) (w' := W.alloc (.cells (P2 0 0) 27)) ?_ ⟨_, rfl, HI.step (fun j v h => h) 17 _ (fun h => absurd h (by decide)), HK.made (by decide) h9⟩
      first | (go_simp; done) | (go_simp; rfl)
    | 18, _, hr, _ =>
      have h9 : listed.getD 18 false = false := getD_both (mem_ready.1 hr).1
      obtain ⟨g, e17, hg⟩ := HK.open_ (dep_of hr (by kernel_rfl)) h9
      have e15 : V 15 = .agg (P2 0 1) := HI 15 (by omega) (dep_of hr (by kernel_rfl)) (by omega)
      refine op_store rfl rfl 27 _ _ rfl e17 e15 (hg.get 0) (info_P _ _) (by rfl) (P2_one _ _) ⟨fun j => if j = 18 then undef else V j, rfl, HI.step (fun j v h => h) 18 undef (fun h => absurd h (by decide)), .inr ⟨g, e17, .inr ⟨?_, hg.row (cs := P2 0 0) (t := 27) 0 (P2 0 1)⟩⟩⟩
      have hs : 18 < listed.size := by rw [inv.size]; decide
      simp [hs]
    | _ + 19, h, _, _ => exact absurd h (by omega)
  case hend =>
    clear HS
    rintro listed a W12 ⟨Va, rfl, HI, HK⟩ hall
    obtain ⟨g17, e17, hS⟩ := HK.end_ (hall 17 (by omega)) (hall 18 (by omega))
    have e16 : Va 16 = .bool true := HI 16 (by omega) (hall 16 (by omega)) (by omega)
    simp only [List.drop_succ_cons, List.drop_zero, e16, e17]
    have HS := Aside0.mk hS
    clear hS HI HK hall e16 e17
    go_upto_region 25 with (first
   | (go_at_call 10; first | ((with_reducible refine (HAt0.out _ HS.out.b).mono ?_); rintro e wn_ ⟨rfl, hb⟩; have h_ := Aside0.mk (HS.out.below hb); clear HS; have HS := h_; clear h_; clear hb) | ((with_reducible refine (HAt1.out _ HS.out.b).mono ?_); rintro e wn_ ⟨rfl, hb⟩; have h_ := Aside0.mk (HS.out.below hb); clear HS; have HS := h_; clear h_; clear hb))
   | ((with_reducible refine gate_dst (N := 120) rfl ?_); refine load_arrs rfl (N := 120) rfl 25 (.tmp 3) rfl 9 HS rfl rfl Try.underlying25 rfl (info_C _ _ _ _ _) ?_)
   | ((with_reducible refine gate_dst (N := 122) rfl ?_); refine load_arrs rfl (N := 122) rfl 27 (.tmp 4) rfl 8 HS rfl rfl Try.underlying27 rfl (info_P _ _) ?_)
   | (go_at_call 11; first | ((with_reducible refine (HM7.out _).mono ?_); rintro e wn_ ⟨rfl, hb⟩; have h_ := Aside0.mk (HS.out.below hb); clear HS; have HS := h_; clear h_; clear hb) | ((with_reducible refine (HM8.out _).mono ?_); rintro e wn_ ⟨rfl, hb⟩; have h_ := Aside0.mk (HS.out.below hb); clear HS; have HS := h_; clear h_; clear hb) | ((with_reducible refine (HMa.out _).mono ?_); rintro e wn_ ⟨rfl, hb⟩; have h_ := Aside0.mk (HS.out.below hb); clear HS; have HS := h_; clear h_; clear hb))
   | ((with_reducible refine gate_dst (N := 20) rfl ?_); refine box_arrs2 ?hg20 (N := 20) ?hd20 (P2 0 0) 27 HS ?hr20 ?_; (case hd20 => rfl); (case hg20 => rfl); (case hr20 => first | (go_simp; done) | (go_simp; rfl)); intro g20 w20 h_ k_; clear HS k_; have HS := h_; clear h_)
   | ((with_reducible refine gate_store (t := 27) (p := 20) rfl ?_); refine store_arrs2 rfl 27 (.tmp 124) rfl rfl 0 (P2 x7 y7) HS rfl rfl rfl (info_P _ _) (by rfl) (P2_one _ _) (by decide) ?_; intro w5 h_ k_; clear HS k_; have HS := h_; clear h_)
   | ((with_reducible refine gate_dst (N := 127) rfl ?_); refine load_arrs rfl (N := 127) rfl 25 (.tmp 3) rfl 10 HS rfl rfl Try.underlying25 rfl (info_C _ _ _ _ _) ?_)
   | ((with_reducible refine gate_dst (N := 130) rfl ?_); refine load_arrs rfl (N := 130) rfl 27 (.tmp 4) rfl 9 HS rfl rfl Try.underlying27 rfl (info_P _ _) ?_)
   | ((with_reducible refine gate_dst (N := 22) rfl ?_); refine box_arrs2 ?hg22 (N := 22) ?hd22 (P2 0 0) 27 HS ?hr22 ?_; (case hd22 => rfl); (case hg22 => rfl); (case hr22 => first | (go_simp; done) | (go_simp; rfl)); intro g22 w22 h_ k_; clear HS k_; have HS := h_; clear h_)
   | ((with_reducible refine gate_store (t := 27) (p := 22) rfl ?_); refine store_arrs2 rfl 27 (.tmp 132) rfl rfl 0 (P2 x8 y8) HS rfl rfl rfl (info_P _ _) (by rfl) (P2_one _ _) (by decide) ?_; intro w5 h_ k_; clear HS k_; have HS := h_; clear h_)
   | ((with_reducible refine gate_dst (N := 135) rfl ?_); refine load_arrs rfl (N := 135) rfl 25 (.tmp 3) rfl 11 HS rfl rfl Try.underlying25 rfl (info_C _ _ _ _ _) ?_)
   | ((with_reducible refine gate_dst (N := 136) rfl ?_); refine load_arrs rfl (N := 136) rfl 27 (.tmp 20) rfl 1 HS rfl rfl Try.underlying27 rfl (info_P _ _) ?_)
   | ((with_reducible refine gate_dst (N := 137) rfl ?_); refine load_arrs rfl (N := 137) rfl 27 (.tmp 4) rfl 10 HS rfl rfl Try.underlying27 rfl (info_P _ _) ?_)
   | (go_at_call 9; first | ((with_reducible refine (HE1.out _).mono ?_); rintro e wn_ ⟨rfl, hb⟩; have h_ := Aside0.mk (HS.out.below hb); clear HS; have HS := h_; clear h_; clear hb) | ((with_reducible refine (HE2.out _).mono ?_); rintro e wn_ ⟨rfl, hb⟩; have h_ := Aside0.mk (HS.out.below hb); clear HS; have HS := h_; clear h_; clear hb) | ((with_reducible refine (HE3.out _).mono ?_); rintro e wn_ ⟨rfl, hb⟩; have h_ := Aside0.mk (HS.out.below hb); clear HS; have HS := h_; clear h_; clear hb) | ((with_reducible refine (HE4.out _).mono ?_); rintro e wn_ ⟨rfl, hb⟩; have h_ := Aside0.mk (HS.out.below hb); clear HS; have HS := h_; clear h_; clear hb) | ((with_reducible refine (HE5.out _).mono ?_); rintro e wn_ ⟨rfl, hb⟩; have h_ := Aside0.mk (HS.out.below hb); clear HS; have HS := h_; clear h_; clear hb) | ((with_reducible refine (HE9.out _).mono ?_); rintro e wn_ ⟨rfl, hb⟩; have h_ := Aside0.mk (HS.out.below hb); clear HS; have HS := h_; clear h_; clear hb))
   | ((with_reducible refine gate_dst (N := 24) rfl ?_); refine box_arrs2 ?hg24 (N := 24) ?hd24 (P2 0 0) 27 HS ?hr24 ?_; (case hd24 => rfl); (case hg24 => rfl); (case hr24 => first | (go_simp; done) | (go_simp; rfl)); intro g24 w24 h_ k_; clear HS k_; have HS := h_; clear h_)
   | ((with_reducible refine gate_store (t := 27) (p := 24) rfl ?_); refine store_arrs2 rfl 27 (.tmp 139) rfl rfl 0 (P2 x8 y8) HS rfl rfl rfl (info_P _ _) (by rfl) (P2_one _ _) (by decide) ?_; intro w5 h_ k_; clear HS k_; have HS := h_; clear h_)
   | ((with_reducible refine gate_dst (N := 142) rfl ?_); refine load_arrs rfl (N := 142) rfl 25 (.tmp 3) rfl 12 HS rfl rfl Try.underlying25 rfl (info_C _ _ _ _ _) ?_)
   | ((with_reducible refine gate_dst (N := 143) rfl ?_); refine load_arrs rfl (N := 143) rfl 27 (.tmp 4) rfl 11 HS rfl rfl Try.underlying27 rfl (info_P _ _) ?_)
   | (go_at_call 12; ((with_reducible refine (HCo.out _).mono ?_); rintro e wn_ ⟨rfl, hb⟩; have h_ := Aside0.mk (HS.out.below hb); clear HS; have HS := h_; clear h_; clear hb))
   | ((with_reducible refine gate_dst (N := 26) rfl ?_); refine box_arrs2 ?hg26 (N := 26) ?hd26 (P2 0 0) 27 HS ?hr26 ?_; (case hd26 => rfl); (case hg26 => rfl); (case hr26 => first | (go_simp; done) | (go_simp; rfl)); intro g26 w26 h_ k_; clear HS k_; have HS := h_; clear h_)
   | ((with_reducible refine gate_store (t := 27) (p := 26) rfl ?_); refine store_arrs2 rfl 27 (.tmp 145) rfl rfl 0 (P2 xa ya) HS rfl rfl rfl (info_P _ _) (by rfl) (P2_one _ _) (by decide) ?_; intro w5 h_ k_; clear HS k_; have HS := h_; clear h_)
   | ((with_reducible refine gate_dst (N := 148) rfl ?_); refine load_arrs rfl (N := 148) rfl 25 (.tmp 3) rfl 13 HS rfl rfl Try.underlying25 rfl (info_C _ _ _ _ _) ?_)
   | ((with_reducible refine gate_dst (N := 149) rfl ?_); refine load_arrs rfl (N := 149) rfl 27 (.tmp 4) rfl 12 HS rfl rfl Try.underlying27 rfl (info_P _ _) ?_)
   | ((with_reducible refine gate_dst (N := 28) rfl ?_); refine box_arrs2 ?hg28 (N := 28) ?hd28 (P2 0 0) 27 HS ?hr28 ?_; (case hd28 => rfl); (case hg28 => rfl); (case hr28 => first | (go_simp; done) | (go_simp; rfl)); intro g28 w28 h_ k_; clear HS k_; have HS := h_; clear h_)
   | ((with_reducible refine gate_store (t := 27) (p := 28) rfl ?_); refine store_arrs2 rfl 27 (.tmp 151) rfl rfl 0 (P2 xa ya) HS rfl rfl rfl (info_P _ _) (by rfl) (P2_one _ _) (by decide) ?_; intro w5 h_ k_; clear HS k_; have HS := h_; clear h_)
   | ((with_reducible refine gate_dst (N := 154) rfl ?_); refine load_arrs rfl (N := 154) rfl 25 (.tmp 3) rfl 14 HS rfl rfl Try.underlying25 rfl (info_C _ _ _ _ _) ?_)
   | ((with_reducible refine gate_dst (N := 155) rfl ?_); refine load_arrs rfl (N := 155) rfl 27 (.tmp 4) rfl 13 HS rfl rfl Try.underlying27 rfl (info_P _ _) ?_)
   | (go_at_call 13; ((with_reducible refine (HBy.out _).mono ?_); rintro e wn_ ⟨A30, k30, rfl, hA, hk, hb⟩; have h_ := Aside0.mk (HS.out.below hb); clear HS; have HS := h_; clear h_; have HR30 := Aside0.mk hA; have HK30 := Aside0.mk hk; clear hA hk hb))
   | ((with_reducible refine gate_dst (N := 160) rfl ?_); refine load_arrs rfl (N := 160) rfl 25 (.tmp 3) rfl 14 HS rfl rfl Try.underlying25 rfl (info_C _ _ _ _ _) ?_)
   | (go_at_call 14; ((with_reducible refine (HRd.out _ A30 k30 HR30.out.c HK30.out).mono ?_); rintro e wn_ ⟨rfl, hb⟩; have h_ := Aside0.mk (HS.out.below hb); clear HS; have HS := h_; clear h_; clear hb HR30))
   | ((with_reducible refine gate_dst (N := 32) rfl ?_); refine box_arrs2 ?hg32 (N := 32) ?hd32 (P2 0 0) 27 HS ?hr32 ?_; (case hd32 => rfl); (case hg32 => rfl); (case hr32 => first | (go_simp; done) | (go_simp; rfl)); intro g32 w32 h_ k_; clear HS k_; have HS := h_; clear h_)
   | ((with_reducible refine gate_store (t := 27) (p := 32) rfl ?_); refine store_arrs2 rfl 27 (.tmp 163) rfl rfl 0 (P2 x y) HS rfl rfl rfl (info_P _ _) (by rfl) (P2_one _ _) (by decide) ?_; intro w5 h_ k_; clear HS k_; have HS := h_; clear h_)
   | ((with_reducible refine gate_dst (N := 168) rfl ?_); refine wpList_strip rfl rfl rfl rfl ?_; refine load_arrs rfl (N := 168) rfl 27 (.tmp 7) rfl 11 HS rfl rfl Try.underlying27 rfl (info_P _ _) ?_)
   | ((with_reducible refine gate_dst (N := 169) rfl ?_); refine wpList_strip rfl rfl rfl rfl ?_; refine load_arrs rfl (N := 169) rfl 27 (.tmp 9) rfl 10 HS rfl rfl Try.underlying27 rfl (info_P _ _) ?_)
   | ((with_reducible refine gate_dst (N := 173) rfl ?_); refine wpList_strip rfl rfl rfl rfl ?_; refine load_arrs rfl (N := 173) rfl 27 (.tmp 11) rfl 9 HS rfl rfl Try.underlying27 rfl (info_P _ _) ?_)
   | ((with_reducible refine gate_dst (N := 174) rfl ?_); refine wpList_strip rfl rfl rfl rfl ?_; refine load_arrs rfl (N := 174) rfl 27 (.tmp 15) rfl 7 HS rfl rfl Try.underlying27 rfl (info_P _ _) ?_)
   | ((with_reducible refine gate_dst (N := 178) rfl ?_); refine wpList_strip rfl rfl rfl rfl ?_; refine load_arrs rfl (N := 178) rfl 27 (.tmp 17) rfl 6 HS rfl rfl Try.underlying27 rfl (info_P _ _) ?_)
   | ((with_reducible refine gate_dst (N := 179) rfl ?_); refine wpList_strip rfl rfl rfl rfl ?_; refine build_event rfl (N := 179) rfl 27 _ rfl (P2 0 1) (by kernel_rfl) ?_)
   | ((with_reducible refine gate_dst (N := 183) rfl ?_); refine wpList_strip rfl rfl rfl rfl ?_; refine load_arrs rfl (N := 183) rfl 27 (.tmp 22) rfl 4 HS rfl rfl Try.underlying27 rfl (info_P _ _) ?_)
   | ((with_reducible refine gate_dst (N := 184) rfl ?_); refine wpList_strip rfl rfl rfl rfl ?_; refine load_arrs rfl (N := 184) rfl 27 (.tmp 24) rfl 3 HS rfl rfl Try.underlying27 rfl (info_P _ _) ?_)
   | ((with_reducible refine gate_dst (N := 192) rfl ?_); refine wpList_strip rfl rfl rfl rfl ?_; refine load_arrs rfl (N := 192) rfl 27 (.tmp 26) rfl 2 HS rfl rfl Try.underlying27 rfl (info_P _ _) ?_)
   | ((with_reducible refine gate_dst (N := 193) rfl ?_); refine wpList_strip rfl rfl rfl rfl ?_; refine load_arrs rfl (N := 193) rfl 27 (.tmp 28) rfl 1 HS rfl rfl Try.underlying27 rfl (info_P _ _) ?_)
   | ((with_reducible refine gate_dst (N := 205) rfl ?_); refine wpList_strip rfl rfl rfl rfl ?_; refine load_arrs rfl (N := 205) rfl 27 (.tmp 32) rfl 0 HS rfl rfl Try.underlying27 rfl (info_P _ _) ?_)
   | ((with_reducible refine gate_dst (N := 206) rfl ?_); refine wpList_strip rfl rfl rfl rfl ?_; refine load_arrs rfl (N := 206) rfl 27 (.tmp 4) rfl 14 HS rfl rfl Try.underlying27 rfl (info_P _ _) ?_)
   | (go_at_call 15; ((with_reducible refine (HDr2.out _ HS.out.b).mono ?_); rintro e wn_ ⟨A35, k35, rfl, hA, hk, hb⟩; have h_ := Aside0.mk (HS.out.below hb); clear HS; have HS := h_; clear h_; have HR35 := Aside0.mk hA; have HK35 := Aside0.mk hk; clear hA hk hb))
   | ((with_reducible refine gate_dst (N := 34) rfl ?_); refine box_arrs2 ?hg34 (N := 34) ?hd34 (C5 0 0 0 0 0) 25 HS ?hr34 ?_; (case hd34 => rfl); (case hg34 => rfl); (case hr34 => first | (go_simp; done) | (go_simp; rfl)); intro g34 w34 h_ k_; have r_ := Aside0.mk (HR35.out.below k_); clear HR35; have HR35 := r_; clear r_; clear HS k_; have HS := h_; clear h_)
   | ((with_reducible refine gate_store (t := 25) (p := 34) rfl ?_); refine store_arrs2 rfl 25 (.tmp 212) rfl rfl 0 (C5 p2 d2 q2 bx2 by2) HS rfl rfl rfl (info_C _ _ _ _ _) (by rfl) (C5_one _ _ _ _ _) (by decide) ?_; intro w5 h_ k_; have r_ := Aside0.mk (k_ _ _ HR35.out); clear HR35; have HR35 := r_; clear r_; clear HS k_; have HS := h_; clear h_)
   | ((with_reducible refine gate_dst (N := 215) rfl ?_); refine load_arrs rfl (N := 215) rfl 25 (.tmp 34) rfl 0 HS rfl rfl Try.underlying25 rfl (info_C _ _ _ _ _) ?_)
   | (go_at_call 14; ((with_reducible refine (HRd2.out _ A35 k35 HR35.out.c HK35.out).mono ?_); rintro e wn_ ⟨rfl, hb⟩; have h_ := Aside0.mk (HS.out.below hb); clear HS; have HS := h_; clear h_; have r_ := Aside0.mk (HR35.out.below hb); clear HR35; have HR35 := r_; clear r_; clear hb))
   | ((with_reducible refine gate_dst (N := 36) rfl ?_); refine box_arrs2 ?hg36 (N := 36) ?hd36 (P2 0 0) 27 HS ?hr36 ?_; (case hd36 => rfl); (case hg36 => rfl); (case hr36 => first | (go_simp; done) | (go_simp; rfl)); intro g36 w36 h_ k_; have r_ := Aside0.mk (HR35.out.below k_); clear HR35; have HR35 := r_; clear r_; clear HS k_; have HS := h_; clear h_)
   | ((with_reducible refine gate_store (t := 27) (p := 36) rfl ?_); refine store_arrs2 rfl 27 (.tmp 218) rfl rfl 0 (P2 r s) HS rfl rfl rfl (info_P _ _) (by rfl) (P2_one _ _) (by decide) ?_; intro w5 h_ k_; have r_ := Aside0.mk (k_ _ _ HR35.out); clear HR35; have HR35 := r_; clear r_; clear HS k_; have HS := h_; clear h_))
    cases t with
    | false =>
      obtain ⟨rfl, rfl⟩ := HT0.out rfl
      go_wp2_with (first
   | ((with_reducible refine gate_dst (N := 222) rfl ?_); refine load_arrs rfl (N := 222) rfl 27 (.tmp 36) rfl 0 HS rfl rfl Try.underlying27 rfl (info_P _ _) ?_)
   | ((with_reducible refine gate_dst (N := 223) rfl ?_); refine build_event rfl (N := 223) rfl 27 _ rfl (P2 0 0) (by kernel_rfl) ?_))
      go_ret
      exact ⟨rfl, HS.out.1⟩
    | true =>
      go_wp2_with (first
   | ((with_reducible refine gate_dst (N := 226) rfl ?_); refine load_arrs rfl (N := 226) rfl 25 (.tmp 34) rfl 1 HS rfl rfl Try.underlying25 rfl (info_C _ _ _ _ _) ?_)
   | ((with_reducible refine gate_dst (N := 227) rfl ?_); refine load_arrs rfl (N := 227) rfl 27 (.tmp 36) rfl 0 HS rfl rfl Try.underlying27 rfl (info_P _ _) ?_)
   | (go_at_call 13; ((with_reducible refine (HBy2.out rfl _).mono ?_); rintro e wn_ ⟨A38, k38, rfl, hA, hk, hb⟩; have h_ := Aside0.mk (HS.out.below hb); clear HS; have HS := h_; clear h_; have r_ := Aside0.mk (HR35.out.below hb); clear HR35; have HR35 := r_; clear r_; have hcv1 := Kd.C_string (src := 22) (dst := 9) Try.underlying22 Try.underlying5 Try.underlying9 (c := k38) hA.c; have hcv2 := Kd.C_string (src := 22) (dst := 9) Try.underlying22 Try.underlying5 Try.underlying9 (c := k35) HR35.out.c; clear hA hk hb)))
      go_ret
      exact ⟨rfl, HS.out.1⟩
set_option maxHeartbeats 8000000 in
set_option maxRecDepth 100000 in
theorem lawBig (A0 : Option Addr) (c0 : Nat) (l0 : List Int) (w : World) (h0 : Kd.C (Kd.int .u8) w A0 l0.length l0) (hc0 : l0.length ≤ c0) (hbig : laws_big.f l0 = some true) :
    Calls Try.prog 3 #[.slice A0 l0.length c0] w fun e w' => e = .returned (.bool true) ∧ Below w.heap.size w w' := by
  have H0_ := Aside0.mk h0
  have HC0 := Aside0.mk hc0
  have HBig := Aside0.mk hbig
  have HB := Aside0.mk (Below.refl w.heap.size w)
  clear h0 hc0 hbig
  go_enter Try.func3, Try.ntmps3
  go_wp2_with (first
   | (go_at_call 5; ((with_reducible refine (laws_big.calls A0 c0 l0 _ _ (Kd.C_below H0_.out HB.out) HC0.out HBig.out).mono ?_); rintro e w19 ⟨rfl, hd⟩; have n0_ := Aside0.mk (below_step HB.out hd.below); clear HB hd; have HB := n0_; clear n0_)))
  go_ret
  exact ⟨rfl, HB.out⟩
end Go.Proofs.Ytfdlblckmlbhoaa.PFnTwisted
