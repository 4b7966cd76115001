-- Written for this claim by a program of this session.
import Derived.Test.YtiffbeoignoedaaPFnPiecesx0
import Derived.Test.YtiffbeoignoedaaPFnPiecesx1
namespace Go.Proofs.Ytiffbeoignoedaa.PFnPieces
open Go.RowKit Go.Proofs.YtiffbeoignoedaaW.PrintWords Go.Proofs.YtiffbeoignoedaaW.PrintLast Go.Proofs.YtiffbeoignoedaaW.PrintMore
attribute [local go_sem] max2_int min2_int max_two min_two max_three min_three max_four min_four   -- for this text's walks alone
set_option linter.unusedVariables false
set_option linter.unusedSimpArgs false

/-! ### SHA-256: the words that the walks by hand use -/
/-! ### Arrays of whole numbers in a block of their own -/
/-- The cells of an array of whole numbers. -/
def U (k : IntKind) (l : List Int) : Array Value := ⟨l.map (Value.int k)⟩
theorem U_set (k : IntKind) (l : List Int) (i : Nat) (v : Int) : (U k l).setIfInBounds i (.int k v) = U k (l.set i v) := by
  unfold U
  rw [List.setIfInBounds_toArray, List.map_set]
theorem U_size (k : IntKind) (l : List Int) : (U k l).size = l.length := by
  show (l.map _).length = _
  rw [List.length_map]
theorem U_get (k : IntKind) (l : List Int) (i : Nat) (h : i < l.length) : (U k l)[i]? = some (.int k (rd l i)) := by
  unfold U rd
  rw [List.getElem?_toArray, List.getElem?_map, List.getElem?_eq_getElem h]
  simp [List.getD, List.getElem?_eq_getElem h]
theorem cellU {w : World} {g : Nat} {t : TypeId} {k : IntKind} {l : List Int} (h : w.heap[g]? = some (.cells (U k l) t (0, 0))) (i : Nat) (hi : i < l.length) : w.cell? ⟨g, i, none⟩ = some (.int k (rd l i)) :=
  (blk_cell h i).trans (U_get k l i hi)
theorem setU {w : World} {g : Nat} {t : TypeId} {k : IntKind} {l : List Int} (h : w.heap[g]? = some (.cells (U k l) t (0, 0))) (i : Nat) (v : Int) : (w.setCell ⟨g, i, none⟩ (.int k v)).heap[g]? = some (.cells (U k (l.set i v)) t (0, 0)) := by
  rw [blk_set h, U_set]
/-- The steps F 0, F 1, .., F (n - 1), one behind the other. -/
def iter {α : Type} (F : Nat → α → α) : Nat → α → α
  | 0, x => x
  | n + 1, x => F n (iter F n x)
def fill (f : Nat → Int) : Nat → List Int → List Int := iter fun i l => l.set i (f i)
theorem fill_len (f : Nat → Int) (n : Nat) (l : List Int) : (fill f n l).length = l.length := by
  induction n with
  | zero => rfl
  | succ n ih => rw [← ih]; exact List.length_set
theorem ix_nat (i : Nat) : ((i : Int)).toNat = i := rfl
theorem U_one (k : IntKind) (l : List Int) : (U k l).all (·.oneCell') = true := by
  rw [Array.all_eq_true_iff_forall_mem]
  intro x hx
  simp only [U, List.mem_toArray, List.mem_map] at hx
  obtain ⟨a, _, rfl⟩ := hx
  rfl
theorem info_U {P : Program} {ty n : Nat} (k : IntKind) {l : List Int} (h : (P.info? ty).map (·.size) = some n) (hl : l.length = n) : (P.info? ty).map (·.size) = some (U k l).size := by rw [h, U_size, hl]
theorem setRow_blk {w : World} {g : Nat} {old : Array Value} {t : TypeId} {fr : Nat × Nat} (h : w.heap[g]? = some (.cells old t fr)) (cs : Array Value) : (w.setRow g cs).heap[g]? = some (.cells cs t fr) := setRow_heap w g old cs t fr h
theorem setRow_far {w : World} {g k : Nat} {o : Obj} (h : w.heap[k]? = some o) (hk : k ≠ g) (cs : Array Value) : (w.setRow g cs).heap[k]? = some o := by rw [setRow_other w g k cs hk, h]
theorem below_row {w W : World} {g : Nat} (h : Below w.heap.size w W) (hg : w.heap.size ≤ g) (cs : Array Value) : Below w.heap.size w (W.setRow g cs) := Go.below_setRow h hg cs
/-- Blocks of the call's own: each holds these cells; what there was ahead of the call is as it was. -/
def Arrs (w0 W : World) (xs : List (Nat × Array Value × TypeId)) : Prop :=
  Below w0.heap.size w0 W ∧ (∀ (i : Nat) (g : Nat) (cs : Array Value) (t : TypeId), xs[i]? = some (g, cs, t) → w0.heap.size ≤ g ∧ W.heap[g]? = some (.cells cs t (0, 0))) ∧ (∀ (i j : Nat) (g h : Nat) (cs ds : Array Value) (t u : TypeId), xs[i]? = some (g, cs, t) → xs[j]? = some (h, ds, u) → i ≠ j → g ≠ h)
theorem Arrs.refl (w : World) : Arrs w w [] := ⟨Below.refl _ _, fun i g cs t h => by simp at h, fun i j g h cs ds t u e => by simp at e⟩
section
variable {w0 W : World} {xs : List (Nat × Array Value × TypeId)} {g : Nat} {cs : Array Value} {t : TypeId}
theorem Arrs.get (h : Arrs w0 W xs) (i : Nat) (e : xs[i]? = some (g, cs, t) := by rfl) : W.heap[g]? = some (.cells cs t (0, 0)) := (h.2.1 i g cs t e).2
theorem Arrs.ge (h : Arrs w0 W xs) (i : Nat) (e : xs[i]? = some (g, cs, t) := by rfl) : w0.heap.size ≤ g := (h.2.1 i g cs t e).1
theorem Arrs.lt (h : Arrs w0 W xs) (i : Nat) (e : xs[i]? = some (g, cs, t) := by rfl) : g < W.heap.size := blk_lt (h.get i e)
/-- What only makes memory, or draws. -/
theorem Arrs.below {W' : World} (h : Arrs w0 W xs) (hb : Below W.heap.size W W') : Arrs w0 W' xs :=
  ⟨below_step h.1 hb, fun i g cs t e => ⟨h.ge i e, blk_below (h.get i e) hb⟩, h.2.2⟩
theorem Arrs.drewN (h : Arrs w0 W xs) (n : Nat) : Arrs w0 (W.drewN n) xs := h.below (pw_below_drewN (Below.refl _ _) n)
theorem Arrs.drew1 (h : Arrs w0 W xs) : Arrs w0 W.drew xs := h.below (below_drew1 (Below.refl _ _))
/-- A block that was made. -/
theorem Arrs.made {W' : World} (h : Arrs w0 W xs) (hg : g = W.heap.size) (hb : Below W.heap.size W W') (hn : W'.heap[g]? = some (.cells cs t (0, 0))) : Arrs w0 W' ((g, cs, t) :: xs) := by
  refine ⟨below_step h.1 hb, fun i g1 cs1 t1 e => ?_, fun i j g1 g2 c1 c2 t1 t2 e1 e2 hij => ?_⟩
  · cases i with
    | zero =>
      simp only [List.getElem?_cons_zero, Option.some.injEq, Prod.mk.injEq] at e
      obtain ⟨rfl, rfl, rfl⟩ := e
      exact ⟨by rw [hg]; exact below_size h.1, hn⟩
    | succ i =>
      rw [List.getElem?_cons_succ] at e
      exact ⟨h.ge i e, blk_below (h.get i e) hb⟩
  · cases i with
    | zero =>
      cases j with
      | zero => exact absurd rfl hij
      | succ j =>
        simp only [List.getElem?_cons_zero, Option.some.injEq, Prod.mk.injEq] at e1
        obtain ⟨rfl, _, _⟩ := e1
        rw [List.getElem?_cons_succ] at e2
        have := h.lt j e2
        omega
    | succ i =>
      rw [List.getElem?_cons_succ] at e1
      cases j with
      | zero =>
        simp only [List.getElem?_cons_zero, Option.some.injEq, Prod.mk.injEq] at e2
        obtain ⟨rfl, _, _⟩ := e2
        have := h.lt i e1
        omega
      | succ j =>
        rw [List.getElem?_cons_succ] at e2
        exact h.2.2 i j g1 g2 c1 c2 t1 t2 e1 e2 (by omega)
/-- What turns block i alone. -/
theorem Arrs.turn {W' : World} {cs' : Array Value} (h : Arrs w0 W xs) (i : Nat) (e : xs[i]? = some (g, cs, t)) (hb : Below w0.heap.size w0 W') (hn : W'.heap[g]? = some (.cells cs' t (0, 0))) (hk : ∀ k, k ≠ g → W'.heap[k]? = W.heap[k]?) : Arrs w0 W' (xs.set i (g, cs', t)) := by
  have hi : i < xs.length := (List.getElem?_eq_some_iff.1 e).1
  have hx : ∀ j g1 c1 t1, (xs.set i (g, cs', t))[j]? = some (g1, c1, t1) → j ≠ i → xs[j]? = some (g1, c1, t1) := fun j g1 c1 t1 e1 hj => by
    rwa [List.getElem?_set_ne (fun q => hj q.symm)] at e1
  have hs : ∀ g1 c1 t1, (xs.set i (g, cs', t))[i]? = some (g1, c1, t1) → g = g1 ∧ cs' = c1 ∧ t = t1 := fun g1 c1 t1 e1 => by
    rw [List.getElem?_set_self hi, Option.some.injEq, Prod.mk.injEq, Prod.mk.injEq] at e1
    exact e1
  refine ⟨hb, fun j g1 c1 t1 e1 => ?_, fun j k g1 g2 c1 c2 t1 t2 e1 e2 hjk => ?_⟩
  · by_cases hj : j = i
    · subst hj
      obtain ⟨rfl, rfl, rfl⟩ := hs _ _ _ e1
      exact ⟨h.ge j e, hn⟩
    · have e3 := hx _ _ _ _ e1 hj
      exact ⟨h.ge j e3, (hk g1 (h.2.2 j i _ _ _ _ _ _ e3 e hj)).trans (h.get j e3)⟩
  · by_cases hj : j = i
    · subst hj
      obtain ⟨rfl, _, _⟩ := hs _ _ _ e1
      exact h.2.2 j k _ _ _ _ _ _ e (hx _ _ _ _ e2 (fun q => hjk q.symm)) hjk
    · by_cases hk2 : k = i
      · subst hk2
        obtain ⟨rfl, _, _⟩ := hs _ _ _ e2
        exact h.2.2 j k _ _ _ _ _ _ (hx _ _ _ _ e1 hj) e hjk
      · exact h.2.2 j k _ _ _ _ _ _ (hx _ _ _ _ e1 hj) (hx _ _ _ _ e2 hk2) hjk
theorem Arrs.put (h : Arrs w0 W xs) (i : Nat) (j : Nat) (v : Value) (e : xs[i]? = some (g, cs, t) := by rfl) : Arrs w0 (W.setCell ⟨g, j, none⟩ v) (xs.set i (g, cs.setIfInBounds j v, t)) :=
  h.turn i e (below_set h.1 (h.ge i e)) (blk_set (h.get i e) j v) (fun k hk => heap_setCell_other W ⟨g, j, none⟩ k v hk)
theorem Arrs.putU {k : IntKind} {l : List Int} (h : Arrs w0 W xs) (i : Nat) (j : Nat) (v : Int) (e : xs[i]? = some (g, U k l, t) := by rfl) : Arrs w0 (W.setCell ⟨g, j, none⟩ (.int k v)) (xs.set i (g, U k (l.set j v), t)) := by
  rw [← U_set]
  exact h.put i j _ e
theorem Arrs.row (h : Arrs w0 W xs) (i : Nat) (ds : Array Value) (e : xs[i]? = some (g, cs, t) := by rfl) : Arrs w0 (W.setRow g ds) (xs.set i (g, ds, t)) :=
  h.turn i e (below_row h.1 (h.ge i e) ds) (setRow_blk (h.get i e) ds) (fun k hk => setRow_other W g k ds hk)
theorem Arrs.cell {k : IntKind} {l : List Int} (h : Arrs w0 W xs) (i : Nat) (j : Nat) (hj : j < l.length) (e : xs[i]? = some (g, U k l, t) := by rfl) : W.cell? ⟨g, j, none⟩ = some (.int k (rd l j)) := cellU (h.get i e) j hj
theorem Arrs.free (h : Arrs w0 W xs) (i : Nat) (j : Nat) (e : xs[i]? = some (g, cs, t) := by rfl) : W.frozen? ⟨g, j, none⟩ = false := blk_frozen (h.get i e) j
theorem Arrs.drop (h : Arrs w0 W ((g, cs, t) :: xs)) : Arrs w0 W xs :=
  ⟨h.1, fun i g1 cs1 t1 e => h.2.1 (i + 1) g1 cs1 t1 (by rw [List.getElem?_cons_succ]; exact e), fun i j g1 g2 c1 c2 t1 t2 e1 e2 hij => h.2.2 (i + 1) (j + 1) g1 g2 c1 c2 t1 t2 (by rw [List.getElem?_cons_succ]; exact e1) (by rw [List.getElem?_cons_succ]; exact e2) (by omega)⟩
theorem Arrs.cast {ys : List (Nat × Array Value × TypeId)} (h : Arrs w0 W xs) (e : xs = ys := by rfl) : Arrs w0 W ys := e ▸ h
theorem Arrs.at_ {W' : World} (h : Arrs w0 W xs) (e : W = W') : Arrs w0 W' xs := e ▸ h
theorem Arrs.cells {ds : Array Value} (h : Arrs w0 W xs) (i : Nat) (e : xs[i]? = some (g, cs, t)) (hc : cs = ds) : Arrs w0 W (xs.set i (g, ds, t)) := by
  subst hc
  have e2 : xs.set i (g, cs, t) = xs := by
    apply List.ext_getElem?
    intro j
    by_cases hj : j = i
    · subst hj
      rw [List.getElem?_set_self (List.getElem?_eq_some_iff.1 e).1, e]
    · rw [List.getElem?_set_ne (fun q => hj q.symm)]
  rw [e2]
  exact h
end
theorem Arrs.alloc {w0 W : World} {xs : List (Nat × Array Value × TypeId)} {cs : Array Value} {t : TypeId} (h : Arrs w0 W xs) {g : Nat} (hg : g = W.heap.size := by simp) : Arrs w0 (W.alloc (.cells cs t)) ((g, cs, t) :: xs) :=
  h.made hg (below_alloc (Below.refl _ _) _) (by rw [hg]; exact blk_new _ _)
section
variable {P : Program} {ops : Array Oper} {rest : List Oper} {o : Oper} {a : Act} {Q : Exit → Act → World → Prop} {W w0 : World}
/-- An aggregate is built. -/
theorem build_event (hgd : o.guard = none) {N : Tmp} (_hd : o.dst = some N) (t : TypeId) (parts : Array (Nat × Operand)) (ho : o.op = .build t parts) (cs : Array Value)
    (hb : P.built t (parts.map fun (i, x) => (i, a.eval x)).toList = some cs) (h : wpList P ops Q rest (a.put o.dst (.agg cs)) W) : wpList P ops Q (o :: rest) a W := by
  refine wpList_build hgd t parts ho (by rw [hb]; rfl) ?_
  rw [hb]
  exact h
/-- A block is made. -/
theorem box_arrs (hgd : o.guard = none) {N : Tmp} (_hd : o.dst = some N) (cs : Array Value) (t : TypeId) {xs : List (Nat × Array Value × TypeId)} (HS : Aside0 (Arrs w0 W xs))
    (hrun : (execOp a.eval o).run P W = .ok (.value (.pointer (some ⟨W.heap.size, 0, none⟩))) (W.alloc (.cells cs t (0, 0))))
    (h : ∀ g w1, Aside0 (Arrs w0 w1 ((g, cs, t) :: xs)) → wpList P ops Q rest (a.put o.dst (.pointer (some ⟨g, 0, none⟩))) w1) : wpList P ops Q (o :: rest) a W :=
  Kd.event_run hgd hrun (h _ _ ⟨HS.out.alloc rfl⟩)
/-- A whole array is read. -/
theorem load_arrs (hgd : o.guard = none) {N : Tmp} (_hd : o.dst = some N) (ty : TypeId) (x : Operand) (ho : o.op = .load ty x) (i : Nat) {xs : List (Nat × Array Value × TypeId)} {g : Nat} {cs : Array Value} {t : TypeId} (HS : Aside0 (Arrs w0 W xs)) (e : xs[i]? = some (g, cs, t))
    (hx : a.eval x = .pointer (some ⟨g, 0, none⟩)) {d : TypeDesc} (hu : P.underlying ty = some d) (hd : (match d with | .struct _ | .array _ _ => true | _ => false) = true) (hi : (P.info? ty).map (·.size) = some cs.size)
    (h : wpList P ops Q rest (a.put o.dst (.agg cs)) W) : wpList P ops Q (o :: rest) a W :=
  wpList_load_row hgd ty x ho g hx t cs (0, 0) d (HS.out.get i e) hu hd hi h
/-- A whole array is written. -/
theorem store_arrs (hgd : o.guard = none) (ty : TypeId) {p : Tmp} (y : Operand) (ho : o.op = .store ty (.tmp p) y) (hN : o.dst = none) (i : Nat) {xs : List (Nat × Array Value × TypeId)} {g : Nat} {old : Array Value} (cs : Array Value) {t : TypeId} (HS : Aside0 (Arrs w0 W xs)) (e : xs[i]? = some (g, old, t))
    (hx : a.eval (.tmp p) = .pointer (some ⟨g, 0, none⟩)) (hy : a.eval y = .agg cs) (hi : (P.info? ty).map (·.size) = some cs.size) (hold : old.size = cs.size) (h1 : cs.all (·.oneCell') = true)
    (h : ∀ w1, Aside0 (Arrs w0 w1 (xs.set i (g, cs, t))) → wpList P ops Q rest a w1) : wpList P ops Q (o :: rest) a W := by
  refine wpList_store_row hgd ty (.tmp p) y ho g cs hx hy t old (HS.out.get i e) hi hold h1 ?_
  rw [hN]
  exact h _ ⟨HS.out.row i cs e⟩
end
theorem gwC_ {P : Program} {Q : Exit → Act → World → Prop} {c : Code} {a : Act} {W : World} (h : ∀ w', W = w' → c.wp P Q a w') : c.wp P Q a W := h W rfl
theorem size79 : (Try.prog.info? 79).map (·.size) = some 8 := by kernel_rfl
def z8 : List Int := [0, 0, 0, 0, 0, 0, 0, 0]
/-- The words of a stream's numbers. -/
def wds (H : List Int) : List Int := fill (fun i => IntKind.u32.wrap (rd H i)) 8 z8
/-- A word turned right. -/
def rot (x n : Int) : Int := Go.bits .or .u32 (shr .u32 x n) (shl .u32 x (32 - n))
theorem bor_comm (a b : Int) : Go.bits .or .u32 a b = Go.bits .or .u32 b a := by
  unfold Go.bits
  simp [Nat.or_comm]
theorem size81 : (Try.prog.info? 81).map (·.size) = some 64 := by kernel_rfl
theorem size22 : (Try.prog.info? 22).map (·.size) = some 8 := by kernel_rfl
def z64 : List Int := List.replicate 64 0
/-- Word t of 64 bytes. -/
def wrd (b : List Int) (t : Nat) : Int := Go.bits .or .u32 (Go.bits .or .u32 (Go.bits .or .u32 (IntKind.u32.wrap (IntKind.u32.wrap (rd b (4 * t)) * 16777216)) (IntKind.u32.wrap (IntKind.u32.wrap (rd b (4 * t + 1)) * 65536))) (IntKind.u32.wrap (IntKind.u32.wrap (rd b (4 * t + 2)) * 256))) (IntKind.u32.wrap (rd b (4 * t + 3)))
def sig0 (x : Int) : Int := Go.bits .xor .u32 (Go.bits .xor .u32 (rot x 7) (rot x 18)) (x / 8)
def sig1 (x : Int) : Int := Go.bits .xor .u32 (Go.bits .xor .u32 (rot x 17) (rot x 19)) (x / 1024)
/-- Word t of those behind the first 16. -/
def more (t : Nat) (L : List Int) : List Int := L.set t ((sig1 (rd L ((t - 2 : Nat) : Int)) + rd L ((t - 7 : Nat) : Int) + sig0 (rd L ((t - 15 : Nat) : Int)) + rd L ((t - 16 : Nat) : Int)) % 4294967296)
/-- The 64 words. -/
def mores (n : Nat) (L : List Int) : List Int := iter (fun i => more (16 + i)) n L
/-- One round over eight words. -/
def one_ (V : List Int) (k w : Int) : Int := (rd V 7 + Go.bits .xor .u32 (Go.bits .xor .u32 (rot (rd V 4) 6) (rot (rd V 4) 11)) (rot (rd V 4) 25) + Go.bits .xor .u32 (Go.bits .and .u32 (rd V 4) (rd V 5)) (Go.bits .and .u32 (Go.bits .xor .u32 IntKind.u32.max (rd V 4)) (rd V 6)) + k + w) % 4294967296
def two_ (V : List Int) : Int := (Go.bits .xor .u32 (Go.bits .xor .u32 (rot (rd V 0) 2) (rot (rd V 0) 13)) (rot (rd V 0) 22) + Go.bits .xor .u32 (Go.bits .xor .u32 (Go.bits .and .u32 (rd V 0) (rd V 1)) (Go.bits .and .u32 (rd V 0) (rd V 2))) (Go.bits .and .u32 (rd V 1) (rd V 2))) % 4294967296
def round_ (V : List Int) (k w : Int) : List Int := [(one_ V k w + two_ V) % 4294967296, rd V 0, rd V 1, rd V 2, (rd V 3 + one_ V k w) % 4294967296, rd V 4, rd V 5, rd V 6]
def rounds_ (K L : List Int) (n : Nat) (V : List Int) : List Int := iter (fun i V => round_ V (rd K i) (rd L i)) n V
theorem rounds_len (K L : List Int) (n : Nat) (V : List Int) (h : V.length = 8) : (rounds_ K L n V).length = 8 := by
  cases n with
  | zero => exact h
  | succ n => rfl
/-- The numbers behind 64 bytes. -/
def block_ (K H b : List Int) : List Int := fill (fun i => (rd H i + rd (rounds_ K (mores 48 (fill (wrd b) 16 z64)) 64 (wds H)) i) % 4294967296) 8 z8
theorem w32 (x : Int) : wrap64 (x % 4294967296) = x % 4294967296 := by unfold wrap64; omega
theorem more_len (n : Nat) (L : List Int) : (mores n L).length = L.length := by
  induction n with
  | zero => rfl
  | succ n ih => rw [← ih]; exact List.length_set
/-! ### A region that draws its order, whose operations make memory: what holds of what has been carried out -/
section
variable {P : Program} {ops : Array Oper} {md : Region.Mode}
/-- How many of the first n are not listed. -/
def unl (listed : Array Bool) : Nat → Nat
  | 0 => 0
  | k + 1 => unl listed k + if listed.getD k false then 0 else 1
theorem unl_far (listed : Array Bool) (i : Nat) : ∀ k, k ≤ i → unl (listed.setIfInBounds i true) k = unl listed k
  | 0, _ => rfl
  | k + 1, h => by
    unfold unl
    rw [unl_far listed i k (by omega), getD_set_ne false (by omega)]
theorem unl_set (listed : Array Bool) (i : Nat) (hs : i < listed.size) (hi : listed.getD i false = false) : ∀ k, i < k → unl (listed.setIfInBounds i true) k + 1 = unl listed k
  | 0, h => absurd h (by omega)
  | k + 1, h => by
    unfold unl
    by_cases hik : i = k
    · subst hik
      rw [unl_far listed i i (Nat.le_refl _), hi]
      have : (listed.setIfInBounds i true).getD i false = true := by simp [hs]
      rw [this]
      simp
    · rw [getD_set_ne false hik, ← unl_set listed i hs hi k (by omega)]
      omega
theorem unl_zero (listed : Array Bool) : ∀ k, unl listed k = 0 → ∀ i, i < k → listed.getD i false = true
  | 0, _, i, h => absurd h (by omega)
  | k + 1, h, i, hi => by
    unfold unl at h
    by_cases hik : i = k
    · subst hik
      cases hl : listed.getD i false with
      | true => rfl
      | false => rw [hl] at h; simp at h
    · exact unl_zero listed k (by omega) i (by omega)
theorem unl_pos (listed : Array Bool) : ∀ k, unl listed k ≠ 0 → ∃ i, i < k ∧ listed.getD i false = false ∧ ∀ j, j < i → listed.getD j false = true
  | 0, h => absurd rfl h
  | k + 1, h => by
    by_cases h0 : unl listed k = 0
    · refine ⟨k, by omega, ?_, unl_zero listed k h0⟩
      unfold unl at h
      rw [h0] at h
      cases hl : listed.getD k false with
      | true => rw [hl] at h; simp at h
      | false => rfl
    · obtain ⟨i, hi, h1, h2⟩ := unl_pos listed k h0
      exact ⟨i, by omega, h1, h2⟩
/-- Every edge points back. -/
def Region.downB (md : Region.Mode) (ops : Array Oper) : Bool :=
  (List.range ops.size).all fun j => match ops[j]? with
    | some o => o.after.all fun e => !Region.binds md e || decide (e.on < j)
    | none => true
def Region.stableB (md : Region.Mode) (ops : Array Oper) (n : Nat) : Bool :=
  decide (n < ops.size) && Region.sinkB md ops n && Region.chainB md ops n && Region.downB md ops && Region.seqB md ops (ops.size - n) n (Array.replicate n true ++ Array.replicate (ops.size - n) false)
theorem wpAny_stable {Q : Exit → Act → World → Prop} (n : Nat) (hB : Region.stableB md ops n = true) (l : List Oper) (hl : ops = l.toArray) (J : Array Bool → Act → World → Prop)
    (hstep : ∀ listed a w, HeadInv md ops n listed → J listed a w → ∀ i, i < n → i ∈ Region.ready md ops listed → wpOp P ops Q i (fun a' w' => J (listed.setIfInBounds i true) a' w') a w)
    (hend : ∀ listed a w, J listed a w → (∀ i, i < n → listed.getD i false = true) → wpList P ops Q (l.drop n) a w) :
    ∀ (f : Nat) (listed : Array Bool) (a : Act) (w : World), unl listed n = f → HeadInv md ops n listed → J listed a w → wpAny P md ops Q (f + (ops.size - n)) listed a w := by
  simp only [Region.stableB, Bool.and_eq_true, decide_eq_true_eq] at hB
  obtain ⟨⟨⟨⟨hn, hs⟩, hc⟩, hd⟩, hq⟩ := hB
  intro f
  induction f with
  | zero =>
    intro listed a w hf inv hJ
    have hall := unl_zero listed n hf
    have he : listed = Array.replicate n true ++ Array.replicate (ops.size - n) false := by
      apply Array.ext
      · rw [inv.size]; simp; omega
      · intro j h1 h2
        by_cases hj : j < n
        · have h3 := hall j hj
          rw [Array.getElem_append_left (by simpa using hj)]
          simp [h1] at h3
          simp [h3]
        · have h3 := inv.tail j (by omega) (by rw [← inv.size]; exact h1)
          rw [Array.getElem_append_right (by simpa using hj)]
          simp [h1] at h3
          simp [h3]
    have hlen : (l.drop n).length = ops.size - n := by rw [hl]; simp
    rw [Nat.zero_add, ← hlen]
    exact wpAny_of_seq (l.drop n) n listed a w (fun j => by rw [hl]; simp [List.getElem?_drop]) (by rw [hlen, he]; exact hq) (hend listed a w hJ hall)
  | succ f ih =>
    intro listed a w hf inv hJ
    obtain ⟨i, hin, hi, hlow⟩ := unl_pos listed n (by rw [hf]; omega)
    have hir : i ∈ Region.ready md ops listed := by
      refine mem_ready.2 ⟨getD_in (by rw [inv.size]; omega) hi, ops[i]'(by omega), Array.getElem?_eq_getElem (by omega), fun e he hb => hlow _ ?_⟩
      have h1 := List.all_eq_true.1 hd i (List.mem_range.2 (by omega))
      rw [Array.getElem?_eq_getElem (by omega)] at h1
      have h2 := Array.all_eq_true_iff_forall_mem.1 h1 e he
      simpa [hb] using h2
    rw [show f + 1 + (ops.size - n) = (f + (ops.size - n)) + 1 by omega]
    refine ⟨fun h0 => (by rw [h0] at hir; cases hir), fun j hj => ?_⟩
    have hjn : j < n := by
      rcases Nat.lt_or_ge j n with h | h
      · exact h
      · exact absurd hj (tail_waits hs hc hn inv _ i rfl hin (getD_in (by rw [inv.size]; omega) hi) j h)
    have hjun := (mem_ready.1 hj).1
    refine wpOp_mono (fun a' w' h' => ih _ a' w' ?_ (inv.set hj hjn) h') (hstep listed a w inv hJ j hjn hj)
    have := unl_set listed j (by rw [inv.size]; omega) (getD_both hjun) n hjn
    omega
theorem wp_region_stable {id : Nat} {Q : Exit → Act → World → Prop} {a : Act} {w : World} {l : List Oper} (n : Nat) (hm : P.follows .mixedOrders = true) (hB : Region.stableB .any l.toArray n = true) (J : Array Bool → Act → World → Prop)
    (h0 : J (Array.replicate l.toArray.size false) a w.drew)
    (hstep : ∀ listed a w, HeadInv .any l.toArray n listed → J listed a w → ∀ i, i < n → i ∈ Region.ready .any l.toArray listed → wpOp P l.toArray Q i (fun a' w' => J (listed.setIfInBounds i true) a' w') a w)
    (hend : ∀ listed a w, J listed a w → (∀ i, i < n → listed.getD i false = true) → wpList P l.toArray Q (l.drop n) a w) : (Code.region id l.toArray true).wp P Q a w := by
  refine wp_region_any hm ?_
  have hn : n < l.toArray.size := by
    simp only [Region.stableB, Bool.and_eq_true, decide_eq_true_eq] at hB
    exact hB.1.1.1.1
  have inv0 : HeadInv .any l.toArray n (Array.replicate l.toArray.size false) :=
    ⟨by simp, fun j oj _ hl => (by rw [getD_replicate_false] at hl; cases hl), fun t _ ht => getD_in (by simpa using ht) (getD_replicate_false _ _)⟩
  have hu : ∀ k, unl (Array.replicate l.toArray.size false) k = k := by
    intro k
    induction k with
    | zero => rfl
    | succ k ih => unfold unl; rw [ih, getD_replicate_false]; rfl
  have := wpAny_stable (P := P) (Q := Q) n hB l rfl J hstep hend n _ a w.drew (hu n) inv0 h0
  rwa [show n + (l.toArray.size - n) = l.toArray.size by omega] at this
/-- One operation that only gives a value. -/
theorem op_val {Q : Exit → Act → World → Prop} {i : Nat} {o : Oper} {K : Act → World → Prop} {a : Act} {w w' : World} {v : Value} (hi : ops[i]? = some o) (hg : o.guard = none) (hr : (execOp a.eval o).run P w = .ok (.value v) w') (h : K (a.put o.dst v) w') : wpOp P ops Q i K a w := by
  unfold wpOp
  rw [hi]
  have hw : Region.wanted o (yielded ops a.tmps) = true := by unfold Region.wanted; rw [hg]
  show if Region.wanted o (yielded ops a.tmps) = true then _ else _
  rw [if_pos hw]
  refine .inl ?_
  unfold Oper.wp
  rw [hr]
  exact h
/-- A call. -/
theorem op_call {Q : Exit → Act → World → Prop} {i : Nat} {o : Oper} {K : Act → World → Prop} {a : Act} {w : World} (hi : ops[i]? = some o) (hg : o.guard = none) {f : FuncId} {fn : Func} {us : Array Operand} {ts : Array TypeId}
    (hf : P.funcs[f]? = some fn) (hname : (fn.name == "runtime.NumGoroutine") = false) (hb : fn.body.isSome = true) (args : Array Value)
    (hop : o.op = .call { callee := .value (.func f), args := us, argTypes := ts }) (hargs : us.map a.eval = args)
    (h : Calls P f args w fun e w' => ∃ v, e = .returned v ∧ K (a.put o.dst v) w') : wpOp P ops Q i K a w := by
  unfold wpOp
  rw [hi]
  have hw : Region.wanted o (yielded ops a.tmps) = true := by unfold Region.wanted; rw [hg]
  show if Region.wanted o (yielded ops a.tmps) = true then _ else _
  rw [if_pos hw]
  refine .inl ?_
  have he := enters_ hf hname hb args w
  have hrun : (execOp a.eval o).run P w = .ok (.enter f args) w := by
    unfold execOp
    simp [hop, resolve, Act.eval, Deferred.ofValue, invoke, hargs, he]
  unfold Oper.wp
  rw [hrun, Oper.upon_enter]
  refine h.mono fun e w'' hh => ?_
  obtain ⟨v, rfl, hk⟩ := hh
  exact hk
end
/-- A whole array is read. -/
theorem op_load {P : Program} {ops : Array Oper} {Q : Exit → Act → World → Prop} {i : Nat} {o : Oper} {K : Act → World → Prop} {a : Act} {w : World} (hi : ops[i]? = some o) (hg : o.guard = none) (ty : TypeId) (x : Operand) (ho : o.op = .load ty x)
    {g : Nat} {cs : Array Value} {t : TypeId} (hx : a.eval x = .pointer (some ⟨g, 0, none⟩)) (hb : w.heap[g]? = some (.cells cs t (0, 0))) {d : TypeDesc} (hu : P.underlying ty = some d) (hd : (match d with | .struct _ | .array _ _ => true | _ => false) = true) (hs : (P.info? ty).map (·.size) = some cs.size)
    (h : K (a.put o.dst (.agg cs)) w) : wpOp P ops Q i K a w := by
  refine op_val hi hg (v := .agg cs) (w' := w) ?_ h
  unfold execOp
  simp only [ho, hx, Instr.loadAt, Instr.sureAddr, Sem.run_bind, Sem.run_pure, Result.andThen_ok, run_loadVar_row w g t ty cs (0, 0) d hb hu hd hs]
/-- A stream's cells. -/
def SV (H : List Int) (v : Value) (m : Int) : Array Value := ⟨H.map (Value.int .i64) ++ [v, .int .i64 m]⟩
theorem SV_size (H : List Int) (v : Value) (m : Int) (h : H.length = 8) : (SV H v m).size = 10 := by
  show (H.map _ ++ _).length = 10
  simp [h]
theorem size28 : (Try.prog.info? 28).map (·.size) = some 10 := by kernel_rfl
theorem info_S (H : List Int) (v : Value) (m : Int) (h : H.length = 8) : (Try.prog.info? 28).map (·.size) = some (SV H v m).size := by rw [size28, SV_size H v m h]
theorem SV_one (H : List Int) (v : Value) (m : Int) (hv : v.oneCell' = true) : (SV H v m).all (·.oneCell') = true := by
  rw [Array.all_eq_true_iff_forall_mem]
  intro x hx
  simp only [SV, List.mem_toArray, List.mem_append, List.mem_map, List.mem_cons, List.not_mem_nil, or_false] at hx
  rcases hx with ⟨a, _, rfl⟩ | rfl | rfl
  · rfl
  · exact hv
  · rfl
theorem SV_rest (H : List Int) (v : Value) (m : Int) (h : H.length = 8) : (SV H v m)[8]? = some v := by
  unfold SV
  rw [List.getElem?_toArray, List.getElem?_append_right (by simp [h])]
  simp [h]
theorem SV_many (H : List Int) (v : Value) (m : Int) (h : H.length = 8) : (SV H v m)[9]? = some (.int .i64 m) := by
  unfold SV
  rw [List.getElem?_toArray, List.getElem?_append_right (by simp [h])]
  simp [h]
theorem SV_at (H : List Int) (v : Value) (m : Int) (i : Nat) (h : i < H.length) : (SV H v m)[i]? = some (.int .i64 (rd H i)) := by
  unfold SV rd
  rw [List.getElem?_toArray, List.getElem?_append_left (by simp [h]), List.getElem?_map, List.getElem?_eq_getElem h]
  simp [List.getD, List.getElem?_eq_getElem h]
theorem SV_set (H : List Int) (v : Value) (m : Int) (i : Nat) (x : Int) (h : i < H.length) : (SV H v m).setIfInBounds i (.int .i64 x) = SV (H.set i x) v m := by
  unfold SV
  rw [List.setIfInBounds_toArray, List.set_append_left _ _ (by simp [h]), List.map_set]
/-- What holds of what has been carried out of a region that draws. -/
def StI (fact : Nat → Value → World → Prop) (n : Nat) (listed : Array Bool) (V : Nat → Value) (W : World) : Prop := ∀ j, j < n → listed.getD j false = true → fact j (V j) W
theorem StI.step {fact : Nat → Value → World → Prop} {n : Nat} {listed : Array Bool} {V : Nat → Value} {W W' : World} (h : StI fact n listed V W) (hst : ∀ j v, fact j v W → fact j v W') (i : Nat) (v : Value) (hf : fact i v W') :
    StI fact n (listed.setIfInBounds i true) (fun j => if j = i then v else V j) W' := by
  intro j hj hl
  by_cases hji : j = i
  · subst hji
    simpa using hf
  · rw [getD_set_ne false (fun e => hji e.symm)] at hl
    simpa [hji] using hst j _ (h j hj hl)
theorem dep_of {md : Region.Mode} {ops : Array Oper} {listed : Array Bool} {i j : Nat} (hr : i ∈ Region.ready md ops listed) (hw : Region.waitsFor md ops i j = true) : listed.getD j false = true := by
  obtain ⟨_, o, ho, hall⟩ := mem_ready.1 hr
  obtain ⟨o', ho', e, he, hb, hon⟩ := Region.waitsFor_spec hw
  have : o' = o := Option.some.inj (ho'.symm.trans ho)
  subst this
  rw [← hon]
  exact hall e he hb
/-! ### Bytes that are read, in a block of bytes -/
def RdB (W : World) (A : Option Addr) (l : List Int) : Prop := Kd.C (Kd.int .u8) W A l.length l ∧ ∀ ad, A = some ad → 0 < l.length → ∃ cs, W.heap[ad.block]? = some (.cells cs 5 (0, 0))
theorem RdB.below {W W' : World} {A : Option Addr} {l : List Int} (h : RdB W A l) (hb : Below W.heap.size W W') : RdB W' A l := ⟨Kd.C_below h.1 hb, fun ad e hl => by obtain ⟨cs, hc⟩ := h.2 ad e hl; exact ⟨cs, blk_below hc hb⟩⟩
theorem RdB.keep {W W' : World} {A : Option Addr} {l : List Int} (h : RdB W A l) {g : Nat} {cs : Array Value} {t : TypeId} (hg : W.heap[g]? = some (.cells cs t (0, 0))) (ht : t ≠ 5) (hs : W.heap.size ≤ W'.heap.size) (hk : ∀ k, k ≠ g → W'.heap[k]? = W.heap[k]?) : RdB W' A l := by
  have hne : ∀ ad, A = some ad → 0 < l.length → ad.block ≠ g := fun ad e hl he => by
    obtain ⟨cs', hc⟩ := h.2 ad e hl
    rw [he, hg] at hc
    injection hc with hc
    injection hc with _ hc _
    exact ht hc
  refine ⟨Kd.C_keep (0 : Int) h.1 ⟨hs, fun i hi hig _ => hk i hig⟩ hne, fun ad e hl => ?_⟩
  obtain ⟨cs', hc⟩ := h.2 ad e hl
  exact ⟨cs', (hk _ (hne ad e hl)).trans hc⟩
theorem RdB.row {W : World} {A : Option Addr} {l : List Int} (h : RdB W A l) {g : Nat} {cs : Array Value} {t : TypeId} (hg : W.heap[g]? = some (.cells cs t (0, 0))) (ht : t ≠ 5) (ds : Array Value) : RdB (W.setRow g ds) A l :=
  h.keep hg ht (by simp) (fun k hk => setRow_other W g k ds hk)
theorem RdB.put {W : World} {A : Option Addr} {l : List Int} (h : RdB W A l) {g : Nat} {cs : Array Value} {t : TypeId} (hg : W.heap[g]? = some (.cells cs t (0, 0))) (ht : t ≠ 5) (j : Nat) (v : Value) : RdB (W.setCell ⟨g, j, none⟩ v) A l :=
  h.keep hg ht (by simp [World.setCell]) (fun k hk => heap_setCell_other W ⟨g, j, none⟩ k v hk)
theorem RdB.of_R {W : World} {A : Option Addr} {n c base : Nat} {ok : Nat → Prop} {l : List Int} (h : (Kd.int .u8).R 5 W base ok (.slice A n c) l) : RdB W A l := by
  refine ⟨(Kd.R_reads' h).2.2, fun ad e _ => ?_⟩
  obtain ⟨_, _, _, q, hq, cs, hc⟩ := (Kd.R_bound h).1 ad.block (by rw [e]; rfl)
  have : q = 5 := by
    have h2 : q ∈ [5] := hq
    simpa using h2
  subst this
  exact ⟨cs, hc⟩
theorem RdB.drop {A : Option Addr} {c : Nat} {l : List Int} (m : Nat) (hm : m ≤ l.length) (hc : l.length ≤ c) : ∃ A', (∀ W : World, (Instr.slice 23 (.slice A l.length c) (some (.int .i64 (m : Int))) none none).run Try.prog W = .ok (.slice A' (l.drop m).length (c - m)) W) ∧
    (∀ W, RdB W A l → RdB W A' (l.drop m)) ∧ (l.drop m).length ≤ c - m := by
  have hl : (l.drop m).length = l.length - m := List.length_drop
  have hel : Try.prog.elem 23 = 5 := by simp [Program.elem, Try.underlying23]
  have hu : Try.prog.underlying 23 = some (.slice (Try.prog.elem 23)) := by rw [hel]; exact Try.underlying23
  obtain ⟨i, hi, hz, hsz, hby⟩ := info_parts info5
  refine ⟨if c = m then A else A.map (·.add m), fun W => ?_, fun W h => ?_, by rw [hl]; omega⟩
  · rw [run_slice_l W 23 A l.length c hu .i64 (m : Int) (Int.natCast_nonneg _) (by omega), hel, hl]
    simp [sizeOf, typeInfo, hi, hsz, sliced, Result.andThen]
  · have h1 := Kd.C_drop (m := m) (c := c) h.1 hm hc
    have e1 : m * (Kd.int .u8).sz = m := Nat.mul_one m
    rw [e1] at h1
    refine ⟨h1, fun ad e hp => ?_⟩
    have hp2 : 0 < l.length := by rw [hl] at hp; omega
    by_cases hcm : c = m
    · rw [if_pos hcm] at e
      exact h.2 ad e hp2
    · rw [if_neg hcm] at e
      cases A with
      | none => cases e
      | some ad0 =>
        obtain ⟨cs, hcs⟩ := h.2 ad0 rfl hp2
        have : ad = ad0.add m := by simpa using e.symm
        rw [this, add_block]
        exact ⟨cs, hcs⟩
theorem RdB.take {W : World} {A : Option Addr} {l : List Int} (h : RdB W A l) (m : Nat) (hm : m ≤ l.length) : RdB W A (l.take m) :=
  ⟨Kd.C_take h.1 hm, fun ad e hp => h.2 ad e (by rw [List.length_take] at hp; omega)⟩
/-- A block that there is, among the call's own. -/
theorem Arrs.add {w0 W : World} {xs : List (Nat × Array Value × TypeId)} {g : Nat} {cs : Array Value} {t : TypeId} (h : Arrs w0 W xs) (hb : W.heap[g]? = some (.cells cs t (0, 0))) (hg : w0.heap.size ≤ g) (ht : ∀ x, x ∈ xs → x.2.2 ≠ t) : Arrs w0 W ((g, cs, t) :: xs) := by
  have hne : ∀ (i : Nat) (g1 : Nat) (c1 : Array Value) (t1 : TypeId), xs[i]? = some (g1, c1, t1) → g ≠ g1 := by
    rintro i g1 c1 t1 e rfl
    have h1 := h.get i e
    rw [hb] at h1
    injection h1 with h1
    injection h1 with _ h1 _
    exact ht _ (List.mem_of_getElem? e) h1.symm
  refine ⟨h.1, fun i g1 c1 t1 e => ?_, fun i j g1 g2 c1 c2 t1 t2 e1 e2 hij => ?_⟩
  · cases i with
    | zero =>
      simp only [List.getElem?_cons_zero, Option.some.injEq, Prod.mk.injEq] at e
      obtain ⟨rfl, rfl, rfl⟩ := e
      exact ⟨hg, hb⟩
    | succ i =>
      rw [List.getElem?_cons_succ] at e
      exact h.2.1 i g1 c1 t1 e
  · cases i with
    | zero =>
      cases j with
      | zero => exact absurd rfl hij
      | succ j =>
        simp only [List.getElem?_cons_zero, Option.some.injEq, Prod.mk.injEq] at e1
        obtain ⟨rfl, _, _⟩ := e1
        rw [List.getElem?_cons_succ] at e2
        exact hne j _ _ _ e2
    | succ i =>
      rw [List.getElem?_cons_succ] at e1
      cases j with
      | zero =>
        simp only [List.getElem?_cons_zero, Option.some.injEq, Prod.mk.injEq] at e2
        obtain ⟨rfl, _, _⟩ := e2
        exact (hne i _ _ _ e1).symm
      | succ j =>
        rw [List.getElem?_cons_succ] at e2
        exact h.2.2 i j g1 g2 c1 c2 t1 t2 e1 e2 (by omega)
section
variable {P : Program} {ops : Array Oper} {rest : List Oper} {o : Oper} {a : Act} {Q : Exit → Act → World → Prop} {W w0 : World}
theorem box_arrs2 (hgd : o.guard = none) {N : Tmp} (_hd : o.dst = some N) (cs : Array Value) (t : TypeId) {xs : List (Nat × Array Value × TypeId)} (HS : Aside0 (Arrs w0 W xs))
    (hrun : (execOp a.eval o).run P W = .ok (.value (.pointer (some ⟨W.heap.size, 0, none⟩))) (W.alloc (.cells cs t (0, 0))))
    (h : ∀ g w1, Aside0 (Arrs w0 w1 ((g, cs, t) :: xs)) → Below W.heap.size W w1 → wpList P ops Q rest (a.put o.dst (.pointer (some ⟨g, 0, none⟩))) w1) : wpList P ops Q (o :: rest) a W :=
  Kd.event_run hgd hrun (h _ _ ⟨HS.out.alloc rfl⟩ (below_alloc (Below.refl _ _) _))
theorem store_arrs2 (hgd : o.guard = none) (ty : TypeId) {p : Tmp} (y : Operand) (ho : o.op = .store ty (.tmp p) y) (hN : o.dst = none) (i : Nat) {xs : List (Nat × Array Value × TypeId)} {g : Nat} {old : Array Value} (cs : Array Value) {t : TypeId} (HS : Aside0 (Arrs w0 W xs)) (e : xs[i]? = some (g, old, t))
    (hx : a.eval (.tmp p) = .pointer (some ⟨g, 0, none⟩)) (hy : a.eval y = .agg cs) (hi : (P.info? ty).map (·.size) = some cs.size) (hold : old.size = cs.size) (h1 : cs.all (·.oneCell') = true) (ht : t ≠ 5)
    (h : ∀ w1, Aside0 (Arrs w0 w1 (xs.set i (g, cs, t))) → (∀ A l, RdB W A l → RdB w1 A l) → wpList P ops Q rest a w1) : wpList P ops Q (o :: rest) a W := by
  refine wpList_store_row hgd ty (.tmp p) y ho g cs hx hy t old (HS.out.get i e) hi hold h1 ?_
  rw [hN]
  exact h _ ⟨HS.out.row i cs e⟩ (fun A l hr => hr.row (HS.out.get i e) ht cs)
end
section
variable {P : Program} {ops : Array Oper} {rest : List Oper} {o : Oper} {a : Act} {Q : Exit → Act → World → Prop} {W : World}
/-- A literal row of bytes. -/
theorem lit_event (hgd : o.guard = none) {N : Tmp} (hd : o.dst = some N) (xs : List Int) (hm : xs.length ≤ 1000)
    (hrun : (execOp a.eval o).run P W = .ok (.value (.slice (some ⟨W.heap.size, 0, none⟩) xs.length xs.length)) (W.alloc (.cells (U .u8 xs) 5)))
    (h : ∀ (A : Option Addr) (c : Nat) (w1 : World), (Kd.int .u8).R 5 w1 W.heap.size (fun _ => True) (.slice A xs.length c) xs → Below W.heap.size W w1 → wpList P ops Q rest (a.put o.dst (.slice A xs.length c)) w1) : wpList P ops Q (o :: rest) a W := by
  refine Kd.R_lit (Kd.int .u8) (w0 := W) W.heap.size 5 hgd hd (xs := xs) (inner := xs.map (Value.int .u8)) (ok := fun _ => True) (okp := fun _ => True) hrun (Kd.reps_scalar (enc := Value.int .u8) xs) (fun _ hk => hk) trivial (Below.refl _ _) (Nat.le_refl _) (by omega) ?_
  intro v1 w1 ho hb _ _
  obtain ⟨A, c, rfl⟩ := Kd.R_slice ho
  exact h A c w1 ho hb
end
theorem field_SV (H : List Int) (h : H.length = 8) (v : Value) (m : Int) (w : World) : (Instr.field 28 (.agg (SV H v m)) 0).run Try.prog w = .ok (.agg (U .i64 H)) w := by
  match H, h with
  | [h0, h1, h2, h3, h4, h5, h6, h7], _ => rfl
theorem index79 (h : List Int) (hh : h.length = 8) (i : Nat) (hi : i < 8) (w : World) : (Instr.index 79 (.agg (U .u32 h)) (.int .i64 i)).run Try.prog w = .ok (.int .u32 (rd h i)) w := by
  match h, hh with
  | [h0, h1, h2, h3, h4, h5, h6, h7], _ =>
    have : i = 0 ∨ i = 1 ∨ i = 2 ∨ i = 3 ∨ i = 4 ∨ i = 5 ∨ i = 6 ∨ i = 7 := by omega
    rcases this with e | e | e | e | e | e | e | e <;> (clear hi; subst e; rfl)
theorem index22 (h : List Int) (hh : h.length = 8) (i : Nat) (hi : i < 8) (w : World) : (Instr.index 22 (.agg (U .i64 h)) (.int .i64 i)).run Try.prog w = .ok (.int .i64 (rd h i)) w := by
  match h, hh with
  | [h0, h1, h2, h3, h4, h5, h6, h7], _ =>
    have : i = 0 ∨ i = 1 ∨ i = 2 ∨ i = 3 ∨ i = 4 ∨ i = 5 ∨ i = 6 ∨ i = 7 := by omega
    rcases this with e | e | e | e | e | e | e | e <;> (clear hi; subst e; rfl)
/-- A row of bytes is none of the blocks of another type. -/
theorem R_not {W : World} {base g : Nat} {ok : Nat → Prop} {v : Value} {xs : List Int} {cs : Array Value} {t : TypeId} (h : (Kd.int .u8).R 5 W base ok v xs) (hg : W.heap[g]? = some (.cells cs t (0, 0))) (ht : t ≠ 5) : (Kd.int .u8).R 5 W base (fun k => ok k ∧ k ≠ g) v xs := by
  refine Kd.R_mono (Kd.R_bound h) (fun k hk => ⟨hk.1, ?_⟩)
  rintro rfl
  obtain ⟨q, hq, cells, hc⟩ := hk.2.2.2
  have hq5 : q ∈ [5] := hq
  rw [hg] at hc
  injection hc with hc
  injection hc with _ hc _
  have : q = 5 := by simpa using hq5
  exact ht (hc.trans this)
def outB (H : List Int) (k : Nat) : List Int := [rd H k / 16777216 % 256, rd H k / 65536 % 256, rd H k / 256 % 256, rd H k % 256]
def outN (H : List Int) (n : Nat) : List Int := iter (fun k l => l ++ outB H k) n []
theorem outN_len (H : List Int) (n : Nat) : (outN H n).length = 4 * n := by
  induction n with
  | zero => rfl
  | succ n ih =>
    show (outN H n ++ outB H n).length = _
    rw [List.length_append, ih]
    show 4 * n + 4 = _
    omega
/-! ### impl_sha: the program's digest, walked by hand -/
set_option maxHeartbeats 8000000 in
set_option maxRecDepth 100000 in
theorem impl_words.calls (h0 h1 h2 h3 h4 h5 h6 h7 : Int) (v : Value) (m : Int) (w : World) :
    Calls Try.prog 65 #[.agg #[.int .i64 h0, .int .i64 h1, .int .i64 h2, .int .i64 h3, .int .i64 h4, .int .i64 h5, .int .i64 h6, .int .i64 h7, v, .int .i64 m]] w fun e w' => e = .returned (.agg (U .u32 (wds [h0, h1, h2, h3, h4, h5, h6, h7]))) ∧ Below w.heap.size w w' := by
  obtain ⟨H, hH⟩ : ∃ H, H = [h0, h1, h2, h3, h4, h5, h6, h7] := ⟨_, rfl⟩
  have hix : ∀ (i : Nat) (w : World), i < 8 → (Instr.index 22 (.agg #[.int .i64 h0, .int .i64 h1, .int .i64 h2, .int .i64 h3, .int .i64 h4, .int .i64 h5, .int .i64 h6, .int .i64 h7]) (.int .i64 i)).run Try.prog w = .ok (.int .i64 (rd H i)) w := by
    intro i w hi
    subst hH
    have : i = 0 ∨ i = 1 ∨ i = 2 ∨ i = 3 ∨ i = 4 ∨ i = 5 ∨ i = 6 ∨ i = 7 := by omega
    rcases this with e | e | e | e | e | e | e | e <;> (clear hi; subst e; rfl)
  rw [← hH]
  have NH := Aside0.mk hH
  clear hH
  go_enter Try.func65, Try.ntmps65
  go_wp2
  go_loopg [9] 8 (fun kq v9 w' => ∃ i : Nat, v9 = .int .i64 i ∧ i + kq = 8 ∧ Aside0 (Arrs w w' [(w.heap.size + 1 + 1, U .u32 (fill (fun i => IntKind.u32.wrap (rd H i)) i z8), 79), (w.heap.size + 1, U .u32 z8, 79)]))
  case atStart =>
    exact ⟨0, by go_num, by omega, ⟨(((Arrs.refl w).below (below_alloc (Below.refl _ _) _)).alloc (g := w.heap.size + 1)).alloc (g := w.heap.size + 1 + 1)⟩⟩
  case round =>
    obtain ⟨i, rfl, hi, HS⟩ := hrel
    have hl : (fill (fun i => IntKind.u32.wrap (rd H i)) i z8).length = 8 := fill_len (fun i => IntKind.u32.wrap (rd H i)) i z8
    by_cases c : i < 8
    · have hx := fun W => hix i W c
      clear hix
      have hfz := HS.out.free 0 i
      have hcl := HS.out.cell 0 i (by rw [hl]; exact c)
      clear hl
      go_wp2
      go_roundg (gk - 1)
      case measure => omega
      case rel => exact ⟨i + 1, by go_num, by omega, ⟨HS.out.putU 0 i _⟩⟩
    · clear hix
      obtain rfl : i = 8 := by omega
      clear c
      go_wp2_with (first | ((with_reducible refine gate_dst (N := 18) rfl ?_); refine wpList_load_row rfl 79 (.tmp 3) rfl _ rfl 79 _ _ _ (HS.out.get 0) Try.underlying79 rfl (info_U _ size79 hl) ?_) | ((with_reducible refine gate_store (t := 79) (p := 2) rfl ?_); refine wpList_store_row rfl 79 (.tmp 2) (.tmp 18) rfl _ _ rfl rfl 79 _ (HS.out.get 1) (info_U _ size79 hl) (by rw [U_size, U_size, hl]; rfl) (U_one _ _) ?_))
      have HE := HS.out.row 1 (U .u32 (fill (fun i => IntKind.u32.wrap (rd H i)) 8 z8))
      exact bodyPost_ret (results_cell_row rfl _ _ _ 79 _ (0, 0) _ rfl (HE.get 1) Try.underlying79 rfl (info_U _ size79 hl)) rfl ⟨rfl, HE.1⟩
set_option maxHeartbeats 8000000 in
set_option maxRecDepth 100000 in
theorem rotl_still (x m n : Int) (hm : Go.bits .and .u64 (IntKind.u64.wrap m) 31 = n) (h0 : 0 ≤ n) (h1 : n ≤ 31) (w : World) :
    Calls Try.prog 75 #[.int .u32 x, .int .i64 m] w fun e w' => e = .returned (.int .u32 (Go.bits .or .u32 (shl .u32 x n) (shr .u32 x (32 - n)))) ∧ w' = w := by
  have q : IntKind.u64.wrap (32 - n) = 32 - n := IntWalk.u64_in _ (by omega)
  go_enter Try.func75, Try.ntmps75
  go_wp2
  have e1 : x * 2 ^ n.toNat % 4294967296 = shl .u32 x n := by rw [← shl_small (k := .u32) (x := x) (y := n) rfl (show n ≤ ((32 : Nat) : Int) by omega)]; rfl
  have e2 : x / 2 ^ (32 - n).toNat = shr .u32 x (32 - n) := shr_small rfl (show 32 - n ≤ ((32 : Nat) : Int) by omega)
  go_ret
  exact ⟨by rw [e1, e2]; rfl, rfl⟩
set_option maxHeartbeats 8000000 in
set_option maxRecDepth 100000 in
theorem impl_turn_still (x n : Int) (h : n = 2 ∨ n = 6 ∨ n = 7 ∨ n = 11 ∨ n = 13 ∨ n = 17 ∨ n = 18 ∨ n = 19 ∨ n = 22 ∨ n = 25) (w : World) :
    Calls Try.prog 73 #[.int .u32 x, .int .i64 n] w fun e w' => e = .returned (.int .u32 (rot x n)) ∧ w' = w := by
  have e : Go.bits .and .u64 (IntKind.u64.wrap (wrap64 (-n))) 31 = 32 - n := by
    rcases h with rfl | rfl | rfl | rfl | rfl | rfl | rfl | rfl | rfl | rfl <;> kernel_rfl
  have hn : 2 ≤ n ∧ n ≤ 25 := by omega
  have E := Aside0.mk e
  clear e h
  have q : wrap64 (-n) = -n := by unfold wrap64; omega
  have Q := Aside0.mk q
  clear q
  go_enter Try.func73, Try.ntmps73
  go_wp2_with (go_at_call 75; refine (rotl_still _ _ (32 - n) (by have := E.out; rwa [Q.out] at this) (by omega) (by omega) _).mono ?_; rintro e w' ⟨rfl, rfl⟩)
  go_ret
  exact ⟨by rw [bor_comm]; unfold rot; rw [show (32 : Int) - (32 - n) = n by omega]; rfl, rfl⟩
def m0_ (x y : Int) : Int := IntKind.u64.wrap (Go.bits .and .u64 x 4294967295 * Go.bits .and .u64 y 4294967295)
def m1_ (x y : Int) : Int := IntKind.u64.wrap (IntKind.u64.wrap (x / 4294967296 * Go.bits .and .u64 y 4294967295) + m0_ x y / 4294967296)
def m2_ (x y : Int) : Int := IntKind.u64.wrap (Go.bits .and .u64 (m1_ x y) 4294967295 + IntKind.u64.wrap (Go.bits .and .u64 x 4294967295 * (y / 4294967296)))
/-- A product's high 64 bits, and its low ones. -/
def mulHi (x y : Int) : Int := IntKind.u64.wrap (IntKind.u64.wrap (IntKind.u64.wrap (x / 4294967296 * (y / 4294967296)) + m1_ x y / 4294967296) + m2_ x y / 4294967296)
def mulLo (x y : Int) : Int := IntKind.u64.wrap (x * y)
set_option maxHeartbeats 8000000 in
set_option maxRecDepth 100000 in
theorem mul64 (x y : Int) (w : World) : Calls Try.prog 59 #[.int .u64 x, .int .u64 y] w fun e w' => e = .returned (.tuple #[.int .u64 (mulHi x y), .int .u64 (mulLo x y)]) ∧ w' = w := by
  go_enter Try.func59, Try.ntmps59
  go_wp2
  go_ret2
  exact ⟨rfl, rfl⟩
def sqIs (p r : Int) : Bool := decide (mulHi r r < p) || (decide (mulHi r r = p) && decide (mulLo r r = 0))
def cuHi (r : Int) : Int := IntKind.u64.wrap (IntKind.u64.wrap (mulHi r r * r) + mulHi (mulLo r r) r)
def cuIs (p r : Int) : Bool := decide (cuHi r < IntKind.u64.wrap (p * 4294967296)) || (decide (cuHi r = IntKind.u64.wrap (p * 4294967296)) && decide (mulLo (mulLo r r) r = 0))
set_option maxHeartbeats 8000000 in
set_option maxRecDepth 100000 in
theorem sq_is (p r : Int) (g : Nat) (w : World) (hg : w.cell? ⟨g, 0, none⟩ = some (.int .u64 p)) : Calls Try.prog 58 #[.int .u64 r, .pointer (some ⟨g, 0, none⟩)] w fun e w' => e = .returned (.bool (sqIs p r)) ∧ w' = w := by
  obtain ⟨h, hh⟩ : ∃ h, h = mulHi r r := ⟨_, rfl⟩
  obtain ⟨l, hl⟩ : ∃ l, l = mulLo r r := ⟨_, rfl⟩
  have M := fun W => mul64 r r W
  unfold sqIs
  rw [← hh, ← hl] at *
  clear hh hl
  have HM := Aside0.mk M
  clear M
  by_cases c1 : h < p
  · rw [decide_eq_true c1, Bool.true_or]
    have d1 : decide (h < p) = true := decide_eq_true c1
    go_enter Try.func58, Try.ntmps58
    go_wp2_with (go_at_call 59; refine (HM.out _).mono ?_; rintro e w' ⟨rfl, rfl⟩)
    go_ret
    exact ⟨rfl, rfl⟩
  · rw [decide_eq_false c1, Bool.false_or]
    have d1 : decide (h < p) = false := decide_eq_false c1
    by_cases c2 : h = p
    · rw [decide_eq_true c2, Bool.true_and]
      have d2 : (h == p) = true := by simpa using c2
      clear c2 c1
      go_enter Try.func58, Try.ntmps58
      go_wp2_with (go_at_call 59; refine (HM.out _).mono ?_; rintro e w' ⟨rfl, rfl⟩)
      go_ret
      exact ⟨rfl, rfl⟩
    · rw [decide_eq_false c2, Bool.false_and]
      have d2 : (h == p) = false := by simpa using c2
      clear c2 c1
      go_enter Try.func58, Try.ntmps58
      go_wp2_with (go_at_call 59; refine (HM.out _).mono ?_; rintro e w' ⟨rfl, rfl⟩)
      go_ret
      exact ⟨rfl, rfl⟩
set_option maxHeartbeats 8000000 in
set_option maxRecDepth 100000 in
theorem cu_is (p r : Int) (g : Nat) (w : World) (hg : w.cell? ⟨g, 0, none⟩ = some (.int .u64 p)) : Calls Try.prog 74 #[.int .u64 r, .pointer (some ⟨g, 0, none⟩)] w fun e w' => e = .returned (.bool (cuIs p r)) ∧ w' = w := by
  obtain ⟨h, hh⟩ : ∃ h, h = mulHi r r := ⟨_, rfl⟩
  obtain ⟨l, hl⟩ : ∃ l, l = mulLo r r := ⟨_, rfl⟩
  obtain ⟨h2, hh2⟩ : ∃ h, h = mulHi l r := ⟨_, rfl⟩
  obtain ⟨l2, hl2⟩ : ∃ l2, l2 = mulLo l r := ⟨_, rfl⟩
  have M := fun W => mul64 r r W
  have M2 := fun W => mul64 l r W
  unfold cuIs cuHi
  rw [← hh, ← hl] at *
  rw [← hh2, ← hl2] at *
  clear hh hl hh2 hl2
  have HM := Aside0.mk M
  have HM2 := Aside0.mk M2
  clear M M2
  by_cases c1 : IntKind.u64.wrap (IntKind.u64.wrap (h * r) + h2) < IntKind.u64.wrap (p * 4294967296)
  · rw [decide_eq_true c1, Bool.true_or]
    have d1 : decide (IntKind.u64.wrap (IntKind.u64.wrap (h * r) + h2) < IntKind.u64.wrap (p * 4294967296)) = true := decide_eq_true c1
    clear c1
    go_enter Try.func74, Try.ntmps74
    go_wp2_with (first | (go_at_call 59; ((with_reducible refine (HM.out _).mono ?_); rintro e w' ⟨rfl, rfl⟩)) | (go_at_call 59; ((with_reducible refine (HM2.out _).mono ?_); rintro e w' ⟨rfl, rfl⟩)))
    go_ret
    exact ⟨rfl, rfl⟩
  · rw [decide_eq_false c1, Bool.false_or]
    have d1 : decide (IntKind.u64.wrap (IntKind.u64.wrap (h * r) + h2) < IntKind.u64.wrap (p * 4294967296)) = false := decide_eq_false c1
    clear c1
    by_cases c2 : IntKind.u64.wrap (IntKind.u64.wrap (h * r) + h2) = IntKind.u64.wrap (p * 4294967296)
    · rw [decide_eq_true c2, Bool.true_and]
      have d2 : (IntKind.u64.wrap (IntKind.u64.wrap (h * r) + h2) == IntKind.u64.wrap (p * 4294967296)) = true := by simpa using c2
      clear c2
      go_enter Try.func74, Try.ntmps74
      go_wp2_with (first | (go_at_call 59; ((with_reducible refine (HM.out _).mono ?_); rintro e w' ⟨rfl, rfl⟩)) | (go_at_call 59; ((with_reducible refine (HM2.out _).mono ?_); rintro e w' ⟨rfl, rfl⟩)))
      go_ret
      exact ⟨rfl, rfl⟩
    · rw [decide_eq_false c2, Bool.false_and]
      have d2 : (IntKind.u64.wrap (IntKind.u64.wrap (h * r) + h2) == IntKind.u64.wrap (p * 4294967296)) = false := by simpa using c2
      clear c2
      go_enter Try.func74, Try.ntmps74
      go_wp2_with (first | (go_at_call 59; ((with_reducible refine (HM.out _).mono ?_); rintro e w' ⟨rfl, rfl⟩)) | (go_at_call 59; ((with_reducible refine (HM2.out _).mono ?_); rintro e w' ⟨rfl, rfl⟩)))
      go_ret
      exact ⟨rfl, rfl⟩
/-- The greatest number of these bits that is as asked, bit by bit. -/
def fracL (is : Int → Bool) : Nat → Int → Int → Int
  | 0, r, _ => r
  | n + 1, r, b => if b > 0 then fracL is n (if is (Go.bits .or .u64 r b) then Go.bits .or .u64 r b else r) (b / 2) else r
set_option maxHeartbeats 8000000 in
set_option maxRecDepth 100000 in
theorem frac58 (p : Int) (g : Nat) (w : World) (hg : w.cell? ⟨g, 0, none⟩ = some (.int .u64 p)) : Calls Try.prog 57 #[.func (.func 58) #[] #[.pointer (some ⟨g, 0, none⟩)]] w fun e w' => e = .returned (.int .u32 (IntKind.u32.wrap (fracL (sqIs p) 38 0 68719476736))) ∧ w' = w := by
  have HG := Aside0.mk hg
  clear hg
  obtain ⟨R, hR⟩ : ∃ R, R = fracL (sqIs p) 38 0 68719476736 := ⟨_, rfl⟩
  rw [← hR]
  have NR := Aside0.mk hR
  clear hR
  go_enter Try.func57, Try.ntmps57
  go_wp2
  go_loopg [3, 4] 38 (fun kq v3 v4 w' => ∃ r b : Int, v3 = .int .u64 r ∧ v4 = .int .u64 b ∧ 0 ≤ b ∧ Aside0 (b < 2 ^ kq) ∧ Aside0 (fracL (sqIs p) kq r b = R) ∧ w' = w)
  case atStart => exact ⟨0, 68719476736, rfl, rfl, by omega, ⟨by decide⟩, ⟨NR.out.symm⟩, rfl⟩
  case round =>
    obtain ⟨r, b, rfl, rfl, hb, HB, HF, rfl⟩ := hrel
    by_cases c : b > 0
    · cases gk with
      | zero => exact absurd HB.out (by simp; omega)
      | succ n =>
        have HB2 : Aside0 (b / 2 < 2 ^ n) := ⟨by have := HB.out; rw [Int.pow_succ] at this; omega⟩
        have h := HF.out
        clear HF
        unfold fracL at h
        rw [if_pos c] at h
        obtain ⟨q, hq⟩ : ∃ q, q = sqIs p (Go.bits .or .u64 r b) := ⟨_, rfl⟩
        rw [← hq] at h
        have HQ := Aside0.mk hq
        clear hq
        cases q with
        | true =>
          have HF := Aside0.mk h
          clear h
          have HD : Aside0 (sqIs p (Go.bits .or .u64 r b) = true) := ⟨HQ.out.symm⟩
          go_wp2_with (go_at_call 58; refine (sq_is p _ g _ HG.out).mono ?_; rintro e w' ⟨rfl, rfl⟩; rw [HD.out])
          go_roundg n
          case measure => omega
          case rel => exact ⟨_, _, rfl, rfl, by omega, HB2, ⟨HF.out⟩, rfl⟩
        | false =>
          have HF := Aside0.mk h
          clear h
          have HD : Aside0 (sqIs p (Go.bits .or .u64 r b) = false) := ⟨HQ.out.symm⟩
          go_wp2_with (go_at_call 58; refine (sq_is p _ g _ HG.out).mono ?_; rintro e w' ⟨rfl, rfl⟩; rw [HD.out])
          go_roundg n
          case measure => omega
          case rel => exact ⟨_, _, rfl, rfl, by omega, HB2, ⟨HF.out⟩, rfl⟩
    · have e : r = R := by
        have h := HF.out
        cases gk with
        | zero => exact h
        | succ n => unfold fracL at h; rwa [if_neg c] at h
      subst e
      clear HF
      obtain rfl : b = 0 := by omega
      clear c
      go_wp2
      go_ret
      exact ⟨rfl, rfl⟩
set_option maxHeartbeats 8000000 in
set_option maxRecDepth 100000 in
theorem frac74 (p : Int) (g : Nat) (w : World) (hg : w.cell? ⟨g, 0, none⟩ = some (.int .u64 p)) : Calls Try.prog 57 #[.func (.func 74) #[] #[.pointer (some ⟨g, 0, none⟩)]] w fun e w' => e = .returned (.int .u32 (IntKind.u32.wrap (fracL (cuIs p) 38 0 68719476736))) ∧ w' = w := by
  have HG := Aside0.mk hg
  clear hg
  obtain ⟨R, hR⟩ : ∃ R, R = fracL (cuIs p) 38 0 68719476736 := ⟨_, rfl⟩
  rw [← hR]
  have NR := Aside0.mk hR
  clear hR
  go_enter Try.func57, Try.ntmps57
  go_wp2
  go_loopg [3, 4] 38 (fun kq v3 v4 w' => ∃ r b : Int, v3 = .int .u64 r ∧ v4 = .int .u64 b ∧ 0 ≤ b ∧ Aside0 (b < 2 ^ kq) ∧ Aside0 (fracL (cuIs p) kq r b = R) ∧ w' = w)
  case atStart => exact ⟨0, 68719476736, rfl, rfl, by omega, ⟨by decide⟩, ⟨NR.out.symm⟩, rfl⟩
  case round =>
    obtain ⟨r, b, rfl, rfl, hb, HB, HF, rfl⟩ := hrel
    by_cases c : b > 0
    · cases gk with
      | zero => exact absurd HB.out (by simp; omega)
      | succ n =>
        have HB2 : Aside0 (b / 2 < 2 ^ n) := ⟨by have := HB.out; rw [Int.pow_succ] at this; omega⟩
        have h := HF.out
        clear HF
        unfold fracL at h
        rw [if_pos c] at h
        obtain ⟨q, hq⟩ : ∃ q, q = cuIs p (Go.bits .or .u64 r b) := ⟨_, rfl⟩
        rw [← hq] at h
        have HQ := Aside0.mk hq
        clear hq
        cases q with
        | true =>
          have HF := Aside0.mk h
          clear h
          have HD : Aside0 (cuIs p (Go.bits .or .u64 r b) = true) := ⟨HQ.out.symm⟩
          go_wp2_with (go_at_call 74; refine (cu_is p _ g _ HG.out).mono ?_; rintro e w' ⟨rfl, rfl⟩; rw [HD.out])
          go_roundg n
          case measure => omega
          case rel => exact ⟨_, _, rfl, rfl, by omega, HB2, ⟨HF.out⟩, rfl⟩
        | false =>
          have HF := Aside0.mk h
          clear h
          have HD : Aside0 (cuIs p (Go.bits .or .u64 r b) = false) := ⟨HQ.out.symm⟩
          go_wp2_with (go_at_call 74; refine (cu_is p _ g _ HG.out).mono ?_; rintro e w' ⟨rfl, rfl⟩; rw [HD.out])
          go_roundg n
          case measure => omega
          case rel => exact ⟨_, _, rfl, rfl, by omega, HB2, ⟨HF.out⟩, rfl⟩
    · have e : r = R := by
        have h := HF.out
        cases gk with
        | zero => exact h
        | succ n => unfold fracL at h; rwa [if_neg c] at h
      subst e
      clear HF
      obtain rfl : b = 0 := by omega
      clear c
      go_wp2
      go_ret
      exact ⟨rfl, rfl⟩
def sqrtW (p : Int) : Int := IntKind.u32.wrap (fracL (sqIs p) 38 0 68719476736)
def cubeW (p : Int) : Int := IntKind.u32.wrap (fracL (cuIs p) 38 0 68719476736)
set_option maxHeartbeats 8000000 in
set_option maxRecDepth 100000 in
theorem square_root (p : Int) (w : World) : Calls Try.prog 42 #[.int .u64 p] w fun e w' => e = .returned (.int .u32 (sqrtW p)) ∧ Below w.heap.size w w' := by
  have hc : (w.alloc (.cells #[.int .u64 p] 54)).cell? ⟨w.heap.size, 0, none⟩ = some (.int .u64 p) := (blk_cell (blk_new _ _) 0).trans rfl
  have HC := Aside0.mk hc
  clear hc
  go_enter Try.func42, Try.ntmps42
  go_wp2_with (go_at_call 57; refine (frac58 p _ _ HC.out).mono ?_; rintro e w' ⟨rfl, rfl⟩)
  go_ret
  exact ⟨rfl, below_alloc (Below.refl _ _) _⟩
set_option maxHeartbeats 8000000 in
set_option maxRecDepth 100000 in
theorem cube_root (p : Int) (w : World) : Calls Try.prog 72 #[.int .u64 p] w fun e w' => e = .returned (.int .u32 (cubeW p)) ∧ Below w.heap.size w w' := by
  have hc : (w.alloc (.cells #[.int .u64 p] 54)).cell? ⟨w.heap.size, 0, none⟩ = some (.int .u64 p) := (blk_cell (blk_new _ _) 0).trans rfl
  have HC := Aside0.mk hc
  clear hc
  go_enter Try.func72, Try.ntmps72
  go_wp2_with (go_at_call 57; refine (frac74 p _ _ HC.out).mono ?_; rintro e w' ⟨rfl, rfl⟩)
  go_ret
  exact ⟨rfl, below_alloc (Below.refl _ _) _⟩
def P64 : List Int := [2, 3, 5, 7, 11, 13, 17, 19, 23, 29, 31, 37, 41, 43, 47, 53, 59, 61, 67, 71, 73, 79, 83, 89, 97, 101, 103, 107, 109, 113, 127, 131, 137, 139, 149, 151, 157, 163, 167, 173, 179, 181, 191, 193, 197, 199, 211, 223, 227, 229, 233, 239, 241, 251, 257, 263, 269, 271, 277, 281, 283, 293, 307, 311]
theorem primes64_ : impl_primes.f 400 64 = some P64 := by kernel_rfl
theorem primes8_ : impl_primes.f 400 8 = some [2, 3, 5, 7, 11, 13, 17, 19] := by kernel_rfl
theorem R_base {α : Type} {d : Kd α} {e base : Nat} {W : World} {v : Value} {xs : List α} {ok : Nat → Prop} (h : d.R e W base ok v xs) : d.R e W base (fun k => base ≤ k) v xs := Kd.R_mono (Kd.R_bound h) (fun _ hk => hk.2.1)
theorem R_row {α : Type} {d : Kd α} {e base g : Nat} {W : World} {v : Value} {xs : List α} (h : d.R e W base (fun k => base ≤ k) v xs) (hg : g < base) (cs : Array Value) : d.R e (W.setRow g cs) base (fun k => base ≤ k) v xs := Kd.R_step h (fun k hk _ => setRow_other W g k cs (by omega))
set_option maxHeartbeats 8000000 in
set_option maxRecDepth 100000 in
theorem impl_constants.calls (w : World) : Calls Try.prog 66 #[] w fun e w' => e = .returned (.agg (U .u32 (fill (fun i => cubeW (rd P64 i)) 64 z64))) ∧ Below w.heap.size w w' := by
  have HS : Aside0 (Arrs w w []) := ⟨Arrs.refl w⟩
  have LP : Aside0 (P64.length = 64) := ⟨rfl⟩
  go_enter Try.func66, Try.ntmps66
  go_wp2_with (first
   | ((with_reducible refine gate_dst (N := 0) rfl ?_); refine box_arrs ?hg0 (N := 0) ?hd0 (U .u32 z64) 81 HS ?hr0 ?_; (case hd0 => rfl); (case hg0 => rfl); (case hr0 => first | (go_simp; done) | (go_simp; rfl)); intro g0 w0 h_; clear HS; have HS := h_; clear h_)
   | ((with_reducible refine gate_dst (N := 4) rfl ?_); refine build_event rfl (N := 4) rfl 81 #[] rfl (U .u32 z64) (by kernel_rfl) ?_)
   | ((with_reducible refine gate_dst (N := 1) rfl ?_); refine box_arrs ?hg1 (N := 1) ?hd1 (U .u32 z64) 81 HS ?hr1 ?_; (case hd1 => rfl); (case hg1 => rfl); (case hr1 => first | (go_simp; done) | (go_simp; rfl)); intro g1 w1 h_; clear HS; have HS := h_; clear h_)
   | ((with_reducible refine gate_store (t := 81) (p := 1) rfl ?_); refine store_arrs rfl 81 (.tmp 4) rfl rfl 0 (U .u32 z64) HS rfl rfl rfl (info_U _ size81 rfl) (rfl) (U_one _ _) ?_; intro w5 h_; clear HS; have HS := h_; clear h_)
   | (go_at_call 41; ((with_reducible refine (impl_primes.calls 400 64 _ _ primes64_).mono ?_); rintro e w6 ⟨v5, rfl, ho, hb⟩; obtain ⟨n0, hn0⟩ : ∃ n0, n0 = w5.heap.size := ⟨_, rfl⟩; have HL : Aside0 (g1 < n0) := ⟨by rw [hn0]; exact HS.out.lt 0⟩; rw [← hn0] at ho; have HO := Aside0.mk (R_base ho); have h_ := Aside0.mk (HS.out.below hb); clear HS ho hb hn0; have HS := h_; clear h_; obtain ⟨A5, c5, rfl⟩ := Kd.R_slice HO.out; rw [LP.out] at HO ⊢)))
  go_loopg [7] 64 (fun kq v7 w' => ∃ i : Nat, v7 = .int .i64 i ∧ i + kq = 64 ∧ Aside0 (Arrs w w' [(g1, U .u32 (fill (fun i => cubeW (rd P64 i)) i z64), 81), (g0, U .u32 z64, 81)]) ∧ Aside0 ((Kd.int .u64).R 54 w' n0 (fun k => n0 ≤ k) (.slice A5 64 c5) P64))
  case atStart => exact ⟨0, by go_num, by omega, HS, HO⟩
  case round =>
    obtain ⟨i, rfl, hi, HS, HO⟩ := hrel
    by_cases c : i < 64
    · obtain ⟨ad, e1, hx⟩ := Kd.at_int (Kd.R_reads' HO.out).2.2 i (by omega) (by rw [LP.out]; omega)
      cases e1
      have hx : wr.cell? (ad.add i) = some (.int .u64 (rd P64 i)) := hx
      have hcl := HS.out.cell (l := fill (fun i => cubeW (rd P64 i)) i z64) 0 i (by rw [fill_len]; exact c)
      have hfz := HS.out.free 0 i
      go_wp2_with (first
       | (go_at_call 72; refine (cube_root _ _).mono ?_; rintro e w7 ⟨rfl, hb⟩; have h_ := Aside0.mk (HS.out.below hb); have h2_ := Aside0.mk (Kd.R_below HO.out hb); clear HS HO hb hx hcl hfz; have HS := h_; have HO := h2_; clear h_ h2_; have hcl := HS.out.cell (l := fill (fun i => cubeW (rd P64 i)) i z64) 0 i (by rw [fill_len]; exact c); have hfz := HS.out.free 0 i))
      go_roundg (64 - i - 1)
      case measure => omega
      case rel => exact ⟨i + 1, by go_num, by omega, ⟨HS.out.putU 0 i _⟩, ⟨Kd.R_far HO.out (fun k hk => by show k ≠ g1; have := HL.out; omega) _⟩⟩
    · obtain rfl : i = 64 := by omega
      clear c
      have hl : (fill (fun i => cubeW (rd P64 i)) 64 z64).length = 64 := fill_len _ _ _
      go_wp2_with (first
       | ((with_reducible refine gate_dst (N := 17) rfl ?_); refine load_arrs rfl (N := 17) rfl 81 (.tmp 1) rfl 0 HS rfl rfl Try.underlying81 rfl (info_U _ size81 hl) ?_)
       | ((with_reducible refine gate_store (t := 81) (p := 0) rfl ?_); refine store_arrs rfl 81 (.tmp 17) rfl rfl 1 (U .u32 (fill (fun i => cubeW (rd P64 i)) 64 z64)) HS rfl rfl rfl (info_U _ size81 hl) (by rw [U_size, U_size, hl]; rfl) (U_one _ _) ?_; intro w5 h_; clear HS; have HS := h_; clear h_))
      exact bodyPost_ret (results_cell_row rfl _ _ _ 81 _ (0, 0) _ rfl (HS.out.get 1) Try.underlying81 rfl (info_U _ size81 hl)) rfl ⟨rfl, HS.out.1⟩
set_option maxHeartbeats 8000000 in
set_option maxRecDepth 100000 in
theorem slices_Grow (n : Int) (h0 : 0 ≤ n) (h1 : n ≤ 1000000000000) (w : World) :
    Calls Try.prog 68 #[.slice none 0 0, .int .i64 n] w fun e w' => ∃ v : Value, e = .returned v ∧ Kd.R (Kd.int .u8) 5 w' w.heap.size (fun _ => True) v [] ∧ Below w.heap.size w w' := by
  have HO := Aside0.mk (Kd.R_nil (Kd.int .u8) 5 w w.heap.size (fun _ => True))
  have HB := Aside0.mk (Below.refl w.heap.size w)
  by_cases c : n = 0
  · subst c
    go_enter Try.func68, Try.ntmps68
    go_wp2
    go_ret
    exact ⟨_, rfl, HO.out, HB.out⟩
  · have hn : 0 < n := by omega
    go_enter Try.func68, Try.ntmps68
    go_wp2_with (first | ((with_reducible refine gate_builtin (b := .append) (xs := #[.tmp 20, .tmp 21]) rfl ?_); at_builtin; refine Kd.R_append_zeros (Kd.int .u8) (w0 := w) w.heap.size rfl (.tmp 20) (.tmp 21) 23 3 5 (.int .u8 0) 1 rfl Try.underlying23 Try.underlying3 info5 rfl (by decide) (by decide) (.slice none 0 0) [] 0 n (fun _ => True) rfl rfl ?z1 (fun _ _ => trivial) HO.out h0 HB.out (Nat.le_refl _) ?z2 ?_; (case z1 => exact rfl); (case z2 => simp; omega); intro v22 w22 ho hb hg hat; have n0_ := Aside0.mk hb; have n1_ := Aside0.mk ho; clear HB HO; have HB := n0_; have HO := n1_; clear n0_ n1_ ho hb hg hat; obtain ⟨A22, c22, rfl⟩ := Kd.R_slice HO.out))
    go_ret
    exact ⟨_, rfl, by have h := Kd.R_take HO.out (m := 0) (Nat.zero_le _); rw [List.take_zero] at h; exact h, HB.out⟩
set_option maxHeartbeats 8000000 in
set_option maxRecDepth 100000 in
theorem slices_Concat (g : Nat) (A1 A2 : Option Addr) (c1 c2 : Nat) (l1 l2 : List Int) (w : World) (hg : w.heap[g]? = some (.cells #[.slice A1 l1.length c1, .slice A2 l2.length c2] 23 (0, 0))) (h1 : Kd.C (Kd.int .u8) w A1 l1.length l1) (h2 : Kd.C (Kd.int .u8) w A2 l2.length l2) (hl : l1.length + l2.length ≤ 1000000000000) :
    Calls Try.prog 53 #[.slice (some ⟨g, 0, none⟩) 2 2] w fun e w' => ∃ v : Value, e = .returned v ∧ Kd.R (Kd.int .u8) 5 w' w.heap.size (fun _ => True) v (l1 ++ l2) ∧ Below w.heap.size w w' := by
  have H1 := Aside0.mk h1
  have H2 := Aside0.mk h2
  have HG := Aside0.mk hg
  have e0 : w.cell? ⟨g, 0, none⟩ = some (.slice A1 l1.length c1) := (blk_cell hg 0).trans rfl
  have e1 : w.cell? ⟨g, 1, none⟩ = some (.slice A2 l2.length c2) := (blk_cell hg 1).trans rfl
  have q0 : 0 ≤ (l1.length : Int) + l2.length := by omega
  have q1 : (l1.length : Int) + l2.length ≤ 1000000000000 := by omega
  have q2 : 0 ≤ (l1.length : Int) := by omega
  clear h1 h2 hg
  go_enter Try.func53, Try.ntmps53
  go_wp2
  refine wp_loop_rounds 3 ?_
  rw [rounds_succ]
  go_wp2
  rw [rounds_succ]
  go_wp2
  rw [rounds_succ]
  go_wp2_with (first | (go_at_call 68; ((with_reducible refine (slices_Grow _ (by omega) (by omega) _).mono ?_); rintro e w2 ⟨v6, rfl, ho, hb⟩; have HB := Aside0.mk hb; have HO := Aside0.mk ho; clear ho hb e0 e1; have e0 : w2.cell? ⟨g, 0, none⟩ = some (.slice A1 l1.length c1) := (blk_cell (blk_below HG.out HB.out) 0).trans rfl; have e1 : w2.cell? ⟨g, 1, none⟩ = some (.slice A2 l2.length c2) := (blk_cell (blk_below HG.out HB.out) 1).trans rfl)))
  refine wp_loop_rounds 3 ?_
  rw [rounds_succ]
  go_wp2_with (first
   | ((with_reducible refine gate_builtin (b := .append) (xs := #[.tmp 31, .tmp 32]) rfl ?_); at_builtin; refine Kd.R_append_rows (Kd.int .u8) (w0 := w) w.heap.size rfl (.tmp 31) (.tmp 32) 23 5 (.int .u8 0) 1 rfl Try.underlying23 info5 rfl (by decide) (by omega) (v6) ([]) (l1) _ _ _ (fun _ => True) (fun _ => False) rfl rfl ?aOx1 ?aRx1 (fun _ _ h => h) (fun _ h => h.elim) ?aFx1 ?aBx1 ?aSx1 ?aLx1 ?_; (case aRx1 => exact (Kd.C_below H1.out HB.out)); (case aBx1 => exact HB.out); (case aFx1 => exact (fun _ _ => trivial)); (case aOx1 => exact HO.out); (case aSx1 => exact below_size HB.out); (case aLx1 => simp only [List.length_nil]; omega); intro x1 wx1 ho hb hg hat; have n0_ := Aside0.mk hb; have n1_ := Aside0.mk ho; clear HB HO; have HB := n0_; have HO := n1_; clear n0_ n1_ ho hb hg hat))
  have HG2 := Aside0.mk (blk_below HG.out HB.out)
  have e1 : wx1.cell? ⟨g, 1, none⟩ = some (.slice A2 l2.length c2) := (blk_cell HG2.out 1).trans rfl
  rw [rounds_succ]
  go_wp2_with (first
   | ((with_reducible refine gate_builtin (b := .append) (xs := #[.tmp 31, .tmp 32]) rfl ?_); at_builtin; refine Kd.R_append_rows (Kd.int .u8) (w0 := w) w.heap.size rfl (.tmp 31) (.tmp 32) 23 5 (.int .u8 0) 1 rfl Try.underlying23 info5 rfl (by decide) (by omega) (x1) ([] ++ l1) (l2) _ _ _ (fun _ => True) (fun _ => False) rfl rfl ?aOx2 ?aRx2 (fun _ _ h => h) (fun _ h => h.elim) ?aFx2 ?aBx2 ?aSx2 ?aLx2 ?_; (case aRx2 => exact (Kd.C_below H2.out HB.out)); (case aBx2 => exact HB.out); (case aFx2 => exact (fun _ _ => trivial)); (case aOx2 => exact HO.out); (case aSx2 => exact below_size HB.out); (case aLx2 => simp only [List.length_nil, List.length_append]; omega); intro x2 wx2 ho hb hg hat; have n0_ := Aside0.mk hb; have n1_ := Aside0.mk ho; clear HB HO; have HB := n0_; have HO := n1_; clear n0_ n1_ ho hb hg hat))
  rw [rounds_succ]
  go_wp2
  go_ret
  exact ⟨_, rfl, HO.out, HB.out⟩
/-! ### slices_Clone_byte: function 49 -/
def slices_Clone_byte.f (l0 : List Int) : Option (List Int) := if l0.length < 17592186044416 then some l0 else none
set_option maxHeartbeats 8000000 in
set_option maxRecDepth 100000 in
theorem slices_Clone_byte.calls (A0 : Option Addr) (c0 : Nat) (l0 : List Int) (r : List Int) (w : World) (hr0 : Kd.C (Kd.int .u8) w A0 l0.length l0) (hc0 : l0.length ≤ c0) (h : slices_Clone_byte.f l0 = some r) :
    Calls Try.prog 49 #[.slice A0 l0.length c0] w fun e w' => ∃ v0_ : Value, e = .returned (v0_) ∧ Kd.R (Kd.int .u8) 5 w' w.heap.size (fun _ => True) v0_ r ∧ Below w.heap.size w w' := by
  have HR0 := Aside0.mk hr0
  have HC0 := Aside0.mk hc0
  have HB := Aside0.mk (Below.refl w.heap.size w)
  have he := fun W => Go.Lib.run_eql_slice_nil (P := Try.prog) W 23 5 A0 l0.length c0 0 0 Try.underlying23
  clear hr0 hc0
  by_cases c9 : l0.length < 17592186044416
  rotate_left
  · unfold slices_Clone_byte.f at h
    rw [if_neg c9] at h
    exact absurd h (by simp)
  have LMc9 := Aside0.mk c9
  unfold slices_Clone_byte.f at h
  rw [if_pos c9] at h
  obtain rfl := Option.some.inj h
  clear h c9
  cases A0 with
  | none =>
    have hz : l0 = [] := by
      have h3 := HR0.out.2.2
      rcases Nat.eq_zero_or_pos l0.length with h4 | h4
      · exact List.eq_nil_of_length_eq_zero h4
      · obtain ⟨ad, h5, _⟩ := h3 h4
        cases h5
    subst hz
    have he0 := fun W => Go.Lib.run_eql_slice_nil (P := Try.prog) W 23 5 none 0 c0 0 0 Try.underlying23
    simp only [Option.isNone_none] at he he0
    simp only [List.length_nil]
    go_enter Try.func49, Try.ntmps49
    go_wp2
    go_ret
    exact ⟨_, rfl, Kd.R_nil _ _ _ _ _, by repeat (first | (with_reducible first | exact HB.out | apply below_alloc | apply pw_below_drewN | apply below_drew1) | exact HB.out)⟩
  | some ad =>
    simp only [Option.isNone_some] at he
    obtain ⟨y109, hy109⟩ : ∃ y_ : List Int, y_ = (([] : List Int)) := ⟨_, rfl⟩
    have Ny109 := Aside0.mk hy109
    clear hy109
    go_enter Try.func49, Try.ntmps49
    go_wp2_with (first | ((with_reducible refine gate_dst (N := 5) rfl ?_); refine Kd.R_lit (Kd.int .u8) _ 5 ?hg (N := 5) ?hd (xs := ([] : List Int)) (inner := []) (ok := fun _ => True) (okp := fun _ => True) ?hr ?hp (fun _ hk => hk) trivial (Below.refl _ _) (Nat.le_refl _) (by simp) ?_; (case hd => rfl); (case hg => rfl); (case hr => first | (go_simp; done) | (go_simp; rfl)); (case hp => exact (Reps.none _ _)); intro v110 w10 ho11 hb hg_ hnew_; clear hg_ hnew_; (first | rw [← Ny109.out] at ho11 | (simp only [Int.reduceToNat] at ho11; rw [← Ny109.out] at ho11)); have n0_ := Aside0.mk (Kd.R_lower ho11 (below_size (by repeat (first | (with_reducible first | exact HB.out | apply below_alloc | apply pw_below_drewN | apply below_drew1) | exact HB.out)))); have n1_ := Aside0.mk (below_step (by repeat (first | (with_reducible first | exact HB.out | apply below_alloc | apply pw_below_drewN | apply below_drew1) | exact HB.out)) hb); clear HB; have HO111 := n0_; have HB := n1_; clear n0_ n1_; clear hb ho11) | ((with_reducible refine gate_builtin (b := .append) (xs := #[.tmp 5, .tmp 6]) rfl ?_); at_builtin; refine Kd.R_append_rows (Kd.int .u8) (w0 := w) w.heap.size rfl (.tmp 5) (.tmp 6) 23 5 (.int .u8 0) 1 rfl Try.underlying23 info5 rfl (by decide) (by omega) v110 y109 l0 _ _ _ (fun _ => True) (fun _ => False) rfl rfl ?aO ?aR (fun _ _ h => h) (fun _ h => h.elim) ?aF ?aB ?aS ?aL ?_; (case aR => repeat (first | exact (Kd.C_below HR0.out HB.out) | (with_reducible refine Kd.C_alloc ?_ _) | (with_reducible refine Kd.C_drewN ?_ _) | (with_reducible refine Kd.C_drew ?_))); (case aB => exact (by repeat (first | (with_reducible first | exact HB.out | apply below_alloc | apply pw_below_drewN | apply below_drew1) | exact HB.out))); (case aF => exact (fun _ _ => trivial)); (case aO => exact (by (with_reducible repeat (first | apply Kd.R_alloc | apply Kd.R_drewN | apply Kd.R_drew)); exact HO111.out)); (case aS => exact (below_size (by repeat (first | (with_reducible first | exact HB.out | apply below_alloc | apply pw_below_drewN | apply below_drew1) | exact HB.out)))); (case aL => have := LMc9.out; rw [Ny109.out]; simp only [List.length_nil]; omega); intro v114 w13 ho hb hg hat; have n0_ := Aside0.mk (hb); have n1_ := Aside0.mk (ho); clear HB; clear HO111; have HB := n0_; have HO115 := n1_; clear n0_ n1_; clear ho hb hg hat))
    go_ret
    exact ⟨_, rfl, by have h := HO115.out; rw [Ny109.out, List.nil_append] at h; (with_reducible repeat (first | apply Kd.R_alloc | apply Kd.R_drewN | apply Kd.R_drew)); exact h, by repeat (first | (with_reducible first | exact HB.out | apply below_alloc | apply pw_below_drewN | apply below_drew1) | exact HB.out)⟩
theorem fill_rd (f : Nat → Int) (L : List Int) (n j : Nat) (h : n ≤ j) : rd (fill f n L) (j : Int) = rd L (j : Int) := by
  induction n with
  | zero => rfl
  | succ n ih =>
    have e : fill f (n + 1) L = (fill f n L).set n (f n) := rfl
    rw [e]
    unfold rd at ih ⊢
    rw [← ih (by omega)]
    simp only [Int.toNat_natCast, List.getD_eq_getElem?_getD]
    rw [List.getElem?_set_ne (by omega)]
/-- The 64 words, as the program makes them. -/
def sched (b : List Int) (t : Nat) (L : List Int) : List Int := if t < 16 then L.set t (wrd b t) else more t L
def scheds (b : List Int) (n : Nat) (L : List Int) : List Int := iter (sched b) n L
theorem scheds_len (b : List Int) (n : Nat) (L : List Int) : (scheds b n L).length = L.length := by
  induction n with
  | zero => rfl
  | succ n ih =>
    rw [← ih]
    show (sched b n (scheds b n L)).length = _
    unfold sched more
    split <;> exact List.length_set
/-- The words behind 64 bytes. -/
def blockW (K H b : List Int) : List Int := fill (fun i => (rd (rounds_ K (scheds b 64 z64) 64 H) i + rd H i) % 4294967296) 8 (rounds_ K (scheds b 64 z64) 64 H)
set_option maxHeartbeats 16000000 in
set_option maxRecDepth 100000 in
theorem impl_digested.calls (H K : List Int) (hH8 : H.length = 8) (hK8 : K.length = 64) (gk : Nat) (A : Option Addr) (c : Nat) (l : List Int) (w : World) (hk : w.heap[gk]? = some (.cells (U .u32 K) 81 (0, 0))) (hr : Kd.C (Kd.int .u8) w A l.length l) (hlen : 64 ≤ l.length) :
    Calls Try.prog 67 #[.agg (U .u32 H), .pointer (some ⟨gk, 0, none⟩), .slice A l.length c] w fun e w' => e = .returned (.agg (U .u32 (blockW K H l))) ∧ Below w.heap.size w w' := by
  have HR := Aside0.mk hr
  have HK := Aside0.mk hk
  clear hr hk
  have HS : Aside0 (Arrs w w []) := ⟨Arrs.refl w⟩
  have LH := Aside0.mk hH8
  have LK := Aside0.mk hK8
  clear hH8 hK8
  go_enter Try.func67, Try.ntmps67
  go_wp2_with (first
   | ((with_reducible refine gate_dst (N := 3) rfl ?_); refine box_arrs ?hg3 (N := 3) ?hd3 (U .u32 H) 79 HS ?hr3 ?_; (case hd3 => rfl); (case hg3 => rfl); (case hr3 => first | (go_simp; done) | (go_simp; rfl)); intro g3 w3 h_; clear HS; have HS := h_; clear h_)
   | ((with_reducible refine gate_dst (N := 6) rfl ?_); refine box_arrs ?hg6 (N := 6) ?hd6 (U .u32 z8) 79 HS ?hr6 ?_; (case hd6 => rfl); (case hg6 => rfl); (case hr6 => first | (go_simp; done) | (go_simp; rfl)); intro g6 w6 h_; clear HS; have HS := h_; clear h_)
   | ((with_reducible refine gate_dst (N := 22) rfl ?_); refine build_event rfl (N := 22) rfl 81 #[] rfl (U .u32 z64) (by kernel_rfl) ?_)
   | ((with_reducible refine gate_dst (N := 7) rfl ?_); refine box_arrs ?hg7 (N := 7) ?hd7 (U .u32 z64) 81 HS ?hr7 ?_; (case hd7 => rfl); (case hg7 => rfl); (case hr7 => first | (go_simp; done) | (go_simp; rfl)); intro g7 w7 h_; clear HS; have HS := h_; clear h_)
   | ((with_reducible refine gate_store (t := 81) (p := 7) rfl ?_); refine store_arrs rfl 81 (.tmp 22) rfl rfl 0 (U .u32 z64) HS rfl rfl rfl (info_U _ size81 rfl) (rfl) (U_one _ _) ?_; intro w5 h_; clear HS; have HS := h_; clear h_))
  go_loopg [23] 64 (fun kq v23 w' => ∃ t : Nat, v23 = .int .i64 t ∧ t + kq = 64 ∧ Aside0 (Arrs w w' [(g7, U .u32 (scheds l t z64), 81), (g6, U .u32 z8, 79), (g3, U .u32 H, 79)]))
  case atStart => exact ⟨0, by go_num, by omega, HS⟩
  case round =>
    obtain ⟨t, rfl, hi, HS⟩ := hrel
    have hl : (scheds l t z64).length = 64 := by rw [scheds_len]; rfl
    obtain ⟨L, hL⟩ : ∃ L, L = scheds l t z64 := ⟨_, rfl⟩
    rw [← hL] at HS hl
    have NL := Aside0.mk hL
    clear hL
    by_cases c : t < 64
    · have q64 : (t : Int) < 64 := by omega
      by_cases c2 : t < 16
      · have HC := Aside0.mk (Kd.C_below HR.out HS.out.1)
        obtain ⟨ad, e1, hx0⟩ := Kd.at_int HC.out (4 * t) (by omega) (by omega)
        obtain ⟨ad2, e2, hx1⟩ := Kd.at_int HC.out (4 * t + 1) (by omega) (by omega)
        obtain ⟨ad3, e3, hx2⟩ := Kd.at_int HC.out (4 * t + 2) (by omega) (by omega)
        obtain ⟨ad4, e4, hx3⟩ := Kd.at_int HC.out (4 * t + 3) (by omega) (by omega)
        subst e1
        obtain rfl := Option.some.inj e2
        obtain rfl := Option.some.inj e3
        obtain rfl := Option.some.inj e4
        clear e2 e3 e4
        have hfz := HS.out.free 0 t
        have hcl := HS.out.cell (l := L) 0 t (by omega)
        have LL := Aside0.mk hl
        clear hl
        go_wp2
        have q0 : IntKind.i64.wrap (4 * (t : Int)) = 4 * t := IntWalk.i64_in _ (by omega)
        have q1 : IntKind.i64.wrap (4 * (t : Int) + 1) = 4 * t + 1 := IntWalk.i64_in _ (by omega)
        have q2 : IntKind.i64.wrap (4 * (t : Int) + 2) = 4 * t + 2 := IntWalk.i64_in _ (by omega)
        have q3 : IntKind.i64.wrap (4 * (t : Int) + 3) = 4 * t + 3 := IntWalk.i64_in _ (by omega)
        have r0 : 0 ≤ 4 * (t : Int) ∧ 0 ≤ 4 * (t : Int) + 1 ∧ 0 ≤ 4 * (t : Int) + 2 ∧ 0 ≤ 4 * (t : Int) + 3 ∧ 4 * (t : Int) < l.length ∧ 4 * (t : Int) + 1 < l.length ∧ 4 * (t : Int) + 2 < l.length ∧ 4 * (t : Int) + 3 < l.length := by omega
        refine wp_region_still_tail 35 (by kernel_rfl) (by kernel_rfl) ?_
        simp only [List.take_succ_cons, List.take_zero, List.drop_succ_cons, List.drop_zero]
        repeat still_step
        refine wpStill_nil ?_
        change wpList _ _ _ _ _ wr.drew
        clear q0 q1 q2 q3
        go_wp2
        go_roundg (64 - t - 1)
        case measure => omega
        case rel => exact ⟨t + 1, by go_num, by omega, ⟨by have h := HS.out.drew1.putU 0 t (wrd l t); have e : sched l t L = L.set t (wrd l t) := if_pos c2; show Arrs w _ [(g7, U .u32 (sched l t (scheds l t z64)), 81), (g6, U .u32 z8, 79), (g3, U .u32 H, 79)]; rw [← NL.out, e]; exact h⟩⟩
      · have b16 : 16 ≤ t := by omega
        have hc0 := HS.out.cell (l := L) 0 (t - 15) (by omega)
        have hc1 := HS.out.cell (l := L) 0 (t - 2) (by omega)
        have LL := Aside0.mk hl
        clear hl
        go_wp2
        go_quiet (fail)
        go_wp2
        refine gwC_ (fun w6 hw => ?_)
        have h_ : Aside0 (Arrs w w6 _) := ⟨(HS.out.drewN _).at_ hw⟩
        clear hw HS hc0 hc1
        have HS := h_
        clear h_
        have hl := LL.out
        have hc2 := HS.out.cell (l := L) 0 (t - 7) (by omega)
        have hc3 := HS.out.cell (l := L) 0 (t - 16) (by omega)
        have hc4 := HS.out.cell (l := L) 0 t (by omega)
        have hfz := HS.out.free 0 t
        clear hl
        have q0 : IntKind.i64.wrap ((t : Int) - 7) = t - 7 := IntWalk.i64_in _ (by omega)
        have q1 : IntKind.i64.wrap ((t : Int) - 16) = t - 16 := IntWalk.i64_in _ (by omega)
        have r0 : 7 ≤ (t : Int) ∧ 16 ≤ (t : Int) ∧ 0 ≤ (t : Int) - 7 ∧ 0 ≤ (t : Int) - 16 ∧ (t : Int) - 7 < 64 ∧ (t : Int) - 16 < 64 ∧ (t : Int) < 64 := by omega
        have n0 : ((t : Int) - 7).toNat = t - 7 := by omega
        have n1 : ((t : Int) - 16).toNat = t - 16 := by omega
        refine wp_region_still_tail 29 (by kernel_rfl) (by kernel_rfl) ?_
        simp only [List.take_succ_cons, List.take_zero, List.drop_succ_cons, List.drop_zero]
        repeat (first | still_step | still_call (impl_turn_still _ _ (by omega) _))
        refine wpStill_nil ?_
        change wpList _ _ _ _ _ w6.drew
        clear q0 q1 n0 n1
        go_wp2
        go_roundg (64 - t - 1)
        case measure => omega
        case rel => exact ⟨t + 1, by go_num, by omega, ⟨by have h := (HS.out.putU 0 t ((sig1 (rd L ((t - 2 : Nat) : Int)) + rd L ((t - 7 : Nat) : Int) + sig0 (rd L ((t - 15 : Nat) : Int)) + rd L ((t - 16 : Nat) : Int)) % 4294967296)).drew1; have e : sched l t L = more t L := if_neg c2; show Arrs w _ [(g7, U .u32 (sched l t (scheds l t z64)), 81), (g6, U .u32 z8, 79), (g3, U .u32 H, 79)]; rw [← NL.out, e]; exact h⟩⟩
    · obtain rfl : t = 64 := by omega
      clear c
      have LL := Aside0.mk hl
      clear hl
      go_wp2_with (first
       | ((with_reducible refine gate_dst (N := 101) rfl ?_); refine load_arrs rfl (N := 101) rfl 79 (.tmp 3) rfl 2 HS rfl rfl Try.underlying79 rfl (info_U _ size79 LH.out) ?_)
       | ((with_reducible refine gate_dst (N := 11) rfl ?_); refine box_arrs ?hg11 (N := 11) ?hd11 (U .u32 z8) 79 HS ?hr11 ?_; (case hd11 => rfl); (case hg11 => rfl); (case hr11 => first | (go_simp; done) | (go_simp; rfl)); intro g11 w11 h_; clear HS; have HS := h_; clear h_)
       | ((with_reducible refine gate_store (t := 79) (p := 11) rfl ?_); refine store_arrs rfl 79 (.tmp 101) rfl rfl 0 (U .u32 H) HS rfl rfl rfl (info_U _ size79 LH.out) (by rw [U_size, U_size, LH.out]; rfl) (U_one _ _) ?_; intro w5 h_; clear HS; have HS := h_; clear h_))
      go_loopg [102] 64 (fun kq v102 w' => ∃ i : Nat, v102 = .int .i64 i ∧ i + kq = 64 ∧ Aside0 (Arrs w w' [(g11, U .u32 (rounds_ K L i H), 79), (g7, U .u32 L, 81), (g6, U .u32 z8, 79), (g3, U .u32 H, 79)]))
      case atStart => exact ⟨0, by go_num, by omega, HS⟩
      case round =>
        obtain ⟨i, rfl, hi, HS⟩ := hrel
        have hl := rounds_len K L i H LH.out
        obtain ⟨V, hV⟩ : ∃ V, V = rounds_ K L i H := ⟨_, rfl⟩
        rw [← hV] at HS hl
        have NV := Aside0.mk hV
        clear hV
        by_cases c : i < 64
        · have HL := Aside0.mk hl
          have q64 : (i : Int) < 64 := by omega
          have e0 : wr.cell? ⟨g11, 0, none⟩ = some (.int .u32 (rd V 0)) := HS.out.cell 0 0 (by rw [hl]; omega)
          have e1 : wr.cell? ⟨g11, 1, none⟩ = some (.int .u32 (rd V 1)) := HS.out.cell 0 1 (by rw [hl]; omega)
          have e2 : wr.cell? ⟨g11, 2, none⟩ = some (.int .u32 (rd V 2)) := HS.out.cell 0 2 (by rw [hl]; omega)
          have e4 : wr.cell? ⟨g11, 4, none⟩ = some (.int .u32 (rd V 4)) := HS.out.cell 0 4 (by rw [hl]; omega)
          have e5 : wr.cell? ⟨g11, 5, none⟩ = some (.int .u32 (rd V 5)) := HS.out.cell 0 5 (by rw [hl]; omega)
          have e6 : wr.cell? ⟨g11, 6, none⟩ = some (.int .u32 (rd V 6)) := HS.out.cell 0 6 (by rw [hl]; omega)
          clear hl
          go_wp2
          go_quiet (fail)
          go_wp2
          refine gwC_ (fun w6 hw => ?_)
          have h_ : Aside0 (Arrs w w6 _) := ⟨(HS.out.drewN _).at_ hw⟩
          have hl := HL.out
          clear hw HS e0 e1 e2 e4 e5 e6
          have HS := h_
          clear h_
          have e3 : w6.cell? ⟨g11, 3, none⟩ = some (.int .u32 (rd V 3)) := HS.out.cell 0 3 (by rw [hl]; omega)
          have e7 : w6.cell? ⟨g11, 7, none⟩ = some (.int .u32 (rd V 7)) := HS.out.cell 0 7 (by rw [hl]; omega)
          have hkb := blk_below HK.out HS.out.1
          have hc1 := cellU hkb i (by rw [LK.out]; exact c)
          have hc2 := HS.out.cell (l := L) 1 i (by rw [LL.out]; exact c)
          clear hl hkb
          go_quiet ((go_at_call 73; exact Calls.quiet_of_same (impl_turn_still _ _ (by omega) _)))
          go_wp2_with (first
           | (go_at_call 73; refine (impl_turn_still _ _ (by omega) _).mono ?_; rintro e w' ⟨rfl, rfl⟩)
           | ((with_reducible refine gate_dst (N := 180) rfl ?_); refine build_event rfl (N := 180) rfl 79 _ rfl (U .u32 (round_ V (rd K i) (rd L i))) (by kernel_rfl) ?_)
           | ((with_reducible refine gate_store (t := 79) (p := 11) rfl ?_); refine store_arrs rfl 79 (.tmp 180) rfl rfl 0 (U .u32 (round_ V (rd K i) (rd L i))) ⟨HS.out.drewN _⟩ rfl rfl rfl (info_U _ size79 rfl) (by rw [U_size, HL.out]; rfl) (U_one _ _) ?_; intro w5 h_; clear HS; have HS := h_; clear h_))
          go_roundg (64 - i - 1)
          case measure => omega
          case rel => exact ⟨i + 1, by go_num, by omega, ⟨by have h := HS.out; rw [NV.out] at h; exact h⟩⟩
        · obtain rfl : i = 64 := by omega
          clear c
          have HL := Aside0.mk hl
          clear hl
          go_wp2
          go_loopg [182] 8 (fun kq v182 w' => ∃ i : Nat, v182 = .int .i64 i ∧ i + kq = 8 ∧ Aside0 (Arrs w w' [(g11, U .u32 (fill (fun i => (rd V i + rd H i) % 4294967296) i V), 79), (g7, U .u32 L, 81), (g6, U .u32 z8, 79), (g3, U .u32 H, 79)]))
          case atStart => exact ⟨0, by go_num, by omega, HS⟩
          case round =>
            obtain ⟨i, rfl, hi, HS⟩ := hrel
            have hl : (fill (fun i => (rd V i + rd H i) % 4294967296) i V).length = 8 := by rw [fill_len, HL.out]
            by_cases c : i < 8
            · have hc0 := HS.out.cell (l := H) 3 i (by rw [LH.out]; exact c)
              have hc1 := HS.out.cell (l := fill (fun i => (rd V i + rd H i) % 4294967296) i V) 0 i (by rw [hl]; exact c)
              rw [fill_rd _ _ _ _ (Nat.le_refl _)] at hc1
              have hfz := HS.out.free 0 i
              have q8 : (i : Int) < 8 := by omega
              clear hl
              go_wp2
              refine wp_region_still_tail 8 (by kernel_rfl) (by kernel_rfl) ?_
              simp only [List.take_succ_cons, List.take_zero, List.drop_succ_cons, List.drop_zero]
              repeat still_step
              refine wpStill_nil ?_
              change wpList _ _ _ _ _ wr.drew
              go_wp2
              go_roundg (8 - i - 1)
              case measure => omega
              case rel => exact ⟨i + 1, by go_num, by omega, ⟨(HS.out.putU 0 i _).drew1⟩⟩
            · obtain rfl : i = 8 := by omega
              clear c
              go_wp2_with (first
               | ((with_reducible refine gate_dst (N := 194) rfl ?_); refine load_arrs rfl (N := 194) rfl 79 (.tmp 11) rfl 0 HS rfl rfl Try.underlying79 rfl (info_U _ size79 hl) ?_)
               | ((with_reducible refine gate_store (t := 79) (p := 6) rfl ?_); refine store_arrs rfl 79 (.tmp 194) rfl rfl 2 (U .u32 (fill (fun i => (rd V i + rd H i) % 4294967296) 8 V)) HS rfl rfl rfl (info_U _ size79 hl) (by rw [U_size, U_size, hl]; rfl) (U_one _ _) ?_; intro w5 h_; clear HS; have HS := h_; clear h_))
              exact bodyPost_ret (results_cell_row rfl _ _ _ 79 _ (0, 0) _ rfl (HS.out.get 2) Try.underlying79 rfl (info_U _ size79 hl)) rfl ⟨by rw [NV.out, NL.out]; rfl, HS.out.1⟩
theorem blockW_len (K H b : List Int) (h : H.length = 8) : (blockW K H b).length = 8 := by
  unfold blockW
  rw [fill_len]
  exact rounds_len _ _ _ _ h
/-- What is fed: the words behind all whole blocks, and what is left. -/
def feed (K : List Int) : Nat → List Int → List Int → List Int × List Int
  | 0, h, b => (h, b)
  | n + 1, h, b => if 64 ≤ b.length then feed K n (blockW K h b) (b.drop 64) else (h, b)
theorem feed_succ (K : List Int) (n : Nat) (h b : List Int) : feed K (n + 1) h b = if 64 ≤ b.length then feed K n (blockW K h b) (b.drop 64) else (h, b) := rfl
/-- What fed's second statement has given. -/
def fedFact2 (base : Nat) (b d : List Int) (A7 A2 : Option Addr) (c7 c2 : Nat) (m : Int) (g2 g4 : Nat) : Nat → Value → World → Prop
  | 0, v, _ => v = .slice A7 b.length c7
  | 1, v, W => (Kd.int .u8).R 5 W base (fun k => base ≤ k) v b
  | 2, v, _ => v = .pointer (some ⟨g2, 9, none⟩)
  | 3, v, _ => v = .int .i64 m
  | 4, v, _ => v = .slice A2 d.length c2
  | 5, v, _ => v = .int .i64 d.length
  | 6, v, _ => v = .int .i64 (m + d.length)
  | 7, v, W => ∃ vr, v = .agg (SV z8 vr (m + d.length)) ∧ (Kd.int .u8).R 5 W base (fun k => base ≤ k) vr b
  | 8, v, W => ∃ g, v = .pointer (some ⟨g, 0, none⟩) ∧ base ≤ g ∧ g ≠ g2 ∧ g ≠ g4 ∧ W.heap[g]? = some (.cells (SV z8 (.slice none 0 0) 0) 28 (0, 0))
  | _, _, _ => True
theorem fedFact2_grow {base : Nat} {b d : List Int} {A7 A2 : Option Addr} {c7 c2 : Nat} {m : Int} {g2 g4 : Nat} {W W' : World} (hb : Below W.heap.size W W') (j : Nat) (v : Value) (h : fedFact2 base b d A7 A2 c7 c2 m g2 g4 j v W) : fedFact2 base b d A7 A2 c7 c2 m g2 g4 j v W' := by
  match j, h with
  | 0, h | 2, h | 3, h | 4, h | 5, h | 6, h => exact h
  | 1, h => exact Kd.R_below h hb
  | 7, ⟨vr, h1, h2⟩ => exact ⟨vr, h1, Kd.R_below h2 hb⟩
  | 8, ⟨g, h1, h2, h3, h4, h5⟩ => exact ⟨g, h1, h2, h3, h4, blk_below h5 hb⟩
  | _ + 9, _ => exact trivial
/-- The numbers of a stream that is made of words. -/
def fedH (h : List Int) : List Int := fill (fun i => wrap64 (rd h i)) 8 z8
/-- The program's 64 words. -/
def KC : List Int := fill (fun i => cubeW (rd P64 i)) 64 z64
theorem words_SV (H : List Int) (h : H.length = 8) (v : Value) (m : Int) (w : World) : Calls Try.prog 65 #[.agg (SV H v m)] w fun e w' => e = .returned (.agg (U .u32 (wds H))) ∧ Below w.heap.size w w' := by
  match H, h with
  | [h0, h1, h2, h3, h4, h5, h6, h7], _ => exact impl_words.calls h0 h1 h2 h3 h4 h5 h6 h7 v m w
theorem R_lower2 {α : Type} {d : Kd α} {e base b2 : Nat} {W : World} {v : Value} {xs : List α} {ok : Nat → Prop} (h : d.R e W b2 ok v xs) (hb : base ≤ b2) : d.R e W base (fun k => base ≤ k) v xs :=
  Kd.R_mono (Kd.R_lower (Kd.R_bound h) hb) (fun _ hk => Nat.le_trans hb hk.2.1)
/-- What the operations of fed's first statement have given. -/
def fedFact (base : Nat) (H l d KW : List Int) (A A2 : Option Addr) (c c2 : Nat) (m : Int) (g2 : Nat) : Nat → Value → World → Prop
  | 0, v, _ => v = .agg (SV H (.slice A l.length c) m)
  | 1, v, _ => v = .agg (U .u32 (wds H))
  | 2, v, _ => v = .agg (U .u32 KW)
  | 3, v, _ => v = .pointer (some ⟨g2, 8, none⟩)
  | 4, v, _ => v = .slice A l.length c
  | 5, v, _ => v = .slice A2 d.length c2
  | 6, v, W => ∃ g, v = .slice (some ⟨g, 0, none⟩) 2 2 ∧ W.heap[g]? = some (.cells #[.slice A l.length c, .slice A2 d.length c2] 23 (0, 0))
  | 7, v, W => (Kd.int .u8).R 5 W base (fun k => base ≤ k) v (l ++ d)
  | 8, v, W => ∃ g, v = .pointer (some ⟨g, 0, none⟩) ∧ base ≤ g ∧ W.heap[g]? = some (.cells (U .u32 z8) 79 (0, 0))
  | 9, v, W => ∃ g, v = .pointer (some ⟨g, 0, none⟩) ∧ base ≤ g ∧ W.heap[g]? = some (.cells (U .u32 z64) 81 (0, 0))
  | _, _, _ => True
theorem fedFact_grow {base : Nat} {H l d KW : List Int} {A A2 : Option Addr} {c c2 : Nat} {m : Int} {g2 : Nat} {W W' : World} (hb : Below W.heap.size W W') (j : Nat) (v : Value) (h : fedFact base H l d KW A A2 c c2 m g2 j v W) : fedFact base H l d KW A A2 c c2 m g2 j v W' := by
  match j, h with
  | 0, h | 1, h | 2, h | 3, h | 4, h | 5, h => exact h
  | 6, ⟨g, h1, h2⟩ => exact ⟨g, h1, blk_below h2 hb⟩
  | 7, h => exact Kd.R_below h hb
  | 8, ⟨g, h1, h2, h3⟩ => exact ⟨g, h1, h2, blk_below h3 hb⟩
  | 9, ⟨g, h1, h2, h3⟩ => exact ⟨g, h1, h2, blk_below h3 hb⟩
  | _ + 10, _ => exact trivial
set_option maxHeartbeats 8000000 in
set_option maxRecDepth 100000 in
theorem impl_fed.calls (H : List Int) (hH8 : H.length = 8) (A A2 : Option Addr) (c c2 : Nat) (l d : List Int) (m : Int) (w : World) (h1 : Kd.C (Kd.int .u8) w A l.length l) (h2 : Kd.C (Kd.int .u8) w A2 d.length d) (hl : l.length + d.length ≤ 1000000000000) (hm0 : 0 ≤ m) (hm1 : m ≤ 1000000000000) :
    Calls Try.prog 50 #[.agg (SV H (.slice A l.length c) m), .slice A2 d.length c2] w fun e w' => ∃ vr : Value, e = .returned (.agg (SV (fedH (feed (fill (fun i => cubeW (rd P64 i)) 64 z64) (l ++ d).length (wds H) (l ++ d)).1) vr (m + d.length))) ∧ Kd.R (Kd.int .u8) 5 w' w.heap.size (fun _ => True) vr (feed (fill (fun i => cubeW (rd P64 i)) 64 z64) (l ++ d).length (wds H) (l ++ d)).2 ∧ Below w.heap.size w w' := by
  have H1 := Aside0.mk h1
  have H2 := Aside0.mk h2
  have LH := Aside0.mk hH8
  clear h1 h2 hH8
  have HS : Aside0 (Arrs w w []) := ⟨Arrs.refl w⟩
  go_enter Try.func50, Try.ntmps50
  go_wp2_with (first
   | ((with_reducible refine gate_dst (N := 2) rfl ?_); refine box_arrs ?hg2 (N := 2) ?hd2 (SV H (.slice A l.length c) m) 28 HS ?hr2 ?_; (case hd2 => rfl); (case hg2 => rfl); (case hr2 => first | (go_simp; done) | (go_simp; rfl)); intro g2 w2 h_; clear HS; have HS := h_; clear h_)
   | ((with_reducible refine gate_dst (N := 4) rfl ?_); refine box_arrs ?hg4 (N := 4) ?hd4 (SV z8 (.slice none 0 0) 0) 28 HS ?hr4 ?_; (case hd4 => rfl); (case hg4 => rfl); (case hr4 => first | (go_simp; done) | (go_simp; rfl)); intro g4 w4 h_; clear HS; have HS := h_; clear h_))
  simp only [Act.put, List.setIfInBounds_toArray, List.set_cons_zero, List.set_cons_succ]
  obtain ⟨base, hbase⟩ : ∃ base, base = w.heap.size := ⟨_, rfl⟩
  have NB := Aside0.mk hbase
  clear hbase
  obtain ⟨F, hF⟩ : ∃ F, F = fedFact base H l d (fill (fun i => cubeW (rd P64 i)) 64 z64) A A2 c c2 m g2 := ⟨_, rfl⟩
  refine wp_region_stable 10 (by kernel_rfl) (by kernel_rfl) (fun listed a W => ∃ V : Nat → Value, a = ⟨#[.agg (SV H (.slice A l.length c) m), .slice A2 d.length c2, .pointer (some ⟨g2, 0, none⟩), undef, .pointer (some ⟨g4, 0, none⟩), V 8, V 9, undef, undef, undef, undef, V 0, V 1, V 2, V 3, V 4, V 5, V 6, V 7, undef, undef, undef, undef, undef, undef, undef, undef, undef, undef, undef, undef, undef, undef, undef, undef, undef, undef, undef, undef, undef, undef, undef, undef, undef, undef, undef, undef], []⟩ ∧ StI (fedFact base H l d (fill (fun i => cubeW (rd P64 i)) 64 z64) A A2 c c2 m g2) 10 listed V W ∧ Arrs w W [(g4, SV z8 (.slice none 0 0) 0, 28), (g2, SV H (.slice A l.length c) m, 28)]) ?h0 ?hstep ?hend
  case h0 => exact ⟨fun _ => undef, rfl, (by intro j hj h; rw [getD_replicate_false] at h; cases h), HS.out.drew1⟩
  case hstep =>
    rintro listed a W inv ⟨V, rfl, HI, HSW⟩ i hi hr
    have hgo : ∀ (v : Value) (W' : World), Below W.heap.size W W' → fedFact base H l d (fill (fun i => cubeW (rd P64 i)) 64 z64) A A2 c c2 m g2 i v W' → StI (fedFact base H l d (fill (fun i => cubeW (rd P64 i)) 64 z64) A A2 c c2 m g2) 10 (listed.setIfInBounds i true) (fun j => if j = i then v else V j) W' ∧ Arrs w W' [(g4, SV z8 (.slice none 0 0) 0, 28), (g2, SV H (.slice A l.length c) m, 28)] :=
      fun v W' hb hf => ⟨HI.step (fun j v h => fedFact_grow hb j v h) i v hf, HSW.below hb⟩
    match i, hi, hr, hgo with
    | 0, _, hr, hgo => exact op_load rfl rfl 28 (.tmp 2) rfl rfl (HSW.get 1) Try.underlying28 rfl (info_S _ _ _ LH.out) ⟨_, rfl, hgo _ _ (Below.refl _ _) rfl⟩
    | 1, _, hr, hgo =>
      have e0 : V 0 = .agg (SV H (.slice A l.length c) m) := HI 0 (by omega) (dep_of hr (by kernel_rfl))
      refine op_call rfl rfl Try.func65 (by kernel_rfl) rfl #[.agg (SV H (.slice A l.length c) m)] rfl (by simp only [List.map_toArray, List.map_cons, List.map_nil]; show (⟨[V 0]⟩ : Array Value) = _; rw [e0]) ((words_SV H LH.out _ m W).mono ?_)
      rintro e W' ⟨rfl, hb⟩
      exact ⟨_, rfl, _, rfl, hgo _ _ hb rfl⟩
    | 2, _, hr, hgo =>
      refine op_call rfl rfl Try.func66 (by kernel_rfl) rfl #[] rfl (by simp only [List.map_toArray, List.map_nil]) ((impl_constants.calls W).mono ?_)
      rintro e W' ⟨rfl, hb⟩
      exact ⟨_, rfl, _, rfl, hgo _ _ hb rfl⟩
    | 3, _, hr, hgo =>
      refine op_val rfl rfl (v := .pointer (some ⟨g2, 8, none⟩)) (w' := W) ?_ ⟨_, rfl, hgo _ _ (Below.refl _ _) rfl⟩
      first | (go_simp; done) | (go_simp; rfl)
    | 4, _, hr, hgo =>
      have e3 : V 3 = .pointer (some ⟨g2, 8, none⟩) := HI 3 (by omega) (dep_of hr (by kernel_rfl))
      have hx : W.cell? ⟨g2, 8, none⟩ = some (.slice A l.length c) := (blk_cell (HSW.get 1) 8).trans (SV_rest _ _ _ LH.out)
      refine op_val rfl rfl (v := .slice A l.length c) (w' := W) ?_ ⟨_, rfl, hgo _ _ (Below.refl _ _) rfl⟩
      first | (go_simp; done) | (go_simp; rfl)
    | 5, _, hr, hgo =>
      refine op_val rfl rfl (v := .slice A2 d.length c2) (w' := W) ?_ ⟨_, rfl, hgo _ _ (Below.refl _ _) rfl⟩
      first | (go_simp; done) | (go_simp; rfl)
    | 6, _, hr, hgo =>
      have e4 : V 4 = .slice A l.length c := HI 4 (by omega) (dep_of hr (by kernel_rfl))
      have e5 : V 5 = .slice A2 d.length c2 := HI 5 (by omega) (dep_of hr (by kernel_rfl))
      refine op_val rfl rfl (v := .slice (some ⟨W.heap.size, 0, none⟩) 2 2) (w' := W.alloc (.cells #[.slice A l.length c, .slice A2 d.length c2] 23)) ?_ ⟨_, rfl, hgo _ _ (below_alloc (Below.refl _ _) _) ⟨_, rfl, blk_new _ _⟩⟩
      first | (go_simp; done) | (go_simp; rfl)
    | 7, _, hr, hgo =>
      obtain ⟨g17, e6, hb6⟩ := HI 6 (by omega) (dep_of hr (by kernel_rfl))
      refine op_call rfl rfl Try.func53 (by kernel_rfl) rfl #[.slice (some ⟨g17, 0, none⟩) 2 2] rfl (by simp only [List.map_toArray, List.map_cons, List.map_nil]; show (⟨[V 6]⟩ : Array Value) = _; rw [e6]) ((slices_Concat g17 A A2 c c2 l d W hb6 (Kd.C_below H1.out HSW.1) (Kd.C_below H2.out HSW.1) hl).mono ?_)
      rintro e W' ⟨v, rfl, ho, hb⟩
      exact ⟨_, rfl, _, rfl, hgo _ _ hb (R_lower2 ho (by rw [NB.out]; exact below_size HSW.1))⟩
    | 8, _, hr, hgo =>
      refine op_val rfl rfl (v := .pointer (some ⟨W.heap.size, 0, none⟩)) (w' := W.alloc (.cells (U .u32 z8) 79)) ?_ ⟨_, rfl, hgo _ _ (below_alloc (Below.refl _ _) _) ⟨_, rfl, by rw [NB.out]; exact below_size HSW.1, blk_new _ _⟩⟩
      first | (go_simp; done) | (go_simp; rfl)
    | 9, _, hr, hgo =>
      refine op_val rfl rfl (v := .pointer (some ⟨W.heap.size, 0, none⟩)) (w' := W.alloc (.cells (U .u32 z64) 81)) ?_ ⟨_, rfl, hgo _ _ (below_alloc (Below.refl _ _) _) ⟨_, rfl, by rw [NB.out]; exact below_size HSW.1, blk_new _ _⟩⟩
      first | (go_simp; done) | (go_simp; rfl)
    | _ + 10, h, _, _ => exact absurd h (by omega)
  case hend =>
    rintro listed a W ⟨V, rfl, HI, HSW⟩ hall
    obtain ⟨g5, e8, hge5, hb5⟩ := HI 8 (by omega) (hall 8 (by omega))
    obtain ⟨g6, e9, hge6, hb6⟩ := HI 9 (by omega) (hall 9 (by omega))
    have e1 : V 1 = .agg (U .u32 (wds H)) := HI 1 (by omega) (hall 1 (by omega))
    have e2 : V 2 = .agg (U .u32 (fill (fun i => cubeW (rd P64 i)) 64 z64)) := HI 2 (by omega) (hall 2 (by omega))
    have ho : (Kd.int .u8).R 5 W base (fun k => base ≤ k) (V 7) (l ++ d) := HI 7 (by omega) (hall 7 (by omega))
    obtain ⟨A7, c7, e7⟩ := Kd.R_slice ho
    rw [e7] at ho
    have HR := Aside0.mk (RdB.of_R ho)
    have hc7 : (l ++ d).length ≤ c7 := (Kd.R_reads' ho).2.1
    have HA := Aside0.mk ((HSW.add hb5 (by rw [← NB.out]; exact hge5) (by simp)).add hb6 (by rw [← NB.out]; exact hge6) (by simp))
    clear HSW HS hb5 hb6 hge5 hge6 ho
    have HS := HA
    clear HA
    simp only [List.drop_succ_cons, List.drop_zero]
    obtain ⟨a0, ha0⟩ : ∃ a0 : Act, a0 = ⟨#[.agg (SV H (.slice A l.length c) m), .slice A2 d.length c2, .pointer (some ⟨g2, 0, none⟩), undef, .pointer (some ⟨g4, 0, none⟩), .pointer (some ⟨g5, 0, none⟩), .pointer (some ⟨g6, 0, none⟩), undef, undef, undef, undef, V 0, .agg (U .u32 (wds H)), .agg (U .u32 (fill (fun i => cubeW (rd P64 i)) 64 z64)), V 3, V 4, V 5, V 6, .slice A7 (l ++ d).length c7, undef, undef, undef, undef, undef, undef, undef, undef, undef, undef, undef, undef, undef, undef, undef, undef, undef, undef, undef, undef, undef, undef, undef, undef, undef, undef, undef, undef], []⟩ := ⟨_, rfl⟩
    have ha : (⟨#[.agg (SV H (.slice A l.length c) m), .slice A2 d.length c2, .pointer (some ⟨g2, 0, none⟩), undef, .pointer (some ⟨g4, 0, none⟩), V 8, V 9, undef, undef, undef, undef, V 0, V 1, V 2, V 3, V 4, V 5, V 6, V 7, undef, undef, undef, undef, undef, undef, undef, undef, undef, undef, undef, undef, undef, undef, undef, undef, undef, undef, undef, undef, undef, undef, undef, undef, undef, undef, undef, undef], []⟩ : Act) = a0 := by rw [ha0, e8, e9, e1, e2, e7]
    rw [ha, ha0]
    clear ha ha0 e1 e2 e7 e8 e9 HI hall a0
    obtain ⟨KW, hKW⟩ : ∃ KW, KW = fill (fun i => cubeW (rd P64 i)) 64 z64 := ⟨_, rfl⟩
    rw [← hKW]
    have NK := Aside0.mk hKW
    have LK : Aside0 (KW.length = 64) := ⟨by rw [hKW, fill_len]; rfl⟩
    have LW : Aside0 ((wds H).length = 8) := ⟨fill_len _ _ _⟩
    clear hKW
    obtain ⟨all, hall⟩ : ∃ all, all = l ++ d := ⟨_, rfl⟩
    rw [← hall] at HR hc7 ⊢
    have NA := Aside0.mk hall
    clear hall
    go_wp2_with (first
     | ((with_reducible refine gate_store (t := 79) (p := 5) rfl ?_); refine store_arrs2 rfl 79 (.tmp 12) rfl rfl 1 (U .u32 (wds H)) HS rfl rfl rfl (info_U _ size79 LW.out) (by rw [U_size, U_size, LW.out]; rfl) (U_one _ _) (by decide) ?_; intro w5 h_ k_; have r_ := Aside0.mk (k_ _ _ HR.out); clear HS HR k_; have HS := h_; have HR := r_; clear h_ r_)
     | ((with_reducible refine gate_store (t := 81) (p := 6) rfl ?_); refine store_arrs2 rfl 81 (.tmp 13) rfl rfl 0 (U .u32 KW) HS rfl rfl rfl (info_U _ size81 LK.out) (by rw [U_size, U_size, LK.out]; rfl) (U_one _ _) (by decide) ?_; intro w5 h_ k_; have r_ := Aside0.mk (k_ _ _ HR.out); clear HS HR k_; have HS := h_; have HR := r_; clear h_ r_))
    go_loopg [7] all.length (fun kq v7 w' => ∃ (h b : List Int) (A7 : Option Addr) (c7 : Nat), v7 = .slice A7 b.length c7 ∧ b.length ≤ c7 ∧ Aside0 (b.length ≤ kq) ∧ Aside0 (b.length ≤ all.length) ∧ Aside0 (h.length = 8) ∧ Aside0 (feed KW kq h b = feed KW all.length (wds H) all) ∧ Aside0 (RdB w' A7 b) ∧ Aside0 (Arrs w w' [(g6, U .u32 KW, 81), (g5, U .u32 h, 79), (g4, SV z8 (.slice none 0 0) 0, 28), (g2, SV H (.slice A l.length c) m, 28)]))
    case atStart => exact ⟨wds H, all, A7, c7, rfl, hc7, ⟨Nat.le_refl _⟩, ⟨Nat.le_refl _⟩, LW, ⟨rfl⟩, HR, HS⟩
    case round =>
      clear HR hc7
      obtain ⟨h, b, Ab, cb, rfl, hcb, HK, HKA, LHh, HF, HR, HS⟩ := hrel
      by_cases cc : 64 ≤ b.length
      · have c64 : (64 : Int) ≤ b.length := by omega
        obtain ⟨A8, hcut, hcr, hcl⟩ := RdB.drop (A := Ab) (c := cb) 64 cc hcb
        have HCUT := Aside0.mk hcut
        clear hcut
        cases gk with
        | zero => exact absurd HK.out (by omega)
        | succ n =>
          have hcut : ∀ W : World, (Instr.slice 23 (.slice Ab b.length cb) (some (.int .i64 64)) none none).run Try.prog W = .ok (.slice A8 (b.drop 64).length (cb - 64)) W := HCUT.out
          go_wp2_with (first
           | ((with_reducible refine gate_dst (N := 24) rfl ?_); refine load_arrs rfl (N := 24) rfl 79 (.tmp 5) rfl 1 HS rfl rfl Try.underlying79 rfl (info_U _ size79 LHh.out) ?_)
           | (go_at_call 67; refine (impl_digested.calls h KW LHh.out LK.out g6 Ab cb b _ (HS.out.get 0) HR.out.1 cc).mono ?_; rintro e w7 ⟨rfl, hb⟩; have h_ := Aside0.mk (HS.out.below hb); have r_ := Aside0.mk (HR.out.below hb); clear HS HR hb; have HS := h_; have HR := r_; clear h_ r_)
           | ((with_reducible refine gate_store (t := 79) (p := 5) rfl ?_); refine store_arrs2 rfl 79 (.tmp 26) rfl rfl 1 (U .u32 (blockW KW h b)) HS rfl rfl rfl (info_U _ size79 (blockW_len _ _ _ LHh.out)) (by rw [U_size, U_size, LHh.out, blockW_len _ _ _ LHh.out]) (U_one _ _) (by decide) ?_; intro w5 h_ k_; have r_ := Aside0.mk (k_ _ _ HR.out); clear HS HR k_; have HS := h_; have HR := r_; clear h_ r_))
          go_roundg n
          case measure => omega
          case rel => exact ⟨blockW KW h b, b.drop 64, A8, cb - 64, by rw [List.length_drop], hcl, ⟨by have := HK.out; rw [List.length_drop]; omega⟩, ⟨by have := HKA.out; rw [List.length_drop]; omega⟩, ⟨blockW_len _ _ _ LHh.out⟩, ⟨by have h_ := HF.out; rw [feed_succ, if_pos cc] at h_; exact h_⟩, ⟨hcr _ HR.out⟩, HS⟩
      · have hfe : feed KW all.length (wds H) all = (h, b) := by
          rw [← HF.out]
          cases gk with
          | zero => rfl
          | succ n => rw [feed_succ, if_neg cc]
        have HFE := Aside0.mk hfe
        clear hfe HF HK
        have c64 : (b.length : Int) < 64 := by omega
        go_wp2
        clear c64
        obtain ⟨q18, hq18⟩ : ∃ q : Value, q = .slice A7 all.length c7 := ⟨_, rfl⟩
        obtain ⟨q21, hq21⟩ : ∃ q : Value, q = .bool (decide (64 ≤ (b.length : Int))) := ⟨_, rfl⟩
        rw [← hq18, ← hq21]
        clear hq18 hq21
        refine wp_region_stable 9 (by kernel_rfl) (by kernel_rfl) (fun listed a W => ∃ V2 : Nat → Value, a = ⟨#[.agg (SV H (.slice A l.length c) m), .slice A2 d.length c2, .pointer (some ⟨g2, 0, none⟩), undef, .pointer (some ⟨g4, 0, none⟩), .pointer (some ⟨g5, 0, none⟩), .pointer (some ⟨g6, 0, none⟩), .slice Ab b.length cb, V2 8, undef, undef, V 0, .agg (U .u32 (wds H)), .agg (U .u32 KW), V 3, V 4, V 5, V 6, q18, .slice Ab b.length cb, .int .i64 b.length, q21, u22, u23, u24, u25, u26, V2 0, V2 1, V2 2, V2 3, V2 4, V2 5, V2 6, V2 7, undef, undef, undef, undef, undef, undef, undef, undef, undef, undef, undef, undef], []⟩ ∧ StI (fedFact2 base b d Ab A2 cb c2 m g2 g4) 9 listed V2 W ∧ RdB W Ab b ∧ Arrs w W [(g6, U .u32 KW, 81), (g5, U .u32 h, 79), (g4, SV z8 (.slice none 0 0) 0, 28), (g2, SV H (.slice A l.length c) m, 28)]) ?h0 ?hstep ?hend
        case h0 => exact ⟨fun _ => undef, rfl, (by intro j hj h; rw [getD_replicate_false] at h; cases h), HR.out.below (below_drew1 (Below.refl _ _)), HS.out.drew1⟩
        case hstep =>
          clear HR HS
          rintro listed a W inv ⟨V2, rfl, HI, HRW, HSW⟩ i hi hr
          have hgo : ∀ (v : Value) (W' : World), Below W.heap.size W W' → fedFact2 base b d Ab A2 cb c2 m g2 g4 i v W' → StI (fedFact2 base b d Ab A2 cb c2 m g2 g4) 9 (listed.setIfInBounds i true) (fun j => if j = i then v else V2 j) W' ∧ RdB W' Ab b ∧ Arrs w W' [(g6, U .u32 KW, 81), (g5, U .u32 h, 79), (g4, SV z8 (.slice none 0 0) 0, 28), (g2, SV H (.slice A l.length c) m, 28)] :=
            fun v W' hb hf => ⟨HI.step (fun j v h => fedFact2_grow hb j v h) i v hf, HRW.below hb, HSW.below hb⟩
          match i, hi, hr, hgo with
          | 0, _, hr, hgo =>
            refine op_val rfl rfl (v := .slice Ab b.length cb) (w' := W) ?_ ⟨_, rfl, hgo _ _ (Below.refl _ _) rfl⟩
            first | (go_simp; done) | (go_simp; rfl)
          | 1, _, hr, hgo =>
            have e0 : V2 0 = .slice Ab b.length cb := HI 0 (by omega) (dep_of hr (by kernel_rfl))
            refine op_call rfl rfl Try.func49 (by kernel_rfl) rfl #[.slice Ab b.length cb] rfl (by simp only [List.map_toArray, List.map_cons, List.map_nil]; show (⟨[V2 0]⟩ : Array Value) = _; rw [e0]) ((slices_Clone_byte.calls Ab cb b b W HRW.1 hcb (if_pos (by have := HKA.out; have := congrArg List.length NA.out; rw [List.length_append] at this; omega))).mono ?_)
            rintro e W' ⟨v, rfl, ho, hb⟩
            exact ⟨_, rfl, _, rfl, hgo _ _ hb (R_lower2 ho (by rw [NB.out]; exact below_size HSW.1))⟩
          | 2, _, hr, hgo =>
            refine op_val rfl rfl (v := .pointer (some ⟨g2, 9, none⟩)) (w' := W) ?_ ⟨_, rfl, hgo _ _ (Below.refl _ _) rfl⟩
            first | (go_simp; done) | (go_simp; rfl)
          | 3, _, hr, hgo =>
            have e2 : V2 2 = .pointer (some ⟨g2, 9, none⟩) := HI 2 (by omega) (dep_of hr (by kernel_rfl))
            have hx : W.cell? ⟨g2, 9, none⟩ = some (.int .i64 m) := (blk_cell (HSW.get 3) 9).trans (SV_many _ _ _ LH.out)
            refine op_val rfl rfl (v := .int .i64 m) (w' := W) ?_ ⟨_, rfl, hgo _ _ (Below.refl _ _) rfl⟩
            first | (go_simp; done) | (go_simp; rfl)
          | 4, _, hr, hgo =>
            refine op_val rfl rfl (v := .slice A2 d.length c2) (w' := W) ?_ ⟨_, rfl, hgo _ _ (Below.refl _ _) rfl⟩
            first | (go_simp; done) | (go_simp; rfl)
          | 5, _, hr, hgo =>
            have e4 : V2 4 = .slice A2 d.length c2 := HI 4 (by omega) (dep_of hr (by kernel_rfl))
            refine op_val rfl rfl (v := .int .i64 d.length) (w' := W) ?_ ⟨_, rfl, hgo _ _ (Below.refl _ _) rfl⟩
            first | (go_simp; done) | (go_simp; rfl)
          | 6, _, hr, hgo =>
            have e3 : V2 3 = .int .i64 m := HI 3 (by omega) (dep_of hr (by kernel_rfl))
            have e5 : V2 5 = .int .i64 d.length := HI 5 (by omega) (dep_of hr (by kernel_rfl))
            have q0 : IntKind.i64.wrap (m + (d.length : Int)) = m + d.length := IntWalk.i64_in _ (by omega)
            refine op_val rfl rfl (v := .int .i64 (m + d.length)) (w' := W) ?_ ⟨_, rfl, hgo _ _ (Below.refl _ _) rfl⟩
            first | (go_simp; done) | (go_simp; rfl)
          | 7, _, hr, hgo =>
            have ho : (Kd.int .u8).R 5 W base (fun k => base ≤ k) (V2 1) b := HI 1 (by omega) (dep_of hr (by kernel_rfl))
            have e6 : V2 6 = .int .i64 (m + d.length) := HI 6 (by omega) (dep_of hr (by kernel_rfl))
            obtain ⟨A9, c9, e1⟩ := Kd.R_slice ho
            rw [e1] at ho
            refine op_val rfl rfl (v := .agg (SV z8 (.slice A9 b.length c9) (m + d.length))) (w' := W) ?_ ⟨_, rfl, hgo _ _ (Below.refl _ _) ⟨_, rfl, ho⟩⟩
            first | (go_simp; done) | (go_simp; rfl)
          | 8, _, hr, hgo =>
            refine op_val rfl rfl (v := .pointer (some ⟨W.heap.size, 0, none⟩)) (w' := W.alloc (.cells (SV z8 (.slice none 0 0) 0) 28)) ?_ ⟨_, rfl, hgo _ _ (below_alloc (Below.refl _ _) _) ⟨_, rfl, by rw [NB.out]; exact below_size HSW.1, by have := HSW.lt 3; omega, by have := HSW.lt 2; omega, blk_new _ _⟩⟩
            first | (go_simp; done) | (go_simp; rfl)
          | _ + 9, h, _, _ => exact absurd h (by omega)
        case hend =>
          clear HR HS
          rintro listed a W ⟨V2, rfl, HI, HRW, HSW⟩ hall
          obtain ⟨vr, e7, ho⟩ := HI 7 (by omega) (hall 7 (by omega))
          obtain ⟨g8, e8, hge8, hn82, hn84, hb8⟩ := HI 8 (by omega) (hall 8 (by omega))
          have ho2 := R_not (R_not ho hb8 (by decide)) (HSW.get 2) (by decide)
          obtain ⟨A9, c9, e9⟩ := Kd.R_slice ho
          have HV : Aside0 (vr = .slice A9 b.length c9) := ⟨e9⟩
          have HO := Aside0.mk ho2
          have HA : Aside0 (Arrs w W ((g8, SV z8 (.slice none 0 0) 0, 28) :: [(g6, U .u32 KW, 81), (g5, U .u32 h, 79), (g4, SV z8 (.slice none 0 0) 0, 28), (g2, SV H (.slice A l.length c) m, 28)])) := by
            refine ⟨HSW.1, fun i g1 c1 t1 e => ?_, fun i j g1 g2_ c1 c2_ t1 t2 e1 e2 hij => ?_⟩
            · cases i with
              | zero =>
                simp only [List.getElem?_cons_zero, Option.some.injEq, Prod.mk.injEq] at e
                obtain ⟨rfl, rfl, rfl⟩ := e
                exact ⟨by rw [← NB.out]; exact hge8, hb8⟩
              | succ i =>
                rw [List.getElem?_cons_succ] at e
                exact HSW.2.1 i g1 c1 t1 e
            · have hne : ∀ (j : Nat) (g1 : Nat) (c1 : Array Value) (t1 : TypeId), [(g6, U .u32 KW, 81), (g5, U .u32 h, 79), (g4, SV z8 (.slice none 0 0) 0, 28), (g2, SV H (.slice A l.length c) m, 28)][j]? = some (g1, c1, t1) → g8 ≠ g1 := by
                intro j g1 c1 t1 e
                match j, e with
                | 0, e | 1, e =>
                  rintro rfl
                  have h1 := HSW.get _ e
                  rw [hb8] at h1
                  simp only [List.getElem?_cons_zero, List.getElem?_cons_succ, Option.some.injEq, Prod.mk.injEq] at e
                  obtain ⟨rfl, rfl, rfl⟩ := e
                  injection h1 with h1
                  injection h1 with _ h1 _
                  exact absurd h1 (by decide)
                | 2, e =>
                  simp only [List.getElem?_cons_zero, List.getElem?_cons_succ, Option.some.injEq, Prod.mk.injEq] at e
                  obtain ⟨rfl, rfl, rfl⟩ := e
                  exact hn84
                | 3, e =>
                  simp only [List.getElem?_cons_zero, List.getElem?_cons_succ, Option.some.injEq, Prod.mk.injEq] at e
                  obtain ⟨rfl, rfl, rfl⟩ := e
                  exact hn82
              cases i with
              | zero =>
                cases j with
                | zero => exact absurd rfl hij
                | succ j =>
                  simp only [List.getElem?_cons_zero, Option.some.injEq, Prod.mk.injEq] at e1
                  obtain ⟨rfl, _, _⟩ := e1
                  rw [List.getElem?_cons_succ] at e2
                  exact hne j _ _ _ e2
              | succ i =>
                rw [List.getElem?_cons_succ] at e1
                cases j with
                | zero =>
                  simp only [List.getElem?_cons_zero, Option.some.injEq, Prod.mk.injEq] at e2
                  obtain ⟨rfl, _, _⟩ := e2
                  exact (hne i _ _ _ e1).symm
                | succ j =>
                  rw [List.getElem?_cons_succ] at e2
                  exact HSW.2.2 i j g1 g2_ c1 c2_ t1 t2 e1 e2 (by omega)
          clear HSW hb8 hge8 ho ho2 hn82 hn84 e9
          have HS := HA
          clear HA
          simp only [List.drop_succ_cons, List.drop_zero]
          obtain ⟨a0, ha0⟩ : ∃ a0 : Act, a0 = ⟨#[.agg (SV H (.slice A l.length c) m), .slice A2 d.length c2, .pointer (some ⟨g2, 0, none⟩), undef, .pointer (some ⟨g4, 0, none⟩), .pointer (some ⟨g5, 0, none⟩), .pointer (some ⟨g6, 0, none⟩), .slice Ab b.length cb, .pointer (some ⟨g8, 0, none⟩), undef, undef, V 0, .agg (U .u32 (wds H)), .agg (U .u32 KW), V 3, V 4, V 5, V 6, q18, .slice Ab b.length cb, .int .i64 b.length, q21, u22, u23, u24, u25, u26, V2 0, V2 1, V2 2, V2 3, V2 4, V2 5, V2 6, .agg (SV z8 vr (m + d.length)), undef, undef, undef, undef, undef, undef, undef, undef, undef, undef, undef, undef], []⟩ := ⟨_, rfl⟩
          have ha : (⟨#[.agg (SV H (.slice A l.length c) m), .slice A2 d.length c2, .pointer (some ⟨g2, 0, none⟩), undef, .pointer (some ⟨g4, 0, none⟩), .pointer (some ⟨g5, 0, none⟩), .pointer (some ⟨g6, 0, none⟩), .slice Ab b.length cb, V2 8, undef, undef, V 0, .agg (U .u32 (wds H)), .agg (U .u32 KW), V 3, V 4, V 5, V 6, q18, .slice Ab b.length cb, .int .i64 b.length, q21, u22, u23, u24, u25, u26, V2 0, V2 1, V2 2, V2 3, V2 4, V2 5, V2 6, V2 7, undef, undef, undef, undef, undef, undef, undef, undef, undef, undef, undef, undef], []⟩ : Act) = a0 := by rw [ha0, e7, e8]
          rw [ha, ha0]
          clear ha ha0 e7 e8 HI hall a0 HRW
          go_wp2_with (first
           | ((with_reducible refine gate_store (t := 28) (p := 8) rfl ?_); refine wpList_store_row rfl 28 (.tmp 8) (.tmp 34) rfl g8 (SV z8 vr (m + d.length)) rfl rfl 28 (SV z8 (.slice none 0 0) 0) (HS.out.get 0) (info_S _ _ _ rfl) rfl (SV_one _ _ _ (by rw [HV.out]; rfl)) ?_; have h_ := Aside0.mk (HS.out.row 0 (SV z8 vr (m + d.length))); have r_ := Aside0.mk (Kd.R_step HO.out (fun k hk _ => setRow_other _ g8 k (SV z8 vr (m + d.length)) hk.1.2)); clear HS HO; have HS := h_; have HO := r_; clear h_ r_)
           | ((with_reducible refine gate_dst (N := 35) rfl ?_); refine load_arrs rfl (N := 35) rfl 79 (.tmp 5) rfl 2 HS rfl rfl Try.underlying79 rfl (info_U _ size79 LHh.out) ?_))
          have hix := fun (i : Nat) (hi : i < 8) (W : World) => index79 h LHh.out i hi W
          have HIX := Aside0.mk hix
          clear hix
          go_loopg [36] 8 (fun kq v36 w' => ∃ i : Nat, v36 = .int .i64 i ∧ i + kq = 8 ∧ Aside0 ((Kd.int .u8).R 5 w' base (fun k => (base ≤ k ∧ k ≠ g8) ∧ k ≠ g4) vr b) ∧ Aside0 (Arrs w w' [(g8, SV (fill (fun i => wrap64 (rd h i)) i z8) vr (m + d.length), 28), (g6, U .u32 KW, 81), (g5, U .u32 h, 79), (g4, SV z8 (.slice none 0 0) 0, 28), (g2, SV H (.slice A l.length c) m, 28)]))
          case atStart => exact ⟨0, by go_num, by omega, HO, HS⟩
          case round =>
            clear HO
            obtain ⟨i, rfl, hi, HO, HS⟩ := hrel
            have hl8 : (fill (fun i => wrap64 (rd h i)) i z8).length = 8 := fill_len _ _ _
            by_cases cc2 : i < 8
            · have hx := fun W => HIX.out i cc2 W
              have hcl : wr.cell? ⟨g8, i, none⟩ = some (.int .i64 (rd (fill (fun i => wrap64 (rd h i)) i z8) i)) := (blk_cell (HS.out.get 0) i).trans (SV_at _ _ _ _ (by rw [hl8]; exact cc2))
              have hfz := HS.out.free 0 i
              clear hl8
              go_wp2
              go_roundg (8 - i - 1)
              case measure => omega
              case rel =>
                exact ⟨i + 1, by go_num, by omega, ⟨Kd.R_far HO.out (fun k hk => hk.1.2) _⟩, ⟨by
                  have h_ := HS.out.put 0 i (.int .i64 (wrap64 (rd h i)))
                  rw [SV_set _ _ _ _ _ (by rw [fill_len]; exact cc2)] at h_
                  exact h_⟩⟩
            · obtain rfl : i = 8 := by omega
              clear cc2
              go_wp2_with (first
               | ((with_reducible refine gate_dst (N := 46) rfl ?_); refine load_arrs rfl (N := 46) rfl 28 (.tmp 8) rfl 0 HS rfl rfl Try.underlying28 rfl (info_S _ _ _ hl8) ?_)
               | ((with_reducible refine gate_store (t := 28) (p := 4) rfl ?_); refine wpList_store_row rfl 28 (.tmp 4) (.tmp 46) rfl g4 (SV (fill (fun i => wrap64 (rd h i)) 8 z8) vr (m + d.length)) rfl rfl 28 (SV z8 (.slice none 0 0) 0) (HS.out.get 3) (info_S _ _ _ hl8) (by rw [SV_size _ _ _ hl8]; rfl) (SV_one _ _ _ (by rw [HV.out]; rfl)) ?_))
              have HE := HS.out.row 3 (SV (fill (fun i => wrap64 (rd h i)) 8 z8) vr (m + d.length))
              have HRe := Kd.R_step HO.out (fun k hk _ => setRow_other _ g4 k (SV (fill (fun i => wrap64 (rd h i)) 8 z8) vr (m + d.length)) hk.2)
              refine bodyPost_ret (results_cell_row rfl _ _ _ 28 _ (0, 0) _ rfl (HE.get 3) Try.underlying28 rfl (info_S _ _ _ hl8)) rfl ⟨vr, ?_, ?_, HE.1⟩
              · rw [← NK.out, ← NA.out, HFE.out]
                rfl
              · rw [← NK.out, ← NA.out, HFE.out, ← NB.out]
                exact Kd.R_mono HRe (fun _ _ => trivial)
/-- How many zeros follow 128. -/
def padZ (m : Int) : Int := (119 - m % 64) % 64
def lenB (m : Int) (k : Nat) : Int := 8 * m / 2 ^ (56 - 8 * k) % 256
def pad0 (m : Int) : List Int := [128] ++ List.replicate (padZ m).toNat 0
def padN (m : Int) (n : Nat) : List Int := iter (fun k l => l ++ [lenB m k]) n (pad0 m)
theorem padN_len (m : Int) (n : Nat) : (padN m n).length ≤ 65 + n := by
  induction n with
  | zero =>
    show (pad0 m).length ≤ 65
    unfold pad0 padZ
    simp only [List.length_append, List.length_replicate, List.length_cons, List.length_nil]
    omega
  | succ n ih =>
    show (padN m n ++ [lenB m n]).length ≤ _
    rw [List.length_append]
    simp only [List.length_cons, List.length_nil]
    omega
set_option maxHeartbeats 8000000 in
set_option maxRecDepth 100000 in
theorem impl_digest.calls (H : List Int) (hH8 : H.length = 8) (A : Option Addr) (c : Nat) (l : List Int) (m : Int) (w : World) (h1 : Kd.C (Kd.int .u8) w A l.length l) (hl : l.length ≤ 100000000000) (hm0 : 0 ≤ m) (hm1 : m ≤ 100000000000) :
    Calls Try.prog 51 #[.agg (SV H (.slice A l.length c) m)] w fun e w' => ∃ vr : Value, e = .returned vr ∧ Kd.R (Kd.int .u8) 5 w' w.heap.size (fun _ => True) vr (outN (fedH (feed KC (l ++ padN m 8).length (wds H) (l ++ padN m 8)).1) 8) ∧ Below w.heap.size w w' := by
  have H1 := Aside0.mk h1
  have LH := Aside0.mk hH8
  clear h1 hH8
  have HB := Aside0.mk (Below.refl w.heap.size w)
  have q9 : 0 ≤ m % 64 ∧ m % 64 ≤ 63 := by omega
  have q10 : 0 ≤ (119 - m % 64) % 64 ∧ (119 - m % 64) % 64 ≤ 63 := by omega
  go_enter Try.func51, Try.ntmps51
  go_wp2_with (first
   | ((with_reducible refine gate_dst (N := 1) rfl ?_); refine box_event ?hg1 (N := 1) ?hd1 (cs := SV H (.slice A l.length c) m) (t := 28) ?hr1 ?_; (case hd1 => rfl); (case hg1 => rfl); (case hr1 => first | (go_simp; done) | (go_simp; rfl)); intro g1 hg1 w1 hbk hb; have HK := Aside0.mk hbk; have n0_ := Aside0.mk (below_step HB.out hb); clear HB hb hbk hg1; have HB := n0_; clear n0_; have hcm : w1.cell? ⟨g1, 9, none⟩ = some (.int .i64 m) := (blk_cell HK.out 9).trans (SV_many _ _ _ LH.out))
   | ((with_reducible refine gate_dst (N := 8) rfl ?_); refine lit_event (N := 8) ?hg8 ?hd8 ([128]) (by simp) ?hr8 ?_; (case hd8 => rfl); (case hg8 => rfl); (case hr8 => first | (go_simp; done) | (go_simp; rfl)); intro A8 c8 w8 ho hb; have n0_ := Aside0.mk (below_step HB.out hb); have HO := Aside0.mk (Kd.R_mono (Kd.R_lower ho (below_size HB.out)) (fun _ hk => hk)); have hk_ := Aside0.mk (blk_below HK.out hb); clear HK hcm; have HK := hk_; clear hk_; have hcm : w8.cell? ⟨g1, 9, none⟩ = some (.int .i64 m) := (blk_cell HK.out 9).trans (SV_many _ _ _ LH.out); clear HB ho hb; have HB := n0_; clear n0_)
   | ((with_reducible refine gate_builtin (b := .append) (xs := #[.tmp 8, .tmp 13]) rfl ?_); at_builtin; refine Kd.R_append_zeros (Kd.int .u8) (w0 := w) w.heap.size rfl (.tmp 8) (.tmp 13) 23 3 5 (.int .u8 0) 1 rfl Try.underlying23 Try.underlying3 info5 rfl (by decide) (by decide) (.slice A8 [128].length c8) ([128]) 0 ((119 - m % 64) % 64) (fun _ => True) rfl rfl ?z1v14 (fun _ _ => trivial) HO.out ?z3v14 HB.out (below_size HB.out) ?z2v14 ?_; (case z1v14 => exact rfl); (case z3v14 => omega); (case z2v14 => simp only [List.length_cons, List.length_nil]; omega); intro v14 wv14 ho hb hg hat; have n0_ := Aside0.mk hb; have n1_ := Aside0.mk ho; have hk_ := Aside0.mk (blk_grown HK.out hg (Kd.R_ne HO.out HK.out (by decide))); clear HK hcm; have HK := hk_; clear hk_; have hcm : wv14.cell? ⟨g1, 9, none⟩ = some (.int .i64 m) := (blk_cell HK.out 9).trans (SV_many _ _ _ LH.out); clear HB HO; have HB := n0_; have HO := n1_; clear n0_ n1_ ho hb hg hat))
  go_loopg [3, 4] 8 (fun kq v3 v4 w' => ∃ k : Nat, v4 = .int .i64 (56 - 8 * (k : Int)) ∧ k ≤ 8 ∧ k + kq = 8 ∧ Aside0 (Kd.R (Kd.int .u8) 5 w' w.heap.size (fun _ => True) v3 (padN m k)) ∧ Aside0 (w'.heap[g1]? = some (.cells (SV H (.slice A l.length c) m) 28)) ∧ Aside0 (Below w.heap.size w w'))
  case atStart => exact ⟨0, by go_num, by omega, by omega, HO, HK, HB⟩
  case round =>
    clear hcm HO HK HB
    obtain ⟨k, rfl, hk8, hi, HO, HK, HB⟩ := hrel
    have hcm : wr.cell? ⟨g1, 9, none⟩ = some (.int .i64 m) := (blk_cell HK.out 9).trans (SV_many _ _ _ LH.out)
    by_cases cc : k < 8
    · have hpl := padN_len m k
      have PL := Aside0.mk hpl
      clear hpl
      obtain ⟨A3, c3, rfl⟩ := Kd.R_slice HO.out
      have qs : 0 ≤ 56 - 8 * (k : Int) ∧ 56 - 8 * (k : Int) ≤ 56 := by omega
      have qm : 0 ≤ 8 * m ∧ 8 * m ≤ 1000000000000 := by omega
      go_wp2_with (first
       | ((with_reducible refine gate_dst (N := 26) rfl ?_); refine lit_event (N := 26) ?hg26 ?hd26 ([lenB m k]) (by simp) ?hr26 ?_; (case hd26 => rfl); (case hg26 => rfl); (case hr26 => first | (go_simp; done) | (go_simp; rfl)); intro A26 c26 w26 ho hb; have n0_ := Aside0.mk (below_step HB.out hb); have n1_ := Aside0.mk (Kd.R_below HO.out hb); have HX := Aside0.mk (Kd.R_reads' ho).2.2; have hk_ := Aside0.mk (blk_below HK.out hb); clear HK hcm; have HK := hk_; clear hk_; have hcm : w26.cell? ⟨g1, 9, none⟩ = some (.int .i64 m) := (blk_cell HK.out 9).trans (SV_many _ _ _ LH.out); clear HB HO ho hb; have HB := n0_; have HO := n1_; clear n0_ n1_)
       | ((with_reducible refine gate_builtin (b := .append) (xs := #[.tmp 19, .tmp 26]) rfl ?_); at_builtin; refine Kd.R_append_rows (Kd.int .u8) (w0 := w) w.heap.size rfl (.tmp 19) (.tmp 26) 23 5 (.int .u8 0) 1 rfl Try.underlying23 info5 rfl (by decide) (by omega) (.slice A3 (padN m k).length c3) (padN m k) ([lenB m k]) _ _ _ (fun _ => True) (fun _ => False) rfl rfl ?aOx27 ?aRx27 (fun _ _ h => h) (fun _ h => h.elim) ?aFx27 ?aBx27 ?aSx27 ?aLx27 ?_; (case aRx27 => exact HX.out); (case aBx27 => exact HB.out); (case aFx27 => exact (fun _ _ => trivial)); (case aOx27 => exact HO.out); (case aSx27 => exact below_size HB.out); (case aLx27 => have := PL.out; simp only [List.length_cons, List.length_nil]; omega); intro x27 wx27 ho hb hg hat; have n0_ := Aside0.mk hb; have n1_ := Aside0.mk ho; have hk_ := Aside0.mk (blk_grown HK.out hg (Kd.R_ne HO.out HK.out (by decide))); clear HK hcm; have HK := hk_; clear hk_; have hcm : wx27.cell? ⟨g1, 9, none⟩ = some (.int .i64 m) := (blk_cell HK.out 9).trans (SV_many _ _ _ LH.out); clear HB HO HX; have HB := n0_; have HO := n1_; clear n0_ n1_ ho hb hg hat))
      go_roundg (8 - k - 1)
      case measure => omega
      case rel => exact ⟨k + 1, by go_num, by omega, by omega, HO, HK, HB⟩
    · obtain rfl : k = 8 := by omega
      clear cc hi hk8
      have PL := Aside0.mk (padN_len m 8)
      obtain ⟨tl, htl⟩ : ∃ tl, tl = padN m 8 := ⟨_, rfl⟩
      rw [← htl] at HO PL
      have NT := Aside0.mk htl
      clear htl
      obtain ⟨A3, c3, rfl⟩ := Kd.R_slice HO.out
      go_wp2_with (first
       | ((with_reducible refine gate_dst (N := 28) rfl ?_); refine lit_event (N := 28) ?hg28 ?hd28 (([] : List Int)) (by simp) ?hr28 ?_; (case hd28 => rfl); (case hg28 => rfl); (case hr28 => first | (go_simp; done) | (go_simp; rfl)); intro A28 c28 w28 ho hb; have HT := Aside0.mk ((RdB.of_R HO.out).below hb); have hk_ := Aside0.mk (blk_below HK.out hb); clear HK HO hcm; have HK := hk_; clear hk_; have n0_ := Aside0.mk (below_step HB.out hb); have HO := Aside0.mk (Kd.R_mono (Kd.R_lower ho (below_size HB.out)) (fun _ hk => hk)); clear HB ho hb; have HB := n0_; clear n0_)
       | ((with_reducible refine gate_dst (N := 29) rfl ?_); refine wpList_load_row rfl 28 (.tmp 1) rfl g1 rfl 28 _ _ _ HK.out Try.underlying28 rfl (info_S _ _ _ LH.out) ?_)
       | (go_at_call 50; refine (impl_fed.calls H LH.out A A3 c c3 l tl m _ (Kd.C_below H1.out HB.out) HT.out.1 (by have := PL.out; omega) (by omega) (by omega)).mono ?_; rintro e w50 ⟨vr, rfl, hvr, hb⟩; have n0_ := Aside0.mk (below_step HB.out hb); have n1_ := Aside0.mk (Kd.R_below HO.out hb); clear HB HO HK HT hb hvr; have HB := n0_; have HO := n1_; clear n0_ n1_; have LF : Aside0 ((fedH (feed (fill (fun i => cubeW (rd P64 i)) 64 z64) (l ++ tl).length (wds H) (l ++ tl)).1).length = 8) := ⟨fill_len _ _ _⟩; generalize hF : fedH (feed (fill (fun i => cubeW (rd P64 i)) 64 z64) (l ++ tl).length (wds H) (l ++ tl)).1 = F at LF ⊢; have NF := Aside0.mk hF; clear hF; have hfld := fun W => field_SV F LF.out vr (m + tl.length) W))
      have HIX := Aside0.mk (fun (i : Nat) (hi : i < 8) (W : World) => index22 F LF.out i hi W)
      clear hfld
      go_loopg [5, 33] 8 (fun kq v5 v33 w' => ∃ i : Nat, v33 = .int .i64 i ∧ i + kq = 8 ∧ Aside0 (Kd.R (Kd.int .u8) 5 w' w.heap.size (fun _ => True) v5 (outN F i)) ∧ Aside0 (Below w.heap.size w w'))
      case atStart => exact ⟨0, by go_num, by omega, HO, HB⟩
      case round =>
        clear HO HB
        obtain ⟨i, rfl, hi, HO, HB⟩ := hrel
        obtain ⟨A5, c5, rfl⟩ := Kd.R_slice HO.out
        by_cases cc : i < 8
        · have hx := fun W => HIX.out i cc W
          have OL := Aside0.mk (outN_len F i)
          go_wp2_with (first
           | ((with_reducible refine gate_dst (N := 48) rfl ?_); refine lit_event (N := 48) ?hg48 ?hd48 ([rd F i / 16777216 % 256, rd F i / 65536 % 256, rd F i / 256 % 256, rd F i % 256]) (by simp) ?hr48 ?_; (case hd48 => rfl); (case hg48 => rfl); (case hr48 => first | (go_simp; done) | (go_simp; rfl)); intro A48 c48 w48 ho hb; have n0_ := Aside0.mk (below_step HB.out hb); have n1_ := Aside0.mk (Kd.R_below HO.out hb); have HX := Aside0.mk (Kd.R_reads' ho).2.2; clear HB HO ho hb; have HB := n0_; have HO := n1_; clear n0_ n1_)
           | ((with_reducible refine gate_builtin (b := .append) (xs := #[.tmp 36, .tmp 48]) rfl ?_); at_builtin; refine Kd.R_append_rows (Kd.int .u8) (w0 := w) w.heap.size rfl (.tmp 36) (.tmp 48) 23 5 (.int .u8 0) 1 rfl Try.underlying23 info5 rfl (by decide) (by omega) (.slice A5 (outN F i).length c5) (outN F i) ([rd F i / 16777216 % 256, rd F i / 65536 % 256, rd F i / 256 % 256, rd F i % 256]) _ _ _ (fun _ => True) (fun _ => False) rfl rfl ?aOx49 ?aRx49 (fun _ _ h => h) (fun _ h => h.elim) ?aFx49 ?aBx49 ?aSx49 ?aLx49 ?_; (case aRx49 => exact HX.out); (case aBx49 => exact HB.out); (case aFx49 => exact (fun _ _ => trivial)); (case aOx49 => exact HO.out); (case aSx49 => exact below_size HB.out); (case aLx49 => have := OL.out; simp only [List.length_cons, List.length_nil]; omega); intro x49 wx49 ho hb hg hat; have n0_ := Aside0.mk hb; have n1_ := Aside0.mk ho; clear HB HO HX; have HB := n0_; have HO := n1_; clear n0_ n1_ ho hb hg hat))
          go_roundg (8 - i - 1)
          case measure => omega
          case rel => exact ⟨i + 1, by go_num, by omega, HO, HB⟩
        · obtain rfl : i = 8 := by omega
          clear cc
          go_wp2
          go_ret
          exact ⟨_, rfl, by have h_ := HO.out; rw [← NF.out, NT.out] at h_; exact h_, HB.out⟩
def P8 : List Int := [2, 3, 5, 7, 11, 13, 17, 19]
/-- The first numbers, as the program makes them. -/
def H0 : List Int := fill (fun i => wrap64 (sqrtW (rd P8 i))) 8 z8
set_option maxHeartbeats 8000000 in
set_option maxRecDepth 100000 in
theorem impl_NewStream_ (w : World) : Calls Try.prog 15 #[] w fun e w' => e = .returned (.agg (SV H0 (.slice none 0 0) 0)) ∧ Below w.heap.size w w' := by
  have HS : Aside0 (Arrs w w []) := ⟨Arrs.refl w⟩
  have LP : Aside0 (P8.length = 8) := ⟨rfl⟩
  go_enter Try.func15, Try.ntmps15
  go_wp2_with (first
   | ((with_reducible refine gate_dst (N := 0) rfl ?_); refine box_arrs ?hg0 (N := 0) ?hd0 (SV z8 (.slice none 0 0) 0) 28 HS ?hr0 ?_; (case hd0 => rfl); (case hg0 => rfl); (case hr0 => first | (go_simp; done) | (go_simp; rfl)); intro g0 w0 h_; clear HS; have HS := h_; clear h_)
   | ((with_reducible refine gate_dst (N := 4) rfl ?_); refine build_event rfl (N := 4) rfl 28 #[] rfl (SV z8 (.slice none 0 0) 0) (by kernel_rfl) ?_)
   | ((with_reducible refine gate_dst (N := 1) rfl ?_); refine box_arrs ?hg1 (N := 1) ?hd1 (SV z8 (.slice none 0 0) 0) 28 HS ?hr1 ?_; (case hd1 => rfl); (case hg1 => rfl); (case hr1 => first | (go_simp; done) | (go_simp; rfl)); intro g1 w1 h_; clear HS; have HS := h_; clear h_)
   | ((with_reducible refine gate_store (t := 28) (p := 1) rfl ?_); refine store_arrs rfl 28 (.tmp 4) rfl rfl 0 (SV z8 (.slice none 0 0) 0) HS rfl rfl rfl (info_S _ _ _ rfl) rfl (SV_one _ _ _ rfl) ?_; intro w5 h_; clear HS; have HS := h_; clear h_)
   | (go_at_call 41; ((with_reducible refine (impl_primes.calls 400 8 _ _ primes8_).mono ?_); rintro e w6 ⟨v5, rfl, ho, hb⟩; obtain ⟨n0, hn0⟩ : ∃ n0, n0 = w5.heap.size := ⟨_, rfl⟩; have HL : Aside0 (g1 < n0) := ⟨by rw [hn0]; exact HS.out.lt 0⟩; rw [← hn0] at ho; have HO := Aside0.mk (show (Kd.int .u64).R 54 w6 n0 (fun k => n0 ≤ k) v5 P8 from R_base ho); have h_ := Aside0.mk (HS.out.below hb); clear HS ho hb hn0; have HS := h_; clear h_; obtain ⟨A5, c5, rfl⟩ := Kd.R_slice HO.out; rw [LP.out] at HO ⊢)))
  go_loopg [7] 8 (fun kq v7 w' => ∃ i : Nat, v7 = .int .i64 i ∧ i + kq = 8 ∧ Aside0 (Arrs w w' [(g1, SV (fill (fun i => wrap64 (sqrtW (rd P8 i))) i z8) (.slice none 0 0) 0, 28), (g0, SV z8 (.slice none 0 0) 0, 28)]) ∧ Aside0 ((Kd.int .u64).R 54 w' n0 (fun k => n0 ≤ k) (.slice A5 8 c5) P8))
  case atStart => exact ⟨0, by go_num, by omega, HS, HO⟩
  case round =>
    obtain ⟨i, rfl, hi, HS, HO⟩ := hrel
    have L8 : Aside0 ((fill (fun i => wrap64 (sqrtW (rd P8 i))) i z8).length = 8) := ⟨fill_len _ _ _⟩
    by_cases c : i < 8
    · obtain ⟨ad, e1, hx⟩ := Kd.at_int (Kd.R_reads' HO.out).2.2 i (by omega) (by rw [LP.out]; omega)
      cases e1
      have hx : wr.cell? (ad.add i) = some (.int .u64 (rd P8 i)) := hx
      go_wp2_with (first
       | (go_at_call 42; refine (square_root _ _).mono ?_; rintro e w7 ⟨rfl, hb⟩; have h_ := Aside0.mk (HS.out.below hb); have h2_ := Aside0.mk (Kd.R_below HO.out hb); clear HS HO hb hx; have HS := h_; have HO := h2_; clear h_ h2_; have hcl : w7.cell? ⟨g1, i, none⟩ = some (.int .i64 (rd (fill (fun i => wrap64 (sqrtW (rd P8 i))) i z8) i)) := (blk_cell (HS.out.get 0) i).trans (SV_at _ _ _ _ (by rw [L8.out]; exact c)); have hfz := HS.out.free 0 i))
      go_roundg (8 - i - 1)
      case measure => omega
      case rel => exact ⟨i + 1, by go_num, by omega, ⟨by have h_ := HS.out.put 0 i (.int .i64 (wrap64 (sqrtW (rd P8 i)))); rw [SV_set _ _ _ _ _ (by rw [L8.out]; exact c)] at h_; exact h_⟩, ⟨Kd.R_far HO.out (fun k hk => by show k ≠ g1; have := HL.out; omega) _⟩⟩
    · obtain rfl : i = 8 := by omega
      clear c
      go_wp2_with (first
       | ((with_reducible refine gate_dst (N := 19) rfl ?_); refine load_arrs rfl (N := 19) rfl 28 (.tmp 1) rfl 0 HS rfl rfl Try.underlying28 rfl (info_S _ _ _ L8.out) ?_)
       | ((with_reducible refine gate_store (t := 28) (p := 0) rfl ?_); refine store_arrs rfl 28 (.tmp 19) rfl rfl 1 (SV (fill (fun i => wrap64 (sqrtW (rd P8 i))) 8 z8) (.slice none 0 0) 0) HS rfl rfl rfl (info_S _ _ _ L8.out) (by rw [SV_size _ _ _ L8.out]; rfl) (SV_one _ _ _ rfl) ?_; intro w5 h_; clear HS; have HS := h_; clear h_))
      exact bodyPost_ret (results_cell_row rfl _ _ _ 28 _ (0, 0) _ rfl (HS.out.get 1) Try.underlying28 rfl (info_S _ _ _ L8.out)) rfl ⟨rfl, HS.out.1⟩
/-- The digest of a stream. -/
def digL (H l : List Int) (m : Int) : List Int := outN (fedH (feed KC (l ++ padN m 8).length (wds H) (l ++ padN m 8)).1) 8
/-- A stream with data behind: its numbers, and what is left. -/
def fedL (H l d : List Int) : List Int × List Int := (fedH (feed KC (l ++ d).length (wds H) (l ++ d)).1, (feed KC (l ++ d).length (wds H) (l ++ d)).2)
def shaL (d : List Int) : List Int := digL (fedL H0 [] d).1 (fedL H0 [] d).2 (0 + d.length)
theorem feed_rest (K : List Int) (n : Nat) (h b : List Int) : (feed K n h b).2.length ≤ b.length := by
  induction n generalizing h b with
  | zero => exact Nat.le_refl _
  | succ n ih =>
    rw [feed_succ]
    split
    · refine Nat.le_trans (ih _ _) ?_
      rw [List.length_drop]
      omega
    · exact Nat.le_refl _
theorem fedL_rest (H l d : List Int) : (fedL H l d).2.length ≤ l.length + d.length := by
  have := feed_rest KC (l ++ d).length (wds H) (l ++ d)
  rw [List.length_append] at this
  unfold fedL
  rw [List.length_append]
  exact this
theorem fedL_len (H l d : List Int) : (fedL H l d).1.length = 8 := by
  unfold fedL fedH
  exact fill_len _ _ _
theorem fed2 (H : List Int) (hH8 : H.length = 8) (A A2 : Option Addr) (c c2 : Nat) (l d : List Int) (m : Int) (w : World) (h1 : Kd.C (Kd.int .u8) w A l.length l) (h2 : Kd.C (Kd.int .u8) w A2 d.length d) (hl : l.length + d.length ≤ 1000000000000) (hm0 : 0 ≤ m) (hm1 : m ≤ 1000000000000) :
    Calls Try.prog 50 #[.agg (SV H (.slice A l.length c) m), .slice A2 d.length c2] w fun e w' => ∃ vr : Value, e = .returned (.agg (SV (fedL H l d).1 vr (m + d.length))) ∧ Kd.R (Kd.int .u8) 5 w' w.heap.size (fun _ => True) vr (fedL H l d).2 ∧ Below w.heap.size w w' := by
  unfold fedL KC
  exact impl_fed.calls H hH8 A A2 c c2 l d m w h1 h2 hl hm0 hm1
theorem digest2 (H : List Int) (hH8 : H.length = 8) (A : Option Addr) (c : Nat) (l : List Int) (m : Int) (w : World) (h1 : Kd.C (Kd.int .u8) w A l.length l) (hl : l.length ≤ 100000000000) (hm0 : 0 ≤ m) (hm1 : m ≤ 100000000000) :
    Calls Try.prog 51 #[.agg (SV H (.slice A l.length c) m)] w fun e w' => ∃ vr : Value, e = .returned vr ∧ Kd.R (Kd.int .u8) 5 w' w.heap.size (fun _ => True) vr (digL H l m) ∧ Below w.heap.size w w' := by
  unfold digL
  exact impl_digest.calls H hH8 A c l m w h1 hl hm0 hm1
def impl_sha.f (l0 : List Int) : Option (List Int) := if l0.length ≤ 2000000 then some (shaL l0) else none
set_option maxHeartbeats 8000000 in
set_option maxRecDepth 100000 in
theorem impl_sha.calls (A0 : Option Addr) (c0 : Nat) (l0 : List Int) (r : List Int) (w : World) (hr0 : Kd.C (Kd.int .u8) w A0 l0.length l0) (hc0 : l0.length ≤ c0) (h : impl_sha.f l0 = some r) :
    Calls Try.prog 45 #[.slice A0 l0.length c0] w fun e w' => ∃ v0_ : Value, e = .returned (v0_) ∧ Kd.R (Kd.int .u8) 5 w' w.heap.size (fun _ => True) v0_ r ∧ Below w.heap.size w w' := by
  have hl : l0.length ≤ 2000000 := by
    unfold impl_sha.f at h
    by_cases c : l0.length ≤ 2000000
    · exact c
    · rw [if_neg c] at h
      cases h
  have hrr : shaL l0 = r := by
    unfold impl_sha.f at h
    rw [if_pos hl] at h
    exact Option.some.inj h
  unfold shaL at hrr
  have HRR := Aside0.mk hrr
  have HR := Aside0.mk hr0
  obtain ⟨N, hN⟩ : ∃ N, N = H0 := ⟨_, rfl⟩
  have LN : Aside0 (N.length = 8) := ⟨by rw [hN]; exact fill_len _ _ _⟩
  have HN : Aside0 (∀ W : World, Calls Try.prog 15 #[] W fun e w' => e = .returned (.agg (SV N (.slice none 0 0) 0)) ∧ Below W.heap.size W w') := ⟨by rw [hN]; exact impl_NewStream_⟩
  rw [← hN] at HRR
  have HF : Aside0 (∃ F, F = fedL N [] l0 ∧ F.1.length = 8 ∧ F.2.length ≤ 2000000 ∧ ∀ W : World, Kd.C (Kd.int .u8) W A0 l0.length l0 → Calls Try.prog 50 #[.agg (SV N (.slice none 0 0) 0), .slice A0 l0.length c0] W fun e w' => ∃ vr : Value, e = .returned (.agg (SV F.1 vr (0 + l0.length))) ∧ Kd.R (Kd.int .u8) 5 w' W.heap.size (fun _ => True) vr F.2 ∧ Below W.heap.size W w') :=
    ⟨_, rfl, fedL_len _ _ _, Nat.le_trans (fedL_rest _ _ _) (by simp only [List.length_nil]; omega), fun W hW => fed2 N LN.out none A0 0 c0 [] l0 0 W (Kd.C_nil _ _) hW (by simp only [List.length_nil]; omega) (by omega) (by omega)⟩
  obtain ⟨F, hF, hF8, hF2, hFc⟩ := HF.out
  rw [← hF] at HRR
  have FC := Aside0.mk hFc
  have F8 := Aside0.mk hF8
  have F2 := Aside0.mk hF2
  clear hr0 h hrr hF hF8 hF2 hFc HF hN
  obtain ⟨F1, F3⟩ := F
  have ql : 0 ≤ 0 + (l0.length : Int) ∧ 0 + (l0.length : Int) ≤ 2000000 := by omega
  go_enter Try.func45, Try.ntmps45
  go_wp2_with (first
   | (go_at_call 15; ((with_reducible refine (HN.out _).mono ?_); rintro e w1 ⟨rfl, hb⟩; have HB := Aside0.mk hb; clear hb))
   | (go_at_call 50; ((with_reducible refine (FC.out _ (Kd.C_below HR.out HB.out)).mono ?_); rintro e w2 ⟨vr, rfl, ho, hb⟩; have HB2 := Aside0.mk (below_step HB.out hb); clear HB hb; obtain ⟨A2, c2, rfl⟩ := Kd.R_slice ho; have HO := Aside0.mk (Kd.R_reads' ho).2.2; clear ho))
   | (go_at_call 51; ((refine (digest2 F1 F8.out A2 c2 F3 _ _ HO.out (by have := F2.out; omega) (by omega) (by omega)).mono ?_); rintro e w3 ⟨vr, rfl, ho, hb⟩; have HB3 := Aside0.mk (below_step HB2.out hb); have HO3 := Aside0.mk (Kd.R_mono (Kd.R_lower ho (below_size HB2.out)) (fun _ hk => hk)); clear HB2 hb ho)))
  go_ret
  exact ⟨_, rfl, by rw [← HRR.out, Int.zero_add]; exact HO3.out, HB3.out⟩

end Go.Proofs.Ytiffbeoignoedaa.PFnPieces
