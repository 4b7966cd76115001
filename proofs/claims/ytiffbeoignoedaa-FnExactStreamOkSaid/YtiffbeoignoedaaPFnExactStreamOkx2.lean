-- Written for this claim by a program of this session.
import Derived.Test.YtiffbeoignoedaaPFnExactStreamOkx0
import Derived.Test.YtiffbeoignoedaaPFnExactStreamOkx1
import Derived.Lib.SliceRun
import Derived.Laws.CopyOwn
import Derived.StillTailTactics
import Derived.LoopN
import Derived.Deep.MidRow
import Derived.Lib.ReflectliteSwap
namespace Go.Proofs.Ytiffbeoignoedaa.PFnExactStreamOk
open Go.RowKit Go.Proofs.YtiffbeoignoedaaW.PrintWords Go.Proofs.YtiffbeoignoedaaW.PrintLast Go.Proofs.YtiffbeoignoedaaW.PrintMore
attribute [local go_sem] max2_int min2_int max_two min_two max_three min_three max_four min_four   -- for this text's walks alone
set_option linter.unusedVariables false
set_option linter.unusedSimpArgs false
/-! ### SHA-256: the words that the walks by hand use -/
/-! ### Arrays of whole numbers in a block of their own -/
/-- The cells of an array of whole numbers. -/
def U (k : IntKind) (l : List Int) : Array Value := ⟨l.map (Value.int k)⟩
theorem U_set (k : IntKind) (l : List Int) (i : Nat) (v : Int) : (U k l).setIfInBounds i (.int k v) = U k (l.set i v) := by
  unfold U
  rw [List.setIfInBounds_toArray, List.map_set]
theorem U_size (k : IntKind) (l : List Int) : (U k l).size = l.length := by
  show (l.map _).length = _
  rw [List.length_map]
theorem U_get (k : IntKind) (l : List Int) (i : Nat) (h : i < l.length) : (U k l)[i]? = some (.int k (rd l i)) := by
  unfold U rd
  rw [List.getElem?_toArray, List.getElem?_map, List.getElem?_eq_getElem h]
  simp [List.getD, List.getElem?_eq_getElem h]
theorem cellU {w : World} {g : Nat} {t : TypeId} {k : IntKind} {l : List Int} (h : w.heap[g]? = some (.cells (U k l) t (0, 0))) (i : Nat) (hi : i < l.length) : w.cell? ⟨g, i, none⟩ = some (.int k (rd l i)) :=
  (blk_cell h i).trans (U_get k l i hi)
theorem setU {w : World} {g : Nat} {t : TypeId} {k : IntKind} {l : List Int} (h : w.heap[g]? = some (.cells (U k l) t (0, 0))) (i : Nat) (v : Int) : (w.setCell ⟨g, i, none⟩ (.int k v)).heap[g]? = some (.cells (U k (l.set i v)) t (0, 0)) := by
  rw [blk_set h, U_set]
/-- The steps F 0, F 1, .., F (n - 1), one behind the other. -/
def iter {α : Type} (F : Nat → α → α) : Nat → α → α
  | 0, x => x
  | n + 1, x => F n (iter F n x)
def fill (f : Nat → Int) : Nat → List Int → List Int := iter fun i l => l.set i (f i)
theorem fill_len (f : Nat → Int) (n : Nat) (l : List Int) : (fill f n l).length = l.length := by
  induction n with
  | zero => rfl
  | succ n ih => rw [← ih]; exact List.length_set
theorem ix_nat (i : Nat) : ((i : Int)).toNat = i := rfl
theorem U_one (k : IntKind) (l : List Int) : (U k l).all (·.oneCell') = true := by
  rw [Array.all_eq_true_iff_forall_mem]
  intro x hx
  simp only [U, List.mem_toArray, List.mem_map] at hx
  obtain ⟨a, _, rfl⟩ := hx
  rfl
theorem info_U {P : Program} {ty n : Nat} (k : IntKind) {l : List Int} (h : (P.info? ty).map (·.size) = some n) (hl : l.length = n) : (P.info? ty).map (·.size) = some (U k l).size := by rw [h, U_size, hl]
theorem setRow_blk {w : World} {g : Nat} {old : Array Value} {t : TypeId} {fr : Nat × Nat} (h : w.heap[g]? = some (.cells old t fr)) (cs : Array Value) : (w.setRow g cs).heap[g]? = some (.cells cs t fr) := setRow_heap w g old cs t fr h
theorem setRow_far {w : World} {g k : Nat} {o : Obj} (h : w.heap[k]? = some o) (hk : k ≠ g) (cs : Array Value) : (w.setRow g cs).heap[k]? = some o := by rw [setRow_other w g k cs hk, h]
theorem below_row {w W : World} {g : Nat} (h : Below w.heap.size w W) (hg : w.heap.size ≤ g) (cs : Array Value) : Below w.heap.size w (W.setRow g cs) := Go.below_setRow h hg cs
/-- Blocks of the call's own: each holds these cells; what there was ahead of the call is as it was. -/
def Arrs (w0 W : World) (xs : List (Nat × Array Value × TypeId)) : Prop :=
  Below w0.heap.size w0 W ∧ (∀ (i : Nat) (g : Nat) (cs : Array Value) (t : TypeId), xs[i]? = some (g, cs, t) → w0.heap.size ≤ g ∧ W.heap[g]? = some (.cells cs t (0, 0))) ∧ (∀ (i j : Nat) (g h : Nat) (cs ds : Array Value) (t u : TypeId), xs[i]? = some (g, cs, t) → xs[j]? = some (h, ds, u) → i ≠ j → g ≠ h)
theorem Arrs.refl (w : World) : Arrs w w [] := ⟨Below.refl _ _, fun i g cs t h => by simp at h, fun i j g h cs ds t u e => by simp at e⟩
section
variable {w0 W : World} {xs : List (Nat × Array Value × TypeId)} {g : Nat} {cs : Array Value} {t : TypeId}
theorem Arrs.get (h : Arrs w0 W xs) (i : Nat) (e : xs[i]? = some (g, cs, t) := by rfl) : W.heap[g]? = some (.cells cs t (0, 0)) := (h.2.1 i g cs t e).2
theorem Arrs.ge (h : Arrs w0 W xs) (i : Nat) (e : xs[i]? = some (g, cs, t) := by rfl) : w0.heap.size ≤ g := (h.2.1 i g cs t e).1
theorem Arrs.lt (h : Arrs w0 W xs) (i : Nat) (e : xs[i]? = some (g, cs, t) := by rfl) : g < W.heap.size := blk_lt (h.get i e)
/-- What only makes memory, or draws. -/
theorem Arrs.below {W' : World} (h : Arrs w0 W xs) (hb : Below W.heap.size W W') : Arrs w0 W' xs :=
  ⟨below_step h.1 hb, fun i g cs t e => ⟨h.ge i e, blk_below (h.get i e) hb⟩, h.2.2⟩
theorem Arrs.drewN (h : Arrs w0 W xs) (n : Nat) : Arrs w0 (W.drewN n) xs := h.below (pw_below_drewN (Below.refl _ _) n)
theorem Arrs.drew1 (h : Arrs w0 W xs) : Arrs w0 W.drew xs := h.below (below_drew1 (Below.refl _ _))
/-- A block that was made. -/
theorem Arrs.made {W' : World} (h : Arrs w0 W xs) (hg : g = W.heap.size) (hb : Below W.heap.size W W') (hn : W'.heap[g]? = some (.cells cs t (0, 0))) : Arrs w0 W' ((g, cs, t) :: xs) := by
  refine ⟨below_step h.1 hb, fun i g1 cs1 t1 e => ?_, fun i j g1 g2 c1 c2 t1 t2 e1 e2 hij => ?_⟩
  · cases i with
    | zero =>
      simp only [List.getElem?_cons_zero, Option.some.injEq, Prod.mk.injEq] at e
      obtain ⟨rfl, rfl, rfl⟩ := e
      exact ⟨by rw [hg]; exact below_size h.1, hn⟩
    | succ i =>
      rw [List.getElem?_cons_succ] at e
      exact ⟨h.ge i e, blk_below (h.get i e) hb⟩
  · cases i with
    | zero =>
      cases j with
      | zero => exact absurd rfl hij
      | succ j =>
        simp only [List.getElem?_cons_zero, Option.some.injEq, Prod.mk.injEq] at e1
        obtain ⟨rfl, _, _⟩ := e1
        rw [List.getElem?_cons_succ] at e2
        have := h.lt j e2
        omega
    | succ i =>
      rw [List.getElem?_cons_succ] at e1
      cases j with
      | zero =>
        simp only [List.getElem?_cons_zero, Option.some.injEq, Prod.mk.injEq] at e2
        obtain ⟨rfl, _, _⟩ := e2
        have := h.lt i e1
        omega
      | succ j =>
        rw [List.getElem?_cons_succ] at e2
        exact h.2.2 i j g1 g2 c1 c2 t1 t2 e1 e2 (by omega)
/-- What turns block i alone. -/
theorem Arrs.turn {W' : World} {cs' : Array Value} (h : Arrs w0 W xs) (i : Nat) (e : xs[i]? = some (g, cs, t)) (hb : Below w0.heap.size w0 W') (hn : W'.heap[g]? = some (.cells cs' t (0, 0))) (hk : ∀ k, k ≠ g → W'.heap[k]? = W.heap[k]?) : Arrs w0 W' (xs.set i (g, cs', t)) := by
  have hi : i < xs.length := (List.getElem?_eq_some_iff.1 e).1
  have hx : ∀ j g1 c1 t1, (xs.set i (g, cs', t))[j]? = some (g1, c1, t1) → j ≠ i → xs[j]? = some (g1, c1, t1) := fun j g1 c1 t1 e1 hj => by
    rwa [List.getElem?_set_ne (fun q => hj q.symm)] at e1
  have hs : ∀ g1 c1 t1, (xs.set i (g, cs', t))[i]? = some (g1, c1, t1) → g = g1 ∧ cs' = c1 ∧ t = t1 := fun g1 c1 t1 e1 => by
    rw [List.getElem?_set_self hi, Option.some.injEq, Prod.mk.injEq, Prod.mk.injEq] at e1
    exact e1
  refine ⟨hb, fun j g1 c1 t1 e1 => ?_, fun j k g1 g2 c1 c2 t1 t2 e1 e2 hjk => ?_⟩
  · by_cases hj : j = i
    · subst hj
      obtain ⟨rfl, rfl, rfl⟩ := hs _ _ _ e1
      exact ⟨h.ge j e, hn⟩
    · have e3 := hx _ _ _ _ e1 hj
      exact ⟨h.ge j e3, (hk g1 (h.2.2 j i _ _ _ _ _ _ e3 e hj)).trans (h.get j e3)⟩
  · by_cases hj : j = i
    · subst hj
      obtain ⟨rfl, _, _⟩ := hs _ _ _ e1
      exact h.2.2 j k _ _ _ _ _ _ e (hx _ _ _ _ e2 (fun q => hjk q.symm)) hjk
    · by_cases hk2 : k = i
      · subst hk2
        obtain ⟨rfl, _, _⟩ := hs _ _ _ e2
        exact h.2.2 j k _ _ _ _ _ _ (hx _ _ _ _ e1 hj) e hjk
      · exact h.2.2 j k _ _ _ _ _ _ (hx _ _ _ _ e1 hj) (hx _ _ _ _ e2 hk2) hjk
theorem Arrs.put (h : Arrs w0 W xs) (i : Nat) (j : Nat) (v : Value) (e : xs[i]? = some (g, cs, t) := by rfl) : Arrs w0 (W.setCell ⟨g, j, none⟩ v) (xs.set i (g, cs.setIfInBounds j v, t)) :=
  h.turn i e (below_set h.1 (h.ge i e)) (blk_set (h.get i e) j v) (fun k hk => heap_setCell_other W ⟨g, j, none⟩ k v hk)
theorem Arrs.putU {k : IntKind} {l : List Int} (h : Arrs w0 W xs) (i : Nat) (j : Nat) (v : Int) (e : xs[i]? = some (g, U k l, t) := by rfl) : Arrs w0 (W.setCell ⟨g, j, none⟩ (.int k v)) (xs.set i (g, U k (l.set j v), t)) := by
  rw [← U_set]
  exact h.put i j _ e
theorem Arrs.row (h : Arrs w0 W xs) (i : Nat) (ds : Array Value) (e : xs[i]? = some (g, cs, t) := by rfl) : Arrs w0 (W.setRow g ds) (xs.set i (g, ds, t)) :=
  h.turn i e (below_row h.1 (h.ge i e) ds) (setRow_blk (h.get i e) ds) (fun k hk => setRow_other W g k ds hk)
theorem Arrs.cell {k : IntKind} {l : List Int} (h : Arrs w0 W xs) (i : Nat) (j : Nat) (hj : j < l.length) (e : xs[i]? = some (g, U k l, t) := by rfl) : W.cell? ⟨g, j, none⟩ = some (.int k (rd l j)) := cellU (h.get i e) j hj
theorem Arrs.free (h : Arrs w0 W xs) (i : Nat) (j : Nat) (e : xs[i]? = some (g, cs, t) := by rfl) : W.frozen? ⟨g, j, none⟩ = false := blk_frozen (h.get i e) j
theorem Arrs.drop (h : Arrs w0 W ((g, cs, t) :: xs)) : Arrs w0 W xs :=
  ⟨h.1, fun i g1 cs1 t1 e => h.2.1 (i + 1) g1 cs1 t1 (by rw [List.getElem?_cons_succ]; exact e), fun i j g1 g2 c1 c2 t1 t2 e1 e2 hij => h.2.2 (i + 1) (j + 1) g1 g2 c1 c2 t1 t2 (by rw [List.getElem?_cons_succ]; exact e1) (by rw [List.getElem?_cons_succ]; exact e2) (by omega)⟩
theorem Arrs.cast {ys : List (Nat × Array Value × TypeId)} (h : Arrs w0 W xs) (e : xs = ys := by rfl) : Arrs w0 W ys := e ▸ h
theorem Arrs.at_ {W' : World} (h : Arrs w0 W xs) (e : W = W') : Arrs w0 W' xs := e ▸ h
theorem Arrs.cells {ds : Array Value} (h : Arrs w0 W xs) (i : Nat) (e : xs[i]? = some (g, cs, t)) (hc : cs = ds) : Arrs w0 W (xs.set i (g, ds, t)) := by
  subst hc
  have e2 : xs.set i (g, cs, t) = xs := by
    apply List.ext_getElem?
    intro j
    by_cases hj : j = i
    · subst hj
      rw [List.getElem?_set_self (List.getElem?_eq_some_iff.1 e).1, e]
    · rw [List.getElem?_set_ne (fun q => hj q.symm)]
  rw [e2]
  exact h
end
theorem Arrs.alloc {w0 W : World} {xs : List (Nat × Array Value × TypeId)} {cs : Array Value} {t : TypeId} (h : Arrs w0 W xs) {g : Nat} (hg : g = W.heap.size := by simp) : Arrs w0 (W.alloc (.cells cs t)) ((g, cs, t) :: xs) :=
  h.made hg (below_alloc (Below.refl _ _) _) (by rw [hg]; exact blk_new _ _)
section
variable {P : Program} {ops : Array Oper} {rest : List Oper} {o : Oper} {a : Act} {Q : Exit → Act → World → Prop} {W w0 : World}
/-- An aggregate is built. -/
theorem build_event (hgd : o.guard = none) {N : Tmp} (_hd : o.dst = some N) (t : TypeId) (parts : Array (Nat × Operand)) (ho : o.op = .build t parts) (cs : Array Value)
    (hb : P.built t (parts.map fun (i, x) => (i, a.eval x)).toList = some cs) (h : wpList P ops Q rest (a.put o.dst (.agg cs)) W) : wpList P ops Q (o :: rest) a W := by
  refine wpList_build hgd t parts ho (by rw [hb]; rfl) ?_
  rw [hb]
  exact h
/-- A block is made. -/
theorem box_arrs (hgd : o.guard = none) {N : Tmp} (_hd : o.dst = some N) (cs : Array Value) (t : TypeId) {xs : List (Nat × Array Value × TypeId)} (HS : Aside0 (Arrs w0 W xs))
    (hrun : (execOp a.eval o).run P W = .ok (.value (.pointer (some ⟨W.heap.size, 0, none⟩))) (W.alloc (.cells cs t (0, 0))))
    (h : ∀ g w1, Aside0 (Arrs w0 w1 ((g, cs, t) :: xs)) → wpList P ops Q rest (a.put o.dst (.pointer (some ⟨g, 0, none⟩))) w1) : wpList P ops Q (o :: rest) a W :=
  Kd.event_run hgd hrun (h _ _ ⟨HS.out.alloc rfl⟩)
/-- A whole array is read. -/
theorem load_arrs (hgd : o.guard = none) {N : Tmp} (_hd : o.dst = some N) (ty : TypeId) (x : Operand) (ho : o.op = .load ty x) (i : Nat) {xs : List (Nat × Array Value × TypeId)} {g : Nat} {cs : Array Value} {t : TypeId} (HS : Aside0 (Arrs w0 W xs)) (e : xs[i]? = some (g, cs, t))
    (hx : a.eval x = .pointer (some ⟨g, 0, none⟩)) {d : TypeDesc} (hu : P.underlying ty = some d) (hd : (match d with | .struct _ | .array _ _ => true | _ => false) = true) (hi : (P.info? ty).map (·.size) = some cs.size)
    (h : wpList P ops Q rest (a.put o.dst (.agg cs)) W) : wpList P ops Q (o :: rest) a W :=
  wpList_load_row hgd ty x ho g hx t cs (0, 0) d (HS.out.get i e) hu hd hi h
/-- A whole array is written. -/
theorem store_arrs (hgd : o.guard = none) (ty : TypeId) {p : Tmp} (y : Operand) (ho : o.op = .store ty (.tmp p) y) (hN : o.dst = none) (i : Nat) {xs : List (Nat × Array Value × TypeId)} {g : Nat} {old : Array Value} (cs : Array Value) {t : TypeId} (HS : Aside0 (Arrs w0 W xs)) (e : xs[i]? = some (g, old, t))
    (hx : a.eval (.tmp p) = .pointer (some ⟨g, 0, none⟩)) (hy : a.eval y = .agg cs) (hi : (P.info? ty).map (·.size) = some cs.size) (hold : old.size = cs.size) (h1 : cs.all (·.oneCell') = true)
    (h : ∀ w1, Aside0 (Arrs w0 w1 (xs.set i (g, cs, t))) → wpList P ops Q rest a w1) : wpList P ops Q (o :: rest) a W := by
  refine wpList_store_row hgd ty (.tmp p) y ho g cs hx hy t old (HS.out.get i e) hi hold h1 ?_
  rw [hN]
  exact h _ ⟨HS.out.row i cs e⟩
end
theorem gwC_ {P : Program} {Q : Exit → Act → World → Prop} {c : Code} {a : Act} {W : World} (h : ∀ w', W = w' → c.wp P Q a w') : c.wp P Q a W := h W rfl
theorem size79 : (Try.prog.info? 79).map (·.size) = some 8 := by kernel_rfl
def z8 : List Int := [0, 0, 0, 0, 0, 0, 0, 0]
/-- The words of a stream's numbers. -/
def wds (H : List Int) : List Int := fill (fun i => IntKind.u32.wrap (rd H i)) 8 z8
/-- A word turned right. -/
def rot (x n : Int) : Int := Go.bits .or .u32 (shr .u32 x n) (shl .u32 x (32 - n))
theorem bor_comm (a b : Int) : Go.bits .or .u32 a b = Go.bits .or .u32 b a := by
  unfold Go.bits
  simp [Nat.or_comm]
theorem size81 : (Try.prog.info? 81).map (·.size) = some 64 := by kernel_rfl
theorem size22 : (Try.prog.info? 22).map (·.size) = some 8 := by kernel_rfl
def z64 : List Int := List.replicate 64 0
/-- Word t of 64 bytes. -/
def wrd (b : List Int) (t : Nat) : Int := Go.bits .or .u32 (Go.bits .or .u32 (Go.bits .or .u32 (IntKind.u32.wrap (IntKind.u32.wrap (rd b (4 * t)) * 16777216)) (IntKind.u32.wrap (IntKind.u32.wrap (rd b (4 * t + 1)) * 65536))) (IntKind.u32.wrap (IntKind.u32.wrap (rd b (4 * t + 2)) * 256))) (IntKind.u32.wrap (rd b (4 * t + 3)))
def sig0 (x : Int) : Int := Go.bits .xor .u32 (Go.bits .xor .u32 (rot x 7) (rot x 18)) (x / 8)
def sig1 (x : Int) : Int := Go.bits .xor .u32 (Go.bits .xor .u32 (rot x 17) (rot x 19)) (x / 1024)
/-- Word t of those behind the first 16. -/
def more (t : Nat) (L : List Int) : List Int := L.set t ((sig1 (rd L ((t - 2 : Nat) : Int)) + rd L ((t - 7 : Nat) : Int) + sig0 (rd L ((t - 15 : Nat) : Int)) + rd L ((t - 16 : Nat) : Int)) % 4294967296)
/-- The 64 words. -/
def mores (n : Nat) (L : List Int) : List Int := iter (fun i => more (16 + i)) n L
/-- One round over eight words. -/
def one_ (V : List Int) (k w : Int) : Int := (rd V 7 + Go.bits .xor .u32 (Go.bits .xor .u32 (rot (rd V 4) 6) (rot (rd V 4) 11)) (rot (rd V 4) 25) + Go.bits .xor .u32 (Go.bits .and .u32 (rd V 4) (rd V 5)) (Go.bits .and .u32 (Go.bits .xor .u32 IntKind.u32.max (rd V 4)) (rd V 6)) + k + w) % 4294967296
def two_ (V : List Int) : Int := (Go.bits .xor .u32 (Go.bits .xor .u32 (rot (rd V 0) 2) (rot (rd V 0) 13)) (rot (rd V 0) 22) + Go.bits .xor .u32 (Go.bits .xor .u32 (Go.bits .and .u32 (rd V 0) (rd V 1)) (Go.bits .and .u32 (rd V 0) (rd V 2))) (Go.bits .and .u32 (rd V 1) (rd V 2))) % 4294967296
def round_ (V : List Int) (k w : Int) : List Int := [(one_ V k w + two_ V) % 4294967296, rd V 0, rd V 1, rd V 2, (rd V 3 + one_ V k w) % 4294967296, rd V 4, rd V 5, rd V 6]
def rounds_ (K L : List Int) (n : Nat) (V : List Int) : List Int := iter (fun i V => round_ V (rd K i) (rd L i)) n V
theorem rounds_len (K L : List Int) (n : Nat) (V : List Int) (h : V.length = 8) : (rounds_ K L n V).length = 8 := by
  cases n with
  | zero => exact h
  | succ n => rfl
/-- The numbers behind 64 bytes. -/
def block_ (K H b : List Int) : List Int := fill (fun i => (rd H i + rd (rounds_ K (mores 48 (fill (wrd b) 16 z64)) 64 (wds H)) i) % 4294967296) 8 z8
theorem w32 (x : Int) : wrap64 (x % 4294967296) = x % 4294967296 := by unfold wrap64; omega
theorem more_len (n : Nat) (L : List Int) : (mores n L).length = L.length := by
  induction n with
  | zero => rfl
  | succ n ih => rw [← ih]; exact List.length_set
/-! ### A region that draws its order, whose operations make memory: what holds of what has been carried out -/
section
variable {P : Program} {ops : Array Oper} {md : Region.Mode}
/-- How many of the first n are not listed. -/
def unl (listed : Array Bool) : Nat → Nat
  | 0 => 0
  | k + 1 => unl listed k + if listed.getD k false then 0 else 1
theorem unl_far (listed : Array Bool) (i : Nat) : ∀ k, k ≤ i → unl (listed.setIfInBounds i true) k = unl listed k
  | 0, _ => rfl
  | k + 1, h => by
    unfold unl
    rw [unl_far listed i k (by omega), getD_set_ne false (by omega)]
theorem unl_set (listed : Array Bool) (i : Nat) (hs : i < listed.size) (hi : listed.getD i false = false) : ∀ k, i < k → unl (listed.setIfInBounds i true) k + 1 = unl listed k
  | 0, h => absurd h (by omega)
  | k + 1, h => by
    unfold unl
    by_cases hik : i = k
    · subst hik
      rw [unl_far listed i i (Nat.le_refl _), hi]
      have : (listed.setIfInBounds i true).getD i false = true := by simp [hs]
      rw [this]
      simp
    · rw [getD_set_ne false hik, ← unl_set listed i hs hi k (by omega)]
      omega
theorem unl_zero (listed : Array Bool) : ∀ k, unl listed k = 0 → ∀ i, i < k → listed.getD i false = true
  | 0, _, i, h => absurd h (by omega)
  | k + 1, h, i, hi => by
    unfold unl at h
    by_cases hik : i = k
    · subst hik
      cases hl : listed.getD i false with
      | true => rfl
      | false => rw [hl] at h; simp at h
    · exact unl_zero listed k (by omega) i (by omega)
theorem unl_pos (listed : Array Bool) : ∀ k, unl listed k ≠ 0 → ∃ i, i < k ∧ listed.getD i false = false ∧ ∀ j, j < i → listed.getD j false = true
  | 0, h => absurd rfl h
  | k + 1, h => by
    by_cases h0 : unl listed k = 0
    · refine ⟨k, by omega, ?_, unl_zero listed k h0⟩
      unfold unl at h
      rw [h0] at h
      cases hl : listed.getD k false with
      | true => rw [hl] at h; simp at h
      | false => rfl
    · obtain ⟨i, hi, h1, h2⟩ := unl_pos listed k h0
      exact ⟨i, by omega, h1, h2⟩
/-- Every edge points back. -/
def Region.downB (md : Region.Mode) (ops : Array Oper) : Bool :=
  (List.range ops.size).all fun j => match ops[j]? with
    | some o => o.after.all fun e => !Region.binds md e || decide (e.on < j)
    | none => true
def Region.stableB (md : Region.Mode) (ops : Array Oper) (n : Nat) : Bool :=
  decide (n < ops.size) && Region.sinkB md ops n && Region.chainB md ops n && Region.downB md ops && Region.seqB md ops (ops.size - n) n (Array.replicate n true ++ Array.replicate (ops.size - n) false)
theorem wpAny_stable {Q : Exit → Act → World → Prop} (n : Nat) (hB : Region.stableB md ops n = true) (l : List Oper) (hl : ops = l.toArray) (J : Array Bool → Act → World → Prop)
    (hstep : ∀ listed a w, HeadInv md ops n listed → J listed a w → ∀ i, i < n → i ∈ Region.ready md ops listed → wpOp P ops Q i (fun a' w' => J (listed.setIfInBounds i true) a' w') a w)
    (hend : ∀ listed a w, J listed a w → (∀ i, i < n → listed.getD i false = true) → wpList P ops Q (l.drop n) a w) :
    ∀ (f : Nat) (listed : Array Bool) (a : Act) (w : World), unl listed n = f → HeadInv md ops n listed → J listed a w → wpAny P md ops Q (f + (ops.size - n)) listed a w := by
  simp only [Region.stableB, Bool.and_eq_true, decide_eq_true_eq] at hB
  obtain ⟨⟨⟨⟨hn, hs⟩, hc⟩, hd⟩, hq⟩ := hB
  intro f
  induction f with
  | zero =>
    intro listed a w hf inv hJ
    have hall := unl_zero listed n hf
    have he : listed = Array.replicate n true ++ Array.replicate (ops.size - n) false := by
      apply Array.ext
      · rw [inv.size]; simp; omega
      · intro j h1 h2
        by_cases hj : j < n
        · have h3 := hall j hj
          rw [Array.getElem_append_left (by simpa using hj)]
          simp [h1] at h3
          simp [h3]
        · have h3 := inv.tail j (by omega) (by rw [← inv.size]; exact h1)
          rw [Array.getElem_append_right (by simpa using hj)]
          simp [h1] at h3
          simp [h3]
    have hlen : (l.drop n).length = ops.size - n := by rw [hl]; simp
    rw [Nat.zero_add, ← hlen]
    exact wpAny_of_seq (l.drop n) n listed a w (fun j => by rw [hl]; simp [List.getElem?_drop]) (by rw [hlen, he]; exact hq) (hend listed a w hJ hall)
  | succ f ih =>
    intro listed a w hf inv hJ
    obtain ⟨i, hin, hi, hlow⟩ := unl_pos listed n (by rw [hf]; omega)
    have hir : i ∈ Region.ready md ops listed := by
      refine mem_ready.2 ⟨getD_in (by rw [inv.size]; omega) hi, ops[i]'(by omega), Array.getElem?_eq_getElem (by omega), fun e he hb => hlow _ ?_⟩
      have h1 := List.all_eq_true.1 hd i (List.mem_range.2 (by omega))
      rw [Array.getElem?_eq_getElem (by omega)] at h1
      have h2 := Array.all_eq_true_iff_forall_mem.1 h1 e he
      simpa [hb] using h2
    rw [show f + 1 + (ops.size - n) = (f + (ops.size - n)) + 1 by omega]
    refine ⟨fun h0 => (by rw [h0] at hir; cases hir), fun j hj => ?_⟩
    have hjn : j < n := by
      rcases Nat.lt_or_ge j n with h | h
      · exact h
      · exact absurd hj (tail_waits hs hc hn inv _ i rfl hin (getD_in (by rw [inv.size]; omega) hi) j h)
    have hjun := (mem_ready.1 hj).1
    refine wpOp_mono (fun a' w' h' => ih _ a' w' ?_ (inv.set hj hjn) h') (hstep listed a w inv hJ j hjn hj)
    have := unl_set listed j (by rw [inv.size]; omega) (getD_both hjun) n hjn
    omega
theorem wp_region_stable {id : Nat} {Q : Exit → Act → World → Prop} {a : Act} {w : World} {l : List Oper} (n : Nat) (hm : P.follows .mixedOrders = true) (hB : Region.stableB .any l.toArray n = true) (J : Array Bool → Act → World → Prop)
    (h0 : J (Array.replicate l.toArray.size false) a w.drew)
    (hstep : ∀ listed a w, HeadInv .any l.toArray n listed → J listed a w → ∀ i, i < n → i ∈ Region.ready .any l.toArray listed → wpOp P l.toArray Q i (fun a' w' => J (listed.setIfInBounds i true) a' w') a w)
    (hend : ∀ listed a w, J listed a w → (∀ i, i < n → listed.getD i false = true) → wpList P l.toArray Q (l.drop n) a w) : (Code.region id l.toArray true).wp P Q a w := by
  refine wp_region_any hm ?_
  have hn : n < l.toArray.size := by
    simp only [Region.stableB, Bool.and_eq_true, decide_eq_true_eq] at hB
    exact hB.1.1.1.1
  have inv0 : HeadInv .any l.toArray n (Array.replicate l.toArray.size false) :=
    ⟨by simp, fun j oj _ hl => (by rw [getD_replicate_false] at hl; cases hl), fun t _ ht => getD_in (by simpa using ht) (getD_replicate_false _ _)⟩
  have hu : ∀ k, unl (Array.replicate l.toArray.size false) k = k := by
    intro k
    induction k with
    | zero => rfl
    | succ k ih => unfold unl; rw [ih, getD_replicate_false]; rfl
  have := wpAny_stable (P := P) (Q := Q) n hB l rfl J hstep hend n _ a w.drew (hu n) inv0 h0
  rwa [show n + (l.toArray.size - n) = l.toArray.size by omega] at this
/-- One operation that only gives a value. -/
theorem op_val {Q : Exit → Act → World → Prop} {i : Nat} {o : Oper} {K : Act → World → Prop} {a : Act} {w w' : World} {v : Value} (hi : ops[i]? = some o) (hg : o.guard = none) (hr : (execOp a.eval o).run P w = .ok (.value v) w') (h : K (a.put o.dst v) w') : wpOp P ops Q i K a w := by
  unfold wpOp
  rw [hi]
  have hw : Region.wanted o (yielded ops a.tmps) = true := by unfold Region.wanted; rw [hg]
  show if Region.wanted o (yielded ops a.tmps) = true then _ else _
  rw [if_pos hw]
  refine .inl ?_
  unfold Oper.wp
  rw [hr]
  exact h
/-- A call. -/
theorem op_call {Q : Exit → Act → World → Prop} {i : Nat} {o : Oper} {K : Act → World → Prop} {a : Act} {w : World} (hi : ops[i]? = some o) (hg : o.guard = none) {f : FuncId} {fn : Func} {us : Array Operand} {ts : Array TypeId}
    (hf : P.funcs[f]? = some fn) (hname : (fn.name == "runtime.NumGoroutine") = false) (hb : fn.body.isSome = true) (args : Array Value)
    (hop : o.op = .call { callee := .value (.func f), args := us, argTypes := ts }) (hargs : us.map a.eval = args)
    (h : Calls P f args w fun e w' => ∃ v, e = .returned v ∧ K (a.put o.dst v) w') : wpOp P ops Q i K a w := by
  unfold wpOp
  rw [hi]
  have hw : Region.wanted o (yielded ops a.tmps) = true := by unfold Region.wanted; rw [hg]
  show if Region.wanted o (yielded ops a.tmps) = true then _ else _
  rw [if_pos hw]
  refine .inl ?_
  have he := enters_ hf hname hb args w
  have hrun : (execOp a.eval o).run P w = .ok (.enter f args) w := by
    unfold execOp
    simp [hop, resolve, Act.eval, Deferred.ofValue, invoke, hargs, he]
  unfold Oper.wp
  rw [hrun, Oper.upon_enter]
  refine h.mono fun e w'' hh => ?_
  obtain ⟨v, rfl, hk⟩ := hh
  exact hk
end
/-- A whole array is read. -/
theorem op_load {P : Program} {ops : Array Oper} {Q : Exit → Act → World → Prop} {i : Nat} {o : Oper} {K : Act → World → Prop} {a : Act} {w : World} (hi : ops[i]? = some o) (hg : o.guard = none) (ty : TypeId) (x : Operand) (ho : o.op = .load ty x)
    {g : Nat} {cs : Array Value} {t : TypeId} (hx : a.eval x = .pointer (some ⟨g, 0, none⟩)) (hb : w.heap[g]? = some (.cells cs t (0, 0))) {d : TypeDesc} (hu : P.underlying ty = some d) (hd : (match d with | .struct _ | .array _ _ => true | _ => false) = true) (hs : (P.info? ty).map (·.size) = some cs.size)
    (h : K (a.put o.dst (.agg cs)) w) : wpOp P ops Q i K a w := by
  refine op_val hi hg (v := .agg cs) (w' := w) ?_ h
  unfold execOp
  simp only [ho, hx, Instr.loadAt, Instr.sureAddr, Sem.run_bind, Sem.run_pure, Result.andThen_ok, run_loadVar_row w g t ty cs (0, 0) d hb hu hd hs]
/-- A stream's cells. -/
def SV (H : List Int) (v : Value) (m : Int) : Array Value := ⟨H.map (Value.int .i64) ++ [v, .int .i64 m]⟩
theorem SV_size (H : List Int) (v : Value) (m : Int) (h : H.length = 8) : (SV H v m).size = 10 := by
  show (H.map _ ++ _).length = 10
  simp [h]
theorem size28 : (Try.prog.info? 28).map (·.size) = some 10 := by kernel_rfl
theorem info_S (H : List Int) (v : Value) (m : Int) (h : H.length = 8) : (Try.prog.info? 28).map (·.size) = some (SV H v m).size := by rw [size28, SV_size H v m h]
theorem SV_one (H : List Int) (v : Value) (m : Int) (hv : v.oneCell' = true) : (SV H v m).all (·.oneCell') = true := by
  rw [Array.all_eq_true_iff_forall_mem]
  intro x hx
  simp only [SV, List.mem_toArray, List.mem_append, List.mem_map, List.mem_cons, List.not_mem_nil, or_false] at hx
  rcases hx with ⟨a, _, rfl⟩ | rfl | rfl
  · rfl
  · exact hv
  · rfl
theorem SV_rest (H : List Int) (v : Value) (m : Int) (h : H.length = 8) : (SV H v m)[8]? = some v := by
  unfold SV
  rw [List.getElem?_toArray, List.getElem?_append_right (by simp [h])]
  simp [h]
theorem SV_many (H : List Int) (v : Value) (m : Int) (h : H.length = 8) : (SV H v m)[9]? = some (.int .i64 m) := by
  unfold SV
  rw [List.getElem?_toArray, List.getElem?_append_right (by simp [h])]
  simp [h]
theorem SV_at (H : List Int) (v : Value) (m : Int) (i : Nat) (h : i < H.length) : (SV H v m)[i]? = some (.int .i64 (rd H i)) := by
  unfold SV rd
  rw [List.getElem?_toArray, List.getElem?_append_left (by simp [h]), List.getElem?_map, List.getElem?_eq_getElem h]
  simp [List.getD, List.getElem?_eq_getElem h]
theorem SV_set (H : List Int) (v : Value) (m : Int) (i : Nat) (x : Int) (h : i < H.length) : (SV H v m).setIfInBounds i (.int .i64 x) = SV (H.set i x) v m := by
  unfold SV
  rw [List.setIfInBounds_toArray, List.set_append_left _ _ (by simp [h]), List.map_set]
/-- What holds of what has been carried out of a region that draws. -/
def StI (fact : Nat → Value → World → Prop) (n : Nat) (listed : Array Bool) (V : Nat → Value) (W : World) : Prop := ∀ j, j < n → listed.getD j false = true → fact j (V j) W
theorem StI.step {fact : Nat → Value → World → Prop} {n : Nat} {listed : Array Bool} {V : Nat → Value} {W W' : World} (h : StI fact n listed V W) (hst : ∀ j v, fact j v W → fact j v W') (i : Nat) (v : Value) (hf : fact i v W') :
    StI fact n (listed.setIfInBounds i true) (fun j => if j = i then v else V j) W' := by
  intro j hj hl
  by_cases hji : j = i
  · subst hji
    simpa using hf
  · rw [getD_set_ne false (fun e => hji e.symm)] at hl
    simpa [hji] using hst j _ (h j hj hl)
theorem dep_of {md : Region.Mode} {ops : Array Oper} {listed : Array Bool} {i j : Nat} (hr : i ∈ Region.ready md ops listed) (hw : Region.waitsFor md ops i j = true) : listed.getD j false = true := by
  obtain ⟨_, o, ho, hall⟩ := mem_ready.1 hr
  obtain ⟨o', ho', e, he, hb, hon⟩ := Region.waitsFor_spec hw
  have : o' = o := Option.some.inj (ho'.symm.trans ho)
  subst this
  rw [← hon]
  exact hall e he hb
/-! ### Bytes that are read, in a block of bytes -/
def RdB (W : World) (A : Option Addr) (l : List Int) : Prop := Kd.C (Kd.int .u8) W A l.length l ∧ ∀ ad, A = some ad → 0 < l.length → ∃ cs, W.heap[ad.block]? = some (.cells cs 5 (0, 0))
theorem RdB.below {W W' : World} {A : Option Addr} {l : List Int} (h : RdB W A l) (hb : Below W.heap.size W W') : RdB W' A l := ⟨Kd.C_below h.1 hb, fun ad e hl => by obtain ⟨cs, hc⟩ := h.2 ad e hl; exact ⟨cs, blk_below hc hb⟩⟩
theorem RdB.keep {W W' : World} {A : Option Addr} {l : List Int} (h : RdB W A l) {g : Nat} {cs : Array Value} {t : TypeId} (hg : W.heap[g]? = some (.cells cs t (0, 0))) (ht : t ≠ 5) (hs : W.heap.size ≤ W'.heap.size) (hk : ∀ k, k ≠ g → W'.heap[k]? = W.heap[k]?) : RdB W' A l := by
  have hne : ∀ ad, A = some ad → 0 < l.length → ad.block ≠ g := fun ad e hl he => by
    obtain ⟨cs', hc⟩ := h.2 ad e hl
    rw [he, hg] at hc
    injection hc with hc
    injection hc with _ hc _
    exact ht hc
  refine ⟨Kd.C_keep (0 : Int) h.1 ⟨hs, fun i hi hig _ => hk i hig⟩ hne, fun ad e hl => ?_⟩
  obtain ⟨cs', hc⟩ := h.2 ad e hl
  exact ⟨cs', (hk _ (hne ad e hl)).trans hc⟩
theorem RdB.row {W : World} {A : Option Addr} {l : List Int} (h : RdB W A l) {g : Nat} {cs : Array Value} {t : TypeId} (hg : W.heap[g]? = some (.cells cs t (0, 0))) (ht : t ≠ 5) (ds : Array Value) : RdB (W.setRow g ds) A l :=
  h.keep hg ht (by simp) (fun k hk => setRow_other W g k ds hk)
theorem RdB.put {W : World} {A : Option Addr} {l : List Int} (h : RdB W A l) {g : Nat} {cs : Array Value} {t : TypeId} (hg : W.heap[g]? = some (.cells cs t (0, 0))) (ht : t ≠ 5) (j : Nat) (v : Value) : RdB (W.setCell ⟨g, j, none⟩ v) A l :=
  h.keep hg ht (by simp [World.setCell]) (fun k hk => heap_setCell_other W ⟨g, j, none⟩ k v hk)
theorem RdB.of_R {W : World} {A : Option Addr} {n c base : Nat} {ok : Nat → Prop} {l : List Int} (h : (Kd.int .u8).R 5 W base ok (.slice A n c) l) : RdB W A l := by
  refine ⟨(Kd.R_reads' h).2.2, fun ad e _ => ?_⟩
  obtain ⟨_, _, _, q, hq, cs, hc⟩ := (Kd.R_bound h).1 ad.block (by rw [e]; rfl)
  have : q = 5 := by
    have h2 : q ∈ [5] := hq
    simpa using h2
  subst this
  exact ⟨cs, hc⟩
theorem RdB.drop {A : Option Addr} {c : Nat} {l : List Int} (m : Nat) (hm : m ≤ l.length) (hc : l.length ≤ c) : ∃ A', (∀ W : World, (Instr.slice 23 (.slice A l.length c) (some (.int .i64 (m : Int))) none none).run Try.prog W = .ok (.slice A' (l.drop m).length (c - m)) W) ∧
    (∀ W, RdB W A l → RdB W A' (l.drop m)) ∧ (l.drop m).length ≤ c - m := by
  have hl : (l.drop m).length = l.length - m := List.length_drop
  have hel : Try.prog.elem 23 = 5 := by simp [Program.elem, Try.underlying23]
  have hu : Try.prog.underlying 23 = some (.slice (Try.prog.elem 23)) := by rw [hel]; exact Try.underlying23
  obtain ⟨i, hi, hz, hsz, hby⟩ := info_parts info5
  refine ⟨if c = m then A else A.map (·.add m), fun W => ?_, fun W h => ?_, by rw [hl]; omega⟩
  · rw [run_slice_l W 23 A l.length c hu .i64 (m : Int) (Int.natCast_nonneg _) (by omega), hel, hl]
    simp [sizeOf, typeInfo, hi, hsz, sliced, Result.andThen]
  · have h1 := Kd.C_drop (m := m) (c := c) h.1 hm hc
    have e1 : m * (Kd.int .u8).sz = m := Nat.mul_one m
    rw [e1] at h1
    refine ⟨h1, fun ad e hp => ?_⟩
    have hp2 : 0 < l.length := by rw [hl] at hp; omega
    by_cases hcm : c = m
    · rw [if_pos hcm] at e
      exact h.2 ad e hp2
    · rw [if_neg hcm] at e
      cases A with
      | none => cases e
      | some ad0 =>
        obtain ⟨cs, hcs⟩ := h.2 ad0 rfl hp2
        have : ad = ad0.add m := by simpa using e.symm
        rw [this, add_block]
        exact ⟨cs, hcs⟩
theorem RdB.take {W : World} {A : Option Addr} {l : List Int} (h : RdB W A l) (m : Nat) (hm : m ≤ l.length) : RdB W A (l.take m) :=
  ⟨Kd.C_take h.1 hm, fun ad e hp => h.2 ad e (by rw [List.length_take] at hp; omega)⟩
/-- A block that there is, among the call's own. -/
theorem Arrs.add {w0 W : World} {xs : List (Nat × Array Value × TypeId)} {g : Nat} {cs : Array Value} {t : TypeId} (h : Arrs w0 W xs) (hb : W.heap[g]? = some (.cells cs t (0, 0))) (hg : w0.heap.size ≤ g) (ht : ∀ x, x ∈ xs → x.2.2 ≠ t) : Arrs w0 W ((g, cs, t) :: xs) := by
  have hne : ∀ (i : Nat) (g1 : Nat) (c1 : Array Value) (t1 : TypeId), xs[i]? = some (g1, c1, t1) → g ≠ g1 := by
    rintro i g1 c1 t1 e rfl
    have h1 := h.get i e
    rw [hb] at h1
    injection h1 with h1
    injection h1 with _ h1 _
    exact ht _ (List.mem_of_getElem? e) h1.symm
  refine ⟨h.1, fun i g1 c1 t1 e => ?_, fun i j g1 g2 c1 c2 t1 t2 e1 e2 hij => ?_⟩
  · cases i with
    | zero =>
      simp only [List.getElem?_cons_zero, Option.some.injEq, Prod.mk.injEq] at e
      obtain ⟨rfl, rfl, rfl⟩ := e
      exact ⟨hg, hb⟩
    | succ i =>
      rw [List.getElem?_cons_succ] at e
      exact h.2.1 i g1 c1 t1 e
  · cases i with
    | zero =>
      cases j with
      | zero => exact absurd rfl hij
      | succ j =>
        simp only [List.getElem?_cons_zero, Option.some.injEq, Prod.mk.injEq] at e1
        obtain ⟨rfl, _, _⟩ := e1
        rw [List.getElem?_cons_succ] at e2
        exact hne j _ _ _ e2
    | succ i =>
      rw [List.getElem?_cons_succ] at e1
      cases j with
      | zero =>
        simp only [List.getElem?_cons_zero, Option.some.injEq, Prod.mk.injEq] at e2
        obtain ⟨rfl, _, _⟩ := e2
        exact (hne i _ _ _ e1).symm
      | succ j =>
        rw [List.getElem?_cons_succ] at e2
        exact h.2.2 i j g1 g2 c1 c2 t1 t2 e1 e2 (by omega)
section
variable {P : Program} {ops : Array Oper} {rest : List Oper} {o : Oper} {a : Act} {Q : Exit → Act → World → Prop} {W w0 : World}
theorem box_arrs2 (hgd : o.guard = none) {N : Tmp} (_hd : o.dst = some N) (cs : Array Value) (t : TypeId) {xs : List (Nat × Array Value × TypeId)} (HS : Aside0 (Arrs w0 W xs))
    (hrun : (execOp a.eval o).run P W = .ok (.value (.pointer (some ⟨W.heap.size, 0, none⟩))) (W.alloc (.cells cs t (0, 0))))
    (h : ∀ g w1, Aside0 (Arrs w0 w1 ((g, cs, t) :: xs)) → Below W.heap.size W w1 → wpList P ops Q rest (a.put o.dst (.pointer (some ⟨g, 0, none⟩))) w1) : wpList P ops Q (o :: rest) a W :=
  Kd.event_run hgd hrun (h _ _ ⟨HS.out.alloc rfl⟩ (below_alloc (Below.refl _ _) _))
theorem store_arrs2 (hgd : o.guard = none) (ty : TypeId) {p : Tmp} (y : Operand) (ho : o.op = .store ty (.tmp p) y) (hN : o.dst = none) (i : Nat) {xs : List (Nat × Array Value × TypeId)} {g : Nat} {old : Array Value} (cs : Array Value) {t : TypeId} (HS : Aside0 (Arrs w0 W xs)) (e : xs[i]? = some (g, old, t))
    (hx : a.eval (.tmp p) = .pointer (some ⟨g, 0, none⟩)) (hy : a.eval y = .agg cs) (hi : (P.info? ty).map (·.size) = some cs.size) (hold : old.size = cs.size) (h1 : cs.all (·.oneCell') = true) (ht : t ≠ 5)
    (h : ∀ w1, Aside0 (Arrs w0 w1 (xs.set i (g, cs, t))) → (∀ A l, RdB W A l → RdB w1 A l) → wpList P ops Q rest a w1) : wpList P ops Q (o :: rest) a W := by
  refine wpList_store_row hgd ty (.tmp p) y ho g cs hx hy t old (HS.out.get i e) hi hold h1 ?_
  rw [hN]
  exact h _ ⟨HS.out.row i cs e⟩ (fun A l hr => hr.row (HS.out.get i e) ht cs)
end
section
variable {P : Program} {ops : Array Oper} {rest : List Oper} {o : Oper} {a : Act} {Q : Exit → Act → World → Prop} {W : World}
/-- A literal row of bytes. -/
theorem lit_event (hgd : o.guard = none) {N : Tmp} (hd : o.dst = some N) (xs : List Int) (hm : xs.length ≤ 1000)
    (hrun : (execOp a.eval o).run P W = .ok (.value (.slice (some ⟨W.heap.size, 0, none⟩) xs.length xs.length)) (W.alloc (.cells (U .u8 xs) 5)))
    (h : ∀ (A : Option Addr) (c : Nat) (w1 : World), (Kd.int .u8).R 5 w1 W.heap.size (fun _ => True) (.slice A xs.length c) xs → Below W.heap.size W w1 → wpList P ops Q rest (a.put o.dst (.slice A xs.length c)) w1) : wpList P ops Q (o :: rest) a W := by
  refine Kd.R_lit (Kd.int .u8) (w0 := W) W.heap.size 5 hgd hd (xs := xs) (inner := xs.map (Value.int .u8)) (ok := fun _ => True) (okp := fun _ => True) hrun (Kd.reps_scalar (enc := Value.int .u8) xs) (fun _ hk => hk) trivial (Below.refl _ _) (Nat.le_refl _) (by omega) ?_
  intro v1 w1 ho hb _ _
  obtain ⟨A, c, rfl⟩ := Kd.R_slice ho
  exact h A c w1 ho hb
end
theorem field_SV (H : List Int) (h : H.length = 8) (v : Value) (m : Int) (w : World) : (Instr.field 28 (.agg (SV H v m)) 0).run Try.prog w = .ok (.agg (U .i64 H)) w := by
  match H, h with
  | [h0, h1, h2, h3, h4, h5, h6, h7], _ => rfl
theorem index79 (h : List Int) (hh : h.length = 8) (i : Nat) (hi : i < 8) (w : World) : (Instr.index 79 (.agg (U .u32 h)) (.int .i64 i)).run Try.prog w = .ok (.int .u32 (rd h i)) w := by
  match h, hh with
  | [h0, h1, h2, h3, h4, h5, h6, h7], _ =>
    have : i = 0 ∨ i = 1 ∨ i = 2 ∨ i = 3 ∨ i = 4 ∨ i = 5 ∨ i = 6 ∨ i = 7 := by omega
    rcases this with e | e | e | e | e | e | e | e <;> (clear hi; subst e; rfl)
theorem index22 (h : List Int) (hh : h.length = 8) (i : Nat) (hi : i < 8) (w : World) : (Instr.index 22 (.agg (U .i64 h)) (.int .i64 i)).run Try.prog w = .ok (.int .i64 (rd h i)) w := by
  match h, hh with
  | [h0, h1, h2, h3, h4, h5, h6, h7], _ =>
    have : i = 0 ∨ i = 1 ∨ i = 2 ∨ i = 3 ∨ i = 4 ∨ i = 5 ∨ i = 6 ∨ i = 7 := by omega
    rcases this with e | e | e | e | e | e | e | e <;> (clear hi; subst e; rfl)
/-- A row of bytes is none of the blocks of another type. -/
theorem R_not {W : World} {base g : Nat} {ok : Nat → Prop} {v : Value} {xs : List Int} {cs : Array Value} {t : TypeId} (h : (Kd.int .u8).R 5 W base ok v xs) (hg : W.heap[g]? = some (.cells cs t (0, 0))) (ht : t ≠ 5) : (Kd.int .u8).R 5 W base (fun k => ok k ∧ k ≠ g) v xs := by
  refine Kd.R_mono (Kd.R_bound h) (fun k hk => ⟨hk.1, ?_⟩)
  rintro rfl
  obtain ⟨q, hq, cells, hc⟩ := hk.2.2.2
  have hq5 : q ∈ [5] := hq
  rw [hg] at hc
  injection hc with hc
  injection hc with _ hc _
  have : q = 5 := by simpa using hq5
  exact ht (hc.trans this)
def outB (H : List Int) (k : Nat) : List Int := [rd H k / 16777216 % 256, rd H k / 65536 % 256, rd H k / 256 % 256, rd H k % 256]
def outN (H : List Int) (n : Nat) : List Int := iter (fun k l => l ++ outB H k) n []
theorem outN_len (H : List Int) (n : Nat) : (outN H n).length = 4 * n := by
  induction n with
  | zero => rfl
  | succ n ih =>
    show (outN H n ++ outB H n).length = _
    rw [List.length_append, ih]
    show 4 * n + 4 = _
    omega
theorem SV_set8 (H : List Int) (h : H.length = 8) (v v' : Value) (m : Int) : (SV H v m).setIfInBounds 8 v' = SV H v' m := by
  match H, h with
  | [h0, h1, h2, h3, h4, h5, h6, h7], _ => rfl
theorem SV_set9 (H : List Int) (h : H.length = 8) (v : Value) (m m' : Int) : (SV H v m).setIfInBounds 9 (.int .i64 m') = SV H v m' := by
  match H, h with
  | [h0, h1, h2, h3, h4, h5, h6, h7], _ => rfl
theorem blk_SV {W : World} {g : Nat} {H : List Int} {v : Value} {m : Int} {t : TypeId} (h : W.heap[g]? = some (.cells (SV H v m) t (0, 0))) (i : Nat) (x : Int) (hi : i < H.length) : (W.setCell ⟨g, i, none⟩ (.int .i64 x)).heap[g]? = some (.cells (SV (H.set i x) v m) t (0, 0)) := by
  rw [blk_set h, SV_set H v m i x hi]
/-- A stream's numbers are written, all eight. -/
theorem Arrs.mid {w0 W : World} {xs : List (Nat × Array Value × TypeId)} {g : Nat} {H H' : List Int} {v : Value} {m : Int} {t : TypeId} (h : Arrs w0 W xs) (i : Nat) (hH : H.length = 8) (hH' : H'.length = 8) (e : xs[i]? = some (g, SV H v m, t) := by rfl) : Arrs w0 (W.setCells g 0 (U .i64 H').toList) (xs.set i (g, SV H' v m, t)) := by
  have hb := h.get i e
  have hg := h.ge i e
  match H, H', hH, hH' with
  | [h0, h1, h2, h3, h4, h5, h6, h7], [a0, a1, a2, a3, a4, a5, a6, a7], _, _ =>
    have es : W.setCells g 0 (U .i64 [a0, a1, a2, a3, a4, a5, a6, a7]).toList = (((((((W.setCell ⟨g, 0, none⟩ (.int .i64 a0)).setCell ⟨g, 1, none⟩ (.int .i64 a1)).setCell ⟨g, 2, none⟩ (.int .i64 a2)).setCell ⟨g, 3, none⟩ (.int .i64 a3)).setCell ⟨g, 4, none⟩ (.int .i64 a4)).setCell ⟨g, 5, none⟩ (.int .i64 a5)).setCell ⟨g, 6, none⟩ (.int .i64 a6)).setCell ⟨g, 7, none⟩ (.int .i64 a7) := rfl
    rw [es]
    refine h.turn i e (below_set (below_set (below_set (below_set (below_set (below_set (below_set (below_set h.1 hg) hg) hg) hg) hg) hg) hg) hg) ?_ (fun k hk => ?_)
    · exact blk_SV (blk_SV (blk_SV (blk_SV (blk_SV (blk_SV (blk_SV (blk_SV hb 0 a0 (by simp)) 1 a1 (by simp)) 2 a2 (by simp)) 3 a3 (by simp)) 4 a4 (by simp)) 5 a5 (by simp)) 6 a6 (by simp)) 7 a7 (by simp)
    · rw [heap_setCell_other _ _ k _ hk, heap_setCell_other _ _ k _ hk, heap_setCell_other _ _ k _ hk, heap_setCell_other _ _ k _ hk, heap_setCell_other _ _ k _ hk, heap_setCell_other _ _ k _ hk, heap_setCell_other _ _ k _ hk, heap_setCell_other _ _ k _ hk]
theorem SV_range {W : World} {g : Nat} {H : List Int} {v : Value} {m : Int} {t : TypeId} (hH : H.length = 8) (hb : W.heap[g]? = some (.cells (SV H v m) t (0, 0))) : W.rangeAt g 0 (U .i64 H).toList := by
  intro j u hj
  have hj8 : j < H.length := by
    have := (List.getElem?_eq_some_iff.1 hj).1
    simpa [U] using this
  have e1 : (U .i64 H)[j]? = some u := by simpa using hj
  rw [U_get _ _ _ hj8] at e1
  obtain rfl := Option.some.inj e1
  rw [Nat.zero_add]
  exact (blk_cell hb j).trans (SV_at H v m j hj8)
theorem SV_there {W : World} {g n : Nat} {H : List Int} {v : Value} {m : Int} {t : TypeId} (hH : H.length = 8) (hn : n = 8) (hb : W.heap[g]? = some (.cells (SV H v m) t (0, 0))) : W.there g 0 n := by
  intro j hj
  rw [Nat.zero_add]
  refine ⟨?_, blk_frozen hb j⟩
  rw [blk_cell hb j, SV_at H v m j (by omega)]
  rfl
theorem setCells_keep {W : World} {g : Nat} {H' : List Int} (hH' : H'.length = 8) : W.heap.size ≤ (W.setCells g 0 (U .i64 H').toList).heap.size ∧ ∀ k, k ≠ g → (W.setCells g 0 (U .i64 H').toList).heap[k]? = W.heap[k]? := by
  match H', hH' with
  | [a0, a1, a2, a3, a4, a5, a6, a7], _ =>
    have es : W.setCells g 0 (U .i64 [a0, a1, a2, a3, a4, a5, a6, a7]).toList = (((((((W.setCell ⟨g, 0, none⟩ (.int .i64 a0)).setCell ⟨g, 1, none⟩ (.int .i64 a1)).setCell ⟨g, 2, none⟩ (.int .i64 a2)).setCell ⟨g, 3, none⟩ (.int .i64 a3)).setCell ⟨g, 4, none⟩ (.int .i64 a4)).setCell ⟨g, 5, none⟩ (.int .i64 a5)).setCell ⟨g, 6, none⟩ (.int .i64 a6)).setCell ⟨g, 7, none⟩ (.int .i64 a7) := rfl
    rw [es]
    refine ⟨by simp [World.setCell], fun k hk => ?_⟩
    rw [heap_setCell_other _ _ k _ hk, heap_setCell_other _ _ k _ hk, heap_setCell_other _ _ k _ hk, heap_setCell_other _ _ k _ hk, heap_setCell_other _ _ k _ hk, heap_setCell_other _ _ k _ hk, heap_setCell_other _ _ k _ hk, heap_setCell_other _ _ k _ hk]
/-- Two blocks that are as they were, in a world that is told otherwise. -/
theorem Arrs.moved {w0 W W' : World} {g h : Nat} {cs ds : Array Value} {t u : TypeId} (k : Arrs w0 W [(g, cs, t), (h, ds, u)]) (hb : Below w0.heap.size w0 W') (hg : W'.heap[g]? = some (.cells cs t (0, 0))) (hh : W'.heap[h]? = some (.cells ds u (0, 0))) : Arrs w0 W' [(g, cs, t), (h, ds, u)] := by
  refine ⟨hb, fun i g1 c1 t1 e => ⟨k.ge i e, ?_⟩, k.2.2⟩
  match i, e with
  | 0, e =>
    simp only [List.getElem?_cons_zero, Option.some.injEq, Prod.mk.injEq] at e
    obtain ⟨rfl, rfl, rfl⟩ := e
    exact hg
  | 1, e =>
    simp only [List.getElem?_cons_zero, List.getElem?_cons_succ, Option.some.injEq, Prod.mk.injEq] at e
    obtain ⟨rfl, rfl, rfl⟩ := e
    exact hh
  | _ + 2, e => simp at e

section
variable {P : Program} {ops : Array Oper} {rest : List Oper} {o : Oper} {a : Act} {Q : Exit → Act → World → Prop} {W w0 : World}
/-- A slice is written into one cell. -/
theorem store_one (hgd : o.guard = none) (ty : TypeId) {p : Tmp} (y : Operand) (ho : o.op = .store ty (.tmp p) y) (hN : o.dst = none) (i : Nat) (j : Nat) (v : Value) {xs : List (Nat × Array Value × TypeId)} {g : Nat} {old : Array Value} {t : TypeId} (HS : Aside0 (Arrs w0 W xs)) (e : xs[i]? = some (g, old, t))
    (hx : a.eval (.tmp p) = .pointer (some ⟨g, j, none⟩)) (hy : a.eval y = v) {u : Value} (hold : old[j]? = some u) (h1 : v.oneCell' = true) (hv : ∃ A n c, v = .slice A n c)
    (hu : ∃ e, P.underlying ty = some (.slice e)) (hi : (P.info? ty).map (·.size) = some 1)
    (h : ∀ w1, Aside0 (Arrs w0 w1 (xs.set i (g, old.setIfInBounds j v, t))) → (∀ k, k ≠ g → w1.heap[k]? = W.heap[k]?) → wpList P ops Q rest a w1) : wpList P ops Q (o :: rest) a W := by
  have hc : W.cell? ⟨g, j, none⟩ = some u := (blk_cell (HS.out.get i e) j).trans hold
  have hf := HS.out.free i j e
  refine wpList_plain hgd fun K hK => ?_
  have hrun : (execOp a.eval o).run P W = .ok .skip (W.setCell ⟨g, j, none⟩ v) := by
    obtain ⟨A, n, c, rfl⟩ := hv
    obtain ⟨e1, he⟩ := hu
    unfold execOp
    simp only [ho, hx, hy]
    cases hq : P.info? ty with
    | none => simp [hq] at hi
    | some ii =>
      have hs : ii.size = 1 := by simpa [hq] using hi
      have hst := Go.Lib.rl_storeVar_one ty ii hq hs ⟨g, j, none⟩ (.slice A n c) u rfl W hc hf
      simp only [Instr.storeAt, Instr.sureAddr, Sem.run_bind, Sem.run_pure, Result.andThen_ok, hst]
  unfold Oper.wp
  rw [hrun]
  show K (a.put o.dst undef) _
  rw [hN]
  exact hK _ _ (h _ ⟨HS.out.put i j v e⟩ (fun k hk => heap_setCell_other W ⟨g, j, none⟩ k v hk))
end
theorem Arrs.put8 {w0 W : World} {xs : List (Nat × Array Value × TypeId)} {g : Nat} {H : List Int} {v : Value} {m : Int} {t : TypeId} (h : Arrs w0 W xs) (i : Nat) (v' : Value) (hH : H.length = 8) (e : xs[i]? = some (g, SV H v m, t) := by rfl) : Arrs w0 (W.setCell ⟨g, 8, none⟩ v') (xs.set i (g, SV H v' m, t)) := by
  have h1 := h.put i 8 v' e
  rw [SV_set8 H hH] at h1
  exact h1
/-- The first eight numbers of a stream are read. -/
theorem load_mid_U {P : Program} {ops : Array Oper} {rest : List Oper} {op : Oper} {a : Act} {w : World} {Q : Exit → Act → World → Prop} (hgd : op.guard = none) {N : Tmp} (_hd : op.dst = some N) (ty : TypeId) (x : Operand) (ho : op.op = .load ty x)
    {g : Nat} {H : List Int} {v : Value} {m : Int} {t : TypeId} (hx : a.eval x = .pointer (some ⟨g, 0, none⟩)) (hH : H.length = 8) (hb : w.heap[g]? = some (.cells (SV H v m) t (0, 0))) {d : TypeDesc}
    (hu : P.underlying ty = some d) (hd : d.isRow = true) (hi : (P.info? ty).map (·.size) = some 8) (h : wpList P ops Q rest (a.put op.dst (.agg (U .i64 H))) w) : wpList P ops Q (op :: rest) a w :=
  wpList_load_mid hgd ty x ho g 0 hx (U .i64 H).toList d (SV_range hH hb) hu hd (by rw [hi]; simp [U, hH]) h
end Go.Proofs.Ytiffbeoignoedaa.PFnExactStreamOk
