-- Written for this claim by a program of this session.
import Derived.Test.YtiffbeoignoedaaPFnExactShax0
import Derived.Test.YtiffbeoignoedaaPFnExactShax1
namespace Go.Proofs.Ytiffbeoignoedaa.PFnExactSha
open Go.RowKit Go.Proofs.YtiffbeoignoedaaW.PrintWords Go.Proofs.YtiffbeoignoedaaW.PrintLast Go.Proofs.YtiffbeoignoedaaW.PrintMore
attribute [local go_sem] max2_int min2_int max_two min_two max_three min_three max_four min_four   -- for this text's walks alone
set_option linter.unusedVariables false
set_option linter.unusedSimpArgs false

/-! ### SHA-256: the words that the walks by hand use -/
/-! ### Arrays of whole numbers in a block of their own -/
/-- The cells of an array of whole numbers. -/
def U (k : IntKind) (l : List Int) : Array Value := ⟨l.map (Value.int k)⟩
theorem U_set (k : IntKind) (l : List Int) (i : Nat) (v : Int) : (U k l).setIfInBounds i (.int k v) = U k (l.set i v) := by
  unfold U
  rw [List.setIfInBounds_toArray, List.map_set]
theorem U_size (k : IntKind) (l : List Int) : (U k l).size = l.length := by
  show (l.map _).length = _
  rw [List.length_map]
theorem U_get (k : IntKind) (l : List Int) (i : Nat) (h : i < l.length) : (U k l)[i]? = some (.int k (rd l i)) := by
  unfold U rd
  rw [List.getElem?_toArray, List.getElem?_map, List.getElem?_eq_getElem h]
  simp [List.getD, List.getElem?_eq_getElem h]
theorem cellU {w : World} {g : Nat} {t : TypeId} {k : IntKind} {l : List Int} (h : w.heap[g]? = some (.cells (U k l) t (0, 0))) (i : Nat) (hi : i < l.length) : w.cell? ⟨g, i, none⟩ = some (.int k (rd l i)) :=
  (blk_cell h i).trans (U_get k l i hi)
theorem setU {w : World} {g : Nat} {t : TypeId} {k : IntKind} {l : List Int} (h : w.heap[g]? = some (.cells (U k l) t (0, 0))) (i : Nat) (v : Int) : (w.setCell ⟨g, i, none⟩ (.int k v)).heap[g]? = some (.cells (U k (l.set i v)) t (0, 0)) := by
  rw [blk_set h, U_set]
/-- The steps F 0, F 1, .., F (n - 1), one behind the other. -/
def iter {α : Type} (F : Nat → α → α) : Nat → α → α
  | 0, x => x
  | n + 1, x => F n (iter F n x)
def fill (f : Nat → Int) : Nat → List Int → List Int := iter fun i l => l.set i (f i)
theorem fill_len (f : Nat → Int) (n : Nat) (l : List Int) : (fill f n l).length = l.length := by
  induction n with
  | zero => rfl
  | succ n ih => rw [← ih]; exact List.length_set
theorem ix_nat (i : Nat) : ((i : Int)).toNat = i := rfl
theorem U_one (k : IntKind) (l : List Int) : (U k l).all (·.oneCell') = true := by
  rw [Array.all_eq_true_iff_forall_mem]
  intro x hx
  simp only [U, List.mem_toArray, List.mem_map] at hx
  obtain ⟨a, _, rfl⟩ := hx
  rfl
theorem info_U {P : Program} {ty n : Nat} (k : IntKind) {l : List Int} (h : (P.info? ty).map (·.size) = some n) (hl : l.length = n) : (P.info? ty).map (·.size) = some (U k l).size := by rw [h, U_size, hl]
theorem setRow_blk {w : World} {g : Nat} {old : Array Value} {t : TypeId} {fr : Nat × Nat} (h : w.heap[g]? = some (.cells old t fr)) (cs : Array Value) : (w.setRow g cs).heap[g]? = some (.cells cs t fr) := setRow_heap w g old cs t fr h
theorem setRow_far {w : World} {g k : Nat} {o : Obj} (h : w.heap[k]? = some o) (hk : k ≠ g) (cs : Array Value) : (w.setRow g cs).heap[k]? = some o := by rw [setRow_other w g k cs hk, h]
theorem below_row {w W : World} {g : Nat} (h : Below w.heap.size w W) (hg : w.heap.size ≤ g) (cs : Array Value) : Below w.heap.size w (W.setRow g cs) := Go.below_setRow h hg cs
/-- Blocks of the call's own: each holds these cells; what there was ahead of the call is as it was. -/
def Arrs (w0 W : World) (xs : List (Nat × Array Value × TypeId)) : Prop :=
  Below w0.heap.size w0 W ∧ (∀ (i : Nat) (g : Nat) (cs : Array Value) (t : TypeId), xs[i]? = some (g, cs, t) → w0.heap.size ≤ g ∧ W.heap[g]? = some (.cells cs t (0, 0))) ∧ (∀ (i j : Nat) (g h : Nat) (cs ds : Array Value) (t u : TypeId), xs[i]? = some (g, cs, t) → xs[j]? = some (h, ds, u) → i ≠ j → g ≠ h)
theorem Arrs.refl (w : World) : Arrs w w [] := ⟨Below.refl _ _, fun i g cs t h => by simp at h, fun i j g h cs ds t u e => by simp at e⟩
section
variable {w0 W : World} {xs : List (Nat × Array Value × TypeId)} {g : Nat} {cs : Array Value} {t : TypeId}
theorem Arrs.get (h : Arrs w0 W xs) (i : Nat) (e : xs[i]? = some (g, cs, t) := by rfl) : W.heap[g]? = some (.cells cs t (0, 0)) := (h.2.1 i g cs t e).2
theorem Arrs.ge (h : Arrs w0 W xs) (i : Nat) (e : xs[i]? = some (g, cs, t) := by rfl) : w0.heap.size ≤ g := (h.2.1 i g cs t e).1
theorem Arrs.lt (h : Arrs w0 W xs) (i : Nat) (e : xs[i]? = some (g, cs, t) := by rfl) : g < W.heap.size := blk_lt (h.get i e)
/-- What only makes memory, or draws. -/
theorem Arrs.below {W' : World} (h : Arrs w0 W xs) (hb : Below W.heap.size W W') : Arrs w0 W' xs :=
  ⟨below_step h.1 hb, fun i g cs t e => ⟨h.ge i e, blk_below (h.get i e) hb⟩, h.2.2⟩
theorem Arrs.drewN (h : Arrs w0 W xs) (n : Nat) : Arrs w0 (W.drewN n) xs := h.below (pw_below_drewN (Below.refl _ _) n)
theorem Arrs.drew1 (h : Arrs w0 W xs) : Arrs w0 W.drew xs := h.below (below_drew1 (Below.refl _ _))
/-- A block that was made. -/
theorem Arrs.made {W' : World} (h : Arrs w0 W xs) (hg : g = W.heap.size) (hb : Below W.heap.size W W') (hn : W'.heap[g]? = some (.cells cs t (0, 0))) : Arrs w0 W' ((g, cs, t) :: xs) := by
  refine ⟨below_step h.1 hb, fun i g1 cs1 t1 e => ?_, fun i j g1 g2 c1 c2 t1 t2 e1 e2 hij => ?_⟩
  · cases i with
    | zero =>
      simp only [List.getElem?_cons_zero, Option.some.injEq, Prod.mk.injEq] at e
      obtain ⟨rfl, rfl, rfl⟩ := e
      exact ⟨by rw [hg]; exact below_size h.1, hn⟩
    | succ i =>
      rw [List.getElem?_cons_succ] at e
      exact ⟨h.ge i e, blk_below (h.get i e) hb⟩
  · cases i with
    | zero =>
      cases j with
      | zero => exact absurd rfl hij
      | succ j =>
        simp only [List.getElem?_cons_zero, Option.some.injEq, Prod.mk.injEq] at e1
        obtain ⟨rfl, _, _⟩ := e1
        rw [List.getElem?_cons_succ] at e2
        have := h.lt j e2
        omega
    | succ i =>
      rw [List.getElem?_cons_succ] at e1
      cases j with
      | zero =>
        simp only [List.getElem?_cons_zero, Option.some.injEq, Prod.mk.injEq] at e2
        obtain ⟨rfl, _, _⟩ := e2
        have := h.lt i e1
        omega
      | succ j =>
        rw [List.getElem?_cons_succ] at e2
        exact h.2.2 i j g1 g2 c1 c2 t1 t2 e1 e2 (by omega)
/-- What turns block i alone. -/
theorem Arrs.turn {W' : World} {cs' : Array Value} (h : Arrs w0 W xs) (i : Nat) (e : xs[i]? = some (g, cs, t)) (hb : Below w0.heap.size w0 W') (hn : W'.heap[g]? = some (.cells cs' t (0, 0))) (hk : ∀ k, k ≠ g → W'.heap[k]? = W.heap[k]?) : Arrs w0 W' (xs.set i (g, cs', t)) := by
  have hi : i < xs.length := (List.getElem?_eq_some_iff.1 e).1
  have hx : ∀ j g1 c1 t1, (xs.set i (g, cs', t))[j]? = some (g1, c1, t1) → j ≠ i → xs[j]? = some (g1, c1, t1) := fun j g1 c1 t1 e1 hj => by
    rwa [List.getElem?_set_ne (fun q => hj q.symm)] at e1
  have hs : ∀ g1 c1 t1, (xs.set i (g, cs', t))[i]? = some (g1, c1, t1) → g = g1 ∧ cs' = c1 ∧ t = t1 := fun g1 c1 t1 e1 => by
    rw [List.getElem?_set_self hi, Option.some.injEq, Prod.mk.injEq, Prod.mk.injEq] at e1
    exact e1
  refine ⟨hb, fun j g1 c1 t1 e1 => ?_, fun j k g1 g2 c1 c2 t1 t2 e1 e2 hjk => ?_⟩
  · by_cases hj : j = i
    · subst hj
      obtain ⟨rfl, rfl, rfl⟩ := hs _ _ _ e1
      exact ⟨h.ge j e, hn⟩
    · have e3 := hx _ _ _ _ e1 hj
      exact ⟨h.ge j e3, (hk g1 (h.2.2 j i _ _ _ _ _ _ e3 e hj)).trans (h.get j e3)⟩
  · by_cases hj : j = i
    · subst hj
      obtain ⟨rfl, _, _⟩ := hs _ _ _ e1
      exact h.2.2 j k _ _ _ _ _ _ e (hx _ _ _ _ e2 (fun q => hjk q.symm)) hjk
    · by_cases hk2 : k = i
      · subst hk2
        obtain ⟨rfl, _, _⟩ := hs _ _ _ e2
        exact h.2.2 j k _ _ _ _ _ _ (hx _ _ _ _ e1 hj) e hjk
      · exact h.2.2 j k _ _ _ _ _ _ (hx _ _ _ _ e1 hj) (hx _ _ _ _ e2 hk2) hjk
theorem Arrs.put (h : Arrs w0 W xs) (i : Nat) (j : Nat) (v : Value) (e : xs[i]? = some (g, cs, t) := by rfl) : Arrs w0 (W.setCell ⟨g, j, none⟩ v) (xs.set i (g, cs.setIfInBounds j v, t)) :=
  h.turn i e (below_set h.1 (h.ge i e)) (blk_set (h.get i e) j v) (fun k hk => heap_setCell_other W ⟨g, j, none⟩ k v hk)
theorem Arrs.putU {k : IntKind} {l : List Int} (h : Arrs w0 W xs) (i : Nat) (j : Nat) (v : Int) (e : xs[i]? = some (g, U k l, t) := by rfl) : Arrs w0 (W.setCell ⟨g, j, none⟩ (.int k v)) (xs.set i (g, U k (l.set j v), t)) := by
  rw [← U_set]
  exact h.put i j _ e
theorem Arrs.row (h : Arrs w0 W xs) (i : Nat) (ds : Array Value) (e : xs[i]? = some (g, cs, t) := by rfl) : Arrs w0 (W.setRow g ds) (xs.set i (g, ds, t)) :=
  h.turn i e (below_row h.1 (h.ge i e) ds) (setRow_blk (h.get i e) ds) (fun k hk => setRow_other W g k ds hk)
theorem Arrs.cell {k : IntKind} {l : List Int} (h : Arrs w0 W xs) (i : Nat) (j : Nat) (hj : j < l.length) (e : xs[i]? = some (g, U k l, t) := by rfl) : W.cell? ⟨g, j, none⟩ = some (.int k (rd l j)) := cellU (h.get i e) j hj
theorem Arrs.free (h : Arrs w0 W xs) (i : Nat) (j : Nat) (e : xs[i]? = some (g, cs, t) := by rfl) : W.frozen? ⟨g, j, none⟩ = false := blk_frozen (h.get i e) j
theorem Arrs.drop (h : Arrs w0 W ((g, cs, t) :: xs)) : Arrs w0 W xs :=
  ⟨h.1, fun i g1 cs1 t1 e => h.2.1 (i + 1) g1 cs1 t1 (by rw [List.getElem?_cons_succ]; exact e), fun i j g1 g2 c1 c2 t1 t2 e1 e2 hij => h.2.2 (i + 1) (j + 1) g1 g2 c1 c2 t1 t2 (by rw [List.getElem?_cons_succ]; exact e1) (by rw [List.getElem?_cons_succ]; exact e2) (by omega)⟩
theorem Arrs.cast {ys : List (Nat × Array Value × TypeId)} (h : Arrs w0 W xs) (e : xs = ys := by rfl) : Arrs w0 W ys := e ▸ h
theorem Arrs.at_ {W' : World} (h : Arrs w0 W xs) (e : W = W') : Arrs w0 W' xs := e ▸ h
theorem Arrs.cells {ds : Array Value} (h : Arrs w0 W xs) (i : Nat) (e : xs[i]? = some (g, cs, t)) (hc : cs = ds) : Arrs w0 W (xs.set i (g, ds, t)) := by
  subst hc
  have e2 : xs.set i (g, cs, t) = xs := by
    apply List.ext_getElem?
    intro j
    by_cases hj : j = i
    · subst hj
      rw [List.getElem?_set_self (List.getElem?_eq_some_iff.1 e).1, e]
    · rw [List.getElem?_set_ne (fun q => hj q.symm)]
  rw [e2]
  exact h
end
theorem Arrs.alloc {w0 W : World} {xs : List (Nat × Array Value × TypeId)} {cs : Array Value} {t : TypeId} (h : Arrs w0 W xs) {g : Nat} (hg : g = W.heap.size := by simp) : Arrs w0 (W.alloc (.cells cs t)) ((g, cs, t) :: xs) :=
  h.made hg (below_alloc (Below.refl _ _) _) (by rw [hg]; exact blk_new _ _)
section
variable {P : Program} {ops : Array Oper} {rest : List Oper} {o : Oper} {a : Act} {Q : Exit → Act → World → Prop} {W w0 : World}
/-- An aggregate is built. -/
theorem build_event (hgd : o.guard = none) {N : Tmp} (_hd : o.dst = some N) (t : TypeId) (parts : Array (Nat × Operand)) (ho : o.op = .build t parts) (cs : Array Value)
    (hb : P.built t (parts.map fun (i, x) => (i, a.eval x)).toList = some cs) (h : wpList P ops Q rest (a.put o.dst (.agg cs)) W) : wpList P ops Q (o :: rest) a W := by
  refine wpList_build hgd t parts ho (by rw [hb]; rfl) ?_
  rw [hb]
  exact h
/-- A block is made. -/
theorem box_arrs (hgd : o.guard = none) {N : Tmp} (_hd : o.dst = some N) (cs : Array Value) (t : TypeId) {xs : List (Nat × Array Value × TypeId)} (HS : Aside0 (Arrs w0 W xs))
    (hrun : (execOp a.eval o).run P W = .ok (.value (.pointer (some ⟨W.heap.size, 0, none⟩))) (W.alloc (.cells cs t (0, 0))))
    (h : ∀ g w1, Aside0 (Arrs w0 w1 ((g, cs, t) :: xs)) → wpList P ops Q rest (a.put o.dst (.pointer (some ⟨g, 0, none⟩))) w1) : wpList P ops Q (o :: rest) a W :=
  Kd.event_run hgd hrun (h _ _ ⟨HS.out.alloc rfl⟩)
/-- A whole array is read. -/
theorem load_arrs (hgd : o.guard = none) {N : Tmp} (_hd : o.dst = some N) (ty : TypeId) (x : Operand) (ho : o.op = .load ty x) (i : Nat) {xs : List (Nat × Array Value × TypeId)} {g : Nat} {cs : Array Value} {t : TypeId} (HS : Aside0 (Arrs w0 W xs)) (e : xs[i]? = some (g, cs, t))
    (hx : a.eval x = .pointer (some ⟨g, 0, none⟩)) {d : TypeDesc} (hu : P.underlying ty = some d) (hd : (match d with | .struct _ | .array _ _ => true | _ => false) = true) (hi : (P.info? ty).map (·.size) = some cs.size)
    (h : wpList P ops Q rest (a.put o.dst (.agg cs)) W) : wpList P ops Q (o :: rest) a W :=
  wpList_load_row hgd ty x ho g hx t cs (0, 0) d (HS.out.get i e) hu hd hi h
/-- A whole array is written. -/
theorem store_arrs (hgd : o.guard = none) (ty : TypeId) {p : Tmp} (y : Operand) (ho : o.op = .store ty (.tmp p) y) (hN : o.dst = none) (i : Nat) {xs : List (Nat × Array Value × TypeId)} {g : Nat} {old : Array Value} (cs : Array Value) {t : TypeId} (HS : Aside0 (Arrs w0 W xs)) (e : xs[i]? = some (g, old, t))
    (hx : a.eval (.tmp p) = .pointer (some ⟨g, 0, none⟩)) (hy : a.eval y = .agg cs) (hi : (P.info? ty).map (·.size) = some cs.size) (hold : old.size = cs.size) (h1 : cs.all (·.oneCell') = true)
    (h : ∀ w1, Aside0 (Arrs w0 w1 (xs.set i (g, cs, t))) → wpList P ops Q rest a w1) : wpList P ops Q (o :: rest) a W := by
  refine wpList_store_row hgd ty (.tmp p) y ho g cs hx hy t old (HS.out.get i e) hi hold h1 ?_
  rw [hN]
  exact h _ ⟨HS.out.row i cs e⟩
end
theorem gwC_ {P : Program} {Q : Exit → Act → World → Prop} {c : Code} {a : Act} {W : World} (h : ∀ w', W = w' → c.wp P Q a w') : c.wp P Q a W := h W rfl
theorem size79 : (Try.prog.info? 79).map (·.size) = some 8 := by kernel_rfl
def z8 : List Int := [0, 0, 0, 0, 0, 0, 0, 0]
/-- The words of a stream's numbers. -/
def wds (H : List Int) : List Int := fill (fun i => IntKind.u32.wrap (rd H i)) 8 z8
/-- A word turned right. -/
def rot (x n : Int) : Int := Go.bits .or .u32 (shr .u32 x n) (shl .u32 x (32 - n))
theorem bor_comm (a b : Int) : Go.bits .or .u32 a b = Go.bits .or .u32 b a := by
  unfold Go.bits
  simp [Nat.or_comm]
theorem size81 : (Try.prog.info? 81).map (·.size) = some 64 := by kernel_rfl
theorem size22 : (Try.prog.info? 22).map (·.size) = some 8 := by kernel_rfl
def z64 : List Int := List.replicate 64 0
/-- Word t of 64 bytes. -/
def wrd (b : List Int) (t : Nat) : Int := Go.bits .or .u32 (Go.bits .or .u32 (Go.bits .or .u32 (IntKind.u32.wrap (IntKind.u32.wrap (rd b (4 * t)) * 16777216)) (IntKind.u32.wrap (IntKind.u32.wrap (rd b (4 * t + 1)) * 65536))) (IntKind.u32.wrap (IntKind.u32.wrap (rd b (4 * t + 2)) * 256))) (IntKind.u32.wrap (rd b (4 * t + 3)))
def sig0 (x : Int) : Int := Go.bits .xor .u32 (Go.bits .xor .u32 (rot x 7) (rot x 18)) (x / 8)
def sig1 (x : Int) : Int := Go.bits .xor .u32 (Go.bits .xor .u32 (rot x 17) (rot x 19)) (x / 1024)
/-- Word t of those behind the first 16. -/
def more (t : Nat) (L : List Int) : List Int := L.set t ((sig1 (rd L ((t - 2 : Nat) : Int)) + rd L ((t - 7 : Nat) : Int) + sig0 (rd L ((t - 15 : Nat) : Int)) + rd L ((t - 16 : Nat) : Int)) % 4294967296)
/-- The 64 words. -/
def mores (n : Nat) (L : List Int) : List Int := iter (fun i => more (16 + i)) n L
/-- One round over eight words. -/
def one_ (V : List Int) (k w : Int) : Int := (rd V 7 + Go.bits .xor .u32 (Go.bits .xor .u32 (rot (rd V 4) 6) (rot (rd V 4) 11)) (rot (rd V 4) 25) + Go.bits .xor .u32 (Go.bits .and .u32 (rd V 4) (rd V 5)) (Go.bits .and .u32 (Go.bits .xor .u32 IntKind.u32.max (rd V 4)) (rd V 6)) + k + w) % 4294967296
def two_ (V : List Int) : Int := (Go.bits .xor .u32 (Go.bits .xor .u32 (rot (rd V 0) 2) (rot (rd V 0) 13)) (rot (rd V 0) 22) + Go.bits .xor .u32 (Go.bits .xor .u32 (Go.bits .and .u32 (rd V 0) (rd V 1)) (Go.bits .and .u32 (rd V 0) (rd V 2))) (Go.bits .and .u32 (rd V 1) (rd V 2))) % 4294967296
def round_ (V : List Int) (k w : Int) : List Int := [(one_ V k w + two_ V) % 4294967296, rd V 0, rd V 1, rd V 2, (rd V 3 + one_ V k w) % 4294967296, rd V 4, rd V 5, rd V 6]
def rounds_ (K L : List Int) (n : Nat) (V : List Int) : List Int := iter (fun i V => round_ V (rd K i) (rd L i)) n V
theorem rounds_len (K L : List Int) (n : Nat) (V : List Int) (h : V.length = 8) : (rounds_ K L n V).length = 8 := by
  cases n with
  | zero => exact h
  | succ n => rfl
/-- The numbers behind 64 bytes. -/
def block_ (K H b : List Int) : List Int := fill (fun i => (rd H i + rd (rounds_ K (mores 48 (fill (wrd b) 16 z64)) 64 (wds H)) i) % 4294967296) 8 z8
theorem w32 (x : Int) : wrap64 (x % 4294967296) = x % 4294967296 := by unfold wrap64; omega
theorem more_len (n : Nat) (L : List Int) : (mores n L).length = L.length := by
  induction n with
  | zero => rfl
  | succ n ih => rw [← ih]; exact List.length_set
/-! ### A region that draws its order, whose operations make memory: what holds of what has been carried out -/
section
variable {P : Program} {ops : Array Oper} {md : Region.Mode}
/-- How many of the first n are not listed. -/
def unl (listed : Array Bool) : Nat → Nat
  | 0 => 0
  | k + 1 => unl listed k + if listed.getD k false then 0 else 1
theorem unl_far (listed : Array Bool) (i : Nat) : ∀ k, k ≤ i → unl (listed.setIfInBounds i true) k = unl listed k
  | 0, _ => rfl
  | k + 1, h => by
    unfold unl
    rw [unl_far listed i k (by omega), getD_set_ne false (by omega)]
theorem unl_set (listed : Array Bool) (i : Nat) (hs : i < listed.size) (hi : listed.getD i false = false) : ∀ k, i < k → unl (listed.setIfInBounds i true) k + 1 = unl listed k
  | 0, h => absurd h (by omega)
  | k + 1, h => by
    unfold unl
    by_cases hik : i = k
    · subst hik
      rw [unl_far listed i i (Nat.le_refl _), hi]
      have : (listed.setIfInBounds i true).getD i false = true := by simp [hs]
      rw [this]
      simp
    · rw [getD_set_ne false hik, ← unl_set listed i hs hi k (by omega)]
      omega
theorem unl_zero (listed : Array Bool) : ∀ k, unl listed k = 0 → ∀ i, i < k → listed.getD i false = true
  | 0, _, i, h => absurd h (by omega)
  | k + 1, h, i, hi => by
    unfold unl at h
    by_cases hik : i = k
    · subst hik
      cases hl : listed.getD i false with
      | true => rfl
      | false => rw [hl] at h; simp at h
    · exact unl_zero listed k (by omega) i (by omega)
theorem unl_pos (listed : Array Bool) : ∀ k, unl listed k ≠ 0 → ∃ i, i < k ∧ listed.getD i false = false ∧ ∀ j, j < i → listed.getD j false = true
  | 0, h => absurd rfl h
  | k + 1, h => by
    by_cases h0 : unl listed k = 0
    · refine ⟨k, by omega, ?_, unl_zero listed k h0⟩
      unfold unl at h
      rw [h0] at h
      cases hl : listed.getD k false with
      | true => rw [hl] at h; simp at h
      | false => rfl
    · obtain ⟨i, hi, h1, h2⟩ := unl_pos listed k h0
      exact ⟨i, by omega, h1, h2⟩
/-- Every edge points back. -/
def Region.downB (md : Region.Mode) (ops : Array Oper) : Bool :=
  (List.range ops.size).all fun j => match ops[j]? with
    | some o => o.after.all fun e => !Region.binds md e || decide (e.on < j)
    | none => true
def Region.stableB (md : Region.Mode) (ops : Array Oper) (n : Nat) : Bool :=
  decide (n < ops.size) && Region.sinkB md ops n && Region.chainB md ops n && Region.downB md ops && Region.seqB md ops (ops.size - n) n (Array.replicate n true ++ Array.replicate (ops.size - n) false)
theorem wpAny_stable {Q : Exit → Act → World → Prop} (n : Nat) (hB : Region.stableB md ops n = true) (l : List Oper) (hl : ops = l.toArray) (J : Array Bool → Act → World → Prop)
    (hstep : ∀ listed a w, HeadInv md ops n listed → J listed a w → ∀ i, i < n → i ∈ Region.ready md ops listed → wpOp P ops Q i (fun a' w' => J (listed.setIfInBounds i true) a' w') a w)
    (hend : ∀ listed a w, J listed a w → (∀ i, i < n → listed.getD i false = true) → wpList P ops Q (l.drop n) a w) :
    ∀ (f : Nat) (listed : Array Bool) (a : Act) (w : World), unl listed n = f → HeadInv md ops n listed → J listed a w → wpAny P md ops Q (f + (ops.size - n)) listed a w := by
  simp only [Region.stableB, Bool.and_eq_true, decide_eq_true_eq] at hB
  obtain ⟨⟨⟨⟨hn, hs⟩, hc⟩, hd⟩, hq⟩ := hB
  intro f
  induction f with
  | zero =>
    intro listed a w hf inv hJ
    have hall := unl_zero listed n hf
    have he : listed = Array.replicate n true ++ Array.replicate (ops.size - n) false := by
      apply Array.ext
      · rw [inv.size]; simp; omega
      · intro j h1 h2
        by_cases hj : j < n
        · have h3 := hall j hj
          rw [Array.getElem_append_left (by simpa using hj)]
          simp [h1] at h3
          simp [h3]
        · have h3 := inv.tail j (by omega) (by rw [← inv.size]; exact h1)
          rw [Array.getElem_append_right (by simpa using hj)]
          simp [h1] at h3
          simp [h3]
    have hlen : (l.drop n).length = ops.size - n := by rw [hl]; simp
    rw [Nat.zero_add, ← hlen]
    exact wpAny_of_seq (l.drop n) n listed a w (fun j => by rw [hl]; simp [List.getElem?_drop]) (by rw [hlen, he]; exact hq) (hend listed a w hJ hall)
  | succ f ih =>
    intro listed a w hf inv hJ
    obtain ⟨i, hin, hi, hlow⟩ := unl_pos listed n (by rw [hf]; omega)
    have hir : i ∈ Region.ready md ops listed := by
      refine mem_ready.2 ⟨getD_in (by rw [inv.size]; omega) hi, ops[i]'(by omega), Array.getElem?_eq_getElem (by omega), fun e he hb => hlow _ ?_⟩
      have h1 := List.all_eq_true.1 hd i (List.mem_range.2 (by omega))
      rw [Array.getElem?_eq_getElem (by omega)] at h1
      have h2 := Array.all_eq_true_iff_forall_mem.1 h1 e he
      simpa [hb] using h2
    rw [show f + 1 + (ops.size - n) = (f + (ops.size - n)) + 1 by omega]
    refine ⟨fun h0 => (by rw [h0] at hir; cases hir), fun j hj => ?_⟩
    have hjn : j < n := by
      rcases Nat.lt_or_ge j n with h | h
      · exact h
      · exact absurd hj (tail_waits hs hc hn inv _ i rfl hin (getD_in (by rw [inv.size]; omega) hi) j h)
    have hjun := (mem_ready.1 hj).1
    refine wpOp_mono (fun a' w' h' => ih _ a' w' ?_ (inv.set hj hjn) h') (hstep listed a w inv hJ j hjn hj)
    have := unl_set listed j (by rw [inv.size]; omega) (getD_both hjun) n hjn
    omega
theorem wp_region_stable {id : Nat} {Q : Exit → Act → World → Prop} {a : Act} {w : World} {l : List Oper} (n : Nat) (hm : P.follows .mixedOrders = true) (hB : Region.stableB .any l.toArray n = true) (J : Array Bool → Act → World → Prop)
    (h0 : J (Array.replicate l.toArray.size false) a w.drew)
    (hstep : ∀ listed a w, HeadInv .any l.toArray n listed → J listed a w → ∀ i, i < n → i ∈ Region.ready .any l.toArray listed → wpOp P l.toArray Q i (fun a' w' => J (listed.setIfInBounds i true) a' w') a w)
    (hend : ∀ listed a w, J listed a w → (∀ i, i < n → listed.getD i false = true) → wpList P l.toArray Q (l.drop n) a w) : (Code.region id l.toArray true).wp P Q a w := by
  refine wp_region_any hm ?_
  have hn : n < l.toArray.size := by
    simp only [Region.stableB, Bool.and_eq_true, decide_eq_true_eq] at hB
    exact hB.1.1.1.1
  have inv0 : HeadInv .any l.toArray n (Array.replicate l.toArray.size false) :=
    ⟨by simp, fun j oj _ hl => (by rw [getD_replicate_false] at hl; cases hl), fun t _ ht => getD_in (by simpa using ht) (getD_replicate_false _ _)⟩
  have hu : ∀ k, unl (Array.replicate l.toArray.size false) k = k := by
    intro k
    induction k with
    | zero => rfl
    | succ k ih => unfold unl; rw [ih, getD_replicate_false]; rfl
  have := wpAny_stable (P := P) (Q := Q) n hB l rfl J hstep hend n _ a w.drew (hu n) inv0 h0
  rwa [show n + (l.toArray.size - n) = l.toArray.size by omega] at this
/-- One operation that only gives a value. -/
theorem op_val {Q : Exit → Act → World → Prop} {i : Nat} {o : Oper} {K : Act → World → Prop} {a : Act} {w w' : World} {v : Value} (hi : ops[i]? = some o) (hg : o.guard = none) (hr : (execOp a.eval o).run P w = .ok (.value v) w') (h : K (a.put o.dst v) w') : wpOp P ops Q i K a w := by
  unfold wpOp
  rw [hi]
  have hw : Region.wanted o (yielded ops a.tmps) = true := by unfold Region.wanted; rw [hg]
  show if Region.wanted o (yielded ops a.tmps) = true then _ else _
  rw [if_pos hw]
  refine .inl ?_
  unfold Oper.wp
  rw [hr]
  exact h
/-- A call. -/
theorem op_call {Q : Exit → Act → World → Prop} {i : Nat} {o : Oper} {K : Act → World → Prop} {a : Act} {w : World} (hi : ops[i]? = some o) (hg : o.guard = none) {f : FuncId} {fn : Func} {us : Array Operand} {ts : Array TypeId}
    (hf : P.funcs[f]? = some fn) (hname : (fn.name == "runtime.NumGoroutine") = false) (hb : fn.body.isSome = true) (args : Array Value)
    (hop : o.op = .call { callee := .value (.func f), args := us, argTypes := ts }) (hargs : us.map a.eval = args)
    (h : Calls P f args w fun e w' => ∃ v, e = .returned v ∧ K (a.put o.dst v) w') : wpOp P ops Q i K a w := by
  unfold wpOp
  rw [hi]
  have hw : Region.wanted o (yielded ops a.tmps) = true := by unfold Region.wanted; rw [hg]
  show if Region.wanted o (yielded ops a.tmps) = true then _ else _
  rw [if_pos hw]
  refine .inl ?_
  have he := enters_ hf hname hb args w
  have hrun : (execOp a.eval o).run P w = .ok (.enter f args) w := by
    unfold execOp
    simp [hop, resolve, Act.eval, Deferred.ofValue, invoke, hargs, he]
  unfold Oper.wp
  rw [hrun, Oper.upon_enter]
  refine h.mono fun e w'' hh => ?_
  obtain ⟨v, rfl, hk⟩ := hh
  exact hk
end
/-- A whole array is read. -/
theorem op_load {P : Program} {ops : Array Oper} {Q : Exit → Act → World → Prop} {i : Nat} {o : Oper} {K : Act → World → Prop} {a : Act} {w : World} (hi : ops[i]? = some o) (hg : o.guard = none) (ty : TypeId) (x : Operand) (ho : o.op = .load ty x)
    {g : Nat} {cs : Array Value} {t : TypeId} (hx : a.eval x = .pointer (some ⟨g, 0, none⟩)) (hb : w.heap[g]? = some (.cells cs t (0, 0))) {d : TypeDesc} (hu : P.underlying ty = some d) (hd : (match d with | .struct _ | .array _ _ => true | _ => false) = true) (hs : (P.info? ty).map (·.size) = some cs.size)
    (h : K (a.put o.dst (.agg cs)) w) : wpOp P ops Q i K a w := by
  refine op_val hi hg (v := .agg cs) (w' := w) ?_ h
  unfold execOp
  simp only [ho, hx, Instr.loadAt, Instr.sureAddr, Sem.run_bind, Sem.run_pure, Result.andThen_ok, run_loadVar_row w g t ty cs (0, 0) d hb hu hd hs]
/-- A stream's cells. -/
def SV (H : List Int) (v : Value) (m : Int) : Array Value := ⟨H.map (Value.int .i64) ++ [v, .int .i64 m]⟩
theorem SV_size (H : List Int) (v : Value) (m : Int) (h : H.length = 8) : (SV H v m).size = 10 := by
  show (H.map _ ++ _).length = 10
  simp [h]
theorem size28 : (Try.prog.info? 28).map (·.size) = some 10 := by kernel_rfl
theorem info_S (H : List Int) (v : Value) (m : Int) (h : H.length = 8) : (Try.prog.info? 28).map (·.size) = some (SV H v m).size := by rw [size28, SV_size H v m h]
theorem SV_one (H : List Int) (v : Value) (m : Int) (hv : v.oneCell' = true) : (SV H v m).all (·.oneCell') = true := by
  rw [Array.all_eq_true_iff_forall_mem]
  intro x hx
  simp only [SV, List.mem_toArray, List.mem_append, List.mem_map, List.mem_cons, List.not_mem_nil, or_false] at hx
  rcases hx with ⟨a, _, rfl⟩ | rfl | rfl
  · rfl
  · exact hv
  · rfl
theorem SV_rest (H : List Int) (v : Value) (m : Int) (h : H.length = 8) : (SV H v m)[8]? = some v := by
  unfold SV
  rw [List.getElem?_toArray, List.getElem?_append_right (by simp [h])]
  simp [h]
theorem SV_many (H : List Int) (v : Value) (m : Int) (h : H.length = 8) : (SV H v m)[9]? = some (.int .i64 m) := by
  unfold SV
  rw [List.getElem?_toArray, List.getElem?_append_right (by simp [h])]
  simp [h]
theorem SV_at (H : List Int) (v : Value) (m : Int) (i : Nat) (h : i < H.length) : (SV H v m)[i]? = some (.int .i64 (rd H i)) := by
  unfold SV rd
  rw [List.getElem?_toArray, List.getElem?_append_left (by simp [h]), List.getElem?_map, List.getElem?_eq_getElem h]
  simp [List.getD, List.getElem?_eq_getElem h]
theorem SV_set (H : List Int) (v : Value) (m : Int) (i : Nat) (x : Int) (h : i < H.length) : (SV H v m).setIfInBounds i (.int .i64 x) = SV (H.set i x) v m := by
  unfold SV
  rw [List.setIfInBounds_toArray, List.set_append_left _ _ (by simp [h]), List.map_set]
/-- What holds of what has been carried out of a region that draws. -/
def StI (fact : Nat → Value → World → Prop) (n : Nat) (listed : Array Bool) (V : Nat → Value) (W : World) : Prop := ∀ j, j < n → listed.getD j false = true → fact j (V j) W
theorem StI.step {fact : Nat → Value → World → Prop} {n : Nat} {listed : Array Bool} {V : Nat → Value} {W W' : World} (h : StI fact n listed V W) (hst : ∀ j v, fact j v W → fact j v W') (i : Nat) (v : Value) (hf : fact i v W') :
    StI fact n (listed.setIfInBounds i true) (fun j => if j = i then v else V j) W' := by
  intro j hj hl
  by_cases hji : j = i
  · subst hji
    simpa using hf
  · rw [getD_set_ne false (fun e => hji e.symm)] at hl
    simpa [hji] using hst j _ (h j hj hl)
theorem dep_of {md : Region.Mode} {ops : Array Oper} {listed : Array Bool} {i j : Nat} (hr : i ∈ Region.ready md ops listed) (hw : Region.waitsFor md ops i j = true) : listed.getD j false = true := by
  obtain ⟨_, o, ho, hall⟩ := mem_ready.1 hr
  obtain ⟨o', ho', e, he, hb, hon⟩ := Region.waitsFor_spec hw
  have : o' = o := Option.some.inj (ho'.symm.trans ho)
  subst this
  rw [← hon]
  exact hall e he hb
/-! ### Bytes that are read, in a block of bytes -/
def RdB (W : World) (A : Option Addr) (l : List Int) : Prop := Kd.C (Kd.int .u8) W A l.length l ∧ ∀ ad, A = some ad → 0 < l.length → ∃ cs, W.heap[ad.block]? = some (.cells cs 5 (0, 0))
theorem RdB.below {W W' : World} {A : Option Addr} {l : List Int} (h : RdB W A l) (hb : Below W.heap.size W W') : RdB W' A l := ⟨Kd.C_below h.1 hb, fun ad e hl => by obtain ⟨cs, hc⟩ := h.2 ad e hl; exact ⟨cs, blk_below hc hb⟩⟩
theorem RdB.keep {W W' : World} {A : Option Addr} {l : List Int} (h : RdB W A l) {g : Nat} {cs : Array Value} {t : TypeId} (hg : W.heap[g]? = some (.cells cs t (0, 0))) (ht : t ≠ 5) (hs : W.heap.size ≤ W'.heap.size) (hk : ∀ k, k ≠ g → W'.heap[k]? = W.heap[k]?) : RdB W' A l := by
  have hne : ∀ ad, A = some ad → 0 < l.length → ad.block ≠ g := fun ad e hl he => by
    obtain ⟨cs', hc⟩ := h.2 ad e hl
    rw [he, hg] at hc
    injection hc with hc
    injection hc with _ hc _
    exact ht hc
  refine ⟨Kd.C_keep (0 : Int) h.1 ⟨hs, fun i hi hig _ => hk i hig⟩ hne, fun ad e hl => ?_⟩
  obtain ⟨cs', hc⟩ := h.2 ad e hl
  exact ⟨cs', (hk _ (hne ad e hl)).trans hc⟩
theorem RdB.row {W : World} {A : Option Addr} {l : List Int} (h : RdB W A l) {g : Nat} {cs : Array Value} {t : TypeId} (hg : W.heap[g]? = some (.cells cs t (0, 0))) (ht : t ≠ 5) (ds : Array Value) : RdB (W.setRow g ds) A l :=
  h.keep hg ht (by simp) (fun k hk => setRow_other W g k ds hk)
theorem RdB.put {W : World} {A : Option Addr} {l : List Int} (h : RdB W A l) {g : Nat} {cs : Array Value} {t : TypeId} (hg : W.heap[g]? = some (.cells cs t (0, 0))) (ht : t ≠ 5) (j : Nat) (v : Value) : RdB (W.setCell ⟨g, j, none⟩ v) A l :=
  h.keep hg ht (by simp [World.setCell]) (fun k hk => heap_setCell_other W ⟨g, j, none⟩ k v hk)
theorem RdB.of_R {W : World} {A : Option Addr} {n c base : Nat} {ok : Nat → Prop} {l : List Int} (h : (Kd.int .u8).R 5 W base ok (.slice A n c) l) : RdB W A l := by
  refine ⟨(Kd.R_reads' h).2.2, fun ad e _ => ?_⟩
  obtain ⟨_, _, _, q, hq, cs, hc⟩ := (Kd.R_bound h).1 ad.block (by rw [e]; rfl)
  have : q = 5 := by
    have h2 : q ∈ [5] := hq
    simpa using h2
  subst this
  exact ⟨cs, hc⟩
theorem RdB.drop {A : Option Addr} {c : Nat} {l : List Int} (m : Nat) (hm : m ≤ l.length) (hc : l.length ≤ c) : ∃ A', (∀ W : World, (Instr.slice 23 (.slice A l.length c) (some (.int .i64 (m : Int))) none none).run Try.prog W = .ok (.slice A' (l.drop m).length (c - m)) W) ∧
    (∀ W, RdB W A l → RdB W A' (l.drop m)) ∧ (l.drop m).length ≤ c - m := by
  have hl : (l.drop m).length = l.length - m := List.length_drop
  have hel : Try.prog.elem 23 = 5 := by simp [Program.elem, Try.underlying23]
  have hu : Try.prog.underlying 23 = some (.slice (Try.prog.elem 23)) := by rw [hel]; exact Try.underlying23
  obtain ⟨i, hi, hz, hsz, hby⟩ := info_parts info5
  refine ⟨if c = m then A else A.map (·.add m), fun W => ?_, fun W h => ?_, by rw [hl]; omega⟩
  · rw [run_slice_l W 23 A l.length c hu .i64 (m : Int) (Int.natCast_nonneg _) (by omega), hel, hl]
    simp [sizeOf, typeInfo, hi, hsz, sliced, Result.andThen]
  · have h1 := Kd.C_drop (m := m) (c := c) h.1 hm hc
    have e1 : m * (Kd.int .u8).sz = m := Nat.mul_one m
    rw [e1] at h1
    refine ⟨h1, fun ad e hp => ?_⟩
    have hp2 : 0 < l.length := by rw [hl] at hp; omega
    by_cases hcm : c = m
    · rw [if_pos hcm] at e
      exact h.2 ad e hp2
    · rw [if_neg hcm] at e
      cases A with
      | none => cases e
      | some ad0 =>
        obtain ⟨cs, hcs⟩ := h.2 ad0 rfl hp2
        have : ad = ad0.add m := by simpa using e.symm
        rw [this, add_block]
        exact ⟨cs, hcs⟩
theorem RdB.take {W : World} {A : Option Addr} {l : List Int} (h : RdB W A l) (m : Nat) (hm : m ≤ l.length) : RdB W A (l.take m) :=
  ⟨Kd.C_take h.1 hm, fun ad e hp => h.2 ad e (by rw [List.length_take] at hp; omega)⟩
/-- A block that there is, among the call's own. -/
theorem Arrs.add {w0 W : World} {xs : List (Nat × Array Value × TypeId)} {g : Nat} {cs : Array Value} {t : TypeId} (h : Arrs w0 W xs) (hb : W.heap[g]? = some (.cells cs t (0, 0))) (hg : w0.heap.size ≤ g) (ht : ∀ x, x ∈ xs → x.2.2 ≠ t) : Arrs w0 W ((g, cs, t) :: xs) := by
  have hne : ∀ (i : Nat) (g1 : Nat) (c1 : Array Value) (t1 : TypeId), xs[i]? = some (g1, c1, t1) → g ≠ g1 := by
    rintro i g1 c1 t1 e rfl
    have h1 := h.get i e
    rw [hb] at h1
    injection h1 with h1
    injection h1 with _ h1 _
    exact ht _ (List.mem_of_getElem? e) h1.symm
  refine ⟨h.1, fun i g1 c1 t1 e => ?_, fun i j g1 g2 c1 c2 t1 t2 e1 e2 hij => ?_⟩
  · cases i with
    | zero =>
      simp only [List.getElem?_cons_zero, Option.some.injEq, Prod.mk.injEq] at e
      obtain ⟨rfl, rfl, rfl⟩ := e
      exact ⟨hg, hb⟩
    | succ i =>
      rw [List.getElem?_cons_succ] at e
      exact h.2.1 i g1 c1 t1 e
  · cases i with
    | zero =>
      cases j with
      | zero => exact absurd rfl hij
      | succ j =>
        simp only [List.getElem?_cons_zero, Option.some.injEq, Prod.mk.injEq] at e1
        obtain ⟨rfl, _, _⟩ := e1
        rw [List.getElem?_cons_succ] at e2
        exact hne j _ _ _ e2
    | succ i =>
      rw [List.getElem?_cons_succ] at e1
      cases j with
      | zero =>
        simp only [List.getElem?_cons_zero, Option.some.injEq, Prod.mk.injEq] at e2
        obtain ⟨rfl, _, _⟩ := e2
        exact (hne i _ _ _ e1).symm
      | succ j =>
        rw [List.getElem?_cons_succ] at e2
        exact h.2.2 i j g1 g2 c1 c2 t1 t2 e1 e2 (by omega)
section
variable {P : Program} {ops : Array Oper} {rest : List Oper} {o : Oper} {a : Act} {Q : Exit → Act → World → Prop} {W w0 : World}
theorem box_arrs2 (hgd : o.guard = none) {N : Tmp} (_hd : o.dst = some N) (cs : Array Value) (t : TypeId) {xs : List (Nat × Array Value × TypeId)} (HS : Aside0 (Arrs w0 W xs))
    (hrun : (execOp a.eval o).run P W = .ok (.value (.pointer (some ⟨W.heap.size, 0, none⟩))) (W.alloc (.cells cs t (0, 0))))
    (h : ∀ g w1, Aside0 (Arrs w0 w1 ((g, cs, t) :: xs)) → Below W.heap.size W w1 → wpList P ops Q rest (a.put o.dst (.pointer (some ⟨g, 0, none⟩))) w1) : wpList P ops Q (o :: rest) a W :=
  Kd.event_run hgd hrun (h _ _ ⟨HS.out.alloc rfl⟩ (below_alloc (Below.refl _ _) _))
theorem store_arrs2 (hgd : o.guard = none) (ty : TypeId) {p : Tmp} (y : Operand) (ho : o.op = .store ty (.tmp p) y) (hN : o.dst = none) (i : Nat) {xs : List (Nat × Array Value × TypeId)} {g : Nat} {old : Array Value} (cs : Array Value) {t : TypeId} (HS : Aside0 (Arrs w0 W xs)) (e : xs[i]? = some (g, old, t))
    (hx : a.eval (.tmp p) = .pointer (some ⟨g, 0, none⟩)) (hy : a.eval y = .agg cs) (hi : (P.info? ty).map (·.size) = some cs.size) (hold : old.size = cs.size) (h1 : cs.all (·.oneCell') = true) (ht : t ≠ 5)
    (h : ∀ w1, Aside0 (Arrs w0 w1 (xs.set i (g, cs, t))) → (∀ A l, RdB W A l → RdB w1 A l) → wpList P ops Q rest a w1) : wpList P ops Q (o :: rest) a W := by
  refine wpList_store_row hgd ty (.tmp p) y ho g cs hx hy t old (HS.out.get i e) hi hold h1 ?_
  rw [hN]
  exact h _ ⟨HS.out.row i cs e⟩ (fun A l hr => hr.row (HS.out.get i e) ht cs)
end
section
variable {P : Program} {ops : Array Oper} {rest : List Oper} {o : Oper} {a : Act} {Q : Exit → Act → World → Prop} {W : World}
/-- A literal row of bytes. -/
theorem lit_event (hgd : o.guard = none) {N : Tmp} (hd : o.dst = some N) (xs : List Int) (hm : xs.length ≤ 1000)
    (hrun : (execOp a.eval o).run P W = .ok (.value (.slice (some ⟨W.heap.size, 0, none⟩) xs.length xs.length)) (W.alloc (.cells (U .u8 xs) 5)))
    (h : ∀ (A : Option Addr) (c : Nat) (w1 : World), (Kd.int .u8).R 5 w1 W.heap.size (fun _ => True) (.slice A xs.length c) xs → Below W.heap.size W w1 → wpList P ops Q rest (a.put o.dst (.slice A xs.length c)) w1) : wpList P ops Q (o :: rest) a W := by
  refine Kd.R_lit (Kd.int .u8) (w0 := W) W.heap.size 5 hgd hd (xs := xs) (inner := xs.map (Value.int .u8)) (ok := fun _ => True) (okp := fun _ => True) hrun (Kd.reps_scalar (enc := Value.int .u8) xs) (fun _ hk => hk) trivial (Below.refl _ _) (Nat.le_refl _) (by omega) ?_
  intro v1 w1 ho hb _ _
  obtain ⟨A, c, rfl⟩ := Kd.R_slice ho
  exact h A c w1 ho hb
end
theorem field_SV (H : List Int) (h : H.length = 8) (v : Value) (m : Int) (w : World) : (Instr.field 28 (.agg (SV H v m)) 0).run Try.prog w = .ok (.agg (U .i64 H)) w := by
  match H, h with
  | [h0, h1, h2, h3, h4, h5, h6, h7], _ => rfl
theorem index79 (h : List Int) (hh : h.length = 8) (i : Nat) (hi : i < 8) (w : World) : (Instr.index 79 (.agg (U .u32 h)) (.int .i64 i)).run Try.prog w = .ok (.int .u32 (rd h i)) w := by
  match h, hh with
  | [h0, h1, h2, h3, h4, h5, h6, h7], _ =>
    have : i = 0 ∨ i = 1 ∨ i = 2 ∨ i = 3 ∨ i = 4 ∨ i = 5 ∨ i = 6 ∨ i = 7 := by omega
    rcases this with e | e | e | e | e | e | e | e <;> (clear hi; subst e; rfl)
theorem index22 (h : List Int) (hh : h.length = 8) (i : Nat) (hi : i < 8) (w : World) : (Instr.index 22 (.agg (U .i64 h)) (.int .i64 i)).run Try.prog w = .ok (.int .i64 (rd h i)) w := by
  match h, hh with
  | [h0, h1, h2, h3, h4, h5, h6, h7], _ =>
    have : i = 0 ∨ i = 1 ∨ i = 2 ∨ i = 3 ∨ i = 4 ∨ i = 5 ∨ i = 6 ∨ i = 7 := by omega
    rcases this with e | e | e | e | e | e | e | e <;> (clear hi; subst e; rfl)
/-- A row of bytes is none of the blocks of another type. -/
theorem R_not {W : World} {base g : Nat} {ok : Nat → Prop} {v : Value} {xs : List Int} {cs : Array Value} {t : TypeId} (h : (Kd.int .u8).R 5 W base ok v xs) (hg : W.heap[g]? = some (.cells cs t (0, 0))) (ht : t ≠ 5) : (Kd.int .u8).R 5 W base (fun k => ok k ∧ k ≠ g) v xs := by
  refine Kd.R_mono (Kd.R_bound h) (fun k hk => ⟨hk.1, ?_⟩)
  rintro rfl
  obtain ⟨q, hq, cells, hc⟩ := hk.2.2.2
  have hq5 : q ∈ [5] := hq
  rw [hg] at hc
  injection hc with hc
  injection hc with _ hc _
  have : q = 5 := by simpa using hq5
  exact ht (hc.trans this)
def outB (H : List Int) (k : Nat) : List Int := [rd H k / 16777216 % 256, rd H k / 65536 % 256, rd H k / 256 % 256, rd H k % 256]
def outN (H : List Int) (n : Nat) : List Int := iter (fun k l => l ++ outB H k) n []
theorem outN_len (H : List Int) (n : Nat) : (outN H n).length = 4 * n := by
  induction n with
  | zero => rfl
  | succ n ih =>
    show (outN H n ++ outB H n).length = _
    rw [List.length_append, ih]
    show 4 * n + 4 = _
    omega
/-! ### spec_Sha: the reference's digest, walked by hand -/
theorem spec_turn (x n : Int) (h : 0 ≤ n) (h1 : n ≤ 32) : spec_l5Turn.f x n = some (rot x n) := by
  unfold spec_l5Turn.f
  have e : wrap64 (32 - n) = 32 - n := by unfold wrap64; omega
  rw [e, if_pos h, if_pos (by omega)]
  rfl
theorem spec_turn_calls (x n : Int) (h : 0 ≤ n) (h1 : n ≤ 32) (w : World) : Calls Try.prog 69 #[.int .u32 x, .int .i64 n] w fun e w' => e = .returned (.int .u32 (rot x n)) ∧ ∃ m, w' = w.drewN m :=
  (spec_l5Turn.calls x n _ w (spec_turn x n h h1)).mono fun _ _ h => ⟨h.1, h.2.out⟩
def keysL : List Int := [1116352408, 1899447441, 3049323471, 3921009573, 961987163, 1508970993, 2453635748, 2870763221, 3624381080, 310598401, 607225278, 1426881987, 1925078388, 2162078206, 2614888103, 3248222580, 3835390401, 4022224774, 264347078, 604807628, 770255983, 1249150122, 1555081692, 1996064986, 2554220882, 2821834349, 2952996808, 3210313671, 3336571891, 3584528711, 113926993, 338241895, 666307205, 773529912, 1294757372, 1396182291, 1695183700, 1986661051, 2177026350, 2456956037, 2730485921, 2820302411, 3259730800, 3345764771, 3516065817, 3600352804, 4094571909, 275423344, 430227734, 506948616, 659060556, 883997877, 958139571, 1322822218, 1537002063, 1747873779, 1955562222, 2024104815, 2227730452, 2361852424, 2428436474, 2756734187, 3204031479, 3329325298]
def startL : List Int := [1779033703, 3144134277, 1013904242, 2773480762, 1359893119, 2600822924, 528734635, 1541459225]
set_option maxHeartbeats 8000000 in
set_option maxRecDepth 100000 in
theorem spec_l5Keys.calls (w : World) : Calls Try.prog 70 #[] w fun e w' => e = .returned (.agg (U .u32 keysL)) ∧ Below w.heap.size w w' := by
  have HS : Aside0 (Arrs w w []) := ⟨Arrs.refl w⟩
  go_enter Try.func70, Try.ntmps70
  go_wp2_with (first
   | ((with_reducible refine gate_dst (N := 0) rfl ?_); refine box_arrs ?hg0 (N := 0) ?hd0 (U .u32 z64) 81 HS ?hr0 ?_; (case hd0 => rfl); (case hg0 => rfl); (case hr0 => first | (go_simp; done) | (go_simp; rfl)); intro g0 w0 h_; clear HS; have HS := h_; clear h_)
   | ((with_reducible refine gate_dst (N := 1) rfl ?_); refine build_event rfl (N := 1) rfl 81 _ rfl (U .u32 keysL) (by kernel_rfl) ?_)
   | ((with_reducible refine gate_store (t := 81) (p := 0) rfl ?_); refine store_arrs rfl 81 (.tmp 1) rfl rfl 0 (U .u32 keysL) HS rfl rfl rfl (info_U _ size81 rfl) rfl (U_one _ _) ?_; intro w5 h_; clear HS; have HS := h_; clear h_))
  exact bodyPost_ret (results_cell_row rfl _ _ _ 81 _ (0, 0) _ rfl (HS.out.get 0) Try.underlying81 rfl (info_U _ size81 rfl)) rfl ⟨rfl, HS.out.1⟩
set_option maxHeartbeats 8000000 in
set_option maxRecDepth 100000 in
theorem spec_l5Start.calls (w : World) : Calls Try.prog 40 #[] w fun e w' => e = .returned (.agg (U .i64 startL)) ∧ Below w.heap.size w w' := by
  have HS : Aside0 (Arrs w w []) := ⟨Arrs.refl w⟩
  go_enter Try.func40, Try.ntmps40
  go_wp2_with (first
   | ((with_reducible refine gate_dst (N := 0) rfl ?_); refine box_arrs ?hg0 (N := 0) ?hd0 (U .i64 z8) 22 HS ?hr0 ?_; (case hd0 => rfl); (case hg0 => rfl); (case hr0 => first | (go_simp; done) | (go_simp; rfl)); intro g0 w0 h_; clear HS; have HS := h_; clear h_)
   | ((with_reducible refine gate_dst (N := 1) rfl ?_); refine build_event rfl (N := 1) rfl 22 _ rfl (U .i64 startL) (by kernel_rfl) ?_)
   | ((with_reducible refine gate_store (t := 22) (p := 0) rfl ?_); refine store_arrs rfl 22 (.tmp 1) rfl rfl 0 (U .i64 startL) HS rfl rfl rfl (info_U _ size22 rfl) rfl (U_one _ _) ?_; intro w5 h_; clear HS; have HS := h_; clear h_))
  exact bodyPost_ret (results_cell_row rfl _ _ _ 22 _ (0, 0) _ rfl (HS.out.get 0) Try.underlying22 rfl (info_U _ size22 rfl)) rfl ⟨rfl, HS.out.1⟩
set_option maxHeartbeats 8000000 in
set_option maxRecDepth 100000 in
theorem spec_l5Block.calls (H : List Int) (hH8 : H.length = 8) (A : Option Addr) (c : Nat) (l : List Int) (w : World) (hr : Kd.C (Kd.int .u8) w A l.length l) (hlen : 64 ≤ l.length) :
    Calls Try.prog 60 #[.agg (U .i64 H), .slice A l.length c] w fun e w' => e = .returned (.agg (U .i64 (block_ keysL H l))) ∧ Below w.heap.size w w' := by
  have HR := Aside0.mk hr
  clear hr
  have HS : Aside0 (Arrs w w []) := ⟨Arrs.refl w⟩
  have LH := Aside0.mk hH8
  clear hH8
  go_enter Try.func60, Try.ntmps60
  go_wp2_with (first
   | ((with_reducible refine gate_dst (N := 2) rfl ?_); refine box_arrs ?hg2 (N := 2) ?hd2 (U .i64 H) 22 HS ?hr2 ?_; (case hd2 => rfl); (case hg2 => rfl); (case hr2 => first | (go_simp; done) | (go_simp; rfl)); intro g2 w2 h_; clear HS; have HS := h_; clear h_)
   | ((with_reducible refine gate_dst (N := 4) rfl ?_); refine box_arrs ?hg4 (N := 4) ?hd4 (U .i64 z8) 22 HS ?hr4 ?_; (case hd4 => rfl); (case hg4 => rfl); (case hr4 => first | (go_simp; done) | (go_simp; rfl)); intro g4 w4 h_; clear HS; have HS := h_; clear h_)
   | ((with_reducible refine gate_dst (N := 23) rfl ?_); refine build_event rfl (N := 23) rfl 81 #[] rfl (U .u32 z64) (by kernel_rfl) ?_)
   | ((with_reducible refine gate_dst (N := 5) rfl ?_); refine box_arrs ?hg5 (N := 5) ?hd5 (U .u32 z64) 81 HS ?hr5 ?_; (case hd5 => rfl); (case hg5 => rfl); (case hr5 => first | (go_simp; done) | (go_simp; rfl)); intro g5 w5 h_; clear HS; have HS := h_; clear h_)
   | ((with_reducible refine gate_store (t := 81) (p := 5) rfl ?_); refine store_arrs rfl 81 (.tmp 23) rfl rfl 0 (U .u32 z64) HS rfl rfl rfl (info_U _ size81 rfl) rfl (U_one _ _) ?_; intro w5 h_; clear HS; have HS := h_; clear h_))
  go_loopg [6] 16 (fun kq v6 w' => ∃ i : Nat, v6 = .int .i64 i ∧ i + kq = 16 ∧ Aside0 (Arrs w w' [(g5, U .u32 (fill (wrd l) i z64), 81), (g4, U .i64 z8, 22), (g2, U .i64 H, 22)]))
  case atStart => exact ⟨0, by go_num, by omega, HS⟩
  case round =>
    obtain ⟨i, rfl, hi, HS⟩ := hrel
    have hl : (fill (wrd l) i z64).length = 64 := fill_len _ i z64
    by_cases c : i < 16
    · have HC := Aside0.mk (Kd.C_below HR.out HS.out.1)
      obtain ⟨ad, e1, hx0⟩ := Kd.at_int HC.out (4 * i) (by omega) (by omega)
      obtain ⟨ad2, e2, hx1⟩ := Kd.at_int HC.out (4 * i + 1) (by omega) (by omega)
      obtain ⟨ad3, e3, hx2⟩ := Kd.at_int HC.out (4 * i + 2) (by omega) (by omega)
      obtain ⟨ad4, e4, hx3⟩ := Kd.at_int HC.out (4 * i + 3) (by omega) (by omega)
      subst e1
      obtain rfl := Option.some.inj e2
      obtain rfl := Option.some.inj e3
      obtain rfl := Option.some.inj e4
      clear e2 e3 e4
      have hfz := HS.out.free 0 i
      have hcl := HS.out.cell 0 i (by rw [hl]; omega)
      go_wp2
      have q0 : IntKind.i64.wrap (4 * (i : Int)) = 4 * i := IntWalk.i64_in _ (by omega)
      have q1 : IntKind.i64.wrap (4 * (i : Int) + 1) = 4 * i + 1 := IntWalk.i64_in _ (by omega)
      have q2 : IntKind.i64.wrap (4 * (i : Int) + 2) = 4 * i + 2 := IntWalk.i64_in _ (by omega)
      have q3 : IntKind.i64.wrap (4 * (i : Int) + 3) = 4 * i + 3 := IntWalk.i64_in _ (by omega)
      have r0 : 0 ≤ 4 * (i : Int) ∧ 0 ≤ 4 * (i : Int) + 1 ∧ 0 ≤ 4 * (i : Int) + 2 ∧ 0 ≤ 4 * (i : Int) + 3 ∧ 4 * (i : Int) < l.length ∧ 4 * (i : Int) + 1 < l.length ∧ 4 * (i : Int) + 2 < l.length ∧ 4 * (i : Int) + 3 < l.length := by omega
      refine wp_region_still_tail 35 (by kernel_rfl) (by kernel_rfl) ?_
      simp only [List.take_succ_cons, List.take_zero, List.drop_succ_cons, List.drop_zero]
      have q64 : (i : Int) < 64 := by omega
      repeat still_step
      refine wpStill_nil ?_
      change wpList _ _ _ _ _ wr.drew
      go_wp2
      go_roundg (gk - 1)
      case measure => omega
      case rel => exact ⟨i + 1, by go_num, by omega, ⟨HS.out.drew1.putU 0 i (wrd l i)⟩⟩
    · obtain rfl : i = 16 := by omega
      clear c
      go_wp2
      go_loopg [7] 48 (fun kq v7 w' => ∃ t i : Nat, v7 = .int .i64 t ∧ Aside0 (t = 16 + i) ∧ 16 ≤ t ∧ t ≤ 64 ∧ Aside0 (i + kq = 48) ∧ Aside0 (Arrs w w' [(g5, U .u32 (mores i (fill (wrd l) 16 z64)), 81), (g4, U .i64 z8, 22), (g2, U .i64 H, 22)]))
      case atStart => exact ⟨16, 0, by go_num, ⟨rfl⟩, by omega, by omega, ⟨by omega⟩, HS⟩
      case round =>
        clear hl
        obtain ⟨t, i, rfl, HT, ht, ht2, HK, HS⟩ := hrel
        have hl : (mores i (fill (wrd l) 16 z64)).length = 64 := by rw [more_len, fill_len]; rfl
        obtain ⟨L, hL⟩ : ∃ L, L = mores i (fill (wrd l) 16 z64) := ⟨_, rfl⟩
        rw [← hL] at HS hl
        have NL := Aside0.mk hL
        clear hL
        by_cases c : t < 64
        · have hc0 := HS.out.cell (l := L) 0 (t - 15) (by omega)
          have hc1 := HS.out.cell (l := L) 0 (t - 2) (by omega)
          have hc2 := HS.out.cell (l := L) 0 (t - 7) (by omega)
          have hc3 := HS.out.cell (l := L) 0 (t - 16) (by omega)
          have hc4 := HS.out.cell (l := L) 0 t (by omega)
          have hfz := HS.out.free 0 t
          have LL := Aside0.mk hl
          clear hl
          go_wp2
          go_quiet (fail)
          go_wp2_with (first | (go_at_call 69; refine (spec_turn_calls _ _ (by omega) (by omega) _).mono ?_; rintro e w' ⟨rfl, ⟨m, rfl⟩⟩))
          refine gwC_ (fun w6 hw => ?_)
          have HS6 : Aside0 (Arrs w w6 _) := ⟨(HS.out.drewN _).at_ hw⟩
          clear hw HS hc0 hc1 hc2 hc3 hc4 hfz
          have HS := HS6
          clear HS6
          have hl := LL.out
          have hc2 := HS.out.cell (l := L) 0 (t - 7) (by omega)
          have hc3 := HS.out.cell (l := L) 0 (t - 16) (by omega)
          have hc4 := HS.out.cell (l := L) 0 t (by omega)
          have hfz := HS.out.free 0 t
          clear hl
          have q0 : IntKind.i64.wrap ((t : Int) - 7) = t - 7 := IntWalk.i64_in _ (by omega)
          have q1 : IntKind.i64.wrap ((t : Int) - 16) = t - 16 := IntWalk.i64_in _ (by omega)
          have r0 : 7 ≤ (t : Int) ∧ 16 ≤ (t : Int) ∧ 0 ≤ (t : Int) - 7 ∧ 0 ≤ (t : Int) - 16 ∧ (t : Int) - 7 < 64 ∧ (t : Int) - 16 < 64 ∧ (t : Int) < 64 := by omega
          have n0 : ((t : Int) - 7).toNat = t - 7 := by omega
          have n1 : ((t : Int) - 16).toNat = t - 16 := by omega
          refine wp_region_still_tail 15 (by kernel_rfl) (by kernel_rfl) ?_
          simp only [List.take_succ_cons, List.take_zero, List.drop_succ_cons, List.drop_zero]
          repeat still_step
          refine wpStill_nil ?_
          change wpList _ _ _ _ _ w6.drew
          go_wp2
          go_roundg (gk - 1)
          case measure => have := HK.out; have := HT.out; omega
          case rel => exact ⟨t + 1, i + 1, by go_num, ⟨by have := HT.out; omega⟩, by omega, by omega, ⟨by have := HK.out; have := HT.out; omega⟩, ⟨by have h := (HS.out.putU 0 t ((sig1 (rd L ((t - 2 : Nat) : Int)) + rd L ((t - 7 : Nat) : Int) + sig0 (rd L ((t - 15 : Nat) : Int)) + rd L ((t - 16 : Nat) : Int)) % 4294967296)).drew1; have e : more (16 + i) L = _ := rfl; rw [← HT.out, NL.out] at e; show Arrs w _ [(g5, U .u32 (more (16 + i) (mores i (fill (wrd l) 16 z64))), 81), (g4, U .i64 z8, 22), (g2, U .i64 H, 22)]; rw [← NL.out, ← HT.out]; exact h⟩⟩
        · obtain rfl : t = 64 := by omega
          obtain rfl : i = 48 := by have := HT.out; omega
          clear c HK HT ht ht2
          have LL := Aside0.mk hl
          clear hl
          go_wp2_with (first
           | (go_at_call 70; refine (spec_l5Keys.calls _).mono ?_; rintro e w' ⟨rfl, hb⟩; have h_ := Aside0.mk (HS.out.below hb); clear HS hb; have HS := h_; clear h_)
           | ((with_reducible refine gate_dst (N := 12) rfl ?_); refine box_arrs ?hg12 (N := 12) ?hd12 (U .u32 z64) 81 HS ?hr12 ?_; (case hd12 => rfl); (case hg12 => rfl); (case hr12 => first | (go_simp; done) | (go_simp; rfl)); intro g12 w12 h_; clear HS; have HS := h_; clear h_)
           | ((with_reducible refine gate_store (t := 81) (p := 12) rfl ?_); refine store_arrs rfl 81 (.tmp 106) rfl rfl 0 (U .u32 keysL) HS rfl rfl rfl (info_U _ size81 rfl) rfl (U_one _ _) ?_; intro w5 h_; clear HS; have HS := h_; clear h_)
           | ((with_reducible refine gate_dst (N := 107) rfl ?_); refine build_event rfl (N := 107) rfl 79 #[] rfl (U .u32 z8) (by kernel_rfl) ?_)
           | ((with_reducible refine gate_dst (N := 13) rfl ?_); refine box_arrs ?hg13 (N := 13) ?hd13 (U .u32 z8) 79 HS ?hr13 ?_; (case hd13 => rfl); (case hg13 => rfl); (case hr13 => first | (go_simp; done) | (go_simp; rfl)); intro g13 w13 h_; clear HS; have HS := h_; clear h_)
           | ((with_reducible refine gate_store (t := 79) (p := 13) rfl ?_); refine store_arrs rfl 79 (.tmp 107) rfl rfl 0 (U .u32 z8) HS rfl rfl rfl (info_U _ size79 rfl) rfl (U_one _ _) ?_; intro w5 h_; clear HS; have HS := h_; clear h_))
          go_loopg [14] 8 (fun kq v14 w' => ∃ i : Nat, v14 = .int .i64 i ∧ i + kq = 8 ∧ Aside0 (Arrs w w' [(g13, U .u32 (fill (fun i => IntKind.u32.wrap (rd H i)) i z8), 79), (g12, U .u32 keysL, 81), (g5, U .u32 L, 81), (g4, U .i64 z8, 22), (g2, U .i64 H, 22)]))
          case atStart => exact ⟨0, by go_num, by omega, HS⟩
          case round =>
            obtain ⟨i, rfl, hi, HS⟩ := hrel
            have hl : (fill (fun i => IntKind.u32.wrap (rd H i)) i z8).length = 8 := fill_len _ i z8
            by_cases c : i < 8
            · have hc0 := HS.out.cell (l := H) 4 i (by have := LH.out; omega)
              have hc1 := HS.out.cell 0 i (by rw [hl]; omega)
              have hfz := HS.out.free 0 i
              clear hl
              go_wp2
              go_roundg (gk - 1)
              case measure => omega
              case rel => exact ⟨i + 1, by go_num, by omega, ⟨HS.out.putU 0 i _⟩⟩
            · obtain rfl : i = 8 := by omega
              clear c
              go_wp2
              go_loopg [15] 64 (fun kq v15 w' => ∃ i : Nat, v15 = .int .i64 i ∧ i + kq = 64 ∧ Aside0 (Arrs w w' [(g13, U .u32 (rounds_ keysL L i (wds H)), 79), (g12, U .u32 keysL, 81), (g5, U .u32 L, 81), (g4, U .i64 z8, 22), (g2, U .i64 H, 22)]))
              case atStart => exact ⟨0, by go_num, by omega, HS⟩
              case round =>
                obtain ⟨i, rfl, hi, HS⟩ := hrel
                have hl := rounds_len keysL L i (wds H) (fill_len _ _ _)
                obtain ⟨V, hV⟩ : ∃ V, V = rounds_ keysL L i (wds H) := ⟨_, rfl⟩
                rw [← hV] at HS hl
                have NV := Aside0.mk hV
                clear hV
                by_cases c : i < 64
                · have e0 : wr.cell? ⟨g13, 0, none⟩ = some (.int .u32 (rd V 0)) := HS.out.cell 0 0 (by rw [hl]; omega)
                  have e1 : wr.cell? ⟨g13, 1, none⟩ = some (.int .u32 (rd V 1)) := HS.out.cell 0 1 (by rw [hl]; omega)
                  have e2 : wr.cell? ⟨g13, 2, none⟩ = some (.int .u32 (rd V 2)) := HS.out.cell 0 2 (by rw [hl]; omega)
                  have e3 : wr.cell? ⟨g13, 3, none⟩ = some (.int .u32 (rd V 3)) := HS.out.cell 0 3 (by rw [hl]; omega)
                  have e4 : wr.cell? ⟨g13, 4, none⟩ = some (.int .u32 (rd V 4)) := HS.out.cell 0 4 (by rw [hl]; omega)
                  have e5 : wr.cell? ⟨g13, 5, none⟩ = some (.int .u32 (rd V 5)) := HS.out.cell 0 5 (by rw [hl]; omega)
                  have e6 : wr.cell? ⟨g13, 6, none⟩ = some (.int .u32 (rd V 6)) := HS.out.cell 0 6 (by rw [hl]; omega)
                  have e7 : wr.cell? ⟨g13, 7, none⟩ = some (.int .u32 (rd V 7)) := HS.out.cell 0 7 (by rw [hl]; omega)
                  have hc1 := HS.out.cell (l := keysL) 1 i c
                  have hc2 := HS.out.cell (l := L) 2 i (by have := LL.out; omega)
                  have HL := Aside0.mk hl
                  clear hl
                  have q64 : (i : Int) < 64 := by omega
                  go_wp2
                  go_quiet (fail)
                  go_wp2
                  refine gwC_ (fun w6 hw => ?_)
                  have h_ : Aside0 (Arrs w w6 _) := ⟨(HS.out.drewN _).at_ hw⟩
                  have hl := HL.out
                  clear hw HS e0 e1 e2 e3 e4 e5 e6 e7 hc1 hc2
                  have HS := h_
                  clear h_
                  have e5 : w6.cell? ⟨g13, 5, none⟩ = some (.int .u32 (rd V 5)) := HS.out.cell 0 5 (by rw [hl]; omega)
                  have e6 : w6.cell? ⟨g13, 6, none⟩ = some (.int .u32 (rd V 6)) := HS.out.cell 0 6 (by rw [hl]; omega)
                  have e7 : w6.cell? ⟨g13, 7, none⟩ = some (.int .u32 (rd V 7)) := HS.out.cell 0 7 (by rw [hl]; omega)
                  have hc1 := HS.out.cell (l := keysL) 1 i c
                  have hc2 := HS.out.cell (l := L) 2 i (by have := LL.out; omega)
                  clear hl
                  go_quiet ((go_at_call 69; exact Calls.quiet_of (spec_turn_calls _ _ (by omega) (by omega) _)))
                  go_wp2
                  refine gwC_ (fun w7 hw => ?_)
                  have h_ : Aside0 (Arrs w w7 _) := ⟨(HS.out.drewN _).at_ hw⟩
                  have hl := HL.out
                  clear hw HS e5 e6 e7 hc1 hc2
                  have HS := h_
                  clear h_
                  have e1 : w7.cell? ⟨g13, 1, none⟩ = some (.int .u32 (rd V 1)) := HS.out.cell 0 1 (by rw [hl]; omega)
                  have e2 : w7.cell? ⟨g13, 2, none⟩ = some (.int .u32 (rd V 2)) := HS.out.cell 0 2 (by rw [hl]; omega)
                  have e3 : w7.cell? ⟨g13, 3, none⟩ = some (.int .u32 (rd V 3)) := HS.out.cell 0 3 (by rw [hl]; omega)
                  have e5 : w7.cell? ⟨g13, 5, none⟩ = some (.int .u32 (rd V 5)) := HS.out.cell 0 5 (by rw [hl]; omega)
                  have e6 : w7.cell? ⟨g13, 6, none⟩ = some (.int .u32 (rd V 6)) := HS.out.cell 0 6 (by rw [hl]; omega)
                  clear hl
                  go_quiet ((go_at_call 69; exact Calls.quiet_of (spec_turn_calls _ _ (by omega) (by omega) _)))
                  go_wp2_with (first
                   | ((with_reducible refine gate_dst (N := 197) rfl ?_); refine build_event rfl (N := 197) rfl 79 _ rfl (U .u32 (round_ V (rd keysL i) (rd L i))) (by kernel_rfl) ?_)
                   | ((with_reducible refine gate_dst (N := 20) rfl ?_); refine box_arrs ?hg20 (N := 20) ?hd20 (U .u32 z8) 79 ⟨HS.out.drewN _⟩ ?hr20 ?_; (case hd20 => rfl); (case hg20 => rfl); (case hr20 => first | (go_simp; done) | (go_simp; rfl)); intro g20 w20 h_; clear HS; have HS := h_; clear h_)
                   | ((with_reducible refine gate_store (t := 79) (p := 20) rfl ?_); refine store_arrs rfl 79 (.tmp 197) rfl rfl 0 (U .u32 (round_ V (rd keysL i) (rd L i))) HS rfl rfl rfl (info_U _ size79 rfl) rfl (U_one _ _) ?_; intro w5 h_; clear HS; have HS := h_; clear h_)
                   | ((with_reducible refine gate_dst (N := 198) rfl ?_); refine load_arrs rfl (N := 198) rfl 79 (.tmp 20) rfl 0 HS rfl rfl Try.underlying79 rfl (info_U _ size79 rfl) ?_)
                   | ((with_reducible refine gate_store (t := 79) (p := 13) rfl ?_); refine store_arrs rfl 79 (.tmp 198) rfl rfl 1 (U .u32 (round_ V (rd keysL i) (rd L i))) HS rfl rfl rfl (info_U _ size79 rfl) (by rw [U_size, HL.out]; rfl) (U_one _ _) ?_; intro w5 h_; clear HS; have HS := h_; clear h_))
                  go_roundg (gk - 1)
                  case measure => omega
                  case rel => exact ⟨i + 1, by go_num, by omega, ⟨by have h := HS.out.drop; rw [NV.out] at h; exact h⟩⟩
                · obtain rfl : i = 64 := by omega
                  clear c
                  go_wp2_with (first
                   | ((with_reducible refine gate_dst (N := 199) rfl ?_); refine build_event rfl (N := 199) rfl 22 #[] rfl (U .i64 z8) (by kernel_rfl) ?_)
                   | ((with_reducible refine gate_dst (N := 21) rfl ?_); refine box_arrs ?hg21 (N := 21) ?hd21 (U .i64 z8) 22 HS ?hr21 ?_; (case hd21 => rfl); (case hg21 => rfl); (case hr21 => first | (go_simp; done) | (go_simp; rfl)); intro g21 w21 h_; clear HS; have HS := h_; clear h_)
                   | ((with_reducible refine gate_store (t := 22) (p := 21) rfl ?_); refine store_arrs rfl 22 (.tmp 199) rfl rfl 0 (U .i64 z8) HS rfl rfl rfl (info_U _ size22 rfl) rfl (U_one _ _) ?_; intro w5 h_; clear HS; have HS := h_; clear h_))
                  have HL := Aside0.mk hl
                  clear hl
                  go_loopg [22] 8 (fun kq v22 w' => ∃ i : Nat, v22 = .int .i64 i ∧ i + kq = 8 ∧ Aside0 (Arrs w w' [(g21, U .i64 (fill (fun i => (rd H i + rd V i) % 4294967296) i z8), 22), (g13, U .u32 V, 79), (g12, U .u32 keysL, 81), (g5, U .u32 L, 81), (g4, U .i64 z8, 22), (g2, U .i64 H, 22)]))
                  case atStart => exact ⟨0, by go_num, by omega, HS⟩
                  case round =>
                    obtain ⟨i, rfl, hi, HS⟩ := hrel
                    by_cases c : i < 8
                    · have hc0 := HS.out.cell (l := H) 5 i (by have := LH.out; omega)
                      have hc1 := HS.out.cell (l := V) 1 i (by have := HL.out; omega)
                      have hc2 := HS.out.cell (l := fill (fun i => (rd H i + rd V i) % 4294967296) i z8) 0 i (by rw [fill_len]; exact c)
                      have hfz := HS.out.free 0 i
                      have q8 : (i : Int) < 8 := by omega
                      go_wp2
                      refine wp_region_still_tail 11 (by kernel_rfl) (by kernel_rfl) ?_
                      simp only [List.take_succ_cons, List.take_zero, List.drop_succ_cons, List.drop_zero]
                      repeat still_step
                      refine wpStill_nil ?_
                      change wpList _ _ _ _ _ wr.drew
                      go_wp2
                      go_roundg (gk - 1)
                      case measure => omega
                      case rel => exact ⟨i + 1, by go_num, by omega, ⟨by have h := (HS.out.putU 0 i ((rd H i + rd V i) % 4294967296)).drew1; rw [w32]; exact h⟩⟩
                    · obtain rfl : i = 8 := by omega
                      clear c
                      have hl : (fill (fun i => (rd H i + rd V i) % 4294967296) 8 z8).length = 8 := fill_len _ _ _
                      go_wp2_with (first
                       | ((with_reducible refine gate_dst (N := 215) rfl ?_); refine load_arrs rfl (N := 215) rfl 22 (.tmp 21) rfl 0 HS rfl rfl Try.underlying22 rfl (info_U _ size22 hl) ?_)
                       | ((with_reducible refine gate_store (t := 22) (p := 4) rfl ?_); refine store_arrs rfl 22 (.tmp 215) rfl rfl 4 (U .i64 (fill (fun i => (rd H i + rd V i) % 4294967296) 8 z8)) HS rfl rfl rfl (info_U _ size22 hl) (by rw [U_size, U_size, hl]; rfl) (U_one _ _) ?_; intro w5 h_; clear HS; have HS := h_; clear h_))
                      refine bodyPost_ret (results_cell_row rfl _ _ _ 22 _ (0, 0) _ rfl (HS.out.get 4) Try.underlying22 rfl (info_U _ size22 hl)) rfl ⟨by rw [NV.out, NL.out]; rfl, HS.out.1⟩
theorem SV_set8 (H : List Int) (h : H.length = 8) (v v' : Value) (m : Int) : (SV H v m).setIfInBounds 8 v' = SV H v' m := by
  match H, h with
  | [h0, h1, h2, h3, h4, h5, h6, h7], _ => rfl
theorem SV_set9 (H : List Int) (h : H.length = 8) (v : Value) (m m' : Int) : (SV H v m).setIfInBounds 9 (.int .i64 m') = SV H v m' := by
  match H, h with
  | [h0, h1, h2, h3, h4, h5, h6, h7], _ => rfl
theorem blk_SV {W : World} {g : Nat} {H : List Int} {v : Value} {m : Int} {t : TypeId} (h : W.heap[g]? = some (.cells (SV H v m) t (0, 0))) (i : Nat) (x : Int) (hi : i < H.length) : (W.setCell ⟨g, i, none⟩ (.int .i64 x)).heap[g]? = some (.cells (SV (H.set i x) v m) t (0, 0)) := by
  rw [blk_set h, SV_set H v m i x hi]
/-- A stream's numbers are written, all eight. -/
theorem Arrs.mid {w0 W : World} {xs : List (Nat × Array Value × TypeId)} {g : Nat} {H H' : List Int} {v : Value} {m : Int} {t : TypeId} (h : Arrs w0 W xs) (i : Nat) (hH : H.length = 8) (hH' : H'.length = 8) (e : xs[i]? = some (g, SV H v m, t) := by rfl) : Arrs w0 (W.setCells g 0 (U .i64 H').toList) (xs.set i (g, SV H' v m, t)) := by
  have hb := h.get i e
  have hg := h.ge i e
  match H, H', hH, hH' with
  | [h0, h1, h2, h3, h4, h5, h6, h7], [a0, a1, a2, a3, a4, a5, a6, a7], _, _ =>
    have es : W.setCells g 0 (U .i64 [a0, a1, a2, a3, a4, a5, a6, a7]).toList = (((((((W.setCell ⟨g, 0, none⟩ (.int .i64 a0)).setCell ⟨g, 1, none⟩ (.int .i64 a1)).setCell ⟨g, 2, none⟩ (.int .i64 a2)).setCell ⟨g, 3, none⟩ (.int .i64 a3)).setCell ⟨g, 4, none⟩ (.int .i64 a4)).setCell ⟨g, 5, none⟩ (.int .i64 a5)).setCell ⟨g, 6, none⟩ (.int .i64 a6)).setCell ⟨g, 7, none⟩ (.int .i64 a7) := rfl
    rw [es]
    refine h.turn i e (below_set (below_set (below_set (below_set (below_set (below_set (below_set (below_set h.1 hg) hg) hg) hg) hg) hg) hg) hg) ?_ (fun k hk => ?_)
    · exact blk_SV (blk_SV (blk_SV (blk_SV (blk_SV (blk_SV (blk_SV (blk_SV hb 0 a0 (by simp)) 1 a1 (by simp)) 2 a2 (by simp)) 3 a3 (by simp)) 4 a4 (by simp)) 5 a5 (by simp)) 6 a6 (by simp)) 7 a7 (by simp)
    · rw [heap_setCell_other _ _ k _ hk, heap_setCell_other _ _ k _ hk, heap_setCell_other _ _ k _ hk, heap_setCell_other _ _ k _ hk, heap_setCell_other _ _ k _ hk, heap_setCell_other _ _ k _ hk, heap_setCell_other _ _ k _ hk, heap_setCell_other _ _ k _ hk]
theorem SV_range {W : World} {g : Nat} {H : List Int} {v : Value} {m : Int} {t : TypeId} (hH : H.length = 8) (hb : W.heap[g]? = some (.cells (SV H v m) t (0, 0))) : W.rangeAt g 0 (U .i64 H).toList := by
  intro j u hj
  have hj8 : j < H.length := by
    have := (List.getElem?_eq_some_iff.1 hj).1
    simpa [U] using this
  have e1 : (U .i64 H)[j]? = some u := by simpa using hj
  rw [U_get _ _ _ hj8] at e1
  obtain rfl := Option.some.inj e1
  rw [Nat.zero_add]
  exact (blk_cell hb j).trans (SV_at H v m j hj8)
theorem SV_there {W : World} {g n : Nat} {H : List Int} {v : Value} {m : Int} {t : TypeId} (hH : H.length = 8) (hn : n = 8) (hb : W.heap[g]? = some (.cells (SV H v m) t (0, 0))) : W.there g 0 n := by
  intro j hj
  rw [Nat.zero_add]
  refine ⟨?_, blk_frozen hb j⟩
  rw [blk_cell hb j, SV_at H v m j (by omega)]
  rfl
theorem setCells_keep {W : World} {g : Nat} {H' : List Int} (hH' : H'.length = 8) : W.heap.size ≤ (W.setCells g 0 (U .i64 H').toList).heap.size ∧ ∀ k, k ≠ g → (W.setCells g 0 (U .i64 H').toList).heap[k]? = W.heap[k]? := by
  match H', hH' with
  | [a0, a1, a2, a3, a4, a5, a6, a7], _ =>
    have es : W.setCells g 0 (U .i64 [a0, a1, a2, a3, a4, a5, a6, a7]).toList = (((((((W.setCell ⟨g, 0, none⟩ (.int .i64 a0)).setCell ⟨g, 1, none⟩ (.int .i64 a1)).setCell ⟨g, 2, none⟩ (.int .i64 a2)).setCell ⟨g, 3, none⟩ (.int .i64 a3)).setCell ⟨g, 4, none⟩ (.int .i64 a4)).setCell ⟨g, 5, none⟩ (.int .i64 a5)).setCell ⟨g, 6, none⟩ (.int .i64 a6)).setCell ⟨g, 7, none⟩ (.int .i64 a7) := rfl
    rw [es]
    refine ⟨by simp [World.setCell], fun k hk => ?_⟩
    rw [heap_setCell_other _ _ k _ hk, heap_setCell_other _ _ k _ hk, heap_setCell_other _ _ k _ hk, heap_setCell_other _ _ k _ hk, heap_setCell_other _ _ k _ hk, heap_setCell_other _ _ k _ hk, heap_setCell_other _ _ k _ hk, heap_setCell_other _ _ k _ hk]
/-- Two blocks that are as they were, in a world that is told otherwise. -/
theorem Arrs.moved {w0 W W' : World} {g h : Nat} {cs ds : Array Value} {t u : TypeId} (k : Arrs w0 W [(g, cs, t), (h, ds, u)]) (hb : Below w0.heap.size w0 W') (hg : W'.heap[g]? = some (.cells cs t (0, 0))) (hh : W'.heap[h]? = some (.cells ds u (0, 0))) : Arrs w0 W' [(g, cs, t), (h, ds, u)] := by
  refine ⟨hb, fun i g1 c1 t1 e => ⟨k.ge i e, ?_⟩, k.2.2⟩
  match i, e with
  | 0, e =>
    simp only [List.getElem?_cons_zero, Option.some.injEq, Prod.mk.injEq] at e
    obtain ⟨rfl, rfl, rfl⟩ := e
    exact hg
  | 1, e =>
    simp only [List.getElem?_cons_zero, List.getElem?_cons_succ, Option.some.injEq, Prod.mk.injEq] at e
    obtain ⟨rfl, rfl, rfl⟩ := e
    exact hh
  | _ + 2, e => simp at e

section
variable {P : Program} {ops : Array Oper} {rest : List Oper} {o : Oper} {a : Act} {Q : Exit → Act → World → Prop} {W w0 : World}
/-- A slice is written into one cell. -/
theorem store_one (hgd : o.guard = none) (ty : TypeId) {p : Tmp} (y : Operand) (ho : o.op = .store ty (.tmp p) y) (hN : o.dst = none) (i : Nat) (j : Nat) (v : Value) {xs : List (Nat × Array Value × TypeId)} {g : Nat} {old : Array Value} {t : TypeId} (HS : Aside0 (Arrs w0 W xs)) (e : xs[i]? = some (g, old, t))
    (hx : a.eval (.tmp p) = .pointer (some ⟨g, j, none⟩)) (hy : a.eval y = v) {u : Value} (hold : old[j]? = some u) (h1 : v.oneCell' = true) (hv : ∃ A n c, v = .slice A n c)
    (hu : ∃ e, P.underlying ty = some (.slice e)) (hi : (P.info? ty).map (·.size) = some 1)
    (h : ∀ w1, Aside0 (Arrs w0 w1 (xs.set i (g, old.setIfInBounds j v, t))) → (∀ k, k ≠ g → w1.heap[k]? = W.heap[k]?) → wpList P ops Q rest a w1) : wpList P ops Q (o :: rest) a W := by
  have hc : W.cell? ⟨g, j, none⟩ = some u := (blk_cell (HS.out.get i e) j).trans hold
  have hf := HS.out.free i j e
  refine wpList_plain hgd fun K hK => ?_
  have hrun : (execOp a.eval o).run P W = .ok .skip (W.setCell ⟨g, j, none⟩ v) := by
    obtain ⟨A, n, c, rfl⟩ := hv
    obtain ⟨e1, he⟩ := hu
    unfold execOp
    simp only [ho, hx, hy]
    cases hq : P.info? ty with
    | none => simp [hq] at hi
    | some ii =>
      have hs : ii.size = 1 := by simpa [hq] using hi
      have hst := Go.Lib.rl_storeVar_one ty ii hq hs ⟨g, j, none⟩ (.slice A n c) u rfl W hc hf
      simp only [Instr.storeAt, Instr.sureAddr, Sem.run_bind, Sem.run_pure, Result.andThen_ok, hst]
  unfold Oper.wp
  rw [hrun]
  show K (a.put o.dst undef) _
  rw [hN]
  exact hK _ _ (h _ ⟨HS.out.put i j v e⟩ (fun k hk => heap_setCell_other W ⟨g, j, none⟩ k v hk))
end
theorem Arrs.put8 {w0 W : World} {xs : List (Nat × Array Value × TypeId)} {g : Nat} {H : List Int} {v : Value} {m : Int} {t : TypeId} (h : Arrs w0 W xs) (i : Nat) (v' : Value) (hH : H.length = 8) (e : xs[i]? = some (g, SV H v m, t) := by rfl) : Arrs w0 (W.setCell ⟨g, 8, none⟩ v') (xs.set i (g, SV H v' m, t)) := by
  have h1 := h.put i 8 v' e
  rw [SV_set8 H hH] at h1
  exact h1
theorem block_len (K H b : List Int) : (block_ K H b).length = 8 := by
  unfold block_
  rw [fill_len]
  rfl
/-- What is fed to the reference: the numbers behind all whole blocks, and what is left. -/
def feedS (K : List Int) : Nat → List Int → List Int → List Int × List Int
  | 0, h, b => (h, b)
  | n + 1, h, b => if 64 ≤ b.length then feedS K n (block_ K h (b.take 64)) (b.drop 64) else (h, b)
theorem feedS_succ (K : List Int) (n : Nat) (h b : List Int) : feedS K (n + 1) h b = if 64 ≤ b.length then feedS K n (block_ K h (b.take 64)) (b.drop 64) else (h, b) := rfl
theorem feedS_len (K : List Int) (n : Nat) (h b : List Int) (hh : h.length = 8) : (feedS K n h b).1.length = 8 := by
  induction n generalizing h b with
  | zero => exact hh
  | succ n ih =>
    rw [feedS_succ]
    split
    · exact ih _ _ (block_len _ _ _)
    · exact hh
theorem feedS_rest (K : List Int) (n : Nat) (h b : List Int) : (feedS K n h b).2.length ≤ b.length := by
  induction n generalizing h b with
  | zero => exact Nat.le_refl _
  | succ n ih =>
    rw [feedS_succ]
    split
    · refine Nat.le_trans (ih _ _) ?_
      rw [List.length_drop]
      omega
    · exact Nat.le_refl _
def sfFact (b h : List Int) (Ab : Option Addr) (cb : Nat) (g2 : Nat) : Nat → Value → World → Prop
  | 0, v, _ => v = .pointer (some ⟨g2, 0, none⟩)
  | 1, v, _ => v = .agg (U .i64 h)
  | 2, v, _ => v = .slice Ab b.length cb
  | 3, v, _ => v = .slice Ab (b.take 64).length cb
  | 4, v, _ => v = .agg (U .i64 (block_ keysL h (b.take 64)))
  | 5, v, _ => v = .pointer (some ⟨g2, 0, none⟩)
  | _, _, _ => True
theorem sfFact_grow {b h : List Int} {Ab : Option Addr} {cb : Nat} {g2 : Nat} {W W' : World} (j : Nat) (v : Value) (hh : sfFact b h Ab cb g2 j v W) : sfFact b h Ab cb g2 j v W' := by
  match j, hh with
  | 0, h | 1, h | 2, h | 3, h | 4, h | 5, h => exact h
  | _ + 6, _ => exact trivial
set_option maxHeartbeats 8000000 in
set_option maxRecDepth 100000 in
theorem spec_l5Feed_ (H0_ : List Int) (hH8 : H0_.length = 8) (A A2 : Option Addr) (c c2 : Nat) (l d : List Int) (m0 : Int) (w : World) (h1 : Kd.C (Kd.int .u8) w A l.length l) (hlc : l.length ≤ c) (h2 : Kd.C (Kd.int .u8) w A2 d.length d) (hl : l.length + d.length ≤ 1000000000000) (hm0 : 0 ≤ m0) (hm1 : m0 ≤ 1000000000000) :
    Calls Try.prog 44 #[.agg (SV H0_ (.slice A l.length c) m0), .slice A2 d.length c2] w fun e w' => ∃ vr : Value, e = .returned (.agg (SV (feedS keysL (l ++ d).length H0_ (l ++ d)).1 vr (m0 + d.length))) ∧ Kd.R (Kd.int .u8) 5 w' w.heap.size (fun _ => True) vr (feedS keysL (l ++ d).length H0_ (l ++ d)).2 ∧ Below w.heap.size w w' := by
  have H1 := Aside0.mk h1
  have H2 := Aside0.mk h2
  have LH := Aside0.mk hH8
  clear h1 h2 hH8
  have HS : Aside0 (Arrs w w []) := ⟨Arrs.refl w⟩
  have qm : 0 ≤ m0 + (d.length : Int) ∧ m0 + (d.length : Int) ≤ 3000000000000 := by omega
  go_enter Try.func44, Try.ntmps44
  go_wp2_with (first
   | ((with_reducible refine gate_dst (N := 2) rfl ?_); refine box_arrs ?hg2 (N := 2) ?hd2 (SV H0_ (.slice A l.length c) m0) 28 HS ?hr2 ?_; (case hd2 => rfl); (case hg2 => rfl); (case hr2 => first | (go_simp; done) | (go_simp; rfl)); intro g2 w2 h_; clear HS; have HS := h_; clear h_)
   | ((with_reducible refine gate_dst (N := 4) rfl ?_); refine box_arrs ?hg4 (N := 4) ?hd4 (SV z8 (.slice none 0 0) 0) 28 HS ?hr4 ?_; (case hd4 => rfl); (case hg4 => rfl); (case hr4 => first | (go_simp; done) | (go_simp; rfl)); intro g4 w4 h_; clear HS; have HS := h_; clear h_; have hc8 : w4.cell? ⟨g2, 8, none⟩ = some (.slice A l.length c) := (blk_cell (HS.out.get 1) 8).trans (SV_rest _ _ _ LH.out); have hc9 : w4.cell? ⟨g2, 9, none⟩ = some (.int .i64 m0) := (blk_cell (HS.out.get 1) 9).trans (SV_many _ _ _ LH.out))
   | (go_at_call 55; ((refine (spec_l1Bytes.calls A c l l _ (Kd.C_below H1.out HS.out.1) hlc (by unfold spec_l1Bytes.f; simp only [Option.bind_some, List.length_nil, List.nil_append]; exact if_pos (by omega))).mono ?_); rintro e w5 ⟨v8, rfl, ho, hb⟩; have h_ := Aside0.mk (HS.out.below hb); have HO := Aside0.mk (Kd.R_mono (Kd.R_lower ho (below_size HS.out.1)) (fun _ hk => hk)); clear HS hb ho hc8 hc9; have HS := h_; clear h_))
   | ((with_reducible refine gate_builtin (b := .append) (xs := #[.tmp 8, .tmp 9]) rfl ?_); at_builtin; refine Kd.R_append_rows (Kd.int .u8) (w0 := w) w.heap.size rfl (.tmp 8) (.tmp 9) 23 5 (.int .u8 0) 1 rfl Try.underlying23 info5 rfl (by decide) (by omega) v8 l d _ _ _ (fun _ => True) (fun _ => False) rfl rfl ?aO ?aR (fun _ _ h => h) (fun _ h => h.elim) ?aF ?aB ?aS ?aL ?_; (case aR => exact (Kd.C_below H2.out HS.out.1)); (case aB => exact HS.out.1); (case aF => exact (fun _ _ => trivial)); (case aO => exact HO.out); (case aS => exact below_size HS.out.1); (case aL => omega); intro v10 w10 ho hb hg hat; have hg2 := blk_grown (HS.out.get 1) hg (Kd.R_ne HO.out (HS.out.get 1) (by decide)); have hg4 := blk_grown (HS.out.get 0) hg (Kd.R_ne HO.out (HS.out.get 0) (by decide)); have h_ : Aside0 (Arrs w w10 [(g4, SV z8 (.slice none 0 0) 0, 28), (g2, SV H0_ (.slice A l.length c) m0, 28)]) := ⟨HS.out.moved hb hg4 hg2⟩; have HR0 := Aside0.mk ho; clear HS HO ho hb hg hat hg2 hg4; have HS := h_; clear h_; have hc9 : w10.cell? ⟨g2, 9, none⟩ = some (.int .i64 m0) := (blk_cell (HS.out.get 1) 9).trans (SV_many _ _ _ LH.out); have hf9 := HS.out.free 1 9))
  obtain ⟨A10, c10, e10⟩ := Kd.R_slice HR0.out
  subst e10
  obtain ⟨all, hall⟩ : ∃ all, all = l ++ d := ⟨_, rfl⟩
  rw [← hall] at HR0 ⊢
  have NA := Aside0.mk hall
  have hc10 : all.length ≤ c10 := (Kd.R_reads' HR0.out).2.1
  have HR := Aside0.mk ((RdB.of_R HR0.out).put (HS.out.get 1) (by decide) 9 (.int .i64 (m0 + d.length)))
  have h_ := HS.out.put 1 9 (.int .i64 (m0 + d.length))
  rw [SV_set9 _ LH.out] at h_
  have HS2 : Aside0 (Arrs w (w10.setCell ⟨g2, 9, none⟩ (.int .i64 (m0 + d.length))) [(g4, SV z8 (.slice none 0 0) 0, 28), (g2, SV H0_ (.slice A l.length c) (m0 + d.length), 28)]) := ⟨h_⟩
  clear HR0 HS h_ hc9 hf9 hall
  have HS := HS2
  clear HS2
  obtain ⟨M, hM⟩ : ∃ M : Int, M = m0 + d.length := ⟨_, rfl⟩
  rw [← hM] at HS HR ⊢
  have NM := Aside0.mk hM
  clear hM
  obtain ⟨q15, hq15⟩ : ∃ q : Value, q = .int .i64 M := ⟨_, rfl⟩
  go_loopg [5] all.length (fun kq v5 w' => ∃ (h b : List Int) (Ab : Option Addr) (cb : Nat), v5 = .slice Ab b.length cb ∧ b.length ≤ cb ∧ Aside0 (b.length ≤ kq) ∧ Aside0 (b.length ≤ all.length) ∧ Aside0 (h.length = 8) ∧ Aside0 (feedS keysL kq h b = feedS keysL all.length H0_ all) ∧ Aside0 (RdB w' Ab b) ∧ Aside0 (Arrs w w' [(g4, SV z8 (.slice none 0 0) 0, 28), (g2, SV h (.slice A l.length c) M, 28)]))
  case atStart => exact ⟨H0_, all, A10, c10, rfl, hc10, ⟨Nat.le_refl _⟩, ⟨Nat.le_refl _⟩, LH, ⟨rfl⟩, HR, HS⟩
  case round =>
    clear HR HS
    obtain ⟨h, b, Ab, cb, rfl, hcb, HK, HKA, LHh, HF, HR, HS⟩ := hrel
    by_cases cc : 64 ≤ b.length
    · have c64 : (64 : Int) ≤ b.length := by omega
      obtain ⟨A8, hcut, hcr, hcl⟩ := RdB.drop (A := Ab) (c := cb) 64 cc hcb
      have HCUT := Aside0.mk hcut
      clear hcut
      cases gk with
      | zero => exact absurd HK.out (by omega)
      | succ n =>
        go_wp2
        refine wp_region_stable 6 (by kernel_rfl) (by kernel_rfl) (fun listed a W => ∃ V : Nat → Value, a = ⟨#[.agg (SV H0_ (.slice A l.length c) m0), .slice A2 d.length c2, .pointer (some ⟨g2, 0, none⟩), undef, .pointer (some ⟨g4, 0, none⟩), .slice Ab b.length cb, .pointer (some ⟨g2, 8, none⟩), .slice A l.length c, v8, .slice A2 d.length c2, .slice A10 all.length c10, .pointer (some ⟨g2, 9, none⟩), .int .i64 m0, .slice A2 d.length c2, .int .i64 d.length, .int .i64 M, .pointer (some ⟨g2, 9, none⟩), .slice Ab b.length cb, .int .i64 b.length, .bool true, V 0, V 1, V 2, V 3, V 4, V 5, u26, u27, undef, undef, undef, undef], []⟩ ∧ StI (sfFact b h Ab cb g2) 6 listed V W ∧ RdB W Ab b ∧ Arrs w W [(g4, SV z8 (.slice none 0 0) 0, 28), (g2, SV h (.slice A l.length c) M, 28)]) ?h0 ?hstep ?hend
        case h0 => exact ⟨fun j => match j with | 0 => u20 | 1 => u21 | 2 => u22 | 3 => u23 | 4 => u24 | 5 => u25 | _ => undef, rfl, (by intro j hj h; rw [getD_replicate_false] at h; cases h), HR.out.below (below_drew1 (Below.refl _ _)), HS.out.drew1⟩
        case hstep =>
          clear HR HS
          rintro listed a W inv ⟨V, rfl, HI, HRW, HSW⟩ i hi hr
          have hgo : ∀ (v : Value) (W' : World), Below W.heap.size W W' → sfFact b h Ab cb g2 i v W' → StI (sfFact b h Ab cb g2) 6 (listed.setIfInBounds i true) (fun j => if j = i then v else V j) W' ∧ RdB W' Ab b ∧ Arrs w W' [(g4, SV z8 (.slice none 0 0) 0, 28), (g2, SV h (.slice A l.length c) M, 28)] :=
            fun v W' hb hf => ⟨HI.step (fun j v h => sfFact_grow j v h) i v hf, HRW.below hb, HSW.below hb⟩
          match i, hi, hr, hgo with
          | 0, _, hr, hgo =>
            refine op_val rfl rfl (v := .pointer (some ⟨g2, 0, none⟩)) (w' := W) ?_ ⟨_, rfl, hgo _ _ (Below.refl _ _) rfl⟩
            first | (go_simp; done) | (go_simp; rfl)
          | 1, _, hr, hgo =>
            have e0 : V 0 = .pointer (some ⟨g2, 0, none⟩) := HI 0 (by omega) (dep_of hr (by kernel_rfl))
            refine op_val rfl rfl (v := .agg (U .i64 h)) (w' := W) ?_ ⟨_, rfl, hgo _ _ (Below.refl _ _) rfl⟩
            have hld := run_loadAt_mid (P := Try.prog) W g2 0 22 (U .i64 h).toList _ (SV_range LHh.out (HSW.get 1)) Try.underlying22 rfl (by rw [size22]; simp [U, LHh.out])
            rw [← e0] at hld
            unfold execOp
            show ((Instr.loadAt 22 (V 0) >>= fun v => pure (Next.value v)) : Sem Next).run Try.prog W = _
            rw [Sem.run_bind, hld]
            rfl
          | 2, _, hr, hgo =>
            refine op_val rfl rfl (v := .slice Ab b.length cb) (w' := W) ?_ ⟨_, rfl, hgo _ _ (Below.refl _ _) rfl⟩
            first | (go_simp; done) | (go_simp; rfl)
          | 3, _, hr, hgo =>
            have e2 : V 2 = .slice Ab b.length cb := HI 2 (by omega) (dep_of hr (by kernel_rfl))
            have lt : (b.take 64).length = 64 := by rw [List.length_take]; omega
            refine op_val rfl rfl (v := .slice Ab (b.take 64).length cb) (w' := W) ?_ ⟨_, rfl, hgo _ _ (Below.refl _ _) rfl⟩
            rw [lt]
            have c64b : (64 : Int) ≤ cb := by omega
            first | (go_simp; done) | (go_simp; rfl)
          | 4, _, hr, hgo =>
            have e1 : V 1 = .agg (U .i64 h) := HI 1 (by omega) (dep_of hr (by kernel_rfl))
            have e3 : V 3 = .slice Ab (b.take 64).length cb := HI 3 (by omega) (dep_of hr (by kernel_rfl))
            refine op_call rfl rfl Try.func60 (by kernel_rfl) rfl #[.agg (U .i64 h), .slice Ab (b.take 64).length cb] rfl (by simp only [List.map_toArray, List.map_cons, List.map_nil]; show (⟨[V 1, V 3]⟩ : Array Value) = _; rw [e1, e3]) ((spec_l5Block.calls h LHh.out Ab cb (b.take 64) W (HRW.take 64 cc).1 (by rw [List.length_take]; omega)).mono ?_)
            rintro e W' ⟨rfl, hb⟩
            exact ⟨_, rfl, _, rfl, hgo _ _ hb rfl⟩
          | 5, _, hr, hgo =>
            refine op_val rfl rfl (v := .pointer (some ⟨g2, 0, none⟩)) (w' := W) ?_ ⟨_, rfl, hgo _ _ (Below.refl _ _) rfl⟩
            first | (go_simp; done) | (go_simp; rfl)
          | _ + 6, h, _, _ => exact absurd h (by omega)
        case hend =>
          clear HR HS
          rintro listed a W ⟨V, rfl, HI, HRW, HSW⟩ hall
          have e4 : V 4 = .agg (U .i64 (block_ keysL h (b.take 64))) := HI 4 (by omega) (hall 4 (by omega))
          have e5 : V 5 = .pointer (some ⟨g2, 0, none⟩) := HI 5 (by omega) (hall 5 (by omega))
          obtain ⟨h2, hh2⟩ : ∃ h2, h2 = block_ keysL h (b.take 64) := ⟨_, rfl⟩
          have L2 : Aside0 (h2.length = 8) := ⟨by rw [hh2]; exact block_len _ _ _⟩
          rw [← hh2] at e4
          have N2 := Aside0.mk hh2
          simp only [List.drop_succ_cons, List.drop_zero]
          refine wpList_store_mid rfl 22 (.tmp 25) (.tmp 24) rfl g2 0 (U .i64 h2) e5 e4 (SV_there LHh.out (by rw [U_size, L2.out]) (HSW.get 1)) (info_U _ size22 L2.out) (U_one _ _) ?_
          have h_ := HSW.mid (H' := h2) 1 LHh.out L2.out
          have HRn := Aside0.mk (HRW.keep (HSW.get 1) (by decide) (setCells_keep (g := g2) L2.out).1 (setCells_keep (g := g2) L2.out).2)
          have HSn := Aside0.mk h_
          generalize W.setCells g2 0 (U .i64 h2).toList = W2 at HRn HSn ⊢
          clear HI hall HRW HSW h_ hh2 e4 e5
          have hcut : ∀ W : World, (Instr.slice 23 (.slice Ab b.length cb) (some (.int .i64 64)) none none).run Try.prog W = .ok (.slice A8 (b.drop 64).length (cb - 64)) W := HCUT.out
          go_wp2
          go_roundg n
          case measure => omega
          case rel => exact ⟨h2, b.drop 64, A8, cb - 64, by rw [List.length_drop], hcl, ⟨by have := HK.out; rw [List.length_drop]; omega⟩, ⟨by have := HKA.out; rw [List.length_drop]; omega⟩, L2, ⟨by have h_ := HF.out; rw [feedS_succ, if_pos cc] at h_; rw [N2.out]; exact h_⟩, ⟨hcr _ HRn.out⟩, HSn⟩
    · have hfe : feedS keysL all.length H0_ all = (h, b) := by
        rw [← HF.out]
        cases gk with
        | zero => rfl
        | succ n => rw [feedS_succ, if_neg cc]
      have HFE := Aside0.mk hfe
      clear hfe HF HK
      have c64 : (b.length : Int) < 64 := by omega
      go_wp2_with (first
       | (go_at_call 55; ((refine (spec_l1Bytes.calls Ab cb b b _ HR.out.1 hcb (by unfold spec_l1Bytes.f; simp only [Option.bind_some, List.length_nil, List.nil_append]; exact if_pos (by have := HKA.out; have := congrArg List.length NA.out; rw [List.length_append] at this; omega))).mono ?_); rintro e w55 ⟨v29, rfl, ho, hb⟩; have h_ := Aside0.mk (HS.out.below hb); have HO := Aside0.mk (R_not (R_not (Kd.R_lower ho (below_size HS.out.1)) (h_.out.get 1) (by decide)) (h_.out.get 0) (by decide)); clear HS HR hb ho; have HS := h_; clear h_; obtain ⟨A29, c29, rfl⟩ := Kd.R_slice HO.out; have hc8 : w55.cell? ⟨g2, 8, none⟩ = some (.slice A l.length c) := (blk_cell (HS.out.get 1) 8).trans (SV_rest _ _ _ LHh.out); have hf8 := HS.out.free 1 8))
       | ((with_reducible refine gate_dst (N := 31) rfl ?_); have h_ : Aside0 (Arrs w (w55.setCell ⟨g2, 8, none⟩ (.slice A29 b.length c29)) [(g4, SV z8 (.slice none 0 0) 0, 28), (g2, SV h (.slice A29 b.length c29) M, 28)]) := ⟨HS.out.put8 1 (.slice A29 b.length c29) LHh.out⟩; have r_ := Aside0.mk (Kd.R_far HO.out (p := ⟨g2, 8, none⟩) (fun k hk => hk.1.2) (.slice A29 b.length c29)); clear HS HO hc8 hf8; have HS := h_; have HO := r_; clear h_ r_; refine load_arrs rfl (N := 31) rfl 28 (.tmp 2) rfl 1 HS rfl rfl Try.underlying28 rfl (info_S _ _ _ LHh.out) ?_)
       | ((with_reducible refine gate_store (t := 28) (p := 4) rfl ?_); refine wpList_store_row rfl 28 (.tmp 4) (.tmp 31) rfl g4 (SV h (.slice A29 b.length c29) M) rfl rfl 28 (SV z8 (.slice none 0 0) 0) (HS.out.get 0) (info_S _ _ _ LHh.out) (by rw [SV_size _ _ _ LHh.out]; rfl) (SV_one _ _ _ rfl) ?_))
      have HE := HS.out.row 0 (SV h (.slice A29 b.length c29) M)
      have HRe := Kd.R_step HO.out (fun k hk _ => setRow_other _ g4 k (SV h (.slice A29 b.length c29) M) hk.2)
      refine bodyPost_ret (results_cell_row rfl _ _ _ 28 _ (0, 0) _ rfl (HE.get 0) Try.underlying28 rfl (info_S _ _ _ LHh.out)) rfl ⟨.slice A29 b.length c29, ?_, ?_, HE.1⟩
      · rw [← NA.out, ← NM.out, HFE.out]
      · rw [← NA.out, HFE.out]
        exact Kd.R_mono HRe (fun _ _ => trivial)
/-- Zeros behind, until 56 of 64 are there. -/
def padS : Nat → List Int → List Int
  | 0, t => t
  | n + 1, t => if t.length % 64 = 56 then t else padS n (t ++ [0])
theorem padS_succ (n : Nat) (t : List Int) : padS (n + 1) t = if t.length % 64 = 56 then t else padS n (t ++ [0]) := rfl
theorem padS_mod (n : Nat) (t : List Int) (h : (120 - t.length % 64) % 64 ≤ n) : (padS n t).length % 64 = 56 := by
  induction n generalizing t with
  | zero =>
    show t.length % 64 = 56
    omega
  | succ n ih =>
    rw [padS_succ]
    split
    · assumption
    · refine ih _ ?_
      rw [List.length_append]
      simp only [List.length_cons, List.length_nil]
      omega
theorem padS_len (n : Nat) (t : List Int) : (padS n t).length ≤ t.length + n := by
  induction n generalizing t with
  | zero => exact Nat.le_refl _
  | succ n ih =>
    rw [padS_succ]
    split
    · omega
    · refine Nat.le_trans (ih _) ?_
      rw [List.length_append]
      simp only [List.length_cons, List.length_nil]
      omega
def bytesD (m : Int) : Nat → List Int
  | 0 => []
  | j + 1 => (8 * m / 2 ^ (8 * j) % 256) :: bytesD m j
def tailS (l : List Int) (m : Int) : List Int := padS 64 (l ++ [128]) ++ bytesD m 8
theorem tailS_mod (l : List Int) (m : Int) : (tailS l m).length % 64 = 0 := by
  unfold tailS
  rw [List.length_append]
  have := padS_mod 64 (l ++ [128]) (by omega)
  show ((padS 64 (l ++ [128])).length + 8) % 64 = 0
  omega
def blocksS (K : List Int) : Nat → List Int → List Int → List Int
  | 0, h, _ => h
  | n + 1, h, b => if 0 < b.length then blocksS K n (block_ K h (b.take 64)) (b.drop 64) else h
theorem blocksS_succ (K : List Int) (n : Nat) (h b : List Int) : blocksS K (n + 1) h b = if 0 < b.length then blocksS K n (block_ K h (b.take 64)) (b.drop 64) else h := rfl
def digS (H l : List Int) (m : Int) : List Int := outN (blocksS keysL (tailS l m).length H (tailS l m)) 8
/-- The first eight numbers of a stream are read. -/
theorem load_mid_U {P : Program} {ops : Array Oper} {rest : List Oper} {op : Oper} {a : Act} {w : World} {Q : Exit → Act → World → Prop} (hgd : op.guard = none) {N : Tmp} (_hd : op.dst = some N) (ty : TypeId) (x : Operand) (ho : op.op = .load ty x)
    {g : Nat} {H : List Int} {v : Value} {m : Int} {t : TypeId} (hx : a.eval x = .pointer (some ⟨g, 0, none⟩)) (hH : H.length = 8) (hb : w.heap[g]? = some (.cells (SV H v m) t (0, 0))) {d : TypeDesc}
    (hu : P.underlying ty = some d) (hd : d.isRow = true) (hi : (P.info? ty).map (·.size) = some 8) (h : wpList P ops Q rest (a.put op.dst (.agg (U .i64 H))) w) : wpList P ops Q (op :: rest) a w :=
  wpList_load_mid hgd ty x ho g 0 hx (U .i64 H).toList d (SV_range hH hb) hu hd (by rw [hi]; simp [U, hH]) h
theorem mid64 {A : Option Addr} {c : Nat} {tl : List Int} (k : Nat) (hk : k + 64 ≤ tl.length) (hc : tl.length ≤ c) : ∃ (A8 : Option Addr) (c8 : Nat), (∀ W : World, (Instr.slice 23 (.slice A tl.length c) (some (.int .i64 (k : Int))) (some (.int .i64 ((k : Int) + 64))) none).run Try.prog W = .ok (.slice A8 ((tl.drop k).take 64).length c8) W) ∧
    (∀ W, Kd.C (Kd.int .u8) W A tl.length tl → Kd.C (Kd.int .u8) W A8 ((tl.drop k).take 64).length ((tl.drop k).take 64)) := by
  obtain ⟨i, hi, hz, hsz, hby⟩ := info_parts info5
  obtain ⟨A8, h1, h2, h3⟩ := print_mid_of (P := Try.prog) (Value.int .u8) (0 : Int) 23 5 .i64 .i64 Try.underlying23 hi hsz A c tl k ((k : Int) + 64) (by omega) (by omega) (by omega) hc
  have e1 : ((k : Int) + 64).toNat = k + 64 := by omega
  have e2 : (tl.take (k + 64)).drop k = (tl.drop k).take 64 := by rw [List.drop_take]; congr 1; omega
  rw [e1, Int.toNat_natCast, e2] at h1 h2
  exact ⟨A8, _, h1, fun W h => Kd.C_of_reads (h2 W (Kd.reads_of_C (d := (0 : Int)) h))⟩
theorem lit_reads (W : World) (xs : List Int) (hm : xs.length ≤ 9223372036854775807 := by simp) : Kd.C (Kd.int .u8) (W.alloc (.cells (U .u8 xs) 5)) (some ⟨W.heap.size, 0, none⟩) xs.length xs := by
  refine Kd.C_of_reads (d := (0 : Int)) ⟨rfl, hm, fun hn => ⟨_, rfl, fun j hj => ?_⟩⟩
  rw [Addr.add_mid, Nat.zero_add]
  exact cellU (blk_new W (.cells (U .u8 xs) 5)) j hj
def sdFact (h tl : List Int) (at_ : Nat) (A4 A8 : Option Addr) (c4 c8 : Nat) : Nat → Value → World → Prop
  | 0, v, _ => v = .agg (U .i64 h)
  | 1, v, _ => v = .slice A4 tl.length c4
  | 2, v, _ => v = .int .i64 at_
  | 3, v, _ => v = .int .i64 at_
  | 4, v, _ => v = .int .i64 ((at_ : Int) + 64)
  | 5, v, _ => v = .slice A8 ((tl.drop at_).take 64).length c8
  | 6, v, _ => v = .agg (U .i64 (block_ keysL h ((tl.drop at_).take 64)))
  | _, _, _ => True
theorem sdFact_grow {h tl : List Int} {at_ : Nat} {A4 A8 : Option Addr} {c4 c8 : Nat} {W W' : World} (j : Nat) (v : Value) (hh : sdFact h tl at_ A4 A8 c4 c8 j v W) : sdFact h tl at_ A4 A8 c4 c8 j v W' := by
  match j, hh with
  | 0, h | 1, h | 2, h | 3, h | 4, h | 5, h | 6, h => exact h
  | _ + 7, _ => exact trivial
/-- What the operations of the digest's last statement have given. -/
def soFact (h : List Int) (i : Nat) (g6 : Nat) (Ao : Option Addr) (co : Nat) : Nat → Value → World → Prop
  | 0, v, _ => v = .slice Ao (outN h i).length co
  | 1, v, _ => v = .int .i64 i
  | 2, v, _ => v = .pointer (some ⟨g6, i, none⟩)
  | 3, v, _ => v = .int .i64 (rd h i)
  | 4, v, _ => v = .int .i64 (rd h i / 16777216)
  | 5, v, _ => v = .int .u8 (rd h i / 16777216 % 256)
  | 6, v, _ => v = .int .i64 i
  | 7, v, _ => v = .pointer (some ⟨g6, i, none⟩)
  | 8, v, _ => v = .int .i64 (rd h i)
  | 9, v, _ => v = .int .i64 (rd h i / 65536)
  | 10, v, _ => v = .int .u8 (rd h i / 65536 % 256)
  | 11, v, _ => v = .int .i64 i
  | 12, v, _ => v = .pointer (some ⟨g6, i, none⟩)
  | 13, v, _ => v = .int .i64 (rd h i)
  | 14, v, _ => v = .int .i64 (rd h i / 256)
  | 15, v, _ => v = .int .u8 (rd h i / 256 % 256)
  | 16, v, _ => v = .int .i64 i
  | 17, v, _ => v = .pointer (some ⟨g6, i, none⟩)
  | 18, v, _ => v = .int .i64 (rd h i)
  | 19, v, _ => v = .int .u8 (rd h i % 256)
  | 20, v, W => ∃ A c, v = .slice A 4 c ∧ Kd.C (Kd.int .u8) W A 4 [rd h i / 16777216 % 256, rd h i / 65536 % 256, rd h i / 256 % 256, rd h i % 256]
  | _, _, _ => True
theorem soFact_grow {h : List Int} {i : Nat} {g6 : Nat} {Ao : Option Addr} {co : Nat} {W W' : World} (hb : Below W.heap.size W W') (j : Nat) (v : Value) (hh : soFact h i g6 Ao co j v W) : soFact h i g6 Ao co j v W' := by
  match j, hh with
  | 0, h | 1, h | 2, h | 3, h | 4, h | 5, h | 6, h | 7, h | 8, h | 9, h | 10, h | 11, h | 12, h | 13, h | 14, h | 15, h | 16, h | 17, h | 18, h | 19, h => exact h
  | 20, ⟨A, c, h1, h2⟩ => exact ⟨A, c, h1, Kd.C_below h2 hb⟩
  | _ + 21, _ => exact trivial
set_option maxHeartbeats 8000000 in
set_option maxRecDepth 100000 in
theorem spec_l5Digest_ (H : List Int) (hH8 : H.length = 8) (A : Option Addr) (c : Nat) (l : List Int) (m : Int) (w : World) (h1 : Kd.C (Kd.int .u8) w A l.length l) (hlc : l.length ≤ c) (hl : l.length ≤ 100000000000) (hm0 : 0 ≤ m) (hm1 : m ≤ 100000000000) :
    Calls Try.prog 43 #[.agg (SV H (.slice A l.length c) m)] w fun e w' => ∃ vr : Value, e = .returned vr ∧ Kd.R (Kd.int .u8) 5 w' w.heap.size (fun _ => True) vr (digS H l m) ∧ Below w.heap.size w w' := by
  have H1 := Aside0.mk h1
  have LH := Aside0.mk hH8
  clear h1 hH8
  have HB := Aside0.mk (Below.refl w.heap.size w)
  have qm : 0 ≤ 8 * m ∧ 8 * m ≤ 1000000000000 := by omega
  go_enter Try.func43, Try.ntmps43
  go_wp2_with (first
   | ((with_reducible refine gate_dst (N := 1) rfl ?_); refine box_event ?hg1 (N := 1) ?hd1 (cs := SV H (.slice A l.length c) m) (t := 28) ?hr1 ?_; (case hd1 => rfl); (case hg1 => rfl); (case hr1 => first | (go_simp; done) | (go_simp; rfl)); intro g1 hg1 w1 hbk hb; have HK := Aside0.mk hbk; have n0_ := Aside0.mk (below_step HB.out hb); have HG1 := Aside0.mk (by rw [hg1]; exact Nat.le_refl _ : w.heap.size ≤ g1); clear HB hb hbk hg1; have HB := n0_; clear n0_; have hc8 : w1.cell? ⟨g1, 8, none⟩ = some (.slice A l.length c) := (blk_cell HK.out 8).trans (SV_rest _ _ _ LH.out); have hcm : w1.cell? ⟨g1, 9, none⟩ = some (.int .i64 m) := (blk_cell HK.out 9).trans (SV_many _ _ _ LH.out))
   | (go_at_call 55; ((refine (spec_l1Bytes.calls A c l l _ (Kd.C_below H1.out HB.out) hlc (by unfold spec_l1Bytes.f; simp only [Option.bind_some, List.length_nil, List.nil_append]; exact if_pos (by omega))).mono ?_); rintro e w15 ⟨v15, rfl, ho, hb⟩; have n0_ := Aside0.mk (below_step HB.out hb); have HO := Aside0.mk (Kd.R_mono (Kd.R_lower ho (below_size HB.out)) (fun _ hk => hk)); clear hc8; have hk_ := Aside0.mk (blk_below HK.out hb); clear HK hcm; have HK := hk_; clear hk_; have hcm : w15.cell? ⟨g1, 9, none⟩ = some (.int .i64 m) := (blk_cell HK.out 9).trans (SV_many _ _ _ LH.out); clear HB ho hb; have HB := n0_; clear n0_))
   | ((with_reducible refine gate_dst (N := 16) rfl ?_); refine lit_event (N := 16) ?hg16 ?hd16 ([128]) (by simp) ?hr16 ?_; (case hd16 => rfl); (case hg16 => rfl); (case hr16 => first | (go_simp; done) | (go_simp; rfl)); intro A16 c16 w16 ho hb; have n0_ := Aside0.mk (below_step HB.out hb); have n1_ := Aside0.mk (Kd.R_below HO.out hb); have HX := Aside0.mk (Kd.R_reads' ho).2.2; have hk_ := Aside0.mk (blk_below HK.out hb); clear HK hcm; have HK := hk_; clear hk_; have hcm : w16.cell? ⟨g1, 9, none⟩ = some (.int .i64 m) := (blk_cell HK.out 9).trans (SV_many _ _ _ LH.out); clear HB HO ho hb; have HB := n0_; have HO := n1_; clear n0_ n1_)
   | ((with_reducible refine gate_builtin (b := .append) (xs := #[.tmp 15, .tmp 16]) rfl ?_); at_builtin; refine Kd.R_append_rows (Kd.int .u8) (w0 := w) w.heap.size rfl (.tmp 15) (.tmp 16) 23 5 (.int .u8 0) 1 rfl Try.underlying23 info5 rfl (by decide) (by omega) (v15) (l) ([128]) _ _ _ (fun _ => True) (fun _ => False) rfl rfl ?aOv17 ?aRv17 (fun _ _ h => h) (fun _ h => h.elim) ?aFv17 ?aBv17 ?aSv17 ?aLv17 ?_; (case aRv17 => exact HX.out); (case aBv17 => exact HB.out); (case aFv17 => exact (fun _ _ => trivial)); (case aOv17 => exact HO.out); (case aSv17 => exact below_size HB.out); (case aLv17 => simp only [List.length_cons, List.length_nil]; omega); intro v17 wv17 ho hb hg hat; have n0_ := Aside0.mk hb; have n1_ := Aside0.mk ho; have hk_ := Aside0.mk (blk_grown HK.out hg (Kd.R_ne HO.out HK.out (by decide))); clear HK hcm; have HK := hk_; clear hk_; have hcm : wv17.cell? ⟨g1, 9, none⟩ = some (.int .i64 m) := (blk_cell HK.out 9).trans (SV_many _ _ _ LH.out); clear HB HO HX; have HB := n0_; have HO := n1_; clear n0_ n1_ ho hb hg hat))
  obtain ⟨tl, htl⟩ : ∃ tl, tl = tailS l m := ⟨_, rfl⟩
  have NT := Aside0.mk htl
  have PL : Aside0 (∀ n, (padS n (l ++ [128])).length ≤ l.length + 1 + n) := ⟨fun n => by have := padS_len n (l ++ [128]); rw [List.length_append] at this; exact this⟩
  clear htl
  go_loopg [4] 64 (fun kq v4 w' => ∃ t : List Int, Aside0 (padS kq t = padS 64 (l ++ [128])) ∧ t.length + kq ≤ l.length + 65 ∧ Aside0 ((120 - t.length % 64) % 64 ≤ kq) ∧ Aside0 (Kd.R (Kd.int .u8) 5 w' w.heap.size (fun _ => True) v4 t) ∧ Aside0 (w'.heap[g1]? = some (.cells (SV H (.slice A l.length c) m) 28)) ∧ Aside0 (Below w.heap.size w w'))
  case atStart => exact ⟨l ++ [128], ⟨rfl⟩, by rw [List.length_append]; simp only [List.length_cons, List.length_nil]; omega, ⟨by omega⟩, HO, HK, HB⟩
  case round =>
    clear hcm HO HK HB
    obtain ⟨t, HP, htl, HM, HO, HK, HB⟩ := hrel
    have hcm : wr.cell? ⟨g1, 9, none⟩ = some (.int .i64 m) := (blk_cell HK.out 9).trans (SV_many _ _ _ LH.out)
    obtain ⟨A4, c4, rfl⟩ := Kd.R_slice HO.out
    by_cases cc : t.length % 64 = 56
    · have hpe : padS 64 (l ++ [128]) = t := by
        rw [← HP.out]
        cases gk with
        | zero => rfl
        | succ n => rw [padS_succ, if_pos cc]
      have d0 : (((t.length : Int) % 64) == 56) = true := by
        rw [beq_iff_eq]; omega
      have d1 : (((t.length : Int) % 64) != 56) = false := by
        rw [bne_eq_false_iff_eq]; omega
      clear HP cc
      have NP := Aside0.mk hpe
      clear hpe
      go_wp2
      go_loopg [4, 5] 8 (fun kq v4 v5 w' => ∃ (n : Nat) (t2 : List Int), v5 = .int .i64 ((n : Int) - 1) ∧ n = kq ∧ n ≤ 8 ∧ Aside0 (t2.length + n = t.length + 8) ∧ Aside0 (t2 ++ bytesD m n = t ++ bytesD m 8) ∧ Aside0 (Kd.R (Kd.int .u8) 5 w' w.heap.size (fun _ => True) v4 t2) ∧ Aside0 (w'.heap[g1]? = some (.cells (SV H (.slice A l.length c) m) 28)) ∧ Aside0 (Below w.heap.size w w'))
      case atStart => exact ⟨8, t, by go_num, rfl, by omega, ⟨rfl⟩, ⟨rfl⟩, HO, HK, HB⟩
      case round =>
        clear hcm HO HK HB
        obtain ⟨n, t2, rfl, hnk, hn8, HL2, HE, HO, HK, HB⟩ := hrel
        have hcm : wr.cell? ⟨g1, 9, none⟩ = some (.int .i64 m) := (blk_cell HK.out 9).trans (SV_many _ _ _ LH.out)
        obtain ⟨A5, c5, rfl⟩ := Kd.R_slice HO.out
        cases n with
        | zero =>
          have hte : t2 = tl := by
            have h_ := HE.out
            rw [NT.out]
            unfold tailS
            rw [NP.out, ← h_]
            exact (List.append_nil _).symm
          clear HE HL2
          rw [hte] at HO ⊢
          clear hte t2
          have TM : Aside0 (tl.length % 64 = 0) := ⟨by rw [NT.out]; exact tailS_mod l m⟩
          have hct : tl.length ≤ c5 := (Kd.R_reads' HO.out).2.1
          have HR := Aside0.mk (RdB.of_R HO.out)
          clear HO hn8 hnk
          go_wp2_with (first
           | ((with_reducible refine gate_dst (N := 38) rfl ?_); refine load_mid_U rfl (N := 38) rfl 22 (.tmp 37) rfl rfl LH.out HK.out Try.underlying22 rfl size22 ?_)
           | ((with_reducible refine gate_dst (N := 6) rfl ?_); refine box_event ?hg6 (N := 6) ?hd6 (cs := U .i64 z8) (t := 22) ?hr6 ?_; (case hd6 => rfl); (case hg6 => rfl); (case hr6 => first | (go_simp; done) | (go_simp; rfl)); intro g6 hg6 w6 hbk hb; have n0_ := Aside0.mk (below_step HB.out hb); have r_ := Aside0.mk (HR.out.below hb); have GE6 : Aside0 (w.heap.size ≤ g6) := ⟨by rw [hg6]; exact below_size HB.out⟩; have H6 := Aside0.mk hbk; clear HB HR HK hcm hb hbk hg6; have HB := n0_; have HR := r_; clear n0_ r_)
           | ((with_reducible refine gate_store (t := 22) (p := 6) rfl ?_); refine wpList_store_row rfl 22 (.tmp 6) (.tmp 38) rfl g6 (U .i64 H) rfl rfl 22 (U .i64 z8) H6.out (info_U _ size22 LH.out) (by rw [U_size, U_size, LH.out]; rfl) (U_one _ _) ?_; have h_ := Aside0.mk (setRow_blk H6.out (U .i64 H)); have n0_ := Aside0.mk (below_row HB.out GE6.out (U .i64 H)); have r_ := Aside0.mk (HR.out.row H6.out (by decide) (U .i64 H)); generalize World.setRow _ g6 (U .i64 H) = w66 at h_ n0_ r_ ⊢; clear H6 HB HR; have H6 := h_; have HB := n0_; have HR := r_; clear h_ n0_ r_))
          go_loopg [7] tl.length (fun kq v7 w' => ∃ (k : Nat) (h : List Int), v7 = .int .i64 k ∧ k ≤ tl.length ∧ Aside0 (k % 64 = 0) ∧ Aside0 (tl.length - k ≤ kq) ∧ Aside0 (h.length = 8) ∧ Aside0 (blocksS keysL kq h (tl.drop k) = blocksS keysL tl.length H tl) ∧ Aside0 (RdB w' A5 tl) ∧ Aside0 (w'.heap[g6]? = some (.cells (U .i64 h) 22 (0, 0))) ∧ Aside0 (Below w.heap.size w w'))
          case atStart => exact ⟨0, H, by go_num, by omega, ⟨rfl⟩, ⟨by omega⟩, LH, ⟨rfl⟩, HR, H6, HB⟩
          case round =>
            clear HR H6 HB
            obtain ⟨k, h, rfl, hk, HM64, HKQ, LHh, HBE, HR, H6, HB⟩ := hrel
            by_cases cc : k < tl.length
            · have qk : k + 64 ≤ tl.length := by have := HM64.out; have := TM.out; omega
              have qtl : tl.length ≤ 300000000000 := by
                have h1_ := PL.out 64
                rw [NT.out]
                unfold tailS
                rw [List.length_append]
                show _ + 8 ≤ _
                omega
              obtain ⟨A8, c8, hms, hmc⟩ := mid64 (A := A5) (c := c5) k qk hct
              have HMS := Aside0.mk hms
              clear hms
              go_wp2
              refine wp_region_stable 7 (by kernel_rfl) (by kernel_rfl) (fun listed a W => ∃ V : Nat → Value, a = (⟨#[Value.agg (SV H (Value.slice A l.length c) m), Value.pointer (some { block := g1, off := 0 }), Value.slice none 0 0, Value.int IntKind.i64 (8 * m), Value.slice A5 tl.length c5, Value.int IntKind.i64 (-1), Value.pointer (some { block := g6, off := 0 }), Value.int IntKind.i64 ↑k, undef, undef, Value.pointer (some { block := g1, off := 9 }), Value.int IntKind.i64 m, Value.int IntKind.i64 (8 * m), Value.pointer (some { block := g1, off := 8 }), Value.slice A l.length c, v15, Value.slice A16 1 c16, v17, Value.slice A4 t.length c4, Value.int IntKind.i64 ↑t.length, Value.int IntKind.i64 (↑t.length % 64), Value.bool false, u22, u23, u24, Value.int IntKind.i64 (-1), Value.bool false, u27, u28, u29, u30, u31, u32, u33, u34, u35, u36, Value.pointer (some { block := g1, off := 0 }), Value.agg (U IntKind.i64 H), Value.int IntKind.i64 ↑k, Value.slice A5 tl.length c5, Value.int IntKind.i64 ↑tl.length, Value.bool true, u43, u44, V 0, V 1, V 2, V 3, V 4, V 5, V 6, undef, undef, undef, undef, undef, undef, undef, undef, undef, undef, undef, undef, undef, undef, undef, undef, undef, undef, undef, undef, undef, undef, undef, undef, undef, undef, undef, undef], []⟩ : Act) ∧ StI (sdFact h tl k A5 A8 c5 c8) 7 listed V W ∧ RdB W A5 tl ∧ W.heap[g6]? = some (.cells (U .i64 h) 22 (0, 0)) ∧ Below w.heap.size w W) ?h0 ?hstep ?hend
              case h0 => exact ⟨fun j => match j with | 0 => u45 | 1 => u46 | 2 => u47 | 3 => u48 | 4 => u49 | 5 => u50 | 6 => u51 | _ => undef, rfl, (by intro j hj h; rw [getD_replicate_false] at h; cases h), HR.out.below (below_drew1 (Below.refl _ _)), H6.out, below_drew1 HB.out⟩
              case hstep =>
                clear HR H6 HB
                rintro listed a W inv ⟨V, rfl, HI, HRW, H6W, HBW⟩ i hi hr
                have hgo : ∀ (v : Value) (W' : World), Below W.heap.size W W' → sdFact h tl k A5 A8 c5 c8 i v W' → StI (sdFact h tl k A5 A8 c5 c8) 7 (listed.setIfInBounds i true) (fun j => if j = i then v else V j) W' ∧ RdB W' A5 tl ∧ W'.heap[g6]? = some (.cells (U .i64 h) 22 (0, 0)) ∧ Below w.heap.size w W' :=
                  fun v W' hb hf => ⟨HI.step (fun j v h => sdFact_grow j v h) i v hf, HRW.below hb, blk_below H6W hb, below_step HBW hb⟩
                match i, hi, hr, hgo with
                | 0, _, hr, hgo => exact op_load rfl rfl 22 (.tmp 6) rfl rfl H6W Try.underlying22 rfl (info_U _ size22 LHh.out) ⟨_, rfl, hgo _ _ (Below.refl _ _) rfl⟩
                | 1, _, hr, hgo =>
                  refine op_val rfl rfl (v := .slice A5 tl.length c5) (w' := W) ?_ ⟨_, rfl, hgo _ _ (Below.refl _ _) rfl⟩
                  first | (go_simp; done) | (go_simp; rfl)
                | 2, _, hr, hgo =>
                  refine op_val rfl rfl (v := .int .i64 k) (w' := W) ?_ ⟨_, rfl, hgo _ _ (Below.refl _ _) rfl⟩
                  first | (go_simp; done) | (go_simp; rfl)
                | 3, _, hr, hgo =>
                  refine op_val rfl rfl (v := .int .i64 k) (w' := W) ?_ ⟨_, rfl, hgo _ _ (Below.refl _ _) rfl⟩
                  first | (go_simp; done) | (go_simp; rfl)
                | 4, _, hr, hgo =>
                  have e3 : V 3 = .int .i64 k := HI 3 (by omega) (dep_of hr (by kernel_rfl))
                  have q0 : IntKind.i64.wrap ((k : Int) + 64) = (k : Int) + 64 := IntWalk.i64_in _ (by omega)
                  refine op_val rfl rfl (v := .int .i64 ((k : Int) + 64)) (w' := W) ?_ ⟨_, rfl, hgo _ _ (Below.refl _ _) rfl⟩
                  first | (go_simp; done) | (go_simp; rfl)
                | 5, _, hr, hgo =>
                  have e1 : V 1 = .slice A5 tl.length c5 := HI 1 (by omega) (dep_of hr (by kernel_rfl))
                  have e2 : V 2 = .int .i64 k := HI 2 (by omega) (dep_of hr (by kernel_rfl))
                  have e4 : V 4 = .int .i64 ((k : Int) + 64) := HI 4 (by omega) (dep_of hr (by kernel_rfl))
                  refine op_val rfl rfl (v := .slice A8 ((tl.drop k).take 64).length c8) (w' := W) ?_ ⟨_, rfl, hgo _ _ (Below.refl _ _) rfl⟩
                  have hms := HMS.out W
                  rw [← e1, ← e2, ← e4] at hms
                  unfold execOp
                  show ((Instr.slice 23 (V 1) (some (V 2)) (some (V 4)) none >>= fun v => pure (Next.value v)) : Sem Next).run Try.prog W = _
                  rw [Sem.run_bind, hms]
                  rfl
                | 6, _, hr, hgo =>
                  have e0 : V 0 = .agg (U .i64 h) := HI 0 (by omega) (dep_of hr (by kernel_rfl))
                  have e5 : V 5 = .slice A8 ((tl.drop k).take 64).length c8 := HI 5 (by omega) (dep_of hr (by kernel_rfl))
                  have l64 : ((tl.drop k).take 64).length = 64 := by rw [List.length_take, List.length_drop]; omega
                  refine op_call rfl rfl Try.func60 (by kernel_rfl) rfl #[.agg (U .i64 h), .slice A8 ((tl.drop k).take 64).length c8] rfl (by simp only [List.map_toArray, List.map_cons, List.map_nil]; show (⟨[V 0, V 5]⟩ : Array Value) = _; rw [e0, e5]) ((spec_l5Block.calls h LHh.out A8 c8 ((tl.drop k).take 64) W (hmc W HRW.1) (by rw [l64]; exact Nat.le_refl _)).mono ?_)
                  rintro e W' ⟨rfl, hb⟩
                  exact ⟨_, rfl, _, rfl, hgo _ _ hb rfl⟩
                | _ + 7, h, _, _ => exact absurd h (by omega)
              case hend =>
                clear HR H6 HB
                rintro listed a W ⟨V, rfl, HI, HRW, H6W, HBW⟩ hall
                have e6 : V 6 = .agg (U .i64 (block_ keysL h ((tl.drop k).take 64))) := HI 6 (by omega) (hall 6 (by omega))
                obtain ⟨h2, hh2⟩ : ∃ h2, h2 = block_ keysL h ((tl.drop k).take 64) := ⟨_, rfl⟩
                have L2 : Aside0 (h2.length = 8) := ⟨by rw [hh2]; exact block_len _ _ _⟩
                rw [← hh2] at e6
                have N2 := Aside0.mk hh2
                simp only [List.drop_succ_cons, List.drop_zero]
                refine wpList_store_row rfl 22 (.tmp 6) (.tmp 51) rfl g6 (U .i64 h2) rfl e6 22 (U .i64 h) H6W (info_U _ size22 L2.out) (by rw [U_size, U_size, LHh.out, L2.out]) (U_one _ _) ?_
                have H6n := Aside0.mk (setRow_blk H6W (U .i64 h2))
                have HBn := Aside0.mk (below_row HBW GE6.out (U .i64 h2))
                have HRn := Aside0.mk (HRW.row H6W (by decide) (U .i64 h2))
                generalize World.setRow W g6 (U .i64 h2) = W2 at H6n HBn HRn ⊢
                clear HI hall HRW H6W HBW hh2 e6
                go_wp2
                go_roundg (gk - 1)
                case measure => have := HKQ.out; omega
                case rel =>
                  refine ⟨k + 64, h2, by go_num, qk, ⟨by have := HM64.out; omega⟩, ⟨by have := HKQ.out; omega⟩, L2, ⟨?_⟩, HRn, H6n, HBn⟩
                  rw [← HBE.out, N2.out, ← List.drop_drop]
                  obtain ⟨n, hn⟩ : ∃ n, gk = n + 1 := ⟨gk - 1, by have := HKQ.out; omega⟩
                  subst hn
                  rw [blocksS_succ, if_pos (by rw [List.length_drop]; omega)]
                  rfl
            · obtain rfl : k = tl.length := by omega
              have hfe : blocksS keysL tl.length H tl = h := by
                rw [← HBE.out, List.drop_length]
                cases gk with
                | zero => rfl
                | succ n => rw [blocksS_succ, if_neg (by simp)]
              have HFE := Aside0.mk hfe
              clear hfe HBE HKQ HM64 cc HR
              go_wp2_with (first
               | ((with_reducible refine gate_dst (N := 52) rfl ?_); refine lit_event (N := 52) ?hg52 ?hd52 ([] : List Int) (by simp) ?hr52 ?_; (case hd52 => rfl); (case hg52 => rfl); (case hr52 => first | (go_simp; done) | (go_simp; rfl)); intro A52 c52 w52 ho hb; have n0_ := Aside0.mk (below_step HB.out hb); have HO := Aside0.mk (Kd.R_mono (Kd.R_lower ho (below_size HB.out)) (fun _ hk => hk)); have h_ := Aside0.mk (blk_below H6.out hb); clear HB H6 ho hb; have HB := n0_; have H6 := h_; clear n0_ h_))
              go_loopg [8, 9] 8 (fun kq v8 v9 w' => ∃ i : Nat, v9 = .int .i64 i ∧ i + kq = 8 ∧ Aside0 (Kd.R (Kd.int .u8) 5 w' w.heap.size (fun _ => True) v8 (outN h i)) ∧ Aside0 (w'.heap[g6]? = some (.cells (U .i64 h) 22 (0, 0))) ∧ Aside0 (Below w.heap.size w w'))
              case atStart => exact ⟨0, by go_num, by omega, HO, H6, HB⟩
              case round =>
                clear HO HB H6
                obtain ⟨i, rfl, hi, HO, H6, HB⟩ := hrel
                obtain ⟨A5_, c5_, rfl⟩ := Kd.R_slice HO.out
                by_cases cc : i < 8
                · have OL := Aside0.mk (outN_len h i)
                  have hcl : wr.cell? ⟨g6, i, none⟩ = some (.int .i64 (rd h i)) := cellU H6.out i (by rw [LHh.out]; exact cc)
                  have q8 : (i : Int) < 8 := by omega
                  go_wp2
                  refine wp_region_stable 21 (by kernel_rfl) (by kernel_rfl) (fun listed a W => ∃ V : Nat → Value, a = (⟨#[Value.agg (SV H (Value.slice A l.length c) m), Value.pointer (some { block := g1, off := 0 }), Value.slice none 0 0, Value.int IntKind.i64 (8 * m), Value.slice A5 tl.length c5, Value.int IntKind.i64 (-1), Value.pointer (some { block := g6, off := 0 }), Value.int IntKind.i64 ↑tl.length, Value.slice A5_ (outN h i).length c5_, Value.int IntKind.i64 ↑i, Value.pointer (some { block := g1, off := 9 }), Value.int IntKind.i64 m, Value.int IntKind.i64 (8 * m), Value.pointer (some { block := g1, off := 8 }), Value.slice A l.length c, v15, Value.slice A16 1 c16, v17, Value.slice A4 t.length c4, Value.int IntKind.i64 ↑t.length, Value.int IntKind.i64 (↑t.length % 64), Value.bool false, u22, u23, u24, Value.int IntKind.i64 (-1), Value.bool false, u27, u28, u29, u30, u31, u32, u33, u34, u35, u36, Value.pointer (some { block := g1, off := 0 }), Value.agg (U IntKind.i64 H), Value.int IntKind.i64 ↑tl.length, Value.slice A5 tl.length c5, Value.int IntKind.i64 ↑tl.length, Value.bool false, u43, u44, u45, u46, u47, u48, u49, u50, u51, Value.slice A52 0 c52, Value.int IntKind.i64 ↑i, Value.bool true, u55, u56, V 0, V 1, V 2, V 3, V 4, V 5, V 6, V 7, V 8, V 9, V 10, V 11, V 12, V 13, V 14, V 15, V 16, V 17, V 18, V 19, V 20, u78, undef], []⟩ : Act) ∧ StI (soFact h i g6 A5_ c5_) 21 listed V W ∧ W.heap[g6]? = some (.cells (U .i64 h) 22 (0, 0)) ∧ Kd.R (Kd.int .u8) 5 W w.heap.size (fun _ => True) (.slice A5_ (outN h i).length c5_) (outN h i) ∧ Below w.heap.size w W) ?h0 ?hstep ?hend
                  case h0 => exact ⟨fun j => match j with | 0 => u57 | 1 => u58 | 2 => u59 | 3 => u60 | 4 => u61 | 5 => u62 | 6 => u63 | 7 => u64 | 8 => u65 | 9 => u66 | 10 => u67 | 11 => u68 | 12 => u69 | 13 => u70 | 14 => u71 | 15 => u72 | 16 => u73 | 17 => u74 | 18 => u75 | 19 => u76 | 20 => u77 | _ => undef, rfl, (by intro j hj h; rw [getD_replicate_false] at h; cases h), H6.out, (by exact HO.out), below_drew1 HB.out⟩
                  case hstep =>
                    clear H6 HO HB hcl
                    rintro listed a W inv ⟨V, rfl, HI, H6W, HOW, HBW⟩ j hj hr
                    have hcl : W.cell? ⟨g6, i, none⟩ = some (.int .i64 (rd h i)) := cellU H6W i (by rw [LHh.out]; exact cc)
                    have hgo : ∀ (v : Value) (W' : World), Below W.heap.size W W' → soFact h i g6 A5_ c5_ j v W' → StI (soFact h i g6 A5_ c5_) 21 (listed.setIfInBounds j true) (fun q => if q = j then v else V q) W' ∧ W'.heap[g6]? = some (.cells (U .i64 h) 22 (0, 0)) ∧ Kd.R (Kd.int .u8) 5 W' w.heap.size (fun _ => True) (.slice A5_ (outN h i).length c5_) (outN h i) ∧ Below w.heap.size w W' :=
                      fun v W' hb hf => ⟨HI.step (fun j v h => soFact_grow hb j v h) j v hf, blk_below H6W hb, Kd.R_below HOW hb, below_step HBW hb⟩
                    match j, hj, hr, hgo with
                    | 0, _, hr, hgo =>
                      refine op_val rfl rfl (v := .slice A5_ (outN h i).length c5_) (w' := W) ?_ ⟨_, rfl, hgo _ _ (Below.refl _ _) rfl⟩
                      first | (go_simp; done) | (go_simp; rfl)
                    | 1, _, hr, hgo =>
                      refine op_val rfl rfl (v := .int .i64 i) (w' := W) ?_ ⟨_, rfl, hgo _ _ (Below.refl _ _) rfl⟩
                      first | (go_simp; done) | (go_simp; rfl)
                    | 2, _, hr, hgo =>
                      have e1 : V 1 = .int .i64 i := HI 1 (by omega) (dep_of hr (by kernel_rfl))
                      refine op_val rfl rfl (v := .pointer (some ⟨g6, i, none⟩)) (w' := W) ?_ ⟨_, rfl, hgo _ _ (Below.refl _ _) rfl⟩
                      first | (go_simp; done) | (go_simp; rfl)
                    | 3, _, hr, hgo =>
                      have e2 : V 2 = .pointer (some ⟨g6, i, none⟩) := HI 2 (by omega) (dep_of hr (by kernel_rfl))
                      refine op_val rfl rfl (v := .int .i64 (rd h i)) (w' := W) ?_ ⟨_, rfl, hgo _ _ (Below.refl _ _) rfl⟩
                      first | (go_simp; done) | (go_simp; rfl)
                    | 4, _, hr, hgo =>
                      have e3 : V 3 = .int .i64 (rd h i) := HI 3 (by omega) (dep_of hr (by kernel_rfl))
                      refine op_val rfl rfl (v := .int .i64 (rd h i / 16777216)) (w' := W) ?_ ⟨_, rfl, hgo _ _ (Below.refl _ _) rfl⟩
                      first | (go_simp; done) | (go_simp; rfl)
                    | 5, _, hr, hgo =>
                      have e4 : V 4 = .int .i64 (rd h i / 16777216) := HI 4 (by omega) (dep_of hr (by kernel_rfl))
                      refine op_val rfl rfl (v := .int .u8 (rd h i / 16777216 % 256)) (w' := W) ?_ ⟨_, rfl, hgo _ _ (Below.refl _ _) rfl⟩
                      first | (go_simp; done) | (go_simp; rfl)
                    | 6, _, hr, hgo =>
                      refine op_val rfl rfl (v := .int .i64 i) (w' := W) ?_ ⟨_, rfl, hgo _ _ (Below.refl _ _) rfl⟩
                      first | (go_simp; done) | (go_simp; rfl)
                    | 7, _, hr, hgo =>
                      have e6 : V 6 = .int .i64 i := HI 6 (by omega) (dep_of hr (by kernel_rfl))
                      refine op_val rfl rfl (v := .pointer (some ⟨g6, i, none⟩)) (w' := W) ?_ ⟨_, rfl, hgo _ _ (Below.refl _ _) rfl⟩
                      first | (go_simp; done) | (go_simp; rfl)
                    | 8, _, hr, hgo =>
                      have e7 : V 7 = .pointer (some ⟨g6, i, none⟩) := HI 7 (by omega) (dep_of hr (by kernel_rfl))
                      refine op_val rfl rfl (v := .int .i64 (rd h i)) (w' := W) ?_ ⟨_, rfl, hgo _ _ (Below.refl _ _) rfl⟩
                      first | (go_simp; done) | (go_simp; rfl)
                    | 9, _, hr, hgo =>
                      have e8 : V 8 = .int .i64 (rd h i) := HI 8 (by omega) (dep_of hr (by kernel_rfl))
                      refine op_val rfl rfl (v := .int .i64 (rd h i / 65536)) (w' := W) ?_ ⟨_, rfl, hgo _ _ (Below.refl _ _) rfl⟩
                      first | (go_simp; done) | (go_simp; rfl)
                    | 10, _, hr, hgo =>
                      have e9 : V 9 = .int .i64 (rd h i / 65536) := HI 9 (by omega) (dep_of hr (by kernel_rfl))
                      refine op_val rfl rfl (v := .int .u8 (rd h i / 65536 % 256)) (w' := W) ?_ ⟨_, rfl, hgo _ _ (Below.refl _ _) rfl⟩
                      first | (go_simp; done) | (go_simp; rfl)
                    | 11, _, hr, hgo =>
                      refine op_val rfl rfl (v := .int .i64 i) (w' := W) ?_ ⟨_, rfl, hgo _ _ (Below.refl _ _) rfl⟩
                      first | (go_simp; done) | (go_simp; rfl)
                    | 12, _, hr, hgo =>
                      have e11 : V 11 = .int .i64 i := HI 11 (by omega) (dep_of hr (by kernel_rfl))
                      refine op_val rfl rfl (v := .pointer (some ⟨g6, i, none⟩)) (w' := W) ?_ ⟨_, rfl, hgo _ _ (Below.refl _ _) rfl⟩
                      first | (go_simp; done) | (go_simp; rfl)
                    | 13, _, hr, hgo =>
                      have e12 : V 12 = .pointer (some ⟨g6, i, none⟩) := HI 12 (by omega) (dep_of hr (by kernel_rfl))
                      refine op_val rfl rfl (v := .int .i64 (rd h i)) (w' := W) ?_ ⟨_, rfl, hgo _ _ (Below.refl _ _) rfl⟩
                      first | (go_simp; done) | (go_simp; rfl)
                    | 14, _, hr, hgo =>
                      have e13 : V 13 = .int .i64 (rd h i) := HI 13 (by omega) (dep_of hr (by kernel_rfl))
                      refine op_val rfl rfl (v := .int .i64 (rd h i / 256)) (w' := W) ?_ ⟨_, rfl, hgo _ _ (Below.refl _ _) rfl⟩
                      first | (go_simp; done) | (go_simp; rfl)
                    | 15, _, hr, hgo =>
                      have e14 : V 14 = .int .i64 (rd h i / 256) := HI 14 (by omega) (dep_of hr (by kernel_rfl))
                      refine op_val rfl rfl (v := .int .u8 (rd h i / 256 % 256)) (w' := W) ?_ ⟨_, rfl, hgo _ _ (Below.refl _ _) rfl⟩
                      first | (go_simp; done) | (go_simp; rfl)
                    | 16, _, hr, hgo =>
                      refine op_val rfl rfl (v := .int .i64 i) (w' := W) ?_ ⟨_, rfl, hgo _ _ (Below.refl _ _) rfl⟩
                      first | (go_simp; done) | (go_simp; rfl)
                    | 17, _, hr, hgo =>
                      have e16 : V 16 = .int .i64 i := HI 16 (by omega) (dep_of hr (by kernel_rfl))
                      refine op_val rfl rfl (v := .pointer (some ⟨g6, i, none⟩)) (w' := W) ?_ ⟨_, rfl, hgo _ _ (Below.refl _ _) rfl⟩
                      first | (go_simp; done) | (go_simp; rfl)
                    | 18, _, hr, hgo =>
                      have e17 : V 17 = .pointer (some ⟨g6, i, none⟩) := HI 17 (by omega) (dep_of hr (by kernel_rfl))
                      refine op_val rfl rfl (v := .int .i64 (rd h i)) (w' := W) ?_ ⟨_, rfl, hgo _ _ (Below.refl _ _) rfl⟩
                      first | (go_simp; done) | (go_simp; rfl)
                    | 19, _, hr, hgo =>
                      have e18 : V 18 = .int .i64 (rd h i) := HI 18 (by omega) (dep_of hr (by kernel_rfl))
                      refine op_val rfl rfl (v := .int .u8 (rd h i % 256)) (w' := W) ?_ ⟨_, rfl, hgo _ _ (Below.refl _ _) rfl⟩
                      first | (go_simp; done) | (go_simp; rfl)
                    | 20, _, hr, hgo =>
                      have e5 : V 5 = .int .u8 (rd h i / 16777216 % 256) := HI 5 (by omega) (dep_of hr (by kernel_rfl))
                      have e10 : V 10 = .int .u8 (rd h i / 65536 % 256) := HI 10 (by omega) (dep_of hr (by kernel_rfl))
                      have e15 : V 15 = .int .u8 (rd h i / 256 % 256) := HI 15 (by omega) (dep_of hr (by kernel_rfl))
                      have e19 : V 19 = .int .u8 (rd h i % 256) := HI 19 (by omega) (dep_of hr (by kernel_rfl))
                      refine op_val rfl rfl (v := .slice (some ⟨W.heap.size, 0, none⟩) 4 4) (w' := W.alloc (.cells (U .u8 [rd h i / 16777216 % 256, rd h i / 65536 % 256, rd h i / 256 % 256, rd h i % 256]) 5)) ?_ ⟨_, rfl, hgo _ _ (below_alloc (Below.refl _ _) _) ⟨_, _, rfl, lit_reads W [rd h i / 16777216 % 256, rd h i / 65536 % 256, rd h i / 256 % 256, rd h i % 256]⟩⟩
                      first | (go_simp; done) | (go_simp; rfl)
                    | _ + 21, h, _, _ => exact absurd h (by omega)
                  case hend =>
                    clear H6 HO HB hcl
                    rintro listed a W ⟨V, rfl, HI, H6W, HOW, HBW⟩ hall
                    have e0 : V 0 = .slice A5_ (outN h i).length c5_ := HI 0 (by omega) (hall 0 (by omega))
                    obtain ⟨A7, c7, e20, hC⟩ := HI 20 (by omega) (hall 20 (by omega))
                    simp only [List.drop_succ_cons, List.drop_zero]
                    refine Kd.R_append_rows (Kd.int .u8) (w0 := w) w.heap.size rfl (.tmp 57) (.tmp 77) 23 5 (.int .u8 0) 1 rfl Try.underlying23 info5 rfl (by decide) (by omega) (.slice A5_ (outN h i).length c5_) (outN h i) [rd h i / 16777216 % 256, rd h i / 65536 % 256, rd h i / 256 % 256, rd h i % 256] A7 4 c7 (fun _ => True) (fun _ => False) e0 e20 HOW hC (fun _ _ h => h) (fun _ h => h.elim) (fun _ _ => trivial) HBW (below_size HBW) (by have := OL.out; omega) ?_
                    intro v8 w8 ho hb hg hat
                    have HOn := Aside0.mk ho
                    have HBn := Aside0.mk hb
                    have H6n := Aside0.mk (blk_grown H6W hg (Kd.R_ne HOW H6W (by decide)))
                    clear HI hall H6W HOW HBW ho hb hg hat hC e0 e20
                    go_wp2
                    go_roundg (8 - i - 1)
                    case measure => omega
                    case rel => exact ⟨i + 1, by go_num, by omega, HOn, H6n, HBn⟩
                · obtain rfl : i = 8 := by omega
                  clear cc
                  go_wp2
                  go_ret
                  exact ⟨_, rfl, by unfold digS; rw [← NT.out, HFE.out]; exact HO.out, HB.out⟩
        | succ j =>
          have ej : ((j + 1 : Nat) : Int) - 1 = j := by omega
          rw [ej]
          clear ej
          have qs : 0 ≤ 8 * (j : Int) ∧ 8 * (j : Int) ≤ 56 := by omega
          have qt := HL2.out
          have qt2 : t2.length ≤ 200000000000 := by omega
          clear qt
          go_wp2_with (first
           | ((with_reducible refine gate_dst (N := 35) rfl ?_); refine lit_event (N := 35) ?hg35 ?hd35 ([8 * m / 2 ^ (8 * j) % 256]) (by simp) ?hr35 ?_; (case hd35 => rfl); (case hg35 => rfl); (case hr35 => first | (go_simp; done) | (go_simp; rfl)); intro A35 c35 w35 ho hb; have n0_ := Aside0.mk (below_step HB.out hb); have n1_ := Aside0.mk (Kd.R_below HO.out hb); have HX := Aside0.mk (Kd.R_reads' ho).2.2; have hk_ := Aside0.mk (blk_below HK.out hb); clear HK hcm; have HK := hk_; clear hk_; have hcm : w35.cell? ⟨g1, 9, none⟩ = some (.int .i64 m) := (blk_cell HK.out 9).trans (SV_many _ _ _ LH.out); clear HB HO ho hb; have HB := n0_; have HO := n1_; clear n0_ n1_)
           | ((with_reducible refine gate_builtin (b := .append) (xs := #[.tmp 29, .tmp 35]) rfl ?_); at_builtin; refine Kd.R_append_rows (Kd.int .u8) (w0 := w) w.heap.size rfl (.tmp 29) (.tmp 35) 23 5 (.int .u8 0) 1 rfl Try.underlying23 info5 rfl (by decide) (by omega) (.slice A5 t2.length c5) (t2) ([8 * m / 2 ^ (8 * j) % 256]) _ _ _ (fun _ => True) (fun _ => False) rfl rfl ?aOx36 ?aRx36 (fun _ _ h => h) (fun _ h => h.elim) ?aFx36 ?aBx36 ?aSx36 ?aLx36 ?_; (case aRx36 => exact HX.out); (case aBx36 => exact HB.out); (case aFx36 => exact (fun _ _ => trivial)); (case aOx36 => exact HO.out); (case aSx36 => exact below_size HB.out); (case aLx36 => simp only [List.length_cons, List.length_nil]; omega); intro x36 wx36 ho hb hg hat; have n0_ := Aside0.mk hb; have n1_ := Aside0.mk ho; have hk_ := Aside0.mk (blk_grown HK.out hg (Kd.R_ne HO.out HK.out (by decide))); clear HK hcm; have HK := hk_; clear hk_; have hcm : wx36.cell? ⟨g1, 9, none⟩ = some (.int .i64 m) := (blk_cell HK.out 9).trans (SV_many _ _ _ LH.out); clear HB HO HX; have HB := n0_; have HO := n1_; clear n0_ n1_ ho hb hg hat))
          go_roundg j
          case measure => omega
          case rel => exact ⟨j, t2 ++ [8 * m / 2 ^ (8 * j) % 256], by go_num, rfl, by omega, ⟨by have := HL2.out; rw [List.length_append]; simp only [List.length_cons, List.length_nil]; omega⟩, ⟨by rw [List.append_assoc]; exact HE.out⟩, HO, HK, HB⟩
    · have d0 : (((t.length : Int) % 64) == 56) = false := by
        rw [beq_eq_false_iff_ne]; omega
      have d1 : (((t.length : Int) % 64) != 56) = true := by
        rw [bne_iff_ne]; omega
      cases gk with
      | zero => exact absurd HM.out (by omega)
      | succ n =>
        have HP2 := HP.out
        rw [padS_succ, if_neg cc] at HP2
        have HPn := Aside0.mk HP2
        have qt2 : t.length ≤ 200000000000 := by omega
        have hM2 : (120 - (t.length + 1) % 64) % 64 ≤ n := by have := HM.out; omega
        have HM2 := Aside0.mk hM2
        clear HP2 HP cc hM2
        go_wp2_with (first
         | ((with_reducible refine gate_dst (N := 23) rfl ?_); refine lit_event (N := 23) ?hg23 ?hd23 ([(0 : Int)]) (by simp) ?hr23 ?_; (case hd23 => rfl); (case hg23 => rfl); (case hr23 => first | (go_simp; done) | (go_simp; rfl)); intro A23 c23 w23 ho hb; have n0_ := Aside0.mk (below_step HB.out hb); have n1_ := Aside0.mk (Kd.R_below HO.out hb); have HX := Aside0.mk (Kd.R_reads' ho).2.2; have hk_ := Aside0.mk (blk_below HK.out hb); clear HK hcm; have HK := hk_; clear hk_; have hcm : w23.cell? ⟨g1, 9, none⟩ = some (.int .i64 m) := (blk_cell HK.out 9).trans (SV_many _ _ _ LH.out); clear HB HO ho hb; have HB := n0_; have HO := n1_; clear n0_ n1_)
         | ((with_reducible refine gate_builtin (b := .append) (xs := #[.tmp 22, .tmp 23]) rfl ?_); at_builtin; refine Kd.R_append_rows (Kd.int .u8) (w0 := w) w.heap.size rfl (.tmp 22) (.tmp 23) 23 5 (.int .u8 0) 1 rfl Try.underlying23 info5 rfl (by decide) (by omega) (.slice A4 t.length c4) (t) ([(0 : Int)]) _ _ _ (fun _ => True) (fun _ => False) rfl rfl ?aOx24 ?aRx24 (fun _ _ h => h) (fun _ h => h.elim) ?aFx24 ?aBx24 ?aSx24 ?aLx24 ?_; (case aRx24 => exact HX.out); (case aBx24 => exact HB.out); (case aFx24 => exact (fun _ _ => trivial)); (case aOx24 => exact HO.out); (case aSx24 => exact below_size HB.out); (case aLx24 => simp only [List.length_cons, List.length_nil]; omega); intro x24 wx24 ho hb hg hat; have n0_ := Aside0.mk hb; have n1_ := Aside0.mk ho; have hk_ := Aside0.mk (blk_grown HK.out hg (Kd.R_ne HO.out HK.out (by decide))); clear HK hcm; have HK := hk_; clear hk_; have hcm : wx24.cell? ⟨g1, 9, none⟩ = some (.int .i64 m) := (blk_cell HK.out 9).trans (SV_many _ _ _ LH.out); clear HB HO HX; have HB := n0_; have HO := n1_; clear n0_ n1_ ho hb hg hat))
        go_roundg n
        case measure => omega
        case rel => exact ⟨t ++ [0], HPn, by rw [List.length_append]; simp only [List.length_cons, List.length_nil]; omega, ⟨by rw [List.length_append]; exact HM2.out⟩, HO, HK, HB⟩
set_option maxHeartbeats 8000000 in
set_option maxRecDepth 100000 in
theorem spec_NewStream_ (w : World) : Calls Try.prog 14 #[] w fun e w' => e = .returned (.agg (SV startL (.slice none 0 0) 0)) ∧ Below w.heap.size w w' := by
  have HS : Aside0 (Arrs w w []) := ⟨Arrs.refl w⟩
  go_enter Try.func14, Try.ntmps14
  go_wp2_with (first
   | ((with_reducible refine gate_dst (N := 0) rfl ?_); refine box_arrs ?hg0 (N := 0) ?hd0 (SV z8 (.slice none 0 0) 0) 28 HS ?hr0 ?_; (case hd0 => rfl); (case hg0 => rfl); (case hr0 => first | (go_simp; done) | (go_simp; rfl)); intro g0 w0 h_; clear HS; have HS := h_; clear h_)
   | (go_at_call 40; refine (spec_l5Start.calls _).mono ?_; rintro e w7 ⟨rfl, hb⟩; have h_ := Aside0.mk (HS.out.below hb); clear HS hb; have HS := h_; clear h_)
   | ((with_reducible refine gate_dst (N := 2) rfl ?_); refine build_event rfl (N := 2) rfl 28 _ rfl (SV startL (.slice none 0 0) 0) (by kernel_rfl) ?_)
   | ((with_reducible refine gate_store (t := 28) (p := 0) rfl ?_); refine store_arrs rfl 28 (.tmp 2) rfl rfl 0 (SV startL (.slice none 0 0) 0) HS rfl rfl rfl (info_S _ _ _ rfl) rfl (SV_one _ _ _ rfl) ?_; intro w5 h_; clear HS; have HS := h_; clear h_))
  exact bodyPost_ret (results_cell_row rfl _ _ _ 28 _ (0, 0) _ rfl (HS.out.get 0) Try.underlying28 rfl (info_S _ _ _ rfl)) rfl ⟨rfl, HS.out.1⟩
def shaS (d : List Int) : List Int := digS (feedS keysL d.length startL d).1 (feedS keysL d.length startL d).2 (0 + d.length)
def spec_Sha.f (l0 : List Int) : Option (List Int) := if l0.length ≤ 2000000 then some (if 20000 < l0.length then [] else shaS l0) else none
set_option maxHeartbeats 8000000 in
set_option maxRecDepth 100000 in
theorem spec_Sha.calls (A0 : Option Addr) (c0 : Nat) (l0 : List Int) (r : List Int) (w : World) (hr0 : Kd.C (Kd.int .u8) w A0 l0.length l0) (hc0 : l0.length ≤ c0) (h : spec_Sha.f l0 = some r) :
    Calls Try.prog 18 #[.slice A0 l0.length c0] w fun e w' => ∃ v0_ : Value, e = .returned (v0_) ∧ Kd.R (Kd.int .u8) 5 w' w.heap.size (fun _ => True) v0_ r ∧ Below w.heap.size w w' := by
  have hl : l0.length ≤ 2000000 := by
    unfold spec_Sha.f at h
    by_cases c : l0.length ≤ 2000000
    · exact c
    · rw [if_neg c] at h
      cases h
  have hrr : (if 20000 < l0.length then [] else shaS l0) = r := by
    unfold spec_Sha.f at h
    rw [if_pos hl] at h
    exact Option.some.inj h
  clear h
  have HR := Aside0.mk hr0
  clear hr0
  by_cases c : 20000 < l0.length
  · rw [if_pos c] at hrr
    have HRR := Aside0.mk hrr
    have q : (20000 : Int) < l0.length := by omega
    have HB := Aside0.mk (Below.refl w.heap.size w)
    clear hrr c
    go_enter Try.func18, Try.ntmps18
    go_wp2_with ((with_reducible refine gate_dst (N := 6) rfl ?_); refine lit_event (N := 6) ?hg6 ?hd6 ([] : List Int) (by simp) ?hr6 ?_; (case hd6 => rfl); (case hg6 => rfl); (case hr6 => first | (go_simp; done) | (go_simp; rfl)); intro A6 c6 w6 ho hb; have HO := Aside0.mk ho; have HB2 := Aside0.mk hb; clear ho hb)
    go_ret
    exact ⟨_, rfl, by rw [← HRR.out]; exact HO.out, HB2.out⟩
  · rw [if_neg c] at hrr
    have q : (l0.length : Int) ≤ 20000 := by omega
    unfold shaS at hrr
    have HRR := Aside0.mk hrr
    obtain ⟨N, hN⟩ : ∃ N, N = startL := ⟨_, rfl⟩
    have LN : Aside0 (N.length = 8) := ⟨by rw [hN]; rfl⟩
    have HN : Aside0 (∀ W : World, Calls Try.prog 14 #[] W fun e w' => e = .returned (.agg (SV N (.slice none 0 0) 0)) ∧ Below W.heap.size W w') := ⟨by rw [hN]; exact spec_NewStream_⟩
    rw [← hN] at HRR
    have HF : Aside0 (∃ F, F = feedS keysL l0.length N l0 ∧ F.1.length = 8 ∧ F.2.length ≤ 2000000 ∧ ∀ W : World, Kd.C (Kd.int .u8) W A0 l0.length l0 → Calls Try.prog 44 #[.agg (SV N (.slice none 0 0) 0), .slice A0 l0.length c0] W fun e w' => ∃ vr : Value, e = .returned (.agg (SV F.1 vr (0 + l0.length))) ∧ Kd.R (Kd.int .u8) 5 w' W.heap.size (fun _ => True) vr F.2 ∧ Below W.heap.size W w') :=
      ⟨_, rfl, feedS_len _ _ _ _ LN.out, Nat.le_trans (feedS_rest _ _ _ _) (by omega), fun W hW => spec_l5Feed_ N LN.out none A0 0 c0 [] l0 0 W (Kd.C_nil _ _) (Nat.le_refl _) hW (by simp only [List.length_nil]; omega) (by omega) (by omega)⟩
    obtain ⟨F, hF, hF8, hF2, hFc⟩ := HF.out
    rw [← hF] at HRR
    have FC := Aside0.mk hFc
    have F8 := Aside0.mk hF8
    have F2 := Aside0.mk hF2
    clear hrr hF hF8 hF2 hFc HF hN c
    obtain ⟨F1, F3⟩ := F
    have ql : 0 ≤ 0 + (l0.length : Int) ∧ 0 + (l0.length : Int) ≤ 2000000 := by omega
    go_enter Try.func18, Try.ntmps18
    go_wp2_with (first
     | (go_at_call 14; ((with_reducible refine (HN.out _).mono ?_); rintro e w1 ⟨rfl, hb⟩; have HB := Aside0.mk hb; clear hb))
     | (go_at_call 44; ((with_reducible refine (FC.out _ (Kd.C_below HR.out HB.out)).mono ?_); rintro e w2 ⟨vr, rfl, ho, hb⟩; have HB2 := Aside0.mk (below_step HB.out hb); clear HB hb; obtain ⟨A2, c2, rfl⟩ := Kd.R_slice ho; have HO := Aside0.mk (Kd.R_reads' ho).2.2; have HC := Aside0.mk (Kd.R_reads' ho).2.1; clear ho))
     | (go_at_call 43; ((refine (spec_l5Digest_ F1 F8.out A2 c2 F3 _ _ HO.out HC.out (by have := F2.out; omega) (by omega) (by omega)).mono ?_); rintro e w3 ⟨vr, rfl, ho, hb⟩; have HB3 := Aside0.mk (below_step HB2.out hb); have HO3 := Aside0.mk (Kd.R_mono (Kd.R_lower ho (below_size HB2.out)) (fun _ hk => hk)); clear HB2 hb ho)))
    go_ret
    exact ⟨_, rfl, by rw [← HRR.out, Int.zero_add]; exact HO3.out, HB3.out⟩

end Go.Proofs.Ytiffbeoignoedaa.PFnExactSha
