-- Written for this claim by a program of this session.
import Derived.Test.YtiffbeoignoedaaProg
import Derived.Below
import Derived.Deep.Draws
import Derived.Deep.AppendLies
import Derived.Maps.AppendAt
import Derived.OwnWalk
import Derived.Laws.BytesArg
import Derived.Laws.MakeOwn
import Derived.Laws.OwnMore
import Derived.Deep.OwnRows
import Derived.Tactics
import Derived.Lib.ConvBytes
import Derived.Laws.Slices
import Derived.WalkKit
import Derived.KernelRfl
import Derived.RowKit3
import Derived.Deep.LoopGhost
import Derived.Deep.QuietTactic
import Derived.BigQuiet
import Derived.WideLaws
import Derived.Deep.DeepCutAuto
import Derived.Deep.CutBlock
import Derived.Deep.RegionHeld3
import Derived.Laws.Rows
import Derived.Lib.AppendStr
import Derived.ArgAppend
import Derived.Laws.IdiomCopy
import Derived.OrdersHeld
import Derived.Laws.BitsLemmas
import Derived.RowKit
import Derived.Lib.SliceRun
import Derived.Laws.CopyOwn
import Derived.StillTailTactics
import Derived.LoopN
import Derived.Deep.MidRow
import Derived.Lib.ReflectliteSwap
import Derived.Test.YtiffbeoignoedaaWWords
import Derived.Test.YtiffbeoignoedaaWLast
import Derived.Test.YtiffbeoignoedaaWTab
import Derived.Test.YtiffbeoignoedaaWFour
import Derived.Test.YtiffbeoignoedaaWQPut
import Derived.Test.YtiffbeoignoedaaWApart
import Derived.Test.YtiffbeoignoedaaWArr
import Derived.Test.YtiffbeoignoedaaWZeros
import Derived.Test.YtiffbeoignoedaaWFoot
import Derived.Test.YtiffbeoignoedaaWKept
import Derived.Test.YtiffbeoignoedaaWShare
import Derived.Test.YtiffbeoignoedaaWN
import Derived.Test.YtiffbeoignoedaaWFootNe
import Derived.Test.YtiffbeoignoedaaWAt
import Derived.Test.YtiffbeoignoedaaWEqStruct
import Derived.Test.YtiffbeoignoedaaWRepsOne
import Derived.Test.YtiffbeoignoedaaWInv
import Derived.Test.YtiffbeoignoedaaWInvWords
import Derived.Test.YtiffbeoignoedaaWGuard
import Derived.Test.YtiffbeoignoedaaWNEv
import Derived.Test.YtiffbeoignoedaaWMore
namespace Go.Proofs.Ytiffbeoignoedaa.PFnPieces
open Go.RowKit Go.Proofs.YtiffbeoignoedaaW.PrintWords Go.Proofs.YtiffbeoignoedaaW.PrintLast Go.Proofs.YtiffbeoignoedaaW.PrintMore
attribute [local go_sem] max2_int min2_int max_two min_two max_three min_three max_four min_four   -- for this text's walks alone
set_option linter.unusedVariables false
set_option linter.unusedSimpArgs false

/-- A block of an elder world, seen through what draws and makes. -/
class PeelB (W' W : World) : Prop where
  keep : ∀ {g : Nat} {o : Obj}, W.heap[g]? = some o → W'.heap[g]? = some o
instance (W : World) : PeelB W W := ⟨fun h => h⟩
instance (W' W : World) (n : Nat) [PeelB W' W] : PeelB (W'.drewN n) W := ⟨fun h => blk_drewN (PeelB.keep h) _⟩
instance (W' W : World) [PeelB W' W] : PeelB W'.drew W := ⟨fun h => blk_drew (PeelB.keep h)⟩
instance (W' W : World) (o : Obj) [PeelB W' W] : PeelB (W'.alloc o) W := ⟨fun h => blk_alloc (PeelB.keep h) _⟩
theorem bw_ {w W W' : World} (HB : Aside0 (Below w.heap.size w W)) (h : Below w.heap.size w W → Below w.heap.size w W' := by intro h_; repeat (first | (with_reducible first | exact h_ | apply below_alloc | apply pw_below_drewN | apply below_drew1 | refine below_set ?_ (Aside0.out (by assumption))) | exact h_)) :
    Below w.heap.size w W' := h HB.out
theorem bc_ {W : World} {g : Nat} {cs : Array Value} {t : TypeId} (h : Aside0 (W.heap[g]? = some (.cells cs t (0, 0)))) (j : Nat) {v : Value} (e : cs[j]? = some v := by rfl) : W.cell? ⟨g, j, none⟩ = some v := (blk_cell h.out j).trans e
theorem bk_ {W' W : World} {g : Nat} {o : Obj} (h : Aside0 (W.heap[g]? = some o)) [PeelB W' W] : W'.heap[g]? = some o := PeelB.keep h.out
theorem sA_ {α : Type} (l : List α) (i : Nat) (a : α) : l.toArray.setIfInBounds i a = (l.set i a).toArray := List.setIfInBounds_toArray l i a
theorem sZ_ {α : Type} (l : List α) (a b : α) : (a :: l).set 0 b = b :: l := List.set_cons_zero
theorem sS_ {α : Type} (l : List α) (i : Nat) (a b : α) : (a :: l).set (i + 1) b = a :: l.set i b := List.set_cons_succ
/-- A row's length, spelled otherwise. -/
theorem rowLen_ {α : Type} {M : α → List Value → Prop} {sz : Nat} {w : World} {A : Option Addr} {n n' : Nat} {xs : List α} (h : n = n') (k : ReadsRow M sz w A n xs) : ReadsRow M sz w A n' xs := by
  subst h
  exact k
theorem bb_ {W W' W2 : World} {g : Nat} {o : Obj} (h : Aside0 (W.heap[g]? = some o)) [PeelB W' W] (hb : Below W'.heap.size W' W2) : Aside0 (W2.heap[g]? = some o) := ⟨blk_below (bk_ h) hb⟩
theorem nl_ {W W' : World} {g n : Nat} {o : Obj} (h : Aside0 (W.heap[g]? = some o)) [PeelB W' W] (hg : n = W'.heap.size) : Aside0 (g ≠ n) := ⟨by rw [hg]; exact Nat.ne_of_lt (blk_lt (bk_ h))⟩
theorem nr_ {W W' : World} {g n : Nat} {o : Obj} (h : Aside0 (W.heap[g]? = some o)) [PeelB W' W] (hg : n = W'.heap.size) : Aside0 (n ≠ g) := ⟨by rw [hg]; exact Nat.ne_of_gt (blk_lt (bk_ h))⟩
theorem ge_ {w W W' : World} {n : Nat} (HB : Aside0 (Below w.heap.size w W)) (hg : n = W'.heap.size) (h : Below w.heap.size w W → Below w.heap.size w W' := by intro h_; repeat (first | (with_reducible first | exact h_ | apply below_alloc | apply pw_below_drewN | apply below_drew1 | refine below_set ?_ (Aside0.out (by assumption))) | exact h_)) : Aside0 (w.heap.size ≤ n) := ⟨by rw [hg]; exact below_size (h HB.out)⟩
theorem bs_ {w W W' W2 : World} (HB : Aside0 (Below w.heap.size w W)) (hb : Below W'.heap.size W' W2) (h : Below w.heap.size w W → Below w.heap.size w W' := by intro h_; repeat (first | (with_reducible first | exact h_ | apply below_alloc | apply pw_below_drewN | apply below_drew1 | refine below_set ?_ (Aside0.out (by assumption))) | exact h_)) : Aside0 (Below w.heap.size w W2) := ⟨below_step (h HB.out) hb⟩
theorem nm_ {P : Program} {md : Region.Mode} {ops : Array Oper} {Q : Exit → Act → World → Prop} {S : World → Prop} {ds : List Nat} {fuel : Nat} {l : Array Bool} {a a' : Act} {w : World} (h : wpAnyLast P md ops Q S ds fuel l a' w)
    (ha : a = a' := by first | (simp only [putAll, Act.put, List.setIfInBounds_toArray, List.set_cons_zero, List.set_cons_succ]; done) | (simp only [putAll, Act.put, List.setIfInBounds_toArray, List.set_cons_zero, List.set_cons_succ]; rfl)) : wpAnyLast P md ops Q S ds fuel l a w := norm_ ha h
theorem bf_ {W W' : World} {g : Nat} {cs : Array Value} {t : TypeId} (h : Aside0 (W.heap[g]? = some (.cells cs t (0, 0)))) (k : W.heap[g]? = some (.cells cs t (0, 0)) → W'.heap[g]? = some (.cells cs t (0, 0)) := by intro h_; repeat (first | (with_reducible exact h_) | (with_reducible refine blk_drewN ?_ _) | (with_reducible refine blk_drew ?_) | (with_reducible refine blk_alloc ?_ _) | refine blk_far ?_ (Aside0.out (by assumption)) _)) : W'.heap[g]? = some (.cells cs t (0, 0)) := k h.out
theorem gs_ {P : Program} {ops : Array Oper} {Q : Exit → Act → World → Prop} {oi : Oper} {N : Option Tmp} {a : Act} {w : World} {K : Act → World → Prop} {f : FuncId} {fn : Func} {us : Array Operand} {ts : Array TypeId} (hf : P.funcs[f]? = some fn) (args : Array Value)
    (h : Calls P f args w fun e w' => ∃ v, e = .returned v ∧ K (a.put N v) w') (hname : (fn.name == "runtime.NumGoroutine") = false := by kernel_rfl) (hb : fn.body.isSome = true := by exact rfl) (hw : Region.wanted oi (yielded ops a.tmps) = true := by rfl) (hN : oi.dst = N := by exact rfl) (hop : oi.op = .call { callee := .value (.func f), args := us, argTypes := ts } := by exact rfl)
    (hargs : us.map a.eval = args := by (try simp only [List.map_toArray, List.map_cons, List.map_nil]); first | done | rfl | (simp only [List.length_drop, List.length_take]; rfl)) : if Region.wanted oi (yielded ops a.tmps) = true then Oper.wp P oi a w K Q else K (a.put N undef) w := goes_ hf hname hb args hw hN hop hargs h
theorem gate_calleeT {P : Program} {ops : Array Oper} {Q : Exit → Act → World → Prop} {o : Oper} {rest : List Oper} {a : Act} {W : World} {g : Tmp} {us : Array Operand} {ts : Array TypeId}
    (_ho : o.op = .call { callee := .value (.tmp g), args := us, argTypes := ts }) (h : wpList P ops Q (o :: rest) a W) : wpList P ops Q (o :: rest) a W := h
/-- A call by a slot that holds a function. -/
theorem goesT_ {P : Program} {ops : Array Oper} {Q : Exit → Act → World → Prop} {rest : List Oper} {oi : Oper} {a : Act} {w : World} (N : Option Tmp) (hd : oi.dst = N) (hg : oi.guard = none) {g : Tmp} {f : FuncId} {fn : Func} {us : Array Operand} {ts : Array TypeId}
    (hf : P.funcs[f]? = some fn) (hname : (fn.name == "runtime.NumGoroutine") = false) (hb : fn.body.isSome = true) (args : Array Value)
    (hop : oi.op = .call { callee := .value (.tmp g), args := us, argTypes := ts }) (hv : a.eval (.tmp g) = .func (.func f) #[] #[]) (hargs : us.map a.eval = args)
    (h : Calls P f args w fun e w' => ∃ v, e = .returned v ∧ wpList P ops Q rest (a.put N v) w') : wpList P ops Q (oi :: rest) a w := by
  refine wpList_plain hg fun K hK => ?_
  have he := enters_ hf hname hb args w
  have hrun : (execOp a.eval oi).run P w = .ok (.enter f args) w := by
    unfold execOp
    simp [hop, resolve, hv, Deferred.ofValue, invoke, hargs, he]
  unfold Oper.wp
  rw [hrun, Oper.upon_enter]
  refine h.mono fun e w'' hh => ?_
  obtain ⟨v, rfl, hk⟩ := hh
  subst hd
  exact hK _ _ hk




def errW : Option Int → Value
  | none => .nilIface
  | some c => .iface 0 (.int .i64 c)
theorem errW_none : errW none = .nilIface := rfl
theorem errW_some (c : Int) : errW (some c) = .iface 0 (.int .i64 c) := rfl

theorem info3 : (Try.prog.info? 3).map (fun i => (i.zero, i.size, i.bytes)) = some (some (.int .i64 0), 1, 8) := by kernel_rfl
theorem info5 : (Try.prog.info? 5).map (fun i => (i.zero, i.size, i.bytes)) = some (some (.int .u8 0), 1, 1) := by kernel_rfl
theorem info54 : (Try.prog.info? 54).map (fun i => (i.zero, i.size, i.bytes)) = some (some (.int .u64 0), 1, 8) := by kernel_rfl
-- the values' own types
def rd_L3 (xs : List (List Int)) (i : Int) : (List Int) := xs.getD i.toNat ([] : List Int)
theorem at_L3 {w : World} {A : Option Addr} {n : Nat} {xs : List (List Int)} (h : Kd.C (Kd.slice 5 (Kd.int .u8)) w A n xs) (i : Int) (h0 : 0 ≤ i) (h1 : i < n) : ∃ ad A0 c0, A = some ad ∧ w.cell? (ad.add i.toNat) = some (.slice A0 (rd_L3 xs i).length c0) ∧ (rd_L3 xs i).length ≤ c0 ∧ (Kd.int .u8).C w A0 (rd_L3 xs i).length (rd_L3 xs i) := by
  obtain ⟨ad, c, e, _, hK, hc0⟩ := Kd.C_get h ([] : List Int) i h0 h1
  have hc : ∀ j u, c[j]? = some u → w.cell? (ad.add (i.toNat * 1 + j)) = some u := hc0
  obtain ⟨A0, c0, rfl, l0, g0⟩ := hK
  exact ⟨ad, A0, c0, e, by have hq := hc 0 _ rfl; rwa [Nat.mul_one, Nat.add_zero] at hq, l0, g0⟩

end Go.Proofs.Ytiffbeoignoedaa.PFnPieces
