-- Written for this claim by a program of this session.
import Derived.Test.YtohplbcbkggjaabProg
import Derived.Below
import Derived.Deep.Draws
import Derived.Deep.AppendLies
import Derived.Maps.AppendAt
import Derived.OwnWalk
import Derived.Laws.BytesArg
import Derived.Laws.MakeOwn
import Derived.Laws.OwnMore
import Derived.Deep.OwnRows
import Derived.Tactics
import Derived.Lib.ConvBytes
import Derived.Laws.Slices
import Derived.WalkKit
import Derived.KernelRfl
import Derived.RowKit3
import Derived.Deep.LoopGhost
import Derived.Deep.QuietTactic
import Derived.BigQuiet
import Derived.WideLaws
import Derived.Deep.DeepCutAuto
import Derived.Deep.CutBlock
import Derived.Deep.RegionHeld3
import Derived.Laws.Rows
import Derived.Lib.AppendStr
import Derived.ArgAppend
import Derived.Laws.IdiomCopy
import Derived.OrdersHeld
import Derived.Laws.BitsLemmas
import Derived.RowKit
import Derived.Test.YtohplbcbkggjaabWWords
import Derived.Test.YtohplbcbkggjaabWLast
import Derived.Test.YtohplbcbkggjaabWTab
import Derived.Test.YtohplbcbkggjaabWFour
import Derived.Test.YtohplbcbkggjaabWQPut
import Derived.Test.YtohplbcbkggjaabWApart
import Derived.Test.YtohplbcbkggjaabWArr
import Derived.Test.YtohplbcbkggjaabWZeros
import Derived.Test.YtohplbcbkggjaabWFoot
import Derived.Test.YtohplbcbkggjaabWKept
import Derived.Test.YtohplbcbkggjaabWShare
import Derived.Test.YtohplbcbkggjaabWN
import Derived.Test.YtohplbcbkggjaabWFootNe
import Derived.Test.YtohplbcbkggjaabWAt
import Derived.Test.YtohplbcbkggjaabWEqStruct
import Derived.Test.YtohplbcbkggjaabWRepsOne
import Derived.Test.YtohplbcbkggjaabWInv
import Derived.Test.YtohplbcbkggjaabWInvWords
import Derived.Test.YtohplbcbkggjaabWGuard
import Derived.Test.YtohplbcbkggjaabWNEv
import Derived.Test.YtohplbcbkggjaabWMore
namespace Go.Proofs.Ytohplbcbkggjaab.PFnExactEdOk
open Go.RowKit Go.Proofs.YtohplbcbkggjaabW.PrintWords Go.Proofs.YtohplbcbkggjaabW.PrintLast Go.Proofs.YtohplbcbkggjaabW.PrintMore
attribute [local go_sem] max2_int min2_int max_two min_two max_three min_three max_four min_four   -- for this text's walks alone
set_option linter.unusedVariables false
set_option linter.unusedSimpArgs false

theorem sA_ {α : Type} (l : List α) (i : Nat) (a : α) : l.toArray.setIfInBounds i a = (l.set i a).toArray := List.setIfInBounds_toArray l i a
theorem sZ_ {α : Type} (l : List α) (a b : α) : (a :: l).set 0 b = b :: l := List.set_cons_zero
theorem sS_ {α : Type} (l : List α) (i : Nat) (a b : α) : (a :: l).set (i + 1) b = a :: l.set i b := List.set_cons_succ
/-- A row's length, spelled otherwise. -/
theorem rowLen_ {α : Type} {M : α → List Value → Prop} {sz : Nat} {w : World} {A : Option Addr} {n n' : Nat} {xs : List α} (h : n = n') (k : ReadsRow M sz w A n xs) : ReadsRow M sz w A n' xs := by
  subst h
  exact k
theorem gate_calleeT {P : Program} {ops : Array Oper} {Q : Exit → Act → World → Prop} {o : Oper} {rest : List Oper} {a : Act} {W : World} {g : Tmp} {us : Array Operand} {ts : Array TypeId}
    (_ho : o.op = .call { callee := .value (.tmp g), args := us, argTypes := ts }) (h : wpList P ops Q (o :: rest) a W) : wpList P ops Q (o :: rest) a W := h
/-- A call by a slot that holds a function. -/
theorem goesT_ {P : Program} {ops : Array Oper} {Q : Exit → Act → World → Prop} {rest : List Oper} {oi : Oper} {a : Act} {w : World} (N : Option Tmp) (hd : oi.dst = N) (hg : oi.guard = none) {g : Tmp} {f : FuncId} {fn : Func} {us : Array Operand} {ts : Array TypeId}
    (hf : P.funcs[f]? = some fn) (hname : (fn.name == "runtime.NumGoroutine") = false) (hb : fn.body.isSome = true) (args : Array Value)
    (hop : oi.op = .call { callee := .value (.tmp g), args := us, argTypes := ts }) (hv : a.eval (.tmp g) = .func (.func f) #[] #[]) (hargs : us.map a.eval = args)
    (h : Calls P f args w fun e w' => ∃ v, e = .returned v ∧ wpList P ops Q rest (a.put N v) w') : wpList P ops Q (oi :: rest) a w := by
  refine wpList_plain hg fun K hK => ?_
  have he := enters_ hf hname hb args w
  have hrun : (execOp a.eval oi).run P w = .ok (.enter f args) w := by
    unfold execOp
    simp [hop, resolve, hv, Deferred.ofValue, invoke, hargs, he]
  unfold Oper.wp
  rw [hrun, Oper.upon_enter]
  refine h.mono fun e w'' hh => ?_
  obtain ⟨v, rfl, hk⟩ := hh
  subst hd
  exact hK _ _ hk




def errW : Option Int → Value
  | none => .nilIface
  | some c => .iface 0 (.int .i64 c)
theorem errW_none : errW none = .nilIface := rfl
theorem errW_some (c : Int) : errW (some c) = .iface 0 (.int .i64 c) := rfl

-- the values' own types

end Go.Proofs.Ytohplbcbkggjaab.PFnExactEdOk
