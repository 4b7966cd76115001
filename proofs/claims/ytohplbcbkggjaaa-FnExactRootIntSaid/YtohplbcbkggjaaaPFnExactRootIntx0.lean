-- Written for this claim by a program of this session.
import Derived.Test.YtohplbcbkggjaaaProg
import Derived.Below
import Derived.Deep.Draws
import Derived.Deep.AppendLies
import Derived.Maps.AppendAt
import Derived.OwnWalk
import Derived.Laws.BytesArg
import Derived.Laws.MakeOwn
import Derived.Laws.OwnMore
import Derived.Deep.OwnRows
import Derived.Tactics
import Derived.Lib.ConvBytes
import Derived.Laws.Slices
import Derived.WalkKit
import Derived.KernelRfl
import Derived.RowKit3
import Derived.Deep.LoopGhost
import Derived.Deep.QuietTactic
import Derived.BigQuiet
import Derived.WideLaws
import Derived.Deep.DeepCutAuto
import Derived.Deep.CutBlock
import Derived.Deep.RegionHeld3
import Derived.Laws.Rows
import Derived.Lib.AppendStr
import Derived.ArgAppend
import Derived.Laws.IdiomCopy
import Derived.OrdersHeld
import Derived.Laws.BitsLemmas
import Derived.RowKit
import Derived.Test.YtohplbcbkggjaaaWWords
import Derived.Test.YtohplbcbkggjaaaWLast
import Derived.Test.YtohplbcbkggjaaaWTab
import Derived.Test.YtohplbcbkggjaaaWFour
import Derived.Test.YtohplbcbkggjaaaWQPut
import Derived.Test.YtohplbcbkggjaaaWApart
import Derived.Test.YtohplbcbkggjaaaWArr
import Derived.Test.YtohplbcbkggjaaaWZeros
import Derived.Test.YtohplbcbkggjaaaWFoot
import Derived.Test.YtohplbcbkggjaaaWKept
import Derived.Test.YtohplbcbkggjaaaWShare
import Derived.Test.YtohplbcbkggjaaaWN
import Derived.Test.YtohplbcbkggjaaaWFootNe
import Derived.Test.YtohplbcbkggjaaaWAt
import Derived.Test.YtohplbcbkggjaaaWEqStruct
import Derived.Test.YtohplbcbkggjaaaWRepsOne
import Derived.Test.YtohplbcbkggjaaaWInv
import Derived.Test.YtohplbcbkggjaaaWInvWords
import Derived.Test.YtohplbcbkggjaaaWGuard
import Derived.Test.YtohplbcbkggjaaaWNEv
import Derived.Test.YtohplbcbkggjaaaWMore
namespace Go.Proofs.Ytohplbcbkggjaaa.PFnExactRootInt
open Go.RowKit Go.Proofs.YtohplbcbkggjaaaW.PrintWords Go.Proofs.YtohplbcbkggjaaaW.PrintLast Go.Proofs.YtohplbcbkggjaaaW.PrintMore
attribute [local go_sem] max2_int min2_int max_two min_two max_three min_three max_four min_four   -- for this text's walks alone
set_option linter.unusedVariables false
set_option linter.unusedSimpArgs false

theorem gate_calleeT {P : Program} {ops : Array Oper} {Q : Exit → Act → World → Prop} {o : Oper} {rest : List Oper} {a : Act} {W : World} {g : Tmp} {us : Array Operand} {ts : Array TypeId}
    (_ho : o.op = .call { callee := .value (.tmp g), args := us, argTypes := ts }) (h : wpList P ops Q (o :: rest) a W) : wpList P ops Q (o :: rest) a W := h
/-- A call by a slot that holds a function. -/
theorem goesT_ {P : Program} {ops : Array Oper} {Q : Exit → Act → World → Prop} {rest : List Oper} {oi : Oper} {a : Act} {w : World} (N : Option Tmp) (hd : oi.dst = N) (hg : oi.guard = none) {g : Tmp} {f : FuncId} {fn : Func} {us : Array Operand} {ts : Array TypeId}
    (hf : P.funcs[f]? = some fn) (hname : (fn.name == "runtime.NumGoroutine") = false) (hb : fn.body.isSome = true) (args : Array Value)
    (hop : oi.op = .call { callee := .value (.tmp g), args := us, argTypes := ts }) (hv : a.eval (.tmp g) = .func (.func f) #[] #[]) (hargs : us.map a.eval = args)
    (h : Calls P f args w fun e w' => ∃ v, e = .returned v ∧ wpList P ops Q rest (a.put N v) w') : wpList P ops Q (oi :: rest) a w := by
  refine wpList_plain hg fun K hK => ?_
  have he := enters_ hf hname hb args w
  have hrun : (execOp a.eval oi).run P w = .ok (.enter f args) w := by
    unfold execOp
    simp [hop, resolve, hv, Deferred.ofValue, invoke, hargs, he]
  unfold Oper.wp
  rw [hrun, Oper.upon_enter]
  refine h.mono fun e w'' hh => ?_
  obtain ⟨v, rfl, hk⟩ := hh
  subst hd
  exact hK _ _ hk



def errW : Option Int → Value
  | none => .nilIface
  | some c => .iface 0 (.int .i64 c)
theorem errW_none : errW none = .nilIface := rfl
theorem errW_some (c : Int) : errW (some c) = .iface 0 (.int .i64 c) := rfl

-- the values' own types

end Go.Proofs.Ytohplbcbkggjaaa.PFnExactRootInt
