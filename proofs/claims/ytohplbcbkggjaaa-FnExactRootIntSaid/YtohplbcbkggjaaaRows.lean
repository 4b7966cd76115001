/-
  No cell of these rows narrows 'for every input' (looked for: loops, veiled, ifaces, maps, wideKeys, modest, calm, conditions, laid).
  DERIVED. THE GIVEN ROWS OF THIS SEAT. 11 by the template 'for every input the law returns true; each argument reads behind the call as it read before'; 0 by the template 'total and deterministic' (their statements: YtohplbcbkggjaaaTotals.lean).
  GIVEN WITH THE SEED: the statements are not yours to turn. If you find one false, say at which input.
  Laid BY PROGRAM, IN A SANDBOX (cutbox-rows.mjs): the forced cells as the released guide's own fill.sh prints them over the translation cf64b9e2f2a75135… (all of the seat's roots in one cut). By AI agents, Wed Nov 11 2026. No macro, syntax, notation, axiom, sorry.
-/
import Derived.Test.YtohplbcbkggjaaaChecked
import GoSem.Claim
import GoSem.ClaimJoined
import GoSem.ClaimMapViews
import Derived.JoinedTies
import Derived.KernelRfl
namespace Go.Proofs.Ytohplbcbkggjaaa
/- THE CELL 'sum', in the pinned program and in every row, IS THE sha256 OF THE DUMP (.gsa) THAT YtohplbcbkggjaaaProg.lean LOADS. Nothing in Lean hashes anything: it is a label: what it is worth is what the hold of that sum in a sandbox is worth. -/
noncomputable def Try.pinned : Pinned := { name := "ytohplbcbkggjaaa", sum := "cf64b9e2f2a751359343682a8a01299b4385a49173f05a54f663b377b96b9308", checked := Try.checked }
namespace Rows
def none {H : Type} : Left H := { results := [], args := [] }

/-- 'laws.FnExactNatOk': WHATEVER THE INPUT: true; the input reads as it did. -/
def fnExactNatOkSpec : ChangeSpec := { name := "fnExactNatOk", fn := fun _ => fun
  | [d] => { results := [.lit (.bool true)], args := [d] }
  | _ => none }
def fnExactNatOkRow : OpenClaim := { program := "ytohplbcbkggjaaa", sum := "cf64b9e2f2a751359343682a8a01299b4385a49173f05a54f663b377b96b9308", func := "loop.example/g00148/laws.FnExactNatOk", spec := "fnExactNatOk", apart := false }
def FnExactNatOkSaid : Prop := fnExactNatOkRow.holds Try.pinned (OpenSpec.ofChange fnExactNatOkSpec)

/-- ITS FALSE NEIGHBOUR: 'it returns false'. Refute it at one input. -/
def fnExactNatOkWrong : ChangeSpec := { name := "fnExactNatOk", fn := fun _ => fun
  | [d] => { results := [.lit (.bool false)], args := [d] }
  | _ => none }
def FnExactNatOkWrongFalsely : Prop := fnExactNatOkRow.holds Try.pinned (OpenSpec.ofChange fnExactNatOkWrong)

/-- 'laws.FnCurves': WHATEVER THE INPUT: true; the input reads as it did. -/
def fnCurvesSpec : ChangeSpec := { name := "fnCurves", fn := fun _ => fun
  | [d] => { results := [.lit (.bool true)], args := [d] }
  | _ => none }
def fnCurvesRow : OpenClaim := { program := "ytohplbcbkggjaaa", sum := "cf64b9e2f2a751359343682a8a01299b4385a49173f05a54f663b377b96b9308", func := "loop.example/g00148/laws.FnCurves", spec := "fnCurves", apart := false }
def FnCurvesSaid : Prop := fnCurvesRow.holds Try.pinned (OpenSpec.ofChange fnCurvesSpec)

/-- ITS FALSE NEIGHBOUR: 'it returns false'. Refute it at one input. -/
def fnCurvesWrong : ChangeSpec := { name := "fnCurves", fn := fun _ => fun
  | [d] => { results := [.lit (.bool false)], args := [d] }
  | _ => none }
def FnCurvesWrongFalsely : Prop := fnCurvesRow.holds Try.pinned (OpenSpec.ofChange fnCurvesWrong)

/-- 'laws.FnExactNatOf': WHATEVER THE INPUT: true; the input reads as it did. -/
def fnExactNatOfSpec : ChangeSpec := { name := "fnExactNatOf", fn := fun _ => fun
  | [d] => { results := [.lit (.bool true)], args := [d] }
  | _ => none }
def fnExactNatOfRow : OpenClaim := { program := "ytohplbcbkggjaaa", sum := "cf64b9e2f2a751359343682a8a01299b4385a49173f05a54f663b377b96b9308", func := "loop.example/g00148/laws.FnExactNatOf", spec := "fnExactNatOf", apart := false }
def FnExactNatOfSaid : Prop := fnExactNatOfRow.holds Try.pinned (OpenSpec.ofChange fnExactNatOfSpec)

/-- ITS FALSE NEIGHBOUR: 'it returns false'. Refute it at one input. -/
def fnExactNatOfWrong : ChangeSpec := { name := "fnExactNatOf", fn := fun _ => fun
  | [d] => { results := [.lit (.bool false)], args := [d] }
  | _ => none }
def FnExactNatOfWrongFalsely : Prop := fnExactNatOfRow.holds Try.pinned (OpenSpec.ofChange fnExactNatOfWrong)

/-- 'laws.FnExactPowInt': WHATEVER THE INPUT: true; the input reads as it did. -/
def fnExactPowIntSpec : ChangeSpec := { name := "fnExactPowInt", fn := fun _ => fun
  | [d1, d2, d3] => { results := [.lit (.bool true)], args := [d1, d2, d3] }
  | _ => none }
def fnExactPowIntRow : OpenClaim := { program := "ytohplbcbkggjaaa", sum := "cf64b9e2f2a751359343682a8a01299b4385a49173f05a54f663b377b96b9308", func := "loop.example/g00148/laws.FnExactPowInt", spec := "fnExactPowInt", apart := false }
def FnExactPowIntSaid : Prop := fnExactPowIntRow.holds Try.pinned (OpenSpec.ofChange fnExactPowIntSpec)

/-- ITS FALSE NEIGHBOUR: 'it returns false'. Refute it at one input. -/
def fnExactPowIntWrong : ChangeSpec := { name := "fnExactPowInt", fn := fun _ => fun
  | [d1, d2, d3] => { results := [.lit (.bool false)], args := [d1, d2, d3] }
  | _ => none }
def FnExactPowIntWrongFalsely : Prop := fnExactPowIntRow.holds Try.pinned (OpenSpec.ofChange fnExactPowIntWrong)

/-- 'laws.FnExactStreamOk': WHATEVER THE INPUT: true; the input reads as it did. -/
def fnExactStreamOkSpec : ChangeSpec := { name := "fnExactStreamOk", fn := fun _ => fun
  | [d] => { results := [.lit (.bool true)], args := [d] }
  | _ => none }
def fnExactStreamOkRow : OpenClaim := { program := "ytohplbcbkggjaaa", sum := "cf64b9e2f2a751359343682a8a01299b4385a49173f05a54f663b377b96b9308", func := "loop.example/g00148/laws.FnExactStreamOk", spec := "fnExactStreamOk", apart := false }
def FnExactStreamOkSaid : Prop := fnExactStreamOkRow.holds Try.pinned (OpenSpec.ofChange fnExactStreamOkSpec)

/-- ITS FALSE NEIGHBOUR: 'it returns false'. Refute it at one input. -/
def fnExactStreamOkWrong : ChangeSpec := { name := "fnExactStreamOk", fn := fun _ => fun
  | [d] => { results := [.lit (.bool false)], args := [d] }
  | _ => none }
def FnExactStreamOkWrongFalsely : Prop := fnExactStreamOkRow.holds Try.pinned (OpenSpec.ofChange fnExactStreamOkWrong)

/-- 'laws.FnExactRootInt': WHATEVER THE INPUT: true; the input reads as it did. -/
def fnExactRootIntSpec : ChangeSpec := { name := "fnExactRootInt", fn := fun _ => fun
  | [d1, d2] => { results := [.lit (.bool true)], args := [d1, d2] }
  | _ => none }
def fnExactRootIntRow : OpenClaim := { program := "ytohplbcbkggjaaa", sum := "cf64b9e2f2a751359343682a8a01299b4385a49173f05a54f663b377b96b9308", func := "loop.example/g00148/laws.FnExactRootInt", spec := "fnExactRootInt", apart := false }
def FnExactRootIntSaid : Prop := fnExactRootIntRow.holds Try.pinned (OpenSpec.ofChange fnExactRootIntSpec)

/-- ITS FALSE NEIGHBOUR: 'it returns false'. Refute it at one input. -/
def fnExactRootIntWrong : ChangeSpec := { name := "fnExactRootInt", fn := fun _ => fun
  | [d1, d2] => { results := [.lit (.bool false)], args := [d1, d2] }
  | _ => none }
def FnExactRootIntWrongFalsely : Prop := fnExactRootIntRow.holds Try.pinned (OpenSpec.ofChange fnExactRootIntWrong)

/-- 'laws.FnExactNatRead': WHATEVER THE INPUT: true; the input reads as it did. -/
def fnExactNatReadSpec : ChangeSpec := { name := "fnExactNatRead", fn := fun _ => fun
  | [d] => { results := [.lit (.bool true)], args := [d] }
  | _ => none }
def fnExactNatReadRow : OpenClaim := { program := "ytohplbcbkggjaaa", sum := "cf64b9e2f2a751359343682a8a01299b4385a49173f05a54f663b377b96b9308", func := "loop.example/g00148/laws.FnExactNatRead", spec := "fnExactNatRead", apart := false }
def FnExactNatReadSaid : Prop := fnExactNatReadRow.holds Try.pinned (OpenSpec.ofChange fnExactNatReadSpec)

/-- ITS FALSE NEIGHBOUR: 'it returns false'. Refute it at one input. -/
def fnExactNatReadWrong : ChangeSpec := { name := "fnExactNatRead", fn := fun _ => fun
  | [d] => { results := [.lit (.bool false)], args := [d] }
  | _ => none }
def FnExactNatReadWrongFalsely : Prop := fnExactNatReadRow.holds Try.pinned (OpenSpec.ofChange fnExactNatReadWrong)

/-- 'laws.FnExactNatInt': WHATEVER THE INPUT: true; the input reads as it did. -/
def fnExactNatIntSpec : ChangeSpec := { name := "fnExactNatInt", fn := fun _ => fun
  | [d] => { results := [.lit (.bool true)], args := [d] }
  | _ => none }
def fnExactNatIntRow : OpenClaim := { program := "ytohplbcbkggjaaa", sum := "cf64b9e2f2a751359343682a8a01299b4385a49173f05a54f663b377b96b9308", func := "loop.example/g00148/laws.FnExactNatInt", spec := "fnExactNatInt", apart := false }
def FnExactNatIntSaid : Prop := fnExactNatIntRow.holds Try.pinned (OpenSpec.ofChange fnExactNatIntSpec)

/-- ITS FALSE NEIGHBOUR: 'it returns false'. Refute it at one input. -/
def fnExactNatIntWrong : ChangeSpec := { name := "fnExactNatInt", fn := fun _ => fun
  | [d] => { results := [.lit (.bool false)], args := [d] }
  | _ => none }
def FnExactNatIntWrongFalsely : Prop := fnExactNatIntRow.holds Try.pinned (OpenSpec.ofChange fnExactNatIntWrong)

/-- 'laws.FnExactNatBits': WHATEVER THE INPUT: true; the input reads as it did. -/
def fnExactNatBitsSpec : ChangeSpec := { name := "fnExactNatBits", fn := fun _ => fun
  | [d] => { results := [.lit (.bool true)], args := [d] }
  | _ => none }
def fnExactNatBitsRow : OpenClaim := { program := "ytohplbcbkggjaaa", sum := "cf64b9e2f2a751359343682a8a01299b4385a49173f05a54f663b377b96b9308", func := "loop.example/g00148/laws.FnExactNatBits", spec := "fnExactNatBits", apart := false }
def FnExactNatBitsSaid : Prop := fnExactNatBitsRow.holds Try.pinned (OpenSpec.ofChange fnExactNatBitsSpec)

/-- ITS FALSE NEIGHBOUR: 'it returns false'. Refute it at one input. -/
def fnExactNatBitsWrong : ChangeSpec := { name := "fnExactNatBits", fn := fun _ => fun
  | [d] => { results := [.lit (.bool false)], args := [d] }
  | _ => none }
def FnExactNatBitsWrongFalsely : Prop := fnExactNatBitsRow.holds Try.pinned (OpenSpec.ofChange fnExactNatBitsWrong)

/-- 'laws.FnExactNatCompare': WHATEVER THE INPUT: true; the input reads as it did. -/
def fnExactNatCompareSpec : ChangeSpec := { name := "fnExactNatCompare", fn := fun _ => fun
  | [d1, d2] => { results := [.lit (.bool true)], args := [d1, d2] }
  | _ => none }
def fnExactNatCompareRow : OpenClaim := { program := "ytohplbcbkggjaaa", sum := "cf64b9e2f2a751359343682a8a01299b4385a49173f05a54f663b377b96b9308", func := "loop.example/g00148/laws.FnExactNatCompare", spec := "fnExactNatCompare", unfollowed := true, recurses := true, apart := false }
def FnExactNatCompareSaid : Prop := fnExactNatCompareRow.holds Try.pinned (OpenSpec.ofChange fnExactNatCompareSpec)

/-- ITS FALSE NEIGHBOUR: 'it returns false'. Refute it at one input. -/
def fnExactNatCompareWrong : ChangeSpec := { name := "fnExactNatCompare", fn := fun _ => fun
  | [d1, d2] => { results := [.lit (.bool false)], args := [d1, d2] }
  | _ => none }
def FnExactNatCompareWrongFalsely : Prop := fnExactNatCompareRow.holds Try.pinned (OpenSpec.ofChange fnExactNatCompareWrong)

/-- 'laws.FnExactNewStream': WHATEVER THE INPUT: true; the input reads as it did. -/
def fnExactNewStreamSpec : ChangeSpec := { name := "fnExactNewStream", fn := fun _ => fun
  | [] => { results := [.lit (.bool true)], args := [] }
  | _ => none }
def fnExactNewStreamRow : OpenClaim := { program := "ytohplbcbkggjaaa", sum := "cf64b9e2f2a751359343682a8a01299b4385a49173f05a54f663b377b96b9308", func := "loop.example/g00148/laws.FnExactNewStream", spec := "fnExactNewStream", unfollowed := true, recurses := true, apart := false }
def FnExactNewStreamSaid : Prop := fnExactNewStreamRow.holds Try.pinned (OpenSpec.ofChange fnExactNewStreamSpec)

/-- ITS FALSE NEIGHBOUR: 'it returns false'. Refute it at one input. -/
def fnExactNewStreamWrong : ChangeSpec := { name := "fnExactNewStream", fn := fun _ => fun
  | [] => { results := [.lit (.bool false)], args := [] }
  | _ => none }
def FnExactNewStreamWrongFalsely : Prop := fnExactNewStreamRow.holds Try.pinned (OpenSpec.ofChange fnExactNewStreamWrong)

/- THE SECOND FORM. 'bulk': how many values and letters a reading holds, each counted each time it is reached (what is shared counts as often as it is met; a slice's spare places count too). A statement '..UptoSaid' is the law's where the arguments, and the package variables that the reading takes, are together of bulk at most 1048576: NARROWER than '..Said'. Prove '..Said' where nothing that the law and all that it calls make is longer than what came in: it says more and counts as full. Else prove '..UptoSaid'. A law counts once. -/
mutual
def uptoBulk {H : Type} : DataW H → Nat
  | .lit (.string bytes) => bytes.length + 1
  | .lit _ => 1
  | .nil => 1
  | .ptr d => uptoBulk d + 1
  | .slice elems spare => uptoBulkAll elems + uptoBulkAll spare + 1
  | .agg parts => uptoBulkAll parts + 1
  | .iface _ d => uptoBulk d + 1
  | .map entries => uptoBulkEntries entries + 1
  | .held _ => 1
def uptoBulkAll {H : Type} : List (DataW H) → Nat
  | [] => 0
  | d :: r => uptoBulk d + uptoBulkAll r
def uptoBulkEntries {H : Type} : List (Lit × DataW H) → Nat
  | [] => 0
  | x :: r => uptoBulkEntry x + uptoBulkEntries r
def uptoBulkEntry {H : Type} : Lit × DataW H → Nat
  | (.string bytes, d) => bytes.length + uptoBulk d + 1
  | (_, d) => uptoBulk d + 1
 end
def uptoSmall : (H : Type) → List (DataW H) → Bool := fun _ ds => decide (uptoBulkAll ds ≤ 1048576)
def OpenSpec.upto (s : _root_.Go.ChangeSpec) : _root_.Go.OpenSpec := { _root_.Go.OpenSpec.ofChange s with cond := some uptoSmall }

/-- 'laws.FnExactNatOk', WHERE WHAT IT READS IS OF BULK AT MOST 1048576: true; the input reads as it did. -/
def fnExactNatOkUptoRow : OpenClaim := { program := "ytohplbcbkggjaaa", sum := "cf64b9e2f2a751359343682a8a01299b4385a49173f05a54f663b377b96b9308", func := "loop.example/g00148/laws.FnExactNatOk", spec := "fnExactNatOk", apart := false, narrowed := true }
def FnExactNatOkUptoSaid : Prop := fnExactNatOkUptoRow.holds Try.pinned (OpenSpec.upto fnExactNatOkSpec)

/-- 'laws.FnCurves', WHERE WHAT IT READS IS OF BULK AT MOST 1048576: true; the input reads as it did. -/
def fnCurvesUptoRow : OpenClaim := { program := "ytohplbcbkggjaaa", sum := "cf64b9e2f2a751359343682a8a01299b4385a49173f05a54f663b377b96b9308", func := "loop.example/g00148/laws.FnCurves", spec := "fnCurves", apart := false, narrowed := true }
def FnCurvesUptoSaid : Prop := fnCurvesUptoRow.holds Try.pinned (OpenSpec.upto fnCurvesSpec)

/-- 'laws.FnExactNatOf', WHERE WHAT IT READS IS OF BULK AT MOST 1048576: true; the input reads as it did. -/
def fnExactNatOfUptoRow : OpenClaim := { program := "ytohplbcbkggjaaa", sum := "cf64b9e2f2a751359343682a8a01299b4385a49173f05a54f663b377b96b9308", func := "loop.example/g00148/laws.FnExactNatOf", spec := "fnExactNatOf", apart := false, narrowed := true }
def FnExactNatOfUptoSaid : Prop := fnExactNatOfUptoRow.holds Try.pinned (OpenSpec.upto fnExactNatOfSpec)

/-- 'laws.FnExactPowInt', WHERE WHAT IT READS IS OF BULK AT MOST 1048576: true; the input reads as it did. -/
def fnExactPowIntUptoRow : OpenClaim := { program := "ytohplbcbkggjaaa", sum := "cf64b9e2f2a751359343682a8a01299b4385a49173f05a54f663b377b96b9308", func := "loop.example/g00148/laws.FnExactPowInt", spec := "fnExactPowInt", apart := false, narrowed := true }
def FnExactPowIntUptoSaid : Prop := fnExactPowIntUptoRow.holds Try.pinned (OpenSpec.upto fnExactPowIntSpec)

/-- 'laws.FnExactStreamOk', WHERE WHAT IT READS IS OF BULK AT MOST 1048576: true; the input reads as it did. -/
def fnExactStreamOkUptoRow : OpenClaim := { program := "ytohplbcbkggjaaa", sum := "cf64b9e2f2a751359343682a8a01299b4385a49173f05a54f663b377b96b9308", func := "loop.example/g00148/laws.FnExactStreamOk", spec := "fnExactStreamOk", apart := false, narrowed := true }
def FnExactStreamOkUptoSaid : Prop := fnExactStreamOkUptoRow.holds Try.pinned (OpenSpec.upto fnExactStreamOkSpec)

/-- 'laws.FnExactRootInt', WHERE WHAT IT READS IS OF BULK AT MOST 1048576: true; the input reads as it did. -/
def fnExactRootIntUptoRow : OpenClaim := { program := "ytohplbcbkggjaaa", sum := "cf64b9e2f2a751359343682a8a01299b4385a49173f05a54f663b377b96b9308", func := "loop.example/g00148/laws.FnExactRootInt", spec := "fnExactRootInt", apart := false, narrowed := true }
def FnExactRootIntUptoSaid : Prop := fnExactRootIntUptoRow.holds Try.pinned (OpenSpec.upto fnExactRootIntSpec)

/-- 'laws.FnExactNatRead', WHERE WHAT IT READS IS OF BULK AT MOST 1048576: true; the input reads as it did. -/
def fnExactNatReadUptoRow : OpenClaim := { program := "ytohplbcbkggjaaa", sum := "cf64b9e2f2a751359343682a8a01299b4385a49173f05a54f663b377b96b9308", func := "loop.example/g00148/laws.FnExactNatRead", spec := "fnExactNatRead", apart := false, narrowed := true }
def FnExactNatReadUptoSaid : Prop := fnExactNatReadUptoRow.holds Try.pinned (OpenSpec.upto fnExactNatReadSpec)

/-- 'laws.FnExactNatInt', WHERE WHAT IT READS IS OF BULK AT MOST 1048576: true; the input reads as it did. -/
def fnExactNatIntUptoRow : OpenClaim := { program := "ytohplbcbkggjaaa", sum := "cf64b9e2f2a751359343682a8a01299b4385a49173f05a54f663b377b96b9308", func := "loop.example/g00148/laws.FnExactNatInt", spec := "fnExactNatInt", apart := false, narrowed := true }
def FnExactNatIntUptoSaid : Prop := fnExactNatIntUptoRow.holds Try.pinned (OpenSpec.upto fnExactNatIntSpec)

/-- 'laws.FnExactNatBits', WHERE WHAT IT READS IS OF BULK AT MOST 1048576: true; the input reads as it did. -/
def fnExactNatBitsUptoRow : OpenClaim := { program := "ytohplbcbkggjaaa", sum := "cf64b9e2f2a751359343682a8a01299b4385a49173f05a54f663b377b96b9308", func := "loop.example/g00148/laws.FnExactNatBits", spec := "fnExactNatBits", apart := false, narrowed := true }
def FnExactNatBitsUptoSaid : Prop := fnExactNatBitsUptoRow.holds Try.pinned (OpenSpec.upto fnExactNatBitsSpec)

/-- 'laws.FnExactNatCompare', WHERE WHAT IT READS IS OF BULK AT MOST 1048576: true; the input reads as it did. -/
def fnExactNatCompareUptoRow : OpenClaim := { program := "ytohplbcbkggjaaa", sum := "cf64b9e2f2a751359343682a8a01299b4385a49173f05a54f663b377b96b9308", func := "loop.example/g00148/laws.FnExactNatCompare", spec := "fnExactNatCompare", unfollowed := true, recurses := true, apart := false, narrowed := true }
def FnExactNatCompareUptoSaid : Prop := fnExactNatCompareUptoRow.holds Try.pinned (OpenSpec.upto fnExactNatCompareSpec)

/-- 'laws.FnExactNewStream', WHERE WHAT IT READS IS OF BULK AT MOST 1048576: true; the input reads as it did. -/
def fnExactNewStreamUptoRow : OpenClaim := { program := "ytohplbcbkggjaaa", sum := "cf64b9e2f2a751359343682a8a01299b4385a49173f05a54f663b377b96b9308", func := "loop.example/g00148/laws.FnExactNewStream", spec := "fnExactNewStream", unfollowed := true, recurses := true, apart := false, narrowed := true }
def FnExactNewStreamUptoSaid : Prop := fnExactNewStreamUptoRow.holds Try.pinned (OpenSpec.upto fnExactNewStreamSpec)

end Rows
end Go.Proofs.Ytohplbcbkggjaaa
