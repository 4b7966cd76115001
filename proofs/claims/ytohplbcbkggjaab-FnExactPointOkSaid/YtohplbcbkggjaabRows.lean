/-
  No cell of these rows narrows 'for every input' (looked for: loops, veiled, ifaces, maps, wideKeys, modest, calm, conditions, laid).
  DERIVED. THE GIVEN ROWS OF THIS SEAT. 11 by the template 'for every input the law returns true; each argument reads behind the call as it read before'; 0 by the template 'total and deterministic' (their statements: YtohplbcbkggjaabTotals.lean).
  GIVEN WITH THE SEED: the statements are not yours to turn. If you find one false, say at which input.
  Laid BY PROGRAM, IN A SANDBOX (cutbox-rows.mjs): the forced cells as the released guide's own fill.sh prints them over the translation 8ecf3ffc79b97747… (all of the seat's roots in one cut). By AI agents, Wed Nov 11 2026. No macro, syntax, notation, axiom, sorry.
-/
import Derived.Test.YtohplbcbkggjaabChecked
import GoSem.Claim
import GoSem.ClaimJoined
import GoSem.ClaimMapViews
import Derived.JoinedTies
import Derived.KernelRfl
namespace Go.Proofs.Ytohplbcbkggjaab
/- THE CELL 'sum', in the pinned program and in every row, IS THE sha256 OF THE DUMP (.gsa) THAT YtohplbcbkggjaabProg.lean LOADS. Nothing in Lean hashes anything: it is a label: what it is worth is what the hold of that sum in a sandbox is worth. -/
noncomputable def Try.pinned : Pinned := { name := "ytohplbcbkggjaab", sum := "8ecf3ffc79b97747d5f6c2bbf0471c20d7f8dbfd3700752c57076f6790fa23eb", checked := Try.checked }
namespace Rows
def none {H : Type} : Left H := { results := [], args := [] }

/-- 'laws.FnExactNatAdd': WHATEVER THE INPUT: true; the input reads as it did. -/
def fnExactNatAddSpec : ChangeSpec := { name := "fnExactNatAdd", fn := fun _ => fun
  | [d1, d2] => { results := [.lit (.bool true)], args := [d1, d2] }
  | _ => none }
def fnExactNatAddRow : OpenClaim := { program := "ytohplbcbkggjaab", sum := "8ecf3ffc79b97747d5f6c2bbf0471c20d7f8dbfd3700752c57076f6790fa23eb", func := "loop.example/g00148/laws.FnExactNatAdd", spec := "fnExactNatAdd", unfollowed := true, recurses := true, apart := false }
def FnExactNatAddSaid : Prop := fnExactNatAddRow.holds Try.pinned (OpenSpec.ofChange fnExactNatAddSpec)

/-- ITS FALSE NEIGHBOUR: 'it returns false'. Refute it at one input. -/
def fnExactNatAddWrong : ChangeSpec := { name := "fnExactNatAdd", fn := fun _ => fun
  | [d1, d2] => { results := [.lit (.bool false)], args := [d1, d2] }
  | _ => none }
def FnExactNatAddWrongFalsely : Prop := fnExactNatAddRow.holds Try.pinned (OpenSpec.ofChange fnExactNatAddWrong)

/-- 'laws.FnExactNatMul': WHATEVER THE INPUT: true; the input reads as it did. -/
def fnExactNatMulSpec : ChangeSpec := { name := "fnExactNatMul", fn := fun _ => fun
  | [d1, d2] => { results := [.lit (.bool true)], args := [d1, d2] }
  | _ => none }
def fnExactNatMulRow : OpenClaim := { program := "ytohplbcbkggjaab", sum := "8ecf3ffc79b97747d5f6c2bbf0471c20d7f8dbfd3700752c57076f6790fa23eb", func := "loop.example/g00148/laws.FnExactNatMul", spec := "fnExactNatMul", unfollowed := true, recurses := true, apart := false }
def FnExactNatMulSaid : Prop := fnExactNatMulRow.holds Try.pinned (OpenSpec.ofChange fnExactNatMulSpec)

/-- ITS FALSE NEIGHBOUR: 'it returns false'. Refute it at one input. -/
def fnExactNatMulWrong : ChangeSpec := { name := "fnExactNatMul", fn := fun _ => fun
  | [d1, d2] => { results := [.lit (.bool false)], args := [d1, d2] }
  | _ => none }
def FnExactNatMulWrongFalsely : Prop := fnExactNatMulRow.holds Try.pinned (OpenSpec.ofChange fnExactNatMulWrong)

/-- 'laws.FnExactNatBytes': WHATEVER THE INPUT: true; the input reads as it did. -/
def fnExactNatBytesSpec : ChangeSpec := { name := "fnExactNatBytes", fn := fun _ => fun
  | [d1, d2] => { results := [.lit (.bool true)], args := [d1, d2] }
  | _ => none }
def fnExactNatBytesRow : OpenClaim := { program := "ytohplbcbkggjaab", sum := "8ecf3ffc79b97747d5f6c2bbf0471c20d7f8dbfd3700752c57076f6790fa23eb", func := "loop.example/g00148/laws.FnExactNatBytes", spec := "fnExactNatBytes", apart := false }
def FnExactNatBytesSaid : Prop := fnExactNatBytesRow.holds Try.pinned (OpenSpec.ofChange fnExactNatBytesSpec)

/-- ITS FALSE NEIGHBOUR: 'it returns false'. Refute it at one input. -/
def fnExactNatBytesWrong : ChangeSpec := { name := "fnExactNatBytes", fn := fun _ => fun
  | [d1, d2] => { results := [.lit (.bool false)], args := [d1, d2] }
  | _ => none }
def FnExactNatBytesWrongFalsely : Prop := fnExactNatBytesRow.holds Try.pinned (OpenSpec.ofChange fnExactNatBytesWrong)

/-- 'laws.FnExactEdOk': WHATEVER THE INPUT: true; the input reads as it did. -/
def fnExactEdOkSpec : ChangeSpec := { name := "fnExactEdOk", fn := fun _ => fun
  | [d] => { results := [.lit (.bool true)], args := [d] }
  | _ => none }
def fnExactEdOkRow : OpenClaim := { program := "ytohplbcbkggjaab", sum := "8ecf3ffc79b97747d5f6c2bbf0471c20d7f8dbfd3700752c57076f6790fa23eb", func := "loop.example/g00148/laws.FnExactEdOk", spec := "fnExactEdOk", apart := false }
def FnExactEdOkSaid : Prop := fnExactEdOkRow.holds Try.pinned (OpenSpec.ofChange fnExactEdOkSpec)

/-- ITS FALSE NEIGHBOUR: 'it returns false'. Refute it at one input. -/
def fnExactEdOkWrong : ChangeSpec := { name := "fnExactEdOk", fn := fun _ => fun
  | [d] => { results := [.lit (.bool false)], args := [d] }
  | _ => none }
def FnExactEdOkWrongFalsely : Prop := fnExactEdOkRow.holds Try.pinned (OpenSpec.ofChange fnExactEdOkWrong)

/-- 'laws.FnExactNatSub': WHATEVER THE INPUT: true; the input reads as it did. -/
def fnExactNatSubSpec : ChangeSpec := { name := "fnExactNatSub", fn := fun _ => fun
  | [d1, d2] => { results := [.lit (.bool true)], args := [d1, d2] }
  | _ => none }
def fnExactNatSubRow : OpenClaim := { program := "ytohplbcbkggjaab", sum := "8ecf3ffc79b97747d5f6c2bbf0471c20d7f8dbfd3700752c57076f6790fa23eb", func := "loop.example/g00148/laws.FnExactNatSub", spec := "fnExactNatSub", unfollowed := true, recurses := true, apart := false }
def FnExactNatSubSaid : Prop := fnExactNatSubRow.holds Try.pinned (OpenSpec.ofChange fnExactNatSubSpec)

/-- ITS FALSE NEIGHBOUR: 'it returns false'. Refute it at one input. -/
def fnExactNatSubWrong : ChangeSpec := { name := "fnExactNatSub", fn := fun _ => fun
  | [d1, d2] => { results := [.lit (.bool false)], args := [d1, d2] }
  | _ => none }
def FnExactNatSubWrongFalsely : Prop := fnExactNatSubRow.holds Try.pinned (OpenSpec.ofChange fnExactNatSubWrong)

/-- 'laws.FnExactCurveOk': WHATEVER THE INPUT: true; the input reads as it did. -/
def fnExactCurveOkSpec : ChangeSpec := { name := "fnExactCurveOk", fn := fun _ => fun
  | [d] => { results := [.lit (.bool true)], args := [d] }
  | _ => none }
def fnExactCurveOkRow : OpenClaim := { program := "ytohplbcbkggjaab", sum := "8ecf3ffc79b97747d5f6c2bbf0471c20d7f8dbfd3700752c57076f6790fa23eb", func := "loop.example/g00148/laws.FnExactCurveOk", spec := "fnExactCurveOk", apart := false }
def FnExactCurveOkSaid : Prop := fnExactCurveOkRow.holds Try.pinned (OpenSpec.ofChange fnExactCurveOkSpec)

/-- ITS FALSE NEIGHBOUR: 'it returns false'. Refute it at one input. -/
def fnExactCurveOkWrong : ChangeSpec := { name := "fnExactCurveOk", fn := fun _ => fun
  | [d] => { results := [.lit (.bool false)], args := [d] }
  | _ => none }
def FnExactCurveOkWrongFalsely : Prop := fnExactCurveOkRow.holds Try.pinned (OpenSpec.ofChange fnExactCurveOkWrong)

/-- 'laws.FnExactPairOk': WHATEVER THE INPUT: true; the input reads as it did. -/
def fnExactPairOkSpec : ChangeSpec := { name := "fnExactPairOk", fn := fun _ => fun
  | [d1, d2] => { results := [.lit (.bool true)], args := [d1, d2] }
  | _ => none }
def fnExactPairOkRow : OpenClaim := { program := "ytohplbcbkggjaab", sum := "8ecf3ffc79b97747d5f6c2bbf0471c20d7f8dbfd3700752c57076f6790fa23eb", func := "loop.example/g00148/laws.FnExactPairOk", spec := "fnExactPairOk", apart := false }
def FnExactPairOkSaid : Prop := fnExactPairOkRow.holds Try.pinned (OpenSpec.ofChange fnExactPairOkSpec)

/-- ITS FALSE NEIGHBOUR: 'it returns false'. Refute it at one input. -/
def fnExactPairOkWrong : ChangeSpec := { name := "fnExactPairOk", fn := fun _ => fun
  | [d1, d2] => { results := [.lit (.bool false)], args := [d1, d2] }
  | _ => none }
def FnExactPairOkWrongFalsely : Prop := fnExactPairOkRow.holds Try.pinned (OpenSpec.ofChange fnExactPairOkWrong)

/-- 'laws.FnExactPointOk': WHATEVER THE INPUT: true; the input reads as it did. -/
def fnExactPointOkSpec : ChangeSpec := { name := "fnExactPointOk", fn := fun _ => fun
  | [d1, d2] => { results := [.lit (.bool true)], args := [d1, d2] }
  | _ => none }
def fnExactPointOkRow : OpenClaim := { program := "ytohplbcbkggjaab", sum := "8ecf3ffc79b97747d5f6c2bbf0471c20d7f8dbfd3700752c57076f6790fa23eb", func := "loop.example/g00148/laws.FnExactPointOk", spec := "fnExactPointOk", apart := false }
def FnExactPointOkSaid : Prop := fnExactPointOkRow.holds Try.pinned (OpenSpec.ofChange fnExactPointOkSpec)

/-- ITS FALSE NEIGHBOUR: 'it returns false'. Refute it at one input. -/
def fnExactPointOkWrong : ChangeSpec := { name := "fnExactPointOk", fn := fun _ => fun
  | [d1, d2] => { results := [.lit (.bool false)], args := [d1, d2] }
  | _ => none }
def FnExactPointOkWrongFalsely : Prop := fnExactPointOkRow.holds Try.pinned (OpenSpec.ofChange fnExactPointOkWrong)

/-- 'laws.FnExactEdAdd': WHATEVER THE INPUT: true; the input reads as it did. -/
def fnExactEdAddSpec : ChangeSpec := { name := "fnExactEdAdd", fn := fun _ => fun
  | [d1, d2, d3] => { results := [.lit (.bool true)], args := [d1, d2, d3] }
  | _ => none }
def fnExactEdAddRow : OpenClaim := { program := "ytohplbcbkggjaab", sum := "8ecf3ffc79b97747d5f6c2bbf0471c20d7f8dbfd3700752c57076f6790fa23eb", func := "loop.example/g00148/laws.FnExactEdAdd", spec := "fnExactEdAdd", apart := false }
def FnExactEdAddSaid : Prop := fnExactEdAddRow.holds Try.pinned (OpenSpec.ofChange fnExactEdAddSpec)

/-- ITS FALSE NEIGHBOUR: 'it returns false'. Refute it at one input. -/
def fnExactEdAddWrong : ChangeSpec := { name := "fnExactEdAdd", fn := fun _ => fun
  | [d1, d2, d3] => { results := [.lit (.bool false)], args := [d1, d2, d3] }
  | _ => none }
def FnExactEdAddWrongFalsely : Prop := fnExactEdAddRow.holds Try.pinned (OpenSpec.ofChange fnExactEdAddWrong)

/-- 'laws.FnExactEdMul': WHATEVER THE INPUT: true; the input reads as it did. -/
def fnExactEdMulSpec : ChangeSpec := { name := "fnExactEdMul", fn := fun _ => fun
  | [d1, d2, d3] => { results := [.lit (.bool true)], args := [d1, d2, d3] }
  | _ => none }
def fnExactEdMulRow : OpenClaim := { program := "ytohplbcbkggjaab", sum := "8ecf3ffc79b97747d5f6c2bbf0471c20d7f8dbfd3700752c57076f6790fa23eb", func := "loop.example/g00148/laws.FnExactEdMul", spec := "fnExactEdMul", apart := false }
def FnExactEdMulSaid : Prop := fnExactEdMulRow.holds Try.pinned (OpenSpec.ofChange fnExactEdMulSpec)

/-- ITS FALSE NEIGHBOUR: 'it returns false'. Refute it at one input. -/
def fnExactEdMulWrong : ChangeSpec := { name := "fnExactEdMul", fn := fun _ => fun
  | [d1, d2, d3] => { results := [.lit (.bool false)], args := [d1, d2, d3] }
  | _ => none }
def FnExactEdMulWrongFalsely : Prop := fnExactEdMulRow.holds Try.pinned (OpenSpec.ofChange fnExactEdMulWrong)

/-- 'laws.FnExactEdCofactor': WHATEVER THE INPUT: true; the input reads as it did. -/
def fnExactEdCofactorSpec : ChangeSpec := { name := "fnExactEdCofactor", fn := fun _ => fun
  | [d1, d2] => { results := [.lit (.bool true)], args := [d1, d2] }
  | _ => none }
def fnExactEdCofactorRow : OpenClaim := { program := "ytohplbcbkggjaab", sum := "8ecf3ffc79b97747d5f6c2bbf0471c20d7f8dbfd3700752c57076f6790fa23eb", func := "loop.example/g00148/laws.FnExactEdCofactor", spec := "fnExactEdCofactor", apart := false }
def FnExactEdCofactorSaid : Prop := fnExactEdCofactorRow.holds Try.pinned (OpenSpec.ofChange fnExactEdCofactorSpec)

/-- ITS FALSE NEIGHBOUR: 'it returns false'. Refute it at one input. -/
def fnExactEdCofactorWrong : ChangeSpec := { name := "fnExactEdCofactor", fn := fun _ => fun
  | [d1, d2] => { results := [.lit (.bool false)], args := [d1, d2] }
  | _ => none }
def FnExactEdCofactorWrongFalsely : Prop := fnExactEdCofactorRow.holds Try.pinned (OpenSpec.ofChange fnExactEdCofactorWrong)

/- THE SECOND FORM. 'bulk': how many values and letters a reading holds, each counted each time it is reached (what is shared counts as often as it is met; a slice's spare places count too). A statement '..UptoSaid' is the law's where the arguments, and the package variables that the reading takes, are together of bulk at most 1048576: NARROWER than '..Said'. Prove '..Said' where nothing that the law and all that it calls make is longer than what came in: it says more and counts as full. Else prove '..UptoSaid'. A law counts once. -/
mutual
def uptoBulk {H : Type} : DataW H → Nat
  | .lit (.string bytes) => bytes.length + 1
  | .lit _ => 1
  | .nil => 1
  | .ptr d => uptoBulk d + 1
  | .slice elems spare => uptoBulkAll elems + uptoBulkAll spare + 1
  | .agg parts => uptoBulkAll parts + 1
  | .iface _ d => uptoBulk d + 1
  | .map entries => uptoBulkEntries entries + 1
  | .held _ => 1
def uptoBulkAll {H : Type} : List (DataW H) → Nat
  | [] => 0
  | d :: r => uptoBulk d + uptoBulkAll r
def uptoBulkEntries {H : Type} : List (Lit × DataW H) → Nat
  | [] => 0
  | x :: r => uptoBulkEntry x + uptoBulkEntries r
def uptoBulkEntry {H : Type} : Lit × DataW H → Nat
  | (.string bytes, d) => bytes.length + uptoBulk d + 1
  | (_, d) => uptoBulk d + 1
 end
def uptoSmall : (H : Type) → List (DataW H) → Bool := fun _ ds => decide (uptoBulkAll ds ≤ 1048576)
def OpenSpec.upto (s : _root_.Go.ChangeSpec) : _root_.Go.OpenSpec := { _root_.Go.OpenSpec.ofChange s with cond := some uptoSmall }

/-- 'laws.FnExactNatAdd', WHERE WHAT IT READS IS OF BULK AT MOST 1048576: true; the input reads as it did. -/
def fnExactNatAddUptoRow : OpenClaim := { program := "ytohplbcbkggjaab", sum := "8ecf3ffc79b97747d5f6c2bbf0471c20d7f8dbfd3700752c57076f6790fa23eb", func := "loop.example/g00148/laws.FnExactNatAdd", spec := "fnExactNatAdd", unfollowed := true, recurses := true, apart := false, narrowed := true }
def FnExactNatAddUptoSaid : Prop := fnExactNatAddUptoRow.holds Try.pinned (OpenSpec.upto fnExactNatAddSpec)

/-- 'laws.FnExactNatMul', WHERE WHAT IT READS IS OF BULK AT MOST 1048576: true; the input reads as it did. -/
def fnExactNatMulUptoRow : OpenClaim := { program := "ytohplbcbkggjaab", sum := "8ecf3ffc79b97747d5f6c2bbf0471c20d7f8dbfd3700752c57076f6790fa23eb", func := "loop.example/g00148/laws.FnExactNatMul", spec := "fnExactNatMul", unfollowed := true, recurses := true, apart := false, narrowed := true }
def FnExactNatMulUptoSaid : Prop := fnExactNatMulUptoRow.holds Try.pinned (OpenSpec.upto fnExactNatMulSpec)

/-- 'laws.FnExactNatBytes', WHERE WHAT IT READS IS OF BULK AT MOST 1048576: true; the input reads as it did. -/
def fnExactNatBytesUptoRow : OpenClaim := { program := "ytohplbcbkggjaab", sum := "8ecf3ffc79b97747d5f6c2bbf0471c20d7f8dbfd3700752c57076f6790fa23eb", func := "loop.example/g00148/laws.FnExactNatBytes", spec := "fnExactNatBytes", apart := false, narrowed := true }
def FnExactNatBytesUptoSaid : Prop := fnExactNatBytesUptoRow.holds Try.pinned (OpenSpec.upto fnExactNatBytesSpec)

/-- 'laws.FnExactEdOk', WHERE WHAT IT READS IS OF BULK AT MOST 1048576: true; the input reads as it did. -/
def fnExactEdOkUptoRow : OpenClaim := { program := "ytohplbcbkggjaab", sum := "8ecf3ffc79b97747d5f6c2bbf0471c20d7f8dbfd3700752c57076f6790fa23eb", func := "loop.example/g00148/laws.FnExactEdOk", spec := "fnExactEdOk", apart := false, narrowed := true }
def FnExactEdOkUptoSaid : Prop := fnExactEdOkUptoRow.holds Try.pinned (OpenSpec.upto fnExactEdOkSpec)

/-- 'laws.FnExactNatSub', WHERE WHAT IT READS IS OF BULK AT MOST 1048576: true; the input reads as it did. -/
def fnExactNatSubUptoRow : OpenClaim := { program := "ytohplbcbkggjaab", sum := "8ecf3ffc79b97747d5f6c2bbf0471c20d7f8dbfd3700752c57076f6790fa23eb", func := "loop.example/g00148/laws.FnExactNatSub", spec := "fnExactNatSub", unfollowed := true, recurses := true, apart := false, narrowed := true }
def FnExactNatSubUptoSaid : Prop := fnExactNatSubUptoRow.holds Try.pinned (OpenSpec.upto fnExactNatSubSpec)

/-- 'laws.FnExactCurveOk', WHERE WHAT IT READS IS OF BULK AT MOST 1048576: true; the input reads as it did. -/
def fnExactCurveOkUptoRow : OpenClaim := { program := "ytohplbcbkggjaab", sum := "8ecf3ffc79b97747d5f6c2bbf0471c20d7f8dbfd3700752c57076f6790fa23eb", func := "loop.example/g00148/laws.FnExactCurveOk", spec := "fnExactCurveOk", apart := false, narrowed := true }
def FnExactCurveOkUptoSaid : Prop := fnExactCurveOkUptoRow.holds Try.pinned (OpenSpec.upto fnExactCurveOkSpec)

/-- 'laws.FnExactPairOk', WHERE WHAT IT READS IS OF BULK AT MOST 1048576: true; the input reads as it did. -/
def fnExactPairOkUptoRow : OpenClaim := { program := "ytohplbcbkggjaab", sum := "8ecf3ffc79b97747d5f6c2bbf0471c20d7f8dbfd3700752c57076f6790fa23eb", func := "loop.example/g00148/laws.FnExactPairOk", spec := "fnExactPairOk", apart := false, narrowed := true }
def FnExactPairOkUptoSaid : Prop := fnExactPairOkUptoRow.holds Try.pinned (OpenSpec.upto fnExactPairOkSpec)

/-- 'laws.FnExactPointOk', WHERE WHAT IT READS IS OF BULK AT MOST 1048576: true; the input reads as it did. -/
def fnExactPointOkUptoRow : OpenClaim := { program := "ytohplbcbkggjaab", sum := "8ecf3ffc79b97747d5f6c2bbf0471c20d7f8dbfd3700752c57076f6790fa23eb", func := "loop.example/g00148/laws.FnExactPointOk", spec := "fnExactPointOk", apart := false, narrowed := true }
def FnExactPointOkUptoSaid : Prop := fnExactPointOkUptoRow.holds Try.pinned (OpenSpec.upto fnExactPointOkSpec)

/-- 'laws.FnExactEdAdd', WHERE WHAT IT READS IS OF BULK AT MOST 1048576: true; the input reads as it did. -/
def fnExactEdAddUptoRow : OpenClaim := { program := "ytohplbcbkggjaab", sum := "8ecf3ffc79b97747d5f6c2bbf0471c20d7f8dbfd3700752c57076f6790fa23eb", func := "loop.example/g00148/laws.FnExactEdAdd", spec := "fnExactEdAdd", apart := false, narrowed := true }
def FnExactEdAddUptoSaid : Prop := fnExactEdAddUptoRow.holds Try.pinned (OpenSpec.upto fnExactEdAddSpec)

/-- 'laws.FnExactEdMul', WHERE WHAT IT READS IS OF BULK AT MOST 1048576: true; the input reads as it did. -/
def fnExactEdMulUptoRow : OpenClaim := { program := "ytohplbcbkggjaab", sum := "8ecf3ffc79b97747d5f6c2bbf0471c20d7f8dbfd3700752c57076f6790fa23eb", func := "loop.example/g00148/laws.FnExactEdMul", spec := "fnExactEdMul", apart := false, narrowed := true }
def FnExactEdMulUptoSaid : Prop := fnExactEdMulUptoRow.holds Try.pinned (OpenSpec.upto fnExactEdMulSpec)

/-- 'laws.FnExactEdCofactor', WHERE WHAT IT READS IS OF BULK AT MOST 1048576: true; the input reads as it did. -/
def fnExactEdCofactorUptoRow : OpenClaim := { program := "ytohplbcbkggjaab", sum := "8ecf3ffc79b97747d5f6c2bbf0471c20d7f8dbfd3700752c57076f6790fa23eb", func := "loop.example/g00148/laws.FnExactEdCofactor", spec := "fnExactEdCofactor", apart := false, narrowed := true }
def FnExactEdCofactorUptoSaid : Prop := fnExactEdCofactorUptoRow.holds Try.pinned (OpenSpec.upto fnExactEdCofactorSpec)

end Rows
end Go.Proofs.Ytohplbcbkggjaab
