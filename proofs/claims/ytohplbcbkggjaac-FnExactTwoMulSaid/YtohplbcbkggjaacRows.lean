/-
  No cell of these rows narrows 'for every input' (looked for: loops, veiled, ifaces, maps, wideKeys, modest, calm, conditions, laid).
  DERIVED. THE GIVEN ROWS OF THIS SEAT. 11 by the template 'for every input the law returns true; each argument reads behind the call as it read before'; 0 by the template 'total and deterministic' (their statements: YtohplbcbkggjaacTotals.lean).
  GIVEN WITH THE SEED: the statements are not yours to turn. If you find one false, say at which input.
  Laid BY PROGRAM, IN A SANDBOX (cutbox-rows.mjs): the forced cells as the released guide's own fill.sh prints them over the translation 46e903dc106c9539… (all of the seat's roots in one cut). By AI agents, Wed Nov 11 2026. No macro, syntax, notation, axiom, sorry.
-/
import Derived.Test.YtohplbcbkggjaacChecked
import GoSem.Claim
import GoSem.ClaimJoined
import GoSem.ClaimMapViews
import Derived.JoinedTies
import Derived.KernelRfl
namespace Go.Proofs.Ytohplbcbkggjaac
/- THE CELL 'sum', in the pinned program and in every row, IS THE sha256 OF THE DUMP (.gsa) THAT YtohplbcbkggjaacProg.lean LOADS. Nothing in Lean hashes anything: it is a label: what it is worth is what the hold of that sum in a sandbox is worth. -/
noncomputable def Try.pinned : Pinned := { name := "ytohplbcbkggjaac", sum := "46e903dc106c9539a0d5ea21d4e5a66299065bcfcb5f805d133afc6fa4f8ef2a", checked := Try.checked }
namespace Rows
def none {H : Type} : Left H := { results := [], args := [] }

/-- 'laws.FnExactPointAdd': WHATEVER THE INPUT: true; the input reads as it did. -/
def fnExactPointAddSpec : ChangeSpec := { name := "fnExactPointAdd", fn := fun _ => fun
  | [d1, d2, d3] => { results := [.lit (.bool true)], args := [d1, d2, d3] }
  | _ => none }
def fnExactPointAddRow : OpenClaim := { program := "ytohplbcbkggjaac", sum := "46e903dc106c9539a0d5ea21d4e5a66299065bcfcb5f805d133afc6fa4f8ef2a", func := "loop.example/g00148/laws.FnExactPointAdd", spec := "fnExactPointAdd", apart := false }
def FnExactPointAddSaid : Prop := fnExactPointAddRow.holds Try.pinned (OpenSpec.ofChange fnExactPointAddSpec)

/-- ITS FALSE NEIGHBOUR: 'it returns false'. Refute it at one input. -/
def fnExactPointAddWrong : ChangeSpec := { name := "fnExactPointAdd", fn := fun _ => fun
  | [d1, d2, d3] => { results := [.lit (.bool false)], args := [d1, d2, d3] }
  | _ => none }
def FnExactPointAddWrongFalsely : Prop := fnExactPointAddRow.holds Try.pinned (OpenSpec.ofChange fnExactPointAddWrong)

/-- 'laws.FnExactPointMul': WHATEVER THE INPUT: true; the input reads as it did. -/
def fnExactPointMulSpec : ChangeSpec := { name := "fnExactPointMul", fn := fun _ => fun
  | [d1, d2, d3] => { results := [.lit (.bool true)], args := [d1, d2, d3] }
  | _ => none }
def fnExactPointMulRow : OpenClaim := { program := "ytohplbcbkggjaac", sum := "46e903dc106c9539a0d5ea21d4e5a66299065bcfcb5f805d133afc6fa4f8ef2a", func := "loop.example/g00148/laws.FnExactPointMul", spec := "fnExactPointMul", apart := false }
def FnExactPointMulSaid : Prop := fnExactPointMulRow.holds Try.pinned (OpenSpec.ofChange fnExactPointMulSpec)

/-- ITS FALSE NEIGHBOUR: 'it returns false'. Refute it at one input. -/
def fnExactPointMulWrong : ChangeSpec := { name := "fnExactPointMul", fn := fun _ => fun
  | [d1, d2, d3] => { results := [.lit (.bool false)], args := [d1, d2, d3] }
  | _ => none }
def FnExactPointMulWrongFalsely : Prop := fnExactPointMulRow.holds Try.pinned (OpenSpec.ofChange fnExactPointMulWrong)

/-- 'laws.FnExactTwoMul': WHATEVER THE INPUT: true; the input reads as it did. -/
def fnExactTwoMulSpec : ChangeSpec := { name := "fnExactTwoMul", fn := fun _ => fun
  | [d1, d2, d3, d4] => { results := [.lit (.bool true)], args := [d1, d2, d3, d4] }
  | _ => none }
def fnExactTwoMulRow : OpenClaim := { program := "ytohplbcbkggjaac", sum := "46e903dc106c9539a0d5ea21d4e5a66299065bcfcb5f805d133afc6fa4f8ef2a", func := "loop.example/g00148/laws.FnExactTwoMul", spec := "fnExactTwoMul", apart := false }
def FnExactTwoMulSaid : Prop := fnExactTwoMulRow.holds Try.pinned (OpenSpec.ofChange fnExactTwoMulSpec)

/-- ITS FALSE NEIGHBOUR: 'it returns false'. Refute it at one input. -/
def fnExactTwoMulWrong : ChangeSpec := { name := "fnExactTwoMul", fn := fun _ => fun
  | [d1, d2, d3, d4] => { results := [.lit (.bool false)], args := [d1, d2, d3, d4] }
  | _ => none }
def FnExactTwoMulWrongFalsely : Prop := fnExactTwoMulRow.holds Try.pinned (OpenSpec.ofChange fnExactTwoMulWrong)

/-- 'laws.FnExactEdBytes': WHATEVER THE INPUT: true; the input reads as it did. -/
def fnExactEdBytesSpec : ChangeSpec := { name := "fnExactEdBytes", fn := fun _ => fun
  | [d1, d2] => { results := [.lit (.bool true)], args := [d1, d2] }
  | _ => none }
def fnExactEdBytesRow : OpenClaim := { program := "ytohplbcbkggjaac", sum := "46e903dc106c9539a0d5ea21d4e5a66299065bcfcb5f805d133afc6fa4f8ef2a", func := "loop.example/g00148/laws.FnExactEdBytes", spec := "fnExactEdBytes", apart := false }
def FnExactEdBytesSaid : Prop := fnExactEdBytesRow.holds Try.pinned (OpenSpec.ofChange fnExactEdBytesSpec)

/-- ITS FALSE NEIGHBOUR: 'it returns false'. Refute it at one input. -/
def fnExactEdBytesWrong : ChangeSpec := { name := "fnExactEdBytes", fn := fun _ => fun
  | [d1, d2] => { results := [.lit (.bool false)], args := [d1, d2] }
  | _ => none }
def FnExactEdBytesWrongFalsely : Prop := fnExactEdBytesRow.holds Try.pinned (OpenSpec.ofChange fnExactEdBytesWrong)

/-- 'laws.FnSums': WHATEVER THE INPUT: true; the input reads as it did. -/
def fnSumsSpec : ChangeSpec := { name := "fnSums", fn := fun _ => fun
  | [d] => { results := [.lit (.bool true)], args := [d] }
  | _ => none }
def fnSumsRow : OpenClaim := { program := "ytohplbcbkggjaac", sum := "46e903dc106c9539a0d5ea21d4e5a66299065bcfcb5f805d133afc6fa4f8ef2a", func := "loop.example/g00148/laws.FnSums", spec := "fnSums", unfollowed := true, recurses := true, apart := false }
def FnSumsSaid : Prop := fnSumsRow.holds Try.pinned (OpenSpec.ofChange fnSumsSpec)

/-- ITS FALSE NEIGHBOUR: 'it returns false'. Refute it at one input. -/
def fnSumsWrong : ChangeSpec := { name := "fnSums", fn := fun _ => fun
  | [d] => { results := [.lit (.bool false)], args := [d] }
  | _ => none }
def FnSumsWrongFalsely : Prop := fnSumsRow.holds Try.pinned (OpenSpec.ofChange fnSumsWrong)

/-- 'laws.FnExactPointBytes': WHATEVER THE INPUT: true; the input reads as it did. -/
def fnExactPointBytesSpec : ChangeSpec := { name := "fnExactPointBytes", fn := fun _ => fun
  | [d1, d2, d3] => { results := [.lit (.bool true)], args := [d1, d2, d3] }
  | _ => none }
def fnExactPointBytesRow : OpenClaim := { program := "ytohplbcbkggjaac", sum := "46e903dc106c9539a0d5ea21d4e5a66299065bcfcb5f805d133afc6fa4f8ef2a", func := "loop.example/g00148/laws.FnExactPointBytes", spec := "fnExactPointBytes", apart := false }
def FnExactPointBytesSaid : Prop := fnExactPointBytesRow.holds Try.pinned (OpenSpec.ofChange fnExactPointBytesSpec)

/-- ITS FALSE NEIGHBOUR: 'it returns false'. Refute it at one input. -/
def fnExactPointBytesWrong : ChangeSpec := { name := "fnExactPointBytes", fn := fun _ => fun
  | [d1, d2, d3] => { results := [.lit (.bool false)], args := [d1, d2, d3] }
  | _ => none }
def FnExactPointBytesWrongFalsely : Prop := fnExactPointBytesRow.holds Try.pinned (OpenSpec.ofChange fnExactPointBytesWrong)

/-- 'laws.FnExactSha': WHATEVER THE INPUT: true; the input reads as it did. -/
def fnExactShaSpec : ChangeSpec := { name := "fnExactSha", fn := fun _ => fun
  | [d] => { results := [.lit (.bool true)], args := [d] }
  | _ => none }
def fnExactShaRow : OpenClaim := { program := "ytohplbcbkggjaac", sum := "46e903dc106c9539a0d5ea21d4e5a66299065bcfcb5f805d133afc6fa4f8ef2a", func := "loop.example/g00148/laws.FnExactSha", spec := "fnExactSha", unfollowed := true, recurses := true, apart := false }
def FnExactShaSaid : Prop := fnExactShaRow.holds Try.pinned (OpenSpec.ofChange fnExactShaSpec)

/-- ITS FALSE NEIGHBOUR: 'it returns false'. Refute it at one input. -/
def fnExactShaWrong : ChangeSpec := { name := "fnExactSha", fn := fun _ => fun
  | [d] => { results := [.lit (.bool false)], args := [d] }
  | _ => none }
def FnExactShaWrongFalsely : Prop := fnExactShaRow.holds Try.pinned (OpenSpec.ofChange fnExactShaWrong)

/-- 'laws.FnExactEdRead': WHATEVER THE INPUT: true; the input reads as it did. -/
def fnExactEdReadSpec : ChangeSpec := { name := "fnExactEdRead", fn := fun _ => fun
  | [d1, d2] => { results := [.lit (.bool true)], args := [d1, d2] }
  | _ => none }
def fnExactEdReadRow : OpenClaim := { program := "ytohplbcbkggjaac", sum := "46e903dc106c9539a0d5ea21d4e5a66299065bcfcb5f805d133afc6fa4f8ef2a", func := "loop.example/g00148/laws.FnExactEdRead", spec := "fnExactEdRead", apart := false }
def FnExactEdReadSaid : Prop := fnExactEdReadRow.holds Try.pinned (OpenSpec.ofChange fnExactEdReadSpec)

/-- ITS FALSE NEIGHBOUR: 'it returns false'. Refute it at one input. -/
def fnExactEdReadWrong : ChangeSpec := { name := "fnExactEdRead", fn := fun _ => fun
  | [d1, d2] => { results := [.lit (.bool false)], args := [d1, d2] }
  | _ => none }
def FnExactEdReadWrongFalsely : Prop := fnExactEdReadRow.holds Try.pinned (OpenSpec.ofChange fnExactEdReadWrong)

/-- 'laws.FnExactShort': WHATEVER THE INPUT: true; the input reads as it did. -/
def fnExactShortSpec : ChangeSpec := { name := "fnExactShort", fn := fun _ => fun
  | [d] => { results := [.lit (.bool true)], args := [d] }
  | _ => none }
def fnExactShortRow : OpenClaim := { program := "ytohplbcbkggjaac", sum := "46e903dc106c9539a0d5ea21d4e5a66299065bcfcb5f805d133afc6fa4f8ef2a", func := "loop.example/g00148/laws.FnExactShort", spec := "fnExactShort", unfollowed := true, recurses := true, apart := false }
def FnExactShortSaid : Prop := fnExactShortRow.holds Try.pinned (OpenSpec.ofChange fnExactShortSpec)

/-- ITS FALSE NEIGHBOUR: 'it returns false'. Refute it at one input. -/
def fnExactShortWrong : ChangeSpec := { name := "fnExactShort", fn := fun _ => fun
  | [d] => { results := [.lit (.bool false)], args := [d] }
  | _ => none }
def FnExactShortWrongFalsely : Prop := fnExactShortRow.holds Try.pinned (OpenSpec.ofChange fnExactShortWrong)

/-- 'laws.FnPieces': WHATEVER THE INPUT: true; the input reads as it did. -/
def fnPiecesSpec : ChangeSpec := { name := "fnPieces", fn := fun _ => fun
  | [d] => { results := [.lit (.bool true)], args := [d] }
  | _ => none }
def fnPiecesRow : OpenClaim := { program := "ytohplbcbkggjaac", sum := "46e903dc106c9539a0d5ea21d4e5a66299065bcfcb5f805d133afc6fa4f8ef2a", func := "loop.example/g00148/laws.FnPieces", spec := "fnPieces", unfollowed := true, recurses := true, apart := false }
def FnPiecesSaid : Prop := fnPiecesRow.holds Try.pinned (OpenSpec.ofChange fnPiecesSpec)

/-- ITS FALSE NEIGHBOUR: 'it returns false'. Refute it at one input. -/
def fnPiecesWrong : ChangeSpec := { name := "fnPieces", fn := fun _ => fun
  | [d] => { results := [.lit (.bool false)], args := [d] }
  | _ => none }
def FnPiecesWrongFalsely : Prop := fnPiecesRow.holds Try.pinned (OpenSpec.ofChange fnPiecesWrong)

/-- 'laws.FnExactMask': WHATEVER THE INPUT: true; the input reads as it did. -/
def fnExactMaskSpec : ChangeSpec := { name := "fnExactMask", fn := fun _ => fun
  | [d1, d2] => { results := [.lit (.bool true)], args := [d1, d2] }
  | _ => none }
def fnExactMaskRow : OpenClaim := { program := "ytohplbcbkggjaac", sum := "46e903dc106c9539a0d5ea21d4e5a66299065bcfcb5f805d133afc6fa4f8ef2a", func := "loop.example/g00148/laws.FnExactMask", spec := "fnExactMask", unfollowed := true, recurses := true, apart := false }
def FnExactMaskSaid : Prop := fnExactMaskRow.holds Try.pinned (OpenSpec.ofChange fnExactMaskSpec)

/-- ITS FALSE NEIGHBOUR: 'it returns false'. Refute it at one input. -/
def fnExactMaskWrong : ChangeSpec := { name := "fnExactMask", fn := fun _ => fun
  | [d1, d2] => { results := [.lit (.bool false)], args := [d1, d2] }
  | _ => none }
def FnExactMaskWrongFalsely : Prop := fnExactMaskRow.holds Try.pinned (OpenSpec.ofChange fnExactMaskWrong)

/- THE SECOND FORM. 'bulk': how many values and letters a reading holds, each counted each time it is reached (what is shared counts as often as it is met; a slice's spare places count too). A statement '..UptoSaid' is the law's where the arguments, and the package variables that the reading takes, are together of bulk at most 1048576: NARROWER than '..Said'. Prove '..Said' where nothing that the law and all that it calls make is longer than what came in: it says more and counts as full. Else prove '..UptoSaid'. A law counts once. -/
mutual
def uptoBulk {H : Type} : DataW H → Nat
  | .lit (.string bytes) => bytes.length + 1
  | .lit _ => 1
  | .nil => 1
  | .ptr d => uptoBulk d + 1
  | .slice elems spare => uptoBulkAll elems + uptoBulkAll spare + 1
  | .agg parts => uptoBulkAll parts + 1
  | .iface _ d => uptoBulk d + 1
  | .map entries => uptoBulkEntries entries + 1
  | .held _ => 1
def uptoBulkAll {H : Type} : List (DataW H) → Nat
  | [] => 0
  | d :: r => uptoBulk d + uptoBulkAll r
def uptoBulkEntries {H : Type} : List (Lit × DataW H) → Nat
  | [] => 0
  | x :: r => uptoBulkEntry x + uptoBulkEntries r
def uptoBulkEntry {H : Type} : Lit × DataW H → Nat
  | (.string bytes, d) => bytes.length + uptoBulk d + 1
  | (_, d) => uptoBulk d + 1
 end
def uptoSmall : (H : Type) → List (DataW H) → Bool := fun _ ds => decide (uptoBulkAll ds ≤ 1048576)
def OpenSpec.upto (s : _root_.Go.ChangeSpec) : _root_.Go.OpenSpec := { _root_.Go.OpenSpec.ofChange s with cond := some uptoSmall }

/-- 'laws.FnExactPointAdd', WHERE WHAT IT READS IS OF BULK AT MOST 1048576: true; the input reads as it did. -/
def fnExactPointAddUptoRow : OpenClaim := { program := "ytohplbcbkggjaac", sum := "46e903dc106c9539a0d5ea21d4e5a66299065bcfcb5f805d133afc6fa4f8ef2a", func := "loop.example/g00148/laws.FnExactPointAdd", spec := "fnExactPointAdd", apart := false, narrowed := true }
def FnExactPointAddUptoSaid : Prop := fnExactPointAddUptoRow.holds Try.pinned (OpenSpec.upto fnExactPointAddSpec)

/-- 'laws.FnExactPointMul', WHERE WHAT IT READS IS OF BULK AT MOST 1048576: true; the input reads as it did. -/
def fnExactPointMulUptoRow : OpenClaim := { program := "ytohplbcbkggjaac", sum := "46e903dc106c9539a0d5ea21d4e5a66299065bcfcb5f805d133afc6fa4f8ef2a", func := "loop.example/g00148/laws.FnExactPointMul", spec := "fnExactPointMul", apart := false, narrowed := true }
def FnExactPointMulUptoSaid : Prop := fnExactPointMulUptoRow.holds Try.pinned (OpenSpec.upto fnExactPointMulSpec)

/-- 'laws.FnExactTwoMul', WHERE WHAT IT READS IS OF BULK AT MOST 1048576: true; the input reads as it did. -/
def fnExactTwoMulUptoRow : OpenClaim := { program := "ytohplbcbkggjaac", sum := "46e903dc106c9539a0d5ea21d4e5a66299065bcfcb5f805d133afc6fa4f8ef2a", func := "loop.example/g00148/laws.FnExactTwoMul", spec := "fnExactTwoMul", apart := false, narrowed := true }
def FnExactTwoMulUptoSaid : Prop := fnExactTwoMulUptoRow.holds Try.pinned (OpenSpec.upto fnExactTwoMulSpec)

/-- 'laws.FnExactEdBytes', WHERE WHAT IT READS IS OF BULK AT MOST 1048576: true; the input reads as it did. -/
def fnExactEdBytesUptoRow : OpenClaim := { program := "ytohplbcbkggjaac", sum := "46e903dc106c9539a0d5ea21d4e5a66299065bcfcb5f805d133afc6fa4f8ef2a", func := "loop.example/g00148/laws.FnExactEdBytes", spec := "fnExactEdBytes", apart := false, narrowed := true }
def FnExactEdBytesUptoSaid : Prop := fnExactEdBytesUptoRow.holds Try.pinned (OpenSpec.upto fnExactEdBytesSpec)

/-- 'laws.FnSums', WHERE WHAT IT READS IS OF BULK AT MOST 1048576: true; the input reads as it did. -/
def fnSumsUptoRow : OpenClaim := { program := "ytohplbcbkggjaac", sum := "46e903dc106c9539a0d5ea21d4e5a66299065bcfcb5f805d133afc6fa4f8ef2a", func := "loop.example/g00148/laws.FnSums", spec := "fnSums", unfollowed := true, recurses := true, apart := false, narrowed := true }
def FnSumsUptoSaid : Prop := fnSumsUptoRow.holds Try.pinned (OpenSpec.upto fnSumsSpec)

/-- 'laws.FnExactPointBytes', WHERE WHAT IT READS IS OF BULK AT MOST 1048576: true; the input reads as it did. -/
def fnExactPointBytesUptoRow : OpenClaim := { program := "ytohplbcbkggjaac", sum := "46e903dc106c9539a0d5ea21d4e5a66299065bcfcb5f805d133afc6fa4f8ef2a", func := "loop.example/g00148/laws.FnExactPointBytes", spec := "fnExactPointBytes", apart := false, narrowed := true }
def FnExactPointBytesUptoSaid : Prop := fnExactPointBytesUptoRow.holds Try.pinned (OpenSpec.upto fnExactPointBytesSpec)

/-- 'laws.FnExactSha', WHERE WHAT IT READS IS OF BULK AT MOST 1048576: true; the input reads as it did. -/
def fnExactShaUptoRow : OpenClaim := { program := "ytohplbcbkggjaac", sum := "46e903dc106c9539a0d5ea21d4e5a66299065bcfcb5f805d133afc6fa4f8ef2a", func := "loop.example/g00148/laws.FnExactSha", spec := "fnExactSha", unfollowed := true, recurses := true, apart := false, narrowed := true }
def FnExactShaUptoSaid : Prop := fnExactShaUptoRow.holds Try.pinned (OpenSpec.upto fnExactShaSpec)

/-- 'laws.FnExactEdRead', WHERE WHAT IT READS IS OF BULK AT MOST 1048576: true; the input reads as it did. -/
def fnExactEdReadUptoRow : OpenClaim := { program := "ytohplbcbkggjaac", sum := "46e903dc106c9539a0d5ea21d4e5a66299065bcfcb5f805d133afc6fa4f8ef2a", func := "loop.example/g00148/laws.FnExactEdRead", spec := "fnExactEdRead", apart := false, narrowed := true }
def FnExactEdReadUptoSaid : Prop := fnExactEdReadUptoRow.holds Try.pinned (OpenSpec.upto fnExactEdReadSpec)

/-- 'laws.FnExactShort', WHERE WHAT IT READS IS OF BULK AT MOST 1048576: true; the input reads as it did. -/
def fnExactShortUptoRow : OpenClaim := { program := "ytohplbcbkggjaac", sum := "46e903dc106c9539a0d5ea21d4e5a66299065bcfcb5f805d133afc6fa4f8ef2a", func := "loop.example/g00148/laws.FnExactShort", spec := "fnExactShort", unfollowed := true, recurses := true, apart := false, narrowed := true }
def FnExactShortUptoSaid : Prop := fnExactShortUptoRow.holds Try.pinned (OpenSpec.upto fnExactShortSpec)

/-- 'laws.FnPieces', WHERE WHAT IT READS IS OF BULK AT MOST 1048576: true; the input reads as it did. -/
def fnPiecesUptoRow : OpenClaim := { program := "ytohplbcbkggjaac", sum := "46e903dc106c9539a0d5ea21d4e5a66299065bcfcb5f805d133afc6fa4f8ef2a", func := "loop.example/g00148/laws.FnPieces", spec := "fnPieces", unfollowed := true, recurses := true, apart := false, narrowed := true }
def FnPiecesUptoSaid : Prop := fnPiecesUptoRow.holds Try.pinned (OpenSpec.upto fnPiecesSpec)

/-- 'laws.FnExactMask', WHERE WHAT IT READS IS OF BULK AT MOST 1048576: true; the input reads as it did. -/
def fnExactMaskUptoRow : OpenClaim := { program := "ytohplbcbkggjaac", sum := "46e903dc106c9539a0d5ea21d4e5a66299065bcfcb5f805d133afc6fa4f8ef2a", func := "loop.example/g00148/laws.FnExactMask", spec := "fnExactMask", unfollowed := true, recurses := true, apart := false, narrowed := true }
def FnExactMaskUptoSaid : Prop := fnExactMaskUptoRow.holds Try.pinned (OpenSpec.upto fnExactMaskSpec)

end Rows
end Go.Proofs.Ytohplbcbkggjaac
