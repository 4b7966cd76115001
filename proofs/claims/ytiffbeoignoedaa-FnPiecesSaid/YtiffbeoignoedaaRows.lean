/-
  No cell of these rows narrows 'for every input' (looked for: loops, veiled, ifaces, maps, wideKeys, modest, calm, conditions, laid).
  DERIVED. THE GIVEN ROWS OF THIS SEAT. 6 by the template 'for every input the law returns true; each argument reads behind the call as it read before'; 0 by the template 'total and deterministic' (their statements: YtiffbeoignoedaaTotals.lean).
  GIVEN WITH THE SEED: the statements are not yours to turn. If you find one false, say at which input.
  Laid BY PROGRAM, IN A SANDBOX (cutbox-rows.mjs): the forced cells as the released guide's own fill.sh prints them over the translation a628e0076b0fa0e8… (all of the seat's roots in one cut). By AI agents, Wed Nov 11 2026. No macro, syntax, notation, axiom, sorry.
-/
import Derived.Test.YtiffbeoignoedaaChecked
import GoSem.Claim
import GoSem.ClaimJoined
import GoSem.ClaimMapViews
import Derived.JoinedTies
import Derived.KernelRfl
namespace Go.Proofs.Ytiffbeoignoedaa
/- THE CELL 'sum', in the pinned program and in every row, IS THE sha256 OF THE DUMP (.gsa) THAT YtiffbeoignoedaaProg.lean LOADS. Nothing in Lean hashes anything: it is a label: what it is worth is what the hold of that sum in a sandbox is worth. -/
noncomputable def Try.pinned : Pinned := { name := "ytiffbeoignoedaa", sum := "a628e0076b0fa0e8ab6a590777d24cf4588184e0cc407a1422cad8d81e9dbd2b", checked := Try.checked }
namespace Rows
def none {H : Type} : Left H := { results := [], args := [] }

/-- 'laws.FnExactStreamOk': WHATEVER THE INPUT: true; the input reads as it did. -/
def fnExactStreamOkSpec : ChangeSpec := { name := "fnExactStreamOk", fn := fun _ => fun
  | [d] => { results := [.lit (.bool true)], args := [d] }
  | _ => none }
def fnExactStreamOkRow : OpenClaim := { program := "ytiffbeoignoedaa", sum := "a628e0076b0fa0e8ab6a590777d24cf4588184e0cc407a1422cad8d81e9dbd2b", func := "loop.example/g00148/laws.FnExactStreamOk", spec := "fnExactStreamOk", apart := false }
def FnExactStreamOkSaid : Prop := fnExactStreamOkRow.holds Try.pinned (OpenSpec.ofChange fnExactStreamOkSpec)

/-- ITS FALSE NEIGHBOUR: 'it returns false'. Refute it at one input. -/
def fnExactStreamOkWrong : ChangeSpec := { name := "fnExactStreamOk", fn := fun _ => fun
  | [d] => { results := [.lit (.bool false)], args := [d] }
  | _ => none }
def FnExactStreamOkWrongFalsely : Prop := fnExactStreamOkRow.holds Try.pinned (OpenSpec.ofChange fnExactStreamOkWrong)

/-- 'laws.FnExactNewStream': WHATEVER THE INPUT: true; the input reads as it did. -/
def fnExactNewStreamSpec : ChangeSpec := { name := "fnExactNewStream", fn := fun _ => fun
  | [] => { results := [.lit (.bool true)], args := [] }
  | _ => none }
def fnExactNewStreamRow : OpenClaim := { program := "ytiffbeoignoedaa", sum := "a628e0076b0fa0e8ab6a590777d24cf4588184e0cc407a1422cad8d81e9dbd2b", func := "loop.example/g00148/laws.FnExactNewStream", spec := "fnExactNewStream", unfollowed := true, recurses := true, apart := false }
def FnExactNewStreamSaid : Prop := fnExactNewStreamRow.holds Try.pinned (OpenSpec.ofChange fnExactNewStreamSpec)

/-- ITS FALSE NEIGHBOUR: 'it returns false'. Refute it at one input. -/
def fnExactNewStreamWrong : ChangeSpec := { name := "fnExactNewStream", fn := fun _ => fun
  | [] => { results := [.lit (.bool false)], args := [] }
  | _ => none }
def FnExactNewStreamWrongFalsely : Prop := fnExactNewStreamRow.holds Try.pinned (OpenSpec.ofChange fnExactNewStreamWrong)

/-- 'laws.FnExactSha': WHATEVER THE INPUT: true; the input reads as it did. -/
def fnExactShaSpec : ChangeSpec := { name := "fnExactSha", fn := fun _ => fun
  | [d] => { results := [.lit (.bool true)], args := [d] }
  | _ => none }
def fnExactShaRow : OpenClaim := { program := "ytiffbeoignoedaa", sum := "a628e0076b0fa0e8ab6a590777d24cf4588184e0cc407a1422cad8d81e9dbd2b", func := "loop.example/g00148/laws.FnExactSha", spec := "fnExactSha", unfollowed := true, recurses := true, apart := false }
def FnExactShaSaid : Prop := fnExactShaRow.holds Try.pinned (OpenSpec.ofChange fnExactShaSpec)

/-- ITS FALSE NEIGHBOUR: 'it returns false'. Refute it at one input. -/
def fnExactShaWrong : ChangeSpec := { name := "fnExactSha", fn := fun _ => fun
  | [d] => { results := [.lit (.bool false)], args := [d] }
  | _ => none }
def FnExactShaWrongFalsely : Prop := fnExactShaRow.holds Try.pinned (OpenSpec.ofChange fnExactShaWrong)

/-- 'laws.FnExactShort': WHATEVER THE INPUT: true; the input reads as it did. -/
def fnExactShortSpec : ChangeSpec := { name := "fnExactShort", fn := fun _ => fun
  | [d] => { results := [.lit (.bool true)], args := [d] }
  | _ => none }
def fnExactShortRow : OpenClaim := { program := "ytiffbeoignoedaa", sum := "a628e0076b0fa0e8ab6a590777d24cf4588184e0cc407a1422cad8d81e9dbd2b", func := "loop.example/g00148/laws.FnExactShort", spec := "fnExactShort", unfollowed := true, recurses := true, apart := false }
def FnExactShortSaid : Prop := fnExactShortRow.holds Try.pinned (OpenSpec.ofChange fnExactShortSpec)

/-- ITS FALSE NEIGHBOUR: 'it returns false'. Refute it at one input. -/
def fnExactShortWrong : ChangeSpec := { name := "fnExactShort", fn := fun _ => fun
  | [d] => { results := [.lit (.bool false)], args := [d] }
  | _ => none }
def FnExactShortWrongFalsely : Prop := fnExactShortRow.holds Try.pinned (OpenSpec.ofChange fnExactShortWrong)

/-- 'laws.FnPieces': WHATEVER THE INPUT: true; the input reads as it did. -/
def fnPiecesSpec : ChangeSpec := { name := "fnPieces", fn := fun _ => fun
  | [d] => { results := [.lit (.bool true)], args := [d] }
  | _ => none }
def fnPiecesRow : OpenClaim := { program := "ytiffbeoignoedaa", sum := "a628e0076b0fa0e8ab6a590777d24cf4588184e0cc407a1422cad8d81e9dbd2b", func := "loop.example/g00148/laws.FnPieces", spec := "fnPieces", unfollowed := true, recurses := true, apart := false }
def FnPiecesSaid : Prop := fnPiecesRow.holds Try.pinned (OpenSpec.ofChange fnPiecesSpec)

/-- ITS FALSE NEIGHBOUR: 'it returns false'. Refute it at one input. -/
def fnPiecesWrong : ChangeSpec := { name := "fnPieces", fn := fun _ => fun
  | [d] => { results := [.lit (.bool false)], args := [d] }
  | _ => none }
def FnPiecesWrongFalsely : Prop := fnPiecesRow.holds Try.pinned (OpenSpec.ofChange fnPiecesWrong)

/-- 'laws.FnExactMask': WHATEVER THE INPUT: true; the input reads as it did. -/
def fnExactMaskSpec : ChangeSpec := { name := "fnExactMask", fn := fun _ => fun
  | [d1, d2] => { results := [.lit (.bool true)], args := [d1, d2] }
  | _ => none }
def fnExactMaskRow : OpenClaim := { program := "ytiffbeoignoedaa", sum := "a628e0076b0fa0e8ab6a590777d24cf4588184e0cc407a1422cad8d81e9dbd2b", func := "loop.example/g00148/laws.FnExactMask", spec := "fnExactMask", unfollowed := true, recurses := true, apart := false }
def FnExactMaskSaid : Prop := fnExactMaskRow.holds Try.pinned (OpenSpec.ofChange fnExactMaskSpec)

/-- ITS FALSE NEIGHBOUR: 'it returns false'. Refute it at one input. -/
def fnExactMaskWrong : ChangeSpec := { name := "fnExactMask", fn := fun _ => fun
  | [d1, d2] => { results := [.lit (.bool false)], args := [d1, d2] }
  | _ => none }
def FnExactMaskWrongFalsely : Prop := fnExactMaskRow.holds Try.pinned (OpenSpec.ofChange fnExactMaskWrong)

/- THE SECOND FORM. 'bulk': how many values and letters a reading holds, each counted each time it is reached (what is shared counts as often as it is met; a slice's spare places count too). A statement '..UptoSaid' is the law's where the arguments, and the package variables that the reading takes, are together of bulk at most 1048576: NARROWER than '..Said'. Prove '..Said' where nothing that the law and all that it calls make is longer than what came in: it says more and counts as full. Else prove '..UptoSaid'. A law counts once. -/
mutual
def uptoBulk {H : Type} : DataW H → Nat
  | .lit (.string bytes) => bytes.length + 1
  | .lit _ => 1
  | .nil => 1
  | .ptr d => uptoBulk d + 1
  | .slice elems spare => uptoBulkAll elems + uptoBulkAll spare + 1
  | .agg parts => uptoBulkAll parts + 1
  | .iface _ d => uptoBulk d + 1
  | .map entries => uptoBulkEntries entries + 1
  | .held _ => 1
def uptoBulkAll {H : Type} : List (DataW H) → Nat
  | [] => 0
  | d :: r => uptoBulk d + uptoBulkAll r
def uptoBulkEntries {H : Type} : List (Lit × DataW H) → Nat
  | [] => 0
  | x :: r => uptoBulkEntry x + uptoBulkEntries r
def uptoBulkEntry {H : Type} : Lit × DataW H → Nat
  | (.string bytes, d) => bytes.length + uptoBulk d + 1
  | (_, d) => uptoBulk d + 1
 end
def uptoSmall : (H : Type) → List (DataW H) → Bool := fun _ ds => decide (uptoBulkAll ds ≤ 1048576)
def OpenSpec.upto (s : _root_.Go.ChangeSpec) : _root_.Go.OpenSpec := { _root_.Go.OpenSpec.ofChange s with cond := some uptoSmall }

/-- 'laws.FnExactStreamOk', WHERE WHAT IT READS IS OF BULK AT MOST 1048576: true; the input reads as it did. -/
def fnExactStreamOkUptoRow : OpenClaim := { program := "ytiffbeoignoedaa", sum := "a628e0076b0fa0e8ab6a590777d24cf4588184e0cc407a1422cad8d81e9dbd2b", func := "loop.example/g00148/laws.FnExactStreamOk", spec := "fnExactStreamOk", apart := false, narrowed := true }
def FnExactStreamOkUptoSaid : Prop := fnExactStreamOkUptoRow.holds Try.pinned (OpenSpec.upto fnExactStreamOkSpec)

/-- 'laws.FnExactNewStream', WHERE WHAT IT READS IS OF BULK AT MOST 1048576: true; the input reads as it did. -/
def fnExactNewStreamUptoRow : OpenClaim := { program := "ytiffbeoignoedaa", sum := "a628e0076b0fa0e8ab6a590777d24cf4588184e0cc407a1422cad8d81e9dbd2b", func := "loop.example/g00148/laws.FnExactNewStream", spec := "fnExactNewStream", unfollowed := true, recurses := true, apart := false, narrowed := true }
def FnExactNewStreamUptoSaid : Prop := fnExactNewStreamUptoRow.holds Try.pinned (OpenSpec.upto fnExactNewStreamSpec)

/-- 'laws.FnExactSha', WHERE WHAT IT READS IS OF BULK AT MOST 1048576: true; the input reads as it did. -/
def fnExactShaUptoRow : OpenClaim := { program := "ytiffbeoignoedaa", sum := "a628e0076b0fa0e8ab6a590777d24cf4588184e0cc407a1422cad8d81e9dbd2b", func := "loop.example/g00148/laws.FnExactSha", spec := "fnExactSha", unfollowed := true, recurses := true, apart := false, narrowed := true }
def FnExactShaUptoSaid : Prop := fnExactShaUptoRow.holds Try.pinned (OpenSpec.upto fnExactShaSpec)

/-- 'laws.FnExactShort', WHERE WHAT IT READS IS OF BULK AT MOST 1048576: true; the input reads as it did. -/
def fnExactShortUptoRow : OpenClaim := { program := "ytiffbeoignoedaa", sum := "a628e0076b0fa0e8ab6a590777d24cf4588184e0cc407a1422cad8d81e9dbd2b", func := "loop.example/g00148/laws.FnExactShort", spec := "fnExactShort", unfollowed := true, recurses := true, apart := false, narrowed := true }
def FnExactShortUptoSaid : Prop := fnExactShortUptoRow.holds Try.pinned (OpenSpec.upto fnExactShortSpec)

/-- 'laws.FnPieces', WHERE WHAT IT READS IS OF BULK AT MOST 1048576: true; the input reads as it did. -/
def fnPiecesUptoRow : OpenClaim := { program := "ytiffbeoignoedaa", sum := "a628e0076b0fa0e8ab6a590777d24cf4588184e0cc407a1422cad8d81e9dbd2b", func := "loop.example/g00148/laws.FnPieces", spec := "fnPieces", unfollowed := true, recurses := true, apart := false, narrowed := true }
def FnPiecesUptoSaid : Prop := fnPiecesUptoRow.holds Try.pinned (OpenSpec.upto fnPiecesSpec)

/-- 'laws.FnExactMask', WHERE WHAT IT READS IS OF BULK AT MOST 1048576: true; the input reads as it did. -/
def fnExactMaskUptoRow : OpenClaim := { program := "ytiffbeoignoedaa", sum := "a628e0076b0fa0e8ab6a590777d24cf4588184e0cc407a1422cad8d81e9dbd2b", func := "loop.example/g00148/laws.FnExactMask", spec := "fnExactMask", unfollowed := true, recurses := true, apart := false, narrowed := true }
def FnExactMaskUptoSaid : Prop := fnExactMaskUptoRow.holds Try.pinned (OpenSpec.upto fnExactMaskSpec)

end Rows
end Go.Proofs.Ytiffbeoignoedaa
