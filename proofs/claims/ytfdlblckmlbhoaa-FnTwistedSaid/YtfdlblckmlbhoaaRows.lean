/-
  No cell of these rows narrows 'for every input' (looked for: loops, veiled, ifaces, maps, wideKeys, modest, calm, conditions, laid).
  DERIVED. THE GIVEN ROWS OF THIS SEAT. 2 by the template 'for every input the law returns true; each argument reads behind the call as it read before'; 0 by the template 'total and deterministic' (their statements: YtfdlblckmlbhoaaTotals.lean).
  GIVEN WITH THE SEED: the statements are not yours to turn. If you find one false, say at which input.
  Laid BY PROGRAM, IN A SANDBOX (cutbox-rows.mjs): the forced cells as the released guide's own fill.sh prints them over the translation e7c43fa5b0c4b1cc… (all of the seat's roots in one cut). By AI agents, Wed Nov 11 2026. No macro, syntax, notation, axiom, sorry.
-/
import Derived.Test.YtfdlblckmlbhoaaChecked
import GoSem.Claim
import GoSem.ClaimJoined
import GoSem.ClaimMapViews
import Derived.JoinedTies
import Derived.KernelRfl
namespace Go.Proofs.Ytfdlblckmlbhoaa
/- THE CELL 'sum', in the pinned program and in every row, IS THE sha256 OF THE DUMP (.gsa) THAT YtfdlblckmlbhoaaProg.lean LOADS. Nothing in Lean hashes anything: it is a label: what it is worth is what the hold of that sum in a sandbox is worth. -/
noncomputable def Try.pinned : Pinned := { name := "ytfdlblckmlbhoaa", sum := "e7c43fa5b0c4b1ccbad825c21a1b6e7d25659ef1e7541af268820f9b322fdbb8", checked := Try.checked }
namespace Rows
def none {H : Type} : Left H := { results := [], args := [] }

/-- 'laws.FnTwisted': WHATEVER THE INPUT: true; the input reads as it did. -/
def fnTwistedSpec : ChangeSpec := { name := "fnTwisted", fn := fun _ => fun
  | [d] => { results := [.lit (.bool true)], args := [d] }
  | _ => none }
def fnTwistedRow : OpenClaim := { program := "ytfdlblckmlbhoaa", sum := "e7c43fa5b0c4b1ccbad825c21a1b6e7d25659ef1e7541af268820f9b322fdbb8", func := "loop.example/g00148/laws.FnTwisted", spec := "fnTwisted", apart := false }
def FnTwistedSaid : Prop := fnTwistedRow.holds Try.pinned (OpenSpec.ofChange fnTwistedSpec)

/-- ITS FALSE NEIGHBOUR: 'it returns false'. Refute it at one input. -/
def fnTwistedWrong : ChangeSpec := { name := "fnTwisted", fn := fun _ => fun
  | [d] => { results := [.lit (.bool false)], args := [d] }
  | _ => none }
def FnTwistedWrongFalsely : Prop := fnTwistedRow.holds Try.pinned (OpenSpec.ofChange fnTwistedWrong)

/-- 'laws.FnPointsBack': WHATEVER THE INPUT: true; the input reads as it did. -/
def fnPointsBackSpec : ChangeSpec := { name := "fnPointsBack", fn := fun _ => fun
  | [d] => { results := [.lit (.bool true)], args := [d] }
  | _ => none }
def fnPointsBackRow : OpenClaim := { program := "ytfdlblckmlbhoaa", sum := "e7c43fa5b0c4b1ccbad825c21a1b6e7d25659ef1e7541af268820f9b322fdbb8", func := "loop.example/g00148/laws.FnPointsBack", spec := "fnPointsBack", apart := false }
def FnPointsBackSaid : Prop := fnPointsBackRow.holds Try.pinned (OpenSpec.ofChange fnPointsBackSpec)

/-- ITS FALSE NEIGHBOUR: 'it returns false'. Refute it at one input. -/
def fnPointsBackWrong : ChangeSpec := { name := "fnPointsBack", fn := fun _ => fun
  | [d] => { results := [.lit (.bool false)], args := [d] }
  | _ => none }
def FnPointsBackWrongFalsely : Prop := fnPointsBackRow.holds Try.pinned (OpenSpec.ofChange fnPointsBackWrong)

/- THE SECOND FORM. 'bulk': how many values and letters a reading holds, each counted each time it is reached (what is shared counts as often as it is met; a slice's spare places count too). A statement '..UptoSaid' is the law's where the arguments, and the package variables that the reading takes, are together of bulk at most 1048576: NARROWER than '..Said'. Prove '..Said' where nothing that the law and all that it calls make is longer than what came in: it says more and counts as full. Else prove '..UptoSaid'. A law counts once. -/
mutual
def uptoBulk {H : Type} : DataW H → Nat
  | .lit (.string bytes) => bytes.length + 1
  | .lit _ => 1
  | .nil => 1
  | .ptr d => uptoBulk d + 1
  | .slice elems spare => uptoBulkAll elems + uptoBulkAll spare + 1
  | .agg parts => uptoBulkAll parts + 1
  | .iface _ d => uptoBulk d + 1
  | .map entries => uptoBulkEntries entries + 1
  | .held _ => 1
def uptoBulkAll {H : Type} : List (DataW H) → Nat
  | [] => 0
  | d :: r => uptoBulk d + uptoBulkAll r
def uptoBulkEntries {H : Type} : List (Lit × DataW H) → Nat
  | [] => 0
  | x :: r => uptoBulkEntry x + uptoBulkEntries r
def uptoBulkEntry {H : Type} : Lit × DataW H → Nat
  | (.string bytes, d) => bytes.length + uptoBulk d + 1
  | (_, d) => uptoBulk d + 1
 end
def uptoSmall : (H : Type) → List (DataW H) → Bool := fun _ ds => decide (uptoBulkAll ds ≤ 1048576)
def OpenSpec.upto (s : _root_.Go.ChangeSpec) : _root_.Go.OpenSpec := { _root_.Go.OpenSpec.ofChange s with cond := some uptoSmall }

/-- 'laws.FnTwisted', WHERE WHAT IT READS IS OF BULK AT MOST 1048576: true; the input reads as it did. -/
def fnTwistedUptoRow : OpenClaim := { program := "ytfdlblckmlbhoaa", sum := "e7c43fa5b0c4b1ccbad825c21a1b6e7d25659ef1e7541af268820f9b322fdbb8", func := "loop.example/g00148/laws.FnTwisted", spec := "fnTwisted", apart := false, narrowed := true }
def FnTwistedUptoSaid : Prop := fnTwistedUptoRow.holds Try.pinned (OpenSpec.upto fnTwistedSpec)

/-- 'laws.FnPointsBack', WHERE WHAT IT READS IS OF BULK AT MOST 1048576: true; the input reads as it did. -/
def fnPointsBackUptoRow : OpenClaim := { program := "ytfdlblckmlbhoaa", sum := "e7c43fa5b0c4b1ccbad825c21a1b6e7d25659ef1e7541af268820f9b322fdbb8", func := "loop.example/g00148/laws.FnPointsBack", spec := "fnPointsBack", apart := false, narrowed := true }
def FnPointsBackUptoSaid : Prop := fnPointsBackUptoRow.holds Try.pinned (OpenSpec.upto fnPointsBackSpec)

end Rows
end Go.Proofs.Ytfdlblckmlbhoaa
