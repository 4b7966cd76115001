/-
  No cell of these rows narrows 'for every input' (looked for: loops, veiled, ifaces, maps, wideKeys, modest, calm, conditions, laid).
  DERIVED. THE GIVEN ROWS OF THIS SEAT. 5 by the template 'for every input the law returns true; each argument reads behind the call as it read before'; 0 by the template 'total and deterministic' (their statements: YtadmkolopcdffaaTotals.lean).
  GIVEN WITH THE SEED: the statements are not yours to turn. If you find one false, say at which input.
  Laid BY PROGRAM, IN A SANDBOX (cutbox-rows.mjs): the forced cells as the released guide's own fill.sh prints them over the translation 44a692b7b0d7e2b3… (all of the seat's roots in one cut). By AI agents, Wed Nov 11 2026. No macro, syntax, notation, axiom, sorry.
-/
import Derived.Test.YtadmkolopcdffaaChecked
import GoSem.Claim
import GoSem.ClaimJoined
import GoSem.ClaimMapViews
import Derived.JoinedTies
import Derived.KernelRfl
namespace Go.Proofs.Ytadmkolopcdffaa
/- THE CELL 'sum', in the pinned program and in every row, IS THE sha256 OF THE DUMP (.gsa) THAT YtadmkolopcdffaaProg.lean LOADS. Nothing in Lean hashes anything: it is a label: what it is worth is what the hold of that sum in a sandbox is worth. -/
noncomputable def Try.pinned : Pinned := { name := "ytadmkolopcdffaa", sum := "44a692b7b0d7e2b35e2c6f4e3e2865367c83c76e73d49e9cb80b2950a54ac0ea", checked := Try.checked }
namespace Rows
def none {H : Type} : Left H := { results := [], args := [] }

/-- 'laws.FnExactPointAdd': WHATEVER THE INPUT: true; the input reads as it did. -/
def fnExactPointAddSpec : ChangeSpec := { name := "fnExactPointAdd", fn := fun _ => fun
  | [d1, d2, d3] => { results := [.lit (.bool true)], args := [d1, d2, d3] }
  | _ => none }
def fnExactPointAddRow : OpenClaim := { program := "ytadmkolopcdffaa", sum := "44a692b7b0d7e2b35e2c6f4e3e2865367c83c76e73d49e9cb80b2950a54ac0ea", func := "loop.example/g00148/laws.FnExactPointAdd", spec := "fnExactPointAdd", apart := false }
def FnExactPointAddSaid : Prop := fnExactPointAddRow.holds Try.pinned (OpenSpec.ofChange fnExactPointAddSpec)

/-- ITS FALSE NEIGHBOUR: 'it returns false'. Refute it at one input. -/
def fnExactPointAddWrong : ChangeSpec := { name := "fnExactPointAdd", fn := fun _ => fun
  | [d1, d2, d3] => { results := [.lit (.bool false)], args := [d1, d2, d3] }
  | _ => none }
def FnExactPointAddWrongFalsely : Prop := fnExactPointAddRow.holds Try.pinned (OpenSpec.ofChange fnExactPointAddWrong)

/-- 'laws.FnExactPointBytes': WHATEVER THE INPUT: true; the input reads as it did. -/
def fnExactPointBytesSpec : ChangeSpec := { name := "fnExactPointBytes", fn := fun _ => fun
  | [d1, d2, d3] => { results := [.lit (.bool true)], args := [d1, d2, d3] }
  | _ => none }
def fnExactPointBytesRow : OpenClaim := { program := "ytadmkolopcdffaa", sum := "44a692b7b0d7e2b35e2c6f4e3e2865367c83c76e73d49e9cb80b2950a54ac0ea", func := "loop.example/g00148/laws.FnExactPointBytes", spec := "fnExactPointBytes", apart := false }
def FnExactPointBytesSaid : Prop := fnExactPointBytesRow.holds Try.pinned (OpenSpec.ofChange fnExactPointBytesSpec)

/-- ITS FALSE NEIGHBOUR: 'it returns false'. Refute it at one input. -/
def fnExactPointBytesWrong : ChangeSpec := { name := "fnExactPointBytes", fn := fun _ => fun
  | [d1, d2, d3] => { results := [.lit (.bool false)], args := [d1, d2, d3] }
  | _ => none }
def FnExactPointBytesWrongFalsely : Prop := fnExactPointBytesRow.holds Try.pinned (OpenSpec.ofChange fnExactPointBytesWrong)

/-- 'laws.FnExactPointRead': WHATEVER THE INPUT: true; the input reads as it did. -/
def fnExactPointReadSpec : ChangeSpec := { name := "fnExactPointRead", fn := fun _ => fun
  | [d1, d2] => { results := [.lit (.bool true)], args := [d1, d2] }
  | _ => none }
def fnExactPointReadRow : OpenClaim := { program := "ytadmkolopcdffaa", sum := "44a692b7b0d7e2b35e2c6f4e3e2865367c83c76e73d49e9cb80b2950a54ac0ea", func := "loop.example/g00148/laws.FnExactPointRead", spec := "fnExactPointRead", apart := false }
def FnExactPointReadSaid : Prop := fnExactPointReadRow.holds Try.pinned (OpenSpec.ofChange fnExactPointReadSpec)

/-- ITS FALSE NEIGHBOUR: 'it returns false'. Refute it at one input. -/
def fnExactPointReadWrong : ChangeSpec := { name := "fnExactPointRead", fn := fun _ => fun
  | [d1, d2] => { results := [.lit (.bool false)], args := [d1, d2] }
  | _ => none }
def FnExactPointReadWrongFalsely : Prop := fnExactPointReadRow.holds Try.pinned (OpenSpec.ofChange fnExactPointReadWrong)

/-- 'laws.FnCurves': WHATEVER THE INPUT: true; the input reads as it did. -/
def fnCurvesSpec : ChangeSpec := { name := "fnCurves", fn := fun _ => fun
  | [d] => { results := [.lit (.bool true)], args := [d] }
  | _ => none }
def fnCurvesRow : OpenClaim := { program := "ytadmkolopcdffaa", sum := "44a692b7b0d7e2b35e2c6f4e3e2865367c83c76e73d49e9cb80b2950a54ac0ea", func := "loop.example/g00148/laws.FnCurves", spec := "fnCurves", apart := false }
def FnCurvesSaid : Prop := fnCurvesRow.holds Try.pinned (OpenSpec.ofChange fnCurvesSpec)

/-- ITS FALSE NEIGHBOUR: 'it returns false'. Refute it at one input. -/
def fnCurvesWrong : ChangeSpec := { name := "fnCurves", fn := fun _ => fun
  | [d] => { results := [.lit (.bool false)], args := [d] }
  | _ => none }
def FnCurvesWrongFalsely : Prop := fnCurvesRow.holds Try.pinned (OpenSpec.ofChange fnCurvesWrong)

/-- 'laws.FnPointsBack': WHATEVER THE INPUT: true; the input reads as it did. -/
def fnPointsBackSpec : ChangeSpec := { name := "fnPointsBack", fn := fun _ => fun
  | [d] => { results := [.lit (.bool true)], args := [d] }
  | _ => none }
def fnPointsBackRow : OpenClaim := { program := "ytadmkolopcdffaa", sum := "44a692b7b0d7e2b35e2c6f4e3e2865367c83c76e73d49e9cb80b2950a54ac0ea", func := "loop.example/g00148/laws.FnPointsBack", spec := "fnPointsBack", apart := false }
def FnPointsBackSaid : Prop := fnPointsBackRow.holds Try.pinned (OpenSpec.ofChange fnPointsBackSpec)

/-- ITS FALSE NEIGHBOUR: 'it returns false'. Refute it at one input. -/
def fnPointsBackWrong : ChangeSpec := { name := "fnPointsBack", fn := fun _ => fun
  | [d] => { results := [.lit (.bool false)], args := [d] }
  | _ => none }
def FnPointsBackWrongFalsely : Prop := fnPointsBackRow.holds Try.pinned (OpenSpec.ofChange fnPointsBackWrong)

/- THE SECOND FORM. 'bulk': how many values and letters a reading holds, each counted each time it is reached (what is shared counts as often as it is met; a slice's spare places count too). A statement '..UptoSaid' is the law's where the arguments, and the package variables that the reading takes, are together of bulk at most 1048576: NARROWER than '..Said'. Prove '..Said' where nothing that the law and all that it calls make is longer than what came in: it says more and counts as full. Else prove '..UptoSaid'. A law counts once. -/
mutual
def uptoBulk {H : Type} : DataW H → Nat
  | .lit (.string bytes) => bytes.length + 1
  | .lit _ => 1
  | .nil => 1
  | .ptr d => uptoBulk d + 1
  | .slice elems spare => uptoBulkAll elems + uptoBulkAll spare + 1
  | .agg parts => uptoBulkAll parts + 1
  | .iface _ d => uptoBulk d + 1
  | .map entries => uptoBulkEntries entries + 1
  | .held _ => 1
def uptoBulkAll {H : Type} : List (DataW H) → Nat
  | [] => 0
  | d :: r => uptoBulk d + uptoBulkAll r
def uptoBulkEntries {H : Type} : List (Lit × DataW H) → Nat
  | [] => 0
  | x :: r => uptoBulkEntry x + uptoBulkEntries r
def uptoBulkEntry {H : Type} : Lit × DataW H → Nat
  | (.string bytes, d) => bytes.length + uptoBulk d + 1
  | (_, d) => uptoBulk d + 1
 end
def uptoSmall : (H : Type) → List (DataW H) → Bool := fun _ ds => decide (uptoBulkAll ds ≤ 1048576)
def OpenSpec.upto (s : _root_.Go.ChangeSpec) : _root_.Go.OpenSpec := { _root_.Go.OpenSpec.ofChange s with cond := some uptoSmall }

/-- 'laws.FnExactPointAdd', WHERE WHAT IT READS IS OF BULK AT MOST 1048576: true; the input reads as it did. -/
def fnExactPointAddUptoRow : OpenClaim := { program := "ytadmkolopcdffaa", sum := "44a692b7b0d7e2b35e2c6f4e3e2865367c83c76e73d49e9cb80b2950a54ac0ea", func := "loop.example/g00148/laws.FnExactPointAdd", spec := "fnExactPointAdd", apart := false, narrowed := true }
def FnExactPointAddUptoSaid : Prop := fnExactPointAddUptoRow.holds Try.pinned (OpenSpec.upto fnExactPointAddSpec)

/-- 'laws.FnExactPointBytes', WHERE WHAT IT READS IS OF BULK AT MOST 1048576: true; the input reads as it did. -/
def fnExactPointBytesUptoRow : OpenClaim := { program := "ytadmkolopcdffaa", sum := "44a692b7b0d7e2b35e2c6f4e3e2865367c83c76e73d49e9cb80b2950a54ac0ea", func := "loop.example/g00148/laws.FnExactPointBytes", spec := "fnExactPointBytes", apart := false, narrowed := true }
def FnExactPointBytesUptoSaid : Prop := fnExactPointBytesUptoRow.holds Try.pinned (OpenSpec.upto fnExactPointBytesSpec)

/-- 'laws.FnExactPointRead', WHERE WHAT IT READS IS OF BULK AT MOST 1048576: true; the input reads as it did. -/
def fnExactPointReadUptoRow : OpenClaim := { program := "ytadmkolopcdffaa", sum := "44a692b7b0d7e2b35e2c6f4e3e2865367c83c76e73d49e9cb80b2950a54ac0ea", func := "loop.example/g00148/laws.FnExactPointRead", spec := "fnExactPointRead", apart := false, narrowed := true }
def FnExactPointReadUptoSaid : Prop := fnExactPointReadUptoRow.holds Try.pinned (OpenSpec.upto fnExactPointReadSpec)

/-- 'laws.FnCurves', WHERE WHAT IT READS IS OF BULK AT MOST 1048576: true; the input reads as it did. -/
def fnCurvesUptoRow : OpenClaim := { program := "ytadmkolopcdffaa", sum := "44a692b7b0d7e2b35e2c6f4e3e2865367c83c76e73d49e9cb80b2950a54ac0ea", func := "loop.example/g00148/laws.FnCurves", spec := "fnCurves", apart := false, narrowed := true }
def FnCurvesUptoSaid : Prop := fnCurvesUptoRow.holds Try.pinned (OpenSpec.upto fnCurvesSpec)

/-- 'laws.FnPointsBack', WHERE WHAT IT READS IS OF BULK AT MOST 1048576: true; the input reads as it did. -/
def fnPointsBackUptoRow : OpenClaim := { program := "ytadmkolopcdffaa", sum := "44a692b7b0d7e2b35e2c6f4e3e2865367c83c76e73d49e9cb80b2950a54ac0ea", func := "loop.example/g00148/laws.FnPointsBack", spec := "fnPointsBack", apart := false, narrowed := true }
def FnPointsBackUptoSaid : Prop := fnPointsBackUptoRow.holds Try.pinned (OpenSpec.upto fnPointsBackSpec)

end Rows
end Go.Proofs.Ytadmkolopcdffaa
