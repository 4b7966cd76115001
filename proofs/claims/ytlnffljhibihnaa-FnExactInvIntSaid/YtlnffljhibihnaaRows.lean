/-
  No cell of these rows narrows 'for every input' (looked for: loops, veiled, ifaces, maps, wideKeys, modest, calm, conditions, laid).
  DERIVED. THE GIVEN ROWS OF THIS SEAT. 4 by the template 'for every input the law returns true; each argument reads behind the call as it read before'; 0 by the template 'total and deterministic' (their statements: YtlnffljhibihnaaTotals.lean).
  GIVEN WITH THE SEED: the statements are not yours to turn. If you find one false, say at which input.
  Laid BY PROGRAM, IN A SANDBOX (cutbox-rows.mjs): the forced cells as the released guide's own fill.sh prints them over the translation 49acd1b7bfe1e939… (all of the seat's roots in one cut). By AI agents, Wed Nov 11 2026. No macro, syntax, notation, axiom, sorry.
-/
import Derived.Test.YtlnffljhibihnaaChecked
import GoSem.Claim
import GoSem.ClaimJoined
import GoSem.ClaimMapViews
import Derived.JoinedTies
import Derived.KernelRfl
namespace Go.Proofs.Ytlnffljhibihnaa
/- THE CELL 'sum', in the pinned program and in every row, IS THE sha256 OF THE DUMP (.gsa) THAT YtlnffljhibihnaaProg.lean LOADS. Nothing in Lean hashes anything: it is a label: what it is worth is what the hold of that sum in a sandbox is worth. -/
noncomputable def Try.pinned : Pinned := { name := "ytlnffljhibihnaa", sum := "49acd1b7bfe1e939d2b41cf916646c168a8004e4842bfab4a5f3a185158051b3", checked := Try.checked }
namespace Rows
def none {H : Type} : Left H := { results := [], args := [] }

/-- 'laws.FnExactConstants': WHATEVER THE INPUT: true; the input reads as it did. -/
def fnExactConstantsSpec : ChangeSpec := { name := "fnExactConstants", fn := fun _ => fun
  | [] => { results := [.lit (.bool true)], args := [] }
  | _ => none }
def fnExactConstantsRow : OpenClaim := { program := "ytlnffljhibihnaa", sum := "49acd1b7bfe1e939d2b41cf916646c168a8004e4842bfab4a5f3a185158051b3", func := "loop.example/g00148/laws.FnExactConstants", spec := "fnExactConstants", apart := false }
def FnExactConstantsSaid : Prop := fnExactConstantsRow.holds Try.pinned (OpenSpec.ofChange fnExactConstantsSpec)

/-- ITS FALSE NEIGHBOUR: 'it returns false'. Refute it at one input. -/
def fnExactConstantsWrong : ChangeSpec := { name := "fnExactConstants", fn := fun _ => fun
  | [] => { results := [.lit (.bool false)], args := [] }
  | _ => none }
def FnExactConstantsWrongFalsely : Prop := fnExactConstantsRow.holds Try.pinned (OpenSpec.ofChange fnExactConstantsWrong)

/-- 'laws.FnExactGcd': WHATEVER THE INPUT: true; the input reads as it did. -/
def fnExactGcdSpec : ChangeSpec := { name := "fnExactGcd", fn := fun _ => fun
  | [d1, d2] => { results := [.lit (.bool true)], args := [d1, d2] }
  | _ => none }
def fnExactGcdRow : OpenClaim := { program := "ytlnffljhibihnaa", sum := "49acd1b7bfe1e939d2b41cf916646c168a8004e4842bfab4a5f3a185158051b3", func := "loop.example/g00148/laws.FnExactGcd", spec := "fnExactGcd", apart := false }
def FnExactGcdSaid : Prop := fnExactGcdRow.holds Try.pinned (OpenSpec.ofChange fnExactGcdSpec)

/-- ITS FALSE NEIGHBOUR: 'it returns false'. Refute it at one input. -/
def fnExactGcdWrong : ChangeSpec := { name := "fnExactGcd", fn := fun _ => fun
  | [d1, d2] => { results := [.lit (.bool false)], args := [d1, d2] }
  | _ => none }
def FnExactGcdWrongFalsely : Prop := fnExactGcdRow.holds Try.pinned (OpenSpec.ofChange fnExactGcdWrong)

/-- 'laws.FnExactPrimeInt': WHATEVER THE INPUT: true; the input reads as it did. -/
def fnExactPrimeIntSpec : ChangeSpec := { name := "fnExactPrimeInt", fn := fun _ => fun
  | [d] => { results := [.lit (.bool true)], args := [d] }
  | _ => none }
def fnExactPrimeIntRow : OpenClaim := { program := "ytlnffljhibihnaa", sum := "49acd1b7bfe1e939d2b41cf916646c168a8004e4842bfab4a5f3a185158051b3", func := "loop.example/g00148/laws.FnExactPrimeInt", spec := "fnExactPrimeInt", apart := false }
def FnExactPrimeIntSaid : Prop := fnExactPrimeIntRow.holds Try.pinned (OpenSpec.ofChange fnExactPrimeIntSpec)

/-- ITS FALSE NEIGHBOUR: 'it returns false'. Refute it at one input. -/
def fnExactPrimeIntWrong : ChangeSpec := { name := "fnExactPrimeInt", fn := fun _ => fun
  | [d] => { results := [.lit (.bool false)], args := [d] }
  | _ => none }
def FnExactPrimeIntWrongFalsely : Prop := fnExactPrimeIntRow.holds Try.pinned (OpenSpec.ofChange fnExactPrimeIntWrong)

/-- 'laws.FnExactInvInt': WHATEVER THE INPUT: true; the input reads as it did. -/
def fnExactInvIntSpec : ChangeSpec := { name := "fnExactInvInt", fn := fun _ => fun
  | [d1, d2] => { results := [.lit (.bool true)], args := [d1, d2] }
  | _ => none }
def fnExactInvIntRow : OpenClaim := { program := "ytlnffljhibihnaa", sum := "49acd1b7bfe1e939d2b41cf916646c168a8004e4842bfab4a5f3a185158051b3", func := "loop.example/g00148/laws.FnExactInvInt", spec := "fnExactInvInt", apart := false }
def FnExactInvIntSaid : Prop := fnExactInvIntRow.holds Try.pinned (OpenSpec.ofChange fnExactInvIntSpec)

/-- ITS FALSE NEIGHBOUR: 'it returns false'. Refute it at one input. -/
def fnExactInvIntWrong : ChangeSpec := { name := "fnExactInvInt", fn := fun _ => fun
  | [d1, d2] => { results := [.lit (.bool false)], args := [d1, d2] }
  | _ => none }
def FnExactInvIntWrongFalsely : Prop := fnExactInvIntRow.holds Try.pinned (OpenSpec.ofChange fnExactInvIntWrong)

/- THE SECOND FORM. 'bulk': how many values and letters a reading holds, each counted each time it is reached (what is shared counts as often as it is met; a slice's spare places count too). A statement '..UptoSaid' is the law's where the arguments, and the package variables that the reading takes, are together of bulk at most 1048576: NARROWER than '..Said'. Prove '..Said' where nothing that the law and all that it calls make is longer than what came in: it says more and counts as full. Else prove '..UptoSaid'. A law counts once. -/
mutual
def uptoBulk {H : Type} : DataW H → Nat
  | .lit (.string bytes) => bytes.length + 1
  | .lit _ => 1
  | .nil => 1
  | .ptr d => uptoBulk d + 1
  | .slice elems spare => uptoBulkAll elems + uptoBulkAll spare + 1
  | .agg parts => uptoBulkAll parts + 1
  | .iface _ d => uptoBulk d + 1
  | .map entries => uptoBulkEntries entries + 1
  | .held _ => 1
def uptoBulkAll {H : Type} : List (DataW H) → Nat
  | [] => 0
  | d :: r => uptoBulk d + uptoBulkAll r
def uptoBulkEntries {H : Type} : List (Lit × DataW H) → Nat
  | [] => 0
  | x :: r => uptoBulkEntry x + uptoBulkEntries r
def uptoBulkEntry {H : Type} : Lit × DataW H → Nat
  | (.string bytes, d) => bytes.length + uptoBulk d + 1
  | (_, d) => uptoBulk d + 1
 end
def uptoSmall : (H : Type) → List (DataW H) → Bool := fun _ ds => decide (uptoBulkAll ds ≤ 1048576)
def OpenSpec.upto (s : _root_.Go.ChangeSpec) : _root_.Go.OpenSpec := { _root_.Go.OpenSpec.ofChange s with cond := some uptoSmall }

/-- 'laws.FnExactConstants', WHERE WHAT IT READS IS OF BULK AT MOST 1048576: true; the input reads as it did. -/
def fnExactConstantsUptoRow : OpenClaim := { program := "ytlnffljhibihnaa", sum := "49acd1b7bfe1e939d2b41cf916646c168a8004e4842bfab4a5f3a185158051b3", func := "loop.example/g00148/laws.FnExactConstants", spec := "fnExactConstants", apart := false, narrowed := true }
def FnExactConstantsUptoSaid : Prop := fnExactConstantsUptoRow.holds Try.pinned (OpenSpec.upto fnExactConstantsSpec)

/-- 'laws.FnExactGcd', WHERE WHAT IT READS IS OF BULK AT MOST 1048576: true; the input reads as it did. -/
def fnExactGcdUptoRow : OpenClaim := { program := "ytlnffljhibihnaa", sum := "49acd1b7bfe1e939d2b41cf916646c168a8004e4842bfab4a5f3a185158051b3", func := "loop.example/g00148/laws.FnExactGcd", spec := "fnExactGcd", apart := false, narrowed := true }
def FnExactGcdUptoSaid : Prop := fnExactGcdUptoRow.holds Try.pinned (OpenSpec.upto fnExactGcdSpec)

/-- 'laws.FnExactPrimeInt', WHERE WHAT IT READS IS OF BULK AT MOST 1048576: true; the input reads as it did. -/
def fnExactPrimeIntUptoRow : OpenClaim := { program := "ytlnffljhibihnaa", sum := "49acd1b7bfe1e939d2b41cf916646c168a8004e4842bfab4a5f3a185158051b3", func := "loop.example/g00148/laws.FnExactPrimeInt", spec := "fnExactPrimeInt", apart := false, narrowed := true }
def FnExactPrimeIntUptoSaid : Prop := fnExactPrimeIntUptoRow.holds Try.pinned (OpenSpec.upto fnExactPrimeIntSpec)

/-- 'laws.FnExactInvInt', WHERE WHAT IT READS IS OF BULK AT MOST 1048576: true; the input reads as it did. -/
def fnExactInvIntUptoRow : OpenClaim := { program := "ytlnffljhibihnaa", sum := "49acd1b7bfe1e939d2b41cf916646c168a8004e4842bfab4a5f3a185158051b3", func := "loop.example/g00148/laws.FnExactInvInt", spec := "fnExactInvInt", apart := false, narrowed := true }
def FnExactInvIntUptoSaid : Prop := fnExactInvIntUptoRow.holds Try.pinned (OpenSpec.upto fnExactInvIntSpec)

end Rows
end Go.Proofs.Ytlnffljhibihnaa
