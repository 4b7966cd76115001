/-
  No cell of these rows narrows 'for every input' (looked for: loops, veiled, ifaces, maps, wideKeys, modest, calm, conditions, laid).
  DERIVED. THE GIVEN ROWS OF THIS SEAT. 7 by the template 'for every input the law returns true; each argument reads behind the call as it read before'; 0 by the template 'total and deterministic' (their statements: YtehdmpfeddieoaaTotals.lean).
  GIVEN WITH THE SEED: the statements are not yours to turn. If you find one false, say at which input.
  Laid BY PROGRAM, IN A SANDBOX (cutbox-rows.mjs): the forced cells as the released guide's own fill.sh prints them over the translation 79d2062f3a48254d… (all of the seat's roots in one cut). By AI agents, Wed Nov 11 2026. No macro, syntax, notation, axiom, sorry.
-/
import Derived.Test.YtehdmpfeddieoaaChecked
import GoSem.Claim
import GoSem.ClaimJoined
import GoSem.ClaimMapViews
import Derived.JoinedTies
import Derived.KernelRfl
namespace Go.Proofs.Ytehdmpfeddieoaa
/- THE CELL 'sum', in the pinned program and in every row, IS THE sha256 OF THE DUMP (.gsa) THAT YtehdmpfeddieoaaProg.lean LOADS. Nothing in Lean hashes anything: it is a label: what it is worth is what the hold of that sum in a sandbox is worth. -/
noncomputable def Try.pinned : Pinned := { name := "ytehdmpfeddieoaa", sum := "79d2062f3a48254d9eafb7cfc156903abaed88d3bf88fd2c5e560a454d795e1e", checked := Try.checked }
namespace Rows
def none {H : Type} : Left H := { results := [], args := [] }

/-- 'laws.FnExactNatDiv': WHATEVER THE INPUT: true; the input reads as it did. -/
def fnExactNatDivSpec : ChangeSpec := { name := "fnExactNatDiv", fn := fun _ => fun
  | [d1, d2] => { results := [.lit (.bool true)], args := [d1, d2] }
  | _ => none }
def fnExactNatDivRow : OpenClaim := { program := "ytehdmpfeddieoaa", sum := "79d2062f3a48254d9eafb7cfc156903abaed88d3bf88fd2c5e560a454d795e1e", func := "loop.example/g00148/laws.FnExactNatDiv", spec := "fnExactNatDiv", unfollowed := true, recurses := true, apart := false }
def FnExactNatDivSaid : Prop := fnExactNatDivRow.holds Try.pinned (OpenSpec.ofChange fnExactNatDivSpec)

/-- ITS FALSE NEIGHBOUR: 'it returns false'. Refute it at one input. -/
def fnExactNatDivWrong : ChangeSpec := { name := "fnExactNatDiv", fn := fun _ => fun
  | [d1, d2] => { results := [.lit (.bool false)], args := [d1, d2] }
  | _ => none }
def FnExactNatDivWrongFalsely : Prop := fnExactNatDivRow.holds Try.pinned (OpenSpec.ofChange fnExactNatDivWrong)

/-- 'laws.FnExactModMul': WHATEVER THE INPUT: true; the input reads as it did. -/
def fnExactModMulSpec : ChangeSpec := { name := "fnExactModMul", fn := fun _ => fun
  | [d1, d2, d3] => { results := [.lit (.bool true)], args := [d1, d2, d3] }
  | _ => none }
def fnExactModMulRow : OpenClaim := { program := "ytehdmpfeddieoaa", sum := "79d2062f3a48254d9eafb7cfc156903abaed88d3bf88fd2c5e560a454d795e1e", func := "loop.example/g00148/laws.FnExactModMul", spec := "fnExactModMul", unfollowed := true, recurses := true, apart := false }
def FnExactModMulSaid : Prop := fnExactModMulRow.holds Try.pinned (OpenSpec.ofChange fnExactModMulSpec)

/-- ITS FALSE NEIGHBOUR: 'it returns false'. Refute it at one input. -/
def fnExactModMulWrong : ChangeSpec := { name := "fnExactModMul", fn := fun _ => fun
  | [d1, d2, d3] => { results := [.lit (.bool false)], args := [d1, d2, d3] }
  | _ => none }
def FnExactModMulWrongFalsely : Prop := fnExactModMulRow.holds Try.pinned (OpenSpec.ofChange fnExactModMulWrong)

/-- 'laws.FnExactModPow': WHATEVER THE INPUT: true; the input reads as it did. -/
def fnExactModPowSpec : ChangeSpec := { name := "fnExactModPow", fn := fun _ => fun
  | [d1, d2, d3] => { results := [.lit (.bool true)], args := [d1, d2, d3] }
  | _ => none }
def fnExactModPowRow : OpenClaim := { program := "ytehdmpfeddieoaa", sum := "79d2062f3a48254d9eafb7cfc156903abaed88d3bf88fd2c5e560a454d795e1e", func := "loop.example/g00148/laws.FnExactModPow", spec := "fnExactModPow", unfollowed := true, recurses := true, apart := false }
def FnExactModPowSaid : Prop := fnExactModPowRow.holds Try.pinned (OpenSpec.ofChange fnExactModPowSpec)

/-- ITS FALSE NEIGHBOUR: 'it returns false'. Refute it at one input. -/
def fnExactModPowWrong : ChangeSpec := { name := "fnExactModPow", fn := fun _ => fun
  | [d1, d2, d3] => { results := [.lit (.bool false)], args := [d1, d2, d3] }
  | _ => none }
def FnExactModPowWrongFalsely : Prop := fnExactModPowRow.holds Try.pinned (OpenSpec.ofChange fnExactModPowWrong)

/-- 'laws.FnSmallMod': WHATEVER THE INPUT: true; the input reads as it did. -/
def fnSmallModSpec : ChangeSpec := { name := "fnSmallMod", fn := fun _ => fun
  | [d] => { results := [.lit (.bool true)], args := [d] }
  | _ => none }
def fnSmallModRow : OpenClaim := { program := "ytehdmpfeddieoaa", sum := "79d2062f3a48254d9eafb7cfc156903abaed88d3bf88fd2c5e560a454d795e1e", func := "loop.example/g00148/laws.FnSmallMod", spec := "fnSmallMod", unfollowed := true, recurses := true, apart := false }
def FnSmallModSaid : Prop := fnSmallModRow.holds Try.pinned (OpenSpec.ofChange fnSmallModSpec)

/-- ITS FALSE NEIGHBOUR: 'it returns false'. Refute it at one input. -/
def fnSmallModWrong : ChangeSpec := { name := "fnSmallMod", fn := fun _ => fun
  | [d] => { results := [.lit (.bool false)], args := [d] }
  | _ => none }
def FnSmallModWrongFalsely : Prop := fnSmallModRow.holds Try.pinned (OpenSpec.ofChange fnSmallModWrong)

/-- 'laws.FnPowers': WHATEVER THE INPUT: true; the input reads as it did. -/
def fnPowersSpec : ChangeSpec := { name := "fnPowers", fn := fun _ => fun
  | [d] => { results := [.lit (.bool true)], args := [d] }
  | _ => none }
def fnPowersRow : OpenClaim := { program := "ytehdmpfeddieoaa", sum := "79d2062f3a48254d9eafb7cfc156903abaed88d3bf88fd2c5e560a454d795e1e", func := "loop.example/g00148/laws.FnPowers", spec := "fnPowers", unfollowed := true, recurses := true, apart := false }
def FnPowersSaid : Prop := fnPowersRow.holds Try.pinned (OpenSpec.ofChange fnPowersSpec)

/-- ITS FALSE NEIGHBOUR: 'it returns false'. Refute it at one input. -/
def fnPowersWrong : ChangeSpec := { name := "fnPowers", fn := fun _ => fun
  | [d] => { results := [.lit (.bool false)], args := [d] }
  | _ => none }
def FnPowersWrongFalsely : Prop := fnPowersRow.holds Try.pinned (OpenSpec.ofChange fnPowersWrong)

/-- 'laws.FnExactModInv': WHATEVER THE INPUT: true; the input reads as it did. -/
def fnExactModInvSpec : ChangeSpec := { name := "fnExactModInv", fn := fun _ => fun
  | [d1, d2] => { results := [.lit (.bool true)], args := [d1, d2] }
  | _ => none }
def fnExactModInvRow : OpenClaim := { program := "ytehdmpfeddieoaa", sum := "79d2062f3a48254d9eafb7cfc156903abaed88d3bf88fd2c5e560a454d795e1e", func := "loop.example/g00148/laws.FnExactModInv", spec := "fnExactModInv", unfollowed := true, recurses := true, apart := false }
def FnExactModInvSaid : Prop := fnExactModInvRow.holds Try.pinned (OpenSpec.ofChange fnExactModInvSpec)

/-- ITS FALSE NEIGHBOUR: 'it returns false'. Refute it at one input. -/
def fnExactModInvWrong : ChangeSpec := { name := "fnExactModInv", fn := fun _ => fun
  | [d1, d2] => { results := [.lit (.bool false)], args := [d1, d2] }
  | _ => none }
def FnExactModInvWrongFalsely : Prop := fnExactModInvRow.holds Try.pinned (OpenSpec.ofChange fnExactModInvWrong)

/-- 'laws.FnDivided': WHATEVER THE INPUT: true; the input reads as it did. -/
def fnDividedSpec : ChangeSpec := { name := "fnDivided", fn := fun _ => fun
  | [d] => { results := [.lit (.bool true)], args := [d] }
  | _ => none }
def fnDividedRow : OpenClaim := { program := "ytehdmpfeddieoaa", sum := "79d2062f3a48254d9eafb7cfc156903abaed88d3bf88fd2c5e560a454d795e1e", func := "loop.example/g00148/laws.FnDivided", spec := "fnDivided", unfollowed := true, recurses := true, apart := false }
def FnDividedSaid : Prop := fnDividedRow.holds Try.pinned (OpenSpec.ofChange fnDividedSpec)

/-- ITS FALSE NEIGHBOUR: 'it returns false'. Refute it at one input. -/
def fnDividedWrong : ChangeSpec := { name := "fnDivided", fn := fun _ => fun
  | [d] => { results := [.lit (.bool false)], args := [d] }
  | _ => none }
def FnDividedWrongFalsely : Prop := fnDividedRow.holds Try.pinned (OpenSpec.ofChange fnDividedWrong)

/- THE SECOND FORM. 'bulk': how many values and letters a reading holds, each counted each time it is reached (what is shared counts as often as it is met; a slice's spare places count too). A statement '..UptoSaid' is the law's where the arguments, and the package variables that the reading takes, are together of bulk at most 1048576: NARROWER than '..Said'. Prove '..Said' where nothing that the law and all that it calls make is longer than what came in: it says more and counts as full. Else prove '..UptoSaid'. A law counts once. -/
mutual
def uptoBulk {H : Type} : DataW H → Nat
  | .lit (.string bytes) => bytes.length + 1
  | .lit _ => 1
  | .nil => 1
  | .ptr d => uptoBulk d + 1
  | .slice elems spare => uptoBulkAll elems + uptoBulkAll spare + 1
  | .agg parts => uptoBulkAll parts + 1
  | .iface _ d => uptoBulk d + 1
  | .map entries => uptoBulkEntries entries + 1
  | .held _ => 1
def uptoBulkAll {H : Type} : List (DataW H) → Nat
  | [] => 0
  | d :: r => uptoBulk d + uptoBulkAll r
def uptoBulkEntries {H : Type} : List (Lit × DataW H) → Nat
  | [] => 0
  | x :: r => uptoBulkEntry x + uptoBulkEntries r
def uptoBulkEntry {H : Type} : Lit × DataW H → Nat
  | (.string bytes, d) => bytes.length + uptoBulk d + 1
  | (_, d) => uptoBulk d + 1
 end
def uptoSmall : (H : Type) → List (DataW H) → Bool := fun _ ds => decide (uptoBulkAll ds ≤ 1048576)
def OpenSpec.upto (s : _root_.Go.ChangeSpec) : _root_.Go.OpenSpec := { _root_.Go.OpenSpec.ofChange s with cond := some uptoSmall }

/-- 'laws.FnExactNatDiv', WHERE WHAT IT READS IS OF BULK AT MOST 1048576: true; the input reads as it did. -/
def fnExactNatDivUptoRow : OpenClaim := { program := "ytehdmpfeddieoaa", sum := "79d2062f3a48254d9eafb7cfc156903abaed88d3bf88fd2c5e560a454d795e1e", func := "loop.example/g00148/laws.FnExactNatDiv", spec := "fnExactNatDiv", unfollowed := true, recurses := true, apart := false, narrowed := true }
def FnExactNatDivUptoSaid : Prop := fnExactNatDivUptoRow.holds Try.pinned (OpenSpec.upto fnExactNatDivSpec)

/-- 'laws.FnExactModMul', WHERE WHAT IT READS IS OF BULK AT MOST 1048576: true; the input reads as it did. -/
def fnExactModMulUptoRow : OpenClaim := { program := "ytehdmpfeddieoaa", sum := "79d2062f3a48254d9eafb7cfc156903abaed88d3bf88fd2c5e560a454d795e1e", func := "loop.example/g00148/laws.FnExactModMul", spec := "fnExactModMul", unfollowed := true, recurses := true, apart := false, narrowed := true }
def FnExactModMulUptoSaid : Prop := fnExactModMulUptoRow.holds Try.pinned (OpenSpec.upto fnExactModMulSpec)

/-- 'laws.FnExactModPow', WHERE WHAT IT READS IS OF BULK AT MOST 1048576: true; the input reads as it did. -/
def fnExactModPowUptoRow : OpenClaim := { program := "ytehdmpfeddieoaa", sum := "79d2062f3a48254d9eafb7cfc156903abaed88d3bf88fd2c5e560a454d795e1e", func := "loop.example/g00148/laws.FnExactModPow", spec := "fnExactModPow", unfollowed := true, recurses := true, apart := false, narrowed := true }
def FnExactModPowUptoSaid : Prop := fnExactModPowUptoRow.holds Try.pinned (OpenSpec.upto fnExactModPowSpec)

/-- 'laws.FnSmallMod', WHERE WHAT IT READS IS OF BULK AT MOST 1048576: true; the input reads as it did. -/
def fnSmallModUptoRow : OpenClaim := { program := "ytehdmpfeddieoaa", sum := "79d2062f3a48254d9eafb7cfc156903abaed88d3bf88fd2c5e560a454d795e1e", func := "loop.example/g00148/laws.FnSmallMod", spec := "fnSmallMod", unfollowed := true, recurses := true, apart := false, narrowed := true }
def FnSmallModUptoSaid : Prop := fnSmallModUptoRow.holds Try.pinned (OpenSpec.upto fnSmallModSpec)

/-- 'laws.FnPowers', WHERE WHAT IT READS IS OF BULK AT MOST 1048576: true; the input reads as it did. -/
def fnPowersUptoRow : OpenClaim := { program := "ytehdmpfeddieoaa", sum := "79d2062f3a48254d9eafb7cfc156903abaed88d3bf88fd2c5e560a454d795e1e", func := "loop.example/g00148/laws.FnPowers", spec := "fnPowers", unfollowed := true, recurses := true, apart := false, narrowed := true }
def FnPowersUptoSaid : Prop := fnPowersUptoRow.holds Try.pinned (OpenSpec.upto fnPowersSpec)

/-- 'laws.FnExactModInv', WHERE WHAT IT READS IS OF BULK AT MOST 1048576: true; the input reads as it did. -/
def fnExactModInvUptoRow : OpenClaim := { program := "ytehdmpfeddieoaa", sum := "79d2062f3a48254d9eafb7cfc156903abaed88d3bf88fd2c5e560a454d795e1e", func := "loop.example/g00148/laws.FnExactModInv", spec := "fnExactModInv", unfollowed := true, recurses := true, apart := false, narrowed := true }
def FnExactModInvUptoSaid : Prop := fnExactModInvUptoRow.holds Try.pinned (OpenSpec.upto fnExactModInvSpec)

/-- 'laws.FnDivided', WHERE WHAT IT READS IS OF BULK AT MOST 1048576: true; the input reads as it did. -/
def fnDividedUptoRow : OpenClaim := { program := "ytehdmpfeddieoaa", sum := "79d2062f3a48254d9eafb7cfc156903abaed88d3bf88fd2c5e560a454d795e1e", func := "loop.example/g00148/laws.FnDivided", spec := "fnDivided", unfollowed := true, recurses := true, apart := false, narrowed := true }
def FnDividedUptoSaid : Prop := fnDividedUptoRow.holds Try.pinned (OpenSpec.upto fnDividedSpec)

end Rows
end Go.Proofs.Ytehdmpfeddieoaa
