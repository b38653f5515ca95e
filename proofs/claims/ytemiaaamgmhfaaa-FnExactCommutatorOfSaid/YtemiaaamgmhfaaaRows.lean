/-
  No cell of these rows narrows 'for every input' (looked for: loops, veiled, ifaces, maps, wideKeys, modest, calm, conditions, laid).
  DERIVED. THE GIVEN ROWS OF THIS SEAT. 11 by the template 'for every input the law returns true; each argument reads behind the call as it read before'; 0 by the template 'total and deterministic' (their statements: YtemiaaamgmhfaaaTotals.lean).
  GIVEN WITH THE SEED: the statements are not yours to turn. If you find one false, say at which input.
  Laid BY PROGRAM, IN A SANDBOX (cutbox-rows.mjs): the forced cells as the released guide's own fill.sh prints them over the translation 898690c977b4d763… (all of the seat's roots in one cut). By AI agents, Wed Nov 11 2026. No macro, syntax, notation, axiom, sorry.
-/
import Derived.Test.YtemiaaamgmhfaaaChecked
import GoSem.Claim
import GoSem.ClaimJoined
import GoSem.ClaimMapViews
import Derived.JoinedTies
import Derived.KernelRfl
namespace Go.Proofs.Ytemiaaamgmhfaaa
/- THE CELL 'sum', in the pinned program and in every row, IS THE sha256 OF THE DUMP (.gsa) THAT YtemiaaamgmhfaaaProg.lean LOADS. Nothing in Lean hashes anything: it is a label: what it is worth is what the hold of that sum in a sandbox is worth. -/
noncomputable def Try.pinned : Pinned := { name := "ytemiaaamgmhfaaa", sum := "898690c977b4d763aaea63bf052729a68d9697e2b527578cccc3c802341495df", checked := Try.checked }
namespace Rows
def none {H : Type} : Left H := { results := [], args := [] }

/-- 'laws.FnExactCommutatorOf': WHATEVER THE INPUT: true; the input reads as it did. -/
def fnExactCommutatorOfSpec : ChangeSpec := { name := "fnExactCommutatorOf", fn := fun _ => fun
  | [d1, d2] => { results := [.lit (.bool true)], args := [d1, d2] }
  | _ => none }
def fnExactCommutatorOfRow : OpenClaim := { program := "ytemiaaamgmhfaaa", sum := "898690c977b4d763aaea63bf052729a68d9697e2b527578cccc3c802341495df", func := "loop.example/g01206/laws.FnExactCommutatorOf", spec := "fnExactCommutatorOf", unfollowed := true, recurses := true, apart := false }
def FnExactCommutatorOfSaid : Prop := fnExactCommutatorOfRow.holds Try.pinned (OpenSpec.ofChange fnExactCommutatorOfSpec)

/-- ITS FALSE NEIGHBOUR: 'it returns false'. Refute it at one input. -/
def fnExactCommutatorOfWrong : ChangeSpec := { name := "fnExactCommutatorOf", fn := fun _ => fun
  | [d1, d2] => { results := [.lit (.bool false)], args := [d1, d2] }
  | _ => none }
def FnExactCommutatorOfWrongFalsely : Prop := fnExactCommutatorOfRow.holds Try.pinned (OpenSpec.ofChange fnExactCommutatorOfWrong)

/-- 'laws.FnExactMatteringNails': WHATEVER THE INPUT: true; the input reads as it did. -/
def fnExactMatteringNailsSpec : ChangeSpec := { name := "fnExactMatteringNails", fn := fun _ => fun
  | [d] => { results := [.lit (.bool true)], args := [d] }
  | _ => none }
def fnExactMatteringNailsRow : OpenClaim := { program := "ytemiaaamgmhfaaa", sum := "898690c977b4d763aaea63bf052729a68d9697e2b527578cccc3c802341495df", func := "loop.example/g01206/laws.FnExactMatteringNails", spec := "fnExactMatteringNails", unfollowed := true, recurses := true, apart := false }
def FnExactMatteringNailsSaid : Prop := fnExactMatteringNailsRow.holds Try.pinned (OpenSpec.ofChange fnExactMatteringNailsSpec)

/-- ITS FALSE NEIGHBOUR: 'it returns false'. Refute it at one input. -/
def fnExactMatteringNailsWrong : ChangeSpec := { name := "fnExactMatteringNails", fn := fun _ => fun
  | [d] => { results := [.lit (.bool false)], args := [d] }
  | _ => none }
def FnExactMatteringNailsWrongFalsely : Prop := fnExactMatteringNailsRow.holds Try.pinned (OpenSpec.ofChange fnExactMatteringNailsWrong)

/-- 'laws.FnExactHidesNail': WHATEVER THE INPUT: true; the input reads as it did. -/
def fnExactHidesNailSpec : ChangeSpec := { name := "fnExactHidesNail", fn := fun _ => fun
  | [d1, d2] => { results := [.lit (.bool true)], args := [d1, d2] }
  | _ => none }
def fnExactHidesNailRow : OpenClaim := { program := "ytemiaaamgmhfaaa", sum := "898690c977b4d763aaea63bf052729a68d9697e2b527578cccc3c802341495df", func := "loop.example/g01206/laws.FnExactHidesNail", spec := "fnExactHidesNail", unfollowed := true, recurses := true, apart := false }
def FnExactHidesNailSaid : Prop := fnExactHidesNailRow.holds Try.pinned (OpenSpec.ofChange fnExactHidesNailSpec)

/-- ITS FALSE NEIGHBOUR: 'it returns false'. Refute it at one input. -/
def fnExactHidesNailWrong : ChangeSpec := { name := "fnExactHidesNail", fn := fun _ => fun
  | [d1, d2] => { results := [.lit (.bool false)], args := [d1, d2] }
  | _ => none }
def FnExactHidesNailWrongFalsely : Prop := fnExactHidesNailRow.holds Try.pinned (OpenSpec.ofChange fnExactHidesNailWrong)

/-- 'laws.FnExactLeftWord': WHATEVER THE INPUT: true; the input reads as it did. -/
def fnExactLeftWordSpec : ChangeSpec := { name := "fnExactLeftWord", fn := fun _ => fun
  | [d] => { results := [.lit (.bool true)], args := [d] }
  | _ => none }
def fnExactLeftWordRow : OpenClaim := { program := "ytemiaaamgmhfaaa", sum := "898690c977b4d763aaea63bf052729a68d9697e2b527578cccc3c802341495df", func := "loop.example/g01206/laws.FnExactLeftWord", spec := "fnExactLeftWord", unfollowed := true, recurses := true, apart := false }
def FnExactLeftWordSaid : Prop := fnExactLeftWordRow.holds Try.pinned (OpenSpec.ofChange fnExactLeftWordSpec)

/-- ITS FALSE NEIGHBOUR: 'it returns false'. Refute it at one input. -/
def fnExactLeftWordWrong : ChangeSpec := { name := "fnExactLeftWord", fn := fun _ => fun
  | [d] => { results := [.lit (.bool false)], args := [d] }
  | _ => none }
def FnExactLeftWordWrongFalsely : Prop := fnExactLeftWordRow.holds Try.pinned (OpenSpec.ofChange fnExactLeftWordWrong)

/-- 'laws.FnExactGreatestHangs': WHATEVER THE INPUT: true; the input reads as it did. -/
def fnExactGreatestHangsSpec : ChangeSpec := { name := "fnExactGreatestHangs", fn := fun _ => fun
  | [d] => { results := [.lit (.bool true)], args := [d] }
  | _ => none }
def fnExactGreatestHangsRow : OpenClaim := { program := "ytemiaaamgmhfaaa", sum := "898690c977b4d763aaea63bf052729a68d9697e2b527578cccc3c802341495df", func := "loop.example/g01206/laws.FnExactGreatestHangs", spec := "fnExactGreatestHangs", unfollowed := true, recurses := true, apart := false }
def FnExactGreatestHangsSaid : Prop := fnExactGreatestHangsRow.holds Try.pinned (OpenSpec.ofChange fnExactGreatestHangsSpec)

/-- ITS FALSE NEIGHBOUR: 'it returns false'. Refute it at one input. -/
def fnExactGreatestHangsWrong : ChangeSpec := { name := "fnExactGreatestHangs", fn := fun _ => fun
  | [d] => { results := [.lit (.bool false)], args := [d] }
  | _ => none }
def FnExactGreatestHangsWrongFalsely : Prop := fnExactGreatestHangsRow.holds Try.pinned (OpenSpec.ofChange fnExactGreatestHangsWrong)

/-- 'laws.FnExactLeastFalls': WHATEVER THE INPUT: true; the input reads as it did. -/
def fnExactLeastFallsSpec : ChangeSpec := { name := "fnExactLeastFalls", fn := fun _ => fun
  | [d] => { results := [.lit (.bool true)], args := [d] }
  | _ => none }
def fnExactLeastFallsRow : OpenClaim := { program := "ytemiaaamgmhfaaa", sum := "898690c977b4d763aaea63bf052729a68d9697e2b527578cccc3c802341495df", func := "loop.example/g01206/laws.FnExactLeastFalls", spec := "fnExactLeastFalls", unfollowed := true, recurses := true, apart := false }
def FnExactLeastFallsSaid : Prop := fnExactLeastFallsRow.holds Try.pinned (OpenSpec.ofChange fnExactLeastFallsSpec)

/-- ITS FALSE NEIGHBOUR: 'it returns false'. Refute it at one input. -/
def fnExactLeastFallsWrong : ChangeSpec := { name := "fnExactLeastFalls", fn := fun _ => fun
  | [d] => { results := [.lit (.bool false)], args := [d] }
  | _ => none }
def FnExactLeastFallsWrongFalsely : Prop := fnExactLeastFallsRow.holds Try.pinned (OpenSpec.ofChange fnExactLeastFallsWrong)

/-- 'laws.FnExactPowerWord': WHATEVER THE INPUT: true; the input reads as it did. -/
def fnExactPowerWordSpec : ChangeSpec := { name := "fnExactPowerWord", fn := fun _ => fun
  | [d1, d2] => { results := [.lit (.bool true)], args := [d1, d2] }
  | _ => none }
def fnExactPowerWordRow : OpenClaim := { program := "ytemiaaamgmhfaaa", sum := "898690c977b4d763aaea63bf052729a68d9697e2b527578cccc3c802341495df", func := "loop.example/g01206/laws.FnExactPowerWord", spec := "fnExactPowerWord", unfollowed := true, recurses := true, apart := false }
def FnExactPowerWordSaid : Prop := fnExactPowerWordRow.holds Try.pinned (OpenSpec.ofChange fnExactPowerWordSpec)

/-- ITS FALSE NEIGHBOUR: 'it returns false'. Refute it at one input. -/
def fnExactPowerWordWrong : ChangeSpec := { name := "fnExactPowerWord", fn := fun _ => fun
  | [d1, d2] => { results := [.lit (.bool false)], args := [d1, d2] }
  | _ => none }
def FnExactPowerWordWrongFalsely : Prop := fnExactPowerWordRow.holds Try.pinned (OpenSpec.ofChange fnExactPowerWordWrong)

/-- 'laws.FnExactBalancedWord': WHATEVER THE INPUT: true; the input reads as it did. -/
def fnExactBalancedWordSpec : ChangeSpec := { name := "fnExactBalancedWord", fn := fun _ => fun
  | [d] => { results := [.lit (.bool true)], args := [d] }
  | _ => none }
def fnExactBalancedWordRow : OpenClaim := { program := "ytemiaaamgmhfaaa", sum := "898690c977b4d763aaea63bf052729a68d9697e2b527578cccc3c802341495df", func := "loop.example/g01206/laws.FnExactBalancedWord", spec := "fnExactBalancedWord", unfollowed := true, recurses := true, apart := false }
def FnExactBalancedWordSaid : Prop := fnExactBalancedWordRow.holds Try.pinned (OpenSpec.ofChange fnExactBalancedWordSpec)

/-- ITS FALSE NEIGHBOUR: 'it returns false'. Refute it at one input. -/
def fnExactBalancedWordWrong : ChangeSpec := { name := "fnExactBalancedWord", fn := fun _ => fun
  | [d] => { results := [.lit (.bool false)], args := [d] }
  | _ => none }
def FnExactBalancedWordWrongFalsely : Prop := fnExactBalancedWordRow.holds Try.pinned (OpenSpec.ofChange fnExactBalancedWordWrong)

/-- 'laws.FnExactFewestNails': WHATEVER THE INPUT: true; the input reads as it did. -/
def fnExactFewestNailsSpec : ChangeSpec := { name := "fnExactFewestNails", fn := fun _ => fun
  | [d] => { results := [.lit (.bool true)], args := [d] }
  | _ => none }
def fnExactFewestNailsRow : OpenClaim := { program := "ytemiaaamgmhfaaa", sum := "898690c977b4d763aaea63bf052729a68d9697e2b527578cccc3c802341495df", func := "loop.example/g01206/laws.FnExactFewestNails", spec := "fnExactFewestNails", unfollowed := true, recurses := true, apart := false }
def FnExactFewestNailsSaid : Prop := fnExactFewestNailsRow.holds Try.pinned (OpenSpec.ofChange fnExactFewestNailsSpec)

/-- ITS FALSE NEIGHBOUR: 'it returns false'. Refute it at one input. -/
def fnExactFewestNailsWrong : ChangeSpec := { name := "fnExactFewestNails", fn := fun _ => fun
  | [d] => { results := [.lit (.bool false)], args := [d] }
  | _ => none }
def FnExactFewestNailsWrongFalsely : Prop := fnExactFewestNailsRow.holds Try.pinned (OpenSpec.ofChange fnExactFewestNailsWrong)

/-- 'laws.FnExactHangsBy': WHATEVER THE INPUT: true; the input reads as it did. -/
def fnExactHangsBySpec : ChangeSpec := { name := "fnExactHangsBy", fn := fun _ => fun
  | [d1, d2] => { results := [.lit (.bool true)], args := [d1, d2] }
  | _ => none }
def fnExactHangsByRow : OpenClaim := { program := "ytemiaaamgmhfaaa", sum := "898690c977b4d763aaea63bf052729a68d9697e2b527578cccc3c802341495df", func := "loop.example/g01206/laws.FnExactHangsBy", spec := "fnExactHangsBy", unfollowed := true, recurses := true, apart := false }
def FnExactHangsBySaid : Prop := fnExactHangsByRow.holds Try.pinned (OpenSpec.ofChange fnExactHangsBySpec)

/-- ITS FALSE NEIGHBOUR: 'it returns false'. Refute it at one input. -/
def fnExactHangsByWrong : ChangeSpec := { name := "fnExactHangsBy", fn := fun _ => fun
  | [d1, d2] => { results := [.lit (.bool false)], args := [d1, d2] }
  | _ => none }
def FnExactHangsByWrongFalsely : Prop := fnExactHangsByRow.holds Try.pinned (OpenSpec.ofChange fnExactHangsByWrong)

/-- 'laws.FnExactJoinStrings': WHATEVER THE INPUT: true; the input reads as it did. -/
def fnExactJoinStringsSpec : ChangeSpec := { name := "fnExactJoinStrings", fn := fun _ => fun
  | [d1, d2] => { results := [.lit (.bool true)], args := [d1, d2] }
  | _ => none }
def fnExactJoinStringsRow : OpenClaim := { program := "ytemiaaamgmhfaaa", sum := "898690c977b4d763aaea63bf052729a68d9697e2b527578cccc3c802341495df", func := "loop.example/g01206/laws.FnExactJoinStrings", spec := "fnExactJoinStrings", inPlace := ["internal/bytealg.IndexByteString", "internal/bytealg.IndexString", "internal/abi.NoEscape", "internal/bytealg.MakeNoZero"], named := ["internal/bytealg.MaxLen"], apart := false }
def FnExactJoinStringsSaid : Prop := fnExactJoinStringsRow.holds Try.pinned (OpenSpec.ofChange fnExactJoinStringsSpec)

/-- ITS FALSE NEIGHBOUR: 'it returns false'. Refute it at one input. -/
def fnExactJoinStringsWrong : ChangeSpec := { name := "fnExactJoinStrings", fn := fun _ => fun
  | [d1, d2] => { results := [.lit (.bool false)], args := [d1, d2] }
  | _ => none }
def FnExactJoinStringsWrongFalsely : Prop := fnExactJoinStringsRow.holds Try.pinned (OpenSpec.ofChange fnExactJoinStringsWrong)

/- THE SECOND FORM. 'bulk': how many values and letters a reading holds, each counted each time it is reached (what is shared counts as often as it is met; a slice's spare places count too). A statement '..UptoSaid' is the law's where the arguments, and the package variables that the reading takes, are together of bulk at most 1048576: NARROWER than '..Said'. Prove '..Said' where nothing that the law and all that it calls make is longer than what came in: it says more and counts as full. Else prove '..UptoSaid'. A law counts once. -/
mutual
def uptoBulk {H : Type} : DataW H → Nat
  | .lit (.string bytes) => bytes.length + 1
  | .lit _ => 1
  | .nil => 1
  | .ptr d => uptoBulk d + 1
  | .slice elems spare => uptoBulkAll elems + uptoBulkAll spare + 1
  | .agg parts => uptoBulkAll parts + 1
  | .iface _ d => uptoBulk d + 1
  | .map entries => uptoBulkEntries entries + 1
  | .held _ => 1
def uptoBulkAll {H : Type} : List (DataW H) → Nat
  | [] => 0
  | d :: r => uptoBulk d + uptoBulkAll r
def uptoBulkEntries {H : Type} : List (Lit × DataW H) → Nat
  | [] => 0
  | x :: r => uptoBulkEntry x + uptoBulkEntries r
def uptoBulkEntry {H : Type} : Lit × DataW H → Nat
  | (.string bytes, d) => bytes.length + uptoBulk d + 1
  | (_, d) => uptoBulk d + 1
 end
def uptoSmall : (H : Type) → List (DataW H) → Bool := fun _ ds => decide (uptoBulkAll ds ≤ 1048576)
def OpenSpec.upto (s : _root_.Go.ChangeSpec) : _root_.Go.OpenSpec := { _root_.Go.OpenSpec.ofChange s with cond := some uptoSmall }

/-- 'laws.FnExactCommutatorOf', WHERE WHAT IT READS IS OF BULK AT MOST 1048576: true; the input reads as it did. -/
def fnExactCommutatorOfUptoRow : OpenClaim := { program := "ytemiaaamgmhfaaa", sum := "898690c977b4d763aaea63bf052729a68d9697e2b527578cccc3c802341495df", func := "loop.example/g01206/laws.FnExactCommutatorOf", spec := "fnExactCommutatorOf", unfollowed := true, recurses := true, apart := false, narrowed := true }
def FnExactCommutatorOfUptoSaid : Prop := fnExactCommutatorOfUptoRow.holds Try.pinned (OpenSpec.upto fnExactCommutatorOfSpec)

/-- 'laws.FnExactMatteringNails', WHERE WHAT IT READS IS OF BULK AT MOST 1048576: true; the input reads as it did. -/
def fnExactMatteringNailsUptoRow : OpenClaim := { program := "ytemiaaamgmhfaaa", sum := "898690c977b4d763aaea63bf052729a68d9697e2b527578cccc3c802341495df", func := "loop.example/g01206/laws.FnExactMatteringNails", spec := "fnExactMatteringNails", unfollowed := true, recurses := true, apart := false, narrowed := true }
def FnExactMatteringNailsUptoSaid : Prop := fnExactMatteringNailsUptoRow.holds Try.pinned (OpenSpec.upto fnExactMatteringNailsSpec)

/-- 'laws.FnExactHidesNail', WHERE WHAT IT READS IS OF BULK AT MOST 1048576: true; the input reads as it did. -/
def fnExactHidesNailUptoRow : OpenClaim := { program := "ytemiaaamgmhfaaa", sum := "898690c977b4d763aaea63bf052729a68d9697e2b527578cccc3c802341495df", func := "loop.example/g01206/laws.FnExactHidesNail", spec := "fnExactHidesNail", unfollowed := true, recurses := true, apart := false, narrowed := true }
def FnExactHidesNailUptoSaid : Prop := fnExactHidesNailUptoRow.holds Try.pinned (OpenSpec.upto fnExactHidesNailSpec)

/-- 'laws.FnExactLeftWord', WHERE WHAT IT READS IS OF BULK AT MOST 1048576: true; the input reads as it did. -/
def fnExactLeftWordUptoRow : OpenClaim := { program := "ytemiaaamgmhfaaa", sum := "898690c977b4d763aaea63bf052729a68d9697e2b527578cccc3c802341495df", func := "loop.example/g01206/laws.FnExactLeftWord", spec := "fnExactLeftWord", unfollowed := true, recurses := true, apart := false, narrowed := true }
def FnExactLeftWordUptoSaid : Prop := fnExactLeftWordUptoRow.holds Try.pinned (OpenSpec.upto fnExactLeftWordSpec)

/-- 'laws.FnExactGreatestHangs', WHERE WHAT IT READS IS OF BULK AT MOST 1048576: true; the input reads as it did. -/
def fnExactGreatestHangsUptoRow : OpenClaim := { program := "ytemiaaamgmhfaaa", sum := "898690c977b4d763aaea63bf052729a68d9697e2b527578cccc3c802341495df", func := "loop.example/g01206/laws.FnExactGreatestHangs", spec := "fnExactGreatestHangs", unfollowed := true, recurses := true, apart := false, narrowed := true }
def FnExactGreatestHangsUptoSaid : Prop := fnExactGreatestHangsUptoRow.holds Try.pinned (OpenSpec.upto fnExactGreatestHangsSpec)

/-- 'laws.FnExactLeastFalls', WHERE WHAT IT READS IS OF BULK AT MOST 1048576: true; the input reads as it did. -/
def fnExactLeastFallsUptoRow : OpenClaim := { program := "ytemiaaamgmhfaaa", sum := "898690c977b4d763aaea63bf052729a68d9697e2b527578cccc3c802341495df", func := "loop.example/g01206/laws.FnExactLeastFalls", spec := "fnExactLeastFalls", unfollowed := true, recurses := true, apart := false, narrowed := true }
def FnExactLeastFallsUptoSaid : Prop := fnExactLeastFallsUptoRow.holds Try.pinned (OpenSpec.upto fnExactLeastFallsSpec)

/-- 'laws.FnExactPowerWord', WHERE WHAT IT READS IS OF BULK AT MOST 1048576: true; the input reads as it did. -/
def fnExactPowerWordUptoRow : OpenClaim := { program := "ytemiaaamgmhfaaa", sum := "898690c977b4d763aaea63bf052729a68d9697e2b527578cccc3c802341495df", func := "loop.example/g01206/laws.FnExactPowerWord", spec := "fnExactPowerWord", unfollowed := true, recurses := true, apart := false, narrowed := true }
def FnExactPowerWordUptoSaid : Prop := fnExactPowerWordUptoRow.holds Try.pinned (OpenSpec.upto fnExactPowerWordSpec)

/-- 'laws.FnExactBalancedWord', WHERE WHAT IT READS IS OF BULK AT MOST 1048576: true; the input reads as it did. -/
def fnExactBalancedWordUptoRow : OpenClaim := { program := "ytemiaaamgmhfaaa", sum := "898690c977b4d763aaea63bf052729a68d9697e2b527578cccc3c802341495df", func := "loop.example/g01206/laws.FnExactBalancedWord", spec := "fnExactBalancedWord", unfollowed := true, recurses := true, apart := false, narrowed := true }
def FnExactBalancedWordUptoSaid : Prop := fnExactBalancedWordUptoRow.holds Try.pinned (OpenSpec.upto fnExactBalancedWordSpec)

/-- 'laws.FnExactFewestNails', WHERE WHAT IT READS IS OF BULK AT MOST 1048576: true; the input reads as it did. -/
def fnExactFewestNailsUptoRow : OpenClaim := { program := "ytemiaaamgmhfaaa", sum := "898690c977b4d763aaea63bf052729a68d9697e2b527578cccc3c802341495df", func := "loop.example/g01206/laws.FnExactFewestNails", spec := "fnExactFewestNails", unfollowed := true, recurses := true, apart := false, narrowed := true }
def FnExactFewestNailsUptoSaid : Prop := fnExactFewestNailsUptoRow.holds Try.pinned (OpenSpec.upto fnExactFewestNailsSpec)

/-- 'laws.FnExactHangsBy', WHERE WHAT IT READS IS OF BULK AT MOST 1048576: true; the input reads as it did. -/
def fnExactHangsByUptoRow : OpenClaim := { program := "ytemiaaamgmhfaaa", sum := "898690c977b4d763aaea63bf052729a68d9697e2b527578cccc3c802341495df", func := "loop.example/g01206/laws.FnExactHangsBy", spec := "fnExactHangsBy", unfollowed := true, recurses := true, apart := false, narrowed := true }
def FnExactHangsByUptoSaid : Prop := fnExactHangsByUptoRow.holds Try.pinned (OpenSpec.upto fnExactHangsBySpec)

/-- 'laws.FnExactJoinStrings', WHERE WHAT IT READS IS OF BULK AT MOST 1048576: true; the input reads as it did. -/
def fnExactJoinStringsUptoRow : OpenClaim := { program := "ytemiaaamgmhfaaa", sum := "898690c977b4d763aaea63bf052729a68d9697e2b527578cccc3c802341495df", func := "loop.example/g01206/laws.FnExactJoinStrings", spec := "fnExactJoinStrings", inPlace := ["internal/bytealg.IndexByteString", "internal/bytealg.IndexString", "internal/abi.NoEscape", "internal/bytealg.MakeNoZero"], named := ["internal/bytealg.MaxLen"], apart := false, narrowed := true }
def FnExactJoinStringsUptoSaid : Prop := fnExactJoinStringsUptoRow.holds Try.pinned (OpenSpec.upto fnExactJoinStringsSpec)

end Rows
end Go.Proofs.Ytemiaaamgmhfaaa
