/-
  No cell of these rows narrows 'for every input' (looked for: loops, veiled, ifaces, maps, wideKeys, modest, calm, conditions, laid).
  DERIVED. THE GIVEN ROWS OF THIS SEAT. 8 by the template 'for every input the law returns true; each argument reads behind the call as it read before'; 0 by the template 'total and deterministic' (their statements: YtlojkjkbocfmfaaTotals.lean).
  GIVEN WITH THE SEED: the statements are not yours to turn. If you find one false, say at which input.
  Laid BY PROGRAM, IN A SANDBOX (cutbox-rows.mjs): the forced cells as the released guide's own fill.sh prints them over the translation 492a7d0dbcfda988… (all of the seat's roots in one cut). By AI agents, Wed Nov 11 2026. No macro, syntax, notation, axiom, sorry.
-/
import Derived.Test.YtlojkjkbocfmfaaChecked
import GoSem.Claim
import GoSem.ClaimJoined
import GoSem.ClaimMapViews
import Derived.JoinedTies
import Derived.KernelRfl
namespace Go.Proofs.Ytlojkjkbocfmfaa
/- THE CELL 'sum', in the pinned program and in every row, IS THE sha256 OF THE DUMP (.gsa) THAT YtlojkjkbocfmfaaProg.lean LOADS. Nothing in Lean hashes anything: it is a label: what it is worth is what the hold of that sum in a sandbox is worth. -/
noncomputable def Try.pinned : Pinned := { name := "ytlojkjkbocfmfaa", sum := "492a7d0dbcfda988f1c51907f7f9a3ce16ef410d36eb1e0448ea40eac705b3a1", checked := Try.checked }
namespace Rows
def none {H : Type} : Left H := { results := [], args := [] }

/-- 'laws.FnExactCountFamilies': WHATEVER THE INPUT: true; the input reads as it did. -/
def fnExactCountFamiliesSpec : ChangeSpec := { name := "fnExactCountFamilies", fn := fun _ => fun
  | [d] => { results := [.lit (.bool true)], args := [d] }
  | _ => none }
def fnExactCountFamiliesRow : OpenClaim := { program := "ytlojkjkbocfmfaa", sum := "492a7d0dbcfda988f1c51907f7f9a3ce16ef410d36eb1e0448ea40eac705b3a1", func := "loop.example/g01206/laws.FnExactCountFamilies", spec := "fnExactCountFamilies", unfollowed := true, recurses := true, apart := false }
def FnExactCountFamiliesSaid : Prop := fnExactCountFamiliesRow.holds Try.pinned (OpenSpec.ofChange fnExactCountFamiliesSpec)

/-- ITS FALSE NEIGHBOUR: 'it returns false'. Refute it at one input. -/
def fnExactCountFamiliesWrong : ChangeSpec := { name := "fnExactCountFamilies", fn := fun _ => fun
  | [d] => { results := [.lit (.bool false)], args := [d] }
  | _ => none }
def FnExactCountFamiliesWrongFalsely : Prop := fnExactCountFamiliesRow.holds Try.pinned (OpenSpec.ofChange fnExactCountFamiliesWrong)

/-- 'laws.FnExactBalancedTree': WHATEVER THE INPUT: true; the input reads as it did. -/
def fnExactBalancedTreeSpec : ChangeSpec := { name := "fnExactBalancedTree", fn := fun _ => fun
  | [d] => { results := [.lit (.bool true)], args := [d] }
  | _ => none }
def fnExactBalancedTreeRow : OpenClaim := { program := "ytlojkjkbocfmfaa", sum := "492a7d0dbcfda988f1c51907f7f9a3ce16ef410d36eb1e0448ea40eac705b3a1", func := "loop.example/g01206/laws.FnExactBalancedTree", spec := "fnExactBalancedTree", recurses := true, apart := false }
def FnExactBalancedTreeSaid : Prop := fnExactBalancedTreeRow.holds Try.pinned (OpenSpec.ofChange fnExactBalancedTreeSpec)

/-- ITS FALSE NEIGHBOUR: 'it returns false'. Refute it at one input. -/
def fnExactBalancedTreeWrong : ChangeSpec := { name := "fnExactBalancedTree", fn := fun _ => fun
  | [d] => { results := [.lit (.bool false)], args := [d] }
  | _ => none }
def FnExactBalancedTreeWrongFalsely : Prop := fnExactBalancedTreeRow.holds Try.pinned (OpenSpec.ofChange fnExactBalancedTreeWrong)

/-- 'laws.FnExactBalancedWord': WHATEVER THE INPUT: true; the input reads as it did. -/
def fnExactBalancedWordSpec : ChangeSpec := { name := "fnExactBalancedWord", fn := fun _ => fun
  | [d] => { results := [.lit (.bool true)], args := [d] }
  | _ => none }
def fnExactBalancedWordRow : OpenClaim := { program := "ytlojkjkbocfmfaa", sum := "492a7d0dbcfda988f1c51907f7f9a3ce16ef410d36eb1e0448ea40eac705b3a1", func := "loop.example/g01206/laws.FnExactBalancedWord", spec := "fnExactBalancedWord", unfollowed := true, recurses := true, apart := false }
def FnExactBalancedWordSaid : Prop := fnExactBalancedWordRow.holds Try.pinned (OpenSpec.ofChange fnExactBalancedWordSpec)

/-- ITS FALSE NEIGHBOUR: 'it returns false'. Refute it at one input. -/
def fnExactBalancedWordWrong : ChangeSpec := { name := "fnExactBalancedWord", fn := fun _ => fun
  | [d] => { results := [.lit (.bool false)], args := [d] }
  | _ => none }
def FnExactBalancedWordWrongFalsely : Prop := fnExactBalancedWordRow.holds Try.pinned (OpenSpec.ofChange fnExactBalancedWordWrong)

/-- 'laws.FnExactIsTree': WHATEVER THE INPUT: true; the input reads as it did. -/
def fnExactIsTreeSpec : ChangeSpec := { name := "fnExactIsTree", fn := fun _ => fun
  | [d] => { results := [.lit (.bool true)], args := [d] }
  | _ => none }
def fnExactIsTreeRow : OpenClaim := { program := "ytlojkjkbocfmfaa", sum := "492a7d0dbcfda988f1c51907f7f9a3ce16ef410d36eb1e0448ea40eac705b3a1", func := "loop.example/g01206/laws.FnExactIsTree", spec := "fnExactIsTree", inPlace := ["internal/bytealg.IndexByteString", "internal/bytealg.IndexString"], recurses := true, named := ["internal/bytealg.MaxLen"], apart := false }
def FnExactIsTreeSaid : Prop := fnExactIsTreeRow.holds Try.pinned (OpenSpec.ofChange fnExactIsTreeSpec)

/-- ITS FALSE NEIGHBOUR: 'it returns false'. Refute it at one input. -/
def fnExactIsTreeWrong : ChangeSpec := { name := "fnExactIsTree", fn := fun _ => fun
  | [d] => { results := [.lit (.bool false)], args := [d] }
  | _ => none }
def FnExactIsTreeWrongFalsely : Prop := fnExactIsTreeRow.holds Try.pinned (OpenSpec.ofChange fnExactIsTreeWrong)

/-- 'laws.FnExactTreeLength': WHATEVER THE INPUT: true; the input reads as it did. -/
def fnExactTreeLengthSpec : ChangeSpec := { name := "fnExactTreeLength", fn := fun _ => fun
  | [d] => { results := [.lit (.bool true)], args := [d] }
  | _ => none }
def fnExactTreeLengthRow : OpenClaim := { program := "ytlojkjkbocfmfaa", sum := "492a7d0dbcfda988f1c51907f7f9a3ce16ef410d36eb1e0448ea40eac705b3a1", func := "loop.example/g01206/laws.FnExactTreeLength", spec := "fnExactTreeLength", inPlace := ["internal/bytealg.IndexByteString", "internal/bytealg.IndexString"], recurses := true, named := ["internal/bytealg.MaxLen"], apart := false }
def FnExactTreeLengthSaid : Prop := fnExactTreeLengthRow.holds Try.pinned (OpenSpec.ofChange fnExactTreeLengthSpec)

/-- ITS FALSE NEIGHBOUR: 'it returns false'. Refute it at one input. -/
def fnExactTreeLengthWrong : ChangeSpec := { name := "fnExactTreeLength", fn := fun _ => fun
  | [d] => { results := [.lit (.bool false)], args := [d] }
  | _ => none }
def FnExactTreeLengthWrongFalsely : Prop := fnExactTreeLengthRow.holds Try.pinned (OpenSpec.ofChange fnExactTreeLengthWrong)

/-- 'laws.FnExactTreeShape': WHATEVER THE INPUT: true; the input reads as it did. -/
def fnExactTreeShapeSpec : ChangeSpec := { name := "fnExactTreeShape", fn := fun _ => fun
  | [d] => { results := [.lit (.bool true)], args := [d] }
  | _ => none }
def fnExactTreeShapeRow : OpenClaim := { program := "ytlojkjkbocfmfaa", sum := "492a7d0dbcfda988f1c51907f7f9a3ce16ef410d36eb1e0448ea40eac705b3a1", func := "loop.example/g01206/laws.FnExactTreeShape", spec := "fnExactTreeShape", inPlace := ["internal/bytealg.IndexByteString", "internal/bytealg.IndexString"], recurses := true, named := ["internal/bytealg.MaxLen"], apart := false }
def FnExactTreeShapeSaid : Prop := fnExactTreeShapeRow.holds Try.pinned (OpenSpec.ofChange fnExactTreeShapeSpec)

/-- ITS FALSE NEIGHBOUR: 'it returns false'. Refute it at one input. -/
def fnExactTreeShapeWrong : ChangeSpec := { name := "fnExactTreeShape", fn := fun _ => fun
  | [d] => { results := [.lit (.bool false)], args := [d] }
  | _ => none }
def FnExactTreeShapeWrongFalsely : Prop := fnExactTreeShapeRow.holds Try.pinned (OpenSpec.ofChange fnExactTreeShapeWrong)

/-- 'laws.FnExactSwapTree': WHATEVER THE INPUT: true; the input reads as it did. -/
def fnExactSwapTreeSpec : ChangeSpec := { name := "fnExactSwapTree", fn := fun _ => fun
  | [d] => { results := [.lit (.bool true)], args := [d] }
  | _ => none }
def fnExactSwapTreeRow : OpenClaim := { program := "ytlojkjkbocfmfaa", sum := "492a7d0dbcfda988f1c51907f7f9a3ce16ef410d36eb1e0448ea40eac705b3a1", func := "loop.example/g01206/laws.FnExactSwapTree", spec := "fnExactSwapTree", inPlace := ["internal/bytealg.IndexByteString", "internal/bytealg.IndexString"], recurses := true, named := ["internal/bytealg.MaxLen"], apart := false }
def FnExactSwapTreeSaid : Prop := fnExactSwapTreeRow.holds Try.pinned (OpenSpec.ofChange fnExactSwapTreeSpec)

/-- ITS FALSE NEIGHBOUR: 'it returns false'. Refute it at one input. -/
def fnExactSwapTreeWrong : ChangeSpec := { name := "fnExactSwapTree", fn := fun _ => fun
  | [d] => { results := [.lit (.bool false)], args := [d] }
  | _ => none }
def FnExactSwapTreeWrongFalsely : Prop := fnExactSwapTreeRow.holds Try.pinned (OpenSpec.ofChange fnExactSwapTreeWrong)

/-- 'laws.FnExactTreeValue': WHATEVER THE INPUT: true; the input reads as it did. -/
def fnExactTreeValueSpec : ChangeSpec := { name := "fnExactTreeValue", fn := fun _ => fun
  | [d] => { results := [.lit (.bool true)], args := [d] }
  | _ => none }
def fnExactTreeValueRow : OpenClaim := { program := "ytlojkjkbocfmfaa", sum := "492a7d0dbcfda988f1c51907f7f9a3ce16ef410d36eb1e0448ea40eac705b3a1", func := "loop.example/g01206/laws.FnExactTreeValue", spec := "fnExactTreeValue", inPlace := ["internal/bytealg.IndexByteString", "internal/bytealg.IndexString"], unfollowed := true, recurses := true, named := ["internal/bytealg.MaxLen"], apart := false }
def FnExactTreeValueSaid : Prop := fnExactTreeValueRow.holds Try.pinned (OpenSpec.ofChange fnExactTreeValueSpec)

/-- ITS FALSE NEIGHBOUR: 'it returns false'. Refute it at one input. -/
def fnExactTreeValueWrong : ChangeSpec := { name := "fnExactTreeValue", fn := fun _ => fun
  | [d] => { results := [.lit (.bool false)], args := [d] }
  | _ => none }
def FnExactTreeValueWrongFalsely : Prop := fnExactTreeValueRow.holds Try.pinned (OpenSpec.ofChange fnExactTreeValueWrong)

/- THE SECOND FORM. 'bulk': how many values and letters a reading holds, each counted each time it is reached (what is shared counts as often as it is met; a slice's spare places count too). A statement '..UptoSaid' is the law's where the arguments, and the package variables that the reading takes, are together of bulk at most 1048576: NARROWER than '..Said'. Prove '..Said' where nothing that the law and all that it calls make is longer than what came in: it says more and counts as full. Else prove '..UptoSaid'. A law counts once. -/
mutual
def uptoBulk {H : Type} : DataW H → Nat
  | .lit (.string bytes) => bytes.length + 1
  | .lit _ => 1
  | .nil => 1
  | .ptr d => uptoBulk d + 1
  | .slice elems spare => uptoBulkAll elems + uptoBulkAll spare + 1
  | .agg parts => uptoBulkAll parts + 1
  | .iface _ d => uptoBulk d + 1
  | .map entries => uptoBulkEntries entries + 1
  | .held _ => 1
def uptoBulkAll {H : Type} : List (DataW H) → Nat
  | [] => 0
  | d :: r => uptoBulk d + uptoBulkAll r
def uptoBulkEntries {H : Type} : List (Lit × DataW H) → Nat
  | [] => 0
  | x :: r => uptoBulkEntry x + uptoBulkEntries r
def uptoBulkEntry {H : Type} : Lit × DataW H → Nat
  | (.string bytes, d) => bytes.length + uptoBulk d + 1
  | (_, d) => uptoBulk d + 1
 end
def uptoSmall : (H : Type) → List (DataW H) → Bool := fun _ ds => decide (uptoBulkAll ds ≤ 1048576)
def OpenSpec.upto (s : _root_.Go.ChangeSpec) : _root_.Go.OpenSpec := { _root_.Go.OpenSpec.ofChange s with cond := some uptoSmall }

/-- 'laws.FnExactCountFamilies', WHERE WHAT IT READS IS OF BULK AT MOST 1048576: true; the input reads as it did. -/
def fnExactCountFamiliesUptoRow : OpenClaim := { program := "ytlojkjkbocfmfaa", sum := "492a7d0dbcfda988f1c51907f7f9a3ce16ef410d36eb1e0448ea40eac705b3a1", func := "loop.example/g01206/laws.FnExactCountFamilies", spec := "fnExactCountFamilies", unfollowed := true, recurses := true, apart := false, narrowed := true }
def FnExactCountFamiliesUptoSaid : Prop := fnExactCountFamiliesUptoRow.holds Try.pinned (OpenSpec.upto fnExactCountFamiliesSpec)

/-- 'laws.FnExactBalancedTree', WHERE WHAT IT READS IS OF BULK AT MOST 1048576: true; the input reads as it did. -/
def fnExactBalancedTreeUptoRow : OpenClaim := { program := "ytlojkjkbocfmfaa", sum := "492a7d0dbcfda988f1c51907f7f9a3ce16ef410d36eb1e0448ea40eac705b3a1", func := "loop.example/g01206/laws.FnExactBalancedTree", spec := "fnExactBalancedTree", recurses := true, apart := false, narrowed := true }
def FnExactBalancedTreeUptoSaid : Prop := fnExactBalancedTreeUptoRow.holds Try.pinned (OpenSpec.upto fnExactBalancedTreeSpec)

/-- 'laws.FnExactBalancedWord', WHERE WHAT IT READS IS OF BULK AT MOST 1048576: true; the input reads as it did. -/
def fnExactBalancedWordUptoRow : OpenClaim := { program := "ytlojkjkbocfmfaa", sum := "492a7d0dbcfda988f1c51907f7f9a3ce16ef410d36eb1e0448ea40eac705b3a1", func := "loop.example/g01206/laws.FnExactBalancedWord", spec := "fnExactBalancedWord", unfollowed := true, recurses := true, apart := false, narrowed := true }
def FnExactBalancedWordUptoSaid : Prop := fnExactBalancedWordUptoRow.holds Try.pinned (OpenSpec.upto fnExactBalancedWordSpec)

/-- 'laws.FnExactIsTree', WHERE WHAT IT READS IS OF BULK AT MOST 1048576: true; the input reads as it did. -/
def fnExactIsTreeUptoRow : OpenClaim := { program := "ytlojkjkbocfmfaa", sum := "492a7d0dbcfda988f1c51907f7f9a3ce16ef410d36eb1e0448ea40eac705b3a1", func := "loop.example/g01206/laws.FnExactIsTree", spec := "fnExactIsTree", inPlace := ["internal/bytealg.IndexByteString", "internal/bytealg.IndexString"], recurses := true, named := ["internal/bytealg.MaxLen"], apart := false, narrowed := true }
def FnExactIsTreeUptoSaid : Prop := fnExactIsTreeUptoRow.holds Try.pinned (OpenSpec.upto fnExactIsTreeSpec)

/-- 'laws.FnExactTreeLength', WHERE WHAT IT READS IS OF BULK AT MOST 1048576: true; the input reads as it did. -/
def fnExactTreeLengthUptoRow : OpenClaim := { program := "ytlojkjkbocfmfaa", sum := "492a7d0dbcfda988f1c51907f7f9a3ce16ef410d36eb1e0448ea40eac705b3a1", func := "loop.example/g01206/laws.FnExactTreeLength", spec := "fnExactTreeLength", inPlace := ["internal/bytealg.IndexByteString", "internal/bytealg.IndexString"], recurses := true, named := ["internal/bytealg.MaxLen"], apart := false, narrowed := true }
def FnExactTreeLengthUptoSaid : Prop := fnExactTreeLengthUptoRow.holds Try.pinned (OpenSpec.upto fnExactTreeLengthSpec)

/-- 'laws.FnExactTreeShape', WHERE WHAT IT READS IS OF BULK AT MOST 1048576: true; the input reads as it did. -/
def fnExactTreeShapeUptoRow : OpenClaim := { program := "ytlojkjkbocfmfaa", sum := "492a7d0dbcfda988f1c51907f7f9a3ce16ef410d36eb1e0448ea40eac705b3a1", func := "loop.example/g01206/laws.FnExactTreeShape", spec := "fnExactTreeShape", inPlace := ["internal/bytealg.IndexByteString", "internal/bytealg.IndexString"], recurses := true, named := ["internal/bytealg.MaxLen"], apart := false, narrowed := true }
def FnExactTreeShapeUptoSaid : Prop := fnExactTreeShapeUptoRow.holds Try.pinned (OpenSpec.upto fnExactTreeShapeSpec)

/-- 'laws.FnExactSwapTree', WHERE WHAT IT READS IS OF BULK AT MOST 1048576: true; the input reads as it did. -/
def fnExactSwapTreeUptoRow : OpenClaim := { program := "ytlojkjkbocfmfaa", sum := "492a7d0dbcfda988f1c51907f7f9a3ce16ef410d36eb1e0448ea40eac705b3a1", func := "loop.example/g01206/laws.FnExactSwapTree", spec := "fnExactSwapTree", inPlace := ["internal/bytealg.IndexByteString", "internal/bytealg.IndexString"], recurses := true, named := ["internal/bytealg.MaxLen"], apart := false, narrowed := true }
def FnExactSwapTreeUptoSaid : Prop := fnExactSwapTreeUptoRow.holds Try.pinned (OpenSpec.upto fnExactSwapTreeSpec)

/-- 'laws.FnExactTreeValue', WHERE WHAT IT READS IS OF BULK AT MOST 1048576: true; the input reads as it did. -/
def fnExactTreeValueUptoRow : OpenClaim := { program := "ytlojkjkbocfmfaa", sum := "492a7d0dbcfda988f1c51907f7f9a3ce16ef410d36eb1e0448ea40eac705b3a1", func := "loop.example/g01206/laws.FnExactTreeValue", spec := "fnExactTreeValue", inPlace := ["internal/bytealg.IndexByteString", "internal/bytealg.IndexString"], unfollowed := true, recurses := true, named := ["internal/bytealg.MaxLen"], apart := false, narrowed := true }
def FnExactTreeValueUptoSaid : Prop := fnExactTreeValueUptoRow.holds Try.pinned (OpenSpec.upto fnExactTreeValueSpec)

end Rows
end Go.Proofs.Ytlojkjkbocfmfaa
