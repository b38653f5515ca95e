/-
  No cell of these rows narrows 'for every input' (looked for: loops, veiled, ifaces, maps, wideKeys, modest, calm, conditions, laid).
  DERIVED. THE GIVEN ROWS OF THIS SEAT. 12 by the template 'for every input the law returns true; each argument reads behind the call as it read before'; 0 by the template 'total and deterministic' (their statements: YtheicbcedhfahaaTotals.lean).
  GIVEN WITH THE SEED: the statements are not yours to turn. If you find one false, say at which input.
  Laid BY PROGRAM, IN A SANDBOX (cutbox-rows.mjs): the forced cells as the released guide's own fill.sh prints them over the translation b189a3f085a2a834… (all of the seat's roots in one cut). By AI agents, Wed Nov 11 2026. No macro, syntax, notation, axiom, sorry.
-/
import Derived.Test.YtheicbcedhfahaaChecked
import GoSem.Claim
import GoSem.ClaimJoined
import GoSem.ClaimMapViews
import Derived.JoinedTies
import Derived.KernelRfl
namespace Go.Proofs.Ytheicbcedhfahaa
/- THE CELL 'sum', in the pinned program and in every row, IS THE sha256 OF THE DUMP (.gsa) THAT YtheicbcedhfahaaProg.lean LOADS. Nothing in Lean hashes anything: it is a label: what it is worth is what the hold of that sum in a sandbox is worth. -/
noncomputable def Try.pinned : Pinned := { name := "ytheicbcedhfahaa", sum := "b189a3f085a2a834463c4880d707649d0c9bd892ef288303042b7382b5abb991", checked := Try.checked }
namespace Rows
def none {H : Type} : Left H := { results := [], args := [] }

/-- 'laws.FnExactCountLetters': WHATEVER THE INPUT: true; the input reads as it did. -/
def fnExactCountLettersSpec : ChangeSpec := { name := "fnExactCountLetters", fn := fun _ => fun
  | [d] => { results := [.lit (.bool true)], args := [d] }
  | _ => none }
def fnExactCountLettersRow : OpenClaim := { program := "ytheicbcedhfahaa", sum := "b189a3f085a2a834463c4880d707649d0c9bd892ef288303042b7382b5abb991", func := "loop.example/g01206/laws.FnExactCountLetters", spec := "fnExactCountLetters", unfollowed := true, recurses := true, apart := false }
def FnExactCountLettersSaid : Prop := fnExactCountLettersRow.holds Try.pinned (OpenSpec.ofChange fnExactCountLettersSpec)

/-- ITS FALSE NEIGHBOUR: 'it returns false'. Refute it at one input. -/
def fnExactCountLettersWrong : ChangeSpec := { name := "fnExactCountLetters", fn := fun _ => fun
  | [d] => { results := [.lit (.bool false)], args := [d] }
  | _ => none }
def FnExactCountLettersWrongFalsely : Prop := fnExactCountLettersRow.holds Try.pinned (OpenSpec.ofChange fnExactCountLettersWrong)

/-- 'laws.FnExactCoreOf': WHATEVER THE INPUT: true; the input reads as it did. -/
def fnExactCoreOfSpec : ChangeSpec := { name := "fnExactCoreOf", fn := fun _ => fun
  | [d] => { results := [.lit (.bool true)], args := [d] }
  | _ => none }
def fnExactCoreOfRow : OpenClaim := { program := "ytheicbcedhfahaa", sum := "b189a3f085a2a834463c4880d707649d0c9bd892ef288303042b7382b5abb991", func := "loop.example/g01206/laws.FnExactCoreOf", spec := "fnExactCoreOf", unfollowed := true, recurses := true, apart := false }
def FnExactCoreOfSaid : Prop := fnExactCoreOfRow.holds Try.pinned (OpenSpec.ofChange fnExactCoreOfSpec)

/-- ITS FALSE NEIGHBOUR: 'it returns false'. Refute it at one input. -/
def fnExactCoreOfWrong : ChangeSpec := { name := "fnExactCoreOf", fn := fun _ => fun
  | [d] => { results := [.lit (.bool false)], args := [d] }
  | _ => none }
def FnExactCoreOfWrongFalsely : Prop := fnExactCoreOfRow.holds Try.pinned (OpenSpec.ofChange fnExactCoreOfWrong)

/-- 'laws.FnExactPivotCounts': WHATEVER THE INPUT: true; the input reads as it did. -/
def fnExactPivotCountsSpec : ChangeSpec := { name := "fnExactPivotCounts", fn := fun _ => fun
  | [d] => { results := [.lit (.bool true)], args := [d] }
  | _ => none }
def fnExactPivotCountsRow : OpenClaim := { program := "ytheicbcedhfahaa", sum := "b189a3f085a2a834463c4880d707649d0c9bd892ef288303042b7382b5abb991", func := "loop.example/g01206/laws.FnExactPivotCounts", spec := "fnExactPivotCounts", unfollowed := true, recurses := true, apart := false }
def FnExactPivotCountsSaid : Prop := fnExactPivotCountsRow.holds Try.pinned (OpenSpec.ofChange fnExactPivotCountsSpec)

/-- ITS FALSE NEIGHBOUR: 'it returns false'. Refute it at one input. -/
def fnExactPivotCountsWrong : ChangeSpec := { name := "fnExactPivotCounts", fn := fun _ => fun
  | [d] => { results := [.lit (.bool false)], args := [d] }
  | _ => none }
def FnExactPivotCountsWrongFalsely : Prop := fnExactPivotCountsRow.holds Try.pinned (OpenSpec.ofChange fnExactPivotCountsWrong)

/-- 'laws.FnExactMatteringNails': WHATEVER THE INPUT: true; the input reads as it did. -/
def fnExactMatteringNailsSpec : ChangeSpec := { name := "fnExactMatteringNails", fn := fun _ => fun
  | [d] => { results := [.lit (.bool true)], args := [d] }
  | _ => none }
def fnExactMatteringNailsRow : OpenClaim := { program := "ytheicbcedhfahaa", sum := "b189a3f085a2a834463c4880d707649d0c9bd892ef288303042b7382b5abb991", func := "loop.example/g01206/laws.FnExactMatteringNails", spec := "fnExactMatteringNails", unfollowed := true, recurses := true, apart := false }
def FnExactMatteringNailsSaid : Prop := fnExactMatteringNailsRow.holds Try.pinned (OpenSpec.ofChange fnExactMatteringNailsSpec)

/-- ITS FALSE NEIGHBOUR: 'it returns false'. Refute it at one input. -/
def fnExactMatteringNailsWrong : ChangeSpec := { name := "fnExactMatteringNails", fn := fun _ => fun
  | [d] => { results := [.lit (.bool false)], args := [d] }
  | _ => none }
def FnExactMatteringNailsWrongFalsely : Prop := fnExactMatteringNailsRow.holds Try.pinned (OpenSpec.ofChange fnExactMatteringNailsWrong)

/-- 'laws.FnExactHidesNail': WHATEVER THE INPUT: true; the input reads as it did. -/
def fnExactHidesNailSpec : ChangeSpec := { name := "fnExactHidesNail", fn := fun _ => fun
  | [d1, d2] => { results := [.lit (.bool true)], args := [d1, d2] }
  | _ => none }
def fnExactHidesNailRow : OpenClaim := { program := "ytheicbcedhfahaa", sum := "b189a3f085a2a834463c4880d707649d0c9bd892ef288303042b7382b5abb991", func := "loop.example/g01206/laws.FnExactHidesNail", spec := "fnExactHidesNail", unfollowed := true, recurses := true, apart := false }
def FnExactHidesNailSaid : Prop := fnExactHidesNailRow.holds Try.pinned (OpenSpec.ofChange fnExactHidesNailSpec)

/-- ITS FALSE NEIGHBOUR: 'it returns false'. Refute it at one input. -/
def fnExactHidesNailWrong : ChangeSpec := { name := "fnExactHidesNail", fn := fun _ => fun
  | [d1, d2] => { results := [.lit (.bool false)], args := [d1, d2] }
  | _ => none }
def FnExactHidesNailWrongFalsely : Prop := fnExactHidesNailRow.holds Try.pinned (OpenSpec.ofChange fnExactHidesNailWrong)

/-- 'laws.FnExactGreatestHangs': WHATEVER THE INPUT: true; the input reads as it did. -/
def fnExactGreatestHangsSpec : ChangeSpec := { name := "fnExactGreatestHangs", fn := fun _ => fun
  | [d] => { results := [.lit (.bool true)], args := [d] }
  | _ => none }
def fnExactGreatestHangsRow : OpenClaim := { program := "ytheicbcedhfahaa", sum := "b189a3f085a2a834463c4880d707649d0c9bd892ef288303042b7382b5abb991", func := "loop.example/g01206/laws.FnExactGreatestHangs", spec := "fnExactGreatestHangs", unfollowed := true, recurses := true, apart := false }
def FnExactGreatestHangsSaid : Prop := fnExactGreatestHangsRow.holds Try.pinned (OpenSpec.ofChange fnExactGreatestHangsSpec)

/-- ITS FALSE NEIGHBOUR: 'it returns false'. Refute it at one input. -/
def fnExactGreatestHangsWrong : ChangeSpec := { name := "fnExactGreatestHangs", fn := fun _ => fun
  | [d] => { results := [.lit (.bool false)], args := [d] }
  | _ => none }
def FnExactGreatestHangsWrongFalsely : Prop := fnExactGreatestHangsRow.holds Try.pinned (OpenSpec.ofChange fnExactGreatestHangsWrong)

/-- 'laws.FnExactLeastFalls': WHATEVER THE INPUT: true; the input reads as it did. -/
def fnExactLeastFallsSpec : ChangeSpec := { name := "fnExactLeastFalls", fn := fun _ => fun
  | [d] => { results := [.lit (.bool true)], args := [d] }
  | _ => none }
def fnExactLeastFallsRow : OpenClaim := { program := "ytheicbcedhfahaa", sum := "b189a3f085a2a834463c4880d707649d0c9bd892ef288303042b7382b5abb991", func := "loop.example/g01206/laws.FnExactLeastFalls", spec := "fnExactLeastFalls", unfollowed := true, recurses := true, apart := false }
def FnExactLeastFallsSaid : Prop := fnExactLeastFallsRow.holds Try.pinned (OpenSpec.ofChange fnExactLeastFallsSpec)

/-- ITS FALSE NEIGHBOUR: 'it returns false'. Refute it at one input. -/
def fnExactLeastFallsWrong : ChangeSpec := { name := "fnExactLeastFalls", fn := fun _ => fun
  | [d] => { results := [.lit (.bool false)], args := [d] }
  | _ => none }
def FnExactLeastFallsWrongFalsely : Prop := fnExactLeastFallsRow.holds Try.pinned (OpenSpec.ofChange fnExactLeastFallsWrong)

/-- 'laws.FnExactFewestNails': WHATEVER THE INPUT: true; the input reads as it did. -/
def fnExactFewestNailsSpec : ChangeSpec := { name := "fnExactFewestNails", fn := fun _ => fun
  | [d] => { results := [.lit (.bool true)], args := [d] }
  | _ => none }
def fnExactFewestNailsRow : OpenClaim := { program := "ytheicbcedhfahaa", sum := "b189a3f085a2a834463c4880d707649d0c9bd892ef288303042b7382b5abb991", func := "loop.example/g01206/laws.FnExactFewestNails", spec := "fnExactFewestNails", unfollowed := true, recurses := true, apart := false }
def FnExactFewestNailsSaid : Prop := fnExactFewestNailsRow.holds Try.pinned (OpenSpec.ofChange fnExactFewestNailsSpec)

/-- ITS FALSE NEIGHBOUR: 'it returns false'. Refute it at one input. -/
def fnExactFewestNailsWrong : ChangeSpec := { name := "fnExactFewestNails", fn := fun _ => fun
  | [d] => { results := [.lit (.bool false)], args := [d] }
  | _ => none }
def FnExactFewestNailsWrongFalsely : Prop := fnExactFewestNailsRow.holds Try.pinned (OpenSpec.ofChange fnExactFewestNailsWrong)

/-- 'laws.FnExactHangsBy': WHATEVER THE INPUT: true; the input reads as it did. -/
def fnExactHangsBySpec : ChangeSpec := { name := "fnExactHangsBy", fn := fun _ => fun
  | [d1, d2] => { results := [.lit (.bool true)], args := [d1, d2] }
  | _ => none }
def fnExactHangsByRow : OpenClaim := { program := "ytheicbcedhfahaa", sum := "b189a3f085a2a834463c4880d707649d0c9bd892ef288303042b7382b5abb991", func := "loop.example/g01206/laws.FnExactHangsBy", spec := "fnExactHangsBy", unfollowed := true, recurses := true, apart := false }
def FnExactHangsBySaid : Prop := fnExactHangsByRow.holds Try.pinned (OpenSpec.ofChange fnExactHangsBySpec)

/-- ITS FALSE NEIGHBOUR: 'it returns false'. Refute it at one input. -/
def fnExactHangsByWrong : ChangeSpec := { name := "fnExactHangsBy", fn := fun _ => fun
  | [d1, d2] => { results := [.lit (.bool false)], args := [d1, d2] }
  | _ => none }
def FnExactHangsByWrongFalsely : Prop := fnExactHangsByRow.holds Try.pinned (OpenSpec.ofChange fnExactHangsByWrong)

/-- 'laws.FnExactLeastTurn': WHATEVER THE INPUT: true; the input reads as it did. -/
def fnExactLeastTurnSpec : ChangeSpec := { name := "fnExactLeastTurn", fn := fun _ => fun
  | [d] => { results := [.lit (.bool true)], args := [d] }
  | _ => none }
def fnExactLeastTurnRow : OpenClaim := { program := "ytheicbcedhfahaa", sum := "b189a3f085a2a834463c4880d707649d0c9bd892ef288303042b7382b5abb991", func := "loop.example/g01206/laws.FnExactLeastTurn", spec := "fnExactLeastTurn", unfollowed := true, recurses := true, apart := false }
def FnExactLeastTurnSaid : Prop := fnExactLeastTurnRow.holds Try.pinned (OpenSpec.ofChange fnExactLeastTurnSpec)

/-- ITS FALSE NEIGHBOUR: 'it returns false'. Refute it at one input. -/
def fnExactLeastTurnWrong : ChangeSpec := { name := "fnExactLeastTurn", fn := fun _ => fun
  | [d] => { results := [.lit (.bool false)], args := [d] }
  | _ => none }
def FnExactLeastTurnWrongFalsely : Prop := fnExactLeastTurnRow.holds Try.pinned (OpenSpec.ofChange fnExactLeastTurnWrong)

/-- 'laws.FnExactAreConjugate': WHATEVER THE INPUT: true; the input reads as it did. -/
def fnExactAreConjugateSpec : ChangeSpec := { name := "fnExactAreConjugate", fn := fun _ => fun
  | [d1, d2] => { results := [.lit (.bool true)], args := [d1, d2] }
  | _ => none }
def fnExactAreConjugateRow : OpenClaim := { program := "ytheicbcedhfahaa", sum := "b189a3f085a2a834463c4880d707649d0c9bd892ef288303042b7382b5abb991", func := "loop.example/g01206/laws.FnExactAreConjugate", spec := "fnExactAreConjugate", unfollowed := true, recurses := true, apart := false }
def FnExactAreConjugateSaid : Prop := fnExactAreConjugateRow.holds Try.pinned (OpenSpec.ofChange fnExactAreConjugateSpec)

/-- ITS FALSE NEIGHBOUR: 'it returns false'. Refute it at one input. -/
def fnExactAreConjugateWrong : ChangeSpec := { name := "fnExactAreConjugate", fn := fun _ => fun
  | [d1, d2] => { results := [.lit (.bool false)], args := [d1, d2] }
  | _ => none }
def FnExactAreConjugateWrongFalsely : Prop := fnExactAreConjugateRow.holds Try.pinned (OpenSpec.ofChange fnExactAreConjugateWrong)

/-- 'laws.FnExactPowerWord': WHATEVER THE INPUT: true; the input reads as it did. -/
def fnExactPowerWordSpec : ChangeSpec := { name := "fnExactPowerWord", fn := fun _ => fun
  | [d1, d2] => { results := [.lit (.bool true)], args := [d1, d2] }
  | _ => none }
def fnExactPowerWordRow : OpenClaim := { program := "ytheicbcedhfahaa", sum := "b189a3f085a2a834463c4880d707649d0c9bd892ef288303042b7382b5abb991", func := "loop.example/g01206/laws.FnExactPowerWord", spec := "fnExactPowerWord", unfollowed := true, recurses := true, apart := false }
def FnExactPowerWordSaid : Prop := fnExactPowerWordRow.holds Try.pinned (OpenSpec.ofChange fnExactPowerWordSpec)

/-- ITS FALSE NEIGHBOUR: 'it returns false'. Refute it at one input. -/
def fnExactPowerWordWrong : ChangeSpec := { name := "fnExactPowerWord", fn := fun _ => fun
  | [d1, d2] => { results := [.lit (.bool false)], args := [d1, d2] }
  | _ => none }
def FnExactPowerWordWrongFalsely : Prop := fnExactPowerWordRow.holds Try.pinned (OpenSpec.ofChange fnExactPowerWordWrong)

/- THE SECOND FORM. 'bulk': how many values and letters a reading holds, each counted each time it is reached (what is shared counts as often as it is met; a slice's spare places count too). A statement '..UptoSaid' is the law's where the arguments, and the package variables that the reading takes, are together of bulk at most 1048576: NARROWER than '..Said'. Prove '..Said' where nothing that the law and all that it calls make is longer than what came in: it says more and counts as full. Else prove '..UptoSaid'. A law counts once. -/
mutual
def uptoBulk {H : Type} : DataW H → Nat
  | .lit (.string bytes) => bytes.length + 1
  | .lit _ => 1
  | .nil => 1
  | .ptr d => uptoBulk d + 1
  | .slice elems spare => uptoBulkAll elems + uptoBulkAll spare + 1
  | .agg parts => uptoBulkAll parts + 1
  | .iface _ d => uptoBulk d + 1
  | .map entries => uptoBulkEntries entries + 1
  | .held _ => 1
def uptoBulkAll {H : Type} : List (DataW H) → Nat
  | [] => 0
  | d :: r => uptoBulk d + uptoBulkAll r
def uptoBulkEntries {H : Type} : List (Lit × DataW H) → Nat
  | [] => 0
  | x :: r => uptoBulkEntry x + uptoBulkEntries r
def uptoBulkEntry {H : Type} : Lit × DataW H → Nat
  | (.string bytes, d) => bytes.length + uptoBulk d + 1
  | (_, d) => uptoBulk d + 1
 end
def uptoSmall : (H : Type) → List (DataW H) → Bool := fun _ ds => decide (uptoBulkAll ds ≤ 1048576)
def OpenSpec.upto (s : _root_.Go.ChangeSpec) : _root_.Go.OpenSpec := { _root_.Go.OpenSpec.ofChange s with cond := some uptoSmall }

/-- 'laws.FnExactCountLetters', WHERE WHAT IT READS IS OF BULK AT MOST 1048576: true; the input reads as it did. -/
def fnExactCountLettersUptoRow : OpenClaim := { program := "ytheicbcedhfahaa", sum := "b189a3f085a2a834463c4880d707649d0c9bd892ef288303042b7382b5abb991", func := "loop.example/g01206/laws.FnExactCountLetters", spec := "fnExactCountLetters", unfollowed := true, recurses := true, apart := false, narrowed := true }
def FnExactCountLettersUptoSaid : Prop := fnExactCountLettersUptoRow.holds Try.pinned (OpenSpec.upto fnExactCountLettersSpec)

/-- 'laws.FnExactCoreOf', WHERE WHAT IT READS IS OF BULK AT MOST 1048576: true; the input reads as it did. -/
def fnExactCoreOfUptoRow : OpenClaim := { program := "ytheicbcedhfahaa", sum := "b189a3f085a2a834463c4880d707649d0c9bd892ef288303042b7382b5abb991", func := "loop.example/g01206/laws.FnExactCoreOf", spec := "fnExactCoreOf", unfollowed := true, recurses := true, apart := false, narrowed := true }
def FnExactCoreOfUptoSaid : Prop := fnExactCoreOfUptoRow.holds Try.pinned (OpenSpec.upto fnExactCoreOfSpec)

/-- 'laws.FnExactPivotCounts', WHERE WHAT IT READS IS OF BULK AT MOST 1048576: true; the input reads as it did. -/
def fnExactPivotCountsUptoRow : OpenClaim := { program := "ytheicbcedhfahaa", sum := "b189a3f085a2a834463c4880d707649d0c9bd892ef288303042b7382b5abb991", func := "loop.example/g01206/laws.FnExactPivotCounts", spec := "fnExactPivotCounts", unfollowed := true, recurses := true, apart := false, narrowed := true }
def FnExactPivotCountsUptoSaid : Prop := fnExactPivotCountsUptoRow.holds Try.pinned (OpenSpec.upto fnExactPivotCountsSpec)

/-- 'laws.FnExactMatteringNails', WHERE WHAT IT READS IS OF BULK AT MOST 1048576: true; the input reads as it did. -/
def fnExactMatteringNailsUptoRow : OpenClaim := { program := "ytheicbcedhfahaa", sum := "b189a3f085a2a834463c4880d707649d0c9bd892ef288303042b7382b5abb991", func := "loop.example/g01206/laws.FnExactMatteringNails", spec := "fnExactMatteringNails", unfollowed := true, recurses := true, apart := false, narrowed := true }
def FnExactMatteringNailsUptoSaid : Prop := fnExactMatteringNailsUptoRow.holds Try.pinned (OpenSpec.upto fnExactMatteringNailsSpec)

/-- 'laws.FnExactHidesNail', WHERE WHAT IT READS IS OF BULK AT MOST 1048576: true; the input reads as it did. -/
def fnExactHidesNailUptoRow : OpenClaim := { program := "ytheicbcedhfahaa", sum := "b189a3f085a2a834463c4880d707649d0c9bd892ef288303042b7382b5abb991", func := "loop.example/g01206/laws.FnExactHidesNail", spec := "fnExactHidesNail", unfollowed := true, recurses := true, apart := false, narrowed := true }
def FnExactHidesNailUptoSaid : Prop := fnExactHidesNailUptoRow.holds Try.pinned (OpenSpec.upto fnExactHidesNailSpec)

/-- 'laws.FnExactGreatestHangs', WHERE WHAT IT READS IS OF BULK AT MOST 1048576: true; the input reads as it did. -/
def fnExactGreatestHangsUptoRow : OpenClaim := { program := "ytheicbcedhfahaa", sum := "b189a3f085a2a834463c4880d707649d0c9bd892ef288303042b7382b5abb991", func := "loop.example/g01206/laws.FnExactGreatestHangs", spec := "fnExactGreatestHangs", unfollowed := true, recurses := true, apart := false, narrowed := true }
def FnExactGreatestHangsUptoSaid : Prop := fnExactGreatestHangsUptoRow.holds Try.pinned (OpenSpec.upto fnExactGreatestHangsSpec)

/-- 'laws.FnExactLeastFalls', WHERE WHAT IT READS IS OF BULK AT MOST 1048576: true; the input reads as it did. -/
def fnExactLeastFallsUptoRow : OpenClaim := { program := "ytheicbcedhfahaa", sum := "b189a3f085a2a834463c4880d707649d0c9bd892ef288303042b7382b5abb991", func := "loop.example/g01206/laws.FnExactLeastFalls", spec := "fnExactLeastFalls", unfollowed := true, recurses := true, apart := false, narrowed := true }
def FnExactLeastFallsUptoSaid : Prop := fnExactLeastFallsUptoRow.holds Try.pinned (OpenSpec.upto fnExactLeastFallsSpec)

/-- 'laws.FnExactFewestNails', WHERE WHAT IT READS IS OF BULK AT MOST 1048576: true; the input reads as it did. -/
def fnExactFewestNailsUptoRow : OpenClaim := { program := "ytheicbcedhfahaa", sum := "b189a3f085a2a834463c4880d707649d0c9bd892ef288303042b7382b5abb991", func := "loop.example/g01206/laws.FnExactFewestNails", spec := "fnExactFewestNails", unfollowed := true, recurses := true, apart := false, narrowed := true }
def FnExactFewestNailsUptoSaid : Prop := fnExactFewestNailsUptoRow.holds Try.pinned (OpenSpec.upto fnExactFewestNailsSpec)

/-- 'laws.FnExactHangsBy', WHERE WHAT IT READS IS OF BULK AT MOST 1048576: true; the input reads as it did. -/
def fnExactHangsByUptoRow : OpenClaim := { program := "ytheicbcedhfahaa", sum := "b189a3f085a2a834463c4880d707649d0c9bd892ef288303042b7382b5abb991", func := "loop.example/g01206/laws.FnExactHangsBy", spec := "fnExactHangsBy", unfollowed := true, recurses := true, apart := false, narrowed := true }
def FnExactHangsByUptoSaid : Prop := fnExactHangsByUptoRow.holds Try.pinned (OpenSpec.upto fnExactHangsBySpec)

/-- 'laws.FnExactLeastTurn', WHERE WHAT IT READS IS OF BULK AT MOST 1048576: true; the input reads as it did. -/
def fnExactLeastTurnUptoRow : OpenClaim := { program := "ytheicbcedhfahaa", sum := "b189a3f085a2a834463c4880d707649d0c9bd892ef288303042b7382b5abb991", func := "loop.example/g01206/laws.FnExactLeastTurn", spec := "fnExactLeastTurn", unfollowed := true, recurses := true, apart := false, narrowed := true }
def FnExactLeastTurnUptoSaid : Prop := fnExactLeastTurnUptoRow.holds Try.pinned (OpenSpec.upto fnExactLeastTurnSpec)

/-- 'laws.FnExactAreConjugate', WHERE WHAT IT READS IS OF BULK AT MOST 1048576: true; the input reads as it did. -/
def fnExactAreConjugateUptoRow : OpenClaim := { program := "ytheicbcedhfahaa", sum := "b189a3f085a2a834463c4880d707649d0c9bd892ef288303042b7382b5abb991", func := "loop.example/g01206/laws.FnExactAreConjugate", spec := "fnExactAreConjugate", unfollowed := true, recurses := true, apart := false, narrowed := true }
def FnExactAreConjugateUptoSaid : Prop := fnExactAreConjugateUptoRow.holds Try.pinned (OpenSpec.upto fnExactAreConjugateSpec)

/-- 'laws.FnExactPowerWord', WHERE WHAT IT READS IS OF BULK AT MOST 1048576: true; the input reads as it did. -/
def fnExactPowerWordUptoRow : OpenClaim := { program := "ytheicbcedhfahaa", sum := "b189a3f085a2a834463c4880d707649d0c9bd892ef288303042b7382b5abb991", func := "loop.example/g01206/laws.FnExactPowerWord", spec := "fnExactPowerWord", unfollowed := true, recurses := true, apart := false, narrowed := true }
def FnExactPowerWordUptoSaid : Prop := fnExactPowerWordUptoRow.holds Try.pinned (OpenSpec.upto fnExactPowerWordSpec)

end Rows
end Go.Proofs.Ytheicbcedhfahaa
