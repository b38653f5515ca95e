/-
  No cell of these rows narrows 'for every input' (looked for: loops, veiled, ifaces, maps, wideKeys, modest, calm, conditions, laid).
  DERIVED. THE GIVEN ROWS OF THIS SEAT. 12 by the template 'for every input the law returns true; each argument reads behind the call as it read before'; 0 by the template 'total and deterministic' (their statements: YtjjoinhackfmnaaTotals.lean).
  GIVEN WITH THE SEED: the statements are not yours to turn. If you find one false, say at which input.
  Laid BY PROGRAM, IN A SANDBOX (cutbox-rows.mjs): the forced cells as the released guide's own fill.sh prints them over the translation 7659628629d4bd19… (all of the seat's roots in one cut). By AI agents, Wed Nov 11 2026. No macro, syntax, notation, axiom, sorry.
-/
import Derived.Test.YtjjoinhackfmnaaChecked
import GoSem.Claim
import GoSem.ClaimJoined
import GoSem.ClaimMapViews
import Derived.JoinedTies
import Derived.KernelRfl
namespace Go.Proofs.Ytjjoinhackfmnaa
/- THE CELL 'sum', in the pinned program and in every row, IS THE sha256 OF THE DUMP (.gsa) THAT YtjjoinhackfmnaaProg.lean LOADS. Nothing in Lean hashes anything: it is a label: what it is worth is what the hold of that sum in a sandbox is worth. -/
noncomputable def Try.pinned : Pinned := { name := "ytjjoinhackfmnaa", sum := "7659628629d4bd1929a73e7d28bf8b6143f59e04b800e5e02908963f3e4d03b1", checked := Try.checked }
namespace Rows
def none {H : Type} : Left H := { results := [], args := [] }

/-- 'laws.FnExactCoreOf': WHATEVER THE INPUT: true; the input reads as it did. -/
def fnExactCoreOfSpec : ChangeSpec := { name := "fnExactCoreOf", fn := fun _ => fun
  | [d] => { results := [.lit (.bool true)], args := [d] }
  | _ => none }
def fnExactCoreOfRow : OpenClaim := { program := "ytjjoinhackfmnaa", sum := "7659628629d4bd1929a73e7d28bf8b6143f59e04b800e5e02908963f3e4d03b1", func := "loop.example/g01206/laws.FnExactCoreOf", spec := "fnExactCoreOf", unfollowed := true, recurses := true, apart := false }
def FnExactCoreOfSaid : Prop := fnExactCoreOfRow.holds Try.pinned (OpenSpec.ofChange fnExactCoreOfSpec)

/-- ITS FALSE NEIGHBOUR: 'it returns false'. Refute it at one input. -/
def fnExactCoreOfWrong : ChangeSpec := { name := "fnExactCoreOf", fn := fun _ => fun
  | [d] => { results := [.lit (.bool false)], args := [d] }
  | _ => none }
def FnExactCoreOfWrongFalsely : Prop := fnExactCoreOfRow.holds Try.pinned (OpenSpec.ofChange fnExactCoreOfWrong)

/-- 'laws.FnExactCountMembers': WHATEVER THE INPUT: true; the input reads as it did. -/
def fnExactCountMembersSpec : ChangeSpec := { name := "fnExactCountMembers", fn := fun _ => fun
  | [d1, d2] => { results := [.lit (.bool true)], args := [d1, d2] }
  | _ => none }
def fnExactCountMembersRow : OpenClaim := { program := "ytjjoinhackfmnaa", sum := "7659628629d4bd1929a73e7d28bf8b6143f59e04b800e5e02908963f3e4d03b1", func := "loop.example/g01206/laws.FnExactCountMembers", spec := "fnExactCountMembers", unfollowed := true, recurses := true, apart := false }
def FnExactCountMembersSaid : Prop := fnExactCountMembersRow.holds Try.pinned (OpenSpec.ofChange fnExactCountMembersSpec)

/-- ITS FALSE NEIGHBOUR: 'it returns false'. Refute it at one input. -/
def fnExactCountMembersWrong : ChangeSpec := { name := "fnExactCountMembers", fn := fun _ => fun
  | [d1, d2] => { results := [.lit (.bool false)], args := [d1, d2] }
  | _ => none }
def FnExactCountMembersWrongFalsely : Prop := fnExactCountMembersRow.holds Try.pinned (OpenSpec.ofChange fnExactCountMembersWrong)

/-- 'laws.FnExactLessWord': WHATEVER THE INPUT: true; the input reads as it did. -/
def fnExactLessWordSpec : ChangeSpec := { name := "fnExactLessWord", fn := fun _ => fun
  | [d1, d2] => { results := [.lit (.bool true)], args := [d1, d2] }
  | _ => none }
def fnExactLessWordRow : OpenClaim := { program := "ytjjoinhackfmnaa", sum := "7659628629d4bd1929a73e7d28bf8b6143f59e04b800e5e02908963f3e4d03b1", func := "loop.example/g01206/laws.FnExactLessWord", spec := "fnExactLessWord", unfollowed := true, recurses := true, apart := false }
def FnExactLessWordSaid : Prop := fnExactLessWordRow.holds Try.pinned (OpenSpec.ofChange fnExactLessWordSpec)

/-- ITS FALSE NEIGHBOUR: 'it returns false'. Refute it at one input. -/
def fnExactLessWordWrong : ChangeSpec := { name := "fnExactLessWord", fn := fun _ => fun
  | [d1, d2] => { results := [.lit (.bool false)], args := [d1, d2] }
  | _ => none }
def FnExactLessWordWrongFalsely : Prop := fnExactLessWordRow.holds Try.pinned (OpenSpec.ofChange fnExactLessWordWrong)

/-- 'laws.FnExactPivotCounts': WHATEVER THE INPUT: true; the input reads as it did. -/
def fnExactPivotCountsSpec : ChangeSpec := { name := "fnExactPivotCounts", fn := fun _ => fun
  | [d] => { results := [.lit (.bool true)], args := [d] }
  | _ => none }
def fnExactPivotCountsRow : OpenClaim := { program := "ytjjoinhackfmnaa", sum := "7659628629d4bd1929a73e7d28bf8b6143f59e04b800e5e02908963f3e4d03b1", func := "loop.example/g01206/laws.FnExactPivotCounts", spec := "fnExactPivotCounts", unfollowed := true, recurses := true, apart := false }
def FnExactPivotCountsSaid : Prop := fnExactPivotCountsRow.holds Try.pinned (OpenSpec.ofChange fnExactPivotCountsSpec)

/-- ITS FALSE NEIGHBOUR: 'it returns false'. Refute it at one input. -/
def fnExactPivotCountsWrong : ChangeSpec := { name := "fnExactPivotCounts", fn := fun _ => fun
  | [d] => { results := [.lit (.bool false)], args := [d] }
  | _ => none }
def FnExactPivotCountsWrongFalsely : Prop := fnExactPivotCountsRow.holds Try.pinned (OpenSpec.ofChange fnExactPivotCountsWrong)

/-- 'laws.FnExactDoesFall': WHATEVER THE INPUT: true; the input reads as it did. -/
def fnExactDoesFallSpec : ChangeSpec := { name := "fnExactDoesFall", fn := fun _ => fun
  | [d1, d2] => { results := [.lit (.bool true)], args := [d1, d2] }
  | _ => none }
def fnExactDoesFallRow : OpenClaim := { program := "ytjjoinhackfmnaa", sum := "7659628629d4bd1929a73e7d28bf8b6143f59e04b800e5e02908963f3e4d03b1", func := "loop.example/g01206/laws.FnExactDoesFall", spec := "fnExactDoesFall", unfollowed := true, recurses := true, apart := false }
def FnExactDoesFallSaid : Prop := fnExactDoesFallRow.holds Try.pinned (OpenSpec.ofChange fnExactDoesFallSpec)

/-- ITS FALSE NEIGHBOUR: 'it returns false'. Refute it at one input. -/
def fnExactDoesFallWrong : ChangeSpec := { name := "fnExactDoesFall", fn := fun _ => fun
  | [d1, d2] => { results := [.lit (.bool false)], args := [d1, d2] }
  | _ => none }
def FnExactDoesFallWrongFalsely : Prop := fnExactDoesFallRow.holds Try.pinned (OpenSpec.ofChange fnExactDoesFallWrong)

/-- 'laws.FnExactJoinWords': WHATEVER THE INPUT: true; the input reads as it did. -/
def fnExactJoinWordsSpec : ChangeSpec := { name := "fnExactJoinWords", fn := fun _ => fun
  | [d1, d2] => { results := [.lit (.bool true)], args := [d1, d2] }
  | _ => none }
def fnExactJoinWordsRow : OpenClaim := { program := "ytjjoinhackfmnaa", sum := "7659628629d4bd1929a73e7d28bf8b6143f59e04b800e5e02908963f3e4d03b1", func := "loop.example/g01206/laws.FnExactJoinWords", spec := "fnExactJoinWords", unfollowed := true, recurses := true, apart := false }
def FnExactJoinWordsSaid : Prop := fnExactJoinWordsRow.holds Try.pinned (OpenSpec.ofChange fnExactJoinWordsSpec)

/-- ITS FALSE NEIGHBOUR: 'it returns false'. Refute it at one input. -/
def fnExactJoinWordsWrong : ChangeSpec := { name := "fnExactJoinWords", fn := fun _ => fun
  | [d1, d2] => { results := [.lit (.bool false)], args := [d1, d2] }
  | _ => none }
def FnExactJoinWordsWrongFalsely : Prop := fnExactJoinWordsRow.holds Try.pinned (OpenSpec.ofChange fnExactJoinWordsWrong)

/-- 'laws.FnExactLettersLeft': WHATEVER THE INPUT: true; the input reads as it did. -/
def fnExactLettersLeftSpec : ChangeSpec := { name := "fnExactLettersLeft", fn := fun _ => fun
  | [d] => { results := [.lit (.bool true)], args := [d] }
  | _ => none }
def fnExactLettersLeftRow : OpenClaim := { program := "ytjjoinhackfmnaa", sum := "7659628629d4bd1929a73e7d28bf8b6143f59e04b800e5e02908963f3e4d03b1", func := "loop.example/g01206/laws.FnExactLettersLeft", spec := "fnExactLettersLeft", unfollowed := true, recurses := true, apart := false }
def FnExactLettersLeftSaid : Prop := fnExactLettersLeftRow.holds Try.pinned (OpenSpec.ofChange fnExactLettersLeftSpec)

/-- ITS FALSE NEIGHBOUR: 'it returns false'. Refute it at one input. -/
def fnExactLettersLeftWrong : ChangeSpec := { name := "fnExactLettersLeft", fn := fun _ => fun
  | [d] => { results := [.lit (.bool false)], args := [d] }
  | _ => none }
def FnExactLettersLeftWrongFalsely : Prop := fnExactLettersLeftRow.holds Try.pinned (OpenSpec.ofChange fnExactLettersLeftWrong)

/-- 'laws.FnExactTakeOut': WHATEVER THE INPUT: true; the input reads as it did. -/
def fnExactTakeOutSpec : ChangeSpec := { name := "fnExactTakeOut", fn := fun _ => fun
  | [d1, d2] => { results := [.lit (.bool true)], args := [d1, d2] }
  | _ => none }
def fnExactTakeOutRow : OpenClaim := { program := "ytjjoinhackfmnaa", sum := "7659628629d4bd1929a73e7d28bf8b6143f59e04b800e5e02908963f3e4d03b1", func := "loop.example/g01206/laws.FnExactTakeOut", spec := "fnExactTakeOut", unfollowed := true, recurses := true, apart := false }
def FnExactTakeOutSaid : Prop := fnExactTakeOutRow.holds Try.pinned (OpenSpec.ofChange fnExactTakeOutSpec)

/-- ITS FALSE NEIGHBOUR: 'it returns false'. Refute it at one input. -/
def fnExactTakeOutWrong : ChangeSpec := { name := "fnExactTakeOut", fn := fun _ => fun
  | [d1, d2] => { results := [.lit (.bool false)], args := [d1, d2] }
  | _ => none }
def FnExactTakeOutWrongFalsely : Prop := fnExactTakeOutRow.holds Try.pinned (OpenSpec.ofChange fnExactTakeOutWrong)

/-- 'laws.FnExactFallAlike': WHATEVER THE INPUT: true; the input reads as it did. -/
def fnExactFallAlikeSpec : ChangeSpec := { name := "fnExactFallAlike", fn := fun _ => fun
  | [d1, d2] => { results := [.lit (.bool true)], args := [d1, d2] }
  | _ => none }
def fnExactFallAlikeRow : OpenClaim := { program := "ytjjoinhackfmnaa", sum := "7659628629d4bd1929a73e7d28bf8b6143f59e04b800e5e02908963f3e4d03b1", func := "loop.example/g01206/laws.FnExactFallAlike", spec := "fnExactFallAlike", unfollowed := true, recurses := true, apart := false }
def FnExactFallAlikeSaid : Prop := fnExactFallAlikeRow.holds Try.pinned (OpenSpec.ofChange fnExactFallAlikeSpec)

/-- ITS FALSE NEIGHBOUR: 'it returns false'. Refute it at one input. -/
def fnExactFallAlikeWrong : ChangeSpec := { name := "fnExactFallAlike", fn := fun _ => fun
  | [d1, d2] => { results := [.lit (.bool false)], args := [d1, d2] }
  | _ => none }
def FnExactFallAlikeWrongFalsely : Prop := fnExactFallAlikeRow.holds Try.pinned (OpenSpec.ofChange fnExactFallAlikeWrong)

/-- 'laws.FnExactFallTable': WHATEVER THE INPUT: true; the input reads as it did. -/
def fnExactFallTableSpec : ChangeSpec := { name := "fnExactFallTable", fn := fun _ => fun
  | [d] => { results := [.lit (.bool true)], args := [d] }
  | _ => none }
def fnExactFallTableRow : OpenClaim := { program := "ytjjoinhackfmnaa", sum := "7659628629d4bd1929a73e7d28bf8b6143f59e04b800e5e02908963f3e4d03b1", func := "loop.example/g01206/laws.FnExactFallTable", spec := "fnExactFallTable", unfollowed := true, recurses := true, apart := false }
def FnExactFallTableSaid : Prop := fnExactFallTableRow.holds Try.pinned (OpenSpec.ofChange fnExactFallTableSpec)

/-- ITS FALSE NEIGHBOUR: 'it returns false'. Refute it at one input. -/
def fnExactFallTableWrong : ChangeSpec := { name := "fnExactFallTable", fn := fun _ => fun
  | [d] => { results := [.lit (.bool false)], args := [d] }
  | _ => none }
def FnExactFallTableWrongFalsely : Prop := fnExactFallTableRow.holds Try.pinned (OpenSpec.ofChange fnExactFallTableWrong)

/-- 'laws.FnExactFallOrder': WHATEVER THE INPUT: true; the input reads as it did. -/
def fnExactFallOrderSpec : ChangeSpec := { name := "fnExactFallOrder", fn := fun _ => fun
  | [d1, d2] => { results := [.lit (.bool true)], args := [d1, d2] }
  | _ => none }
def fnExactFallOrderRow : OpenClaim := { program := "ytjjoinhackfmnaa", sum := "7659628629d4bd1929a73e7d28bf8b6143f59e04b800e5e02908963f3e4d03b1", func := "loop.example/g01206/laws.FnExactFallOrder", spec := "fnExactFallOrder", unfollowed := true, recurses := true, apart := false }
def FnExactFallOrderSaid : Prop := fnExactFallOrderRow.holds Try.pinned (OpenSpec.ofChange fnExactFallOrderSpec)

/-- ITS FALSE NEIGHBOUR: 'it returns false'. Refute it at one input. -/
def fnExactFallOrderWrong : ChangeSpec := { name := "fnExactFallOrder", fn := fun _ => fun
  | [d1, d2] => { results := [.lit (.bool false)], args := [d1, d2] }
  | _ => none }
def FnExactFallOrderWrongFalsely : Prop := fnExactFallOrderRow.holds Try.pinned (OpenSpec.ofChange fnExactFallOrderWrong)

/-- 'laws.FnExactConjugateWord': WHATEVER THE INPUT: true; the input reads as it did. -/
def fnExactConjugateWordSpec : ChangeSpec := { name := "fnExactConjugateWord", fn := fun _ => fun
  | [d1, d2] => { results := [.lit (.bool true)], args := [d1, d2] }
  | _ => none }
def fnExactConjugateWordRow : OpenClaim := { program := "ytjjoinhackfmnaa", sum := "7659628629d4bd1929a73e7d28bf8b6143f59e04b800e5e02908963f3e4d03b1", func := "loop.example/g01206/laws.FnExactConjugateWord", spec := "fnExactConjugateWord", unfollowed := true, recurses := true, apart := false }
def FnExactConjugateWordSaid : Prop := fnExactConjugateWordRow.holds Try.pinned (OpenSpec.ofChange fnExactConjugateWordSpec)

/-- ITS FALSE NEIGHBOUR: 'it returns false'. Refute it at one input. -/
def fnExactConjugateWordWrong : ChangeSpec := { name := "fnExactConjugateWord", fn := fun _ => fun
  | [d1, d2] => { results := [.lit (.bool false)], args := [d1, d2] }
  | _ => none }
def FnExactConjugateWordWrongFalsely : Prop := fnExactConjugateWordRow.holds Try.pinned (OpenSpec.ofChange fnExactConjugateWordWrong)

/- THE SECOND FORM. 'bulk': how many values and letters a reading holds, each counted each time it is reached (what is shared counts as often as it is met; a slice's spare places count too). A statement '..UptoSaid' is the law's where the arguments, and the package variables that the reading takes, are together of bulk at most 1048576: NARROWER than '..Said'. Prove '..Said' where nothing that the law and all that it calls make is longer than what came in: it says more and counts as full. Else prove '..UptoSaid'. A law counts once. -/
mutual
def uptoBulk {H : Type} : DataW H → Nat
  | .lit (.string bytes) => bytes.length + 1
  | .lit _ => 1
  | .nil => 1
  | .ptr d => uptoBulk d + 1
  | .slice elems spare => uptoBulkAll elems + uptoBulkAll spare + 1
  | .agg parts => uptoBulkAll parts + 1
  | .iface _ d => uptoBulk d + 1
  | .map entries => uptoBulkEntries entries + 1
  | .held _ => 1
def uptoBulkAll {H : Type} : List (DataW H) → Nat
  | [] => 0
  | d :: r => uptoBulk d + uptoBulkAll r
def uptoBulkEntries {H : Type} : List (Lit × DataW H) → Nat
  | [] => 0
  | x :: r => uptoBulkEntry x + uptoBulkEntries r
def uptoBulkEntry {H : Type} : Lit × DataW H → Nat
  | (.string bytes, d) => bytes.length + uptoBulk d + 1
  | (_, d) => uptoBulk d + 1
 end
def uptoSmall : (H : Type) → List (DataW H) → Bool := fun _ ds => decide (uptoBulkAll ds ≤ 1048576)
def OpenSpec.upto (s : _root_.Go.ChangeSpec) : _root_.Go.OpenSpec := { _root_.Go.OpenSpec.ofChange s with cond := some uptoSmall }

/-- 'laws.FnExactCoreOf', WHERE WHAT IT READS IS OF BULK AT MOST 1048576: true; the input reads as it did. -/
def fnExactCoreOfUptoRow : OpenClaim := { program := "ytjjoinhackfmnaa", sum := "7659628629d4bd1929a73e7d28bf8b6143f59e04b800e5e02908963f3e4d03b1", func := "loop.example/g01206/laws.FnExactCoreOf", spec := "fnExactCoreOf", unfollowed := true, recurses := true, apart := false, narrowed := true }
def FnExactCoreOfUptoSaid : Prop := fnExactCoreOfUptoRow.holds Try.pinned (OpenSpec.upto fnExactCoreOfSpec)

/-- 'laws.FnExactCountMembers', WHERE WHAT IT READS IS OF BULK AT MOST 1048576: true; the input reads as it did. -/
def fnExactCountMembersUptoRow : OpenClaim := { program := "ytjjoinhackfmnaa", sum := "7659628629d4bd1929a73e7d28bf8b6143f59e04b800e5e02908963f3e4d03b1", func := "loop.example/g01206/laws.FnExactCountMembers", spec := "fnExactCountMembers", unfollowed := true, recurses := true, apart := false, narrowed := true }
def FnExactCountMembersUptoSaid : Prop := fnExactCountMembersUptoRow.holds Try.pinned (OpenSpec.upto fnExactCountMembersSpec)

/-- 'laws.FnExactLessWord', WHERE WHAT IT READS IS OF BULK AT MOST 1048576: true; the input reads as it did. -/
def fnExactLessWordUptoRow : OpenClaim := { program := "ytjjoinhackfmnaa", sum := "7659628629d4bd1929a73e7d28bf8b6143f59e04b800e5e02908963f3e4d03b1", func := "loop.example/g01206/laws.FnExactLessWord", spec := "fnExactLessWord", unfollowed := true, recurses := true, apart := false, narrowed := true }
def FnExactLessWordUptoSaid : Prop := fnExactLessWordUptoRow.holds Try.pinned (OpenSpec.upto fnExactLessWordSpec)

/-- 'laws.FnExactPivotCounts', WHERE WHAT IT READS IS OF BULK AT MOST 1048576: true; the input reads as it did. -/
def fnExactPivotCountsUptoRow : OpenClaim := { program := "ytjjoinhackfmnaa", sum := "7659628629d4bd1929a73e7d28bf8b6143f59e04b800e5e02908963f3e4d03b1", func := "loop.example/g01206/laws.FnExactPivotCounts", spec := "fnExactPivotCounts", unfollowed := true, recurses := true, apart := false, narrowed := true }
def FnExactPivotCountsUptoSaid : Prop := fnExactPivotCountsUptoRow.holds Try.pinned (OpenSpec.upto fnExactPivotCountsSpec)

/-- 'laws.FnExactDoesFall', WHERE WHAT IT READS IS OF BULK AT MOST 1048576: true; the input reads as it did. -/
def fnExactDoesFallUptoRow : OpenClaim := { program := "ytjjoinhackfmnaa", sum := "7659628629d4bd1929a73e7d28bf8b6143f59e04b800e5e02908963f3e4d03b1", func := "loop.example/g01206/laws.FnExactDoesFall", spec := "fnExactDoesFall", unfollowed := true, recurses := true, apart := false, narrowed := true }
def FnExactDoesFallUptoSaid : Prop := fnExactDoesFallUptoRow.holds Try.pinned (OpenSpec.upto fnExactDoesFallSpec)

/-- 'laws.FnExactJoinWords', WHERE WHAT IT READS IS OF BULK AT MOST 1048576: true; the input reads as it did. -/
def fnExactJoinWordsUptoRow : OpenClaim := { program := "ytjjoinhackfmnaa", sum := "7659628629d4bd1929a73e7d28bf8b6143f59e04b800e5e02908963f3e4d03b1", func := "loop.example/g01206/laws.FnExactJoinWords", spec := "fnExactJoinWords", unfollowed := true, recurses := true, apart := false, narrowed := true }
def FnExactJoinWordsUptoSaid : Prop := fnExactJoinWordsUptoRow.holds Try.pinned (OpenSpec.upto fnExactJoinWordsSpec)

/-- 'laws.FnExactLettersLeft', WHERE WHAT IT READS IS OF BULK AT MOST 1048576: true; the input reads as it did. -/
def fnExactLettersLeftUptoRow : OpenClaim := { program := "ytjjoinhackfmnaa", sum := "7659628629d4bd1929a73e7d28bf8b6143f59e04b800e5e02908963f3e4d03b1", func := "loop.example/g01206/laws.FnExactLettersLeft", spec := "fnExactLettersLeft", unfollowed := true, recurses := true, apart := false, narrowed := true }
def FnExactLettersLeftUptoSaid : Prop := fnExactLettersLeftUptoRow.holds Try.pinned (OpenSpec.upto fnExactLettersLeftSpec)

/-- 'laws.FnExactTakeOut', WHERE WHAT IT READS IS OF BULK AT MOST 1048576: true; the input reads as it did. -/
def fnExactTakeOutUptoRow : OpenClaim := { program := "ytjjoinhackfmnaa", sum := "7659628629d4bd1929a73e7d28bf8b6143f59e04b800e5e02908963f3e4d03b1", func := "loop.example/g01206/laws.FnExactTakeOut", spec := "fnExactTakeOut", unfollowed := true, recurses := true, apart := false, narrowed := true }
def FnExactTakeOutUptoSaid : Prop := fnExactTakeOutUptoRow.holds Try.pinned (OpenSpec.upto fnExactTakeOutSpec)

/-- 'laws.FnExactFallAlike', WHERE WHAT IT READS IS OF BULK AT MOST 1048576: true; the input reads as it did. -/
def fnExactFallAlikeUptoRow : OpenClaim := { program := "ytjjoinhackfmnaa", sum := "7659628629d4bd1929a73e7d28bf8b6143f59e04b800e5e02908963f3e4d03b1", func := "loop.example/g01206/laws.FnExactFallAlike", spec := "fnExactFallAlike", unfollowed := true, recurses := true, apart := false, narrowed := true }
def FnExactFallAlikeUptoSaid : Prop := fnExactFallAlikeUptoRow.holds Try.pinned (OpenSpec.upto fnExactFallAlikeSpec)

/-- 'laws.FnExactFallTable', WHERE WHAT IT READS IS OF BULK AT MOST 1048576: true; the input reads as it did. -/
def fnExactFallTableUptoRow : OpenClaim := { program := "ytjjoinhackfmnaa", sum := "7659628629d4bd1929a73e7d28bf8b6143f59e04b800e5e02908963f3e4d03b1", func := "loop.example/g01206/laws.FnExactFallTable", spec := "fnExactFallTable", unfollowed := true, recurses := true, apart := false, narrowed := true }
def FnExactFallTableUptoSaid : Prop := fnExactFallTableUptoRow.holds Try.pinned (OpenSpec.upto fnExactFallTableSpec)

/-- 'laws.FnExactFallOrder', WHERE WHAT IT READS IS OF BULK AT MOST 1048576: true; the input reads as it did. -/
def fnExactFallOrderUptoRow : OpenClaim := { program := "ytjjoinhackfmnaa", sum := "7659628629d4bd1929a73e7d28bf8b6143f59e04b800e5e02908963f3e4d03b1", func := "loop.example/g01206/laws.FnExactFallOrder", spec := "fnExactFallOrder", unfollowed := true, recurses := true, apart := false, narrowed := true }
def FnExactFallOrderUptoSaid : Prop := fnExactFallOrderUptoRow.holds Try.pinned (OpenSpec.upto fnExactFallOrderSpec)

/-- 'laws.FnExactConjugateWord', WHERE WHAT IT READS IS OF BULK AT MOST 1048576: true; the input reads as it did. -/
def fnExactConjugateWordUptoRow : OpenClaim := { program := "ytjjoinhackfmnaa", sum := "7659628629d4bd1929a73e7d28bf8b6143f59e04b800e5e02908963f3e4d03b1", func := "loop.example/g01206/laws.FnExactConjugateWord", spec := "fnExactConjugateWord", unfollowed := true, recurses := true, apart := false, narrowed := true }
def FnExactConjugateWordUptoSaid : Prop := fnExactConjugateWordUptoRow.holds Try.pinned (OpenSpec.upto fnExactConjugateWordSpec)

end Rows
end Go.Proofs.Ytjjoinhackfmnaa
