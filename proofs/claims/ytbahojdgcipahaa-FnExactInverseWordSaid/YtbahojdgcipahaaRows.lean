/-
  No cell of these rows narrows 'for every input' (looked for: loops, veiled, ifaces, maps, wideKeys, modest, calm, conditions, laid).
  DERIVED. THE GIVEN ROWS OF THIS SEAT. 12 by the template 'for every input the law returns true; each argument reads behind the call as it read before'; 0 by the template 'total and deterministic' (their statements: YtbahojdgcipahaaTotals.lean).
  GIVEN WITH THE SEED: the statements are not yours to turn. If you find one false, say at which input.
  Laid BY PROGRAM, IN A SANDBOX (cutbox-rows.mjs): the forced cells as the released guide's own fill.sh prints them over the translation cc0516f618355b80… (all of the seat's roots in one cut). By AI agents, Wed Nov 11 2026. No macro, syntax, notation, axiom, sorry.
-/
import Derived.Test.YtbahojdgcipahaaChecked
import GoSem.Claim
import GoSem.ClaimJoined
import GoSem.ClaimMapViews
import Derived.JoinedTies
import Derived.KernelRfl
namespace Go.Proofs.Ytbahojdgcipahaa
/- THE CELL 'sum', in the pinned program and in every row, IS THE sha256 OF THE DUMP (.gsa) THAT YtbahojdgcipahaaProg.lean LOADS. Nothing in Lean hashes anything: it is a label: what it is worth is what the hold of that sum in a sandbox is worth. -/
noncomputable def Try.pinned : Pinned := { name := "ytbahojdgcipahaa", sum := "cc0516f618355b80234874968cb1ec13935a2512747931aef7732ba5541b17d4", checked := Try.checked }
namespace Rows
def none {H : Type} : Left H := { results := [], args := [] }

/-- 'laws.FnExactSplitString': WHATEVER THE INPUT: true; the input reads as it did. -/
def fnExactSplitStringSpec : ChangeSpec := { name := "fnExactSplitString", fn := fun _ => fun
  | [d1, d2] => { results := [.lit (.bool true)], args := [d1, d2] }
  | _ => none }
def fnExactSplitStringRow : OpenClaim := { program := "ytbahojdgcipahaa", sum := "cc0516f618355b80234874968cb1ec13935a2512747931aef7732ba5541b17d4", func := "loop.example/g01206/laws.FnExactSplitString", spec := "fnExactSplitString", apart := false }
def FnExactSplitStringSaid : Prop := fnExactSplitStringRow.holds Try.pinned (OpenSpec.ofChange fnExactSplitStringSpec)

/-- ITS FALSE NEIGHBOUR: 'it returns false'. Refute it at one input. -/
def fnExactSplitStringWrong : ChangeSpec := { name := "fnExactSplitString", fn := fun _ => fun
  | [d1, d2] => { results := [.lit (.bool false)], args := [d1, d2] }
  | _ => none }
def FnExactSplitStringWrongFalsely : Prop := fnExactSplitStringRow.holds Try.pinned (OpenSpec.ofChange fnExactSplitStringWrong)

/-- 'laws.FnExactParseWord': WHATEVER THE INPUT: true; the input reads as it did. -/
def fnExactParseWordSpec : ChangeSpec := { name := "fnExactParseWord", fn := fun _ => fun
  | [d] => { results := [.lit (.bool true)], args := [d] }
  | _ => none }
def fnExactParseWordRow : OpenClaim := { program := "ytbahojdgcipahaa", sum := "cc0516f618355b80234874968cb1ec13935a2512747931aef7732ba5541b17d4", func := "loop.example/g01206/laws.FnExactParseWord", spec := "fnExactParseWord", apart := false }
def FnExactParseWordSaid : Prop := fnExactParseWordRow.holds Try.pinned (OpenSpec.ofChange fnExactParseWordSpec)

/-- ITS FALSE NEIGHBOUR: 'it returns false'. Refute it at one input. -/
def fnExactParseWordWrong : ChangeSpec := { name := "fnExactParseWord", fn := fun _ => fun
  | [d] => { results := [.lit (.bool false)], args := [d] }
  | _ => none }
def FnExactParseWordWrongFalsely : Prop := fnExactParseWordRow.holds Try.pinned (OpenSpec.ofChange fnExactParseWordWrong)

/-- 'laws.FnExactIsReduced': WHATEVER THE INPUT: true; the input reads as it did. -/
def fnExactIsReducedSpec : ChangeSpec := { name := "fnExactIsReduced", fn := fun _ => fun
  | [d] => { results := [.lit (.bool true)], args := [d] }
  | _ => none }
def fnExactIsReducedRow : OpenClaim := { program := "ytbahojdgcipahaa", sum := "cc0516f618355b80234874968cb1ec13935a2512747931aef7732ba5541b17d4", func := "loop.example/g01206/laws.FnExactIsReduced", spec := "fnExactIsReduced", unfollowed := true, recurses := true, apart := false }
def FnExactIsReducedSaid : Prop := fnExactIsReducedRow.holds Try.pinned (OpenSpec.ofChange fnExactIsReducedSpec)

/-- ITS FALSE NEIGHBOUR: 'it returns false'. Refute it at one input. -/
def fnExactIsReducedWrong : ChangeSpec := { name := "fnExactIsReduced", fn := fun _ => fun
  | [d] => { results := [.lit (.bool false)], args := [d] }
  | _ => none }
def FnExactIsReducedWrongFalsely : Prop := fnExactIsReducedRow.holds Try.pinned (OpenSpec.ofChange fnExactIsReducedWrong)

/-- 'laws.FnExactIsFamily': WHATEVER THE INPUT: true; the input reads as it did. -/
def fnExactIsFamilySpec : ChangeSpec := { name := "fnExactIsFamily", fn := fun _ => fun
  | [d] => { results := [.lit (.bool true)], args := [d] }
  | _ => none }
def fnExactIsFamilyRow : OpenClaim := { program := "ytbahojdgcipahaa", sum := "cc0516f618355b80234874968cb1ec13935a2512747931aef7732ba5541b17d4", func := "loop.example/g01206/laws.FnExactIsFamily", spec := "fnExactIsFamily", apart := false }
def FnExactIsFamilySaid : Prop := fnExactIsFamilyRow.holds Try.pinned (OpenSpec.ofChange fnExactIsFamilySpec)

/-- ITS FALSE NEIGHBOUR: 'it returns false'. Refute it at one input. -/
def fnExactIsFamilyWrong : ChangeSpec := { name := "fnExactIsFamily", fn := fun _ => fun
  | [d] => { results := [.lit (.bool false)], args := [d] }
  | _ => none }
def FnExactIsFamilyWrongFalsely : Prop := fnExactIsFamilyRow.holds Try.pinned (OpenSpec.ofChange fnExactIsFamilyWrong)

/-- 'laws.FnExactWordText': WHATEVER THE INPUT: true; the input reads as it did. -/
def fnExactWordTextSpec : ChangeSpec := { name := "fnExactWordText", fn := fun _ => fun
  | [d] => { results := [.lit (.bool true)], args := [d] }
  | _ => none }
def fnExactWordTextRow : OpenClaim := { program := "ytbahojdgcipahaa", sum := "cc0516f618355b80234874968cb1ec13935a2512747931aef7732ba5541b17d4", func := "loop.example/g01206/laws.FnExactWordText", spec := "fnExactWordText", unfollowed := true, recurses := true, apart := false }
def FnExactWordTextSaid : Prop := fnExactWordTextRow.holds Try.pinned (OpenSpec.ofChange fnExactWordTextSpec)

/-- ITS FALSE NEIGHBOUR: 'it returns false'. Refute it at one input. -/
def fnExactWordTextWrong : ChangeSpec := { name := "fnExactWordText", fn := fun _ => fun
  | [d] => { results := [.lit (.bool false)], args := [d] }
  | _ => none }
def FnExactWordTextWrongFalsely : Prop := fnExactWordTextRow.holds Try.pinned (OpenSpec.ofChange fnExactWordTextWrong)

/-- 'laws.FnExactNailsOf': WHATEVER THE INPUT: true; the input reads as it did. -/
def fnExactNailsOfSpec : ChangeSpec := { name := "fnExactNailsOf", fn := fun _ => fun
  | [d] => { results := [.lit (.bool true)], args := [d] }
  | _ => none }
def fnExactNailsOfRow : OpenClaim := { program := "ytbahojdgcipahaa", sum := "cc0516f618355b80234874968cb1ec13935a2512747931aef7732ba5541b17d4", func := "loop.example/g01206/laws.FnExactNailsOf", spec := "fnExactNailsOf", unfollowed := true, recurses := true, apart := false }
def FnExactNailsOfSaid : Prop := fnExactNailsOfRow.holds Try.pinned (OpenSpec.ofChange fnExactNailsOfSpec)

/-- ITS FALSE NEIGHBOUR: 'it returns false'. Refute it at one input. -/
def fnExactNailsOfWrong : ChangeSpec := { name := "fnExactNailsOf", fn := fun _ => fun
  | [d] => { results := [.lit (.bool false)], args := [d] }
  | _ => none }
def FnExactNailsOfWrongFalsely : Prop := fnExactNailsOfRow.holds Try.pinned (OpenSpec.ofChange fnExactNailsOfWrong)

/-- 'laws.FnExactCountLetters': WHATEVER THE INPUT: true; the input reads as it did. -/
def fnExactCountLettersSpec : ChangeSpec := { name := "fnExactCountLetters", fn := fun _ => fun
  | [d] => { results := [.lit (.bool true)], args := [d] }
  | _ => none }
def fnExactCountLettersRow : OpenClaim := { program := "ytbahojdgcipahaa", sum := "cc0516f618355b80234874968cb1ec13935a2512747931aef7732ba5541b17d4", func := "loop.example/g01206/laws.FnExactCountLetters", spec := "fnExactCountLetters", unfollowed := true, recurses := true, apart := false }
def FnExactCountLettersSaid : Prop := fnExactCountLettersRow.holds Try.pinned (OpenSpec.ofChange fnExactCountLettersSpec)

/-- ITS FALSE NEIGHBOUR: 'it returns false'. Refute it at one input. -/
def fnExactCountLettersWrong : ChangeSpec := { name := "fnExactCountLetters", fn := fun _ => fun
  | [d] => { results := [.lit (.bool false)], args := [d] }
  | _ => none }
def FnExactCountLettersWrongFalsely : Prop := fnExactCountLettersRow.holds Try.pinned (OpenSpec.ofChange fnExactCountLettersWrong)

/-- 'laws.FnExactReduceWord': WHATEVER THE INPUT: true; the input reads as it did. -/
def fnExactReduceWordSpec : ChangeSpec := { name := "fnExactReduceWord", fn := fun _ => fun
  | [d] => { results := [.lit (.bool true)], args := [d] }
  | _ => none }
def fnExactReduceWordRow : OpenClaim := { program := "ytbahojdgcipahaa", sum := "cc0516f618355b80234874968cb1ec13935a2512747931aef7732ba5541b17d4", func := "loop.example/g01206/laws.FnExactReduceWord", spec := "fnExactReduceWord", unfollowed := true, recurses := true, apart := false }
def FnExactReduceWordSaid : Prop := fnExactReduceWordRow.holds Try.pinned (OpenSpec.ofChange fnExactReduceWordSpec)

/-- ITS FALSE NEIGHBOUR: 'it returns false'. Refute it at one input. -/
def fnExactReduceWordWrong : ChangeSpec := { name := "fnExactReduceWord", fn := fun _ => fun
  | [d] => { results := [.lit (.bool false)], args := [d] }
  | _ => none }
def FnExactReduceWordWrongFalsely : Prop := fnExactReduceWordRow.holds Try.pinned (OpenSpec.ofChange fnExactReduceWordWrong)

/-- 'laws.FnExactInverseWord': WHATEVER THE INPUT: true; the input reads as it did. -/
def fnExactInverseWordSpec : ChangeSpec := { name := "fnExactInverseWord", fn := fun _ => fun
  | [d] => { results := [.lit (.bool true)], args := [d] }
  | _ => none }
def fnExactInverseWordRow : OpenClaim := { program := "ytbahojdgcipahaa", sum := "cc0516f618355b80234874968cb1ec13935a2512747931aef7732ba5541b17d4", func := "loop.example/g01206/laws.FnExactInverseWord", spec := "fnExactInverseWord", unfollowed := true, recurses := true, apart := false }
def FnExactInverseWordSaid : Prop := fnExactInverseWordRow.holds Try.pinned (OpenSpec.ofChange fnExactInverseWordSpec)

/-- ITS FALSE NEIGHBOUR: 'it returns false'. Refute it at one input. -/
def fnExactInverseWordWrong : ChangeSpec := { name := "fnExactInverseWord", fn := fun _ => fun
  | [d] => { results := [.lit (.bool false)], args := [d] }
  | _ => none }
def FnExactInverseWordWrongFalsely : Prop := fnExactInverseWordRow.holds Try.pinned (OpenSpec.ofChange fnExactInverseWordWrong)

/-- 'laws.FnExactHasMember': WHATEVER THE INPUT: true; the input reads as it did. -/
def fnExactHasMemberSpec : ChangeSpec := { name := "fnExactHasMember", fn := fun _ => fun
  | [d1, d2] => { results := [.lit (.bool true)], args := [d1, d2] }
  | _ => none }
def fnExactHasMemberRow : OpenClaim := { program := "ytbahojdgcipahaa", sum := "cc0516f618355b80234874968cb1ec13935a2512747931aef7732ba5541b17d4", func := "loop.example/g01206/laws.FnExactHasMember", spec := "fnExactHasMember", unfollowed := true, recurses := true, apart := false }
def FnExactHasMemberSaid : Prop := fnExactHasMemberRow.holds Try.pinned (OpenSpec.ofChange fnExactHasMemberSpec)

/-- ITS FALSE NEIGHBOUR: 'it returns false'. Refute it at one input. -/
def fnExactHasMemberWrong : ChangeSpec := { name := "fnExactHasMember", fn := fun _ => fun
  | [d1, d2] => { results := [.lit (.bool false)], args := [d1, d2] }
  | _ => none }
def FnExactHasMemberWrongFalsely : Prop := fnExactHasMemberRow.holds Try.pinned (OpenSpec.ofChange fnExactHasMemberWrong)

/-- 'laws.FnExactTurnWord': WHATEVER THE INPUT: true; the input reads as it did. -/
def fnExactTurnWordSpec : ChangeSpec := { name := "fnExactTurnWord", fn := fun _ => fun
  | [d1, d2] => { results := [.lit (.bool true)], args := [d1, d2] }
  | _ => none }
def fnExactTurnWordRow : OpenClaim := { program := "ytbahojdgcipahaa", sum := "cc0516f618355b80234874968cb1ec13935a2512747931aef7732ba5541b17d4", func := "loop.example/g01206/laws.FnExactTurnWord", spec := "fnExactTurnWord", unfollowed := true, recurses := true, apart := false }
def FnExactTurnWordSaid : Prop := fnExactTurnWordRow.holds Try.pinned (OpenSpec.ofChange fnExactTurnWordSpec)

/-- ITS FALSE NEIGHBOUR: 'it returns false'. Refute it at one input. -/
def fnExactTurnWordWrong : ChangeSpec := { name := "fnExactTurnWord", fn := fun _ => fun
  | [d1, d2] => { results := [.lit (.bool false)], args := [d1, d2] }
  | _ => none }
def FnExactTurnWordWrongFalsely : Prop := fnExactTurnWordRow.holds Try.pinned (OpenSpec.ofChange fnExactTurnWordWrong)

/-- 'laws.FnExactBalancedTree': WHATEVER THE INPUT: true; the input reads as it did. -/
def fnExactBalancedTreeSpec : ChangeSpec := { name := "fnExactBalancedTree", fn := fun _ => fun
  | [d] => { results := [.lit (.bool true)], args := [d] }
  | _ => none }
def fnExactBalancedTreeRow : OpenClaim := { program := "ytbahojdgcipahaa", sum := "cc0516f618355b80234874968cb1ec13935a2512747931aef7732ba5541b17d4", func := "loop.example/g01206/laws.FnExactBalancedTree", spec := "fnExactBalancedTree", recurses := true, apart := false }
def FnExactBalancedTreeSaid : Prop := fnExactBalancedTreeRow.holds Try.pinned (OpenSpec.ofChange fnExactBalancedTreeSpec)

/-- ITS FALSE NEIGHBOUR: 'it returns false'. Refute it at one input. -/
def fnExactBalancedTreeWrong : ChangeSpec := { name := "fnExactBalancedTree", fn := fun _ => fun
  | [d] => { results := [.lit (.bool false)], args := [d] }
  | _ => none }
def FnExactBalancedTreeWrongFalsely : Prop := fnExactBalancedTreeRow.holds Try.pinned (OpenSpec.ofChange fnExactBalancedTreeWrong)

/- THE SECOND FORM. 'bulk': how many values and letters a reading holds, each counted each time it is reached (what is shared counts as often as it is met; a slice's spare places count too). A statement '..UptoSaid' is the law's where the arguments, and the package variables that the reading takes, are together of bulk at most 1048576: NARROWER than '..Said'. Prove '..Said' where nothing that the law and all that it calls make is longer than what came in: it says more and counts as full. Else prove '..UptoSaid'. A law counts once. -/
mutual
def uptoBulk {H : Type} : DataW H → Nat
  | .lit (.string bytes) => bytes.length + 1
  | .lit _ => 1
  | .nil => 1
  | .ptr d => uptoBulk d + 1
  | .slice elems spare => uptoBulkAll elems + uptoBulkAll spare + 1
  | .agg parts => uptoBulkAll parts + 1
  | .iface _ d => uptoBulk d + 1
  | .map entries => uptoBulkEntries entries + 1
  | .held _ => 1
def uptoBulkAll {H : Type} : List (DataW H) → Nat
  | [] => 0
  | d :: r => uptoBulk d + uptoBulkAll r
def uptoBulkEntries {H : Type} : List (Lit × DataW H) → Nat
  | [] => 0
  | x :: r => uptoBulkEntry x + uptoBulkEntries r
def uptoBulkEntry {H : Type} : Lit × DataW H → Nat
  | (.string bytes, d) => bytes.length + uptoBulk d + 1
  | (_, d) => uptoBulk d + 1
 end
def uptoSmall : (H : Type) → List (DataW H) → Bool := fun _ ds => decide (uptoBulkAll ds ≤ 1048576)
def OpenSpec.upto (s : _root_.Go.ChangeSpec) : _root_.Go.OpenSpec := { _root_.Go.OpenSpec.ofChange s with cond := some uptoSmall }

/-- 'laws.FnExactSplitString', WHERE WHAT IT READS IS OF BULK AT MOST 1048576: true; the input reads as it did. -/
def fnExactSplitStringUptoRow : OpenClaim := { program := "ytbahojdgcipahaa", sum := "cc0516f618355b80234874968cb1ec13935a2512747931aef7732ba5541b17d4", func := "loop.example/g01206/laws.FnExactSplitString", spec := "fnExactSplitString", apart := false, narrowed := true }
def FnExactSplitStringUptoSaid : Prop := fnExactSplitStringUptoRow.holds Try.pinned (OpenSpec.upto fnExactSplitStringSpec)

/-- 'laws.FnExactParseWord', WHERE WHAT IT READS IS OF BULK AT MOST 1048576: true; the input reads as it did. -/
def fnExactParseWordUptoRow : OpenClaim := { program := "ytbahojdgcipahaa", sum := "cc0516f618355b80234874968cb1ec13935a2512747931aef7732ba5541b17d4", func := "loop.example/g01206/laws.FnExactParseWord", spec := "fnExactParseWord", apart := false, narrowed := true }
def FnExactParseWordUptoSaid : Prop := fnExactParseWordUptoRow.holds Try.pinned (OpenSpec.upto fnExactParseWordSpec)

/-- 'laws.FnExactIsReduced', WHERE WHAT IT READS IS OF BULK AT MOST 1048576: true; the input reads as it did. -/
def fnExactIsReducedUptoRow : OpenClaim := { program := "ytbahojdgcipahaa", sum := "cc0516f618355b80234874968cb1ec13935a2512747931aef7732ba5541b17d4", func := "loop.example/g01206/laws.FnExactIsReduced", spec := "fnExactIsReduced", unfollowed := true, recurses := true, apart := false, narrowed := true }
def FnExactIsReducedUptoSaid : Prop := fnExactIsReducedUptoRow.holds Try.pinned (OpenSpec.upto fnExactIsReducedSpec)

/-- 'laws.FnExactIsFamily', WHERE WHAT IT READS IS OF BULK AT MOST 1048576: true; the input reads as it did. -/
def fnExactIsFamilyUptoRow : OpenClaim := { program := "ytbahojdgcipahaa", sum := "cc0516f618355b80234874968cb1ec13935a2512747931aef7732ba5541b17d4", func := "loop.example/g01206/laws.FnExactIsFamily", spec := "fnExactIsFamily", apart := false, narrowed := true }
def FnExactIsFamilyUptoSaid : Prop := fnExactIsFamilyUptoRow.holds Try.pinned (OpenSpec.upto fnExactIsFamilySpec)

/-- 'laws.FnExactWordText', WHERE WHAT IT READS IS OF BULK AT MOST 1048576: true; the input reads as it did. -/
def fnExactWordTextUptoRow : OpenClaim := { program := "ytbahojdgcipahaa", sum := "cc0516f618355b80234874968cb1ec13935a2512747931aef7732ba5541b17d4", func := "loop.example/g01206/laws.FnExactWordText", spec := "fnExactWordText", unfollowed := true, recurses := true, apart := false, narrowed := true }
def FnExactWordTextUptoSaid : Prop := fnExactWordTextUptoRow.holds Try.pinned (OpenSpec.upto fnExactWordTextSpec)

/-- 'laws.FnExactNailsOf', WHERE WHAT IT READS IS OF BULK AT MOST 1048576: true; the input reads as it did. -/
def fnExactNailsOfUptoRow : OpenClaim := { program := "ytbahojdgcipahaa", sum := "cc0516f618355b80234874968cb1ec13935a2512747931aef7732ba5541b17d4", func := "loop.example/g01206/laws.FnExactNailsOf", spec := "fnExactNailsOf", unfollowed := true, recurses := true, apart := false, narrowed := true }
def FnExactNailsOfUptoSaid : Prop := fnExactNailsOfUptoRow.holds Try.pinned (OpenSpec.upto fnExactNailsOfSpec)

/-- 'laws.FnExactCountLetters', WHERE WHAT IT READS IS OF BULK AT MOST 1048576: true; the input reads as it did. -/
def fnExactCountLettersUptoRow : OpenClaim := { program := "ytbahojdgcipahaa", sum := "cc0516f618355b80234874968cb1ec13935a2512747931aef7732ba5541b17d4", func := "loop.example/g01206/laws.FnExactCountLetters", spec := "fnExactCountLetters", unfollowed := true, recurses := true, apart := false, narrowed := true }
def FnExactCountLettersUptoSaid : Prop := fnExactCountLettersUptoRow.holds Try.pinned (OpenSpec.upto fnExactCountLettersSpec)

/-- 'laws.FnExactReduceWord', WHERE WHAT IT READS IS OF BULK AT MOST 1048576: true; the input reads as it did. -/
def fnExactReduceWordUptoRow : OpenClaim := { program := "ytbahojdgcipahaa", sum := "cc0516f618355b80234874968cb1ec13935a2512747931aef7732ba5541b17d4", func := "loop.example/g01206/laws.FnExactReduceWord", spec := "fnExactReduceWord", unfollowed := true, recurses := true, apart := false, narrowed := true }
def FnExactReduceWordUptoSaid : Prop := fnExactReduceWordUptoRow.holds Try.pinned (OpenSpec.upto fnExactReduceWordSpec)

/-- 'laws.FnExactInverseWord', WHERE WHAT IT READS IS OF BULK AT MOST 1048576: true; the input reads as it did. -/
def fnExactInverseWordUptoRow : OpenClaim := { program := "ytbahojdgcipahaa", sum := "cc0516f618355b80234874968cb1ec13935a2512747931aef7732ba5541b17d4", func := "loop.example/g01206/laws.FnExactInverseWord", spec := "fnExactInverseWord", unfollowed := true, recurses := true, apart := false, narrowed := true }
def FnExactInverseWordUptoSaid : Prop := fnExactInverseWordUptoRow.holds Try.pinned (OpenSpec.upto fnExactInverseWordSpec)

/-- 'laws.FnExactHasMember', WHERE WHAT IT READS IS OF BULK AT MOST 1048576: true; the input reads as it did. -/
def fnExactHasMemberUptoRow : OpenClaim := { program := "ytbahojdgcipahaa", sum := "cc0516f618355b80234874968cb1ec13935a2512747931aef7732ba5541b17d4", func := "loop.example/g01206/laws.FnExactHasMember", spec := "fnExactHasMember", unfollowed := true, recurses := true, apart := false, narrowed := true }
def FnExactHasMemberUptoSaid : Prop := fnExactHasMemberUptoRow.holds Try.pinned (OpenSpec.upto fnExactHasMemberSpec)

/-- 'laws.FnExactTurnWord', WHERE WHAT IT READS IS OF BULK AT MOST 1048576: true; the input reads as it did. -/
def fnExactTurnWordUptoRow : OpenClaim := { program := "ytbahojdgcipahaa", sum := "cc0516f618355b80234874968cb1ec13935a2512747931aef7732ba5541b17d4", func := "loop.example/g01206/laws.FnExactTurnWord", spec := "fnExactTurnWord", unfollowed := true, recurses := true, apart := false, narrowed := true }
def FnExactTurnWordUptoSaid : Prop := fnExactTurnWordUptoRow.holds Try.pinned (OpenSpec.upto fnExactTurnWordSpec)

/-- 'laws.FnExactBalancedTree', WHERE WHAT IT READS IS OF BULK AT MOST 1048576: true; the input reads as it did. -/
def fnExactBalancedTreeUptoRow : OpenClaim := { program := "ytbahojdgcipahaa", sum := "cc0516f618355b80234874968cb1ec13935a2512747931aef7732ba5541b17d4", func := "loop.example/g01206/laws.FnExactBalancedTree", spec := "fnExactBalancedTree", recurses := true, apart := false, narrowed := true }
def FnExactBalancedTreeUptoSaid : Prop := fnExactBalancedTreeUptoRow.holds Try.pinned (OpenSpec.upto fnExactBalancedTreeSpec)

end Rows
end Go.Proofs.Ytbahojdgcipahaa
