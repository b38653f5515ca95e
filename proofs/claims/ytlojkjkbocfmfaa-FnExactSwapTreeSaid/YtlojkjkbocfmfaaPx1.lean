/- Each call of a Go function named below comes to exactly the answers of the Lean function of its name, and a law row follows from its plain statement. No condition beyond those that each theorem states. -/
import Derived.Test.YtlojkjkbocfmfaaPx0
namespace Go.Proofs.Ytlojkjkbocfmfaa.P
open Go.RowKit Go.Proofs.YtlojkjkbocfmfaaW.PrintWords Go.Proofs.YtlojkjkbocfmfaaW.PrintLast Go.Proofs.YtlojkjkbocfmfaaW.PrintMore
attribute [local go_sem] max2_int min2_int max_two min_two max_three min_three max_four min_four   -- for this text's walks alone
set_option linter.unusedVariables false
set_option linter.unusedSimpArgs false

/-! ### impl_tree_isLeaf: function 47 -/
/-- What the three cells of a tree's struct hold. -/
def trCells : Tr → List Value → Prop
  | .leaf l, cs => ∃ A c, cs = [.slice A l.length c, .pointer none, .pointer none]
  | .node _ _, cs => ∃ p q, cs = [.slice none 0 0, .pointer (some ⟨p, 0, none⟩), .pointer (some ⟨q, 0, none⟩)]
def Tr.isLeaf : Tr → Bool
  | .leaf _ => true
  | .node _ _ => false
set_option maxHeartbeats 1000000 in
theorem impl_tree_isLeaf.calls (t : Tr) (n b : Nat) (w : World) (h : TrAt 60 3 n w t b) :
    Calls Try.prog 47 #[.pointer (some ⟨b, 0, none⟩)] w fun e w' => e = .returned (.bool t.isLeaf) ∧ w' = w := by
  cases t with
  | leaf l =>
    obtain ⟨-, v, h1, -⟩ := h
    have h2 := (h1.at 1 (.pointer none) rfl).1
    clear h1
    go_enter Try.func47, Try.ntmps47
    go_wp2
    go_ret
    exact ⟨rfl, rfl⟩
  | node s t =>
    obtain ⟨-, p, q, h1, -, -⟩ := h
    have h2 := (h1.at 1 (.pointer (some ⟨p, 0, none⟩)) rfl).1
    clear h1
    go_enter Try.func47, Try.ntmps47
    go_wp2
    go_ret
    exact ⟨rfl, rfl⟩

end Go.Proofs.Ytlojkjkbocfmfaa.P
