/- Each call of a Go function named below comes to exactly the answers of the Lean function of its name, and a law row follows from its plain statement. No condition beyond those that each theorem states. -/
import Derived.Test.YtlojkjkbocfmfaaPx0
import Derived.Test.YtlojkjkbocfmfaaPx8
namespace Go.Proofs.Ytlojkjkbocfmfaa.P
open Go.RowKit Go.Proofs.YtlojkjkbocfmfaaW.PrintWords Go.Proofs.YtlojkjkbocfmfaaW.PrintLast Go.Proofs.YtlojkjkbocfmfaaW.PrintMore
attribute [local go_sem] max2_int min2_int max_two min_two max_three min_three max_four min_four   -- for this text's walks alone
set_option linter.unusedVariables false
set_option linter.unusedSimpArgs false

/-! ### impl_treeOf: function 43 -/
def impl_treeOf.f (k : Nat) (s : ByteArray) : Option (Tr × Bool) := if (s.size : Int) > 80 then some (.leaf [], false) else (impl_readTree.f k s).bind fun q => some (q.1, q.2.2 && q.2.1.toList.isEmpty)
theorem impl_treeOf.mono : ∀ s k, LeO (impl_treeOf.f k s) (impl_treeOf.f (k + 1) s) := fun s k => LeO.ite (LeO.refl _) (LeO.bind (impl_readTree.mono s k) (fun _ => LeO.refl _))
set_option maxHeartbeats 4000000 in
set_option maxRecDepth 100000 in
theorem impl_treeOf.calls (k : Nat) (s : ByteArray) (t : Tr) (ok : Bool) (w : World) (h : impl_treeOf.f k s = some (t, ok)) :
    Calls Try.prog 43 #[.string s] w fun e w' => ∃ v, e = .returned (.tuple #[v, .bool ok]) ∧ (ok = true → ∃ b, v = .pointer (some ⟨b, 0, none⟩) ∧ TrAt 60 3 w.heap.size w' t b) ∧ Below w.heap.size w w' := by
  unfold impl_treeOf.f at h
  by_cases hs : (s.size : Int) > 80
  · rw [if_pos hs] at h
    obtain ⟨rfl, rfl⟩ : Tr.leaf [] = t ∧ false = ok := by simpa using h
    have c1 : decide (80 < (s.size : Int)) = true := decide_eq_true hs
    clear h hs
    go_enter Try.func43, Try.ntmps43
    go_wp2
    go_ret2
    exact ⟨_, rfl, fun h => absurd h (by decide), Below.refl _ _⟩
  · rw [if_neg hs] at h
    obtain ⟨⟨t1, q, o⟩, hr, h2⟩ := Option.bind_eq_some_iff.1 h
    have h3 := Option.some.inj h2
    simp only [Prod.mk.injEq] at h3
    obtain ⟨rfl, rfl⟩ := h3
    have c1 : decide (80 < (s.size : Int)) = false := decide_eq_false hs
    have HR := Aside0.mk (fun W => impl_readTree.calls k s t1 q o W hr)
    clear h hs hr h2
    cases o with
    | false =>
      go_enter Try.func43, Try.ntmps43
      go_wp2_with (go_at_call 62; refine (HR.out _).mono ?_; rintro e w1 ⟨v1, rfl, h1, hb1⟩)
      go_ret2
      exact ⟨v1, rfl, fun h => absurd h (by simp), hb1⟩
    | true =>
      cases he : q.toList.isEmpty
      all_goals
        go_enter Try.func43, Try.ntmps43
        go_wp2_with (go_at_call 62; refine (HR.out _).mono ?_; rintro e w1 ⟨v1, rfl, h1, hb1⟩)
        go_ret2
        exact ⟨v1, rfl, fun _ => by first | exact h1 rfl | exact h1 trivial, hb1⟩

end Go.Proofs.Ytlojkjkbocfmfaa.P
