/- FnExactCountFamilies's pure statement: both sides come to one answer. No condition. -/
import Derived.Test.YtlojkjkbocfmfaaPx27
import Derived.Test.YtlojkjkbocfmfaaLFnExactCountFamilies
namespace Go.Proofs.Ytlojkjkbocfmfaa.Pure
open Go.RowKit Go.Proofs.Ytlojkjkbocfmfaa.P Go.Proofs.YtlojkjkbocfmfaaW.PrintWords Go.Proofs.YtlojkjkbocfmfaaW.PrintLast
set_option linter.unusedVariables false
set_option linter.unusedSimpArgs false
theorem FnExactCountFamilies : laws_FnExactCountFamilies.Pure := by
  intro a0 hs0
  apply Ev.rounds
  by_cases h : 0 ≤ a0 ∧ a0 ≤ 4
  · obtain ⟨n, hn, rfl⟩ : ∃ n : Nat, n ≤ 4 ∧ a0 = (n : Int) := ⟨a0.toNat, by omega, by omega⟩
    refine Ev.congr (fun k => by unfold laws_FnExactCountFamilies.f; rfl) (Ev.bind (L.cf_spec n hn) (Ev.bind (L.cf_impl n hn) ?_))
    simp only [bne_self_eq_false, Bool.false_eq_true, ↓reduceIte]
    exact Ev.now _
  · have hS : ∀ k, spec_CountFamilies.f k a0 = some (0, false) := fun k => by
      unfold spec_CountFamilies.f spec_l1In.f
      by_cases h0 : a0 ≥ 0
      · rw [if_pos h0, Option.bind_some, if_neg (by simp; omega)]
      · rw [if_neg h0, Option.bind_some, if_neg (by simp)]
    have hI : ∀ k, impl_CountFamilies.f k a0 = some (0, false) := fun k => by
      unfold impl_CountFamilies.f
      by_cases h0 : a0 < 0
      · rw [if_pos h0]
      · rw [if_neg h0, if_pos (by omega)]
    refine Ev.congr (f := fun _ => some true) (fun k => by unfold laws_FnExactCountFamilies.f; rw [hS, Option.bind_some, hI, Option.bind_some]; rfl) (Ev.now _)
end Go.Proofs.Ytlojkjkbocfmfaa.Pure
