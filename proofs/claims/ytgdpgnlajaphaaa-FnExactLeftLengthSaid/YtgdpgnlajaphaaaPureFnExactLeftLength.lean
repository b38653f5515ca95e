/- FnExactLeftLength's pure statement: both loops give one number for 1 to 40, and 0 and false outside. No condition. -/
import Derived.Test.YtgdpgnlajaphaaaPFnExactLeftLengthx1
namespace Go.Proofs.Ytgdpgnlajaphaaa.Pure
open Go.RowKit Go.Proofs.Ytgdpgnlajaphaaa.PFnExactLeftLength Go.Proofs.YtgdpgnlajaphaaaW.PrintWords Go.Proofs.YtgdpgnlajaphaaaW.PrintLast
theorem left_small : ∀ n : Nat, n < 41 → laws_FnExactLeftLength.f 50 (n : Int) = some true := by decide +kernel

theorem FnExactLeftLength : laws_FnExactLeftLength.Pure := by
  intro a0 _
  refine ⟨50, ?_⟩
  by_cases h : 1 ≤ a0 ∧ a0 ≤ 40
  · obtain ⟨n, rfl⟩ := Int.eq_ofNat_of_zero_le (a := a0) (by omega)
    exact left_small n (by omega)
  · unfold laws_FnExactLeftLength.f spec_LeftLength.f impl_LeftLength.f spec_l1In.f impl_isCount.f
    by_cases h1 : a0 ≥ 1
    · have h2 : ¬ a0 ≤ 40 := by omega
      simp [h1, h2]
    · simp [h1]
end Go.Proofs.Ytgdpgnlajaphaaa.Pure
