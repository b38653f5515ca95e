/- FnExactBalancedLength's pure statement: both recursions give one number for 1 to 40, and 0 and false outside. No condition. -/
import Derived.Test.YtgdpgnlajaphaaaPFnExactBalancedLengthx1
namespace Go.Proofs.Ytgdpgnlajaphaaa.Pure
open Go.RowKit Go.Proofs.Ytgdpgnlajaphaaa.PFnExactBalancedLength Go.Proofs.YtgdpgnlajaphaaaW.PrintWords Go.Proofs.YtgdpgnlajaphaaaW.PrintLast
theorem balanced_small : ∀ n : Nat, n < 41 → 1 ≤ n → laws_FnExactBalancedLength.f 9 (n : Int) = some true := by decide +kernel

theorem FnExactBalancedLength : laws_FnExactBalancedLength.Pure := by
  intro a0 _
  refine ⟨9, ?_⟩
  by_cases h : 1 ≤ a0 ∧ a0 ≤ 40
  · obtain ⟨n, rfl⟩ := Int.eq_ofNat_of_zero_le (a := a0) (by omega)
    exact balanced_small n (by omega) (by omega)
  · unfold laws_FnExactBalancedLength.f spec_BalancedLength.f impl_BalancedLength.f spec_l1In.f impl_isCount.f
    by_cases h1 : a0 ≥ 1
    · have h2 : ¬ a0 ≤ 40 := by omega
      simp [h1, h2]
    · simp [h1]
end Go.Proofs.Ytgdpgnlajaphaaa.Pure
