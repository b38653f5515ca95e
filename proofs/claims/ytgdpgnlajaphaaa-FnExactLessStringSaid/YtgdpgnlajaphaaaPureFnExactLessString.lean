/- FnExactLessString's pure statement: both sides compare the bytes alike. No condition. -/
import Derived.Test.YtgdpgnlajaphaaaPFnExactLessStringx1
namespace Go.Proofs.Ytgdpgnlajaphaaa.Pure
open Go.RowKit Go.Proofs.Ytgdpgnlajaphaaa.PFnExactLessString Go.Proofs.YtgdpgnlajaphaaaW.PrintWords Go.Proofs.YtgdpgnlajaphaaaW.PrintLast
theorem FnExactLessString : laws_FnExactLessString.Pure := by
  intro a0 a1 _ _
  unfold laws_FnExactLessString.f spec_LessString.f impl_LessString.f
  simp
end Go.Proofs.Ytgdpgnlajaphaaa.Pure
