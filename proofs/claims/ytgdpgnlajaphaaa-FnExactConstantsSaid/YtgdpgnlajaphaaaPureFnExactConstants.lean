/- FnExactConstants' pure statement: the law's Lean function answers true. No condition. -/
import Derived.Test.YtgdpgnlajaphaaaPFnExactConstantsx1
namespace Go.Proofs.Ytgdpgnlajaphaaa.Pure
open Go.RowKit Go.Proofs.Ytgdpgnlajaphaaa.PFnExactConstants Go.Proofs.YtgdpgnlajaphaaaW.PrintWords Go.Proofs.YtgdpgnlajaphaaaW.PrintLast
theorem FnExactConstants : laws_FnExactConstants.Pure := by
  unfold laws_FnExactConstants.Pure laws_FnExactConstants.f
  rfl
end Go.Proofs.Ytgdpgnlajaphaaa.Pure
