/- FnExactIsTree's pure statement: both sides come to one answer. No condition. -/
import Derived.Test.YtlojkjkbocfmfaaPx26
import Derived.Test.YtlojkjkbocfmfaaLFnExactIsTree
import Derived.Test.YtlojkjkbocfmfaaLFnExactIsTree
import Derived.Test.YtlojkjkbocfmfaaLFnExactIsTree
import Derived.Test.YtlojkjkbocfmfaaLFnExactIsTree
import Derived.Test.YtlojkjkbocfmfaaLFnExactIsTree
import Derived.Test.YtlojkjkbocfmfaaLFnExactIsTree
import Derived.Test.YtlojkjkbocfmfaaLFnExactIsTree
import Derived.Test.YtlojkjkbocfmfaaLFnExactIsTree
import Derived.Test.YtlojkjkbocfmfaaLFnExactIsTree
import Derived.Test.YtlojkjkbocfmfaaLFnExactIsTree
import Derived.Test.YtlojkjkbocfmfaaLFnExactIsTree
import Derived.Test.YtlojkjkbocfmfaaLFnExactIsTree
namespace Go.Proofs.Ytlojkjkbocfmfaa.Pure
open Go.RowKit Go.Proofs.Ytlojkjkbocfmfaa.P Go.Proofs.YtlojkjkbocfmfaaW.PrintWords Go.Proofs.YtlojkjkbocfmfaaW.PrintLast
set_option linter.unusedVariables false
set_option linter.unusedSimpArgs false
theorem FnExactIsTree : laws_FnExactIsTree.Pure := by
  intro a0 hs0
  apply Ev.rounds
  by_cases hbig0 : (a0.size : Int) > 1048576
  · exact Ev.congr (fun k => by unfold laws_FnExactIsTree.f; rw [if_pos hbig0]) (Ev.now _)
  refine Ev.congr (fun k => by unfold laws_FnExactIsTree.f; rw [if_neg hbig0]) (Ev.bind (L.spec_IsTree a0) (Ev.bind (L.impl_IsTree a0) ?_))
  exact Ev.congr (fun k => by rw [if_neg (by simp)]) (Ev.now _)
end Go.Proofs.Ytlojkjkbocfmfaa.Pure
