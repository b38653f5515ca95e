/- FnExactLettersLeft's pure statement: both sides come to one answer. No condition. -/
import Derived.Test.YtjjoinhackfmnaaPx22
import Derived.Test.YtjjoinhackfmnaaLFnExactLettersLeft
namespace Go.Proofs.Ytjjoinhackfmnaa.Pure
open Go.RowKit Go.Proofs.Ytjjoinhackfmnaa.P Go.Proofs.YtjjoinhackfmnaaW.PrintWords Go.Proofs.YtjjoinhackfmnaaW.PrintLast
set_option linter.unusedVariables false
set_option linter.unusedSimpArgs false
theorem FnExactLettersLeft : laws_FnExactLettersLeft.Pure := by
  intro l0 hm0 h80 hw0
  apply Ev.rounds
  by_cases hbig0 : (l0.length : Int) > 1048576
  · exact Ev.congr (fun k => by unfold laws_FnExactLettersLeft.f; rw [if_pos hbig0]) (Ev.now _)
  have hl0 : l0.length ≤ 1048576 := by omega
  refine Ev.congr (fun k => by unfold laws_FnExactLettersLeft.f; rw [if_neg hbig0]) ?_
  exact Ev.bind (L.toIntS _ hl0) (Ev.bind (L.spec_LettersLeft l0 hl0) (Ev.bind (L.impl_LettersLeft l0 hl0) (Ev.bind (L.eqIntS_yes _ (by omega)) (Ev.congr (f := fun _ => some true) (fun k => by rw [if_pos ⟨rfl, rfl⟩]) (Ev.now _)))))
end Go.Proofs.Ytjjoinhackfmnaa.Pure
