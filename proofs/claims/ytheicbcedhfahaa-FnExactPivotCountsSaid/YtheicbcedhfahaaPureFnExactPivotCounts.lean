/- FnExactPivotCounts's pure statement: both sides come to one answer. No condition. -/
import Derived.Test.YtheicbcedhfahaaPx37
import Derived.Test.YtheicbcedhfahaaLFnExactPivotCounts
namespace Go.Proofs.Ytheicbcedhfahaa.Pure
open Go.RowKit Go.Proofs.Ytheicbcedhfahaa.P Go.Proofs.YtheicbcedhfahaaW.PrintWords Go.Proofs.YtheicbcedhfahaaW.PrintLast
set_option linter.unusedVariables false
set_option linter.unusedSimpArgs false
theorem FnExactPivotCounts : laws_FnExactPivotCounts.Pure := by
  intro l0 hm0 hw0
  apply Ev.rounds
  by_cases hl0 : ¬ l0.length ≤ 1048576
  · exact Ev.congr (f := fun _ => some true) (fun k => by unfold laws_FnExactPivotCounts.f; rw [L.szFamily_big l0 hl0 hm0, Option.bind_some, if_pos (by omega)]) (Ev.now _)
  replace hl0 := Classical.not_not.1 hl0
  obtain ⟨⟨r0, r1⟩, hS, hI⟩ := L.PivotCounts_both l0 hl0
  refine Ev.congr (fun k => by unfold laws_FnExactPivotCounts.f; rw [L.szFamily_ok l0 hl0, Option.bind_some, if_neg (by omega)]) ?_
  repeat' (first
    | with_reducible exact Ev.now _
    | (with_reducible refine Ev.bind hS ?_)
    | (with_reducible refine Ev.bind hI ?_)
    | (with_reducible refine Ev.bind (L.toFamily _ (by assumption)) ?_)
    | (with_reducible refine Ev.bind (L.eqFamily_yes _ (by assumption)) ?_)
    | (with_reducible refine Ev.bind (L.eqIntA6_yes _) ?_)
    | simp only [bne_self_eq_false, beq_self_eq_true, Bool.false_eq_true, ↓reduceIte, Option.bind_some, decide_true, Bool.not_true, Bool.not_false]
    | (refine L.Ev.succ ?_; simp only [laws_FnExactPivotCounts.j0])
    )
end Go.Proofs.Ytheicbcedhfahaa.Pure
