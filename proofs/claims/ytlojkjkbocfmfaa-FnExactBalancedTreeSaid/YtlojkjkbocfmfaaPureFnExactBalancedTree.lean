/- FnExactBalancedTree's pure statement: both sides come to one answer, and the slices handed over and back read as they should. No condition. -/
import Derived.Test.YtlojkjkbocfmfaaPx19
import Derived.Test.YtlojkjkbocfmfaaLFnExactBalancedTree
namespace Go.Proofs.Ytlojkjkbocfmfaa.Pure
open Go.RowKit Go.Proofs.Ytlojkjkbocfmfaa.P Go.Proofs.YtlojkjkbocfmfaaW.PrintWords Go.Proofs.YtlojkjkbocfmfaaW.PrintLast
set_option linter.unusedVariables false
set_option linter.unusedSimpArgs false
theorem FnExactBalancedTree : laws_FnExactBalancedTree.Pure := by
  intro l0 hm0 h80 hw0
  apply Ev.rounds
  by_cases hbig0 : (l0.length : Int) > 1048576
  · exact Ev.congr (fun k => by unfold laws_FnExactBalancedTree.f; rw [if_pos hbig0]) (Ev.now _)
  have hl0 : l0.length ≤ 1048576 := by omega
  have hS := L.spec_BalancedTree l0 hl0
  have hI := L.impl_BalancedTree l0 hl0
  generalize L.vBalancedTree l0 = v at *
  obtain ⟨r0, r1⟩ := v
  refine Ev.congr (fun k => by unfold laws_FnExactBalancedTree.f; rw [if_neg hbig0]) ?_
  repeat' (first
    | with_reducible exact Ev.now _
    | (with_reducible refine Ev.bind hS ?_)
    | (with_reducible refine Ev.bind hI ?_)
    | (with_reducible refine Ev.bind (L.toIntS _ (by assumption)) ?_)
    | (with_reducible refine Ev.bind (L.eqIntS_yes _ (by omega)) ?_)
    | simp only [bne_self_eq_false, beq_self_eq_true, Bool.false_eq_true, ↓reduceIte, L.nn1, L.nn2, L.nn3, L.nn4, L.marks_len, Option.bind_some, decide_true, Bool.not_true, Bool.not_false]
    | (refine L.Ev.succ ?_; simp only [laws_FnExactBalancedTree.j0])
    )
end Go.Proofs.Ytlojkjkbocfmfaa.Pure
