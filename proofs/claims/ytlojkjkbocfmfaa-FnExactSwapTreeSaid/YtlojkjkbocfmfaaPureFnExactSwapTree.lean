/- FnExactSwapTree's pure statement: both sides come to one answer, and the slices handed over and back read as they should. No condition. -/
import Derived.Test.YtlojkjkbocfmfaaPx29
import Derived.Test.YtlojkjkbocfmfaaLFnExactSwapTree
namespace Go.Proofs.Ytlojkjkbocfmfaa.Pure
open Go.RowKit Go.Proofs.Ytlojkjkbocfmfaa.P Go.Proofs.YtlojkjkbocfmfaaW.PrintWords Go.Proofs.YtlojkjkbocfmfaaW.PrintLast
set_option linter.unusedVariables false
set_option linter.unusedSimpArgs false
theorem FnExactSwapTree : laws_FnExactSwapTree.Pure := by
  intro a0 hs0
  apply Ev.rounds
  by_cases hbig0 : (a0.size : Int) > 1048576
  · exact Ev.congr (fun k => by unfold laws_FnExactSwapTree.f; rw [if_pos hbig0]) (Ev.now _)
  have hl0 : a0.size ≤ 1048576 := by omega
  have hS := L.spec_SwapTree a0 hl0
  have hI := L.impl_SwapTree a0 hl0
  generalize L.vSwapTree a0 = v at *
  obtain ⟨r0, r1⟩ := v
  refine Ev.congr (fun k => by unfold laws_FnExactSwapTree.f; rw [if_neg hbig0]) ?_
  repeat' (first
    | with_reducible exact Ev.now _
    | (with_reducible refine Ev.bind hS ?_)
    | (with_reducible refine Ev.bind hI ?_)
    | simp only [bne_self_eq_false, beq_self_eq_true, Bool.false_eq_true, ↓reduceIte, L.nn1, L.nn2, L.nn3, L.nn4, L.marks_len, Option.bind_some, decide_true, Bool.not_true, Bool.not_false]
    )
end Go.Proofs.Ytlojkjkbocfmfaa.Pure
