/- FnExactAreConjugate's pure statement: both sides come to one answer, and the slices handed over and back read as they should. No condition. -/
import Derived.Test.YtheicbcedhfahaaPx25
import Derived.Test.YtheicbcedhfahaaLFnExactAreConjugate
namespace Go.Proofs.Ytheicbcedhfahaa.Pure
open Go.RowKit Go.Proofs.Ytheicbcedhfahaa.P Go.Proofs.YtheicbcedhfahaaW.PrintWords Go.Proofs.YtheicbcedhfahaaW.PrintLast
set_option linter.unusedVariables false
set_option linter.unusedSimpArgs false
theorem FnExactAreConjugate : laws_FnExactAreConjugate.Pure := by
  intro l0 l1 hm0 h80 hw0 hm1 h81 hw1
  apply Ev.rounds
  by_cases hbig0 : (l0.length : Int) > 1048576
  · exact Ev.congr (fun k => by unfold laws_FnExactAreConjugate.f; rw [if_pos hbig0]) (Ev.now _)
  have hl0 : l0.length ≤ 1048576 := by omega
  by_cases hbig1 : (l1.length : Int) > 1048576
  · exact Ev.congr (fun k => by unfold laws_FnExactAreConjugate.f; rw [if_neg hbig0, if_pos hbig1]) (Ev.now _)
  have hl1 : l1.length ≤ 1048576 := by omega
  have hS := L.spec_AreConjugate l0 l1 hl0 hl1
  have hI := L.impl_AreConjugate l0 l1 hl0 hl1
  generalize L.vAreConjugate l0 l1 = v at *
  obtain ⟨r0, r1⟩ := v
  refine Ev.congr (fun k => by unfold laws_FnExactAreConjugate.f; rw [if_neg hbig0, if_neg hbig1]) ?_
  repeat' (first
    | with_reducible exact Ev.now _
    | (with_reducible refine Ev.bind hS ?_)
    | (with_reducible refine Ev.bind hI ?_)
    | (with_reducible refine Ev.bind (L.toIntS _ (by assumption)) ?_)
    | (with_reducible refine Ev.bind (L.eqIntS_yes _ (by omega)) ?_)
    | simp only [bne_self_eq_false, beq_self_eq_true, Bool.false_eq_true, ↓reduceIte, L.nn1, L.nn2, L.nn3, L.nn4, L.marks_len, Option.bind_some, decide_true, Bool.not_true, Bool.not_false]
    | (refine L.Ev.succ ?_; simp only [laws_FnExactAreConjugate.j0])
    | (refine L.Ev.succ ?_; simp only [laws_FnExactAreConjugate.j1])
    | (refine L.Ev.succ ?_; simp only [laws_FnExactAreConjugate.j2])
    )
end Go.Proofs.Ytheicbcedhfahaa.Pure
