/- FnExactSplitString's pure statement: both sides split alike, and each call's slice is its own. No condition. -/
import Derived.Test.YtbahojdgcipahaaPx4
import Derived.Test.YtbahojdgcipahaaLStrs
namespace Go.Proofs.Ytbahojdgcipahaa.Pure
open Go.RowKit Go.Proofs.Ytbahojdgcipahaa.P Go.Proofs.YtbahojdgcipahaaW.PrintWords Go.Proofs.YtbahojdgcipahaaW.PrintLast
set_option linter.unusedVariables false
set_option linter.unusedSimpArgs false
theorem FnExactSplitString : laws_FnExactSplitString.Pure := by
  intro a0 a1 hs0 hs1
  apply Ev.rounds
  by_cases hbig0 : (a0.size : Int) > 1048576
  · exact Ev.congr (fun k => by unfold laws_FnExactSplitString.f; rw [if_pos hbig0]) (Ev.now _)
  by_cases hbig1 : (a1.size : Int) > 1048576
  · exact Ev.congr (fun k => by unfold laws_FnExactSplitString.f; rw [if_neg hbig0, if_pos hbig1]) (Ev.now _)
  obtain ⟨⟨r0, r1⟩, hv, hS, hI⟩ := L.SplitString_both a0 a1 (by omega)
  dsimp only at hv
  refine Ev.congr (fun k => by unfold laws_FnExactSplitString.f; rw [if_neg hbig0, if_neg hbig1]) ?_
  repeat' (first
    | with_reducible exact Ev.now _
    | (with_reducible refine Ev.bind hS ?_)
    | (with_reducible refine Ev.bind hI ?_)
    | (with_reducible refine Ev.bind (L.eqStringS_yes _ (by omega)) ?_)
    | (with_reducible refine Ev.bind (L.markStringS _ (by omega)) ?_)
    | (with_reducible refine Ev.bind (L.heldStringS _ (by omega)) ?_)
    | simp only [bne_self_eq_false, beq_self_eq_true, Bool.false_eq_true, ↓reduceIte, L.nn1, Option.bind_some, decide_true, L.tmarks_len]
    | (refine L.Ev.succ ?_; simp only [laws_FnExactSplitString.j0])
    | (refine L.Ev.succ ?_; simp only [laws_FnExactSplitString.j1])
    )
end Go.Proofs.Ytbahojdgcipahaa.Pure
