/- FnExactIsWord's pure statement: both sides ask for at most 64 letters. No condition. -/
import Derived.Test.YtgdpgnlajaphaaaPx2
import Derived.Test.YtgdpgnlajaphaaaLInts
import Derived.Test.YtgdpgnlajaphaaaLWords
namespace Go.Proofs.Ytgdpgnlajaphaaa.Pure
open Go.RowKit Go.Proofs.Ytgdpgnlajaphaaa.P Go.Proofs.YtgdpgnlajaphaaaW.PrintWords Go.Proofs.YtgdpgnlajaphaaaW.PrintLast
theorem FnExactIsWord : laws_FnExactIsWord.Pure := by
  intro l hm h8 hw
  apply Ev.rounds
  by_cases hbig : (l.length : Int) > 1048576
  · exact Ev.congr (fun k => by unfold laws_FnExactIsWord.f; rw [if_pos hbig]) (Ev.now _)
  have hl : l.length ≤ 1048576 := by omega
  refine Ev.congr (fun k => by unfold laws_FnExactIsWord.f spec_IsWord.f impl_IsWord.f; rw [if_neg hbig]) ?_
  refine Ev.bind (L.toIntS l hl) (Ev.bind (Ev.bind (L.l2Word l (by omega)) (Ev.now _)) (Ev.bind (L.toIntS l hl) ?_))
  simp only [L.isWord, Option.bind_some, bne_self_eq_false, Bool.false_eq_true, ↓reduceIte]
  exact Ev.bind (L.toIntS l hl) (Ev.bind (L.eqIntS_yes l (by omega)) (Ev.now _))
end Go.Proofs.Ytgdpgnlajaphaaa.Pure
