/- What the functions on words come to: letters, words, what is reduced, the inverse. Conditions: as each lemma says; none on a word. -/
import Derived.Test.YtgdpgnlajaphaaaPx1
import Derived.Test.YtgdpgnlajaphaaaLBase
namespace Go.Proofs.Ytgdpgnlajaphaaa.L
open Go.RowKit Go.Proofs.Ytgdpgnlajaphaaa.P Go.Proofs.YtgdpgnlajaphaaaW.PrintWords
set_option linter.unusedVariables false
set_option linter.unusedSimpArgs false

theorem l2Letter (x : Int) : spec_l2Letter.f x = some (isL x) := by
  unfold spec_l2Letter.f spec_l1In.f isL
  by_cases h0 : x = 0
  · simp [h0]
  · by_cases h1 : x ≥ -6
    · simp [h0, h1]
    · simp [h0, h1]
theorem l2Word_round (l : List Int) (hl : l.length ≤ 4611686018427387904) : ∀ (d i : Nat), i ≤ l.length → l.length - i = d →
    Ev (fun k => spec_l2Word.l0 k l (i : Int)) (decide (l.length ≤ 64) && (l.drop i).all isL) := by
  intro d
  induction d with
  | zero =>
    intro i hi hd
    refine Ev.succ (Ev.congr (f := fun k => spec_l2Word.j1 k l (i : Int) false) (fun k => ?_) (Ev.succ ?_))
    · simp only [spec_l2Word.l0]; rw [if_neg (by omega)]
    · refine Ev.congr (f := fun _ => some (decide ((l.length : Int) ≤ 64))) (fun k => ?_) (Ev.pin (Ev.now _) ?_)
      · simp only [spec_l2Word.j1]; rw [if_neg (by simp)]
      · rw [List.drop_of_length_le (by omega)]; simp; omega
  | succ d ih =>
    intro i hi hd
    have hlt : i < l.length := by omega
    by_cases h64 : i ≤ 64
    · refine Ev.succ (Ev.congr (f := fun k => spec_l2Word.j1 k l (i : Int) true) (fun k => ?_) (Ev.succ ?_))
      · simp only [spec_l2Word.l0]; rw [if_pos (by omega), show decide ((i : Int) ≤ 64) = true from by simp; omega]
      · have hx : l.drop i = l[i] :: l.drop (i + 1) := List.drop_eq_getElem_cons hlt
        have hg : rd l (i : Int) = l[i] := by rw [rd_nat, List.getD_eq_getElem?_getD, List.getElem?_eq_getElem hlt]; rfl
        rw [hx, List.all_cons]
        cases hL : isL l[i] with
        | true =>
          refine Ev.congr (fun k => ?_) (Ev.pin (ih (i + 1) (by omega) (by omega)) (by simp))
          rw [spec_l2Word.j1, if_pos rfl, if_pos (by omega), if_pos (by omega), hg, l2Letter, hL, Option.bind_some, if_pos rfl, wr (by omega) (by omega)]
          rfl
        | false =>
          refine Ev.congr (f := fun _ => some false) (fun k => ?_) (Ev.pin (Ev.now _) (by simp))
          rw [spec_l2Word.j1, if_pos rfl, if_pos (by omega), if_pos (by omega), hg, l2Letter, hL, Option.bind_some, if_neg (by simp)]
    · refine Ev.succ (Ev.congr (f := fun k => spec_l2Word.j1 k l (i : Int) false) (fun k => ?_) (Ev.succ ?_))
      · simp only [spec_l2Word.l0]; rw [if_pos (by omega), show decide ((i : Int) ≤ 64) = false from by simp; omega]
      · refine Ev.congr (f := fun _ => some (decide ((l.length : Int) ≤ 64))) (fun k => ?_) (Ev.pin (Ev.now _) ?_)
        · simp only [spec_l2Word.j1]; rw [if_neg (by simp)]
        · rw [decide_eq_false (by omega), decide_eq_false (by omega)]; rfl
theorem l2Word (l : List Int) (hl : l.length ≤ 4611686018427387904) : Ev (fun k => spec_l2Word.f k l) (isW l) :=
  Ev.congr (fun k => by unfold spec_l2Word.f; rfl) (Ev.pin (l2Word_round l hl l.length 0 (by omega) (by omega)) (by simp [isW]))
theorem isWord (l : List Int) : impl_isWord.f l = some (isW l) := by
  unfold impl_isWord.f isW
  congr 2
  rw [Bool.eq_iff_iff]
  simp [P.isL, L.isL]
end Go.Proofs.Ytgdpgnlajaphaaa.L
