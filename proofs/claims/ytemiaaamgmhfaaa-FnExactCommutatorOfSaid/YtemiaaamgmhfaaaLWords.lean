/- What the functions on words come to: letters, words, what is reduced, the inverse. Conditions: as each lemma says; none on a word. -/
import Derived.Test.YtemiaaamgmhfaaaPx1
import Derived.Test.YtemiaaamgmhfaaaPx2
import Derived.Test.YtemiaaamgmhfaaaPx3
import Derived.Test.YtemiaaamgmhfaaaPx4
import Derived.Test.YtemiaaamgmhfaaaPx5
import Derived.Test.YtemiaaamgmhfaaaLBase
namespace Go.Proofs.Ytemiaaamgmhfaaa.L
open Go.RowKit Go.Proofs.Ytemiaaamgmhfaaa.P Go.Proofs.YtemiaaamgmhfaaaW.PrintWords
set_option linter.unusedVariables false
set_option linter.unusedSimpArgs false

theorem l2Letter (x : Int) : spec_l2Letter.f x = some (isL x) := by
  unfold spec_l2Letter.f spec_l1In.f isL
  by_cases h0 : x = 0
  · simp [h0]
  · by_cases h1 : x ≥ -6
    · simp [h0, h1]
    · simp [h0, h1]
theorem l2Word_round (l : List Int) (hl : l.length ≤ 4611686018427387904) : ∀ (d i : Nat), i ≤ l.length → l.length - i = d →
    Ev (fun k => spec_l2Word.l0 k l (i : Int)) (decide (l.length ≤ 64) && (l.drop i).all isL) := by
  intro d
  induction d with
  | zero =>
    intro i hi hd
    refine Ev.succ (Ev.congr (f := fun k => spec_l2Word.j1 k l (i : Int) false) (fun k => ?_) (Ev.succ ?_))
    · simp only [spec_l2Word.l0]; rw [if_neg (by omega)]
    · refine Ev.congr (f := fun _ => some (decide ((l.length : Int) ≤ 64))) (fun k => ?_) (Ev.pin (Ev.now _) ?_)
      · simp only [spec_l2Word.j1]; rw [if_neg (by simp)]
      · rw [List.drop_of_length_le (by omega)]; simp; omega
  | succ d ih =>
    intro i hi hd
    have hlt : i < l.length := by omega
    by_cases h64 : i ≤ 64
    · refine Ev.succ (Ev.congr (f := fun k => spec_l2Word.j1 k l (i : Int) true) (fun k => ?_) (Ev.succ ?_))
      · simp only [spec_l2Word.l0]; rw [if_pos (by omega), show decide ((i : Int) ≤ 64) = true from by simp; omega]
      · have hx : l.drop i = l[i] :: l.drop (i + 1) := List.drop_eq_getElem_cons hlt
        have hg : rd l (i : Int) = l[i] := by rw [rd_nat, List.getD_eq_getElem?_getD, List.getElem?_eq_getElem hlt]; rfl
        rw [hx, List.all_cons]
        cases hL : isL l[i] with
        | true =>
          refine Ev.congr (fun k => ?_) (Ev.pin (ih (i + 1) (by omega) (by omega)) (by simp))
          rw [spec_l2Word.j1, if_pos rfl, if_pos (by omega), if_pos (by omega), hg, l2Letter, hL, Option.bind_some, if_pos rfl, wr (by omega) (by omega)]
          rfl
        | false =>
          refine Ev.congr (f := fun _ => some false) (fun k => ?_) (Ev.pin (Ev.now _) (by simp))
          rw [spec_l2Word.j1, if_pos rfl, if_pos (by omega), if_pos (by omega), hg, l2Letter, hL, Option.bind_some, if_neg (by simp)]
    · refine Ev.succ (Ev.congr (f := fun k => spec_l2Word.j1 k l (i : Int) false) (fun k => ?_) (Ev.succ ?_))
      · simp only [spec_l2Word.l0]; rw [if_pos (by omega), show decide ((i : Int) ≤ 64) = false from by simp; omega]
      · refine Ev.congr (f := fun _ => some (decide ((l.length : Int) ≤ 64))) (fun k => ?_) (Ev.pin (Ev.now _) ?_)
        · simp only [spec_l2Word.j1]; rw [if_neg (by simp)]
        · rw [decide_eq_false (by omega), decide_eq_false (by omega)]; rfl
theorem l2Word (l : List Int) (hl : l.length ≤ 4611686018427387904) : Ev (fun k => spec_l2Word.f k l) (isW l) :=
  Ev.congr (fun k => by unfold spec_l2Word.f; rfl) (Ev.pin (l2Word_round l hl l.length 0 (by omega) (by omega)) (by simp [isW]))
theorem isWord (l : List Int) : impl_isWord.f l = some (isW l) := by
  unfold impl_isWord.f isW
  congr 2
  rw [Bool.eq_iff_iff]
  simp [P.isL, L.isL]
theorem l2Reduce_round (l : List Int) (hl : l.length ≤ 1048576) (hm : Mild l) : ∀ (d i : Nat) (acc : List Int), i ≤ l.length → l.length - i = d → acc.length ≤ i →
    Ev (fun k => spec_l2Reduce.l0 k l acc (i : Int)) (redF acc (l.drop i)) := by
  intro d
  induction d with
  | zero =>
    intro i acc hi hd ha
    refine Ev.succ (Ev.congr (f := fun _ => some acc) (fun k => ?_) (Ev.pin (Ev.now _) ?_))
    · simp only [spec_l2Reduce.l0]; rw [if_neg (by omega)]
    · rw [List.drop_of_length_le (by omega)]; rfl
  | succ d ih =>
    intro i acc hi hd ha
    have hlt : i < l.length := by omega
    have hg : rd l (i : Int) = l[i] := by rw [rd_nat, List.getD_eq_getElem?_getD, List.getElem?_eq_getElem hlt]; rfl
    have hb := hm l[i] (List.getElem_mem hlt)
    rw [List.drop_eq_getElem_cons hlt]
    have h := ih (i + 1) (red1 acc l[i]) (by omega) (by omega) (by have := red1_len acc l[i]; omega)
    refine Ev.succ (Ev.congr (fun k => ?_) (Ev.pin h rfl))
    simp only [spec_l2Reduce.l0]
    rw [if_pos (by omega)]
    by_cases h0 : acc = []
    · subst h0
      rw [if_neg (by simp), if_pos (by omega), if_pos (by simp), hg, wr (by omega) (by omega)]
      rfl
    · have hp : 0 < acc.length := List.length_pos_iff.2 h0
      rw [if_pos (by omega), wr (by omega) (by omega), if_pos (by omega), if_pos (by omega), if_pos (by omega), hg, rd_last acc h0, wr (i := -l[i]) (by omega) (by omega)]
      by_cases e : acc.getLast h0 = -l[i]
      · rw [if_pos e, if_pos (by omega), wr (by omega) (by omega), show ((acc.length : Int) - 1).toNat = acc.length - 1 from by omega, ← List.dropLast_eq_take]
        have : red1 acc l[i] = acc.dropLast := by unfold red1; rw [if_pos (by rw [List.getLast?_eq_some_getLast h0, e])]
        rw [this]; rfl
      · rw [if_neg e, if_pos (by omega), wr (by omega) (by omega)]
        have : red1 acc l[i] = acc ++ [l[i]] := by unfold red1; rw [if_neg (by rw [List.getLast?_eq_some_getLast h0]; simpa using e)]
        rw [this]; rfl
theorem l2Reduce (l : List Int) (hl : l.length ≤ 1048576) (hm : Mild l) : Ev (fun k => spec_l2Reduce.f k l) (red l) :=
  Ev.congr (fun k => by unfold spec_l2Reduce.f; rfl) (Ev.pin (l2Reduce_round l hl hm l.length 0 [] (by omega) (by omega) (by simp)) (by simp [red]))
theorem reduced_round (l : List Int) (hl : l.length ≤ 1048576) (hm : Mild l) : ∀ (d i : Nat) (acc : List Int), i ≤ l.length → l.length - i = d → acc.length ≤ i →
    Ev (fun k => impl_reduced.l0 k acc l (l.length : Int) (i : Int)) (redF acc (l.drop i)) := by
  intro d
  induction d with
  | zero =>
    intro i acc hi hd ha
    refine Ev.succ (Ev.congr (f := fun _ => some acc) (fun k => ?_) (Ev.pin (Ev.now _) ?_))
    · simp only [impl_reduced.l0]; rw [if_neg (by omega)]
    · rw [List.drop_of_length_le (by omega)]; rfl
  | succ d ih =>
    intro i acc hi hd ha
    have hlt : i < l.length := by omega
    have hg : rd l (i : Int) = l[i] := by rw [rd_nat, List.getD_eq_getElem?_getD, List.getElem?_eq_getElem hlt]; rfl
    have hb := hm l[i] (List.getElem_mem hlt)
    rw [List.drop_eq_getElem_cons hlt]
    have h := ih (i + 1) (red1 acc l[i]) (by omega) (by omega) (by have := red1_len acc l[i]; omega)
    refine Ev.succ (Ev.congr (fun k => ?_) (Ev.pin h rfl))
    simp only [impl_reduced.l0]
    rw [if_pos (by omega), if_pos (by omega), if_pos (by omega)]
    by_cases h0 : acc = []
    · subst h0
      rw [if_neg (by rw [wr (by simp) (by simp)]; simp), if_pos (by simp), hg, wr (by omega) (by omega)]
      rfl
    · have hp : 0 < acc.length := List.length_pos_iff.2 h0
      rw [wr (i := (acc.length : Int) - 1) (by omega) (by omega), if_pos (by omega), if_pos (by omega), if_pos (by omega), hg, rd_last acc h0, wr (i := -l[i]) (by omega) (by omega)]
      by_cases e : acc.getLast h0 = -l[i]
      · rw [if_pos e, if_pos (by omega), wr (by omega) (by omega), show ((acc.length : Int) - 1).toNat = acc.length - 1 from by omega, ← List.dropLast_eq_take]
        have : red1 acc l[i] = acc.dropLast := by unfold red1; rw [if_pos (by rw [List.getLast?_eq_some_getLast h0, e])]
        rw [this]; rfl
      · rw [if_neg e, if_pos (by omega), wr (by omega) (by omega)]
        have : red1 acc l[i] = acc ++ [l[i]] := by unfold red1; rw [if_neg (by rw [List.getLast?_eq_some_getLast h0]; simpa using e)]
        rw [this]; rfl
theorem reduced (l : List Int) (hl : l.length ≤ 1048576) (hm : Mild l) : Ev (fun k => impl_reduced.f k l) (red l) :=
  Ev.congr (fun k => by unfold impl_reduced.f; rfl) (Ev.pin (reduced_round l hl hm l.length 0 [] (by omega) (by omega) (by simp)) (by simp [red]))
end Go.Proofs.Ytemiaaamgmhfaaa.L
