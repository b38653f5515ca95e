/- What the laws' own small functions on slices of numbers come to. Conditions: lengths far below 2 to the 63, as each lemma says. -/
import Derived.Test.YtgdpgnlajaphaaaPx1
import Derived.Test.YtgdpgnlajaphaaaPx2
import Derived.Test.YtgdpgnlajaphaaaLBase
namespace Go.Proofs.Ytgdpgnlajaphaaa.L
open Go.RowKit Go.Proofs.Ytgdpgnlajaphaaa.P Go.Proofs.YtgdpgnlajaphaaaW.PrintWords
set_option linter.unusedVariables false
set_option linter.unusedSimpArgs false

theorem toIntS_round (l : List Int) (hl : l.length ≤ 1048576) : ∀ (d i : Nat) (acc : List Int), i ≤ l.length → l.length - i = d → acc.length = l.length → acc.take i = l.take i →
    Ev (fun k => laws_toIntS.l0 k l acc (i : Int)) l := by
  intro d
  induction d with
  | zero =>
    intro i acc hi hd ha ht
    refine Ev.succ ?_
    have he : acc = l := by
      rw [show i = l.length from by omega] at ht
      rw [List.take_length] at ht
      rw [← ht, List.take_of_length_le (by omega)]
    refine Ev.congr (f := fun _ => some l) (fun k => ?_) (Ev.now _)
    simp only [laws_toIntS.l0]; rw [if_neg (by omega), he]
  | succ d ih =>
    intro i acc hi hd ha ht
    refine Ev.succ ?_
    have hlt : i < l.length := by omega
    have h := ih (i + 1) (acc.set i (l.getD i 0)) (by omega) (by omega) (by simp [ha]) (by
      rw [List.take_add_one, List.take_add_one, List.take_set_of_le (Nat.le_refl _), ht, List.getElem?_set_self (by omega), List.getD_eq_getElem?_getD, List.getElem?_eq_getElem hlt]
      rfl)
    refine Ev.congr (fun k => ?_) h
    simp only [laws_toIntS.l0]
    rw [if_pos (by omega), if_pos (by omega), if_pos (by omega), rd_nat, wr (by omega) (by omega), Int.toNat_natCast]
    rfl
theorem toIntS (l : List Int) (hl : l.length ≤ 1048576) : Ev (fun k => laws_toIntS.f k l) l := by
  refine Ev.congr (fun k => ?_) (toIntS_round l hl l.length 0 (List.replicate l.length 0) (by omega) (by omega) (by simp) (by simp))
  unfold laws_toIntS.f
  rw [if_pos (by omega), if_pos (by simp; omega), Int.toNat_natCast]
  rfl
theorem eqIntS_round (a b : List Int) (hl : a.length ≤ 4611686018427387904) (hab : a.length = b.length) : ∀ (d i : Nat), i ≤ a.length → a.length - i = d →
    Ev (fun k => laws_eqIntS.l0 k a b (i : Int)) (decide (a.drop i = b.drop i)) := by
  intro d
  induction d with
  | zero =>
    intro i hi hd
    refine Ev.succ ?_
    refine Ev.congr (f := fun _ => some true) (fun k => ?_) (Ev.pin (Ev.now _) ?_)
    · simp only [laws_eqIntS.l0]; rw [if_neg (by omega)]
    · rw [List.drop_of_length_le (by omega), List.drop_of_length_le (by omega)]; simp
  | succ d ih =>
    intro i hi hd
    refine Ev.succ ?_
    have hlt : i < a.length := by omega
    have hltb : i < b.length := by omega
    by_cases e : a.getD i 0 = b.getD i 0
    · have h := ih (i + 1) (by omega) (by omega)
      refine Ev.congr (fun k => ?_) (Ev.pin h ?_)
      · simp only [laws_eqIntS.l0]
        rw [if_pos (by omega), if_pos (by omega), if_pos (by omega), rd_nat, rd_nat, if_pos e, wr (by omega) (by omega)]
        rfl
      · simp only [List.getD_eq_getElem?_getD, List.getElem?_eq_getElem hlt, List.getElem?_eq_getElem hltb, Option.getD_some] at e
        rw [List.drop_eq_getElem_cons hlt, List.drop_eq_getElem_cons hltb, e]
        simp only [List.cons.injEq, true_and]
    · refine Ev.congr (f := fun _ => some false) (fun k => ?_) (Ev.pin (Ev.now _) ?_)
      · simp only [laws_eqIntS.l0]
        rw [if_pos (by omega), if_pos (by omega), if_pos (by omega), rd_nat, rd_nat, if_neg e]
      · simp only [List.getD_eq_getElem?_getD, List.getElem?_eq_getElem hlt, List.getElem?_eq_getElem hltb, Option.getD_some] at e
        refine (decide_eq_false fun h => e ?_).symm
        rw [List.drop_eq_getElem_cons hlt, List.drop_eq_getElem_cons hltb] at h
        exact (List.cons.inj h).1
theorem eqIntS (a b : List Int) (hl : a.length ≤ 4611686018427387904) : Ev (fun k => laws_eqIntS.f k a b) (decide (a = b)) := by
  by_cases hab : a.length = b.length
  · refine Ev.congr (fun k => ?_) (eqIntS_round a b hl hab a.length 0 (by omega) (by omega))
    unfold laws_eqIntS.f
    rw [if_pos (by omega)]
    rfl
  · refine Ev.congr (f := fun _ => some false) (fun k => ?_) (Ev.pin (Ev.now _) ?_)
    · unfold laws_eqIntS.f
      rw [if_neg (by omega)]
    · have : a ≠ b := fun h => hab (by rw [h])
      simp [this]
theorem eqIntS_yes (a : List Int) (hl : a.length ≤ 4611686018427387904) : Ev (fun k => laws_eqIntS.f k a a) true := Ev.pin (eqIntS a a hl) (by simp)
end Go.Proofs.Ytgdpgnlajaphaaa.L
