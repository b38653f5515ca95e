/- What the laws' own small functions on slices of numbers come to. Conditions: lengths far below 2 to the 63, as each lemma says. -/
import Derived.Test.YtemiaaamgmhfaaaPx3
import Derived.Test.YtemiaaamgmhfaaaPx6
import Derived.Test.YtemiaaamgmhfaaaLBase
namespace Go.Proofs.Ytemiaaamgmhfaaa.L
open Go.RowKit Go.Proofs.Ytemiaaamgmhfaaa.P Go.Proofs.YtemiaaamgmhfaaaW.PrintWords
set_option linter.unusedVariables false
set_option linter.unusedSimpArgs false

theorem toIntS_round (l : List Int) (hl : l.length ≤ 1048576) : ∀ (d i : Nat) (acc : List Int), i ≤ l.length → l.length - i = d → acc.length = l.length → acc.take i = l.take i →
    Ev (fun k => laws_toIntS.l0 k l acc (i : Int)) l := by
  intro d
  induction d with
  | zero =>
    intro i acc hi hd ha ht
    refine Ev.succ ?_
    have he : acc = l := by
      rw [show i = l.length from by omega] at ht
      rw [List.take_length] at ht
      rw [← ht, List.take_of_length_le (by omega)]
    refine Ev.congr (f := fun _ => some l) (fun k => ?_) (Ev.now _)
    simp only [laws_toIntS.l0]; rw [if_neg (by omega), he]
  | succ d ih =>
    intro i acc hi hd ha ht
    refine Ev.succ ?_
    have hlt : i < l.length := by omega
    have h := ih (i + 1) (acc.set i (l.getD i 0)) (by omega) (by omega) (by simp [ha]) (by
      rw [List.take_add_one, List.take_add_one, List.take_set_of_le (Nat.le_refl _), ht, List.getElem?_set_self (by omega), List.getD_eq_getElem?_getD, List.getElem?_eq_getElem hlt]
      rfl)
    refine Ev.congr (fun k => ?_) h
    simp only [laws_toIntS.l0]
    rw [if_pos (by omega), if_pos (by omega), if_pos (by omega), rd_nat, wr (by omega) (by omega), Int.toNat_natCast]
    rfl
theorem toIntS (l : List Int) (hl : l.length ≤ 1048576) : Ev (fun k => laws_toIntS.f k l) l := by
  refine Ev.congr (fun k => ?_) (toIntS_round l hl l.length 0 (List.replicate l.length 0) (by omega) (by omega) (by simp) (by simp))
  unfold laws_toIntS.f
  rw [if_pos (by omega), if_pos (by simp; omega), Int.toNat_natCast]
  rfl
theorem eqIntS_round (a b : List Int) (hl : a.length ≤ 4611686018427387904) (hab : a.length = b.length) : ∀ (d i : Nat), i ≤ a.length → a.length - i = d →
    Ev (fun k => laws_eqIntS.l0 k a b (i : Int)) (decide (a.drop i = b.drop i)) := by
  intro d
  induction d with
  | zero =>
    intro i hi hd
    refine Ev.succ ?_
    refine Ev.congr (f := fun _ => some true) (fun k => ?_) (Ev.pin (Ev.now _) ?_)
    · simp only [laws_eqIntS.l0]; rw [if_neg (by omega)]
    · rw [List.drop_of_length_le (by omega), List.drop_of_length_le (by omega)]; simp
  | succ d ih =>
    intro i hi hd
    refine Ev.succ ?_
    have hlt : i < a.length := by omega
    have hltb : i < b.length := by omega
    by_cases e : a.getD i 0 = b.getD i 0
    · have h := ih (i + 1) (by omega) (by omega)
      refine Ev.congr (fun k => ?_) (Ev.pin h ?_)
      · simp only [laws_eqIntS.l0]
        rw [if_pos (by omega), if_pos (by omega), if_pos (by omega), rd_nat, rd_nat, if_pos e, wr (by omega) (by omega)]
        rfl
      · simp only [List.getD_eq_getElem?_getD, List.getElem?_eq_getElem hlt, List.getElem?_eq_getElem hltb, Option.getD_some] at e
        rw [List.drop_eq_getElem_cons hlt, List.drop_eq_getElem_cons hltb, e]
        simp only [List.cons.injEq, true_and]
    · refine Ev.congr (f := fun _ => some false) (fun k => ?_) (Ev.pin (Ev.now _) ?_)
      · simp only [laws_eqIntS.l0]
        rw [if_pos (by omega), if_pos (by omega), if_pos (by omega), rd_nat, rd_nat, if_neg e]
      · simp only [List.getD_eq_getElem?_getD, List.getElem?_eq_getElem hlt, List.getElem?_eq_getElem hltb, Option.getD_some] at e
        refine (decide_eq_false fun h => e ?_).symm
        rw [List.drop_eq_getElem_cons hlt, List.drop_eq_getElem_cons hltb] at h
        exact (List.cons.inj h).1
theorem eqIntS (a b : List Int) (hl : a.length ≤ 4611686018427387904) : Ev (fun k => laws_eqIntS.f k a b) (decide (a = b)) := by
  by_cases hab : a.length = b.length
  · refine Ev.congr (fun k => ?_) (eqIntS_round a b hl hab a.length 0 (by omega) (by omega))
    unfold laws_eqIntS.f
    rw [if_pos (by omega)]
    rfl
  · refine Ev.congr (f := fun _ => some false) (fun k => ?_) (Ev.pin (Ev.now _) ?_)
    · unfold laws_eqIntS.f
      rw [if_neg (by omega)]
    · have : a ≠ b := fun h => hab (by rw [h])
      simp [this]
theorem eqIntS_yes (a : List Int) (hl : a.length ≤ 4611686018427387904) : Ev (fun k => laws_eqIntS.f k a a) true := Ev.pin (eqIntS a a hl) (by simp)
theorem markIntS_round (n : Int) (m : Nat) (h0 : 0 ≤ n) (h1 : n ≤ 1099511627776) (hm : m ≤ 1099511627776) : ∀ (d i : Nat) (acc : List Int), i ≤ m → m - i = d → acc.length = m → acc.take i = marks n i →
    Ev (fun k => laws_markIntS.l0 k acc (n + (i : Int)) (i : Int)) (n + (m : Int), marks n m) := by
  intro d
  induction d with
  | zero =>
    intro i acc hi hd ha ht
    refine Ev.succ ?_
    have hi2 : i = m := by omega
    subst hi2
    refine Ev.congr (f := fun _ => some (n + (i : Int), marks n i)) (fun k => ?_) (Ev.now _)
    simp only [laws_markIntS.l0]
    rw [if_neg (by omega), ← ht, List.take_of_length_le (by omega)]
  | succ d ih =>
    intro i acc hi hd ha ht
    refine Ev.succ ?_
    have h := ih (i + 1) (acc.set i (n + (i : Int))) (by omega) (by omega) (by simp [ha]) (by
      rw [List.take_add_one, List.take_set_of_le (Nat.le_refl _), ht, List.getElem?_set_self (by omega), marks_succ]
      rfl)
    refine Ev.congr (fun k => ?_) h
    simp only [laws_markIntS.l0]
    rw [if_pos (by omega), if_pos (by omega), wr (by omega) (by omega), wr (by omega) (by omega), Int.toNat_natCast, Int.add_assoc]
    rfl
theorem markIntS (l : List Int) (n : Int) (h0 : 0 ≤ n) (h1 : n ≤ 1099511627776) (hm : l.length ≤ 1099511627776) : Ev (fun k => laws_markIntS.f k l n) (n + (l.length : Int), marks n l.length) := by
  refine Ev.congr (fun k => ?_) (markIntS_round n l.length h0 h1 hm l.length 0 l (by omega) (by omega) rfl (by simp [marks]))
  unfold laws_markIntS.f
  simp
theorem heldIntS_round (n : Int) (m : Nat) (h0 : 0 ≤ n) (h1 : n ≤ 1099511627776) (hm : m ≤ 1099511627776) : ∀ (d i : Nat), i ≤ m → m - i = d →
    Ev (fun k => laws_heldIntS.l0 k (marks n m) (n + (i : Int)) (i : Int)) (n + (m : Int)) := by
  intro d
  induction d with
  | zero =>
    intro i hi hd
    refine Ev.succ ?_
    have hi2 : i = m := by omega
    subst hi2
    refine Ev.congr (f := fun _ => some (n + (i : Int))) (fun k => ?_) (Ev.now _)
    simp only [laws_heldIntS.l0]
    rw [if_neg (by rw [marks_len]; omega)]
  | succ d ih =>
    intro i hi hd
    refine Ev.succ ?_
    have h := ih (i + 1) (by omega) (by omega)
    refine Ev.congr (fun k => ?_) h
    simp only [laws_heldIntS.l0]
    rw [if_pos (by rw [marks_len]; omega), if_pos (by omega), rd_nat, marks_get _ _ _ (by omega), if_pos rfl, wr (by omega) (by omega), wr (by omega) (by omega), Int.add_assoc]
    rfl
theorem heldIntS (n : Int) (m : Nat) (h0 : 0 ≤ n) (h1 : n ≤ 1099511627776) (hm : m ≤ 1099511627776) : Ev (fun k => laws_heldIntS.f k (marks n m) n) (n + (m : Int)) := by
  refine Ev.congr (fun k => ?_) (heldIntS_round n m h0 h1 hm m 0 (by omega) (by omega))
  unfold laws_heldIntS.f
  simp
end Go.Proofs.Ytemiaaamgmhfaaa.L
