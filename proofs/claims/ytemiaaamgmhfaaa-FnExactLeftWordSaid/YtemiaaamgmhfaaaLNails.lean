/- What is held in a list, and lists of nails. Conditions: lengths as each lemma says. -/
import Derived.Test.YtemiaaamgmhfaaaPx1
import Derived.Test.YtemiaaamgmhfaaaPx10
import Derived.Test.YtemiaaamgmhfaaaPx8
import Derived.Test.YtemiaaamgmhfaaaPx9
import Derived.Test.YtemiaaamgmhfaaaLGroup
namespace Go.Proofs.Ytemiaaamgmhfaaa.L
open Go.RowKit Go.Proofs.Ytemiaaamgmhfaaa.P Go.Proofs.YtemiaaamgmhfaaaW.PrintWords Go.Proofs.YtemiaaamgmhfaaaW.PrintMore
set_option linter.unusedVariables false
set_option linter.unusedSimpArgs false

theorem l1Has_round (l : List Int) (x : Int) (hl : l.length ≤ 1048576) : ∀ (d i : Nat), i ≤ l.length → l.length - i = d → Ev (fun k => spec_l1Has.l0 k l x (i : Int)) ((l.drop i).contains x) := by
  intro d
  induction d with
  | zero =>
    intro i hi hd
    refine Ev.succ (Ev.congr (f := fun _ => some false) (fun k => ?_) (Ev.pin (Ev.now _) ?_))
    · rw [spec_l1Has.l0, if_neg (by omega)]
    · rw [List.drop_of_length_le (by omega)]; rfl
  | succ d ih =>
    intro i hi hd
    have hlt : i < l.length := by omega
    rw [List.drop_eq_getElem_cons hlt, List.contains_cons]
    by_cases e : l[i] = x
    · refine Ev.succ (Ev.congr (f := fun _ => some true) (fun k => ?_) (Ev.pin (Ev.now _) (by simp [e])))
      rw [spec_l1Has.l0, if_pos (by omega), if_pos (by omega), rd_get l i hlt, if_pos e]
    · refine Ev.succ (Ev.congr (fun k => ?_) (Ev.pin (ih (i + 1) (by omega) (by omega)) (by simp [Ne.symm e])))
      rw [spec_l1Has.l0, if_pos (by omega), if_pos (by omega), rd_get l i hlt, if_neg e, wr (by omega) (by omega)]
      rfl
theorem l1Has (l : List Int) (x : Int) (hl : l.length ≤ 1048576) : Ev (fun k => spec_l1Has.f k l x) (l.contains x) :=
  Ev.congr (fun k => by unfold spec_l1Has.f; rfl) (l1Has_round l x hl l.length 0 (by omega) (by omega))
theorem Index_round (l : List Int) (x : Int) (hl : l.length ≤ 1048576) : ∀ (d i : Nat), i ≤ l.length → l.length - i = d → ∃ r : Int, Ev (fun k => slices_Index_int_int.l0 k l x (l.length : Int) (i : Int)) r ∧ decide (r ≥ 0) = (l.drop i).contains x := by
  intro d
  induction d with
  | zero =>
    intro i hi hd
    refine ⟨-1, Ev.succ (Ev.congr (f := fun _ => some (-1)) (fun k => ?_) (Ev.now _)), ?_⟩
    · rw [slices_Index_int_int.l0, if_neg (by omega)]
    · rw [List.drop_of_length_le (by omega)]; rfl
  | succ d ih =>
    intro i hi hd
    have hlt : i < l.length := by omega
    rw [List.drop_eq_getElem_cons hlt, List.contains_cons]
    by_cases e : x = l[i]
    · refine ⟨(i : Int), Ev.succ (Ev.congr (f := fun _ => some (i : Int)) (fun k => ?_) (Ev.now _)), ?_⟩
      · rw [slices_Index_int_int.l0, if_pos (by omega), if_pos (by omega), if_pos (by omega), rd_get l i hlt, if_pos e]
      · simp [e]
    · obtain ⟨r, h1, h2⟩ := ih (i + 1) (by omega) (by omega)
      refine ⟨r, Ev.succ (Ev.congr (fun k => ?_) h1), by rw [h2]; simp [e]⟩
      rw [slices_Index_int_int.l0, if_pos (by omega), if_pos (by omega), if_pos (by omega), rd_get l i hlt, if_neg e, wr (by omega) (by omega)]
      rfl
theorem Contains (l : List Int) (x : Int) (hl : l.length ≤ 1048576) : Ev (fun k => slices_Contains_int_int.f k l x) (l.contains x) := by
  obtain ⟨r, h1, h2⟩ := Index_round l x hl l.length 0 (by omega) (by omega)
  exact Ev.congr (fun k => by unfold slices_Contains_int_int.f slices_Index_int_int.f; rfl) (Ev.bind h1 (Ev.pin (Ev.now _) (by simpa using h2)))

/-- Nails, each once. -/
def nailsB : List Int → List Int → Bool
  | _, [] => true
  | pre, x :: r => decide (1 ≤ x ∧ x ≤ 6) && !(pre.contains x) && nailsB (pre ++ [x]) r
theorem pigeon (n : Nat) : ∀ l : List Int, l.Nodup → (∀ x ∈ l, 1 ≤ x ∧ x ≤ (n : Int)) → l.length ≤ n := by
  induction n with
  | zero =>
    intro l _ h
    cases l with
    | nil => simp
    | cons x l => have := h x (by simp); omega
  | succ n ih =>
    intro l hn h
    by_cases hm : ((n + 1 : Nat) : Int) ∈ l
    · have h1 := ih (l.erase ((n + 1 : Nat) : Int)) (hn.erase _) (fun x hx => by
        have h2 := (hn.mem_erase_iff).1 hx
        have := h x h2.2
        have := h2.1
        omega)
      rw [List.length_erase_of_mem hm] at h1
      omega
    · have := ih l hn (fun x hx => by
        have := h x hx
        have : x ≠ ((n + 1 : Nat) : Int) := fun e => hm (e ▸ hx)
        omega)
      omega
theorem nailsB_good : ∀ (r pre : List Int), nailsB pre r = true → pre.Nodup → (∀ x ∈ pre, 1 ≤ x ∧ x ≤ 6) → (pre ++ r).Nodup ∧ ∀ x ∈ pre ++ r, 1 ≤ x ∧ x ≤ 6 := by
  intro r
  induction r with
  | nil => intro pre _ h1 h2; simpa using ⟨h1, h2⟩
  | cons x r ih =>
    intro pre h h1 h2
    simp [nailsB] at h
    have := ih (pre ++ [x]) h.2 (by
      rw [List.nodup_append]
      refine ⟨h1, by simp, ?_⟩
      intro a ha b hb
      simp at hb
      rw [hb]
      intro e
      exact h.1.2 (e ▸ ha)) (by
      intro y hy
      simp at hy
      rcases hy with hy | rfl
      · exact h2 y hy
      · exact h.1.1)
    simpa using this
theorem nailsB_all {l : List Int} (h : nailsB [] l = true) : l.Nodup ∧ ∀ x ∈ l, 1 ≤ x ∧ x ≤ 6 := by simpa using nailsB_good l [] h (by simp) (by simp)
theorem nailsB_len {l : List Int} (h : nailsB [] l = true) : l.length ≤ 6 := pigeon 6 l (nailsB_all h).1 (by simpa using (nailsB_all h).2)
/-- A list of nails. -/
def areN (l : List Int) : Bool := nailsB [] l && decide (0 < l.length)
theorem areN_len {l : List Int} (h : areN l = true) : 0 < l.length ∧ l.length ≤ 6 := by
  unfold areN at h; simp at h
  exact ⟨h.2, nailsB_len h.1⟩
theorem areN_mem {l : List Int} (h : areN l = true) : ∀ x ∈ l, 1 ≤ x ∧ x ≤ 6 := by
  unfold areN at h; simp at h; exact (nailsB_all h.1).2
theorem Mild.ofN {l : List Int} (h : areN l = true) : Mild l := fun x hx => by have := areN_mem h x hx; omega
theorem snoc_take (l : List Int) (i : Nat) (h : i < l.length) : l.take (i + 1) = l.take i ++ [l[i]] := List.take_succ_eq_append_getElem h

theorem l1In6 (x : Int) : spec_l1In.f x 1 6 = some (decide (1 ≤ x ∧ x ≤ 6)) := by
  unfold spec_l1In.f
  by_cases h : x ≥ 1
  · rw [if_pos h]; congr 1; simp; omega
  · rw [if_neg h]; congr 1; simp; omega
theorem l4Nails_round (l : List Int) (hl : l.length ≤ 1048576) : ∀ (d i : Nat), i ≤ l.length → i ≤ 7 → 7 - i = d →
    Ev (fun k => spec_l4Nails.l0 k l (i : Int)) (nailsB (l.take i) (l.drop i) && decide (l.length ≤ 6) && decide (0 < l.length)) := by
  intro d
  induction d with
  | zero =>
    intro i hi h7 hd
    refine Ev.succ (Ev.congr (f := fun k => spec_l4Nails.j1 k l (i : Int) false) (fun k => ?_) (Ev.succ ?_))
    · rw [spec_l4Nails.l0]
      by_cases hlt : i < l.length
      · rw [if_pos (by omega), decide_eq_false (by omega)]
      · rw [if_neg (by omega)]
    · refine Ev.congr (fun k => by rw [spec_l4Nails.j1, if_neg (by simp), l1In6, Option.bind_some]) (Ev.pin (Ev.now _) ?_)
      rw [show decide (l.length ≤ 6) = false from by simp; omega]
      simp; omega
  | succ d ih =>
    intro i hi h7 hd
    by_cases hlt : i < l.length
    · refine Ev.succ (Ev.congr (f := fun k => spec_l4Nails.j1 k l (i : Int) true) (fun k => ?_) (Ev.succ ?_))
      · rw [spec_l4Nails.l0, if_pos (by omega), show decide ((i : Int) ≤ 6) = true from by simp; omega]
      · rw [List.drop_eq_getElem_cons hlt]
        refine Ev.congr (fun k => by rw [spec_l4Nails.j1, if_pos rfl, if_pos (by omega), if_pos (by omega), rd_get l i hlt, l1In6, Option.bind_some]) ?_
        by_cases hr : 1 ≤ l[i] ∧ l[i] ≤ 6
        · simp only [hr, decide_true, and_self, ↓reduceIte]
          refine Ev.congr (fun k => by rw [if_pos (by omega), show ((i : Int)).toNat = i from by omega]) ?_
          refine Ev.bind (l1Has (l.take i) l[i] (by simp; omega)) ?_
          cases hc : (l.take i).contains l[i] with
          | true => simp only [↓reduceIte]; exact Ev.pin (Ev.now _) (by simp only [nailsB, hc]; simp)
          | false =>
            simp only [Bool.false_eq_true, ↓reduceIte]
            refine Ev.congr (fun k => by rw [wr (by omega) (by omega)]; rfl) (Ev.pin (ih (i + 1) (by omega) (by omega) (by omega)) ?_)
            simp only [nailsB, hc, hr, and_self, decide_true, Bool.not_false, Bool.true_and, snoc_take l i hlt]
        · refine Ev.congr (f := fun _ => some false) (fun k => by rw [if_neg (by simpa using hr)]) (Ev.pin (Ev.now _) ?_)
          simp only [nailsB, decide_eq_false hr, Bool.false_and]
    · refine Ev.succ (Ev.congr (f := fun k => spec_l4Nails.j1 k l (i : Int) false) (fun k => ?_) (Ev.succ ?_))
      · rw [spec_l4Nails.l0, if_neg (by omega)]
      · refine Ev.congr (fun k => by rw [spec_l4Nails.j1, if_neg (by simp), l1In6, Option.bind_some]) (Ev.pin (Ev.now _) ?_)
        rw [List.drop_of_length_le (by omega)]
        simp only [nailsB, Bool.true_and]
        rw [Bool.eq_iff_iff]; simp; omega
theorem l4Nails (l : List Int) (hl : l.length ≤ 1048576) : Ev (fun k => spec_l4Nails.f k l) (areN l) :=
  Ev.congr (fun k => by unfold spec_l4Nails.f; rfl) (Ev.pin (l4Nails_round l hl 7 0 (by omega) (by omega) (by omega)) (by
    unfold areN
    cases h : nailsB [] l with
    | false => simp [h]
    | true => have := nailsB_len h; simp [h, this]))
theorem isNail (x : Int) : impl_isNail.f x = some (decide (1 ≤ x ∧ x ≤ 6)) := by
  unfold impl_isNail.f
  by_cases h : x ≥ 1
  · rw [if_pos h]; congr 1; simp; omega
  · rw [if_neg h]; congr 1; simp; omega
theorem areNails_round (l : List Int) (hl : l.length ≤ 1048576) : ∀ (d i : Nat), i ≤ l.length → l.length - i = d →
    Ev (fun k => impl_areNails.l0 k l l (l.length : Int) (i : Int)) (nailsB (l.take i) (l.drop i) && decide (0 < l.length)) := by
  intro d
  induction d with
  | zero =>
    intro i hi hd
    refine Ev.succ (Ev.congr (fun k => by rw [impl_areNails.l0, if_neg (by omega)]) (Ev.pin (Ev.now _) ?_))
    rw [List.drop_of_length_le (by omega)]
    simp [nailsB]
  | succ d ih =>
    intro i hi hd
    have hlt : i < l.length := by omega
    rw [List.drop_eq_getElem_cons hlt]
    refine Ev.succ (Ev.congr (fun k => by rw [impl_areNails.l0, if_pos (by omega), if_pos (by omega), if_pos (by omega), rd_get l i hlt, isNail, Option.bind_some]) ?_)
    by_cases hr : 1 ≤ l[i] ∧ l[i] ≤ 6
    · simp only [hr, decide_true, and_self, ↓reduceIte]
      refine Ev.congr (fun k => by rw [if_pos (by omega), show ((i : Int)).toNat = i from by omega]) ?_
      refine Ev.bind (Contains (l.take i) l[i] (by simp; omega)) ?_
      cases hc : (l.take i).contains l[i] with
      | true => simp only [↓reduceIte]; exact Ev.pin (Ev.now _) (by simp only [nailsB, hc]; simp)
      | false =>
        simp only [Bool.false_eq_true, ↓reduceIte]
        refine Ev.congr (fun k => by rw [wr (by omega) (by omega)]; rfl) (Ev.pin (ih (i + 1) (by omega) (by omega)) ?_)
        simp only [nailsB, hc, hr, and_self, decide_true, Bool.not_false, Bool.true_and, snoc_take l i hlt]
    · refine Ev.congr (f := fun _ => some false) (fun k => by rw [if_neg (by simpa using hr)]) (Ev.pin (Ev.now _) ?_)
      simp only [nailsB, decide_eq_false hr, Bool.false_and]
theorem areNails (l : List Int) (hl : l.length ≤ 1048576) : Ev (fun k => impl_areNails.f k l) (areN l) :=
  Ev.congr (fun k => by unfold impl_areNails.f; rfl) (Ev.pin (areNails_round l hl l.length 0 (by omega) (by omega)) rfl)

/-- The commutator, reduced. -/
def comm (a b : List Int) : List Int := red (a ++ b ++ (inv a ++ inv b))
theorem comm_len (a b : List Int) : (comm a b).length ≤ 2 * (a.length + b.length) := by
  have h1 := red_len (a ++ b ++ (inv a ++ inv b)); have h2 := inv_len a; have h3 := inv_len b
  simp only [List.length_append] at h1; unfold comm; omega
theorem Mild.comm {a b : List Int} (ha : Mild a) (hb : Mild b) : Mild (comm a b) := ((ha.append hb).append (ha.inv.append hb.inv)).red
def leftF (acc l : List Int) : List Int := l.foldl (fun a x => comm a [x]) acc
def vLeftWord (l : List Int) : List Int × Bool := if areN l = true then vFit (leftF (l.take 1) (l.drop 1)) else ([], false)
theorem vLeftWord_len (l : List Int) (hl : l.length ≤ 1048576) : (vLeftWord l).1.length ≤ 1048576 := by
  unfold vLeftWord; split
  · have := vFit_len (leftF (l.take 1) (l.drop 1)); omega
  · simp
theorem take1 (l : List Int) (h : 0 < l.length) : l.take 1 = [rd l 0] := by
  cases l with
  | nil => simp at h
  | cons x l => simp [rd]
theorem left_pow (n : Nat) (h : n ≤ 6) : 2 ^ n ≤ 64 := by
  match n, h with
  | 0, _ => decide
  | 1, _ => decide
  | 2, _ => decide
  | 3, _ => decide
  | 4, _ => decide
  | 5, _ => decide
  | 6, _ => decide
theorem spec_LeftWord_round (l : List Int) (hl : l.length ≤ 6) (hm : Mild l) : ∀ (d i : Nat) (acc : List Int), i ≤ l.length → l.length - i = d → acc.length + 2 ≤ 3 * 2 ^ i → Mild acc →
    Ev (fun k => spec_LeftWord.l0 k l acc (i : Int)) (vFit (leftF acc (l.drop i))) := by
  intro d
  induction d with
  | zero =>
    intro i acc hi hd ha hma
    refine Ev.succ (Ev.congr (fun k => by rw [P.spec_LeftWord.l0, if_neg (by omega), l2Short, Option.bind_some]) (Ev.pin (Ev.now _) ?_))
    rw [List.drop_of_length_le (by omega)]; rfl
  | succ d ih =>
    intro i acc hi hd ha hma
    have hlt : i < l.length := by omega
    have h1 := left_pow i (by omega)
    have hb : Mild [l[i]] := fun x hx => by simp at hx; rw [hx]; exact hm _ (List.getElem_mem hlt)
    have h2 := comm_len acc [l[i]]
    rw [List.drop_eq_getElem_cons hlt]
    simp at h2
    refine Ev.succ (Ev.congr (fun k => by rw [P.spec_LeftWord.l0, if_pos (by omega), if_pos (by omega), rd_get l i hlt]) (Ev.bind (l4Commutator acc [l[i]] (by omega) (by simp) hma hb) ?_))
    refine Ev.congr (fun k => by rw [wr (by omega) (by omega)]; rfl) (Ev.pin (ih (i + 1) (comm acc [l[i]]) (by omega) (by omega) (by rw [Nat.pow_succ]; omega) (hma.comm hb)) rfl)
theorem spec_LeftWord (l : List Int) (hl : l.length ≤ 1048576) : Ev (fun k => spec_LeftWord.f k l) (vLeftWord l) := by
  refine Ev.congr (fun k => by unfold spec_LeftWord.f; rfl) (Ev.bind (l4Nails l hl) ?_)
  unfold vLeftWord
  cases h : areN l with
  | false => simp only [Bool.false_eq_true, ↓reduceIte]; exact Ev.now _
  | true =>
    have h1 := areN_len h
    simp only [↓reduceIte]
    have hr := spec_LeftWord_round l h1.2 (Mild.ofN h) (l.length - 1) 1 (l.take 1) (by omega) (by omega) (by simp; omega) ((Mild.ofN h).sub (fun x hx => List.mem_of_mem_take hx))
    rw [take1 l h1.1] at hr ⊢
    exact Ev.congr (fun k => by rw [if_pos (by omega)]; rfl) hr
theorem impl_LeftWord_round (l : List Int) (hl : l.length ≤ 5) (hm : Mild l) : ∀ (d i : Nat) (acc : List Int), i ≤ l.length → l.length - i = d → acc.length + 2 ≤ 3 * 2 ^ (i + 1) → Mild acc →
    Ev (fun k => impl_LeftWord.l0 k acc l (l.length : Int) (i : Int)) (vFit (leftF acc (l.drop i))) := by
  intro d
  induction d with
  | zero =>
    intro i acc hi hd ha hma
    refine Ev.succ (Ev.congr (fun k => by rw [P.impl_LeftWord.l0, if_neg (by omega), fitting, Option.bind_some]) (Ev.pin (Ev.now _) ?_))
    rw [List.drop_of_length_le (by omega)]; rfl
  | succ d ih =>
    intro i acc hi hd ha hma
    have hlt : i < l.length := by omega
    have h1 := left_pow (i + 1) (by omega)
    have hb : Mild [l[i]] := fun x hx => by simp at hx; rw [hx]; exact hm _ (List.getElem_mem hlt)
    have h2 := comm_len acc [l[i]]
    rw [List.drop_eq_getElem_cons hlt]
    simp at h2
    refine Ev.succ (Ev.congr (fun k => by rw [P.impl_LeftWord.l0, if_pos (by omega), if_pos (by omega), if_pos (by omega), rd_get l i hlt]) (Ev.bind (commutator acc [l[i]] (by omega) (by simp) hma hb) ?_))
    refine Ev.congr (fun k => by rw [wr (by omega) (by omega)]; rfl) (Ev.pin (ih (i + 1) (comm acc [l[i]]) (by omega) (by omega) (by rw [Nat.pow_succ]; omega) (hma.comm hb)) rfl)
theorem impl_LeftWord (l : List Int) (hl : l.length ≤ 1048576) : Ev (fun k => impl_LeftWord.f k l) (vLeftWord l) := by
  refine Ev.congr (fun k => by unfold impl_LeftWord.f; rfl) (Ev.bind (areNails l hl) ?_)
  unfold vLeftWord
  cases h : areN l with
  | false => simp only [Bool.false_eq_true, ↓reduceIte]; exact Ev.now _
  | true =>
    have h1 := areN_len h
    simp only [↓reduceIte]
    have hr := impl_LeftWord_round (l.drop 1) (by simp; omega) ((Mild.ofN h).sub (fun x hx => List.mem_of_mem_drop hx)) (l.drop 1).length 0 (l.take 1) (by omega) (by omega) (by simp; omega) ((Mild.ofN h).sub (fun x hx => List.mem_of_mem_take hx))
    rw [take1 l h1.1] at hr ⊢
    exact Ev.congr (fun k => by rw [if_pos (by omega), if_pos (by omega)]; rfl) (Ev.pin hr (by simp))
end Go.Proofs.Ytemiaaamgmhfaaa.L
