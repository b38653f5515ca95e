/- What is reduced, told as in a group; what the functions that join, turn and invert words come to. Conditions: lengths and numbers far from the ends of an int, as each lemma says. -/
import Derived.Test.YtemiaaamgmhfaaaPx1
import Derived.Test.YtemiaaamgmhfaaaPx2
import Derived.Test.YtemiaaamgmhfaaaPx3
import Derived.Test.YtemiaaamgmhfaaaPx4
import Derived.Test.YtemiaaamgmhfaaaPx5
import Derived.Test.YtemiaaamgmhfaaaPx6
import Derived.Test.YtemiaaamgmhfaaaLPub
namespace Go.Proofs.Ytemiaaamgmhfaaa.L
open Go.RowKit Go.Proofs.Ytemiaaamgmhfaaa.P Go.Proofs.YtemiaaamgmhfaaaW.PrintWords Go.Proofs.YtemiaaamgmhfaaaW.PrintMore
set_option linter.unusedVariables false
set_option linter.unusedSimpArgs false

/-- No two neighbours are inverse. -/
def RedS (acc : List Int) : Prop := ∀ p x y q, acc = p ++ x :: y :: q → x ≠ -y
theorem RedS.nil : RedS [] := fun p x y q h => by
  have := congrArg List.length h; simp at this
theorem RedS.dropLast {acc : List Int} (h : RedS acc) : RedS acc.dropLast := fun p x y q e => by
  by_cases h0 : acc = []
  · subst h0; exact absurd e (by simp)
  · refine h p x y (q ++ [acc.getLast h0]) ?_
    have h3 := List.dropLast_concat_getLast h0
    generalize acc.getLast h0 = z at *
    rw [e] at h3
    rw [← h3]; simp
theorem RedS.snoc {acc : List Int} {x : Int} (h : RedS acc) (hx : acc.getLast? ≠ some (-x)) : RedS (acc ++ [x]) := fun p a b q e => by
  rcases List.eq_nil_or_concat q with rfl | ⟨q', z, rfl⟩
  · have e2 : acc ++ [x] = (p ++ [a]) ++ [b] := by rw [e]; simp
    obtain ⟨e3, e4⟩ := List.append_inj' e2 rfl
    have e5 : x = b := by simpa using e4
    intro hab
    apply hx
    rw [e3, e5, ← hab]; simp
  · have e2 : acc ++ [x] = (p ++ a :: b :: q') ++ [z] := by rw [e]; simp
    obtain ⟨e3, _⟩ := List.append_inj' e2 rfl
    exact h p a b q' e3
theorem RedS.red1 {acc : List Int} {x : Int} (h : RedS acc) : RedS (red1 acc x) := by
  unfold L.red1
  split
  · exact h.dropLast
  · exact h.snoc (by assumption)
theorem RedS.redF {l : List Int} : ∀ {acc : List Int}, RedS acc → RedS (redF acc l) := by
  induction l with
  | nil => intro acc h; exact h
  | cons x l ih => intro acc h; exact ih h.red1
theorem RedS.red (l : List Int) : RedS (red l) := RedS.redF RedS.nil
theorem red1_cancel {acc : List Int} (x : Int) (h : RedS acc) : red1 (red1 acc x) (-x) = acc := by
  by_cases e : acc.getLast? = some (-x)
  · have h0 : acc ≠ [] := by rintro rfl; simp at e
    have hl : acc.dropLast ++ [-x] = acc := by
      have := List.dropLast_concat_getLast h0
      rw [List.getLast?_eq_some_getLast h0] at e
      rw [← Option.some.inj e]; exact this
    have h1 : red1 acc x = acc.dropLast := by unfold red1; rw [if_pos e]
    rw [h1]
    unfold red1
    rw [if_neg, hl]
    intro e2
    by_cases h00 : acc.dropLast = []
    · rw [h00] at e2; simp at e2
    · have hl2 := List.dropLast_concat_getLast h00
      rw [List.getLast?_eq_some_getLast h00] at e2
      have hz := Option.some.inj e2
      generalize acc.dropLast.getLast h00 = z at *
      refine h acc.dropLast.dropLast z (-x) [] ?_ (by rw [hz])
      have h7 : acc.dropLast.dropLast ++ [z] ++ [-x] = acc := by rw [hl2]; exact hl
      simpa using h7.symm
  · have h1 : red1 acc x = acc ++ [x] := by unfold red1; rw [if_neg e]
    rw [h1]
    unfold red1
    rw [if_pos (by simp)]
    simp
theorem redF_snoc (acc l : List Int) (x : Int) : redF acc (l ++ [x]) = red1 (redF acc l) x := by simp [redF]
theorem redF_append (acc a b : List Int) : redF acc (a ++ b) = redF (redF acc a) b := by simp [redF]
theorem red_snoc (l : List Int) (x : Int) : red (l ++ [x]) = red1 (red l) x := redF_snoc [] l x
theorem redF_red {acc : List Int} (h : RedS acc) (l : List Int) : redF acc (red l) = redF acc l := by
  suffices H : ∀ m : List Int, redF acc (red m.reverse) = redF acc m.reverse by simpa using H l.reverse
  intro m
  induction m with
  | nil => rfl
  | cons x m ih =>
    rw [List.reverse_cons, red_snoc, redF_snoc, ← ih]
    by_cases e : (red m.reverse).getLast? = some (-x)
    · have h0 : red m.reverse ≠ [] := by intro h0; rw [h0] at e; simp at e
      have hl : (red m.reverse).dropLast ++ [-x] = red m.reverse := by
        have := List.dropLast_concat_getLast h0
        rw [List.getLast?_eq_some_getLast h0] at e
        rw [← Option.some.inj e]; exact this
      have h1 : red1 (red m.reverse) x = (red m.reverse).dropLast := by unfold red1; rw [if_pos e]
      rw [h1]
      conv => rhs; rw [← hl]
      rw [redF_snoc]
      have := red1_cancel (-x) (RedS.redF (l := (red m.reverse).dropLast) h)
      rw [Int.neg_neg] at this
      exact this.symm
    · have h1 : red1 (red m.reverse) x = red m.reverse ++ [x] := by unfold red1; rw [if_neg e]
      rw [h1, redF_snoc]
theorem red_red (l : List Int) : red (red l) = red l := redF_red RedS.nil l
theorem red_append (a b : List Int) : red (a ++ b) = redF (red a) b := redF_append [] a b
theorem red_left (a b : List Int) : red (red a ++ b) = red (a ++ b) := by rw [red_append, red_red, ← red_append]
theorem red_right (a b : List Int) : red (a ++ red b) = red (a ++ b) := by rw [red_append, redF_red (RedS.red a), ← red_append]
theorem red_both (a b : List Int) : red (red a ++ red b) = red (a ++ b) := by rw [red_left, red_right]
theorem vFit_len (l : List Int) : (vFit l).1.length ≤ 64 := by unfold vFit; split <;> simp; omega

theorem l1Own (l : List Int) (h : l.length ≤ 1099511627776) : spec_l1Own.f l = some l := by
  unfold spec_l1Own.f
  rw [Option.bind_some, if_pos (by simp; omega)]; rfl
theorem l2Short (l : List Int) : spec_l2Short.f l = some (vFit l) := by
  unfold spec_l2Short.f vFit
  by_cases h : l.length ≤ 64
  · rw [if_neg (by omega), if_pos h]
  · rw [if_pos (by omega), if_neg h]
theorem l2Join (a b : List Int) (hl : a.length + b.length ≤ 1048576) (ha : Mild a) (hb : Mild b) : Ev (fun k => spec_l2Join.f k a b) (red (a ++ b)) := by
  refine Ev.congr (fun k => by unfold spec_l2Join.f; rw [l1Own a (by omega), Option.bind_some, if_pos (by omega)]) (Ev.bind (l2Reduce _ (by simp; omega) (ha.append hb)) (Ev.now _))
theorem l2Inverse_round (l : List Int) (hl : l.length ≤ 1048576) (hm : Mild l) : ∀ (j : Nat), j ≤ l.length → Ev (fun k => spec_l2Inverse.l0 k l (inv (l.drop j)) ((j : Int) - 1)) (inv l) := by
  intro j
  induction j with
  | zero =>
    intro _
    refine Ev.succ (Ev.congr (f := fun _ => some (inv l)) (fun k => ?_) (Ev.now _))
    rw [spec_l2Inverse.l0, if_neg (by omega), List.drop_zero]
  | succ j ih =>
    intro hj
    have hlt : j < l.length := by omega
    have hb := hm l[j] (List.getElem_mem hlt)
    have hn := inv_len (l.drop (j + 1))
    have hn2 : (l.drop (j + 1)).length ≤ l.length := by simp
    refine Ev.succ (Ev.congr (fun k => ?_) (Ev.pin (ih (by omega)) rfl))
    rw [spec_l2Inverse.l0, show (((j + 1 : Nat) : Int) - 1) = (j : Int) from by omega, if_pos (by omega), if_pos (by omega), if_pos (by omega), if_pos (by omega), rd_get l j hlt, wr (by omega) (by omega), wr (by omega) (by omega)]
    rw [List.drop_eq_getElem_cons hlt, inv_cons]
theorem l2Inverse (l : List Int) (hl : l.length ≤ 1048576) (hm : Mild l) : Ev (fun k => spec_l2Inverse.f k l) (inv l) := by
  refine Ev.congr (fun k => by unfold spec_l2Inverse.f; rw [wr (by omega) (by omega)]) (Ev.pin (Ev.congr (fun k => ?_) (l2Inverse_round l hl hm l.length (Nat.le_refl _))) rfl)
  rw [List.drop_length]; rfl
theorem inverse (l : List Int) (hl : l.length ≤ 1048576) (hm : Mild l) : impl_inverse.f l = some (inv l) := by
  unfold impl_inverse.f inv
  rw [if_pos (by omega)]
  congr 1
  apply List.map_congr_left
  intro x hx
  have := hm x (by simpa using hx)
  exact wr (by omega) (by omega)
theorem rdl_get (xs : List (List Int)) (i : Nat) (h : i < xs.length) : rd_L1 xs (i : Int) = xs[i] := by
  unfold rd_L1; rw [List.getD_eq_getElem?_getD]; simp [h]
theorem flat_take (xs : List (List Int)) (i : Nat) (h : i < xs.length) : (xs.take (i + 1)).flatten = (xs.take i).flatten ++ xs[i] := by
  rw [List.take_succ_eq_append_getElem h, List.flatten_append, List.flatten_cons, List.flatten_nil, List.append_nil]
theorem flat_le (xs : List (List Int)) (i : Nat) : (xs.take i).flatten.length ≤ xs.flatten.length := by
  have : xs.flatten = (xs.take i).flatten ++ (xs.drop i).flatten := by rw [← List.flatten_append, List.take_append_drop]
  rw [this]; simp
theorem concat1 (xs : List (List Int)) (hx : xs.length ≤ 1048576) (ht : xs.flatten.length ≤ 1099511627776) : ∀ (d i : Nat), i ≤ xs.length → xs.length - i = d →
    Ev (fun k => slices_Concat_int_int.l1 k (xs.take i).flatten xs (xs.length : Int) (i : Int)) xs.flatten := by
  intro d
  induction d with
  | zero =>
    intro i hi hd
    refine Ev.succ (Ev.congr (f := fun _ => some (xs.take i).flatten) (fun k => ?_) (Ev.pin (Ev.now _) ?_))
    · rw [slices_Concat_int_int.l1, if_neg (by omega)]
    · rw [List.take_of_length_le (by omega)]
  | succ d ih =>
    intro i hi hd
    have hlt : i < xs.length := by omega
    have h1 := flat_take xs i hlt
    have h2 := flat_le xs (i + 1)
    have h3 : (xs.take i).flatten.length + xs[i].length ≤ 1099511627776 := by rw [h1] at h2; simp only [List.length_append] at h2; omega
    refine Ev.succ (Ev.congr (fun k => ?_) (Ev.pin (ih (i + 1) (by omega) (by omega)) rfl))
    rw [slices_Concat_int_int.l1, if_pos (by omega), if_pos (by omega), if_pos (by omega), rdl_get xs i hlt, if_pos (by omega), wr (by omega) (by omega), ← h1]
    rfl
theorem concat0 (xs : List (List Int)) (hx : xs.length ≤ 1048576) (ht : xs.flatten.length ≤ 1099511627776) : ∀ (d i : Nat), i ≤ xs.length → xs.length - i = d →
    Ev (fun k => slices_Concat_int_int.l0 k xs ((xs.take i).flatten.length : Int) xs (xs.length : Int) (i : Int)) xs.flatten := by
  intro d
  induction d with
  | zero =>
    intro i hi hd
    have h2 := flat_le xs i
    refine Ev.succ (Ev.congr (fun k => ?_) (Ev.pin (concat1 xs hx ht xs.length 0 (by omega) (by omega)) rfl))
    rw [slices_Concat_int_int.l0, if_neg (by omega)]
    unfold slices_Grow_int_int.f
    rw [if_pos ⟨rfl, by omega, by omega⟩]; rfl
  | succ d ih =>
    intro i hi hd
    have hlt : i < xs.length := by omega
    have h1 := flat_take xs i hlt
    have h2 := flat_le xs (i + 1)
    have h3 : (xs.take i).flatten.length + xs[i].length ≤ 1099511627776 := by rw [h1] at h2; simp only [List.length_append] at h2; omega
    refine Ev.succ (Ev.congr (fun k => ?_) (Ev.pin (ih (i + 1) (by omega) (by omega)) rfl))
    rw [slices_Concat_int_int.l0, if_pos (by omega), if_pos (by omega), if_pos (by omega), rdl_get xs i hlt, wr (by omega) (by omega), if_neg (by omega), wr (by omega) (by omega), h1, List.length_append, Int.natCast_add]
    rfl
theorem concat (xs : List (List Int)) (hx : xs.length ≤ 1048576) (ht : xs.flatten.length ≤ 1099511627776) : Ev (fun k => slices_Concat_int_int.f k xs) xs.flatten :=
  Ev.congr (fun k => by unfold slices_Concat_int_int.f; rfl) (concat0 xs hx ht xs.length 0 (by omega) (by omega))
theorem product (xs : List (List Int)) (hx : xs.length ≤ 1048576) (ht : xs.flatten.length ≤ 1048576) (hm : Mild xs.flatten) : Ev (fun k => impl_product.f k xs) (red xs.flatten) :=
  Ev.congr (fun k => by unfold impl_product.f; rfl) (Ev.bind (concat xs hx (by omega)) (Ev.bind (reduced _ ht hm) (Ev.now _)))
theorem isWo_eq (l : List Int) : isWo l = isW l := by
  unfold isWo isW; congr 1; rw [Bool.eq_iff_iff]; simp [P.isL, L.isL]
theorem areWords2 (a b : List Int) : impl_areWords.f [a, b] = some (isW a && isW b) := by
  unfold impl_areWords.f; simp [isWo_eq]
theorem l4Commutator (a b : List Int) (hl : a.length ≤ 100000) (hlb : b.length ≤ 100000) (ha : Mild a) (hb : Mild b) : Ev (fun k => spec_l4Commutator.f k a b) (red (a ++ b ++ (inv a ++ inv b))) := by
  have h1 := red_len (a ++ b); have h2 := inv_len a; have h3 := inv_len b; have h4 := red_len (inv a ++ inv b)
  simp only [List.length_append] at h1 h4
  refine Ev.congr (fun k => by unfold spec_l4Commutator.f; rfl) (Ev.bind (l2Join a b (by omega) ha hb) (Ev.bind (l2Inverse a (by omega) ha) (Ev.bind (l2Inverse b (by omega) hb) (Ev.bind (l2Join _ _ (by omega) ha.inv hb.inv) (Ev.bind (l2Join _ _ (by omega) (ha.append hb).red (ha.inv.append hb.inv).red) (Ev.pin (Ev.now _) (red_both _ _)))))))
theorem commutator (a b : List Int) (hl : a.length ≤ 100000) (hlb : b.length ≤ 100000) (ha : Mild a) (hb : Mild b) : Ev (fun k => impl_commutator.f k a b) (red (a ++ b ++ (inv a ++ inv b))) := by
  have h2 := inv_len a; have h3 := inv_len b
  refine Ev.congr (fun k => by unfold impl_commutator.f; rw [inverse a (by omega) ha, inverse b (by omega) hb, Option.bind_some, Option.bind_some]) ?_
  exact Ev.bind (Ev.pin (product _ (by simp) (by simp; omega) (by simpa using ha.append (hb.append (ha.inv.append hb.inv)))) (by simp; rfl)) (Ev.pin (Ev.now _) (by simp))
def vCommutatorOf (a b : List Int) : List Int × Bool := if isW a = true ∧ isW b = true then vFit (red (a ++ b ++ (inv a ++ inv b))) else ([], false)
theorem vCommutatorOf_len (a b : List Int) (ha : a.length ≤ 1048576) (hb : b.length ≤ 1048576) : (vCommutatorOf a b).1.length ≤ 1048576 := by
  unfold vCommutatorOf; split
  · have := vFit_len (red (a ++ b ++ (inv a ++ inv b))); omega
  · simp
theorem spec_CommutatorOf (a b : List Int) (ha : a.length ≤ 1048576) (hb : b.length ≤ 1048576) : Ev (fun k => spec_CommutatorOf.f k a b) (vCommutatorOf a b) := by
  refine Ev.congr (fun k => by unfold spec_CommutatorOf.f; rfl) (Ev.bind (l2Word a (by omega)) ?_)
  unfold vCommutatorOf
  cases h : isW a with
  | false => simp only [Bool.false_eq_true, ↓reduceIte, false_and]; exact Ev.succ (Ev.congr (f := fun _ => some ([], false)) (fun k => by rw [P.spec_CommutatorOf.j0, if_pos rfl]) (Ev.now _))
  | true =>
    simp only [↓reduceIte, true_and]
    refine Ev.bind (l2Word b (by omega)) ?_
    cases h2 : isW b with
    | false => simp only [Bool.false_eq_true, ↓reduceIte, Bool.not_false]; exact Ev.succ (Ev.congr (f := fun _ => some ([], false)) (fun k => by rw [P.spec_CommutatorOf.j0, if_pos rfl]) (Ev.now _))
    | true =>
      have := isW_len h; have := isW_len h2
      simp only [↓reduceIte, Bool.not_true]
      exact Ev.succ (Ev.congr (fun k => by rw [P.spec_CommutatorOf.j0, if_neg (by simp)]) (Ev.bind (l4Commutator a b (by omega) (by omega) (Mild.ofW h) (Mild.ofW h2)) (Ev.congr (fun k => by rw [l2Short, Option.bind_some]) (Ev.now _))))
theorem impl_CommutatorOf (a b : List Int) (ha : a.length ≤ 1048576) (hb : b.length ≤ 1048576) : Ev (fun k => impl_CommutatorOf.f k a b) (vCommutatorOf a b) := by
  refine Ev.congr (fun k => by unfold impl_CommutatorOf.f; rw [areWords2, Option.bind_some]) ?_
  unfold vCommutatorOf
  by_cases h : isW a = true ∧ isW b = true
  · have := isW_len h.1; have := isW_len h.2
    rw [if_pos h]
    simp only [h.1, h.2, Bool.and_self, ↓reduceIte]
    exact Ev.bind (commutator a b (by omega) (by omega) (Mild.ofW h.1) (Mild.ofW h.2)) (Ev.congr (fun k => by rw [fitting, Option.bind_some]) (Ev.now _))
  · rw [if_neg h]; exact Ev.congr (f := fun _ => some ([], false)) (fun k => by rw [if_neg (by simpa using h)]) (Ev.now _)
end Go.Proofs.Ytemiaaamgmhfaaa.L
