/- The plain words for FnExactWicksParts: lists, what the printed functions come to. Conditions: as each lemma says. -/
import Derived.Test.YtpdpcbebnlbpnaaPx0
import Derived.Test.YtpdpcbebnlbpnaaPx1
import Derived.Test.YtpdpcbebnlbpnaaPx10
import Derived.Test.YtpdpcbebnlbpnaaPx11
import Derived.Test.YtpdpcbebnlbpnaaPx12
import Derived.Test.YtpdpcbebnlbpnaaPx19
import Derived.Test.YtpdpcbebnlbpnaaPx2
import Derived.Test.YtpdpcbebnlbpnaaPx3
import Derived.Test.YtpdpcbebnlbpnaaPx31
import Derived.Test.YtpdpcbebnlbpnaaPx32
import Derived.Test.YtpdpcbebnlbpnaaPx33
import Derived.Test.YtpdpcbebnlbpnaaPx34
import Derived.Test.YtpdpcbebnlbpnaaPx35
import Derived.Test.YtpdpcbebnlbpnaaWMore
import Derived.Test.YtpdpcbebnlbpnaaWWords
namespace Go.Proofs.Ytpdpcbebnlbpnaa.L
open Go.RowKit Go.Proofs.Ytpdpcbebnlbpnaa.P Go.Proofs.YtpdpcbebnlbpnaaW.PrintWords Go.Proofs.YtpdpcbebnlbpnaaW.PrintMore
set_option linter.unusedVariables false
set_option linter.unusedSimpArgs false

theorem Ev.succ {α : Type} {g : Nat → Option α} {r : α} (h : Ev (fun k => g (k + 1)) r) : Ev g r := Ev.step (fun _ => rfl) h
theorem Ev.done {α : Type} {o : Option α} {r : α} (h : o = some r) : Ev (fun _ => o) r := ⟨0, fun _ _ => h⟩
theorem Ev.pin {α : Type} {g : Nat → Option α} {r s : α} (h : Ev g r) (e : r = s) : Ev g s := e ▸ h

theorem wr {i : Int} (h0 : -9223372036854775808 ≤ i) (h1 : i ≤ 9223372036854775807) : wrap64 i = i := by unfold wrap64; omega

theorem wf_bounds {a : Int} (h : (Lit.int .i64 a).wf = true) : -9223372036854775808 ≤ a ∧ a ≤ 9223372036854775807 := by
 simp [Lit.wf, IntKind.min, IntKind.max, IntKind.bits, IntKind.signed] at h
 omega
theorem nn1 (m : Nat) : ((1 : Int) + (m : Int) < 0) = False := by simp; omega
theorem nn2 (m n : Nat) : ((1 : Int) + (m : Int) + (n : Int) < 0) = False := by simp; omega
theorem nn3 (m n p : Nat) : ((1 : Int) + (m : Int) + (n : Int) + (p : Int) < 0) = False := by simp; omega
theorem nn4 (m n p q : Nat) : ((1 : Int) + (m : Int) + (n : Int) + (p : Int) + (q : Int) < 0) = False := by simp; omega
theorem rd_nat (l : List Int) (i : Nat) : rd l (i : Int) = l.getD i 0 := by unfold rd; simp
theorem rd_app (pre : List Int) (x : Int) (rest : List Int) : rd (pre ++ x :: rest) (pre.length : Int) = x := by
 rw [rd_nat, List.getD_eq_getElem?_getD, List.getElem?_append_right (Nat.le_refl _)]; simp
theorem rd_last (l : List Int) (h : l ≠ []) : rd l ((l.length : Int) - 1) = l.getLast h := by
 have hp : 0 < l.length := by cases l with | nil => exact absurd rfl h | cons _ _ => simp
 rw [show ((l.length : Int) - 1) = ((l.length - 1 : Nat) : Int) from by omega, rd_nat, List.getLast_eq_getElem, List.getD_eq_getElem?_getD, List.getElem?_eq_getElem (by omega)]
 rfl

/-- A list split at a place. -/
theorem split_at (l : List Int) (i : Nat) (h : i < l.length) : ∃ pre x rest, l = pre ++ x :: rest ∧ pre.length = i := by
 refine ⟨l.take i, l[i], l.drop (i + 1), ?_, by simp; omega⟩
 rw [List.getElem_cons_drop, List.take_append_drop]

/-- The marks that 'markIntS' lays. -/
def marks (n : Int) (m : Nat) : List Int := (List.range m).map (fun (j : Nat) => n + (j : Int))
theorem marks_len (n : Int) (m : Nat) : (marks n m).length = m := by simp [marks]
theorem marks_succ (n : Int) (m : Nat) : marks n (m + 1) = marks n m ++ [n + (m : Int)] := by simp [marks, List.range_succ]
theorem marks_get (n : Int) (m i : Nat) (h : i < m) : (marks n m).getD i 0 = n + (i : Int) := by
 simp [marks, List.getD_eq_getElem?_getD, h]

def isL (x : Int) : Bool := decide (x ≠ 0 ∧ -6 ≤ x ∧ x ≤ 6)
def isW (l : List Int) : Bool := decide (l.length ≤ 64) && l.all isL
theorem isW_len {l : List Int} (h : isW l = true) : l.length ≤ 64 := by unfold isW at h; simp at h; exact h.1
theorem isW_mem {l : List Int} (h : isW l = true) : ∀ x ∈ l, x ≠ 0 ∧ -6 ≤ x ∧ x ≤ 6 := by
 unfold isW at h; simp [isL] at h; exact fun x hx => h.2 x hx
theorem isL_iff (x : Int) : isL x = true ↔ x ≠ 0 ∧ -6 ≤ x ∧ x ≤ 6 := by simp [isL]

/-- Numbers far from the ends of an int. -/
def Mild (l : List Int) : Prop := ∀ x ∈ l, -4611686018427387904 ≤ x ∧ x ≤ 4611686018427387904
theorem Mild.ofW {l : List Int} (h : isW l = true) : Mild l := fun x hx => by have := isW_mem h x hx; omega
theorem Mild.nil : Mild [] := fun x hx => by simp at hx
theorem Mild.append {a b : List Int} (ha : Mild a) (hb : Mild b) : Mild (a ++ b) := fun x hx => by
 rcases List.mem_append.1 hx with h | h
 ·exact ha x h
 ·exact hb x h
theorem Mild.sub {a b : List Int} (ha : Mild a) (h : ∀ x ∈ b, x ∈ a) : Mild b := fun x hx => ha x (h x hx)
theorem Mild.at {l : List Int} (h : Mild l) {pre : List Int} {x : Int} {rest : List Int} (e : l = pre ++ x :: rest) : -4611686018427387904 ≤ x ∧ x ≤ 4611686018427387904 := h x (by rw [e]; simp)

/-- One letter behind a reduced list. -/
def red1 (acc : List Int) (x : Int) : List Int := if acc.getLast? = some (-x) then acc.dropLast else acc ++ [x]
/-- What letters are reduced to. -/
def redF (acc l : List Int) : List Int := l.foldl red1 acc
def red (l : List Int) : List Int := redF [] l
theorem red1_mem {acc : List Int} {x y : Int} (h : y ∈ red1 acc x) : y ∈ acc ∨ y = x := by
 unfold red1 at h
 split at h
 ·exact .inl (List.dropLast_subset _ h)
 ·simpa using h
theorem redF_mem {l acc : List Int} {y : Int} (h : y ∈ redF acc l) : y ∈ acc ∨ y ∈ l := by
 induction l generalizing acc with
 | nil => exact .inl h
 | cons x l ih =>
  rcases ih (acc := red1 acc x) h with h | h
  ·rcases red1_mem h with h | h
   ·exact .inl h
   ·exact .inr (by simp [h])
  ·exact .inr (by simp [h])
theorem red_mem {l : List Int} {y : Int} (h : y ∈ red l) : y ∈ l := by
 rcases redF_mem h with h | h
 ·simp at h
 ·exact h
theorem red1_len (acc : List Int) (x : Int) : (red1 acc x).length ≤ acc.length + 1 := by
 unfold red1; split <;> simp; omega
theorem redF_len (l acc : List Int) : (redF acc l).length ≤ acc.length + l.length := by
 induction l generalizing acc with
 | nil => simp [redF]
 | cons x l ih =>
  have h1 := ih (red1 acc x); have h2 := red1_len acc x
  simp only [redF, List.foldl_cons, List.length_cons] at h1 ⊢
  omega
theorem red_len (l : List Int) : (red l).length ≤ l.length := by have := redF_len l []; simpa [red] using this
theorem Mild.red {l : List Int} (h : Mild l) : Mild (red l) := h.sub fun _ hx => red_mem hx

/-- Is a list reduced? -/
def isRed : List Int → Bool
 | [] => true
 | [_] => true
 | x :: y :: l => !(y == -x) && isRed (y :: l)

/-- The inverse of a list of letters. -/
def inv (l : List Int) : List Int := l.reverse.map fun x => -x
theorem inv_len (l : List Int) : (inv l).length = l.length := by simp [inv]
theorem inv_mem {l : List Int} {y : Int} (h : y ∈ inv l) : -y ∈ l := by
 simp [inv] at h
 obtain ⟨a, ha, rfl⟩ := h
 simpa using ha
theorem Mild.inv {l : List Int} (h : Mild l) : Mild (inv l) := fun y hy => by have := h _ (inv_mem hy); omega
theorem inv_snoc (l : List Int) (x : Int) : inv (l ++ [x]) = -x :: inv l := by simp [inv]
theorem inv_cons (l : List Int) (x : Int) : inv (x :: l) = inv l ++ [-x] := by simp [inv]
theorem inv_append (a b : List Int) : inv (a ++ b) = inv b ++ inv a := by simp [inv]
theorem inv_inv (l : List Int) : inv (inv l) = l := by
 induction l with
 | nil => rfl
 | cons x l ih => rw [inv_cons, inv_snoc, ih, Int.neg_neg]

theorem toIntS_round (l : List Int) (hl : l.length ≤ 1048576) : ∀ (d i : Nat) (acc : List Int), i ≤ l.length → l.length - i = d → acc.length = l.length → acc.take i = l.take i →
  Ev (fun k => laws_toIntS.l0 k l acc (i : Int)) l := by
 intro d
 induction d with
 | zero =>
  intro i acc hi hd ha ht
  refine Ev.succ ?_
  have he : acc = l := by
   rw [show i = l.length from by omega] at ht
   rw [List.take_length] at ht
   rw [← ht, List.take_of_length_le (by omega)]
  refine Ev.congr (f := fun _ => some l) (fun k => ?_) (Ev.now _)
  simp only [laws_toIntS.l0]; rw [if_neg (by omega), he]
 | succ d ih =>
  intro i acc hi hd ha ht
  refine Ev.succ ?_
  have hlt : i < l.length := by omega
  have h := ih (i + 1) (acc.set i (l.getD i 0)) (by omega) (by omega) (by simp [ha]) (by
   rw [List.take_add_one, List.take_add_one, List.take_set_of_le (Nat.le_refl _), ht, List.getElem?_set_self (by omega), List.getD_eq_getElem?_getD, List.getElem?_eq_getElem hlt]
   rfl)
  refine Ev.congr (fun k => ?_) h
  simp only [laws_toIntS.l0]
  rw [if_pos (by omega), if_pos (by omega), if_pos (by omega), rd_nat, wr (by omega) (by omega), Int.toNat_natCast]
  rfl
theorem toIntS (l : List Int) (hl : l.length ≤ 1048576) : Ev (fun k => laws_toIntS.f k l) l := by
 refine Ev.congr (fun k => ?_) (toIntS_round l hl l.length 0 (List.replicate l.length 0) (by omega) (by omega) (by simp) (by simp))
 unfold laws_toIntS.f
 rw [if_pos (by omega), if_pos (by simp; omega), Int.toNat_natCast]
 rfl
theorem eqIntS_round (a b : List Int) (hl : a.length ≤ 4611686018427387904) (hab : a.length = b.length) : ∀ (d i : Nat), i ≤ a.length → a.length - i = d →
  Ev (fun k => laws_eqIntS.l0 k a b (i : Int)) (decide (a.drop i = b.drop i)) := by
 intro d
 induction d with
 | zero =>
  intro i hi hd
  refine Ev.succ ?_
  refine Ev.congr (f := fun _ => some true) (fun k => ?_) (Ev.pin (Ev.now _) ?_)
  ·simp only [laws_eqIntS.l0]; rw [if_neg (by omega)]
  ·rw [List.drop_of_length_le (by omega), List.drop_of_length_le (by omega)]; simp
 | succ d ih =>
  intro i hi hd
  refine Ev.succ ?_
  have hlt : i < a.length := by omega
  have hltb : i < b.length := by omega
  by_cases e : a.getD i 0 = b.getD i 0
  ·have h := ih (i + 1) (by omega) (by omega)
   refine Ev.congr (fun k => ?_) (Ev.pin h ?_)
   ·simp only [laws_eqIntS.l0]
    rw [if_pos (by omega), if_pos (by omega), if_pos (by omega), rd_nat, rd_nat, if_pos e, wr (by omega) (by omega)]
    rfl
   ·simp only [List.getD_eq_getElem?_getD, List.getElem?_eq_getElem hlt, List.getElem?_eq_getElem hltb, Option.getD_some] at e
    rw [List.drop_eq_getElem_cons hlt, List.drop_eq_getElem_cons hltb, e]
    simp only [List.cons.injEq, true_and]
  ·refine Ev.congr (f := fun _ => some false) (fun k => ?_) (Ev.pin (Ev.now _) ?_)
   ·simp only [laws_eqIntS.l0]
    rw [if_pos (by omega), if_pos (by omega), if_pos (by omega), rd_nat, rd_nat, if_neg e]
   ·simp only [List.getD_eq_getElem?_getD, List.getElem?_eq_getElem hlt, List.getElem?_eq_getElem hltb, Option.getD_some] at e
    refine (decide_eq_false fun h => e ?_).symm
    rw [List.drop_eq_getElem_cons hlt, List.drop_eq_getElem_cons hltb] at h
    exact (List.cons.inj h).1
theorem eqIntS (a b : List Int) (hl : a.length ≤ 4611686018427387904) : Ev (fun k => laws_eqIntS.f k a b) (decide (a = b)) := by
 by_cases hab : a.length = b.length
 ·refine Ev.congr (fun k => ?_) (eqIntS_round a b hl hab a.length 0 (by omega) (by omega))
  unfold laws_eqIntS.f
  rw [if_pos (by omega)]
  rfl
 ·refine Ev.congr (f := fun _ => some false) (fun k => ?_) (Ev.pin (Ev.now _) ?_)
  ·unfold laws_eqIntS.f
   rw [if_neg (by omega)]
  ·have : a ≠ b := fun h => hab (by rw [h])
   simp [this]
theorem eqIntS_yes (a : List Int) (hl : a.length ≤ 4611686018427387904) : Ev (fun k => laws_eqIntS.f k a a) true := Ev.pin (eqIntS a a hl) (by simp)
theorem markIntS_round (n : Int) (m : Nat) (h0 : 0 ≤ n) (h1 : n ≤ 1099511627776) (hm : m ≤ 1099511627776) : ∀ (d i : Nat) (acc : List Int), i ≤ m → m - i = d → acc.length = m → acc.take i = marks n i →
  Ev (fun k => laws_markIntS.l0 k acc (n + (i : Int)) (i : Int)) (n + (m : Int), marks n m) := by
 intro d
 induction d with
 | zero =>
  intro i acc hi hd ha ht
  refine Ev.succ ?_
  have hi2 : i = m := by omega
  subst hi2
  refine Ev.congr (f := fun _ => some (n + (i : Int), marks n i)) (fun k => ?_) (Ev.now _)
  simp only [laws_markIntS.l0]
  rw [if_neg (by omega), ← ht, List.take_of_length_le (by omega)]
 | succ d ih =>
  intro i acc hi hd ha ht
  refine Ev.succ ?_
  have h := ih (i + 1) (acc.set i (n + (i : Int))) (by omega) (by omega) (by simp [ha]) (by
   rw [List.take_add_one, List.take_set_of_le (Nat.le_refl _), ht, List.getElem?_set_self (by omega), marks_succ]
   rfl)
  refine Ev.congr (fun k => ?_) h
  simp only [laws_markIntS.l0]
  rw [if_pos (by omega), if_pos (by omega), wr (by omega) (by omega), wr (by omega) (by omega), Int.toNat_natCast, Int.add_assoc]
  rfl
theorem markIntS (l : List Int) (n : Int) (h0 : 0 ≤ n) (h1 : n ≤ 1099511627776) (hm : l.length ≤ 1099511627776) : Ev (fun k => laws_markIntS.f k l n) (n + (l.length : Int), marks n l.length) := by
 refine Ev.congr (fun k => ?_) (markIntS_round n l.length h0 h1 hm l.length 0 l (by omega) (by omega) rfl (by simp [marks]))
 unfold laws_markIntS.f
 simp
theorem heldIntS_round (n : Int) (m : Nat) (h0 : 0 ≤ n) (h1 : n ≤ 1099511627776) (hm : m ≤ 1099511627776) : ∀ (d i : Nat), i ≤ m → m - i = d →
  Ev (fun k => laws_heldIntS.l0 k (marks n m) (n + (i : Int)) (i : Int)) (n + (m : Int)) := by
 intro d
 induction d with
 | zero =>
  intro i hi hd
  refine Ev.succ ?_
  have hi2 : i = m := by omega
  subst hi2
  refine Ev.congr (f := fun _ => some (n + (i : Int))) (fun k => ?_) (Ev.now _)
  simp only [laws_heldIntS.l0]
  rw [if_neg (by rw [marks_len]; omega)]
 | succ d ih =>
  intro i hi hd
  refine Ev.succ ?_
  have h := ih (i + 1) (by omega) (by omega)
  refine Ev.congr (fun k => ?_) h
  simp only [laws_heldIntS.l0]
  rw [if_pos (by rw [marks_len]; omega), if_pos (by omega), rd_nat, marks_get _ _ _ (by omega), if_pos rfl, wr (by omega) (by omega), wr (by omega) (by omega), Int.add_assoc]
  rfl
theorem heldIntS (n : Int) (m : Nat) (h0 : 0 ≤ n) (h1 : n ≤ 1099511627776) (hm : m ≤ 1099511627776) : Ev (fun k => laws_heldIntS.f k (marks n m) n) (n + (m : Int)) := by
 refine Ev.congr (fun k => ?_) (heldIntS_round n m h0 h1 hm m 0 (by omega) (by omega))
 unfold laws_heldIntS.f
 simp
theorem l2Letter (x : Int) : spec_l2Letter.f x = some (isL x) := by
 unfold spec_l2Letter.f spec_l1In.f isL
 by_cases h0 : x = 0
 ·simp [h0]
 ·by_cases h1 : x ≥ -6
  ·simp [h0, h1]
  ·simp [h0, h1]
theorem l2Word_round (l : List Int) (hl : l.length ≤ 4611686018427387904) : ∀ (d i : Nat), i ≤ l.length → l.length - i = d →
  Ev (fun k => spec_l2Word.l0 k l (i : Int)) (decide (l.length ≤ 64) && (l.drop i).all isL) := by
 intro d
 induction d with
 | zero =>
  intro i hi hd
  refine Ev.succ (Ev.congr (f := fun k => spec_l2Word.j1 k l (i : Int) false) (fun k => ?_) (Ev.succ ?_))
  ·simp only [spec_l2Word.l0]; rw [if_neg (by omega)]
  ·refine Ev.congr (f := fun _ => some (decide ((l.length : Int) ≤ 64))) (fun k => ?_) (Ev.pin (Ev.now _) ?_)
   ·simp only [spec_l2Word.j1]; rw [if_neg (by simp)]
   ·rw [List.drop_of_length_le (by omega)]; simp; omega
 | succ d ih =>
  intro i hi hd
  have hlt : i < l.length := by omega
  by_cases h64 : i ≤ 64
  ·refine Ev.succ (Ev.congr (f := fun k => spec_l2Word.j1 k l (i : Int) true) (fun k => ?_) (Ev.succ ?_))
   ·simp only [spec_l2Word.l0]; rw [if_pos (by omega), show decide ((i : Int) ≤ 64) = true from by simp; omega]
   ·have hx : l.drop i = l[i] :: l.drop (i + 1) := List.drop_eq_getElem_cons hlt
    have hg : rd l (i : Int) = l[i] := by rw [rd_nat, List.getD_eq_getElem?_getD, List.getElem?_eq_getElem hlt]; rfl
    rw [hx, List.all_cons]
    cases hL : isL l[i] with
    | true =>
     refine Ev.congr (fun k => ?_) (Ev.pin (ih (i + 1) (by omega) (by omega)) (by simp))
     rw [spec_l2Word.j1, if_pos rfl, if_pos (by omega), if_pos (by omega), hg, l2Letter, hL, Option.bind_some, if_pos rfl, wr (by omega) (by omega)]
     rfl
    | false =>
     refine Ev.congr (f := fun _ => some false) (fun k => ?_) (Ev.pin (Ev.now _) (by simp))
     rw [spec_l2Word.j1, if_pos rfl, if_pos (by omega), if_pos (by omega), hg, l2Letter, hL, Option.bind_some, if_neg (by simp)]
  ·refine Ev.succ (Ev.congr (f := fun k => spec_l2Word.j1 k l (i : Int) false) (fun k => ?_) (Ev.succ ?_))
   ·simp only [spec_l2Word.l0]; rw [if_pos (by omega), show decide ((i : Int) ≤ 64) = false from by simp; omega]
   ·refine Ev.congr (f := fun _ => some (decide ((l.length : Int) ≤ 64))) (fun k => ?_) (Ev.pin (Ev.now _) ?_)
    ·simp only [spec_l2Word.j1]; rw [if_neg (by simp)]
    ·rw [decide_eq_false (by omega), decide_eq_false (by omega)]; rfl
theorem l2Word (l : List Int) (hl : l.length ≤ 4611686018427387904) : Ev (fun k => spec_l2Word.f k l) (isW l) :=
 Ev.congr (fun k => by unfold spec_l2Word.f; rfl) (Ev.pin (l2Word_round l hl l.length 0 (by omega) (by omega)) (by simp [isW]))
theorem isWord (l : List Int) : impl_isWord.f l = some (isW l) := by
 unfold impl_isWord.f isW
 congr 2
 rw [Bool.eq_iff_iff]
 simp [P.isL, L.isL]
theorem l2Reduce_round (l : List Int) (hl : l.length ≤ 1048576) (hm : Mild l) : ∀ (d i : Nat) (acc : List Int), i ≤ l.length → l.length - i = d → acc.length ≤ i →
  Ev (fun k => spec_l2Reduce.l0 k l acc (i : Int)) (redF acc (l.drop i)) := by
 intro d
 induction d with
 | zero =>
  intro i acc hi hd ha
  refine Ev.succ (Ev.congr (f := fun _ => some acc) (fun k => ?_) (Ev.pin (Ev.now _) ?_))
  ·simp only [spec_l2Reduce.l0]; rw [if_neg (by omega)]
  ·rw [List.drop_of_length_le (by omega)]; rfl
 | succ d ih =>
  intro i acc hi hd ha
  have hlt : i < l.length := by omega
  have hg : rd l (i : Int) = l[i] := by rw [rd_nat, List.getD_eq_getElem?_getD, List.getElem?_eq_getElem hlt]; rfl
  have hb := hm l[i] (List.getElem_mem hlt)
  rw [List.drop_eq_getElem_cons hlt]
  have h := ih (i + 1) (red1 acc l[i]) (by omega) (by omega) (by have := red1_len acc l[i]; omega)
  refine Ev.succ (Ev.congr (fun k => ?_) (Ev.pin h rfl))
  simp only [spec_l2Reduce.l0]
  rw [if_pos (by omega)]
  by_cases h0 : acc = []
  ·subst h0
   rw [if_neg (by simp), if_pos (by omega), if_pos (by simp), hg, wr (by omega) (by omega)]
   rfl
  ·have hp : 0 < acc.length := List.length_pos_iff.2 h0
   rw [if_pos (by omega), wr (by omega) (by omega), if_pos (by omega), if_pos (by omega), if_pos (by omega), hg, rd_last acc h0, wr (i := -l[i]) (by omega) (by omega)]
   by_cases e : acc.getLast h0 = -l[i]
   ·rw [if_pos e, if_pos (by omega), wr (by omega) (by omega), show ((acc.length : Int) - 1).toNat = acc.length - 1 from by omega, ← List.dropLast_eq_take]
    have : red1 acc l[i] = acc.dropLast := by unfold red1; rw [if_pos (by rw [List.getLast?_eq_some_getLast h0, e])]
    rw [this]; rfl
   ·rw [if_neg e, if_pos (by omega), wr (by omega) (by omega)]
    have : red1 acc l[i] = acc ++ [l[i]] := by unfold red1; rw [if_neg (by rw [List.getLast?_eq_some_getLast h0]; simpa using e)]
    rw [this]; rfl
theorem l2Reduce (l : List Int) (hl : l.length ≤ 1048576) (hm : Mild l) : Ev (fun k => spec_l2Reduce.f k l) (red l) :=
 Ev.congr (fun k => by unfold spec_l2Reduce.f; rfl) (Ev.pin (l2Reduce_round l hl hm l.length 0 [] (by omega) (by omega) (by simp)) (by simp [red]))
theorem reduced_round (l : List Int) (hl : l.length ≤ 1048576) (hm : Mild l) : ∀ (d i : Nat) (acc : List Int), i ≤ l.length → l.length - i = d → acc.length ≤ i →
  Ev (fun k => impl_reduced.l0 k acc l (l.length : Int) (i : Int)) (redF acc (l.drop i)) := by
 intro d
 induction d with
 | zero =>
  intro i acc hi hd ha
  refine Ev.succ (Ev.congr (f := fun _ => some acc) (fun k => ?_) (Ev.pin (Ev.now _) ?_))
  ·simp only [impl_reduced.l0]; rw [if_neg (by omega)]
  ·rw [List.drop_of_length_le (by omega)]; rfl
 | succ d ih =>
  intro i acc hi hd ha
  have hlt : i < l.length := by omega
  have hg : rd l (i : Int) = l[i] := by rw [rd_nat, List.getD_eq_getElem?_getD, List.getElem?_eq_getElem hlt]; rfl
  have hb := hm l[i] (List.getElem_mem hlt)
  rw [List.drop_eq_getElem_cons hlt]
  have h := ih (i + 1) (red1 acc l[i]) (by omega) (by omega) (by have := red1_len acc l[i]; omega)
  refine Ev.succ (Ev.congr (fun k => ?_) (Ev.pin h rfl))
  simp only [impl_reduced.l0]
  rw [if_pos (by omega), if_pos (by omega), if_pos (by omega)]
  by_cases h0 : acc = []
  ·subst h0
   rw [if_neg (by rw [wr (by simp) (by simp)]; simp), if_pos (by simp), hg, wr (by omega) (by omega)]
   rfl
  ·have hp : 0 < acc.length := List.length_pos_iff.2 h0
   rw [wr (i := (acc.length : Int) - 1) (by omega) (by omega), if_pos (by omega), if_pos (by omega), if_pos (by omega), hg, rd_last acc h0, wr (i := -l[i]) (by omega) (by omega)]
   by_cases e : acc.getLast h0 = -l[i]
   ·rw [if_pos e, if_pos (by omega), wr (by omega) (by omega), show ((acc.length : Int) - 1).toNat = acc.length - 1 from by omega, ← List.dropLast_eq_take]
    have : red1 acc l[i] = acc.dropLast := by unfold red1; rw [if_pos (by rw [List.getLast?_eq_some_getLast h0, e])]
    rw [this]; rfl
   ·rw [if_neg e, if_pos (by omega), wr (by omega) (by omega)]
    have : red1 acc l[i] = acc ++ [l[i]] := by unfold red1; rw [if_neg (by rw [List.getLast?_eq_some_getLast h0]; simpa using e)]
    rw [this]; rfl
theorem reduced (l : List Int) (hl : l.length ≤ 1048576) (hm : Mild l) : Ev (fun k => impl_reduced.f k l) (red l) :=
 Ev.congr (fun k => by unfold impl_reduced.f; rfl) (Ev.pin (reduced_round l hl hm l.length 0 [] (by omega) (by omega) (by simp)) (by simp [red]))

theorem rd_get (l : List Int) (i : Nat) (h : i < l.length) : rd l (i : Int) = l[i] := by
 rw [rd_nat, List.getD_eq_getElem?_getD, List.getElem?_eq_getElem h]; rfl

/-! reduced or not -/
theorem red1_snoc {acc : List Int} {x a : Int} (h : acc.getLast? = some a) (he : a ≠ -x) : red1 acc x = acc ++ [x] := by
 unfold red1; rw [if_neg (by rw [h]; simpa using he)]
theorem redF_full (l : List Int) : ∀ (acc : List Int) (a : Int), acc.getLast? = some a → ((redF acc l).length = acc.length + l.length ↔ isRed (a :: l) = true) := by
 induction l with
 | nil => intro acc a h; simp [redF, isRed]
 | cons x l ih =>
  intro acc a h
  by_cases e : a = -x
  ·have h1 : red1 acc x = acc.dropLast := by unfold red1; rw [if_pos (by rw [h, e])]
   have h2 := redF_len l (acc.dropLast)
   have h3 : redF acc (x :: l) = redF acc.dropLast l := by simp only [redF, List.foldl_cons, h1]
   have hx : (x == -a) = true := by simp; omega
   rw [h3]
   simp only [isRed, hx, Bool.not_true, Bool.false_and, List.length_cons, Bool.false_eq_true, iff_false]
   simp at h2
   omega
  ·have h1 := red1_snoc h e
   have h3 : redF acc (x :: l) = redF (acc ++ [x]) l := by simp only [redF, List.foldl_cons, h1]
   have hx : (x == -a) = false := by simp; omega
   have h4 := ih (acc ++ [x]) x (by simp)
   rw [h3]
   simp only [isRed, hx, Bool.not_false, Bool.true_and]
   rw [← h4]
   simp
   omega
theorem isRed_iff (l : List Int) : ((red l).length = l.length) ↔ isRed l = true := by
 cases l with
 | nil => simp [red, redF, isRed]
 | cons x l =>
  have h := redF_full l [x] x rfl
  have : red (x :: l) = redF [x] l := by simp [red, redF, red1]
  rw [this, ← h]
  simp
  omega
theorem isRed_eq (l : List Int) : (((red l).length : Int) == (l.length : Int)) = isRed l := by
 have h := isRed_iff l
 cases hb : isRed l with
 | true =>
  have h2 : (red l).length = l.length := h.2 hb
  rw [beq_iff_eq]; omega
 | false =>
  have h2 : ¬ ((red l).length = l.length) := by rw [h, hb]; simp
  rw [beq_eq_false_iff_ne]; omega

theorem l1Own (l : List Int) (h : l.length ≤ 1099511627776) : spec_l1Own.f l = some l := by
 unfold spec_l1Own.f
 rw [Option.bind_some, if_pos (by simp; omega)]; rfl
theorem l2Inverse_round (l : List Int) (hl : l.length ≤ 1048576) (hm : Mild l) : ∀ (j : Nat), j ≤ l.length → Ev (fun k => spec_l2Inverse.l0 k l (inv (l.drop j)) ((j : Int) - 1)) (inv l) := by
 intro j
 induction j with
 | zero =>
  intro _
  refine Ev.succ (Ev.congr (f := fun _ => some (inv l)) (fun k => ?_) (Ev.now _))
  rw [spec_l2Inverse.l0, if_neg (by omega), List.drop_zero]
 | succ j ih =>
  intro hj
  have hlt : j < l.length := by omega
  have hb := hm l[j] (List.getElem_mem hlt)
  have hn := inv_len (l.drop (j + 1))
  have hn2 : (l.drop (j + 1)).length ≤ l.length := by simp
  refine Ev.succ (Ev.congr (fun k => ?_) (Ev.pin (ih (by omega)) rfl))
  rw [spec_l2Inverse.l0, show (((j + 1 : Nat) : Int) - 1) = (j : Int) from by omega, if_pos (by omega), if_pos (by omega), if_pos (by omega), if_pos (by omega), rd_get l j hlt, wr (by omega) (by omega), wr (by omega) (by omega)]
  rw [List.drop_eq_getElem_cons hlt, inv_cons]
theorem l2Inverse (l : List Int) (hl : l.length ≤ 1048576) (hm : Mild l) : Ev (fun k => spec_l2Inverse.f k l) (inv l) := by
 refine Ev.congr (fun k => by unfold spec_l2Inverse.f; rw [wr (by omega) (by omega)]) (Ev.pin (Ev.congr (fun k => ?_) (l2Inverse_round l hl hm l.length (Nat.le_refl _))) rfl)
 rw [List.drop_length]; rfl
theorem inverse (l : List Int) (hl : l.length ≤ 1048576) (hm : Mild l) : impl_inverse.f l = some (inv l) := by
 unfold impl_inverse.f inv
 rw [if_pos (by omega)]
 congr 1
 apply List.map_congr_left
 intro x hx
 have := hm x (by simpa using hx)
 exact wr (by omega) (by omega)
theorem rdl_get (xs : List (List Int)) (i : Nat) (h : i < xs.length) : rd_L1 xs (i : Int) = xs[i] := by
 unfold rd_L1; rw [List.getD_eq_getElem?_getD]; simp [h]
theorem flat_take (xs : List (List Int)) (i : Nat) (h : i < xs.length) : (xs.take (i + 1)).flatten = (xs.take i).flatten ++ xs[i] := by
 rw [List.take_succ_eq_append_getElem h, List.flatten_append, List.flatten_cons, List.flatten_nil, List.append_nil]
theorem flat_le (xs : List (List Int)) (i : Nat) : (xs.take i).flatten.length ≤ xs.flatten.length := by
 have : xs.flatten = (xs.take i).flatten ++ (xs.drop i).flatten := by rw [← List.flatten_append, List.take_append_drop]
 rw [this]; simp
theorem concat1 (xs : List (List Int)) (hx : xs.length ≤ 1048576) (ht : xs.flatten.length ≤ 1099511627776) : ∀ (d i : Nat), i ≤ xs.length → xs.length - i = d →
  Ev (fun k => slices_Concat_int_int.l1 k (xs.take i).flatten xs (xs.length : Int) (i : Int)) xs.flatten := by
 intro d
 induction d with
 | zero =>
  intro i hi hd
  refine Ev.succ (Ev.congr (f := fun _ => some (xs.take i).flatten) (fun k => ?_) (Ev.pin (Ev.now _) ?_))
  ·rw [slices_Concat_int_int.l1, if_neg (by omega)]
  ·rw [List.take_of_length_le (by omega)]
 | succ d ih =>
  intro i hi hd
  have hlt : i < xs.length := by omega
  have h1 := flat_take xs i hlt
  have h2 := flat_le xs (i + 1)
  have h3 : (xs.take i).flatten.length + xs[i].length ≤ 1099511627776 := by rw [h1] at h2; simp only [List.length_append] at h2; omega
  refine Ev.succ (Ev.congr (fun k => ?_) (Ev.pin (ih (i + 1) (by omega) (by omega)) rfl))
  rw [slices_Concat_int_int.l1, if_pos (by omega), if_pos (by omega), if_pos (by omega), rdl_get xs i hlt, if_pos (by omega), wr (by omega) (by omega), ← h1]
  rfl
theorem concat0 (xs : List (List Int)) (hx : xs.length ≤ 1048576) (ht : xs.flatten.length ≤ 1099511627776) : ∀ (d i : Nat), i ≤ xs.length → xs.length - i = d →
  Ev (fun k => slices_Concat_int_int.l0 k xs ((xs.take i).flatten.length : Int) xs (xs.length : Int) (i : Int)) xs.flatten := by
 intro d
 induction d with
 | zero =>
  intro i hi hd
  have h2 := flat_le xs i
  refine Ev.succ (Ev.congr (fun k => ?_) (Ev.pin (concat1 xs hx ht xs.length 0 (by omega) (by omega)) rfl))
  rw [slices_Concat_int_int.l0, if_neg (by omega)]
  unfold slices_Grow_int_int.f
  rw [if_pos ⟨rfl, by omega, by omega⟩]; rfl
 | succ d ih =>
  intro i hi hd
  have hlt : i < xs.length := by omega
  have h1 := flat_take xs i hlt
  have h2 := flat_le xs (i + 1)
  have h3 : (xs.take i).flatten.length + xs[i].length ≤ 1099511627776 := by rw [h1] at h2; simp only [List.length_append] at h2; omega
  refine Ev.succ (Ev.congr (fun k => ?_) (Ev.pin (ih (i + 1) (by omega) (by omega)) rfl))
  rw [slices_Concat_int_int.l0, if_pos (by omega), if_pos (by omega), if_pos (by omega), rdl_get xs i hlt, wr (by omega) (by omega), if_neg (by omega), wr (by omega) (by omega), h1, List.length_append, Int.natCast_add]
  rfl
theorem concat (xs : List (List Int)) (hx : xs.length ≤ 1048576) (ht : xs.flatten.length ≤ 1099511627776) : Ev (fun k => slices_Concat_int_int.f k xs) xs.flatten :=
 Ev.congr (fun k => by unfold slices_Concat_int_int.f; rfl) (concat0 xs hx ht xs.length 0 (by omega) (by omega))
theorem turned (a : List Int) (n : Int) (ha : a.length ≤ 1048576) (h0 : 0 ≤ n) (h1 : n ≤ a.length) : Ev (fun k => impl_turned.f k a n) (a.drop n.toNat ++ a.take n.toNat) := by
 refine Ev.congr (fun k => by unfold impl_turned.f; rw [if_pos h0, if_pos h1]) ?_
 exact Ev.bind (concat [a.drop n.toNat, a.take n.toNat] (by simp) (by simp only [List.flatten_cons, List.flatten_nil, List.length_append, List.length_drop, List.length_take, List.length_nil]; omega)) (Ev.pin (Ev.now _) (by simp))

/-- The core, cut from both ends, and the word by which. -/
def coreF : Nat → List Int → List Int → List Int × List Int
 | 0, w, g => (w, g)
 | n + 1, w, g => if 1 < w.length ∧ rd w 0 = -(rd w ((w.length : Int) - 1)) then coreF n ((w.take (w.length - 1)).drop 1) (g ++ [rd w 0]) else (w, g)
def coreV (l : List Int) : List Int × List Int := coreF (red l).length (red l) []
theorem coreF_len : ∀ (n : Nat) (w g : List Int), (coreF n w g).1.length ≤ w.length ∧ (coreF n w g).2.length ≤ g.length + w.length ∧ ((∀ x ∈ (coreF n w g).1, x ∈ w) ∧ ∀ x ∈ (coreF n w g).2, x ∈ g ∨ x ∈ w)
 | 0, w, g => ⟨Nat.le_refl _, by simp [coreF], fun x hx => hx, fun x hx => .inl hx⟩
 | n + 1, w, g => by
  unfold coreF
  split
  ·rename_i h
   obtain ⟨h1, h2, h3, h4⟩ := coreF_len n ((w.take (w.length - 1)).drop 1) (g ++ [rd w 0])
   have hl : ((w.take (w.length - 1)).drop 1).length = w.length - 2 := by simp; omega
   refine ⟨by omega, by have h5 := h2; rw [hl, List.length_append, List.length_singleton] at h5; omega, fun x hx => List.mem_of_mem_take (List.mem_of_mem_drop (h3 x hx)), fun x hx => ?_⟩
   rcases h4 x hx with h5 | h5
   ·rcases List.mem_append.1 h5 with h6 | h6
    ·exact .inl h6
    ·right
     rw [List.mem_singleton] at h6
     subst h6
     rw [show (0 : Int) = ((0 : Nat) : Int) from rfl, rd_get w 0 (by omega)]; exact List.getElem_mem _
   ·exact .inr (List.mem_of_mem_take (List.mem_of_mem_drop h5))
  ·exact ⟨Nat.le_refl _, by simp, fun x hx => hx, fun x hx => .inl hx⟩
theorem coreV_len (l : List Int) : (coreV l).1.length ≤ l.length ∧ (coreV l).2.length ≤ l.length ∧ ((∀ x ∈ (coreV l).1, x ∈ l) ∧ ∀ x ∈ (coreV l).2, x ∈ l) := by
 obtain ⟨h1, h2, h3, h4⟩ := coreF_len (red l).length (red l) []
 have := red_len l
 exact ⟨by unfold coreV; omega, by unfold coreV; simp at h2; omega, fun x hx => red_mem (h3 x hx), fun x hx => red_mem ((h4 x hx).resolve_left (by simp))⟩
theorem l2Core_round : ∀ (n : Nat) (w g : List Int), w.length ≤ n + 1 → w.length + g.length ≤ 1048576 → Mild w → Ev (fun k => P.spec_l2Core.l0 k w g) (coreF n w g) := by
 intro n
 induction n with
 | zero => intro w g hn hl hm; exact Ev.succ (Ev.congr (f := fun _ => some (w, g)) (fun k => by rw [P.spec_l2Core.l0, if_neg (by omega), l1Own w (by omega), Option.bind_some]) (Ev.now _))
 | succ n ih =>
  intro w g hn hl hm
  unfold coreF
  by_cases h1 : 1 < w.length
  ·have hx : rd w ((w.length : Int) - 1) = w[w.length - 1] := by rw [show ((w.length : Int) - 1) = ((w.length - 1 : Nat) : Int) from by omega, rd_get w _ (by omega)]
   have hb := hm _ (List.getElem_mem (show w.length - 1 < w.length by omega))
   rw [← hx] at hb
   by_cases h2 : rd w 0 = -(rd w ((w.length : Int) - 1))
   ·rw [if_pos ⟨h1, h2⟩]
    refine Ev.succ (Ev.congr (fun k => by rw [P.spec_l2Core.l0, if_pos (by omega), if_pos (by omega), wr (i := (w.length : Int) - 1) (by omega) (by omega), if_pos (by omega), if_pos (by omega), wr (i := -(rd w ((w.length : Int) - 1))) (by omega) (by omega), if_pos h2, if_pos (by omega), if_pos (by omega), if_pos (by omega), show (((w.length : Int) - 1)).toNat = w.length - 1 from by omega]; rfl) (ih _ _ ?_ ?_ ?_))
    ·simp; omega
    ·simp; omega
    ·exact hm.sub fun x hx => List.mem_of_mem_take (List.mem_of_mem_drop hx)
   ·rw [if_neg (fun h => h2 h.2)]
    exact Ev.succ (Ev.congr (f := fun _ => some (w, g)) (fun k => by rw [P.spec_l2Core.l0, if_pos (by omega), if_pos (by omega), wr (i := (w.length : Int) - 1) (by omega) (by omega), if_pos (by omega), if_pos (by omega), wr (i := -(rd w ((w.length : Int) - 1))) (by omega) (by omega), if_neg h2, l1Own w (by omega), Option.bind_some]) (Ev.now _))
  ·rw [if_neg (fun h => h1 h.1)]
   exact Ev.succ (Ev.congr (f := fun _ => some (w, g)) (fun k => by rw [P.spec_l2Core.l0, if_neg (by omega), l1Own w (by omega), Option.bind_some]) (Ev.now _))
theorem l2Core (l : List Int) (hl : l.length ≤ 1048576) (hm : Mild l) : Ev (fun k => P.spec_l2Core.f k l) (coreV l) := by
 have := red_len l
 exact Ev.congr (fun k => by unfold P.spec_l2Core.f; rfl) (Ev.bind (l2Reduce l hl hm) (l2Core_round (red l).length (red l) [] (by omega) (by simp; omega) hm.red))
theorem core_round : ∀ (n : Nat) (w g : List Int), w.length ≤ n + 1 → w.length + g.length ≤ 1048576 → Mild w → Ev (fun k => P.impl_core.l0 k w g ((w.length : Int) - 1)) (coreF n w g) := by
 intro n
 induction n with
 | zero => intro w g hn hl hm; exact Ev.succ (Ev.congr (f := fun _ => some (w, g)) (fun k => by rw [P.impl_core.l0, if_neg (by omega)]) (Ev.now _))
 | succ n ih =>
  intro w g hn hl hm
  unfold coreF
  by_cases h1 : 1 < w.length
  ·have hx : rd w ((w.length : Int) - 1) = w[w.length - 1] := by rw [show ((w.length : Int) - 1) = ((w.length - 1 : Nat) : Int) from by omega, rd_get w _ (by omega)]
   have hb := hm _ (List.getElem_mem (show w.length - 1 < w.length by omega))
   rw [← hx] at hb
   by_cases h2 : rd w 0 = -(rd w ((w.length : Int) - 1))
   ·rw [if_pos ⟨h1, h2⟩]
    have hc : ((w.take (w.length - 1)).drop 1).length = w.length - 2 := by simp; omega
    refine Ev.succ (Ev.congr (fun k => by rw [P.impl_core.l0, if_pos (by omega), if_pos (by omega), if_pos (by omega), if_pos (by omega), wr (i := -(rd w ((w.length : Int) - 1))) (by omega) (by omega), if_pos h2, if_pos (by omega), if_pos (by omega), if_pos (by omega), show (((w.length : Int) - 1)).toNat = w.length - 1 from by omega, Option.bind_some, show (1 : Int).toNat = 1 from rfl, wr (i := ((((w.take (w.length - 1)).drop 1).length : Nat) : Int) - 1) (by omega) (by omega)]) (ih _ _ ?_ ?_ ?_))
    ·omega
    ·rw [hc]; simp; omega
    ·exact hm.sub fun x hx => List.mem_of_mem_take (List.mem_of_mem_drop hx)
   ·rw [if_neg (fun h => h2 h.2)]
    exact Ev.succ (Ev.congr (f := fun _ => some (w, g)) (fun k => by rw [P.impl_core.l0, if_pos (by omega), if_pos (by omega), if_pos (by omega), if_pos (by omega), wr (i := -(rd w ((w.length : Int) - 1))) (by omega) (by omega), if_neg h2]) (Ev.now _))
  ·rw [if_neg (fun h => h1 h.1)]
   exact Ev.succ (Ev.congr (f := fun _ => some (w, g)) (fun k => by rw [P.impl_core.l0, if_neg (by omega)]) (Ev.now _))
theorem core (l : List Int) (hl : l.length ≤ 1048576) (hm : Mild l) : Ev (fun k => P.impl_core.f k l) (coreV l) := by
 have := red_len l
 exact Ev.congr (fun k => by unfold P.impl_core.f; rfl) (Ev.bind (reduced l hl hm) (Ev.congr (fun k => by rw [wr (by omega) (by omega)]) (core_round (red l).length (red l) [] (by omega) (by simp; omega) hm.red)))
/-- A list turned. -/
def turnL (w : List Int) (k : Nat) : List Int := w.drop k ++ w.take k
theorem turnL_len (w : List Int) (k : Nat) (h : k ≤ w.length) : (turnL w k).length = w.length := by unfold turnL; simp; omega
theorem turnL_mem (w : List Int) (k : Nat) : ∀ x ∈ turnL w k, x ∈ w := fun x hx => by
 unfold turnL at hx
 rcases List.mem_append.1 hx with h | h
 ·exact List.mem_of_mem_drop h
 ·exact List.mem_of_mem_take h
theorem l2Turn (w : List Int) (k : Nat) (hw : w.length ≤ 1048576) (hk : k ≤ w.length) : P.spec_l2Turn.f w (k : Int) = some (turnL w k) := by
 unfold P.spec_l2Turn.f
 rw [if_pos (by omega), if_pos (by omega), l1Own _ (by simp; omega), Option.bind_some, if_pos (by simp; omega)]
 rfl
theorem l1Same_round (a b : List Int) (hl : a.length ≤ 4611686018427387904) (hab : a.length = b.length) : ∀ (d i : Nat), i ≤ a.length → a.length - i = d → Ev (fun k => P.spec_l1Same.l0 k a b (i : Int)) (decide (a.drop i = b.drop i)) := by
 intro d
 induction d with
 | zero => intro i hi hd; exact Ev.succ (Ev.congr (f := fun _ => some true) (fun k => by rw [P.spec_l1Same.l0, if_neg (by omega)]) (Ev.pin (Ev.now _) (by rw [List.drop_of_length_le (by omega), List.drop_of_length_le (by omega)]; simp)))
 | succ d ih =>
  intro i hi hd
  have hlt : i < a.length := by omega
  rw [List.drop_eq_getElem_cons hlt, List.drop_eq_getElem_cons (show i < b.length by omega)]
  by_cases h : a[i] = b[i]
  ·exact Ev.succ (Ev.congr (fun k => by rw [P.spec_l1Same.l0, if_pos (by omega), if_pos (by omega), if_pos (by omega), rd_get a i hlt, rd_get b i (by omega), if_pos h, wr (by omega) (by omega)]; rfl) (Ev.pin (ih (i + 1) (by omega) (by omega)) (by rw [h]; simp only [List.cons.injEq, true_and])))
  ·exact Ev.succ (Ev.congr (f := fun _ => some false) (fun k => by rw [P.spec_l1Same.l0, if_pos (by omega), if_pos (by omega), if_pos (by omega), rd_get a i hlt, rd_get b i (by omega), if_neg h]) (Ev.pin (Ev.now _) (by symm; rw [decide_eq_false_iff_not]; intro e; exact h (List.cons.inj e).1)))
theorem l1Same (a b : List Int) (hl : a.length ≤ 4611686018427387904) : Ev (fun k => P.spec_l1Same.f k a b) (decide (a = b)) := by
 by_cases h : a.length = b.length
 ·exact Ev.congr (fun k => by unfold P.spec_l1Same.f; rw [if_pos (by omega)]; rfl) (Ev.pin (l1Same_round a b hl h a.length 0 (by omega) (by omega)) (by simp))
 ·exact Ev.congr (f := fun _ => some false) (fun k => by unfold P.spec_l1Same.f; rw [if_neg (by omega)]) (Ev.pin (Ev.now _) (by symm; rw [decide_eq_false_iff_not]; rintro rfl; exact h rfl))
theorem Equal_round (a b : List Int) (hl : a.length ≤ 4611686018427387904) (hab : a.length = b.length) : ∀ (d i : Nat), i ≤ a.length → a.length - i = d → Ev (fun k => P.slices_Equal_int_int.l0 k a b (a.length : Int) (i : Int)) (decide (a.drop i = b.drop i)) := by
 intro d
 induction d with
 | zero => intro i hi hd; exact Ev.succ (Ev.congr (f := fun _ => some true) (fun k => by rw [P.slices_Equal_int_int.l0, if_neg (by omega)]) (Ev.pin (Ev.now _) (by rw [List.drop_of_length_le (by omega), List.drop_of_length_le (by omega)]; simp)))
 | succ d ih =>
  intro i hi hd
  have hlt : i < a.length := by omega
  rw [List.drop_eq_getElem_cons hlt, List.drop_eq_getElem_cons (show i < b.length by omega)]
  by_cases h : a[i] = b[i]
  ·exact Ev.succ (Ev.congr (fun k => by rw [P.slices_Equal_int_int.l0, if_pos (by omega), if_pos (by omega), if_pos (by omega), if_pos (by omega), rd_get a i hlt, rd_get b i (by omega), if_pos h, wr (by omega) (by omega)]; rfl) (Ev.pin (ih (i + 1) (by omega) (by omega)) (by rw [h]; simp only [List.cons.injEq, true_and])))
  ·exact Ev.succ (Ev.congr (f := fun _ => some false) (fun k => by rw [P.slices_Equal_int_int.l0, if_pos (by omega), if_pos (by omega), if_pos (by omega), if_pos (by omega), rd_get a i hlt, rd_get b i (by omega), if_neg h]) (Ev.pin (Ev.now _) (by symm; rw [decide_eq_false_iff_not]; intro e; exact h (List.cons.inj e).1)))
theorem Equal (a b : List Int) (hl : a.length ≤ 4611686018427387904) : Ev (fun k => P.slices_Equal_int_int.f k a b) (decide (a = b)) := by
 by_cases h : a.length = b.length
 ·exact Ev.congr (fun k => by unfold P.slices_Equal_int_int.f; rw [if_pos (by omega)]; rfl) (Ev.pin (Equal_round a b hl h a.length 0 (by omega) (by omega)) (by simp))
 ·exact Ev.congr (f := fun _ => some false) (fun k => by unfold P.slices_Equal_int_int.f; rw [if_neg (by omega)]) (Ev.pin (Ev.now _) (by symm; rw [decide_eq_false_iff_not]; rintro rfl; exact h rfl))

abbrev WRes := List Int × List Int × List Int × Int × Bool
def wOk (t : List Int) (n i j : Nat) : Bool := (if (i = 0 ∧ j = i) ∨ (i = 0 ∧ j = n) ∨ (j = i ∧ j = n) then false else true) && decide (t.drop n = inv (t.take i) ++ inv ((t.take j).drop i) ++ inv ((t.take n).drop j))
def wJ (t : List Int) (n i turn : Nat) : Nat → Nat → Option WRes
 | 0, _ => none
 | d + 1, j => if wOk t n i j = true then some (t.take i, (t.take j).drop i, (t.take n).drop j, (turn : Int), true) else wJ t n i turn d (j + 1)
def wI (t : List Int) (n turn : Nat) : Nat → Nat → Option WRes
 | 0, _ => none
 | d + 1, i => match wJ t n i turn (n + 1 - i) i with
  | some r => some r
  | none => wI t n turn d (i + 1)
def wK (c : List Int) (n : Nat) : Nat → Nat → Option WRes
 | 0, _ => none
 | d + 1, k => match wI (turnL c k) n k (n + 1) 0 with
  | some r => some r
  | none => wK c n d (k + 1)
def wNone : WRes := ([], [], [], 0, false)
def wickV (c : List Int) : WRes := (wK c (c.length / 2) c.length 0).getD wNone
def vWicksParts (l : List Int) : WRes := if isW l = true then wickV (coreV l).1 else wNone
def wGood (m : Nat) (r : WRes) : Prop := r.1.length ≤ m ∧ r.2.1.length ≤ m ∧ r.2.2.1.length ≤ m
theorem wJ_good (t : List Int) (n i turn : Nat) : ∀ d j r, wJ t n i turn d j = some r → wGood t.length r
 | 0, j, r, h => by simp [wJ] at h
 | d + 1, j, r, h => by
  unfold wJ at h
  split at h
  ·obtain rfl := Option.some.inj h
   refine ⟨?_, ?_, ?_⟩ <;> simp <;> omega
  ·exact wJ_good t n i turn d (j + 1) r h
theorem wI_good (t : List Int) (n turn : Nat) : ∀ d i r, wI t n turn d i = some r → wGood t.length r
 | 0, i, r, h => by simp [wI] at h
 | d + 1, i, r, h => by
  unfold wI at h
  cases e : wJ t n i turn (n + 1 - i) i with
  | some q => rw [e] at h; obtain rfl := Option.some.inj h; exact wJ_good _ _ _ _ _ _ _ e
  | none => rw [e] at h; exact wI_good t n turn d (i + 1) r h
theorem wK_good (c : List Int) (n : Nat) : ∀ d k r, k + d ≤ c.length → wK c n d k = some r → wGood c.length r
 | 0, k, r, hk, h => by simp [wK] at h
 | d + 1, k, r, hk, h => by
  unfold wK at h
  cases e : wI (turnL c k) n k (n + 1) 0 with
  | some q => rw [e] at h; obtain rfl := Option.some.inj h; have := wI_good _ _ _ _ _ _ e; rwa [turnL_len c k (by omega)] at this
  | none => rw [e] at h; exact wK_good c n d (k + 1) r (by omega) h
theorem vWicksParts_len (l : List Int) (hl : l.length ≤ 1048576) : (vWicksParts l).1.length ≤ 1048576 ∧ (vWicksParts l).2.1.length ≤ 1048576 ∧ (vWicksParts l).2.2.1.length ≤ 1048576 := by
 unfold vWicksParts
 split
 ·unfold wickV
  have hc := (coreV_len l).1
  cases e : wK (coreV l).1 ((coreV l).1.length / 2) (coreV l).1.length 0 with
  | none => exact ⟨Nat.zero_le _, Nat.zero_le _, Nat.zero_le _⟩
  | some r =>
   obtain ⟨h1, h2, h3⟩ := wK_good _ _ _ _ _ (by omega) e
   exact ⟨Nat.le_trans h1 (by omega), Nat.le_trans h2 (by omega), Nat.le_trans h3 (by omega)⟩
 ·exact ⟨Nat.zero_le _, Nat.zero_le _, Nat.zero_le _⟩
theorem wK_odd (c : List Int) (n : Nat) (hn : n ≤ c.length) (h : c.length ≠ 2 * n) : ∀ d k, k + d ≤ c.length → wK c n d k = none := by
 have hok : ∀ (t : List Int) i j, t.length = c.length → i ≤ j → j ≤ n → n ≤ t.length → wOk t n i j = false := fun t i j ht hij hjn hnt => by
  unfold wOk
  rw [Bool.and_eq_false_iff]
  right
  rw [decide_eq_false_iff_not]
  intro e
  have h1 := congrArg List.length e
  simp only [List.length_append, inv_len, List.length_drop, List.length_take] at h1
  omega
 have hJ : ∀ (t : List Int) i turn, t.length = c.length → ∀ d j, i ≤ j → j + d = n + 1 → wJ t n i turn d j = none := fun t i turn ht d => by
  induction d with
  | zero => intro j _ _; rfl
  | succ d ih => intro j hij hd; unfold wJ; rw [if_neg (by rw [hok t i j ht hij (by omega) (by omega)]; simp)]; exact ih (j + 1) (by omega) (by omega)
 have hI : ∀ (t : List Int) turn, t.length = c.length → ∀ d i, i + d = n + 1 → wI t n turn d i = none := fun t turn ht d => by
  induction d with
  | zero => intro i _; rfl
  | succ d ih => intro i hd; unfold wI; rw [hJ t i turn ht _ i (Nat.le_refl _) (by omega)]; exact ih (i + 1) (by omega)
 intro d
 induction d with
 | zero => intro k _; rfl
 | succ d ih => intro k hk; unfold wK; rw [hI _ k (turnL_len c k (by omega)) _ 0 (by omega)]; exact ih (k + 1) (by omega)
theorem l4Parts (t : List Int) (n i j : Nat) (ht : t.length = 2 * n) (hl : t.length ≤ 1048576) (hm : Mild t) (hij : i ≤ j) (hj : j ≤ n) : Ev (fun k => P.spec_l4Parts.f k t (i : Int) ((j - i : Nat) : Int)) (wOk t n i j) := by
 have w1 : wrap64 ((i : Int) + ((j - i : Nat) : Int)) = (j : Int) := by rw [wr (by omega) (by omega)]; omega
 have w2 : wrap64 ((t.length : Int) / 2) = (n : Int) := by rw [wr (by omega) (by omega)]; omega
 have hA := hm.sub (b := t.take i) fun x hx => List.mem_of_mem_take hx
 have hB := hm.sub (b := (t.take j).drop i) fun x hx => List.mem_of_mem_take (List.mem_of_mem_drop hx)
 have hC := hm.sub (b := (t.take n).drop j) fun x hx => List.mem_of_mem_take (List.mem_of_mem_drop hx)
 have lA : (t.take i).length ≤ 1048576 := by simp; omega
 have lB : ((t.take j).drop i).length ≤ 1048576 := by simp; omega
 have lC : ((t.take n).drop j).length ≤ 1048576 := by simp; omega
 have last : ∀ e : Int, Ev (fun k => P.spec_l4Parts.j2 k t (n : Int) (t.take i) ((t.take j).drop i) ((t.take n).drop j) e) (if e ≤ 1 then decide (t.drop n = inv (t.take i) ++ inv ((t.take j).drop i) ++ inv ((t.take n).drop j)) else false) := fun e => by
  refine Ev.succ ?_
  refine Ev.congr (fun k => by rw [P.spec_l4Parts.j2]) ?_
  refine Ev.bind (l2Inverse _ lA hA) ?_
  refine Ev.bind (l2Inverse _ lB hB) ?_
  refine Ev.congr (fun k => by rw [if_pos (by rw [inv_len, inv_len]; omega), Option.bind_some]) ?_
  refine Ev.bind (l2Inverse _ lC hC) ?_
  by_cases he : e ≤ 1
  ·rw [if_pos he]
   refine Ev.congr (fun k => by rw [if_pos (by rw [List.length_append, inv_len, inv_len, inv_len]; omega), if_pos he, if_pos (by omega), if_pos (by omega), Int.toNat_natCast]) ?_
   exact Ev.bind (l1Same _ _ (by simp; omega)) (Ev.now _)
  ·rw [if_neg he]
   exact Ev.congr (f := fun _ => some false) (fun k => by rw [if_pos (by rw [List.length_append, inv_len, inv_len, inv_len]; omega), if_neg he]) (Ev.now _)
 have val : ∀ e : Int, e = (if i = 0 then 1 else 0) + (if j - i = 0 then 1 else 0) + (if j = n then 1 else 0) → (if e ≤ 1 then decide (t.drop n = inv (t.take i) ++ inv ((t.take j).drop i) ++ inv ((t.take n).drop j)) else false) = wOk t n i j := fun e he => by
  unfold wOk
  by_cases h : (i = 0 ∧ j = i) ∨ (i = 0 ∧ j = n) ∨ (j = i ∧ j = n)
  ·rw [if_pos h, if_neg (by rw [he]; split <;> split <;> split <;> omega)]; rfl
  ·rw [if_neg h, if_pos (by rw [he]; split <;> split <;> split <;> omega), Bool.true_and]
 have mid : ∀ e : Int, 0 ≤ e → e ≤ 2 → e = (if i = 0 then 1 else 0) + (if j - i = 0 then 1 else 0) → Ev (fun k => P.spec_l4Parts.j1 k t (i : Int) ((j - i : Nat) : Int) (n : Int) (t.take i) ((t.take j).drop i) ((t.take n).drop j) e) (wOk t n i j) := fun e h0 h2 he => by
  refine Ev.succ ?_
  by_cases hjn : j = n
  ·refine Ev.congr (fun k => by rw [P.spec_l4Parts.j1, w1, if_pos (by omega), wr (i := e + 1) (by omega) (by omega)]) ?_
   exact Ev.pin (last (e + 1)) (val _ (by rw [he, if_pos hjn]))
  ·refine Ev.congr (fun k => by rw [P.spec_l4Parts.j1, w1, if_neg (by omega)]) ?_
   exact Ev.pin (last e) (val _ (by rw [he, if_neg hjn]; omega))
 have fst : ∀ e : Int, 0 ≤ e → e ≤ 1 → e = (if i = 0 then 1 else 0) → Ev (fun k => P.spec_l4Parts.j0 k t (i : Int) ((j - i : Nat) : Int) (n : Int) (t.take i) ((t.take j).drop i) ((t.take n).drop j) e) (wOk t n i j) := fun e h0 h2 he => by
  refine Ev.succ ?_
  by_cases hk : j - i = 0
  ·refine Ev.congr (fun k => by rw [P.spec_l4Parts.j0, if_pos (by omega), wr (i := e + 1) (by omega) (by omega)]) ?_
   exact mid (e + 1) (by omega) (by omega) (by rw [he, if_pos hk])
  ·refine Ev.congr (fun k => by rw [P.spec_l4Parts.j0, if_neg (by omega)]) ?_
   exact mid e (by omega) (by omega) (by rw [he, if_neg hk]; omega)
 refine Ev.congr (fun k => by unfold P.spec_l4Parts.f; rw [w1, w2, if_pos (by omega), if_pos (by omega), if_pos (by omega), if_pos (by omega), if_pos (by omega), if_pos (by omega), if_pos (by omega), Int.toNat_natCast, Int.toNat_natCast, Int.toNat_natCast]) ?_
 by_cases hi : i = 0
 ·refine Ev.congr (fun k => by rw [if_pos (by omega)]) ?_
  exact fst (0 + 1) (by omega) (by omega) (by rw [if_pos hi]; rfl)
 ·refine Ev.congr (fun k => by rw [if_neg (by omega)]) ?_
  exact fst 0 (by omega) (by omega) (by rw [if_neg hi])
theorem sJ (c t : List Int) (n i turn : Nat) (ht : t.length = 2 * n) (hl : t.length ≤ 1048576) (hm : Mild t) (r : WRes) (hi : i ≤ n) : ∀ d j, i ≤ j → j + d = n + 1 →
  (∀ q, wJ t n i turn d j = some q → q = r) → (wJ t n i turn d j = none → Ev (fun k => P.spec_WicksParts.l1 k [] c (turn : Int) t (n : Int) ((i + 1 : Nat) : Int)) r) →
  Ev (fun k => P.spec_WicksParts.l2 k [] c (turn : Int) t (n : Int) (i : Int) ((j - i : Nat) : Int)) r := by
 intro d
 induction d with
 | zero =>
  intro j hij hd h1 h2
  have w1 : wrap64 ((i : Int) + ((j - i : Nat) : Int)) = (j : Int) := by rw [wr (by omega) (by omega)]; omega
  refine Ev.succ (Ev.congr (fun k => by rw [P.spec_WicksParts.l2, w1, if_neg (by omega), wr (i := (i : Int) + 1) (by omega) (by omega), show (i : Int) + 1 = ((i + 1 : Nat) : Int) from by omega]) (h2 rfl))
 | succ d ih =>
  intro j hij hd h1 h2
  have w1 : wrap64 ((i : Int) + ((j - i : Nat) : Int)) = (j : Int) := by rw [wr (by omega) (by omega)]; omega
  refine Ev.succ (Ev.congr (fun k => by rw [P.spec_WicksParts.l2, w1, if_pos (by omega)]) ?_)
  refine Ev.bind (l4Parts t n i j ht hl hm hij (by omega)) ?_
  unfold wJ at h1 h2
  cases hok : wOk t n i j with
  | true =>
   have e := h1 _ (if_pos hok)
   subst e
   refine Ev.congr (f := fun _ => some (t.take i, (t.take j).drop i, (t.take n).drop j, (turn : Int), true)) (fun k => ?_) (Ev.now _)
   rw [if_pos rfl, if_pos (by omega), if_pos (by omega), Int.toNat_natCast, Int.toNat_natCast, Int.toNat_natCast, l1Own _ (by simp; omega), Option.bind_some, if_pos (by omega), if_pos (by omega), l1Own _ (by simp; omega), Option.bind_some, if_pos (by omega), if_pos (by omega), l1Own _ (by simp; omega), Option.bind_some]
  | false =>
   refine Ev.congr (fun k => by rw [if_neg (by simp), wr (i := ((j - i : Nat) : Int) + 1) (by omega) (by omega), show ((j - i : Nat) : Int) + 1 = ((j + 1 - i : Nat) : Int) from by omega]) ?_
   rw [if_neg (by rw [hok]; simp)] at h2
   exact ih (j + 1) (by omega) (by omega) (fun q hq => h1 q (by rw [if_neg (by rw [hok]; simp)]; exact hq)) h2
theorem sI (c t : List Int) (n turn : Nat) (ht : t.length = 2 * n) (hl : t.length ≤ 1048576) (hm : Mild t) (hk : turn ≤ 1048576) (r : WRes) : ∀ d i, i + d = n + 1 →
  (∀ q, wI t n turn d i = some q → q = r) → (wI t n turn d i = none → Ev (fun k => P.spec_WicksParts.l0 k [] c ((turn + 1 : Nat) : Int)) r) →
  Ev (fun k => P.spec_WicksParts.l1 k [] c (turn : Int) t (n : Int) (i : Int)) r := by
 intro d
 induction d with
 | zero =>
  intro i hd h1 h2
  refine Ev.succ (Ev.congr (fun k => by rw [P.spec_WicksParts.l1, if_neg (by omega), wr (i := (turn : Int) + 1) (by omega) (by omega), show (turn : Int) + 1 = ((turn + 1 : Nat) : Int) from by omega]) (h2 rfl))
 | succ d ih =>
  intro i hd h1 h2
  refine Ev.succ (Ev.congr (fun k => by rw [P.spec_WicksParts.l1, if_pos (by omega), show (0 : Int) = ((i - i : Nat) : Int) from by omega]) ?_)
  unfold wI at h1 h2
  refine sJ c t n i turn ht hl hm r (by omega) (n + 1 - i) i (Nat.le_refl _) (by omega) (fun q hq => h1 q (by rw [hq])) (fun hn => ?_)
  rw [hn] at h1 h2
  exact ih (i + 1) (by omega) h1 h2
theorem sK (c : List Int) (n : Nat) (hc : c.length = 2 * n) (hl : c.length ≤ 1048576) (hm : Mild c) : ∀ d k0, k0 + d = c.length → Ev (fun k => P.spec_WicksParts.l0 k [] c (k0 : Int)) ((wK c n d k0).getD wNone) := by
 intro d
 induction d with
 | zero =>
  intro k0 hd
  refine Ev.succ (Ev.congr (fun k => by rw [P.spec_WicksParts.l0, if_neg (by omega)]) ?_)
  exact Ev.succ (Ev.congr (f := fun _ => some wNone) (fun k => by rw [P.spec_WicksParts.j1, if_neg (by simp)]; rfl) (Ev.now _))
 | succ d ih =>
  intro k0 hd
  refine Ev.succ (Ev.congr (fun k => by rw [P.spec_WicksParts.l0, if_pos (by omega), show (((c.length : Int) % 2) == 0) = true from by rw [beq_iff_eq]; omega]) ?_)
  have hT := turnL_len c k0 (by omega)
  refine Ev.succ (Ev.congr (fun k => by rw [P.spec_WicksParts.j1, if_pos rfl, l2Turn c k0 hl (by omega), Option.bind_some, hT, wr (i := (c.length : Int) / 2) (by omega) (by omega), show (c.length : Int) / 2 = (n : Int) from by omega]) ?_)
  refine sI c (turnL c k0) n k0 (by omega) (by omega) (hm.sub (turnL_mem c k0)) (by omega) _ (n + 1) 0 (by omega) ?_ ?_
  ·intro q hq; unfold wK; rw [hq]; rfl
  ·intro hq; unfold wK; rw [hq]; exact ih (k0 + 1) (by omega)
theorem spec_WicksParts (l : List Int) (hl : l.length ≤ 1048576) : Ev (fun k => P.spec_WicksParts.f k l) (vWicksParts l) := by
 refine Ev.congr (fun k => by unfold P.spec_WicksParts.f; rw [Option.bind_some]) (Ev.bind (l2Word l (by omega)) ?_)
 unfold vWicksParts
 cases h : isW l with
 | false => simp only [Bool.false_eq_true, ↓reduceIte]; exact Ev.now _
 | true =>
  simp only [↓reduceIte]
  have hm : Mild l := Mild.ofW h
  obtain ⟨hc, -, hcm, -⟩ := coreV_len l
  refine Ev.bind (l2Core l hl hm) ?_
  generalize hcv : (coreV l).1 = c at *
  unfold wickV
  by_cases he : c.length = 2 * (c.length / 2)
  ·exact sK c (c.length / 2) he (by omega) (hm.sub hcm) c.length 0 (by omega)
  ·rw [wK_odd c (c.length / 2) (by omega) he c.length 0 (by omega)]
   by_cases h0 : (0 : Int) < (c.length : Int)
   ·refine Ev.succ (Ev.congr (fun k => by rw [P.spec_WicksParts.l0, if_pos h0, show (((c.length : Int) % 2) == 0) = false from by rw [beq_eq_false_iff_ne]; omega]) ?_)
    exact Ev.succ (Ev.congr (f := fun _ => some wNone) (fun k => by rw [P.spec_WicksParts.j1, if_neg (by simp)]; rfl) (Ev.now _))
   ·omega
theorem iJ (c t : List Int) (n i turn : Nat) (htn : n ≤ t.length) (hl : t.length ≤ 1048576) (hm : Mild t) (r : WRes) (hi : i ≤ n) (M : Int) : ∀ d j, i ≤ j → j + d = n + 1 →
  (∀ q, wJ t n i turn d j = some q → q = r) → (wJ t n i turn d j = none → Ev (fun k => P.impl_WicksParts.l1 k c (n : Int) (turn : Int) t ((i + 1 : Nat) : Int) M (turn : Int)) r) →
  Ev (fun k => P.impl_WicksParts.l2 k c (n : Int) (turn : Int) t (i : Int) (j : Int) M (turn : Int)) r := by
 have hA := hm.sub (b := t.take i) fun x hx => List.mem_of_mem_take hx
 have lA : (t.take i).length ≤ 1048576 := by simp; omega
 intro d
 induction d with
 | zero =>
  intro j hij hd h1 h2
  refine Ev.succ (Ev.congr (fun k => by rw [P.impl_WicksParts.l2, if_neg (by omega), wr (i := (i : Int) + 1) (by omega) (by omega), show (i : Int) + 1 = ((i + 1 : Nat) : Int) from by omega]) (h2 rfl))
 | succ d ih =>
  intro j hij hd h1 h2
  have hB := hm.sub (b := (t.take j).drop i) fun x hx => List.mem_of_mem_take (List.mem_of_mem_drop hx)
  have hC := hm.sub (b := (t.take n).drop j) fun x hx => List.mem_of_mem_take (List.mem_of_mem_drop hx)
  have lB : ((t.take j).drop i).length ≤ 1048576 := by simp; omega
  have lC : ((t.take n).drop j).length ≤ 1048576 := by simp; omega
  have wj : wrap64 ((j : Int) + 1) = ((j + 1 : Nat) : Int) := by rw [wr (by omega) (by omega)]; omega
  have key : ∀ b : Bool, b = (if (i = 0 ∧ j = i) ∨ (i = 0 ∧ j = n) ∨ (j = i ∧ j = n) then true else false) → Ev (fun k => P.impl_WicksParts.j3 k c (n : Int) (turn : Int) t (i : Int) (j : Int) (t.take i) ((t.take j).drop i) ((t.take n).drop j) b M (turn : Int)) r := fun b hb => by
   refine Ev.succ ?_
   unfold wJ at h1 h2
   cases b with
   | true =>
    have hok : wOk t n i j = false := by
     unfold wOk
     by_cases h : (i = 0 ∧ j = i) ∨ (i = 0 ∧ j = n) ∨ (j = i ∧ j = n)
     ·rw [if_pos h]; rfl
     ·rw [if_neg h] at hb; exact absurd hb (by simp)
    rw [if_neg (by rw [hok]; simp)] at h2
    refine Ev.congr (fun k => by rw [P.impl_WicksParts.j3, if_pos rfl, wj]) ?_
    exact ih (j + 1) (by omega) (by omega) (fun q hq => h1 q (by rw [if_neg (by rw [hok]; simp)]; exact hq)) h2
   | false =>
    have hok : wOk t n i j = decide (t.drop n = inv (t.take i) ++ inv ((t.take j).drop i) ++ inv ((t.take n).drop j)) := by
     unfold wOk
     by_cases h : (i = 0 ∧ j = i) ∨ (i = 0 ∧ j = n) ∨ (j = i ∧ j = n)
     ·rw [if_pos h] at hb; exact absurd hb (by simp)
     ·rw [if_neg h, Bool.true_and]
    refine Ev.congr (fun k => by rw [P.impl_WicksParts.j3, if_neg (by simp), if_pos (by omega), if_pos (by omega), inverse _ lA hA, Option.bind_some, inverse _ lB hB, Option.bind_some, inverse _ lC hC, Option.bind_some, Int.toNat_natCast]) ?_
    have hfl : [inv (t.take i), inv ((t.take j).drop i), inv ((t.take n).drop j)].flatten = inv (t.take i) ++ inv ((t.take j).drop i) ++ inv ((t.take n).drop j) := by simp
    refine Ev.bind (concat [inv (t.take i), inv ((t.take j).drop i), inv ((t.take n).drop j)] (by simp) (by rw [hfl]; simp only [List.length_append, inv_len]; omega)) ?_
    rw [hfl]
    refine Ev.bind (Equal _ _ (by simp; omega)) ?_
    rw [← hok]
    cases hk : wOk t n i j with
    | true =>
     have e := h1 _ (if_pos hk)
     subst e
     exact Ev.congr (f := fun _ => some (t.take i, (t.take j).drop i, (t.take n).drop j, (turn : Int), true)) (fun k => by unfold P.slices_Clone_int_int.f; rw [if_pos rfl, if_pos (by omega), Option.bind_some, if_pos (by omega), Option.bind_some, if_pos (by omega), Option.bind_some]) (Ev.now _)
    | false =>
     rw [if_neg (by rw [hk]; simp)] at h2
     refine Ev.congr (fun k => by rw [if_neg (by simp), wj]) ?_
     exact ih (j + 1) (by omega) (by omega) (fun q hq => h1 q (by rw [if_neg (by rw [hk]; simp)]; exact hq)) h2
  refine Ev.succ ?_
  refine Ev.congr (fun k => by rw [P.impl_WicksParts.l2, if_pos (by omega), if_pos (by omega), if_pos (by omega), Option.bind_some, if_pos (by omega), if_pos (by omega), Option.bind_some, if_pos (by omega), if_pos (by omega), Option.bind_some, Int.toNat_natCast, Int.toNat_natCast, Int.toNat_natCast]) ?_
  by_cases hi0 : i = 0
  ·refine Ev.congr (fun k => by rw [if_pos (by omega)]) ?_
   by_cases hji : j = i
   ·exact Ev.congr (fun k => by rw [if_pos (by omega)]) (key true (by rw [if_pos (by omega)]))
   ·refine Ev.congr (fun k => by rw [if_neg (by omega)]) ?_
    by_cases hjn : j = n
    ·exact Ev.congr (fun k => by rw [if_pos (by omega)]) (key true (by rw [if_pos (by omega)]))
    ·exact Ev.congr (fun k => by rw [if_neg (by omega)]) (key false (by rw [if_neg (by omega)]))
  ·refine Ev.congr (fun k => by rw [if_neg (by omega)]) ?_
   by_cases hji : j = i
   ·refine Ev.congr (fun k => by rw [if_pos (by omega)]) (key _ ?_)
    by_cases hjn : j = n
    ·rw [if_pos (by omega), beq_iff_eq]; omega
    ·rw [if_neg (by omega), beq_eq_false_iff_ne]; omega
   ·exact Ev.congr (fun k => by rw [if_neg (by omega)]) (key false (by rw [if_neg (by omega)]))
theorem iI (c t : List Int) (n turn : Nat) (htn : n ≤ t.length) (hl : t.length ≤ 1048576) (hm : Mild t) (hk : turn ≤ 1048576) (r : WRes) (M : Int) : ∀ d i, i + d = n + 1 →
  (∀ q, wI t n turn d i = some q → q = r) → (wI t n turn d i = none → Ev (fun k => P.impl_WicksParts.l0 k c (n : Int) M ((turn + 1 : Nat) : Int)) r) →
  Ev (fun k => P.impl_WicksParts.l1 k c (n : Int) (turn : Int) t (i : Int) M (turn : Int)) r := by
 intro d
 induction d with
 | zero =>
  intro i hd h1 h2
  refine Ev.succ (Ev.congr (fun k => by rw [P.impl_WicksParts.l1, if_neg (by omega), wr (i := (turn : Int) + 1) (by omega) (by omega), show (turn : Int) + 1 = ((turn + 1 : Nat) : Int) from by omega]) (h2 rfl))
 | succ d ih =>
  intro i hd h1 h2
  refine Ev.succ (Ev.congr (fun k => by rw [P.impl_WicksParts.l1, if_pos (by omega)]) ?_)
  unfold wI at h1 h2
  refine iJ c t n i turn htn hl hm r (by omega) M (n + 1 - i) i (Nat.le_refl _) (by omega) (fun q hq => h1 q (by rw [hq])) (fun hn => ?_)
  rw [hn] at h1 h2
  exact ih (i + 1) (by omega) h1 h2
theorem iK (c : List Int) (n : Nat) (hn : n ≤ c.length) (hl : c.length ≤ 1048576) (hm : Mild c) : ∀ d k0, k0 + d = c.length → Ev (fun k => P.impl_WicksParts.l0 k c (n : Int) (c.length : Int) (k0 : Int)) ((wK c n d k0).getD wNone) := by
 intro d
 induction d with
 | zero =>
  intro k0 hd
  exact Ev.succ (Ev.congr (f := fun _ => some wNone) (fun k => by rw [P.impl_WicksParts.l0, if_neg (by omega)]; rfl) (Ev.now _))
 | succ d ih =>
  intro k0 hd
  have hT := turnL_len c k0 (by omega)
  refine Ev.succ (Ev.congr (fun k => by rw [P.impl_WicksParts.l0, if_pos (by omega)]) ?_)
  refine Ev.bind (turned c (k0 : Int) hl (by omega) (by omega)) ?_
  rw [Int.toNat_natCast]
  refine iI c (turnL c k0) n k0 (by omega) (by omega) (hm.sub (turnL_mem c k0)) (by omega) _ (c.length : Int) (n + 1) 0 (by omega) ?_ ?_
  ·intro q hq; unfold wK; rw [hq]; rfl
  ·intro hq; unfold wK; rw [hq]; exact ih (k0 + 1) (by omega)
theorem impl_WicksParts (l : List Int) (hl : l.length ≤ 1048576) : Ev (fun k => P.impl_WicksParts.f k l) (vWicksParts l) := by
 refine Ev.congr (fun k => by unfold P.impl_WicksParts.f; rw [isWord, Option.bind_some]) ?_
 unfold vWicksParts
 cases h : isW l with
 | false => simp only [Bool.false_eq_true, ↓reduceIte]; exact Ev.now _
 | true =>
  simp only [↓reduceIte]
  have hm : Mild l := Mild.ofW h
  obtain ⟨hc, -, hcm, -⟩ := coreV_len l
  refine Ev.bind (core l hl hm) ?_
  generalize hcv : (coreV l).1 = c at *
  unfold wickV
  refine Ev.congr (fun k => by rw [wr (i := (c.length : Int) / 2) (by omega) (by omega), show (c.length : Int) / 2 = ((c.length / 2 : Nat) : Int) from by omega]) ?_
  exact iK c (c.length / 2) (by omega) (by omega) (hm.sub hcm) c.length 0 (by omega)
end Go.Proofs.Ytpdpcbebnlbpnaa.L
