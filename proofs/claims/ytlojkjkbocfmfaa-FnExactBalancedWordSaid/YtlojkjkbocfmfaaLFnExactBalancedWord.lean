/- The plain words for FnExactBalancedWord: lists, what the printed functions come to. Conditions: as each lemma says. -/
import Derived.Test.YtlojkjkbocfmfaaPx0
import Derived.Test.YtlojkjkbocfmfaaPx11
import Derived.Test.YtlojkjkbocfmfaaPx12
import Derived.Test.YtlojkjkbocfmfaaPx15
import Derived.Test.YtlojkjkbocfmfaaPx16
import Derived.Test.YtlojkjkbocfmfaaPx17
import Derived.Test.YtlojkjkbocfmfaaPx18
import Derived.Test.YtlojkjkbocfmfaaPx2
import Derived.Test.YtlojkjkbocfmfaaPx20
import Derived.Test.YtlojkjkbocfmfaaPx7
import Derived.Test.YtlojkjkbocfmfaaPx8
import Derived.Test.YtlojkjkbocfmfaaWMore
import Derived.Test.YtlojkjkbocfmfaaWWords
namespace Go.Proofs.Ytlojkjkbocfmfaa.L
open Go.RowKit Go.Proofs.Ytlojkjkbocfmfaa.P Go.Proofs.YtlojkjkbocfmfaaW.PrintWords Go.Proofs.YtlojkjkbocfmfaaW.PrintMore
set_option linter.unusedVariables false
set_option linter.unusedSimpArgs false

theorem Ev.succ {α : Type} {g : Nat → Option α} {r : α} (h : Ev (fun k => g (k + 1)) r) : Ev g r := Ev.step (fun _ => rfl) h
theorem Ev.done {α : Type} {o : Option α} {r : α} (h : o = some r) : Ev (fun _ => o) r := ⟨0, fun _ _ => h⟩
theorem Ev.pin {α : Type} {g : Nat → Option α} {r s : α} (h : Ev g r) (e : r = s) : Ev g s := e ▸ h

theorem wr {i : Int} (h0 : -9223372036854775808 ≤ i) (h1 : i ≤ 9223372036854775807) : wrap64 i = i := by unfold wrap64; omega

theorem wf_bounds {a : Int} (h : (Lit.int .i64 a).wf = true) : -9223372036854775808 ≤ a ∧ a ≤ 9223372036854775807 := by
  simp [Lit.wf, IntKind.min, IntKind.max, IntKind.bits, IntKind.signed] at h
  omega
theorem nn1 (m : Nat) : ((1 : Int) + (m : Int) < 0) = False := by simp; omega
theorem nn2 (m n : Nat) : ((1 : Int) + (m : Int) + (n : Int) < 0) = False := by simp; omega
theorem nn3 (m n p : Nat) : ((1 : Int) + (m : Int) + (n : Int) + (p : Int) < 0) = False := by simp; omega
theorem nn4 (m n p q : Nat) : ((1 : Int) + (m : Int) + (n : Int) + (p : Int) + (q : Int) < 0) = False := by simp; omega
theorem rd_nat (l : List Int) (i : Nat) : rd l (i : Int) = l.getD i 0 := by unfold rd; simp
theorem rd_app (pre : List Int) (x : Int) (rest : List Int) : rd (pre ++ x :: rest) (pre.length : Int) = x := by
  rw [rd_nat, List.getD_eq_getElem?_getD, List.getElem?_append_right (Nat.le_refl _)]; simp
theorem rd_last (l : List Int) (h : l ≠ []) : rd l ((l.length : Int) - 1) = l.getLast h := by
  have hp : 0 < l.length := by cases l with | nil => exact absurd rfl h | cons _ _ => simp
  rw [show ((l.length : Int) - 1) = ((l.length - 1 : Nat) : Int) from by omega, rd_nat, List.getLast_eq_getElem, List.getD_eq_getElem?_getD, List.getElem?_eq_getElem (by omega)]
  rfl

/-- A list split at a place. -/
theorem split_at (l : List Int) (i : Nat) (h : i < l.length) : ∃ pre x rest, l = pre ++ x :: rest ∧ pre.length = i := by
  refine ⟨l.take i, l[i], l.drop (i + 1), ?_, by simp; omega⟩
  rw [List.getElem_cons_drop, List.take_append_drop]

/-- The marks that 'markIntS' lays. -/
def marks (n : Int) (m : Nat) : List Int := (List.range m).map (fun (j : Nat) => n + (j : Int))
theorem marks_len (n : Int) (m : Nat) : (marks n m).length = m := by simp [marks]
theorem marks_succ (n : Int) (m : Nat) : marks n (m + 1) = marks n m ++ [n + (m : Int)] := by simp [marks, List.range_succ]
theorem marks_get (n : Int) (m i : Nat) (h : i < m) : (marks n m).getD i 0 = n + (i : Int) := by
  simp [marks, List.getD_eq_getElem?_getD, h]

def isL (x : Int) : Bool := decide (x ≠ 0 ∧ -6 ≤ x ∧ x ≤ 6)
def isW (l : List Int) : Bool := decide (l.length ≤ 64) && l.all isL
theorem isW_len {l : List Int} (h : isW l = true) : l.length ≤ 64 := by unfold isW at h; simp at h; exact h.1
theorem isW_mem {l : List Int} (h : isW l = true) : ∀ x ∈ l, x ≠ 0 ∧ -6 ≤ x ∧ x ≤ 6 := by
  unfold isW at h; simp [isL] at h; exact fun x hx => h.2 x hx
theorem isL_iff (x : Int) : isL x = true ↔ x ≠ 0 ∧ -6 ≤ x ∧ x ≤ 6 := by simp [isL]

/-- Numbers far from the ends of an int. -/
def Mild (l : List Int) : Prop := ∀ x ∈ l, -4611686018427387904 ≤ x ∧ x ≤ 4611686018427387904
theorem Mild.ofW {l : List Int} (h : isW l = true) : Mild l := fun x hx => by have := isW_mem h x hx; omega
theorem Mild.nil : Mild [] := fun x hx => by simp at hx
theorem Mild.append {a b : List Int} (ha : Mild a) (hb : Mild b) : Mild (a ++ b) := fun x hx => by
  rcases List.mem_append.1 hx with h | h
  · exact ha x h
  · exact hb x h
theorem Mild.sub {a b : List Int} (ha : Mild a) (h : ∀ x ∈ b, x ∈ a) : Mild b := fun x hx => ha x (h x hx)
theorem Mild.at {l : List Int} (h : Mild l) {pre : List Int} {x : Int} {rest : List Int} (e : l = pre ++ x :: rest) : -4611686018427387904 ≤ x ∧ x ≤ 4611686018427387904 := h x (by rw [e]; simp)

/-- One letter behind a reduced list. -/
def red1 (acc : List Int) (x : Int) : List Int := if acc.getLast? = some (-x) then acc.dropLast else acc ++ [x]
/-- What letters are reduced to. -/
def redF (acc l : List Int) : List Int := l.foldl red1 acc
def red (l : List Int) : List Int := redF [] l
theorem red1_mem {acc : List Int} {x y : Int} (h : y ∈ red1 acc x) : y ∈ acc ∨ y = x := by
  unfold red1 at h
  split at h
  · exact .inl (List.dropLast_subset _ h)
  · simpa using h
theorem redF_mem {l acc : List Int} {y : Int} (h : y ∈ redF acc l) : y ∈ acc ∨ y ∈ l := by
  induction l generalizing acc with
  | nil => exact .inl h
  | cons x l ih =>
    rcases ih (acc := red1 acc x) h with h | h
    · rcases red1_mem h with h | h
      · exact .inl h
      · exact .inr (by simp [h])
    · exact .inr (by simp [h])
theorem red_mem {l : List Int} {y : Int} (h : y ∈ red l) : y ∈ l := by
  rcases redF_mem h with h | h
  · simp at h
  · exact h
theorem red1_len (acc : List Int) (x : Int) : (red1 acc x).length ≤ acc.length + 1 := by
  unfold red1; split <;> simp; omega
theorem redF_len (l acc : List Int) : (redF acc l).length ≤ acc.length + l.length := by
  induction l generalizing acc with
  | nil => simp [redF]
  | cons x l ih =>
    have h1 := ih (red1 acc x); have h2 := red1_len acc x
    simp only [redF, List.foldl_cons, List.length_cons] at h1 ⊢
    omega
theorem red_len (l : List Int) : (red l).length ≤ l.length := by have := redF_len l []; simpa [red] using this
theorem Mild.red {l : List Int} (h : Mild l) : Mild (red l) := h.sub fun _ hx => red_mem hx

/-- Is a list reduced? -/
def isRed : List Int → Bool
  | [] => true
  | [_] => true
  | x :: y :: l => !(y == -x) && isRed (y :: l)

/-- The inverse of a list of letters. -/
def inv (l : List Int) : List Int := l.reverse.map fun x => -x
theorem inv_len (l : List Int) : (inv l).length = l.length := by simp [inv]
theorem inv_mem {l : List Int} {y : Int} (h : y ∈ inv l) : -y ∈ l := by
  simp [inv] at h
  obtain ⟨a, ha, rfl⟩ := h
  simpa using ha
theorem Mild.inv {l : List Int} (h : Mild l) : Mild (inv l) := fun y hy => by have := h _ (inv_mem hy); omega
theorem inv_snoc (l : List Int) (x : Int) : inv (l ++ [x]) = -x :: inv l := by simp [inv]
theorem inv_cons (l : List Int) (x : Int) : inv (x :: l) = inv l ++ [-x] := by simp [inv]
theorem inv_append (a b : List Int) : inv (a ++ b) = inv b ++ inv a := by simp [inv]
theorem inv_inv (l : List Int) : inv (inv l) = l := by
  induction l with
  | nil => rfl
  | cons x l ih => rw [inv_cons, inv_snoc, ih, Int.neg_neg]

theorem toIntS_round (l : List Int) (hl : l.length ≤ 1048576) : ∀ (d i : Nat) (acc : List Int), i ≤ l.length → l.length - i = d → acc.length = l.length → acc.take i = l.take i →
    Ev (fun k => laws_toIntS.l0 k l acc (i : Int)) l := by
  intro d
  induction d with
  | zero =>
    intro i acc hi hd ha ht
    refine Ev.succ ?_
    have he : acc = l := by
      rw [show i = l.length from by omega] at ht
      rw [List.take_length] at ht
      rw [← ht, List.take_of_length_le (by omega)]
    refine Ev.congr (f := fun _ => some l) (fun k => ?_) (Ev.now _)
    simp only [laws_toIntS.l0]; rw [if_neg (by omega), he]
  | succ d ih =>
    intro i acc hi hd ha ht
    refine Ev.succ ?_
    have hlt : i < l.length := by omega
    have h := ih (i + 1) (acc.set i (l.getD i 0)) (by omega) (by omega) (by simp [ha]) (by
      rw [List.take_add_one, List.take_add_one, List.take_set_of_le (Nat.le_refl _), ht, List.getElem?_set_self (by omega), List.getD_eq_getElem?_getD, List.getElem?_eq_getElem hlt]
      rfl)
    refine Ev.congr (fun k => ?_) h
    simp only [laws_toIntS.l0]
    rw [if_pos (by omega), if_pos (by omega), if_pos (by omega), rd_nat, wr (by omega) (by omega), Int.toNat_natCast]
    rfl
theorem toIntS (l : List Int) (hl : l.length ≤ 1048576) : Ev (fun k => laws_toIntS.f k l) l := by
  refine Ev.congr (fun k => ?_) (toIntS_round l hl l.length 0 (List.replicate l.length 0) (by omega) (by omega) (by simp) (by simp))
  unfold laws_toIntS.f
  rw [if_pos (by omega), if_pos (by simp; omega), Int.toNat_natCast]
  rfl
theorem eqIntS_round (a b : List Int) (hl : a.length ≤ 4611686018427387904) (hab : a.length = b.length) : ∀ (d i : Nat), i ≤ a.length → a.length - i = d →
    Ev (fun k => laws_eqIntS.l0 k a b (i : Int)) (decide (a.drop i = b.drop i)) := by
  intro d
  induction d with
  | zero =>
    intro i hi hd
    refine Ev.succ ?_
    refine Ev.congr (f := fun _ => some true) (fun k => ?_) (Ev.pin (Ev.now _) ?_)
    · simp only [laws_eqIntS.l0]; rw [if_neg (by omega)]
    · rw [List.drop_of_length_le (by omega), List.drop_of_length_le (by omega)]; simp
  | succ d ih =>
    intro i hi hd
    refine Ev.succ ?_
    have hlt : i < a.length := by omega
    have hltb : i < b.length := by omega
    by_cases e : a.getD i 0 = b.getD i 0
    · have h := ih (i + 1) (by omega) (by omega)
      refine Ev.congr (fun k => ?_) (Ev.pin h ?_)
      · simp only [laws_eqIntS.l0]
        rw [if_pos (by omega), if_pos (by omega), if_pos (by omega), rd_nat, rd_nat, if_pos e, wr (by omega) (by omega)]
        rfl
      · simp only [List.getD_eq_getElem?_getD, List.getElem?_eq_getElem hlt, List.getElem?_eq_getElem hltb, Option.getD_some] at e
        rw [List.drop_eq_getElem_cons hlt, List.drop_eq_getElem_cons hltb, e]
        simp only [List.cons.injEq, true_and]
    · refine Ev.congr (f := fun _ => some false) (fun k => ?_) (Ev.pin (Ev.now _) ?_)
      · simp only [laws_eqIntS.l0]
        rw [if_pos (by omega), if_pos (by omega), if_pos (by omega), rd_nat, rd_nat, if_neg e]
      · simp only [List.getD_eq_getElem?_getD, List.getElem?_eq_getElem hlt, List.getElem?_eq_getElem hltb, Option.getD_some] at e
        refine (decide_eq_false fun h => e ?_).symm
        rw [List.drop_eq_getElem_cons hlt, List.drop_eq_getElem_cons hltb] at h
        exact (List.cons.inj h).1
theorem eqIntS (a b : List Int) (hl : a.length ≤ 4611686018427387904) : Ev (fun k => laws_eqIntS.f k a b) (decide (a = b)) := by
  by_cases hab : a.length = b.length
  · refine Ev.congr (fun k => ?_) (eqIntS_round a b hl hab a.length 0 (by omega) (by omega))
    unfold laws_eqIntS.f
    rw [if_pos (by omega)]
    rfl
  · refine Ev.congr (f := fun _ => some false) (fun k => ?_) (Ev.pin (Ev.now _) ?_)
    · unfold laws_eqIntS.f
      rw [if_neg (by omega)]
    · have : a ≠ b := fun h => hab (by rw [h])
      simp [this]
theorem eqIntS_yes (a : List Int) (hl : a.length ≤ 4611686018427387904) : Ev (fun k => laws_eqIntS.f k a a) true := Ev.pin (eqIntS a a hl) (by simp)
theorem markIntS_round (n : Int) (m : Nat) (h0 : 0 ≤ n) (h1 : n ≤ 1099511627776) (hm : m ≤ 1099511627776) : ∀ (d i : Nat) (acc : List Int), i ≤ m → m - i = d → acc.length = m → acc.take i = marks n i →
    Ev (fun k => laws_markIntS.l0 k acc (n + (i : Int)) (i : Int)) (n + (m : Int), marks n m) := by
  intro d
  induction d with
  | zero =>
    intro i acc hi hd ha ht
    refine Ev.succ ?_
    have hi2 : i = m := by omega
    subst hi2
    refine Ev.congr (f := fun _ => some (n + (i : Int), marks n i)) (fun k => ?_) (Ev.now _)
    simp only [laws_markIntS.l0]
    rw [if_neg (by omega), ← ht, List.take_of_length_le (by omega)]
  | succ d ih =>
    intro i acc hi hd ha ht
    refine Ev.succ ?_
    have h := ih (i + 1) (acc.set i (n + (i : Int))) (by omega) (by omega) (by simp [ha]) (by
      rw [List.take_add_one, List.take_set_of_le (Nat.le_refl _), ht, List.getElem?_set_self (by omega), marks_succ]
      rfl)
    refine Ev.congr (fun k => ?_) h
    simp only [laws_markIntS.l0]
    rw [if_pos (by omega), if_pos (by omega), wr (by omega) (by omega), wr (by omega) (by omega), Int.toNat_natCast, Int.add_assoc]
    rfl
theorem markIntS (l : List Int) (n : Int) (h0 : 0 ≤ n) (h1 : n ≤ 1099511627776) (hm : l.length ≤ 1099511627776) : Ev (fun k => laws_markIntS.f k l n) (n + (l.length : Int), marks n l.length) := by
  refine Ev.congr (fun k => ?_) (markIntS_round n l.length h0 h1 hm l.length 0 l (by omega) (by omega) rfl (by simp [marks]))
  unfold laws_markIntS.f
  simp
theorem heldIntS_round (n : Int) (m : Nat) (h0 : 0 ≤ n) (h1 : n ≤ 1099511627776) (hm : m ≤ 1099511627776) : ∀ (d i : Nat), i ≤ m → m - i = d →
    Ev (fun k => laws_heldIntS.l0 k (marks n m) (n + (i : Int)) (i : Int)) (n + (m : Int)) := by
  intro d
  induction d with
  | zero =>
    intro i hi hd
    refine Ev.succ ?_
    have hi2 : i = m := by omega
    subst hi2
    refine Ev.congr (f := fun _ => some (n + (i : Int))) (fun k => ?_) (Ev.now _)
    simp only [laws_heldIntS.l0]
    rw [if_neg (by rw [marks_len]; omega)]
  | succ d ih =>
    intro i hi hd
    refine Ev.succ ?_
    have h := ih (i + 1) (by omega) (by omega)
    refine Ev.congr (fun k => ?_) h
    simp only [laws_heldIntS.l0]
    rw [if_pos (by rw [marks_len]; omega), if_pos (by omega), rd_nat, marks_get _ _ _ (by omega), if_pos rfl, wr (by omega) (by omega), wr (by omega) (by omega), Int.add_assoc]
    rfl
theorem heldIntS (n : Int) (m : Nat) (h0 : 0 ≤ n) (h1 : n ≤ 1099511627776) (hm : m ≤ 1099511627776) : Ev (fun k => laws_heldIntS.f k (marks n m) n) (n + (m : Int)) := by
  refine Ev.congr (fun k => ?_) (heldIntS_round n m h0 h1 hm m 0 (by omega) (by omega))
  unfold laws_heldIntS.f
  simp
theorem l2Reduce_round (l : List Int) (hl : l.length ≤ 1048576) (hm : Mild l) : ∀ (d i : Nat) (acc : List Int), i ≤ l.length → l.length - i = d → acc.length ≤ i →
    Ev (fun k => spec_l2Reduce.l0 k l acc (i : Int)) (redF acc (l.drop i)) := by
  intro d
  induction d with
  | zero =>
    intro i acc hi hd ha
    refine Ev.succ (Ev.congr (f := fun _ => some acc) (fun k => ?_) (Ev.pin (Ev.now _) ?_))
    · simp only [spec_l2Reduce.l0]; rw [if_neg (by omega)]
    · rw [List.drop_of_length_le (by omega)]; rfl
  | succ d ih =>
    intro i acc hi hd ha
    have hlt : i < l.length := by omega
    have hg : rd l (i : Int) = l[i] := by rw [rd_nat, List.getD_eq_getElem?_getD, List.getElem?_eq_getElem hlt]; rfl
    have hb := hm l[i] (List.getElem_mem hlt)
    rw [List.drop_eq_getElem_cons hlt]
    have h := ih (i + 1) (red1 acc l[i]) (by omega) (by omega) (by have := red1_len acc l[i]; omega)
    refine Ev.succ (Ev.congr (fun k => ?_) (Ev.pin h rfl))
    simp only [spec_l2Reduce.l0]
    rw [if_pos (by omega)]
    by_cases h0 : acc = []
    · subst h0
      rw [if_neg (by simp), if_pos (by omega), if_pos (by simp), hg, wr (by omega) (by omega)]
      rfl
    · have hp : 0 < acc.length := List.length_pos_iff.2 h0
      rw [if_pos (by omega), wr (by omega) (by omega), if_pos (by omega), if_pos (by omega), if_pos (by omega), hg, rd_last acc h0, wr (i := -l[i]) (by omega) (by omega)]
      by_cases e : acc.getLast h0 = -l[i]
      · rw [if_pos e, if_pos (by omega), wr (by omega) (by omega), show ((acc.length : Int) - 1).toNat = acc.length - 1 from by omega, ← List.dropLast_eq_take]
        have : red1 acc l[i] = acc.dropLast := by unfold red1; rw [if_pos (by rw [List.getLast?_eq_some_getLast h0, e])]
        rw [this]; rfl
      · rw [if_neg e, if_pos (by omega), wr (by omega) (by omega)]
        have : red1 acc l[i] = acc ++ [l[i]] := by unfold red1; rw [if_neg (by rw [List.getLast?_eq_some_getLast h0]; simpa using e)]
        rw [this]; rfl
theorem l2Reduce (l : List Int) (hl : l.length ≤ 1048576) (hm : Mild l) : Ev (fun k => spec_l2Reduce.f k l) (red l) :=
  Ev.congr (fun k => by unfold spec_l2Reduce.f; rfl) (Ev.pin (l2Reduce_round l hl hm l.length 0 [] (by omega) (by omega) (by simp)) (by simp [red]))
theorem reduced_round (l : List Int) (hl : l.length ≤ 1048576) (hm : Mild l) : ∀ (d i : Nat) (acc : List Int), i ≤ l.length → l.length - i = d → acc.length ≤ i →
    Ev (fun k => impl_reduced.l0 k acc l (l.length : Int) (i : Int)) (redF acc (l.drop i)) := by
  intro d
  induction d with
  | zero =>
    intro i acc hi hd ha
    refine Ev.succ (Ev.congr (f := fun _ => some acc) (fun k => ?_) (Ev.pin (Ev.now _) ?_))
    · simp only [impl_reduced.l0]; rw [if_neg (by omega)]
    · rw [List.drop_of_length_le (by omega)]; rfl
  | succ d ih =>
    intro i acc hi hd ha
    have hlt : i < l.length := by omega
    have hg : rd l (i : Int) = l[i] := by rw [rd_nat, List.getD_eq_getElem?_getD, List.getElem?_eq_getElem hlt]; rfl
    have hb := hm l[i] (List.getElem_mem hlt)
    rw [List.drop_eq_getElem_cons hlt]
    have h := ih (i + 1) (red1 acc l[i]) (by omega) (by omega) (by have := red1_len acc l[i]; omega)
    refine Ev.succ (Ev.congr (fun k => ?_) (Ev.pin h rfl))
    simp only [impl_reduced.l0]
    rw [if_pos (by omega), if_pos (by omega), if_pos (by omega)]
    by_cases h0 : acc = []
    · subst h0
      rw [if_neg (by rw [wr (by simp) (by simp)]; simp), if_pos (by simp), hg, wr (by omega) (by omega)]
      rfl
    · have hp : 0 < acc.length := List.length_pos_iff.2 h0
      rw [wr (i := (acc.length : Int) - 1) (by omega) (by omega), if_pos (by omega), if_pos (by omega), if_pos (by omega), hg, rd_last acc h0, wr (i := -l[i]) (by omega) (by omega)]
      by_cases e : acc.getLast h0 = -l[i]
      · rw [if_pos e, if_pos (by omega), wr (by omega) (by omega), show ((acc.length : Int) - 1).toNat = acc.length - 1 from by omega, ← List.dropLast_eq_take]
        have : red1 acc l[i] = acc.dropLast := by unfold red1; rw [if_pos (by rw [List.getLast?_eq_some_getLast h0, e])]
        rw [this]; rfl
      · rw [if_neg e, if_pos (by omega), wr (by omega) (by omega)]
        have : red1 acc l[i] = acc ++ [l[i]] := by unfold red1; rw [if_neg (by rw [List.getLast?_eq_some_getLast h0]; simpa using e)]
        rw [this]; rfl
theorem reduced (l : List Int) (hl : l.length ≤ 1048576) (hm : Mild l) : Ev (fun k => impl_reduced.f k l) (red l) :=
  Ev.congr (fun k => by unfold impl_reduced.f; rfl) (Ev.pin (reduced_round l hl hm l.length 0 [] (by omega) (by omega) (by simp)) (by simp [red]))

theorem rd_get (l : List Int) (i : Nat) (h : i < l.length) : rd l (i : Int) = l[i] := by
  rw [rd_nat, List.getD_eq_getElem?_getD, List.getElem?_eq_getElem h]; rfl

/-! reduced or not -/
theorem red1_snoc {acc : List Int} {x a : Int} (h : acc.getLast? = some a) (he : a ≠ -x) : red1 acc x = acc ++ [x] := by
  unfold red1; rw [if_neg (by rw [h]; simpa using he)]
theorem redF_full (l : List Int) : ∀ (acc : List Int) (a : Int), acc.getLast? = some a → ((redF acc l).length = acc.length + l.length ↔ isRed (a :: l) = true) := by
  induction l with
  | nil => intro acc a h; simp [redF, isRed]
  | cons x l ih =>
    intro acc a h
    by_cases e : a = -x
    · have h1 : red1 acc x = acc.dropLast := by unfold red1; rw [if_pos (by rw [h, e])]
      have h2 := redF_len l (acc.dropLast)
      have h3 : redF acc (x :: l) = redF acc.dropLast l := by simp only [redF, List.foldl_cons, h1]
      have hx : (x == -a) = true := by simp; omega
      rw [h3]
      simp only [isRed, hx, Bool.not_true, Bool.false_and, List.length_cons, Bool.false_eq_true, iff_false]
      simp at h2
      omega
    · have h1 := red1_snoc h e
      have h3 : redF acc (x :: l) = redF (acc ++ [x]) l := by simp only [redF, List.foldl_cons, h1]
      have hx : (x == -a) = false := by simp; omega
      have h4 := ih (acc ++ [x]) x (by simp)
      rw [h3]
      simp only [isRed, hx, Bool.not_false, Bool.true_and]
      rw [← h4]
      simp
      omega
theorem isRed_iff (l : List Int) : ((red l).length = l.length) ↔ isRed l = true := by
  cases l with
  | nil => simp [red, redF, isRed]
  | cons x l =>
    have h := redF_full l [x] x rfl
    have : red (x :: l) = redF [x] l := by simp [red, redF, red1]
    rw [this, ← h]
    simp
    omega
theorem isRed_eq (l : List Int) : (((red l).length : Int) == (l.length : Int)) = isRed l := by
  have h := isRed_iff l
  cases hb : isRed l with
  | true =>
    have h2 : (red l).length = l.length := h.2 hb
    rw [beq_iff_eq]; omega
  | false =>
    have h2 : ¬ ((red l).length = l.length) := by rw [h, hb]; simp
    rw [beq_eq_false_iff_ne]; omega

def vFit (l : List Int) : List Int × Bool := if l.length ≤ 64 then (l, true) else ([], false)
theorem fitting (l : List Int) : impl_fitting.f l = some (vFit l) := by
  unfold impl_fitting.f vFit
  by_cases h : l.length ≤ 64
  · rw [if_neg (by omega), if_pos h]
  · rw [if_pos (by omega), if_neg h]

/-- No two neighbours are inverse. -/
def RedS (acc : List Int) : Prop := ∀ p x y q, acc = p ++ x :: y :: q → x ≠ -y
theorem RedS.nil : RedS [] := fun p x y q h => by
  have := congrArg List.length h; simp at this
theorem RedS.dropLast {acc : List Int} (h : RedS acc) : RedS acc.dropLast := fun p x y q e => by
  by_cases h0 : acc = []
  · subst h0; exact absurd e (by simp)
  · refine h p x y (q ++ [acc.getLast h0]) ?_
    have h3 := List.dropLast_concat_getLast h0
    generalize acc.getLast h0 = z at *
    rw [e] at h3
    rw [← h3]; simp
theorem RedS.snoc {acc : List Int} {x : Int} (h : RedS acc) (hx : acc.getLast? ≠ some (-x)) : RedS (acc ++ [x]) := fun p a b q e => by
  rcases List.eq_nil_or_concat q with rfl | ⟨q', z, rfl⟩
  · have e2 : acc ++ [x] = (p ++ [a]) ++ [b] := by rw [e]; simp
    obtain ⟨e3, e4⟩ := List.append_inj' e2 rfl
    have e5 : x = b := by simpa using e4
    intro hab
    apply hx
    rw [e3, e5, ← hab]; simp
  · have e2 : acc ++ [x] = (p ++ a :: b :: q') ++ [z] := by rw [e]; simp
    obtain ⟨e3, _⟩ := List.append_inj' e2 rfl
    exact h p a b q' e3
theorem RedS.red1 {acc : List Int} {x : Int} (h : RedS acc) : RedS (red1 acc x) := by
  unfold L.red1
  split
  · exact h.dropLast
  · exact h.snoc (by assumption)
theorem RedS.redF {l : List Int} : ∀ {acc : List Int}, RedS acc → RedS (redF acc l) := by
  induction l with
  | nil => intro acc h; exact h
  | cons x l ih => intro acc h; exact ih h.red1
theorem RedS.red (l : List Int) : RedS (red l) := RedS.redF RedS.nil
theorem red1_cancel {acc : List Int} (x : Int) (h : RedS acc) : red1 (red1 acc x) (-x) = acc := by
  by_cases e : acc.getLast? = some (-x)
  · have h0 : acc ≠ [] := by rintro rfl; simp at e
    have hl : acc.dropLast ++ [-x] = acc := by
      have := List.dropLast_concat_getLast h0
      rw [List.getLast?_eq_some_getLast h0] at e
      rw [← Option.some.inj e]; exact this
    have h1 : red1 acc x = acc.dropLast := by unfold red1; rw [if_pos e]
    rw [h1]
    unfold red1
    rw [if_neg, hl]
    intro e2
    by_cases h00 : acc.dropLast = []
    · rw [h00] at e2; simp at e2
    · have hl2 := List.dropLast_concat_getLast h00
      rw [List.getLast?_eq_some_getLast h00] at e2
      have hz := Option.some.inj e2
      generalize acc.dropLast.getLast h00 = z at *
      refine h acc.dropLast.dropLast z (-x) [] ?_ (by rw [hz])
      have h7 : acc.dropLast.dropLast ++ [z] ++ [-x] = acc := by rw [hl2]; exact hl
      simpa using h7.symm
  · have h1 : red1 acc x = acc ++ [x] := by unfold red1; rw [if_neg e]
    rw [h1]
    unfold red1
    rw [if_pos (by simp)]
    simp
theorem redF_snoc (acc l : List Int) (x : Int) : redF acc (l ++ [x]) = red1 (redF acc l) x := by simp [redF]
theorem redF_append (acc a b : List Int) : redF acc (a ++ b) = redF (redF acc a) b := by simp [redF]
theorem red_snoc (l : List Int) (x : Int) : red (l ++ [x]) = red1 (red l) x := redF_snoc [] l x
theorem redF_red {acc : List Int} (h : RedS acc) (l : List Int) : redF acc (red l) = redF acc l := by
  suffices H : ∀ m : List Int, redF acc (red m.reverse) = redF acc m.reverse by simpa using H l.reverse
  intro m
  induction m with
  | nil => rfl
  | cons x m ih =>
    rw [List.reverse_cons, red_snoc, redF_snoc, ← ih]
    by_cases e : (red m.reverse).getLast? = some (-x)
    · have h0 : red m.reverse ≠ [] := by intro h0; rw [h0] at e; simp at e
      have hl : (red m.reverse).dropLast ++ [-x] = red m.reverse := by
        have := List.dropLast_concat_getLast h0
        rw [List.getLast?_eq_some_getLast h0] at e
        rw [← Option.some.inj e]; exact this
      have h1 : red1 (red m.reverse) x = (red m.reverse).dropLast := by unfold red1; rw [if_pos e]
      rw [h1]
      conv => rhs; rw [← hl]
      rw [redF_snoc]
      have := red1_cancel (-x) (RedS.redF (l := (red m.reverse).dropLast) h)
      rw [Int.neg_neg] at this
      exact this.symm
    · have h1 : red1 (red m.reverse) x = red m.reverse ++ [x] := by unfold red1; rw [if_neg e]
      rw [h1, redF_snoc]
theorem red_red (l : List Int) : red (red l) = red l := redF_red RedS.nil l
theorem red_append (a b : List Int) : red (a ++ b) = redF (red a) b := redF_append [] a b
theorem red_left (a b : List Int) : red (red a ++ b) = red (a ++ b) := by rw [red_append, red_red, ← red_append]
theorem red_right (a b : List Int) : red (a ++ red b) = red (a ++ b) := by rw [red_append, redF_red (RedS.red a), ← red_append]
theorem red_both (a b : List Int) : red (red a ++ red b) = red (a ++ b) := by rw [red_left, red_right]
theorem vFit_len (l : List Int) : (vFit l).1.length ≤ 64 := by unfold vFit; split <;> simp; omega

theorem l1Own (l : List Int) (h : l.length ≤ 1099511627776) : spec_l1Own.f l = some l := by
  unfold spec_l1Own.f
  rw [Option.bind_some, if_pos (by simp; omega)]; rfl
theorem l2Short (l : List Int) : spec_l2Short.f l = some (vFit l) := by
  unfold spec_l2Short.f vFit
  by_cases h : l.length ≤ 64
  · rw [if_neg (by omega), if_pos h]
  · rw [if_pos (by omega), if_neg h]
theorem l2Join (a b : List Int) (hl : a.length + b.length ≤ 1048576) (ha : Mild a) (hb : Mild b) : Ev (fun k => spec_l2Join.f k a b) (red (a ++ b)) := by
  refine Ev.congr (fun k => by unfold spec_l2Join.f; rw [l1Own a (by omega), Option.bind_some, if_pos (by omega)]) (Ev.bind (l2Reduce _ (by simp; omega) (ha.append hb)) (Ev.now _))
theorem l2Inverse_round (l : List Int) (hl : l.length ≤ 1048576) (hm : Mild l) : ∀ (j : Nat), j ≤ l.length → Ev (fun k => spec_l2Inverse.l0 k l (inv (l.drop j)) ((j : Int) - 1)) (inv l) := by
  intro j
  induction j with
  | zero =>
    intro _
    refine Ev.succ (Ev.congr (f := fun _ => some (inv l)) (fun k => ?_) (Ev.now _))
    rw [spec_l2Inverse.l0, if_neg (by omega), List.drop_zero]
  | succ j ih =>
    intro hj
    have hlt : j < l.length := by omega
    have hb := hm l[j] (List.getElem_mem hlt)
    have hn := inv_len (l.drop (j + 1))
    have hn2 : (l.drop (j + 1)).length ≤ l.length := by simp
    refine Ev.succ (Ev.congr (fun k => ?_) (Ev.pin (ih (by omega)) rfl))
    rw [spec_l2Inverse.l0, show (((j + 1 : Nat) : Int) - 1) = (j : Int) from by omega, if_pos (by omega), if_pos (by omega), if_pos (by omega), if_pos (by omega), rd_get l j hlt, wr (by omega) (by omega), wr (by omega) (by omega)]
    rw [List.drop_eq_getElem_cons hlt, inv_cons]
theorem l2Inverse (l : List Int) (hl : l.length ≤ 1048576) (hm : Mild l) : Ev (fun k => spec_l2Inverse.f k l) (inv l) := by
  refine Ev.congr (fun k => by unfold spec_l2Inverse.f; rw [wr (by omega) (by omega)]) (Ev.pin (Ev.congr (fun k => ?_) (l2Inverse_round l hl hm l.length (Nat.le_refl _))) rfl)
  rw [List.drop_length]; rfl
theorem inverse (l : List Int) (hl : l.length ≤ 1048576) (hm : Mild l) : impl_inverse.f l = some (inv l) := by
  unfold impl_inverse.f inv
  rw [if_pos (by omega)]
  congr 1
  apply List.map_congr_left
  intro x hx
  have := hm x (by simpa using hx)
  exact wr (by omega) (by omega)
theorem rdl_get (xs : List (List Int)) (i : Nat) (h : i < xs.length) : rd_L1 xs (i : Int) = xs[i] := by
  unfold rd_L1; rw [List.getD_eq_getElem?_getD]; simp [h]
theorem flat_take (xs : List (List Int)) (i : Nat) (h : i < xs.length) : (xs.take (i + 1)).flatten = (xs.take i).flatten ++ xs[i] := by
  rw [List.take_succ_eq_append_getElem h, List.flatten_append, List.flatten_cons, List.flatten_nil, List.append_nil]
theorem flat_le (xs : List (List Int)) (i : Nat) : (xs.take i).flatten.length ≤ xs.flatten.length := by
  have : xs.flatten = (xs.take i).flatten ++ (xs.drop i).flatten := by rw [← List.flatten_append, List.take_append_drop]
  rw [this]; simp
theorem concat1 (xs : List (List Int)) (hx : xs.length ≤ 1048576) (ht : xs.flatten.length ≤ 1099511627776) : ∀ (d i : Nat), i ≤ xs.length → xs.length - i = d →
    Ev (fun k => slices_Concat_int_int.l1 k (xs.take i).flatten xs (xs.length : Int) (i : Int)) xs.flatten := by
  intro d
  induction d with
  | zero =>
    intro i hi hd
    refine Ev.succ (Ev.congr (f := fun _ => some (xs.take i).flatten) (fun k => ?_) (Ev.pin (Ev.now _) ?_))
    · rw [slices_Concat_int_int.l1, if_neg (by omega)]
    · rw [List.take_of_length_le (by omega)]
  | succ d ih =>
    intro i hi hd
    have hlt : i < xs.length := by omega
    have h1 := flat_take xs i hlt
    have h2 := flat_le xs (i + 1)
    have h3 : (xs.take i).flatten.length + xs[i].length ≤ 1099511627776 := by rw [h1] at h2; simp only [List.length_append] at h2; omega
    refine Ev.succ (Ev.congr (fun k => ?_) (Ev.pin (ih (i + 1) (by omega) (by omega)) rfl))
    rw [slices_Concat_int_int.l1, if_pos (by omega), if_pos (by omega), if_pos (by omega), rdl_get xs i hlt, if_pos (by omega), wr (by omega) (by omega), ← h1]
    rfl
theorem concat0 (xs : List (List Int)) (hx : xs.length ≤ 1048576) (ht : xs.flatten.length ≤ 1099511627776) : ∀ (d i : Nat), i ≤ xs.length → xs.length - i = d →
    Ev (fun k => slices_Concat_int_int.l0 k xs ((xs.take i).flatten.length : Int) xs (xs.length : Int) (i : Int)) xs.flatten := by
  intro d
  induction d with
  | zero =>
    intro i hi hd
    have h2 := flat_le xs i
    refine Ev.succ (Ev.congr (fun k => ?_) (Ev.pin (concat1 xs hx ht xs.length 0 (by omega) (by omega)) rfl))
    rw [slices_Concat_int_int.l0, if_neg (by omega)]
    unfold slices_Grow_int_int.f
    rw [if_pos ⟨rfl, by omega, by omega⟩]; rfl
  | succ d ih =>
    intro i hi hd
    have hlt : i < xs.length := by omega
    have h1 := flat_take xs i hlt
    have h2 := flat_le xs (i + 1)
    have h3 : (xs.take i).flatten.length + xs[i].length ≤ 1099511627776 := by rw [h1] at h2; simp only [List.length_append] at h2; omega
    refine Ev.succ (Ev.congr (fun k => ?_) (Ev.pin (ih (i + 1) (by omega) (by omega)) rfl))
    rw [slices_Concat_int_int.l0, if_pos (by omega), if_pos (by omega), if_pos (by omega), rdl_get xs i hlt, wr (by omega) (by omega), if_neg (by omega), wr (by omega) (by omega), h1, List.length_append, Int.natCast_add]
    rfl
theorem concat (xs : List (List Int)) (hx : xs.length ≤ 1048576) (ht : xs.flatten.length ≤ 1099511627776) : Ev (fun k => slices_Concat_int_int.f k xs) xs.flatten :=
  Ev.congr (fun k => by unfold slices_Concat_int_int.f; rfl) (concat0 xs hx ht xs.length 0 (by omega) (by omega))
theorem product (xs : List (List Int)) (hx : xs.length ≤ 1048576) (ht : xs.flatten.length ≤ 1048576) (hm : Mild xs.flatten) : Ev (fun k => impl_product.f k xs) (red xs.flatten) :=
  Ev.congr (fun k => by unfold impl_product.f; rfl) (Ev.bind (concat xs hx (by omega)) (Ev.bind (reduced _ ht hm) (Ev.now _)))
theorem l4Commutator (a b : List Int) (hl : a.length ≤ 100000) (hlb : b.length ≤ 100000) (ha : Mild a) (hb : Mild b) : Ev (fun k => spec_l4Commutator.f k a b) (red (a ++ b ++ (inv a ++ inv b))) := by
  have h1 := red_len (a ++ b); have h2 := inv_len a; have h3 := inv_len b; have h4 := red_len (inv a ++ inv b)
  simp only [List.length_append] at h1 h4
  refine Ev.congr (fun k => by unfold spec_l4Commutator.f; rfl) (Ev.bind (l2Join a b (by omega) ha hb) (Ev.bind (l2Inverse a (by omega) ha) (Ev.bind (l2Inverse b (by omega) hb) (Ev.bind (l2Join _ _ (by omega) ha.inv hb.inv) (Ev.bind (l2Join _ _ (by omega) (ha.append hb).red (ha.inv.append hb.inv).red) (Ev.pin (Ev.now _) (red_both _ _)))))))
theorem commutator (a b : List Int) (hl : a.length ≤ 100000) (hlb : b.length ≤ 100000) (ha : Mild a) (hb : Mild b) : Ev (fun k => impl_commutator.f k a b) (red (a ++ b ++ (inv a ++ inv b))) := by
  have h2 := inv_len a; have h3 := inv_len b
  refine Ev.congr (fun k => by unfold impl_commutator.f; rw [inverse a (by omega) ha, inverse b (by omega) hb, Option.bind_some, Option.bind_some]) ?_
  exact Ev.bind (Ev.pin (product _ (by simp) (by simp; omega) (by simpa using ha.append (hb.append (ha.inv.append hb.inv)))) (by simp; rfl)) (Ev.pin (Ev.now _) (by simp))
theorem l1Has_round (l : List Int) (x : Int) (hl : l.length ≤ 1048576) : ∀ (d i : Nat), i ≤ l.length → l.length - i = d → Ev (fun k => spec_l1Has.l0 k l x (i : Int)) ((l.drop i).contains x) := by
  intro d
  induction d with
  | zero =>
    intro i hi hd
    refine Ev.succ (Ev.congr (f := fun _ => some false) (fun k => ?_) (Ev.pin (Ev.now _) ?_))
    · rw [spec_l1Has.l0, if_neg (by omega)]
    · rw [List.drop_of_length_le (by omega)]; rfl
  | succ d ih =>
    intro i hi hd
    have hlt : i < l.length := by omega
    rw [List.drop_eq_getElem_cons hlt, List.contains_cons]
    by_cases e : l[i] = x
    · refine Ev.succ (Ev.congr (f := fun _ => some true) (fun k => ?_) (Ev.pin (Ev.now _) (by simp [e])))
      rw [spec_l1Has.l0, if_pos (by omega), if_pos (by omega), rd_get l i hlt, if_pos e]
    · refine Ev.succ (Ev.congr (fun k => ?_) (Ev.pin (ih (i + 1) (by omega) (by omega)) (by simp [Ne.symm e])))
      rw [spec_l1Has.l0, if_pos (by omega), if_pos (by omega), rd_get l i hlt, if_neg e, wr (by omega) (by omega)]
      rfl
theorem l1Has (l : List Int) (x : Int) (hl : l.length ≤ 1048576) : Ev (fun k => spec_l1Has.f k l x) (l.contains x) :=
  Ev.congr (fun k => by unfold spec_l1Has.f; rfl) (l1Has_round l x hl l.length 0 (by omega) (by omega))
theorem Index_round (l : List Int) (x : Int) (hl : l.length ≤ 1048576) : ∀ (d i : Nat), i ≤ l.length → l.length - i = d → ∃ r : Int, Ev (fun k => slices_Index_int_int.l0 k l x (l.length : Int) (i : Int)) r ∧ decide (r ≥ 0) = (l.drop i).contains x := by
  intro d
  induction d with
  | zero =>
    intro i hi hd
    refine ⟨-1, Ev.succ (Ev.congr (f := fun _ => some (-1)) (fun k => ?_) (Ev.now _)), ?_⟩
    · rw [slices_Index_int_int.l0, if_neg (by omega)]
    · rw [List.drop_of_length_le (by omega)]; rfl
  | succ d ih =>
    intro i hi hd
    have hlt : i < l.length := by omega
    rw [List.drop_eq_getElem_cons hlt, List.contains_cons]
    by_cases e : x = l[i]
    · refine ⟨(i : Int), Ev.succ (Ev.congr (f := fun _ => some (i : Int)) (fun k => ?_) (Ev.now _)), ?_⟩
      · rw [slices_Index_int_int.l0, if_pos (by omega), if_pos (by omega), if_pos (by omega), rd_get l i hlt, if_pos e]
      · simp [e]
    · obtain ⟨r, h1, h2⟩ := ih (i + 1) (by omega) (by omega)
      refine ⟨r, Ev.succ (Ev.congr (fun k => ?_) h1), by rw [h2]; simp [e]⟩
      rw [slices_Index_int_int.l0, if_pos (by omega), if_pos (by omega), if_pos (by omega), rd_get l i hlt, if_neg e, wr (by omega) (by omega)]
      rfl
theorem Contains (l : List Int) (x : Int) (hl : l.length ≤ 1048576) : Ev (fun k => slices_Contains_int_int.f k l x) (l.contains x) := by
  obtain ⟨r, h1, h2⟩ := Index_round l x hl l.length 0 (by omega) (by omega)
  exact Ev.congr (fun k => by unfold slices_Contains_int_int.f slices_Index_int_int.f; rfl) (Ev.bind h1 (Ev.pin (Ev.now _) (by simpa using h2)))

/-- Nails, each once. -/
def nailsB : List Int → List Int → Bool
  | _, [] => true
  | pre, x :: r => decide (1 ≤ x ∧ x ≤ 6) && !(pre.contains x) && nailsB (pre ++ [x]) r
theorem pigeon (n : Nat) : ∀ l : List Int, l.Nodup → (∀ x ∈ l, 1 ≤ x ∧ x ≤ (n : Int)) → l.length ≤ n := by
  induction n with
  | zero =>
    intro l _ h
    cases l with
    | nil => simp
    | cons x l => have := h x (by simp); omega
  | succ n ih =>
    intro l hn h
    by_cases hm : ((n + 1 : Nat) : Int) ∈ l
    · have h1 := ih (l.erase ((n + 1 : Nat) : Int)) (hn.erase _) (fun x hx => by
        have h2 := (hn.mem_erase_iff).1 hx
        have := h x h2.2
        have := h2.1
        omega)
      rw [List.length_erase_of_mem hm] at h1
      omega
    · have := ih l hn (fun x hx => by
        have := h x hx
        have : x ≠ ((n + 1 : Nat) : Int) := fun e => hm (e ▸ hx)
        omega)
      omega
theorem nailsB_good : ∀ (r pre : List Int), nailsB pre r = true → pre.Nodup → (∀ x ∈ pre, 1 ≤ x ∧ x ≤ 6) → (pre ++ r).Nodup ∧ ∀ x ∈ pre ++ r, 1 ≤ x ∧ x ≤ 6 := by
  intro r
  induction r with
  | nil => intro pre _ h1 h2; simpa using ⟨h1, h2⟩
  | cons x r ih =>
    intro pre h h1 h2
    simp [nailsB] at h
    have := ih (pre ++ [x]) h.2 (by
      rw [List.nodup_append]
      refine ⟨h1, by simp, ?_⟩
      intro a ha b hb
      simp at hb
      rw [hb]
      intro e
      exact h.1.2 (e ▸ ha)) (by
      intro y hy
      simp at hy
      rcases hy with hy | rfl
      · exact h2 y hy
      · exact h.1.1)
    simpa using this
theorem nailsB_all {l : List Int} (h : nailsB [] l = true) : l.Nodup ∧ ∀ x ∈ l, 1 ≤ x ∧ x ≤ 6 := by simpa using nailsB_good l [] h (by simp) (by simp)
theorem nailsB_len {l : List Int} (h : nailsB [] l = true) : l.length ≤ 6 := pigeon 6 l (nailsB_all h).1 (by simpa using (nailsB_all h).2)
/-- A list of nails. -/
def areN (l : List Int) : Bool := nailsB [] l && decide (0 < l.length)
theorem areN_len {l : List Int} (h : areN l = true) : 0 < l.length ∧ l.length ≤ 6 := by
  unfold areN at h; simp at h
  exact ⟨h.2, nailsB_len h.1⟩
theorem areN_mem {l : List Int} (h : areN l = true) : ∀ x ∈ l, 1 ≤ x ∧ x ≤ 6 := by
  unfold areN at h; simp at h; exact (nailsB_all h.1).2
theorem Mild.ofN {l : List Int} (h : areN l = true) : Mild l := fun x hx => by have := areN_mem h x hx; omega
theorem snoc_take (l : List Int) (i : Nat) (h : i < l.length) : l.take (i + 1) = l.take i ++ [l[i]] := List.take_succ_eq_append_getElem h

theorem l1In6 (x : Int) : spec_l1In.f x 1 6 = some (decide (1 ≤ x ∧ x ≤ 6)) := by
  unfold spec_l1In.f
  by_cases h : x ≥ 1
  · rw [if_pos h]; congr 1; simp; omega
  · rw [if_neg h]; congr 1; simp; omega
theorem l4Nails_round (l : List Int) (hl : l.length ≤ 1048576) : ∀ (d i : Nat), i ≤ l.length → i ≤ 7 → 7 - i = d →
    Ev (fun k => spec_l4Nails.l0 k l (i : Int)) (nailsB (l.take i) (l.drop i) && decide (l.length ≤ 6) && decide (0 < l.length)) := by
  intro d
  induction d with
  | zero =>
    intro i hi h7 hd
    refine Ev.succ (Ev.congr (f := fun k => spec_l4Nails.j1 k l (i : Int) false) (fun k => ?_) (Ev.succ ?_))
    · rw [spec_l4Nails.l0]
      by_cases hlt : i < l.length
      · rw [if_pos (by omega), decide_eq_false (by omega)]
      · rw [if_neg (by omega)]
    · refine Ev.congr (fun k => by rw [spec_l4Nails.j1, if_neg (by simp), l1In6, Option.bind_some]) (Ev.pin (Ev.now _) ?_)
      rw [show decide (l.length ≤ 6) = false from by simp; omega]
      simp; omega
  | succ d ih =>
    intro i hi h7 hd
    by_cases hlt : i < l.length
    · refine Ev.succ (Ev.congr (f := fun k => spec_l4Nails.j1 k l (i : Int) true) (fun k => ?_) (Ev.succ ?_))
      · rw [spec_l4Nails.l0, if_pos (by omega), show decide ((i : Int) ≤ 6) = true from by simp; omega]
      · rw [List.drop_eq_getElem_cons hlt]
        refine Ev.congr (fun k => by rw [spec_l4Nails.j1, if_pos rfl, if_pos (by omega), if_pos (by omega), rd_get l i hlt, l1In6, Option.bind_some]) ?_
        by_cases hr : 1 ≤ l[i] ∧ l[i] ≤ 6
        · simp only [hr, decide_true, and_self, ↓reduceIte]
          refine Ev.congr (fun k => by rw [if_pos (by omega), show ((i : Int)).toNat = i from by omega]) ?_
          refine Ev.bind (l1Has (l.take i) l[i] (by simp; omega)) ?_
          cases hc : (l.take i).contains l[i] with
          | true => simp only [↓reduceIte]; exact Ev.pin (Ev.now _) (by simp only [nailsB, hc]; simp)
          | false =>
            simp only [Bool.false_eq_true, ↓reduceIte]
            refine Ev.congr (fun k => by rw [wr (by omega) (by omega)]; rfl) (Ev.pin (ih (i + 1) (by omega) (by omega) (by omega)) ?_)
            simp only [nailsB, hc, hr, and_self, decide_true, Bool.not_false, Bool.true_and, snoc_take l i hlt]
        · refine Ev.congr (f := fun _ => some false) (fun k => by rw [if_neg (by simpa using hr)]) (Ev.pin (Ev.now _) ?_)
          simp only [nailsB, decide_eq_false hr, Bool.false_and]
    · refine Ev.succ (Ev.congr (f := fun k => spec_l4Nails.j1 k l (i : Int) false) (fun k => ?_) (Ev.succ ?_))
      · rw [spec_l4Nails.l0, if_neg (by omega)]
      · refine Ev.congr (fun k => by rw [spec_l4Nails.j1, if_neg (by simp), l1In6, Option.bind_some]) (Ev.pin (Ev.now _) ?_)
        rw [List.drop_of_length_le (by omega)]
        simp only [nailsB, Bool.true_and]
        rw [Bool.eq_iff_iff]; simp; omega
theorem l4Nails (l : List Int) (hl : l.length ≤ 1048576) : Ev (fun k => spec_l4Nails.f k l) (areN l) :=
  Ev.congr (fun k => by unfold spec_l4Nails.f; rfl) (Ev.pin (l4Nails_round l hl 7 0 (by omega) (by omega) (by omega)) (by
    unfold areN
    cases h : nailsB [] l with
    | false => simp [h]
    | true => have := nailsB_len h; simp [h, this]))
theorem isNail (x : Int) : impl_isNail.f x = some (decide (1 ≤ x ∧ x ≤ 6)) := by
  unfold impl_isNail.f
  by_cases h : x ≥ 1
  · rw [if_pos h]; congr 1; simp; omega
  · rw [if_neg h]; congr 1; simp; omega
theorem areNails_round (l : List Int) (hl : l.length ≤ 1048576) : ∀ (d i : Nat), i ≤ l.length → l.length - i = d →
    Ev (fun k => impl_areNails.l0 k l l (l.length : Int) (i : Int)) (nailsB (l.take i) (l.drop i) && decide (0 < l.length)) := by
  intro d
  induction d with
  | zero =>
    intro i hi hd
    refine Ev.succ (Ev.congr (fun k => by rw [impl_areNails.l0, if_neg (by omega)]) (Ev.pin (Ev.now _) ?_))
    rw [List.drop_of_length_le (by omega)]
    simp [nailsB]
  | succ d ih =>
    intro i hi hd
    have hlt : i < l.length := by omega
    rw [List.drop_eq_getElem_cons hlt]
    refine Ev.succ (Ev.congr (fun k => by rw [impl_areNails.l0, if_pos (by omega), if_pos (by omega), if_pos (by omega), rd_get l i hlt, isNail, Option.bind_some]) ?_)
    by_cases hr : 1 ≤ l[i] ∧ l[i] ≤ 6
    · simp only [hr, decide_true, and_self, ↓reduceIte]
      refine Ev.congr (fun k => by rw [if_pos (by omega), show ((i : Int)).toNat = i from by omega]) ?_
      refine Ev.bind (Contains (l.take i) l[i] (by simp; omega)) ?_
      cases hc : (l.take i).contains l[i] with
      | true => simp only [↓reduceIte]; exact Ev.pin (Ev.now _) (by simp only [nailsB, hc]; simp)
      | false =>
        simp only [Bool.false_eq_true, ↓reduceIte]
        refine Ev.congr (fun k => by rw [wr (by omega) (by omega)]; rfl) (Ev.pin (ih (i + 1) (by omega) (by omega)) ?_)
        simp only [nailsB, hc, hr, and_self, decide_true, Bool.not_false, Bool.true_and, snoc_take l i hlt]
    · refine Ev.congr (f := fun _ => some false) (fun k => by rw [if_neg (by simpa using hr)]) (Ev.pin (Ev.now _) ?_)
      simp only [nailsB, decide_eq_false hr, Bool.false_and]
theorem areNails (l : List Int) (hl : l.length ≤ 1048576) : Ev (fun k => impl_areNails.f k l) (areN l) :=
  Ev.congr (fun k => by unfold impl_areNails.f; rfl) (Ev.pin (areNails_round l hl l.length 0 (by omega) (by omega)) rfl)

/-- The commutator, reduced. -/
def comm (a b : List Int) : List Int := red (a ++ b ++ (inv a ++ inv b))
theorem comm_len (a b : List Int) : (comm a b).length ≤ 2 * (a.length + b.length) := by
  have h1 := red_len (a ++ b ++ (inv a ++ inv b)); have h2 := inv_len a; have h3 := inv_len b
  simp only [List.length_append] at h1; unfold comm; omega
theorem Mild.comm {a b : List Int} (ha : Mild a) (hb : Mild b) : Mild (comm a b) := ((ha.append hb).append (ha.inv.append hb.inv)).red
def leftF (acc l : List Int) : List Int := l.foldl (fun a x => comm a [x]) acc
def vLeftWord (l : List Int) : List Int × Bool := if areN l = true then vFit (leftF (l.take 1) (l.drop 1)) else ([], false)
theorem vLeftWord_len (l : List Int) (hl : l.length ≤ 1048576) : (vLeftWord l).1.length ≤ 1048576 := by
  unfold vLeftWord; split
  · have := vFit_len (leftF (l.take 1) (l.drop 1)); omega
  · simp

theorem half_int (n : Nat) (h : n ≤ 1048576) : wrap64 (Int.tdiv (wrap64 ((n : Int) + 1)) 2) = (((n + 1) / 2 : Nat) : Int) := by
  have h1 : wrap64 ((n : Int) + 1) = (n : Int) + 1 := wr (by omega) (by omega)
  rw [h1, Int.tdiv_eq_ediv_of_nonneg (by omega), wr (by omega) (by omega)]
  omega
/-- How many letters the balanced word of so many nails has at most. -/
def lenB : Nat → Nat
  | 1 => 1
  | 2 => 4
  | 3 => 10
  | 4 => 16
  | 5 => 28
  | 6 => 40
  | _ => 0
theorem lenB_le (n : Nat) : lenB n ≤ 64 := by
  unfold lenB; split <;> decide
theorem lenB_half (n : Nat) (h1 : 2 ≤ n) (h2 : n ≤ 6) : 2 * (lenB ((n + 1) / 2) + lenB (n - (n + 1) / 2)) ≤ lenB n := by
  rcases (by omega : n = 2 ∨ n = 3 ∨ n = 4 ∨ n = 5 ∨ n = 6) with rfl | rfl | rfl | rfl | rfl <;> decide
theorem lenB_one : lenB 1 = 1 := rfl
def balV : Nat → List Int → List Int
  | 0, l => l
  | d + 1, l => if l.length = 1 then l else comm (balV d (l.take ((l.length + 1) / 2))) (balV d (l.drop ((l.length + 1) / 2)))
def balT : Nat → List Int → Tr
  | 0, l => .leaf l
  | d + 1, l => if l.length = 1 then .leaf l else .node (balT d (l.take ((l.length + 1) / 2))) (balT d (l.drop ((l.length + 1) / 2)))
theorem one_list {l : List Int} (h : l.length = 1) : ∃ x, l = [x] := by
  cases l with
  | nil => simp at h
  | cons x l => cases l with
    | nil => exact ⟨x, rfl⟩
    | cons y l => simp at h
theorem balV_len : ∀ (d : Nat) (l : List Int), 0 < l.length → l.length ≤ d → l.length ≤ 6 → (balV d l).length ≤ lenB l.length := by
  intro d
  induction d with
  | zero => intro l h0 h1; omega
  | succ d ih =>
    intro l h0 h1 h6
    unfold balV
    by_cases h : l.length = 1
    · rw [if_pos h, h]; decide
    · rw [if_neg h]
      have e1 : (l.take ((l.length + 1) / 2)).length = (l.length + 1) / 2 := by rw [List.length_take]; omega
      have e2 : (l.drop ((l.length + 1) / 2)).length = l.length - (l.length + 1) / 2 := by rw [List.length_drop]
      have i1 := ih (l.take ((l.length + 1) / 2)) (by omega) (by omega) (by omega)
      have i2 := ih (l.drop ((l.length + 1) / 2)) (by omega) (by omega) (by omega)
      rw [e1] at i1
      rw [e2] at i2
      have h3 := lenB_half l.length (by omega) h6
      have h4 := comm_len (balV d (l.take ((l.length + 1) / 2))) (balV d (l.drop ((l.length + 1) / 2)))
      omega
theorem balV_mild : ∀ (d : Nat) (l : List Int), Mild l → Mild (balV d l) := by
  intro d
  induction d with
  | zero => intro l h; exact h
  | succ d ih =>
    intro l h
    unfold balV
    split
    · exact h
    · exact (ih (l.take ((l.length + 1) / 2)) (h.sub fun x hx => List.mem_of_mem_take hx)).comm (ih (l.drop ((l.length + 1) / 2)) (h.sub fun x hx => List.mem_of_mem_drop hx))
theorem l4Balanced : ∀ (d : Nat) (l : List Int), 0 < l.length → l.length ≤ d → l.length ≤ 6 → Mild l → Ev (fun k => spec_l4Balanced.f k l) (balV d l) := by
  intro d
  induction d with
  | zero => intro l h0 h1; omega
  | succ d ih =>
    intro l h0 h1 h6 hm
    unfold balV
    refine L.Ev.succ ?_
    by_cases h : l.length = 1
    · rw [if_pos h]
      obtain ⟨x, rfl⟩ := one_list h
      exact Ev.congr (f := fun _ => some [x]) (fun k => by rw [P.spec_l4Balanced.f, if_pos (by simp), if_pos (by simp)]; simp [rd]) (Ev.now _)
    · rw [if_neg h]
      have e1 : (l.take ((l.length + 1) / 2)).length = (l.length + 1) / 2 := by rw [List.length_take]; omega
      have e2 : (l.drop ((l.length + 1) / 2)).length = l.length - (l.length + 1) / 2 := by rw [List.length_drop]
      have m1 : Mild (l.take ((l.length + 1) / 2)) := hm.sub fun x hx => List.mem_of_mem_take hx
      have m2 : Mild (l.drop ((l.length + 1) / 2)) := hm.sub fun x hx => List.mem_of_mem_drop hx
      have b1 := balV_len d (l.take ((l.length + 1) / 2)) (by omega) (by omega) (by omega)
      have b2 := balV_len d (l.drop ((l.length + 1) / 2)) (by omega) (by omega) (by omega)
      have c1 := lenB_le (l.take ((l.length + 1) / 2)).length
      have c2 := lenB_le (l.drop ((l.length + 1) / 2)).length
      refine Ev.congr (fun k => by rw [P.spec_l4Balanced.f, if_neg (by omega), half_int _ (by omega), if_pos (by omega), if_pos (by omega), Int.toNat_natCast]) (Ev.bind (ih (l.take ((l.length + 1) / 2)) (by omega) (by omega) (by omega) m1) (Ev.bind (ih (l.drop ((l.length + 1) / 2)) (by omega) (by omega) (by omega) m2) (Ev.bind (l4Commutator _ _ (by omega) (by omega) (balV_mild d _ m1) (balV_mild d _ m2)) (Ev.now _))))
theorem balanced : ∀ (d : Nat) (l : List Int), 0 < l.length → l.length ≤ d → l.length ≤ 6 → Ev (fun k => impl_balanced.f k l) (balT d l) := by
  intro d
  induction d with
  | zero => intro l h0 h1; omega
  | succ d ih =>
    intro l h0 h1 h6
    unfold balT
    refine L.Ev.succ ?_
    by_cases h : l.length = 1
    · rw [if_pos h]
      exact Ev.congr (f := fun _ => some (Tr.leaf l)) (fun k => by rw [P.impl_balanced.f, if_pos h]) (Ev.now _)
    · rw [if_neg h]
      have e1 : (l.take ((l.length + 1) / 2)).length = (l.length + 1) / 2 := by rw [List.length_take]; omega
      have e2 : (l.drop ((l.length + 1) / 2)).length = l.length - (l.length + 1) / 2 := by rw [List.length_drop]
      refine Ev.congr (fun k => by rw [P.impl_balanced.f, if_neg h, if_pos (by omega)]) (Ev.bind (ih (l.take ((l.length + 1) / 2)) (by omega) (by omega) (by omega)) ?_)
      refine Ev.bind (ih (l.drop ((l.length + 1) / 2)) (by omega) (by omega) (by omega)) ?_
      exact Ev.now _
theorem red_one (x : Int) : red [x] = [x] := by simp [red, redF, red1]
theorem bal_value : ∀ (d : Nat) (l : List Int), 0 < l.length → l.length ≤ d → l.length ≤ 6 → Mild l → Ev (fun k => impl_tree_value.f k (balT d l)) (balV d l, true) := by
  intro d
  induction d with
  | zero => intro l h0 h1; omega
  | succ d ih =>
    intro l h0 h1 h6 hm
    unfold balV balT
    by_cases h : l.length = 1
    · rw [if_pos h, if_pos h]
      obtain ⟨x, rfl⟩ := one_list h
      exact Ev.congr (fun k => by rw [P.impl_tree_value.f]) (Ev.bind (Ev.pin (reduced [x] (by simp) hm) (red_one x)) (Ev.now _))
    · rw [if_neg h, if_neg h]
      have e1 : (l.take ((l.length + 1) / 2)).length = (l.length + 1) / 2 := by rw [List.length_take]; omega
      have e2 : (l.drop ((l.length + 1) / 2)).length = l.length - (l.length + 1) / 2 := by rw [List.length_drop]
      have m1 : Mild (l.take ((l.length + 1) / 2)) := hm.sub fun x hx => List.mem_of_mem_take hx
      have m2 : Mild (l.drop ((l.length + 1) / 2)) := hm.sub fun x hx => List.mem_of_mem_drop hx
      have b1 := balV_len d (l.take ((l.length + 1) / 2)) (by omega) (by omega) (by omega)
      have b2 := balV_len d (l.drop ((l.length + 1) / 2)) (by omega) (by omega) (by omega)
      have c1 := lenB_le (l.take ((l.length + 1) / 2)).length
      have c2 := lenB_le (l.drop ((l.length + 1) / 2)).length
      have b3 := balV_len (d + 1) l h0 h1 h6
      have c3 := lenB_le l.length
      unfold balV at b3
      rw [if_neg h] at b3
      refine Ev.congr (fun k => by rw [P.impl_tree_value.f]) (Ev.bind (ih (l.take ((l.length + 1) / 2)) (by omega) (by omega) (by omega) m1) (Ev.bind (ih (l.drop ((l.length + 1) / 2)) (by omega) (by omega) (by omega) m2) ?_))
      refine Ev.congr (fun k => by rw [if_pos ⟨rfl, rfl⟩]) (Ev.bind (commutator _ _ (by omega) (by omega) (balV_mild d _ m1) (balV_mild d _ m2)) (Ev.congr (f := fun _ => some (comm (balV d (l.take ((l.length + 1) / 2))) (balV d (l.drop ((l.length + 1) / 2))), true)) (fun k => ?_) (Ev.now _)))
      rw [fitting]
      unfold vFit
      rw [if_pos (by have : (red (balV d (l.take ((l.length + 1) / 2)) ++ balV d (l.drop ((l.length + 1) / 2)) ++ (inv (balV d (l.take ((l.length + 1) / 2))) ++ inv (balV d (l.drop ((l.length + 1) / 2)))))).length = (comm (balV d (l.take ((l.length + 1) / 2))) (balV d (l.drop ((l.length + 1) / 2)))).length := rfl
                     omega)]
      rfl
def vBalancedWord (l : List Int) : List Int × Bool := if areN l = true then (balV 6 l, true) else ([], false)
theorem vBalancedWord_len (l : List Int) (hl : l.length ≤ 1048576) : (vBalancedWord l).1.length ≤ 1048576 := by
  unfold vBalancedWord; split
  · rename_i h
    have h1 := areN_len h
    have := balV_len 6 l h1.1 h1.2 h1.2
    have := lenB_le l.length
    dsimp only
    omega
  · simp
theorem spec_BalancedWord (l : List Int) (hl : l.length ≤ 1048576) : Ev (fun k => spec_BalancedWord.f k l) (vBalancedWord l) := by
  refine Ev.congr (fun k => by unfold spec_BalancedWord.f; rfl) (Ev.bind (l4Nails l hl) ?_)
  unfold vBalancedWord
  cases h : areN l with
  | false => simp only [Bool.false_eq_true, ↓reduceIte]; exact Ev.now _
  | true =>
    have h1 := areN_len h
    have b := balV_len 6 l h1.1 h1.2 h1.2
    have c := lenB_le l.length
    simp only [↓reduceIte]
    refine Ev.bind (l4Balanced 6 l h1.1 h1.2 h1.2 (Mild.ofN h)) (Ev.congr (f := fun _ => some (balV 6 l, true)) (fun k => ?_) (Ev.now _))
    rw [l2Short]
    unfold vFit
    rw [if_pos (by omega), Option.bind_some]
theorem impl_BalancedWord (l : List Int) (hl : l.length ≤ 1048576) : Ev (fun k => impl_BalancedWord.f k l) (vBalancedWord l) := by
  refine Ev.congr (fun k => by unfold impl_BalancedWord.f; rfl) (Ev.bind (areNails l hl) ?_)
  unfold vBalancedWord
  cases h : areN l with
  | false => simp only [Bool.false_eq_true, ↓reduceIte]; exact Ev.now _
  | true =>
    have h1 := areN_len h
    simp only [↓reduceIte]
    exact Ev.bind (balanced 6 l h1.1 h1.2 h1.2) (bal_value 6 l h1.1 h1.2 h1.2 (Mild.ofN h))
end Go.Proofs.Ytlojkjkbocfmfaa.L
