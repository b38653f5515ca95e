/- The plain words for FnExactAreConjugate: lists, what the printed functions come to. Conditions: as each lemma says. -/
import Derived.Test.YtheicbcedhfahaaPx0
import Derived.Test.YtheicbcedhfahaaPx1
import Derived.Test.YtheicbcedhfahaaPx16
import Derived.Test.YtheicbcedhfahaaPx17
import Derived.Test.YtheicbcedhfahaaPx18
import Derived.Test.YtheicbcedhfahaaPx19
import Derived.Test.YtheicbcedhfahaaPx2
import Derived.Test.YtheicbcedhfahaaPx21
import Derived.Test.YtheicbcedhfahaaPx24
import Derived.Test.YtheicbcedhfahaaPx28
import Derived.Test.YtheicbcedhfahaaPx3
import Derived.Test.YtheicbcedhfahaaPx4
import Derived.Test.YtheicbcedhfahaaPx40
import Derived.Test.YtheicbcedhfahaaWMore
import Derived.Test.YtheicbcedhfahaaWWords
namespace Go.Proofs.Ytheicbcedhfahaa.L
open Go.RowKit Go.Proofs.Ytheicbcedhfahaa.P Go.Proofs.YtheicbcedhfahaaW.PrintWords Go.Proofs.YtheicbcedhfahaaW.PrintMore
set_option linter.unusedVariables false
set_option linter.unusedSimpArgs false

theorem Ev.succ {α : Type} {g : Nat → Option α} {r : α} (h : Ev (fun k => g (k + 1)) r) : Ev g r := Ev.step (fun _ => rfl) h
theorem Ev.done {α : Type} {o : Option α} {r : α} (h : o = some r) : Ev (fun _ => o) r := ⟨0, fun _ _ => h⟩
theorem Ev.pin {α : Type} {g : Nat → Option α} {r s : α} (h : Ev g r) (e : r = s) : Ev g s := e ▸ h

theorem wr {i : Int} (h0 : -9223372036854775808 ≤ i) (h1 : i ≤ 9223372036854775807) : wrap64 i = i := by unfold wrap64; omega

theorem wf_bounds {a : Int} (h : (Lit.int .i64 a).wf = true) : -9223372036854775808 ≤ a ∧ a ≤ 9223372036854775807 := by
  simp [Lit.wf, IntKind.min, IntKind.max, IntKind.bits, IntKind.signed] at h
  omega
theorem nn1 (m : Nat) : ((1 : Int) + (m : Int) < 0) = False := by simp; omega
theorem nn2 (m n : Nat) : ((1 : Int) + (m : Int) + (n : Int) < 0) = False := by simp; omega
theorem nn3 (m n p : Nat) : ((1 : Int) + (m : Int) + (n : Int) + (p : Int) < 0) = False := by simp; omega
theorem nn4 (m n p q : Nat) : ((1 : Int) + (m : Int) + (n : Int) + (p : Int) + (q : Int) < 0) = False := by simp; omega
theorem rd_nat (l : List Int) (i : Nat) : rd l (i : Int) = l.getD i 0 := by unfold rd; simp
theorem rd_app (pre : List Int) (x : Int) (rest : List Int) : rd (pre ++ x :: rest) (pre.length : Int) = x := by
  rw [rd_nat, List.getD_eq_getElem?_getD, List.getElem?_append_right (Nat.le_refl _)]; simp
theorem rd_last (l : List Int) (h : l ≠ []) : rd l ((l.length : Int) - 1) = l.getLast h := by
  have hp : 0 < l.length := by cases l with | nil => exact absurd rfl h | cons _ _ => simp
  rw [show ((l.length : Int) - 1) = ((l.length - 1 : Nat) : Int) from by omega, rd_nat, List.getLast_eq_getElem, List.getD_eq_getElem?_getD, List.getElem?_eq_getElem (by omega)]
  rfl

/-- A list split at a place. -/
theorem split_at (l : List Int) (i : Nat) (h : i < l.length) : ∃ pre x rest, l = pre ++ x :: rest ∧ pre.length = i := by
  refine ⟨l.take i, l[i], l.drop (i + 1), ?_, by simp; omega⟩
  rw [List.getElem_cons_drop, List.take_append_drop]

/-- The marks that 'markIntS' lays. -/
def marks (n : Int) (m : Nat) : List Int := (List.range m).map (fun (j : Nat) => n + (j : Int))
theorem marks_len (n : Int) (m : Nat) : (marks n m).length = m := by simp [marks]
theorem marks_succ (n : Int) (m : Nat) : marks n (m + 1) = marks n m ++ [n + (m : Int)] := by simp [marks, List.range_succ]
theorem marks_get (n : Int) (m i : Nat) (h : i < m) : (marks n m).getD i 0 = n + (i : Int) := by
  simp [marks, List.getD_eq_getElem?_getD, h]

def isL (x : Int) : Bool := decide (x ≠ 0 ∧ -6 ≤ x ∧ x ≤ 6)
def isW (l : List Int) : Bool := decide (l.length ≤ 64) && l.all isL
theorem isW_len {l : List Int} (h : isW l = true) : l.length ≤ 64 := by unfold isW at h; simp at h; exact h.1
theorem isW_mem {l : List Int} (h : isW l = true) : ∀ x ∈ l, x ≠ 0 ∧ -6 ≤ x ∧ x ≤ 6 := by
  unfold isW at h; simp [isL] at h; exact fun x hx => h.2 x hx
theorem isL_iff (x : Int) : isL x = true ↔ x ≠ 0 ∧ -6 ≤ x ∧ x ≤ 6 := by simp [isL]

/-- Numbers far from the ends of an int. -/
def Mild (l : List Int) : Prop := ∀ x ∈ l, -4611686018427387904 ≤ x ∧ x ≤ 4611686018427387904
theorem Mild.ofW {l : List Int} (h : isW l = true) : Mild l := fun x hx => by have := isW_mem h x hx; omega
theorem Mild.nil : Mild [] := fun x hx => by simp at hx
theorem Mild.append {a b : List Int} (ha : Mild a) (hb : Mild b) : Mild (a ++ b) := fun x hx => by
  rcases List.mem_append.1 hx with h | h
  · exact ha x h
  · exact hb x h
theorem Mild.sub {a b : List Int} (ha : Mild a) (h : ∀ x ∈ b, x ∈ a) : Mild b := fun x hx => ha x (h x hx)
theorem Mild.at {l : List Int} (h : Mild l) {pre : List Int} {x : Int} {rest : List Int} (e : l = pre ++ x :: rest) : -4611686018427387904 ≤ x ∧ x ≤ 4611686018427387904 := h x (by rw [e]; simp)

/-- One letter behind a reduced list. -/
def red1 (acc : List Int) (x : Int) : List Int := if acc.getLast? = some (-x) then acc.dropLast else acc ++ [x]
/-- What letters are reduced to. -/
def redF (acc l : List Int) : List Int := l.foldl red1 acc
def red (l : List Int) : List Int := redF [] l
theorem red1_mem {acc : List Int} {x y : Int} (h : y ∈ red1 acc x) : y ∈ acc ∨ y = x := by
  unfold red1 at h
  split at h
  · exact .inl (List.dropLast_subset _ h)
  · simpa using h
theorem redF_mem {l acc : List Int} {y : Int} (h : y ∈ redF acc l) : y ∈ acc ∨ y ∈ l := by
  induction l generalizing acc with
  | nil => exact .inl h
  | cons x l ih =>
    rcases ih (acc := red1 acc x) h with h | h
    · rcases red1_mem h with h | h
      · exact .inl h
      · exact .inr (by simp [h])
    · exact .inr (by simp [h])
theorem red_mem {l : List Int} {y : Int} (h : y ∈ red l) : y ∈ l := by
  rcases redF_mem h with h | h
  · simp at h
  · exact h
theorem red1_len (acc : List Int) (x : Int) : (red1 acc x).length ≤ acc.length + 1 := by
  unfold red1; split <;> simp; omega
theorem redF_len (l acc : List Int) : (redF acc l).length ≤ acc.length + l.length := by
  induction l generalizing acc with
  | nil => simp [redF]
  | cons x l ih =>
    have h1 := ih (red1 acc x); have h2 := red1_len acc x
    simp only [redF, List.foldl_cons, List.length_cons] at h1 ⊢
    omega
theorem red_len (l : List Int) : (red l).length ≤ l.length := by have := redF_len l []; simpa [red] using this
theorem Mild.red {l : List Int} (h : Mild l) : Mild (red l) := h.sub fun _ hx => red_mem hx

/-- Is a list reduced? -/
def isRed : List Int → Bool
  | [] => true
  | [_] => true
  | x :: y :: l => !(y == -x) && isRed (y :: l)

/-- The inverse of a list of letters. -/
def inv (l : List Int) : List Int := l.reverse.map fun x => -x
theorem inv_len (l : List Int) : (inv l).length = l.length := by simp [inv]
theorem inv_mem {l : List Int} {y : Int} (h : y ∈ inv l) : -y ∈ l := by
  simp [inv] at h
  obtain ⟨a, ha, rfl⟩ := h
  simpa using ha
theorem Mild.inv {l : List Int} (h : Mild l) : Mild (inv l) := fun y hy => by have := h _ (inv_mem hy); omega
theorem inv_snoc (l : List Int) (x : Int) : inv (l ++ [x]) = -x :: inv l := by simp [inv]
theorem inv_cons (l : List Int) (x : Int) : inv (x :: l) = inv l ++ [-x] := by simp [inv]
theorem inv_append (a b : List Int) : inv (a ++ b) = inv b ++ inv a := by simp [inv]
theorem inv_inv (l : List Int) : inv (inv l) = l := by
  induction l with
  | nil => rfl
  | cons x l ih => rw [inv_cons, inv_snoc, ih, Int.neg_neg]

theorem toIntS_round (l : List Int) (hl : l.length ≤ 1048576) : ∀ (d i : Nat) (acc : List Int), i ≤ l.length → l.length - i = d → acc.length = l.length → acc.take i = l.take i →
    Ev (fun k => laws_toIntS.l0 k l acc (i : Int)) l := by
  intro d
  induction d with
  | zero =>
    intro i acc hi hd ha ht
    refine Ev.succ ?_
    have he : acc = l := by
      rw [show i = l.length from by omega] at ht
      rw [List.take_length] at ht
      rw [← ht, List.take_of_length_le (by omega)]
    refine Ev.congr (f := fun _ => some l) (fun k => ?_) (Ev.now _)
    simp only [laws_toIntS.l0]; rw [if_neg (by omega), he]
  | succ d ih =>
    intro i acc hi hd ha ht
    refine Ev.succ ?_
    have hlt : i < l.length := by omega
    have h := ih (i + 1) (acc.set i (l.getD i 0)) (by omega) (by omega) (by simp [ha]) (by
      rw [List.take_add_one, List.take_add_one, List.take_set_of_le (Nat.le_refl _), ht, List.getElem?_set_self (by omega), List.getD_eq_getElem?_getD, List.getElem?_eq_getElem hlt]
      rfl)
    refine Ev.congr (fun k => ?_) h
    simp only [laws_toIntS.l0]
    rw [if_pos (by omega), if_pos (by omega), if_pos (by omega), rd_nat, wr (by omega) (by omega), Int.toNat_natCast]
    rfl
theorem toIntS (l : List Int) (hl : l.length ≤ 1048576) : Ev (fun k => laws_toIntS.f k l) l := by
  refine Ev.congr (fun k => ?_) (toIntS_round l hl l.length 0 (List.replicate l.length 0) (by omega) (by omega) (by simp) (by simp))
  unfold laws_toIntS.f
  rw [if_pos (by omega), if_pos (by simp; omega), Int.toNat_natCast]
  rfl
theorem eqIntS_round (a b : List Int) (hl : a.length ≤ 4611686018427387904) (hab : a.length = b.length) : ∀ (d i : Nat), i ≤ a.length → a.length - i = d →
    Ev (fun k => laws_eqIntS.l0 k a b (i : Int)) (decide (a.drop i = b.drop i)) := by
  intro d
  induction d with
  | zero =>
    intro i hi hd
    refine Ev.succ ?_
    refine Ev.congr (f := fun _ => some true) (fun k => ?_) (Ev.pin (Ev.now _) ?_)
    · simp only [laws_eqIntS.l0]; rw [if_neg (by omega)]
    · rw [List.drop_of_length_le (by omega), List.drop_of_length_le (by omega)]; simp
  | succ d ih =>
    intro i hi hd
    refine Ev.succ ?_
    have hlt : i < a.length := by omega
    have hltb : i < b.length := by omega
    by_cases e : a.getD i 0 = b.getD i 0
    · have h := ih (i + 1) (by omega) (by omega)
      refine Ev.congr (fun k => ?_) (Ev.pin h ?_)
      · simp only [laws_eqIntS.l0]
        rw [if_pos (by omega), if_pos (by omega), if_pos (by omega), rd_nat, rd_nat, if_pos e, wr (by omega) (by omega)]
        rfl
      · simp only [List.getD_eq_getElem?_getD, List.getElem?_eq_getElem hlt, List.getElem?_eq_getElem hltb, Option.getD_some] at e
        rw [List.drop_eq_getElem_cons hlt, List.drop_eq_getElem_cons hltb, e]
        simp only [List.cons.injEq, true_and]
    · refine Ev.congr (f := fun _ => some false) (fun k => ?_) (Ev.pin (Ev.now _) ?_)
      · simp only [laws_eqIntS.l0]
        rw [if_pos (by omega), if_pos (by omega), if_pos (by omega), rd_nat, rd_nat, if_neg e]
      · simp only [List.getD_eq_getElem?_getD, List.getElem?_eq_getElem hlt, List.getElem?_eq_getElem hltb, Option.getD_some] at e
        refine (decide_eq_false fun h => e ?_).symm
        rw [List.drop_eq_getElem_cons hlt, List.drop_eq_getElem_cons hltb] at h
        exact (List.cons.inj h).1
theorem eqIntS (a b : List Int) (hl : a.length ≤ 4611686018427387904) : Ev (fun k => laws_eqIntS.f k a b) (decide (a = b)) := by
  by_cases hab : a.length = b.length
  · refine Ev.congr (fun k => ?_) (eqIntS_round a b hl hab a.length 0 (by omega) (by omega))
    unfold laws_eqIntS.f
    rw [if_pos (by omega)]
    rfl
  · refine Ev.congr (f := fun _ => some false) (fun k => ?_) (Ev.pin (Ev.now _) ?_)
    · unfold laws_eqIntS.f
      rw [if_neg (by omega)]
    · have : a ≠ b := fun h => hab (by rw [h])
      simp [this]
theorem eqIntS_yes (a : List Int) (hl : a.length ≤ 4611686018427387904) : Ev (fun k => laws_eqIntS.f k a a) true := Ev.pin (eqIntS a a hl) (by simp)

theorem rdOf_get (l : List ByteArray) (i : Nat) (h : i < l.length) : rdOf ByteArray.empty l (i : Int) = l[i] := by
  unfold rdOf; simp [List.getD_eq_getElem?_getD, h]
theorem rdOf_nat (l : List ByteArray) (i : Nat) : rdOf ByteArray.empty l (i : Int) = l.getD i ByteArray.empty := by
  unfold rdOf; simp
theorem l2Letter (x : Int) : spec_l2Letter.f x = some (isL x) := by
  unfold spec_l2Letter.f spec_l1In.f isL
  by_cases h0 : x = 0
  · simp [h0]
  · by_cases h1 : x ≥ -6
    · simp [h0, h1]
    · simp [h0, h1]
theorem l2Word_round (l : List Int) (hl : l.length ≤ 4611686018427387904) : ∀ (d i : Nat), i ≤ l.length → l.length - i = d →
    Ev (fun k => spec_l2Word.l0 k l (i : Int)) (decide (l.length ≤ 64) && (l.drop i).all isL) := by
  intro d
  induction d with
  | zero =>
    intro i hi hd
    refine Ev.succ (Ev.congr (f := fun k => spec_l2Word.j1 k l (i : Int) false) (fun k => ?_) (Ev.succ ?_))
    · simp only [spec_l2Word.l0]; rw [if_neg (by omega)]
    · refine Ev.congr (f := fun _ => some (decide ((l.length : Int) ≤ 64))) (fun k => ?_) (Ev.pin (Ev.now _) ?_)
      · simp only [spec_l2Word.j1]; rw [if_neg (by simp)]
      · rw [List.drop_of_length_le (by omega)]; simp; omega
  | succ d ih =>
    intro i hi hd
    have hlt : i < l.length := by omega
    by_cases h64 : i ≤ 64
    · refine Ev.succ (Ev.congr (f := fun k => spec_l2Word.j1 k l (i : Int) true) (fun k => ?_) (Ev.succ ?_))
      · simp only [spec_l2Word.l0]; rw [if_pos (by omega), show decide ((i : Int) ≤ 64) = true from by simp; omega]
      · have hx : l.drop i = l[i] :: l.drop (i + 1) := List.drop_eq_getElem_cons hlt
        have hg : rd l (i : Int) = l[i] := by rw [rd_nat, List.getD_eq_getElem?_getD, List.getElem?_eq_getElem hlt]; rfl
        rw [hx, List.all_cons]
        cases hL : isL l[i] with
        | true =>
          refine Ev.congr (fun k => ?_) (Ev.pin (ih (i + 1) (by omega) (by omega)) (by simp))
          rw [spec_l2Word.j1, if_pos rfl, if_pos (by omega), if_pos (by omega), hg, l2Letter, hL, Option.bind_some, if_pos rfl, wr (by omega) (by omega)]
          rfl
        | false =>
          refine Ev.congr (f := fun _ => some false) (fun k => ?_) (Ev.pin (Ev.now _) (by simp))
          rw [spec_l2Word.j1, if_pos rfl, if_pos (by omega), if_pos (by omega), hg, l2Letter, hL, Option.bind_some, if_neg (by simp)]
    · refine Ev.succ (Ev.congr (f := fun k => spec_l2Word.j1 k l (i : Int) false) (fun k => ?_) (Ev.succ ?_))
      · simp only [spec_l2Word.l0]; rw [if_pos (by omega), show decide ((i : Int) ≤ 64) = false from by simp; omega]
      · refine Ev.congr (f := fun _ => some (decide ((l.length : Int) ≤ 64))) (fun k => ?_) (Ev.pin (Ev.now _) ?_)
        · simp only [spec_l2Word.j1]; rw [if_neg (by simp)]
        · rw [decide_eq_false (by omega), decide_eq_false (by omega)]; rfl
theorem l2Word (l : List Int) (hl : l.length ≤ 4611686018427387904) : Ev (fun k => spec_l2Word.f k l) (isW l) :=
  Ev.congr (fun k => by unfold spec_l2Word.f; rfl) (Ev.pin (l2Word_round l hl l.length 0 (by omega) (by omega)) (by simp [isW]))
theorem l2Reduce_round (l : List Int) (hl : l.length ≤ 1048576) (hm : Mild l) : ∀ (d i : Nat) (acc : List Int), i ≤ l.length → l.length - i = d → acc.length ≤ i →
    Ev (fun k => spec_l2Reduce.l0 k l acc (i : Int)) (redF acc (l.drop i)) := by
  intro d
  induction d with
  | zero =>
    intro i acc hi hd ha
    refine Ev.succ (Ev.congr (f := fun _ => some acc) (fun k => ?_) (Ev.pin (Ev.now _) ?_))
    · simp only [spec_l2Reduce.l0]; rw [if_neg (by omega)]
    · rw [List.drop_of_length_le (by omega)]; rfl
  | succ d ih =>
    intro i acc hi hd ha
    have hlt : i < l.length := by omega
    have hg : rd l (i : Int) = l[i] := by rw [rd_nat, List.getD_eq_getElem?_getD, List.getElem?_eq_getElem hlt]; rfl
    have hb := hm l[i] (List.getElem_mem hlt)
    rw [List.drop_eq_getElem_cons hlt]
    have h := ih (i + 1) (red1 acc l[i]) (by omega) (by omega) (by have := red1_len acc l[i]; omega)
    refine Ev.succ (Ev.congr (fun k => ?_) (Ev.pin h rfl))
    simp only [spec_l2Reduce.l0]
    rw [if_pos (by omega)]
    by_cases h0 : acc = []
    · subst h0
      rw [if_neg (by simp), if_pos (by omega), if_pos (by simp), hg, wr (by omega) (by omega)]
      rfl
    · have hp : 0 < acc.length := List.length_pos_iff.2 h0
      rw [if_pos (by omega), wr (by omega) (by omega), if_pos (by omega), if_pos (by omega), if_pos (by omega), hg, rd_last acc h0, wr (i := -l[i]) (by omega) (by omega)]
      by_cases e : acc.getLast h0 = -l[i]
      · rw [if_pos e, if_pos (by omega), wr (by omega) (by omega), show ((acc.length : Int) - 1).toNat = acc.length - 1 from by omega, ← List.dropLast_eq_take]
        have : red1 acc l[i] = acc.dropLast := by unfold red1; rw [if_pos (by rw [List.getLast?_eq_some_getLast h0, e])]
        rw [this]; rfl
      · rw [if_neg e, if_pos (by omega), wr (by omega) (by omega)]
        have : red1 acc l[i] = acc ++ [l[i]] := by unfold red1; rw [if_neg (by rw [List.getLast?_eq_some_getLast h0]; simpa using e)]
        rw [this]; rfl
theorem l2Reduce (l : List Int) (hl : l.length ≤ 1048576) (hm : Mild l) : Ev (fun k => spec_l2Reduce.f k l) (red l) :=
  Ev.congr (fun k => by unfold spec_l2Reduce.f; rfl) (Ev.pin (l2Reduce_round l hl hm l.length 0 [] (by omega) (by omega) (by simp)) (by simp [red]))
theorem reduced_round (l : List Int) (hl : l.length ≤ 1048576) (hm : Mild l) : ∀ (d i : Nat) (acc : List Int), i ≤ l.length → l.length - i = d → acc.length ≤ i →
    Ev (fun k => impl_reduced.l0 k acc l (l.length : Int) (i : Int)) (redF acc (l.drop i)) := by
  intro d
  induction d with
  | zero =>
    intro i acc hi hd ha
    refine Ev.succ (Ev.congr (f := fun _ => some acc) (fun k => ?_) (Ev.pin (Ev.now _) ?_))
    · simp only [impl_reduced.l0]; rw [if_neg (by omega)]
    · rw [List.drop_of_length_le (by omega)]; rfl
  | succ d ih =>
    intro i acc hi hd ha
    have hlt : i < l.length := by omega
    have hg : rd l (i : Int) = l[i] := by rw [rd_nat, List.getD_eq_getElem?_getD, List.getElem?_eq_getElem hlt]; rfl
    have hb := hm l[i] (List.getElem_mem hlt)
    rw [List.drop_eq_getElem_cons hlt]
    have h := ih (i + 1) (red1 acc l[i]) (by omega) (by omega) (by have := red1_len acc l[i]; omega)
    refine Ev.succ (Ev.congr (fun k => ?_) (Ev.pin h rfl))
    simp only [impl_reduced.l0]
    rw [if_pos (by omega), if_pos (by omega), if_pos (by omega)]
    by_cases h0 : acc = []
    · subst h0
      rw [if_neg (by rw [wr (by simp) (by simp)]; simp), if_pos (by simp), hg, wr (by omega) (by omega)]
      rfl
    · have hp : 0 < acc.length := List.length_pos_iff.2 h0
      rw [wr (i := (acc.length : Int) - 1) (by omega) (by omega), if_pos (by omega), if_pos (by omega), if_pos (by omega), hg, rd_last acc h0, wr (i := -l[i]) (by omega) (by omega)]
      by_cases e : acc.getLast h0 = -l[i]
      · rw [if_pos e, if_pos (by omega), wr (by omega) (by omega), show ((acc.length : Int) - 1).toNat = acc.length - 1 from by omega, ← List.dropLast_eq_take]
        have : red1 acc l[i] = acc.dropLast := by unfold red1; rw [if_pos (by rw [List.getLast?_eq_some_getLast h0, e])]
        rw [this]; rfl
      · rw [if_neg e, if_pos (by omega), wr (by omega) (by omega)]
        have : red1 acc l[i] = acc ++ [l[i]] := by unfold red1; rw [if_neg (by rw [List.getLast?_eq_some_getLast h0]; simpa using e)]
        rw [this]; rfl
theorem reduced (l : List Int) (hl : l.length ≤ 1048576) (hm : Mild l) : Ev (fun k => impl_reduced.f k l) (red l) :=
  Ev.congr (fun k => by unfold impl_reduced.f; rfl) (Ev.pin (reduced_round l hl hm l.length 0 [] (by omega) (by omega) (by simp)) (by simp [red]))

theorem rd_get (l : List Int) (i : Nat) (h : i < l.length) : rd l (i : Int) = l[i] := by
  rw [rd_nat, List.getD_eq_getElem?_getD, List.getElem?_eq_getElem h]; rfl

/-! reduced or not -/
theorem red1_snoc {acc : List Int} {x a : Int} (h : acc.getLast? = some a) (he : a ≠ -x) : red1 acc x = acc ++ [x] := by
  unfold red1; rw [if_neg (by rw [h]; simpa using he)]
theorem redF_full (l : List Int) : ∀ (acc : List Int) (a : Int), acc.getLast? = some a → ((redF acc l).length = acc.length + l.length ↔ isRed (a :: l) = true) := by
  induction l with
  | nil => intro acc a h; simp [redF, isRed]
  | cons x l ih =>
    intro acc a h
    by_cases e : a = -x
    · have h1 : red1 acc x = acc.dropLast := by unfold red1; rw [if_pos (by rw [h, e])]
      have h2 := redF_len l (acc.dropLast)
      have h3 : redF acc (x :: l) = redF acc.dropLast l := by simp only [redF, List.foldl_cons, h1]
      have hx : (x == -a) = true := by simp; omega
      rw [h3]
      simp only [isRed, hx, Bool.not_true, Bool.false_and, List.length_cons, Bool.false_eq_true, iff_false]
      simp at h2
      omega
    · have h1 := red1_snoc h e
      have h3 : redF acc (x :: l) = redF (acc ++ [x]) l := by simp only [redF, List.foldl_cons, h1]
      have hx : (x == -a) = false := by simp; omega
      have h4 := ih (acc ++ [x]) x (by simp)
      rw [h3]
      simp only [isRed, hx, Bool.not_false, Bool.true_and]
      rw [← h4]
      simp
      omega
theorem isRed_iff (l : List Int) : ((red l).length = l.length) ↔ isRed l = true := by
  cases l with
  | nil => simp [red, redF, isRed]
  | cons x l =>
    have h := redF_full l [x] x rfl
    have : red (x :: l) = redF [x] l := by simp [red, redF, red1]
    rw [this, ← h]
    simp
    omega
theorem isRed_eq (l : List Int) : (((red l).length : Int) == (l.length : Int)) = isRed l := by
  have h := isRed_iff l
  cases hb : isRed l with
  | true =>
    have h2 : (red l).length = l.length := h.2 hb
    rw [beq_iff_eq]; omega
  | false =>
    have h2 : ¬ ((red l).length = l.length) := by rw [h, hb]; simp
    rw [beq_eq_false_iff_ne]; omega

/-! nails -/
def nl (x : Int) : Int := if 0 ≤ x then x else -x
def nbit (x : Int) : Int := shl .i64 1 (nl x - 1)
def nailsV (l : List Int) : Int := l.foldl (fun s x => Go.bits .or .i64 s (nbit x)) 0
theorem isW_nz {l : List Int} (h : isW l = true) : ∀ x ∈ l, x ≠ 0 := fun x hx => (isW_mem h x hx).1
/-! texts -/
theorem snums_append (a b : List Int) : strOfNums (a ++ b) = strOfNums a ++ strOfNums b := by
  unfold strOfNums; apply ByteArray.ext; simp
theorem snums_size (a : List Int) : (strOfNums a).size = a.length := by unfold strOfNums; simp [ByteArray.size]
def chN (x : Int) : Int := if x > 0 then 96 + x else 64 - x
def textV (l : List Int) : ByteArray := strOfNums (l.map chN)
/-! texts read -/
def letV (c : Int) : Int := if 97 ≤ c ∧ c < 103 then c - 96 else if 65 ≤ c ∧ c < 71 then 64 - c else 0
theorem all_no {c : Int} (r : List Int) {α : Type} (a b : α) (h : letV c = 0) : (if (c :: r).all (fun c => decide (letV c ≠ 0)) = true then a else b) = b := if_neg (by simp [h])
theorem all_yes {c : Int} (r : List Int) (h : letV c ≠ 0) : (c :: r).all (fun c => decide (letV c ≠ 0)) = r.all (fun c => decide (letV c ≠ 0)) := by simp [h]
def vParse (l : List Int) : List Int × Bool := if l.length ≤ 64 ∧ l.all (fun c => decide (letV c ≠ 0)) = true then (l.map letV, true) else ([], false)
theorem bt_get (s : ByteArray) (i : Nat) (h : i < s.size) : bt s (i : Int) = (bytesOf s)[i]'(by rw [bytesOf_length]; exact h) := by
  rw [← rd_bytesOf, rd_get _ _ (by rw [bytesOf_length]; exact h)]
theorem bytes_range (s : ByteArray) : ∀ c ∈ bytesOf s, 0 ≤ c ∧ c ≤ 255 := by
  intro c hc
  unfold bytesOf at hc
  obtain ⟨b, _, rfl⟩ := List.mem_map.1 hc
  have := b.toNat_lt
  omega
def vFit (l : List Int) : List Int × Bool := if l.length ≤ 64 then (l, true) else ([], false)
theorem fitting (l : List Int) : impl_fitting.f l = some (vFit l) := by
  unfold impl_fitting.f vFit
  by_cases h : l.length ≤ 64
  · rw [if_neg (by omega), if_pos h]
  · rw [if_pos (by omega), if_neg h]

/-- No two neighbours are inverse. -/
def RedS (acc : List Int) : Prop := ∀ p x y q, acc = p ++ x :: y :: q → x ≠ -y
theorem RedS.nil : RedS [] := fun p x y q h => by
  have := congrArg List.length h; simp at this
theorem RedS.dropLast {acc : List Int} (h : RedS acc) : RedS acc.dropLast := fun p x y q e => by
  by_cases h0 : acc = []
  · subst h0; exact absurd e (by simp)
  · refine h p x y (q ++ [acc.getLast h0]) ?_
    have h3 := List.dropLast_concat_getLast h0
    generalize acc.getLast h0 = z at *
    rw [e] at h3
    rw [← h3]; simp
theorem RedS.snoc {acc : List Int} {x : Int} (h : RedS acc) (hx : acc.getLast? ≠ some (-x)) : RedS (acc ++ [x]) := fun p a b q e => by
  rcases List.eq_nil_or_concat q with rfl | ⟨q', z, rfl⟩
  · have e2 : acc ++ [x] = (p ++ [a]) ++ [b] := by rw [e]; simp
    obtain ⟨e3, e4⟩ := List.append_inj' e2 rfl
    have e5 : x = b := by simpa using e4
    intro hab
    apply hx
    rw [e3, e5, ← hab]; simp
  · have e2 : acc ++ [x] = (p ++ a :: b :: q') ++ [z] := by rw [e]; simp
    obtain ⟨e3, _⟩ := List.append_inj' e2 rfl
    exact h p a b q' e3
theorem RedS.red1 {acc : List Int} {x : Int} (h : RedS acc) : RedS (red1 acc x) := by
  unfold L.red1
  split
  · exact h.dropLast
  · exact h.snoc (by assumption)
theorem RedS.redF {l : List Int} : ∀ {acc : List Int}, RedS acc → RedS (redF acc l) := by
  induction l with
  | nil => intro acc h; exact h
  | cons x l ih => intro acc h; exact ih h.red1
theorem RedS.red (l : List Int) : RedS (red l) := RedS.redF RedS.nil
theorem red1_cancel {acc : List Int} (x : Int) (h : RedS acc) : red1 (red1 acc x) (-x) = acc := by
  by_cases e : acc.getLast? = some (-x)
  · have h0 : acc ≠ [] := by rintro rfl; simp at e
    have hl : acc.dropLast ++ [-x] = acc := by
      have := List.dropLast_concat_getLast h0
      rw [List.getLast?_eq_some_getLast h0] at e
      rw [← Option.some.inj e]; exact this
    have h1 : red1 acc x = acc.dropLast := by unfold red1; rw [if_pos e]
    rw [h1]
    unfold red1
    rw [if_neg, hl]
    intro e2
    by_cases h00 : acc.dropLast = []
    · rw [h00] at e2; simp at e2
    · have hl2 := List.dropLast_concat_getLast h00
      rw [List.getLast?_eq_some_getLast h00] at e2
      have hz := Option.some.inj e2
      generalize acc.dropLast.getLast h00 = z at *
      refine h acc.dropLast.dropLast z (-x) [] ?_ (by rw [hz])
      have h7 : acc.dropLast.dropLast ++ [z] ++ [-x] = acc := by rw [hl2]; exact hl
      simpa using h7.symm
  · have h1 : red1 acc x = acc ++ [x] := by unfold red1; rw [if_neg e]
    rw [h1]
    unfold red1
    rw [if_pos (by simp)]
    simp
theorem redF_snoc (acc l : List Int) (x : Int) : redF acc (l ++ [x]) = red1 (redF acc l) x := by simp [redF]
theorem redF_append (acc a b : List Int) : redF acc (a ++ b) = redF (redF acc a) b := by simp [redF]
theorem red_snoc (l : List Int) (x : Int) : red (l ++ [x]) = red1 (red l) x := redF_snoc [] l x
theorem redF_red {acc : List Int} (h : RedS acc) (l : List Int) : redF acc (red l) = redF acc l := by
  suffices H : ∀ m : List Int, redF acc (red m.reverse) = redF acc m.reverse by simpa using H l.reverse
  intro m
  induction m with
  | nil => rfl
  | cons x m ih =>
    rw [List.reverse_cons, red_snoc, redF_snoc, ← ih]
    by_cases e : (red m.reverse).getLast? = some (-x)
    · have h0 : red m.reverse ≠ [] := by intro h0; rw [h0] at e; simp at e
      have hl : (red m.reverse).dropLast ++ [-x] = red m.reverse := by
        have := List.dropLast_concat_getLast h0
        rw [List.getLast?_eq_some_getLast h0] at e
        rw [← Option.some.inj e]; exact this
      have h1 : red1 (red m.reverse) x = (red m.reverse).dropLast := by unfold red1; rw [if_pos e]
      rw [h1]
      conv => rhs; rw [← hl]
      rw [redF_snoc]
      have := red1_cancel (-x) (RedS.redF (l := (red m.reverse).dropLast) h)
      rw [Int.neg_neg] at this
      exact this.symm
    · have h1 : red1 (red m.reverse) x = red m.reverse ++ [x] := by unfold red1; rw [if_neg e]
      rw [h1, redF_snoc]
theorem red_red (l : List Int) : red (red l) = red l := redF_red RedS.nil l
theorem red_append (a b : List Int) : red (a ++ b) = redF (red a) b := redF_append [] a b
theorem red_left (a b : List Int) : red (red a ++ b) = red (a ++ b) := by rw [red_append, red_red, ← red_append]
theorem red_right (a b : List Int) : red (a ++ red b) = red (a ++ b) := by rw [red_append, redF_red (RedS.red a), ← red_append]
theorem red_both (a b : List Int) : red (red a ++ red b) = red (a ++ b) := by rw [red_left, red_right]
theorem vFit_len (l : List Int) : (vFit l).1.length ≤ 64 := by unfold vFit; split <;> simp; omega

theorem l1Own (l : List Int) (h : l.length ≤ 1099511627776) : spec_l1Own.f l = some l := by
  unfold spec_l1Own.f
  rw [Option.bind_some, if_pos (by simp; omega)]; rfl
theorem rdl_get (xs : List (List Int)) (i : Nat) (h : i < xs.length) : rd_L1 xs (i : Int) = xs[i] := by
  unfold rd_L1; rw [List.getD_eq_getElem?_getD]; simp [h]
theorem flat_take (xs : List (List Int)) (i : Nat) (h : i < xs.length) : (xs.take (i + 1)).flatten = (xs.take i).flatten ++ xs[i] := by
  rw [List.take_succ_eq_append_getElem h, List.flatten_append, List.flatten_cons, List.flatten_nil, List.append_nil]
theorem flat_le (xs : List (List Int)) (i : Nat) : (xs.take i).flatten.length ≤ xs.flatten.length := by
  have : xs.flatten = (xs.take i).flatten ++ (xs.drop i).flatten := by rw [← List.flatten_append, List.take_append_drop]
  rw [this]; simp
theorem concat1 (xs : List (List Int)) (hx : xs.length ≤ 1048576) (ht : xs.flatten.length ≤ 1099511627776) : ∀ (d i : Nat), i ≤ xs.length → xs.length - i = d →
    Ev (fun k => slices_Concat_int_int.l1 k (xs.take i).flatten xs (xs.length : Int) (i : Int)) xs.flatten := by
  intro d
  induction d with
  | zero =>
    intro i hi hd
    refine Ev.succ (Ev.congr (f := fun _ => some (xs.take i).flatten) (fun k => ?_) (Ev.pin (Ev.now _) ?_))
    · rw [slices_Concat_int_int.l1, if_neg (by omega)]
    · rw [List.take_of_length_le (by omega)]
  | succ d ih =>
    intro i hi hd
    have hlt : i < xs.length := by omega
    have h1 := flat_take xs i hlt
    have h2 := flat_le xs (i + 1)
    have h3 : (xs.take i).flatten.length + xs[i].length ≤ 1099511627776 := by rw [h1] at h2; simp only [List.length_append] at h2; omega
    refine Ev.succ (Ev.congr (fun k => ?_) (Ev.pin (ih (i + 1) (by omega) (by omega)) rfl))
    rw [slices_Concat_int_int.l1, if_pos (by omega), if_pos (by omega), if_pos (by omega), rdl_get xs i hlt, if_pos (by omega), wr (by omega) (by omega), ← h1]
    rfl
theorem concat0 (xs : List (List Int)) (hx : xs.length ≤ 1048576) (ht : xs.flatten.length ≤ 1099511627776) : ∀ (d i : Nat), i ≤ xs.length → xs.length - i = d →
    Ev (fun k => slices_Concat_int_int.l0 k xs ((xs.take i).flatten.length : Int) xs (xs.length : Int) (i : Int)) xs.flatten := by
  intro d
  induction d with
  | zero =>
    intro i hi hd
    have h2 := flat_le xs i
    refine Ev.succ (Ev.congr (fun k => ?_) (Ev.pin (concat1 xs hx ht xs.length 0 (by omega) (by omega)) rfl))
    rw [slices_Concat_int_int.l0, if_neg (by omega)]
    unfold slices_Grow_int_int.f
    rw [if_pos ⟨rfl, by omega, by omega⟩]; rfl
  | succ d ih =>
    intro i hi hd
    have hlt : i < xs.length := by omega
    have h1 := flat_take xs i hlt
    have h2 := flat_le xs (i + 1)
    have h3 : (xs.take i).flatten.length + xs[i].length ≤ 1099511627776 := by rw [h1] at h2; simp only [List.length_append] at h2; omega
    refine Ev.succ (Ev.congr (fun k => ?_) (Ev.pin (ih (i + 1) (by omega) (by omega)) rfl))
    rw [slices_Concat_int_int.l0, if_pos (by omega), if_pos (by omega), if_pos (by omega), rdl_get xs i hlt, wr (by omega) (by omega), if_neg (by omega), wr (by omega) (by omega), h1, List.length_append, Int.natCast_add]
    rfl
theorem concat (xs : List (List Int)) (hx : xs.length ≤ 1048576) (ht : xs.flatten.length ≤ 1099511627776) : Ev (fun k => slices_Concat_int_int.f k xs) xs.flatten :=
  Ev.congr (fun k => by unfold slices_Concat_int_int.f; rfl) (concat0 xs hx ht xs.length 0 (by omega) (by omega))
theorem isWo_eq (l : List Int) : isWo l = isW l := by
  unfold isWo isW; congr 1; rw [Bool.eq_iff_iff]; simp [P.isL, L.isL]
theorem areWords2 (a b : List Int) : impl_areWords.f [a, b] = some (isW a && isW b) := by
  unfold impl_areWords.f; simp [isWo_eq]
theorem turned (a : List Int) (n : Int) (ha : a.length ≤ 1048576) (h0 : 0 ≤ n) (h1 : n ≤ a.length) : Ev (fun k => impl_turned.f k a n) (a.drop n.toNat ++ a.take n.toNat) := by
  refine Ev.congr (fun k => by unfold impl_turned.f; rw [if_pos h0, if_pos h1]) ?_
  exact Ev.bind (concat [a.drop n.toNat, a.take n.toNat] (by simp) (by simp only [List.flatten_cons, List.flatten_nil, List.length_append, List.length_drop, List.length_take, List.length_nil]; omega)) (Ev.pin (Ev.now _) (by simp))

/-- Nails, each once. -/
def nailsB : List Int → List Int → Bool
  | _, [] => true
  | pre, x :: r => decide (1 ≤ x ∧ x ≤ 6) && !(pre.contains x) && nailsB (pre ++ [x]) r
theorem pigeon (n : Nat) : ∀ l : List Int, l.Nodup → (∀ x ∈ l, 1 ≤ x ∧ x ≤ (n : Int)) → l.length ≤ n := by
  induction n with
  | zero =>
    intro l _ h
    cases l with
    | nil => simp
    | cons x l => have := h x (by simp); omega
  | succ n ih =>
    intro l hn h
    by_cases hm : ((n + 1 : Nat) : Int) ∈ l
    · have h1 := ih (l.erase ((n + 1 : Nat) : Int)) (hn.erase _) (fun x hx => by
        have h2 := (hn.mem_erase_iff).1 hx
        have := h x h2.2
        have := h2.1
        omega)
      rw [List.length_erase_of_mem hm] at h1
      omega
    · have := ih l hn (fun x hx => by
        have := h x hx
        have : x ≠ ((n + 1 : Nat) : Int) := fun e => hm (e ▸ hx)
        omega)
      omega
theorem nailsB_good : ∀ (r pre : List Int), nailsB pre r = true → pre.Nodup → (∀ x ∈ pre, 1 ≤ x ∧ x ≤ 6) → (pre ++ r).Nodup ∧ ∀ x ∈ pre ++ r, 1 ≤ x ∧ x ≤ 6 := by
  intro r
  induction r with
  | nil => intro pre _ h1 h2; simpa using ⟨h1, h2⟩
  | cons x r ih =>
    intro pre h h1 h2
    simp [nailsB] at h
    have := ih (pre ++ [x]) h.2 (by
      rw [List.nodup_append]
      refine ⟨h1, by simp, ?_⟩
      intro a ha b hb
      simp at hb
      rw [hb]
      intro e
      exact h.1.2 (e ▸ ha)) (by
      intro y hy
      simp at hy
      rcases hy with hy | rfl
      · exact h2 y hy
      · exact h.1.1)
    simpa using this
theorem nailsB_all {l : List Int} (h : nailsB [] l = true) : l.Nodup ∧ ∀ x ∈ l, 1 ≤ x ∧ x ≤ 6 := by simpa using nailsB_good l [] h (by simp) (by simp)
theorem nailsB_len {l : List Int} (h : nailsB [] l = true) : l.length ≤ 6 := pigeon 6 l (nailsB_all h).1 (by simpa using (nailsB_all h).2)
/-- A list of nails. -/
def areN (l : List Int) : Bool := nailsB [] l && decide (0 < l.length)
theorem areN_len {l : List Int} (h : areN l = true) : 0 < l.length ∧ l.length ≤ 6 := by
  unfold areN at h; simp at h
  exact ⟨h.2, nailsB_len h.1⟩
theorem areN_mem {l : List Int} (h : areN l = true) : ∀ x ∈ l, 1 ≤ x ∧ x ≤ 6 := by
  unfold areN at h; simp at h; exact (nailsB_all h.1).2
theorem Mild.ofN {l : List Int} (h : areN l = true) : Mild l := fun x hx => by have := areN_mem h x hx; omega
theorem snoc_take (l : List Int) (i : Nat) (h : i < l.length) : l.take (i + 1) = l.take i ++ [l[i]] := List.take_succ_eq_append_getElem h


/-- The commutator, reduced. -/
def comm (a b : List Int) : List Int := red (a ++ b ++ (inv a ++ inv b))
theorem comm_len (a b : List Int) : (comm a b).length ≤ 2 * (a.length + b.length) := by
  have h1 := red_len (a ++ b ++ (inv a ++ inv b)); have h2 := inv_len a; have h3 := inv_len b
  simp only [List.length_append] at h1; unfold comm; omega
theorem Mild.comm {a b : List Int} (ha : Mild a) (hb : Mild b) : Mild (comm a b) := ((ha.append hb).append (ha.inv.append hb.inv)).red
def leftF (acc l : List Int) : List Int := l.foldl (fun a x => comm a [x]) acc
def vLeftWord (l : List Int) : List Int × Bool := if areN l = true then vFit (leftF (l.take 1) (l.drop 1)) else ([], false)
theorem vLeftWord_len (l : List Int) (hl : l.length ≤ 1048576) : (vLeftWord l).1.length ≤ 1048576 := by
  unfold vLeftWord; split
  · have := vFit_len (leftF (l.take 1) (l.drop 1)); omega
  · simp
/-- Is a letter's nail in a set? -/
def nailIn (s x : Int) : Bool := Go.bits .and .i64 s (nbit x) != 0
def outOf (s : Int) (l : List Int) : List Int := l.filter fun x => !nailIn s x
theorem bit_at : ∀ (s : Fin 64) (n : Fin 6), (Go.bits .and .i64 (shr .i64 (s.val : Int) (n.val : Int)) 1 == 1) = (Go.bits .and .i64 (s.val : Int) (shl .i64 1 (n.val : Int)) != 0) := by decide +kernel
theorem nl_word (x : Int) (h0 : x ≠ 0) (hb : -6 ≤ x ∧ x ≤ 6) : 1 ≤ nl x ∧ nl x ≤ 6 := by unfold nl; split <;> omega
theorem outOf_mem {s : Int} {l : List Int} {x : Int} (h : x ∈ outOf s l) : x ∈ l := (List.mem_filter.1 h).1
theorem outOf_len (s : Int) (l : List Int) : (outOf s l).length ≤ l.length := List.length_filter_le _ _

def codeN (x : Int) : Int := if x > 0 then 2 * x - 2 else -2 * x - 1
theorem code_of (x : Int) (hb : -6 ≤ x ∧ x ≤ 6) : spec_l2Code.f x = some (codeN x) := by
  unfold spec_l2Code.f codeN
  by_cases h : x > 0
  · rw [if_pos h, if_pos h, wr (i := 2 * x) (by omega) (by omega), wr (by omega) (by omega)]
  · rw [if_neg h, if_neg h, wr (i := -2 * x) (by omega) (by omega), wr (by omega) (by omega)]
theorem codeN_inj {x y : Int} (hx : x ≠ 0) (hy : y ≠ 0) (h : codeN x = codeN y) : x = y := by
  unfold codeN at h; split at h <;> split at h <;> omega
def lessL : List Int → List Int → Bool
  | x :: u, y :: v => if x = y then lessL u v else decide (codeN x < codeN y)
  | _, _ => false
def lessV (u v : List Int) : Bool := if u.length = v.length then lessL u v else decide (u.length < v.length)
theorem l2Less_round (u v : List Int) (he : u.length = v.length) (hl : u.length ≤ 1048576) (hu : ∀ x ∈ u, x ≠ 0 ∧ -6 ≤ x ∧ x ≤ 6) (hv : ∀ x ∈ v, x ≠ 0 ∧ -6 ≤ x ∧ x ≤ 6) : ∀ (d i : Nat), i ≤ u.length → u.length - i = d →
    Ev (fun k => spec_l2Less.l0 k u v (i : Int)) (lessL (u.drop i) (v.drop i)) := by
  intro d
  induction d with
  | zero =>
    intro i hi hd
    refine Ev.succ (Ev.congr (f := fun _ => some false) (fun k => ?_) (Ev.pin (Ev.now _) ?_))
    · rw [spec_l2Less.l0, if_neg (by omega)]
    · rw [List.drop_of_length_le (by omega)]; rfl
  | succ d ih =>
    intro i hi hd
    have hlt : i < u.length := by omega
    have hlv : i < v.length := by omega
    have h1 := hu _ (List.getElem_mem hlt)
    have h2 := hv _ (List.getElem_mem hlv)
    rw [List.drop_eq_getElem_cons hlt, List.drop_eq_getElem_cons hlv, lessL]
    refine Ev.succ (Ev.congr (fun k => by rw [spec_l2Less.l0, if_pos (by omega), if_pos (by omega), if_pos (by omega), rd_get u i hlt, rd_get v i hlv]) ?_)
    by_cases e : u[i] = v[i]
    · rw [if_pos e]
      exact Ev.congr (fun k => by rw [if_pos e, wr (by omega) (by omega)]; rfl) (ih (i + 1) (by omega) (by omega))
    · rw [if_neg e]
      exact Ev.congr (f := fun _ => some (decide (codeN u[i] < codeN v[i]))) (fun k => by rw [if_neg e, code_of _ h1.2, code_of _ h2.2, Option.bind_some, Option.bind_some]) (Ev.now _)
theorem l2Less (u v : List Int) (hl : u.length ≤ 1048576) (hlv : v.length ≤ 1048576) (hu : ∀ x ∈ u, x ≠ 0 ∧ -6 ≤ x ∧ x ≤ 6) (hv : ∀ x ∈ v, x ≠ 0 ∧ -6 ≤ x ∧ x ≤ 6) : Ev (fun k => spec_l2Less.f k u v) (lessV u v) := by
  unfold lessV
  by_cases he : u.length = v.length
  · rw [if_pos he]
    exact Ev.congr (fun k => by unfold spec_l2Less.f; rw [if_pos (by omega)]; rfl) (l2Less_round u v he hl hu hv u.length 0 (by omega) (by omega))
  · rw [if_neg he]
    exact Ev.congr (f := fun _ => some (decide (u.length < v.length))) (fun k => by unfold spec_l2Less.f; rw [if_neg (by omega)]; refine congrArg some ?_; rw [Bool.eq_iff_iff, decide_eq_true_iff, decide_eq_true_iff]; omega) (Ev.now _)
theorem Or2 (a b : Int) : Ev (fun k => cmp_Or_int.f k [a, b]) (if a = 0 then b else a) := by
  refine Ev.congr (fun k => by unfold cmp_Or_int.f; rfl) (Ev.succ ?_)
  by_cases h : a = 0
  · subst h
    refine Ev.congr (fun k => by rw [cmp_Or_int.l0, if_pos (by simp), if_pos (by omega), if_pos (by simp), if_pos (by rfl), wr (by omega) (by omega)]) (Ev.succ ?_)
    by_cases h2 : b = 0
    · subst h2
      refine Ev.congr (fun k => by rw [cmp_Or_int.l0, if_pos (by simp), if_pos (by omega), if_pos (by simp), if_pos (by rfl), wr (by omega) (by omega)]) (Ev.succ ?_)
      exact Ev.congr (f := fun _ => some 0) (fun k => by rw [cmp_Or_int.l0, if_neg (by simp)]) (Ev.pin (Ev.now _) (by simp))
    · exact Ev.congr (f := fun _ => some b) (fun k => by rw [cmp_Or_int.l0, if_pos (by simp), if_pos (by omega), if_pos (by simp), if_neg (by simpa [rd] using h2)]; rfl) (Ev.pin (Ev.now _) (by simp))
  · exact Ev.congr (f := fun _ => some a) (fun k => by rw [cmp_Or_int.l0, if_pos (by simp), if_pos (by omega), if_pos (by simp), if_neg (by simpa [rd] using h)]; rfl) (Ev.pin (Ev.now _) (by rw [if_neg h]))
def cmpI (a b : Int) : Int := if a < b then -1 else if a > b then 1 else 0
theorem Compare (a b : Int) : cmp_Compare_int.f a b = some (cmpI a b) := by
  unfold cmp_Compare_int.f cmp_isNaN_int.f cmpI
  simp only [bne_self_eq_false, Option.bind_some, Bool.false_eq_true, ↓reduceIte]
  split
  · rfl
  · split <;> rfl
theorem rk_eq (x : Int) (h0 : x ≠ 0) (hb : -6 ≤ x ∧ x ≤ 6) : impl_compareWords_1.rk x = codeN x + 2 := by
  unfold impl_compareWords_1.rk impl_letterRank.f codeN
  by_cases h : x < 0
  · rw [if_pos h, if_neg (by omega), Option.getD_some, wr (i := -2 * x) (by omega) (by omega), wr (by omega) (by omega)]; omega
  · rw [if_neg h, if_pos (by omega), Option.getD_some, wr (by omega) (by omega)]; omega
theorem codeN_bd (x : Int) (hb : -6 ≤ x ∧ x ≤ 6) : -1 ≤ codeN x ∧ codeN x ≤ 11 := by unfold codeN; split <;> omega
/-- What the comparison of letters comes to, for lists of one length. -/
def cmpL : List Int → List Int → Int
  | x :: u, y :: v => if x = y then cmpL u v else codeN x - codeN y
  | _, _ => 0
theorem cmp1 : ∀ (u v : List Int), u.length = v.length → (∀ x ∈ u, x ≠ 0 ∧ -6 ≤ x ∧ x ≤ 6) → (∀ x ∈ v, x ≠ 0 ∧ -6 ≤ x ∧ x ≤ 6) → impl_compareWords_1.f u v = some (cmpL u v)
  | [], [], _, _, _ => rfl
  | [], _ :: _, h, _, _ => by simp at h
  | _ :: _, [], h, _, _ => by simp at h
  | x :: u, y :: v, h, hu, hv => by
    have h1 := hu x (by simp); have h2 := hv y (by simp)
    have b1 := codeN_bd x h1.2; have b2 := codeN_bd y h2.2
    have hc : impl_compareWords_1.c x y = codeN x - codeN y := by
      unfold impl_compareWords_1.c; rw [rk_eq x h1.1 h1.2, rk_eq y h2.1 h2.2, wr (by omega) (by omega)]; omega
    rw [impl_compareWords_1.cons, hc, cmpL]
    by_cases e : x = y
    · subst e
      rw [if_pos (by omega), if_pos rfl]
      exact cmp1 u v (by simpa using h) (fun x hx => hu x (by simp [hx])) (fun x hx => hv x (by simp [hx]))
    · have : ¬ codeN x - codeN y = 0 := fun h => e (codeN_inj h1.1 h2.1 (by omega))
      rw [if_neg this, if_neg e]
theorem cmp1_some : ∀ (u v : List Int), ∃ r, impl_compareWords_1.f u v = some r
  | [], [] => ⟨_, rfl⟩
  | [], _ :: _ => ⟨_, rfl⟩
  | _ :: _, [] => ⟨_, rfl⟩
  | x :: u, y :: v => by
    rw [impl_compareWords_1.cons]
    by_cases h : impl_compareWords_1.c x y = 0
    · rw [if_pos h]; exact cmp1_some u v
    · rw [if_neg h]; exact ⟨_, rfl⟩
theorem cmpL_less : ∀ (u v : List Int), decide (cmpL u v < 0) = lessL u v
  | [], [] => rfl
  | [], _ :: _ => rfl
  | _ :: _, [] => rfl
  | x :: u, y :: v => by
    rw [cmpL, lessL]
    by_cases e : x = y
    · rw [if_pos e, if_pos e]; exact cmpL_less u v
    · rw [if_neg e, if_neg e, Bool.eq_iff_iff, decide_eq_true_iff, decide_eq_true_iff]; omega
theorem compareWords (u v : List Int) (hu : ∀ x ∈ u, x ≠ 0 ∧ -6 ≤ x ∧ x ≤ 6) (hv : ∀ x ∈ v, x ≠ 0 ∧ -6 ≤ x ∧ x ≤ 6) : ∃ r : Int, Ev (fun k => impl_compareWords.f k u v) r ∧ decide (r < 0) = lessV u v := by
  obtain ⟨c, hc⟩ := cmp1_some u v
  refine ⟨if cmpI (u.length : Int) (v.length : Int) = 0 then c else cmpI (u.length : Int) (v.length : Int), ?_, ?_⟩
  · exact Ev.congr (fun k => by unfold impl_compareWords.f; rw [Compare, Option.bind_some, hc, Option.bind_some]) (Ev.bind (Or2 _ _) (Ev.now _))
  · unfold lessV
    by_cases he : u.length = v.length
    · have h1 := cmp1 u v he hu hv
      rw [hc] at h1
      have h2 : cmpI (u.length : Int) (v.length : Int) = 0 := by unfold cmpI; rw [if_neg (by omega), if_neg (by omega)]
      rw [h2, if_pos rfl, if_pos he, Option.some.inj h1, cmpL_less]
    · rw [if_neg he]
      by_cases hlt : u.length < v.length
      · have h2 : cmpI (u.length : Int) (v.length : Int) = -1 := by unfold cmpI; rw [if_pos (by omega)]
        rw [h2, if_neg (by omega), decide_eq_true hlt]; rfl
      · have h2 : cmpI (u.length : Int) (v.length : Int) = 1 := by unfold cmpI; rw [if_neg (by omega), if_pos (by omega)]
        rw [h2, if_neg (by omega), decide_eq_false hlt]; rfl
theorem nl_neg (x : Int) : nl (-x) = nl x := by unfold nl; split <;> split <;> omega
theorem nailIn_neg (s x : Int) : nailIn s (-x) = nailIn s x := by unfold nailIn nbit; rw [nl_neg]
theorem outOf_snoc (s : Int) (l : List Int) (x : Int) : outOf s (l ++ [x]) = if nailIn s x = true then outOf s l else outOf s l ++ [x] := by
  unfold outOf
  rw [List.filter_append]
  cases h : nailIn s x with
  | true => simp [h]
  | false => simp [h]
theorem red_outOf (s : Int) (l : List Int) : red (outOf s (red l)) = red (outOf s l) := by
  suffices H : ∀ m : List Int, red (outOf s (red m.reverse)) = red (outOf s m.reverse) by simpa using H l.reverse
  intro m
  induction m with
  | nil => rfl
  | cons x m ih =>
    rw [List.reverse_cons, red_snoc, outOf_snoc]
    by_cases e : (red m.reverse).getLast? = some (-x)
    · have h0 : red m.reverse ≠ [] := by intro h0; rw [h0] at e; simp at e
      have hl : (red m.reverse).dropLast ++ [-x] = red m.reverse := by
        have := List.dropLast_concat_getLast h0
        rw [List.getLast?_eq_some_getLast h0] at e
        rw [← Option.some.inj e]; exact this
      have h1 : red1 (red m.reverse) x = (red m.reverse).dropLast := by unfold red1; rw [if_pos e]
      rw [h1]
      rw [← hl, outOf_snoc, nailIn_neg] at ih
      cases hk : nailIn s x with
      | true =>
        rw [hk, if_pos rfl] at ih
        rw [if_pos rfl]; exact ih
      | false =>
        rw [hk, if_neg (by simp), red_snoc] at ih
        rw [if_neg (by simp), red_snoc, ← ih]
        have := red1_cancel (-x) (RedS.red (outOf s (red m.reverse).dropLast))
        rw [Int.neg_neg] at this
        exact this.symm
    · have h1 : red1 (red m.reverse) x = red m.reverse ++ [x] := by unfold red1; rw [if_neg e]
      rw [h1, outOf_snoc]
      cases hk : nailIn s x with
      | true => rw [if_pos rfl, if_pos rfl]; exact ih
      | false => rw [if_neg (by simp), if_neg (by simp), red_snoc, red_snoc, ih]
/-- Does a word fall for a set? -/
def fallsB (l : List Int) (s : Int) : Bool := (red (outOf s l)).isEmpty
theorem fallsB_mono (l : List Int) (a b : Int) (h : ∀ x ∈ l, nailIn a x = true → nailIn b x = true) (hf : fallsB l a = true) : fallsB l b = true := by
  have h1 : outOf b (outOf a l) = outOf b l := by
    unfold outOf
    rw [List.filter_filter]
    apply List.filter_congr
    intro x hx
    cases hb : nailIn b x with
    | true => simp
    | false =>
      cases ha : nailIn a x with
      | true => rw [h x hx ha] at hb; cases hb
      | false => rfl
  unfold fallsB at hf ⊢
  have h2 : red (outOf a l) = [] := List.isEmpty_iff.1 hf
  have h3 := red_outOf b (outOf a l)
  rw [h2, h1] at h3
  rw [← h3]; rfl
theorem and_at : ∀ (a b : Fin 64), Go.bits .and .i64 (a.val : Int) (b.val : Int) = (a.val : Int) → ∀ n : Fin 6, (Go.bits .and .i64 (a.val : Int) (shl .i64 1 (n.val : Int)) != 0) = true → (Go.bits .and .i64 (b.val : Int) (shl .i64 1 (n.val : Int)) != 0) = true := by decide +kernel
/-- For each set: does the word fall? -/
def tabOf (l : List Int) : TabB 64 := ⟨(List.range 64).map fun (s : Nat) => fallsB l (s : Int), by simp⟩

/-- The core, cut from both ends, and the word by which. -/
def coreF : Nat → List Int → List Int → List Int × List Int
  | 0, w, g => (w, g)
  | n + 1, w, g => if 1 < w.length ∧ rd w 0 = -(rd w ((w.length : Int) - 1)) then coreF n ((w.take (w.length - 1)).drop 1) (g ++ [rd w 0]) else (w, g)
def coreV (l : List Int) : List Int × List Int := coreF (red l).length (red l) []
theorem coreF_len : ∀ (n : Nat) (w g : List Int), (coreF n w g).1.length ≤ w.length ∧ (coreF n w g).2.length ≤ g.length + w.length ∧ ((∀ x ∈ (coreF n w g).1, x ∈ w) ∧ ∀ x ∈ (coreF n w g).2, x ∈ g ∨ x ∈ w)
  | 0, w, g => ⟨Nat.le_refl _, by simp [coreF], fun x hx => hx, fun x hx => .inl hx⟩
  | n + 1, w, g => by
    unfold coreF
    split
    · rename_i h
      obtain ⟨h1, h2, h3, h4⟩ := coreF_len n ((w.take (w.length - 1)).drop 1) (g ++ [rd w 0])
      have hl : ((w.take (w.length - 1)).drop 1).length = w.length - 2 := by simp; omega
      refine ⟨by omega, by have h5 := h2; rw [hl, List.length_append, List.length_singleton] at h5; omega, fun x hx => List.mem_of_mem_take (List.mem_of_mem_drop (h3 x hx)), fun x hx => ?_⟩
      rcases h4 x hx with h5 | h5
      · rcases List.mem_append.1 h5 with h6 | h6
        · exact .inl h6
        · right
          rw [List.mem_singleton] at h6
          subst h6
          rw [show (0 : Int) = ((0 : Nat) : Int) from rfl, rd_get w 0 (by omega)]; exact List.getElem_mem _
      · exact .inr (List.mem_of_mem_take (List.mem_of_mem_drop h5))
    · exact ⟨Nat.le_refl _, by simp, fun x hx => hx, fun x hx => .inl hx⟩
theorem coreV_len (l : List Int) : (coreV l).1.length ≤ l.length ∧ (coreV l).2.length ≤ l.length ∧ ((∀ x ∈ (coreV l).1, x ∈ l) ∧ ∀ x ∈ (coreV l).2, x ∈ l) := by
  obtain ⟨h1, h2, h3, h4⟩ := coreF_len (red l).length (red l) []
  have := red_len l
  exact ⟨by unfold coreV; omega, by unfold coreV; simp at h2; omega, fun x hx => red_mem (h3 x hx), fun x hx => red_mem ((h4 x hx).resolve_left (by simp))⟩
theorem l2Core_round : ∀ (n : Nat) (w g : List Int), w.length ≤ n + 1 → w.length + g.length ≤ 1048576 → Mild w → Ev (fun k => P.spec_l2Core.l0 k w g) (coreF n w g) := by
  intro n
  induction n with
  | zero => intro w g hn hl hm; exact Ev.succ (Ev.congr (f := fun _ => some (w, g)) (fun k => by rw [P.spec_l2Core.l0, if_neg (by omega), l1Own w (by omega), Option.bind_some]) (Ev.now _))
  | succ n ih =>
    intro w g hn hl hm
    unfold coreF
    by_cases h1 : 1 < w.length
    · have hx : rd w ((w.length : Int) - 1) = w[w.length - 1] := by rw [show ((w.length : Int) - 1) = ((w.length - 1 : Nat) : Int) from by omega, rd_get w _ (by omega)]
      have hb := hm _ (List.getElem_mem (show w.length - 1 < w.length by omega))
      rw [← hx] at hb
      by_cases h2 : rd w 0 = -(rd w ((w.length : Int) - 1))
      · rw [if_pos ⟨h1, h2⟩]
        refine Ev.succ (Ev.congr (fun k => by rw [P.spec_l2Core.l0, if_pos (by omega), if_pos (by omega), wr (i := (w.length : Int) - 1) (by omega) (by omega), if_pos (by omega), if_pos (by omega), wr (i := -(rd w ((w.length : Int) - 1))) (by omega) (by omega), if_pos h2, if_pos (by omega), if_pos (by omega), if_pos (by omega), show (((w.length : Int) - 1)).toNat = w.length - 1 from by omega]; rfl) (ih _ _ ?_ ?_ ?_))
        · simp; omega
        · simp; omega
        · exact hm.sub fun x hx => List.mem_of_mem_take (List.mem_of_mem_drop hx)
      · rw [if_neg (fun h => h2 h.2)]
        exact Ev.succ (Ev.congr (f := fun _ => some (w, g)) (fun k => by rw [P.spec_l2Core.l0, if_pos (by omega), if_pos (by omega), wr (i := (w.length : Int) - 1) (by omega) (by omega), if_pos (by omega), if_pos (by omega), wr (i := -(rd w ((w.length : Int) - 1))) (by omega) (by omega), if_neg h2, l1Own w (by omega), Option.bind_some]) (Ev.now _))
    · rw [if_neg (fun h => h1 h.1)]
      exact Ev.succ (Ev.congr (f := fun _ => some (w, g)) (fun k => by rw [P.spec_l2Core.l0, if_neg (by omega), l1Own w (by omega), Option.bind_some]) (Ev.now _))
theorem l2Core (l : List Int) (hl : l.length ≤ 1048576) (hm : Mild l) : Ev (fun k => P.spec_l2Core.f k l) (coreV l) := by
  have := red_len l
  exact Ev.congr (fun k => by unfold P.spec_l2Core.f; rfl) (Ev.bind (l2Reduce l hl hm) (l2Core_round (red l).length (red l) [] (by omega) (by simp; omega) hm.red))
theorem core_round : ∀ (n : Nat) (w g : List Int), w.length ≤ n + 1 → w.length + g.length ≤ 1048576 → Mild w → Ev (fun k => P.impl_core.l0 k w g ((w.length : Int) - 1)) (coreF n w g) := by
  intro n
  induction n with
  | zero => intro w g hn hl hm; exact Ev.succ (Ev.congr (f := fun _ => some (w, g)) (fun k => by rw [P.impl_core.l0, if_neg (by omega)]) (Ev.now _))
  | succ n ih =>
    intro w g hn hl hm
    unfold coreF
    by_cases h1 : 1 < w.length
    · have hx : rd w ((w.length : Int) - 1) = w[w.length - 1] := by rw [show ((w.length : Int) - 1) = ((w.length - 1 : Nat) : Int) from by omega, rd_get w _ (by omega)]
      have hb := hm _ (List.getElem_mem (show w.length - 1 < w.length by omega))
      rw [← hx] at hb
      by_cases h2 : rd w 0 = -(rd w ((w.length : Int) - 1))
      · rw [if_pos ⟨h1, h2⟩]
        have hc : ((w.take (w.length - 1)).drop 1).length = w.length - 2 := by simp; omega
        refine Ev.succ (Ev.congr (fun k => by rw [P.impl_core.l0, if_pos (by omega), if_pos (by omega), if_pos (by omega), if_pos (by omega), wr (i := -(rd w ((w.length : Int) - 1))) (by omega) (by omega), if_pos h2, if_pos (by omega), if_pos (by omega), if_pos (by omega), show (((w.length : Int) - 1)).toNat = w.length - 1 from by omega, Option.bind_some, show (1 : Int).toNat = 1 from rfl, wr (i := ((((w.take (w.length - 1)).drop 1).length : Nat) : Int) - 1) (by omega) (by omega)]) (ih _ _ ?_ ?_ ?_))
        · omega
        · rw [hc]; simp; omega
        · exact hm.sub fun x hx => List.mem_of_mem_take (List.mem_of_mem_drop hx)
      · rw [if_neg (fun h => h2 h.2)]
        exact Ev.succ (Ev.congr (f := fun _ => some (w, g)) (fun k => by rw [P.impl_core.l0, if_pos (by omega), if_pos (by omega), if_pos (by omega), if_pos (by omega), wr (i := -(rd w ((w.length : Int) - 1))) (by omega) (by omega), if_neg h2]) (Ev.now _))
    · rw [if_neg (fun h => h1 h.1)]
      exact Ev.succ (Ev.congr (f := fun _ => some (w, g)) (fun k => by rw [P.impl_core.l0, if_neg (by omega)]) (Ev.now _))
theorem core (l : List Int) (hl : l.length ≤ 1048576) (hm : Mild l) : Ev (fun k => P.impl_core.f k l) (coreV l) := by
  have := red_len l
  exact Ev.congr (fun k => by unfold P.impl_core.f; rfl) (Ev.bind (reduced l hl hm) (Ev.congr (fun k => by rw [wr (by omega) (by omega)]) (core_round (red l).length (red l) [] (by omega) (by simp; omega) hm.red)))
/-- A list turned. -/
def turnL (w : List Int) (k : Nat) : List Int := w.drop k ++ w.take k
theorem turnL_len (w : List Int) (k : Nat) (h : k ≤ w.length) : (turnL w k).length = w.length := by unfold turnL; simp; omega
theorem turnL_mem (w : List Int) (k : Nat) : ∀ x ∈ turnL w k, x ∈ w := fun x hx => by
  unfold turnL at hx
  rcases List.mem_append.1 hx with h | h
  · exact List.mem_of_mem_drop h
  · exact List.mem_of_mem_take h
/-- The least of a list and its turns from k on, d of them. -/
def leastF (w : List Int) : Nat → Nat → List Int → List Int
  | _, 0, b => b
  | k, d + 1, b => leastF w (k + 1) d (if lessV (turnL w k) b = true then turnL w k else b)
def leastV (l : List Int) : List Int := leastF (coreV l).1 0 (coreV l).1.length (coreV l).1
theorem lessL_self : ∀ u : List Int, lessL u u = false
  | [] => rfl
  | x :: u => by rw [lessL, if_pos rfl, lessL_self u]
theorem lessV_self (u : List Int) : lessV u u = false := by unfold lessV; rw [if_pos rfl, lessL_self]
theorem leastF_one (w : List Int) : leastF w 0 w.length w = leastF w 1 (w.length - 1) w := by
  cases w with
  | nil => rfl
  | cons x w =>
    rw [show (x :: w).length = w.length + 1 from rfl, leastF]
    rw [show turnL (x :: w) 0 = x :: w from by simp [turnL], lessV_self]
    simp
theorem leastF_len (w : List Int) : ∀ (d k : Nat) (b : List Int), k + d ≤ w.length → b.length = w.length → (∀ x ∈ b, x ∈ w) → (leastF w k d b).length = w.length ∧ ∀ x ∈ leastF w k d b, x ∈ w
  | 0, k, b, _, hb, hm => ⟨hb, hm⟩
  | d + 1, k, b, hk, hb, hm => by
    rw [leastF]
    split
    · exact leastF_len w d (k + 1) _ (by omega) (turnL_len w k (by omega)) (turnL_mem w k)
    · exact leastF_len w d (k + 1) _ (by omega) hb hm
theorem leastV_len (l : List Int) : (leastV l).length = (coreV l).1.length ∧ ∀ x ∈ leastV l, x ∈ l := by
  have := leastF_len (coreV l).1 (coreV l).1.length 0 (coreV l).1 (by omega) rfl (fun x hx => hx)
  exact ⟨this.1, fun x hx => (coreV_len l).2.2.1 x (this.2 x hx)⟩
theorem l2Turn (w : List Int) (k : Nat) (hw : w.length ≤ 1048576) (hk : k ≤ w.length) : P.spec_l2Turn.f w (k : Int) = some (turnL w k) := by
  unfold P.spec_l2Turn.f
  rw [if_pos (by omega), if_pos (by omega), l1Own _ (by simp; omega), Option.bind_some, if_pos (by simp; omega)]
  rfl
theorem l2Least_round (w : List Int) (hw : w.length ≤ 1048576) (hL : ∀ x ∈ w, x ≠ 0 ∧ -6 ≤ x ∧ x ≤ 6) : ∀ (d k0 : Nat) (b : List Int), k0 + d = w.length → b.length = w.length → (∀ x ∈ b, x ∈ w) → Ev (fun k => P.spec_l2Least.l0 k w b (k0 : Int)) (leastF w k0 d b) := by
  intro d
  induction d with
  | zero => intro k0 b hk hb hm; exact Ev.succ (Ev.congr (f := fun _ => some b) (fun k => by rw [P.spec_l2Least.l0, if_neg (by omega), l1Own b (by omega), Option.bind_some]) (Ev.now _))
  | succ d ih =>
    intro k0 b hk hb hm
    have ht := turnL_len w k0 (by omega)
    refine Ev.succ (Ev.congr (fun k => by rw [P.spec_l2Least.l0, if_pos (by omega), l2Turn w k0 hw (by omega), Option.bind_some]) ?_)
    refine Ev.bind (l2Less (turnL w k0) b (by omega) (by omega) (fun x hx => hL x (turnL_mem w k0 x hx)) (fun x hx => hL x (hm x hx))) ?_
    rw [leastF]
    cases h : lessV (turnL w k0) b with
    | true => exact Ev.congr (fun k => by rw [if_pos rfl, wr (by omega) (by omega)]; rfl) (Ev.pin (ih (k0 + 1) (turnL w k0) (by omega) ht (turnL_mem w k0)) (by simp))
    | false => exact Ev.congr (fun k => by rw [if_neg (by simp), wr (by omega) (by omega)]; rfl) (Ev.pin (ih (k0 + 1) b (by omega) hb hm) (by simp))
theorem l2Least (l : List Int) (hl : l.length ≤ 1048576) (hL : ∀ x ∈ l, x ≠ 0 ∧ -6 ≤ x ∧ x ≤ 6) : Ev (fun k => P.spec_l2Least.f k l) (leastV l) := by
  have hc := coreV_len l
  refine Ev.congr (fun k => by unfold P.spec_l2Least.f; rfl) (Ev.bind (l2Core l hl (fun x hx => by have := hL x hx; omega)) ?_)
  unfold leastV
  by_cases h0 : (coreV l).1.length = 0
  · rw [h0, leastF]
    exact Ev.succ (Ev.congr (f := fun _ => some (coreV l).1) (fun k => by rw [P.spec_l2Least.l0, if_neg (by omega), l1Own _ (by omega), Option.bind_some]) (Ev.now _))
  · rw [leastF_one]
    exact l2Least_round _ (by omega) (fun x hx => hL x (hc.2.2.1 x hx)) _ 1 _ (by omega) rfl (fun x hx => hx)
theorem leastTurn_round (w : List Int) (hw : w.length ≤ 1048576) (hL : ∀ x ∈ w, x ≠ 0 ∧ -6 ≤ x ∧ x ≤ 6) : ∀ (d k0 : Nat) (b : List Int), k0 + d = w.length → b.length = w.length → (∀ x ∈ b, x ∈ w) → Ev (fun k => P.impl_leastTurn.l0 k w b (w.length : Int) (k0 : Int)) (leastF w k0 d b) := by
  intro d
  induction d with
  | zero => intro k0 b hk hb hm; exact Ev.succ (Ev.congr (f := fun _ => some b) (fun k => by rw [P.impl_leastTurn.l0, if_neg (by omega)]) (Ev.now _))
  | succ d ih =>
    intro k0 b hk hb hm
    have ht := turnL_len w k0 (by omega)
    obtain ⟨r, h1, h2⟩ := compareWords (turnL w k0) b (fun x hx => hL x (turnL_mem w k0 x hx)) (fun x hx => hL x (hm x hx))
    refine Ev.succ (Ev.congr (fun k => by rw [P.impl_leastTurn.l0, if_pos (by omega)]) ?_)
    refine Ev.bind (turned w (k0 : Int) hw (by omega) (by omega)) ?_
    rw [show ((k0 : Int)).toNat = k0 from by omega]
    refine Ev.bind h1 ?_
    rw [leastF, ← h2]
    by_cases h : r < 0
    · exact Ev.congr (fun k => by rw [if_pos h, wr (by omega) (by omega)]; rfl) (Ev.pin (ih (k0 + 1) (turnL w k0) (by omega) ht (turnL_mem w k0)) (by simp [h]))
    · exact Ev.congr (fun k => by rw [if_neg h, wr (by omega) (by omega)]; rfl) (Ev.pin (ih (k0 + 1) b (by omega) hb hm) (by simp [h]))
theorem leastTurn (l : List Int) (hl : l.length ≤ 1048576) (hL : ∀ x ∈ l, x ≠ 0 ∧ -6 ≤ x ∧ x ≤ 6) : Ev (fun k => P.impl_leastTurn.f k l) (leastV l) := by
  have hc := coreV_len l
  refine Ev.congr (fun k => by unfold P.impl_leastTurn.f; rfl) (Ev.bind (core l hl (fun x hx => by have := hL x hx; omega)) ?_)
  refine Ev.congr (fun k => by unfold P.slices_Clone_int_int.f; rw [if_pos (by omega), Option.bind_some]) ?_
  exact leastTurn_round _ (by omega) (fun x hx => hL x (hc.2.2.1 x hx)) _ 0 _ (by omega) rfl (fun x hx => hx)
theorem l1Same_round (a b : List Int) (hl : a.length ≤ 4611686018427387904) (hab : a.length = b.length) : ∀ (d i : Nat), i ≤ a.length → a.length - i = d → Ev (fun k => P.spec_l1Same.l0 k a b (i : Int)) (decide (a.drop i = b.drop i)) := by
  intro d
  induction d with
  | zero => intro i hi hd; exact Ev.succ (Ev.congr (f := fun _ => some true) (fun k => by rw [P.spec_l1Same.l0, if_neg (by omega)]) (Ev.pin (Ev.now _) (by rw [List.drop_of_length_le (by omega), List.drop_of_length_le (by omega)]; simp)))
  | succ d ih =>
    intro i hi hd
    have hlt : i < a.length := by omega
    rw [List.drop_eq_getElem_cons hlt, List.drop_eq_getElem_cons (show i < b.length by omega)]
    by_cases h : a[i] = b[i]
    · exact Ev.succ (Ev.congr (fun k => by rw [P.spec_l1Same.l0, if_pos (by omega), if_pos (by omega), if_pos (by omega), rd_get a i hlt, rd_get b i (by omega), if_pos h, wr (by omega) (by omega)]; rfl) (Ev.pin (ih (i + 1) (by omega) (by omega)) (by rw [h]; simp only [List.cons.injEq, true_and])))
    · exact Ev.succ (Ev.congr (f := fun _ => some false) (fun k => by rw [P.spec_l1Same.l0, if_pos (by omega), if_pos (by omega), if_pos (by omega), rd_get a i hlt, rd_get b i (by omega), if_neg h]) (Ev.pin (Ev.now _) (by symm; rw [decide_eq_false_iff_not]; intro e; exact h (List.cons.inj e).1)))
theorem l1Same (a b : List Int) (hl : a.length ≤ 4611686018427387904) : Ev (fun k => P.spec_l1Same.f k a b) (decide (a = b)) := by
  by_cases h : a.length = b.length
  · exact Ev.congr (fun k => by unfold P.spec_l1Same.f; rw [if_pos (by omega)]; rfl) (Ev.pin (l1Same_round a b hl h a.length 0 (by omega) (by omega)) (by simp))
  · exact Ev.congr (f := fun _ => some false) (fun k => by unfold P.spec_l1Same.f; rw [if_neg (by omega)]) (Ev.pin (Ev.now _) (by symm; rw [decide_eq_false_iff_not]; rintro rfl; exact h rfl))
theorem Equal_round (a b : List Int) (hl : a.length ≤ 4611686018427387904) (hab : a.length = b.length) : ∀ (d i : Nat), i ≤ a.length → a.length - i = d → Ev (fun k => P.slices_Equal_int_int.l0 k a b (a.length : Int) (i : Int)) (decide (a.drop i = b.drop i)) := by
  intro d
  induction d with
  | zero => intro i hi hd; exact Ev.succ (Ev.congr (f := fun _ => some true) (fun k => by rw [P.slices_Equal_int_int.l0, if_neg (by omega)]) (Ev.pin (Ev.now _) (by rw [List.drop_of_length_le (by omega), List.drop_of_length_le (by omega)]; simp)))
  | succ d ih =>
    intro i hi hd
    have hlt : i < a.length := by omega
    rw [List.drop_eq_getElem_cons hlt, List.drop_eq_getElem_cons (show i < b.length by omega)]
    by_cases h : a[i] = b[i]
    · exact Ev.succ (Ev.congr (fun k => by rw [P.slices_Equal_int_int.l0, if_pos (by omega), if_pos (by omega), if_pos (by omega), if_pos (by omega), rd_get a i hlt, rd_get b i (by omega), if_pos h, wr (by omega) (by omega)]; rfl) (Ev.pin (ih (i + 1) (by omega) (by omega)) (by rw [h]; simp only [List.cons.injEq, true_and])))
    · exact Ev.succ (Ev.congr (f := fun _ => some false) (fun k => by rw [P.slices_Equal_int_int.l0, if_pos (by omega), if_pos (by omega), if_pos (by omega), if_pos (by omega), rd_get a i hlt, rd_get b i (by omega), if_neg h]) (Ev.pin (Ev.now _) (by symm; rw [decide_eq_false_iff_not]; intro e; exact h (List.cons.inj e).1)))
theorem Equal (a b : List Int) (hl : a.length ≤ 4611686018427387904) : Ev (fun k => P.slices_Equal_int_int.f k a b) (decide (a = b)) := by
  by_cases h : a.length = b.length
  · exact Ev.congr (fun k => by unfold P.slices_Equal_int_int.f; rw [if_pos (by omega)]; rfl) (Ev.pin (Equal_round a b hl h a.length 0 (by omega) (by omega)) (by simp))
  · exact Ev.congr (f := fun _ => some false) (fun k => by unfold P.slices_Equal_int_int.f; rw [if_neg (by omega)]) (Ev.pin (Ev.now _) (by symm; rw [decide_eq_false_iff_not]; rintro rfl; exact h rfl))
def vAreConjugate (a b : List Int) : Bool × Bool := if isW a = true ∧ isW b = true then (decide (leastV a = leastV b), true) else (false, false)
theorem spec_AreConjugate (a b : List Int) (ha : a.length ≤ 1048576) (hb : b.length ≤ 1048576) : Ev (fun k => P.spec_AreConjugate.f k a b) (vAreConjugate a b) := by
  refine Ev.congr (fun k => by unfold P.spec_AreConjugate.f; rfl) (Ev.bind (l2Word a (by omega)) ?_)
  unfold vAreConjugate
  cases h : isW a with
  | false => simp only [Bool.false_eq_true, ↓reduceIte, false_and]; exact Ev.succ (Ev.congr (f := fun _ => some (false, false)) (fun k => by rw [P.spec_AreConjugate.j0, if_pos rfl]) (Ev.now _))
  | true =>
    simp only [↓reduceIte, true_and]
    refine Ev.bind (l2Word b (by omega)) ?_
    cases h2 : isW b with
    | false => simp only [Bool.false_eq_true, ↓reduceIte, Bool.not_false]; exact Ev.succ (Ev.congr (f := fun _ => some (false, false)) (fun k => by rw [P.spec_AreConjugate.j0, if_pos rfl]) (Ev.now _))
    | true =>
      simp only [↓reduceIte, Bool.not_true]
      refine Ev.succ (Ev.congr (fun k => by rw [P.spec_AreConjugate.j0, if_neg (by simp)]) ?_)
      refine Ev.bind (l2Least a ha (isW_mem h)) ?_
      refine Ev.bind (l2Least b hb (isW_mem h2)) ?_
      have := (leastV_len a).1; have := (coreV_len a).1
      exact Ev.bind (l1Same _ _ (by omega)) (Ev.now _)
theorem impl_AreConjugate (a b : List Int) (ha : a.length ≤ 1048576) (hb : b.length ≤ 1048576) : Ev (fun k => P.impl_AreConjugate.f k a b) (vAreConjugate a b) := by
  refine Ev.congr (fun k => by unfold P.impl_AreConjugate.f; rw [areWords2, Option.bind_some]) ?_
  unfold vAreConjugate
  by_cases h : isW a = true ∧ isW b = true
  · rw [if_pos h]
    simp only [h.1, h.2, Bool.and_self, ↓reduceIte]
    refine Ev.bind (leastTurn a ha (isW_mem h.1)) ?_
    refine Ev.bind (leastTurn b hb (isW_mem h.2)) ?_
    have := (leastV_len a).1; have := (coreV_len a).1
    exact Ev.bind (Equal _ _ (by omega)) (Ev.now _)
  · rw [if_neg h]; exact Ev.congr (f := fun _ => some (false, false)) (fun k => by rw [if_neg (by simpa using h)]) (Ev.now _)
/-- A table that rises with its sets. -/
def Rises (T : TabB 64) : Prop := ∀ a b : Fin 64, Go.bits .and .i64 (a.val : Int) (b.val : Int) = (a.val : Int) → T.rd (a.val : Int) = true → T.rd (b.val : Int) = true
theorem Rises.at {T : TabB 64} (h : Rises T) (a b : Int) (ha : 0 ≤ a ∧ a < 64) (hb : 0 ≤ b ∧ b < 64) (e : Go.bits .and .i64 a b = a) (t : T.rd a = true) : T.rd b = true := by
  have := h ⟨a.toNat, by omega⟩ ⟨b.toNat, by omega⟩
  rw [show ((a.toNat : Nat) : Int) = a from by omega, show ((b.toNat : Nat) : Int) = b from by omega] at this
  exact this e t
theorem tabOf_rd (l : List Int) (s : Int) (hs : 0 ≤ s ∧ s < 64) : (tabOf l).rd s = fallsB l s := by
  unfold TabB.rd tabOf
  rw [List.getD_eq_getElem?_getD, List.getElem?_map, List.getElem?_range (by omega)]
  show fallsB l ((s.toNat : Nat) : Int) = _
  rw [show ((s.toNat : Nat) : Int) = s from by omega]
theorem tabOf_rises (l : List Int) (hL : ∀ x ∈ l, x ≠ 0 ∧ -6 ≤ x ∧ x ≤ 6) : Rises (tabOf l) := by
  intro a b e h
  rw [tabOf_rd l _ (by omega)] at h ⊢
  refine fallsB_mono l _ _ (fun x hx hn => ?_) h
  have hw := hL x hx
  have hb := nl_word x hw.1 hw.2
  have := and_at a b e ⟨(nl x - 1).toNat, by omega⟩
  rw [show (((nl x - 1).toNat : Nat) : Int) = nl x - 1 from by omega] at this
  exact this hn
/-- The sets from i on, d of them, for which something is so. -/
def sel (p : Int → Bool) : Nat → Nat → List Int
  | _, 0 => []
  | i, d + 1 => if p (i : Int) = true then (i : Int) :: sel p (i + 1) d else sel p (i + 1) d
theorem sel_congr {p q : Int → Bool} : ∀ (d i : Nat), (∀ s : Nat, i ≤ s → s < i + d → p (s : Int) = q (s : Int)) → sel p i d = sel q i d
  | 0, _, _ => rfl
  | d + 1, i, h => by
    unfold sel
    rw [h i (by omega) (by omega), sel_congr d (i + 1) (fun s h1 h2 => h s (by omega) (by omega))]
theorem sel_len (p : Int → Bool) : ∀ (d i : Nat), (sel p i d).length ≤ d
  | 0, _ => by simp [sel]
  | d + 1, i => by
    have := sel_len p d (i + 1)
    unfold sel
    split
    · simp; omega
    · omega
theorem sel_mem (p : Int → Bool) (x : Int) : ∀ (d i : Nat), x ∈ sel p i d ↔ (i : Int) ≤ x ∧ x < ((i + d : Nat) : Int) ∧ p x = true
  | 0, i => by simp [sel]; omega
  | d + 1, i => by
    have ih := sel_mem p x d (i + 1)
    unfold sel
    by_cases h : p (i : Int) = true
    · rw [if_pos h, List.mem_cons, ih]
      constructor
      · rintro (e | ⟨h1, h2, h3⟩)
        · subst e; exact ⟨by omega, by omega, h⟩
        · exact ⟨by omega, by omega, h3⟩
      · rintro ⟨h1, h2, h3⟩
        by_cases e : x = (i : Int)
        · exact .inl e
        · exact .inr ⟨by omega, by omega, h3⟩
    · rw [if_neg h, ih]
      constructor
      · rintro ⟨h1, h2, h3⟩; exact ⟨by omega, by omega, h3⟩
      · rintro ⟨h1, h2, h3⟩
        have : x ≠ (i : Int) := fun e => h (e ▸ h3)
        exact ⟨by omega, by omega, h3⟩
/-- Is a set on a table's edge? -/
def edgeB (T : TabB 64) (v : Bool) (s : Int) : Bool := !((List.range 6).any fun n => P.spec_l3Edge.bad T s v (n : Int)) && (T.rd s == v)
theorem l3Edge (T : TabB 64) (v : Bool) (s : Int) (hs : 0 ≤ s ∧ s < 64) : P.spec_l3Edge.f T s v = some (edgeB T v s) := by
  unfold P.spec_l3Edge.f edgeB; rw [if_pos hs]
/-- Is a set still a greatest one, from set j on? -/
def hi (T : TabB 64) (s : Int) : Nat → Nat → Bool → Bool
  | _, 0, b => b
  | j, d + 1, b => hi T s (j + 1) d (b && !(decide (Go.bits .and .i64 (j : Int) s = s) && !T.rd (j : Int)))
theorem hi_iff (T : TabB 64) (s : Int) : ∀ (d j : Nat) (b : Bool), hi T s j d b = true ↔ b = true ∧ ∀ p : Nat, j ≤ p → p < j + d → Go.bits .and .i64 (p : Int) s = s → T.rd (p : Int) = true
  | 0, j, b => by simp [hi]; intro _ p h1 h2; omega
  | d + 1, j, b => by
    rw [hi, hi_iff T s d (j + 1)]
    constructor
    · rintro ⟨h1, h2⟩
      rw [Bool.and_eq_true] at h1
      refine ⟨h1.1, fun p hp1 hp2 he => ?_⟩
      by_cases e : p = j
      · subst e; have h3 := h1.2; simp [he] at h3; exact h3
      · exact h2 p (by omega) (by omega) he
    · rintro ⟨rfl, h2⟩
      refine ⟨?_, fun p hp1 hp2 he => h2 p (by omega) (by omega) he⟩
      by_cases he : Go.bits .and .i64 (j : Int) s = s
      · simp [he, h2 j (by omega) (by omega) he]
      · simp [he]
theorem GreatestHangs_in (T : TabB 64) (r : List Int × Bool) (acc : List Int) (s : Nat) (hs : s < 64) (ha : acc.length ≤ 64) : ∀ (d j : Nat) (b : Bool), j + d = 64 →
    Ev (fun k => P.impl_GreatestHangs.l0 k (if hi T (s : Int) j d b = true then acc ++ [(s : Int)] else acc) T ((s + 1 : Nat) : Int) T) r → Ev (fun k => P.impl_GreatestHangs.l1 k acc (s : Int) b (j : Int) T (s : Int) T) r := by
  intro d
  induction d with
  | zero =>
    intro j b hj h
    cases b with
    | true => exact Ev.succ (Ev.congr (fun k => by rw [P.impl_GreatestHangs.l1, if_neg (by omega), if_pos rfl, if_pos (by omega), wr (by omega) (by omega)]; rfl) h)
    | false => exact Ev.succ (Ev.congr (fun k => by rw [P.impl_GreatestHangs.l1, if_neg (by omega), if_neg (by simp), wr (by omega) (by omega)]; rfl) h)
  | succ d ih =>
    intro j b hj h
    rw [hi] at h
    cases b with
    | false =>
      refine Ev.succ (Ev.congr (fun k => by rw [P.impl_GreatestHangs.l1, if_pos (by omega), if_neg (by simp), wr (by omega) (by omega)]; rfl) (ih (j + 1) false (by omega) ?_))
      simpa using h
    | true =>
      by_cases he : Go.bits .and .i64 (j : Int) (s : Int) = (s : Int)
      · refine Ev.succ (Ev.congr (fun k => by rw [P.impl_GreatestHangs.l1, if_pos (by omega), if_pos rfl, if_pos he, if_pos (by omega), wr (by omega) (by omega)]; rfl) (ih (j + 1) (!(!(T.rd (j : Int)))) (by omega) ?_))
        simpa [he] using h
      · refine Ev.succ (Ev.congr (fun k => by rw [P.impl_GreatestHangs.l1, if_pos (by omega), if_pos rfl, if_neg he, wr (by omega) (by omega)]; rfl) (ih (j + 1) true (by omega) ?_))
        simpa [he] using h
def mostB (T : TabB 64) (s : Int) : Bool := hi T s (s.toNat + 1) (63 - s.toNat) (!T.rd s)
theorem GreatestHangs_round (T : TabB 64) : ∀ (d i : Nat) (acc : List Int), i + d = 64 → acc.length ≤ i → Ev (fun k => P.impl_GreatestHangs.l0 k acc T (i : Int) T) (acc ++ sel (mostB T) i d, true) := by
  intro d
  induction d with
  | zero => intro i acc hi ha; exact Ev.succ (Ev.congr (f := fun _ => some (acc, true)) (fun k => by rw [P.impl_GreatestHangs.l0, if_neg (by omega)]) (Ev.pin (Ev.now _) (by simp [sel])))
  | succ d ih =>
    intro i acc hi ha
    refine Ev.succ (Ev.congr (fun k => by rw [P.impl_GreatestHangs.l0, if_pos (by omega), if_pos (by omega), wr (by omega) (by omega)]; rfl) (GreatestHangs_in T _ acc i (by omega) (by omega) (63 - i) (i + 1) (!T.rd (i : Int)) (by omega) ?_))
    by_cases h : mostB T (i : Int) = true
    · have h' : L.hi T (i : Int) (i + 1) (63 - i) (!T.rd (i : Int)) = true := h
      rw [if_pos h', show sel (mostB T) i (d + 1) = (i : Int) :: sel (mostB T) (i + 1) d from by rw [sel, if_pos h]]
      exact Ev.pin (ih (i + 1) (acc ++ [(i : Int)]) (by omega) (by simp; omega)) (by simp)
    · have h' : ¬ L.hi T (i : Int) (i + 1) (63 - i) (!T.rd (i : Int)) = true := h
      rw [if_neg h', show sel (mostB T) i (d + 1) = sel (mostB T) (i + 1) d from by rw [sel, if_neg h]]
      exact ih (i + 1) acc (by omega) (by omega)
theorem whole_more : ∀ (s : Fin 64) (n : Fin 6), ¬ Go.bits .xor .i64 (s.val : Int) (shl .i64 1 (n.val : Int)) < (s.val : Int) → (s.val : Int) < Go.bits .xor .i64 (s.val : Int) (shl .i64 1 (n.val : Int)) ∧ Go.bits .and .i64 (Go.bits .xor .i64 (s.val : Int) (shl .i64 1 (n.val : Int))) (s.val : Int) = (s.val : Int) := by decide +kernel
theorem whole_less : ∀ (s p : Fin 64), s.val < p.val → Go.bits .and .i64 (p.val : Int) (s.val : Int) = (s.val : Int) → ∃ n : Fin 6, ¬ Go.bits .xor .i64 (s.val : Int) (shl .i64 1 (n.val : Int)) < (s.val : Int) ∧ Go.bits .and .i64 (Go.bits .xor .i64 (s.val : Int) (shl .i64 1 (n.val : Int))) (p.val : Int) = Go.bits .xor .i64 (s.val : Int) (shl .i64 1 (n.val : Int)) := by decide +kernel
theorem most_edge (T : TabB 64) (hT : Rises T) (s : Nat) (hs : s < 64) : mostB T (s : Int) = edgeB T false (s : Int) := by
  rw [Bool.eq_iff_iff]
  unfold mostB edgeB
  rw [hi_iff, Bool.and_eq_true]
  simp only [Bool.not_eq_true', List.any_eq_false, Int.toNat_natCast, beq_false, List.mem_range]
  constructor
  · rintro ⟨h1, h2⟩
    refine ⟨fun n hn hb => ?_, h1⟩
    unfold P.spec_l3Edge.bad P.spec_l3Edge.o at hb
    have ho := P.spec_l3Edge.o_in (s : Int) (n : Int) (by omega) (by omega)
    unfold P.spec_l3Edge.o at ho
    rw [Bool.and_eq_true, beq_false, beq_false, Bool.not_eq_true', Bool.not_eq_true', decide_eq_false_iff_not] at hb
    have hp := whole_more ⟨s, hs⟩ ⟨n, hn⟩ hb.2
    simp only at hp
    have := h2 (Go.bits .xor .i64 (s : Int) (shl .i64 1 (n : Int))).toNat (by omega) (by omega)
    rw [show ((((Go.bits .xor .i64 (s : Int) (shl .i64 1 (n : Int))).toNat : Nat)) : Int) = Go.bits .xor .i64 (s : Int) (shl .i64 1 (n : Int)) from by omega] at this
    rw [this hp.2] at hb
    exact absurd hb.1 (by simp)
  · rintro ⟨h1, h2⟩
    refine ⟨h2, fun p hp1 hp2 he => ?_⟩
    obtain ⟨n, hn1, hn2⟩ := whole_less ⟨s, hs⟩ ⟨p, by omega⟩ (by show s < p; omega) he
    have ho := P.spec_l3Edge.o_in (s : Int) (n.val : Int) (by omega) (by omega)
    unfold P.spec_l3Edge.o at ho
    have := h1 n.val n.isLt
    unfold P.spec_l3Edge.bad P.spec_l3Edge.o at this
    cases ht : T.rd (Go.bits .xor .i64 (s : Int) (shl .i64 1 (n.val : Int))) with
    | false => exact absurd (by rw [Bool.and_eq_true, beq_false, beq_false, ht, Bool.not_eq_true', Bool.not_eq_true', decide_eq_false_iff_not]; exact ⟨rfl, hn1⟩) this
    | true => exact hT.at _ _ ho (by omega) hn2 ht
end Go.Proofs.Ytheicbcedhfahaa.L
