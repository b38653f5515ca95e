/- The plain words for FnExactFewestNails: lists, what the printed functions come to. Conditions: as each lemma says. -/
import Derived.Test.YtheicbcedhfahaaPx0
import Derived.Test.YtheicbcedhfahaaPx1
import Derived.Test.YtheicbcedhfahaaPx10
import Derived.Test.YtheicbcedhfahaaPx12
import Derived.Test.YtheicbcedhfahaaPx13
import Derived.Test.YtheicbcedhfahaaPx14
import Derived.Test.YtheicbcedhfahaaPx2
import Derived.Test.YtheicbcedhfahaaPx20
import Derived.Test.YtheicbcedhfahaaPx21
import Derived.Test.YtheicbcedhfahaaPx27
import Derived.Test.YtheicbcedhfahaaPx28
import Derived.Test.YtheicbcedhfahaaPx3
import Derived.Test.YtheicbcedhfahaaPx31
import Derived.Test.YtheicbcedhfahaaPx40
import Derived.Test.YtheicbcedhfahaaPx5
import Derived.Test.YtheicbcedhfahaaPx6
import Derived.Test.YtheicbcedhfahaaPx7
import Derived.Test.YtheicbcedhfahaaPx8
import Derived.Test.YtheicbcedhfahaaPx9
import Derived.Test.YtheicbcedhfahaaWMore
import Derived.Test.YtheicbcedhfahaaWWords
namespace Go.Proofs.Ytheicbcedhfahaa.L
open Go.RowKit Go.Proofs.Ytheicbcedhfahaa.P Go.Proofs.YtheicbcedhfahaaW.PrintWords Go.Proofs.YtheicbcedhfahaaW.PrintMore
set_option linter.unusedVariables false
set_option linter.unusedSimpArgs false

theorem Ev.succ {α : Type} {g : Nat → Option α} {r : α} (h : Ev (fun k => g (k + 1)) r) : Ev g r := Ev.step (fun _ => rfl) h
theorem Ev.done {α : Type} {o : Option α} {r : α} (h : o = some r) : Ev (fun _ => o) r := ⟨0, fun _ _ => h⟩
theorem Ev.pin {α : Type} {g : Nat → Option α} {r s : α} (h : Ev g r) (e : r = s) : Ev g s := e ▸ h

theorem wr {i : Int} (h0 : -9223372036854775808 ≤ i) (h1 : i ≤ 9223372036854775807) : wrap64 i = i := by unfold wrap64; omega

theorem wf_bounds {a : Int} (h : (Lit.int .i64 a).wf = true) : -9223372036854775808 ≤ a ∧ a ≤ 9223372036854775807 := by
  simp [Lit.wf, IntKind.min, IntKind.max, IntKind.bits, IntKind.signed] at h
  omega
theorem nn1 (m : Nat) : ((1 : Int) + (m : Int) < 0) = False := by simp; omega
theorem nn2 (m n : Nat) : ((1 : Int) + (m : Int) + (n : Int) < 0) = False := by simp; omega
theorem nn3 (m n p : Nat) : ((1 : Int) + (m : Int) + (n : Int) + (p : Int) < 0) = False := by simp; omega
theorem nn4 (m n p q : Nat) : ((1 : Int) + (m : Int) + (n : Int) + (p : Int) + (q : Int) < 0) = False := by simp; omega
theorem rd_nat (l : List Int) (i : Nat) : rd l (i : Int) = l.getD i 0 := by unfold rd; simp
theorem rd_app (pre : List Int) (x : Int) (rest : List Int) : rd (pre ++ x :: rest) (pre.length : Int) = x := by
  rw [rd_nat, List.getD_eq_getElem?_getD, List.getElem?_append_right (Nat.le_refl _)]; simp
theorem rd_last (l : List Int) (h : l ≠ []) : rd l ((l.length : Int) - 1) = l.getLast h := by
  have hp : 0 < l.length := by cases l with | nil => exact absurd rfl h | cons _ _ => simp
  rw [show ((l.length : Int) - 1) = ((l.length - 1 : Nat) : Int) from by omega, rd_nat, List.getLast_eq_getElem, List.getD_eq_getElem?_getD, List.getElem?_eq_getElem (by omega)]
  rfl

/-- A list split at a place. -/
theorem split_at (l : List Int) (i : Nat) (h : i < l.length) : ∃ pre x rest, l = pre ++ x :: rest ∧ pre.length = i := by
  refine ⟨l.take i, l[i], l.drop (i + 1), ?_, by simp; omega⟩
  rw [List.getElem_cons_drop, List.take_append_drop]

/-- The marks that 'markIntS' lays. -/
def marks (n : Int) (m : Nat) : List Int := (List.range m).map (fun (j : Nat) => n + (j : Int))
theorem marks_len (n : Int) (m : Nat) : (marks n m).length = m := by simp [marks]
theorem marks_succ (n : Int) (m : Nat) : marks n (m + 1) = marks n m ++ [n + (m : Int)] := by simp [marks, List.range_succ]
theorem marks_get (n : Int) (m i : Nat) (h : i < m) : (marks n m).getD i 0 = n + (i : Int) := by
  simp [marks, List.getD_eq_getElem?_getD, h]

def isL (x : Int) : Bool := decide (x ≠ 0 ∧ -6 ≤ x ∧ x ≤ 6)
def isW (l : List Int) : Bool := decide (l.length ≤ 64) && l.all isL
theorem isW_len {l : List Int} (h : isW l = true) : l.length ≤ 64 := by unfold isW at h; simp at h; exact h.1
theorem isW_mem {l : List Int} (h : isW l = true) : ∀ x ∈ l, x ≠ 0 ∧ -6 ≤ x ∧ x ≤ 6 := by
  unfold isW at h; simp [isL] at h; exact fun x hx => h.2 x hx
theorem isL_iff (x : Int) : isL x = true ↔ x ≠ 0 ∧ -6 ≤ x ∧ x ≤ 6 := by simp [isL]

/-- Numbers far from the ends of an int. -/
def Mild (l : List Int) : Prop := ∀ x ∈ l, -4611686018427387904 ≤ x ∧ x ≤ 4611686018427387904
theorem Mild.ofW {l : List Int} (h : isW l = true) : Mild l := fun x hx => by have := isW_mem h x hx; omega
theorem Mild.nil : Mild [] := fun x hx => by simp at hx
theorem Mild.append {a b : List Int} (ha : Mild a) (hb : Mild b) : Mild (a ++ b) := fun x hx => by
  rcases List.mem_append.1 hx with h | h
  · exact ha x h
  · exact hb x h
theorem Mild.sub {a b : List Int} (ha : Mild a) (h : ∀ x ∈ b, x ∈ a) : Mild b := fun x hx => ha x (h x hx)
theorem Mild.at {l : List Int} (h : Mild l) {pre : List Int} {x : Int} {rest : List Int} (e : l = pre ++ x :: rest) : -4611686018427387904 ≤ x ∧ x ≤ 4611686018427387904 := h x (by rw [e]; simp)

/-- One letter behind a reduced list. -/
def red1 (acc : List Int) (x : Int) : List Int := if acc.getLast? = some (-x) then acc.dropLast else acc ++ [x]
/-- What letters are reduced to. -/
def redF (acc l : List Int) : List Int := l.foldl red1 acc
def red (l : List Int) : List Int := redF [] l
theorem red1_mem {acc : List Int} {x y : Int} (h : y ∈ red1 acc x) : y ∈ acc ∨ y = x := by
  unfold red1 at h
  split at h
  · exact .inl (List.dropLast_subset _ h)
  · simpa using h
theorem redF_mem {l acc : List Int} {y : Int} (h : y ∈ redF acc l) : y ∈ acc ∨ y ∈ l := by
  induction l generalizing acc with
  | nil => exact .inl h
  | cons x l ih =>
    rcases ih (acc := red1 acc x) h with h | h
    · rcases red1_mem h with h | h
      · exact .inl h
      · exact .inr (by simp [h])
    · exact .inr (by simp [h])
theorem red_mem {l : List Int} {y : Int} (h : y ∈ red l) : y ∈ l := by
  rcases redF_mem h with h | h
  · simp at h
  · exact h
theorem red1_len (acc : List Int) (x : Int) : (red1 acc x).length ≤ acc.length + 1 := by
  unfold red1; split <;> simp; omega
theorem redF_len (l acc : List Int) : (redF acc l).length ≤ acc.length + l.length := by
  induction l generalizing acc with
  | nil => simp [redF]
  | cons x l ih =>
    have h1 := ih (red1 acc x); have h2 := red1_len acc x
    simp only [redF, List.foldl_cons, List.length_cons] at h1 ⊢
    omega
theorem red_len (l : List Int) : (red l).length ≤ l.length := by have := redF_len l []; simpa [red] using this
theorem Mild.red {l : List Int} (h : Mild l) : Mild (red l) := h.sub fun _ hx => red_mem hx

/-- Is a list reduced? -/
def isRed : List Int → Bool
  | [] => true
  | [_] => true
  | x :: y :: l => !(y == -x) && isRed (y :: l)

/-- The inverse of a list of letters. -/
def inv (l : List Int) : List Int := l.reverse.map fun x => -x
theorem inv_len (l : List Int) : (inv l).length = l.length := by simp [inv]
theorem inv_mem {l : List Int} {y : Int} (h : y ∈ inv l) : -y ∈ l := by
  simp [inv] at h
  obtain ⟨a, ha, rfl⟩ := h
  simpa using ha
theorem Mild.inv {l : List Int} (h : Mild l) : Mild (inv l) := fun y hy => by have := h _ (inv_mem hy); omega
theorem inv_snoc (l : List Int) (x : Int) : inv (l ++ [x]) = -x :: inv l := by simp [inv]
theorem inv_cons (l : List Int) (x : Int) : inv (x :: l) = inv l ++ [-x] := by simp [inv]
theorem inv_append (a b : List Int) : inv (a ++ b) = inv b ++ inv a := by simp [inv]
theorem inv_inv (l : List Int) : inv (inv l) = l := by
  induction l with
  | nil => rfl
  | cons x l ih => rw [inv_cons, inv_snoc, ih, Int.neg_neg]

theorem toIntS_round (l : List Int) (hl : l.length ≤ 1048576) : ∀ (d i : Nat) (acc : List Int), i ≤ l.length → l.length - i = d → acc.length = l.length → acc.take i = l.take i →
    Ev (fun k => laws_toIntS.l0 k l acc (i : Int)) l := by
  intro d
  induction d with
  | zero =>
    intro i acc hi hd ha ht
    refine Ev.succ ?_
    have he : acc = l := by
      rw [show i = l.length from by omega] at ht
      rw [List.take_length] at ht
      rw [← ht, List.take_of_length_le (by omega)]
    refine Ev.congr (f := fun _ => some l) (fun k => ?_) (Ev.now _)
    simp only [laws_toIntS.l0]; rw [if_neg (by omega), he]
  | succ d ih =>
    intro i acc hi hd ha ht
    refine Ev.succ ?_
    have hlt : i < l.length := by omega
    have h := ih (i + 1) (acc.set i (l.getD i 0)) (by omega) (by omega) (by simp [ha]) (by
      rw [List.take_add_one, List.take_add_one, List.take_set_of_le (Nat.le_refl _), ht, List.getElem?_set_self (by omega), List.getD_eq_getElem?_getD, List.getElem?_eq_getElem hlt]
      rfl)
    refine Ev.congr (fun k => ?_) h
    simp only [laws_toIntS.l0]
    rw [if_pos (by omega), if_pos (by omega), if_pos (by omega), rd_nat, wr (by omega) (by omega), Int.toNat_natCast]
    rfl
theorem toIntS (l : List Int) (hl : l.length ≤ 1048576) : Ev (fun k => laws_toIntS.f k l) l := by
  refine Ev.congr (fun k => ?_) (toIntS_round l hl l.length 0 (List.replicate l.length 0) (by omega) (by omega) (by simp) (by simp))
  unfold laws_toIntS.f
  rw [if_pos (by omega), if_pos (by simp; omega), Int.toNat_natCast]
  rfl
theorem eqIntS_round (a b : List Int) (hl : a.length ≤ 4611686018427387904) (hab : a.length = b.length) : ∀ (d i : Nat), i ≤ a.length → a.length - i = d →
    Ev (fun k => laws_eqIntS.l0 k a b (i : Int)) (decide (a.drop i = b.drop i)) := by
  intro d
  induction d with
  | zero =>
    intro i hi hd
    refine Ev.succ ?_
    refine Ev.congr (f := fun _ => some true) (fun k => ?_) (Ev.pin (Ev.now _) ?_)
    · simp only [laws_eqIntS.l0]; rw [if_neg (by omega)]
    · rw [List.drop_of_length_le (by omega), List.drop_of_length_le (by omega)]; simp
  | succ d ih =>
    intro i hi hd
    refine Ev.succ ?_
    have hlt : i < a.length := by omega
    have hltb : i < b.length := by omega
    by_cases e : a.getD i 0 = b.getD i 0
    · have h := ih (i + 1) (by omega) (by omega)
      refine Ev.congr (fun k => ?_) (Ev.pin h ?_)
      · simp only [laws_eqIntS.l0]
        rw [if_pos (by omega), if_pos (by omega), if_pos (by omega), rd_nat, rd_nat, if_pos e, wr (by omega) (by omega)]
        rfl
      · simp only [List.getD_eq_getElem?_getD, List.getElem?_eq_getElem hlt, List.getElem?_eq_getElem hltb, Option.getD_some] at e
        rw [List.drop_eq_getElem_cons hlt, List.drop_eq_getElem_cons hltb, e]
        simp only [List.cons.injEq, true_and]
    · refine Ev.congr (f := fun _ => some false) (fun k => ?_) (Ev.pin (Ev.now _) ?_)
      · simp only [laws_eqIntS.l0]
        rw [if_pos (by omega), if_pos (by omega), if_pos (by omega), rd_nat, rd_nat, if_neg e]
      · simp only [List.getD_eq_getElem?_getD, List.getElem?_eq_getElem hlt, List.getElem?_eq_getElem hltb, Option.getD_some] at e
        refine (decide_eq_false fun h => e ?_).symm
        rw [List.drop_eq_getElem_cons hlt, List.drop_eq_getElem_cons hltb] at h
        exact (List.cons.inj h).1
theorem eqIntS (a b : List Int) (hl : a.length ≤ 4611686018427387904) : Ev (fun k => laws_eqIntS.f k a b) (decide (a = b)) := by
  by_cases hab : a.length = b.length
  · refine Ev.congr (fun k => ?_) (eqIntS_round a b hl hab a.length 0 (by omega) (by omega))
    unfold laws_eqIntS.f
    rw [if_pos (by omega)]
    rfl
  · refine Ev.congr (f := fun _ => some false) (fun k => ?_) (Ev.pin (Ev.now _) ?_)
    · unfold laws_eqIntS.f
      rw [if_neg (by omega)]
    · have : a ≠ b := fun h => hab (by rw [h])
      simp [this]
theorem eqIntS_yes (a : List Int) (hl : a.length ≤ 4611686018427387904) : Ev (fun k => laws_eqIntS.f k a a) true := Ev.pin (eqIntS a a hl) (by simp)

theorem rdOf_get (l : List ByteArray) (i : Nat) (h : i < l.length) : rdOf ByteArray.empty l (i : Int) = l[i] := by
  unfold rdOf; simp [List.getD_eq_getElem?_getD, h]
theorem rdOf_nat (l : List ByteArray) (i : Nat) : rdOf ByteArray.empty l (i : Int) = l.getD i ByteArray.empty := by
  unfold rdOf; simp
theorem l2Letter (x : Int) : spec_l2Letter.f x = some (isL x) := by
  unfold spec_l2Letter.f spec_l1In.f isL
  by_cases h0 : x = 0
  · simp [h0]
  · by_cases h1 : x ≥ -6
    · simp [h0, h1]
    · simp [h0, h1]
theorem l2Word_round (l : List Int) (hl : l.length ≤ 4611686018427387904) : ∀ (d i : Nat), i ≤ l.length → l.length - i = d →
    Ev (fun k => spec_l2Word.l0 k l (i : Int)) (decide (l.length ≤ 64) && (l.drop i).all isL) := by
  intro d
  induction d with
  | zero =>
    intro i hi hd
    refine Ev.succ (Ev.congr (f := fun k => spec_l2Word.j1 k l (i : Int) false) (fun k => ?_) (Ev.succ ?_))
    · simp only [spec_l2Word.l0]; rw [if_neg (by omega)]
    · refine Ev.congr (f := fun _ => some (decide ((l.length : Int) ≤ 64))) (fun k => ?_) (Ev.pin (Ev.now _) ?_)
      · simp only [spec_l2Word.j1]; rw [if_neg (by simp)]
      · rw [List.drop_of_length_le (by omega)]; simp; omega
  | succ d ih =>
    intro i hi hd
    have hlt : i < l.length := by omega
    by_cases h64 : i ≤ 64
    · refine Ev.succ (Ev.congr (f := fun k => spec_l2Word.j1 k l (i : Int) true) (fun k => ?_) (Ev.succ ?_))
      · simp only [spec_l2Word.l0]; rw [if_pos (by omega), show decide ((i : Int) ≤ 64) = true from by simp; omega]
      · have hx : l.drop i = l[i] :: l.drop (i + 1) := List.drop_eq_getElem_cons hlt
        have hg : rd l (i : Int) = l[i] := by rw [rd_nat, List.getD_eq_getElem?_getD, List.getElem?_eq_getElem hlt]; rfl
        rw [hx, List.all_cons]
        cases hL : isL l[i] with
        | true =>
          refine Ev.congr (fun k => ?_) (Ev.pin (ih (i + 1) (by omega) (by omega)) (by simp))
          rw [spec_l2Word.j1, if_pos rfl, if_pos (by omega), if_pos (by omega), hg, l2Letter, hL, Option.bind_some, if_pos rfl, wr (by omega) (by omega)]
          rfl
        | false =>
          refine Ev.congr (f := fun _ => some false) (fun k => ?_) (Ev.pin (Ev.now _) (by simp))
          rw [spec_l2Word.j1, if_pos rfl, if_pos (by omega), if_pos (by omega), hg, l2Letter, hL, Option.bind_some, if_neg (by simp)]
    · refine Ev.succ (Ev.congr (f := fun k => spec_l2Word.j1 k l (i : Int) false) (fun k => ?_) (Ev.succ ?_))
      · simp only [spec_l2Word.l0]; rw [if_pos (by omega), show decide ((i : Int) ≤ 64) = false from by simp; omega]
      · refine Ev.congr (f := fun _ => some (decide ((l.length : Int) ≤ 64))) (fun k => ?_) (Ev.pin (Ev.now _) ?_)
        · simp only [spec_l2Word.j1]; rw [if_neg (by simp)]
        · rw [decide_eq_false (by omega), decide_eq_false (by omega)]; rfl
theorem l2Word (l : List Int) (hl : l.length ≤ 4611686018427387904) : Ev (fun k => spec_l2Word.f k l) (isW l) :=
  Ev.congr (fun k => by unfold spec_l2Word.f; rfl) (Ev.pin (l2Word_round l hl l.length 0 (by omega) (by omega)) (by simp [isW]))
theorem isWord (l : List Int) : impl_isWord.f l = some (isW l) := by
  unfold impl_isWord.f isW
  congr 2
  rw [Bool.eq_iff_iff]
  simp [P.isL, L.isL]
theorem l2Reduce_round (l : List Int) (hl : l.length ≤ 1048576) (hm : Mild l) : ∀ (d i : Nat) (acc : List Int), i ≤ l.length → l.length - i = d → acc.length ≤ i →
    Ev (fun k => spec_l2Reduce.l0 k l acc (i : Int)) (redF acc (l.drop i)) := by
  intro d
  induction d with
  | zero =>
    intro i acc hi hd ha
    refine Ev.succ (Ev.congr (f := fun _ => some acc) (fun k => ?_) (Ev.pin (Ev.now _) ?_))
    · simp only [spec_l2Reduce.l0]; rw [if_neg (by omega)]
    · rw [List.drop_of_length_le (by omega)]; rfl
  | succ d ih =>
    intro i acc hi hd ha
    have hlt : i < l.length := by omega
    have hg : rd l (i : Int) = l[i] := by rw [rd_nat, List.getD_eq_getElem?_getD, List.getElem?_eq_getElem hlt]; rfl
    have hb := hm l[i] (List.getElem_mem hlt)
    rw [List.drop_eq_getElem_cons hlt]
    have h := ih (i + 1) (red1 acc l[i]) (by omega) (by omega) (by have := red1_len acc l[i]; omega)
    refine Ev.succ (Ev.congr (fun k => ?_) (Ev.pin h rfl))
    simp only [spec_l2Reduce.l0]
    rw [if_pos (by omega)]
    by_cases h0 : acc = []
    · subst h0
      rw [if_neg (by simp), if_pos (by omega), if_pos (by simp), hg, wr (by omega) (by omega)]
      rfl
    · have hp : 0 < acc.length := List.length_pos_iff.2 h0
      rw [if_pos (by omega), wr (by omega) (by omega), if_pos (by omega), if_pos (by omega), if_pos (by omega), hg, rd_last acc h0, wr (i := -l[i]) (by omega) (by omega)]
      by_cases e : acc.getLast h0 = -l[i]
      · rw [if_pos e, if_pos (by omega), wr (by omega) (by omega), show ((acc.length : Int) - 1).toNat = acc.length - 1 from by omega, ← List.dropLast_eq_take]
        have : red1 acc l[i] = acc.dropLast := by unfold red1; rw [if_pos (by rw [List.getLast?_eq_some_getLast h0, e])]
        rw [this]; rfl
      · rw [if_neg e, if_pos (by omega), wr (by omega) (by omega)]
        have : red1 acc l[i] = acc ++ [l[i]] := by unfold red1; rw [if_neg (by rw [List.getLast?_eq_some_getLast h0]; simpa using e)]
        rw [this]; rfl
theorem l2Reduce (l : List Int) (hl : l.length ≤ 1048576) (hm : Mild l) : Ev (fun k => spec_l2Reduce.f k l) (red l) :=
  Ev.congr (fun k => by unfold spec_l2Reduce.f; rfl) (Ev.pin (l2Reduce_round l hl hm l.length 0 [] (by omega) (by omega) (by simp)) (by simp [red]))
theorem reduced_round (l : List Int) (hl : l.length ≤ 1048576) (hm : Mild l) : ∀ (d i : Nat) (acc : List Int), i ≤ l.length → l.length - i = d → acc.length ≤ i →
    Ev (fun k => impl_reduced.l0 k acc l (l.length : Int) (i : Int)) (redF acc (l.drop i)) := by
  intro d
  induction d with
  | zero =>
    intro i acc hi hd ha
    refine Ev.succ (Ev.congr (f := fun _ => some acc) (fun k => ?_) (Ev.pin (Ev.now _) ?_))
    · simp only [impl_reduced.l0]; rw [if_neg (by omega)]
    · rw [List.drop_of_length_le (by omega)]; rfl
  | succ d ih =>
    intro i acc hi hd ha
    have hlt : i < l.length := by omega
    have hg : rd l (i : Int) = l[i] := by rw [rd_nat, List.getD_eq_getElem?_getD, List.getElem?_eq_getElem hlt]; rfl
    have hb := hm l[i] (List.getElem_mem hlt)
    rw [List.drop_eq_getElem_cons hlt]
    have h := ih (i + 1) (red1 acc l[i]) (by omega) (by omega) (by have := red1_len acc l[i]; omega)
    refine Ev.succ (Ev.congr (fun k => ?_) (Ev.pin h rfl))
    simp only [impl_reduced.l0]
    rw [if_pos (by omega), if_pos (by omega), if_pos (by omega)]
    by_cases h0 : acc = []
    · subst h0
      rw [if_neg (by rw [wr (by simp) (by simp)]; simp), if_pos (by simp), hg, wr (by omega) (by omega)]
      rfl
    · have hp : 0 < acc.length := List.length_pos_iff.2 h0
      rw [wr (i := (acc.length : Int) - 1) (by omega) (by omega), if_pos (by omega), if_pos (by omega), if_pos (by omega), hg, rd_last acc h0, wr (i := -l[i]) (by omega) (by omega)]
      by_cases e : acc.getLast h0 = -l[i]
      · rw [if_pos e, if_pos (by omega), wr (by omega) (by omega), show ((acc.length : Int) - 1).toNat = acc.length - 1 from by omega, ← List.dropLast_eq_take]
        have : red1 acc l[i] = acc.dropLast := by unfold red1; rw [if_pos (by rw [List.getLast?_eq_some_getLast h0, e])]
        rw [this]; rfl
      · rw [if_neg e, if_pos (by omega), wr (by omega) (by omega)]
        have : red1 acc l[i] = acc ++ [l[i]] := by unfold red1; rw [if_neg (by rw [List.getLast?_eq_some_getLast h0]; simpa using e)]
        rw [this]; rfl
theorem reduced (l : List Int) (hl : l.length ≤ 1048576) (hm : Mild l) : Ev (fun k => impl_reduced.f k l) (red l) :=
  Ev.congr (fun k => by unfold impl_reduced.f; rfl) (Ev.pin (reduced_round l hl hm l.length 0 [] (by omega) (by omega) (by simp)) (by simp [red]))

theorem rd_get (l : List Int) (i : Nat) (h : i < l.length) : rd l (i : Int) = l[i] := by
  rw [rd_nat, List.getD_eq_getElem?_getD, List.getElem?_eq_getElem h]; rfl

/-! reduced or not -/
theorem red1_snoc {acc : List Int} {x a : Int} (h : acc.getLast? = some a) (he : a ≠ -x) : red1 acc x = acc ++ [x] := by
  unfold red1; rw [if_neg (by rw [h]; simpa using he)]
theorem redF_full (l : List Int) : ∀ (acc : List Int) (a : Int), acc.getLast? = some a → ((redF acc l).length = acc.length + l.length ↔ isRed (a :: l) = true) := by
  induction l with
  | nil => intro acc a h; simp [redF, isRed]
  | cons x l ih =>
    intro acc a h
    by_cases e : a = -x
    · have h1 : red1 acc x = acc.dropLast := by unfold red1; rw [if_pos (by rw [h, e])]
      have h2 := redF_len l (acc.dropLast)
      have h3 : redF acc (x :: l) = redF acc.dropLast l := by simp only [redF, List.foldl_cons, h1]
      have hx : (x == -a) = true := by simp; omega
      rw [h3]
      simp only [isRed, hx, Bool.not_true, Bool.false_and, List.length_cons, Bool.false_eq_true, iff_false]
      simp at h2
      omega
    · have h1 := red1_snoc h e
      have h3 : redF acc (x :: l) = redF (acc ++ [x]) l := by simp only [redF, List.foldl_cons, h1]
      have hx : (x == -a) = false := by simp; omega
      have h4 := ih (acc ++ [x]) x (by simp)
      rw [h3]
      simp only [isRed, hx, Bool.not_false, Bool.true_and]
      rw [← h4]
      simp
      omega
theorem isRed_iff (l : List Int) : ((red l).length = l.length) ↔ isRed l = true := by
  cases l with
  | nil => simp [red, redF, isRed]
  | cons x l =>
    have h := redF_full l [x] x rfl
    have : red (x :: l) = redF [x] l := by simp [red, redF, red1]
    rw [this, ← h]
    simp
    omega
theorem isRed_eq (l : List Int) : (((red l).length : Int) == (l.length : Int)) = isRed l := by
  have h := isRed_iff l
  cases hb : isRed l with
  | true =>
    have h2 : (red l).length = l.length := h.2 hb
    rw [beq_iff_eq]; omega
  | false =>
    have h2 : ¬ ((red l).length = l.length) := by rw [h, hb]; simp
    rw [beq_eq_false_iff_ne]; omega

/-! nails -/
def nl (x : Int) : Int := if 0 ≤ x then x else -x
def nbit (x : Int) : Int := shl .i64 1 (nl x - 1)
def nailsV (l : List Int) : Int := l.foldl (fun s x => Go.bits .or .i64 s (nbit x)) 0
theorem mx_nl (x : Int) : mx x (-x) = nl x := by unfold mx nl; split <;> split <;> omega
theorem nl_bd (x : Int) (h0 : x ≠ 0) (hb : -4611686018427387904 ≤ x ∧ x ≤ 4611686018427387904) : 1 ≤ nl x ∧ nl x ≤ 4611686018427387904 := by unfold nl; split <;> omega
theorem nailBit (x : Int) (h0 : x ≠ 0) (hb : -4611686018427387904 ≤ x ∧ x ≤ 4611686018427387904) : impl_nailBit.f x = some (nbit x) := by
  have h := nl_bd x h0 hb
  unfold impl_nailBit.f impl_nail.f nbit
  rw [wr (i := -x) (by omega) (by omega), mx_nl, Option.bind_some, wr (i := nl x - 1) (by omega) (by omega), if_pos (by omega)]
theorem l2Nail (x : Int) (hb : -4611686018427387904 ≤ x ∧ x ≤ 4611686018427387904) : spec_l2Nail.f x = some (nl x) := by
  unfold spec_l2Nail.f spec_l1Most.f nl
  rw [wr (by omega) (by omega)]
  by_cases h : x > -x
  · rw [if_pos h, if_pos (by omega)]; rfl
  · rw [if_neg h]
    by_cases h2 : 0 ≤ x
    · rw [if_pos h2, show x = 0 from by omega]; rfl
    · rw [if_neg h2]; rfl
theorem isW_nz {l : List Int} (h : isW l = true) : ∀ x ∈ l, x ≠ 0 := fun x hx => (isW_mem h x hx).1
/-! texts -/
theorem snums_append (a b : List Int) : strOfNums (a ++ b) = strOfNums a ++ strOfNums b := by
  unfold strOfNums; apply ByteArray.ext; simp
theorem snums_size (a : List Int) : (strOfNums a).size = a.length := by unfold strOfNums; simp [ByteArray.size]
def chN (x : Int) : Int := if x > 0 then 96 + x else 64 - x
def textV (l : List Int) : ByteArray := strOfNums (l.map chN)
/-! texts read -/
def letV (c : Int) : Int := if 97 ≤ c ∧ c < 103 then c - 96 else if 65 ≤ c ∧ c < 71 then 64 - c else 0
theorem all_no {c : Int} (r : List Int) {α : Type} (a b : α) (h : letV c = 0) : (if (c :: r).all (fun c => decide (letV c ≠ 0)) = true then a else b) = b := if_neg (by simp [h])
theorem all_yes {c : Int} (r : List Int) (h : letV c ≠ 0) : (c :: r).all (fun c => decide (letV c ≠ 0)) = r.all (fun c => decide (letV c ≠ 0)) := by simp [h]
def vParse (l : List Int) : List Int × Bool := if l.length ≤ 64 ∧ l.all (fun c => decide (letV c ≠ 0)) = true then (l.map letV, true) else ([], false)
theorem bt_get (s : ByteArray) (i : Nat) (h : i < s.size) : bt s (i : Int) = (bytesOf s)[i]'(by rw [bytesOf_length]; exact h) := by
  rw [← rd_bytesOf, rd_get _ _ (by rw [bytesOf_length]; exact h)]
theorem bytes_range (s : ByteArray) : ∀ c ∈ bytesOf s, 0 ≤ c ∧ c ≤ 255 := by
  intro c hc
  unfold bytesOf at hc
  obtain ⟨b, _, rfl⟩ := List.mem_map.1 hc
  have := b.toNat_lt
  omega
def vFit (l : List Int) : List Int × Bool := if l.length ≤ 64 then (l, true) else ([], false)
theorem fitting (l : List Int) : impl_fitting.f l = some (vFit l) := by
  unfold impl_fitting.f vFit
  by_cases h : l.length ≤ 64
  · rw [if_neg (by omega), if_pos h]
  · rw [if_pos (by omega), if_neg h]

/-- No two neighbours are inverse. -/
def RedS (acc : List Int) : Prop := ∀ p x y q, acc = p ++ x :: y :: q → x ≠ -y
theorem RedS.nil : RedS [] := fun p x y q h => by
  have := congrArg List.length h; simp at this
theorem RedS.dropLast {acc : List Int} (h : RedS acc) : RedS acc.dropLast := fun p x y q e => by
  by_cases h0 : acc = []
  · subst h0; exact absurd e (by simp)
  · refine h p x y (q ++ [acc.getLast h0]) ?_
    have h3 := List.dropLast_concat_getLast h0
    generalize acc.getLast h0 = z at *
    rw [e] at h3
    rw [← h3]; simp
theorem RedS.snoc {acc : List Int} {x : Int} (h : RedS acc) (hx : acc.getLast? ≠ some (-x)) : RedS (acc ++ [x]) := fun p a b q e => by
  rcases List.eq_nil_or_concat q with rfl | ⟨q', z, rfl⟩
  · have e2 : acc ++ [x] = (p ++ [a]) ++ [b] := by rw [e]; simp
    obtain ⟨e3, e4⟩ := List.append_inj' e2 rfl
    have e5 : x = b := by simpa using e4
    intro hab
    apply hx
    rw [e3, e5, ← hab]; simp
  · have e2 : acc ++ [x] = (p ++ a :: b :: q') ++ [z] := by rw [e]; simp
    obtain ⟨e3, _⟩ := List.append_inj' e2 rfl
    exact h p a b q' e3
theorem RedS.red1 {acc : List Int} {x : Int} (h : RedS acc) : RedS (red1 acc x) := by
  unfold L.red1
  split
  · exact h.dropLast
  · exact h.snoc (by assumption)
theorem RedS.redF {l : List Int} : ∀ {acc : List Int}, RedS acc → RedS (redF acc l) := by
  induction l with
  | nil => intro acc h; exact h
  | cons x l ih => intro acc h; exact ih h.red1
theorem RedS.red (l : List Int) : RedS (red l) := RedS.redF RedS.nil
theorem red1_cancel {acc : List Int} (x : Int) (h : RedS acc) : red1 (red1 acc x) (-x) = acc := by
  by_cases e : acc.getLast? = some (-x)
  · have h0 : acc ≠ [] := by rintro rfl; simp at e
    have hl : acc.dropLast ++ [-x] = acc := by
      have := List.dropLast_concat_getLast h0
      rw [List.getLast?_eq_some_getLast h0] at e
      rw [← Option.some.inj e]; exact this
    have h1 : red1 acc x = acc.dropLast := by unfold red1; rw [if_pos e]
    rw [h1]
    unfold red1
    rw [if_neg, hl]
    intro e2
    by_cases h00 : acc.dropLast = []
    · rw [h00] at e2; simp at e2
    · have hl2 := List.dropLast_concat_getLast h00
      rw [List.getLast?_eq_some_getLast h00] at e2
      have hz := Option.some.inj e2
      generalize acc.dropLast.getLast h00 = z at *
      refine h acc.dropLast.dropLast z (-x) [] ?_ (by rw [hz])
      have h7 : acc.dropLast.dropLast ++ [z] ++ [-x] = acc := by rw [hl2]; exact hl
      simpa using h7.symm
  · have h1 : red1 acc x = acc ++ [x] := by unfold red1; rw [if_neg e]
    rw [h1]
    unfold red1
    rw [if_pos (by simp)]
    simp
theorem redF_snoc (acc l : List Int) (x : Int) : redF acc (l ++ [x]) = red1 (redF acc l) x := by simp [redF]
theorem redF_append (acc a b : List Int) : redF acc (a ++ b) = redF (redF acc a) b := by simp [redF]
theorem red_snoc (l : List Int) (x : Int) : red (l ++ [x]) = red1 (red l) x := redF_snoc [] l x
theorem redF_red {acc : List Int} (h : RedS acc) (l : List Int) : redF acc (red l) = redF acc l := by
  suffices H : ∀ m : List Int, redF acc (red m.reverse) = redF acc m.reverse by simpa using H l.reverse
  intro m
  induction m with
  | nil => rfl
  | cons x m ih =>
    rw [List.reverse_cons, red_snoc, redF_snoc, ← ih]
    by_cases e : (red m.reverse).getLast? = some (-x)
    · have h0 : red m.reverse ≠ [] := by intro h0; rw [h0] at e; simp at e
      have hl : (red m.reverse).dropLast ++ [-x] = red m.reverse := by
        have := List.dropLast_concat_getLast h0
        rw [List.getLast?_eq_some_getLast h0] at e
        rw [← Option.some.inj e]; exact this
      have h1 : red1 (red m.reverse) x = (red m.reverse).dropLast := by unfold red1; rw [if_pos e]
      rw [h1]
      conv => rhs; rw [← hl]
      rw [redF_snoc]
      have := red1_cancel (-x) (RedS.redF (l := (red m.reverse).dropLast) h)
      rw [Int.neg_neg] at this
      exact this.symm
    · have h1 : red1 (red m.reverse) x = red m.reverse ++ [x] := by unfold red1; rw [if_neg e]
      rw [h1, redF_snoc]
theorem red_red (l : List Int) : red (red l) = red l := redF_red RedS.nil l
theorem red_append (a b : List Int) : red (a ++ b) = redF (red a) b := redF_append [] a b
theorem red_left (a b : List Int) : red (red a ++ b) = red (a ++ b) := by rw [red_append, red_red, ← red_append]
theorem red_right (a b : List Int) : red (a ++ red b) = red (a ++ b) := by rw [red_append, redF_red (RedS.red a), ← red_append]
theorem red_both (a b : List Int) : red (red a ++ red b) = red (a ++ b) := by rw [red_left, red_right]
theorem vFit_len (l : List Int) : (vFit l).1.length ≤ 64 := by unfold vFit; split <;> simp; omega


/-- Nails, each once. -/
def nailsB : List Int → List Int → Bool
  | _, [] => true
  | pre, x :: r => decide (1 ≤ x ∧ x ≤ 6) && !(pre.contains x) && nailsB (pre ++ [x]) r
theorem pigeon (n : Nat) : ∀ l : List Int, l.Nodup → (∀ x ∈ l, 1 ≤ x ∧ x ≤ (n : Int)) → l.length ≤ n := by
  induction n with
  | zero =>
    intro l _ h
    cases l with
    | nil => simp
    | cons x l => have := h x (by simp); omega
  | succ n ih =>
    intro l hn h
    by_cases hm : ((n + 1 : Nat) : Int) ∈ l
    · have h1 := ih (l.erase ((n + 1 : Nat) : Int)) (hn.erase _) (fun x hx => by
        have h2 := (hn.mem_erase_iff).1 hx
        have := h x h2.2
        have := h2.1
        omega)
      rw [List.length_erase_of_mem hm] at h1
      omega
    · have := ih l hn (fun x hx => by
        have := h x hx
        have : x ≠ ((n + 1 : Nat) : Int) := fun e => hm (e ▸ hx)
        omega)
      omega
theorem nailsB_good : ∀ (r pre : List Int), nailsB pre r = true → pre.Nodup → (∀ x ∈ pre, 1 ≤ x ∧ x ≤ 6) → (pre ++ r).Nodup ∧ ∀ x ∈ pre ++ r, 1 ≤ x ∧ x ≤ 6 := by
  intro r
  induction r with
  | nil => intro pre _ h1 h2; simpa using ⟨h1, h2⟩
  | cons x r ih =>
    intro pre h h1 h2
    simp [nailsB] at h
    have := ih (pre ++ [x]) h.2 (by
      rw [List.nodup_append]
      refine ⟨h1, by simp, ?_⟩
      intro a ha b hb
      simp at hb
      rw [hb]
      intro e
      exact h.1.2 (e ▸ ha)) (by
      intro y hy
      simp at hy
      rcases hy with hy | rfl
      · exact h2 y hy
      · exact h.1.1)
    simpa using this
theorem nailsB_all {l : List Int} (h : nailsB [] l = true) : l.Nodup ∧ ∀ x ∈ l, 1 ≤ x ∧ x ≤ 6 := by simpa using nailsB_good l [] h (by simp) (by simp)
theorem nailsB_len {l : List Int} (h : nailsB [] l = true) : l.length ≤ 6 := pigeon 6 l (nailsB_all h).1 (by simpa using (nailsB_all h).2)
/-- A list of nails. -/
def areN (l : List Int) : Bool := nailsB [] l && decide (0 < l.length)
theorem areN_len {l : List Int} (h : areN l = true) : 0 < l.length ∧ l.length ≤ 6 := by
  unfold areN at h; simp at h
  exact ⟨h.2, nailsB_len h.1⟩
theorem areN_mem {l : List Int} (h : areN l = true) : ∀ x ∈ l, 1 ≤ x ∧ x ≤ 6 := by
  unfold areN at h; simp at h; exact (nailsB_all h.1).2
theorem Mild.ofN {l : List Int} (h : areN l = true) : Mild l := fun x hx => by have := areN_mem h x hx; omega
theorem snoc_take (l : List Int) (i : Nat) (h : i < l.length) : l.take (i + 1) = l.take i ++ [l[i]] := List.take_succ_eq_append_getElem h


/-- The commutator, reduced. -/
def comm (a b : List Int) : List Int := red (a ++ b ++ (inv a ++ inv b))
theorem comm_len (a b : List Int) : (comm a b).length ≤ 2 * (a.length + b.length) := by
  have h1 := red_len (a ++ b ++ (inv a ++ inv b)); have h2 := inv_len a; have h3 := inv_len b
  simp only [List.length_append] at h1; unfold comm; omega
theorem Mild.comm {a b : List Int} (ha : Mild a) (hb : Mild b) : Mild (comm a b) := ((ha.append hb).append (ha.inv.append hb.inv)).red
def leftF (acc l : List Int) : List Int := l.foldl (fun a x => comm a [x]) acc
def vLeftWord (l : List Int) : List Int × Bool := if areN l = true then vFit (leftF (l.take 1) (l.drop 1)) else ([], false)
theorem vLeftWord_len (l : List Int) (hl : l.length ≤ 1048576) : (vLeftWord l).1.length ≤ 1048576 := by
  unfold vLeftWord; split
  · have := vFit_len (leftF (l.take 1) (l.drop 1)); omega
  · simp
/-- Is a letter's nail in a set? -/
def nailIn (s x : Int) : Bool := Go.bits .and .i64 s (nbit x) != 0
def outOf (s : Int) (l : List Int) : List Int := l.filter fun x => !nailIn s x
theorem bit_at : ∀ (s : Fin 64) (n : Fin 6), (Go.bits .and .i64 (shr .i64 (s.val : Int) (n.val : Int)) 1 == 1) = (Go.bits .and .i64 (s.val : Int) (shl .i64 1 (n.val : Int)) != 0) := by decide +kernel
theorem nl_word (x : Int) (h0 : x ≠ 0) (hb : -6 ≤ x ∧ x ≤ 6) : 1 ≤ nl x ∧ nl x ≤ 6 := by unfold nl; split <;> omega
theorem outOf_mem {s : Int} {l : List Int} {x : Int} (h : x ∈ outOf s l) : x ∈ l := (List.mem_filter.1 h).1
theorem outOf_len (s : Int) (l : List Int) : (outOf s l).length ≤ l.length := List.length_filter_le _ _
theorem l3In (s n : Int) (hs : 0 ≤ s ∧ s ≤ 63) (hn : 1 ≤ n ∧ n ≤ 6) : spec_l3In.f s n = some (Go.bits .and .i64 s (shl .i64 1 (n - 1)) != 0) := by
  unfold spec_l3In.f
  rw [wr (by omega) (by omega), if_pos (by omega)]
  have := bit_at ⟨s.toNat, by omega⟩ ⟨(n - 1).toNat, by omega⟩
  rw [show ((s.toNat : Nat) : Int) = s from by omega, show (((n - 1).toNat : Nat) : Int) = n - 1 from by omega] at this
  rw [this]
theorem l3Take_round (l : List Int) (s : Int) (hl : l.length ≤ 1048576) (hs : 0 ≤ s ∧ s ≤ 63) (hL : ∀ x ∈ l, x ≠ 0 ∧ -6 ≤ x ∧ x ≤ 6) : ∀ (d i : Nat) (acc : List Int), i ≤ l.length → l.length - i = d → acc.length ≤ i → Mild acc →
    Ev (fun k => spec_l3Take.l0 k l s acc (i : Int)) (red (acc ++ outOf s (l.drop i))) := by
  intro d
  induction d with
  | zero =>
    intro i acc hi hd ha hm
    refine Ev.succ (Ev.congr (fun k => by rw [spec_l3Take.l0, if_neg (by omega)]) (Ev.bind (l2Reduce acc (by omega) hm) (Ev.pin (Ev.now _) ?_)))
    rw [List.drop_of_length_le (by omega)]; simp [outOf]
  | succ d ih =>
    intro i acc hi hd ha hm
    have hlt : i < l.length := by omega
    have hx := hL l[i] (List.getElem_mem hlt)
    have hn := nl_word l[i] hx.1 hx.2
    have hb : Go.bits .and .i64 s (shl .i64 1 (nl l[i] - 1)) = Go.bits .and .i64 s (nbit l[i]) := rfl
    rw [List.drop_eq_getElem_cons hlt]
    refine Ev.succ (Ev.congr (fun k => by rw [spec_l3Take.l0, if_pos (by omega), if_pos (by omega), rd_get l i hlt, l2Nail _ (by omega), Option.bind_some, l3In s _ hs hn, Option.bind_some, hb]) ?_)
    cases h : nailIn s l[i] with
    | true =>
      unfold nailIn at h
      refine Ev.congr (fun k => by rw [if_pos h, wr (by omega) (by omega)]; rfl) (Ev.pin (ih (i + 1) acc (by omega) (by omega) (by omega) hm) ?_)
      unfold outOf; rw [List.filter_cons_of_neg (by simp [nailIn, h])]
    | false =>
      unfold nailIn at h
      refine Ev.congr (fun k => by rw [if_neg (by rw [h]; simp), if_pos (by omega), wr (by omega) (by omega)]; rfl) (Ev.pin (ih (i + 1) (acc ++ [l[i]]) (by omega) (by omega) (by simp; omega) (hm.append (fun y hy => by simp at hy; rw [hy]; omega))) ?_)
      unfold outOf; rw [List.filter_cons_of_pos (by simp [nailIn, h])]; simp
theorem l3Take (l : List Int) (s : Int) (hl : l.length ≤ 1048576) (hs : 0 ≤ s ∧ s ≤ 63) (hL : ∀ x ∈ l, x ≠ 0 ∧ -6 ≤ x ∧ x ≤ 6) : Ev (fun k => spec_l3Take.f k l s) (red (outOf s l)) :=
  Ev.congr (fun k => by unfold spec_l3Take.f; rfl) (Ev.pin (l3Take_round l s hl hs hL l.length 0 [] (by omega) (by omega) (by simp) Mild.nil) (by simp))
theorem taken (l : List Int) (s : Int) (hl : l.length ≤ 1048576) (hL : ∀ x ∈ l, x ≠ 0 ∧ -6 ≤ x ∧ x ≤ 6) : Ev (fun k => impl_taken.f k l s) (red (outOf s l)) := by
  have hall : (l.all fun x => (impl_nailBit.f x).isSome) = true := by
    rw [List.all_eq_true]
    intro x hx
    have := hL x hx
    rw [nailBit x this.1 (by omega)]; rfl
  have hf : (l.filter fun x => !impl_taken.p s x) = outOf s l := by
    apply List.filter_congr
    intro x hx
    have := hL x hx
    unfold impl_taken.p nailIn
    rw [nailBit x this.1 (by omega)]; rfl
  refine Ev.congr (fun k => by unfold impl_taken.f; rw [if_pos ⟨by omega, hall⟩, hf]) ?_
  exact reduced _ (by have := outOf_len s l; omega) (fun x hx => by have := hL x (outOf_mem hx); omega)
theorem l3Falls (l : List Int) (s : Int) (hl : l.length ≤ 1048576) (hs : 0 ≤ s ∧ s ≤ 63) (hL : ∀ x ∈ l, x ≠ 0 ∧ -6 ≤ x ∧ x ≤ 6) : Ev (fun k => spec_l3Falls.f k l s) (red (outOf s l)).isEmpty := by
  refine Ev.congr (fun k => by unfold spec_l3Falls.f; rfl) (Ev.bind (l3Take l s hl hs hL) (Ev.pin (Ev.now _) ?_))
  cases red (outOf s l) with
  | nil => rfl
  | cons x l => simp; omega
theorem falls (l : List Int) (s : Int) (hl : l.length ≤ 1048576) (hL : ∀ x ∈ l, x ≠ 0 ∧ -6 ≤ x ∧ x ≤ 6) : Ev (fun k => impl_falls.f k l s) (red (outOf s l)).isEmpty := by
  refine Ev.congr (fun k => by unfold impl_falls.f; rfl) (Ev.bind (taken l s hl hL) (Ev.pin (Ev.now _) ?_))
  cases red (outOf s l) with
  | nil => rfl
  | cons x l => simp; omega
theorem nl_neg (x : Int) : nl (-x) = nl x := by unfold nl; split <;> split <;> omega
theorem nailIn_neg (s x : Int) : nailIn s (-x) = nailIn s x := by unfold nailIn nbit; rw [nl_neg]
theorem outOf_snoc (s : Int) (l : List Int) (x : Int) : outOf s (l ++ [x]) = if nailIn s x = true then outOf s l else outOf s l ++ [x] := by
  unfold outOf
  rw [List.filter_append]
  cases h : nailIn s x with
  | true => simp [h]
  | false => simp [h]
theorem red_outOf (s : Int) (l : List Int) : red (outOf s (red l)) = red (outOf s l) := by
  suffices H : ∀ m : List Int, red (outOf s (red m.reverse)) = red (outOf s m.reverse) by simpa using H l.reverse
  intro m
  induction m with
  | nil => rfl
  | cons x m ih =>
    rw [List.reverse_cons, red_snoc, outOf_snoc]
    by_cases e : (red m.reverse).getLast? = some (-x)
    · have h0 : red m.reverse ≠ [] := by intro h0; rw [h0] at e; simp at e
      have hl : (red m.reverse).dropLast ++ [-x] = red m.reverse := by
        have := List.dropLast_concat_getLast h0
        rw [List.getLast?_eq_some_getLast h0] at e
        rw [← Option.some.inj e]; exact this
      have h1 : red1 (red m.reverse) x = (red m.reverse).dropLast := by unfold red1; rw [if_pos e]
      rw [h1]
      rw [← hl, outOf_snoc, nailIn_neg] at ih
      cases hk : nailIn s x with
      | true =>
        rw [hk, if_pos rfl] at ih
        rw [if_pos rfl]; exact ih
      | false =>
        rw [hk, if_neg (by simp), red_snoc] at ih
        rw [if_neg (by simp), red_snoc, ← ih]
        have := red1_cancel (-x) (RedS.red (outOf s (red m.reverse).dropLast))
        rw [Int.neg_neg] at this
        exact this.symm
    · have h1 : red1 (red m.reverse) x = red m.reverse ++ [x] := by unfold red1; rw [if_neg e]
      rw [h1, outOf_snoc]
      cases hk : nailIn s x with
      | true => rw [if_pos rfl, if_pos rfl]; exact ih
      | false => rw [if_neg (by simp), if_neg (by simp), red_snoc, red_snoc, ih]
/-- Does a word fall for a set? -/
def fallsB (l : List Int) (s : Int) : Bool := (red (outOf s l)).isEmpty
theorem fallsB_mono (l : List Int) (a b : Int) (h : ∀ x ∈ l, nailIn a x = true → nailIn b x = true) (hf : fallsB l a = true) : fallsB l b = true := by
  have h1 : outOf b (outOf a l) = outOf b l := by
    unfold outOf
    rw [List.filter_filter]
    apply List.filter_congr
    intro x hx
    cases hb : nailIn b x with
    | true => simp
    | false =>
      cases ha : nailIn a x with
      | true => rw [h x hx ha] at hb; cases hb
      | false => rfl
  unfold fallsB at hf ⊢
  have h2 : red (outOf a l) = [] := List.isEmpty_iff.1 hf
  have h3 := red_outOf b (outOf a l)
  rw [h2, h1] at h3
  rw [← h3]; rfl
theorem and_at : ∀ (a b : Fin 64), Go.bits .and .i64 (a.val : Int) (b.val : Int) = (a.val : Int) → ∀ n : Fin 6, (Go.bits .and .i64 (a.val : Int) (shl .i64 1 (n.val : Int)) != 0) = true → (Go.bits .and .i64 (b.val : Int) (shl .i64 1 (n.val : Int)) != 0) = true := by decide +kernel
/-- For each set: does the word fall? -/
def tabOf (l : List Int) : TabB 64 := ⟨(List.range 64).map fun (s : Nat) => fallsB l (s : Int), by simp⟩
theorem up_ev {α : Type} {up : (Int → Option α) → Nat → Option (List α)} (h0 : ∀ g, up g 0 = some []) (h1 : ∀ g n, up g (n + 1) = (up g n).bind fun t => (g (n : Int)).bind fun b => some (t ++ [b])) {g : Nat → Int → Option α} {v : Int → α} : ∀ n : Nat, (∀ s : Nat, s < n → Ev (fun k => g k (s : Int)) (v (s : Int))) → Ev (fun k => up (g k) n) ((List.range n).map fun (s : Nat) => v (s : Int))
  | 0, _ => Ev.congr (f := fun _ => some []) (fun k => by rw [h0]) (Ev.now _)
  | n + 1, h => by
    refine Ev.congr (fun k => h1 (g k) n) ?_
    refine Ev.bind (up_ev h0 h1 n (fun s hs => h s (by omega))) ?_
    refine Ev.bind (h n (by omega)) ?_
    exact Ev.congr (f := fun _ => some ((List.range (n + 1)).map fun (s : Nat) => v (s : Int))) (fun k => by rw [List.range_succ, List.map_append]; rfl) (Ev.now _)
theorem fallTable (l : List Int) (hl : l.length ≤ 1048576) (hL : ∀ x ∈ l, x ≠ 0 ∧ -6 ≤ x ∧ x ≤ 6) : Ev (fun k => impl_fallTable.f k l) (tabOf l) := by
  have h := up_ev (up := impl_fallTable.up) (fun g => rfl) (fun g n => rfl) (g := fun k s => impl_falls.f k l s) (v := fallsB l) 64 (fun s _ => falls l (s : Int) hl hL)
  refine Ev.congr (fun k => by unfold impl_fallTable.f; rfl) (Ev.bind h ?_)
  exact Ev.congr (f := fun _ => some (tabOf l)) (fun k => by rw [dif_pos (by simp)]; rfl) (Ev.now _)
theorem l3Table (l : List Int) (hl : l.length ≤ 1048576) (hL : ∀ x ∈ l, x ≠ 0 ∧ -6 ≤ x ∧ x ≤ 6) : Ev (fun k => spec_l3Table.f k l) (tabOf l) := by
  have h := up_ev (up := spec_l3Table.up) (fun g => rfl) (fun g n => rfl) (g := fun k s => spec_l3Falls.f k l s) (v := fallsB l) 64 (fun s hs => l3Falls l (s : Int) hl (by omega) hL)
  refine Ev.congr (fun k => by unfold spec_l3Table.f; rfl) (Ev.bind h ?_)
  exact Ev.congr (f := fun _ => some (tabOf l)) (fun k => by rw [dif_pos (by simp)]; rfl) (Ev.now _)
/-- A table that rises with its sets. -/
def Rises (T : TabB 64) : Prop := ∀ a b : Fin 64, Go.bits .and .i64 (a.val : Int) (b.val : Int) = (a.val : Int) → T.rd (a.val : Int) = true → T.rd (b.val : Int) = true
theorem Rises.at {T : TabB 64} (h : Rises T) (a b : Int) (ha : 0 ≤ a ∧ a < 64) (hb : 0 ≤ b ∧ b < 64) (e : Go.bits .and .i64 a b = a) (t : T.rd a = true) : T.rd b = true := by
  have := h ⟨a.toNat, by omega⟩ ⟨b.toNat, by omega⟩
  rw [show ((a.toNat : Nat) : Int) = a from by omega, show ((b.toNat : Nat) : Int) = b from by omega] at this
  exact this e t
theorem tabOf_rd (l : List Int) (s : Int) (hs : 0 ≤ s ∧ s < 64) : (tabOf l).rd s = fallsB l s := by
  unfold TabB.rd tabOf
  rw [List.getD_eq_getElem?_getD, List.getElem?_map, List.getElem?_range (by omega)]
  show fallsB l ((s.toNat : Nat) : Int) = _
  rw [show ((s.toNat : Nat) : Int) = s from by omega]
theorem tabOf_rises (l : List Int) (hL : ∀ x ∈ l, x ≠ 0 ∧ -6 ≤ x ∧ x ≤ 6) : Rises (tabOf l) := by
  intro a b e h
  rw [tabOf_rd l _ (by omega)] at h ⊢
  refine fallsB_mono l _ _ (fun x hx hn => ?_) h
  have hw := hL x hx
  have hb := nl_word x hw.1 hw.2
  have := and_at a b e ⟨(nl x - 1).toNat, by omega⟩
  rw [show (((nl x - 1).toNat : Nat) : Int) = nl x - 1 from by omega] at this
  exact this hn
/-- The sets from i on, d of them, for which something is so. -/
def sel (p : Int → Bool) : Nat → Nat → List Int
  | _, 0 => []
  | i, d + 1 => if p (i : Int) = true then (i : Int) :: sel p (i + 1) d else sel p (i + 1) d
theorem sel_congr {p q : Int → Bool} : ∀ (d i : Nat), (∀ s : Nat, i ≤ s → s < i + d → p (s : Int) = q (s : Int)) → sel p i d = sel q i d
  | 0, _, _ => rfl
  | d + 1, i, h => by
    unfold sel
    rw [h i (by omega) (by omega), sel_congr d (i + 1) (fun s h1 h2 => h s (by omega) (by omega))]
theorem sel_len (p : Int → Bool) : ∀ (d i : Nat), (sel p i d).length ≤ d
  | 0, _ => by simp [sel]
  | d + 1, i => by
    have := sel_len p d (i + 1)
    unfold sel
    split
    · simp; omega
    · omega
theorem sel_mem (p : Int → Bool) (x : Int) : ∀ (d i : Nat), x ∈ sel p i d ↔ (i : Int) ≤ x ∧ x < ((i + d : Nat) : Int) ∧ p x = true
  | 0, i => by simp [sel]; omega
  | d + 1, i => by
    have ih := sel_mem p x d (i + 1)
    unfold sel
    by_cases h : p (i : Int) = true
    · rw [if_pos h, List.mem_cons, ih]
      constructor
      · rintro (e | ⟨h1, h2, h3⟩)
        · subst e; exact ⟨by omega, by omega, h⟩
        · exact ⟨by omega, by omega, h3⟩
      · rintro ⟨h1, h2, h3⟩
        by_cases e : x = (i : Int)
        · exact .inl e
        · exact .inr ⟨by omega, by omega, h3⟩
    · rw [if_neg h, ih]
      constructor
      · rintro ⟨h1, h2, h3⟩; exact ⟨by omega, by omega, h3⟩
      · rintro ⟨h1, h2, h3⟩
        have : x ≠ (i : Int) := fun e => h (e ▸ h3)
        exact ⟨by omega, by omega, h3⟩
/-- Is a set on a table's edge? -/
def edgeB (T : TabB 64) (v : Bool) (s : Int) : Bool := !((List.range 6).any fun n => P.spec_l3Edge.bad T s v (n : Int)) && (T.rd s == v)
theorem l3Edge (T : TabB 64) (v : Bool) (s : Int) (hs : 0 ≤ s ∧ s < 64) : P.spec_l3Edge.f T s v = some (edgeB T v s) := by
  unfold P.spec_l3Edge.f edgeB; rw [if_pos hs]
/-- Is a set still a least one, from part j on? -/
def lo (T : TabB 64) (s : Int) : Nat → Nat → Bool → Bool
  | _, 0, b => b
  | j, d + 1, b => lo T s (j + 1) d (b && !(decide (Go.bits .and .i64 (j : Int) s = (j : Int)) && T.rd (j : Int)))
theorem lo_iff (T : TabB 64) (s : Int) : ∀ (d j : Nat) (b : Bool), lo T s j d b = true ↔ b = true ∧ ∀ p : Nat, j ≤ p → p < j + d → Go.bits .and .i64 (p : Int) s = (p : Int) → T.rd (p : Int) = false
  | 0, j, b => by simp [lo]; intro _ p h1 h2; omega
  | d + 1, j, b => by
    rw [lo, lo_iff T s d (j + 1)]
    constructor
    · rintro ⟨h1, h2⟩
      rw [Bool.and_eq_true] at h1
      refine ⟨h1.1, fun p hp1 hp2 he => ?_⟩
      by_cases e : p = j
      · subst e; have h3 := h1.2; simp [he] at h3; exact h3
      · exact h2 p (by omega) (by omega) he
    · rintro ⟨rfl, h2⟩
      refine ⟨?_, fun p hp1 hp2 he => h2 p (by omega) (by omega) he⟩
      by_cases he : Go.bits .and .i64 (j : Int) s = (j : Int)
      · simp [he, h2 j (by omega) (by omega) he]
      · simp [he]
theorem leastOf_in (T : TabB 64) (r : List Int) (acc : List Int) (s : Nat) (hs : s < 64) (ha : acc.length ≤ 64) : ∀ (d j : Nat) (b : Bool), j + d = s →
    Ev (fun k => P.impl_leastOf.l0 k (if lo T (s : Int) j d b = true then acc ++ [(s : Int)] else acc) T ((s + 1 : Nat) : Int) T) r → Ev (fun k => P.impl_leastOf.l1 k acc (s : Int) b T (s : Int) (s : Int) (j : Int) T) r := by
  intro d
  induction d with
  | zero =>
    intro j b hj h
    cases b with
    | true => exact Ev.succ (Ev.congr (fun k => by rw [P.impl_leastOf.l1, if_neg (by omega), if_pos rfl, if_pos (by omega), wr (by omega) (by omega)]; rfl) h)
    | false => exact Ev.succ (Ev.congr (fun k => by rw [P.impl_leastOf.l1, if_neg (by omega), if_neg (by simp), wr (by omega) (by omega)]; rfl) h)
  | succ d ih =>
    intro j b hj h
    rw [lo] at h
    cases b with
    | false =>
      refine Ev.succ (Ev.congr (fun k => by rw [P.impl_leastOf.l1, if_pos (by omega), if_neg (by simp), wr (by omega) (by omega)]; rfl) (ih (j + 1) false (by omega) ?_))
      simpa using h
    | true =>
      by_cases he : Go.bits .and .i64 (j : Int) (s : Int) = (j : Int)
      · refine Ev.succ (Ev.congr (fun k => by rw [P.impl_leastOf.l1, if_pos (by omega), if_pos rfl, if_pos he, if_pos (by omega), if_pos (by omega), wr (by omega) (by omega)]; rfl) (ih (j + 1) (!(T.rd (j : Int))) (by omega) ?_))
        simpa [he] using h
      · refine Ev.succ (Ev.congr (fun k => by rw [P.impl_leastOf.l1, if_pos (by omega), if_pos rfl, if_neg he, wr (by omega) (by omega)]; rfl) (ih (j + 1) true (by omega) ?_))
        simpa [he] using h
def leastB (T : TabB 64) (s : Int) : Bool := lo T s 0 s.toNat (T.rd s)
theorem leastOf_round (T : TabB 64) : ∀ (d i : Nat) (acc : List Int), i + d = 64 → acc.length ≤ i → Ev (fun k => P.impl_leastOf.l0 k acc T (i : Int) T) (acc ++ sel (leastB T) i d) := by
  intro d
  induction d with
  | zero => intro i acc hi ha; exact Ev.succ (Ev.congr (f := fun _ => some acc) (fun k => by rw [P.impl_leastOf.l0, if_neg (by omega)]) (Ev.pin (Ev.now _) (by simp [sel])))
  | succ d ih =>
    intro i acc hi ha
    refine Ev.succ (Ev.congr (fun k => by rw [P.impl_leastOf.l0, if_pos (by omega), if_pos (by omega)]; rfl) (leastOf_in T _ acc i (by omega) (by omega) i 0 (T.rd (i : Int)) (by omega) ?_))
    by_cases h : leastB T (i : Int) = true
    · have h' : lo T (i : Int) 0 i (T.rd (i : Int)) = true := h
      rw [if_pos h', show sel (leastB T) i (d + 1) = (i : Int) :: sel (leastB T) (i + 1) d from by rw [sel, if_pos h]]
      exact Ev.pin (ih (i + 1) (acc ++ [(i : Int)]) (by omega) (by simp; omega)) (by simp)
    · have h' : ¬ lo T (i : Int) 0 i (T.rd (i : Int)) = true := h
      rw [if_neg h', show sel (leastB T) i (d + 1) = sel (leastB T) (i + 1) d from by rw [sel, if_neg h]]
      exact ih (i + 1) acc (by omega) (by omega)
theorem leastOf (T : TabB 64) : Ev (fun k => P.impl_leastOf.f k T) (sel (leastB T) 0 64) :=
  Ev.congr (fun k => by unfold P.impl_leastOf.f; rfl) (Ev.pin (leastOf_round T 64 0 [] (by omega) (by simp)) (by simp))
theorem part_less : ∀ (s : Fin 64) (n : Fin 6), Go.bits .xor .i64 (s.val : Int) (shl .i64 1 (n.val : Int)) < (s.val : Int) → Go.bits .and .i64 (Go.bits .xor .i64 (s.val : Int) (shl .i64 1 (n.val : Int))) (s.val : Int) = Go.bits .xor .i64 (s.val : Int) (shl .i64 1 (n.val : Int)) := by decide +kernel
theorem part_more : ∀ (s p : Fin 64), p.val < s.val → Go.bits .and .i64 (p.val : Int) (s.val : Int) = (p.val : Int) → ∃ n : Fin 6, Go.bits .xor .i64 (s.val : Int) (shl .i64 1 (n.val : Int)) < (s.val : Int) ∧ Go.bits .and .i64 (p.val : Int) (Go.bits .xor .i64 (s.val : Int) (shl .i64 1 (n.val : Int))) = (p.val : Int) := by decide +kernel
theorem least_edge (T : TabB 64) (hT : Rises T) (s : Nat) (hs : s < 64) : leastB T (s : Int) = edgeB T true (s : Int) := by
  rw [Bool.eq_iff_iff]
  unfold leastB edgeB
  rw [lo_iff, Bool.and_eq_true, Bool.not_eq_true', List.any_eq_false]
  simp only [Int.toNat_natCast, beq_true, List.mem_range, Nat.zero_le, forall_const, Nat.zero_add]
  constructor
  · rintro ⟨h1, h2⟩
    refine ⟨fun n hn hb => ?_, h1⟩
    unfold P.spec_l3Edge.bad P.spec_l3Edge.o at hb
    have ho := P.spec_l3Edge.o_in (s : Int) (n : Int) (by omega) (by omega)
    unfold P.spec_l3Edge.o at ho
    rw [Bool.and_eq_true, beq_true, beq_true, decide_eq_true_iff] at hb
    have hp := part_less ⟨s, hs⟩ ⟨n, hn⟩ hb.2
    have := h2 (Go.bits .xor .i64 (s : Int) (shl .i64 1 (n : Int))).toNat (by omega)
    rw [show ((((Go.bits .xor .i64 (s : Int) (shl .i64 1 (n : Int))).toNat : Nat)) : Int) = Go.bits .xor .i64 (s : Int) (shl .i64 1 (n : Int)) from by omega] at this
    rw [this hp] at hb
    exact absurd hb.1 (by simp)
  · rintro ⟨h1, h2⟩
    refine ⟨h2, fun p hp he => ?_⟩
    obtain ⟨n, hn1, hn2⟩ := part_more ⟨s, hs⟩ ⟨p, by omega⟩ hp he
    have ho := P.spec_l3Edge.o_in (s : Int) (n.val : Int) (by omega) (by omega)
    unfold P.spec_l3Edge.o at ho
    cases ht : T.rd (p : Int) with
    | false => rfl
    | true =>
      have := h1 n.val n.isLt
      unfold P.spec_l3Edge.bad P.spec_l3Edge.o at this
      exact absurd (by rw [Bool.and_eq_true, beq_true, beq_true, decide_eq_true_iff]; exact ⟨hT.at _ _ (by omega) ho hn2 ht, hn1⟩) this
/-- Is a set still a greatest one, from set j on? -/
def hi (T : TabB 64) (s : Int) : Nat → Nat → Bool → Bool
  | _, 0, b => b
  | j, d + 1, b => hi T s (j + 1) d (b && !(decide (Go.bits .and .i64 (j : Int) s = s) && !T.rd (j : Int)))
theorem hi_iff (T : TabB 64) (s : Int) : ∀ (d j : Nat) (b : Bool), hi T s j d b = true ↔ b = true ∧ ∀ p : Nat, j ≤ p → p < j + d → Go.bits .and .i64 (p : Int) s = s → T.rd (p : Int) = true
  | 0, j, b => by simp [hi]; intro _ p h1 h2; omega
  | d + 1, j, b => by
    rw [hi, hi_iff T s d (j + 1)]
    constructor
    · rintro ⟨h1, h2⟩
      rw [Bool.and_eq_true] at h1
      refine ⟨h1.1, fun p hp1 hp2 he => ?_⟩
      by_cases e : p = j
      · subst e; have h3 := h1.2; simp [he] at h3; exact h3
      · exact h2 p (by omega) (by omega) he
    · rintro ⟨rfl, h2⟩
      refine ⟨?_, fun p hp1 hp2 he => h2 p (by omega) (by omega) he⟩
      by_cases he : Go.bits .and .i64 (j : Int) s = s
      · simp [he, h2 j (by omega) (by omega) he]
      · simp [he]
theorem GreatestHangs_in (T : TabB 64) (r : List Int × Bool) (acc : List Int) (s : Nat) (hs : s < 64) (ha : acc.length ≤ 64) : ∀ (d j : Nat) (b : Bool), j + d = 64 →
    Ev (fun k => P.impl_GreatestHangs.l0 k (if hi T (s : Int) j d b = true then acc ++ [(s : Int)] else acc) T ((s + 1 : Nat) : Int) T) r → Ev (fun k => P.impl_GreatestHangs.l1 k acc (s : Int) b (j : Int) T (s : Int) T) r := by
  intro d
  induction d with
  | zero =>
    intro j b hj h
    cases b with
    | true => exact Ev.succ (Ev.congr (fun k => by rw [P.impl_GreatestHangs.l1, if_neg (by omega), if_pos rfl, if_pos (by omega), wr (by omega) (by omega)]; rfl) h)
    | false => exact Ev.succ (Ev.congr (fun k => by rw [P.impl_GreatestHangs.l1, if_neg (by omega), if_neg (by simp), wr (by omega) (by omega)]; rfl) h)
  | succ d ih =>
    intro j b hj h
    rw [hi] at h
    cases b with
    | false =>
      refine Ev.succ (Ev.congr (fun k => by rw [P.impl_GreatestHangs.l1, if_pos (by omega), if_neg (by simp), wr (by omega) (by omega)]; rfl) (ih (j + 1) false (by omega) ?_))
      simpa using h
    | true =>
      by_cases he : Go.bits .and .i64 (j : Int) (s : Int) = (s : Int)
      · refine Ev.succ (Ev.congr (fun k => by rw [P.impl_GreatestHangs.l1, if_pos (by omega), if_pos rfl, if_pos he, if_pos (by omega), wr (by omega) (by omega)]; rfl) (ih (j + 1) (!(!(T.rd (j : Int)))) (by omega) ?_))
        simpa [he] using h
      · refine Ev.succ (Ev.congr (fun k => by rw [P.impl_GreatestHangs.l1, if_pos (by omega), if_pos rfl, if_neg he, wr (by omega) (by omega)]; rfl) (ih (j + 1) true (by omega) ?_))
        simpa [he] using h
def mostB (T : TabB 64) (s : Int) : Bool := hi T s (s.toNat + 1) (63 - s.toNat) (!T.rd s)
theorem GreatestHangs_round (T : TabB 64) : ∀ (d i : Nat) (acc : List Int), i + d = 64 → acc.length ≤ i → Ev (fun k => P.impl_GreatestHangs.l0 k acc T (i : Int) T) (acc ++ sel (mostB T) i d, true) := by
  intro d
  induction d with
  | zero => intro i acc hi ha; exact Ev.succ (Ev.congr (f := fun _ => some (acc, true)) (fun k => by rw [P.impl_GreatestHangs.l0, if_neg (by omega)]) (Ev.pin (Ev.now _) (by simp [sel])))
  | succ d ih =>
    intro i acc hi ha
    refine Ev.succ (Ev.congr (fun k => by rw [P.impl_GreatestHangs.l0, if_pos (by omega), if_pos (by omega), wr (by omega) (by omega)]; rfl) (GreatestHangs_in T _ acc i (by omega) (by omega) (63 - i) (i + 1) (!T.rd (i : Int)) (by omega) ?_))
    by_cases h : mostB T (i : Int) = true
    · have h' : L.hi T (i : Int) (i + 1) (63 - i) (!T.rd (i : Int)) = true := h
      rw [if_pos h', show sel (mostB T) i (d + 1) = (i : Int) :: sel (mostB T) (i + 1) d from by rw [sel, if_pos h]]
      exact Ev.pin (ih (i + 1) (acc ++ [(i : Int)]) (by omega) (by simp; omega)) (by simp)
    · have h' : ¬ L.hi T (i : Int) (i + 1) (63 - i) (!T.rd (i : Int)) = true := h
      rw [if_neg h', show sel (mostB T) i (d + 1) = sel (mostB T) (i + 1) d from by rw [sel, if_neg h]]
      exact ih (i + 1) acc (by omega) (by omega)
theorem whole_more : ∀ (s : Fin 64) (n : Fin 6), ¬ Go.bits .xor .i64 (s.val : Int) (shl .i64 1 (n.val : Int)) < (s.val : Int) → (s.val : Int) < Go.bits .xor .i64 (s.val : Int) (shl .i64 1 (n.val : Int)) ∧ Go.bits .and .i64 (Go.bits .xor .i64 (s.val : Int) (shl .i64 1 (n.val : Int))) (s.val : Int) = (s.val : Int) := by decide +kernel
theorem whole_less : ∀ (s p : Fin 64), s.val < p.val → Go.bits .and .i64 (p.val : Int) (s.val : Int) = (s.val : Int) → ∃ n : Fin 6, ¬ Go.bits .xor .i64 (s.val : Int) (shl .i64 1 (n.val : Int)) < (s.val : Int) ∧ Go.bits .and .i64 (Go.bits .xor .i64 (s.val : Int) (shl .i64 1 (n.val : Int))) (p.val : Int) = Go.bits .xor .i64 (s.val : Int) (shl .i64 1 (n.val : Int)) := by decide +kernel
theorem most_edge (T : TabB 64) (hT : Rises T) (s : Nat) (hs : s < 64) : mostB T (s : Int) = edgeB T false (s : Int) := by
  rw [Bool.eq_iff_iff]
  unfold mostB edgeB
  rw [hi_iff, Bool.and_eq_true]
  simp only [Bool.not_eq_true', List.any_eq_false, Int.toNat_natCast, beq_false, List.mem_range]
  constructor
  · rintro ⟨h1, h2⟩
    refine ⟨fun n hn hb => ?_, h1⟩
    unfold P.spec_l3Edge.bad P.spec_l3Edge.o at hb
    have ho := P.spec_l3Edge.o_in (s : Int) (n : Int) (by omega) (by omega)
    unfold P.spec_l3Edge.o at ho
    rw [Bool.and_eq_true, beq_false, beq_false, Bool.not_eq_true', Bool.not_eq_true', decide_eq_false_iff_not] at hb
    have hp := whole_more ⟨s, hs⟩ ⟨n, hn⟩ hb.2
    simp only at hp
    have := h2 (Go.bits .xor .i64 (s : Int) (shl .i64 1 (n : Int))).toNat (by omega) (by omega)
    rw [show ((((Go.bits .xor .i64 (s : Int) (shl .i64 1 (n : Int))).toNat : Nat)) : Int) = Go.bits .xor .i64 (s : Int) (shl .i64 1 (n : Int)) from by omega] at this
    rw [this hp.2] at hb
    exact absurd hb.1 (by simp)
  · rintro ⟨h1, h2⟩
    refine ⟨h2, fun p hp1 hp2 he => ?_⟩
    obtain ⟨n, hn1, hn2⟩ := whole_less ⟨s, hs⟩ ⟨p, by omega⟩ (by show s < p; omega) he
    have ho := P.spec_l3Edge.o_in (s : Int) (n.val : Int) (by omega) (by omega)
    unfold P.spec_l3Edge.o at ho
    have := h1 n.val n.isLt
    unfold P.spec_l3Edge.bad P.spec_l3Edge.o at this
    cases ht : T.rd (Go.bits .xor .i64 (s : Int) (shl .i64 1 (n.val : Int))) with
    | false => exact absurd (by rw [Bool.and_eq_true, beq_false, beq_false, ht, Bool.not_eq_true', Bool.not_eq_true', decide_eq_false_iff_not]; exact ⟨rfl, hn1⟩) this
    | true => exact hT.at _ _ ho (by omega) hn2 ht
/-- How many nails are in a set. -/
def pc (s : Int) : Int := (((List.range 6).filter fun (n : Nat) => Go.bits .and .i64 s (shl .i64 1 (n : Int)) != 0).length : Int)
theorem many_at : ∀ s : Fin 64, P.impl_many.f (s.val : Int) = some (pc (s.val : Int)) := by decide +kernel
theorem many (s : Int) (hs : 0 ≤ s ∧ s < 64) : P.impl_many.f s = some (pc s) := by
  have := many_at ⟨s.toNat, by omega⟩
  rwa [show ((s.toNat : Nat) : Int) = s from by omega] at this
theorem l3Many_at : ∀ s : Fin 64, P.spec_l3Many.f 8 (s.val : Int) = some (pc (s.val : Int)) := by decide +kernel
theorem l3Many (s : Int) (hs : 0 ≤ s ∧ s < 64) : Ev (fun k => P.spec_l3Many.f k s) (pc s) := by
  have := l3Many_at ⟨s.toNat, by omega⟩
  rw [show ((s.toNat : Nat) : Int) = s from by omega] at this
  exact Ev.of (fun k => P.spec_l3Many.mono s k) this
theorem pc_at : ∀ s : Fin 64, pc (s.val : Int) ≤ 6 ∧ (pc (s.val : Int) = 6 → s.val = 63) := by decide +kernel
theorem pc63 : pc 63 = 6 := by decide +kernel
/-- The better of two sets: the one with fewer nails, the first one of equals. -/
def Better (pc : Int → Int) (a b : Int) : Prop := pc a < pc b ∨ pc a = pc b ∧ a ≤ b
/-- b is the best of 63 and of the sets of p from lo to hi. -/
def Best (pc : Int → Int) (p : Int → Bool) (lo hi b : Int) : Prop := (b = 63 ∨ (lo ≤ b ∧ b < hi ∧ p b = true)) ∧ Better pc b 63 ∧ ∀ s, lo ≤ s → s < hi → p s = true → Better pc b s
theorem Best.one {pc : Int → Int} {p : Int → Bool} {lo hi a b : Int} (ha : Best pc p lo hi a) (hb : Best pc p lo hi b) : a = b := by
  have h1 : Better pc a b := by
    rcases hb.1 with e | ⟨e1, e2, e3⟩
    · rw [e]; exact ha.2.1
    · exact ha.2.2 b e1 e2 e3
  have h2 : Better pc b a := by
    rcases ha.1 with e | ⟨e1, e2, e3⟩
    · rw [e]; exact hb.2.1
    · exact hb.2.2 a e1 e2 e3
  unfold Better at h1 h2
  omega
theorem FewestNails_up (T : TabB 64) : ∀ (d i : Nat) (b : Int), i + d = 64 → 0 ≤ b ∧ b < 64 → Best pc T.rd 0 (i : Int) b → ∃ c : Int, Best pc T.rd 0 64 c ∧ 0 ≤ c ∧ c < 64 ∧ Ev (fun k => P.impl_FewestNails.l0 k b T (i : Int)) (pc c, c, true) := by
  intro d
  induction d with
  | zero =>
    intro i b hi hb h
    have : i = 64 := by omega
    subst this
    exact ⟨b, h, hb.1, hb.2, Ev.succ (Ev.congr (f := fun _ => some (pc b, b, true)) (fun k => by rw [P.impl_FewestNails.l0, if_neg (by omega), many b hb, Option.bind_some]) (Ev.now _))⟩
  | succ d ih =>
    intro i b hi hb h
    by_cases ht : T.rd (i : Int) = true
    · by_cases hlt : pc (i : Int) < pc b
      · obtain ⟨c, h1, h2, h3, h4⟩ := ih (i + 1) (i : Int) (by omega) (by omega) ⟨.inr ⟨by omega, by omega, ht⟩, by have := h.2.1; unfold Better at this ⊢; omega, fun s hs1 hs2 hs3 => by
          by_cases e : s = (i : Int)
          · subst e; right; omega
          · have := h.2.2 s hs1 (by omega) hs3; unfold Better at this ⊢; omega⟩
        exact ⟨c, h1, h2, h3, Ev.succ (Ev.congr (fun k => by rw [P.impl_FewestNails.l0, if_pos (by omega), if_pos (by omega), if_pos ht, many _ (by omega), Option.bind_some, many b hb, Option.bind_some, if_pos hlt, wr (by omega) (by omega)]; rfl) h4)⟩
      · obtain ⟨c, h1, h2, h3, h4⟩ := ih (i + 1) b (by omega) hb ⟨by rcases h.1 with e | ⟨e1, e2, e3⟩; exact .inl e; exact .inr ⟨e1, by omega, e3⟩, h.2.1, fun s hs1 hs2 hs3 => by
          by_cases e : s = (i : Int)
          · subst e
            unfold Better
            rcases h.1 with e | ⟨e1, e2, e3⟩
            · subst e
              have h6 := pc_at ⟨i, by omega⟩
              have := pc63
              simp only at h6
              omega
            · omega
          · exact h.2.2 s hs1 (by omega) hs3⟩
        exact ⟨c, h1, h2, h3, Ev.succ (Ev.congr (fun k => by rw [P.impl_FewestNails.l0, if_pos (by omega), if_pos (by omega), if_pos ht, many _ (by omega), Option.bind_some, many b hb, Option.bind_some, if_neg hlt, wr (by omega) (by omega)]; rfl) h4)⟩
    · obtain ⟨c, h1, h2, h3, h4⟩ := ih (i + 1) b (by omega) hb ⟨by rcases h.1 with e | ⟨e1, e2, e3⟩; exact .inl e; exact .inr ⟨e1, by omega, e3⟩, h.2.1, fun s hs1 hs2 hs3 => h.2.2 s hs1 (by have : s ≠ (i : Int) := fun e => ht (e ▸ hs3); omega) hs3⟩
      exact ⟨c, h1, h2, h3, Ev.succ (Ev.congr (fun k => by rw [P.impl_FewestNails.l0, if_pos (by omega), if_pos (by omega), if_neg ht, wr (by omega) (by omega)]; rfl) h4)⟩
theorem FewestNails_down (T : TabB 64) : ∀ (i : Nat) (b : Int), i ≤ 63 → 0 ≤ b ∧ b < 64 → Best pc T.rd (i : Int) 64 b → ∃ c : Int, Best pc T.rd 0 64 c ∧ 0 ≤ c ∧ c < 64 ∧ Ev (fun k => P.spec_FewestNails.l0 k b ((i : Int) - 1) T) (pc c, c, true) := by
  intro i
  induction i with
  | zero =>
    intro b hi hb h
    exact ⟨b, h, hb.1, hb.2, Ev.succ (Ev.congr (fun k => by rw [P.spec_FewestNails.l0, if_neg (by omega)]) (Ev.bind (l3Many b hb) (Ev.now _)))⟩
  | succ i ih =>
    intro b hi hb h
    rw [show (((i + 1 : Nat) : Int) - 1) = (i : Int) from by omega]
    by_cases ht : T.rd (i : Int) = true
    · by_cases hle : pc (i : Int) ≤ pc b
      · obtain ⟨c, h1, h2, h3, h4⟩ := ih (i : Int) (by omega) (by omega) ⟨.inr ⟨by omega, by omega, ht⟩, by
            have h5 := h.2.1
            have h6 := pc_at ⟨i, by omega⟩
            have := pc63
            simp only at h6
            unfold Better at h5 ⊢; omega, fun s hs1 hs2 hs3 => by
          by_cases e : s = (i : Int)
          · subst e; right; omega
          · have := h.2.2 s (by omega) hs2 hs3; unfold Better at this ⊢; omega⟩
        refine ⟨c, h1, h2, h3, Ev.succ (Ev.congr (fun k => by rw [P.spec_FewestNails.l0, if_pos (by omega), if_pos (by omega), if_pos (by omega), if_pos ht]) ?_)⟩
        refine Ev.bind (l3Many _ (by omega)) ?_
        refine Ev.bind (l3Many b hb) ?_
        exact Ev.congr (fun k => by rw [if_pos hle, wr (by omega) (by omega)]) h4
      · obtain ⟨c, h1, h2, h3, h4⟩ := ih b (by omega) hb ⟨by rcases h.1 with e | ⟨e1, e2, e3⟩; exact .inl e; exact .inr ⟨by omega, e2, e3⟩, h.2.1, fun s hs1 hs2 hs3 => by
          by_cases e : s = (i : Int)
          · subst e; left; omega
          · exact h.2.2 s (by omega) hs2 hs3⟩
        refine ⟨c, h1, h2, h3, Ev.succ (Ev.congr (fun k => by rw [P.spec_FewestNails.l0, if_pos (by omega), if_pos (by omega), if_pos (by omega), if_pos ht]) ?_)⟩
        refine Ev.bind (l3Many _ (by omega)) ?_
        refine Ev.bind (l3Many b hb) ?_
        exact Ev.congr (fun k => by rw [if_neg hle, wr (by omega) (by omega)]) h4
    · obtain ⟨c, h1, h2, h3, h4⟩ := ih b (by omega) hb ⟨by rcases h.1 with e | ⟨e1, e2, e3⟩; exact .inl e; exact .inr ⟨by omega, e2, e3⟩, h.2.1, fun s hs1 hs2 hs3 => h.2.2 s (by have : s ≠ (i : Int) := fun e => ht (e ▸ hs3); omega) hs2 hs3⟩
      exact ⟨c, h1, h2, h3, Ev.succ (Ev.congr (fun k => by rw [P.spec_FewestNails.l0, if_pos (by omega), if_pos (by omega), if_pos (by omega), if_neg ht, wr (by omega) (by omega)]) h4)⟩
theorem Best.start (T : TabB 64) : Best pc T.rd 0 (0 : Nat) 63 := ⟨.inl rfl, .inr ⟨rfl, by omega⟩, fun s h1 h2 _ => by omega⟩
theorem Best.top (T : TabB 64) : Best pc T.rd (63 : Nat) 64 63 := ⟨.inl rfl, .inr ⟨rfl, by omega⟩, fun s h1 h2 _ => .inr (by have e : s = 63 := (by omega); exact ⟨by rw [e], by omega⟩)⟩
theorem FewestNails_both (l : List Int) (hl : l.length ≤ 1048576) : ∃ v : Int × Int × Bool, Ev (fun k => P.spec_FewestNails.f k l) v ∧ Ev (fun k => P.impl_FewestNails.f k l) v ∧ v.2.2 = isW l ∧ (isW l = true → Best pc (tabOf l).rd 0 64 v.2.1 ∧ v.1 = pc v.2.1) := by
  cases h : isW l with
  | true =>
    obtain ⟨c, h1, h2, h3, h4⟩ := FewestNails_up (tabOf l) 64 0 63 (by omega) (by omega) (Best.start _)
    obtain ⟨c', h1', h2', h3', h4'⟩ := FewestNails_down (tabOf l) 63 63 (by omega) (by omega) (Best.top _)
    obtain rfl := Best.one h1 h1'
    refine ⟨(pc c, c, true), ?_, ?_, rfl, fun _ => ⟨h1, rfl⟩⟩
    · refine Ev.congr (fun k => by unfold P.spec_FewestNails.f; rfl) (Ev.bind (l2Word l (by omega)) ?_)
      rw [h]
      simp only [↓reduceIte]
      exact Ev.bind (l3Table l hl (isW_mem h)) h4'
    · refine Ev.congr (fun k => by unfold P.impl_FewestNails.f; rw [isWord, Option.bind_some, h, if_pos rfl]) ?_
      exact Ev.bind (fallTable l hl (isW_mem h)) h4
  | false =>
    refine ⟨(0, 0, false), ?_, ?_, rfl, fun e => absurd e (by simp)⟩
    · refine Ev.congr (fun k => by unfold P.spec_FewestNails.f; rfl) (Ev.bind (l2Word l (by omega)) ?_)
      rw [h]; simp only [Bool.false_eq_true, ↓reduceIte]; exact Ev.now _
    · exact Ev.congr (f := fun _ => some (0, 0, false)) (fun k => by unfold P.impl_FewestNails.f; rw [isWord, Option.bind_some, h, if_neg (by simp)]) (Ev.now _)
end Go.Proofs.Ytheicbcedhfahaa.L
