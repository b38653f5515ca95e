/- The plain words for FnExactPowerWord: lists, what the printed functions come to. Conditions: as each lemma says. -/
import Derived.Test.YtheicbcedhfahaaPx0
import Derived.Test.YtheicbcedhfahaaPx1
import Derived.Test.YtheicbcedhfahaaPx15
import Derived.Test.YtheicbcedhfahaaPx16
import Derived.Test.YtheicbcedhfahaaPx2
import Derived.Test.YtheicbcedhfahaaPx3
import Derived.Test.YtheicbcedhfahaaPx38
import Derived.Test.YtheicbcedhfahaaPx39
import Derived.Test.YtheicbcedhfahaaPx40
import Derived.Test.YtheicbcedhfahaaPx41
import Derived.Test.YtheicbcedhfahaaPx42
import Derived.Test.YtheicbcedhfahaaPx5
import Derived.Test.YtheicbcedhfahaaWMore
import Derived.Test.YtheicbcedhfahaaWWords
namespace Go.Proofs.Ytheicbcedhfahaa.L
open Go.RowKit Go.Proofs.Ytheicbcedhfahaa.P Go.Proofs.YtheicbcedhfahaaW.PrintWords Go.Proofs.YtheicbcedhfahaaW.PrintMore
set_option linter.unusedVariables false
set_option linter.unusedSimpArgs false

theorem Ev.succ {α : Type} {g : Nat → Option α} {r : α} (h : Ev (fun k => g (k + 1)) r) : Ev g r := Ev.step (fun _ => rfl) h
theorem Ev.done {α : Type} {o : Option α} {r : α} (h : o = some r) : Ev (fun _ => o) r := ⟨0, fun _ _ => h⟩
theorem Ev.pin {α : Type} {g : Nat → Option α} {r s : α} (h : Ev g r) (e : r = s) : Ev g s := e ▸ h

theorem wr {i : Int} (h0 : -9223372036854775808 ≤ i) (h1 : i ≤ 9223372036854775807) : wrap64 i = i := by unfold wrap64; omega

theorem wf_bounds {a : Int} (h : (Lit.int .i64 a).wf = true) : -9223372036854775808 ≤ a ∧ a ≤ 9223372036854775807 := by
  simp [Lit.wf, IntKind.min, IntKind.max, IntKind.bits, IntKind.signed] at h
  omega
theorem nn1 (m : Nat) : ((1 : Int) + (m : Int) < 0) = False := by simp; omega
theorem nn2 (m n : Nat) : ((1 : Int) + (m : Int) + (n : Int) < 0) = False := by simp; omega
theorem nn3 (m n p : Nat) : ((1 : Int) + (m : Int) + (n : Int) + (p : Int) < 0) = False := by simp; omega
theorem nn4 (m n p q : Nat) : ((1 : Int) + (m : Int) + (n : Int) + (p : Int) + (q : Int) < 0) = False := by simp; omega
theorem rd_nat (l : List Int) (i : Nat) : rd l (i : Int) = l.getD i 0 := by unfold rd; simp
theorem rd_app (pre : List Int) (x : Int) (rest : List Int) : rd (pre ++ x :: rest) (pre.length : Int) = x := by
  rw [rd_nat, List.getD_eq_getElem?_getD, List.getElem?_append_right (Nat.le_refl _)]; simp
theorem rd_last (l : List Int) (h : l ≠ []) : rd l ((l.length : Int) - 1) = l.getLast h := by
  have hp : 0 < l.length := by cases l with | nil => exact absurd rfl h | cons _ _ => simp
  rw [show ((l.length : Int) - 1) = ((l.length - 1 : Nat) : Int) from by omega, rd_nat, List.getLast_eq_getElem, List.getD_eq_getElem?_getD, List.getElem?_eq_getElem (by omega)]
  rfl

/-- A list split at a place. -/
theorem split_at (l : List Int) (i : Nat) (h : i < l.length) : ∃ pre x rest, l = pre ++ x :: rest ∧ pre.length = i := by
  refine ⟨l.take i, l[i], l.drop (i + 1), ?_, by simp; omega⟩
  rw [List.getElem_cons_drop, List.take_append_drop]

/-- The marks that 'markIntS' lays. -/
def marks (n : Int) (m : Nat) : List Int := (List.range m).map (fun (j : Nat) => n + (j : Int))
theorem marks_len (n : Int) (m : Nat) : (marks n m).length = m := by simp [marks]
theorem marks_succ (n : Int) (m : Nat) : marks n (m + 1) = marks n m ++ [n + (m : Int)] := by simp [marks, List.range_succ]
theorem marks_get (n : Int) (m i : Nat) (h : i < m) : (marks n m).getD i 0 = n + (i : Int) := by
  simp [marks, List.getD_eq_getElem?_getD, h]

def isL (x : Int) : Bool := decide (x ≠ 0 ∧ -6 ≤ x ∧ x ≤ 6)
def isW (l : List Int) : Bool := decide (l.length ≤ 64) && l.all isL
theorem isW_len {l : List Int} (h : isW l = true) : l.length ≤ 64 := by unfold isW at h; simp at h; exact h.1
theorem isW_mem {l : List Int} (h : isW l = true) : ∀ x ∈ l, x ≠ 0 ∧ -6 ≤ x ∧ x ≤ 6 := by
  unfold isW at h; simp [isL] at h; exact fun x hx => h.2 x hx
theorem isL_iff (x : Int) : isL x = true ↔ x ≠ 0 ∧ -6 ≤ x ∧ x ≤ 6 := by simp [isL]

/-- Numbers far from the ends of an int. -/
def Mild (l : List Int) : Prop := ∀ x ∈ l, -4611686018427387904 ≤ x ∧ x ≤ 4611686018427387904
theorem Mild.ofW {l : List Int} (h : isW l = true) : Mild l := fun x hx => by have := isW_mem h x hx; omega
theorem Mild.nil : Mild [] := fun x hx => by simp at hx
theorem Mild.append {a b : List Int} (ha : Mild a) (hb : Mild b) : Mild (a ++ b) := fun x hx => by
  rcases List.mem_append.1 hx with h | h
  · exact ha x h
  · exact hb x h
theorem Mild.sub {a b : List Int} (ha : Mild a) (h : ∀ x ∈ b, x ∈ a) : Mild b := fun x hx => ha x (h x hx)
theorem Mild.at {l : List Int} (h : Mild l) {pre : List Int} {x : Int} {rest : List Int} (e : l = pre ++ x :: rest) : -4611686018427387904 ≤ x ∧ x ≤ 4611686018427387904 := h x (by rw [e]; simp)

/-- One letter behind a reduced list. -/
def red1 (acc : List Int) (x : Int) : List Int := if acc.getLast? = some (-x) then acc.dropLast else acc ++ [x]
/-- What letters are reduced to. -/
def redF (acc l : List Int) : List Int := l.foldl red1 acc
def red (l : List Int) : List Int := redF [] l
theorem red1_mem {acc : List Int} {x y : Int} (h : y ∈ red1 acc x) : y ∈ acc ∨ y = x := by
  unfold red1 at h
  split at h
  · exact .inl (List.dropLast_subset _ h)
  · simpa using h
theorem redF_mem {l acc : List Int} {y : Int} (h : y ∈ redF acc l) : y ∈ acc ∨ y ∈ l := by
  induction l generalizing acc with
  | nil => exact .inl h
  | cons x l ih =>
    rcases ih (acc := red1 acc x) h with h | h
    · rcases red1_mem h with h | h
      · exact .inl h
      · exact .inr (by simp [h])
    · exact .inr (by simp [h])
theorem red_mem {l : List Int} {y : Int} (h : y ∈ red l) : y ∈ l := by
  rcases redF_mem h with h | h
  · simp at h
  · exact h
theorem red1_len (acc : List Int) (x : Int) : (red1 acc x).length ≤ acc.length + 1 := by
  unfold red1; split <;> simp; omega
theorem redF_len (l acc : List Int) : (redF acc l).length ≤ acc.length + l.length := by
  induction l generalizing acc with
  | nil => simp [redF]
  | cons x l ih =>
    have h1 := ih (red1 acc x); have h2 := red1_len acc x
    simp only [redF, List.foldl_cons, List.length_cons] at h1 ⊢
    omega
theorem red_len (l : List Int) : (red l).length ≤ l.length := by have := redF_len l []; simpa [red] using this
theorem Mild.red {l : List Int} (h : Mild l) : Mild (red l) := h.sub fun _ hx => red_mem hx

/-- Is a list reduced? -/
def isRed : List Int → Bool
  | [] => true
  | [_] => true
  | x :: y :: l => !(y == -x) && isRed (y :: l)

/-- The inverse of a list of letters. -/
def inv (l : List Int) : List Int := l.reverse.map fun x => -x
theorem inv_len (l : List Int) : (inv l).length = l.length := by simp [inv]
theorem inv_mem {l : List Int} {y : Int} (h : y ∈ inv l) : -y ∈ l := by
  simp [inv] at h
  obtain ⟨a, ha, rfl⟩ := h
  simpa using ha
theorem Mild.inv {l : List Int} (h : Mild l) : Mild (inv l) := fun y hy => by have := h _ (inv_mem hy); omega
theorem inv_snoc (l : List Int) (x : Int) : inv (l ++ [x]) = -x :: inv l := by simp [inv]
theorem inv_cons (l : List Int) (x : Int) : inv (x :: l) = inv l ++ [-x] := by simp [inv]
theorem inv_append (a b : List Int) : inv (a ++ b) = inv b ++ inv a := by simp [inv]
theorem inv_inv (l : List Int) : inv (inv l) = l := by
  induction l with
  | nil => rfl
  | cons x l ih => rw [inv_cons, inv_snoc, ih, Int.neg_neg]

theorem toIntS_round (l : List Int) (hl : l.length ≤ 1048576) : ∀ (d i : Nat) (acc : List Int), i ≤ l.length → l.length - i = d → acc.length = l.length → acc.take i = l.take i →
    Ev (fun k => laws_toIntS.l0 k l acc (i : Int)) l := by
  intro d
  induction d with
  | zero =>
    intro i acc hi hd ha ht
    refine Ev.succ ?_
    have he : acc = l := by
      rw [show i = l.length from by omega] at ht
      rw [List.take_length] at ht
      rw [← ht, List.take_of_length_le (by omega)]
    refine Ev.congr (f := fun _ => some l) (fun k => ?_) (Ev.now _)
    simp only [laws_toIntS.l0]; rw [if_neg (by omega), he]
  | succ d ih =>
    intro i acc hi hd ha ht
    refine Ev.succ ?_
    have hlt : i < l.length := by omega
    have h := ih (i + 1) (acc.set i (l.getD i 0)) (by omega) (by omega) (by simp [ha]) (by
      rw [List.take_add_one, List.take_add_one, List.take_set_of_le (Nat.le_refl _), ht, List.getElem?_set_self (by omega), List.getD_eq_getElem?_getD, List.getElem?_eq_getElem hlt]
      rfl)
    refine Ev.congr (fun k => ?_) h
    simp only [laws_toIntS.l0]
    rw [if_pos (by omega), if_pos (by omega), if_pos (by omega), rd_nat, wr (by omega) (by omega), Int.toNat_natCast]
    rfl
theorem toIntS (l : List Int) (hl : l.length ≤ 1048576) : Ev (fun k => laws_toIntS.f k l) l := by
  refine Ev.congr (fun k => ?_) (toIntS_round l hl l.length 0 (List.replicate l.length 0) (by omega) (by omega) (by simp) (by simp))
  unfold laws_toIntS.f
  rw [if_pos (by omega), if_pos (by simp; omega), Int.toNat_natCast]
  rfl
theorem eqIntS_round (a b : List Int) (hl : a.length ≤ 4611686018427387904) (hab : a.length = b.length) : ∀ (d i : Nat), i ≤ a.length → a.length - i = d →
    Ev (fun k => laws_eqIntS.l0 k a b (i : Int)) (decide (a.drop i = b.drop i)) := by
  intro d
  induction d with
  | zero =>
    intro i hi hd
    refine Ev.succ ?_
    refine Ev.congr (f := fun _ => some true) (fun k => ?_) (Ev.pin (Ev.now _) ?_)
    · simp only [laws_eqIntS.l0]; rw [if_neg (by omega)]
    · rw [List.drop_of_length_le (by omega), List.drop_of_length_le (by omega)]; simp
  | succ d ih =>
    intro i hi hd
    refine Ev.succ ?_
    have hlt : i < a.length := by omega
    have hltb : i < b.length := by omega
    by_cases e : a.getD i 0 = b.getD i 0
    · have h := ih (i + 1) (by omega) (by omega)
      refine Ev.congr (fun k => ?_) (Ev.pin h ?_)
      · simp only [laws_eqIntS.l0]
        rw [if_pos (by omega), if_pos (by omega), if_pos (by omega), rd_nat, rd_nat, if_pos e, wr (by omega) (by omega)]
        rfl
      · simp only [List.getD_eq_getElem?_getD, List.getElem?_eq_getElem hlt, List.getElem?_eq_getElem hltb, Option.getD_some] at e
        rw [List.drop_eq_getElem_cons hlt, List.drop_eq_getElem_cons hltb, e]
        simp only [List.cons.injEq, true_and]
    · refine Ev.congr (f := fun _ => some false) (fun k => ?_) (Ev.pin (Ev.now _) ?_)
      · simp only [laws_eqIntS.l0]
        rw [if_pos (by omega), if_pos (by omega), if_pos (by omega), rd_nat, rd_nat, if_neg e]
      · simp only [List.getD_eq_getElem?_getD, List.getElem?_eq_getElem hlt, List.getElem?_eq_getElem hltb, Option.getD_some] at e
        refine (decide_eq_false fun h => e ?_).symm
        rw [List.drop_eq_getElem_cons hlt, List.drop_eq_getElem_cons hltb] at h
        exact (List.cons.inj h).1
theorem eqIntS (a b : List Int) (hl : a.length ≤ 4611686018427387904) : Ev (fun k => laws_eqIntS.f k a b) (decide (a = b)) := by
  by_cases hab : a.length = b.length
  · refine Ev.congr (fun k => ?_) (eqIntS_round a b hl hab a.length 0 (by omega) (by omega))
    unfold laws_eqIntS.f
    rw [if_pos (by omega)]
    rfl
  · refine Ev.congr (f := fun _ => some false) (fun k => ?_) (Ev.pin (Ev.now _) ?_)
    · unfold laws_eqIntS.f
      rw [if_neg (by omega)]
    · have : a ≠ b := fun h => hab (by rw [h])
      simp [this]
theorem eqIntS_yes (a : List Int) (hl : a.length ≤ 4611686018427387904) : Ev (fun k => laws_eqIntS.f k a a) true := Ev.pin (eqIntS a a hl) (by simp)
theorem markIntS_round (n : Int) (m : Nat) (h0 : 0 ≤ n) (h1 : n ≤ 1099511627776) (hm : m ≤ 1099511627776) : ∀ (d i : Nat) (acc : List Int), i ≤ m → m - i = d → acc.length = m → acc.take i = marks n i →
    Ev (fun k => laws_markIntS.l0 k acc (n + (i : Int)) (i : Int)) (n + (m : Int), marks n m) := by
  intro d
  induction d with
  | zero =>
    intro i acc hi hd ha ht
    refine Ev.succ ?_
    have hi2 : i = m := by omega
    subst hi2
    refine Ev.congr (f := fun _ => some (n + (i : Int), marks n i)) (fun k => ?_) (Ev.now _)
    simp only [laws_markIntS.l0]
    rw [if_neg (by omega), ← ht, List.take_of_length_le (by omega)]
  | succ d ih =>
    intro i acc hi hd ha ht
    refine Ev.succ ?_
    have h := ih (i + 1) (acc.set i (n + (i : Int))) (by omega) (by omega) (by simp [ha]) (by
      rw [List.take_add_one, List.take_set_of_le (Nat.le_refl _), ht, List.getElem?_set_self (by omega), marks_succ]
      rfl)
    refine Ev.congr (fun k => ?_) h
    simp only [laws_markIntS.l0]
    rw [if_pos (by omega), if_pos (by omega), wr (by omega) (by omega), wr (by omega) (by omega), Int.toNat_natCast, Int.add_assoc]
    rfl
theorem markIntS (l : List Int) (n : Int) (h0 : 0 ≤ n) (h1 : n ≤ 1099511627776) (hm : l.length ≤ 1099511627776) : Ev (fun k => laws_markIntS.f k l n) (n + (l.length : Int), marks n l.length) := by
  refine Ev.congr (fun k => ?_) (markIntS_round n l.length h0 h1 hm l.length 0 l (by omega) (by omega) rfl (by simp [marks]))
  unfold laws_markIntS.f
  simp
theorem heldIntS_round (n : Int) (m : Nat) (h0 : 0 ≤ n) (h1 : n ≤ 1099511627776) (hm : m ≤ 1099511627776) : ∀ (d i : Nat), i ≤ m → m - i = d →
    Ev (fun k => laws_heldIntS.l0 k (marks n m) (n + (i : Int)) (i : Int)) (n + (m : Int)) := by
  intro d
  induction d with
  | zero =>
    intro i hi hd
    refine Ev.succ ?_
    have hi2 : i = m := by omega
    subst hi2
    refine Ev.congr (f := fun _ => some (n + (i : Int))) (fun k => ?_) (Ev.now _)
    simp only [laws_heldIntS.l0]
    rw [if_neg (by rw [marks_len]; omega)]
  | succ d ih =>
    intro i hi hd
    refine Ev.succ ?_
    have h := ih (i + 1) (by omega) (by omega)
    refine Ev.congr (fun k => ?_) h
    simp only [laws_heldIntS.l0]
    rw [if_pos (by rw [marks_len]; omega), if_pos (by omega), rd_nat, marks_get _ _ _ (by omega), if_pos rfl, wr (by omega) (by omega), wr (by omega) (by omega), Int.add_assoc]
    rfl
theorem heldIntS (n : Int) (m : Nat) (h0 : 0 ≤ n) (h1 : n ≤ 1099511627776) (hm : m ≤ 1099511627776) : Ev (fun k => laws_heldIntS.f k (marks n m) n) (n + (m : Int)) := by
  refine Ev.congr (fun k => ?_) (heldIntS_round n m h0 h1 hm m 0 (by omega) (by omega))
  unfold laws_heldIntS.f
  simp
theorem l2Letter (x : Int) : spec_l2Letter.f x = some (isL x) := by
  unfold spec_l2Letter.f spec_l1In.f isL
  by_cases h0 : x = 0
  · simp [h0]
  · by_cases h1 : x ≥ -6
    · simp [h0, h1]
    · simp [h0, h1]
theorem l2Word_round (l : List Int) (hl : l.length ≤ 4611686018427387904) : ∀ (d i : Nat), i ≤ l.length → l.length - i = d →
    Ev (fun k => spec_l2Word.l0 k l (i : Int)) (decide (l.length ≤ 64) && (l.drop i).all isL) := by
  intro d
  induction d with
  | zero =>
    intro i hi hd
    refine Ev.succ (Ev.congr (f := fun k => spec_l2Word.j1 k l (i : Int) false) (fun k => ?_) (Ev.succ ?_))
    · simp only [spec_l2Word.l0]; rw [if_neg (by omega)]
    · refine Ev.congr (f := fun _ => some (decide ((l.length : Int) ≤ 64))) (fun k => ?_) (Ev.pin (Ev.now _) ?_)
      · simp only [spec_l2Word.j1]; rw [if_neg (by simp)]
      · rw [List.drop_of_length_le (by omega)]; simp; omega
  | succ d ih =>
    intro i hi hd
    have hlt : i < l.length := by omega
    by_cases h64 : i ≤ 64
    · refine Ev.succ (Ev.congr (f := fun k => spec_l2Word.j1 k l (i : Int) true) (fun k => ?_) (Ev.succ ?_))
      · simp only [spec_l2Word.l0]; rw [if_pos (by omega), show decide ((i : Int) ≤ 64) = true from by simp; omega]
      · have hx : l.drop i = l[i] :: l.drop (i + 1) := List.drop_eq_getElem_cons hlt
        have hg : rd l (i : Int) = l[i] := by rw [rd_nat, List.getD_eq_getElem?_getD, List.getElem?_eq_getElem hlt]; rfl
        rw [hx, List.all_cons]
        cases hL : isL l[i] with
        | true =>
          refine Ev.congr (fun k => ?_) (Ev.pin (ih (i + 1) (by omega) (by omega)) (by simp))
          rw [spec_l2Word.j1, if_pos rfl, if_pos (by omega), if_pos (by omega), hg, l2Letter, hL, Option.bind_some, if_pos rfl, wr (by omega) (by omega)]
          rfl
        | false =>
          refine Ev.congr (f := fun _ => some false) (fun k => ?_) (Ev.pin (Ev.now _) (by simp))
          rw [spec_l2Word.j1, if_pos rfl, if_pos (by omega), if_pos (by omega), hg, l2Letter, hL, Option.bind_some, if_neg (by simp)]
    · refine Ev.succ (Ev.congr (f := fun k => spec_l2Word.j1 k l (i : Int) false) (fun k => ?_) (Ev.succ ?_))
      · simp only [spec_l2Word.l0]; rw [if_pos (by omega), show decide ((i : Int) ≤ 64) = false from by simp; omega]
      · refine Ev.congr (f := fun _ => some (decide ((l.length : Int) ≤ 64))) (fun k => ?_) (Ev.pin (Ev.now _) ?_)
        · simp only [spec_l2Word.j1]; rw [if_neg (by simp)]
        · rw [decide_eq_false (by omega), decide_eq_false (by omega)]; rfl
theorem l2Word (l : List Int) (hl : l.length ≤ 4611686018427387904) : Ev (fun k => spec_l2Word.f k l) (isW l) :=
  Ev.congr (fun k => by unfold spec_l2Word.f; rfl) (Ev.pin (l2Word_round l hl l.length 0 (by omega) (by omega)) (by simp [isW]))
theorem isWord (l : List Int) : impl_isWord.f l = some (isW l) := by
  unfold impl_isWord.f isW
  congr 2
  rw [Bool.eq_iff_iff]
  simp [P.isL, L.isL]
theorem l2Reduce_round (l : List Int) (hl : l.length ≤ 1048576) (hm : Mild l) : ∀ (d i : Nat) (acc : List Int), i ≤ l.length → l.length - i = d → acc.length ≤ i →
    Ev (fun k => spec_l2Reduce.l0 k l acc (i : Int)) (redF acc (l.drop i)) := by
  intro d
  induction d with
  | zero =>
    intro i acc hi hd ha
    refine Ev.succ (Ev.congr (f := fun _ => some acc) (fun k => ?_) (Ev.pin (Ev.now _) ?_))
    · simp only [spec_l2Reduce.l0]; rw [if_neg (by omega)]
    · rw [List.drop_of_length_le (by omega)]; rfl
  | succ d ih =>
    intro i acc hi hd ha
    have hlt : i < l.length := by omega
    have hg : rd l (i : Int) = l[i] := by rw [rd_nat, List.getD_eq_getElem?_getD, List.getElem?_eq_getElem hlt]; rfl
    have hb := hm l[i] (List.getElem_mem hlt)
    rw [List.drop_eq_getElem_cons hlt]
    have h := ih (i + 1) (red1 acc l[i]) (by omega) (by omega) (by have := red1_len acc l[i]; omega)
    refine Ev.succ (Ev.congr (fun k => ?_) (Ev.pin h rfl))
    simp only [spec_l2Reduce.l0]
    rw [if_pos (by omega)]
    by_cases h0 : acc = []
    · subst h0
      rw [if_neg (by simp), if_pos (by omega), if_pos (by simp), hg, wr (by omega) (by omega)]
      rfl
    · have hp : 0 < acc.length := List.length_pos_iff.2 h0
      rw [if_pos (by omega), wr (by omega) (by omega), if_pos (by omega), if_pos (by omega), if_pos (by omega), hg, rd_last acc h0, wr (i := -l[i]) (by omega) (by omega)]
      by_cases e : acc.getLast h0 = -l[i]
      · rw [if_pos e, if_pos (by omega), wr (by omega) (by omega), show ((acc.length : Int) - 1).toNat = acc.length - 1 from by omega, ← List.dropLast_eq_take]
        have : red1 acc l[i] = acc.dropLast := by unfold red1; rw [if_pos (by rw [List.getLast?_eq_some_getLast h0, e])]
        rw [this]; rfl
      · rw [if_neg e, if_pos (by omega), wr (by omega) (by omega)]
        have : red1 acc l[i] = acc ++ [l[i]] := by unfold red1; rw [if_neg (by rw [List.getLast?_eq_some_getLast h0]; simpa using e)]
        rw [this]; rfl
theorem l2Reduce (l : List Int) (hl : l.length ≤ 1048576) (hm : Mild l) : Ev (fun k => spec_l2Reduce.f k l) (red l) :=
  Ev.congr (fun k => by unfold spec_l2Reduce.f; rfl) (Ev.pin (l2Reduce_round l hl hm l.length 0 [] (by omega) (by omega) (by simp)) (by simp [red]))
theorem reduced_round (l : List Int) (hl : l.length ≤ 1048576) (hm : Mild l) : ∀ (d i : Nat) (acc : List Int), i ≤ l.length → l.length - i = d → acc.length ≤ i →
    Ev (fun k => impl_reduced.l0 k acc l (l.length : Int) (i : Int)) (redF acc (l.drop i)) := by
  intro d
  induction d with
  | zero =>
    intro i acc hi hd ha
    refine Ev.succ (Ev.congr (f := fun _ => some acc) (fun k => ?_) (Ev.pin (Ev.now _) ?_))
    · simp only [impl_reduced.l0]; rw [if_neg (by omega)]
    · rw [List.drop_of_length_le (by omega)]; rfl
  | succ d ih =>
    intro i acc hi hd ha
    have hlt : i < l.length := by omega
    have hg : rd l (i : Int) = l[i] := by rw [rd_nat, List.getD_eq_getElem?_getD, List.getElem?_eq_getElem hlt]; rfl
    have hb := hm l[i] (List.getElem_mem hlt)
    rw [List.drop_eq_getElem_cons hlt]
    have h := ih (i + 1) (red1 acc l[i]) (by omega) (by omega) (by have := red1_len acc l[i]; omega)
    refine Ev.succ (Ev.congr (fun k => ?_) (Ev.pin h rfl))
    simp only [impl_reduced.l0]
    rw [if_pos (by omega), if_pos (by omega), if_pos (by omega)]
    by_cases h0 : acc = []
    · subst h0
      rw [if_neg (by rw [wr (by simp) (by simp)]; simp), if_pos (by simp), hg, wr (by omega) (by omega)]
      rfl
    · have hp : 0 < acc.length := List.length_pos_iff.2 h0
      rw [wr (i := (acc.length : Int) - 1) (by omega) (by omega), if_pos (by omega), if_pos (by omega), if_pos (by omega), hg, rd_last acc h0, wr (i := -l[i]) (by omega) (by omega)]
      by_cases e : acc.getLast h0 = -l[i]
      · rw [if_pos e, if_pos (by omega), wr (by omega) (by omega), show ((acc.length : Int) - 1).toNat = acc.length - 1 from by omega, ← List.dropLast_eq_take]
        have : red1 acc l[i] = acc.dropLast := by unfold red1; rw [if_pos (by rw [List.getLast?_eq_some_getLast h0, e])]
        rw [this]; rfl
      · rw [if_neg e, if_pos (by omega), wr (by omega) (by omega)]
        have : red1 acc l[i] = acc ++ [l[i]] := by unfold red1; rw [if_neg (by rw [List.getLast?_eq_some_getLast h0]; simpa using e)]
        rw [this]; rfl
theorem reduced (l : List Int) (hl : l.length ≤ 1048576) (hm : Mild l) : Ev (fun k => impl_reduced.f k l) (red l) :=
  Ev.congr (fun k => by unfold impl_reduced.f; rfl) (Ev.pin (reduced_round l hl hm l.length 0 [] (by omega) (by omega) (by simp)) (by simp [red]))

theorem rd_get (l : List Int) (i : Nat) (h : i < l.length) : rd l (i : Int) = l[i] := by
  rw [rd_nat, List.getD_eq_getElem?_getD, List.getElem?_eq_getElem h]; rfl

/-! reduced or not -/
theorem red1_snoc {acc : List Int} {x a : Int} (h : acc.getLast? = some a) (he : a ≠ -x) : red1 acc x = acc ++ [x] := by
  unfold red1; rw [if_neg (by rw [h]; simpa using he)]
theorem redF_full (l : List Int) : ∀ (acc : List Int) (a : Int), acc.getLast? = some a → ((redF acc l).length = acc.length + l.length ↔ isRed (a :: l) = true) := by
  induction l with
  | nil => intro acc a h; simp [redF, isRed]
  | cons x l ih =>
    intro acc a h
    by_cases e : a = -x
    · have h1 : red1 acc x = acc.dropLast := by unfold red1; rw [if_pos (by rw [h, e])]
      have h2 := redF_len l (acc.dropLast)
      have h3 : redF acc (x :: l) = redF acc.dropLast l := by simp only [redF, List.foldl_cons, h1]
      have hx : (x == -a) = true := by simp; omega
      rw [h3]
      simp only [isRed, hx, Bool.not_true, Bool.false_and, List.length_cons, Bool.false_eq_true, iff_false]
      simp at h2
      omega
    · have h1 := red1_snoc h e
      have h3 : redF acc (x :: l) = redF (acc ++ [x]) l := by simp only [redF, List.foldl_cons, h1]
      have hx : (x == -a) = false := by simp; omega
      have h4 := ih (acc ++ [x]) x (by simp)
      rw [h3]
      simp only [isRed, hx, Bool.not_false, Bool.true_and]
      rw [← h4]
      simp
      omega
theorem isRed_iff (l : List Int) : ((red l).length = l.length) ↔ isRed l = true := by
  cases l with
  | nil => simp [red, redF, isRed]
  | cons x l =>
    have h := redF_full l [x] x rfl
    have : red (x :: l) = redF [x] l := by simp [red, redF, red1]
    rw [this, ← h]
    simp
    omega
theorem isRed_eq (l : List Int) : (((red l).length : Int) == (l.length : Int)) = isRed l := by
  have h := isRed_iff l
  cases hb : isRed l with
  | true =>
    have h2 : (red l).length = l.length := h.2 hb
    rw [beq_iff_eq]; omega
  | false =>
    have h2 : ¬ ((red l).length = l.length) := by rw [h, hb]; simp
    rw [beq_eq_false_iff_ne]; omega

def vFit (l : List Int) : List Int × Bool := if l.length ≤ 64 then (l, true) else ([], false)
theorem fitting (l : List Int) : impl_fitting.f l = some (vFit l) := by
  unfold impl_fitting.f vFit
  by_cases h : l.length ≤ 64
  · rw [if_neg (by omega), if_pos h]
  · rw [if_pos (by omega), if_neg h]

/-- No two neighbours are inverse. -/
def RedS (acc : List Int) : Prop := ∀ p x y q, acc = p ++ x :: y :: q → x ≠ -y
theorem RedS.nil : RedS [] := fun p x y q h => by
  have := congrArg List.length h; simp at this
theorem RedS.dropLast {acc : List Int} (h : RedS acc) : RedS acc.dropLast := fun p x y q e => by
  by_cases h0 : acc = []
  · subst h0; exact absurd e (by simp)
  · refine h p x y (q ++ [acc.getLast h0]) ?_
    have h3 := List.dropLast_concat_getLast h0
    generalize acc.getLast h0 = z at *
    rw [e] at h3
    rw [← h3]; simp
theorem RedS.snoc {acc : List Int} {x : Int} (h : RedS acc) (hx : acc.getLast? ≠ some (-x)) : RedS (acc ++ [x]) := fun p a b q e => by
  rcases List.eq_nil_or_concat q with rfl | ⟨q', z, rfl⟩
  · have e2 : acc ++ [x] = (p ++ [a]) ++ [b] := by rw [e]; simp
    obtain ⟨e3, e4⟩ := List.append_inj' e2 rfl
    have e5 : x = b := by simpa using e4
    intro hab
    apply hx
    rw [e3, e5, ← hab]; simp
  · have e2 : acc ++ [x] = (p ++ a :: b :: q') ++ [z] := by rw [e]; simp
    obtain ⟨e3, _⟩ := List.append_inj' e2 rfl
    exact h p a b q' e3
theorem RedS.red1 {acc : List Int} {x : Int} (h : RedS acc) : RedS (red1 acc x) := by
  unfold L.red1
  split
  · exact h.dropLast
  · exact h.snoc (by assumption)
theorem RedS.redF {l : List Int} : ∀ {acc : List Int}, RedS acc → RedS (redF acc l) := by
  induction l with
  | nil => intro acc h; exact h
  | cons x l ih => intro acc h; exact ih h.red1
theorem RedS.red (l : List Int) : RedS (red l) := RedS.redF RedS.nil
theorem red1_cancel {acc : List Int} (x : Int) (h : RedS acc) : red1 (red1 acc x) (-x) = acc := by
  by_cases e : acc.getLast? = some (-x)
  · have h0 : acc ≠ [] := by rintro rfl; simp at e
    have hl : acc.dropLast ++ [-x] = acc := by
      have := List.dropLast_concat_getLast h0
      rw [List.getLast?_eq_some_getLast h0] at e
      rw [← Option.some.inj e]; exact this
    have h1 : red1 acc x = acc.dropLast := by unfold red1; rw [if_pos e]
    rw [h1]
    unfold red1
    rw [if_neg, hl]
    intro e2
    by_cases h00 : acc.dropLast = []
    · rw [h00] at e2; simp at e2
    · have hl2 := List.dropLast_concat_getLast h00
      rw [List.getLast?_eq_some_getLast h00] at e2
      have hz := Option.some.inj e2
      generalize acc.dropLast.getLast h00 = z at *
      refine h acc.dropLast.dropLast z (-x) [] ?_ (by rw [hz])
      have h7 : acc.dropLast.dropLast ++ [z] ++ [-x] = acc := by rw [hl2]; exact hl
      simpa using h7.symm
  · have h1 : red1 acc x = acc ++ [x] := by unfold red1; rw [if_neg e]
    rw [h1]
    unfold red1
    rw [if_pos (by simp)]
    simp
theorem redF_snoc (acc l : List Int) (x : Int) : redF acc (l ++ [x]) = red1 (redF acc l) x := by simp [redF]
theorem redF_append (acc a b : List Int) : redF acc (a ++ b) = redF (redF acc a) b := by simp [redF]
theorem red_snoc (l : List Int) (x : Int) : red (l ++ [x]) = red1 (red l) x := redF_snoc [] l x
theorem redF_red {acc : List Int} (h : RedS acc) (l : List Int) : redF acc (red l) = redF acc l := by
  suffices H : ∀ m : List Int, redF acc (red m.reverse) = redF acc m.reverse by simpa using H l.reverse
  intro m
  induction m with
  | nil => rfl
  | cons x m ih =>
    rw [List.reverse_cons, red_snoc, redF_snoc, ← ih]
    by_cases e : (red m.reverse).getLast? = some (-x)
    · have h0 : red m.reverse ≠ [] := by intro h0; rw [h0] at e; simp at e
      have hl : (red m.reverse).dropLast ++ [-x] = red m.reverse := by
        have := List.dropLast_concat_getLast h0
        rw [List.getLast?_eq_some_getLast h0] at e
        rw [← Option.some.inj e]; exact this
      have h1 : red1 (red m.reverse) x = (red m.reverse).dropLast := by unfold red1; rw [if_pos e]
      rw [h1]
      conv => rhs; rw [← hl]
      rw [redF_snoc]
      have := red1_cancel (-x) (RedS.redF (l := (red m.reverse).dropLast) h)
      rw [Int.neg_neg] at this
      exact this.symm
    · have h1 : red1 (red m.reverse) x = red m.reverse ++ [x] := by unfold red1; rw [if_neg e]
      rw [h1, redF_snoc]
theorem red_red (l : List Int) : red (red l) = red l := redF_red RedS.nil l
theorem red_append (a b : List Int) : red (a ++ b) = redF (red a) b := redF_append [] a b
theorem red_left (a b : List Int) : red (red a ++ b) = red (a ++ b) := by rw [red_append, red_red, ← red_append]
theorem red_right (a b : List Int) : red (a ++ red b) = red (a ++ b) := by rw [red_append, redF_red (RedS.red a), ← red_append]
theorem red_both (a b : List Int) : red (red a ++ red b) = red (a ++ b) := by rw [red_left, red_right]
theorem vFit_len (l : List Int) : (vFit l).1.length ≤ 64 := by unfold vFit; split <;> simp; omega

theorem l1Own (l : List Int) (h : l.length ≤ 1099511627776) : spec_l1Own.f l = some l := by
  unfold spec_l1Own.f
  rw [Option.bind_some, if_pos (by simp; omega)]; rfl
theorem l2Short (l : List Int) : spec_l2Short.f l = some (vFit l) := by
  unfold spec_l2Short.f vFit
  by_cases h : l.length ≤ 64
  · rw [if_neg (by omega), if_pos h]
  · rw [if_pos (by omega), if_neg h]
theorem l2Join (a b : List Int) (hl : a.length + b.length ≤ 1048576) (ha : Mild a) (hb : Mild b) : Ev (fun k => spec_l2Join.f k a b) (red (a ++ b)) := by
  refine Ev.congr (fun k => by unfold spec_l2Join.f; rw [l1Own a (by omega), Option.bind_some, if_pos (by omega)]) (Ev.bind (l2Reduce _ (by simp; omega) (ha.append hb)) (Ev.now _))
theorem l2Inverse_round (l : List Int) (hl : l.length ≤ 1048576) (hm : Mild l) : ∀ (j : Nat), j ≤ l.length → Ev (fun k => spec_l2Inverse.l0 k l (inv (l.drop j)) ((j : Int) - 1)) (inv l) := by
  intro j
  induction j with
  | zero =>
    intro _
    refine Ev.succ (Ev.congr (f := fun _ => some (inv l)) (fun k => ?_) (Ev.now _))
    rw [spec_l2Inverse.l0, if_neg (by omega), List.drop_zero]
  | succ j ih =>
    intro hj
    have hlt : j < l.length := by omega
    have hb := hm l[j] (List.getElem_mem hlt)
    have hn := inv_len (l.drop (j + 1))
    have hn2 : (l.drop (j + 1)).length ≤ l.length := by simp
    refine Ev.succ (Ev.congr (fun k => ?_) (Ev.pin (ih (by omega)) rfl))
    rw [spec_l2Inverse.l0, show (((j + 1 : Nat) : Int) - 1) = (j : Int) from by omega, if_pos (by omega), if_pos (by omega), if_pos (by omega), if_pos (by omega), rd_get l j hlt, wr (by omega) (by omega), wr (by omega) (by omega)]
    rw [List.drop_eq_getElem_cons hlt, inv_cons]
theorem l2Inverse (l : List Int) (hl : l.length ≤ 1048576) (hm : Mild l) : Ev (fun k => spec_l2Inverse.f k l) (inv l) := by
  refine Ev.congr (fun k => by unfold spec_l2Inverse.f; rw [wr (by omega) (by omega)]) (Ev.pin (Ev.congr (fun k => ?_) (l2Inverse_round l hl hm l.length (Nat.le_refl _))) rfl)
  rw [List.drop_length]; rfl
theorem inverse (l : List Int) (hl : l.length ≤ 1048576) (hm : Mild l) : impl_inverse.f l = some (inv l) := by
  unfold impl_inverse.f inv
  rw [if_pos (by omega)]
  congr 1
  apply List.map_congr_left
  intro x hx
  have := hm x (by simpa using hx)
  exact wr (by omega) (by omega)

def powL (l : List Int) (n : Nat) : List Int := (List.replicate n l).flatten
theorem powL_succ (l : List Int) (n : Nat) : powL l (n + 1) = powL l n ++ l := by
  unfold powL; rw [List.replicate_succ', List.flatten_append]; simp
theorem powL_len (l : List Int) : ∀ n : Nat, (powL l n).length = l.length * n
  | 0 => rfl
  | n + 1 => by rw [powL_succ, List.length_append, powL_len l n, Nat.mul_succ]
theorem powL_mild {l : List Int} (h : Mild l) : ∀ n : Nat, Mild (powL l n)
  | 0 => Mild.nil
  | n + 1 => by rw [powL_succ]; exact (powL_mild h n).append h
theorem powL_le (l : List Int) (n : Nat) (hl : l.length ≤ 64) (hn : n ≤ 8) : (powL l n).length ≤ 512 := by
  rw [powL_len]; exact Nat.le_trans (Nat.mul_le_mul hl hn) (by omega)
def vPowerWord (a : List Int) (n : Int) : List Int × Bool := if isW a = true ∧ -8 ≤ n ∧ n ≤ 8 then vFit (red (powL (if n < 0 then inv a else a) n.natAbs)) else ([], false)
theorem vPowerWord_len (a : List Int) (n : Int) (ha : a.length ≤ 1048576) (hn : -9223372036854775808 ≤ n ∧ n ≤ 9223372036854775807) : (vPowerWord a n).1.length ≤ 1048576 := by
  unfold vPowerWord
  split
  · have := vFit_len (red (powL (if n < 0 then inv a else a) n.natAbs)); omega
  · simp
theorem mostAbs (n : Int) (hn : -8 ≤ n ∧ n ≤ 8) : spec_l1Most.f n (wrap64 (-n)) = some ((n.natAbs : Nat) : Int) := by
  unfold spec_l1Most.f
  rw [wr (by omega) (by omega)]
  split <;> (congr 1; omega)
theorem PowerWord_round (base : List Int) (n : Int) (hl : base.length ≤ 64) (hm : Mild base) (hn : -8 ≤ n ∧ n ≤ 8) : ∀ (d i : Nat), i + d = n.natAbs →
    Ev (fun k => spec_PowerWord.l0 k n base (red (powL base i)) (i : Int)) (vFit (red (powL base n.natAbs))) := by
  intro d
  induction d with
  | zero =>
    intro i hi
    refine Ev.succ (Ev.congr (f := fun _ => some (vFit (red (powL base n.natAbs)))) (fun k => by rw [spec_PowerWord.l0, mostAbs n hn, Option.bind_some, if_neg (by omega), l2Short, Option.bind_some, show i = n.natAbs from by omega]) (Ev.now _))
  | succ d ih =>
    intro i hi
    refine Ev.succ ?_
    refine Ev.congr (fun k => by rw [spec_PowerWord.l0, mostAbs n hn, Option.bind_some, if_pos (by omega)]) ?_
    have h1 := red_len (powL base i)
    have h2 := powL_le base i hl (by omega)
    refine Ev.bind (l2Join (red (powL base i)) base (by omega) (powL_mild hm i).red hm) ?_
    rw [red_left, ← powL_succ]
    refine Ev.congr (fun k => by rw [wr (i := (i : Int) + 1) (by omega) (by omega), show ((i : Int) + 1) = ((i + 1 : Nat) : Int) from by omega]) ?_
    exact ih (i + 1) (by omega)
theorem spec_PowerWord (a : List Int) (n : Int) (ha : a.length ≤ 1048576) (hn : -9223372036854775808 ≤ n ∧ n ≤ 9223372036854775807) : Ev (fun k => spec_PowerWord.f k a n) (vPowerWord a n) := by
  refine Ev.congr (fun k => by unfold spec_PowerWord.f; rfl) (Ev.bind (l2Word a (by omega)) ?_)
  unfold vPowerWord
  cases h : isW a with
  | false => simp only [Bool.false_eq_true, ↓reduceIte, false_and]; exact Ev.succ (Ev.congr (f := fun _ => some ([], false)) (fun k => by rw [spec_PowerWord.j0, if_pos rfl]) (Ev.now _))
  | true =>
    simp only [↓reduceIte, true_and]
    have hin : spec_l1In.f n (-8) 8 = some (decide (-8 ≤ n ∧ n ≤ 8)) := by
      unfold spec_l1In.f
      by_cases h0 : -8 ≤ n
      · rw [if_pos h0]; simp [h0]
      · rw [if_neg h0]; simp [h0]
    refine Ev.congr (fun k => by rw [hin, Option.bind_some]) ?_
    by_cases hb : -8 ≤ n ∧ n ≤ 8
    · rw [if_pos hb]
      simp only [hb, and_self, decide_true, Bool.not_true]
      have hla : a.length ≤ 64 := isW_len h
      have hma : Mild a := Mild.ofW h
      refine Ev.succ ?_
      refine Ev.congr (fun k => by rw [spec_PowerWord.j0, if_neg (by simp), l1Own a (by omega), Option.bind_some, Option.bind_some]) ?_
      by_cases hneg : n < 0
      · rw [if_pos hneg]
        refine Ev.congr (fun k => by rw [if_pos hneg]) ?_
        refine Ev.bind (l2Inverse a (by omega) hma) ?_
        refine Ev.succ ?_
        refine Ev.congr (fun k => by rw [spec_PowerWord.j1]) ?_
        exact PowerWord_round (inv a) n (by rw [inv_len]; omega) hma.inv hb n.natAbs 0 (by omega)
      · rw [if_neg hneg]
        refine Ev.congr (fun k => by rw [if_neg hneg]) ?_
        refine Ev.succ ?_
        refine Ev.congr (fun k => by rw [spec_PowerWord.j1]) ?_
        exact PowerWord_round a n hla hma hb n.natAbs 0 (by omega)
    · rw [if_neg hb]
      simp only [hb, decide_false, Bool.not_false]
      exact Ev.succ (Ev.congr (f := fun _ => some ([], false)) (fun k => by rw [spec_PowerWord.j0, if_pos rfl]) (Ev.now _))
theorem repeatF (l : List Int) (n : Int) (hl : l.length ≤ 64) (hn : 0 ≤ n ∧ n ≤ 8) : slices_Repeat_int_int.f l n = some (powL l n.toNat) := by
  unfold slices_Repeat_int_int.f powL
  rw [if_pos ⟨hn.1, hn.2, hl⟩]
theorem impl_PowerWord (a : List Int) (n : Int) (ha : a.length ≤ 1048576) (hn : -9223372036854775808 ≤ n ∧ n ≤ 9223372036854775807) : Ev (fun k => impl_PowerWord.f k a n) (vPowerWord a n) := by
  refine Ev.congr (fun k => by unfold impl_PowerWord.f; rw [isWord, Option.bind_some]) ?_
  unfold vPowerWord
  have hj : Ev (fun k => impl_PowerWord.j0 k a n true) (([] : List Int), false) := Ev.succ (Ev.congr (f := fun _ => some ([], false)) (fun k => by rw [impl_PowerWord.j0, if_pos rfl]) (Ev.now _))
  cases h : isW a with
  | false => simp only [Bool.false_eq_true, ↓reduceIte, false_and]; exact hj
  | true =>
    simp only [↓reduceIte, true_and]
    by_cases hb : -8 ≤ n ∧ n ≤ 8
    · rw [if_pos hb]
      have hla : a.length ≤ 64 := isW_len h
      have hma : Mild a := Mild.ofW h
      refine Ev.congr (fun k => by rw [if_neg (by omega), show decide (n > 8) = false from by simp; omega]) ?_
      refine Ev.succ ?_
      refine Ev.congr (fun k => by rw [impl_PowerWord.j0, if_neg (by simp)]) ?_
      by_cases hneg : n < 0
      · rw [if_pos hneg]
        refine Ev.congr (fun k => by rw [if_pos hneg, inverse a (by omega) hma, Option.bind_some, wr (i := -n) (by omega) (by omega), repeatF (inv a) (-n) (by rw [inv_len]; omega) (by omega), Option.bind_some, show (-n).toNat = n.natAbs from by omega]) ?_
        have h2 := powL_le (inv a) n.natAbs (by rw [inv_len]; omega) (by omega)
        refine Ev.bind (reduced (powL (inv a) n.natAbs) (by omega) (powL_mild hma.inv _)) ?_
        exact Ev.congr (f := fun _ => some (vFit (red (powL (inv a) n.natAbs)))) (fun k => by rw [fitting, Option.bind_some]) (Ev.now _)
      · rw [if_neg hneg]
        refine Ev.congr (fun k => by rw [if_neg hneg, repeatF a n (by omega) (by omega), Option.bind_some, show n.toNat = n.natAbs from by omega]) ?_
        have h2 := powL_le a n.natAbs (by omega) (by omega)
        refine Ev.bind (reduced (powL a n.natAbs) (by omega) (powL_mild hma _)) ?_
        exact Ev.congr (f := fun _ => some (vFit (red (powL a n.natAbs)))) (fun k => by rw [fitting, Option.bind_some]) (Ev.now _)
    · rw [if_neg hb]
      by_cases h8 : n < -8
      · exact Ev.congr (fun k => by rw [if_pos h8]) hj
      · exact Ev.congr (fun k => by rw [if_neg h8, show decide (n > 8) = true from by simp; omega]) hj
end Go.Proofs.Ytheicbcedhfahaa.L
