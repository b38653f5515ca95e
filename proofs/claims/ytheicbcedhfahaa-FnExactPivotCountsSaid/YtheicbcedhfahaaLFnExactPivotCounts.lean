/- The plain words for FnExactPivotCounts: lists, what the printed functions come to. Conditions: as each lemma says. -/
import Derived.Test.YtheicbcedhfahaaPx0
import Derived.Test.YtheicbcedhfahaaPx1
import Derived.Test.YtheicbcedhfahaaPx34
import Derived.Test.YtheicbcedhfahaaPx35
import Derived.Test.YtheicbcedhfahaaPx36
import Derived.Test.YtheicbcedhfahaaPx7
import Derived.Test.YtheicbcedhfahaaWMore
import Derived.Test.YtheicbcedhfahaaWWords
namespace Go.Proofs.Ytheicbcedhfahaa.L
open Go.RowKit Go.Proofs.Ytheicbcedhfahaa.P Go.Proofs.YtheicbcedhfahaaW.PrintWords Go.Proofs.YtheicbcedhfahaaW.PrintMore
set_option linter.unusedVariables false
set_option linter.unusedSimpArgs false

theorem Ev.succ {α : Type} {g : Nat → Option α} {r : α} (h : Ev (fun k => g (k + 1)) r) : Ev g r := Ev.step (fun _ => rfl) h
theorem Ev.done {α : Type} {o : Option α} {r : α} (h : o = some r) : Ev (fun _ => o) r := ⟨0, fun _ _ => h⟩
theorem Ev.pin {α : Type} {g : Nat → Option α} {r s : α} (h : Ev g r) (e : r = s) : Ev g s := e ▸ h

theorem wr {i : Int} (h0 : -9223372036854775808 ≤ i) (h1 : i ≤ 9223372036854775807) : wrap64 i = i := by unfold wrap64; omega

theorem wf_bounds {a : Int} (h : (Lit.int .i64 a).wf = true) : -9223372036854775808 ≤ a ∧ a ≤ 9223372036854775807 := by
  simp [Lit.wf, IntKind.min, IntKind.max, IntKind.bits, IntKind.signed] at h
  omega
theorem nn1 (m : Nat) : ((1 : Int) + (m : Int) < 0) = False := by simp; omega
theorem nn2 (m n : Nat) : ((1 : Int) + (m : Int) + (n : Int) < 0) = False := by simp; omega
theorem nn3 (m n p : Nat) : ((1 : Int) + (m : Int) + (n : Int) + (p : Int) < 0) = False := by simp; omega
theorem nn4 (m n p q : Nat) : ((1 : Int) + (m : Int) + (n : Int) + (p : Int) + (q : Int) < 0) = False := by simp; omega
theorem rd_nat (l : List Int) (i : Nat) : rd l (i : Int) = l.getD i 0 := by unfold rd; simp
theorem rd_app (pre : List Int) (x : Int) (rest : List Int) : rd (pre ++ x :: rest) (pre.length : Int) = x := by
  rw [rd_nat, List.getD_eq_getElem?_getD, List.getElem?_append_right (Nat.le_refl _)]; simp
theorem rd_last (l : List Int) (h : l ≠ []) : rd l ((l.length : Int) - 1) = l.getLast h := by
  have hp : 0 < l.length := by cases l with | nil => exact absurd rfl h | cons _ _ => simp
  rw [show ((l.length : Int) - 1) = ((l.length - 1 : Nat) : Int) from by omega, rd_nat, List.getLast_eq_getElem, List.getD_eq_getElem?_getD, List.getElem?_eq_getElem (by omega)]
  rfl

/-- A list split at a place. -/
theorem split_at (l : List Int) (i : Nat) (h : i < l.length) : ∃ pre x rest, l = pre ++ x :: rest ∧ pre.length = i := by
  refine ⟨l.take i, l[i], l.drop (i + 1), ?_, by simp; omega⟩
  rw [List.getElem_cons_drop, List.take_append_drop]

/-- The marks that 'markIntS' lays. -/
def marks (n : Int) (m : Nat) : List Int := (List.range m).map (fun (j : Nat) => n + (j : Int))
theorem marks_len (n : Int) (m : Nat) : (marks n m).length = m := by simp [marks]
theorem marks_succ (n : Int) (m : Nat) : marks n (m + 1) = marks n m ++ [n + (m : Int)] := by simp [marks, List.range_succ]
theorem marks_get (n : Int) (m i : Nat) (h : i < m) : (marks n m).getD i 0 = n + (i : Int) := by
  simp [marks, List.getD_eq_getElem?_getD, h]

def isL (x : Int) : Bool := decide (x ≠ 0 ∧ -6 ≤ x ∧ x ≤ 6)
def isW (l : List Int) : Bool := decide (l.length ≤ 64) && l.all isL
theorem isW_len {l : List Int} (h : isW l = true) : l.length ≤ 64 := by unfold isW at h; simp at h; exact h.1
theorem isW_mem {l : List Int} (h : isW l = true) : ∀ x ∈ l, x ≠ 0 ∧ -6 ≤ x ∧ x ≤ 6 := by
  unfold isW at h; simp [isL] at h; exact fun x hx => h.2 x hx
theorem isL_iff (x : Int) : isL x = true ↔ x ≠ 0 ∧ -6 ≤ x ∧ x ≤ 6 := by simp [isL]

/-- Numbers far from the ends of an int. -/
def Mild (l : List Int) : Prop := ∀ x ∈ l, -4611686018427387904 ≤ x ∧ x ≤ 4611686018427387904
theorem Mild.ofW {l : List Int} (h : isW l = true) : Mild l := fun x hx => by have := isW_mem h x hx; omega
theorem Mild.nil : Mild [] := fun x hx => by simp at hx
theorem Mild.append {a b : List Int} (ha : Mild a) (hb : Mild b) : Mild (a ++ b) := fun x hx => by
  rcases List.mem_append.1 hx with h | h
  · exact ha x h
  · exact hb x h
theorem Mild.sub {a b : List Int} (ha : Mild a) (h : ∀ x ∈ b, x ∈ a) : Mild b := fun x hx => ha x (h x hx)
theorem Mild.at {l : List Int} (h : Mild l) {pre : List Int} {x : Int} {rest : List Int} (e : l = pre ++ x :: rest) : -4611686018427387904 ≤ x ∧ x ≤ 4611686018427387904 := h x (by rw [e]; simp)

/-- One letter behind a reduced list. -/
def red1 (acc : List Int) (x : Int) : List Int := if acc.getLast? = some (-x) then acc.dropLast else acc ++ [x]
/-- What letters are reduced to. -/
def redF (acc l : List Int) : List Int := l.foldl red1 acc
def red (l : List Int) : List Int := redF [] l
theorem red1_mem {acc : List Int} {x y : Int} (h : y ∈ red1 acc x) : y ∈ acc ∨ y = x := by
  unfold red1 at h
  split at h
  · exact .inl (List.dropLast_subset _ h)
  · simpa using h
theorem redF_mem {l acc : List Int} {y : Int} (h : y ∈ redF acc l) : y ∈ acc ∨ y ∈ l := by
  induction l generalizing acc with
  | nil => exact .inl h
  | cons x l ih =>
    rcases ih (acc := red1 acc x) h with h | h
    · rcases red1_mem h with h | h
      · exact .inl h
      · exact .inr (by simp [h])
    · exact .inr (by simp [h])
theorem red_mem {l : List Int} {y : Int} (h : y ∈ red l) : y ∈ l := by
  rcases redF_mem h with h | h
  · simp at h
  · exact h
theorem red1_len (acc : List Int) (x : Int) : (red1 acc x).length ≤ acc.length + 1 := by
  unfold red1; split <;> simp; omega
theorem redF_len (l acc : List Int) : (redF acc l).length ≤ acc.length + l.length := by
  induction l generalizing acc with
  | nil => simp [redF]
  | cons x l ih =>
    have h1 := ih (red1 acc x); have h2 := red1_len acc x
    simp only [redF, List.foldl_cons, List.length_cons] at h1 ⊢
    omega
theorem red_len (l : List Int) : (red l).length ≤ l.length := by have := redF_len l []; simpa [red] using this
theorem Mild.red {l : List Int} (h : Mild l) : Mild (red l) := h.sub fun _ hx => red_mem hx

/-- Is a list reduced? -/
def isRed : List Int → Bool
  | [] => true
  | [_] => true
  | x :: y :: l => !(y == -x) && isRed (y :: l)

/-- The inverse of a list of letters. -/
def inv (l : List Int) : List Int := l.reverse.map fun x => -x
theorem inv_len (l : List Int) : (inv l).length = l.length := by simp [inv]
theorem inv_mem {l : List Int} {y : Int} (h : y ∈ inv l) : -y ∈ l := by
  simp [inv] at h
  obtain ⟨a, ha, rfl⟩ := h
  simpa using ha
theorem Mild.inv {l : List Int} (h : Mild l) : Mild (inv l) := fun y hy => by have := h _ (inv_mem hy); omega
theorem inv_snoc (l : List Int) (x : Int) : inv (l ++ [x]) = -x :: inv l := by simp [inv]
theorem inv_cons (l : List Int) (x : Int) : inv (x :: l) = inv l ++ [-x] := by simp [inv]
theorem inv_append (a b : List Int) : inv (a ++ b) = inv b ++ inv a := by simp [inv]
theorem inv_inv (l : List Int) : inv (inv l) = l := by
  induction l with
  | nil => rfl
  | cons x l ih => rw [inv_cons, inv_snoc, ih, Int.neg_neg]

theorem toIntS_round (l : List Int) (hl : l.length ≤ 1048576) : ∀ (d i : Nat) (acc : List Int), i ≤ l.length → l.length - i = d → acc.length = l.length → acc.take i = l.take i →
    Ev (fun k => laws_toIntS.l0 k l acc (i : Int)) l := by
  intro d
  induction d with
  | zero =>
    intro i acc hi hd ha ht
    refine Ev.succ ?_
    have he : acc = l := by
      rw [show i = l.length from by omega] at ht
      rw [List.take_length] at ht
      rw [← ht, List.take_of_length_le (by omega)]
    refine Ev.congr (f := fun _ => some l) (fun k => ?_) (Ev.now _)
    simp only [laws_toIntS.l0]; rw [if_neg (by omega), he]
  | succ d ih =>
    intro i acc hi hd ha ht
    refine Ev.succ ?_
    have hlt : i < l.length := by omega
    have h := ih (i + 1) (acc.set i (l.getD i 0)) (by omega) (by omega) (by simp [ha]) (by
      rw [List.take_add_one, List.take_add_one, List.take_set_of_le (Nat.le_refl _), ht, List.getElem?_set_self (by omega), List.getD_eq_getElem?_getD, List.getElem?_eq_getElem hlt]
      rfl)
    refine Ev.congr (fun k => ?_) h
    simp only [laws_toIntS.l0]
    rw [if_pos (by omega), if_pos (by omega), if_pos (by omega), rd_nat, wr (by omega) (by omega), Int.toNat_natCast]
    rfl
theorem toIntS (l : List Int) (hl : l.length ≤ 1048576) : Ev (fun k => laws_toIntS.f k l) l := by
  refine Ev.congr (fun k => ?_) (toIntS_round l hl l.length 0 (List.replicate l.length 0) (by omega) (by omega) (by simp) (by simp))
  unfold laws_toIntS.f
  rw [if_pos (by omega), if_pos (by simp; omega), Int.toNat_natCast]
  rfl
theorem eqIntS_round (a b : List Int) (hl : a.length ≤ 4611686018427387904) (hab : a.length = b.length) : ∀ (d i : Nat), i ≤ a.length → a.length - i = d →
    Ev (fun k => laws_eqIntS.l0 k a b (i : Int)) (decide (a.drop i = b.drop i)) := by
  intro d
  induction d with
  | zero =>
    intro i hi hd
    refine Ev.succ ?_
    refine Ev.congr (f := fun _ => some true) (fun k => ?_) (Ev.pin (Ev.now _) ?_)
    · simp only [laws_eqIntS.l0]; rw [if_neg (by omega)]
    · rw [List.drop_of_length_le (by omega), List.drop_of_length_le (by omega)]; simp
  | succ d ih =>
    intro i hi hd
    refine Ev.succ ?_
    have hlt : i < a.length := by omega
    have hltb : i < b.length := by omega
    by_cases e : a.getD i 0 = b.getD i 0
    · have h := ih (i + 1) (by omega) (by omega)
      refine Ev.congr (fun k => ?_) (Ev.pin h ?_)
      · simp only [laws_eqIntS.l0]
        rw [if_pos (by omega), if_pos (by omega), if_pos (by omega), rd_nat, rd_nat, if_pos e, wr (by omega) (by omega)]
        rfl
      · simp only [List.getD_eq_getElem?_getD, List.getElem?_eq_getElem hlt, List.getElem?_eq_getElem hltb, Option.getD_some] at e
        rw [List.drop_eq_getElem_cons hlt, List.drop_eq_getElem_cons hltb, e]
        simp only [List.cons.injEq, true_and]
    · refine Ev.congr (f := fun _ => some false) (fun k => ?_) (Ev.pin (Ev.now _) ?_)
      · simp only [laws_eqIntS.l0]
        rw [if_pos (by omega), if_pos (by omega), if_pos (by omega), rd_nat, rd_nat, if_neg e]
      · simp only [List.getD_eq_getElem?_getD, List.getElem?_eq_getElem hlt, List.getElem?_eq_getElem hltb, Option.getD_some] at e
        refine (decide_eq_false fun h => e ?_).symm
        rw [List.drop_eq_getElem_cons hlt, List.drop_eq_getElem_cons hltb] at h
        exact (List.cons.inj h).1
theorem eqIntS (a b : List Int) (hl : a.length ≤ 4611686018427387904) : Ev (fun k => laws_eqIntS.f k a b) (decide (a = b)) := by
  by_cases hab : a.length = b.length
  · refine Ev.congr (fun k => ?_) (eqIntS_round a b hl hab a.length 0 (by omega) (by omega))
    unfold laws_eqIntS.f
    rw [if_pos (by omega)]
    rfl
  · refine Ev.congr (f := fun _ => some false) (fun k => ?_) (Ev.pin (Ev.now _) ?_)
    · unfold laws_eqIntS.f
      rw [if_neg (by omega)]
    · have : a ≠ b := fun h => hab (by rw [h])
      simp [this]
theorem eqIntS_yes (a : List Int) (hl : a.length ≤ 4611686018427387904) : Ev (fun k => laws_eqIntS.f k a a) true := Ev.pin (eqIntS a a hl) (by simp)

theorem rd_get (l : List Int) (i : Nat) (h : i < l.length) : rd l (i : Int) = l[i] := by
  rw [rd_nat, List.getD_eq_getElem?_getD, List.getElem?_eq_getElem h]; rfl

/-! reduced or not -/
theorem red1_snoc {acc : List Int} {x a : Int} (h : acc.getLast? = some a) (he : a ≠ -x) : red1 acc x = acc ++ [x] := by
  unfold red1; rw [if_neg (by rw [h]; simpa using he)]
theorem redF_full (l : List Int) : ∀ (acc : List Int) (a : Int), acc.getLast? = some a → ((redF acc l).length = acc.length + l.length ↔ isRed (a :: l) = true) := by
  induction l with
  | nil => intro acc a h; simp [redF, isRed]
  | cons x l ih =>
    intro acc a h
    by_cases e : a = -x
    · have h1 : red1 acc x = acc.dropLast := by unfold red1; rw [if_pos (by rw [h, e])]
      have h2 := redF_len l (acc.dropLast)
      have h3 : redF acc (x :: l) = redF acc.dropLast l := by simp only [redF, List.foldl_cons, h1]
      have hx : (x == -a) = true := by simp; omega
      rw [h3]
      simp only [isRed, hx, Bool.not_true, Bool.false_and, List.length_cons, Bool.false_eq_true, iff_false]
      simp at h2
      omega
    · have h1 := red1_snoc h e
      have h3 : redF acc (x :: l) = redF (acc ++ [x]) l := by simp only [redF, List.foldl_cons, h1]
      have hx : (x == -a) = false := by simp; omega
      have h4 := ih (acc ++ [x]) x (by simp)
      rw [h3]
      simp only [isRed, hx, Bool.not_false, Bool.true_and]
      rw [← h4]
      simp
      omega
theorem isRed_iff (l : List Int) : ((red l).length = l.length) ↔ isRed l = true := by
  cases l with
  | nil => simp [red, redF, isRed]
  | cons x l =>
    have h := redF_full l [x] x rfl
    have : red (x :: l) = redF [x] l := by simp [red, redF, red1]
    rw [this, ← h]
    simp
    omega
theorem isRed_eq (l : List Int) : (((red l).length : Int) == (l.length : Int)) = isRed l := by
  have h := isRed_iff l
  cases hb : isRed l with
  | true =>
    have h2 : (red l).length = l.length := h.2 hb
    rw [beq_iff_eq]; omega
  | false =>
    have h2 : ¬ ((red l).length = l.length) := by rw [h, hb]; simp
    rw [beq_eq_false_iff_ne]; omega

/-! nails -/
def nl (x : Int) : Int := if 0 ≤ x then x else -x
def nbit (x : Int) : Int := shl .i64 1 (nl x - 1)
def nailsV (l : List Int) : Int := l.foldl (fun s x => Go.bits .or .i64 s (nbit x)) 0
/-- Is a letter's nail in a set? -/
def nailIn (s x : Int) : Bool := Go.bits .and .i64 s (nbit x) != 0
def outOf (s : Int) (l : List Int) : List Int := l.filter fun x => !nailIn s x
theorem bit_at : ∀ (s : Fin 64) (n : Fin 6), (Go.bits .and .i64 (shr .i64 (s.val : Int) (n.val : Int)) 1 == 1) = (Go.bits .and .i64 (s.val : Int) (shl .i64 1 (n.val : Int)) != 0) := by decide +kernel
theorem nl_word (x : Int) (h0 : x ≠ 0) (hb : -6 ≤ x ∧ x ≤ 6) : 1 ≤ nl x ∧ nl x ≤ 6 := by unfold nl; split <;> omega
theorem outOf_mem {s : Int} {l : List Int} {x : Int} (h : x ∈ outOf s l) : x ∈ l := (List.mem_filter.1 h).1
theorem outOf_len (s : Int) (l : List Int) : (outOf s l).length ≤ l.length := List.length_filter_le _ _
theorem l3In (s n : Int) (hs : 0 ≤ s ∧ s ≤ 63) (hn : 1 ≤ n ∧ n ≤ 6) : spec_l3In.f s n = some (Go.bits .and .i64 s (shl .i64 1 (n - 1)) != 0) := by
  unfold spec_l3In.f
  rw [wr (by omega) (by omega), if_pos (by omega)]
  have := bit_at ⟨s.toNat, by omega⟩ ⟨(n - 1).toNat, by omega⟩
  rw [show ((s.toNat : Nat) : Int) = s from by omega, show (((n - 1).toNat : Nat) : Int) = n - 1 from by omega] at this
  rw [this]

/-- So for all from k on, d of them. -/
def allF (p : Nat → Bool) : Nat → Nat → Bool
  | _, 0 => true
  | k, d + 1 => p k && allF p (k + 1) d
theorem allF_iff (p : Nat → Bool) : ∀ (d k : Nat), allF p k d = true ↔ ∀ j, k ≤ j → j < k + d → p j = true
  | 0, k => by simp [allF]; intro j h1 h2; omega
  | d + 1, k => by
    rw [allF, Bool.and_eq_true, allF_iff p d (k + 1)]
    constructor
    · rintro ⟨h1, h2⟩ j hj1 hj2
      by_cases e : j = k
      · subst e; exact h1
      · exact h2 j (by omega) (by omega)
    · intro h
      exact ⟨h k (by omega) (by omega), fun j h1 h2 => h j (by omega) (by omega)⟩
theorem rd_nat_lt (l : List Int) (i : Nat) (h : i < l.length) : rd l (i : Int) = l[i] := rd_get l i h
theorem szFamily_ok (l : List Int) (h : l.length ≤ 1048576) : laws_szFamily.f l 1048576 = some (1048576 - (l.length : Int)) := by
  unfold laws_szFamily.f laws_szIntS.f
  rw [wr (by omega) (by omega), if_neg (by omega), Option.bind_some, if_neg (by omega)]
theorem szFamily_big (l : List Int) (h : ¬ l.length ≤ 1048576) (hm : l.length ≤ maxLen) : laws_szFamily.f l 1048576 = some (-1) := by
  unfold maxLen at hm
  unfold laws_szFamily.f laws_szIntS.f
  rw [wr (by omega) (by omega), if_pos (by omega), Option.bind_some, if_pos (by omega)]
theorem toFamily (l : List Int) (hl : l.length ≤ 1048576) : Ev (fun k => laws_toFamily.f k l) l :=
  Ev.congr (fun k => by unfold laws_toFamily.f; rfl) (Ev.bind (toIntS l hl) (Ev.now _))
theorem eqFamily_yes (l : List Int) (hl : l.length ≤ 1048576) : Ev (fun k => laws_eqFamily.f k l l) true :=
  by
  refine Ev.congr (fun k => by unfold laws_eqFamily.f; rfl) (Ev.bind (eqIntS_yes l (by omega)) ?_)
  exact Ev.congr (f := fun _ => some true) (fun k => by rw [if_pos rfl]) (Ev.now _)
/-- Is a set a part of another one? -/
def partB (a b : Int) : Bool := Go.bits .and .i64 a b == a
def validB (s : Int) : Bool := decide (0 ≤ s ∧ s ≤ 63)
/-- May set i stand where it stands? as the reference asks, and as the program asks -/
def okS (l : List Int) (i : Nat) : Bool := validB (rd l (i : Int)) && (decide (i = 0) || decide (rd l ((i : Int) - 1) < rd l (i : Int))) && allF (fun k => !partB (rd l (k : Int)) (rd l (i : Int))) 0 i
def okI (l : List Int) (i : Nat) : Bool := validB (rd l (i : Int)) && (decide (i = 0) || decide (rd l ((i : Int) - 1) < rd l (i : Int))) && allF (fun k => decide (k = i) || !partB (rd l (k : Int)) (rd l (i : Int))) 0 l.length
theorem part_le : ∀ a b : Fin 64, partB (a.val : Int) (b.val : Int) = true → a.val ≤ b.val := by decide +kernel
theorem fam_rise (l : List Int) (h : allF (okS l) 0 l.length = true) (i : Nat) : ∀ d, i + d + 1 < l.length + 0 → rd l (i : Int) < rd l ((i + d + 1 : Nat) : Int)
  | 0, hd => by
    have := (allF_iff _ _ _).1 h (i + 1) (by omega) (by omega)
    unfold okS at this
    simp only [Bool.and_eq_true, Bool.or_eq_true, decide_eq_true_eq] at this
    rcases this.1.2 with e | e
    · omega
    · rw [show (((i + 1 : Nat) : Int) - 1) = (i : Int) from by omega] at e; exact e
  | d + 1, hd => by
    have h1 := fam_rise l h i d (by omega)
    have := (allF_iff _ _ _).1 h (i + d + 1 + 1) (by omega) (by omega)
    unfold okS at this
    simp only [Bool.and_eq_true, Bool.or_eq_true, decide_eq_true_eq] at this
    rcases this.1.2 with e | e
    · omega
    · rw [show (((i + d + 1 + 1 : Nat) : Int) - 1) = ((i + d + 1 : Nat) : Int) from by omega] at e
      rw [show i + (d + 1) + 1 = i + d + 1 + 1 from by omega]; omega
theorem fam_eq (l : List Int) : allF (okI l) 0 l.length = allF (okS l) 0 l.length := by
  rw [Bool.eq_iff_iff]
  constructor
  · intro h
    rw [allF_iff] at h ⊢
    intro i h1 h2
    have h3 := h i h1 h2
    unfold okI at h3
    unfold okS
    rw [Bool.and_eq_true] at h3 ⊢
    refine ⟨h3.1, ?_⟩
    rw [allF_iff] at h3 ⊢
    intro k hk1 hk2
    have h4 := h3.2 k (by omega) (by omega)
    rw [decide_eq_false (by omega), Bool.false_or] at h4
    exact h4
  · intro h
    have hs := h
    rw [allF_iff] at h ⊢
    intro i h1 h2
    have h3 := h i h1 h2
    unfold okS at h3
    unfold okI
    rw [Bool.and_eq_true] at h3 ⊢
    refine ⟨h3.1, ?_⟩
    rw [allF_iff] at h3 ⊢
    intro k hk1 hk2
    by_cases e : k = i
    · rw [decide_eq_true e]; rfl
    · rw [decide_eq_false e, Bool.false_or]
      by_cases hlt : k < i
      · exact h3.2 k (by omega) (by omega)
      · have hr := fam_rise l hs i (k - i - 1) (by omega)
        rw [show i + (k - i - 1) + 1 = k from by omega] at hr
        have hv1 := h3.1
        have hv2 := h k (by omega) (by omega)
        unfold okS at hv2
        simp only [Bool.and_eq_true, validB, decide_eq_true_eq] at hv1 hv2
        cases hp : partB (rd l (k : Int)) (rd l (i : Int)) with
        | false => rfl
        | true =>
          have := part_le ⟨(rd l (k : Int)).toNat, by omega⟩ ⟨(rd l (i : Int)).toNat, by omega⟩
          simp only at this
          rw [show (((rd l (k : Int)).toNat : Nat) : Int) = rd l (k : Int) from by omega, show (((rd l (i : Int)).toNat : Nat) : Int) = rd l (i : Int) from by omega] at this
          have := this hp
          omega
def famB (l : List Int) : Bool := allF (okS l) 0 l.length
theorem famB_in (l : List Int) (h : famB l = true) : ∀ x ∈ l, 0 ≤ x ∧ x ≤ 63 := by
  intro x hx
  obtain ⟨i, hi, rfl⟩ := List.mem_iff_getElem.1 hx
  have := (allF_iff _ _ _).1 h i (by omega) (by omega)
  unfold okS validB at this
  simp only [Bool.and_eq_true, decide_eq_true_eq] at this
  rw [rd_get l i hi] at this
  exact this.1.1
theorem l5Set (s : Int) : spec_l3Set.f s = some (validB s) := by
  unfold spec_l3Set.f spec_l1In.f validB
  by_cases h : s ≥ 0
  · rw [if_pos h, Option.bind_some]; refine congrArg some ?_; rw [Bool.eq_iff_iff, decide_eq_true_iff, decide_eq_true_iff]; omega
  · rw [if_neg h, Option.bind_some, decide_eq_false (by omega)]
theorem l5Family_in (l : List Int) (hl : l.length ≤ 1048576) (r : Bool) (i : Nat) (hi : i < l.length) : ∀ (d k0 : Nat), k0 + d = i → Ev (fun k => spec_l5Family.l0 k ((i + 1 : Nat) : Int) l) r → Ev (fun k => spec_l5Family.l1 k (i : Int) (k0 : Int) l) (allF (fun k => !partB (rd l (k : Int)) (rd l (i : Int))) k0 d && r) := by
  intro d
  induction d with
  | zero => intro k0 hk h; exact Ev.succ (Ev.congr (fun k => by rw [spec_l5Family.l1, if_neg (by omega), wr (by omega) (by omega)]; rfl) (Ev.pin h (by simp [allF])))
  | succ d ih =>
    intro k0 hk h
    have h2 := ih (k0 + 1) (by omega) h
    rw [allF]
    cases hp : partB (rd l (k0 : Int)) (rd l (i : Int)) with
    | true => exact Ev.succ (Ev.congr (f := fun _ => some false) (fun k => by unfold partB at hp; rw [spec_l5Family.l1, if_pos (by omega), if_pos (by omega), if_pos (by omega), if_pos (by omega), if_pos (by omega)]; unfold spec_l5Part.f; rw [hp, Option.bind_some, if_pos rfl]) (Ev.pin (Ev.now _) (by simp)))
    | false => exact Ev.succ (Ev.congr (fun k => by unfold partB at hp; rw [spec_l5Family.l1, if_pos (by omega), if_pos (by omega), if_pos (by omega), if_pos (by omega), if_pos (by omega)]; unfold spec_l5Part.f; rw [hp, Option.bind_some, if_neg (by simp), wr (by omega) (by omega)]; rfl) (Ev.pin h2 (by simp)))
theorem l5Family_round (l : List Int) (hl : l.length ≤ 1048576) : ∀ (d i : Nat), i + d = l.length → Ev (fun k => spec_l5Family.l0 k (i : Int) l) (allF (okS l) i d) := by
  intro d
  induction d with
  | zero => intro i hi; exact Ev.succ (Ev.congr (f := fun _ => some true) (fun k => by rw [spec_l5Family.l0, if_neg (by omega)]) (Ev.now _))
  | succ d ih =>
    intro i hi
    have h := ih (i + 1) (by omega)
    rw [allF]
    have hin := l5Family_in l hl _ i (by omega) i 0 (by omega) h
    have hnow : Ev (fun k => spec_l5Family.j1 k (i : Int) false l) (allF (fun k => !partB (rd l (k : Int)) (rd l (i : Int))) 0 i && allF (okS l) (i + 1) d) := Ev.succ (Ev.congr (fun k => by rw [spec_l5Family.j1, if_neg (by simp)]; rfl) hin)
    have hno : Ev (fun k => spec_l5Family.j1 k (i : Int) true l) false := Ev.succ (Ev.congr (f := fun _ => some false) (fun k => by rw [spec_l5Family.j1, if_pos rfl]) (Ev.now _))
    cases hv : validB (rd l (i : Int)) with
    | false => exact Ev.succ (Ev.congr (fun k => by rw [spec_l5Family.l0, if_pos (by omega), if_pos (by omega), l5Set, hv, Option.bind_some, if_neg (by simp)]) (Ev.pin hno (by simp [okS, hv])))
    | true =>
      by_cases h0 : i = 0
      · exact Ev.succ (Ev.congr (fun k => by rw [spec_l5Family.l0, if_pos (by omega), if_pos (by omega), l5Set, hv, Option.bind_some, if_pos rfl, if_neg (by omega)]) (Ev.pin hnow (by unfold okS; rw [hv, decide_eq_true h0]; simp only [Bool.true_or, Bool.true_and])))
      · by_cases hle : rd l (i : Int) ≤ rd l ((i : Int) - 1)
        · exact Ev.succ (Ev.congr (fun k => by rw [spec_l5Family.l0, if_pos (by omega), if_pos (by omega), l5Set, hv, Option.bind_some, if_pos rfl, if_pos (by omega), wr (by omega) (by omega), if_pos (by omega), if_pos (by omega), decide_eq_true hle]) (Ev.pin hno (by rw [show okS l i = false from by unfold okS; rw [hv, decide_eq_false h0, decide_eq_false (show ¬ rd l ((i : Int) - 1) < rd l (i : Int) by omega)]; rfl]; rfl)))
        · exact Ev.succ (Ev.congr (fun k => by rw [spec_l5Family.l0, if_pos (by omega), if_pos (by omega), l5Set, hv, Option.bind_some, if_pos rfl, if_pos (by omega), wr (by omega) (by omega), if_pos (by omega), if_pos (by omega), decide_eq_false hle]) (Ev.pin hnow (by unfold okS; rw [hv, decide_eq_false h0, decide_eq_true (show rd l ((i : Int) - 1) < rd l (i : Int) by omega)]; rfl)))
theorem l5Family (l : List Int) (hl : l.length ≤ 1048576) : Ev (fun k => spec_l5Family.f k l) (famB l) :=
  Ev.congr (fun k => by unfold spec_l5Family.f; rfl) (l5Family_round l hl l.length 0 (by omega))
theorem isSetV (s : Int) : impl_isSet.f s = some (validB s) := by
  unfold impl_isSet.f validB
  by_cases h : s ≥ 0
  · rw [if_pos h]; refine congrArg some ?_; rw [Bool.eq_iff_iff, decide_eq_true_iff, decide_eq_true_iff]; omega
  · rw [if_neg h, decide_eq_false (by omega)]
theorem isFamily_in (l : List Int) (hl : l.length ≤ 1048576) (r : Bool) (i : Nat) (hi : i < l.length) : ∀ (d k0 : Nat), k0 + d = l.length → Ev (fun k => impl_isFamily.l0 k l (l.length : Int) ((i + 1 : Nat) : Int) l) r → Ev (fun k => impl_isFamily.l1 k (i : Int) (rd l (i : Int)) l (l.length : Int) (i : Int) l (l.length : Int) (k0 : Int) l) (allF (fun k => decide (k = i) || !partB (rd l (k : Int)) (rd l (i : Int))) k0 d && r) := by
  intro d
  induction d with
  | zero => intro k0 hk h; exact Ev.succ (Ev.congr (fun k => by rw [impl_isFamily.l1, if_neg (by omega), wr (by omega) (by omega)]; rfl) (Ev.pin h (by simp [allF])))
  | succ d ih =>
    intro k0 hk h
    have h2 := ih (k0 + 1) (by omega) h
    rw [allF]
    by_cases e : k0 = i
    · exact Ev.succ (Ev.congr (fun k => by rw [impl_isFamily.l1, if_pos (by omega), if_pos (by omega), if_pos (by omega), if_pos (by omega), wr (by omega) (by omega)]; rfl) (Ev.pin h2 (by simp [e])))
    · cases hp : partB (rd l (k0 : Int)) (rd l (i : Int)) with
      | true => exact Ev.succ (Ev.congr (f := fun _ => some false) (fun k => by rw [impl_isFamily.l1, if_pos (by omega), if_pos (by omega), if_pos (by omega), if_neg (by omega), if_pos (by unfold partB at hp; simpa using hp)]) (Ev.pin (Ev.now _) (by simp [e])))
      | false => exact Ev.succ (Ev.congr (fun k => by rw [impl_isFamily.l1, if_pos (by omega), if_pos (by omega), if_pos (by omega), if_neg (by omega), if_neg (by unfold partB at hp; simpa using hp), wr (by omega) (by omega)]; rfl) (Ev.pin h2 (by simp)))
theorem isFamily_round (l : List Int) (hl : l.length ≤ 1048576) : ∀ (d i : Nat), i + d = l.length → Ev (fun k => impl_isFamily.l0 k l (l.length : Int) (i : Int) l) (allF (okI l) i d) := by
  intro d
  induction d with
  | zero => intro i hi; exact Ev.succ (Ev.congr (f := fun _ => some true) (fun k => by rw [impl_isFamily.l0, if_neg (by omega)]) (Ev.now _))
  | succ d ih =>
    intro i hi
    have h := ih (i + 1) (by omega)
    rw [allF]
    have hin := isFamily_in l hl _ i (by omega) l.length 0 (by omega) h
    have hnow : Ev (fun k => impl_isFamily.j1 k (i : Int) (rd l (i : Int)) l (l.length : Int) (i : Int) false l) (allF (fun k => decide (k = i) || !partB (rd l (k : Int)) (rd l (i : Int))) 0 l.length && allF (okI l) (i + 1) d) := Ev.succ (Ev.congr (fun k => by rw [impl_isFamily.j1, if_neg (by simp)]; rfl) hin)
    have hno : Ev (fun k => impl_isFamily.j1 k (i : Int) (rd l (i : Int)) l (l.length : Int) (i : Int) true l) false := Ev.succ (Ev.congr (f := fun _ => some false) (fun k => by rw [impl_isFamily.j1, if_pos rfl]) (Ev.now _))
    cases hv : validB (rd l (i : Int)) with
    | false => exact Ev.succ (Ev.congr (fun k => by rw [impl_isFamily.l0, if_pos (by omega), if_pos (by omega), if_pos (by omega), isSetV, hv, Option.bind_some, if_neg (by simp)]) (Ev.pin hno (by simp [okI, hv])))
    | true =>
      by_cases h0 : i = 0
      · exact Ev.succ (Ev.congr (fun k => by rw [impl_isFamily.l0, if_pos (by omega), if_pos (by omega), if_pos (by omega), isSetV, hv, Option.bind_some, if_pos rfl, if_neg (by omega)]) (Ev.pin hnow (by unfold okI; rw [hv, decide_eq_true h0]; simp only [Bool.true_or, Bool.true_and])))
      · by_cases hle : rd l (i : Int) ≤ rd l ((i : Int) - 1)
        · exact Ev.succ (Ev.congr (fun k => by rw [impl_isFamily.l0, if_pos (by omega), if_pos (by omega), if_pos (by omega), isSetV, hv, Option.bind_some, if_pos rfl, if_pos (by omega), wr (by omega) (by omega), if_pos (by omega), if_pos (by omega), decide_eq_true hle]) (Ev.pin hno (by rw [show okI l i = false from by unfold okI; rw [hv, decide_eq_false h0, decide_eq_false (show ¬ rd l ((i : Int) - 1) < rd l (i : Int) by omega)]; rfl]; rfl)))
        · exact Ev.succ (Ev.congr (fun k => by rw [impl_isFamily.l0, if_pos (by omega), if_pos (by omega), if_pos (by omega), isSetV, hv, Option.bind_some, if_pos rfl, if_pos (by omega), wr (by omega) (by omega), if_pos (by omega), if_pos (by omega), decide_eq_false hle]) (Ev.pin hnow (by unfold okI; rw [hv, decide_eq_false h0, decide_eq_true (show rd l ((i : Int) - 1) < rd l (i : Int) by omega)]; rfl)))
theorem isFamily (l : List Int) (hl : l.length ≤ 1048576) : Ev (fun k => impl_isFamily.f k l) (famB l) :=
  Ev.congr (fun k => by unfold impl_isFamily.f; rfl) (Ev.pin (isFamily_round l hl l.length 0 (by omega)) (fam_eq l))
/-- Is a set a member? -/
def hasB (l : List Int) (s : Int) : Bool := l.any fun x => partB x s
theorem l5Has_round (l : List Int) (s : Int) (hl : l.length ≤ 1048576) : ∀ (d i : Nat), i + d = l.length → Ev (fun k => spec_l5Has.l0 k s (i : Int) l) ((l.drop i).any fun x => partB x s) := by
  intro d
  induction d with
  | zero => intro i hi; exact Ev.succ (Ev.congr (f := fun _ => some false) (fun k => by rw [spec_l5Has.l0, if_neg (by omega)]) (Ev.pin (Ev.now _) (by rw [List.drop_of_length_le (by omega)]; rfl)))
  | succ d ih =>
    intro i hi
    have hlt : i < l.length := by omega
    rw [List.drop_eq_getElem_cons hlt, List.any_cons]
    cases hp : partB l[i] s with
    | true => exact Ev.succ (Ev.congr (f := fun _ => some true) (fun k => by unfold partB at hp; rw [spec_l5Has.l0, if_pos (by omega), if_pos (by omega), rd_get l i hlt]; unfold spec_l5Part.f; rw [hp, Option.bind_some, if_pos rfl]) (Ev.now _))
    | false => exact Ev.succ (Ev.congr (fun k => by unfold partB at hp; rw [spec_l5Has.l0, if_pos (by omega), if_pos (by omega), rd_get l i hlt]; unfold spec_l5Part.f; rw [hp, Option.bind_some, if_neg (by simp), wr (by omega) (by omega)]; rfl) (ih (i + 1) (by omega)))
theorem l5Has (l : List Int) (s : Int) (hl : l.length ≤ 1048576) : Ev (fun k => spec_l5Has.f k l s) (hasB l s) :=
  Ev.congr (fun k => by unfold spec_l5Has.f; rfl) (l5Has_round l s hl l.length 0 (by omega))
theorem has (l : List Int) (s : Int) : impl_Family_has.f l s = some (hasB l s) := rfl
theorem eqIntA6_round (t : TabI 6) : ∀ (d i : Nat), i ≤ 6 → 6 - i = d → Ev (fun k => laws_eqIntA6.l0 k (i : Int) t t) true := by
  intro d
  induction d with
  | zero => intro i hi hd; exact Ev.succ (Ev.congr (f := fun _ => some true) (fun k => by rw [laws_eqIntA6.l0, if_neg (by omega)]) (Ev.now _))
  | succ d ih => intro i hi hd; exact Ev.succ (Ev.congr (fun k => by rw [laws_eqIntA6.l0, if_pos (by omega), if_pos (by omega), if_pos rfl, wr (by omega) (by omega)]; rfl) (ih (i + 1) (by omega) (by omega)))
theorem eqIntA6_yes (t : TabI 6) : Ev (fun k => laws_eqIntA6.f k t t) true := Ev.congr (fun k => by unfold laws_eqIntA6.f; rfl) (eqIntA6_round t 6 0 (by omega) (by omega))
theorem tab_rd_set {n : Nat} (t : TabI n) (i j : Int) (v : Int) (hi : 0 ≤ i ∧ i < n) (hj : 0 ≤ j ∧ j < n) : (t.set i v).rd j = if i = j then v else t.rd j := by
  unfold TabI.set TabI.rd
  have hl := t.2
  simp only [List.getD_eq_getElem?_getD, List.getElem?_set]
  by_cases e : i = j
  · subst e; rw [if_pos rfl, if_pos rfl, if_pos (by omega)]; rfl
  · rw [if_neg (by omega), if_neg e]
theorem tab_ext {n : Nat} (x y : TabI n) (h : ∀ i : Int, 0 ≤ i → i < n → x.rd i = y.rd i) : x = y := by
  apply Subtype.ext
  apply List.ext_getElem (by rw [x.2, y.2])
  intro i h1 h2
  have := h (i : Int) (by omega) (by have := x.2; omega)
  unfold TabI.rd at this
  rw [show ((i : Int)).toNat = i from by omega, List.getD_eq_getElem?_getD, List.getD_eq_getElem?_getD, List.getElem?_eq_getElem h1, List.getElem?_eq_getElem h2] at this
  exact this
theorem tab_zero_rd {n : Nat} (i : Int) (h : 0 ≤ i ∧ i < n) : (TabI.zero n).rd i = 0 := by
  unfold TabI.zero TabI.rd
  rw [List.getD_eq_getElem?_getD, List.getElem?_replicate, if_pos (by omega)]; rfl
/-- Does a set become a member by nail i? -/
def pivB (l : List Int) (s : Int) (i : Int) : Bool := (Go.bits .and .i64 s (shl .i64 1 i) == 0) && !hasB l s && hasB l (Go.bits .or .i64 s (shl .i64 1 i))
/-- How many of the sets below s do. -/
def pivN (l : List Int) (i : Int) : Nat → Int
  | 0 => 0
  | s + 1 => pivN l i s + (if pivB l (s : Int) i = true then 1 else 0)
theorem pivN_bd (l : List Int) (i : Int) : ∀ s, 0 ≤ pivN l i s ∧ pivN l i s ≤ s
  | 0 => by simp [pivN]
  | s + 1 => by have := pivN_bd l i s; unfold pivN; split <;> omega
theorem piv_or : ∀ (s : Fin 64) (n : Fin 6), 0 ≤ Go.bits .or .i64 (s.val : Int) (shl .i64 1 (n.val : Int)) ∧ Go.bits .or .i64 (s.val : Int) (shl .i64 1 (n.val : Int)) < 64 := by decide +kernel
/-- What a table holds when sets below s are done, and for set s the nails below i. -/
def PivI (l : List Int) (s i : Nat) (t : TabI 6) : Prop := ∀ j : Int, 0 ≤ j → j < 6 → t.rd j = pivN l j s + (if j < (i : Int) ∧ pivB l (s : Int) j = true then 1 else 0)
theorem iPivot_in (l : List Int) (s : Nat) (hs : s < 64) : ∀ (d i : Nat) (t : TabI 6), i + d = 6 → PivI l s i t → ∃ t' : TabI 6, PivI l (s + 1) 0 t' ∧ ∀ r, Ev (fun k => P.impl_PivotCounts.l0 k ((s + 1 : Nat) : Int) l t') r → Ev (fun k => P.impl_PivotCounts.l1 k (s : Int) (s : Int) (i : Int) l t) r := by
  intro d
  induction d with
  | zero =>
    intro i t hi h
    refine ⟨t, fun j h0 h1 => ?_, fun r hr => Ev.succ (Ev.congr (fun k => by rw [P.impl_PivotCounts.l1, if_neg (by omega), wr (by omega) (by omega)]; rfl) hr)⟩
    rw [h j h0 h1, pivN]
    by_cases hp : pivB l (s : Int) j = true
    · rw [if_pos ⟨by omega, hp⟩, if_pos hp, if_neg (fun e => absurd e.1 (by omega))]; omega
    · rw [if_neg (fun e => hp e.2), if_neg hp, if_neg (fun e => absurd e.1 (by omega))]; omega
  | succ d ih =>
    intro i t hi h
    have stay : pivB l (s : Int) (i : Int) = false → PivI l s (i + 1) t := fun hp j h0 h1 => by
      rw [h j h0 h1]
      by_cases e : j = (i : Int)
      · subst e; rw [if_neg (fun e => absurd e.1 (by omega)), if_neg (fun e => by rw [hp] at e; exact absurd e.2 (by simp))]
      · by_cases hq : j < (i : Int) ∧ pivB l (s : Int) j = true
        · rw [if_pos hq, if_pos ⟨by omega, hq.2⟩]
        · rw [if_neg hq, if_neg (fun e2 => hq ⟨by omega, e2.2⟩)]
    by_cases h0 : Go.bits .and .i64 (s : Int) (shl .i64 1 (i : Int)) = 0
    · cases h1 : hasB l (s : Int) with
      | true =>
        obtain ⟨t', a, b⟩ := ih (i + 1) t (by omega) (stay (by unfold pivB; rw [h1]; simp))
        exact ⟨t', a, fun r hr => Ev.succ (Ev.congr (fun k => by rw [P.impl_PivotCounts.l1, if_pos (by omega), if_pos (by omega), if_pos h0, has, Option.bind_some, if_pos h1, wr (by omega) (by omega)]; rfl) (b r hr))⟩
      | false =>
        cases h2 : hasB l (Go.bits .or .i64 (s : Int) (shl .i64 1 (i : Int))) with
        | false =>
          obtain ⟨t', a, b⟩ := ih (i + 1) t (by omega) (stay (by unfold pivB; rw [h2]; simp))
          exact ⟨t', a, fun r hr => Ev.succ (Ev.congr (fun k => by rw [P.impl_PivotCounts.l1, if_pos (by omega), if_pos (by omega), if_pos h0, has, Option.bind_some, if_neg (by rw [h1]; simp), has, Option.bind_some, if_neg (by rw [h2]; simp), wr (by omega) (by omega)]; rfl) (b r hr))⟩
        | true =>
          have hp : pivB l (s : Int) (i : Int) = true := by unfold pivB; rw [h1, h2, h0]; rfl
          have hb := pivN_bd l (i : Int) s
          have hrd := h (i : Int) (by omega) (by omega)
          rw [if_neg (fun e => absurd e.1 (by omega)), Int.add_zero] at hrd
          obtain ⟨t', a, b⟩ := ih (i + 1) (t.set (i : Int) (t.rd (i : Int) + 1)) (by omega) (fun j h3 h4 => by
            rw [tab_rd_set t (i : Int) j _ (by omega) (by omega)]
            by_cases e : (i : Int) = j
            · subst e; rw [if_pos rfl, if_pos ⟨by omega, hp⟩, hrd]
            · rw [if_neg e, h j h3 h4]
              by_cases hq : j < (i : Int) ∧ pivB l (s : Int) j = true
              · rw [if_pos hq, if_pos ⟨by omega, hq.2⟩]
              · rw [if_neg hq, if_neg (fun e2 => hq ⟨by omega, e2.2⟩)])
          exact ⟨t', a, fun r hr => Ev.succ (Ev.congr (fun k => by rw [P.impl_PivotCounts.l1, if_pos (by omega), if_pos (by omega), if_pos h0, has, Option.bind_some, if_neg (by rw [h1]; simp), has, Option.bind_some, if_pos h2, wr (i := t.rd (i : Int) + 1) (by omega) (by omega), wr (by omega) (by omega)]; rfl) (b r hr))⟩
    · obtain ⟨t', a, b⟩ := ih (i + 1) t (by omega) (stay (by unfold pivB; rw [show (Go.bits .and .i64 (s : Int) (shl .i64 1 (i : Int)) == 0) = false from by simpa using h0]; simp))
      exact ⟨t', a, fun r hr => Ev.succ (Ev.congr (fun k => by rw [P.impl_PivotCounts.l1, if_pos (by omega), if_pos (by omega), if_neg h0, wr (by omega) (by omega)]; rfl) (b r hr))⟩
theorem iPivot (l : List Int) : ∀ (d s : Nat) (t : TabI 6), s + d = 64 → PivI l s 0 t → ∃ t' : TabI 6, PivI l 64 0 t' ∧ Ev (fun k => P.impl_PivotCounts.l0 k (s : Int) l t) (t', true) := by
  intro d
  induction d with
  | zero =>
    intro s t hs h
    have : s = 64 := by omega
    subst this
    exact ⟨t, h, Ev.succ (Ev.congr (f := fun _ => some (t, true)) (fun k => by rw [P.impl_PivotCounts.l0, if_neg (by omega)]) (Ev.now _))⟩
  | succ d ih =>
    intro s t hs h
    obtain ⟨t1, a1, b1⟩ := iPivot_in l s (by omega) 6 0 t (by omega) h
    obtain ⟨t', a, b⟩ := ih (s + 1) t1 (by omega) a1
    exact ⟨t', a, Ev.succ (Ev.congr (fun k => by rw [P.impl_PivotCounts.l0, if_pos (by omega)]; rfl) (b1 _ b))⟩
/-- The same, nail by nail: nails below i are done, and of nail i the sets below s. -/
def PivS (l : List Int) (i s : Nat) (t : TabI 6) : Prop := ∀ j : Int, 0 ≤ j → j < 6 → t.rd j = if j < (i : Int) then pivN l j 64 else if j = (i : Int) then pivN l j s else 0
theorem sPivot_in (l : List Int) (hl : l.length ≤ 1048576) (i : Nat) (hi : i < 6) : ∀ (d s : Nat) (t : TabI 6), s + d = 64 → PivS l i s t → ∃ t' : TabI 6, PivS l (i + 1) 0 t' ∧ ∀ r, Ev (fun k => P.spec_PivotCounts.l0 k ((i + 1 : Nat) : Int) l t') r → Ev (fun k => P.spec_PivotCounts.l1 k (i : Int) (s : Int) l t) r := by
  intro d
  induction d with
  | zero =>
    intro s t hs h
    have : s = 64 := by omega
    subst this
    refine ⟨t, fun j h0 h1 => ?_, fun r hr => Ev.succ (Ev.congr (fun k => by rw [P.spec_PivotCounts.l1, if_neg (by omega), wr (by omega) (by omega)]; rfl) hr)⟩
    rw [h j h0 h1]
    by_cases e1 : j < (i : Int)
    · rw [if_pos e1, if_pos (by omega)]
    · by_cases e2 : j = (i : Int)
      · rw [if_neg e1, if_pos e2, if_pos (by omega)]
      · rw [if_neg e1, if_neg e2, if_neg (by omega)]; split <;> rfl
  | succ d ih =>
    intro s t hs h
    have stay : pivB l (s : Int) (i : Int) = false → PivS l i (s + 1) t := fun hp j h0 h1 => by
      rw [h j h0 h1]
      by_cases e1 : j < (i : Int)
      · rw [if_pos e1, if_pos e1]
      · by_cases e2 : j = (i : Int)
        · subst e2; rw [if_neg e1, if_pos rfl, if_neg e1, if_pos rfl, pivN, if_neg (by rw [hp]; simp), Int.add_zero]
        · rw [if_neg e1, if_neg e2, if_neg e1, if_neg e2]
    have hin := l3In (s : Int) ((i : Int) + 1) (by omega) (by omega)
    rw [show ((i : Int) + 1 - 1) = (i : Int) from by omega] at hin
    by_cases h0 : Go.bits .and .i64 (s : Int) (shl .i64 1 (i : Int)) = 0
    · have e0 : (Go.bits .and .i64 (s : Int) (shl .i64 1 (i : Int)) != 0) = false := by simp [h0]
      cases h1 : hasB l (s : Int) with
      | true =>
        obtain ⟨t', a, b⟩ := ih (s + 1) t (by omega) (stay (by unfold pivB; rw [h1]; simp))
        refine ⟨t', a, fun r hr => Ev.succ (Ev.congr (fun k => by rw [P.spec_PivotCounts.l1, if_pos (by omega), wr (i := (i : Int) + 1) (by omega) (by omega), hin, e0, Option.bind_some, if_neg (by simp)]) ?_)⟩
        refine Ev.bind (l5Has l (s : Int) hl) ?_
        rw [h1]
        exact Ev.congr (fun k => by rw [if_pos rfl, wr (by omega) (by omega)]; rfl) (b r hr)
      | false =>
        cases h2 : hasB l (Go.bits .or .i64 (s : Int) (shl .i64 1 (i : Int))) with
        | false =>
          obtain ⟨t', a, b⟩ := ih (s + 1) t (by omega) (stay (by unfold pivB; rw [h2]; simp))
          refine ⟨t', a, fun r hr => Ev.succ (Ev.congr (fun k => by rw [P.spec_PivotCounts.l1, if_pos (by omega), wr (i := (i : Int) + 1) (by omega) (by omega), hin, e0, Option.bind_some, if_neg (by simp)]) ?_)⟩
          refine Ev.bind (l5Has l (s : Int) hl) ?_
          rw [h1]
          refine Ev.congr (fun k => by rw [if_neg (by simp), if_pos (by omega)]) ?_
          refine Ev.bind (l5Has l _ hl) ?_
          rw [h2]
          exact Ev.congr (fun k => by rw [if_neg (by simp), wr (by omega) (by omega)]; rfl) (b r hr)
        | true =>
          have hp : pivB l (s : Int) (i : Int) = true := by unfold pivB; rw [h1, h2, h0]; rfl
          have hb := pivN_bd l (i : Int) s
          have hrd := h (i : Int) (by omega) (by omega)
          rw [if_neg (by omega), if_pos rfl] at hrd
          obtain ⟨t', a, b⟩ := ih (s + 1) (t.set (i : Int) (t.rd (i : Int) + 1)) (by omega) (fun j h3 h4 => by
            rw [tab_rd_set t (i : Int) j _ (by omega) (by omega)]
            by_cases e : (i : Int) = j
            · subst e; rw [if_pos rfl, if_neg (by omega), if_pos rfl, pivN, if_pos hp, hrd]
            · rw [if_neg e, h j h3 h4, if_neg (Ne.symm e), if_neg (Ne.symm e)])
          refine ⟨t', a, fun r hr => Ev.succ (Ev.congr (fun k => by rw [P.spec_PivotCounts.l1, if_pos (by omega), wr (i := (i : Int) + 1) (by omega) (by omega), hin, e0, Option.bind_some, if_neg (by simp)]) ?_)⟩
          refine Ev.bind (l5Has l (s : Int) hl) ?_
          rw [h1]
          refine Ev.congr (fun k => by rw [if_neg (by simp), if_pos (by omega)]) ?_
          refine Ev.bind (l5Has l _ hl) ?_
          rw [h2]
          exact Ev.congr (fun k => by rw [if_pos rfl, if_pos (by omega), wr (i := t.rd (i : Int) + 1) (by omega) (by omega), wr (by omega) (by omega)]; rfl) (b r hr)
    · have e0 : (Go.bits .and .i64 (s : Int) (shl .i64 1 (i : Int)) != 0) = true := by simp [h0]
      obtain ⟨t', a, b⟩ := ih (s + 1) t (by omega) (stay (by unfold pivB; rw [show (Go.bits .and .i64 (s : Int) (shl .i64 1 (i : Int)) == 0) = false from by simpa using h0]; simp))
      exact ⟨t', a, fun r hr => Ev.succ (Ev.congr (fun k => by rw [P.spec_PivotCounts.l1, if_pos (by omega), wr (i := (i : Int) + 1) (by omega) (by omega), hin, e0, Option.bind_some, if_pos rfl, wr (by omega) (by omega)]; rfl) (b r hr))⟩
theorem sPivot (l : List Int) (hl : l.length ≤ 1048576) : ∀ (d i : Nat) (t : TabI 6), i + d = 6 → PivS l i 0 t → ∃ t' : TabI 6, PivS l 6 0 t' ∧ Ev (fun k => P.spec_PivotCounts.l0 k (i : Int) l t) (t', true) := by
  intro d
  induction d with
  | zero =>
    intro i t hs h
    have : i = 6 := by omega
    subst this
    exact ⟨t, h, Ev.succ (Ev.congr (f := fun _ => some (t, true)) (fun k => by rw [P.spec_PivotCounts.l0, if_neg (by omega)]) (Ev.now _))⟩
  | succ d ih =>
    intro i t hs h
    obtain ⟨t1, a1, b1⟩ := sPivot_in l hl i (by omega) 64 0 t (by omega) h
    obtain ⟨t', a, b⟩ := ih (i + 1) t1 (by omega) a1
    exact ⟨t', a, Ev.succ (Ev.congr (fun k => by rw [P.spec_PivotCounts.l0, if_pos (by omega)]; rfl) (b1 _ b))⟩
theorem PivotCounts_both (l : List Int) (hl : l.length ≤ 1048576) : ∃ v : TabI 6 × Bool, Ev (fun k => P.spec_PivotCounts.f k l) v ∧ Ev (fun k => P.impl_PivotCounts.f k l) v := by
  cases h : famB l with
  | false =>
    refine ⟨(TabI.zero 6, false), ?_, ?_⟩
    · refine Ev.congr (fun k => by unfold P.spec_PivotCounts.f; rfl) (Ev.bind (l5Family l hl) ?_)
      rw [h]; exact Ev.congr (f := fun _ => some (TabI.zero 6, false)) (fun k => by rw [if_neg (by simp)]) (Ev.now _)
    · refine Ev.congr (fun k => by unfold P.impl_PivotCounts.f; rfl) (Ev.bind (isFamily l hl) ?_)
      rw [h]; exact Ev.congr (f := fun _ => some (TabI.zero 6, false)) (fun k => by rw [if_neg (by simp)]) (Ev.now _)
  | true =>
    obtain ⟨t, a, b⟩ := iPivot l 64 0 (TabI.zero 6) (by omega) (fun j h0 h1 => by rw [tab_zero_rd j (by omega), if_neg (fun e => absurd e.1 (by omega))]; rfl)
    obtain ⟨u, c, d⟩ := sPivot l hl 6 0 (TabI.zero 6) (by omega) (fun j h0 h1 => by rw [tab_zero_rd j (by omega), if_neg (by omega)]; split <;> rfl)
    have e : u = t := tab_ext u t (fun j h0 h1 => by rw [a j h0 (by omega), c j h0 (by omega), if_pos (by omega), if_neg (fun e => absurd e.1 (by omega)), Int.add_zero])
    subst e
    refine ⟨(u, true), ?_, ?_⟩
    · refine Ev.congr (fun k => by unfold P.spec_PivotCounts.f; rfl) (Ev.bind (l5Family l hl) ?_)
      rw [h]; exact Ev.congr (fun k => by rw [if_pos rfl]; rfl) d
    · refine Ev.congr (fun k => by unfold P.impl_PivotCounts.f; rfl) (Ev.bind (isFamily l hl) ?_)
      rw [h]; exact Ev.congr (fun k => by rw [if_pos rfl]; rfl) b
end Go.Proofs.Ytheicbcedhfahaa.L
