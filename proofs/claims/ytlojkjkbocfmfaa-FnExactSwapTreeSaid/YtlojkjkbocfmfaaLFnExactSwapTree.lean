/- The plain words for FnExactSwapTree: lists, what the printed functions come to. Conditions: as each lemma says. -/
import Derived.Test.YtlojkjkbocfmfaaPx0
import Derived.Test.YtlojkjkbocfmfaaPx1
import Derived.Test.YtlojkjkbocfmfaaPx12
import Derived.Test.YtlojkjkbocfmfaaPx13
import Derived.Test.YtlojkjkbocfmfaaPx16
import Derived.Test.YtlojkjkbocfmfaaPx17
import Derived.Test.YtlojkjkbocfmfaaPx18
import Derived.Test.YtlojkjkbocfmfaaPx2
import Derived.Test.YtlojkjkbocfmfaaPx27
import Derived.Test.YtlojkjkbocfmfaaPx28
import Derived.Test.YtlojkjkbocfmfaaPx3
import Derived.Test.YtlojkjkbocfmfaaPx31
import Derived.Test.YtlojkjkbocfmfaaPx32
import Derived.Test.YtlojkjkbocfmfaaPx4
import Derived.Test.YtlojkjkbocfmfaaPx5
import Derived.Test.YtlojkjkbocfmfaaPx7
import Derived.Test.YtlojkjkbocfmfaaPx8
import Derived.Test.YtlojkjkbocfmfaaPx9
import Derived.Test.YtlojkjkbocfmfaaWMore
import Derived.Test.YtlojkjkbocfmfaaWWords
namespace Go.Proofs.Ytlojkjkbocfmfaa.L
open Go.RowKit Go.Proofs.Ytlojkjkbocfmfaa.P Go.Proofs.YtlojkjkbocfmfaaW.PrintWords Go.Proofs.YtlojkjkbocfmfaaW.PrintMore
set_option linter.unusedVariables false
set_option linter.unusedSimpArgs false

theorem Ev.succ {α : Type} {g : Nat → Option α} {r : α} (h : Ev (fun k => g (k + 1)) r) : Ev g r := Ev.step (fun _ => rfl) h
theorem Ev.done {α : Type} {o : Option α} {r : α} (h : o = some r) : Ev (fun _ => o) r := ⟨0, fun _ _ => h⟩
theorem Ev.pin {α : Type} {g : Nat → Option α} {r s : α} (h : Ev g r) (e : r = s) : Ev g s := e ▸ h

theorem wr {i : Int} (h0 : -9223372036854775808 ≤ i) (h1 : i ≤ 9223372036854775807) : wrap64 i = i := by unfold wrap64; omega

theorem wf_bounds {a : Int} (h : (Lit.int .i64 a).wf = true) : -9223372036854775808 ≤ a ∧ a ≤ 9223372036854775807 := by
  simp [Lit.wf, IntKind.min, IntKind.max, IntKind.bits, IntKind.signed] at h
  omega
theorem nn1 (m : Nat) : ((1 : Int) + (m : Int) < 0) = False := by simp; omega
theorem nn2 (m n : Nat) : ((1 : Int) + (m : Int) + (n : Int) < 0) = False := by simp; omega
theorem nn3 (m n p : Nat) : ((1 : Int) + (m : Int) + (n : Int) + (p : Int) < 0) = False := by simp; omega
theorem nn4 (m n p q : Nat) : ((1 : Int) + (m : Int) + (n : Int) + (p : Int) + (q : Int) < 0) = False := by simp; omega
theorem rd_nat (l : List Int) (i : Nat) : rd l (i : Int) = l.getD i 0 := by unfold rd; simp
theorem rd_app (pre : List Int) (x : Int) (rest : List Int) : rd (pre ++ x :: rest) (pre.length : Int) = x := by
  rw [rd_nat, List.getD_eq_getElem?_getD, List.getElem?_append_right (Nat.le_refl _)]; simp
theorem rd_last (l : List Int) (h : l ≠ []) : rd l ((l.length : Int) - 1) = l.getLast h := by
  have hp : 0 < l.length := by cases l with | nil => exact absurd rfl h | cons _ _ => simp
  rw [show ((l.length : Int) - 1) = ((l.length - 1 : Nat) : Int) from by omega, rd_nat, List.getLast_eq_getElem, List.getD_eq_getElem?_getD, List.getElem?_eq_getElem (by omega)]
  rfl

/-- A list split at a place. -/
theorem split_at (l : List Int) (i : Nat) (h : i < l.length) : ∃ pre x rest, l = pre ++ x :: rest ∧ pre.length = i := by
  refine ⟨l.take i, l[i], l.drop (i + 1), ?_, by simp; omega⟩
  rw [List.getElem_cons_drop, List.take_append_drop]

/-- The marks that 'markIntS' lays. -/
def marks (n : Int) (m : Nat) : List Int := (List.range m).map (fun (j : Nat) => n + (j : Int))
theorem marks_len (n : Int) (m : Nat) : (marks n m).length = m := by simp [marks]
theorem marks_succ (n : Int) (m : Nat) : marks n (m + 1) = marks n m ++ [n + (m : Int)] := by simp [marks, List.range_succ]
theorem marks_get (n : Int) (m i : Nat) (h : i < m) : (marks n m).getD i 0 = n + (i : Int) := by
  simp [marks, List.getD_eq_getElem?_getD, h]

def isL (x : Int) : Bool := decide (x ≠ 0 ∧ -6 ≤ x ∧ x ≤ 6)
def isW (l : List Int) : Bool := decide (l.length ≤ 64) && l.all isL
theorem isW_len {l : List Int} (h : isW l = true) : l.length ≤ 64 := by unfold isW at h; simp at h; exact h.1
theorem isW_mem {l : List Int} (h : isW l = true) : ∀ x ∈ l, x ≠ 0 ∧ -6 ≤ x ∧ x ≤ 6 := by
  unfold isW at h; simp [isL] at h; exact fun x hx => h.2 x hx
theorem isL_iff (x : Int) : isL x = true ↔ x ≠ 0 ∧ -6 ≤ x ∧ x ≤ 6 := by simp [isL]

/-- Numbers far from the ends of an int. -/
def Mild (l : List Int) : Prop := ∀ x ∈ l, -4611686018427387904 ≤ x ∧ x ≤ 4611686018427387904
theorem Mild.ofW {l : List Int} (h : isW l = true) : Mild l := fun x hx => by have := isW_mem h x hx; omega
theorem Mild.nil : Mild [] := fun x hx => by simp at hx
theorem Mild.append {a b : List Int} (ha : Mild a) (hb : Mild b) : Mild (a ++ b) := fun x hx => by
  rcases List.mem_append.1 hx with h | h
  · exact ha x h
  · exact hb x h
theorem Mild.sub {a b : List Int} (ha : Mild a) (h : ∀ x ∈ b, x ∈ a) : Mild b := fun x hx => ha x (h x hx)
theorem Mild.at {l : List Int} (h : Mild l) {pre : List Int} {x : Int} {rest : List Int} (e : l = pre ++ x :: rest) : -4611686018427387904 ≤ x ∧ x ≤ 4611686018427387904 := h x (by rw [e]; simp)

/-- One letter behind a reduced list. -/
def red1 (acc : List Int) (x : Int) : List Int := if acc.getLast? = some (-x) then acc.dropLast else acc ++ [x]
/-- What letters are reduced to. -/
def redF (acc l : List Int) : List Int := l.foldl red1 acc
def red (l : List Int) : List Int := redF [] l
theorem red1_mem {acc : List Int} {x y : Int} (h : y ∈ red1 acc x) : y ∈ acc ∨ y = x := by
  unfold red1 at h
  split at h
  · exact .inl (List.dropLast_subset _ h)
  · simpa using h
theorem redF_mem {l acc : List Int} {y : Int} (h : y ∈ redF acc l) : y ∈ acc ∨ y ∈ l := by
  induction l generalizing acc with
  | nil => exact .inl h
  | cons x l ih =>
    rcases ih (acc := red1 acc x) h with h | h
    · rcases red1_mem h with h | h
      · exact .inl h
      · exact .inr (by simp [h])
    · exact .inr (by simp [h])
theorem red_mem {l : List Int} {y : Int} (h : y ∈ red l) : y ∈ l := by
  rcases redF_mem h with h | h
  · simp at h
  · exact h
theorem red1_len (acc : List Int) (x : Int) : (red1 acc x).length ≤ acc.length + 1 := by
  unfold red1; split <;> simp; omega
theorem redF_len (l acc : List Int) : (redF acc l).length ≤ acc.length + l.length := by
  induction l generalizing acc with
  | nil => simp [redF]
  | cons x l ih =>
    have h1 := ih (red1 acc x); have h2 := red1_len acc x
    simp only [redF, List.foldl_cons, List.length_cons] at h1 ⊢
    omega
theorem red_len (l : List Int) : (red l).length ≤ l.length := by have := redF_len l []; simpa [red] using this
theorem Mild.red {l : List Int} (h : Mild l) : Mild (red l) := h.sub fun _ hx => red_mem hx

/-- Is a list reduced? -/
def isRed : List Int → Bool
  | [] => true
  | [_] => true
  | x :: y :: l => !(y == -x) && isRed (y :: l)

/-- The inverse of a list of letters. -/
def inv (l : List Int) : List Int := l.reverse.map fun x => -x
theorem inv_len (l : List Int) : (inv l).length = l.length := by simp [inv]
theorem inv_mem {l : List Int} {y : Int} (h : y ∈ inv l) : -y ∈ l := by
  simp [inv] at h
  obtain ⟨a, ha, rfl⟩ := h
  simpa using ha
theorem Mild.inv {l : List Int} (h : Mild l) : Mild (inv l) := fun y hy => by have := h _ (inv_mem hy); omega
theorem inv_snoc (l : List Int) (x : Int) : inv (l ++ [x]) = -x :: inv l := by simp [inv]
theorem inv_cons (l : List Int) (x : Int) : inv (x :: l) = inv l ++ [-x] := by simp [inv]
theorem inv_append (a b : List Int) : inv (a ++ b) = inv b ++ inv a := by simp [inv]
theorem inv_inv (l : List Int) : inv (inv l) = l := by
  induction l with
  | nil => rfl
  | cons x l ih => rw [inv_cons, inv_snoc, ih, Int.neg_neg]

theorem l2Reduce_round (l : List Int) (hl : l.length ≤ 1048576) (hm : Mild l) : ∀ (d i : Nat) (acc : List Int), i ≤ l.length → l.length - i = d → acc.length ≤ i →
    Ev (fun k => spec_l2Reduce.l0 k l acc (i : Int)) (redF acc (l.drop i)) := by
  intro d
  induction d with
  | zero =>
    intro i acc hi hd ha
    refine Ev.succ (Ev.congr (f := fun _ => some acc) (fun k => ?_) (Ev.pin (Ev.now _) ?_))
    · simp only [spec_l2Reduce.l0]; rw [if_neg (by omega)]
    · rw [List.drop_of_length_le (by omega)]; rfl
  | succ d ih =>
    intro i acc hi hd ha
    have hlt : i < l.length := by omega
    have hg : rd l (i : Int) = l[i] := by rw [rd_nat, List.getD_eq_getElem?_getD, List.getElem?_eq_getElem hlt]; rfl
    have hb := hm l[i] (List.getElem_mem hlt)
    rw [List.drop_eq_getElem_cons hlt]
    have h := ih (i + 1) (red1 acc l[i]) (by omega) (by omega) (by have := red1_len acc l[i]; omega)
    refine Ev.succ (Ev.congr (fun k => ?_) (Ev.pin h rfl))
    simp only [spec_l2Reduce.l0]
    rw [if_pos (by omega)]
    by_cases h0 : acc = []
    · subst h0
      rw [if_neg (by simp), if_pos (by omega), if_pos (by simp), hg, wr (by omega) (by omega)]
      rfl
    · have hp : 0 < acc.length := List.length_pos_iff.2 h0
      rw [if_pos (by omega), wr (by omega) (by omega), if_pos (by omega), if_pos (by omega), if_pos (by omega), hg, rd_last acc h0, wr (i := -l[i]) (by omega) (by omega)]
      by_cases e : acc.getLast h0 = -l[i]
      · rw [if_pos e, if_pos (by omega), wr (by omega) (by omega), show ((acc.length : Int) - 1).toNat = acc.length - 1 from by omega, ← List.dropLast_eq_take]
        have : red1 acc l[i] = acc.dropLast := by unfold red1; rw [if_pos (by rw [List.getLast?_eq_some_getLast h0, e])]
        rw [this]; rfl
      · rw [if_neg e, if_pos (by omega), wr (by omega) (by omega)]
        have : red1 acc l[i] = acc ++ [l[i]] := by unfold red1; rw [if_neg (by rw [List.getLast?_eq_some_getLast h0]; simpa using e)]
        rw [this]; rfl
theorem l2Reduce (l : List Int) (hl : l.length ≤ 1048576) (hm : Mild l) : Ev (fun k => spec_l2Reduce.f k l) (red l) :=
  Ev.congr (fun k => by unfold spec_l2Reduce.f; rfl) (Ev.pin (l2Reduce_round l hl hm l.length 0 [] (by omega) (by omega) (by simp)) (by simp [red]))

theorem rd_get (l : List Int) (i : Nat) (h : i < l.length) : rd l (i : Int) = l[i] := by
  rw [rd_nat, List.getD_eq_getElem?_getD, List.getElem?_eq_getElem h]; rfl

/-! reduced or not -/
theorem red1_snoc {acc : List Int} {x a : Int} (h : acc.getLast? = some a) (he : a ≠ -x) : red1 acc x = acc ++ [x] := by
  unfold red1; rw [if_neg (by rw [h]; simpa using he)]
theorem redF_full (l : List Int) : ∀ (acc : List Int) (a : Int), acc.getLast? = some a → ((redF acc l).length = acc.length + l.length ↔ isRed (a :: l) = true) := by
  induction l with
  | nil => intro acc a h; simp [redF, isRed]
  | cons x l ih =>
    intro acc a h
    by_cases e : a = -x
    · have h1 : red1 acc x = acc.dropLast := by unfold red1; rw [if_pos (by rw [h, e])]
      have h2 := redF_len l (acc.dropLast)
      have h3 : redF acc (x :: l) = redF acc.dropLast l := by simp only [redF, List.foldl_cons, h1]
      have hx : (x == -a) = true := by simp; omega
      rw [h3]
      simp only [isRed, hx, Bool.not_true, Bool.false_and, List.length_cons, Bool.false_eq_true, iff_false]
      simp at h2
      omega
    · have h1 := red1_snoc h e
      have h3 : redF acc (x :: l) = redF (acc ++ [x]) l := by simp only [redF, List.foldl_cons, h1]
      have hx : (x == -a) = false := by simp; omega
      have h4 := ih (acc ++ [x]) x (by simp)
      rw [h3]
      simp only [isRed, hx, Bool.not_false, Bool.true_and]
      rw [← h4]
      simp
      omega
theorem isRed_iff (l : List Int) : ((red l).length = l.length) ↔ isRed l = true := by
  cases l with
  | nil => simp [red, redF, isRed]
  | cons x l =>
    have h := redF_full l [x] x rfl
    have : red (x :: l) = redF [x] l := by simp [red, redF, red1]
    rw [this, ← h]
    simp
    omega
theorem isRed_eq (l : List Int) : (((red l).length : Int) == (l.length : Int)) = isRed l := by
  have h := isRed_iff l
  cases hb : isRed l with
  | true =>
    have h2 : (red l).length = l.length := h.2 hb
    rw [beq_iff_eq]; omega
  | false =>
    have h2 : ¬ ((red l).length = l.length) := by rw [h, hb]; simp
    rw [beq_eq_false_iff_ne]; omega

/-! texts -/
theorem snums_append (a b : List Int) : strOfNums (a ++ b) = strOfNums a ++ strOfNums b := by
  unfold strOfNums; apply ByteArray.ext; simp
theorem snums_size (a : List Int) : (strOfNums a).size = a.length := by unfold strOfNums; simp [ByteArray.size]
def chN (x : Int) : Int := if x > 0 then 96 + x else 64 - x
def textV (l : List Int) : ByteArray := strOfNums (l.map chN)
theorem wordText_round (l : List Int) (hl : l.length ≤ 1048576) (hL : ∀ x ∈ l, x ≠ 0 ∧ -6 ≤ x ∧ x ≤ 6) : ∀ (d i : Nat) (acc : List Int), i ≤ l.length → l.length - i = d → acc = (l.take i).map chN →
    Ev (fun k => impl_wordText.l0 k acc l (l.length : Int) (i : Int)) (textV l) := by
  intro d
  induction d with
  | zero =>
    intro i acc hi hd ha
    refine Ev.succ (Ev.congr (f := fun _ => some (strOfNums acc)) (fun k => ?_) (Ev.pin (Ev.now _) ?_))
    · rw [impl_wordText.l0, if_neg (by omega)]
    · rw [ha, List.take_of_length_le (by omega)]; rfl
  | succ d ih =>
    intro i acc hi hd ha
    have hlt : i < l.length := by omega
    have hb := hL l[i] (List.getElem_mem hlt)
    have hal : acc.length ≤ i := by rw [ha]; simp; omega
    have hn : acc ++ [chN l[i]] = (l.take (i + 1)).map chN := by rw [ha, List.take_add_one, List.getElem?_eq_getElem hlt, List.map_append]; rfl
    refine Ev.succ (Ev.congr (fun k => ?_) (ih (i + 1) (acc ++ [chN l[i]]) (by omega) (by omega) hn))
    rw [impl_wordText.l0, if_pos (by omega), if_pos (by omega), if_pos (by omega), rd_get l i hlt]
    by_cases hp : l[i] > 0
    · rw [if_pos hp, if_pos (by omega), wr (i := 97 + l[i]) (by omega) (by omega), wr (i := 97 + l[i] - 1) (by omega) (by omega), wr (by omega) (by omega)]
      have : chN l[i] = (97 + l[i] - 1) % 256 := by unfold chN; rw [if_pos hp]; omega
      rw [this]; rfl
    · rw [if_neg hp, if_pos (by omega), wr (i := 65 - l[i]) (by omega) (by omega), wr (i := 65 - l[i] - 1) (by omega) (by omega), wr (by omega) (by omega)]
      have : chN l[i] = (65 - l[i] - 1) % 256 := by unfold chN; rw [if_neg hp]; omega
      rw [this]; rfl
theorem wordText (l : List Int) (hl : l.length ≤ 1048576) (hL : ∀ x ∈ l, x ≠ 0 ∧ -6 ≤ x ∧ x ≤ 6) : Ev (fun k => impl_wordText.f k l) (textV l) :=
  Ev.congr (fun k => by unfold impl_wordText.f; rfl) (wordText_round l hl hL l.length 0 [] (by omega) (by omega) (by simp))
/-! texts read -/
def letV (c : Int) : Int := if 97 ≤ c ∧ c < 103 then c - 96 else if 65 ≤ c ∧ c < 71 then 64 - c else 0
theorem all_no {c : Int} (r : List Int) {α : Type} (a b : α) (h : letV c = 0) : (if (c :: r).all (fun c => decide (letV c ≠ 0)) = true then a else b) = b := if_neg (by simp [h])
theorem all_yes {c : Int} (r : List Int) (h : letV c ≠ 0) : (c :: r).all (fun c => decide (letV c ≠ 0)) = r.all (fun c => decide (letV c ≠ 0)) := by simp [h]
def vParse (l : List Int) : List Int × Bool := if l.length ≤ 64 ∧ l.all (fun c => decide (letV c ≠ 0)) = true then (l.map letV, true) else ([], false)
theorem bt_get (s : ByteArray) (i : Nat) (h : i < s.size) : bt s (i : Int) = (bytesOf s)[i]'(by rw [bytesOf_length]; exact h) := by
  rw [← rd_bytesOf, rd_get _ _ (by rw [bytesOf_length]; exact h)]
theorem bytes_range (s : ByteArray) : ∀ c ∈ bytesOf s, 0 ≤ c ∧ c ≤ 255 := by
  intro c hc
  unfold bytesOf at hc
  obtain ⟨b, _, rfl⟩ := List.mem_map.1 hc
  have := b.toNat_lt
  omega
theorem l2Sign (c : Int) (hc : 0 ≤ c ∧ c ≤ 255) : Ev (fun k => spec_l2Sign.f k c) (letV c) := by
  by_cases h : c ≥ 97
  · refine Ev.congr (f := fun k => spec_l2Sign.j0 k c (decide (c < 103))) (fun k => by unfold spec_l2Sign.f; rw [if_pos h]) (Ev.succ ?_)
    by_cases h2 : c < 103
    · refine Ev.congr (f := fun _ => some (((c - 97) % 256) + 1)) (fun k => ?_) (Ev.pin (Ev.now _) ?_)
      · rw [spec_l2Sign.j0, if_pos (by simpa using h2)]
      · unfold letV; rw [if_pos ⟨by omega, h2⟩]; omega
    · refine Ev.congr (f := fun _ => some 0) (fun k => ?_) (Ev.pin (Ev.now _) ?_)
      · rw [spec_l2Sign.j0, if_neg (by simpa using h2), if_pos (by omega), if_neg (by omega)]
      · unfold letV; rw [if_neg (by omega), if_neg (by omega)]
  · refine Ev.congr (f := fun k => spec_l2Sign.j0 k c false) (fun k => by unfold spec_l2Sign.f; rw [if_neg h]) (Ev.succ ?_)
    by_cases h2 : c ≥ 65
    · by_cases h3 : c < 71
      · refine Ev.congr (f := fun _ => some ((-((c - 65) % 256)) - 1)) (fun k => ?_) (Ev.pin (Ev.now _) ?_)
        · rw [spec_l2Sign.j0, if_neg (by simp), if_pos h2, if_pos h3]
        · unfold letV; rw [if_neg (by omega), if_pos ⟨by omega, h3⟩]; omega
      · refine Ev.congr (f := fun _ => some 0) (fun k => ?_) (Ev.pin (Ev.now _) ?_)
        · rw [spec_l2Sign.j0, if_neg (by simp), if_pos h2, if_neg h3]
        · unfold letV; rw [if_neg (by omega), if_neg (by omega)]
    · refine Ev.congr (f := fun _ => some 0) (fun k => ?_) (Ev.pin (Ev.now _) ?_)
      · rw [spec_l2Sign.j0, if_neg (by simp), if_neg h2]
      · unfold letV; rw [if_neg (by omega), if_neg (by omega)]
theorem ParseWord_round (s : ByteArray) (hs : s.size ≤ 64) : ∀ (d i : Nat) (acc : List Int), i ≤ s.size → s.size - i = d → acc.length ≤ i →
    Ev (fun k => spec_ParseWord.l0 k s acc (i : Int)) (if ((bytesOf s).drop i).all (fun c => decide (letV c ≠ 0)) = true then (acc ++ ((bytesOf s).drop i).map letV, true) else ([], false)) := by
  intro d
  induction d with
  | zero =>
    intro i acc hi hd ha
    refine Ev.succ (Ev.congr (f := fun _ => some (acc, true)) (fun k => ?_) (Ev.pin (Ev.now _) ?_))
    · rw [spec_ParseWord.l0, if_neg (by omega)]
    · rw [List.drop_of_length_le (by rw [bytesOf_length]; omega)]; simp
  | succ d ih =>
    intro i acc hi hd ha
    have hlt : i < s.size := by omega
    have hltb : i < (bytesOf s).length := by rw [bytesOf_length]; exact hlt
    have hr := bytes_range s _ (List.getElem_mem hltb)
    rw [List.drop_eq_getElem_cons hltb]
    refine Ev.succ (Ev.congr (f := fun k => (spec_l2Sign.f k (bytesOf s)[i]).bind fun t161 => (if t161 = 0 then (some ((([] : List Int)), false)) else (if acc.length < 17592186044416 then (spec_ParseWord.l0 k s (acc ++ [t161]) (wrap64 ((i : Int) + 1))) else (none)))) (fun k => ?_) (Ev.bind (l2Sign _ hr) ?_))
    · rw [spec_ParseWord.l0, if_pos (by omega), if_pos (by omega), bt_get s i hlt]
    · by_cases h0 : letV (bytesOf s)[i] = 0
      · refine Ev.congr (f := fun _ => some ([], false)) (fun k => ?_) (Ev.pin (Ev.now _) ?_)
        · rw [if_pos h0]
        · rw [all_no _ _ _ h0]
      · refine Ev.congr (fun k => ?_) (Ev.pin (ih (i + 1) (acc ++ [letV (bytesOf s)[i]]) (by omega) (by omega) (by simp; omega)) ?_)
        · rw [if_neg h0, if_pos (by omega), wr (by omega) (by omega)]; rfl
        · rw [all_yes _ h0, List.map_cons, List.append_assoc]; rfl
theorem spec_ParseWord (s : ByteArray) (hs : s.size ≤ 1048576) : Ev (fun k => spec_ParseWord.f k s) (vParse (bytesOf s)) := by
  by_cases h : s.size ≤ 64
  · refine Ev.congr (fun k => ?_) (Ev.pin (ParseWord_round s h s.size 0 [] (by omega) (by omega) (by simp)) ?_)
    · unfold spec_ParseWord.f; rw [Option.bind_some, if_neg (by omega)]; rfl
    · unfold vParse; rw [bytesOf_length]; simp [h]
  · refine Ev.congr (f := fun _ => some ([], false)) (fun k => ?_) (Ev.pin (Ev.now _) ?_)
    · unfold spec_ParseWord.f; rw [Option.bind_some, if_pos (by omega)]
    · unfold vParse; rw [if_neg (by rw [bytesOf_length]; simp [h])]
def vFit (l : List Int) : List Int × Bool := if l.length ≤ 64 then (l, true) else ([], false)
theorem fitting (l : List Int) : impl_fitting.f l = some (vFit l) := by
  unfold impl_fitting.f vFit
  by_cases h : l.length ≤ 64
  · rw [if_neg (by omega), if_pos h]
  · rw [if_pos (by omega), if_neg h]
theorem parseWord_round (s : ByteArray) (hs : s.size ≤ 1048576) : ∀ (d i : Nat) (acc : List Int), i ≤ s.size → s.size - i = d → acc.length = i →
    Ev (fun k => impl_parseWord.l0 k s acc (s.size : Int) (i : Int)) (if ((bytesOf s).drop i).all (fun c => decide (letV c ≠ 0)) = true then vFit (acc ++ ((bytesOf s).drop i).map letV) else ([], false)) := by
  intro d
  induction d with
  | zero =>
    intro i acc hi hd ha
    refine Ev.succ (Ev.congr (f := fun _ => some (vFit acc)) (fun k => ?_) (Ev.pin (Ev.now _) ?_))
    · rw [impl_parseWord.l0, if_neg (by omega), fitting]; rfl
    · rw [List.drop_of_length_le (by rw [bytesOf_length]; omega)]; simp
  | succ d ih =>
    intro i acc hi hd ha
    have hlt : i < s.size := by omega
    have hltb : i < (bytesOf s).length := by rw [bytesOf_length]; exact hlt
    have hr := bytes_range s _ (List.getElem_mem hltb)
    rw [List.drop_eq_getElem_cons hltb]
    generalize hc : (bytesOf s)[i] = c at hr ⊢
    have hbt : bt s (i : Int) = c := by rw [bt_get s i hlt, hc]
    have hgo : ∀ v : Int, letV c = v → v ≠ 0 → Ev (fun k => impl_parseWord.l0 k s (acc ++ [v]) (s.size : Int) ((i + 1 : Nat) : Int)) (if (c :: (bytesOf s).drop (i + 1)).all (fun c => decide (letV c ≠ 0)) = true then vFit (acc ++ (c :: (bytesOf s).drop (i + 1)).map letV) else ([], false)) := by
      intro v hv h0
      subst hv
      refine Ev.pin (ih (i + 1) (acc ++ [letV c]) (by omega) (by omega) (by simp; omega)) ?_
      rw [all_yes _ h0, List.map_cons, List.append_assoc]; rfl
    by_cases h97 : c ≥ 97
    · refine Ev.succ (Ev.congr (f := fun k => impl_parseWord.j1 k s acc c (s.size : Int) (i : Int) (decide (c < 103))) (fun k => ?_) (Ev.succ ?_))
      · rw [impl_parseWord.l0, if_pos (by omega), if_pos (by omega), if_pos (by omega), hbt, wr (by omega) (by omega), if_pos h97]
      · by_cases h2 : c < 103
        · refine Ev.congr (fun k => ?_) (hgo (c - 96) (by unfold letV; rw [if_pos ⟨by omega, h2⟩]) (by omega))
          rw [impl_parseWord.j1, if_pos (by simpa using h2), if_pos (by omega), wr (i := c - 97) (by omega) (by omega), wr (i := c - 97 + 1) (by omega) (by omega), wr (by omega) (by omega), show c - 97 + 1 = c - 96 from by omega]
          rfl
        · refine Ev.congr (f := fun _ => some ([], false)) (fun k => ?_) (Ev.pin (Ev.now _) ?_)
          · rw [impl_parseWord.j1, if_neg (by simpa using h2), if_pos (by omega), if_neg (by omega)]
          · have : letV c = 0 := by unfold letV; rw [if_neg (by omega), if_neg (by omega)]
            rw [all_no _ _ _ this]
    · refine Ev.succ (Ev.congr (f := fun k => impl_parseWord.j1 k s acc c (s.size : Int) (i : Int) false) (fun k => ?_) (Ev.succ ?_))
      · rw [impl_parseWord.l0, if_pos (by omega), if_pos (by omega), if_pos (by omega), hbt, wr (by omega) (by omega), if_neg h97]
      · by_cases h2 : c ≥ 65 ∧ c < 71
        · refine Ev.congr (fun k => ?_) (hgo (64 - c) (by unfold letV; rw [if_neg (by omega), if_pos (by omega)]) (by omega))
          rw [impl_parseWord.j1, if_neg (by simp), if_pos h2.1, if_pos h2.2, if_pos (by omega), wr (i := 65 - c) (by omega) (by omega), wr (i := 65 - c - 1) (by omega) (by omega), wr (by omega) (by omega), show 65 - c - 1 = 64 - c from by omega]
          rfl
        · refine Ev.congr (f := fun _ => some ([], false)) (fun k => ?_) (Ev.pin (Ev.now _) ?_)
          · rw [impl_parseWord.j1, if_neg (by simp)]
            by_cases h3 : c ≥ 65
            · rw [if_pos h3, if_neg (by omega)]
            · rw [if_neg h3]
          · have : letV c = 0 := by unfold letV; rw [if_neg (by omega), if_neg (by omega)]
            rw [all_no _ _ _ this]
theorem parseWord (s : ByteArray) (hs : s.size ≤ 1048576) : Ev (fun k => impl_parseWord.f k s) (vParse (bytesOf s)) := by
  refine Ev.congr (fun k => by unfold impl_parseWord.f; rfl) (Ev.pin (parseWord_round s hs s.size 0 [] (by omega) (by omega) (by simp)) ?_)
  unfold vParse vFit
  simp only [List.drop_zero, List.nil_append, List.length_map]
  by_cases h : (bytesOf s).length ≤ 64 <;> simp [h]

/-- No two neighbours are inverse. -/
def RedS (acc : List Int) : Prop := ∀ p x y q, acc = p ++ x :: y :: q → x ≠ -y
theorem RedS.nil : RedS [] := fun p x y q h => by
  have := congrArg List.length h; simp at this
theorem RedS.dropLast {acc : List Int} (h : RedS acc) : RedS acc.dropLast := fun p x y q e => by
  by_cases h0 : acc = []
  · subst h0; exact absurd e (by simp)
  · refine h p x y (q ++ [acc.getLast h0]) ?_
    have h3 := List.dropLast_concat_getLast h0
    generalize acc.getLast h0 = z at *
    rw [e] at h3
    rw [← h3]; simp
theorem RedS.snoc {acc : List Int} {x : Int} (h : RedS acc) (hx : acc.getLast? ≠ some (-x)) : RedS (acc ++ [x]) := fun p a b q e => by
  rcases List.eq_nil_or_concat q with rfl | ⟨q', z, rfl⟩
  · have e2 : acc ++ [x] = (p ++ [a]) ++ [b] := by rw [e]; simp
    obtain ⟨e3, e4⟩ := List.append_inj' e2 rfl
    have e5 : x = b := by simpa using e4
    intro hab
    apply hx
    rw [e3, e5, ← hab]; simp
  · have e2 : acc ++ [x] = (p ++ a :: b :: q') ++ [z] := by rw [e]; simp
    obtain ⟨e3, _⟩ := List.append_inj' e2 rfl
    exact h p a b q' e3
theorem RedS.red1 {acc : List Int} {x : Int} (h : RedS acc) : RedS (red1 acc x) := by
  unfold L.red1
  split
  · exact h.dropLast
  · exact h.snoc (by assumption)
theorem RedS.redF {l : List Int} : ∀ {acc : List Int}, RedS acc → RedS (redF acc l) := by
  induction l with
  | nil => intro acc h; exact h
  | cons x l ih => intro acc h; exact ih h.red1
theorem RedS.red (l : List Int) : RedS (red l) := RedS.redF RedS.nil
theorem red1_cancel {acc : List Int} (x : Int) (h : RedS acc) : red1 (red1 acc x) (-x) = acc := by
  by_cases e : acc.getLast? = some (-x)
  · have h0 : acc ≠ [] := by rintro rfl; simp at e
    have hl : acc.dropLast ++ [-x] = acc := by
      have := List.dropLast_concat_getLast h0
      rw [List.getLast?_eq_some_getLast h0] at e
      rw [← Option.some.inj e]; exact this
    have h1 : red1 acc x = acc.dropLast := by unfold red1; rw [if_pos e]
    rw [h1]
    unfold red1
    rw [if_neg, hl]
    intro e2
    by_cases h00 : acc.dropLast = []
    · rw [h00] at e2; simp at e2
    · have hl2 := List.dropLast_concat_getLast h00
      rw [List.getLast?_eq_some_getLast h00] at e2
      have hz := Option.some.inj e2
      generalize acc.dropLast.getLast h00 = z at *
      refine h acc.dropLast.dropLast z (-x) [] ?_ (by rw [hz])
      have h7 : acc.dropLast.dropLast ++ [z] ++ [-x] = acc := by rw [hl2]; exact hl
      simpa using h7.symm
  · have h1 : red1 acc x = acc ++ [x] := by unfold red1; rw [if_neg e]
    rw [h1]
    unfold red1
    rw [if_pos (by simp)]
    simp
theorem redF_snoc (acc l : List Int) (x : Int) : redF acc (l ++ [x]) = red1 (redF acc l) x := by simp [redF]
theorem redF_append (acc a b : List Int) : redF acc (a ++ b) = redF (redF acc a) b := by simp [redF]
theorem red_snoc (l : List Int) (x : Int) : red (l ++ [x]) = red1 (red l) x := redF_snoc [] l x
theorem redF_red {acc : List Int} (h : RedS acc) (l : List Int) : redF acc (red l) = redF acc l := by
  suffices H : ∀ m : List Int, redF acc (red m.reverse) = redF acc m.reverse by simpa using H l.reverse
  intro m
  induction m with
  | nil => rfl
  | cons x m ih =>
    rw [List.reverse_cons, red_snoc, redF_snoc, ← ih]
    by_cases e : (red m.reverse).getLast? = some (-x)
    · have h0 : red m.reverse ≠ [] := by intro h0; rw [h0] at e; simp at e
      have hl : (red m.reverse).dropLast ++ [-x] = red m.reverse := by
        have := List.dropLast_concat_getLast h0
        rw [List.getLast?_eq_some_getLast h0] at e
        rw [← Option.some.inj e]; exact this
      have h1 : red1 (red m.reverse) x = (red m.reverse).dropLast := by unfold red1; rw [if_pos e]
      rw [h1]
      conv => rhs; rw [← hl]
      rw [redF_snoc]
      have := red1_cancel (-x) (RedS.redF (l := (red m.reverse).dropLast) h)
      rw [Int.neg_neg] at this
      exact this.symm
    · have h1 : red1 (red m.reverse) x = red m.reverse ++ [x] := by unfold red1; rw [if_neg e]
      rw [h1, redF_snoc]
theorem red_red (l : List Int) : red (red l) = red l := redF_red RedS.nil l
theorem red_append (a b : List Int) : red (a ++ b) = redF (red a) b := redF_append [] a b
theorem red_left (a b : List Int) : red (red a ++ b) = red (a ++ b) := by rw [red_append, red_red, ← red_append]
theorem red_right (a b : List Int) : red (a ++ red b) = red (a ++ b) := by rw [red_append, redF_red (RedS.red a), ← red_append]
theorem red_both (a b : List Int) : red (red a ++ red b) = red (a ++ b) := by rw [red_left, red_right]
theorem vFit_len (l : List Int) : (vFit l).1.length ≤ 64 := by unfold vFit; split <;> simp; omega

theorem l1Own (l : List Int) (h : l.length ≤ 1099511627776) : spec_l1Own.f l = some l := by
  unfold spec_l1Own.f
  rw [Option.bind_some, if_pos (by simp; omega)]; rfl
theorem l2Short (l : List Int) : spec_l2Short.f l = some (vFit l) := by
  unfold spec_l2Short.f vFit
  by_cases h : l.length ≤ 64
  · rw [if_neg (by omega), if_pos h]
  · rw [if_pos (by omega), if_neg h]
theorem l2Join (a b : List Int) (hl : a.length + b.length ≤ 1048576) (ha : Mild a) (hb : Mild b) : Ev (fun k => spec_l2Join.f k a b) (red (a ++ b)) := by
  refine Ev.congr (fun k => by unfold spec_l2Join.f; rw [l1Own a (by omega), Option.bind_some, if_pos (by omega)]) (Ev.bind (l2Reduce _ (by simp; omega) (ha.append hb)) (Ev.now _))
theorem l2Inverse_round (l : List Int) (hl : l.length ≤ 1048576) (hm : Mild l) : ∀ (j : Nat), j ≤ l.length → Ev (fun k => spec_l2Inverse.l0 k l (inv (l.drop j)) ((j : Int) - 1)) (inv l) := by
  intro j
  induction j with
  | zero =>
    intro _
    refine Ev.succ (Ev.congr (f := fun _ => some (inv l)) (fun k => ?_) (Ev.now _))
    rw [spec_l2Inverse.l0, if_neg (by omega), List.drop_zero]
  | succ j ih =>
    intro hj
    have hlt : j < l.length := by omega
    have hb := hm l[j] (List.getElem_mem hlt)
    have hn := inv_len (l.drop (j + 1))
    have hn2 : (l.drop (j + 1)).length ≤ l.length := by simp
    refine Ev.succ (Ev.congr (fun k => ?_) (Ev.pin (ih (by omega)) rfl))
    rw [spec_l2Inverse.l0, show (((j + 1 : Nat) : Int) - 1) = (j : Int) from by omega, if_pos (by omega), if_pos (by omega), if_pos (by omega), if_pos (by omega), rd_get l j hlt, wr (by omega) (by omega), wr (by omega) (by omega)]
    rw [List.drop_eq_getElem_cons hlt, inv_cons]
theorem l2Inverse (l : List Int) (hl : l.length ≤ 1048576) (hm : Mild l) : Ev (fun k => spec_l2Inverse.f k l) (inv l) := by
  refine Ev.congr (fun k => by unfold spec_l2Inverse.f; rw [wr (by omega) (by omega)]) (Ev.pin (Ev.congr (fun k => ?_) (l2Inverse_round l hl hm l.length (Nat.le_refl _))) rfl)
  rw [List.drop_length]; rfl
theorem l4Commutator (a b : List Int) (hl : a.length ≤ 100000) (hlb : b.length ≤ 100000) (ha : Mild a) (hb : Mild b) : Ev (fun k => spec_l4Commutator.f k a b) (red (a ++ b ++ (inv a ++ inv b))) := by
  have h1 := red_len (a ++ b); have h2 := inv_len a; have h3 := inv_len b; have h4 := red_len (inv a ++ inv b)
  simp only [List.length_append] at h1 h4
  refine Ev.congr (fun k => by unfold spec_l4Commutator.f; rfl) (Ev.bind (l2Join a b (by omega) ha hb) (Ev.bind (l2Inverse a (by omega) ha) (Ev.bind (l2Inverse b (by omega) hb) (Ev.bind (l2Join _ _ (by omega) ha.inv hb.inv) (Ev.bind (l2Join _ _ (by omega) (ha.append hb).red (ha.inv.append hb.inv).red) (Ev.pin (Ev.now _) (red_both _ _)))))))
def isLt (c : Int) : Bool := decide (letV c ≠ 0)
theorem isLt_ne {c : Int} (h : isLt c = true) : c ≠ 91 ∧ c ≠ 44 ∧ c ≠ 93 ∧ chN (letV c) = c ∧ letV c ≠ 0 ∧ -6 ≤ letV c ∧ letV c ≤ 6 := by
  have h0 : letV c ≠ 0 := by simpa [isLt] using h
  unfold letV at h0 ⊢
  unfold chN
  split at h0
  · rename_i h1; rw [if_pos h1]; refine ⟨by omega, by omega, by omega, ?_, by omega, by omega, by omega⟩; rw [if_pos (by omega)]; omega
  · split at h0
    · rename_i h1 h2; rw [if_neg h1, if_pos h2]; refine ⟨by omega, by omega, by omega, ?_, by omega, by omega, by omega⟩; rw [if_neg (by omega)]; omega
    · exact absurd rfl h0
theorem chN_lt {x : Int} (h0 : x ≠ 0) (h1 : -6 ≤ x) (h2 : x ≤ 6) : letV (chN x) = x ∧ isLt (chN x) = true := by
  have h3 : letV (chN x) = x := by
    unfold letV chN
    by_cases h : x > 0
    · rw [if_pos h, if_pos (by omega)]; omega
    · rw [if_neg h, if_neg (by omega), if_pos (by omega)]; omega
  exact ⟨h3, by simp [isLt, h3, h0]⟩
/-- A tree, and the sign c behind it. -/
def rdN (f : List Int → Option (Tr × List Int)) (c : Int) (L : List Int) : Option (Tr × List Int) :=
  match f L with
  | some (t, x :: R) => if x = c then some (t, R) else none
  | _ => none
def rd : Nat → List Int → Option (Tr × List Int)
  | 0, _ => none
  | d + 1, L => if L.takeWhile isLt ≠ [] then some (.leaf ((L.takeWhile isLt).map letV), L.dropWhile isLt)
    else match L with
      | [] => none
      | c :: L1 => if c = 91 then (match rdN (rd d) 44 L1 with
          | none => none
          | some (a, L2) => match rdN (rd d) 93 L2 with
            | none => none
            | some (b, L3) => some (.node a b, L3))
        else none
/-- A tree's text. -/
def tx : Tr → List Int
  | .leaf l => l.map chN
  | .node a b => 91 :: (tx a ++ 44 :: (tx b ++ [93]))
/-- All leaves are words of letters, not empty. -/
def okT : Tr → Prop
  | .leaf l => l ≠ [] ∧ ∀ x ∈ l, x ≠ 0 ∧ -6 ≤ x ∧ x ≤ 6
  | .node a b => okT a ∧ okT b
def le64 : Tr → Bool
  | .leaf l => decide (l.length ≤ 64)
  | .node a b => le64 a && le64 b
def hdNo (R : List Int) : Prop := ∀ c R', R = c :: R' → isLt c = false
theorem rdN_some {f : List Int → Option (Tr × List Int)} {c : Int} {L : List Int} {t : Tr} {R : List Int} (h : rdN f c L = some (t, R)) : f L = some (t, c :: R) := by
  unfold rdN at h
  split at h
  · rename_i t' x R' h1
    split at h
    · rename_i h2
      obtain ⟨rfl, rfl⟩ : t' = t ∧ R' = R := by simpa using h
      rw [h1, h2]
    · simp at h
  · simp at h
theorem rdN_of {f : List Int → Option (Tr × List Int)} {c : Int} {L : List Int} {t : Tr} {R : List Int} (h : f L = some (t, c :: R)) : rdN f c L = some (t, R) := by
  unfold rdN; rw [h]; simp
theorem dropWhile_hd (L : List Int) : hdNo (L.dropWhile isLt) := by
  induction L with
  | nil => intro c R h; simp at h
  | cons x L ih =>
    intro c R h
    rw [List.dropWhile_cons] at h
    split at h
    · exact ih c R h
    · rename_i h1
      obtain ⟨rfl, rfl⟩ : x = c ∧ L = R := by simpa using h
      simpa using h1
theorem map_ch (p : List Int) (h : ∀ c ∈ p, isLt c = true) : (p.map letV).map chN = p := by
  induction p with
  | nil => rfl
  | cons c p ih =>
    rw [List.map_cons, List.map_cons, (isLt_ne (h c (by simp))).2.2.2.1, ih (fun x hx => h x (by simp [hx]))]
theorem tw_all (L : List Int) : ∀ c ∈ L.takeWhile isLt, isLt c = true := by
  induction L with
  | nil => intro c h; simp at h
  | cons x L ih =>
    intro c h
    rw [List.takeWhile_cons] at h
    split at h
    · rename_i h1
      rcases List.mem_cons.1 h with rfl | h2
      · exact h1
      · exact ih c h2
    · simp at h
theorem rd_tx : ∀ (d : Nat) (L : List Int) (t : Tr) (R : List Int), rd d L = some (t, R) → L = tx t ++ R ∧ okT t ∧ (∀ l, t = .leaf l → hdNo R) := by
  intro d
  induction d with
  | zero => intro L t R h; simp [rd] at h
  | succ d ih =>
    intro L t R h
    unfold rd at h
    by_cases hp : L.takeWhile isLt ≠ []
    · rw [if_pos hp] at h
      obtain ⟨rfl, rfl⟩ : Tr.leaf ((L.takeWhile isLt).map letV) = t ∧ L.dropWhile isLt = R := by simpa using h
      refine ⟨?_, ⟨?_, ?_⟩, fun l _ => dropWhile_hd L⟩
      · unfold tx; rw [map_ch _ (tw_all L), List.takeWhile_append_dropWhile]
      · simpa using hp
      · intro x hx
        obtain ⟨c, hc, rfl⟩ := List.mem_map.1 hx
        exact (isLt_ne (tw_all L c hc)).2.2.2.2
    · rw [if_neg hp] at h
      cases L with
      | nil => simp at h
      | cons c L1 =>
        simp only at h
        by_cases hc : c = 91
        · rw [if_pos hc] at h
          split at h
          · simp at h
          · rename_i a L2 h1
            split at h
            · simp at h
            · rename_i b L3 h2
              obtain ⟨rfl, rfl⟩ : Tr.node a b = t ∧ L3 = R := by simpa using h
              obtain ⟨e1, k1, -⟩ := ih _ _ _ (rdN_some h1)
              obtain ⟨e2, k2, -⟩ := ih _ _ _ (rdN_some h2)
              refine ⟨?_, ⟨k1, k2⟩, fun l hl => by simp at hl⟩
              unfold tx
              rw [hc, e1, e2]
              simp
        · rw [if_neg hc] at h; simp at h
theorem tw_app (l R : List Int) (h : ∀ c ∈ l, isLt c = true) (hR : hdNo R) : (l ++ R).takeWhile isLt = l ∧ (l ++ R).dropWhile isLt = R := by
  induction l with
  | nil =>
    cases R with
    | nil => simp
    | cons c R =>
      have := hR c R rfl
      simp [List.takeWhile_cons, List.dropWhile_cons, this]
  | cons x l ih =>
    have h1 := h x (by simp)
    obtain ⟨h2, h3⟩ := ih (fun c hc => h c (by simp [hc]))
    rw [List.cons_append, List.takeWhile_cons, List.dropWhile_cons, if_pos h1, if_pos h1, h2, h3]
    exact ⟨rfl, rfl⟩
theorem lt44 : isLt 44 = false := by decide
theorem lt93 : isLt 93 = false := by decide
theorem lt91 : isLt 91 = false := by decide
theorem hdNo44 (R : List Int) : hdNo (44 :: R) := fun c R' h => by
  obtain ⟨rfl, -⟩ := List.cons.inj h; exact lt44
theorem hdNo93 (R : List Int) : hdNo (93 :: R) := fun c R' h => by
  obtain ⟨rfl, -⟩ := List.cons.inj h; exact lt93
theorem rd_comp : ∀ (d : Nat) (t : Tr) (R : List Int), okT t → (tx t ++ R).length < d → (∀ l, t = .leaf l → hdNo R) → rd d (tx t ++ R) = some (t, R) := by
  intro d
  induction d with
  | zero => intro t R _ h; omega
  | succ d ih =>
    intro t R hk hl hR
    unfold rd
    cases t with
    | leaf l =>
      obtain ⟨h0, h1⟩ := hk
      have h2 : ∀ c ∈ l.map chN, isLt c = true := fun c hc => by
        obtain ⟨x, hx, rfl⟩ := List.mem_map.1 hc
        obtain ⟨a1, a2, a3⟩ := h1 x hx
        exact (chN_lt a1 a2 a3).2
      obtain ⟨e1, e2⟩ := tw_app (l.map chN) R h2 (hR l rfl)
      rw [show tx (.leaf l) = l.map chN from rfl, e1, e2, if_pos (by simpa using h0)]
      have e3 : (l.map chN).map letV = l := by
        rw [List.map_map]
        refine (List.map_congr_left (g := id) fun x hx => ?_).trans (List.map_id _)
        obtain ⟨a1, a2, a3⟩ := h1 x hx
        exact (chN_lt a1 a2 a3).1
      rw [e3]
    | node a b =>
      have e : tx (.node a b) ++ R = 91 :: (tx a ++ 44 :: (tx b ++ 93 :: R)) := by simp [tx]
      rw [e] at hl ⊢
      simp only [List.length_cons, List.length_append] at hl
      have i1 := ih a (44 :: (tx b ++ 93 :: R)) hk.1 (by simp; omega) (fun _ _ => hdNo44 _)
      have i2 := ih b (93 :: R) hk.2 (by simp; omega) (fun _ _ => hdNo93 _)
      rw [if_neg (by simp [List.takeWhile_cons, lt91])]
      simp only [if_pos, rdN_of i1, rdN_of i2]
theorem tx_pos : ∀ (t : Tr), okT t → 0 < (tx t).length
  | .leaf l, h => by
    have := h.1
    unfold tx
    rw [List.length_map]
    exact List.length_pos_iff.2 this
  | .node a b, _ => by unfold tx; simp
theorem rd_len {d : Nat} {L : List Int} {t : Tr} {R : List Int} (h : rd d L = some (t, R)) : R.length < L.length := by
  obtain ⟨e, k, -⟩ := rd_tx d L t R h
  have := tx_pos t k
  rw [e, List.length_append]; omega
/-! the runs of letters -/
def runOk : Nat → List Int → Bool
  | _, [] => true
  | n, c :: l => if isLt c = true then decide (n + 1 ≤ 64) && runOk (n + 1) l else runOk 0 l
theorem run_hd (n m : Nat) (R : List Int) (h : hdNo R) : runOk n R = runOk m R := by
  cases R with
  | nil => rfl
  | cons c R => unfold runOk; rw [if_neg (by simp [h c R rfl]), if_neg (by simp [h c R rfl])]
theorem run_word : ∀ (l : List Int) (n : Nat) (R : List Int), (∀ c ∈ l, isLt c = true) → n ≤ 64 → hdNo R → runOk n (l ++ R) = (decide (n + l.length ≤ 64) && runOk 0 R)
  | [], n, R, _, hn, hR => by simp [hn, run_hd n 0 R hR]
  | c :: l, n, R, h, hn, hR => by
    have h1 := h c (by simp)
    have h2 := fun x (hx : x ∈ l) => h x (by simp [hx])
    rw [List.cons_append, runOk, if_pos h1]
    by_cases h3 : n + 1 ≤ 64
    · rw [run_word l (n + 1) R h2 h3 hR, List.length_cons, show n + 1 + l.length = n + (l.length + 1) from by omega]; simp [h3]
    · rw [decide_eq_false h3, decide_eq_false (by rw [List.length_cons]; omega)]; simp
theorem run_tx : ∀ (t : Tr) (R : List Int), okT t → hdNo R → runOk 0 (tx t ++ R) = (le64 t && runOk 0 R)
  | .leaf l, R, hk, hR => by
    have h2 : ∀ c ∈ l.map chN, isLt c = true := fun c hc => by
      obtain ⟨x, hx, rfl⟩ := List.mem_map.1 hc
      obtain ⟨a1, a2, a3⟩ := hk.2 x hx
      exact (chN_lt a1 a2 a3).2
    rw [show tx (.leaf l) = l.map chN from rfl, run_word _ 0 R h2 (by omega) hR]
    simp [le64]
  | .node a b, R, hk, hR => by
    have e : tx (.node a b) ++ R = 91 :: (tx a ++ 44 :: (tx b ++ 93 :: R)) := by simp [tx]
    rw [e, runOk, if_neg (by simp [lt91]), run_tx a _ hk.1 (hdNo44 _)]
    rw [runOk, if_neg (by simp [lt44]), run_tx b _ hk.2 (hdNo93 _), runOk, if_neg (by simp [lt93])]
    simp [le64, Bool.and_assoc]
theorem rd_word (d : Nat) (L : List Int) (h : L.takeWhile isLt ≠ []) : rd (d + 1) L = some (.leaf ((L.takeWhile isLt).map letV), L.dropWhile isLt) := by unfold rd; rw [if_pos h]
theorem rd_other (d : Nat) (c : Int) (L1 : List Int) (h : isLt c = false) (h91 : c ≠ 91) : rd (d + 1) (c :: L1) = none := by
  unfold rd; rw [if_neg (by simp [List.takeWhile_cons, h])]; simp only; rw [if_neg h91]
theorem rd_open (d : Nat) (L1 : List Int) : rd (d + 1) (91 :: L1) = (match rdN (rd d) 44 L1 with
    | none => none
    | some (a, L2) => match rdN (rd d) 93 L2 with
      | none => none
      | some (b, L3) => some (.node a b, L3)) := by
  conv => lhs; unfold rd
  rw [if_neg (by simp [List.takeWhile_cons, lt91])]; simp only [if_pos]
theorem rd_o1 {d : Nat} {L1 : List Int} (h : rdN (rd d) 44 L1 = none) : rd (d + 1) (91 :: L1) = none := by rw [rd_open, h]
theorem rd_o2 {d : Nat} {L1 L2 : List Int} {a : Tr} (h : rdN (rd d) 44 L1 = some (a, L2)) (h2 : rdN (rd d) 93 L2 = none) : rd (d + 1) (91 :: L1) = none := by rw [rd_open, h]; simp only; rw [h2]
theorem rd_o3 {d : Nat} {L1 L2 L3 : List Int} {a b : Tr} (h : rdN (rd d) 44 L1 = some (a, L2)) (h2 : rdN (rd d) 93 L2 = some (b, L3)) : rd (d + 1) (91 :: L1) = some (.node a b, L3) := by rw [rd_open, h]; simp only; rw [h2]
theorem bytes_cut (s : ByteArray) (a b : Nat) : bytesOf (s.extract a b) = ((bytesOf s).take b).drop a := by
  unfold bytesOf
  rw [ByteArray.data_extract, Array.toList_extract, List.extract_eq_take_drop, ← List.map_take, ← List.map_drop, List.drop_take]
theorem bytes_tail (s : ByteArray) (a : Nat) : bytesOf (s.extract a s.size) = (bytesOf s).drop a := by
  rw [bytes_cut, List.take_of_length_le (by rw [bytesOf_length]; exact Nat.le_refl _)]
theorem bytes_head (s : ByteArray) (b : Nat) : bytesOf (s.extract 0 b) = (bytesOf s).take b := by rw [bytes_cut, List.drop_zero]
theorem toList_nil (s : ByteArray) : s.toList = [] ↔ bytesOf s = [] := by
  rw [Go.Lib.toList_data]; unfold bytesOf; simp
theorem bt_app (s : ByteArray) {pre suf : List Int} {c : Int} (h : bytesOf s = pre ++ c :: suf) : bt s (pre.length : Int) = c ∧ pre.length < s.size := by
  have h1 : pre.length < s.size := by rw [← bytesOf_length, h]; simp
  refine ⟨?_, h1⟩
  rw [bt_get s pre.length h1]
  simp [h]
/-- What the reference tells of a tree that has been read. -/
def resR (L : List Int) : Option (Tr × List Int) → Int × Int × Int × Int × Bool
  | some (t, R) => ((L.length : Int) - (R.length : Int), (impl_tree_shape.f t).1, (impl_tree_shape.f t).2, impl_tree_raw.f t, true)
  | none => (0, 0, 0, 0, false)
theorem resR_none (L : List Int) : resR L none = (0, 0, 0, 0, false) := rfl
theorem l1Most (x y : Int) : spec_l1Most.f x y = some (mx x y) := by
  unfold spec_l1Most.f mx; by_cases h : x > y
  · rw [if_pos h]; congr 1; split <;> omega
  · rw [if_neg h]; congr 1; split <;> omega
theorem l4_l0 (s : ByteArray) (hs : s.size ≤ 1000) (r : Int × Int × Int × Int × Bool) : ∀ (suf pre : List Int), bytesOf s = pre ++ suf → Ev (fun k => spec_l4Read.j1 k s (((pre ++ suf.takeWhile isLt).length : Nat) : Int)) r → Ev (fun k => spec_l4Read.l0 k s (pre.length : Int)) r := by
  intro suf
  induction suf with
  | nil =>
    intro pre he h
    have hl : s.size = pre.length := by rw [← bytesOf_length, he]; simp
    refine L.Ev.succ (Ev.congr (fun k => by rw [spec_l4Read.l0, if_neg (by omega)]) (Ev.congr (fun k => ?_) h))
    simp
  | cons c suf ih =>
    intro pre he h
    obtain ⟨hb, hlt⟩ := bt_app s he
    have hc := bytes_range s c (by rw [he]; simp)
    refine L.Ev.succ (Ev.congr (fun k => by rw [spec_l4Read.l0, if_pos (by omega), if_pos (by omega), hb]) (Ev.bind (l2Sign c hc) ?_))
    cases h1 : isLt c with
    | false =>
      have h0 : letV c = 0 := by simpa [isLt] using h1
      refine Ev.congr (fun k => by rw [if_pos h0]) (Ev.congr (fun k => ?_) h)
      simp [List.takeWhile_cons, h1]
    | true =>
      have h0 : letV c ≠ 0 := by simpa [isLt] using h1
      have e : (pre ++ [c]) ++ suf.takeWhile isLt = pre ++ (c :: suf).takeWhile isLt := by simp [List.takeWhile_cons, h1]
      refine Ev.congr (fun k => by rw [if_neg h0, wr (by omega) (by omega)]) (Ev.congr (fun k => ?_) (ih (pre ++ [c]) (by simp [he]) (by rw [e]; exact h)))
      simp
theorem resR_some (L : List Int) (t : Tr) (R : List Int) (n : Int) (h : (L.length : Int) - (R.length : Int) = n) : resR L (some (t, R)) = (n, (impl_tree_shape.f t).1, (impl_tree_shape.f t).2, impl_tree_raw.f t, true) := by
  subst h; rfl
/-- What is told behind the first of two trees. -/
def resN (L : List Int) (d1 lv1 rw1 : Int) : Option (Tr × List Int) → Int × Int × Int × Int × Bool
  | some (b, L3) => ((L.length : Int) - (L3.length : Int), wrap64 (mx d1 (impl_tree_shape.f b).1 + 1), wrap64 (lv1 + (impl_tree_shape.f b).2), wrap64 (2 * wrap64 (rw1 + impl_tree_raw.f b)), true)
  | none => (0, 0, 0, 0, false)
theorem resN_none (L : List Int) (x y z : Int) : resN L x y z none = (0, 0, 0, 0, false) := rfl
theorem l4_j3 (d : Nat) (s : ByteArray) (hs : s.size ≤ 1000) (L P1 L2 : List Int) (hL : bytesOf s = L) (he : L = P1 ++ 44 :: L2) (m1 : Nat) (hm1 : m1 = P1.length) (x1 d1 lv1 rw1 : Int)
    (hy : Ev (fun k => spec_l4Read.f k (s.extract (m1 + 1) s.size)) (resR L2 (rd d L2))) :
    Ev (fun k => spec_l4Read.j3 k s (m1 : Int) false x1 d1 lv1 rw1) (resN L d1 lv1 rw1 (rdN (rd d) 93 L2)) := by
  have hsz : s.size = L.length := by rw [← bytesOf_length, hL]
  have hll : L.length = m1 + 1 + L2.length := by rw [he, hm1]; simp; omega
  have w2 : wrap64 ((m1 : Int) + 1) = ((m1 + 1 : Nat) : Int) := by rw [wr (by omega) (by omega)]; omega
  refine Go.Proofs.Ytlojkjkbocfmfaa.L.Ev.succ (Ev.congr (fun k => by rw [spec_l4Read.j3, if_neg (by simp), w2, if_pos (by omega), if_pos (by omega), Int.toNat_natCast]) ?_)
  cases h2 : rd d L2 with
  | none =>
    rw [h2] at hy
    rw [show rdN (rd d) 93 L2 = none from (by unfold rdN; rw [h2]), resN_none]
    refine Ev.bind (Ev.pin hy (resR_none L2)) ?_
    dsimp only
    exact Ev.congr (fun k => by rw [if_neg (by simp)]) (Ev.now _)
  | some q2 =>
    obtain ⟨b, R2⟩ := q2
    obtain ⟨e3, -, -⟩ := rd_tx d L2 b R2 h2
    obtain ⟨m2, hm2⟩ : ∃ m2, m2 = (tx b).length := ⟨_, rfl⟩
    have l2 : L2.length = m2 + R2.length := by rw [e3, List.length_append, hm2]
    have w3 : wrap64 (((m1 + 1 : Nat) : Int) + (m2 : Int)) = ((m1 + 1 + m2 : Nat) : Int) := by rw [wr (by omega) (by omega)]; omega
    rw [h2] at hy
    refine Ev.bind (Ev.pin hy (resR_some L2 b R2 (m2 : Int) (by omega))) ?_
    dsimp only
    refine Ev.congr (fun k => by rw [if_pos rfl]) ?_
    rw [w3]
    cases R2 with
    | nil =>
      rw [show rdN (rd d) 93 L2 = none from (by unfold rdN; rw [h2]), resN_none]
      simp only [List.length_nil] at l2
      exact Ev.congr (fun k => by rw [if_pos (by omega)]) (Ev.now _)
    | cons y L3 =>
      have hpl : (P1 ++ 44 :: tx b).length = m1 + 1 + m2 := by rw [List.length_append, List.length_cons, ← hm1, ← hm2]; omega
      obtain ⟨hb2, hs2⟩ := bt_app s (pre := P1 ++ 44 :: tx b) (c := y) (suf := L3) (by rw [hL, he, e3]; simp)
      rw [hpl] at hb2 hs2
      have l3 : L2.length = m2 + (L3.length + 1) := l2
      refine Ev.congr (fun k => by rw [if_neg (by omega), if_pos (by omega), if_pos (by omega), hb2]) ?_
      by_cases h93 : y = 93
      · subst h93
        rw [rdN_of h2]
        refine Ev.congr (fun k => by rw [if_pos rfl, l1Most, Option.bind_some]) (Ev.pin (Ev.now _) ?_)
        unfold resN
        rw [show wrap64 (((m1 + 1 + m2 : Nat) : Int) + 1) = (L.length : Int) - (L3.length : Int) from by rw [wr (by omega) (by omega)]; omega]
      · rw [show rdN (rd d) 93 L2 = none from (by unfold rdN; rw [h2]; simp [h93]), resN_none]
        exact Ev.congr (fun k => by rw [if_neg h93]) (Ev.now _)
theorem l4_fail (s : ByteArray) (p x1 x2 x3 x4 : Int) : Ev (fun k => spec_l4Read.j3 k s p true x1 x2 x3 x4) (0, 0, 0, 0, false) := L.Ev.succ (Ev.congr (fun k => by rw [spec_l4Read.j3, if_pos rfl]) (Ev.now _))
theorem resN_eq (d : Nat) (L1 L2 : List Int) (a : Tr) (h : rdN (rd d) 44 L1 = some (a, L2)) : resN (91 :: L1) (impl_tree_shape.f a).1 (impl_tree_shape.f a).2 (impl_tree_raw.f a) (rdN (rd d) 93 L2) = resR (91 :: L1) (rd (d + 1) (91 :: L1)) := by
  cases h2 : rdN (rd d) 93 L2 with
  | none => rw [rd_o2 h h2]; rfl
  | some q => obtain ⟨b, L3⟩ := q; rw [rd_o3 h h2]; rfl
theorem l4_j2 (d : Nat) (s : ByteArray) (hs : s.size ≤ 1000) (L1 : List Int) (hc : bytesOf s = 91 :: L1) (hx : Ev (fun k => spec_l4Read.f k (s.extract 1 s.size)) (resR L1 (rd d L1)))
    (hy : ∀ m L2, bytesOf (s.extract m s.size) = L2 → 1 ≤ m → L2.length < L1.length → Ev (fun k => spec_l4Read.f k (s.extract m s.size)) (resR L2 (rd d L2))) :
    Ev (fun k => spec_l4Read.j2 k s false) (resR (91 :: L1) (rd (d + 1) (91 :: L1))) := by
  have hls : s.size = L1.length + 1 := by rw [← bytesOf_length, hc]; rfl
  refine L.Ev.succ (Ev.congr (fun k => by rw [spec_l4Read.j2, if_neg (by simp), if_pos (by omega)]) ?_)
  cases h1 : rd d L1 with
  | none =>
    rw [h1] at hx
    rw [rd_o1 (by unfold rdN; rw [h1]), resR_none]
    refine Ev.bind (Ev.pin hx (resR_none L1)) ?_
    dsimp only
    refine Ev.congr (fun k => by rw [if_neg (by simp)]) ?_
    exact l4_fail _ _ _ _ _ _
  | some q =>
    obtain ⟨a, R1⟩ := q
    obtain ⟨e1, -, -⟩ := rd_tx d L1 a R1 h1
    obtain ⟨m1, hm1⟩ : ∃ m1, m1 = (tx a).length := ⟨_, rfl⟩
    have l1 : L1.length = m1 + R1.length := by rw [e1, List.length_append, hm1]
    have w1 : wrap64 (1 + (m1 : Int)) = ((m1 + 1 : Nat) : Int) := by rw [wr (by omega) (by omega)]; omega
    rw [h1] at hx
    refine Ev.bind (Ev.pin hx (resR_some L1 a R1 (m1 : Int) (by omega))) ?_
    dsimp only
    refine Ev.congr (fun k => by rw [if_pos rfl]) ?_
    rw [w1]
    cases R1 with
    | nil =>
      rw [rd_o1 (by unfold rdN; rw [h1]), resR_none]
      simp only [List.length_nil] at l1
      exact Ev.congr (fun k => by rw [if_pos (by omega)]) (l4_fail _ _ _ _ _ _)
    | cons x L2 =>
      have hpl : (91 :: tx a).length = m1 + 1 := by rw [List.length_cons, ← hm1]
      obtain ⟨hb1, hs1⟩ := bt_app s (pre := 91 :: tx a) (c := x) (suf := L2) (by rw [hc, e1]; rfl)
      rw [hpl] at hb1 hs1
      have l2 : L1.length = m1 + (L2.length + 1) := l1
      refine Ev.congr (fun k => by rw [if_neg (by omega), if_pos (by omega), if_pos (by omega), hb1]) ?_
      by_cases h44 : x = 44
      · subst h44
        have e4 : 91 :: L1 = (91 :: tx a) ++ 44 :: L2 := by rw [e1]; rfl
        have hb : bytesOf (s.extract (m1 + 1 + 1) s.size) = L2 := by
          rw [bytes_tail, hc, e4, show m1 + 1 + 1 = ((91 :: tx a) ++ [44]).length from by rw [List.length_append, hpl]; rfl, show (91 :: tx a) ++ 44 :: L2 = ((91 :: tx a) ++ [44]) ++ L2 from by simp, List.drop_left]
        exact Ev.pin (l4_j3 d s hs (91 :: L1) (91 :: tx a) L2 hc e4 (m1 + 1) hpl.symm _ _ _ _ (hy _ L2 hb (by omega) (by omega))) (resN_eq d L1 L2 a (rdN_of h1))
      · rw [rd_o1 (by unfold rdN; rw [h1]; simp [h44]), resR_none]
        have hne : (x != 44) = true := bne_iff_ne.2 h44
        rw [hne]
        exact l4_fail _ _ _ _ _ _
theorem l4Read : ∀ (d : Nat) (s : ByteArray), s.size ≤ 1000 → s.size < d → Ev (fun k => spec_l4Read.f k s) (resR (bytesOf s) (rd d (bytesOf s))) := by
  intro d
  induction d with
  | zero => intro s _ h; omega
  | succ d ih =>
    intro s hs hd
    have hL := bytesOf_length s
    refine L.Ev.succ (Ev.congr (fun k => by rw [spec_l4Read.f]) (Ev.congr (fun k => ?_) (l4_l0 s hs _ (bytesOf s) [] rfl ?_)))
    · simp
    rw [List.nil_append]
    refine L.Ev.succ ?_
    by_cases hp : (bytesOf s).takeWhile isLt ≠ []
    · rw [rd_word d _ hp]
      have h1 : 0 < ((bytesOf s).takeWhile isLt).length := List.length_pos_iff.2 hp
      have h2 : ((bytesOf s).takeWhile isLt).length + ((bytesOf s).dropWhile isLt).length = (bytesOf s).length := by rw [← List.length_append, List.takeWhile_append_dropWhile]
      refine Ev.congr (fun k => by rw [spec_l4Read.j1, if_pos (by omega)]) (Ev.pin (Ev.now _) ?_)
      rw [resR_some _ _ _ (((bytesOf s).takeWhile isLt).length : Int) (by omega)]
      simp only [impl_tree_shape.f, impl_tree_raw.f, List.length_map]
    · have hp0 : (bytesOf s).takeWhile isLt = [] := by simpa using hp
      rw [hp0]
      cases hc : bytesOf s with
      | nil =>
        rw [show rd (d + 1) [] = none from rfl, resR_none]
        exact Ev.congr (fun k => by rw [spec_l4Read.j1, if_neg (by simp), if_pos ((toList_nil s).2 hc)]) (L.Ev.succ (Ev.congr (fun k => by rw [spec_l4Read.j2, if_pos rfl]) (Ev.now _)))
      | cons c L1 =>
        have hlt : isLt c = false := by
          rw [hc, List.takeWhile_cons] at hp0
          by_cases h : isLt c = true
          · rw [if_pos h] at hp0; simp at hp0
          · simpa using h
        obtain ⟨hb, hsz⟩ := bt_app s (pre := []) hc
        have hb0 : bt s 0 = c := hb
        have hls : s.size = L1.length + 1 := by rw [← hL, hc]; rfl
        have hnl : s.toList ≠ [] := fun h => by rw [(toList_nil s).1 h] at hc; simp at hc
        refine Ev.congr (fun k => by rw [spec_l4Read.j1, if_neg (by simp), if_neg hnl, if_pos (by omega), hb0]) ?_
        by_cases h91 : c = 91
        · subst h91
          have hx := ih (s.extract 1 s.size) (by rw [ByteArray.size_extract]; omega) (by rw [ByteArray.size_extract]; omega)
          have hx1 : bytesOf (s.extract 1 s.size) = L1 := by rw [bytes_tail, hc]; rfl
          rw [hx1] at hx
          exact l4_j2 d s hs L1 hc hx (fun m L2 h1 h2 h3 => by
            have := ih (s.extract m s.size) (by rw [ByteArray.size_extract]; omega) (by rw [ByteArray.size_extract]; omega)
            rw [h1] at this; exact this)
        · rw [rd_other d c L1 hlt h91, resR_none]
          have hne : (c != 91) = true := bne_iff_ne.2 h91
          rw [hne]
          exact L.Ev.succ (Ev.congr (fun k => by rw [spec_l4Read.j2, if_pos rfl]) (Ev.now _))
theorem whole_run (s : ByteArray) (hs : s.size ≤ 1000) (x1 x2 x3 x4 : Int) : ∀ (suf pre : List Int) (ok : Bool) (n : Nat), bytesOf s = pre ++ suf → n ≤ pre.length →
    Ev (fun k => spec_l4Whole.l0 k s ok (n : Int) (pre.length : Int) x1 x2 x3 x4) (x1, x2, x3, x4, (ok && runOk n suf) && (x1 == (s.size : Int))) := by
  intro suf
  induction suf with
  | nil =>
    intro pre ok n he hn
    have hl : s.size = pre.length := by rw [← bytesOf_length, he]; simp
    cases ok with
    | true => exact L.Ev.succ (Ev.congr (fun k => by rw [spec_l4Whole.l0, if_neg (by omega), if_pos rfl]) (Ev.pin (Ev.now _) (by simp [runOk])))
    | false => exact L.Ev.succ (Ev.congr (fun k => by rw [spec_l4Whole.l0, if_neg (by omega), if_neg (by simp)]) (Ev.pin (Ev.now _) (by simp)))
  | cons c suf ih =>
    intro pre ok n he hn
    obtain ⟨hb, hlt⟩ := bt_app s he
    have hc := bytes_range s c (by rw [he]; simp)
    have hpl : (pre ++ [c]).length = pre.length + 1 := by simp
    have he2 : bytesOf s = (pre ++ [c]) ++ suf := by rw [he]; simp
    refine L.Ev.succ (Ev.congr (fun k => by rw [spec_l4Whole.l0, if_pos (by omega), if_pos (by omega), hb]) (Ev.bind (l2Sign c hc) ?_))
    have w1 : wrap64 ((pre.length : Int) + 1) = (((pre ++ [c]).length : Nat) : Int) := by rw [hpl, wr (by omega) (by omega)]; omega
    have w2 : wrap64 ((n : Int) + 1) = ((n + 1 : Nat) : Int) := by rw [wr (by omega) (by omega)]; omega
    rw [w1, w2]
    cases h1 : isLt c with
    | false =>
      have h0 : letV c = 0 := by simpa [isLt] using h1
      have hr : runOk n (c :: suf) = runOk 0 suf := by rw [runOk, if_neg (by simp [h1])]
      rw [hr]
      cases ok with
      | true => exact Ev.congr (fun k => by rw [if_pos h0, if_pos rfl]; rfl) (Ev.pin (ih (pre ++ [c]) (decide ((0 : Int) ≤ 64)) 0 he2 (by omega)) (by simp))
      | false => exact Ev.congr (fun k => by rw [if_pos h0, if_neg (by simp)]; rfl) (ih (pre ++ [c]) false 0 he2 (by omega))
    | true =>
      have h0 : letV c ≠ 0 := by simpa [isLt] using h1
      have hr : runOk n (c :: suf) = (decide (n + 1 ≤ 64) && runOk (n + 1) suf) := by rw [runOk, if_pos h1]
      rw [hr]
      cases ok with
      | true => exact Ev.congr (fun k => by rw [if_neg h0, if_pos rfl]) (Ev.pin (ih (pre ++ [c]) (decide (((n + 1 : Nat) : Int) ≤ 64)) (n + 1) he2 (by omega)) (by
          have : decide (((n + 1 : Nat) : Int) ≤ 64) = decide (n + 1 ≤ 64) := by rw [decide_eq_decide]; omega
          rw [this]; simp [Bool.and_assoc]))
      | false => exact Ev.congr (fun k => by rw [if_neg h0, if_neg (by simp)]) (Ev.pin (ih (pre ++ [c]) false (n + 1) he2 (by omega)) (by simp))
theorem l4Whole_yes (s : ByteArray) (hs : s.size ≤ 80) (t : Tr) (h : rd 81 (bytesOf s) = some (t, [])) (h64 : le64 t = true) : Ev (fun k => spec_l4Whole.f k s) ((s.size : Int), (impl_tree_shape.f t).1, (impl_tree_shape.f t).2, impl_tree_raw.f t, true) := by
  obtain ⟨e, ok, -⟩ := rd_tx 81 _ t [] h
  have hr := l4Read 81 s (by omega) (by omega)
  rw [h, resR_some _ t [] (s.size : Int) (by rw [bytesOf_length]; simp)] at hr
  refine Ev.congr (fun k => by unfold spec_l4Whole.f; rw [if_neg (by omega)]) (Ev.bind hr (Ev.pin (whole_run s (by omega) _ _ _ _ (bytesOf s) [] true 0 rfl (by simp)) ?_))
  have hrun : runOk 0 (bytesOf s) = true := by
    rw [e, run_tx t [] ok (fun c R' h => by simp at h), h64]; rfl
  rw [hrun]; simp
theorem l4Whole_no (s : ByteArray) (h : ¬ (s.size ≤ 80 ∧ ∃ t, rd 81 (bytesOf s) = some (t, []) ∧ le64 t = true)) : ∃ x1 x2 x3 x4, Ev (fun k => spec_l4Whole.f k s) (x1, x2, x3, x4, false) := by
  by_cases hs : s.size ≤ 80
  · have hr := l4Read 81 s (by omega) (by omega)
    cases hd : rd 81 (bytesOf s) with
    | none =>
      rw [hd, resR_none] at hr
      exact ⟨0, 0, 0, 0, Ev.congr (fun k => by unfold spec_l4Whole.f; rw [if_neg (by omega)]) (Ev.bind hr (Ev.pin (whole_run s (by omega) _ _ _ _ (bytesOf s) [] false 0 rfl (by simp)) (by simp)))⟩
    | some q =>
      obtain ⟨t, R⟩ := q
      obtain ⟨e, ok, hn⟩ := rd_tx 81 _ t R hd
      rw [hd, resR_some _ t R _ rfl] at hr
      have hfin : ((true && runOk 0 (bytesOf s)) && (((bytesOf s).length : Int) - (R.length : Int) == (s.size : Int))) = false := by
        by_cases hR : R = []
        · subst hR
          have h64 : le64 t = false := by
            cases hb : le64 t with
            | false => rfl
            | true => exact absurd ⟨hs, t, hd, hb⟩ h
          have hrun : runOk 0 (bytesOf s) = false := by rw [e, run_tx t [] ok (fun c R' h => by simp at h), h64]; rfl
          rw [hrun]; simp
        · have hlp : 0 < R.length := List.length_pos_iff.2 hR
          have hl := rd_len hd
          have hsz := bytesOf_length s
          have : (((bytesOf s).length : Int) - (R.length : Int) == (s.size : Int)) = false := beq_eq_false_iff_ne.2 (by omega)
          rw [this]; simp
      refine ⟨((bytesOf s).length : Int) - (R.length : Int), (impl_tree_shape.f t).1, (impl_tree_shape.f t).2, impl_tree_raw.f t, Ev.congr (fun k => by unfold spec_l4Whole.f; rw [if_neg (by omega)]) (Ev.bind hr ?_)⟩
      have hw := whole_run s (by omega) (((bytesOf s).length : Int) - (R.length : Int)) (impl_tree_shape.f t).1 (impl_tree_shape.f t).2 (impl_tree_raw.f t) (bytesOf s) [] true 0 rfl (by simp)
      rw [hfin] at hw
      exact hw
  · exact ⟨0, 0, 0, 0, Ev.congr (fun k => by unfold spec_l4Whole.f; rw [if_pos (by omega)]) (Ev.now _)⟩
theorem pre_one (s : ByteArray) (c x : UInt8) (l : List UInt8) (h : s.data.toList = x :: l) : ((s.extract 0 1).toList == (⟨#[c]⟩ : ByteArray).toList) = decide (x = c) := by
  rw [Go.Lib.toList_data, Go.Lib.toList_data, ByteArray.data_extract, Array.toList_extract, h]
  by_cases e : x = c <;> simp [e]
theorem size_cons (s : ByteArray) (x : UInt8) (l : List UInt8) (h : s.data.toList = x :: l) : s.size = l.length + 1 := by
  rw [Go.Lib.size_eq, h]; rfl
theorem cut_yes (s : ByteArray) (c : UInt8) (L1 : List Int) (h : bytesOf s = (c.toNat : Int) :: L1) : strings_CutPrefix.f s ⟨#[c]⟩ = some (s.extract 1 s.size, true) := by
  have hc : (⟨#[c]⟩ : ByteArray).size = 1 := rfl
  cases hd : s.data.toList with
  | nil => unfold bytesOf at h; rw [hd] at h; simp at h
  | cons x l =>
    have hx : x = c := by
      unfold bytesOf at h; rw [hd] at h
      have h_ := (List.cons.inj h).1
      dsimp only at h_
      exact UInt8.toNat_inj.1 (by omega)
    have hz := size_cons s x l hd
    unfold strings_CutPrefix.f stringslite_CutPrefix.f stringslite_HasPrefix.f
    rw [hc, if_pos (by omega), if_pos (by omega), if_pos (by omega), Option.bind_some, show (((1 : Nat) : Int)).toNat = 1 from rfl, pre_one s c x l hd, if_pos (by simp [hx]), if_pos (by omega), if_pos (by omega)]
    rfl
theorem cut_no (s : ByteArray) (c : UInt8) (h : ∀ L1, bytesOf s ≠ (c.toNat : Int) :: L1) : strings_CutPrefix.f s ⟨#[c]⟩ = some (s, false) := by
  have hc : (⟨#[c]⟩ : ByteArray).size = 1 := rfl
  unfold strings_CutPrefix.f stringslite_CutPrefix.f stringslite_HasPrefix.f
  cases hd : s.data.toList with
  | nil =>
    have hz : s.size = 0 := by rw [Go.Lib.size_eq, hd]; rfl
    rw [hc, if_neg (by omega)]
    rfl
  | cons x l =>
    have hx : x ≠ c := fun e => by
      refine h (l.map fun b => (b.toNat : Int)) ?_
      unfold bytesOf; rw [hd, e]; rfl
    have hz := size_cons s x l hd
    rw [hc, if_pos (by omega), if_pos (by omega), if_pos (by omega), Option.bind_some, show (((1 : Nat) : Int)).toNat = 1 from rfl, pre_one s c x l hd, if_neg (by simp [hx])]
    rfl
def nSg (c : Int) : Bool := decide (c ≠ 44 ∧ c ≠ 93)
theorem idx_len : ∀ l : List UInt8, (if Go.Lib.indexAny l [44, 93] < 0 then (l.length : Int) else Go.Lib.indexAny l [44, 93]) = (((l.map fun b => (b.toNat : Int)).takeWhile nSg).length : Int)
  | [] => rfl
  | b :: l => by
    have ih := idx_len l
    have hge := Go.Lib.indexAny_ge [44, 93] l
    rw [List.map_cons, List.takeWhile_cons]
    unfold Go.Lib.indexAny
    by_cases hb : ([44, 93] : List UInt8).contains b = true
    · rw [if_pos hb, if_neg (by omega)]
      have : nSg (b.toNat : Int) = false := by
        have hb2 : b = 44 ∨ b = 93 := by simpa using hb
        rcases hb2 with rfl | rfl <;> rfl
      rw [this]; rfl
    · have hn : nSg (b.toNat : Int) = true := by
        have hb2 : ¬ (b = 44 ∨ b = 93) := by simpa using hb
        unfold nSg
        rw [decide_eq_true_iff]
        refine ⟨fun e => hb2 (.inl (UInt8.toNat_inj.1 ?_)), fun e => hb2 (.inr (UInt8.toNat_inj.1 ?_))⟩
        · show b.toNat = 44; omega
        · show b.toNat = 93; omega
      rw [if_neg hb, if_pos hn, List.length_cons, List.length_cons]
      by_cases hx : Go.Lib.indexAny l [44, 93] = -1
      · rw [hx] at ih ⊢
        simp at ih ⊢
        omega
      · have hx2 : (if (Go.Lib.indexAny l [44, 93] == -1) = true then (-1 : Int) else Go.Lib.indexAny l [44, 93] + 1) = Go.Lib.indexAny l [44, 93] + 1 := if_neg (by simpa using hx)
        rw [hx2, if_neg (by omega)]
        rw [if_neg (by omega)] at ih
        omega
theorem endOf_len (s : ByteArray) : impl_readTree.endOf s = (((bytesOf s).takeWhile nSg).length : Int) := by
  unfold impl_readTree.endOf
  rw [Go.Lib.size_eq, idx_len]; rfl
theorem tw_le (p : Int → Bool) : ∀ l : List Int, (l.takeWhile p).length ≤ l.length
  | [] => Nat.le_refl _
  | x :: l => by
    rw [List.takeWhile_cons]; split
    · have := tw_le p l; simp; omega
    · simp
theorem tw_take (p : Int → Bool) : ∀ l : List Int, l.take (l.takeWhile p).length = l.takeWhile p ∧ l.drop (l.takeWhile p).length = l.dropWhile p
  | [] => ⟨rfl, rfl⟩
  | x :: l => by
    rw [List.takeWhile_cons, List.dropWhile_cons]
    split
    · have := tw_take p l
      simp only [List.length_cons, List.take_succ_cons, List.drop_succ_cons]
      exact ⟨by rw [this.1], this.2⟩
    · simp
def fol : Tr → List Int → Prop
  | .leaf _, R => R = [] ∨ ∃ c R', R = c :: R' ∧ (c = 44 ∨ c = 93)
  | .node _ _, _ => True
/-- What the program's reader comes to: a tree, if the lists' reader has one, its leaves are words, and a sign or nothing follows a word. -/
def RT (g : Nat → Option (Tr × ByteArray × Bool)) (o : Option (Tr × List Int)) : Prop :=
  (∀ t R, o = some (t, R) → le64 t = true → fol t R → ∃ q, bytesOf q = R ∧ Ev g (t, q, true)) ∧ ((∀ t R, o = some (t, R) → ¬ (le64 t = true ∧ fol t R)) → ∃ t' q', Ev g (t', q', false))
theorem leaf_case (s : ByteArray) (hs : s.size ≤ 1000) (d : Nat) (h91 : ∀ L1, bytesOf s ≠ 91 :: L1) : RT (fun k => impl_readTree.f k s) (rd (d + 1) (bytesOf s)) := by
  have hcut := cut_no s 91 (fun L1 => h91 L1)
  have hn := endOf_len s
  have hle := tw_le nSg (bytesOf s)
  have hsz := bytesOf_length s
  obtain ⟨h1, h2⟩ := tw_take nSg (bytesOf s)
  have hb1 : bytesOf (s.extract 0 ((bytesOf s).takeWhile nSg).length) = (bytesOf s).takeWhile nSg := by rw [bytes_head, h1]
  have hb2 : bytesOf (s.extract ((bytesOf s).takeWhile nSg).length s.size) = (bytesOf s).dropWhile nSg := by rw [bytes_tail, h2]
  have hgo : Ev (fun k => impl_readTree.f k s) (.leaf (vParse ((bytesOf s).takeWhile nSg)).1, s.extract ((bytesOf s).takeWhile nSg).length s.size, (vParse ((bytesOf s).takeWhile nSg)).2 && decide (0 < (vParse ((bytesOf s).takeWhile nSg)).1.length)) := by
    have hp := parseWord (s.extract 0 ((bytesOf s).takeWhile nSg).length) (by rw [ByteArray.size_extract]; omega)
    rw [hb1] at hp
    refine L.Ev.succ (Ev.congr (fun k => by rw [impl_readTree.f, if_pos (by omega), hcut, Option.bind_some, if_neg (by simp), hn, if_pos ⟨by omega, by omega⟩, Int.toNat_natCast]) (Ev.bind hp (Ev.now _)))
  have hsp : (bytesOf s).takeWhile nSg ++ (bytesOf s).dropWhile nSg = bytesOf s := List.takeWhile_append_dropWhile
  have hfo : (bytesOf s).dropWhile nSg = [] ∨ ∃ c R', (bytesOf s).dropWhile nSg = c :: R' ∧ (c = 44 ∨ c = 93) := by
    cases hd : (bytesOf s).dropWhile nSg with
    | nil => exact .inl rfl
    | cons c R' =>
      refine .inr ⟨c, R', rfl, ?_⟩
      have := List.head?_dropWhile_not nSg (bytesOf s)
      rw [hd] at this
      have h3 : nSg c = false := by simpa using this
      unfold nSg at h3
      have h4 := of_decide_eq_false h3
      omega
  by_cases hall : ((bytesOf s).takeWhile nSg).all (fun c => decide (letV c ≠ 0)) = true
  · have hl : ∀ c ∈ (bytesOf s).takeWhile nSg, isLt c = true := fun c hc => by
      have := List.all_eq_true.1 hall c hc
      exact this
    have hR : hdNo ((bytesOf s).dropWhile nSg) := by
      intro c R' hcr
      rcases hfo with h | ⟨c', R'', h, hc⟩
      · rw [h] at hcr; simp at hcr
      · rw [h] at hcr
        obtain ⟨rfl, -⟩ := List.cons.inj hcr
        rcases hc with rfl | rfl
        · exact lt44
        · exact lt93
    obtain ⟨e1, e2⟩ := tw_app _ _ hl hR
    rw [hsp] at e1 e2
    by_cases h0 : (bytesOf s).takeWhile nSg = []
    · have hnone : rd (d + 1) (bytesOf s) = none := by
        rw [h0] at e1
        cases hb : bytesOf s with
        | nil => rfl
        | cons c L1 =>
          rw [hb, List.takeWhile_cons] at e1
          have hc : isLt c = false := by
            by_cases h : isLt c = true
            · rw [if_pos h] at e1; simp at e1
            · simpa using h
          exact rd_other d c L1 hc (fun e => h91 L1 (by rw [hb, e]))
      rw [hnone]
      have hv : ((vParse ((bytesOf s).takeWhile nSg)).2 && decide (0 < (vParse ((bytesOf s).takeWhile nSg)).1.length)) = false := by rw [h0]; rfl
      rw [hv] at hgo
      exact ⟨fun t R h => by simp at h, fun _ => ⟨_, _, hgo⟩⟩
    · rw [rd_word d _ (by rw [e1]; exact h0), e1, e2]
      by_cases h64 : ((bytesOf s).takeWhile nSg).length ≤ 64
      · have hv : vParse ((bytesOf s).takeWhile nSg) = (((bytesOf s).takeWhile nSg).map letV, true) := by unfold vParse; rw [if_pos ⟨h64, hall⟩]
        rw [hv] at hgo
        refine ⟨fun t R h _ _ => ?_, fun h => absurd ⟨?_, hfo⟩ (h _ _ rfl)⟩
        · obtain ⟨rfl, rfl⟩ : Tr.leaf (((bytesOf s).takeWhile nSg).map letV) = t ∧ (bytesOf s).dropWhile nSg = R := by simpa using h
          refine ⟨_, hb2, Ev.pin hgo ?_⟩
          have : decide (0 < (((bytesOf s).takeWhile nSg).map letV).length) = true := decide_eq_true (by rw [List.length_map]; exact List.length_pos_iff.2 h0)
          simp only [Bool.true_and]
          rw [this]
        · simp [le64, h64]
      · have hv : vParse ((bytesOf s).takeWhile nSg) = ([], false) := by unfold vParse; rw [if_neg (by simp [h64])]
        rw [hv] at hgo
        refine ⟨fun t R h h2 => ?_, fun _ => ⟨_, _, hgo⟩⟩
        obtain ⟨rfl, rfl⟩ : Tr.leaf (((bytesOf s).takeWhile nSg).map letV) = t ∧ (bytesOf s).dropWhile nSg = R := by simpa using h
        simp [le64] at h2
        omega
  · have hv : vParse ((bytesOf s).takeWhile nSg) = ([], false) := by unfold vParse; rw [if_neg (fun h => hall h.2)]
    rw [hv] at hgo
    refine ⟨fun t R h _ hf => ?_, fun _ => ⟨_, _, hgo⟩⟩
    exfalso
    obtain ⟨e, ok, hn⟩ := rd_tx _ _ _ _ h
    cases t with
    | node a b => exact h91 _ (by rw [e]; rfl)
    | leaf l =>
      apply hall
      have hl : ∀ c ∈ l.map chN, isLt c = true := fun c hc => by
        obtain ⟨x, hx, rfl⟩ := List.mem_map.1 hc
        obtain ⟨a1, a2, a3⟩ := ok.2 x hx
        exact (chN_lt a1 a2 a3).2
      have hseg : (bytesOf s).takeWhile nSg = l.map chN := by
        rw [e]
        show (l.map chN ++ R).takeWhile nSg = _
        have hns : ∀ c ∈ l.map chN, nSg c = true := fun c hc => by
          have := isLt_ne (hl c hc)
          unfold nSg; rw [decide_eq_true_iff]; exact ⟨this.2.1, this.2.2.1⟩
        have gen : ∀ (m : List Int), (∀ c ∈ m, nSg c = true) → (m ++ R).takeWhile nSg = m := by
          intro m
          induction m with
          | nil =>
            intro _
            rcases hf with h | ⟨c, R', h, hc⟩
            · rw [h]; rfl
            · rw [h, List.nil_append, List.takeWhile_cons, if_neg (by rcases hc with rfl | rfl <;> decide)]
          | cons x m ihm =>
            intro hm
            rw [List.cons_append, List.takeWhile_cons, if_pos (hm x (by simp)), ihm (fun c hc => hm c (by simp [hc]))]
        exact gen _ hns
      rw [hseg, List.all_eq_true]
      intro c hc
      exact hl c hc
theorem step_ev (s : ByteArray) (d : Nat) (c : UInt8) (hc : (c.toNat : Int) = 44 ∨ (c.toNat : Int) = 93) (H : RT (fun k => impl_readTree.f k s) (rd d (bytesOf s))) :
    (∀ t L2, rdN (rd d) (c.toNat : Int) (bytesOf s) = some (t, L2) → le64 t = true → ∃ q, bytesOf q = L2 ∧ Ev (fun k => impl_readTree.step (impl_readTree.f k) s ⟨#[c]⟩) (some (t, q))) ∧
      ((∀ t L2, rdN (rd d) (c.toNat : Int) (bytesOf s) = some (t, L2) → le64 t = false) → Ev (fun k => impl_readTree.step (impl_readTree.f k) s ⟨#[c]⟩) none) := by
  refine ⟨fun t L2 h h64 => ?_, fun h => ?_⟩
  · obtain ⟨q, hq, he⟩ := H.1 t _ (rdN_some h) h64 (by cases t with
      | leaf l => exact .inr ⟨_, _, rfl, hc⟩
      | node a b => trivial)
    refine ⟨q.extract 1 q.size, by rw [bytes_tail, hq]; rfl, ?_⟩
    unfold impl_readTree.step
    refine Ev.bind he ?_
    dsimp only
    exact Ev.congr (fun k => by rw [if_pos rfl, cut_yes q c L2 hq, Option.bind_some, if_pos rfl]) (Ev.now _)
  · unfold impl_readTree.step
    by_cases hg : ∃ t R, rd d (bytesOf s) = some (t, R) ∧ le64 t = true ∧ fol t R
    · obtain ⟨t, R, h1, h2, h3⟩ := hg
      obtain ⟨q, hq, he⟩ := H.1 t R h1 h2 h3
      have hno : ∀ L2, bytesOf q ≠ (c.toNat : Int) :: L2 := fun L2 hL => by
        rw [hq] at hL
        rw [hL] at h1
        have := h t L2 (rdN_of h1)
        rw [this] at h2; simp at h2
      refine Ev.bind he ?_
      dsimp only
      exact Ev.congr (fun k => by rw [if_pos rfl, cut_no q c hno, Option.bind_some, if_neg (by simp)]) (Ev.now _)
    · obtain ⟨t', q', he⟩ := H.2 (fun t R h1 h2 => hg ⟨t, R, h1, h2.1, h2.2⟩)
      refine Ev.bind he ?_
      dsimp only
      exact Ev.congr (fun k => by rw [if_neg (by simp)]) (Ev.now _)
theorem readTree : ∀ (d : Nat) (s : ByteArray), s.size ≤ 1000 → s.size < d → RT (fun k => impl_readTree.f k s) (rd d (bytesOf s)) := by
  intro d
  induction d with
  | zero => intro s _ h; omega
  | succ d ih =>
    intro s hs hd
    by_cases h91 : ∃ L1, bytesOf s = 91 :: L1
    · obtain ⟨L1, hL⟩ := h91
      have hsz : s.size = L1.length + 1 := by rw [← bytesOf_length, hL]; rfl
      have hcut := cut_yes s 91 L1 hL
      have hb : bytesOf (s.extract 1 s.size) = L1 := by rw [bytes_tail, hL]; rfl
      have hz : (s.extract 1 s.size).size = L1.length := by rw [← bytesOf_length, hb]
      have S1 := step_ev (s.extract 1 s.size) d 44 (.inl rfl) (ih _ (by omega) (by omega))
      rw [hb] at S1
      rw [hL]
      have hopen : ∀ {r : Tr × ByteArray × Bool}, Ev (fun k => (impl_readTree.step (impl_readTree.f k) (s.extract 1 s.size) ⟨#[44]⟩).bind fun x => match x with
          | none => some (Tr.leaf [], (⟨#[]⟩ : ByteArray), false)
          | some (t1, r1) => (impl_readTree.step (impl_readTree.f k) r1 ⟨#[93]⟩).bind fun y => match y with
            | none => some (.leaf [], ⟨#[]⟩, false)
            | some (t2, r2) => some (.node t1 t2, r2, true)) r → Ev (fun k => impl_readTree.f k s) r := fun h =>
        L.Ev.succ (Ev.congr (fun k => by rw [impl_readTree.f, if_pos (by omega), hcut, Option.bind_some, if_pos rfl]; rfl) h)
      by_cases g1 : ∃ a L2, rdN (rd d) 44 L1 = some (a, L2) ∧ le64 a = true
      · obtain ⟨a, L2, e1, h64⟩ := g1
        obtain ⟨q1, hq1, E1⟩ := S1.1 a L2 e1 h64
        have hl2 : L2.length < L1.length := by
          have := rd_len (rdN_some e1); simp at this; omega
        have hz1 : q1.size = L2.length := by rw [← bytesOf_length, hq1]
        have S2 := step_ev q1 d 93 (.inr rfl) (ih _ (by omega) (by omega))
        rw [hq1] at S2
        by_cases g2 : ∃ b L3, rdN (rd d) 93 L2 = some (b, L3) ∧ le64 b = true
        · obtain ⟨b, L3, e2, h642⟩ := g2
          obtain ⟨q2, hq2, E2⟩ := S2.1 b L3 e2 h642
          rw [rd_o3 e1 e2]
          refine ⟨fun t R h _ _ => ?_, fun h => absurd ⟨?_, trivial⟩ (h _ _ rfl)⟩
          · obtain ⟨rfl, rfl⟩ : Tr.node a b = t ∧ L3 = R := by simpa using h
            exact ⟨q2, hq2, hopen (Ev.bind E1 (Ev.bind E2 (Ev.now _)))⟩
          · simp [le64, h64, h642]
        · have E2 := S2.2 (fun t L3 h => by
            cases hb2 : le64 t with
            | false => rfl
            | true => exact absurd ⟨t, L3, h, hb2⟩ g2)
          refine ⟨fun t R h hh _ => ?_, fun _ => ⟨_, _, hopen (Ev.bind E1 (Ev.bind E2 (Ev.now _)))⟩⟩
          exfalso
          cases e2 : rdN (rd d) 93 L2 with
          | none => rw [rd_o2 e1 e2] at h; simp at h
          | some q =>
            obtain ⟨b, L3⟩ := q
            rw [rd_o3 e1 e2] at h
            obtain ⟨rfl, rfl⟩ : Tr.node a b = t ∧ L3 = R := by simpa using h
            have : le64 b = true := by simp [le64] at hh; exact hh.2
            exact g2 ⟨b, L3, e2, this⟩
      · have E1 := S1.2 (fun t L2 h => by
          cases hb2 : le64 t with
          | false => rfl
          | true => exact absurd ⟨t, L2, h, hb2⟩ g1)
        refine ⟨fun t R h hh _ => ?_, fun _ => ⟨_, _, hopen (Ev.bind E1 (Ev.now _))⟩⟩
        exfalso
        cases e1 : rdN (rd d) 44 L1 with
        | none => rw [rd_o1 e1] at h; simp at h
        | some q =>
          obtain ⟨a, L2⟩ := q
          cases e2 : rdN (rd d) 93 L2 with
          | none => rw [rd_o2 e1 e2] at h; simp at h
          | some q2 =>
            obtain ⟨b, L3⟩ := q2
            rw [rd_o3 e1 e2] at h
            obtain ⟨rfl, rfl⟩ : Tr.node a b = t ∧ L3 = R := by simpa using h
            have : le64 a = true := by simp [le64] at hh; exact hh.1
            exact g1 ⟨a, L2, e1, this⟩
    · exact leaf_case s hs d (fun L1 h => h91 ⟨L1, h⟩)
/-- The tree that a text is, if it is one. -/
def vTree (s : ByteArray) : Option Tr := match rd 81 (bytesOf s) with
  | some (t, []) => if s.size ≤ 80 ∧ le64 t = true then some t else none
  | _ => none
theorem vTree_some {s : ByteArray} {t : Tr} (h : vTree s = some t) : s.size ≤ 80 ∧ rd 81 (bytesOf s) = some (t, []) ∧ le64 t = true := by
  unfold vTree at h
  split at h
  · rename_i t' h1
    split at h
    · rename_i h2
      obtain rfl := Option.some.inj h
      exact ⟨h2.1, h1, h2.2⟩
    · simp at h
  · simp at h
theorem vTree_none {s : ByteArray} (h : vTree s = none) : ¬ (s.size ≤ 80 ∧ ∃ t, rd 81 (bytesOf s) = some (t, []) ∧ le64 t = true) := by
  rintro ⟨h1, t, h2, h3⟩
  unfold vTree at h
  rw [h2] at h
  simp only at h
  rw [if_pos ⟨h1, h3⟩] at h
  simp at h
theorem treeOf_yes (s : ByteArray) (t : Tr) (h : vTree s = some t) : Ev (fun k => impl_treeOf.f k s) (t, true) := by
  obtain ⟨h1, h2, h3⟩ := vTree_some h
  obtain ⟨q, hq, he⟩ := (readTree 81 s (by omega) (by omega)).1 t [] h2 h3 (by cases t with
    | leaf l => exact .inl rfl
    | node a b => trivial)
  refine Ev.congr (fun k => by unfold impl_treeOf.f; rw [if_neg (by omega)]) (Ev.bind he (Ev.pin (Ev.now _) ?_))
  dsimp only
  rw [(toList_nil q).2 hq]; rfl
theorem treeOf_no (s : ByteArray) (h : vTree s = none) : ∃ t', Ev (fun k => impl_treeOf.f k s) (t', false) := by
  have hn := vTree_none h
  by_cases hs : s.size ≤ 80
  · have H := readTree 81 s (by omega) (by omega)
    by_cases hg : ∃ t R, rd 81 (bytesOf s) = some (t, R) ∧ le64 t = true ∧ fol t R
    · obtain ⟨t, R, h1, h2, h3⟩ := hg
      obtain ⟨q, hq, he⟩ := H.1 t R h1 h2 h3
      refine ⟨t, Ev.congr (fun k => by unfold impl_treeOf.f; rw [if_neg (by omega)]) (Ev.bind he (Ev.pin (Ev.now _) ?_))⟩
      dsimp only
      have hne : q.toList ≠ [] := fun e => by
        have := (toList_nil q).1 e
        rw [hq] at this
        subst this
        exact hn ⟨hs, t, h1, h2⟩
      have : q.toList.isEmpty = false := by
        cases hql : q.toList with
        | nil => exact absurd hql hne
        | cons _ _ => rfl
      rw [this]; rfl
    · obtain ⟨t', q', he⟩ := H.2 (fun t R h1 h2 => hg ⟨t, R, h1, h2.1, h2.2⟩)
      exact ⟨t', Ev.congr (fun k => by unfold impl_treeOf.f; rw [if_neg (by omega)]) (Ev.bind he (Ev.now _))⟩
  · exact ⟨_, Ev.congr (fun k => by unfold impl_treeOf.f; rw [if_pos (by omega)]) (Ev.now _)⟩
theorem spec_IsTree (s : ByteArray) : Ev (fun k => spec_IsTree.f k s) (vTree s).isSome := by
  cases h : vTree s with
  | some t =>
    obtain ⟨h1, h2, h3⟩ := vTree_some h
    exact Ev.congr (fun k => by unfold spec_IsTree.f; rfl) (Ev.bind (l4Whole_yes s h1 t h2 h3) (Ev.now _))
  | none =>
    obtain ⟨x1, x2, x3, x4, he⟩ := l4Whole_no s (vTree_none h)
    exact Ev.congr (fun k => by unfold spec_IsTree.f; rfl) (Ev.bind he (Ev.now _))
/-- A tree's value. -/
def vT : Tr → List Int × Bool
  | .leaf l => (red l, true)
  | .node a b => if (vT a).2 = true ∧ (vT b).2 = true then vFit (red ((vT a).1 ++ (vT b).1 ++ (inv (vT a).1 ++ inv (vT b).1))) else ([], false)
theorem vFit_mild (l : List Int) (h : Mild l) : Mild (vFit l).1 := by
  unfold vFit; split
  · exact h
  · exact Mild.nil
theorem okT_mild {l : List Int} (h : ∀ x ∈ l, x ≠ 0 ∧ -6 ≤ x ∧ x ≤ 6) : Mild l := fun x hx => by have := h x hx; omega
theorem vT_good : ∀ t : Tr, okT t → le64 t = true → (vT t).1.length ≤ 64 ∧ Mild (vT t).1
  | .leaf l, hk, h64 => by
    have h1 : l.length ≤ 64 := by simpa [le64] using h64
    have h2 := red_len l
    exact ⟨by show (red l).length ≤ 64; omega, (okT_mild hk.2).red⟩
  | .node a b, hk, h64 => by
    have h64' : le64 a = true ∧ le64 b = true := by simpa [le64] using h64
    obtain ⟨a1, a2⟩ := vT_good a hk.1 h64'.1
    obtain ⟨b1, b2⟩ := vT_good b hk.2 h64'.2
    unfold vT
    split
    · exact ⟨vFit_len _, vFit_mild _ ((a2.append b2).append (a2.inv.append b2.inv)).red⟩
    · exact ⟨by simp, Mild.nil⟩
theorem wr1m (m : Nat) (h : m ≤ 1000) : wrap64 (1 + (m : Int)) = ((1 + m : Nat) : Int) := by rw [wr (by omega) (by omega)]; omega
theorem wr2m (m : Nat) (h : m ≤ 1000) : wrap64 (2 + (m : Int)) = ((2 + m : Nat) : Int) := by rw [wr (by omega) (by omega)]; omega
theorem wr3m (n : Nat) (h : 1 ≤ n) (h2 : n ≤ 1000) : wrap64 ((n : Int) - 1) = ((n - 1 : Nat) : Int) := by rw [wr (by omega) (by omega)]; omega
set_option maxHeartbeats 4000000 in
theorem l4V_node (a b : Tr) (s : ByteArray) (hb : bytesOf s = 91 :: (tx a ++ 44 :: (tx b ++ [93]))) (hk : okT a ∧ okT b) (h64' : le64 a = true ∧ le64 b = true) (hs : s.size ≤ 80)
    (IA : ∀ q, bytesOf q = tx a → q.size ≤ 80 → Ev (fun k => spec_l4Value.f k q) (vT a)) (IB : ∀ q, bytesOf q = tx b → q.size ≤ 80 → Ev (fun k => spec_l4Value.f k q) (vT b)) : Ev (fun k => spec_l4Value.f k s) (vT (.node a b)) := by
  obtain ⟨a1, a2⟩ := vT_good a hk.1 h64'.1
  obtain ⟨b1, b2⟩ := vT_good b hk.2 h64'.2
  have hL : bytesOf s = 91 :: (tx a ++ 44 :: (tx b ++ [93])) := hb
  obtain ⟨m1, hm1⟩ : ∃ m, m = (tx a).length := ⟨_, rfl⟩
  obtain ⟨m2, hm2⟩ : ∃ m, m = (tx b).length := ⟨_, rfl⟩
  have hsz : s.size = m1 + m2 + 3 := by rw [← bytesOf_length, hL, hm1, hm2]; simp; omega
  have q1 : (0 : Int) < (s.size : Int) := by omega
  have q2 : (1 : Int) ≤ (s.size : Int) := by omega
  have q3 : (1 : Int) ≤ ((1 + m1 : Nat) : Int) := by omega
  have q4 : ((1 + m1 : Nat) : Int) ≤ (s.size : Int) := by omega
  have q5 : (0 : Int) ≤ ((2 + m1 : Nat) : Int) := by omega
  have q6 : ((2 + m1 : Nat) : Int) ≤ ((s.size - 1 : Nat) : Int) := by omega
  have q7 : ((s.size - 1 : Nat) : Int) ≤ (s.size : Int) := by omega
  have q8 : (vT a).1.length ≤ 100000 := by omega
  have q9 : (vT b).1.length ≤ 100000 := by omega
  have w1 := wr1m m1 (by omega)
  have w2 := wr2m m1 (by omega)
  have w3 := wr3m s.size (by omega) (by omega)
  have z1 : (s.extract 1 s.size).size ≤ 1000 := by rw [ByteArray.size_extract]; omega
  have z2 : (s.extract 1 s.size).size < 81 := by rw [ByteArray.size_extract]; omega
  have z3 : (s.extract 1 (1 + m1)).size ≤ 80 := by rw [ByteArray.size_extract]; omega
  have z4 : (s.extract (2 + m1) (s.size - 1)).size ≤ 80 := by rw [ByteArray.size_extract]; omega
  obtain ⟨hb0, -⟩ := bt_app s (pre := []) hL
  have hb1 : bt s 0 = 91 := hb0
  have hx1 : bytesOf (s.extract 1 s.size) = tx a ++ 44 :: (tx b ++ [93]) := by rw [bytes_tail, hL]; rfl
  have hx := l4Read 81 (s.extract 1 s.size) z1 z2
  have hlt1 : (tx a ++ 44 :: (tx b ++ [93])).length < 81 := by rw [List.length_append, List.length_cons, List.length_append, ← hm1, ← hm2, List.length_singleton]; omega
  have hdiff : ((tx a ++ 44 :: (tx b ++ [93])).length : Int) - ((44 :: (tx b ++ [93])).length : Int) = (m1 : Int) := by rw [List.length_append, ← hm1]; omega
  rw [hx1, rd_comp 81 a (44 :: (tx b ++ [93])) hk.1 hlt1 (fun _ _ => hdNo44 _), resR_some _ _ _ (m1 : Int) hdiff] at hx
  clear hlt1 hdiff
  have ea : bytesOf (s.extract 1 (1 + m1)) = tx a := by
    rw [bytes_cut, hL, Nat.add_comm 1 m1, List.take_succ_cons, List.drop_succ_cons, List.drop_zero, hm1, List.take_left]
  have eb : bytesOf (s.extract (2 + m1) (s.size - 1)) = tx b := by
    rw [bytes_cut, hL, show 91 :: (tx a ++ 44 :: (tx b ++ [93])) = (91 :: (tx a ++ [44])) ++ tx b ++ [93] from by simp]
    clear hx
    have e1 : ((91 :: (tx a ++ [44])) ++ tx b).length = s.size - 1 := by rw [hsz, hm1, hm2]; simp; omega
    rw [← e1, List.take_left]
    have e2 : (91 :: (tx a ++ [44])).length = 2 + m1 := by rw [hm1]; simp; omega
    rw [← e2, List.drop_left]
  have ia := IA (s.extract 1 (1 + m1)) ea z3
  have ib := IB (s.extract (2 + m1) (s.size - 1)) eb z4
  clear IA IB
  clear hm1 hm2 hL hb hx1 ea eb
  refine L.Ev.succ (Ev.congr (fun k => by rw [spec_l4Value.f, if_pos q1, if_pos hb1, if_pos q2]) (Ev.bind hx ?_))
  dsimp only
  rw [w1, w2, w3]
  refine Ev.congr (fun k => by rw [if_pos q3, if_pos q4, Int.toNat_natCast]) (Ev.bind ia ?_)
  refine Ev.congr (fun k => by rw [if_pos q5, if_pos q6, if_pos q7, Int.toNat_natCast, Int.toNat_natCast]) (Ev.bind ib ?_)
  show Ev _ (if (vT a).2 = true ∧ (vT b).2 = true then vFit (red ((vT a).1 ++ (vT b).1 ++ (inv (vT a).1 ++ inv (vT b).1))) else ([], false))
  cases ha : (vT a).2 with
  | false =>
    rw [if_neg (by simp)]
    exact Ev.congr (fun k => by rw [if_neg (by simp)]) (L.Ev.succ (Ev.congr (fun k => by rw [spec_l4Value.j0, if_pos rfl]) (Ev.now _)))
  | true =>
    cases hb' : (vT b).2 with
    | false =>
      rw [if_neg (by simp)]
      exact Ev.congr (fun k => by rw [if_pos rfl]) (L.Ev.succ (Ev.congr (fun k => by rw [spec_l4Value.j0, if_pos (by simp)]) (Ev.now _)))
    | true =>
      rw [if_pos ⟨rfl, rfl⟩]
      refine Ev.congr (fun k => by rw [if_pos rfl]) (L.Ev.succ (Ev.congr (fun k => by rw [spec_l4Value.j0, if_neg (by simp)]) (Ev.bind (l4Commutator _ _ q8 q9 a2 b2) ?_)))
      exact Ev.congr (fun k => by rw [l2Short, Option.bind_some]) (Ev.now _)
theorem l4Value : ∀ (t : Tr) (s : ByteArray), bytesOf s = tx t → okT t → le64 t = true → s.size ≤ 80 → Ev (fun k => spec_l4Value.f k s) (vT t)
  | .leaf l, s, hb, hk, h64, hs => by
    have h1 : l.length ≤ 64 := by simpa [le64] using h64
    obtain ⟨x, l', rfl⟩ : ∃ x l', l = x :: l' := by
      cases l with
      | nil => exact absurd rfl hk.1
      | cons x l' => exact ⟨x, l', rfl⟩
    have hx := hk.2 x (by simp)
    obtain ⟨hb0, hsz⟩ := bt_app s (pre := []) (c := chN x) (suf := l'.map chN) (by rw [hb]; rfl)
    have hb1 : bt s 0 = chN x := hb0
    have h91 : chN x ≠ 91 := (isLt_ne (chN_lt hx.1 hx.2.1 hx.2.2).2).1
    have hsz2 : 0 < s.size := hsz
    have hall : ((x :: l').map chN).all (fun c => decide (letV c ≠ 0)) = true := by
      rw [List.all_eq_true]
      intro c hc
      obtain ⟨y, hy, rfl⟩ := List.mem_map.1 hc
      obtain ⟨a1, a2, a3⟩ := hk.2 y hy
      exact (chN_lt a1 a2 a3).2
    have hmm : ((x :: l').map chN).map letV = x :: l' := by
      rw [List.map_map]
      refine (List.map_congr_left (g := id) fun y hy => ?_).trans (List.map_id _)
      obtain ⟨a1, a2, a3⟩ := hk.2 y hy
      exact (chN_lt a1 a2 a3).1
    have hv : vParse (bytesOf s) = (x :: l', true) := by
      rw [hb, show tx (.leaf (x :: l')) = (x :: l').map chN from rfl]
      unfold vParse
      rw [if_pos ⟨by rw [List.length_map]; exact h1, hall⟩, hmm]
    have hp := spec_ParseWord s (by omega)
    rw [hv] at hp
    refine L.Ev.succ (Ev.congr (fun k => by rw [spec_l4Value.f, if_pos (by omega), hb1, if_neg h91]) (Ev.bind hp ?_))
    dsimp only
    exact Ev.bind (l2Reduce _ (by omega) (okT_mild hk.2)) (Ev.now _)
  | .node a b, s, hb, hk, h64, hs => by
    have h64' : le64 a = true ∧ le64 b = true := by simpa [le64] using h64
    exact l4V_node a b s hb hk h64' hs (fun q h1 h2 => l4Value a q h1 hk.1 h64'.1 h2) (fun q h1 h2 => l4Value b q h1 hk.2 h64'.2 h2)
theorem nums_bytes (s : ByteArray) : strOfNums (bytesOf s) = s := by
  apply ByteArray.ext
  unfold strOfNums bytesOf
  apply Array.toList_inj.1
  simp [Function.comp_def]
theorem nums_of {q : ByteArray} {l : List Int} (h : bytesOf q = l) : q = strOfNums l := by rw [← h, nums_bytes]
theorem snode (a b : Tr) : (⟨#[91]⟩ : ByteArray) ++ strOfNums (tx a) ++ (⟨#[44]⟩ : ByteArray) ++ strOfNums (tx b) ++ (⟨#[93]⟩ : ByteArray) = strOfNums (tx (.node a b)) := by
  have e : tx (.node a b) = [91] ++ tx a ++ [44] ++ tx b ++ [93] := by simp [tx]
  rw [e, snums_append, snums_append, snums_append, snums_append]; rfl
def vSwap : Tr → ByteArray × Bool
  | .leaf _ => (⟨#[]⟩, false)
  | .node a b => (strOfNums (tx (.node b a)), true)
def vSwapTree (s : ByteArray) : ByteArray × Bool := match vTree s with
  | some t => vSwap t
  | none => (⟨#[]⟩, false)
theorem swap_node (a b : Tr) (s : ByteArray) (hb : bytesOf s = 91 :: (tx a ++ 44 :: (tx b ++ [93]))) (hk : okT a ∧ okT b) (hs : s.size ≤ 80) (hi : Ev (fun k => spec_IsTree.f k s) true) : Ev (fun k => spec_SwapTree.f k s) (vSwap (.node a b)) := by
  have hL : bytesOf s = 91 :: (tx a ++ 44 :: (tx b ++ [93])) := hb
  obtain ⟨m1, hm1⟩ : ∃ m, m = (tx a).length := ⟨_, rfl⟩
  obtain ⟨m2, hm2⟩ : ∃ m, m = (tx b).length := ⟨_, rfl⟩
  have hsz : s.size = m1 + m2 + 3 := by rw [← bytesOf_length, hL, hm1, hm2]; simp; omega
  have q1 : (0 : Int) < (s.size : Int) := by omega
  have q2 : (1 : Int) ≤ (s.size : Int) := by omega
  have q3 : (1 : Int) ≤ ((1 + m1 : Nat) : Int) := by omega
  have q4 : ((1 + m1 : Nat) : Int) ≤ (s.size : Int) := by omega
  have q5 : (0 : Int) ≤ ((2 + m1 : Nat) : Int) := by omega
  have q6 : ((2 + m1 : Nat) : Int) ≤ ((s.size - 1 : Nat) : Int) := by omega
  have q7 : ((s.size - 1 : Nat) : Int) ≤ (s.size : Int) := by omega
  have w1 := wr1m m1 (by omega)
  have w2 := wr2m m1 (by omega)
  have w3 := wr3m s.size (by omega) (by omega)
  have z1 : (s.extract 1 s.size).size ≤ 1000 := by rw [ByteArray.size_extract]; omega
  have z2 : (s.extract 1 s.size).size < 81 := by rw [ByteArray.size_extract]; omega
  have za : (s.extract 1 (1 + m1)).size = m1 := by rw [ByteArray.size_extract]; omega
  have zb : (s.extract (2 + m1) (s.size - 1)).size = m2 := by rw [ByteArray.size_extract]; omega
  have c1 : (⟨#[91]⟩ : ByteArray).size = 1 := rfl
  have c2 : (⟨#[44]⟩ : ByteArray).size = 1 := rfl
  have k1 : 1 + (s.extract (2 + m1) (s.size - 1)).size ≤ 9223372036854775807 := by rw [zb]; omega
  have k2 : ((⟨#[91]⟩ : ByteArray) ++ s.extract (2 + m1) (s.size - 1)).size + 1 ≤ 9223372036854775807 := by rw [ByteArray.size_append, zb, c1]; omega
  have k3 : ((⟨#[91]⟩ : ByteArray) ++ s.extract (2 + m1) (s.size - 1) ++ (⟨#[44]⟩ : ByteArray)).size + (s.extract 1 (1 + m1)).size ≤ 9223372036854775807 := by rw [ByteArray.size_append, ByteArray.size_append, zb, za, c1, c2]; omega
  have k4 : ((⟨#[91]⟩ : ByteArray) ++ s.extract (2 + m1) (s.size - 1) ++ (⟨#[44]⟩ : ByteArray) ++ s.extract 1 (1 + m1)).size + 1 ≤ 9223372036854775807 := by rw [ByteArray.size_append, ByteArray.size_append, ByteArray.size_append, zb, za, c1, c2]; omega
  obtain ⟨hb0, -⟩ := bt_app s (pre := []) hL
  have hb1 : bt s 0 = 91 := hb0
  have hx1 : bytesOf (s.extract 1 s.size) = tx a ++ 44 :: (tx b ++ [93]) := by rw [bytes_tail, hL]; rfl
  have hlt1 : (tx a ++ 44 :: (tx b ++ [93])).length < 81 := by rw [List.length_append, List.length_cons, List.length_append, ← hm1, ← hm2, List.length_singleton]; omega
  have hdiff : ((tx a ++ 44 :: (tx b ++ [93])).length : Int) - ((44 :: (tx b ++ [93])).length : Int) = (m1 : Int) := by rw [List.length_append, ← hm1]; omega
  have ea : s.extract 1 (1 + m1) = strOfNums (tx a) := nums_of (by
    rw [bytes_cut, hL, Nat.add_comm 1 m1, List.take_succ_cons, List.drop_succ_cons, List.drop_zero, hm1, List.take_left])
  have eb : s.extract (2 + m1) (s.size - 1) = strOfNums (tx b) := nums_of (by
    rw [bytes_cut, hL, show 91 :: (tx a ++ 44 :: (tx b ++ [93])) = (91 :: (tx a ++ [44])) ++ tx b ++ [93] from by simp]
    have e1 : ((91 :: (tx a ++ [44])) ++ tx b).length = s.size - 1 := by rw [hsz, hm1, hm2]; simp; omega
    rw [← e1, List.take_left]
    have e2 : (91 :: (tx a ++ [44])).length = 2 + m1 := by rw [hm1]; simp; omega
    rw [← e2, List.drop_left])
  have hx := l4Read 81 (s.extract 1 s.size) z1 z2
  rw [hx1, rd_comp 81 a (44 :: (tx b ++ [93])) hk.1 hlt1 (fun _ _ => hdNo44 _), resR_some _ _ _ (m1 : Int) hdiff] at hx
  refine Ev.congr (fun k => by unfold spec_SwapTree.f; rfl) (Ev.bind hi ?_)
  refine Ev.congr (fun k => by rw [if_pos rfl, if_pos q1, if_pos hb1, if_pos q2]) (Ev.bind hx ?_)
  dsimp only
  rw [w1, w2, w3]
  refine Ev.congr (fun k => by rw [Int.toNat_natCast, Int.toNat_natCast, Int.toNat_natCast, if_pos q5, if_pos q6, if_pos q7, if_pos k1, if_pos k2, if_pos q3, if_pos q4, if_pos k3, if_pos k4]) (Ev.pin (Ev.now _) ?_)
  rw [ea, eb, snode]
  rfl
theorem swap_leaf (l : List Int) (s : ByteArray) (hb : bytesOf s = tx (.leaf l)) (hk : okT (.leaf l)) (hi : Ev (fun k => spec_IsTree.f k s) true) : Ev (fun k => spec_SwapTree.f k s) (vSwap (.leaf l)) := by
  obtain ⟨x, l', rfl⟩ : ∃ x l', l = x :: l' := by
    cases l with
    | nil => exact absurd rfl hk.1
    | cons x l' => exact ⟨x, l', rfl⟩
  have hx := hk.2 x (by simp)
  obtain ⟨hb0, hsz⟩ := bt_app s (pre := []) (c := chN x) (suf := l'.map chN) (by rw [hb]; rfl)
  have hb1 : bt s 0 = chN x := hb0
  have h91 : chN x ≠ 91 := (isLt_ne (chN_lt hx.1 hx.2.1 hx.2.2).2).1
  have hsz2 : (0 : Int) < (s.size : Int) := by have : 0 < s.size := hsz; omega
  refine Ev.congr (fun k => by unfold spec_SwapTree.f; rfl) (Ev.bind hi ?_)
  exact Ev.congr (f := fun _ => some ((⟨#[]⟩ : ByteArray), false)) (fun k => by rw [if_pos rfl, if_pos hsz2, hb1, if_neg h91]) (Ev.now _)
theorem spec_SwapTree (s : ByteArray) (hl : s.size ≤ 1048576) : Ev (fun k => spec_SwapTree.f k s) (vSwapTree s) := by
  have hi := spec_IsTree s
  unfold vSwapTree
  cases h : vTree s with
  | some t =>
    obtain ⟨h1, h2, h3⟩ := vTree_some h
    obtain ⟨e, ok, -⟩ := rd_tx _ _ _ _ h2
    rw [List.append_nil] at e
    rw [h] at hi
    cases t with
    | leaf l => exact swap_leaf l s e ok hi
    | node a b => exact swap_node a b s e ok h1 hi
  | none =>
    rw [h] at hi
    exact Ev.congr (fun k => by unfold spec_SwapTree.f; rfl) (Ev.bind hi (Ev.congr (fun k => by rw [if_neg (by simp)]) (Ev.now _)))
theorem tree_text : ∀ (t : Tr), okT t → (tx t).length ≤ 1000 → Ev (fun k => impl_tree_text.f k t) (strOfNums (tx t))
  | .leaf l, hk, hl => by
    have h1 : l.length ≤ 1000 := by simpa [tx] using hl
    exact Ev.congr (fun k => by rw [impl_tree_text.f]) (wordText l (by omega) hk.2)
  | .node a b, hk, hl => by
    have h1 : (tx a).length + (tx b).length + 3 ≤ 1000 := by
      have : (tx (.node a b)).length = (tx a).length + (tx b).length + 3 := by simp [tx]; omega
      omega
    have sa := snums_size (tx a)
    have sb := snums_size (tx b)
    have hz : 3 + (strOfNums (tx a)).size + (strOfNums (tx b)).size ≤ 9223372036854775807 := by rw [sa, sb]; omega
    have la : (tx a).length ≤ 1000 := by omega
    have lb : (tx b).length ≤ 1000 := by omega
    refine Ev.congr (fun k => by rw [impl_tree_text.f]) (Ev.bind (tree_text a hk.1 la) (Ev.bind (tree_text b hk.2 lb) ?_))
    refine Ev.congr (fun k => by rw [if_pos hz]) (Ev.pin (Ev.now _) ?_)
    exact snode a b
theorem impl_SwapTree (s : ByteArray) (hl : s.size ≤ 1048576) : Ev (fun k => impl_SwapTree.f k s) (vSwapTree s) := by
  unfold vSwapTree
  cases h : vTree s with
  | some t =>
    obtain ⟨h1, h2, h3⟩ := vTree_some h
    obtain ⟨e, ok, -⟩ := rd_tx _ _ _ _ h2
    refine Ev.congr (fun k => by unfold impl_SwapTree.f; rfl) (Ev.bind (treeOf_yes s t h) ?_)
    cases t with
    | leaf l => exact Ev.congr (f := fun _ => some ((⟨#[]⟩ : ByteArray), false)) (fun k => by simp [Tr.isLeaf]) (Ev.now _)
    | node a b =>
      have hlen : (tx (.node b a)).length ≤ 1000 := by
        have h4 : (tx (.node a b)).length ≤ 80 := by
          have := bytesOf_length s
          rw [e, List.append_nil] at this; omega
        have h5 : (tx (.node a b)).length = (tx (.node b a)).length := by simp [tx]; omega
        omega
      exact Ev.congr (f := fun k => (impl_tree_text.f k (.node b a)).bind fun x => some (x, true)) (fun k => by simp [Tr.isLeaf, Tr.swap]) (Ev.bind (tree_text (.node b a) ⟨ok.2, ok.1⟩ hlen) (Ev.now _))
  | none =>
    obtain ⟨t', he⟩ := treeOf_no s h
    exact Ev.congr (fun k => by unfold impl_SwapTree.f; rfl) (Ev.bind he (Ev.congr (fun k => by rw [if_neg (by simp)]) (Ev.now _)))
end Go.Proofs.Ytlojkjkbocfmfaa.L
