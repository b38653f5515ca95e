/- What the exported functions on words come to, on both sides. Conditions: at most 1048576 numbers come in. -/
import Derived.Test.YtbahojdgcipahaaPx12
import Derived.Test.YtbahojdgcipahaaPx13
import Derived.Test.YtbahojdgcipahaaPx14
import Derived.Test.YtbahojdgcipahaaPx15
import Derived.Test.YtbahojdgcipahaaPx17
import Derived.Test.YtbahojdgcipahaaPx4
import Derived.Test.YtbahojdgcipahaaPx5
import Derived.Test.YtbahojdgcipahaaPx7
import Derived.Test.YtbahojdgcipahaaPx8
import Derived.Test.YtbahojdgcipahaaPx9
import Derived.Test.YtbahojdgcipahaaLWords
namespace Go.Proofs.Ytbahojdgcipahaa.L
open Go.RowKit Go.Proofs.Ytbahojdgcipahaa.P Go.Proofs.YtbahojdgcipahaaW.PrintWords Go.Proofs.YtbahojdgcipahaaW.PrintMore
set_option linter.unusedVariables false
set_option linter.unusedSimpArgs false

theorem rd_get (l : List Int) (i : Nat) (h : i < l.length) : rd l (i : Int) = l[i] := by
  rw [rd_nat, List.getD_eq_getElem?_getD, List.getElem?_eq_getElem h]; rfl

/-! reduced or not -/
theorem red1_snoc {acc : List Int} {x a : Int} (h : acc.getLast? = some a) (he : a ≠ -x) : red1 acc x = acc ++ [x] := by
  unfold red1; rw [if_neg (by rw [h]; simpa using he)]
theorem redF_full (l : List Int) : ∀ (acc : List Int) (a : Int), acc.getLast? = some a → ((redF acc l).length = acc.length + l.length ↔ isRed (a :: l) = true) := by
  induction l with
  | nil => intro acc a h; simp [redF, isRed]
  | cons x l ih =>
    intro acc a h
    by_cases e : a = -x
    · have h1 : red1 acc x = acc.dropLast := by unfold red1; rw [if_pos (by rw [h, e])]
      have h2 := redF_len l (acc.dropLast)
      have h3 : redF acc (x :: l) = redF acc.dropLast l := by simp only [redF, List.foldl_cons, h1]
      have hx : (x == -a) = true := by simp; omega
      rw [h3]
      simp only [isRed, hx, Bool.not_true, Bool.false_and, List.length_cons, Bool.false_eq_true, iff_false]
      simp at h2
      omega
    · have h1 := red1_snoc h e
      have h3 : redF acc (x :: l) = redF (acc ++ [x]) l := by simp only [redF, List.foldl_cons, h1]
      have hx : (x == -a) = false := by simp; omega
      have h4 := ih (acc ++ [x]) x (by simp)
      rw [h3]
      simp only [isRed, hx, Bool.not_false, Bool.true_and]
      rw [← h4]
      simp
      omega
theorem isRed_iff (l : List Int) : ((red l).length = l.length) ↔ isRed l = true := by
  cases l with
  | nil => simp [red, redF, isRed]
  | cons x l =>
    have h := redF_full l [x] x rfl
    have : red (x :: l) = redF [x] l := by simp [red, redF, red1]
    rw [this, ← h]
    simp
    omega
theorem isRed_eq (l : List Int) : (((red l).length : Int) == (l.length : Int)) = isRed l := by
  have h := isRed_iff l
  cases hb : isRed l with
  | true =>
    have h2 : (red l).length = l.length := h.2 hb
    rw [beq_iff_eq]; omega
  | false =>
    have h2 : ¬ ((red l).length = l.length) := by rw [h, hb]; simp
    rw [beq_eq_false_iff_ne]; omega

theorem l2Reduced_round (l : List Int) (hl : l.length ≤ 1048576) (hm : Mild l) : ∀ (d i : Nat), 1 ≤ i → l.length - i = d →
    Ev (fun k => spec_l2Reduced.l0 k l (i : Int)) (isRed (l.drop (i - 1))) := by
  intro d
  induction d with
  | zero =>
    intro i h1 hd
    refine Ev.succ (Ev.congr (f := fun _ => some true) (fun k => ?_) (Ev.pin (Ev.now _) ?_))
    · rw [spec_l2Reduced.l0, if_neg (by omega)]
    · have : (l.drop (i - 1)).length ≤ 1 := by simp; omega
      match hh : l.drop (i - 1), this with
      | [], _ => rfl
      | [_], _ => rfl
  | succ d ih =>
    intro i h1 hd
    have hlt : i < l.length := by omega
    have hb := hm l[i - 1] (List.getElem_mem (by omega))
    have e1 : l.drop (i - 1) = l[i - 1] :: l.drop i := by
      have := List.drop_eq_getElem_cons (show i - 1 < l.length by omega)
      rw [show i - 1 + 1 = i from by omega] at this
      exact this
    have e2 : l.drop i = l[i] :: l.drop (i + 1) := List.drop_eq_getElem_cons hlt
    have g1 : rd l ((i : Int) - 1) = l[i - 1] := by rw [show ((i : Int) - 1) = ((i - 1 : Nat) : Int) from by omega]; exact rd_get l _ _
    rw [e1, e2]
    by_cases e : l[i] = -l[i - 1]
    · refine Ev.succ (Ev.congr (f := fun _ => some false) (fun k => ?_) (Ev.pin (Ev.now _) ?_))
      · rw [spec_l2Reduced.l0, if_pos (by omega), if_pos (by omega), wr (by omega) (by omega), if_pos (by omega), if_pos (by omega), rd_get l i hlt, g1, wr (i := -l[i - 1]) (by omega) (by omega), if_pos e]
      · simp [isRed, e]
    · refine Ev.succ (Ev.congr (fun k => ?_) (Ev.pin (ih (i + 1) (by omega) (by omega)) ?_))
      · rw [spec_l2Reduced.l0, if_pos (by omega), if_pos (by omega), wr (by omega) (by omega), if_pos (by omega), if_pos (by omega), rd_get l i hlt, g1, wr (i := -l[i - 1]) (by omega) (by omega), if_neg e, wr (by omega) (by omega)]
        rfl
      · rw [show i + 1 - 1 = i from by omega, e2]
        have hx : (l[i] == -l[i - 1]) = false := by simpa using e
        simp [isRed, hx]
theorem l2Reduced (l : List Int) (hl : l.length ≤ 1048576) (hm : Mild l) : Ev (fun k => spec_l2Reduced.f k l) (isRed l) :=
  Ev.congr (fun k => by unfold spec_l2Reduced.f; rfl) (Ev.pin (l2Reduced_round l hl hm (l.length - 1) 1 (by omega) (by omega)) (by simp))
def vIsReduced (l : List Int) : Bool × Bool := if isW l = true then (isRed l, true) else (false, false)
theorem spec_IsReduced (l : List Int) (hl : l.length ≤ 1048576) : Ev (fun k => spec_IsReduced.f k l) (vIsReduced l) := by
  refine Ev.congr (fun k => by unfold spec_IsReduced.f; rfl) (Ev.bind (l2Word l (by omega)) ?_)
  unfold vIsReduced
  cases h : isW l with
  | true => simp only [↓reduceIte]; exact Ev.bind (l2Reduced l hl (Mild.ofW h)) (Ev.now _)
  | false => simp only [Bool.false_eq_true, ↓reduceIte]; exact Ev.now _
theorem impl_IsReduced (l : List Int) (hl : l.length ≤ 1048576) : Ev (fun k => impl_IsReduced.f k l) (vIsReduced l) := by
  refine Ev.congr (fun k => by unfold impl_IsReduced.f; rw [isWord, Option.bind_some]) ?_
  unfold vIsReduced
  cases h : isW l with
  | true => simp only [↓reduceIte]; exact Ev.bind (reduced l hl (Mild.ofW h)) (Ev.pin (Ev.now _) (by rw [isRed_eq]))
  | false => simp only [Bool.false_eq_true, ↓reduceIte]; exact Ev.now _
def vReduceWord (l : List Int) : List Int × Bool := if isW l = true then (red l, true) else ([], false)
theorem vReduceWord_len (l : List Int) (hl : l.length ≤ 1048576) : (vReduceWord l).1.length ≤ 1048576 := by
  unfold vReduceWord; split
  · have := red_len l; simp only; omega
  · simp
theorem spec_ReduceWord (l : List Int) (hl : l.length ≤ 1048576) : Ev (fun k => spec_ReduceWord.f k l) (vReduceWord l) := by
  refine Ev.congr (fun k => by unfold spec_ReduceWord.f; rfl) (Ev.bind (l2Word l (by omega)) ?_)
  unfold vReduceWord
  cases h : isW l with
  | true => simp only [↓reduceIte]; exact Ev.bind (l2Reduce l hl (Mild.ofW h)) (Ev.now _)
  | false => simp only [Bool.false_eq_true, ↓reduceIte]; exact Ev.now _
theorem impl_ReduceWord (l : List Int) (hl : l.length ≤ 1048576) : Ev (fun k => impl_ReduceWord.f k l) (vReduceWord l) := by
  refine Ev.congr (fun k => by unfold impl_ReduceWord.f; rw [isWord, Option.bind_some]) ?_
  unfold vReduceWord
  cases h : isW l with
  | true => simp only [↓reduceIte]; exact Ev.bind (reduced l hl (Mild.ofW h)) (Ev.now _)
  | false => simp only [Bool.false_eq_true, ↓reduceIte]; exact Ev.now _
/-! nails -/
def nl (x : Int) : Int := if 0 ≤ x then x else -x
def nbit (x : Int) : Int := shl .i64 1 (nl x - 1)
def nailsV (l : List Int) : Int := l.foldl (fun s x => Go.bits .or .i64 s (nbit x)) 0
theorem mx_nl (x : Int) : mx x (-x) = nl x := by unfold mx nl; split <;> split <;> omega
theorem nl_bd (x : Int) (h0 : x ≠ 0) (hb : -4611686018427387904 ≤ x ∧ x ≤ 4611686018427387904) : 1 ≤ nl x ∧ nl x ≤ 4611686018427387904 := by unfold nl; split <;> omega
theorem nailBit (x : Int) (h0 : x ≠ 0) (hb : -4611686018427387904 ≤ x ∧ x ≤ 4611686018427387904) : impl_nailBit.f x = some (nbit x) := by
  have h := nl_bd x h0 hb
  unfold impl_nailBit.f impl_nail.f nbit
  rw [wr (i := -x) (by omega) (by omega), mx_nl, Option.bind_some, wr (i := nl x - 1) (by omega) (by omega), if_pos (by omega)]
theorem l2Nail (x : Int) (hb : -4611686018427387904 ≤ x ∧ x ≤ 4611686018427387904) : spec_l2Nail.f x = some (nl x) := by
  unfold spec_l2Nail.f spec_l1Most.f nl
  rw [wr (by omega) (by omega)]
  by_cases h : x > -x
  · rw [if_pos h, if_pos (by omega)]; rfl
  · rw [if_neg h]
    by_cases h2 : 0 ≤ x
    · rw [if_pos h2, show x = 0 from by omega]; rfl
    · rw [if_neg h2]; rfl
theorem l2Nails_round (l : List Int) (hl : l.length ≤ 1048576) (hm : Mild l) (hz : ∀ x ∈ l, x ≠ 0) : ∀ (d i : Nat) (s : Int), i ≤ l.length → l.length - i = d →
    Ev (fun k => spec_l2Nails.l0 k l s (i : Int)) ((l.drop i).foldl (fun s x => Go.bits .or .i64 s (nbit x)) s) := by
  intro d
  induction d with
  | zero =>
    intro i s hi hd
    refine Ev.succ (Ev.congr (f := fun _ => some s) (fun k => ?_) (Ev.pin (Ev.now _) ?_))
    · rw [spec_l2Nails.l0, if_neg (by omega)]
    · rw [List.drop_of_length_le (by omega)]; rfl
  | succ d ih =>
    intro i s hi hd
    have hlt : i < l.length := by omega
    have hb := hm l[i] (List.getElem_mem hlt)
    have h0 := hz l[i] (List.getElem_mem hlt)
    rw [List.drop_eq_getElem_cons hlt]
    refine Ev.succ (Ev.congr (fun k => ?_) (Ev.pin (ih (i + 1) (Go.bits .or .i64 s (nbit l[i])) (by omega) (by omega)) rfl))
    have hp : 1 ≤ nl l[i] ∧ nl l[i] ≤ 4611686018427387904 := by unfold nl; split <;> omega
    rw [spec_l2Nails.l0, if_pos (by omega), if_pos (by omega), rd_get l i hlt, l2Nail _ hb, Option.bind_some, wr (by omega) (by omega), if_pos (by omega), wr (by omega) (by omega)]
    rfl
theorem l2Nails (l : List Int) (hl : l.length ≤ 1048576) (hm : Mild l) (hz : ∀ x ∈ l, x ≠ 0) : Ev (fun k => spec_l2Nails.f k l) (nailsV l) :=
  Ev.congr (fun k => by unfold spec_l2Nails.f; rfl) (Ev.pin (l2Nails_round l hl hm hz l.length 0 0 (by omega) (by omega)) (by simp [nailsV]))
theorem nailsOf_round (l : List Int) (hl : l.length ≤ 1048576) (hm : Mild l) (hz : ∀ x ∈ l, x ≠ 0) : ∀ (d i : Nat) (s : Int), i ≤ l.length → l.length - i = d →
    Ev (fun k => impl_nailsOf.l0 k s l (l.length : Int) (i : Int)) ((l.drop i).foldl (fun s x => Go.bits .or .i64 s (nbit x)) s) := by
  intro d
  induction d with
  | zero =>
    intro i s hi hd
    refine Ev.succ (Ev.congr (f := fun _ => some s) (fun k => ?_) (Ev.pin (Ev.now _) ?_))
    · rw [impl_nailsOf.l0, if_neg (by omega)]
    · rw [List.drop_of_length_le (by omega)]; rfl
  | succ d ih =>
    intro i s hi hd
    have hlt : i < l.length := by omega
    have hb := hm l[i] (List.getElem_mem hlt)
    have h0 := hz l[i] (List.getElem_mem hlt)
    rw [List.drop_eq_getElem_cons hlt]
    refine Ev.succ (Ev.congr (fun k => ?_) (Ev.pin (ih (i + 1) (Go.bits .or .i64 s (nbit l[i])) (by omega) (by omega)) rfl))
    rw [impl_nailsOf.l0, if_pos (by omega), if_pos (by omega), if_pos (by omega), rd_get l i hlt, nailBit _ h0 hb, Option.bind_some, wr (by omega) (by omega)]
    rfl
theorem nailsOf (l : List Int) (hl : l.length ≤ 1048576) (hm : Mild l) (hz : ∀ x ∈ l, x ≠ 0) : Ev (fun k => impl_nailsOf.f k l) (nailsV l) :=
  Ev.congr (fun k => by unfold impl_nailsOf.f; rfl) (Ev.pin (nailsOf_round l hl hm hz l.length 0 0 (by omega) (by omega)) (by simp [nailsV]))
theorem isW_nz {l : List Int} (h : isW l = true) : ∀ x ∈ l, x ≠ 0 := fun x hx => (isW_mem h x hx).1
def vNailsOf (l : List Int) : Int × Bool := if isW l = true then (nailsV l, true) else (0, false)
theorem spec_NailsOf (l : List Int) (hl : l.length ≤ 1048576) : Ev (fun k => spec_NailsOf.f k l) (vNailsOf l) := by
  refine Ev.congr (fun k => by unfold spec_NailsOf.f; rfl) (Ev.bind (l2Word l (by omega)) ?_)
  unfold vNailsOf
  cases h : isW l with
  | true => simp only [↓reduceIte]; exact Ev.bind (l2Nails l hl (Mild.ofW h) (isW_nz h)) (Ev.now _)
  | false => simp only [Bool.false_eq_true, ↓reduceIte]; exact Ev.now _
theorem impl_NailsOf (l : List Int) (hl : l.length ≤ 1048576) : Ev (fun k => impl_NailsOf.f k l) (vNailsOf l) := by
  refine Ev.congr (fun k => by unfold impl_NailsOf.f; rw [isWord, Option.bind_some]) ?_
  unfold vNailsOf
  cases h : isW l with
  | true => simp only [↓reduceIte]; exact Ev.bind (nailsOf l hl (Mild.ofW h) (isW_nz h)) (Ev.now _)
  | false => simp only [Bool.false_eq_true, ↓reduceIte]; exact Ev.now _
/-! texts -/
theorem snums_append (a b : List Int) : strOfNums (a ++ b) = strOfNums a ++ strOfNums b := by
  unfold strOfNums; apply ByteArray.ext; simp
theorem snums_size (a : List Int) : (strOfNums a).size = a.length := by unfold strOfNums; simp [ByteArray.size]
def chN (x : Int) : Int := if x > 0 then 96 + x else 64 - x
def textV (l : List Int) : ByteArray := strOfNums (l.map chN)
theorem wordText_round (l : List Int) (hl : l.length ≤ 1048576) (hL : ∀ x ∈ l, x ≠ 0 ∧ -6 ≤ x ∧ x ≤ 6) : ∀ (d i : Nat) (acc : List Int), i ≤ l.length → l.length - i = d → acc = (l.take i).map chN →
    Ev (fun k => impl_wordText.l0 k acc l (l.length : Int) (i : Int)) (textV l) := by
  intro d
  induction d with
  | zero =>
    intro i acc hi hd ha
    refine Ev.succ (Ev.congr (f := fun _ => some (strOfNums acc)) (fun k => ?_) (Ev.pin (Ev.now _) ?_))
    · rw [impl_wordText.l0, if_neg (by omega)]
    · rw [ha, List.take_of_length_le (by omega)]; rfl
  | succ d ih =>
    intro i acc hi hd ha
    have hlt : i < l.length := by omega
    have hb := hL l[i] (List.getElem_mem hlt)
    have hal : acc.length ≤ i := by rw [ha]; simp; omega
    have hn : acc ++ [chN l[i]] = (l.take (i + 1)).map chN := by rw [ha, List.take_add_one, List.getElem?_eq_getElem hlt, List.map_append]; rfl
    refine Ev.succ (Ev.congr (fun k => ?_) (ih (i + 1) (acc ++ [chN l[i]]) (by omega) (by omega) hn))
    rw [impl_wordText.l0, if_pos (by omega), if_pos (by omega), if_pos (by omega), rd_get l i hlt]
    by_cases hp : l[i] > 0
    · rw [if_pos hp, if_pos (by omega), wr (i := 97 + l[i]) (by omega) (by omega), wr (i := 97 + l[i] - 1) (by omega) (by omega), wr (by omega) (by omega)]
      have : chN l[i] = (97 + l[i] - 1) % 256 := by unfold chN; rw [if_pos hp]; omega
      rw [this]; rfl
    · rw [if_neg hp, if_pos (by omega), wr (i := 65 - l[i]) (by omega) (by omega), wr (i := 65 - l[i] - 1) (by omega) (by omega), wr (by omega) (by omega)]
      have : chN l[i] = (65 - l[i] - 1) % 256 := by unfold chN; rw [if_neg hp]; omega
      rw [this]; rfl
theorem wordText (l : List Int) (hl : l.length ≤ 1048576) (hL : ∀ x ∈ l, x ≠ 0 ∧ -6 ≤ x ∧ x ≤ 6) : Ev (fun k => impl_wordText.f k l) (textV l) :=
  Ev.congr (fun k => by unfold impl_wordText.f; rfl) (wordText_round l hl hL l.length 0 [] (by omega) (by omega) (by simp))
def codeV (x : Int) : Int := if x > 0 then 2 * x - 2 else -2 * x - 1
theorem l2Code (x : Int) (hb : -6 ≤ x ∧ x ≤ 6) : spec_l2Code.f x = some (codeV x) := by
  unfold spec_l2Code.f codeV
  by_cases h : x > 0
  · rw [if_pos h, if_pos h, wr (i := 2 * x) (by omega) (by omega), wr (by omega) (by omega)]
  · rw [if_neg h, if_neg h, wr (i := -2 * x) (by omega) (by omega), wr (by omega) (by omega)]
theorem sign_cut (x : Int) (h0 : x ≠ 0) (hb : -6 ≤ x ∧ x ≤ 6) : (⟨#[97, 65, 98, 66, 99, 67, 100, 68, 101, 69, 102, 70]⟩ : ByteArray).extract (codeV x).toNat (codeV x + 1).toNat = strOfNums [chN x] := by
  have h : x = -6 ∨ x = -5 ∨ x = -4 ∨ x = -3 ∨ x = -2 ∨ x = -1 ∨ x = 1 ∨ x = 2 ∨ x = 3 ∨ x = 4 ∨ x = 5 ∨ x = 6 := by omega
  rcases h with h | h | h | h | h | h | h | h | h | h | h | h <;> subst h <;> decide +kernel
theorem l2Text_round (l : List Int) (hl : l.length ≤ 1048576) (hL : ∀ x ∈ l, x ≠ 0 ∧ -6 ≤ x ∧ x ≤ 6) : ∀ (d i : Nat) (acc : ByteArray), i ≤ l.length → l.length - i = d → acc = textV (l.take i) →
    Ev (fun k => spec_l2Text.l0 k l acc (i : Int)) (textV l) := by
  intro d
  induction d with
  | zero =>
    intro i acc hi hd ha
    refine Ev.succ (Ev.congr (f := fun _ => some acc) (fun k => ?_) (Ev.pin (Ev.now _) ?_))
    · rw [spec_l2Text.l0, if_neg (by omega)]
    · rw [ha, List.take_of_length_le (by omega)]
  | succ d ih =>
    intro i acc hi hd ha
    have hlt : i < l.length := by omega
    have hb := hL l[i] (List.getElem_mem hlt)
    have hal : acc.size ≤ i := by rw [ha]; unfold textV; rw [snums_size]; simp; omega
    have hn : acc ++ strOfNums [chN l[i]] = textV (l.take (i + 1)) := by rw [ha, List.take_add_one, List.getElem?_eq_getElem hlt]; unfold textV; rw [List.map_append, snums_append]; rfl
    have hc : 0 ≤ codeV l[i] ∧ codeV l[i] ≤ 11 := by unfold codeV; split <;> omega
    refine Ev.succ (Ev.congr (fun k => ?_) (ih (i + 1) (acc ++ strOfNums [chN l[i]]) (by omega) (by omega) hn))
    rw [spec_l2Text.l0, if_pos (by omega), if_pos (by omega), rd_get l i hlt, l2Code _ hb.2, Option.bind_some, if_pos (by omega), wr (i := codeV l[i] + 1) (by omega) (by omega), if_pos (by omega), if_pos (by omega), sign_cut _ hb.1 hb.2, if_pos (by rw [snums_size]; simp; omega), wr (by omega) (by omega)]
    rfl
theorem l2Text (l : List Int) (hl : l.length ≤ 1048576) (hL : ∀ x ∈ l, x ≠ 0 ∧ -6 ≤ x ∧ x ≤ 6) : Ev (fun k => spec_l2Text.f k l) (textV l) :=
  Ev.congr (fun k => by unfold spec_l2Text.f; rfl) (l2Text_round l hl hL l.length 0 _ (by omega) (by omega) (by simp [textV, strOfNums]))
def vWordText (l : List Int) : ByteArray × Bool := if isW l = true then (textV l, true) else (⟨#[]⟩, false)
theorem spec_WordText (l : List Int) (hl : l.length ≤ 1048576) : Ev (fun k => spec_WordText.f k l) (vWordText l) := by
  refine Ev.congr (fun k => by unfold spec_WordText.f; rfl) (Ev.bind (l2Word l (by omega)) ?_)
  unfold vWordText
  cases h : isW l with
  | true => simp only [↓reduceIte]; exact Ev.bind (l2Text l hl (isW_mem h)) (Ev.now _)
  | false => simp only [Bool.false_eq_true, ↓reduceIte]; exact Ev.now _
theorem impl_WordText (l : List Int) (hl : l.length ≤ 1048576) : Ev (fun k => impl_WordText.f k l) (vWordText l) := by
  refine Ev.congr (fun k => by unfold impl_WordText.f; rw [isWord, Option.bind_some]) ?_
  unfold vWordText
  cases h : isW l with
  | true => simp only [↓reduceIte]; exact Ev.bind (wordText l hl (isW_mem h)) (Ev.now _)
  | false => simp only [Bool.false_eq_true, ↓reduceIte]; exact Ev.now _
/-! texts read -/
def letV (c : Int) : Int := if 97 ≤ c ∧ c < 103 then c - 96 else if 65 ≤ c ∧ c < 71 then 64 - c else 0
theorem all_no {c : Int} (r : List Int) {α : Type} (a b : α) (h : letV c = 0) : (if (c :: r).all (fun c => decide (letV c ≠ 0)) = true then a else b) = b := if_neg (by simp [h])
theorem all_yes {c : Int} (r : List Int) (h : letV c ≠ 0) : (c :: r).all (fun c => decide (letV c ≠ 0)) = r.all (fun c => decide (letV c ≠ 0)) := by simp [h]
def vParse (l : List Int) : List Int × Bool := if l.length ≤ 64 ∧ l.all (fun c => decide (letV c ≠ 0)) = true then (l.map letV, true) else ([], false)
theorem bt_get (s : ByteArray) (i : Nat) (h : i < s.size) : bt s (i : Int) = (bytesOf s)[i]'(by rw [bytesOf_length]; exact h) := by
  rw [← rd_bytesOf, rd_get _ _ (by rw [bytesOf_length]; exact h)]
theorem bytes_range (s : ByteArray) : ∀ c ∈ bytesOf s, 0 ≤ c ∧ c ≤ 255 := by
  intro c hc
  unfold bytesOf at hc
  obtain ⟨b, _, rfl⟩ := List.mem_map.1 hc
  have := b.toNat_lt
  omega
theorem l2Sign (c : Int) (hc : 0 ≤ c ∧ c ≤ 255) : Ev (fun k => spec_l2Sign.f k c) (letV c) := by
  by_cases h : c ≥ 97
  · refine Ev.congr (f := fun k => spec_l2Sign.j0 k c (decide (c < 103))) (fun k => by unfold spec_l2Sign.f; rw [if_pos h]) (Ev.succ ?_)
    by_cases h2 : c < 103
    · refine Ev.congr (f := fun _ => some (((c - 97) % 256) + 1)) (fun k => ?_) (Ev.pin (Ev.now _) ?_)
      · rw [spec_l2Sign.j0, if_pos (by simpa using h2)]
      · unfold letV; rw [if_pos ⟨by omega, h2⟩]; omega
    · refine Ev.congr (f := fun _ => some 0) (fun k => ?_) (Ev.pin (Ev.now _) ?_)
      · rw [spec_l2Sign.j0, if_neg (by simpa using h2), if_pos (by omega), if_neg (by omega)]
      · unfold letV; rw [if_neg (by omega), if_neg (by omega)]
  · refine Ev.congr (f := fun k => spec_l2Sign.j0 k c false) (fun k => by unfold spec_l2Sign.f; rw [if_neg h]) (Ev.succ ?_)
    by_cases h2 : c ≥ 65
    · by_cases h3 : c < 71
      · refine Ev.congr (f := fun _ => some ((-((c - 65) % 256)) - 1)) (fun k => ?_) (Ev.pin (Ev.now _) ?_)
        · rw [spec_l2Sign.j0, if_neg (by simp), if_pos h2, if_pos h3]
        · unfold letV; rw [if_neg (by omega), if_pos ⟨by omega, h3⟩]; omega
      · refine Ev.congr (f := fun _ => some 0) (fun k => ?_) (Ev.pin (Ev.now _) ?_)
        · rw [spec_l2Sign.j0, if_neg (by simp), if_pos h2, if_neg h3]
        · unfold letV; rw [if_neg (by omega), if_neg (by omega)]
    · refine Ev.congr (f := fun _ => some 0) (fun k => ?_) (Ev.pin (Ev.now _) ?_)
      · rw [spec_l2Sign.j0, if_neg (by simp), if_neg h2]
      · unfold letV; rw [if_neg (by omega), if_neg (by omega)]
theorem ParseWord_round (s : ByteArray) (hs : s.size ≤ 64) : ∀ (d i : Nat) (acc : List Int), i ≤ s.size → s.size - i = d → acc.length ≤ i →
    Ev (fun k => spec_ParseWord.l0 k s acc (i : Int)) (if ((bytesOf s).drop i).all (fun c => decide (letV c ≠ 0)) = true then (acc ++ ((bytesOf s).drop i).map letV, true) else ([], false)) := by
  intro d
  induction d with
  | zero =>
    intro i acc hi hd ha
    refine Ev.succ (Ev.congr (f := fun _ => some (acc, true)) (fun k => ?_) (Ev.pin (Ev.now _) ?_))
    · rw [spec_ParseWord.l0, if_neg (by omega)]
    · rw [List.drop_of_length_le (by rw [bytesOf_length]; omega)]; simp
  | succ d ih =>
    intro i acc hi hd ha
    have hlt : i < s.size := by omega
    have hltb : i < (bytesOf s).length := by rw [bytesOf_length]; exact hlt
    have hr := bytes_range s _ (List.getElem_mem hltb)
    rw [List.drop_eq_getElem_cons hltb]
    refine Ev.succ (Ev.congr (f := fun k => (spec_l2Sign.f k (bytesOf s)[i]).bind fun t161 => (if t161 = 0 then (some ((([] : List Int)), false)) else (if acc.length < 17592186044416 then (spec_ParseWord.l0 k s (acc ++ [t161]) (wrap64 ((i : Int) + 1))) else (none)))) (fun k => ?_) (Ev.bind (l2Sign _ hr) ?_))
    · rw [spec_ParseWord.l0, if_pos (by omega), if_pos (by omega), bt_get s i hlt]
    · by_cases h0 : letV (bytesOf s)[i] = 0
      · refine Ev.congr (f := fun _ => some ([], false)) (fun k => ?_) (Ev.pin (Ev.now _) ?_)
        · rw [if_pos h0]
        · rw [all_no _ _ _ h0]
      · refine Ev.congr (fun k => ?_) (Ev.pin (ih (i + 1) (acc ++ [letV (bytesOf s)[i]]) (by omega) (by omega) (by simp; omega)) ?_)
        · rw [if_neg h0, if_pos (by omega), wr (by omega) (by omega)]; rfl
        · rw [all_yes _ h0, List.map_cons, List.append_assoc]; rfl
theorem spec_ParseWord (s : ByteArray) (hs : s.size ≤ 1048576) : Ev (fun k => spec_ParseWord.f k s) (vParse (bytesOf s)) := by
  by_cases h : s.size ≤ 64
  · refine Ev.congr (fun k => ?_) (Ev.pin (ParseWord_round s h s.size 0 [] (by omega) (by omega) (by simp)) ?_)
    · unfold spec_ParseWord.f; rw [Option.bind_some, if_neg (by omega)]; rfl
    · unfold vParse; rw [bytesOf_length]; simp [h]
  · refine Ev.congr (f := fun _ => some ([], false)) (fun k => ?_) (Ev.pin (Ev.now _) ?_)
    · unfold spec_ParseWord.f; rw [Option.bind_some, if_pos (by omega)]
    · unfold vParse; rw [if_neg (by rw [bytesOf_length]; simp [h])]
def vFit (l : List Int) : List Int × Bool := if l.length ≤ 64 then (l, true) else ([], false)
theorem fitting (l : List Int) : impl_fitting.f l = some (vFit l) := by
  unfold impl_fitting.f vFit
  by_cases h : l.length ≤ 64
  · rw [if_neg (by omega), if_pos h]
  · rw [if_pos (by omega), if_neg h]
theorem parseWord_round (s : ByteArray) (hs : s.size ≤ 1048576) : ∀ (d i : Nat) (acc : List Int), i ≤ s.size → s.size - i = d → acc.length = i →
    Ev (fun k => impl_parseWord.l0 k s acc (s.size : Int) (i : Int)) (if ((bytesOf s).drop i).all (fun c => decide (letV c ≠ 0)) = true then vFit (acc ++ ((bytesOf s).drop i).map letV) else ([], false)) := by
  intro d
  induction d with
  | zero =>
    intro i acc hi hd ha
    refine Ev.succ (Ev.congr (f := fun _ => some (vFit acc)) (fun k => ?_) (Ev.pin (Ev.now _) ?_))
    · rw [impl_parseWord.l0, if_neg (by omega), fitting]; rfl
    · rw [List.drop_of_length_le (by rw [bytesOf_length]; omega)]; simp
  | succ d ih =>
    intro i acc hi hd ha
    have hlt : i < s.size := by omega
    have hltb : i < (bytesOf s).length := by rw [bytesOf_length]; exact hlt
    have hr := bytes_range s _ (List.getElem_mem hltb)
    rw [List.drop_eq_getElem_cons hltb]
    generalize hc : (bytesOf s)[i] = c at hr ⊢
    have hbt : bt s (i : Int) = c := by rw [bt_get s i hlt, hc]
    have hgo : ∀ v : Int, letV c = v → v ≠ 0 → Ev (fun k => impl_parseWord.l0 k s (acc ++ [v]) (s.size : Int) ((i + 1 : Nat) : Int)) (if (c :: (bytesOf s).drop (i + 1)).all (fun c => decide (letV c ≠ 0)) = true then vFit (acc ++ (c :: (bytesOf s).drop (i + 1)).map letV) else ([], false)) := by
      intro v hv h0
      subst hv
      refine Ev.pin (ih (i + 1) (acc ++ [letV c]) (by omega) (by omega) (by simp; omega)) ?_
      rw [all_yes _ h0, List.map_cons, List.append_assoc]; rfl
    by_cases h97 : c ≥ 97
    · refine Ev.succ (Ev.congr (f := fun k => impl_parseWord.j1 k s acc c (s.size : Int) (i : Int) (decide (c < 103))) (fun k => ?_) (Ev.succ ?_))
      · rw [impl_parseWord.l0, if_pos (by omega), if_pos (by omega), if_pos (by omega), hbt, wr (by omega) (by omega), if_pos h97]
      · by_cases h2 : c < 103
        · refine Ev.congr (fun k => ?_) (hgo (c - 96) (by unfold letV; rw [if_pos ⟨by omega, h2⟩]) (by omega))
          rw [impl_parseWord.j1, if_pos (by simpa using h2), if_pos (by omega), wr (i := c - 97) (by omega) (by omega), wr (i := c - 97 + 1) (by omega) (by omega), wr (by omega) (by omega), show c - 97 + 1 = c - 96 from by omega]
          rfl
        · refine Ev.congr (f := fun _ => some ([], false)) (fun k => ?_) (Ev.pin (Ev.now _) ?_)
          · rw [impl_parseWord.j1, if_neg (by simpa using h2), if_pos (by omega), if_neg (by omega)]
          · have : letV c = 0 := by unfold letV; rw [if_neg (by omega), if_neg (by omega)]
            rw [all_no _ _ _ this]
    · refine Ev.succ (Ev.congr (f := fun k => impl_parseWord.j1 k s acc c (s.size : Int) (i : Int) false) (fun k => ?_) (Ev.succ ?_))
      · rw [impl_parseWord.l0, if_pos (by omega), if_pos (by omega), if_pos (by omega), hbt, wr (by omega) (by omega), if_neg h97]
      · by_cases h2 : c ≥ 65 ∧ c < 71
        · refine Ev.congr (fun k => ?_) (hgo (64 - c) (by unfold letV; rw [if_neg (by omega), if_pos (by omega)]) (by omega))
          rw [impl_parseWord.j1, if_neg (by simp), if_pos h2.1, if_pos h2.2, if_pos (by omega), wr (i := 65 - c) (by omega) (by omega), wr (i := 65 - c - 1) (by omega) (by omega), wr (by omega) (by omega), show 65 - c - 1 = 64 - c from by omega]
          rfl
        · refine Ev.congr (f := fun _ => some ([], false)) (fun k => ?_) (Ev.pin (Ev.now _) ?_)
          · rw [impl_parseWord.j1, if_neg (by simp)]
            by_cases h3 : c ≥ 65
            · rw [if_pos h3, if_neg (by omega)]
            · rw [if_neg h3]
          · have : letV c = 0 := by unfold letV; rw [if_neg (by omega), if_neg (by omega)]
            rw [all_no _ _ _ this]
theorem parseWord (s : ByteArray) (hs : s.size ≤ 1048576) : Ev (fun k => impl_parseWord.f k s) (vParse (bytesOf s)) := by
  refine Ev.congr (fun k => by unfold impl_parseWord.f; rfl) (Ev.pin (parseWord_round s hs s.size 0 [] (by omega) (by omega) (by simp)) ?_)
  unfold vParse vFit
  simp only [List.drop_zero, List.nil_append, List.length_map]
  by_cases h : (bytesOf s).length ≤ 64 <;> simp [h]
theorem impl_ParseWord (s : ByteArray) (hs : s.size ≤ 1048576) : Ev (fun k => impl_ParseWord.f k s) (vParse (bytesOf s)) :=
  Ev.congr (fun k => by unfold impl_ParseWord.f; rfl) (Ev.bind (parseWord s hs) (Ev.now _))
theorem vParse_len (l : List Int) (h : l.length ≤ 1048576) : (vParse l).1.length ≤ 1048576 := by
  unfold vParse; split
  · simp; omega
  · simp
end Go.Proofs.Ytbahojdgcipahaa.L
