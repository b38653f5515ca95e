/- What the exported functions on words come to, on both sides. Conditions: at most 1048576 numbers come in. -/
import Derived.Test.YtemiaaamgmhfaaaPx1
import Derived.Test.YtemiaaamgmhfaaaPx2
import Derived.Test.YtemiaaamgmhfaaaPx3
import Derived.Test.YtemiaaamgmhfaaaPx4
import Derived.Test.YtemiaaamgmhfaaaPx5
import Derived.Test.YtemiaaamgmhfaaaPx8
import Derived.Test.YtemiaaamgmhfaaaLWords
namespace Go.Proofs.Ytemiaaamgmhfaaa.L
open Go.RowKit Go.Proofs.Ytemiaaamgmhfaaa.P Go.Proofs.YtemiaaamgmhfaaaW.PrintWords Go.Proofs.YtemiaaamgmhfaaaW.PrintMore
set_option linter.unusedVariables false
set_option linter.unusedSimpArgs false

theorem rd_get (l : List Int) (i : Nat) (h : i < l.length) : rd l (i : Int) = l[i] := by
  rw [rd_nat, List.getD_eq_getElem?_getD, List.getElem?_eq_getElem h]; rfl

/-! reduced or not -/
theorem red1_snoc {acc : List Int} {x a : Int} (h : acc.getLast? = some a) (he : a ≠ -x) : red1 acc x = acc ++ [x] := by
  unfold red1; rw [if_neg (by rw [h]; simpa using he)]
theorem redF_full (l : List Int) : ∀ (acc : List Int) (a : Int), acc.getLast? = some a → ((redF acc l).length = acc.length + l.length ↔ isRed (a :: l) = true) := by
  induction l with
  | nil => intro acc a h; simp [redF, isRed]
  | cons x l ih =>
    intro acc a h
    by_cases e : a = -x
    · have h1 : red1 acc x = acc.dropLast := by unfold red1; rw [if_pos (by rw [h, e])]
      have h2 := redF_len l (acc.dropLast)
      have h3 : redF acc (x :: l) = redF acc.dropLast l := by simp only [redF, List.foldl_cons, h1]
      have hx : (x == -a) = true := by simp; omega
      rw [h3]
      simp only [isRed, hx, Bool.not_true, Bool.false_and, List.length_cons, Bool.false_eq_true, iff_false]
      simp at h2
      omega
    · have h1 := red1_snoc h e
      have h3 : redF acc (x :: l) = redF (acc ++ [x]) l := by simp only [redF, List.foldl_cons, h1]
      have hx : (x == -a) = false := by simp; omega
      have h4 := ih (acc ++ [x]) x (by simp)
      rw [h3]
      simp only [isRed, hx, Bool.not_false, Bool.true_and]
      rw [← h4]
      simp
      omega
theorem isRed_iff (l : List Int) : ((red l).length = l.length) ↔ isRed l = true := by
  cases l with
  | nil => simp [red, redF, isRed]
  | cons x l =>
    have h := redF_full l [x] x rfl
    have : red (x :: l) = redF [x] l := by simp [red, redF, red1]
    rw [this, ← h]
    simp
    omega
theorem isRed_eq (l : List Int) : (((red l).length : Int) == (l.length : Int)) = isRed l := by
  have h := isRed_iff l
  cases hb : isRed l with
  | true =>
    have h2 : (red l).length = l.length := h.2 hb
    rw [beq_iff_eq]; omega
  | false =>
    have h2 : ¬ ((red l).length = l.length) := by rw [h, hb]; simp
    rw [beq_eq_false_iff_ne]; omega

/-! nails -/
def nl (x : Int) : Int := if 0 ≤ x then x else -x
def nbit (x : Int) : Int := shl .i64 1 (nl x - 1)
def nailsV (l : List Int) : Int := l.foldl (fun s x => Go.bits .or .i64 s (nbit x)) 0
theorem mx_nl (x : Int) : mx x (-x) = nl x := by unfold mx nl; split <;> split <;> omega
theorem nl_bd (x : Int) (h0 : x ≠ 0) (hb : -4611686018427387904 ≤ x ∧ x ≤ 4611686018427387904) : 1 ≤ nl x ∧ nl x ≤ 4611686018427387904 := by unfold nl; split <;> omega
theorem nailBit (x : Int) (h0 : x ≠ 0) (hb : -4611686018427387904 ≤ x ∧ x ≤ 4611686018427387904) : impl_nailBit.f x = some (nbit x) := by
  have h := nl_bd x h0 hb
  unfold impl_nailBit.f impl_nail.f nbit
  rw [wr (i := -x) (by omega) (by omega), mx_nl, Option.bind_some, wr (i := nl x - 1) (by omega) (by omega), if_pos (by omega)]
theorem l2Nail (x : Int) (hb : -4611686018427387904 ≤ x ∧ x ≤ 4611686018427387904) : spec_l2Nail.f x = some (nl x) := by
  unfold spec_l2Nail.f spec_l1Most.f nl
  rw [wr (by omega) (by omega)]
  by_cases h : x > -x
  · rw [if_pos h, if_pos (by omega)]; rfl
  · rw [if_neg h]
    by_cases h2 : 0 ≤ x
    · rw [if_pos h2, show x = 0 from by omega]; rfl
    · rw [if_neg h2]; rfl
theorem l2Nails_round (l : List Int) (hl : l.length ≤ 1048576) (hm : Mild l) (hz : ∀ x ∈ l, x ≠ 0) : ∀ (d i : Nat) (s : Int), i ≤ l.length → l.length - i = d →
    Ev (fun k => spec_l2Nails.l0 k l s (i : Int)) ((l.drop i).foldl (fun s x => Go.bits .or .i64 s (nbit x)) s) := by
  intro d
  induction d with
  | zero =>
    intro i s hi hd
    refine Ev.succ (Ev.congr (f := fun _ => some s) (fun k => ?_) (Ev.pin (Ev.now _) ?_))
    · rw [spec_l2Nails.l0, if_neg (by omega)]
    · rw [List.drop_of_length_le (by omega)]; rfl
  | succ d ih =>
    intro i s hi hd
    have hlt : i < l.length := by omega
    have hb := hm l[i] (List.getElem_mem hlt)
    have h0 := hz l[i] (List.getElem_mem hlt)
    rw [List.drop_eq_getElem_cons hlt]
    refine Ev.succ (Ev.congr (fun k => ?_) (Ev.pin (ih (i + 1) (Go.bits .or .i64 s (nbit l[i])) (by omega) (by omega)) rfl))
    have hp : 1 ≤ nl l[i] ∧ nl l[i] ≤ 4611686018427387904 := by unfold nl; split <;> omega
    rw [spec_l2Nails.l0, if_pos (by omega), if_pos (by omega), rd_get l i hlt, l2Nail _ hb, Option.bind_some, wr (by omega) (by omega), if_pos (by omega), wr (by omega) (by omega)]
    rfl
theorem l2Nails (l : List Int) (hl : l.length ≤ 1048576) (hm : Mild l) (hz : ∀ x ∈ l, x ≠ 0) : Ev (fun k => spec_l2Nails.f k l) (nailsV l) :=
  Ev.congr (fun k => by unfold spec_l2Nails.f; rfl) (Ev.pin (l2Nails_round l hl hm hz l.length 0 0 (by omega) (by omega)) (by simp [nailsV]))
theorem nailsOf_round (l : List Int) (hl : l.length ≤ 1048576) (hm : Mild l) (hz : ∀ x ∈ l, x ≠ 0) : ∀ (d i : Nat) (s : Int), i ≤ l.length → l.length - i = d →
    Ev (fun k => impl_nailsOf.l0 k s l (l.length : Int) (i : Int)) ((l.drop i).foldl (fun s x => Go.bits .or .i64 s (nbit x)) s) := by
  intro d
  induction d with
  | zero =>
    intro i s hi hd
    refine Ev.succ (Ev.congr (f := fun _ => some s) (fun k => ?_) (Ev.pin (Ev.now _) ?_))
    · rw [impl_nailsOf.l0, if_neg (by omega)]
    · rw [List.drop_of_length_le (by omega)]; rfl
  | succ d ih =>
    intro i s hi hd
    have hlt : i < l.length := by omega
    have hb := hm l[i] (List.getElem_mem hlt)
    have h0 := hz l[i] (List.getElem_mem hlt)
    rw [List.drop_eq_getElem_cons hlt]
    refine Ev.succ (Ev.congr (fun k => ?_) (Ev.pin (ih (i + 1) (Go.bits .or .i64 s (nbit l[i])) (by omega) (by omega)) rfl))
    rw [impl_nailsOf.l0, if_pos (by omega), if_pos (by omega), if_pos (by omega), rd_get l i hlt, nailBit _ h0 hb, Option.bind_some, wr (by omega) (by omega)]
    rfl
theorem nailsOf (l : List Int) (hl : l.length ≤ 1048576) (hm : Mild l) (hz : ∀ x ∈ l, x ≠ 0) : Ev (fun k => impl_nailsOf.f k l) (nailsV l) :=
  Ev.congr (fun k => by unfold impl_nailsOf.f; rfl) (Ev.pin (nailsOf_round l hl hm hz l.length 0 0 (by omega) (by omega)) (by simp [nailsV]))
theorem isW_nz {l : List Int} (h : isW l = true) : ∀ x ∈ l, x ≠ 0 := fun x hx => (isW_mem h x hx).1
/-! texts -/
theorem snums_append (a b : List Int) : strOfNums (a ++ b) = strOfNums a ++ strOfNums b := by
  unfold strOfNums; apply ByteArray.ext; simp
theorem snums_size (a : List Int) : (strOfNums a).size = a.length := by unfold strOfNums; simp [ByteArray.size]
def chN (x : Int) : Int := if x > 0 then 96 + x else 64 - x
def textV (l : List Int) : ByteArray := strOfNums (l.map chN)
/-! texts read -/
def letV (c : Int) : Int := if 97 ≤ c ∧ c < 103 then c - 96 else if 65 ≤ c ∧ c < 71 then 64 - c else 0
theorem all_no {c : Int} (r : List Int) {α : Type} (a b : α) (h : letV c = 0) : (if (c :: r).all (fun c => decide (letV c ≠ 0)) = true then a else b) = b := if_neg (by simp [h])
theorem all_yes {c : Int} (r : List Int) (h : letV c ≠ 0) : (c :: r).all (fun c => decide (letV c ≠ 0)) = r.all (fun c => decide (letV c ≠ 0)) := by simp [h]
def vParse (l : List Int) : List Int × Bool := if l.length ≤ 64 ∧ l.all (fun c => decide (letV c ≠ 0)) = true then (l.map letV, true) else ([], false)
theorem bt_get (s : ByteArray) (i : Nat) (h : i < s.size) : bt s (i : Int) = (bytesOf s)[i]'(by rw [bytesOf_length]; exact h) := by
  rw [← rd_bytesOf, rd_get _ _ (by rw [bytesOf_length]; exact h)]
theorem bytes_range (s : ByteArray) : ∀ c ∈ bytesOf s, 0 ≤ c ∧ c ≤ 255 := by
  intro c hc
  unfold bytesOf at hc
  obtain ⟨b, _, rfl⟩ := List.mem_map.1 hc
  have := b.toNat_lt
  omega
def vFit (l : List Int) : List Int × Bool := if l.length ≤ 64 then (l, true) else ([], false)
theorem fitting (l : List Int) : impl_fitting.f l = some (vFit l) := by
  unfold impl_fitting.f vFit
  by_cases h : l.length ≤ 64
  · rw [if_neg (by omega), if_pos h]
  · rw [if_pos (by omega), if_neg h]
end Go.Proofs.Ytemiaaamgmhfaaa.L
