/- What the laws' own small functions on slices of strings come to, and the splitting of a string. Conditions: as each lemma says. -/
import Derived.Test.YtbahojdgcipahaaPx1
import Derived.Test.YtbahojdgcipahaaPx2
import Derived.Test.YtbahojdgcipahaaPx3
import Derived.Test.YtbahojdgcipahaaLBase
namespace Go.Proofs.Ytbahojdgcipahaa.L
open Go.RowKit Go.Proofs.Ytbahojdgcipahaa.P Go.Proofs.YtbahojdgcipahaaW.PrintWords
set_option linter.unusedVariables false
set_option linter.unusedSimpArgs false

theorem rdOf_get (l : List ByteArray) (i : Nat) (h : i < l.length) : rdOf ByteArray.empty l (i : Int) = l[i] := by
  unfold rdOf; simp [List.getD_eq_getElem?_getD, h]
theorem rdOf_nat (l : List ByteArray) (i : Nat) : rdOf ByteArray.empty l (i : Int) = l.getD i ByteArray.empty := by
  unfold rdOf; simp
theorem eqStringS_round (a : List ByteArray) (hl : a.length ≤ 4611686018427387904) : ∀ (d i : Nat), i ≤ a.length → a.length - i = d →
    Ev (fun k => laws_eqStringS.l0 k a a (i : Int)) true := by
  intro d
  induction d with
  | zero =>
    intro i hi hd
    refine Ev.succ (Ev.congr (f := fun _ => some true) (fun k => ?_) (Ev.now _))
    rw [laws_eqStringS.l0, if_neg (by omega)]
  | succ d ih =>
    intro i hi hd
    refine Ev.succ (Ev.congr (fun k => ?_) (ih (i + 1) (by omega) (by omega)))
    rw [laws_eqStringS.l0, if_pos (by omega), if_pos (by omega), if_pos (by omega), if_pos rfl, wr (by omega) (by omega)]
    rfl
theorem eqStringS_yes (a : List ByteArray) (hl : a.length ≤ 4611686018427387904) : Ev (fun k => laws_eqStringS.f k a a) true :=
  Ev.congr (fun k => by unfold laws_eqStringS.f; rw [if_pos rfl]; rfl) (eqStringS_round a hl a.length 0 (by omega) (by omega))
theorem markText_some : ∀ (n : Nat) (x : Int) (acc : ByteArray), 0 ≤ x → x.toNat ≤ n → n ≤ 4611686018427387904 → acc.size + n ≤ 4611686018427387904 → ∃ t, Ev (fun k => laws_markText.l0 k x acc) t := by
  intro n
  induction n with
  | zero =>
    intro x acc h0 hx hn ha
    refine ⟨(⟨#[109]⟩ : ByteArray) ++ acc, Ev.succ (Ev.congr (f := fun _ => some ((⟨#[109]⟩ : ByteArray) ++ acc)) (fun k => ?_) (Ev.now _))⟩
    rw [laws_markText.l0, if_neg (by omega), if_pos (by omega)]
  | succ n ih =>
    intro x acc h0 hx hn ha
    by_cases hp : x > 0
    · have hs : (strOfNums [(wrap64 (48 + (Int.tmod x 10))) % 256]).size = 1 := by unfold strOfNums; rfl
      have ht : Int.tdiv x 10 = x / 10 := Int.tdiv_eq_ediv_of_nonneg h0
      obtain ⟨t, h⟩ := ih (x / 10) ((strOfNums [(wrap64 (48 + (Int.tmod x 10))) % 256]) ++ acc) (by omega) (by omega) (by omega) (by rw [ByteArray.size_append, hs]; omega)
      refine ⟨t, Ev.succ (Ev.congr (fun k => ?_) h)⟩
      rw [laws_markText.l0, if_pos hp, Option.bind_some, if_pos (by rw [hs]; omega), ht, wr (i := x / 10) (by omega) (by omega)]
    · refine ⟨(⟨#[109]⟩ : ByteArray) ++ acc, Ev.succ (Ev.congr (f := fun _ => some ((⟨#[109]⟩ : ByteArray) ++ acc)) (fun k => ?_) (Ev.now _))⟩
      rw [laws_markText.l0, if_neg hp, if_pos (by omega)]
theorem markText_ex (x : Int) (h0 : 0 ≤ x) (h1 : x ≤ 1099511627776) : ∃ t, Ev (fun k => laws_markText.f k x) t := by
  by_cases hp : x ≤ 0
  · exact ⟨_, Ev.congr (f := fun _ => some (⟨#[109, 48]⟩ : ByteArray)) (fun k => by unfold laws_markText.f; rw [if_pos hp]) (Ev.now _)⟩
  · obtain ⟨t, h⟩ := markText_some x.toNat x (⟨#[]⟩ : ByteArray) h0 (Nat.le_refl _) (by omega) (by show 0 + x.toNat ≤ _; omega)
    exact ⟨t, Ev.congr (fun k => by unfold laws_markText.f; rw [if_neg hp]) h⟩
open Classical in
/-- The text that 'markText' comes to. -/
noncomputable def mt (x : Int) : ByteArray := if h : ∃ t, Ev (fun k => laws_markText.f k x) t then Classical.choose h else ByteArray.empty
theorem markText (x : Int) (h0 : 0 ≤ x) (h1 : x ≤ 1099511627776) : Ev (fun k => laws_markText.f k x) (mt x) := by
  unfold mt; rw [dif_pos (markText_ex x h0 h1)]; exact Classical.choose_spec (markText_ex x h0 h1)
noncomputable def tmarks (n : Int) (m : Nat) : List ByteArray := (List.range m).map (fun (j : Nat) => mt (n + (j : Int)))
theorem tmarks_len (n : Int) (m : Nat) : (tmarks n m).length = m := by simp [tmarks]
theorem tmarks_succ (n : Int) (m : Nat) : tmarks n (m + 1) = tmarks n m ++ [mt (n + (m : Int))] := by simp [tmarks, List.range_succ]
theorem tmarks_get (n : Int) (m i : Nat) (h : i < m) : (tmarks n m).getD i ByteArray.empty = mt (n + (i : Int)) := by
  simp [tmarks, List.getD_eq_getElem?_getD, h]
theorem markStringS_round (n : Int) (m : Nat) (h0 : 0 ≤ n) (h1 : n ≤ 1073741824) (hm : m ≤ 1073741824) : ∀ (d i : Nat) (acc : List ByteArray), i ≤ m → m - i = d → acc.length = m → acc.take i = tmarks n i →
    Ev (fun k => laws_markStringS.l0 k acc (n + (i : Int)) (i : Int)) (n + (m : Int), tmarks n m) := by
  intro d
  induction d with
  | zero =>
    intro i acc hi hd ha ht
    have hi2 : i = m := by omega
    subst hi2
    refine Ev.succ (Ev.congr (f := fun _ => some (n + (i : Int), tmarks n i)) (fun k => ?_) (Ev.now _))
    rw [laws_markStringS.l0, if_neg (by omega), ← ht, List.take_of_length_le (by omega)]
  | succ d ih =>
    intro i acc hi hd ha ht
    have h := ih (i + 1) (acc.set i (mt (n + (i : Int)))) (by omega) (by omega) (by simp [ha]) (by
      rw [List.take_add_one, List.take_set_of_le (Nat.le_refl _), ht, List.getElem?_set_self (by omega), tmarks_succ]
      rfl)
    refine Ev.succ (Ev.congr (f := fun k => (laws_markText.f k (n + (i : Int))).bind fun t136 => (if 0 ≤ (i : Int) then (laws_markStringS.l0 k (acc.set ((i : Int) : Int).toNat t136) (wrap64 ((n + (i : Int)) + 1)) (wrap64 ((i : Int) + 1))) else (none))) (fun k => ?_) (Ev.bind (markText _ (by omega) (by omega)) ?_))
    · rw [laws_markStringS.l0, if_pos (by omega)]
    · refine Ev.congr (fun k => ?_) h
      rw [if_pos (by omega), wr (by omega) (by omega), wr (by omega) (by omega), Int.toNat_natCast, Int.add_assoc]
      rfl
theorem markStringS (l : List ByteArray) (hm : l.length ≤ 1073741824) : Ev (fun k => laws_markStringS.f k l 1) (1 + (l.length : Int), tmarks 1 l.length) := by
  refine Ev.congr (fun k => ?_) (markStringS_round 1 l.length (by omega) (by omega) hm l.length 0 l (by omega) (by omega) rfl (by simp [tmarks]))
  unfold laws_markStringS.f
  simp
theorem heldStringS_round (n : Int) (m : Nat) (h0 : 0 ≤ n) (h1 : n ≤ 1073741824) (hm : m ≤ 1073741824) : ∀ (d i : Nat), i ≤ m → m - i = d →
    Ev (fun k => laws_heldStringS.l0 k (tmarks n m) (n + (i : Int)) (i : Int)) (n + (m : Int)) := by
  intro d
  induction d with
  | zero =>
    intro i hi hd
    have hi2 : i = m := by omega
    subst hi2
    refine Ev.succ (Ev.congr (f := fun _ => some (n + (i : Int))) (fun k => ?_) (Ev.now _))
    rw [laws_heldStringS.l0, if_neg (by rw [tmarks_len]; omega)]
  | succ d ih =>
    intro i hi hd
    have h := ih (i + 1) (by omega) (by omega)
    refine Ev.succ (Ev.congr (f := fun k => (laws_markText.f k (n + (i : Int))).bind fun t139 => (if (rdOf ByteArray.empty (tmarks n m) (i : Int)).toList = t139.toList then (laws_heldStringS.l0 k (tmarks n m) (wrap64 ((n + (i : Int)) + 1)) (wrap64 ((i : Int) + 1))) else (some (-1)))) (fun k => ?_) (Ev.bind (markText _ (by omega) (by omega)) ?_))
    · rw [laws_heldStringS.l0, if_pos (by rw [tmarks_len]; omega), if_pos (by omega)]
    · refine Ev.congr (fun k => ?_) h
      rw [if_pos (by rw [rdOf_nat, tmarks_get _ _ _ (by omega)]), wr (by omega) (by omega), wr (by omega) (by omega), Int.add_assoc]
      rfl
theorem heldStringS (m : Nat) (hm : m ≤ 1073741824) : Ev (fun k => laws_heldStringS.f k (tmarks 1 m) 1) (1 + (m : Int)) := by
  refine Ev.congr (fun k => ?_) (heldStringS_round 1 m (by omega) (by omega) hm m 0 (by omega) (by omega))
  unfold laws_heldStringS.f
  simp
/-- Both ways of splitting walk alike. -/
theorem split_round (s sep : ByteArray) (hs : s.size ≤ 1048576) (h1 : sep.size = 1) : ∀ (d i fr : Nat) (acc : List ByteArray), fr ≤ i → i ≤ s.size → s.size - i = d → acc.length ≤ i →
    ∃ r, r.length ≤ s.size + 1 ∧ Ev (fun k => spec_l1Split.l0 k s (bt sep 0) acc (fr : Int) (i : Int)) r ∧ Ev (fun k => impl_splitAt.l0 k s sep acc (fr : Int) (s.size : Int) (i : Int)) r := by
  intro d
  induction d with
  | zero =>
    intro i fr acc hf hi hd ha
    refine ⟨acc ++ [s.extract fr s.size], by simp; omega, Ev.succ (Ev.congr (f := fun _ => some (acc ++ [s.extract fr s.size])) (fun k => ?_) (Ev.now _)), Ev.succ (Ev.congr (f := fun _ => some (acc ++ [s.extract fr s.size])) (fun k => ?_) (Ev.now _))⟩
    · rw [spec_l1Split.l0, if_neg (by omega), if_pos (by omega), if_pos (by omega), if_pos (by omega), Int.toNat_natCast]
    · rw [impl_splitAt.l0, if_neg (by omega), if_pos (by omega), if_pos (by omega), if_pos (by omega), Int.toNat_natCast]
  | succ d ih =>
    intro i fr acc hf hi hd ha
    by_cases e : bt s (i : Int) = bt sep 0
    · obtain ⟨r, hr, a, b⟩ := ih (i + 1) (i + 1) (acc ++ [s.extract fr i]) (by omega) (by omega) (by omega) (by simp; omega)
      refine ⟨r, hr, Ev.succ (Ev.congr (fun k => ?_) a), Ev.succ (Ev.congr (fun k => ?_) b)⟩
      · rw [spec_l1Split.l0, if_pos (by omega), if_pos (by omega), if_pos e, if_pos (by omega), if_pos (by omega), if_pos (by omega), if_pos (by omega), wr (by omega) (by omega), Int.toNat_natCast, Int.toNat_natCast]
        rfl
      · rw [impl_splitAt.l0, if_pos (by omega), if_pos (by omega), if_pos (by omega), if_pos (by omega), if_pos e, if_pos (by omega), if_pos (by omega), if_pos (by omega), if_pos (by omega), wr (by omega) (by omega), Int.toNat_natCast, Int.toNat_natCast]
        rfl
    · obtain ⟨r, hr, a, b⟩ := ih (i + 1) fr acc (by omega) (by omega) (by omega) (by omega)
      refine ⟨r, hr, Ev.succ (Ev.congr (fun k => ?_) a), Ev.succ (Ev.congr (fun k => ?_) b)⟩
      · rw [spec_l1Split.l0, if_pos (by omega), if_pos (by omega), if_neg e, wr (by omega) (by omega)]
        rfl
      · rw [impl_splitAt.l0, if_pos (by omega), if_pos (by omega), if_pos (by omega), if_pos (by omega), if_neg e, wr (by omega) (by omega)]
        rfl
theorem SplitString_both (s sep : ByteArray) (hs : s.size ≤ 1048576) : ∃ v : List ByteArray × Bool, v.1.length ≤ 1073741824 ∧ Ev (fun k => spec_SplitString.f k s sep) v ∧ Ev (fun k => impl_SplitString.f k s sep) v := by
  by_cases h1 : sep.size = 1
  · by_cases h4 : (s.size : Int) > 4000
    · refine ⟨([], false), by simp, Ev.congr (f := fun _ => some ([], false)) (fun k => ?_) (Ev.now _), Ev.congr (f := fun _ => some ([], false)) (fun k => ?_) (Ev.now _)⟩
      · unfold spec_SplitString.f; rw [if_pos (by omega), if_pos h4]
      · unfold impl_SplitString.f; rw [if_pos h4]
    · obtain ⟨r, hr, a, b⟩ := split_round s sep hs h1 s.size 0 0 [] (by omega) (by omega) (by omega) (by simp)
      refine ⟨(r, true), by simp; omega, ?_, ?_⟩
      · refine Ev.congr (f := fun k => (spec_l1Split.f k s (bt sep 0)).bind fun t113 => (some (t113, true))) (fun k => ?_) (Ev.bind (a := r) (Ev.congr (fun k => by unfold spec_l1Split.f; rfl) a) (Ev.now _))
        unfold spec_SplitString.f; rw [if_pos (by omega), if_neg h4, if_pos (by omega)]
      · refine Ev.congr (f := fun k => (impl_splitAt.f k s sep).bind fun t128 => (some (t128, true))) (fun k => ?_) (Ev.bind (a := r) (Ev.congr (fun k => by unfold impl_splitAt.f; rfl) b) (Ev.now _))
        unfold impl_SplitString.f; rw [if_neg h4, if_pos (by omega)]
  · refine ⟨([], false), by simp, Ev.congr (f := fun _ => some ([], false)) (fun k => ?_) (Ev.now _), Ev.congr (f := fun _ => some ([], false)) (fun k => ?_) (Ev.now _)⟩
    · unfold spec_SplitString.f; rw [if_neg (by omega)]
    · unfold impl_SplitString.f
      by_cases h4 : (s.size : Int) > 4000
      · rw [if_pos h4]
      · rw [if_neg h4, if_neg (by omega)]
end Go.Proofs.Ytbahojdgcipahaa.L
