/- The plain words for FnExactCountFamilies: lists, what the printed functions come to. Conditions: as each lemma says. -/
import Derived.Test.YtlojkjkbocfmfaaPx0
import Derived.Test.YtlojkjkbocfmfaaPx10
import Derived.Test.YtlojkjkbocfmfaaPx24
import Derived.Test.YtlojkjkbocfmfaaPx26
import Derived.Test.YtlojkjkbocfmfaaPx27
import Derived.Test.YtlojkjkbocfmfaaWMore
import Derived.Test.YtlojkjkbocfmfaaWWords
namespace Go.Proofs.Ytlojkjkbocfmfaa.L
open Go.RowKit Go.Proofs.Ytlojkjkbocfmfaa.P Go.Proofs.YtlojkjkbocfmfaaW.PrintWords Go.Proofs.YtlojkjkbocfmfaaW.PrintMore
set_option linter.unusedVariables false
set_option linter.unusedSimpArgs false

theorem Ev.succ {α : Type} {g : Nat → Option α} {r : α} (h : Ev (fun k => g (k + 1)) r) : Ev g r := Ev.step (fun _ => rfl) h
theorem Ev.done {α : Type} {o : Option α} {r : α} (h : o = some r) : Ev (fun _ => o) r := ⟨0, fun _ _ => h⟩
theorem Ev.pin {α : Type} {g : Nat → Option α} {r s : α} (h : Ev g r) (e : r = s) : Ev g s := e ▸ h

theorem wr {i : Int} (h0 : -9223372036854775808 ≤ i) (h1 : i ≤ 9223372036854775807) : wrap64 i = i := by unfold wrap64; omega

theorem wf_bounds {a : Int} (h : (Lit.int .i64 a).wf = true) : -9223372036854775808 ≤ a ∧ a ≤ 9223372036854775807 := by
  simp [Lit.wf, IntKind.min, IntKind.max, IntKind.bits, IntKind.signed] at h
  omega
theorem nn1 (m : Nat) : ((1 : Int) + (m : Int) < 0) = False := by simp; omega
theorem nn2 (m n : Nat) : ((1 : Int) + (m : Int) + (n : Int) < 0) = False := by simp; omega
theorem nn3 (m n p : Nat) : ((1 : Int) + (m : Int) + (n : Int) + (p : Int) < 0) = False := by simp; omega
theorem nn4 (m n p q : Nat) : ((1 : Int) + (m : Int) + (n : Int) + (p : Int) + (q : Int) < 0) = False := by simp; omega
theorem rd_nat (l : List Int) (i : Nat) : rd l (i : Int) = l.getD i 0 := by unfold rd; simp
theorem rd_app (pre : List Int) (x : Int) (rest : List Int) : rd (pre ++ x :: rest) (pre.length : Int) = x := by
  rw [rd_nat, List.getD_eq_getElem?_getD, List.getElem?_append_right (Nat.le_refl _)]; simp
theorem rd_last (l : List Int) (h : l ≠ []) : rd l ((l.length : Int) - 1) = l.getLast h := by
  have hp : 0 < l.length := by cases l with | nil => exact absurd rfl h | cons _ _ => simp
  rw [show ((l.length : Int) - 1) = ((l.length - 1 : Nat) : Int) from by omega, rd_nat, List.getLast_eq_getElem, List.getD_eq_getElem?_getD, List.getElem?_eq_getElem (by omega)]
  rfl

/-- A list split at a place. -/
theorem split_at (l : List Int) (i : Nat) (h : i < l.length) : ∃ pre x rest, l = pre ++ x :: rest ∧ pre.length = i := by
  refine ⟨l.take i, l[i], l.drop (i + 1), ?_, by simp; omega⟩
  rw [List.getElem_cons_drop, List.take_append_drop]

/-- The marks that 'markIntS' lays. -/
def marks (n : Int) (m : Nat) : List Int := (List.range m).map (fun (j : Nat) => n + (j : Int))
theorem marks_len (n : Int) (m : Nat) : (marks n m).length = m := by simp [marks]
theorem marks_succ (n : Int) (m : Nat) : marks n (m + 1) = marks n m ++ [n + (m : Int)] := by simp [marks, List.range_succ]
theorem marks_get (n : Int) (m i : Nat) (h : i < m) : (marks n m).getD i 0 = n + (i : Int) := by
  simp [marks, List.getD_eq_getElem?_getD, h]

def isL (x : Int) : Bool := decide (x ≠ 0 ∧ -6 ≤ x ∧ x ≤ 6)
def isW (l : List Int) : Bool := decide (l.length ≤ 64) && l.all isL
theorem isW_len {l : List Int} (h : isW l = true) : l.length ≤ 64 := by unfold isW at h; simp at h; exact h.1
theorem isW_mem {l : List Int} (h : isW l = true) : ∀ x ∈ l, x ≠ 0 ∧ -6 ≤ x ∧ x ≤ 6 := by
  unfold isW at h; simp [isL] at h; exact fun x hx => h.2 x hx
theorem isL_iff (x : Int) : isL x = true ↔ x ≠ 0 ∧ -6 ≤ x ∧ x ≤ 6 := by simp [isL]

/-- Numbers far from the ends of an int. -/
def Mild (l : List Int) : Prop := ∀ x ∈ l, -4611686018427387904 ≤ x ∧ x ≤ 4611686018427387904
theorem Mild.ofW {l : List Int} (h : isW l = true) : Mild l := fun x hx => by have := isW_mem h x hx; omega
theorem Mild.nil : Mild [] := fun x hx => by simp at hx
theorem Mild.append {a b : List Int} (ha : Mild a) (hb : Mild b) : Mild (a ++ b) := fun x hx => by
  rcases List.mem_append.1 hx with h | h
  · exact ha x h
  · exact hb x h
theorem Mild.sub {a b : List Int} (ha : Mild a) (h : ∀ x ∈ b, x ∈ a) : Mild b := fun x hx => ha x (h x hx)
theorem Mild.at {l : List Int} (h : Mild l) {pre : List Int} {x : Int} {rest : List Int} (e : l = pre ++ x :: rest) : -4611686018427387904 ≤ x ∧ x ≤ 4611686018427387904 := h x (by rw [e]; simp)

/-- One letter behind a reduced list. -/
def red1 (acc : List Int) (x : Int) : List Int := if acc.getLast? = some (-x) then acc.dropLast else acc ++ [x]
/-- What letters are reduced to. -/
def redF (acc l : List Int) : List Int := l.foldl red1 acc
def red (l : List Int) : List Int := redF [] l
theorem red1_mem {acc : List Int} {x y : Int} (h : y ∈ red1 acc x) : y ∈ acc ∨ y = x := by
  unfold red1 at h
  split at h
  · exact .inl (List.dropLast_subset _ h)
  · simpa using h
theorem redF_mem {l acc : List Int} {y : Int} (h : y ∈ redF acc l) : y ∈ acc ∨ y ∈ l := by
  induction l generalizing acc with
  | nil => exact .inl h
  | cons x l ih =>
    rcases ih (acc := red1 acc x) h with h | h
    · rcases red1_mem h with h | h
      · exact .inl h
      · exact .inr (by simp [h])
    · exact .inr (by simp [h])
theorem red_mem {l : List Int} {y : Int} (h : y ∈ red l) : y ∈ l := by
  rcases redF_mem h with h | h
  · simp at h
  · exact h
theorem red1_len (acc : List Int) (x : Int) : (red1 acc x).length ≤ acc.length + 1 := by
  unfold red1; split <;> simp; omega
theorem redF_len (l acc : List Int) : (redF acc l).length ≤ acc.length + l.length := by
  induction l generalizing acc with
  | nil => simp [redF]
  | cons x l ih =>
    have h1 := ih (red1 acc x); have h2 := red1_len acc x
    simp only [redF, List.foldl_cons, List.length_cons] at h1 ⊢
    omega
theorem red_len (l : List Int) : (red l).length ≤ l.length := by have := redF_len l []; simpa [red] using this
theorem Mild.red {l : List Int} (h : Mild l) : Mild (red l) := h.sub fun _ hx => red_mem hx

/-- Is a list reduced? -/
def isRed : List Int → Bool
  | [] => true
  | [_] => true
  | x :: y :: l => !(y == -x) && isRed (y :: l)

/-- The inverse of a list of letters. -/
def inv (l : List Int) : List Int := l.reverse.map fun x => -x
theorem inv_len (l : List Int) : (inv l).length = l.length := by simp [inv]
theorem inv_mem {l : List Int} {y : Int} (h : y ∈ inv l) : -y ∈ l := by
  simp [inv] at h
  obtain ⟨a, ha, rfl⟩ := h
  simpa using ha
theorem Mild.inv {l : List Int} (h : Mild l) : Mild (inv l) := fun y hy => by have := h _ (inv_mem hy); omega
theorem inv_snoc (l : List Int) (x : Int) : inv (l ++ [x]) = -x :: inv l := by simp [inv]
theorem inv_cons (l : List Int) (x : Int) : inv (x :: l) = inv l ++ [-x] := by simp [inv]
theorem inv_append (a b : List Int) : inv (a ++ b) = inv b ++ inv a := by simp [inv]
theorem inv_inv (l : List Int) : inv (inv l) = l := by
  induction l with
  | nil => rfl
  | cons x l ih => rw [inv_cons, inv_snoc, ih, Int.neg_neg]

theorem cf_and_one (a : Nat) (ha : a < 9223372036854775808) : Go.bits .and .i64 (a : Int) 1 = ((a % 2 : Nat) : Int) := by
  have h1 : (BitVec.ofInt 64 (a : Int)).toNat = a := by
    rw [BitVec.ofInt_natCast, BitVec.toNat_ofNat]; exact Nat.mod_eq_of_lt (by omega)
  show IntKind.i64.wrap ((BitVec.ofInt 64 (a : Int) &&& BitVec.ofInt 64 1).toNat : Int) = _
  rw [BitVec.toNat_and, h1, show (BitVec.ofInt 64 1).toNat = 1 from rfl, Nat.and_one_is_mod]
  rw [Go.IntKind.wrap_i64]; omega
theorem cf_bit (t s : Nat) (ht : t < 65536) (hs : s < 16) : Go.bits .and .i64 (shr .i64 (t : Int) (s : Int)) 1 = if t.testBit s = true then 1 else 0 := by
  have e : shr .i64 (t : Int) (s : Int) = ((t / 2 ^ s : Nat) : Int) := by
    unfold shr
    rw [show min (s : Int).toNat IntKind.i64.bits = s from by rw [Int.toNat_natCast]; exact Nat.min_eq_left (by show s ≤ 64; omega)]
    simp
  have hlt : t / 2 ^ s < 9223372036854775808 := Nat.lt_of_le_of_lt (Nat.div_le_self _ _) (by omega)
  rw [e, cf_and_one _ hlt, Nat.testBit_eq_decide_div_mod_eq]
  by_cases h : t / 2 ^ s % 2 = 1
  · simp [h]
  · have : t / 2 ^ s % 2 = 0 := by omega
    simp [this]
def cfr1 (t s : Nat) : Nat → Nat → Bool
  | _, 0 => true
  | i, d + 1 => t.testBit (s ||| 2 ^ i) && cfr1 t s (i + 1) d
def cfr0 (t n : Nat) : Nat → Nat → Bool
  | _, 0 => true
  | s, d + 1 => (!(t.testBit s) || cfr1 t s 0 n) && cfr0 t n (s + 1) d
def cfRise (t n : Nat) : Bool := cfr0 t n 0 (2 ^ n)
theorem cf_or : ∀ (s : Fin 16) (i : Fin 4), Go.bits .or .i64 (s.val : Int) (shl .i64 1 (i.val : Int)) = ((s.val ||| 2 ^ i.val : Nat) : Int) ∧ s.val ||| 2 ^ i.val < 16 := by decide +kernel
theorem cf_shl : ∀ (i : Fin 5), shl .i64 1 (i.val : Int) = ((2 ^ i.val : Nat) : Int) := by decide +kernel
theorem cf_two : ∀ n : Fin 5, 2 ^ n.val ≤ 16 := by decide
theorem cfs1 (t n s : Nat) (ht : t < 65536) (hn : n ≤ 4) (hs : s < 16) (R : Bool) (h0 : Ev (fun k => spec_l5Rises.l0 k (t : Int) (n : Int) ((s + 1 : Nat) : Int)) R) :
    ∀ (d i : Nat), i + d = n → Ev (fun k => spec_l5Rises.l1 k (t : Int) (n : Int) (s : Int) (i : Int)) ((!(t.testBit s) || cfr1 t s i d) && R)
  | 0, i, hi => by
    refine Ev.step (fun k => by rw [spec_l5Rises.l1, if_neg (by omega)]) ?_
    have e : wrap64 ((s : Int) + 1) = ((s + 1 : Nat) : Int) := by unfold wrap64; omega
    rw [e]
    simpa [cfr1] using h0
  | d + 1, i, hi => by
    have ih := cfs1 t n s ht hn hs R h0 d (i + 1) (by omega)
    have e : wrap64 ((i : Int) + 1) = ((i + 1 : Nat) : Int) := by unfold wrap64; omega
    obtain ⟨ho, ho2⟩ := cf_or ⟨s, hs⟩ ⟨i, by omega⟩
    refine Ev.step (fun k => by rw [spec_l5Rises.l1, if_pos (by omega), if_pos (by omega), cf_bit t s ht hs, ho, cf_bit t _ ht ho2, e]) ?_
    cases hb : t.testBit s with
    | false => simpa [hb] using ih
    | true =>
      rw [hb] at ih
      cases hc : t.testBit (s ||| 2 ^ i) with
      | false =>
        have hz : (0 : Int) ≤ ((s ||| 2 ^ i : Nat) : Int) := Int.natCast_nonneg _
        have hz1 : (0 : Int) ≤ (i : Int) := Int.natCast_nonneg _
        simp only [cfr1, hc, if_true, hz, hz1, Bool.not_true, Bool.false_or, Bool.false_and, Bool.false_eq_true, if_false]
        exact Ev.now _
      | true =>
        have hz : (0 : Int) ≤ ((s ||| 2 ^ i : Nat) : Int) := Int.natCast_nonneg _
        have hz1 : (0 : Int) ≤ (i : Int) := Int.natCast_nonneg _
        simp only [cfr1, hc, if_true, hz, hz1, Bool.not_true, Bool.false_or, Bool.true_and, show ((1 : Int) = 0) = False from by simp, if_false]
        simpa using ih
theorem cfs0 (t n : Nat) (ht : t < 65536) (hn : n ≤ 4) : ∀ (d s : Nat), s + d = 2 ^ n → Ev (fun k => spec_l5Rises.l0 k (t : Int) (n : Int) (s : Int)) (cfr0 t n s d)
  | 0, s, hs => by
    have hp := cf_shl ⟨n, by omega⟩
    simp only at hp
    rw [Nat.add_zero] at hs
    refine Ev.step (f := fun _ => some (cfr0 t n s 0)) (fun k => by rw [spec_l5Rises.l0, if_pos (by omega), hp, hs, if_neg (Int.lt_irrefl _)]; rfl) (Ev.now _)
  | d + 1, s, hs => by
    have hp := cf_shl ⟨n, by omega⟩
    have hb := cf_two ⟨n, by omega⟩
    simp only at hb hp
    have ih := cfs0 t n ht hn d (s + 1) (by omega)
    have h1 := cfs1 t n s ht hn (by omega) _ ih n 0 (by omega)
    refine Ev.step (fun k => by rw [spec_l5Rises.l0, if_pos (by omega), hp, if_pos (by omega)]) ?_
    exact h1
theorem cfs_rises (t n : Nat) (ht : t < 65536) (hn : n ≤ 4) : Ev (fun k => spec_l5Rises.f k (t : Int) (n : Int)) (cfRise t n) := cfs0 t n ht hn (2 ^ n) 0 (by omega)
def cfCnt (n : Nat) : Nat → Nat → Nat
  | 0, a => if cfRise a n = true then 1 else 0
  | d + 1, a => cfCnt n d a + cfCnt n d (a + 2 ^ d)
theorem cf_shl2 : ∀ (i : Fin 5), shl .i64 1 (shl .u64 1 (i.val : Int)) = ((2 ^ 2 ^ i.val : Nat) : Int) ∧ 2 ^ 2 ^ i.val ≤ 65536 := by decide +kernel
theorem cfsc (n : Nat) (hn : n ≤ 4) (r : Int × Bool) : ∀ (d a : Nat) (m : Int), a + 2 ^ d ≤ 2 ^ 2 ^ n → 0 ≤ m ∧ m ≤ a → (cfCnt n d a ≤ 2 ^ d) ∧ (Ev (fun k => spec_CountFamilies.l0 k (n : Int) (m + (cfCnt n d a : Int)) ((a + 2 ^ d : Nat) : Int)) r → Ev (fun k => spec_CountFamilies.l0 k (n : Int) m (a : Int)) r)
  | 0, a, m, ha, hm => by
    obtain ⟨hp, hp2⟩ := cf_shl2 ⟨n, by omega⟩
    simp only at hp hp2
    have hr := cfs_rises a n (by omega) hn
    refine ⟨by unfold cfCnt; split <;> omega, fun h => ?_⟩
    have e : wrap64 ((a : Int) + 1) = ((a + 1 : Nat) : Int) := by unfold wrap64; omega
    have e2 : wrap64 (m + 1) = m + 1 := by unfold wrap64; omega
    refine Ev.step (fun k => by rw [spec_CountFamilies.l0, if_pos (by omega), hp, if_pos (by omega), e, e2]) (Ev.bind hr ?_)
    unfold cfCnt at h
    cases hb : cfRise a n with
    | true => rw [hb] at h; simpa using h
    | false => rw [hb] at h; simpa using h
  | d + 1, a, m, ha, hm => by
    have hd : 2 ^ (d + 1) = 2 ^ d + 2 ^ d := by omega
    have hf : 0 < 2 ^ d := Nat.two_pow_pos d
    have h1 := cfsc n hn r d a m (by omega) hm
    have h1a := h1.1
    have h2 := cfsc n hn r d (a + 2 ^ d) (m + (cfCnt n d a : Int)) (by omega) (by omega)
    have h2a := h2.1
    refine ⟨by unfold cfCnt; omega, fun h => h1.2 (h2.2 ?_)⟩
    unfold cfCnt at h
    rw [show m + (cfCnt n d a : Int) + (cfCnt n d (a + 2 ^ d) : Int) = m + ((cfCnt n d a + cfCnt n d (a + 2 ^ d) : Nat) : Int) from by omega, show a + 2 ^ d + 2 ^ d = a + 2 ^ (d + 1) from by omega]
    exact h
theorem cfs_count (n : Nat) (hn : n ≤ 4) : Ev (fun k => spec_CountFamilies.l0 k (n : Int) 0 0) ((cfCnt n (2 ^ n) 0 : Int), true) := by
  obtain ⟨hp, hp2⟩ := cf_shl2 ⟨n, by omega⟩
  have h := (cfsc n hn ((cfCnt n (2 ^ n) 0 : Int), true) (2 ^ n) 0 0 (by omega) (by omega)).2
  refine h (Ev.step (fun k => by rw [spec_CountFamilies.l0, if_pos (by omega), hp, if_neg (by simp)]) ?_)
  rw [Int.zero_add]
  exact Ev.now _
def cfV (n : Nat) : Nat := match n with | 0 => 2 | 1 => 3 | 2 => 6 | 3 => 20 | _ => 168
theorem cfCnt_is : ∀ n : Fin 5, cfCnt n.val (2 ^ n.val) 0 = cfV n.val := by decide +kernel
theorem cf_spec (n : Nat) (hn : n ≤ 4) : Ev (fun k => spec_CountFamilies.f k (n : Int)) ((cfV n : Int), true) := by
  have h := cfs_count n hn
  rw [cfCnt_is ⟨n, by omega⟩] at h
  refine Ev.congr (fun k => ?_) h
  unfold spec_CountFamilies.f spec_l1In.f
  rw [if_pos (by omega), Option.bind_some, if_pos (by simp; omega)]
theorem cf_count : ∀ n : Fin 5, impl_antichains.f 80 (n.val : Int) 0 [] = some ((cfV n.val : Nat) : Int) := by decide +kernel
theorem cf_impl (n : Nat) (hn : n ≤ 4) : Ev (fun k => impl_CountFamilies.f k (n : Int)) ((cfV n : Int), true) := by
  have h : Ev (fun k => impl_antichains.f k (n : Int) 0 []) (cfV n : Int) := Ev.of (impl_antichains.mono _ _ _) (cf_count ⟨n, by omega⟩)
  refine Ev.congr (fun k => ?_) (Ev.bind (f := fun _ t => some (t, true)) h (Ev.now _))
  unfold impl_CountFamilies.f
  rw [if_neg (by omega), if_neg (by omega)]
end Go.Proofs.Ytlojkjkbocfmfaa.L
