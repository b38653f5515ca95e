/- Each call of a Go function named below comes to exactly the answers of the Lean function of its name, and a law row follows from its plain statement. No condition beyond those that each theorem states. -/
import Derived.Test.YtheicbcedhfahaaPx0
import Derived.Test.YtheicbcedhfahaaPx40
import Derived.Deep.RegionLaw
import Derived.Laws.CopyOwn
import Derived.Laws.OwnMore
namespace Go.Proofs.Ytheicbcedhfahaa.P
open Go.RowKit Go.Proofs.YtheicbcedhfahaaW.PrintWords Go.Proofs.YtheicbcedhfahaaW.PrintLast Go.Proofs.YtheicbcedhfahaaW.PrintMore
attribute [local go_sem] max2_int min2_int max_two min_two max_three min_three max_four min_four   -- for this text's walks alone
set_option linter.unusedVariables false
set_option linter.unusedSimpArgs false

/-! ### slices_Repeat_int_int: function 89 -/
--@IMPORT Derived.Deep.RegionLaw
--@IMPORT Derived.Laws.CopyOwn
--@IMPORT Derived.Laws.OwnMore
def slices_Repeat_int_int.f (l0 : List Int) (a1 : Int) : Option (List Int) := if 0 ≤ a1 ∧ a1 ≤ 8 ∧ l0.length ≤ 64 then some (List.replicate a1.toNat l0).flatten else none
theorem slices_Repeat_int_int.mul : ∀ (a : Fin 65) (b : Fin 9), bits_Mul.f (a.val : Int) (b.val : Int) = some (0, ((a.val * b.val : Nat) : Int)) := by decide +kernel
theorem slices_Repeat_int_int.len (l : List Int) : ∀ n : Nat, (List.replicate n l).flatten.length = l.length * n
  | 0 => by simp
  | n + 1 => by rw [List.replicate_succ, List.flatten_cons, List.length_append, slices_Repeat_int_int.len l n, Nat.mul_succ]; omega
theorem slices_Repeat_int_int.drop (l : List Int) : ∀ (i n : Nat), i ≤ n → (List.replicate n l).flatten.drop (l.length * i) = (List.replicate (n - i) l).flatten
  | 0, n, _ => by simp
  | i + 1, 0, h => by omega
  | i + 1, n + 1, h => by
    rw [List.replicate_succ, List.flatten_cons, show l.length * (i + 1) = l.length + l.length * i from by rw [Nat.mul_succ]; omega, List.drop_append, Nat.add_sub_cancel_left, List.drop_of_length_le (by omega), List.nil_append, slices_Repeat_int_int.drop l i n (by omega), show n + 1 - (i + 1) = n - i from by omega]
theorem slices_Repeat_int_int.pre (l : List Int) (k n j : Nat) (h : k ≤ n) (hj : j ≤ l.length * k) : (List.replicate k l).flatten.take j = (List.replicate n l).flatten.take j := by
  have : List.replicate n l = List.replicate k l ++ List.replicate (n - k) l := by rw [List.replicate_append_replicate]; congr 1; omega
  rw [this, List.flatten_append, List.take_append_of_le_length (by rw [slices_Repeat_int_int.len]; exact hj)]
/-- What the row holds when c of m elements are written. -/
def slices_Repeat_int_int.S (t : List Int) (m c : Nat) : List Value := (t.take c ++ List.replicate (m - c) (0 : Int)).map (Value.int .i64)
theorem slices_Repeat_int_int.S_len (t : List Int) (m c : Nat) (ht : t.length = m) (hc : c ≤ m) : (slices_Repeat_int_int.S t m c).length = m := by unfold slices_Repeat_int_int.S; simp; omega
theorem slices_Repeat_int_int.S_get {t : List Int} {m c d j : Nat} {v : Value} (hc : c ≤ t.length) (hd : d ≤ c) (hj : ((t.take d).map (Value.int .i64))[j]? = some v) : (slices_Repeat_int_int.S t m c).toArray[j]? = some v := by
  have hjd : j < d := by
    have h_ := (List.getElem?_eq_some_iff.1 hj).1
    rw [List.length_map, List.length_take] at h_
    omega
  have e1 : (t.take c)[j]? = t[j]? := by rw [List.getElem?_take, if_pos (by omega)]
  have e2 : (t.take d)[j]? = t[j]? := by rw [List.getElem?_take, if_pos hjd]
  rw [List.getElem?_map, e2] at hj
  rw [List.getElem?_toArray]
  unfold slices_Repeat_int_int.S
  rw [List.getElem?_map, List.getElem?_append_left (by rw [List.length_take]; omega), e1]
  exact hj
theorem slices_Repeat_int_int.S_step (l : List Int) (n i d : Nat) (hc : l.length * i ≤ l.length * n) (hi : i ≤ n) (hd : d ≤ l.length * i) (hd2 : l.length * i + d ≤ l.length * n) :
    splice (slices_Repeat_int_int.S (List.replicate n l).flatten (l.length * n) (l.length * i)) (l.length * i) (((List.replicate n l).flatten.take d).map (Value.int .i64)) = slices_Repeat_int_int.S (List.replicate n l).flatten (l.length * n) (l.length * i + d) := by
  have hl := slices_Repeat_int_int.len l n
  have h1 : (List.replicate n l).flatten.take (l.length * i + d) = (List.replicate n l).flatten.take (l.length * i) ++ (List.replicate n l).flatten.take d := by
    rw [List.take_add, slices_Repeat_int_int.drop l i n hi]
    congr 1
    by_cases h0 : l.length = 0
    · have : d = 0 := by rw [h0] at hd; omega
      subst this; simp
    · have hki : d ≤ l.length * (n - i) := by rw [Nat.mul_sub]; omega
      exact slices_Repeat_int_int.pre l (n - i) n d (by omega) hki
  unfold splice slices_Repeat_int_int.S
  rw [h1]
  have ht : ((List.replicate n l).flatten.take (l.length * i)).length = l.length * i := by rw [List.length_take, hl]; exact Nat.min_eq_left hc
  have htd : ((List.replicate n l).flatten.take d).length = d := by rw [List.length_take, hl]; exact Nat.min_eq_left (by omega)
  simp only [List.map_append]
  have htm : (((List.replicate n l).flatten.take (l.length * i)).map (Value.int .i64)).length = l.length * i := by rw [List.length_map]; exact ht
  rw [List.take_append_of_le_length (Nat.le_of_eq htm.symm), List.take_of_length_le (Nat.le_of_eq htm), List.append_assoc]
  congr 2
  rw [List.drop_append, htm, List.drop_of_length_le (by rw [htm]; omega), List.nil_append, ← List.map_drop, List.drop_replicate, List.length_map, htd]
  congr 2
  omega
theorem slices_Repeat_int_int.R_own {W : World} {base e g m : Nat} {xs : List Int} (hg : base ≤ g) (hh : W.heap[g]? = some (.cells (xs.map (Value.int .i64)).toArray e (0, 0))) (hm : xs.length = m) (hm2 : m ≤ 100000) : (Kd.int .i64).R e W base (fun _ => True) (.slice (some ⟨g, 0, none⟩) m m) xs := by
  have hown : W.ownsRow base e 1 (.slice (some ⟨g, 0, none⟩) xs.length m) xs.length (encs (Value.int .i64) xs) := by
    refine ⟨by simp [encs], .inr ⟨g, m, (xs.map (Value.int .i64)).toArray, rfl, hg, hh, by omega, by unfold maxLen; omega, by simp [hm], ?_⟩⟩
    subst hm
    simp only [encs]
    rw [List.take_of_length_le (by simp)]
  have := Kd.R_of_own (h1 := fun _ => rfl) (ok := fun _ => True) hown (fun _ _ => trivial)
  rwa [hm] at this
theorem slices_Repeat_int_int.copy_run {P : Program} {w : World} (dT sT ty elem : TypeId) (hu : P.underlying dT = some (.slice elem)) (hsz : (P.info? elem).map (·.size) = some 1)
    (dp sp : Option Addr) (dLen dCap sLen sCap : Nat) (g off : Nat) (cur : List Value) (t : TypeId) (hg : w.heap[g]? = some (.cells cur.toArray t (0, 0))) (cs : List Value) (hn : cs.length = Nat.min sLen dLen)
    (hpos : 0 < cs.length → dp = some ⟨g, off, none⟩ ∧ ∃ ad, sp = some ad ∧ ∀ j v, cs[j]? = some v → w.cell? (ad.add j) = some v)
    (hfit : off + cs.length ≤ cur.length) (h1 : ∀ v ∈ cs, v.oneCell' = true) (B : Nat) (w0 : World) (hb : Below B w0 w) (hBg : B ≤ g) :
    ∃ w', (Builtin.copy_ #[dT, sT] ty #[.slice dp dLen dCap, .slice sp sLen sCap]).run P w = .ok (goInt cs.length) w' ∧ w'.heap[g]? = some (.cells (splice cur off cs).toArray t (0, 0)) ∧ Below B w0 w' := by
  by_cases h0 : cs.length = 0
  · obtain rfl : cs = [] := List.eq_nil_of_length_eq_zero h0
    exact ⟨w, run_copy_none (P := P) w dT sT ty elem dp sp dLen dCap sLen sCap hu hsz (by simpa using hn.symm), by simpa [splice] using hg, hb⟩
  · obtain ⟨rfl, ad, rfl, hsrc⟩ := hpos (by omega)
    exact ⟨_, run_copy_row (P := P) w dT sT ty elem g off dLen dCap ad sLen sCap cur.toArray t cs hu hsz hg hn hsrc (by simpa using hfit) h1, by simpa [splice] using setRow_heap w g _ _ t _ hg, below_setRow hb hBg _⟩
set_option maxHeartbeats 8000000 in
set_option maxRecDepth 100000 in
theorem slices_Repeat_int_int.calls (A0 : Option Addr) (c0 : Nat) (l0 : List Int) (a1 : Int) (r : List Int) (w : World) (hr0 : Kd.C (Kd.int .i64) w A0 l0.length l0) (hc0 : l0.length ≤ c0) (h : slices_Repeat_int_int.f l0 a1 = some r) :
    Calls Try.prog 89 #[.slice A0 l0.length c0, .int .i64 a1] w fun e w' => ∃ v0_ : Value, e = .returned (v0_) ∧ Kd.R (Kd.int .i64) 3 w' w.heap.size (fun _ => True) v0_ r ∧ Below w.heap.size w w' := by
  unfold slices_Repeat_int_int.f at h
  by_cases hb : 0 ≤ a1 ∧ a1 ≤ 8 ∧ l0.length ≤ 64
  · rw [if_pos hb] at h
    obtain ⟨n, rfl⟩ : ∃ n : Nat, a1 = (n : Int) := ⟨a1.toNat, by omega⟩
    have hn8 : n ≤ 8 := by omega
    have hl64 : l0.length ≤ 64 := hb.2.2
    obtain ⟨t, ht⟩ : ∃ t, t = (List.replicate n l0).flatten := ⟨_, rfl⟩
    have htl : t.length = l0.length * n := by rw [ht]; exact slices_Repeat_int_int.len l0 n
    obtain ⟨m, hm⟩ : ∃ m, m = l0.length * n := ⟨_, rfl⟩
    have hm512 : m ≤ 512 := by rw [hm]; exact Nat.le_trans (Nat.mul_le_mul hl64 hn8) (by omega)
    have HR := Aside0.mk (show t = r by rw [ht]; simpa using h)
    have hmul := slices_Repeat_int_int.mul ⟨l0.length, by omega⟩ ⟨n, by omega⟩
    simp only at hmul
    rw [← hm] at hmul
    have HM := Aside0.mk (fun W => bits_Mul.calls (l0.length : Int) (n : Int) 0 (m : Int) W hmul)
    have HC := Aside0.mk hr0
    have HT := Aside0.mk ht
    have HTL := Aside0.mk htl
    have HMM := Aside0.mk hm
    have hw1 : IntKind.u64.wrap (l0.length : Int) = (l0.length : Int) := by unfold IntKind.wrap; simp [IntKind.bits, IntKind.signed]; omega
    have hw2 : IntKind.u64.wrap (n : Int) = (n : Int) := by unfold IntKind.wrap; simp [IntKind.bits, IntKind.signed]; omega
    have hw3 : IntKind.i64.wrap (m : Int) = (m : Int) := by rw [i64_w]; unfold wrap64; omega
    have hmk := print_make_int (P := Try.prog) 22 3 (.int .i64 0) 8 Try.underlying22 (by kernel_rfl) rfl (by omega) (m : Int) (by omega) (by omega)
    have hm0 : ¬ (m : Int) > 9223372036854775807 := by omega
    clear h hb hr0 ht htl hm hmul
    go_enter Try.func89, Try.ntmps89
    go_wp2_with (go_at_call 110; refine (HM.out _).mono ?_; rintro e w' ⟨rfl, ⟨nd, rfl⟩⟩)
    have HD0 := Aside0.mk (show ∃ d0 : Nat, d0 = l0.length * min 1 n ∧ d0 = Nat.min l0.length m from ⟨_, rfl, by rw [HMM.out]; cases n with | zero => simp | succ n => rw [show min 1 (n + 1) = 1 from by omega, Nat.mul_one, Nat.mul_succ]; exact (Nat.min_eq_left (by omega)).symm⟩)
    obtain ⟨d0, HD0', HD1⟩ := HD0.out
    have hd0m : d0 ≤ m := by rw [HD1]; exact Nat.min_le_right _ _
    have hd0l : d0 ≤ l0.length := by rw [HD1]; exact Nat.min_le_left _ _
    have hmade : ∀ nd : Nat, ((w.drewN nd).alloc (.cells (madeCells #[Value.int .i64 0] m) 3)).heap[w.heap.size]? = some (.cells ((List.replicate m (Value.int .i64 0)).toArray) 3 (0, 0)) := fun nd => by
      have e1 : madeCells #[Value.int .i64 0] m = (List.replicate m (Value.int .i64 0)).toArray := by rw [← toList_madeCells_one]
      rw [e1]
      simp [World.alloc, World.drewN]
    have hcp : ∀ nd : Nat, ∃ w', (Builtin.copy_ #[22, 22] 3 #[.slice (some ⟨w.heap.size, 0, none⟩) m m, .slice A0 l0.length c0]).run Try.prog ((w.drewN nd).alloc (.cells (madeCells #[Value.int .i64 0] m) 3)) = .ok (goInt ((t.take d0).map (Value.int .i64)).length) w' ∧
        w'.heap[w.heap.size]? = some (.cells (splice (List.replicate m (Value.int .i64 0)) 0 ((t.take d0).map (Value.int .i64))).toArray 3 (0, 0)) ∧ Below w.heap.size w w' := fun nd => by
      have hBB : Below w.heap.size w ((w.drewN nd).alloc (.cells (madeCells #[Value.int .i64 0] m) 3)) := (Below.refl _ _).trans ⟨rfl, rfl, rfl, by simp [World.alloc, World.drewN], fun k hk => by simp [World.alloc, World.drewN, Array.getElem?_push]; omega⟩
      refine slices_Repeat_int_int.copy_run 22 22 3 3 Try.underlying22 rfl _ _ m m l0.length c0 w.heap.size 0 (List.replicate m (Value.int .i64 0)) 3 (hmade _) ((t.take d0).map (Value.int .i64)) ?_ ?_ ?_ ?_ w.heap.size w hBB (Nat.le_refl _)
      · rw [List.length_map, List.length_take, HTL.out, ← HMM.out, HD1]
        exact Nat.min_eq_left (Nat.min_le_right _ _)
      · intro hp
        have hlen : 0 < l0.length := by
          rw [List.length_map, List.length_take] at hp
          omega
        obtain ⟨ad, rfl, h0⟩ := Kd.at_int HC.out 0 (by omega) (by omega)
        refine ⟨rfl, ad, rfl, fun j v hj => ?_⟩
        have hjd : j < d0 := by
          have h_ := (List.getElem?_eq_some_iff.1 hj).1
          rw [List.length_map, List.length_take] at h_
          omega
        obtain ⟨ad', e', h1⟩ := Kd.at_int (Kd.C_below HC.out hBB) (j : Int) (by omega) (by omega)
        obtain rfl := Option.some.inj e'
        rw [Int.toNat_natCast] at h1
        rw [h1]
        rw [List.getElem?_map, List.getElem?_take, if_pos hjd, HT.out] at hj
        obtain ⟨n', rfl⟩ : ∃ n', n = n' + 1 := ⟨n - 1, by
          have hn0 : n ≠ 0 := fun e => by
            have h0 : d0 = 0 := by rw [HD0', e]; simp
            omega
          omega⟩
        rw [List.replicate_succ, List.flatten_cons, List.getElem?_append_left (by omega)] at hj
        rw [List.getElem?_eq_getElem (show j < l0.length by omega)] at hj
        unfold rd
        rw [Int.toNat_natCast, List.getD_eq_getElem?_getD, List.getElem?_eq_getElem (show j < l0.length by omega)]
        exact hj
      · simp only [List.length_map, List.length_take, List.length_replicate]; omega
      · intro v hv
        obtain ⟨x, -, rfl⟩ := List.mem_map.1 hv
        rfl
    obtain ⟨w1, hc1, hc2, hc3⟩ := hcp nd
    rw [hc1]
    have hlen0 : ((t.take d0).map (Value.int .i64)).length = d0 := by rw [List.length_map, List.length_take, HTL.out, ← HMM.out]; exact Nat.min_eq_left hd0m
    rw [hlen0]
    have hS0 : splice (List.replicate m (Value.int .i64 0)) 0 ((t.take d0).map (Value.int .i64)) = slices_Repeat_int_int.S t m d0 := by
      unfold splice slices_Repeat_int_int.S
      rw [List.take_zero, List.nil_append, hlen0, Nat.zero_add, List.drop_replicate, List.map_append, List.map_replicate]
    rw [hS0] at hc2
    have H2 := Aside0.mk hc2
    have H3 := Aside0.mk hc3
    have HI : Aside0 (d0 = l0.length * min 1 n ∧ min 1 n ≤ n) := ⟨HD0', by omega⟩
    have HP : 0 < m → 0 < d0 := fun hp => by
      rw [HMM.out] at hp
      rw [HI.out.1]
      have hn0 : n ≠ 0 := fun e => by rw [e, Nat.mul_zero] at hp; exact Nat.lt_irrefl 0 hp
      have hl0 : l0.length ≠ 0 := fun e => by rw [e, Nat.zero_mul] at hp; exact Nat.lt_irrefl 0 hp
      exact Nat.mul_pos (by omega) (by omega)
    clear hcp hc1 hc2 hc3 HD0 HD0' HD1 hmade hlen0 hS0 HM
    go_wp2
    go_loopg [8] m (fun gg s8 wr => ∃ (c i : Nat), c ≤ m ∧ (0 < m → 0 < c) ∧ m - c ≤ gg ∧ s8 = .int .i64 (c : Int) ∧ Aside0 (c = l0.length * i ∧ i ≤ n) ∧ Aside0 (wr.heap[w.heap.size]? = some (.cells (slices_Repeat_int_int.S t m c).toArray 3 (0, 0))) ∧ Aside0 (Below w.heap.size w wr))
    case atStart => exact ⟨d0, min 1 n, hd0m, HP, by omega, rfl, HI, H2, H3⟩
    case round =>
      obtain ⟨c, i, hcm, hc0, hg, rfl, HCI, HH, HB⟩ := hrel
      by_cases hlt : c < m
      · have hltz : (c : Int) < (m : Int) := by omega
        obtain ⟨i03, hi03, -, hsz3, -⟩ := info_parts info3
        have hk1 : ∀ W : World, (Instr.slice 22 (.slice (some ⟨w.heap.size, 0, none⟩) m m) (some (.int .i64 (c : Int))) none none).run Try.prog W = .ok (.slice (some ⟨w.heap.size, c, none⟩) (m - c) (m - c)) W := fun W => by
          have h_ := cut_from (P := Try.prog) 22 3 .i64 Try.underlying22 hi03 1 hsz3 (some ⟨w.heap.size, 0, none⟩) m m (c : Int) (by omega) (by omega) W
          rw [h_, Int.toNat_natCast, if_neg (by omega)]
          have ea : (⟨w.heap.size, 0, none⟩ : Addr).add (c * 1) = ⟨w.heap.size, c, none⟩ := by unfold Addr.add; by_cases h0 : c = 0 <;> simp [h0]
          simp only [Option.map_some, ea]
        have hk2 : ∀ W : World, (Instr.slice 22 (.slice (some ⟨w.heap.size, 0, none⟩) m m) none (some (.int .i64 (c : Int))) none).run Try.prog W = .ok (.slice (some ⟨w.heap.size, 0, none⟩) c m) W := fun W => by
          have h_ := cut_to (P := Try.prog) 22 3 .i64 Try.underlying22 hi03 (some ⟨w.heap.size, 0, none⟩) m m (c : Int) (by omega) (by omega) (Nat.le_refl _) W
          rw [h_, Int.toNat_natCast]
        clear hi03 hsz3
        obtain ⟨d, hd⟩ : ∃ d, d = Nat.min c (m - c) := ⟨_, rfl⟩
        have hdc : d ≤ c := by rw [hd]; exact Nat.min_le_left _ _
        have hdm : d ≤ m - c := by rw [hd]; exact Nat.min_le_right _ _
        have hd0 : 0 < d := by rw [hd]; exact (Nat.lt_min).2 ⟨hc0 (by omega), by omega⟩
        obtain ⟨cs, hcs⟩ : ∃ cs : List Value, cs = (t.take d).map (Value.int .i64) := ⟨_, rfl⟩
        have hcl : cs.length = d := by rw [hcs, List.length_map, List.length_take, HTL.out, ← HMM.out]; exact Nat.min_eq_left (by omega)
        have hdi : ∃ i', c + d = l0.length * i' ∧ i' ≤ n := by
          refine ⟨i + min i (n - i), ?_, by have := HCI.out.2; omega⟩
          rw [hd, Nat.mul_add, ← HCI.out.1]
          congr 1
          show min c (m - c) = _
          rw [HCI.out.1, HMM.out, ← Nat.mul_sub, Nat.mul_min_mul_left]
        have hss : splice (slices_Repeat_int_int.S t m c) c cs = slices_Repeat_int_int.S t m (c + d) := by
          have h_ := slices_Repeat_int_int.S_step l0 n i d (by rw [← HCI.out.1, ← HMM.out]; exact hcm) HCI.out.2 (by rw [← HCI.out.1]; exact hdc) (by rw [← HCI.out.1, ← HMM.out]; omega)
          rw [← HT.out, ← HMM.out, ← HCI.out.1, ← hcs] at h_
          exact h_
        have hfit : c + cs.length ≤ m := by rw [hcl]; omega
        have hwr : wrap64 ((c : Int) + (d : Int)) = ((c + cs.length : Nat) : Int) := by rw [hcl]; unfold wrap64; omega
        have hone : ∀ v ∈ cs, v.oneCell' = true := fun v hv => by
          rw [hcs] at hv
          obtain ⟨x, -, rfl⟩ := List.mem_map.1 hv
          rfl
        have hsl : (slices_Repeat_int_int.S t m c).length = m := slices_Repeat_int_int.S_len t m c (by rw [HTL.out, ← HMM.out]) hcm
        have hgd : wr.drew.heap[w.heap.size]? = some (.cells (slices_Repeat_int_int.S t m c).toArray 3 (0, 0)) := HH.out
        have hsrc : ∀ j v, cs[j]? = some v → wr.drew.cell? ((⟨w.heap.size, 0, none⟩ : Addr).add j) = some v := fun j v hj => by
          have ea : (⟨w.heap.size, 0, none⟩ : Addr).add j = ⟨w.heap.size, j, none⟩ := by unfold Addr.add; by_cases h0 : j = 0 <;> simp [h0]
          have h_ := blk_cell hgd j
          rw [ea, h_]
          exact slices_Repeat_int_int.S_get (by rw [HTL.out, ← HMM.out]; exact hcm) hdc (by rw [← hcs]; exact hj)
        have hbd : Below w.heap.size w wr.drew := HB.out.trans ⟨rfl, rfl, rfl, Nat.le_refl _, fun k hk => rfl⟩
        have C1 := Aside0.mk hss
        have C2 := Aside0.mk hcl
        have C3 := Aside0.mk hone
        have C4 := Aside0.mk hsl
        have C5 := Aside0.mk hgd
        have C6 := Aside0.mk hsrc
        have C7 := Aside0.mk hbd
        have C8 := Aside0.mk hd
        have C9 := Aside0.mk hdi
        have C10 := Aside0.mk hwr
        clear hwr
        clear hss hcs hone hsl hgd hsrc hbd hdi hd
        go_wp2
        refine start_ (n := 10) (S := fun w' => True) (ds := []) #[false, false, false, false, false, false, false, false, false, false] (by kernel_rfl) rfl rfl trivial (fun hHeld => ?_)
        refine pure_ (i := 0) (N := some 38) (v := ?_) (a' := ?_) #[true, false, false, false, false, false, false, false, false, false] rfl rfl (by kernel_rfl) (fun _ _ _ h => h) (Or.inl ⟨by rfl, ?_⟩) ?_ ?_
        rotate_left
        · intro w'
          go_simp
          with_reducible rfl
        rotate_left
        · simp only [Act.put, List.setIfInBounds_toArray, List.set_cons_zero, List.set_cons_succ, i64_w, i32_w]
          rfl
        refine pure_ (i := 1) (N := some 39) (v := ?_) (a' := ?_) #[true, true, false, false, false, false, false, false, false, false] rfl rfl (by kernel_rfl) (fun _ _ _ h => h) (Or.inl ⟨by rfl, ?_⟩) ?_ ?_
        rotate_left
        · intro w'
          go_simp
          with_reducible rfl
        rotate_left
        · simp only [Act.put, List.setIfInBounds_toArray, List.set_cons_zero, List.set_cons_succ, i64_w, i32_w]
          rfl
        refine pure_ (i := 2) (N := some 40) (v := ?_) (a' := ?_) #[true, true, true, false, false, false, false, false, false, false] rfl rfl (by kernel_rfl) (fun _ _ _ h => h) (Or.inl ⟨by rfl, ?_⟩) ?_ ?_
        rotate_left
        · intro w'
          go_simp
          with_reducible rfl
        rotate_left
        · simp only [Act.put, List.setIfInBounds_toArray, List.set_cons_zero, List.set_cons_succ, i64_w, i32_w]
          rfl
        refine pure_ (i := 4) (N := some 42) (v := ?_) (a' := ?_) #[true, true, true, false, true, false, false, false, false, false] rfl rfl (by kernel_rfl) (fun _ _ _ h => h) (Or.inl ⟨by rfl, ?_⟩) ?_ ?_
        rotate_left
        · intro w'
          go_simp
          with_reducible rfl
        rotate_left
        · simp only [Act.put, List.setIfInBounds_toArray, List.set_cons_zero, List.set_cons_succ, i64_w, i32_w]
          rfl
        refine pure_ (i := 5) (N := some 43) (v := ?_) (a' := ?_) #[true, true, true, false, true, true, false, false, false, false] rfl rfl (by kernel_rfl) (fun _ _ _ h => h) (Or.inl ⟨by rfl, ?_⟩) ?_ ?_
        rotate_left
        · intro w'
          go_simp
          with_reducible rfl
        rotate_left
        · simp only [Act.put, List.setIfInBounds_toArray, List.set_cons_zero, List.set_cons_succ, i64_w, i32_w]
          rfl
        refine pure_ (i := 3) (N := some 41) (v := ?_) (a' := ?_) #[true, true, true, true, true, true, false, false, false, false] rfl rfl (by kernel_rfl) (fun _ _ _ h => h) (Or.inl ⟨by rfl, ?_⟩) ?_ ?_
        rotate_left
        · intro w'
          go_simp
          with_reducible rfl
        rotate_left
        · simp only [Act.put, List.setIfInBounds_toArray, List.set_cons_zero, List.set_cons_succ, i64_w, i32_w]
          rfl
        refine pure_ (i := 6) (N := some 44) (v := ?_) (a' := ?_) #[true, true, true, true, true, true, true, false, false, false] rfl rfl (by kernel_rfl) (fun _ _ _ h => h) (Or.inl ⟨by rfl, ?_⟩) ?_ ?_
        rotate_left
        · intro w'
          go_simp
          with_reducible rfl
        rotate_left
        · simp only [Act.put, List.setIfInBounds_toArray, List.set_cons_zero, List.set_cons_succ, i64_w, i32_w]
          rfl
        refine one_ (i := 7) (N := some 45) #[true, true, true, true, true, true, true, true, false, false] rfl rfl (by kernel_rfl) (by decide) (fun K hK => ?_)
        refine step_copy_splice rfl (.tmp 41) (.tmp 44) 22 22 rfl 3 Try.underlying22 rfl (some ⟨w.heap.size, c, none⟩) (some ⟨w.heap.size, 0, none⟩) (m - c) (m - c) c m rfl rfl w.heap.size c (slices_Repeat_int_int.S t m c) 3 C5.out cs (by rw [C2.out]; exact C8.out) (fun _ => ⟨rfl, _, rfl, C6.out⟩) (by rw [C4.out]; exact hfit) C3.out w.heap.size w C7.out (Nat.le_refl _) ?_
        intro w4 hg4 hb4
        rw [C1.out, show c + d = c + cs.length from by rw [C2.out]] at hg4
        have D1 := Aside0.mk hg4
        have D2 := Aside0.mk hb4
        clear hg4 hb4 C3 C5 C6 C7
        refine hK.out _ _ trivial (fun hHeld => ?_)
        clear hK K
        refine norm_ (a' := ?_) ?_ ?_
        rotate_left
        · show Act.put _ (some 45) _ = _
          simp only [Act.put, List.setIfInBounds_toArray, List.set_cons_zero, List.set_cons_succ, i64_w, i32_w, goInt]
          rfl
        refine pure_ (i := 8) (N := some 46) (v := ?_) (a' := ?_) #[true, true, true, true, true, true, true, true, true, false] rfl rfl (by kernel_rfl) (fun _ _ _ h => h) (Or.inl ⟨by rfl, ?_⟩) ?_ ?_
        rotate_left
        · intro w'
          go_simp
          with_reducible rfl
        rotate_left
        · simp only [Act.put, List.setIfInBounds_toArray, List.set_cons_zero, List.set_cons_succ, i64_w, i32_w]
          rfl
        refine pure_ (i := 9) (N := some 8) (v := ?_) (a' := ?_) #[true, true, true, true, true, true, true, true, true, true] rfl rfl (by kernel_rfl) (fun _ _ _ h => h) (Or.inl ⟨by rfl, ?_⟩) ?_ ?_
        rotate_left
        · intro w'
          go_simp
          with_reducible rfl
        rotate_left
        · simp only [Act.put, List.setIfInBounds_toArray, List.set_cons_zero, List.set_cons_succ, i64_w, i32_w]
          rfl
        refine done_ (by kernel_rfl) ?_
        go_wp2
        go_roundg (m - (c + cs.length))
        case measure => omega
        case rel =>
          obtain ⟨i', hi1, hi2⟩ := C9.out
          exact ⟨c + cs.length, i', by omega, fun _ => by omega, by omega, congrArg (Value.int .i64) C10.out, ⟨by rw [hcl]; exact hi1, hi2⟩, D1, D2⟩
      · have hltz : ¬ (c : Int) < (m : Int) := by omega
        have hn : c = m := by omega
        subst hn
        go_wp2
        go_ret
        refine ⟨_, rfl, ?_, HB.out⟩
        have h_ := HH.out
        rw [show slices_Repeat_int_int.S t c c = t.map (Value.int .i64) from by unfold slices_Repeat_int_int.S; rw [List.take_of_length_le (by rw [HTL.out, ← HMM.out]; exact Nat.le_refl _)]; simp] at h_
        rw [← HR.out]
        exact slices_Repeat_int_int.R_own (Nat.le_refl _) h_ (by rw [HTL.out, ← HMM.out]) (by omega)
  · rw [if_neg hb] at h; exact absurd h (by simp)

end Go.Proofs.Ytheicbcedhfahaa.P
