/- Each call of a Go function named below comes to exactly the answers of the Lean function of its name, and a law row follows from its plain statement. No condition beyond those that each theorem states. -/
import Derived.Test.YtjjoinhackfmnaaPx0
import Derived.Test.YtjjoinhackfmnaaPx1
import Derived.Test.YtjjoinhackfmnaaPx2
import Derived.Test.YtjjoinhackfmnaaPx4
import Derived.Test.YtjjoinhackfmnaaPx12
import Derived.Test.YtjjoinhackfmnaaPx24
import Derived.Test.YtjjoinhackfmnaaPx25
namespace Go.Proofs.Ytjjoinhackfmnaa.P
open Go.RowKit Go.Proofs.YtjjoinhackfmnaaW.PrintWords Go.Proofs.YtjjoinhackfmnaaW.PrintLast Go.Proofs.YtjjoinhackfmnaaW.PrintMore
attribute [local go_sem] max2_int min2_int max_two min_two max_three min_three max_four min_four   -- for this text's walks alone
set_option linter.unusedVariables false
set_option linter.unusedSimpArgs false

/-! ### laws_FnExactFallTable: function 12 -/
def laws_FnExactFallTable.f (k : Nat) (l0 : List Int) : Option Bool := if (l0.length : Int) > 1048576 then some true else (laws_toIntS.f k l0).bind fun t => (spec_FallTable.f k t).bind fun p => (impl_FallTable.f k t).bind fun q => (laws_eqIntS.f k t t).bind fun e => if q = p ∧ e = true then some true else none
theorem laws_FnExactFallTable.mono : ∀ a0 k, LeO (laws_FnExactFallTable.f k a0) (laws_FnExactFallTable.f (k + 1) a0) := by
  intro a0 k
  unfold laws_FnExactFallTable.f
  split
  · exact LeO.refl _
  · exact LeO.bind (laws_toIntS.mono _ _) (fun t => LeO.bind (spec_FallTable.mono _ _) (fun p => LeO.bind (impl_FallTable.mono _ _) (fun q => LeO.bind (laws_eqIntS.mono _ _ _) (fun e => LeO.refl _))))
set_option maxHeartbeats 8000000 in
set_option maxRecDepth 100000 in
theorem laws_FnExactFallTable.calls (k : Nat) (A0 : Option Addr) (c0 : Nat) (l0 : List Int) (r : Bool) (w : World) (hr0 : Kd.C (Kd.int .i64) w A0 l0.length l0) (hc0 : l0.length ≤ c0) (h : laws_FnExactFallTable.f k l0 = some r) :
    Calls Try.prog 12 #[.slice A0 l0.length c0] w fun e w' => e = .returned (.bool r) ∧ Below w.heap.size w w' := by
  unfold laws_FnExactFallTable.f at h
  by_cases hbig : (l0.length : Int) > 1048576
  · rw [if_pos hbig] at h
    obtain rfl := Option.some.inj h
    clear h hr0
    go_enter Try.func12, Try.ntmps12
    go_wp2
    go_ret
    exact ⟨rfl, Below.refl _ _⟩
  rw [if_neg hbig] at h
  replace h := Option.bind_eq_some_iff.1 h
  obtain ⟨t, ht, h⟩ := h
  replace h := Option.bind_eq_some_iff.1 h
  obtain ⟨⟨p1, p2⟩, hp, h⟩ := h
  replace h := Option.bind_eq_some_iff.1 h
  obtain ⟨⟨q1, q2⟩, hq, h⟩ := h
  replace h := Option.bind_eq_some_iff.1 h
  obtain ⟨e, he, h⟩ := h
  have hcond : ((q1, q2) = (p1, p2)) ∧ e = true := by
    by_cases hc : ((q1, q2) = (p1, p2)) ∧ e = true
    · exact hc
    · rw [if_neg hc] at h; exact absurd h (by simp)
  rw [if_pos hcond] at h
  obtain ⟨hqp, rfl⟩ := hcond
  obtain ⟨rfl, rfl⟩ : q1 = p1 ∧ q2 = p2 := by simpa using hqp
  obtain rfl := Option.some.inj h
  have hinfo : (Try.prog.info? 54).map (fun i => (i.zero, i.size, i.bytes)) = some (some (.agg ((List.replicate 64 false).map Value.bool).toArray), 64, 64) := by kernel_rfl
  have hz := arr_zero (P := Try.prog) hinfo
  have hsz := arr_size (P := Try.prog) hinfo
  obtain ⟨zs, hzs⟩ : ∃ zs : List Value, zs = (List.replicate 64 false).map Value.bool := ⟨_, rfl⟩
  have hz1 : ∀ v, (Value.agg v).cells = v := fun _ => rfl
  have hz2 : ∀ W, (zeroValue 54).run Try.prog W = .ok (.agg zs.toArray) W := by rw [hzs]; exact hz
  have hl : zs.length = 64 := by rw [hzs]; simp
  have HSZ := Aside0.mk hsz
  have HT := Aside0.mk (fun W (hB : Below w.heap.size w W) => laws_toIntS.calls k A0 c0 l0 t W (Kd.C_below hr0 hB) hc0 ht)
  have HP := Aside0.mk (fun W A c (hC : Kd.C (Kd.int .i64) W A t.length t) (hc : t.length ≤ c) => spec_FallTable.calls k A c t q1 q2 W hC hc hp)
  have HQ := Aside0.mk (fun W A c (hC : Kd.C (Kd.int .i64) W A t.length t) (hc : t.length ≤ c) => impl_FallTable.calls k A c t q1 q2 W hC hc hq)
  have HE := Aside0.mk (fun W A c A' c' (hC : Kd.C (Kd.int .i64) W A t.length t) (hc : t.length ≤ c) (hC' : Kd.C (Kd.int .i64) W A' t.length t) (hc' : t.length ≤ c') => laws_eqIntS.calls k A c t A' c' t true W hC hc hC' hc' he)
  have HEB := Aside0.mk (fun W => laws_eqBoolA64.calls q1 q1 true W (by unfold laws_eqBoolA64.f; simp))
  have hlq : (q1.1.map Value.bool).length = 64 := by simpa using q1.2
  have hbz : (!(q2 == q2)) = false := by simp
  have HB0 := Aside0.mk (Below.refl w.heap.size w)
  clear hinfo hz hsz hzs hr0 ht hp hq he h hqp
  go_enter Try.func12, Try.ntmps12
  go_wp2_with (first
    | ((with_reducible refine gate_callee (f := 16) rfl ?_); refine goesL_ (some 13) rfl rfl Try.func16 (by kernel_rfl) rfl #[.slice A0 l0.length c0] rfl (by (try simp only [List.map_toArray, List.map_cons, List.map_nil]); first | done | rfl) ?_; refine (HT.out _ HB0.out).mono ?_; rintro e w1 ⟨v1, rfl, ho1, hb1⟩; refine ⟨_, rfl, ?_⟩; have HB1 := Aside0.mk (below_step HB0.out hb1); obtain ⟨A1, c1, e1⟩ := Kd.R_slice ho1; subst e1; have HC1 := Aside0.mk (Kd.R_reads' ho1))
    | (go_at_call 42; refine (HP.out _ A1 c1 HC1.out.2.2 HC1.out.2.1).mono ?_; rintro e w2 ⟨rfl, hb2⟩; have HB2 := Aside0.mk (below_step HB1.out hb2))
    | ((with_reducible refine gate_dst (N := 3) rfl ?_); refine arr_alloc rfl 54 rfl hz2 ?_; rw [hz1])
    | ((with_reducible refine gate_store0 (t := 54) (p := 3) (v := .tmp 15) rfl ?_); refine arr_store (n := 64) (by rfl) (by rfl) 54 (.tmp 3) (.tmp 15) (by rfl) (b := w2.heap.size) (cs := zs) (cs' := q1.1.map Value.bool) (by rfl) (by rfl) (ArrW.new w2 54 zs) HSZ.out hl hlq (bools_one _) ?_; intro w3 ha3 hot3 hbl3; have HA3 := Aside0.mk ha3; have HB3 := Aside0.mk (hbl3 _ _ (below_alloc HB2.out _) HB2.out.size); clear ha3 hot3 hbl3)
    | ((with_reducible refine gate_callee (f := 16) rfl ?_); refine goesL_ (some 18) rfl rfl Try.func16 (by kernel_rfl) rfl #[.slice A0 l0.length c0] rfl (by (try simp only [List.map_toArray, List.map_cons, List.map_nil]); first | done | rfl) ?_; refine (HT.out _ HB3.out).mono ?_; rintro e w4 ⟨v4, rfl, ho4, hb4⟩; refine ⟨_, rfl, ?_⟩; have HB4 := Aside0.mk (below_step HB3.out hb4); have HA4 := Aside0.mk (HA3.out.below hb4); obtain ⟨A4, c4, e4⟩ := Kd.R_slice ho4; subst e4; have HR4 := Aside0.mk ho4)
    | (go_at_call 43; refine (HQ.out _ A4 c4 (Kd.R_reads' HR4.out).2.2 (Kd.R_reads' HR4.out).2.1).mono ?_; rintro e w5 ⟨rfl, hb5⟩; have HB5 := Aside0.mk (below_step HB4.out hb5); have HA5 := Aside0.mk (HA4.out.below hb5); have HR5 := Aside0.mk (Kd.R_below HR4.out hb5))
    | ((with_reducible refine gate_dst (N := 6) rfl ?_); refine arr_alloc rfl 54 rfl hz2 ?_; rw [hz1])
    | ((with_reducible refine gate_store0 (t := 54) (p := 6) (v := .tmp 22) rfl ?_); refine arr_store (n := 64) (by rfl) (by rfl) 54 (.tmp 6) (.tmp 22) (by rfl) (b := w5.heap.size) (cs := zs) (cs' := q1.1.map Value.bool) (by rfl) (by rfl) (ArrW.new w5 54 zs) HSZ.out hl hlq (bools_one _) ?_; intro w6 ha6 hot6 hbl6; have HA6 := Aside0.mk ha6; have HAB6 : Aside0 (ArrW w6 w2.heap.size 54 (q1.1.map Value.bool)) := (⟨(hot6 w2.heap.size (by have := HA5.out.lt; omega)).trans (HA5.out.alloc _)⟩); have HB6 := Aside0.mk (hbl6 _ _ (below_alloc HB5.out _) HB5.out.size); have HS6 := Aside0.mk (hbl6 _ _ (below_alloc (Below.refl w5.heap.size w5) _) (Nat.le_refl _)); have HR6 := Aside0.mk (Kd.R_below HR5.out HS6.out); clear ha6 hot6 hbl6)
    | ((with_reducible refine gate_dst (N := 24) rfl ?_); refine arr_load (n := 64) (by rfl) 54 (.tmp 6) (by rfl) (b := w5.heap.size) (by rfl) HA6.out Try.underlying54 rfl HSZ.out hlq ?_)
    | ((with_reducible refine gate_dst (N := 25) rfl ?_); refine arr_load (n := 64) (by rfl) 54 (.tmp 3) (by rfl) (b := w2.heap.size) (by rfl) HAB6.out Try.underlying54 rfl HSZ.out hlq ?_)
    | (go_at_call 44; refine (HEB.out _).mono ?_; rintro e w7 ⟨rfl, hb7⟩; have HB7 := Aside0.mk (below_step HB6.out hb7); have HR7 := Aside0.mk (Kd.R_below HR6.out hb7))
    | ((with_reducible refine gate_callee (f := 16) rfl ?_); refine goesL_ (some 35) rfl rfl Try.func16 (by kernel_rfl) rfl #[.slice A0 l0.length c0] rfl (by (try simp only [List.map_toArray, List.map_cons, List.map_nil]); first | done | rfl) ?_; refine (HT.out _ HB7.out).mono ?_; rintro e w8 ⟨v8, rfl, ho8, hb8⟩; refine ⟨_, rfl, ?_⟩; have HB8 := Aside0.mk (below_step HB7.out hb8); have HR8 := Aside0.mk (Kd.R_below HR7.out hb8); obtain ⟨A8, c8, e8⟩ := Kd.R_slice ho8; subst e8; have HO8 := Aside0.mk ho8)
    | (go_at_call 18; refine (HE.out _ A4 c4 A8 c8 (Kd.R_reads' HR8.out).2.2 (Kd.R_reads' HR8.out).2.1 (Kd.R_reads' HO8.out).2.2 (Kd.R_reads' HO8.out).2.1).mono ?_; rintro e w9 ⟨rfl, ⟨nd, rfl⟩⟩))
  go_ret
  exact ⟨rfl, pw_below_drewN HB8.out nd⟩
def laws_FnExactFallTable.Pure : Prop := ∀ (l0 : List Int), l0.length ≤ maxLen → l0.length * 8 ≤ 140737488351232 → (∀ x ∈ l0, (Lit.int .i64 x).wf = true) → ∃ k, laws_FnExactFallTable.f k l0 = some true
theorem laws_FnExactFallTable.walk (P : laws_FnExactFallTable.Pure) (a0 : Option Addr) (len0 cap0 : Nat) (z0 : List Int) (w : World) (w0 : (a0 = none ∧ len0 = 0 ∧ cap0 = 0 ∧ z0 = []) ∨ ∃ x, a0 = some x ∧ len0 ≤ cap0 ∧ cap0 ≤ maxLen ∧ z0.length = cap0 ∧ (∀ i, i < z0.length → w.cell? (x.add i) = some (.int .i64 (z0.getD i 0))) ∧ ∀ n ∈ z0, (Lit.int .i64 n).wf = true) (y0 : len0 * 8 ≤ 140737488351232) :
    Calls Try.prog 12 #[.slice a0 len0 cap0] w fun e w' => e = .returned (.bool true) ∧ Below w.heap.size w w' := by
  obtain ⟨l0, rfl, hr0, hm0, hw0, hc0⟩ := ReadsInt.ofRowC w0
  obtain ⟨k, h⟩ := P l0 hm0 y0 hw0
  refine (laws_FnExactFallTable.calls k _ _ l0 true w (Kd.C_of_reads (d := (0 : Int)) (h1 := fun _ => rfl) hr0) hc0 h).mono ?_
  rintro e w' ⟨rfl, hd⟩
  exact ⟨rfl, hd⟩

/-! ### spec_FallOrder: function 45 -/
mutual
def spec_FallOrder.l0 : Nat → List Int → List Int → Int → Option (Int × Bool)
  | 0, _, _, _ => none
  | k + 1, x0, x1, x6 => if x6 < (x1.length : Int) then (if 0 ≤ x6 then ((spec_l1In.f (rd x1 x6) 1 6).bind fun t530 => (if t530 = true then (spec_FallOrder.l0 k x0 x1 (wrap64 (x6 + 1))) else (some (0, false)))) else (none)) else (spec_FallOrder.l1 k x0 x1 0 0)
def spec_FallOrder.l1 : Nat → List Int → List Int → Int → Int → Option (Int × Bool)
  | 0, _, _, _, _ => none
  | k + 1, x0, x1, x7, x8 => if x8 ≤ (x1.length : Int) then ((spec_l3Falls.f k x0 x7).bind fun t531 => (if t531 = true then (some (x8, true)) else (if x8 < (x1.length : Int) then (if 0 ≤ x8 then (if 0 ≤ (wrap64 ((rd x1 x8) - 1)) then (spec_FallOrder.l1 k x0 x1 (Go.bits .or .i64 x7 (shl .i64 1 (wrap64 ((rd x1 x8) - 1)))) (wrap64 (x8 + 1))) else (none)) else (none)) else (spec_FallOrder.l1 k x0 x1 x7 (wrap64 (x8 + 1)))))) else (some (0, false))
end
def spec_FallOrder.f (k : Nat) (l0 : List Int) (l1 : List Int) : Option (Int × Bool) := (spec_l2Word.f k l0).bind fun t528 => (if t528 = true then (spec_FallOrder.l0 k l0 l1 0) else (some (0, false)))
theorem spec_FallOrder.mono_l : ∀ k, (∀ y0 y1 y2, LeO (spec_FallOrder.l0 k y0 y1 y2) (spec_FallOrder.l0 (k + 1) y0 y1 y2)) ∧ (∀ y0 y1 y2 y3, LeO (spec_FallOrder.l1 k y0 y1 y2 y3) (spec_FallOrder.l1 (k + 1) y0 y1 y2 y3))
  | 0 => ⟨fun _ _ _ r h => by simp [spec_FallOrder.l0] at h, fun _ _ _ _ r h => by simp [spec_FallOrder.l1] at h⟩
  | k + 1 => by
    obtain ⟨ih0, ih1⟩ := spec_FallOrder.mono_l k
    refine ⟨?_, ?_⟩
    · intro y0 y1 y2
      unfold spec_FallOrder.l0
      repeat' first
      | (with_reducible exact ih0 _ _ _)
      | (with_reducible exact ih1 _ _ _ _)
      | (with_reducible exact spec_l2Word.mono _ _)
      | (with_reducible exact spec_l3Falls.mono _ _ _)
      | (with_reducible exact LeO.refl _)
      | (with_reducible exact LeO.none _)
      | (with_reducible refine LeO.ite ?_ ?_)
      | (with_reducible refine LeO.bind ?_ (fun _ => ?_))
      | exact ih0 _ _ _
      | exact ih1 _ _ _ _
      | exact spec_l2Word.mono _ _
      | exact spec_l3Falls.mono _ _ _
      | exact LeO.none _
      | refine LeO.ite ?_ ?_
      | refine LeO.bind ?_ (fun _ => ?_)
    · intro y0 y1 y2 y3
      unfold spec_FallOrder.l1
      repeat' first
      | (with_reducible exact ih0 _ _ _)
      | (with_reducible exact ih1 _ _ _ _)
      | (with_reducible exact spec_l2Word.mono _ _)
      | (with_reducible exact spec_l3Falls.mono _ _ _)
      | (with_reducible exact LeO.refl _)
      | (with_reducible exact LeO.none _)
      | (with_reducible refine LeO.ite ?_ ?_)
      | (with_reducible refine LeO.bind ?_ (fun _ => ?_))
      | exact ih0 _ _ _
      | exact ih1 _ _ _ _
      | exact spec_l2Word.mono _ _
      | exact spec_l3Falls.mono _ _ _
      | exact LeO.none _
      | refine LeO.ite ?_ ?_
      | refine LeO.bind ?_ (fun _ => ?_)
theorem spec_FallOrder.mono : ∀ a0 a1 k, LeO (spec_FallOrder.f k a0 a1) (spec_FallOrder.f (k + 1) a0 a1) := by
  intro a0 a1 k
  obtain ⟨ih0, ih1⟩ := spec_FallOrder.mono_l k
  unfold spec_FallOrder.f
  repeat' first
      | (with_reducible exact ih0 _ _ _)
      | (with_reducible exact ih1 _ _ _ _)
      | (with_reducible exact spec_l2Word.mono _ _)
      | (with_reducible exact spec_l3Falls.mono _ _ _)
      | (with_reducible exact LeO.refl _)
      | (with_reducible exact LeO.none _)
      | (with_reducible refine LeO.ite ?_ ?_)
      | (with_reducible refine LeO.bind ?_ (fun _ => ?_))
      | exact ih0 _ _ _
      | exact ih1 _ _ _ _
      | exact spec_l2Word.mono _ _
      | exact spec_l3Falls.mono _ _ _
      | exact LeO.none _
      | refine LeO.ite ?_ ?_
      | refine LeO.bind ?_ (fun _ => ?_)
set_option maxHeartbeats 8000000 in
set_option maxRecDepth 100000 in
theorem spec_FallOrder.calls (k : Nat) (A0 : Option Addr) (c0 : Nat) (l0 : List Int) (A1 : Option Addr) (c1 : Nat) (l1 : List Int) (r1 : Int) (r2 : Bool) (w : World) (hr0 : Kd.C (Kd.int .i64) w A0 l0.length l0) (hc0 : l0.length ≤ c0) (hr1 : Kd.C (Kd.int .i64) w A1 l1.length l1) (hc1 : l1.length ≤ c1) (h : spec_FallOrder.f k l0 l1 = some (r1, r2)) :
    Calls Try.prog 45 #[.slice A0 l0.length c0, .slice A1 l1.length c1] w fun e w' => e = .returned (.tuple #[.int .i64 r1, .bool r2]) ∧ Below w.heap.size w w' := by
  have HR0 := Aside0.mk hr0
  have HC0 := Aside0.mk hc0
  clear hr0 hc0
  have HR1 := Aside0.mk hr1
  have HC1 := Aside0.mk hc1
  clear hr1 hc1
  have HB := Aside0.mk (Below.refl w.heap.size w)
  have H : ((spec_l2Word.f k l0).bind fun t528 => (if t528 = true then (spec_FallOrder.l0 k l0 l1 0) else (some (0, false)))) = some (r1, r2) := h
  clear h
  replace H := Option.bind_eq_some_iff.mp H
  obtain ⟨t528, A30, H⟩ := H
  replace H : (if t528 = true then (spec_FallOrder.l0 k l0 l1 0) else (some (0, false))) = some (r1, r2) := H
  have A3 := Aside0.mk A30
  clear A30
  by_cases c4 : t528 = true
  · subst c4
    have H1 : (spec_FallOrder.l0 k l0 l1 0) = some (r1, r2) := by rw [if_pos rfl] at H; exact H
    clear H
    have H := H1
    clear H1
    have H' := Aside0.mk H
    clear H
    go_enter Try.func45, Try.ntmps45
    go_wp2_with (first | ((with_reducible refine gate_callee (f := 49) rfl ?_); refine goesL_ (some 10) rfl rfl Try.func49 (by kernel_rfl) rfl #[.slice A0 l0.length c0] rfl (by (try simp only [List.map_toArray, List.map_cons, List.map_nil]); first | done | rfl | (simp only [List.length_drop, List.length_take]; rfl)) ?_; (with_reducible refine (spec_l2Word.calls k _ _ l0 true _ ?side1 ?side2 A3.out).mono ?_); (case side1 => repeat (first | exact HR0.out | (with_reducible refine Kd.C_alloc ?_ _) | (with_reducible refine Kd.C_drewN ?_ _) | (with_reducible refine Kd.C_drew ?_))); (case side2 => exact HC0.out); rintro e w' ⟨rfl, ⟨nd, rfl⟩⟩; refine ⟨_, rfl, ?_⟩))
    go_loopg [6] k (fun kq v6 w' => ∃ (x6_1 : Int), v6 = .int .i64 x6_1 ∧ Aside0 (spec_FallOrder.l0 kq l0 l1 x6_1 = some (r1, r2)) ∧ Aside0 (kq ≤ k) ∧ Aside0 (Below w.heap.size w w'))
    case atStart => exact ⟨(0), (by first | rfl | (simp; done) | (simp [*]; done)), H', ⟨Nat.le_refl _⟩, ⟨by repeat (first | (with_reducible first | exact HB.out | apply below_alloc | apply pw_below_drewN | apply below_drew1) | exact HB.out)⟩⟩
    case round =>
      clear H'
      try clear c1
      try clear p2
      try clear c4
      obtain ⟨x6_1, rfl, HA, HK1, HB⟩ := hrel
      cases gk with
      | zero => exact absurd HA.out (by simp [spec_FallOrder.l0])
      | succ k1 =>
        have H := HA.out
        clear HA
        simp only [spec_FallOrder.l0] at H
        by_cases c5 : x6_1 < (l1.length : Int)
        · rw [if_pos c5] at H
          have c5b0 : decide (x6_1 < (l1.length : Int)) = true := decide_eq_true c5
          clear c5
          by_cases c6 : 0 ≤ x6_1
          · rw [if_pos c6] at H
            have c6b0 : decide (0 ≤ x6_1) = true := decide_eq_true c6
            clear c6
            replace H := Option.bind_eq_some_iff.mp H
            obtain ⟨t530, A70, H⟩ := H
            replace H : (if t530 = true then (spec_FallOrder.l0 k1 l0 l1 (wrap64 (x6_1 + 1))) else (some (0, false))) = some (r1, r2) := H
            have A7 := Aside0.mk A70
            clear A70
            by_cases c8 : t530 = true
            · subst c8
              have H1 : (spec_FallOrder.l0 k1 l0 l1 (wrap64 (x6_1 + 1))) = some (r1, r2) := by rw [if_pos rfl] at H; exact H
              clear H
              have H := H1
              clear H1
              have H' := Aside0.mk H
              clear H
              have p529 : 0 ≤ (x6_1 : Int) := of_decide_eq_true (by first | (with_reducible assumption) | assumption)
              have q529 : x6_1 < (l1.length : Int) := of_decide_eq_true (by first | (with_reducible assumption) | assumption)
              obtain ⟨ad529, e529, hx529_0⟩ := Kd.at_int HR1.out x6_1 p529 q529
              cases e529
              replace hx529_0 := (HB.out.cell (World.block_lt_of_cell? w _ hx529_0)).trans hx529_0
              replace p529 := eq_true p529
              replace q529 := eq_true q529
              go_wp2_with (first | ((with_reducible refine gate_callee (f := 56) rfl ?_); refine goesL_ (some 22) rfl rfl Try.func56 (by kernel_rfl) rfl #[.int .i64 (rd l1 x6_1), .int .i64 1, .int .i64 6] rfl (by (try simp only [List.map_toArray, List.map_cons, List.map_nil]); first | done | rfl | (simp only [List.length_drop, List.length_take]; rfl)) ?_; (with_reducible refine (spec_l1In.calls (rd l1 x6_1) 1 6 true _ A7.out).mono ?_); rintro e w' ⟨rfl, ⟨nd, rfl⟩⟩; refine ⟨_, rfl, ?_⟩))
              go_roundg k1
              case measure => have := HK1.out; omega
              case rel => exact ⟨(wrap64 (x6_1 + 1)), (by first | rfl | (simp; done) | (simp [*]; done)), H', ⟨by have := HK1.out; omega⟩, ⟨by repeat (first | (with_reducible first | exact HB.out | apply below_alloc | apply pw_below_drewN | apply below_drew1) | exact HB.out)⟩⟩
            · replace c8 := Bool.eq_false_iff.mpr c8
              subst c8
              have H1 : (some (0, false)) = some (r1, r2) := by rw [if_neg (show ¬ (false = true) by decide)] at H; exact H
              clear H
              have H := H1
              clear H1
              simp only [Option.some.injEq, Prod.mk.injEq] at H
              obtain ⟨rfl, rfl⟩ := H
              have p529 : 0 ≤ (x6_1 : Int) := of_decide_eq_true (by first | (with_reducible assumption) | assumption)
              have q529 : x6_1 < (l1.length : Int) := of_decide_eq_true (by first | (with_reducible assumption) | assumption)
              obtain ⟨ad529, e529, hx529_0⟩ := Kd.at_int HR1.out x6_1 p529 q529
              cases e529
              replace hx529_0 := (HB.out.cell (World.block_lt_of_cell? w _ hx529_0)).trans hx529_0
              replace p529 := eq_true p529
              replace q529 := eq_true q529
              go_wp2_with (first | ((with_reducible refine gate_callee (f := 56) rfl ?_); refine goesL_ (some 22) rfl rfl Try.func56 (by kernel_rfl) rfl #[.int .i64 (rd l1 x6_1), .int .i64 1, .int .i64 6] rfl (by (try simp only [List.map_toArray, List.map_cons, List.map_nil]); first | done | rfl | (simp only [List.length_drop, List.length_take]; rfl)) ?_; (with_reducible refine (spec_l1In.calls (rd l1 x6_1) 1 6 false _ A7.out).mono ?_); rintro e w' ⟨rfl, ⟨nd, rfl⟩⟩; refine ⟨_, rfl, ?_⟩))
              go_ret2
              exact ⟨by first | rfl | (simp [errW_none, errW_some] <;> rfl) | (simp [*, errW_none, errW_some] <;> rfl), by repeat (first | (with_reducible first | exact HB.out | apply below_alloc | apply pw_below_drewN | apply below_drew1) | exact HB.out)⟩
          · rw [if_neg c6] at H
            exact absurd H (by simp)
        · rw [if_neg c5] at H
          have c5b0 : decide (x6_1 < (l1.length : Int)) = false := decide_eq_false c5
          clear c5
          have H' := Aside0.mk H
          clear H
          go_wp2
          go_loopg [7, 8] k1 (fun kq v7 v8 w' => ∃ (x7_2 : Int) (x8_2 : Int), v7 = .int .i64 x7_2 ∧ v8 = .int .i64 x8_2 ∧ Aside0 (spec_FallOrder.l1 kq l0 l1 x7_2 x8_2 = some (r1, r2)) ∧ Aside0 (kq ≤ k1) ∧ Aside0 (Below w.heap.size w w'))
          case atStart => exact ⟨(0), (0), (by first | rfl | (simp; done) | (simp [*]; done)), (by first | rfl | (simp; done) | (simp [*]; done)), H', ⟨Nat.le_refl _⟩, ⟨by repeat (first | (with_reducible first | exact HB.out | apply below_alloc | apply pw_below_drewN | apply below_drew1) | exact HB.out)⟩⟩
          case round =>
            clear H'
            try clear c1
            try clear p2
            try clear c4
            try clear c5
            try clear c5b0
            try clear p5
            try clear q5
            try clear hx5
            try clear c6
            try clear c6b0
            try clear p6
            try clear c8
            try clear hx529_0
            try clear p2
            try clear p529
            try clear q529
            obtain ⟨x7_2, x8_2, rfl, rfl, HA, HK2, HB⟩ := hrel
            cases gk with
            | zero => exact absurd HA.out (by simp [spec_FallOrder.l1])
            | succ k2 =>
              have H := HA.out
              clear HA
              simp only [spec_FallOrder.l1] at H
              by_cases c9 : x8_2 ≤ (l1.length : Int)
              · rw [if_pos c9] at H
                have c9b0 : decide (x8_2 ≤ (l1.length : Int)) = true := decide_eq_true c9
                clear c9
                replace H := Option.bind_eq_some_iff.mp H
                obtain ⟨t531, A100, H⟩ := H
                replace H : (if t531 = true then (some (x8_2, true)) else (if x8_2 < (l1.length : Int) then (if 0 ≤ x8_2 then (if 0 ≤ (wrap64 ((rd l1 x8_2) - 1)) then (spec_FallOrder.l1 k2 l0 l1 (Go.bits .or .i64 x7_2 (shl .i64 1 (wrap64 ((rd l1 x8_2) - 1)))) (wrap64 (x8_2 + 1))) else (none)) else (none)) else (spec_FallOrder.l1 k2 l0 l1 x7_2 (wrap64 (x8_2 + 1))))) = some (r1, r2) := H
                have A10 := Aside0.mk A100
                clear A100
                by_cases c11 : t531 = true
                · subst c11
                  have H1 : (some (x8_2, true)) = some (r1, r2) := by rw [if_pos rfl] at H; exact H
                  clear H
                  have H := H1
                  clear H1
                  simp only [Option.some.injEq, Prod.mk.injEq] at H
                  obtain ⟨rfl, rfl⟩ := H
                  go_wp2_with (first | ((with_reducible refine gate_callee (f := 66) rfl ?_); refine goesL_ (some 32) rfl rfl Try.func66 (by kernel_rfl) rfl #[.slice A0 l0.length c0, .int .i64 x7_2] rfl (by (try simp only [List.map_toArray, List.map_cons, List.map_nil]); first | done | rfl | (simp only [List.length_drop, List.length_take]; rfl)) ?_; (with_reducible refine (spec_l3Falls.calls k2 _ _ l0 x7_2 true _ ?side1 ?side2 A10.out).mono ?_); (case side1 => repeat (first | exact (Kd.C_below HR0.out HB.out) | (with_reducible refine Kd.C_alloc ?_ _) | (with_reducible refine Kd.C_drewN ?_ _) | (with_reducible refine Kd.C_drew ?_))); (case side2 => exact HC0.out); rintro e w12 ⟨rfl, hb⟩; refine ⟨_, rfl, ?_⟩; have n0_ := Aside0.mk (below_step (by repeat (first | (with_reducible first | exact HB.out | apply below_alloc | apply pw_below_drewN | apply below_drew1) | exact HB.out)) hb); clear HB; have HB := n0_; clear n0_; (try clear hb); (try clear hb2); (try clear hk); (try clear hi)))
                  go_ret2
                  exact ⟨by first | rfl | (simp [errW_none, errW_some] <;> rfl) | (simp [*, errW_none, errW_some] <;> rfl), by repeat (first | (with_reducible first | exact HB.out | apply below_alloc | apply pw_below_drewN | apply below_drew1) | exact HB.out)⟩
                · replace c11 := Bool.eq_false_iff.mpr c11
                  subst c11
                  have H1 : (if x8_2 < (l1.length : Int) then (if 0 ≤ x8_2 then (if 0 ≤ (wrap64 ((rd l1 x8_2) - 1)) then (spec_FallOrder.l1 k2 l0 l1 (Go.bits .or .i64 x7_2 (shl .i64 1 (wrap64 ((rd l1 x8_2) - 1)))) (wrap64 (x8_2 + 1))) else (none)) else (none)) else (spec_FallOrder.l1 k2 l0 l1 x7_2 (wrap64 (x8_2 + 1)))) = some (r1, r2) := by rw [if_neg (show ¬ (false = true) by decide)] at H; exact H
                  clear H
                  have H := H1
                  clear H1
                  by_cases c13 : x8_2 < (l1.length : Int)
                  · rw [if_pos c13] at H
                    have c13b0 : decide (x8_2 < (l1.length : Int)) = true := decide_eq_true c13
                    clear c13
                    by_cases c14 : 0 ≤ x8_2
                    · rw [if_pos c14] at H
                      have c14b0 : decide (0 ≤ x8_2) = true := decide_eq_true c14
                      clear c14
                      obtain ⟨ji15, hji15⟩ : ∃ j_ : Int, (wrap64 ((rd l1 x8_2) - 1)) = j_ := ⟨_, rfl⟩
                      replace H : (if 0 ≤ (ji15) then (spec_FallOrder.l1 k2 l0 l1 (Go.bits .or .i64 x7_2 (shl .i64 1 (ji15))) (wrap64 (x8_2 + 1))) else (none)) = some (r1, r2) := by first | (rw [hji15] at H; exact H) | (simp only [hji15] at H ⊢; exact H)
                      (try rw [hji15] at A10)
                      have hji15w : (IntKind.i64.wrap ((rd l1 x8_2) - 1)) = ji15 := (i64_w _).trans hji15
                      by_cases c16 : 0 ≤ (ji15)
                      · rw [if_pos c16] at H
                        have c16b0 := eq_true c16
                        have c16b1 : decide (0 ≤ (ji15)) = true := decide_eq_true c16
                        clear c16
                        obtain ⟨ji17, hji17⟩ : ∃ j_ : Int, (shl .i64 1 (ji15)) = j_ := ⟨_, rfl⟩
                        replace H : (spec_FallOrder.l1 k2 l0 l1 (Go.bits .or .i64 x7_2 (ji17)) (wrap64 (x8_2 + 1))) = some (r1, r2) := by first | (rw [hji17] at H; exact H) | (simp only [hji17] at H ⊢; exact H)
                        (try rw [hji17] at A10)
                        have hji17_ : (IntKind.i64.wrap (1 * 2 ^ min (ji15).toNat 64)) = ji17 := hji17
                        have hji17z : (ji15) ≤ 64 → (IntKind.i64.wrap (1 * 2 ^ (ji15).toNat)) = ji17 := shl_small hji17
                        have hji17u : (IntKind.i64.wrap (2 ^ min (ji15).toNat 64)) = ji17 := by have h_ := hji17_; rw [Int.one_mul] at h_; exact h_
                        have hji17v : (ji15) ≤ 64 → (IntKind.i64.wrap (2 ^ (ji15).toNat)) = ji17 := fun hle_ => by have h_ := hji17z hle_; rw [Int.one_mul] at h_; exact h_
                        have hji17y : (wrap64 (1 * 2 ^ min (ji15).toNat 64)) = ji17 := (i64_w _).symm.trans hji17_
                        have hji17x : (ji15) ≤ 64 → (wrap64 (1 * 2 ^ (ji15).toNat)) = ji17 := fun h_ => (i64_w _).symm.trans (hji17z h_)
                        have H' := Aside0.mk H
                        clear H
                        go_wp2_with (first | ((with_reducible refine gate_callee (f := 66) rfl ?_); refine goesL_ (some 32) rfl rfl Try.func66 (by kernel_rfl) rfl #[.slice A0 l0.length c0, .int .i64 x7_2] rfl (by (try simp only [List.map_toArray, List.map_cons, List.map_nil]); first | done | rfl | (simp only [List.length_drop, List.length_take]; rfl)) ?_; (with_reducible refine (spec_l3Falls.calls k2 _ _ l0 x7_2 false _ ?side1 ?side2 A10.out).mono ?_); (case side1 => repeat (first | exact (Kd.C_below HR0.out HB.out) | (with_reducible refine Kd.C_alloc ?_ _) | (with_reducible refine Kd.C_drewN ?_ _) | (with_reducible refine Kd.C_drew ?_))); (case side2 => exact HC0.out); rintro e w18 ⟨rfl, hb⟩; refine ⟨_, rfl, ?_⟩; have n0_ := Aside0.mk (below_step (by repeat (first | (with_reducible first | exact HB.out | apply below_alloc | apply pw_below_drewN | apply below_drew1) | exact HB.out)) hb); clear HB; have HB := n0_; clear n0_; (try clear hb); (try clear hb2); (try clear hk); (try clear hi); have p532 : 0 ≤ (x8_2 : Int) := of_decide_eq_true (by first | (with_reducible assumption) | assumption); have q532 : x8_2 < (l1.length : Int) := of_decide_eq_true (by first | (with_reducible assumption) | assumption); obtain ⟨ad532, e532, hx532_0⟩ := Kd.at_int HR1.out x8_2 p532 q532; cases e532; replace hx532_0 := (HB.out.cell (World.block_lt_of_cell? w _ hx532_0)).trans hx532_0; replace p532 := eq_true p532; replace q532 := eq_true q532))
                        go_roundg k2
                        case measure => have := HK1.out; have := HK2.out; omega
                        case rel => exact ⟨(Go.bits .or .i64 x7_2 (ji17)), (wrap64 (x8_2 + 1)), (by first | rfl | (simp; done) | (simp only [← hji17] <;> (first | rfl | simp)) | (simp [*]; done)), (by first | rfl | (simp; done) | (simp [*]; done)), H', ⟨by have := HK1.out; have := HK2.out; omega⟩, ⟨by repeat (first | (with_reducible first | exact HB.out | apply below_alloc | apply pw_below_drewN | apply below_drew1) | exact HB.out)⟩⟩
                      · rw [if_neg c16] at H
                        exact absurd H (by simp)
                    · rw [if_neg c14] at H
                      exact absurd H (by simp)
                  · rw [if_neg c13] at H
                    have c13b0 : decide (x8_2 < (l1.length : Int)) = false := decide_eq_false c13
                    clear c13
                    have H' := Aside0.mk H
                    clear H
                    go_wp2_with (first | ((with_reducible refine gate_callee (f := 66) rfl ?_); refine goesL_ (some 32) rfl rfl Try.func66 (by kernel_rfl) rfl #[.slice A0 l0.length c0, .int .i64 x7_2] rfl (by (try simp only [List.map_toArray, List.map_cons, List.map_nil]); first | done | rfl | (simp only [List.length_drop, List.length_take]; rfl)) ?_; (with_reducible refine (spec_l3Falls.calls k2 _ _ l0 x7_2 false _ ?side1 ?side2 A10.out).mono ?_); (case side1 => repeat (first | exact (Kd.C_below HR0.out HB.out) | (with_reducible refine Kd.C_alloc ?_ _) | (with_reducible refine Kd.C_drewN ?_ _) | (with_reducible refine Kd.C_drew ?_))); (case side2 => exact HC0.out); rintro e w19 ⟨rfl, hb⟩; refine ⟨_, rfl, ?_⟩; have n0_ := Aside0.mk (below_step (by repeat (first | (with_reducible first | exact HB.out | apply below_alloc | apply pw_below_drewN | apply below_drew1) | exact HB.out)) hb); clear HB; have HB := n0_; clear n0_; (try clear hb); (try clear hb2); (try clear hk); (try clear hi)))
                    go_roundg k2
                    case measure => have := HK1.out; have := HK2.out; omega
                    case rel => exact ⟨(x7_2), (wrap64 (x8_2 + 1)), (by first | rfl | (simp; done) | (simp [*]; done)), (by first | rfl | (simp; done) | (simp [*]; done)), H', ⟨by have := HK1.out; have := HK2.out; omega⟩, ⟨by repeat (first | (with_reducible first | exact HB.out | apply below_alloc | apply pw_below_drewN | apply below_drew1) | exact HB.out)⟩⟩
              · rw [if_neg c9] at H
                have c9b0 : decide (x8_2 ≤ (l1.length : Int)) = false := decide_eq_false c9
                clear c9
                simp only [Option.some.injEq, Prod.mk.injEq] at H
                obtain ⟨rfl, rfl⟩ := H
                go_wp2
                go_ret2
                exact ⟨by first | rfl | (simp [errW_none, errW_some] <;> rfl) | (simp [*, errW_none, errW_some] <;> rfl), by repeat (first | (with_reducible first | exact HB.out | apply below_alloc | apply pw_below_drewN | apply below_drew1) | exact HB.out)⟩
  · replace c4 := Bool.eq_false_iff.mpr c4
    subst c4
    have H1 : (some (0, false)) = some (r1, r2) := by rw [if_neg (show ¬ (false = true) by decide)] at H; exact H
    clear H
    have H := H1
    clear H1
    simp only [Option.some.injEq, Prod.mk.injEq] at H
    obtain ⟨rfl, rfl⟩ := H
    go_enter Try.func45, Try.ntmps45
    go_wp2_with (first | ((with_reducible refine gate_callee (f := 49) rfl ?_); refine goesL_ (some 10) rfl rfl Try.func49 (by kernel_rfl) rfl #[.slice A0 l0.length c0] rfl (by (try simp only [List.map_toArray, List.map_cons, List.map_nil]); first | done | rfl | (simp only [List.length_drop, List.length_take]; rfl)) ?_; (with_reducible refine (spec_l2Word.calls k _ _ l0 false _ ?side1 ?side2 A3.out).mono ?_); (case side1 => repeat (first | exact HR0.out | (with_reducible refine Kd.C_alloc ?_ _) | (with_reducible refine Kd.C_drewN ?_ _) | (with_reducible refine Kd.C_drew ?_))); (case side2 => exact HC0.out); rintro e w' ⟨rfl, ⟨nd, rfl⟩⟩; refine ⟨_, rfl, ?_⟩))
    go_ret2
    exact ⟨by first | rfl | (simp [errW_none, errW_some] <;> rfl) | (simp [*, errW_none, errW_some] <;> rfl), by repeat (first | (with_reducible first | exact HB.out | apply below_alloc | apply pw_below_drewN | apply below_drew1) | exact HB.out)⟩

/-! ### impl_isNail: function 79 -/
def impl_isNail.f (a0 : Int) : Option (Bool) := if a0 ≥ 1 then (some (decide (a0 ≤ 6))) else (some false)
set_option maxHeartbeats 8000000 in
set_option maxRecDepth 100000 in
theorem impl_isNail.calls (a0 : Int) (r : Bool) (w : World) (h : impl_isNail.f a0 = some r) :
    Calls Try.prog 79 #[.int .i64 a0] w fun e w' => e = .returned (.bool r) ∧ Drawn0 w w' := by
  have H : (if a0 ≥ 1 then (some (decide (a0 ≤ 6))) else (some false)) = some r := h
  clear h
  by_cases c2 : a0 ≥ 1
  · rw [if_pos c2] at H
    have c2b0 : decide (1 ≤ a0) = true := decide_eq_true c2
    clear c2
    obtain rfl := Option.some.inj H
    go_enter Try.func79, Try.ntmps79
    go_wp2
    go_ret
    exact ⟨by first | rfl | (simp; done) | (simp [*]; done), by repeat (first | exact Drawn0.refl _ | apply Drawn0.step)⟩
  · rw [if_neg c2] at H
    have c2b0 : decide (1 ≤ a0) = false := decide_eq_false c2
    clear c2
    obtain rfl := Option.some.inj H
    go_enter Try.func79, Try.ntmps79
    go_wp2
    go_ret
    exact ⟨by first | rfl | (simp; done) | (simp [*]; done), by repeat (first | exact Drawn0.refl _ | apply Drawn0.step)⟩

/-! ### impl_FallOrder_1: function 78 -/
def impl_FallOrder_1.n (x : Int) : Bool := decide (1 ≤ x ∧ x ≤ 6)
theorem impl_FallOrder_1.n_some (x : Int) : impl_isNail.f x = some (impl_FallOrder_1.n x) := by
  unfold impl_isNail.f impl_FallOrder_1.n
  by_cases h : x ≥ 1
  · rw [if_pos h]; refine congrArg some ?_; rw [Bool.eq_iff_iff, decide_eq_true_iff, decide_eq_true_iff]; omega
  · rw [if_neg h, decide_eq_false (by omega)]
set_option maxHeartbeats 1000000 in
theorem impl_FallOrder_1.lit (x : Int) (w : World) : Calls Try.prog 78 #[.int .i64 x] w fun e w' => e = .returned (.bool (!impl_FallOrder_1.n x)) ∧ ∃ q', w' = w.drewN q' := by
  have hc := impl_isNail.calls x (impl_FallOrder_1.n x) w (impl_FallOrder_1.n_some x)
  go_enter Try.func78, Try.ntmps78
  go_wp2_with (go_at_call 79; refine hc.mono ?_; rintro e w' ⟨rfl, ⟨nd, rfl⟩⟩)
  go_ret
  exact ⟨rfl, _, rfl⟩
def impl_FallOrder_1.f (l0 : List Int) : Option Bool := some (l0.any fun x => !impl_FallOrder_1.n x)
theorem impl_FallOrder_1.calls (A0 : Option Addr) (c0 : Nat) (l0 : List Int) (r : Bool) (w : World) (hr0 : Kd.C (Kd.int .i64) w A0 l0.length l0) (_hc0 : l0.length ≤ c0) (h : impl_FallOrder_1.f l0 = some r) :
    Calls Try.prog 77 #[.slice A0 l0.length c0, .func (.func 78) #[] #[]] w fun e w' => e = .returned (.bool r) ∧ Drawn0 w w' := by
  have eg : ∀ args w, (callFunc 78 args).run Try.prog w = .ok (.enter 78 args) w := enters_of Try.func78 (by kernel_rfl) rfl
  obtain rfl := Option.some.inj h
  refine (slices_ContainsFunc_int_int_77.gen (fun x => !impl_FallOrder_1.n x) 78 #[] eg A0 c0 l0 w hr0 (fun x q => impl_FallOrder_1.lit x _)).mono ?_
  rintro e w' ⟨rfl, q, rfl⟩
  exact ⟨rfl, ⟨_, rfl⟩⟩

end Go.Proofs.Ytjjoinhackfmnaa.P
