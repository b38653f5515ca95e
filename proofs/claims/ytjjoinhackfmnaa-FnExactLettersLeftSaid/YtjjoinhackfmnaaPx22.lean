/- Each call of a Go function named below comes to exactly the answers of the Lean function of its name, and a law row follows from its plain statement. No condition beyond those that each theorem states. -/
import Derived.Test.YtjjoinhackfmnaaPx0
import Derived.Test.YtjjoinhackfmnaaPx1
import Derived.Test.YtjjoinhackfmnaaPx2
import Derived.Test.YtjjoinhackfmnaaPx4
import Derived.Test.YtjjoinhackfmnaaPx6
import Derived.Test.YtjjoinhackfmnaaPx12
import Derived.Test.YtjjoinhackfmnaaPx15
import Derived.Test.YtjjoinhackfmnaaPx19
import Derived.Test.YtjjoinhackfmnaaPx20
import Derived.Test.YtjjoinhackfmnaaPx21
namespace Go.Proofs.Ytjjoinhackfmnaa.P
open Go.RowKit Go.Proofs.YtjjoinhackfmnaaW.PrintWords Go.Proofs.YtjjoinhackfmnaaW.PrintLast Go.Proofs.YtjjoinhackfmnaaW.PrintMore
attribute [local go_sem] max2_int min2_int max_two min_two max_three min_three max_four min_four   -- for this text's walks alone
set_option linter.unusedVariables false
set_option linter.unusedSimpArgs false

/-! ### laws_FnExactLettersLeft: function 9 -/
def laws_FnExactLettersLeft.f (k : Nat) (l0 : List Int) : Option Bool := if (l0.length : Int) > 1048576 then some true else (laws_toIntS.f k l0).bind fun t => (spec_LettersLeft.f k t).bind fun p => (impl_LettersLeft.f k t).bind fun q => (laws_eqIntS.f k t t).bind fun e => if q = p ∧ e = true then some true else none
theorem laws_FnExactLettersLeft.mono : ∀ a0 k, LeO (laws_FnExactLettersLeft.f k a0) (laws_FnExactLettersLeft.f (k + 1) a0) := by
  intro a0 k
  unfold laws_FnExactLettersLeft.f
  split
  · exact LeO.refl _
  · exact LeO.bind (laws_toIntS.mono _ _) (fun t => LeO.bind (spec_LettersLeft.mono _ _) (fun p => LeO.bind (impl_LettersLeft.mono _ _) (fun q => LeO.bind (laws_eqIntS.mono _ _ _) (fun e => LeO.refl _))))
set_option maxHeartbeats 8000000 in
set_option maxRecDepth 100000 in
theorem laws_FnExactLettersLeft.calls (k : Nat) (A0 : Option Addr) (c0 : Nat) (l0 : List Int) (r : Bool) (w : World) (hr0 : Kd.C (Kd.int .i64) w A0 l0.length l0) (hc0 : l0.length ≤ c0) (h : laws_FnExactLettersLeft.f k l0 = some r) :
    Calls Try.prog 9 #[.slice A0 l0.length c0] w fun e w' => e = .returned (.bool r) ∧ Below w.heap.size w w' := by
  unfold laws_FnExactLettersLeft.f at h
  by_cases hbig : (l0.length : Int) > 1048576
  · rw [if_pos hbig] at h
    obtain rfl := Option.some.inj h
    clear h hr0
    go_enter Try.func9, Try.ntmps9
    go_wp2
    go_ret
    exact ⟨rfl, Below.refl _ _⟩
  rw [if_neg hbig] at h
  replace h := Option.bind_eq_some_iff.1 h
  obtain ⟨t, ht, h⟩ := h
  replace h := Option.bind_eq_some_iff.1 h
  obtain ⟨⟨p1, p2⟩, hp, h⟩ := h
  replace h := Option.bind_eq_some_iff.1 h
  obtain ⟨⟨q1, q2⟩, hq, h⟩ := h
  replace h := Option.bind_eq_some_iff.1 h
  obtain ⟨e, he, h⟩ := h
  have hcond : ((q1, q2) = (p1, p2)) ∧ e = true := by
    by_cases hc : ((q1, q2) = (p1, p2)) ∧ e = true
    · exact hc
    · rw [if_neg hc] at h; exact absurd h (by simp)
  rw [if_pos hcond] at h
  obtain ⟨hqp, rfl⟩ := hcond
  obtain ⟨rfl, rfl⟩ : q1 = p1 ∧ q2 = p2 := by simpa using hqp
  obtain rfl := Option.some.inj h
  have hinfo : (Try.prog.info? 49).map (fun i => (i.zero, i.size, i.bytes)) = some (some (.agg ((List.replicate 64 (0 : Int)).map (Value.int .i64)).toArray), 64, 512) := by kernel_rfl
  have hz := arr_zero (P := Try.prog) hinfo
  have hsz := arr_size (P := Try.prog) hinfo
  obtain ⟨zs, hzs⟩ : ∃ zs : List Value, zs = (List.replicate 64 (0 : Int)).map (Value.int .i64) := ⟨_, rfl⟩
  have hz1 : ∀ v, (Value.agg v).cells = v := fun _ => rfl
  have hz2 : ∀ W, (zeroValue 49).run Try.prog W = .ok (.agg zs.toArray) W := by rw [hzs]; exact hz
  have hl : zs.length = 64 := by rw [hzs]; simp
  have HSZ := Aside0.mk hsz
  have HT := Aside0.mk (fun W (hB : Below w.heap.size w W) => laws_toIntS.calls k A0 c0 l0 t W (Kd.C_below hr0 hB) hc0 ht)
  have HP := Aside0.mk (fun W A c (hC : Kd.C (Kd.int .i64) W A t.length t) (hc : t.length ≤ c) => spec_LettersLeft.calls k A c t q1 q2 W hC hc hp)
  have HQ := Aside0.mk (fun W A c (hC : Kd.C (Kd.int .i64) W A t.length t) (hc : t.length ≤ c) => impl_LettersLeft.calls k A c t q1 q2 W hC hc hq)
  have HE := Aside0.mk (fun W A c A' c' (hC : Kd.C (Kd.int .i64) W A t.length t) (hc : t.length ≤ c) (hC' : Kd.C (Kd.int .i64) W A' t.length t) (hc' : t.length ≤ c') => laws_eqIntS.calls k A c t A' c' t true W hC hc hC' hc' he)
  have HEB := Aside0.mk (fun W => laws_eqIntA64.calls q1 q1 true W (by unfold laws_eqIntA64.f; simp))
  have hlq : (q1.1.map (Value.int .i64)).length = 64 := by simpa using q1.2
  have hbz : (!(q2 == q2)) = false := by simp
  have HB0 := Aside0.mk (Below.refl w.heap.size w)
  clear hinfo hz hsz hzs hr0 ht hp hq he h hqp
  go_enter Try.func9, Try.ntmps9
  go_wp2_with (first
    | ((with_reducible refine gate_callee (f := 16) rfl ?_); refine goesL_ (some 13) rfl rfl Try.func16 (by kernel_rfl) rfl #[.slice A0 l0.length c0] rfl (by (try simp only [List.map_toArray, List.map_cons, List.map_nil]); first | done | rfl) ?_; refine (HT.out _ HB0.out).mono ?_; rintro e w1 ⟨v1, rfl, ho1, hb1⟩; refine ⟨_, rfl, ?_⟩; have HB1 := Aside0.mk (below_step HB0.out hb1); obtain ⟨A1, c1, e1⟩ := Kd.R_slice ho1; subst e1; have HC1 := Aside0.mk (Kd.R_reads' ho1))
    | (go_at_call 35; refine (HP.out _ A1 c1 HC1.out.2.2 HC1.out.2.1).mono ?_; rintro e w2 ⟨rfl, hb2⟩; have HB2 := Aside0.mk (below_step HB1.out hb2))
    | ((with_reducible refine gate_dst (N := 3) rfl ?_); refine arr_alloc rfl 49 rfl hz2 ?_; rw [hz1])
    | ((with_reducible refine gate_store0 (t := 49) (p := 3) (v := .tmp 15) rfl ?_); refine arr_store (n := 64) (by rfl) (by rfl) 49 (.tmp 3) (.tmp 15) (by rfl) (b := w2.heap.size) (cs := zs) (cs' := q1.1.map (Value.int .i64)) (by rfl) (by rfl) (ArrW.new w2 49 zs) HSZ.out hl hlq (ints_one _) ?_; intro w3 ha3 hot3 hbl3; have HA3 := Aside0.mk ha3; have HB3 := Aside0.mk (hbl3 _ _ (below_alloc HB2.out _) HB2.out.size); clear ha3 hot3 hbl3)
    | ((with_reducible refine gate_callee (f := 16) rfl ?_); refine goesL_ (some 18) rfl rfl Try.func16 (by kernel_rfl) rfl #[.slice A0 l0.length c0] rfl (by (try simp only [List.map_toArray, List.map_cons, List.map_nil]); first | done | rfl) ?_; refine (HT.out _ HB3.out).mono ?_; rintro e w4 ⟨v4, rfl, ho4, hb4⟩; refine ⟨_, rfl, ?_⟩; have HB4 := Aside0.mk (below_step HB3.out hb4); have HA4 := Aside0.mk (HA3.out.below hb4); obtain ⟨A4, c4, e4⟩ := Kd.R_slice ho4; subst e4; have HR4 := Aside0.mk ho4)
    | (go_at_call 36; refine (HQ.out _ A4 c4 (Kd.R_reads' HR4.out).2.2 (Kd.R_reads' HR4.out).2.1).mono ?_; rintro e w5 ⟨rfl, hb5⟩; have HB5 := Aside0.mk (below_step HB4.out hb5); have HA5 := Aside0.mk (HA4.out.below hb5); have HR5 := Aside0.mk (Kd.R_below HR4.out hb5))
    | ((with_reducible refine gate_dst (N := 6) rfl ?_); refine arr_alloc rfl 49 rfl hz2 ?_; rw [hz1])
    | ((with_reducible refine gate_store0 (t := 49) (p := 6) (v := .tmp 22) rfl ?_); refine arr_store (n := 64) (by rfl) (by rfl) 49 (.tmp 6) (.tmp 22) (by rfl) (b := w5.heap.size) (cs := zs) (cs' := q1.1.map (Value.int .i64)) (by rfl) (by rfl) (ArrW.new w5 49 zs) HSZ.out hl hlq (ints_one _) ?_; intro w6 ha6 hot6 hbl6; have HA6 := Aside0.mk ha6; have HAB6 : Aside0 (ArrW w6 w2.heap.size 49 (q1.1.map (Value.int .i64))) := (⟨(hot6 w2.heap.size (by have := HA5.out.lt; omega)).trans (HA5.out.alloc _)⟩); have HB6 := Aside0.mk (hbl6 _ _ (below_alloc HB5.out _) HB5.out.size); have HS6 := Aside0.mk (hbl6 _ _ (below_alloc (Below.refl w5.heap.size w5) _) (Nat.le_refl _)); have HR6 := Aside0.mk (Kd.R_below HR5.out HS6.out); clear ha6 hot6 hbl6)
    | ((with_reducible refine gate_dst (N := 24) rfl ?_); refine arr_load (n := 64) (by rfl) 49 (.tmp 6) (by rfl) (b := w5.heap.size) (by rfl) HA6.out Try.underlying49 rfl HSZ.out hlq ?_)
    | ((with_reducible refine gate_dst (N := 25) rfl ?_); refine arr_load (n := 64) (by rfl) 49 (.tmp 3) (by rfl) (b := w2.heap.size) (by rfl) HAB6.out Try.underlying49 rfl HSZ.out hlq ?_)
    | (go_at_call 37; refine (HEB.out _).mono ?_; rintro e w7 ⟨rfl, hb7⟩; have HB7 := Aside0.mk (below_step HB6.out hb7); have HR7 := Aside0.mk (Kd.R_below HR6.out hb7))
    | ((with_reducible refine gate_callee (f := 16) rfl ?_); refine goesL_ (some 35) rfl rfl Try.func16 (by kernel_rfl) rfl #[.slice A0 l0.length c0] rfl (by (try simp only [List.map_toArray, List.map_cons, List.map_nil]); first | done | rfl) ?_; refine (HT.out _ HB7.out).mono ?_; rintro e w8 ⟨v8, rfl, ho8, hb8⟩; refine ⟨_, rfl, ?_⟩; have HB8 := Aside0.mk (below_step HB7.out hb8); have HR8 := Aside0.mk (Kd.R_below HR7.out hb8); obtain ⟨A8, c8, e8⟩ := Kd.R_slice ho8; subst e8; have HO8 := Aside0.mk ho8)
    | (go_at_call 18; refine (HE.out _ A4 c4 A8 c8 (Kd.R_reads' HR8.out).2.2 (Kd.R_reads' HR8.out).2.1 (Kd.R_reads' HO8.out).2.2 (Kd.R_reads' HO8.out).2.1).mono ?_; rintro e w9 ⟨rfl, ⟨nd, rfl⟩⟩))
  go_ret
  exact ⟨rfl, pw_below_drewN HB8.out nd⟩
def laws_FnExactLettersLeft.Pure : Prop := ∀ (l0 : List Int), l0.length ≤ maxLen → l0.length * 8 ≤ 140737488351232 → (∀ x ∈ l0, (Lit.int .i64 x).wf = true) → ∃ k, laws_FnExactLettersLeft.f k l0 = some true
theorem laws_FnExactLettersLeft.walk (P : laws_FnExactLettersLeft.Pure) (a0 : Option Addr) (len0 cap0 : Nat) (z0 : List Int) (w : World) (w0 : (a0 = none ∧ len0 = 0 ∧ cap0 = 0 ∧ z0 = []) ∨ ∃ x, a0 = some x ∧ len0 ≤ cap0 ∧ cap0 ≤ maxLen ∧ z0.length = cap0 ∧ (∀ i, i < z0.length → w.cell? (x.add i) = some (.int .i64 (z0.getD i 0))) ∧ ∀ n ∈ z0, (Lit.int .i64 n).wf = true) (y0 : len0 * 8 ≤ 140737488351232) :
    Calls Try.prog 9 #[.slice a0 len0 cap0] w fun e w' => e = .returned (.bool true) ∧ Below w.heap.size w w' := by
  obtain ⟨l0, rfl, hr0, hm0, hw0, hc0⟩ := ReadsInt.ofRowC w0
  obtain ⟨k, h⟩ := P l0 hm0 y0 hw0
  refine (laws_FnExactLettersLeft.calls k _ _ l0 true w (Kd.C_of_reads (d := (0 : Int)) (h1 := fun _ => rfl) hr0) hc0 h).mono ?_
  rintro e w' ⟨rfl, hd⟩
  exact ⟨rfl, hd⟩

/-! ### spec_TakeOut: function 38 -/
def spec_TakeOut.f (k : Nat) (l0 : List Int) (a1 : Int) : Option (List Int × Bool) := (spec_l2Word.f k l0).bind fun t441 => (if t441 = true then ((spec_l3Set.f a1).bind fun t442 => (if t442 = true then ((spec_l3Take.f k l0 a1).bind fun t443 => (some (t443, true))) else (some ((([] : List Int)), false)))) else (some ((([] : List Int)), false)))
theorem spec_TakeOut.mono : ∀ a0 a1 k, LeO (spec_TakeOut.f k a0 a1) (spec_TakeOut.f (k + 1) a0 a1) := by
  intro a0 a1 k
  unfold spec_TakeOut.f
  repeat' first
      | (with_reducible exact spec_l2Word.mono _ _)
      | (with_reducible exact spec_l3Take.mono _ _ _)
      | (with_reducible exact LeO.refl _)
      | (with_reducible exact LeO.none _)
      | (with_reducible refine LeO.ite ?_ ?_)
      | (with_reducible refine LeO.bind ?_ (fun _ => ?_))
      | exact spec_l2Word.mono _ _
      | exact spec_l3Take.mono _ _ _
      | exact LeO.none _
      | refine LeO.ite ?_ ?_
      | refine LeO.bind ?_ (fun _ => ?_)
set_option maxHeartbeats 8000000 in
set_option maxRecDepth 100000 in
theorem spec_TakeOut.calls (k : Nat) (A0 : Option Addr) (c0 : Nat) (l0 : List Int) (a1 : Int) (r1 : List Int) (r2 : Bool) (w : World) (hr0 : Kd.C (Kd.int .i64) w A0 l0.length l0) (hc0 : l0.length ≤ c0) (h : spec_TakeOut.f k l0 a1 = some (r1, r2)) :
    Calls Try.prog 38 #[.slice A0 l0.length c0, .int .i64 a1] w fun e w' => ∃ v0_ : Value, e = .returned (.tuple #[v0_, .bool r2]) ∧ Kd.R (Kd.int .i64) 3 w' w.heap.size (fun _ => True) v0_ r1 ∧ Below w.heap.size w w' := by
  have HR0 := Aside0.mk hr0
  have HC0 := Aside0.mk hc0
  clear hr0 hc0
  have HB := Aside0.mk (Below.refl w.heap.size w)
  have H : ((spec_l2Word.f k l0).bind fun t441 => (if t441 = true then ((spec_l3Set.f a1).bind fun t442 => (if t442 = true then ((spec_l3Take.f k l0 a1).bind fun t443 => (some (t443, true))) else (some ((([] : List Int)), false)))) else (some ((([] : List Int)), false)))) = some (r1, r2) := h
  clear h
  replace H := Option.bind_eq_some_iff.mp H
  obtain ⟨t441, A30, H⟩ := H
  replace H : (if t441 = true then ((spec_l3Set.f a1).bind fun t442 => (if t442 = true then ((spec_l3Take.f k l0 a1).bind fun t443 => (some (t443, true))) else (some ((([] : List Int)), false)))) else (some ((([] : List Int)), false))) = some (r1, r2) := H
  have A3 := Aside0.mk A30
  clear A30
  by_cases c4 : t441 = true
  · subst c4
    have H1 : ((spec_l3Set.f a1).bind fun t442 => (if t442 = true then ((spec_l3Take.f k l0 a1).bind fun t443 => (some (t443, true))) else (some ((([] : List Int)), false)))) = some (r1, r2) := by rw [if_pos rfl] at H; exact H
    clear H
    have H := H1
    clear H1
    replace H := Option.bind_eq_some_iff.mp H
    obtain ⟨t442, A50, H⟩ := H
    replace H : (if t442 = true then ((spec_l3Take.f k l0 a1).bind fun t443 => (some (t443, true))) else (some ((([] : List Int)), false))) = some (r1, r2) := H
    have A5 := Aside0.mk A50
    clear A50
    by_cases c6 : t442 = true
    · subst c6
      have H1 : ((spec_l3Take.f k l0 a1).bind fun t443 => (some (t443, true))) = some (r1, r2) := by rw [if_pos rfl] at H; exact H
      clear H
      have H := H1
      clear H1
      replace H := Option.bind_eq_some_iff.mp H
      obtain ⟨t443, A70, H⟩ := H
      replace H : (some (t443, true)) = some (r1, r2) := H
      have A7 := Aside0.mk A70
      clear A70
      simp only [Option.some.injEq, Prod.mk.injEq] at H
      obtain ⟨rfl, rfl⟩ := H
      go_enter Try.func38, Try.ntmps38
      go_wp2_with (first | ((with_reducible refine gate_callee (f := 49) rfl ?_); refine goesL_ (some 7) rfl rfl Try.func49 (by kernel_rfl) rfl #[.slice A0 l0.length c0] rfl (by (try simp only [List.map_toArray, List.map_cons, List.map_nil]); first | done | rfl | (simp only [List.length_drop, List.length_take]; rfl)) ?_; (with_reducible refine (spec_l2Word.calls k _ _ l0 true _ ?side1 ?side2 A3.out).mono ?_); (case side1 => repeat (first | exact HR0.out | (with_reducible refine Kd.C_alloc ?_ _) | (with_reducible refine Kd.C_drewN ?_ _) | (with_reducible refine Kd.C_drew ?_))); (case side2 => exact HC0.out); rintro e w' ⟨rfl, ⟨nd, rfl⟩⟩; refine ⟨_, rfl, ?_⟩) | (go_at_call 65; (with_reducible refine (spec_l3Set.calls a1 true _ A5.out).mono ?_); rintro e w' ⟨rfl, ⟨nd, rfl⟩⟩) | ((with_reducible refine gate_callee (f := 73) rfl ?_); refine goesL_ (some 17) rfl rfl Try.func73 (by kernel_rfl) rfl #[.slice A0 l0.length c0, .int .i64 a1] rfl (by (try simp only [List.map_toArray, List.map_cons, List.map_nil]); first | done | rfl | (simp only [List.length_drop, List.length_take]; rfl)) ?_; (with_reducible refine (spec_l3Take.calls k _ _ l0 a1 t443 _ ?side1 ?side2 A7.out).mono ?_); (case side1 => repeat (first | exact HR0.out | (with_reducible refine Kd.C_alloc ?_ _) | (with_reducible refine Kd.C_drewN ?_ _) | (with_reducible refine Kd.C_drew ?_))); (case side2 => exact HC0.out); rintro e w8 ⟨v444, rfl, ho0, hb⟩; refine ⟨_, rfl, ?_⟩; have n0_ := Aside0.mk (Kd.R_lower ho0 (below_size (by repeat (first | (with_reducible first | exact HB.out | apply below_alloc | apply pw_below_drewN | apply below_drew1) | exact HB.out)))); have n1_ := Aside0.mk (below_step (by repeat (first | (with_reducible first | exact HB.out | apply below_alloc | apply pw_below_drewN | apply below_drew1) | exact HB.out)) hb); clear HB; have HO445 := n0_; have HB := n1_; clear n0_ n1_; (try clear hb); (try clear hb2); (try clear hk); (try clear hi); (try clear ho0)))
      go_ret2
      exact ⟨_, by first | rfl | (simp [errW_none, errW_some] <;> rfl) | (simp [*, errW_none, errW_some] <;> rfl), by (with_reducible repeat (first | apply Kd.R_alloc | apply Kd.R_drewN | apply Kd.R_drew)); exact HO445.out, by repeat (first | (with_reducible first | exact HB.out | apply below_alloc | apply pw_below_drewN | apply below_drew1) | exact HB.out)⟩
    · replace c6 := Bool.eq_false_iff.mpr c6
      subst c6
      have H1 : (some ((([] : List Int)), false)) = some (r1, r2) := by rw [if_neg (show ¬ (false = true) by decide)] at H; exact H
      clear H
      have H := H1
      clear H1
      obtain ⟨y446, hy446⟩ : ∃ y_ : List Int, y_ = (([] : List Int)) := ⟨_, rfl⟩
      replace H : (some (y446, false)) = some (r1, r2) := by first | (rw [hy446]; with_reducible exact H) | (have H2_ := (Option.bind_some _ _).symm.trans H; rw [hy446]; with_reducible exact H2_) | (have H2_ := (Option.bind_some _ _).symm.trans H; with_reducible exact H2_) | with_reducible exact H | (rw [hy446]; exact H) | exact H
      have Ny446 := Aside0.mk hy446
      clear hy446
      simp only [Option.some.injEq, Prod.mk.injEq] at H
      obtain ⟨rfl, rfl⟩ := H
      go_enter Try.func38, Try.ntmps38
      go_wp2_with (first | ((with_reducible refine gate_callee (f := 49) rfl ?_); refine goesL_ (some 7) rfl rfl Try.func49 (by kernel_rfl) rfl #[.slice A0 l0.length c0] rfl (by (try simp only [List.map_toArray, List.map_cons, List.map_nil]); first | done | rfl | (simp only [List.length_drop, List.length_take]; rfl)) ?_; (with_reducible refine (spec_l2Word.calls k _ _ l0 true _ ?side1 ?side2 A3.out).mono ?_); (case side1 => repeat (first | exact HR0.out | (with_reducible refine Kd.C_alloc ?_ _) | (with_reducible refine Kd.C_drewN ?_ _) | (with_reducible refine Kd.C_drew ?_))); (case side2 => exact HC0.out); rintro e w' ⟨rfl, ⟨nd, rfl⟩⟩; refine ⟨_, rfl, ?_⟩) | (go_at_call 65; (with_reducible refine (spec_l3Set.calls a1 false _ A5.out).mono ?_); rintro e w' ⟨rfl, ⟨nd, rfl⟩⟩) | ((with_reducible refine gate_dst (N := 14) rfl ?_); refine Kd.R_lit (Kd.int .i64) _ 3 ?hg (N := 14) ?hd (xs := ([] : List Int)) (inner := []) (ok := fun _ => True) (okp := fun _ => True) ?hr ?hp (fun _ hk => hk) trivial (Below.refl _ _) (Nat.le_refl _) (by simp) ?_; (case hd => rfl); (case hg => rfl); (case hr => first | (go_simp; done) | (go_simp; rfl)); (case hp => exact (Reps.none _ _)); intro v447 w9 ho10 hb hg_ hnew_; clear hg_ hnew_; (first | rw [← Ny446.out] at ho10 | (simp only [Int.reduceToNat] at ho10; rw [← Ny446.out] at ho10)); have n0_ := Aside0.mk (Kd.R_lower ho10 (below_size (by repeat (first | (with_reducible first | exact HB.out | apply below_alloc | apply pw_below_drewN | apply below_drew1) | exact HB.out)))); have n1_ := Aside0.mk (below_step (by repeat (first | (with_reducible first | exact HB.out | apply below_alloc | apply pw_below_drewN | apply below_drew1) | exact HB.out)) hb); clear HB; have HO448 := n0_; have HB := n1_; clear n0_ n1_; clear hb ho10))
      go_ret2
      exact ⟨_, by first | rfl | (simp [errW_none, errW_some] <;> rfl) | (simp [*, errW_none, errW_some] <;> rfl), by (with_reducible repeat (first | apply Kd.R_alloc | apply Kd.R_drewN | apply Kd.R_drew)); exact HO448.out, by repeat (first | (with_reducible first | exact HB.out | apply below_alloc | apply pw_below_drewN | apply below_drew1) | exact HB.out)⟩
  · replace c4 := Bool.eq_false_iff.mpr c4
    subst c4
    have H1 : (some ((([] : List Int)), false)) = some (r1, r2) := by rw [if_neg (show ¬ (false = true) by decide)] at H; exact H
    clear H
    have H := H1
    clear H1
    obtain ⟨y449, hy449⟩ : ∃ y_ : List Int, y_ = (([] : List Int)) := ⟨_, rfl⟩
    replace H : (some (y449, false)) = some (r1, r2) := by first | (rw [hy449]; with_reducible exact H) | (have H2_ := (Option.bind_some _ _).symm.trans H; rw [hy449]; with_reducible exact H2_) | (have H2_ := (Option.bind_some _ _).symm.trans H; with_reducible exact H2_) | with_reducible exact H | (rw [hy449]; exact H) | exact H
    have Ny449 := Aside0.mk hy449
    clear hy449
    simp only [Option.some.injEq, Prod.mk.injEq] at H
    obtain ⟨rfl, rfl⟩ := H
    go_enter Try.func38, Try.ntmps38
    go_wp2_with (first | ((with_reducible refine gate_callee (f := 49) rfl ?_); refine goesL_ (some 7) rfl rfl Try.func49 (by kernel_rfl) rfl #[.slice A0 l0.length c0] rfl (by (try simp only [List.map_toArray, List.map_cons, List.map_nil]); first | done | rfl | (simp only [List.length_drop, List.length_take]; rfl)) ?_; (with_reducible refine (spec_l2Word.calls k _ _ l0 false _ ?side1 ?side2 A3.out).mono ?_); (case side1 => repeat (first | exact HR0.out | (with_reducible refine Kd.C_alloc ?_ _) | (with_reducible refine Kd.C_drewN ?_ _) | (with_reducible refine Kd.C_drew ?_))); (case side2 => exact HC0.out); rintro e w' ⟨rfl, ⟨nd, rfl⟩⟩; refine ⟨_, rfl, ?_⟩) | ((with_reducible refine gate_dst (N := 14) rfl ?_); refine Kd.R_lit (Kd.int .i64) _ 3 ?hg (N := 14) ?hd (xs := ([] : List Int)) (inner := []) (ok := fun _ => True) (okp := fun _ => True) ?hr ?hp (fun _ hk => hk) trivial (Below.refl _ _) (Nat.le_refl _) (by simp) ?_; (case hd => rfl); (case hg => rfl); (case hr => first | (go_simp; done) | (go_simp; rfl)); (case hp => exact (Reps.none _ _)); intro v450 w11 ho12 hb hg_ hnew_; clear hg_ hnew_; (first | rw [← Ny449.out] at ho12 | (simp only [Int.reduceToNat] at ho12; rw [← Ny449.out] at ho12)); have n0_ := Aside0.mk (Kd.R_lower ho12 (below_size (by repeat (first | (with_reducible first | exact HB.out | apply below_alloc | apply pw_below_drewN | apply below_drew1) | exact HB.out)))); have n1_ := Aside0.mk (below_step (by repeat (first | (with_reducible first | exact HB.out | apply below_alloc | apply pw_below_drewN | apply below_drew1) | exact HB.out)) hb); clear HB; have HO451 := n0_; have HB := n1_; clear n0_ n1_; clear hb ho12))
    go_ret2
    exact ⟨_, by first | rfl | (simp [errW_none, errW_some] <;> rfl) | (simp [*, errW_none, errW_some] <;> rfl), by (with_reducible repeat (first | apply Kd.R_alloc | apply Kd.R_drewN | apply Kd.R_drew)); exact HO451.out, by repeat (first | (with_reducible first | exact HB.out | apply below_alloc | apply pw_below_drewN | apply below_drew1) | exact HB.out)⟩

/-! ### impl_TakeOut: function 39 -/
def impl_TakeOut.f (k : Nat) (l0 : List Int) (a1 : Int) : Option (List Int × Bool) := (impl_isWord.f l0).bind fun t452 => (if t452 = true then ((impl_isSet.f a1).bind fun t453 => (if t453 = true then ((impl_taken.f k l0 a1).bind fun t454 => (some (t454, true))) else (some (([] : List Int), false)))) else (some (([] : List Int), false)))
theorem impl_TakeOut.mono : ∀ a0 a1 k, LeO (impl_TakeOut.f k a0 a1) (impl_TakeOut.f (k + 1) a0 a1) := by
  intro a0 a1 k
  unfold impl_TakeOut.f
  repeat' first
      | (with_reducible exact impl_taken.mono _ _ _)
      | (with_reducible exact LeO.refl _)
      | (with_reducible exact LeO.none _)
      | (with_reducible refine LeO.ite ?_ ?_)
      | (with_reducible refine LeO.bind ?_ (fun _ => ?_))
      | exact impl_taken.mono _ _ _
      | exact LeO.none _
      | refine LeO.ite ?_ ?_
      | refine LeO.bind ?_ (fun _ => ?_)
set_option maxHeartbeats 8000000 in
set_option maxRecDepth 100000 in
theorem impl_TakeOut.calls (k : Nat) (A0 : Option Addr) (c0 : Nat) (l0 : List Int) (a1 : Int) (r1 : List Int) (r2 : Bool) (w : World) (hr0 : Kd.C (Kd.int .i64) w A0 l0.length l0) (hc0 : l0.length ≤ c0) (h : impl_TakeOut.f k l0 a1 = some (r1, r2)) :
    Calls Try.prog 39 #[.slice A0 l0.length c0, .int .i64 a1] w fun e w' => ∃ v0_ : Value, e = .returned (.tuple #[v0_, .bool r2]) ∧ Kd.R (Kd.int .i64) 3 w' w.heap.size (fun _ => True) v0_ r1 ∧ Below w.heap.size w w' := by
  have HR0 := Aside0.mk hr0
  have HC0 := Aside0.mk hc0
  clear hr0 hc0
  have HB := Aside0.mk (Below.refl w.heap.size w)
  have H : ((impl_isWord.f l0).bind fun t452 => (if t452 = true then ((impl_isSet.f a1).bind fun t453 => (if t453 = true then ((impl_taken.f k l0 a1).bind fun t454 => (some (t454, true))) else (some (([] : List Int), false)))) else (some (([] : List Int), false)))) = some (r1, r2) := h
  clear h
  replace H := Option.bind_eq_some_iff.mp H
  obtain ⟨t452, A30, H⟩ := H
  replace H : (if t452 = true then ((impl_isSet.f a1).bind fun t453 => (if t453 = true then ((impl_taken.f k l0 a1).bind fun t454 => (some (t454, true))) else (some (([] : List Int), false)))) else (some (([] : List Int), false))) = some (r1, r2) := H
  have A3 := Aside0.mk A30
  clear A30
  by_cases c4 : t452 = true
  · subst c4
    have H1 : ((impl_isSet.f a1).bind fun t453 => (if t453 = true then ((impl_taken.f k l0 a1).bind fun t454 => (some (t454, true))) else (some (([] : List Int), false)))) = some (r1, r2) := by rw [if_pos rfl] at H; exact H
    clear H
    have H := H1
    clear H1
    replace H := Option.bind_eq_some_iff.mp H
    obtain ⟨t453, A50, H⟩ := H
    replace H : (if t453 = true then ((impl_taken.f k l0 a1).bind fun t454 => (some (t454, true))) else (some (([] : List Int), false))) = some (r1, r2) := H
    have A5 := Aside0.mk A50
    clear A50
    by_cases c6 : t453 = true
    · subst c6
      have H1 : ((impl_taken.f k l0 a1).bind fun t454 => (some (t454, true))) = some (r1, r2) := by rw [if_pos rfl] at H; exact H
      clear H
      have H := H1
      clear H1
      replace H := Option.bind_eq_some_iff.mp H
      obtain ⟨t454, A70, H⟩ := H
      replace H : (some (t454, true)) = some (r1, r2) := H
      have A7 := Aside0.mk A70
      clear A70
      simp only [Option.some.injEq, Prod.mk.injEq] at H
      obtain ⟨rfl, rfl⟩ := H
      go_enter Try.func39, Try.ntmps39
      go_wp2_with (first | ((with_reducible refine gate_callee (f := 51) rfl ?_); refine goesL_ (some 7) rfl rfl Try.func51 (by kernel_rfl) rfl #[.slice A0 l0.length c0] rfl (by (try simp only [List.map_toArray, List.map_cons, List.map_nil]); first | done | rfl | (simp only [List.length_drop, List.length_take]; rfl)) ?_; (with_reducible refine (impl_isWord.calls _ _ l0 true _ ?side1 ?side2 A3.out).mono ?_); (case side1 => repeat (first | exact HR0.out | (with_reducible refine Kd.C_alloc ?_ _) | (with_reducible refine Kd.C_drewN ?_ _) | (with_reducible refine Kd.C_drew ?_))); (case side2 => exact HC0.out); rintro e w' ⟨rfl, ⟨nd, rfl⟩⟩; refine ⟨_, rfl, ?_⟩) | (go_at_call 67; (with_reducible refine (impl_isSet.calls a1 true _ A5.out).mono ?_); rintro e w' ⟨rfl, ⟨nd, rfl⟩⟩) | ((with_reducible refine gate_callee (f := 74) rfl ?_); refine goesL_ (some 16) rfl rfl Try.func74 (by kernel_rfl) rfl #[.slice A0 l0.length c0, .int .i64 a1] rfl (by (try simp only [List.map_toArray, List.map_cons, List.map_nil]); first | done | rfl | (simp only [List.length_drop, List.length_take]; rfl)) ?_; (with_reducible refine (impl_taken.calls k _ _ l0 a1 t454 _ ?side1 ?side2 A7.out).mono ?_); (case side1 => repeat (first | exact HR0.out | (with_reducible refine Kd.C_alloc ?_ _) | (with_reducible refine Kd.C_drewN ?_ _) | (with_reducible refine Kd.C_drew ?_))); (case side2 => exact HC0.out); rintro e w8 ⟨v455, rfl, ho0, hb⟩; refine ⟨_, rfl, ?_⟩; have n0_ := Aside0.mk (Kd.R_lower ho0 (below_size (by repeat (first | (with_reducible first | exact HB.out | apply below_alloc | apply pw_below_drewN | apply below_drew1) | exact HB.out)))); have n1_ := Aside0.mk (below_step (by repeat (first | (with_reducible first | exact HB.out | apply below_alloc | apply pw_below_drewN | apply below_drew1) | exact HB.out)) hb); clear HB; have HO456 := n0_; have HB := n1_; clear n0_ n1_; (try clear hb); (try clear hb2); (try clear hk); (try clear hi); (try clear ho0)))
      go_ret2
      exact ⟨_, by first | rfl | (simp [errW_none, errW_some] <;> rfl) | (simp [*, errW_none, errW_some] <;> rfl), by (with_reducible repeat (first | apply Kd.R_alloc | apply Kd.R_drewN | apply Kd.R_drew)); exact HO456.out, by repeat (first | (with_reducible first | exact HB.out | apply below_alloc | apply pw_below_drewN | apply below_drew1) | exact HB.out)⟩
    · replace c6 := Bool.eq_false_iff.mpr c6
      subst c6
      have H1 : (some (([] : List Int), false)) = some (r1, r2) := by rw [if_neg (show ¬ (false = true) by decide)] at H; exact H
      clear H
      have H := H1
      clear H1
      simp only [Option.some.injEq, Prod.mk.injEq] at H
      obtain ⟨rfl, rfl⟩ := H
      go_enter Try.func39, Try.ntmps39
      go_wp2_with (first | ((with_reducible refine gate_callee (f := 51) rfl ?_); refine goesL_ (some 7) rfl rfl Try.func51 (by kernel_rfl) rfl #[.slice A0 l0.length c0] rfl (by (try simp only [List.map_toArray, List.map_cons, List.map_nil]); first | done | rfl | (simp only [List.length_drop, List.length_take]; rfl)) ?_; (with_reducible refine (impl_isWord.calls _ _ l0 true _ ?side1 ?side2 A3.out).mono ?_); (case side1 => repeat (first | exact HR0.out | (with_reducible refine Kd.C_alloc ?_ _) | (with_reducible refine Kd.C_drewN ?_ _) | (with_reducible refine Kd.C_drew ?_))); (case side2 => exact HC0.out); rintro e w' ⟨rfl, ⟨nd, rfl⟩⟩; refine ⟨_, rfl, ?_⟩) | (go_at_call 67; (with_reducible refine (impl_isSet.calls a1 false _ A5.out).mono ?_); rintro e w' ⟨rfl, ⟨nd, rfl⟩⟩))
      go_ret2
      exact ⟨_, by first | rfl | (simp [errW_none, errW_some] <;> rfl) | (simp [*, errW_none, errW_some] <;> rfl), by first | exact Kd.R_nil _ _ _ _ _ | exact Kd.N_nil _ _ _ _ _ | exact Kd.V_nil _ _ _ _ _ | exact Kd.Q_nil _ _ _ _ _ | exact Kd.S_nil _ _ _ _ _, by repeat (first | (with_reducible first | exact HB.out | apply below_alloc | apply pw_below_drewN | apply below_drew1) | exact HB.out)⟩
  · replace c4 := Bool.eq_false_iff.mpr c4
    subst c4
    have H1 : (some (([] : List Int), false)) = some (r1, r2) := by rw [if_neg (show ¬ (false = true) by decide)] at H; exact H
    clear H
    have H := H1
    clear H1
    simp only [Option.some.injEq, Prod.mk.injEq] at H
    obtain ⟨rfl, rfl⟩ := H
    go_enter Try.func39, Try.ntmps39
    go_wp2_with (first | ((with_reducible refine gate_callee (f := 51) rfl ?_); refine goesL_ (some 7) rfl rfl Try.func51 (by kernel_rfl) rfl #[.slice A0 l0.length c0] rfl (by (try simp only [List.map_toArray, List.map_cons, List.map_nil]); first | done | rfl | (simp only [List.length_drop, List.length_take]; rfl)) ?_; (with_reducible refine (impl_isWord.calls _ _ l0 false _ ?side1 ?side2 A3.out).mono ?_); (case side1 => repeat (first | exact HR0.out | (with_reducible refine Kd.C_alloc ?_ _) | (with_reducible refine Kd.C_drewN ?_ _) | (with_reducible refine Kd.C_drew ?_))); (case side2 => exact HC0.out); rintro e w' ⟨rfl, ⟨nd, rfl⟩⟩; refine ⟨_, rfl, ?_⟩))
    go_ret2
    exact ⟨_, by first | rfl | (simp [errW_none, errW_some] <;> rfl) | (simp [*, errW_none, errW_some] <;> rfl), by first | exact Kd.R_nil _ _ _ _ _ | exact Kd.N_nil _ _ _ _ _ | exact Kd.V_nil _ _ _ _ _ | exact Kd.Q_nil _ _ _ _ _ | exact Kd.S_nil _ _ _ _ _, by repeat (first | (with_reducible first | exact HB.out | apply below_alloc | apply pw_below_drewN | apply below_drew1) | exact HB.out)⟩

end Go.Proofs.Ytjjoinhackfmnaa.P
