/- Each call of a Go function named below comes to exactly the answers of the Lean function of its name, and a law row follows from its plain statement. No condition beyond those that each theorem states. -/
import Derived.Test.YtheicbcedhfahaaPx0
namespace Go.Proofs.Ytheicbcedhfahaa.P
open Go.RowKit Go.Proofs.YtheicbcedhfahaaW.PrintWords Go.Proofs.YtheicbcedhfahaaW.PrintLast Go.Proofs.YtheicbcedhfahaaW.PrintMore
attribute [local go_sem] max2_int min2_int max_two min_two max_three min_three max_four min_four   -- for this text's walks alone
set_option linter.unusedVariables false
set_option linter.unusedSimpArgs false

/-! ### spec_l3Edge: function 101 -/
theorem spec_l3Edge.get {n : Nat} (x : TabB n) (i : Int) (h0 : 0 ≤ i) (h1 : i < n) : (x.1.map Value.bool)[i.toNat]? = some (.bool (x.rd i)) := by
  have := TabB.get x i h0 h1
  unfold TabB.v at this
  rwa [List.getElem?_toArray] at this
def spec_l3Edge.o (s z : Int) : Int := Go.bits .xor .i64 s (shl .i64 1 z)
def spec_l3Edge.bad (x : TabB 64) (s : Int) (v : Bool) (z : Int) : Bool := (x.rd (spec_l3Edge.o s z) == v) && (decide (spec_l3Edge.o s z < s) == v)
def spec_l3Edge.f (x : TabB 64) (s : Int) (v : Bool) : Option Bool := if 0 ≤ s ∧ s < 64 then some (!((List.range 6).any fun n => spec_l3Edge.bad x s v (n : Int)) && (x.rd s == v)) else none
theorem spec_l3Edge.o_at : ∀ (s : Fin 64) (n : Fin 6), 0 ≤ Go.bits .xor .i64 (s.val : Int) (shl .i64 1 (n.val : Int)) ∧ Go.bits .xor .i64 (s.val : Int) (shl .i64 1 (n.val : Int)) < 64 := by decide +kernel
theorem spec_l3Edge.o_in (s z : Int) (hs : 0 ≤ s ∧ s < 64) (hz : 0 ≤ z ∧ z < 6) : 0 ≤ spec_l3Edge.o s z ∧ spec_l3Edge.o s z < 64 := by
  have := spec_l3Edge.o_at ⟨s.toNat, by omega⟩ ⟨z.toNat, by omega⟩
  rw [show ((s.toNat : Nat) : Int) = s from by omega, show ((z.toNat : Nat) : Int) = z from by omega] at this
  exact this
set_option maxHeartbeats 8000000 in
set_option maxRecDepth 100000 in
theorem spec_l3Edge.calls (x : TabB 64) (s : Int) (v : Bool) (r : Bool) (w : World) (h : spec_l3Edge.f x s v = some r) :
    Calls Try.prog 101 #[.agg (TabB.v x), .int .i64 s, .bool v] w fun e w' => e = .returned (.bool r) ∧ Below w.heap.size w w' := by
  unfold spec_l3Edge.f at h
  by_cases hs : 0 ≤ s ∧ s < 64
  · rw [if_pos hs] at h
    have HR := Aside0.mk (Option.some.inj h)
    clear h
    obtain ⟨hs0, hs1⟩ := hs
    obtain ⟨w2, hw2⟩ : ∃ w2, w2 = w.alloc (.cells (TabB.v x) 65) := ⟨_, rfl⟩
    have HX : Aside0 (ArrW w2 w.heap.size 65 (x.1.map Value.bool)) := ⟨by rw [hw2]; exact ArrW.new w 65 (x.1.map Value.bool)⟩
    have HB : Aside0 (Below w.heap.size w w2) := ⟨by rw [hw2]; exact below_alloc (Below.refl _ _) _⟩
    have HW := Aside0.mk hw2.symm
    clear hw2
    have hc1 : (Value.agg (TabB.v x)).cells = TabB.v x := rfl
    go_enter Try.func101, Try.ntmps101
    go_wp2
    rw [HW.out]
    clear HW hc1
    go_loopg [7] 6 (fun gg s7 wr => ∃ z : Int, 0 ≤ z ∧ z ≤ 6 ∧ (6 - z).toNat ≤ gg ∧ s7 = .int .i64 z ∧ wr = w2 ∧ Aside0 (∀ j : Int, 0 ≤ j → j < z → spec_l3Edge.bad x s v j = false))
    case atStart => exact ⟨0, by omega, by omega, by omega, rfl, rfl, ⟨fun j h0 h1 => absurd h1 (by omega)⟩⟩
    case round =>
      obtain ⟨z, hz0, hz6, hg, rfl, rfl, HA⟩ := hrel
      by_cases hlt : z < 6
      · have ho := spec_l3Edge.o_in s z ⟨hs0, hs1⟩ ⟨hz0, hlt⟩
        obtain ⟨j, hj⟩ : ∃ j, shl .i64 1 z = j := ⟨_, rfl⟩
        have hjz : wrap64 (2 ^ z.toNat) = j := by
          have h_ : (IntKind.i64.wrap (1 * 2 ^ z.toNat)) = j := shl_small hj (show z ≤ 64 by omega)
          rw [Int.one_mul] at h_
          first | exact h_ | (rw [i64_w] at h_; exact h_) | (simpa [i64_w] using h_)
        have hoo : spec_l3Edge.o s z = Go.bits .xor .i64 s j := by unfold spec_l3Edge.o; rw [hj]
        obtain ⟨o, hoe⟩ : ∃ o, Go.bits .xor .i64 s j = o := ⟨_, rfl⟩
        rw [hoo, hoe] at ho
        obtain ⟨ho0, ho1⟩ := ho
        have hcell := (HX.out.at o.toNat _ (spec_l3Edge.get x o ho0 ho1)).1
        have hbd : spec_l3Edge.bad x s v z = ((x.rd o == v) && (decide (o < s) == v)) := by unfold spec_l3Edge.bad; rw [hoo, hoe]
        have HBD := Aside0.mk hbd
        have HOO := Aside0.mk hoo
        clear hj hoo hbd
        generalize x.rd o = a at hcell HBD
        by_cases hbad : ((a == v) && (decide (o < s) == v)) = true
        · have hany : ((List.range 6).any fun n => spec_l3Edge.bad x s v (n : Int)) = true := by
            rw [List.any_eq_true]
            exact ⟨z.toNat, by simp; omega, by rw [show ((z.toNat : Nat) : Int) = z from by omega, HBD.out]; exact hbad⟩
          have HRF : Aside0 (false = r) := ⟨by rw [← HR.out, hany]; rfl⟩
          clear hany
          rw [Bool.and_eq_true] at hbad
          obtain ⟨hb1, hb2⟩ := hbad
          go_wp2
          go_ret
          exact ⟨by rw [← HRF.out]; rfl, HB.out⟩
        · have hbf : ((a == v) && (decide (o < s) == v)) = false := by simpa using hbad
          have HNB : Aside0 (spec_l3Edge.bad x s v z = false) := ⟨by rw [HBD.out]; exact hbf⟩
          clear hbad
          cases hb1 : (a == v) with
          | false =>
            go_wp2
            go_roundg ((6 - (z + 1)).toNat)
            case measure => omega
            case rel => exact ⟨z + 1, by omega, by omega, by omega, by go_num, rfl, ⟨fun j h0 h1 => by by_cases e : j = z; (· subst e; exact HNB.out); (· exact HA.out j h0 (by omega))⟩⟩
          | true =>
            rw [hb1, Bool.true_and] at hbf
            go_wp2
            go_roundg ((6 - (z + 1)).toNat)
            case measure => omega
            case rel => exact ⟨z + 1, by omega, by omega, by omega, by go_num, rfl, ⟨fun j h0 h1 => by by_cases e : j = z; (· subst e; exact HNB.out); (· exact HA.out j h0 (by omega))⟩⟩
      · have hn : z = 6 := by omega
        subst hn
        have hany : ((List.range 6).any fun n => spec_l3Edge.bad x s v (n : Int)) = false := by
          rw [List.any_eq_false]
          intro n hn
          have := HA.out (n : Int) (by omega) (by simp at hn; omega)
          simpa using this
        have HRF : Aside0 ((x.rd s == v) = r) := ⟨by rw [← HR.out, hany]; rfl⟩
        have hcell := (HX.out.at s.toNat _ (spec_l3Edge.get x s hs0 hs1)).1
        clear hany
        generalize x.rd s = a at hcell HRF
        go_wp2
        go_ret
        exact ⟨by rw [← HRF.out]; rfl, HB.out⟩
  · rw [if_neg hs] at h
    exact absurd h (by simp)

/-! ### spec_l3Edges: function 73 -/
def spec_l3Edges.l0 : Nat → Bool → List Int → Int → (TabB 64) → Option (List Int)
  | 0, _, _, _, _ => none
  | k + 1, x1, x5, x6, x439000 => if x6 < 64 then ((spec_l3Edge.f x439000 x6 x1).bind fun t442 => (if t442 = true then (if x5.length < 17592186044416 then (spec_l3Edges.l0 k x1 (x5 ++ [x6]) (wrap64 (x6 + 1)) x439000) else (none)) else (spec_l3Edges.l0 k x1 x5 (wrap64 (x6 + 1)) x439000))) else (some x5)
def spec_l3Edges.f (k : Nat) (a0 : (TabB 64)) (a1 : Bool) : Option (List Int) := spec_l3Edges.l0 k a1 (([] : List Int)) 0 a0
theorem spec_l3Edges.mono_l : ∀ k, (∀ y0 y1 y2 y3, LeO (spec_l3Edges.l0 k y0 y1 y2 y3) (spec_l3Edges.l0 (k + 1) y0 y1 y2 y3))
  | 0 => fun _ _ _ _ r h => by simp [spec_l3Edges.l0] at h
  | k + 1 => by
    have ih0 := spec_l3Edges.mono_l k
    · intro y0 y1 y2 y3
      unfold spec_l3Edges.l0
      repeat' first
      | (with_reducible exact ih0 _ _ _ _)
      | (with_reducible exact LeO.refl _)
      | (with_reducible exact LeO.none _)
      | (with_reducible refine LeO.ite ?_ ?_)
      | (with_reducible refine LeO.bind ?_ (fun _ => ?_))
      | exact ih0 _ _ _ _
      | exact LeO.none _
      | refine LeO.ite ?_ ?_
      | refine LeO.bind ?_ (fun _ => ?_)
theorem spec_l3Edges.mono : ∀ a0 a1 k, LeO (spec_l3Edges.f k a0 a1) (spec_l3Edges.f (k + 1) a0 a1) := by
  intro a0 a1 k
  have ih0 := spec_l3Edges.mono_l k
  unfold spec_l3Edges.f
  repeat' first
      | (with_reducible exact ih0 _ _ _ _)
      | (with_reducible exact LeO.refl _)
      | (with_reducible exact LeO.none _)
      | (with_reducible refine LeO.ite ?_ ?_)
      | (with_reducible refine LeO.bind ?_ (fun _ => ?_))
      | exact ih0 _ _ _ _
      | exact LeO.none _
      | refine LeO.ite ?_ ?_
      | refine LeO.bind ?_ (fun _ => ?_)
set_option maxHeartbeats 8000000 in
set_option maxRecDepth 100000 in
theorem spec_l3Edges.calls (k : Nat) (a0 : (TabB 64)) (a1 : Bool) (r : List Int) (w : World) (h : spec_l3Edges.f k a0 a1 = some r) :
    Calls Try.prog 73 #[.agg (TabB.v a0), .bool a1] w fun e w' => ∃ v0_ : Value, e = .returned (v0_) ∧ Kd.R (Kd.int .i64) 3 w' w.heap.size (fun _ => True) v0_ r ∧ Below w.heap.size w w' := by
  have HB := Aside0.mk (Below.refl w.heap.size w)
  have H : (spec_l3Edges.l0 k a1 (([] : List Int)) 0 a0) = some r := h
  clear h
  obtain ⟨y439, hy439⟩ : ∃ y_ : List Int, y_ = (([] : List Int)) := ⟨_, rfl⟩
  replace H : (spec_l3Edges.l0 k a1 y439 0 a0) = some r := by first | (rw [hy439]; with_reducible exact H) | (have H2_ := (Option.bind_some _ _).symm.trans H; rw [hy439]; with_reducible exact H2_) | (have H2_ := (Option.bind_some _ _).symm.trans H; with_reducible exact H2_) | with_reducible exact H | (rw [hy439]; exact H) | exact H
  have Ny439 := Aside0.mk hy439
  clear hy439
  have H' := Aside0.mk H
  clear H
  go_enter Try.func73, Try.ntmps73
  go_wp2_with (first | ((with_reducible refine gate_dst (N := 2) rfl ?_); refine box_event ?hg (N := 2) ?hd (cs := (TabB.v a0)) (t := 65) ?hr ?_; (case hd => rfl); (case hg => rfl); (case hr => first | (go_simp; done) | (go_simp; rfl)); intro gb438 hg w3 hbox hb; have n0_ := Aside0.mk (below_step (by repeat (first | (with_reducible first | exact HB.out | apply below_alloc | apply pw_below_drewN | apply below_drew1) | exact HB.out)) hb); have n1_ := Aside0.mk (hbox); have n2_ := Aside0.mk ((by rw [hg]; exact (below_size (by repeat (first | (with_reducible first | exact HB.out | apply below_alloc | apply pw_below_drewN | apply below_drew1) | exact HB.out))) : w.heap.size ≤ gb438)); have n3_ := Aside0.mk ((by rw [hg]; exact (below_size (by repeat (first | (with_reducible first | exact HB.out | apply below_alloc | apply pw_below_drewN | apply below_drew1) | exact HB.out))) : w.heap.size ≤ gb438)); clear HB; have HB := n0_; have BK438 := n1_; have GW438 := n2_; have GE438 := n3_; clear n0_ n1_ n2_ n3_; clear hb hbox hg) | ((with_reducible refine gate_dst (N := 7) rfl ?_); refine Kd.R_lit (Kd.int .i64) _ 3 ?hg (N := 7) ?hd (xs := ([] : List Int)) (inner := []) (ok := fun _ => True) (okp := fun _ => True) ?hr ?hp (fun _ hk => hk) trivial (Below.refl _ _) (Nat.le_refl _) (by simp) ?_; (case hd => rfl); (case hg => rfl); (case hr => first | (go_simp; done) | (go_simp; rfl)); (case hp => exact (Reps.none _ _)); intro v440 w4 ho5 hb hg_ hnew_; clear hg_ hnew_; (first | rw [← Ny439.out] at ho5 | (simp only [Int.reduceToNat] at ho5; rw [← Ny439.out] at ho5)); have n0_ := Aside0.mk (Kd.R_lower ho5 (below_size (by repeat (first | (with_reducible first | exact HB.out | apply below_alloc | apply pw_below_drewN | apply below_drew1 | refine below_set ?_ GE438.out) | exact HB.out)))); have n1_ := Aside0.mk (blk_below (g := gb438) (o := .cells (TabB.v a0) 65 (0, 0)) (by (with_reducible repeat (first | refine blk_drewN ?_ _ | refine blk_drew ?_ | refine blk_alloc ?_ _)); exact BK438.out) hb); have n2_ := Aside0.mk (below_step (by repeat (first | (with_reducible first | exact HB.out | apply below_alloc | apply pw_below_drewN | apply below_drew1 | refine below_set ?_ GE438.out) | exact HB.out)) hb); clear BK438; clear HB; have HO441 := n0_; have BK438 := n1_; have HB := n2_; clear n0_ n1_ n2_; clear hb ho5))
  go_loopg [5, 6] k (fun kq v5 v6 w' => ∃ (x5_1 : List Int) (x6_1 : Int), v6 = .int .i64 x6_1 ∧ Aside0 (spec_l3Edges.l0 kq a1 x5_1 x6_1 a0 = some r) ∧ Aside0 (kq ≤ k) ∧ Aside0 (Kd.R (Kd.int .i64) 3 w' w.heap.size (fun _ => True) v5 x5_1) ∧ Aside0 (w'.heap[gb438]? = some (.cells (TabB.v a0) 65 (0, 0))) ∧ Aside0 (Below w.heap.size w w'))
  case atStart => exact ⟨(y439), (0), (by first | rfl | (simp; done) | (simp [*]; done)), H', ⟨Nat.le_refl _⟩, ⟨by (with_reducible repeat (first | apply Kd.R_alloc | apply Kd.R_drewN | apply Kd.R_drew)); exact HO441.out⟩, ⟨by (with_reducible repeat (first | refine blk_drewN ?_ _ | refine blk_drew ?_ | refine blk_alloc ?_ _)); exact BK438.out⟩, ⟨by repeat (first | (with_reducible first | exact HB.out | apply below_alloc | apply pw_below_drewN | apply below_drew1 | refine below_set ?_ GE438.out) | exact HB.out)⟩⟩
  case round =>
    clear H'
    try clear p2
    obtain ⟨x5_1, x6_1, rfl, HA, HK1, HO_5, BK438, HB⟩ := hrel
    cases gk with
    | zero => exact absurd HA.out (by simp [spec_l3Edges.l0])
    | succ k1 =>
      have H := HA.out
      clear HA
      simp only [spec_l3Edges.l0] at H
      by_cases c6 : x6_1 < 64
      · rw [if_pos c6] at H
        have c6b0 : decide (x6_1 < 64) = true := decide_eq_true c6
        clear c6
        replace H := Option.bind_eq_some_iff.mp H
        obtain ⟨t442, A70, H⟩ := H
        replace H : (if t442 = true then (if x5_1.length < 17592186044416 then (spec_l3Edges.l0 k1 a1 (x5_1 ++ [x6_1]) (wrap64 (x6_1 + 1)) a0) else (none)) else (spec_l3Edges.l0 k1 a1 x5_1 (wrap64 (x6_1 + 1)) a0)) = some r := H
        have A7 := Aside0.mk A70
        clear A70
        by_cases c8 : t442 = true
        · subst c8
          have H1 : (if x5_1.length < 17592186044416 then (spec_l3Edges.l0 k1 a1 (x5_1 ++ [x6_1]) (wrap64 (x6_1 + 1)) a0) else (none)) = some r := by rw [if_pos rfl] at H; exact H
          clear H
          have H := H1
          clear H1
          by_cases c9 : x5_1.length < 17592186044416
          · rw [if_pos c9] at H
            have LMc9 := Aside0.mk c9
            clear c9
            obtain ⟨y443, hy443⟩ : ∃ y_ : List Int, y_ = (x5_1 ++ [x6_1]) := ⟨_, rfl⟩
            replace H : (spec_l3Edges.l0 k1 a1 y443 (wrap64 (x6_1 + 1)) a0) = some r := by first | (rw [hy443]; with_reducible exact H) | (have H2_ := (Option.bind_some _ _).symm.trans H; rw [hy443]; with_reducible exact H2_) | (have H2_ := (Option.bind_some _ _).symm.trans H; with_reducible exact H2_) | with_reducible exact H | (rw [hy443]; exact H) | exact H
            have Ny443 := Aside0.mk hy443
            clear hy443
            have H' := Aside0.mk H
            clear H
            go_wp2_with (first | ((with_reducible refine gate_dst (N := 12) rfl ?_); refine tab_load (n := 64) rfl 65 (.tmp 2) rfl (b := gb438) (cs := TabB.v a0) (t' := 65) (by rfl) (by (with_reducible repeat (first | refine blk_drewN ?_ _ | refine blk_drew ?_ | refine blk_alloc ?_ _)); exact BK438.out) Try.underlying65 rfl (by kernel_rfl) (TabB.size _) ?_) | ((with_reducible refine gate_callee (f := 101) rfl ?_); refine goesL_ (some 15) rfl rfl Try.func101 (by kernel_rfl) rfl #[.agg (TabB.v a0), .int .i64 x6_1, .bool a1] rfl (by (try simp only [List.map_toArray, List.map_cons, List.map_nil]); first | done | rfl | (simp only [List.length_drop, List.length_take]; rfl)) ?_; (with_reducible refine (spec_l3Edge.calls a0 x6_1 a1 true _ A7.out).mono ?_); rintro e w10 ⟨rfl, hb⟩; refine ⟨_, rfl, ?_⟩; have n0_ := Aside0.mk (Kd.R_below (by (with_reducible repeat (first | apply Kd.R_alloc | apply Kd.R_drewN | apply Kd.R_drew)); exact HO_5.out) hb); have n1_ := Aside0.mk (blk_below (g := gb438) (o := .cells (TabB.v a0) 65 (0, 0)) (by (with_reducible repeat (first | refine blk_drewN ?_ _ | refine blk_drew ?_ | refine blk_alloc ?_ _)); exact BK438.out) hb); have n2_ := Aside0.mk (below_step (by repeat (first | (with_reducible first | exact HB.out | apply below_alloc | apply pw_below_drewN | apply below_drew1 | refine below_set ?_ GE438.out) | exact HB.out)) hb); clear HO_5; clear BK438; clear HB; have HO_5 := n0_; have BK438 := n1_; have HB := n2_; clear n0_ n1_ n2_; (try clear hb); (try clear hb2); (try clear hk); (try clear hi)) | ((with_reducible refine gate_builtin (b := .append) (xs := #[.tmp 16, .tmp 18]) rfl ?_); at_builtin; refine Kd.R_append (Kd.int .i64) (w0 := w) w.heap.size rfl (.tmp 16) (.tmp 18) 22 3 (.int .i64 0) 8 rfl Try.underlying22 info3 rfl (by decide) (by omega) u5 x5_1 x6_1 [.int .i64 x6_1] (fun _ => True) (fun _ => False) rfl rfl ?aP (fun _ hk => hk.elim) ?aF ?aO ?aB ?aS ?aL ?_; (case aP => exact rfl); (case aB => exact (by repeat (first | (with_reducible first | exact HB.out | apply below_alloc | apply pw_below_drewN | apply below_drew1 | refine below_set ?_ GE438.out) | exact HB.out))); (case aF => exact (fun _ _ => trivial)); (case aO => exact (by (with_reducible repeat (first | apply Kd.R_alloc | apply Kd.R_drewN | apply Kd.R_drew)); exact HO_5.out)); (case aS => exact (below_size (by repeat (first | (with_reducible first | exact HB.out | apply below_alloc | apply pw_below_drewN | apply below_drew1 | refine below_set ?_ GE438.out) | exact HB.out)))); (case aL => have := LMc9.out; omega); intro v444 w11 ho hb hg hat; rw [← Ny443.out] at ho; have n0_ := Aside0.mk (blk_grown (g := gb438) (o := .cells (TabB.v a0) 65 (0, 0)) (by (with_reducible repeat (first | refine blk_drewN ?_ _ | refine blk_drew ?_ | refine blk_alloc ?_ _)); exact BK438.out) hg (Kd.R_ne HO_5.out BK438.out (by decide))); have n1_ := Aside0.mk (hb); have n2_ := Aside0.mk (ho); clear BK438; clear HB; clear HO_5; have BK438 := n0_; have HB := n1_; have HO445 := n2_; clear n0_ n1_ n2_; clear ho hb hg hat))
            go_roundg k1
            case measure => have := HK1.out; omega
            case rel => exact ⟨(y443), (wrap64 (x6_1 + 1)), (by first | rfl | (simp; done) | (simp [*]; done)), H', ⟨by have := HK1.out; omega⟩, ⟨by (with_reducible repeat (first | apply Kd.R_alloc | apply Kd.R_drewN | apply Kd.R_drew)); exact HO445.out⟩, ⟨by (with_reducible repeat (first | refine blk_drewN ?_ _ | refine blk_drew ?_ | refine blk_alloc ?_ _)); exact BK438.out⟩, ⟨by repeat (first | (with_reducible first | exact HB.out | apply below_alloc | apply pw_below_drewN | apply below_drew1 | refine below_set ?_ GE438.out) | exact HB.out)⟩⟩
          · rw [if_neg c9] at H
            exact absurd H (by simp)
        · replace c8 := Bool.eq_false_iff.mpr c8
          subst c8
          have H1 : (spec_l3Edges.l0 k1 a1 x5_1 (wrap64 (x6_1 + 1)) a0) = some r := by rw [if_neg (show ¬ (false = true) by decide)] at H; exact H
          clear H
          have H := H1
          clear H1
          have H' := Aside0.mk H
          clear H
          go_wp2_with (first | ((with_reducible refine gate_dst (N := 12) rfl ?_); refine tab_load (n := 64) rfl 65 (.tmp 2) rfl (b := gb438) (cs := TabB.v a0) (t' := 65) (by rfl) (by (with_reducible repeat (first | refine blk_drewN ?_ _ | refine blk_drew ?_ | refine blk_alloc ?_ _)); exact BK438.out) Try.underlying65 rfl (by kernel_rfl) (TabB.size _) ?_) | ((with_reducible refine gate_callee (f := 101) rfl ?_); refine goesL_ (some 15) rfl rfl Try.func101 (by kernel_rfl) rfl #[.agg (TabB.v a0), .int .i64 x6_1, .bool a1] rfl (by (try simp only [List.map_toArray, List.map_cons, List.map_nil]); first | done | rfl | (simp only [List.length_drop, List.length_take]; rfl)) ?_; (with_reducible refine (spec_l3Edge.calls a0 x6_1 a1 false _ A7.out).mono ?_); rintro e w12 ⟨rfl, hb⟩; refine ⟨_, rfl, ?_⟩; have n0_ := Aside0.mk (Kd.R_below (by (with_reducible repeat (first | apply Kd.R_alloc | apply Kd.R_drewN | apply Kd.R_drew)); exact HO_5.out) hb); have n1_ := Aside0.mk (blk_below (g := gb438) (o := .cells (TabB.v a0) 65 (0, 0)) (by (with_reducible repeat (first | refine blk_drewN ?_ _ | refine blk_drew ?_ | refine blk_alloc ?_ _)); exact BK438.out) hb); have n2_ := Aside0.mk (below_step (by repeat (first | (with_reducible first | exact HB.out | apply below_alloc | apply pw_below_drewN | apply below_drew1 | refine below_set ?_ GE438.out) | exact HB.out)) hb); clear HO_5; clear BK438; clear HB; have HO_5 := n0_; have BK438 := n1_; have HB := n2_; clear n0_ n1_ n2_; (try clear hb); (try clear hb2); (try clear hk); (try clear hi)))
          go_roundg k1
          case measure => have := HK1.out; omega
          case rel => exact ⟨(x5_1), (wrap64 (x6_1 + 1)), (by first | rfl | (simp; done) | (simp [*]; done)), H', ⟨by have := HK1.out; omega⟩, ⟨by (with_reducible repeat (first | apply Kd.R_alloc | apply Kd.R_drewN | apply Kd.R_drew)); exact HO_5.out⟩, ⟨by (with_reducible repeat (first | refine blk_drewN ?_ _ | refine blk_drew ?_ | refine blk_alloc ?_ _)); exact BK438.out⟩, ⟨by repeat (first | (with_reducible first | exact HB.out | apply below_alloc | apply pw_below_drewN | apply below_drew1 | refine below_set ?_ GE438.out) | exact HB.out)⟩⟩
      · rw [if_neg c6] at H
        have c6b0 : decide (x6_1 < 64) = false := decide_eq_false c6
        clear c6
        obtain rfl := Option.some.inj H
        go_wp2
        go_ret
        exact ⟨_, by first | rfl | (simp [errW_none, errW_some] <;> rfl) | (simp [*, errW_none, errW_some] <;> rfl), by (with_reducible repeat (first | apply Kd.R_alloc | apply Kd.R_drewN | apply Kd.R_drew)); exact HO_5.out, by repeat (first | (with_reducible first | exact HB.out | apply below_alloc | apply pw_below_drewN | apply below_drew1 | refine below_set ?_ GE438.out) | exact HB.out)⟩

end Go.Proofs.Ytheicbcedhfahaa.P
