/- Each call of a Go function named below comes to exactly the answers of the Lean function of its name, and a law row follows from its plain statement. No condition beyond those that each theorem states. -/
import Derived.Test.YtheicbcedhfahaaPx0
import Derived.Test.YtheicbcedhfahaaPx7
import Derived.Test.YtheicbcedhfahaaPx10
namespace Go.Proofs.Ytheicbcedhfahaa.P
open Go.RowKit Go.Proofs.YtheicbcedhfahaaW.PrintWords Go.Proofs.YtheicbcedhfahaaW.PrintLast Go.Proofs.YtheicbcedhfahaaW.PrintMore
attribute [local go_sem] max2_int min2_int max_two min_two max_three min_three max_four min_four   -- for this text's walks alone
set_option linter.unusedVariables false
set_option linter.unusedSimpArgs false

/-! ### spec_l3Matter: function 61 -/
mutual
def spec_l3Matter.l0 : Nat → Int → Int → (TabB 64) → Option (Int)
  | 0, _, _, _ => none
  | k + 1, x3, x4, x354000 => if x4 ≤ 6 then (spec_l3Matter.l1 k x3 x4 0 x354000) else (some x3)
def spec_l3Matter.l1 : Nat → Int → Int → Int → (TabB 64) → Option (Int)
  | 0, _, _, _, _ => none
  | k + 1, x3, x4, x5, x354000 => if x5 < 64 then ((spec_l3In.f x5 x4).bind fun t354 => (if t354 = true then (spec_l3Matter.l1 k x3 x4 (wrap64 (x5 + 1)) x354000) else (if 0 ≤ x5 then (if 0 ≤ (wrap64 (x4 - 1)) then (if 0 ≤ (Go.bits .or .i64 x5 (shl .i64 1 (wrap64 (x4 - 1)))) then (if (Go.bits .or .i64 x5 (shl .i64 1 (wrap64 (x4 - 1)))) < 64 then (if ((TabB.rd x354000 x5) != (TabB.rd x354000 (Go.bits .or .i64 x5 (shl .i64 1 (wrap64 (x4 - 1)))))) = true then (spec_l3Matter.l1 k (Go.bits .or .i64 x3 (shl .i64 1 (wrap64 (x4 - 1)))) x4 (wrap64 (x5 + 1)) x354000) else (spec_l3Matter.l1 k x3 x4 (wrap64 (x5 + 1)) x354000)) else (none)) else (none)) else (none)) else (none)))) else (spec_l3Matter.l0 k x3 (wrap64 (x4 + 1)) x354000)
end
def spec_l3Matter.f (k : Nat) (a0 : (TabB 64)) : Option (Int) := spec_l3Matter.l0 k 0 1 a0
theorem spec_l3Matter.mono_l : ∀ k, (∀ y0 y1 y2, LeO (spec_l3Matter.l0 k y0 y1 y2) (spec_l3Matter.l0 (k + 1) y0 y1 y2)) ∧ (∀ y0 y1 y2 y3, LeO (spec_l3Matter.l1 k y0 y1 y2 y3) (spec_l3Matter.l1 (k + 1) y0 y1 y2 y3))
  | 0 => ⟨fun _ _ _ r h => by simp [spec_l3Matter.l0] at h, fun _ _ _ _ r h => by simp [spec_l3Matter.l1] at h⟩
  | k + 1 => by
    obtain ⟨ih0, ih1⟩ := spec_l3Matter.mono_l k
    refine ⟨?_, ?_⟩
    · intro y0 y1 y2
      unfold spec_l3Matter.l0
      repeat' first
      | (with_reducible exact ih0 _ _ _)
      | (with_reducible exact ih1 _ _ _ _)
      | (with_reducible exact LeO.refl _)
      | (with_reducible exact LeO.none _)
      | (with_reducible refine LeO.ite ?_ ?_)
      | (with_reducible refine LeO.bind ?_ (fun _ => ?_))
      | exact ih0 _ _ _
      | exact ih1 _ _ _ _
      | exact LeO.none _
      | refine LeO.ite ?_ ?_
      | refine LeO.bind ?_ (fun _ => ?_)
    · intro y0 y1 y2 y3
      unfold spec_l3Matter.l1
      repeat' first
      | (with_reducible exact ih0 _ _ _)
      | (with_reducible exact ih1 _ _ _ _)
      | (with_reducible exact LeO.refl _)
      | (with_reducible exact LeO.none _)
      | (with_reducible refine LeO.ite ?_ ?_)
      | (with_reducible refine LeO.bind ?_ (fun _ => ?_))
      | exact ih0 _ _ _
      | exact ih1 _ _ _ _
      | exact LeO.none _
      | refine LeO.ite ?_ ?_
      | refine LeO.bind ?_ (fun _ => ?_)
theorem spec_l3Matter.mono : ∀ a0 k, LeO (spec_l3Matter.f k a0) (spec_l3Matter.f (k + 1) a0) := by
  intro a0 k
  obtain ⟨ih0, ih1⟩ := spec_l3Matter.mono_l k
  unfold spec_l3Matter.f
  repeat' first
      | (with_reducible exact ih0 _ _ _)
      | (with_reducible exact ih1 _ _ _ _)
      | (with_reducible exact LeO.refl _)
      | (with_reducible exact LeO.none _)
      | (with_reducible refine LeO.ite ?_ ?_)
      | (with_reducible refine LeO.bind ?_ (fun _ => ?_))
      | exact ih0 _ _ _
      | exact ih1 _ _ _ _
      | exact LeO.none _
      | refine LeO.ite ?_ ?_
      | refine LeO.bind ?_ (fun _ => ?_)
set_option maxHeartbeats 8000000 in
set_option maxRecDepth 100000 in
theorem spec_l3Matter.calls (k : Nat) (a0 : (TabB 64)) (r : Int) (w : World) (h : spec_l3Matter.f k a0 = some r) :
    Calls Try.prog 61 #[.agg (TabB.v a0)] w fun e w' => e = .returned (.int .i64 r) ∧ Below w.heap.size w w' := by
  have HB := Aside0.mk (Below.refl w.heap.size w)
  have H : (spec_l3Matter.l0 k 0 1 a0) = some r := h
  clear h
  have H' := Aside0.mk H
  clear H
  go_enter Try.func61, Try.ntmps61
  go_wp2_with (first | ((with_reducible refine gate_dst (N := 1) rfl ?_); refine box_event ?hg (N := 1) ?hd (cs := (TabB.v a0)) (t := 65) ?hr ?_; (case hd => rfl); (case hg => rfl); (case hr => first | (go_simp; done) | (go_simp; rfl)); intro gb353 hg w2 hbox hb; have n0_ := Aside0.mk (below_step (by repeat (first | (with_reducible first | exact HB.out | apply below_alloc | apply pw_below_drewN | apply below_drew1) | exact HB.out)) hb); have n1_ := Aside0.mk (hbox); have n2_ := Aside0.mk ((by rw [hg]; exact (below_size (by repeat (first | (with_reducible first | exact HB.out | apply below_alloc | apply pw_below_drewN | apply below_drew1) | exact HB.out))) : w.heap.size ≤ gb353)); have n3_ := Aside0.mk ((by rw [hg]; exact (below_size (by repeat (first | (with_reducible first | exact HB.out | apply below_alloc | apply pw_below_drewN | apply below_drew1) | exact HB.out))) : w.heap.size ≤ gb353)); clear HB; have HB := n0_; have BK353 := n1_; have GW353 := n2_; have GE353 := n3_; clear n0_ n1_ n2_ n3_; clear hb hbox hg))
  repeat (go_quiet (first | ((with_reducible refine gate_dst (N := 1) rfl ?_); refine box_event ?hg (N := 1) ?hd (cs := (TabB.v a0)) (t := 65) ?hr ?_; (case hd => rfl); (case hg => rfl); (case hr => first | (go_simp; done) | (go_simp; rfl)); intro gb353 hg w2 hbox hb; have n0_ := Aside0.mk (below_step (by repeat (first | (with_reducible first | exact HB.out | apply below_alloc | apply pw_below_drewN | apply below_drew1) | exact HB.out)) hb); have n1_ := Aside0.mk (hbox); have n2_ := Aside0.mk ((by rw [hg]; exact (below_size (by repeat (first | (with_reducible first | exact HB.out | apply below_alloc | apply pw_below_drewN | apply below_drew1) | exact HB.out))) : w.heap.size ≤ gb353)); have n3_ := Aside0.mk ((by rw [hg]; exact (below_size (by repeat (first | (with_reducible first | exact HB.out | apply below_alloc | apply pw_below_drewN | apply below_drew1) | exact HB.out))) : w.heap.size ≤ gb353)); clear HB; have HB := n0_; have BK353 := n1_; have GW353 := n2_; have GE353 := n3_; clear n0_ n1_ n2_ n3_; clear hb hbox hg)); try go_wp2_with (first | ((with_reducible refine gate_dst (N := 1) rfl ?_); refine box_event ?hg (N := 1) ?hd (cs := (TabB.v a0)) (t := 65) ?hr ?_; (case hd => rfl); (case hg => rfl); (case hr => first | (go_simp; done) | (go_simp; rfl)); intro gb353 hg w2 hbox hb; have n0_ := Aside0.mk (below_step (by repeat (first | (with_reducible first | exact HB.out | apply below_alloc | apply pw_below_drewN | apply below_drew1) | exact HB.out)) hb); have n1_ := Aside0.mk (hbox); have n2_ := Aside0.mk ((by rw [hg]; exact (below_size (by repeat (first | (with_reducible first | exact HB.out | apply below_alloc | apply pw_below_drewN | apply below_drew1) | exact HB.out))) : w.heap.size ≤ gb353)); have n3_ := Aside0.mk ((by rw [hg]; exact (below_size (by repeat (first | (with_reducible first | exact HB.out | apply below_alloc | apply pw_below_drewN | apply below_drew1) | exact HB.out))) : w.heap.size ≤ gb353)); clear HB; have HB := n0_; have BK353 := n1_; have GW353 := n2_; have GE353 := n3_; clear n0_ n1_ n2_ n3_; clear hb hbox hg)))
  go_loopg [3, 4] k (fun kq v3 v4 w' => ∃ (x3_1 : Int) (x4_1 : Int), v3 = .int .i64 x3_1 ∧ v4 = .int .i64 x4_1 ∧ Aside0 (spec_l3Matter.l0 kq x3_1 x4_1 a0 = some r) ∧ Aside0 (kq ≤ k) ∧ Aside0 (w'.heap[gb353]? = some (.cells (TabB.v a0) 65 (0, 0))) ∧ Aside0 (Below w.heap.size w w'))
  case atStart => exact ⟨(0), (1), (by first | rfl | (simp; done) | (simp [*]; done)), (by first | rfl | (simp; done) | (simp [*]; done)), H', ⟨Nat.le_refl _⟩, ⟨by (with_reducible repeat (first | refine blk_drewN ?_ _ | refine blk_drew ?_ | refine blk_alloc ?_ _)); exact BK353.out⟩, ⟨by repeat (first | (with_reducible first | exact HB.out | apply below_alloc | apply pw_below_drewN | apply below_drew1 | refine below_set ?_ GE353.out) | exact HB.out)⟩⟩
  case round =>
    clear H'
    try clear p2
    obtain ⟨x3_1, x4_1, rfl, rfl, HA, HK1, BK353, HB⟩ := hrel
    cases gk with
    | zero => exact absurd HA.out (by simp [spec_l3Matter.l0])
    | succ k1 =>
      have H := HA.out
      clear HA
      simp only [spec_l3Matter.l0] at H
      by_cases c3 : x4_1 ≤ 6
      · rw [if_pos c3] at H
        have c3b0 : decide (x4_1 ≤ 6) = true := decide_eq_true c3
        clear c3
        have H' := Aside0.mk H
        clear H
        go_wp2
        repeat (go_quiet (fail); try go_wp2)
        go_loopg [3, 5] k1 (fun kq v3 v5 w' => ∃ (x3_2 : Int) (x5_2 : Int), v3 = .int .i64 x3_2 ∧ v5 = .int .i64 x5_2 ∧ Aside0 (spec_l3Matter.l1 kq x3_2 x4_1 x5_2 a0 = some r) ∧ Aside0 (kq ≤ k1) ∧ Aside0 (w'.heap[gb353]? = some (.cells (TabB.v a0) 65 (0, 0))) ∧ Aside0 (Below w.heap.size w w'))
        case atStart => exact ⟨(x3_1), (0), (by first | rfl | (simp; done) | (simp [*]; done)), (by first | rfl | (simp; done) | (simp [*]; done)), H', ⟨Nat.le_refl _⟩, ⟨by (with_reducible repeat (first | refine blk_drewN ?_ _ | refine blk_drew ?_ | refine blk_alloc ?_ _)); exact BK353.out⟩, ⟨by repeat (first | (with_reducible first | exact HB.out | apply below_alloc | apply pw_below_drewN | apply below_drew1 | refine below_set ?_ GE353.out) | exact HB.out)⟩⟩
        case round =>
          clear H'
          try clear p2
          try clear c3
          try clear c3b0
          try clear p2
          obtain ⟨x3_2, x5_2, rfl, rfl, HA, HK2, BK353, HB⟩ := hrel
          cases gk with
          | zero => exact absurd HA.out (by simp [spec_l3Matter.l1])
          | succ k2 =>
            have H := HA.out
            clear HA
            simp only [spec_l3Matter.l1] at H
            by_cases c4 : x5_2 < 64
            · rw [if_pos c4] at H
              have c4b0 : decide (x5_2 < 64) = true := decide_eq_true c4
              clear c4
              replace H := Option.bind_eq_some_iff.mp H
              obtain ⟨t354, A50, H⟩ := H
              replace H : (if t354 = true then (spec_l3Matter.l1 k2 x3_2 x4_1 (wrap64 (x5_2 + 1)) a0) else (if 0 ≤ x5_2 then (if 0 ≤ (wrap64 (x4_1 - 1)) then (if 0 ≤ (Go.bits .or .i64 x5_2 (shl .i64 1 (wrap64 (x4_1 - 1)))) then (if (Go.bits .or .i64 x5_2 (shl .i64 1 (wrap64 (x4_1 - 1)))) < 64 then (if ((TabB.rd a0 x5_2) != (TabB.rd a0 (Go.bits .or .i64 x5_2 (shl .i64 1 (wrap64 (x4_1 - 1)))))) = true then (spec_l3Matter.l1 k2 (Go.bits .or .i64 x3_2 (shl .i64 1 (wrap64 (x4_1 - 1)))) x4_1 (wrap64 (x5_2 + 1)) a0) else (spec_l3Matter.l1 k2 x3_2 x4_1 (wrap64 (x5_2 + 1)) a0)) else (none)) else (none)) else (none)) else (none))) = some r := H
              have A5 := Aside0.mk A50
              clear A50
              by_cases c6 : t354 = true
              · subst c6
                have H1 : (spec_l3Matter.l1 k2 x3_2 x4_1 (wrap64 (x5_2 + 1)) a0) = some r := by rw [if_pos rfl] at H; exact H
                clear H
                have H := H1
                clear H1
                have H' := Aside0.mk H
                clear H
                go_wp2_with (first | (go_at_call 57; (with_reducible refine (spec_l3In.calls x5_2 x4_1 true _ A5.out).mono ?_); rintro e w' ⟨rfl, ⟨nd, rfl⟩⟩; (try first | exact ⟨rfl, _, World.drewN_drewN _ _ _⟩ | exact ⟨rfl, _, Eq.trans (World.drewN_drewN _ _ _) (congrArg (World.drewN _) (Nat.add_assoc _ _ _))⟩)))
                repeat (go_quiet (first | (go_at_call 57; (with_reducible refine (spec_l3In.calls x5_2 x4_1 true _ A5.out).mono ?_); rintro e w' ⟨rfl, ⟨nd, rfl⟩⟩; (try first | exact ⟨rfl, _, World.drewN_drewN _ _ _⟩ | exact ⟨rfl, _, Eq.trans (World.drewN_drewN _ _ _) (congrArg (World.drewN _) (Nat.add_assoc _ _ _))⟩))); try go_wp2_with (first | (go_at_call 57; (with_reducible refine (spec_l3In.calls x5_2 x4_1 true _ A5.out).mono ?_); rintro e w' ⟨rfl, ⟨nd, rfl⟩⟩; (try first | exact ⟨rfl, _, World.drewN_drewN _ _ _⟩ | exact ⟨rfl, _, Eq.trans (World.drewN_drewN _ _ _) (congrArg (World.drewN _) (Nat.add_assoc _ _ _))⟩))))
                go_roundg k2
                case measure => have := HK1.out; have := HK2.out; omega
                case rel => exact ⟨(x3_2), (wrap64 (x5_2 + 1)), (by first | rfl | (simp; done) | (simp [*]; done)), (by first | rfl | (simp; done) | (simp [*]; done)), H', ⟨by have := HK1.out; have := HK2.out; omega⟩, ⟨by (with_reducible repeat (first | refine blk_drewN ?_ _ | refine blk_drew ?_ | refine blk_alloc ?_ _)); exact BK353.out⟩, ⟨by repeat (first | (with_reducible first | exact HB.out | apply below_alloc | apply pw_below_drewN | apply below_drew1 | refine below_set ?_ GE353.out) | exact HB.out)⟩⟩
              · replace c6 := Bool.eq_false_iff.mpr c6
                subst c6
                have H1 : (if 0 ≤ x5_2 then (if 0 ≤ (wrap64 (x4_1 - 1)) then (if 0 ≤ (Go.bits .or .i64 x5_2 (shl .i64 1 (wrap64 (x4_1 - 1)))) then (if (Go.bits .or .i64 x5_2 (shl .i64 1 (wrap64 (x4_1 - 1)))) < 64 then (if ((TabB.rd a0 x5_2) != (TabB.rd a0 (Go.bits .or .i64 x5_2 (shl .i64 1 (wrap64 (x4_1 - 1)))))) = true then (spec_l3Matter.l1 k2 (Go.bits .or .i64 x3_2 (shl .i64 1 (wrap64 (x4_1 - 1)))) x4_1 (wrap64 (x5_2 + 1)) a0) else (spec_l3Matter.l1 k2 x3_2 x4_1 (wrap64 (x5_2 + 1)) a0)) else (none)) else (none)) else (none)) else (none)) = some r := by rw [if_neg (show ¬ (false = true) by decide)] at H; exact H
                clear H
                have H := H1
                clear H1
                by_cases c7 : 0 ≤ x5_2
                · rw [if_pos c7] at H
                  have c7b0 : decide (0 ≤ x5_2) = true := decide_eq_true c7
                  clear c7
                  obtain ⟨ji8, hji8⟩ : ∃ j_ : Int, (wrap64 (x4_1 - 1)) = j_ := ⟨_, rfl⟩
                  replace H : (if 0 ≤ (ji8) then (if 0 ≤ (Go.bits .or .i64 x5_2 (shl .i64 1 (ji8))) then (if (Go.bits .or .i64 x5_2 (shl .i64 1 (ji8))) < 64 then (if ((TabB.rd a0 x5_2) != (TabB.rd a0 (Go.bits .or .i64 x5_2 (shl .i64 1 (ji8))))) = true then (spec_l3Matter.l1 k2 (Go.bits .or .i64 x3_2 (shl .i64 1 (ji8))) x4_1 (wrap64 (x5_2 + 1)) a0) else (spec_l3Matter.l1 k2 x3_2 x4_1 (wrap64 (x5_2 + 1)) a0)) else (none)) else (none)) else (none)) = some r := by first | (rw [hji8] at H; exact H) | (simp only [hji8] at H ⊢; exact H)
                  (try rw [hji8] at A5)
                  have hji8w : (IntKind.i64.wrap (x4_1 - 1)) = ji8 := (i64_w _).trans hji8
                  by_cases c9 : 0 ≤ (ji8)
                  · rw [if_pos c9] at H
                    have c9b0 := eq_true c9
                    have c9b1 : decide (0 ≤ (ji8)) = true := decide_eq_true c9
                    clear c9
                    obtain ⟨ji10, hji10⟩ : ∃ j_ : Int, (shl .i64 1 (ji8)) = j_ := ⟨_, rfl⟩
                    replace H : (if 0 ≤ (Go.bits .or .i64 x5_2 (ji10)) then (if (Go.bits .or .i64 x5_2 (ji10)) < 64 then (if ((TabB.rd a0 x5_2) != (TabB.rd a0 (Go.bits .or .i64 x5_2 (ji10)))) = true then (spec_l3Matter.l1 k2 (Go.bits .or .i64 x3_2 (ji10)) x4_1 (wrap64 (x5_2 + 1)) a0) else (spec_l3Matter.l1 k2 x3_2 x4_1 (wrap64 (x5_2 + 1)) a0)) else (none)) else (none)) = some r := by first | (rw [hji10] at H; exact H) | (simp only [hji10] at H ⊢; exact H)
                    (try rw [hji10] at A5)
                    have hji10_ : (IntKind.i64.wrap (1 * 2 ^ min (ji8).toNat 64)) = ji10 := hji10
                    have hji10z : (ji8) ≤ 64 → (IntKind.i64.wrap (1 * 2 ^ (ji8).toNat)) = ji10 := shl_small hji10
                    have hji10u : (IntKind.i64.wrap (2 ^ min (ji8).toNat 64)) = ji10 := by have h_ := hji10_; rw [Int.one_mul] at h_; exact h_
                    have hji10v : (ji8) ≤ 64 → (IntKind.i64.wrap (2 ^ (ji8).toNat)) = ji10 := fun hle_ => by have h_ := hji10z hle_; rw [Int.one_mul] at h_; exact h_
                    have hji10y : (wrap64 (1 * 2 ^ min (ji8).toNat 64)) = ji10 := (i64_w _).symm.trans hji10_
                    have hji10x : (ji8) ≤ 64 → (wrap64 (1 * 2 ^ (ji8).toNat)) = ji10 := fun h_ => (i64_w _).symm.trans (hji10z h_)
                    by_cases c11 : 0 ≤ (Go.bits .or .i64 x5_2 (ji10))
                    · rw [if_pos c11] at H
                      have c11b0 : decide (0 ≤ (Go.bits .or .i64 x5_2 (ji10))) = true := decide_eq_true c11
                      clear c11
                      by_cases c12 : (Go.bits .or .i64 x5_2 (ji10)) < 64
                      · rw [if_pos c12] at H
                        have c12b0 : decide ((Go.bits .or .i64 x5_2 (ji10)) < 64) = true := decide_eq_true c12
                        clear c12
                        by_cases c13 : ((TabB.rd a0 x5_2) != (TabB.rd a0 (Go.bits .or .i64 x5_2 (ji10)))) = true
                        · rw [if_pos c13] at H
                          have c13b0 : ((TabB.rd a0 x5_2) != (TabB.rd a0 (Go.bits .or .i64 x5_2 (ji10)))) = true := c13
                          (try (have c13b1 : decide ((TabB.rd a0 x5_2) = (TabB.rd a0 (Go.bits .or .i64 x5_2 (ji10)))) = false := by simpa using c13))
                          (try (have c13b2 : ((TabB.rd a0 x5_2) == (TabB.rd a0 (Go.bits .or .i64 x5_2 (ji10)))) = false := by simpa using c13))
                          (try (have c13b3 : ¬ ((TabB.rd a0 x5_2) = (TabB.rd a0 (Go.bits .or .i64 x5_2 (ji10)))) := by simpa using c13))
                          clear c13
                          have c14b0 := eq_true (of_decide_eq_true (by first | (with_reducible assumption) | assumption) : 0 ≤ (ji8))
                          have H' := Aside0.mk H
                          clear H
                          go_wp2_with (first | (go_at_call 57; (with_reducible refine (spec_l3In.calls x5_2 x4_1 false _ A5.out).mono ?_); rintro e w' ⟨rfl, ⟨nd, rfl⟩⟩; (try first | exact ⟨rfl, _, World.drewN_drewN _ _ _⟩ | exact ⟨rfl, _, Eq.trans (World.drewN_drewN _ _ _) (congrArg (World.drewN _) (Nat.add_assoc _ _ _))⟩); have px15 : 0 ≤ (x5_2 : Int) := (of_decide_eq_true (by first | (with_reducible assumption) | assumption)); have qx15 : (x5_2 : Int) < 64 := (of_decide_eq_true (by first | (with_reducible assumption) | assumption)); replace px15 := eq_true px15; replace qx15 := eq_true qx15; have hcx16 : wr.cell? ⟨gb353, (x5_2 : Int).toNat, none⟩ = some (.bool (TabB.rd a0 x5_2)) := TabB.cell BK353.out x5_2 (of_decide_eq_true (by first | (with_reducible assumption) | assumption)) (of_decide_eq_true (by first | (with_reducible assumption) | assumption)); have px17 : 0 ≤ ((Go.bits .or .i64 x5_2 (ji10)) : Int) := (of_decide_eq_true (by first | (with_reducible assumption) | assumption)); have qx17 : ((Go.bits .or .i64 x5_2 (ji10)) : Int) < 64 := (of_decide_eq_true (by first | (with_reducible assumption) | assumption)); replace px17 := eq_true px17; replace qx17 := eq_true qx17; have hcx18 : wr.cell? ⟨gb353, ((Go.bits .or .i64 x5_2 (ji10)) : Int).toNat, none⟩ = some (.bool (TabB.rd a0 (Go.bits .or .i64 x5_2 (ji10)))) := TabB.cell BK353.out (Go.bits .or .i64 x5_2 (ji10)) (of_decide_eq_true (by first | (with_reducible assumption) | assumption)) (of_decide_eq_true (by first | (with_reducible assumption) | assumption))))
                          repeat (go_quiet (first | (go_at_call 57; (with_reducible refine (spec_l3In.calls x5_2 x4_1 false _ A5.out).mono ?_); rintro e w' ⟨rfl, ⟨nd, rfl⟩⟩; (try first | exact ⟨rfl, _, World.drewN_drewN _ _ _⟩ | exact ⟨rfl, _, Eq.trans (World.drewN_drewN _ _ _) (congrArg (World.drewN _) (Nat.add_assoc _ _ _))⟩); have px15 : 0 ≤ (x5_2 : Int) := (of_decide_eq_true (by first | (with_reducible assumption) | assumption)); have qx15 : (x5_2 : Int) < 64 := (of_decide_eq_true (by first | (with_reducible assumption) | assumption)); replace px15 := eq_true px15; replace qx15 := eq_true qx15; have hcx16 : wr.cell? ⟨gb353, (x5_2 : Int).toNat, none⟩ = some (.bool (TabB.rd a0 x5_2)) := TabB.cell BK353.out x5_2 (of_decide_eq_true (by first | (with_reducible assumption) | assumption)) (of_decide_eq_true (by first | (with_reducible assumption) | assumption)); have px17 : 0 ≤ ((Go.bits .or .i64 x5_2 (ji10)) : Int) := (of_decide_eq_true (by first | (with_reducible assumption) | assumption)); have qx17 : ((Go.bits .or .i64 x5_2 (ji10)) : Int) < 64 := (of_decide_eq_true (by first | (with_reducible assumption) | assumption)); replace px17 := eq_true px17; replace qx17 := eq_true qx17; have hcx18 : wr.cell? ⟨gb353, ((Go.bits .or .i64 x5_2 (ji10)) : Int).toNat, none⟩ = some (.bool (TabB.rd a0 (Go.bits .or .i64 x5_2 (ji10)))) := TabB.cell BK353.out (Go.bits .or .i64 x5_2 (ji10)) (of_decide_eq_true (by first | (with_reducible assumption) | assumption)) (of_decide_eq_true (by first | (with_reducible assumption) | assumption)))); try go_wp2_with (first | (go_at_call 57; (with_reducible refine (spec_l3In.calls x5_2 x4_1 false _ A5.out).mono ?_); rintro e w' ⟨rfl, ⟨nd, rfl⟩⟩; (try first | exact ⟨rfl, _, World.drewN_drewN _ _ _⟩ | exact ⟨rfl, _, Eq.trans (World.drewN_drewN _ _ _) (congrArg (World.drewN _) (Nat.add_assoc _ _ _))⟩); have px15 : 0 ≤ (x5_2 : Int) := (of_decide_eq_true (by first | (with_reducible assumption) | assumption)); have qx15 : (x5_2 : Int) < 64 := (of_decide_eq_true (by first | (with_reducible assumption) | assumption)); replace px15 := eq_true px15; replace qx15 := eq_true qx15; have hcx16 : wr.cell? ⟨gb353, (x5_2 : Int).toNat, none⟩ = some (.bool (TabB.rd a0 x5_2)) := TabB.cell BK353.out x5_2 (of_decide_eq_true (by first | (with_reducible assumption) | assumption)) (of_decide_eq_true (by first | (with_reducible assumption) | assumption)); have px17 : 0 ≤ ((Go.bits .or .i64 x5_2 (ji10)) : Int) := (of_decide_eq_true (by first | (with_reducible assumption) | assumption)); have qx17 : ((Go.bits .or .i64 x5_2 (ji10)) : Int) < 64 := (of_decide_eq_true (by first | (with_reducible assumption) | assumption)); replace px17 := eq_true px17; replace qx17 := eq_true qx17; have hcx18 : wr.cell? ⟨gb353, ((Go.bits .or .i64 x5_2 (ji10)) : Int).toNat, none⟩ = some (.bool (TabB.rd a0 (Go.bits .or .i64 x5_2 (ji10)))) := TabB.cell BK353.out (Go.bits .or .i64 x5_2 (ji10)) (of_decide_eq_true (by first | (with_reducible assumption) | assumption)) (of_decide_eq_true (by first | (with_reducible assumption) | assumption)))))
                          go_roundg k2
                          case measure => have := HK1.out; have := HK2.out; omega
                          case rel => exact ⟨(Go.bits .or .i64 x3_2 (ji10)), (wrap64 (x5_2 + 1)), (by first | rfl | (simp; done) | (simp only [← hji10] <;> (first | rfl | simp)) | (simp [*]; done)), (by first | rfl | (simp; done) | (simp [*]; done)), H', ⟨by have := HK1.out; have := HK2.out; omega⟩, ⟨by (with_reducible repeat (first | refine blk_drewN ?_ _ | refine blk_drew ?_ | refine blk_alloc ?_ _)); exact BK353.out⟩, ⟨by repeat (first | (with_reducible first | exact HB.out | apply below_alloc | apply pw_below_drewN | apply below_drew1 | refine below_set ?_ GE353.out) | exact HB.out)⟩⟩
                        · rw [if_neg c13] at H
                          have c13b0 : ((TabB.rd a0 x5_2) != (TabB.rd a0 (Go.bits .or .i64 x5_2 (ji10)))) = false := by simpa using c13
                          (try (have c13b1 : decide ((TabB.rd a0 x5_2) = (TabB.rd a0 (Go.bits .or .i64 x5_2 (ji10)))) = true := by simpa using c13))
                          (try (have c13b2 : ((TabB.rd a0 x5_2) == (TabB.rd a0 (Go.bits .or .i64 x5_2 (ji10)))) = true := by simpa using c13))
                          clear c13
                          have H' := Aside0.mk H
                          clear H
                          go_wp2_with (first | (go_at_call 57; (with_reducible refine (spec_l3In.calls x5_2 x4_1 false _ A5.out).mono ?_); rintro e w' ⟨rfl, ⟨nd, rfl⟩⟩; (try first | exact ⟨rfl, _, World.drewN_drewN _ _ _⟩ | exact ⟨rfl, _, Eq.trans (World.drewN_drewN _ _ _) (congrArg (World.drewN _) (Nat.add_assoc _ _ _))⟩); have px19 : 0 ≤ (x5_2 : Int) := (of_decide_eq_true (by first | (with_reducible assumption) | assumption)); have qx19 : (x5_2 : Int) < 64 := (of_decide_eq_true (by first | (with_reducible assumption) | assumption)); replace px19 := eq_true px19; replace qx19 := eq_true qx19; have hcx20 : wr.cell? ⟨gb353, (x5_2 : Int).toNat, none⟩ = some (.bool (TabB.rd a0 x5_2)) := TabB.cell BK353.out x5_2 (of_decide_eq_true (by first | (with_reducible assumption) | assumption)) (of_decide_eq_true (by first | (with_reducible assumption) | assumption)); have px21 : 0 ≤ ((Go.bits .or .i64 x5_2 (ji10)) : Int) := (of_decide_eq_true (by first | (with_reducible assumption) | assumption)); have qx21 : ((Go.bits .or .i64 x5_2 (ji10)) : Int) < 64 := (of_decide_eq_true (by first | (with_reducible assumption) | assumption)); replace px21 := eq_true px21; replace qx21 := eq_true qx21; have hcx22 : wr.cell? ⟨gb353, ((Go.bits .or .i64 x5_2 (ji10)) : Int).toNat, none⟩ = some (.bool (TabB.rd a0 (Go.bits .or .i64 x5_2 (ji10)))) := TabB.cell BK353.out (Go.bits .or .i64 x5_2 (ji10)) (of_decide_eq_true (by first | (with_reducible assumption) | assumption)) (of_decide_eq_true (by first | (with_reducible assumption) | assumption))))
                          repeat (go_quiet (first | (go_at_call 57; (with_reducible refine (spec_l3In.calls x5_2 x4_1 false _ A5.out).mono ?_); rintro e w' ⟨rfl, ⟨nd, rfl⟩⟩; (try first | exact ⟨rfl, _, World.drewN_drewN _ _ _⟩ | exact ⟨rfl, _, Eq.trans (World.drewN_drewN _ _ _) (congrArg (World.drewN _) (Nat.add_assoc _ _ _))⟩); have px19 : 0 ≤ (x5_2 : Int) := (of_decide_eq_true (by first | (with_reducible assumption) | assumption)); have qx19 : (x5_2 : Int) < 64 := (of_decide_eq_true (by first | (with_reducible assumption) | assumption)); replace px19 := eq_true px19; replace qx19 := eq_true qx19; have hcx20 : wr.cell? ⟨gb353, (x5_2 : Int).toNat, none⟩ = some (.bool (TabB.rd a0 x5_2)) := TabB.cell BK353.out x5_2 (of_decide_eq_true (by first | (with_reducible assumption) | assumption)) (of_decide_eq_true (by first | (with_reducible assumption) | assumption)); have px21 : 0 ≤ ((Go.bits .or .i64 x5_2 (ji10)) : Int) := (of_decide_eq_true (by first | (with_reducible assumption) | assumption)); have qx21 : ((Go.bits .or .i64 x5_2 (ji10)) : Int) < 64 := (of_decide_eq_true (by first | (with_reducible assumption) | assumption)); replace px21 := eq_true px21; replace qx21 := eq_true qx21; have hcx22 : wr.cell? ⟨gb353, ((Go.bits .or .i64 x5_2 (ji10)) : Int).toNat, none⟩ = some (.bool (TabB.rd a0 (Go.bits .or .i64 x5_2 (ji10)))) := TabB.cell BK353.out (Go.bits .or .i64 x5_2 (ji10)) (of_decide_eq_true (by first | (with_reducible assumption) | assumption)) (of_decide_eq_true (by first | (with_reducible assumption) | assumption)))); try go_wp2_with (first | (go_at_call 57; (with_reducible refine (spec_l3In.calls x5_2 x4_1 false _ A5.out).mono ?_); rintro e w' ⟨rfl, ⟨nd, rfl⟩⟩; (try first | exact ⟨rfl, _, World.drewN_drewN _ _ _⟩ | exact ⟨rfl, _, Eq.trans (World.drewN_drewN _ _ _) (congrArg (World.drewN _) (Nat.add_assoc _ _ _))⟩); have px19 : 0 ≤ (x5_2 : Int) := (of_decide_eq_true (by first | (with_reducible assumption) | assumption)); have qx19 : (x5_2 : Int) < 64 := (of_decide_eq_true (by first | (with_reducible assumption) | assumption)); replace px19 := eq_true px19; replace qx19 := eq_true qx19; have hcx20 : wr.cell? ⟨gb353, (x5_2 : Int).toNat, none⟩ = some (.bool (TabB.rd a0 x5_2)) := TabB.cell BK353.out x5_2 (of_decide_eq_true (by first | (with_reducible assumption) | assumption)) (of_decide_eq_true (by first | (with_reducible assumption) | assumption)); have px21 : 0 ≤ ((Go.bits .or .i64 x5_2 (ji10)) : Int) := (of_decide_eq_true (by first | (with_reducible assumption) | assumption)); have qx21 : ((Go.bits .or .i64 x5_2 (ji10)) : Int) < 64 := (of_decide_eq_true (by first | (with_reducible assumption) | assumption)); replace px21 := eq_true px21; replace qx21 := eq_true qx21; have hcx22 : wr.cell? ⟨gb353, ((Go.bits .or .i64 x5_2 (ji10)) : Int).toNat, none⟩ = some (.bool (TabB.rd a0 (Go.bits .or .i64 x5_2 (ji10)))) := TabB.cell BK353.out (Go.bits .or .i64 x5_2 (ji10)) (of_decide_eq_true (by first | (with_reducible assumption) | assumption)) (of_decide_eq_true (by first | (with_reducible assumption) | assumption)))))
                          go_roundg k2
                          case measure => have := HK1.out; have := HK2.out; omega
                          case rel => exact ⟨(x3_2), (wrap64 (x5_2 + 1)), (by first | rfl | (simp; done) | (simp [*]; done)), (by first | rfl | (simp; done) | (simp [*]; done)), H', ⟨by have := HK1.out; have := HK2.out; omega⟩, ⟨by (with_reducible repeat (first | refine blk_drewN ?_ _ | refine blk_drew ?_ | refine blk_alloc ?_ _)); exact BK353.out⟩, ⟨by repeat (first | (with_reducible first | exact HB.out | apply below_alloc | apply pw_below_drewN | apply below_drew1 | refine below_set ?_ GE353.out) | exact HB.out)⟩⟩
                      · rw [if_neg c12] at H
                        exact absurd H (by simp)
                    · rw [if_neg c11] at H
                      exact absurd H (by simp)
                  · rw [if_neg c9] at H
                    exact absurd H (by simp)
                · rw [if_neg c7] at H
                  exact absurd H (by simp)
            · rw [if_neg c4] at H
              have c4b0 : decide (x5_2 < 64) = false := decide_eq_false c4
              clear c4
              have H' := Aside0.mk H
              clear H
              go_wp2
              repeat (go_quiet (fail); try go_wp2)
              go_roundg k2
              case measure => have := HK1.out; have := HK2.out; omega
              case rel => exact ⟨(x3_2), (wrap64 (x4_1 + 1)), (by first | rfl | (simp; done) | (simp [*]; done)), (by first | rfl | (simp; done) | (simp [*]; done)), H', ⟨by have := HK1.out; have := HK2.out; omega⟩, ⟨by (with_reducible repeat (first | refine blk_drewN ?_ _ | refine blk_drew ?_ | refine blk_alloc ?_ _)); exact BK353.out⟩, ⟨by repeat (first | (with_reducible first | exact HB.out | apply below_alloc | apply pw_below_drewN | apply below_drew1 | refine below_set ?_ GE353.out) | exact HB.out)⟩⟩
      · rw [if_neg c3] at H
        have c3b0 : decide (x4_1 ≤ 6) = false := decide_eq_false c3
        clear c3
        obtain rfl := Option.some.inj H
        go_wp2
        repeat (go_quiet (fail); try go_wp2)
        go_ret
        exact ⟨by first | rfl | (simp [errW_none, errW_some] <;> rfl) | (simp [*, errW_none, errW_some] <;> rfl), by repeat (first | (with_reducible first | exact HB.out | apply below_alloc | apply pw_below_drewN | apply below_drew1 | refine below_set ?_ GE353.out) | exact HB.out)⟩

/-! ### impl_matters: function 72 -/
def impl_matters.l0 : Nat → Int → Int → (TabB 64) → Option (Bool)
  | 0, _, _, _ => none
  | k + 1, x1, x6, x376000 => if x6 < 64 then ((impl_nailBit.f x1).bind fun t376 => (if (Go.bits .and .i64 x6 t376) = 0 then (if 0 ≤ x6 then (if TabB.rd x376000 x6 = true then (impl_matters.l0 k x1 (wrap64 (x6 + 1)) x376000) else ((impl_nailBit.f x1).bind fun t377 => (if 0 ≤ (Go.bits .or .i64 x6 t377) then (if (Go.bits .or .i64 x6 t377) < 64 then (if TabB.rd x376000 (Go.bits .or .i64 x6 t377) = true then (some true) else (impl_matters.l0 k x1 (wrap64 (x6 + 1)) x376000)) else (none)) else (none)))) else (none)) else (impl_matters.l0 k x1 (wrap64 (x6 + 1)) x376000))) else (some false)
def impl_matters.f (k : Nat) (a0 : (TabB 64)) (a1 : Int) : Option (Bool) := impl_matters.l0 k a1 0 a0
theorem impl_matters.mono_l : ∀ k, (∀ y0 y1 y2, LeO (impl_matters.l0 k y0 y1 y2) (impl_matters.l0 (k + 1) y0 y1 y2))
  | 0 => fun _ _ _ r h => by simp [impl_matters.l0] at h
  | k + 1 => by
    have ih0 := impl_matters.mono_l k
    · intro y0 y1 y2
      unfold impl_matters.l0
      repeat' first
      | (with_reducible exact ih0 _ _ _)
      | (with_reducible exact LeO.refl _)
      | (with_reducible exact LeO.none _)
      | (with_reducible refine LeO.ite ?_ ?_)
      | (with_reducible refine LeO.bind ?_ (fun _ => ?_))
      | exact ih0 _ _ _
      | exact LeO.none _
      | refine LeO.ite ?_ ?_
      | refine LeO.bind ?_ (fun _ => ?_)
theorem impl_matters.mono : ∀ a0 a1 k, LeO (impl_matters.f k a0 a1) (impl_matters.f (k + 1) a0 a1) := by
  intro a0 a1 k
  have ih0 := impl_matters.mono_l k
  unfold impl_matters.f
  repeat' first
      | (with_reducible exact ih0 _ _ _)
      | (with_reducible exact LeO.refl _)
      | (with_reducible exact LeO.none _)
      | (with_reducible refine LeO.ite ?_ ?_)
      | (with_reducible refine LeO.bind ?_ (fun _ => ?_))
      | exact ih0 _ _ _
      | exact LeO.none _
      | refine LeO.ite ?_ ?_
      | refine LeO.bind ?_ (fun _ => ?_)
set_option maxHeartbeats 8000000 in
set_option maxRecDepth 100000 in
theorem impl_matters.calls (k : Nat) (a0 : (TabB 64)) (a1 : Int) (r : Bool) (w : World) (h : impl_matters.f k a0 a1 = some r) :
    Calls Try.prog 72 #[.agg (TabB.v a0), .int .i64 a1] w fun e w' => e = .returned (.bool r) ∧ Below w.heap.size w w' := by
  have HB := Aside0.mk (Below.refl w.heap.size w)
  have H : (impl_matters.l0 k a1 0 a0) = some r := h
  clear h
  have H' := Aside0.mk H
  clear H
  go_enter Try.func72, Try.ntmps72
  go_wp2_with (first | ((with_reducible refine gate_dst (N := 2) rfl ?_); refine box_event ?hg (N := 2) ?hd (cs := (TabB.v a0)) (t := 65) ?hr ?_; (case hd => rfl); (case hg => rfl); (case hr => first | (go_simp; done) | (go_simp; rfl)); intro gb375 hg w3 hbox hb; have n0_ := Aside0.mk (below_step (by repeat (first | (with_reducible first | exact HB.out | apply below_alloc | apply pw_below_drewN | apply below_drew1) | exact HB.out)) hb); have n1_ := Aside0.mk (hbox); have n2_ := Aside0.mk ((by rw [hg]; exact (below_size (by repeat (first | (with_reducible first | exact HB.out | apply below_alloc | apply pw_below_drewN | apply below_drew1) | exact HB.out))) : w.heap.size ≤ gb375)); have n3_ := Aside0.mk ((by rw [hg]; exact (below_size (by repeat (first | (with_reducible first | exact HB.out | apply below_alloc | apply pw_below_drewN | apply below_drew1) | exact HB.out))) : w.heap.size ≤ gb375)); clear HB; have HB := n0_; have BK375 := n1_; have GW375 := n2_; have GE375 := n3_; clear n0_ n1_ n2_ n3_; clear hb hbox hg))
  go_loopg [6] k (fun kq v6 w' => ∃ (x6_1 : Int), v6 = .int .i64 x6_1 ∧ Aside0 (impl_matters.l0 kq a1 x6_1 a0 = some r) ∧ Aside0 (kq ≤ k) ∧ Aside0 (w'.heap[gb375]? = some (.cells (TabB.v a0) 65 (0, 0))) ∧ Aside0 (Below w.heap.size w w'))
  case atStart => exact ⟨(0), (by first | rfl | (simp; done) | (simp [*]; done)), H', ⟨Nat.le_refl _⟩, ⟨by (with_reducible repeat (first | refine blk_drewN ?_ _ | refine blk_drew ?_ | refine blk_alloc ?_ _)); exact BK375.out⟩, ⟨by repeat (first | (with_reducible first | exact HB.out | apply below_alloc | apply pw_below_drewN | apply below_drew1 | refine below_set ?_ GE375.out) | exact HB.out)⟩⟩
  case round =>
    clear H'
    try clear p2
    obtain ⟨x6_1, rfl, HA, HK1, BK375, HB⟩ := hrel
    cases gk with
    | zero => exact absurd HA.out (by simp [impl_matters.l0])
    | succ k1 =>
      have H := HA.out
      clear HA
      simp only [impl_matters.l0] at H
      by_cases c4 : x6_1 < 64
      · rw [if_pos c4] at H
        have c4b0 : decide (x6_1 < 64) = true := decide_eq_true c4
        clear c4
        replace H := Option.bind_eq_some_iff.mp H
        obtain ⟨t376, A50, H⟩ := H
        replace H : (if (Go.bits .and .i64 x6_1 t376) = 0 then (if 0 ≤ x6_1 then (if TabB.rd a0 x6_1 = true then (impl_matters.l0 k1 a1 (wrap64 (x6_1 + 1)) a0) else ((impl_nailBit.f a1).bind fun t377 => (if 0 ≤ (Go.bits .or .i64 x6_1 t377) then (if (Go.bits .or .i64 x6_1 t377) < 64 then (if TabB.rd a0 (Go.bits .or .i64 x6_1 t377) = true then (some true) else (impl_matters.l0 k1 a1 (wrap64 (x6_1 + 1)) a0)) else (none)) else (none)))) else (none)) else (impl_matters.l0 k1 a1 (wrap64 (x6_1 + 1)) a0)) = some r := H
        have A5 := Aside0.mk A50
        clear A50
        by_cases c6 : (Go.bits .and .i64 x6_1 t376) = 0
        · rw [if_pos c6] at H
          have c6b0 : ((Go.bits .and .i64 x6_1 t376) == 0) = true := beq_iff_eq.mpr c6
          have c6b1 : ((Go.bits .and .i64 x6_1 t376) != 0) = false := bne_eq_false_iff_eq.mpr c6
          clear c6
          by_cases c7 : 0 ≤ x6_1
          · rw [if_pos c7] at H
            have c7b0 : decide (0 ≤ x6_1) = true := decide_eq_true c7
            clear c7
            by_cases c8 : TabB.rd a0 x6_1 = true
            · rw [if_pos c8] at H
              have c8b0 : TabB.rd a0 x6_1 = true := c8
              clear c8
              have H' := Aside0.mk H
              clear H
              go_wp2_with (first | ((with_reducible refine gate_callee (f := 71) rfl ?_); refine goesL_ (some 11) rfl rfl Try.func71 (by kernel_rfl) rfl #[.int .i64 a1] rfl (by (try simp only [List.map_toArray, List.map_cons, List.map_nil]); first | done | rfl | (simp only [List.length_drop, List.length_take]; rfl)) ?_; (with_reducible refine (impl_nailBit.calls a1 t376 _ A5.out).mono ?_); rintro e w9 ⟨rfl, hb⟩; refine ⟨_, rfl, ?_⟩; have n0_ := Aside0.mk (blk_below (g := gb375) (o := .cells (TabB.v a0) 65 (0, 0)) (by (with_reducible repeat (first | refine blk_drewN ?_ _ | refine blk_drew ?_ | refine blk_alloc ?_ _)); exact BK375.out) hb); have n1_ := Aside0.mk (below_step (by repeat (first | (with_reducible first | exact HB.out | apply below_alloc | apply pw_below_drewN | apply below_drew1 | refine below_set ?_ GE375.out) | exact HB.out)) hb); clear BK375; clear HB; have BK375 := n0_; have HB := n1_; clear n0_ n1_; (try clear hb); (try clear hb2); (try clear hk); (try clear hi); have px10 : 0 ≤ (x6_1 : Int) := (of_decide_eq_true (by first | (with_reducible assumption) | assumption)); have qx10 : (x6_1 : Int) < 64 := (of_decide_eq_true (by first | (with_reducible assumption) | assumption)); replace px10 := eq_true px10; replace qx10 := eq_true qx10; have hcx11 : w9.cell? ⟨gb375, (x6_1 : Int).toNat, none⟩ = some (.bool (TabB.rd a0 x6_1)) := TabB.cell BK375.out x6_1 (of_decide_eq_true (by first | (with_reducible assumption) | assumption)) (of_decide_eq_true (by first | (with_reducible assumption) | assumption))))
              go_roundg k1
              case measure => have := HK1.out; omega
              case rel => exact ⟨(wrap64 (x6_1 + 1)), (by first | rfl | (simp; done) | (simp [*]; done)), H', ⟨by have := HK1.out; omega⟩, ⟨by (with_reducible repeat (first | refine blk_drewN ?_ _ | refine blk_drew ?_ | refine blk_alloc ?_ _)); exact BK375.out⟩, ⟨by repeat (first | (with_reducible first | exact HB.out | apply below_alloc | apply pw_below_drewN | apply below_drew1 | refine below_set ?_ GE375.out) | exact HB.out)⟩⟩
            · rw [if_neg c8] at H
              have c8b0 : TabB.rd a0 x6_1 = false := by simpa using c8
              clear c8
              replace H := Option.bind_eq_some_iff.mp H
              obtain ⟨t377, A120, H⟩ := H
              replace H : (if 0 ≤ (Go.bits .or .i64 x6_1 t377) then (if (Go.bits .or .i64 x6_1 t377) < 64 then (if TabB.rd a0 (Go.bits .or .i64 x6_1 t377) = true then (some true) else (impl_matters.l0 k1 a1 (wrap64 (x6_1 + 1)) a0)) else (none)) else (none)) = some r := H
              have A12 := Aside0.mk A120
              clear A120
              by_cases c13 : 0 ≤ (Go.bits .or .i64 x6_1 t377)
              · rw [if_pos c13] at H
                have c13b0 : decide (0 ≤ (Go.bits .or .i64 x6_1 t377)) = true := decide_eq_true c13
                clear c13
                by_cases c14 : (Go.bits .or .i64 x6_1 t377) < 64
                · rw [if_pos c14] at H
                  have c14b0 : decide ((Go.bits .or .i64 x6_1 t377) < 64) = true := decide_eq_true c14
                  clear c14
                  by_cases c15 : TabB.rd a0 (Go.bits .or .i64 x6_1 t377) = true
                  · rw [if_pos c15] at H
                    have c15b0 : TabB.rd a0 (Go.bits .or .i64 x6_1 t377) = true := c15
                    clear c15
                    obtain rfl := Option.some.inj H
                    go_wp2_with (first | ((with_reducible refine gate_callee (f := 71) rfl ?_); refine goesL_ (some 11) rfl rfl Try.func71 (by kernel_rfl) rfl #[.int .i64 a1] rfl (by (try simp only [List.map_toArray, List.map_cons, List.map_nil]); first | done | rfl | (simp only [List.length_drop, List.length_take]; rfl)) ?_; (with_reducible refine (impl_nailBit.calls a1 t376 _ A5.out).mono ?_); rintro e w16 ⟨rfl, hb⟩; refine ⟨_, rfl, ?_⟩; have n0_ := Aside0.mk (blk_below (g := gb375) (o := .cells (TabB.v a0) 65 (0, 0)) (by (with_reducible repeat (first | refine blk_drewN ?_ _ | refine blk_drew ?_ | refine blk_alloc ?_ _)); exact BK375.out) hb); have n1_ := Aside0.mk (below_step (by repeat (first | (with_reducible first | exact HB.out | apply below_alloc | apply pw_below_drewN | apply below_drew1 | refine below_set ?_ GE375.out) | exact HB.out)) hb); clear BK375; clear HB; have BK375 := n0_; have HB := n1_; clear n0_ n1_; (try clear hb); (try clear hb2); (try clear hk); (try clear hi); have px17 : 0 ≤ (x6_1 : Int) := (of_decide_eq_true (by first | (with_reducible assumption) | assumption)); have qx17 : (x6_1 : Int) < 64 := (of_decide_eq_true (by first | (with_reducible assumption) | assumption)); replace px17 := eq_true px17; replace qx17 := eq_true qx17; have hcx18 : w16.cell? ⟨gb375, (x6_1 : Int).toNat, none⟩ = some (.bool (TabB.rd a0 x6_1)) := TabB.cell BK375.out x6_1 (of_decide_eq_true (by first | (with_reducible assumption) | assumption)) (of_decide_eq_true (by first | (with_reducible assumption) | assumption))) | (go_at_call 71; (with_reducible refine (impl_nailBit.calls a1 t377 _ A12.out).mono ?_); rintro e w19 ⟨rfl, hb⟩; have n0_ := Aside0.mk (blk_below (g := gb375) (o := .cells (TabB.v a0) 65 (0, 0)) (by (with_reducible repeat (first | refine blk_drewN ?_ _ | refine blk_drew ?_ | refine blk_alloc ?_ _)); exact BK375.out) hb); have n1_ := Aside0.mk (below_step (by repeat (first | (with_reducible first | exact HB.out | apply below_alloc | apply pw_below_drewN | apply below_drew1 | refine below_set ?_ GE375.out) | exact HB.out)) hb); clear BK375; clear HB; have BK375 := n0_; have HB := n1_; clear n0_ n1_; (try clear hb); (try clear hb2); (try clear hk); (try clear hi); have px20 : 0 ≤ ((Go.bits .or .i64 x6_1 t377) : Int) := (of_decide_eq_true (by first | (with_reducible assumption) | assumption)); have qx20 : ((Go.bits .or .i64 x6_1 t377) : Int) < 64 := (of_decide_eq_true (by first | (with_reducible assumption) | assumption)); replace px20 := eq_true px20; replace qx20 := eq_true qx20; have hcx21 : w19.cell? ⟨gb375, ((Go.bits .or .i64 x6_1 t377) : Int).toNat, none⟩ = some (.bool (TabB.rd a0 (Go.bits .or .i64 x6_1 t377))) := TabB.cell BK375.out (Go.bits .or .i64 x6_1 t377) (of_decide_eq_true (by first | (with_reducible assumption) | assumption)) (of_decide_eq_true (by first | (with_reducible assumption) | assumption))))
                    go_ret
                    exact ⟨by first | rfl | (simp [errW_none, errW_some] <;> rfl) | (simp [*, errW_none, errW_some] <;> rfl), by repeat (first | (with_reducible first | exact HB.out | apply below_alloc | apply pw_below_drewN | apply below_drew1 | refine below_set ?_ GE375.out) | exact HB.out)⟩
                  · rw [if_neg c15] at H
                    have c15b0 : TabB.rd a0 (Go.bits .or .i64 x6_1 t377) = false := by simpa using c15
                    clear c15
                    have H' := Aside0.mk H
                    clear H
                    go_wp2_with (first | ((with_reducible refine gate_callee (f := 71) rfl ?_); refine goesL_ (some 11) rfl rfl Try.func71 (by kernel_rfl) rfl #[.int .i64 a1] rfl (by (try simp only [List.map_toArray, List.map_cons, List.map_nil]); first | done | rfl | (simp only [List.length_drop, List.length_take]; rfl)) ?_; (with_reducible refine (impl_nailBit.calls a1 t376 _ A5.out).mono ?_); rintro e w22 ⟨rfl, hb⟩; refine ⟨_, rfl, ?_⟩; have n0_ := Aside0.mk (blk_below (g := gb375) (o := .cells (TabB.v a0) 65 (0, 0)) (by (with_reducible repeat (first | refine blk_drewN ?_ _ | refine blk_drew ?_ | refine blk_alloc ?_ _)); exact BK375.out) hb); have n1_ := Aside0.mk (below_step (by repeat (first | (with_reducible first | exact HB.out | apply below_alloc | apply pw_below_drewN | apply below_drew1 | refine below_set ?_ GE375.out) | exact HB.out)) hb); clear BK375; clear HB; have BK375 := n0_; have HB := n1_; clear n0_ n1_; (try clear hb); (try clear hb2); (try clear hk); (try clear hi); have px23 : 0 ≤ (x6_1 : Int) := (of_decide_eq_true (by first | (with_reducible assumption) | assumption)); have qx23 : (x6_1 : Int) < 64 := (of_decide_eq_true (by first | (with_reducible assumption) | assumption)); replace px23 := eq_true px23; replace qx23 := eq_true qx23; have hcx24 : w22.cell? ⟨gb375, (x6_1 : Int).toNat, none⟩ = some (.bool (TabB.rd a0 x6_1)) := TabB.cell BK375.out x6_1 (of_decide_eq_true (by first | (with_reducible assumption) | assumption)) (of_decide_eq_true (by first | (with_reducible assumption) | assumption))) | (go_at_call 71; (with_reducible refine (impl_nailBit.calls a1 t377 _ A12.out).mono ?_); rintro e w25 ⟨rfl, hb⟩; have n0_ := Aside0.mk (blk_below (g := gb375) (o := .cells (TabB.v a0) 65 (0, 0)) (by (with_reducible repeat (first | refine blk_drewN ?_ _ | refine blk_drew ?_ | refine blk_alloc ?_ _)); exact BK375.out) hb); have n1_ := Aside0.mk (below_step (by repeat (first | (with_reducible first | exact HB.out | apply below_alloc | apply pw_below_drewN | apply below_drew1 | refine below_set ?_ GE375.out) | exact HB.out)) hb); clear BK375; clear HB; have BK375 := n0_; have HB := n1_; clear n0_ n1_; (try clear hb); (try clear hb2); (try clear hk); (try clear hi); have px26 : 0 ≤ ((Go.bits .or .i64 x6_1 t377) : Int) := (of_decide_eq_true (by first | (with_reducible assumption) | assumption)); have qx26 : ((Go.bits .or .i64 x6_1 t377) : Int) < 64 := (of_decide_eq_true (by first | (with_reducible assumption) | assumption)); replace px26 := eq_true px26; replace qx26 := eq_true qx26; have hcx27 : w25.cell? ⟨gb375, ((Go.bits .or .i64 x6_1 t377) : Int).toNat, none⟩ = some (.bool (TabB.rd a0 (Go.bits .or .i64 x6_1 t377))) := TabB.cell BK375.out (Go.bits .or .i64 x6_1 t377) (of_decide_eq_true (by first | (with_reducible assumption) | assumption)) (of_decide_eq_true (by first | (with_reducible assumption) | assumption))))
                    go_roundg k1
                    case measure => have := HK1.out; omega
                    case rel => exact ⟨(wrap64 (x6_1 + 1)), (by first | rfl | (simp; done) | (simp [*]; done)), H', ⟨by have := HK1.out; omega⟩, ⟨by (with_reducible repeat (first | refine blk_drewN ?_ _ | refine blk_drew ?_ | refine blk_alloc ?_ _)); exact BK375.out⟩, ⟨by repeat (first | (with_reducible first | exact HB.out | apply below_alloc | apply pw_below_drewN | apply below_drew1 | refine below_set ?_ GE375.out) | exact HB.out)⟩⟩
                · rw [if_neg c14] at H
                  exact absurd H (by simp)
              · rw [if_neg c13] at H
                exact absurd H (by simp)
          · rw [if_neg c7] at H
            exact absurd H (by simp)
        · rw [if_neg c6] at H
          have c6b0 : ((Go.bits .and .i64 x6_1 t376) == 0) = false := beq_eq_false_iff_ne.mpr c6
          have c6b1 : ((Go.bits .and .i64 x6_1 t376) != 0) = true := bne_iff_ne.mpr c6
          have H' := Aside0.mk H
          clear H
          go_wp2_with (first | ((with_reducible refine gate_callee (f := 71) rfl ?_); refine goesL_ (some 11) rfl rfl Try.func71 (by kernel_rfl) rfl #[.int .i64 a1] rfl (by (try simp only [List.map_toArray, List.map_cons, List.map_nil]); first | done | rfl | (simp only [List.length_drop, List.length_take]; rfl)) ?_; (with_reducible refine (impl_nailBit.calls a1 t376 _ A5.out).mono ?_); rintro e w28 ⟨rfl, hb⟩; refine ⟨_, rfl, ?_⟩; have n0_ := Aside0.mk (blk_below (g := gb375) (o := .cells (TabB.v a0) 65 (0, 0)) (by (with_reducible repeat (first | refine blk_drewN ?_ _ | refine blk_drew ?_ | refine blk_alloc ?_ _)); exact BK375.out) hb); have n1_ := Aside0.mk (below_step (by repeat (first | (with_reducible first | exact HB.out | apply below_alloc | apply pw_below_drewN | apply below_drew1 | refine below_set ?_ GE375.out) | exact HB.out)) hb); clear BK375; clear HB; have BK375 := n0_; have HB := n1_; clear n0_ n1_; (try clear hb); (try clear hb2); (try clear hk); (try clear hi)))
          go_roundg k1
          case measure => have := HK1.out; omega
          case rel => exact ⟨(wrap64 (x6_1 + 1)), (by first | rfl | (simp; done) | (simp [*]; done)), H', ⟨by have := HK1.out; omega⟩, ⟨by (with_reducible repeat (first | refine blk_drewN ?_ _ | refine blk_drew ?_ | refine blk_alloc ?_ _)); exact BK375.out⟩, ⟨by repeat (first | (with_reducible first | exact HB.out | apply below_alloc | apply pw_below_drewN | apply below_drew1 | refine below_set ?_ GE375.out) | exact HB.out)⟩⟩
      · rw [if_neg c4] at H
        have c4b0 : decide (x6_1 < 64) = false := decide_eq_false c4
        clear c4
        obtain rfl := Option.some.inj H
        go_wp2
        go_ret
        exact ⟨by first | rfl | (simp [errW_none, errW_some] <;> rfl) | (simp [*, errW_none, errW_some] <;> rfl), by repeat (first | (with_reducible first | exact HB.out | apply below_alloc | apply pw_below_drewN | apply below_drew1 | refine below_set ?_ GE375.out) | exact HB.out)⟩

end Go.Proofs.Ytheicbcedhfahaa.P
