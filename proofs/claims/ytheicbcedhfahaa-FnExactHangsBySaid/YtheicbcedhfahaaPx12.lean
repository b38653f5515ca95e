/- Each call of a Go function named below comes to exactly the answers of the Lean function of its name, and a law row follows from its plain statement. No condition beyond those that each theorem states. -/
import Derived.Test.YtheicbcedhfahaaPx0
import Derived.Test.YtheicbcedhfahaaPx1
import Derived.Test.YtheicbcedhfahaaPx3
import Derived.Test.YtheicbcedhfahaaPx7
namespace Go.Proofs.Ytheicbcedhfahaa.P
open Go.RowKit Go.Proofs.YtheicbcedhfahaaW.PrintWords Go.Proofs.YtheicbcedhfahaaW.PrintLast Go.Proofs.YtheicbcedhfahaaW.PrintMore
attribute [local go_sem] max2_int min2_int max_two min_two max_three min_three max_four min_four   -- for this text's walks alone
set_option linter.unusedVariables false
set_option linter.unusedSimpArgs false

/-! ### spec_l3Matter: function 61 -/
mutual
def spec_l3Matter.l0 : Nat → Int → Int → (TabB 64) → Option (Int)
  | 0, _, _, _ => none
  | k + 1, x3, x4, x288000 => if x4 ≤ 6 then (spec_l3Matter.l1 k x3 x4 0 x288000) else (some x3)
def spec_l3Matter.l1 : Nat → Int → Int → Int → (TabB 64) → Option (Int)
  | 0, _, _, _, _ => none
  | k + 1, x3, x4, x5, x288000 => if x5 < 64 then ((spec_l3In.f x5 x4).bind fun t288 => (if t288 = true then (spec_l3Matter.l1 k x3 x4 (wrap64 (x5 + 1)) x288000) else (if 0 ≤ x5 then (if 0 ≤ (wrap64 (x4 - 1)) then (if 0 ≤ (Go.bits .or .i64 x5 (shl .i64 1 (wrap64 (x4 - 1)))) then (if (Go.bits .or .i64 x5 (shl .i64 1 (wrap64 (x4 - 1)))) < 64 then (if ((TabB.rd x288000 x5) != (TabB.rd x288000 (Go.bits .or .i64 x5 (shl .i64 1 (wrap64 (x4 - 1)))))) = true then (spec_l3Matter.l1 k (Go.bits .or .i64 x3 (shl .i64 1 (wrap64 (x4 - 1)))) x4 (wrap64 (x5 + 1)) x288000) else (spec_l3Matter.l1 k x3 x4 (wrap64 (x5 + 1)) x288000)) else (none)) else (none)) else (none)) else (none)))) else (spec_l3Matter.l0 k x3 (wrap64 (x4 + 1)) x288000)
end
def spec_l3Matter.f (k : Nat) (a0 : (TabB 64)) : Option (Int) := spec_l3Matter.l0 k 0 1 a0
theorem spec_l3Matter.mono_l : ∀ k, (∀ y0 y1 y2, LeO (spec_l3Matter.l0 k y0 y1 y2) (spec_l3Matter.l0 (k + 1) y0 y1 y2)) ∧ (∀ y0 y1 y2 y3, LeO (spec_l3Matter.l1 k y0 y1 y2 y3) (spec_l3Matter.l1 (k + 1) y0 y1 y2 y3))
  | 0 => ⟨fun _ _ _ r h => by simp [spec_l3Matter.l0] at h, fun _ _ _ _ r h => by simp [spec_l3Matter.l1] at h⟩
  | k + 1 => by
    obtain ⟨ih0, ih1⟩ := spec_l3Matter.mono_l k
    refine ⟨?_, ?_⟩
    · intro y0 y1 y2
      unfold spec_l3Matter.l0
      repeat' first
      | (with_reducible exact ih0 _ _ _)
      | (with_reducible exact ih1 _ _ _ _)
      | (with_reducible exact LeO.refl _)
      | (with_reducible exact LeO.none _)
      | (with_reducible refine LeO.ite ?_ ?_)
      | (with_reducible refine LeO.bind ?_ (fun _ => ?_))
      | exact ih0 _ _ _
      | exact ih1 _ _ _ _
      | exact LeO.none _
      | refine LeO.ite ?_ ?_
      | refine LeO.bind ?_ (fun _ => ?_)
    · intro y0 y1 y2 y3
      unfold spec_l3Matter.l1
      repeat' first
      | (with_reducible exact ih0 _ _ _)
      | (with_reducible exact ih1 _ _ _ _)
      | (with_reducible exact LeO.refl _)
      | (with_reducible exact LeO.none _)
      | (with_reducible refine LeO.ite ?_ ?_)
      | (with_reducible refine LeO.bind ?_ (fun _ => ?_))
      | exact ih0 _ _ _
      | exact ih1 _ _ _ _
      | exact LeO.none _
      | refine LeO.ite ?_ ?_
      | refine LeO.bind ?_ (fun _ => ?_)
theorem spec_l3Matter.mono : ∀ a0 k, LeO (spec_l3Matter.f k a0) (spec_l3Matter.f (k + 1) a0) := by
  intro a0 k
  obtain ⟨ih0, ih1⟩ := spec_l3Matter.mono_l k
  unfold spec_l3Matter.f
  repeat' first
      | (with_reducible exact ih0 _ _ _)
      | (with_reducible exact ih1 _ _ _ _)
      | (with_reducible exact LeO.refl _)
      | (with_reducible exact LeO.none _)
      | (with_reducible refine LeO.ite ?_ ?_)
      | (with_reducible refine LeO.bind ?_ (fun _ => ?_))
      | exact ih0 _ _ _
      | exact ih1 _ _ _ _
      | exact LeO.none _
      | refine LeO.ite ?_ ?_
      | refine LeO.bind ?_ (fun _ => ?_)
set_option maxHeartbeats 8000000 in
set_option maxRecDepth 100000 in
theorem spec_l3Matter.calls (k : Nat) (a0 : (TabB 64)) (r : Int) (w : World) (h : spec_l3Matter.f k a0 = some r) :
    Calls Try.prog 61 #[.agg (TabB.v a0)] w fun e w' => e = .returned (.int .i64 r) ∧ Below w.heap.size w w' := by
  have HB := Aside0.mk (Below.refl w.heap.size w)
  have H : (spec_l3Matter.l0 k 0 1 a0) = some r := h
  clear h
  have H' := Aside0.mk H
  clear H
  go_enter Try.func61, Try.ntmps61
  go_wp2_with (first | ((with_reducible refine gate_dst (N := 1) rfl ?_); refine box_event ?hg (N := 1) ?hd (cs := (TabB.v a0)) (t := 65) ?hr ?_; (case hd => rfl); (case hg => rfl); (case hr => first | (go_simp; done) | (go_simp; rfl)); intro gb287 hg w2 hbox hb; have n0_ := Aside0.mk (below_step (by repeat (first | (with_reducible first | exact HB.out | apply below_alloc | apply pw_below_drewN | apply below_drew1) | exact HB.out)) hb); have n1_ := Aside0.mk (hbox); have n2_ := Aside0.mk ((by rw [hg]; exact (below_size (by repeat (first | (with_reducible first | exact HB.out | apply below_alloc | apply pw_below_drewN | apply below_drew1) | exact HB.out))) : w.heap.size ≤ gb287)); have n3_ := Aside0.mk ((by rw [hg]; exact (below_size (by repeat (first | (with_reducible first | exact HB.out | apply below_alloc | apply pw_below_drewN | apply below_drew1) | exact HB.out))) : w.heap.size ≤ gb287)); clear HB; have HB := n0_; have BK287 := n1_; have GW287 := n2_; have GE287 := n3_; clear n0_ n1_ n2_ n3_; clear hb hbox hg))
  repeat (go_quiet (first | ((with_reducible refine gate_dst (N := 1) rfl ?_); refine box_event ?hg (N := 1) ?hd (cs := (TabB.v a0)) (t := 65) ?hr ?_; (case hd => rfl); (case hg => rfl); (case hr => first | (go_simp; done) | (go_simp; rfl)); intro gb287 hg w2 hbox hb; have n0_ := Aside0.mk (below_step (by repeat (first | (with_reducible first | exact HB.out | apply below_alloc | apply pw_below_drewN | apply below_drew1) | exact HB.out)) hb); have n1_ := Aside0.mk (hbox); have n2_ := Aside0.mk ((by rw [hg]; exact (below_size (by repeat (first | (with_reducible first | exact HB.out | apply below_alloc | apply pw_below_drewN | apply below_drew1) | exact HB.out))) : w.heap.size ≤ gb287)); have n3_ := Aside0.mk ((by rw [hg]; exact (below_size (by repeat (first | (with_reducible first | exact HB.out | apply below_alloc | apply pw_below_drewN | apply below_drew1) | exact HB.out))) : w.heap.size ≤ gb287)); clear HB; have HB := n0_; have BK287 := n1_; have GW287 := n2_; have GE287 := n3_; clear n0_ n1_ n2_ n3_; clear hb hbox hg)); try go_wp2_with (first | ((with_reducible refine gate_dst (N := 1) rfl ?_); refine box_event ?hg (N := 1) ?hd (cs := (TabB.v a0)) (t := 65) ?hr ?_; (case hd => rfl); (case hg => rfl); (case hr => first | (go_simp; done) | (go_simp; rfl)); intro gb287 hg w2 hbox hb; have n0_ := Aside0.mk (below_step (by repeat (first | (with_reducible first | exact HB.out | apply below_alloc | apply pw_below_drewN | apply below_drew1) | exact HB.out)) hb); have n1_ := Aside0.mk (hbox); have n2_ := Aside0.mk ((by rw [hg]; exact (below_size (by repeat (first | (with_reducible first | exact HB.out | apply below_alloc | apply pw_below_drewN | apply below_drew1) | exact HB.out))) : w.heap.size ≤ gb287)); have n3_ := Aside0.mk ((by rw [hg]; exact (below_size (by repeat (first | (with_reducible first | exact HB.out | apply below_alloc | apply pw_below_drewN | apply below_drew1) | exact HB.out))) : w.heap.size ≤ gb287)); clear HB; have HB := n0_; have BK287 := n1_; have GW287 := n2_; have GE287 := n3_; clear n0_ n1_ n2_ n3_; clear hb hbox hg)))
  go_loopg [3, 4] k (fun kq v3 v4 w' => ∃ (x3_1 : Int) (x4_1 : Int), v3 = .int .i64 x3_1 ∧ v4 = .int .i64 x4_1 ∧ Aside0 (spec_l3Matter.l0 kq x3_1 x4_1 a0 = some r) ∧ Aside0 (kq ≤ k) ∧ Aside0 (w'.heap[gb287]? = some (.cells (TabB.v a0) 65 (0, 0))) ∧ Aside0 (Below w.heap.size w w'))
  case atStart => exact ⟨(0), (1), (by first | rfl | (simp; done) | (simp [*]; done)), (by first | rfl | (simp; done) | (simp [*]; done)), H', ⟨Nat.le_refl _⟩, ⟨by (with_reducible repeat (first | refine blk_drewN ?_ _ | refine blk_drew ?_ | refine blk_alloc ?_ _)); exact BK287.out⟩, ⟨by repeat (first | (with_reducible first | exact HB.out | apply below_alloc | apply pw_below_drewN | apply below_drew1 | refine below_set ?_ GE287.out) | exact HB.out)⟩⟩
  case round =>
    clear H'
    try clear p2
    obtain ⟨x3_1, x4_1, rfl, rfl, HA, HK1, BK287, HB⟩ := hrel
    cases gk with
    | zero => exact absurd HA.out (by simp [spec_l3Matter.l0])
    | succ k1 =>
      have H := HA.out
      clear HA
      simp only [spec_l3Matter.l0] at H
      by_cases c3 : x4_1 ≤ 6
      · rw [if_pos c3] at H
        have c3b0 : decide (x4_1 ≤ 6) = true := decide_eq_true c3
        clear c3
        have H' := Aside0.mk H
        clear H
        go_wp2
        repeat (go_quiet (fail); try go_wp2)
        go_loopg [3, 5] k1 (fun kq v3 v5 w' => ∃ (x3_2 : Int) (x5_2 : Int), v3 = .int .i64 x3_2 ∧ v5 = .int .i64 x5_2 ∧ Aside0 (spec_l3Matter.l1 kq x3_2 x4_1 x5_2 a0 = some r) ∧ Aside0 (kq ≤ k1) ∧ Aside0 (w'.heap[gb287]? = some (.cells (TabB.v a0) 65 (0, 0))) ∧ Aside0 (Below w.heap.size w w'))
        case atStart => exact ⟨(x3_1), (0), (by first | rfl | (simp; done) | (simp [*]; done)), (by first | rfl | (simp; done) | (simp [*]; done)), H', ⟨Nat.le_refl _⟩, ⟨by (with_reducible repeat (first | refine blk_drewN ?_ _ | refine blk_drew ?_ | refine blk_alloc ?_ _)); exact BK287.out⟩, ⟨by repeat (first | (with_reducible first | exact HB.out | apply below_alloc | apply pw_below_drewN | apply below_drew1 | refine below_set ?_ GE287.out) | exact HB.out)⟩⟩
        case round =>
          clear H'
          try clear p2
          try clear c3
          try clear c3b0
          try clear p2
          obtain ⟨x3_2, x5_2, rfl, rfl, HA, HK2, BK287, HB⟩ := hrel
          cases gk with
          | zero => exact absurd HA.out (by simp [spec_l3Matter.l1])
          | succ k2 =>
            have H := HA.out
            clear HA
            simp only [spec_l3Matter.l1] at H
            by_cases c4 : x5_2 < 64
            · rw [if_pos c4] at H
              have c4b0 : decide (x5_2 < 64) = true := decide_eq_true c4
              clear c4
              replace H := Option.bind_eq_some_iff.mp H
              obtain ⟨t288, A50, H⟩ := H
              replace H : (if t288 = true then (spec_l3Matter.l1 k2 x3_2 x4_1 (wrap64 (x5_2 + 1)) a0) else (if 0 ≤ x5_2 then (if 0 ≤ (wrap64 (x4_1 - 1)) then (if 0 ≤ (Go.bits .or .i64 x5_2 (shl .i64 1 (wrap64 (x4_1 - 1)))) then (if (Go.bits .or .i64 x5_2 (shl .i64 1 (wrap64 (x4_1 - 1)))) < 64 then (if ((TabB.rd a0 x5_2) != (TabB.rd a0 (Go.bits .or .i64 x5_2 (shl .i64 1 (wrap64 (x4_1 - 1)))))) = true then (spec_l3Matter.l1 k2 (Go.bits .or .i64 x3_2 (shl .i64 1 (wrap64 (x4_1 - 1)))) x4_1 (wrap64 (x5_2 + 1)) a0) else (spec_l3Matter.l1 k2 x3_2 x4_1 (wrap64 (x5_2 + 1)) a0)) else (none)) else (none)) else (none)) else (none))) = some r := H
              have A5 := Aside0.mk A50
              clear A50
              by_cases c6 : t288 = true
              · subst c6
                have H1 : (spec_l3Matter.l1 k2 x3_2 x4_1 (wrap64 (x5_2 + 1)) a0) = some r := by rw [if_pos rfl] at H; exact H
                clear H
                have H := H1
                clear H1
                have H' := Aside0.mk H
                clear H
                go_wp2_with (first | (go_at_call 57; (with_reducible refine (spec_l3In.calls x5_2 x4_1 true _ A5.out).mono ?_); rintro e w' ⟨rfl, ⟨nd, rfl⟩⟩; (try first | exact ⟨rfl, _, World.drewN_drewN _ _ _⟩ | exact ⟨rfl, _, Eq.trans (World.drewN_drewN _ _ _) (congrArg (World.drewN _) (Nat.add_assoc _ _ _))⟩)))
                repeat (go_quiet (first | (go_at_call 57; (with_reducible refine (spec_l3In.calls x5_2 x4_1 true _ A5.out).mono ?_); rintro e w' ⟨rfl, ⟨nd, rfl⟩⟩; (try first | exact ⟨rfl, _, World.drewN_drewN _ _ _⟩ | exact ⟨rfl, _, Eq.trans (World.drewN_drewN _ _ _) (congrArg (World.drewN _) (Nat.add_assoc _ _ _))⟩))); try go_wp2_with (first | (go_at_call 57; (with_reducible refine (spec_l3In.calls x5_2 x4_1 true _ A5.out).mono ?_); rintro e w' ⟨rfl, ⟨nd, rfl⟩⟩; (try first | exact ⟨rfl, _, World.drewN_drewN _ _ _⟩ | exact ⟨rfl, _, Eq.trans (World.drewN_drewN _ _ _) (congrArg (World.drewN _) (Nat.add_assoc _ _ _))⟩))))
                go_roundg k2
                case measure => have := HK1.out; have := HK2.out; omega
                case rel => exact ⟨(x3_2), (wrap64 (x5_2 + 1)), (by first | rfl | (simp; done) | (simp [*]; done)), (by first | rfl | (simp; done) | (simp [*]; done)), H', ⟨by have := HK1.out; have := HK2.out; omega⟩, ⟨by (with_reducible repeat (first | refine blk_drewN ?_ _ | refine blk_drew ?_ | refine blk_alloc ?_ _)); exact BK287.out⟩, ⟨by repeat (first | (with_reducible first | exact HB.out | apply below_alloc | apply pw_below_drewN | apply below_drew1 | refine below_set ?_ GE287.out) | exact HB.out)⟩⟩
              · replace c6 := Bool.eq_false_iff.mpr c6
                subst c6
                have H1 : (if 0 ≤ x5_2 then (if 0 ≤ (wrap64 (x4_1 - 1)) then (if 0 ≤ (Go.bits .or .i64 x5_2 (shl .i64 1 (wrap64 (x4_1 - 1)))) then (if (Go.bits .or .i64 x5_2 (shl .i64 1 (wrap64 (x4_1 - 1)))) < 64 then (if ((TabB.rd a0 x5_2) != (TabB.rd a0 (Go.bits .or .i64 x5_2 (shl .i64 1 (wrap64 (x4_1 - 1)))))) = true then (spec_l3Matter.l1 k2 (Go.bits .or .i64 x3_2 (shl .i64 1 (wrap64 (x4_1 - 1)))) x4_1 (wrap64 (x5_2 + 1)) a0) else (spec_l3Matter.l1 k2 x3_2 x4_1 (wrap64 (x5_2 + 1)) a0)) else (none)) else (none)) else (none)) else (none)) = some r := by rw [if_neg (show ¬ (false = true) by decide)] at H; exact H
                clear H
                have H := H1
                clear H1
                by_cases c7 : 0 ≤ x5_2
                · rw [if_pos c7] at H
                  have c7b0 : decide (0 ≤ x5_2) = true := decide_eq_true c7
                  clear c7
                  obtain ⟨ji8, hji8⟩ : ∃ j_ : Int, (wrap64 (x4_1 - 1)) = j_ := ⟨_, rfl⟩
                  replace H : (if 0 ≤ (ji8) then (if 0 ≤ (Go.bits .or .i64 x5_2 (shl .i64 1 (ji8))) then (if (Go.bits .or .i64 x5_2 (shl .i64 1 (ji8))) < 64 then (if ((TabB.rd a0 x5_2) != (TabB.rd a0 (Go.bits .or .i64 x5_2 (shl .i64 1 (ji8))))) = true then (spec_l3Matter.l1 k2 (Go.bits .or .i64 x3_2 (shl .i64 1 (ji8))) x4_1 (wrap64 (x5_2 + 1)) a0) else (spec_l3Matter.l1 k2 x3_2 x4_1 (wrap64 (x5_2 + 1)) a0)) else (none)) else (none)) else (none)) = some r := by first | (rw [hji8] at H; exact H) | (simp only [hji8] at H ⊢; exact H)
                  (try rw [hji8] at A5)
                  have hji8w : (IntKind.i64.wrap (x4_1 - 1)) = ji8 := (i64_w _).trans hji8
                  by_cases c9 : 0 ≤ (ji8)
                  · rw [if_pos c9] at H
                    have c9b0 := eq_true c9
                    have c9b1 : decide (0 ≤ (ji8)) = true := decide_eq_true c9
                    clear c9
                    obtain ⟨ji10, hji10⟩ : ∃ j_ : Int, (shl .i64 1 (ji8)) = j_ := ⟨_, rfl⟩
                    replace H : (if 0 ≤ (Go.bits .or .i64 x5_2 (ji10)) then (if (Go.bits .or .i64 x5_2 (ji10)) < 64 then (if ((TabB.rd a0 x5_2) != (TabB.rd a0 (Go.bits .or .i64 x5_2 (ji10)))) = true then (spec_l3Matter.l1 k2 (Go.bits .or .i64 x3_2 (ji10)) x4_1 (wrap64 (x5_2 + 1)) a0) else (spec_l3Matter.l1 k2 x3_2 x4_1 (wrap64 (x5_2 + 1)) a0)) else (none)) else (none)) = some r := by first | (rw [hji10] at H; exact H) | (simp only [hji10] at H ⊢; exact H)
                    (try rw [hji10] at A5)
                    have hji10_ : (IntKind.i64.wrap (1 * 2 ^ min (ji8).toNat 64)) = ji10 := hji10
                    have hji10z : (ji8) ≤ 64 → (IntKind.i64.wrap (1 * 2 ^ (ji8).toNat)) = ji10 := shl_small hji10
                    have hji10u : (IntKind.i64.wrap (2 ^ min (ji8).toNat 64)) = ji10 := by have h_ := hji10_; rw [Int.one_mul] at h_; exact h_
                    have hji10v : (ji8) ≤ 64 → (IntKind.i64.wrap (2 ^ (ji8).toNat)) = ji10 := fun hle_ => by have h_ := hji10z hle_; rw [Int.one_mul] at h_; exact h_
                    have hji10y : (wrap64 (1 * 2 ^ min (ji8).toNat 64)) = ji10 := (i64_w _).symm.trans hji10_
                    have hji10x : (ji8) ≤ 64 → (wrap64 (1 * 2 ^ (ji8).toNat)) = ji10 := fun h_ => (i64_w _).symm.trans (hji10z h_)
                    by_cases c11 : 0 ≤ (Go.bits .or .i64 x5_2 (ji10))
                    · rw [if_pos c11] at H
                      have c11b0 : decide (0 ≤ (Go.bits .or .i64 x5_2 (ji10))) = true := decide_eq_true c11
                      clear c11
                      by_cases c12 : (Go.bits .or .i64 x5_2 (ji10)) < 64
                      · rw [if_pos c12] at H
                        have c12b0 : decide ((Go.bits .or .i64 x5_2 (ji10)) < 64) = true := decide_eq_true c12
                        clear c12
                        by_cases c13 : ((TabB.rd a0 x5_2) != (TabB.rd a0 (Go.bits .or .i64 x5_2 (ji10)))) = true
                        · rw [if_pos c13] at H
                          have c13b0 : ((TabB.rd a0 x5_2) != (TabB.rd a0 (Go.bits .or .i64 x5_2 (ji10)))) = true := c13
                          (try (have c13b1 : decide ((TabB.rd a0 x5_2) = (TabB.rd a0 (Go.bits .or .i64 x5_2 (ji10)))) = false := by simpa using c13))
                          (try (have c13b2 : ((TabB.rd a0 x5_2) == (TabB.rd a0 (Go.bits .or .i64 x5_2 (ji10)))) = false := by simpa using c13))
                          (try (have c13b3 : ¬ ((TabB.rd a0 x5_2) = (TabB.rd a0 (Go.bits .or .i64 x5_2 (ji10)))) := by simpa using c13))
                          clear c13
                          have c14b0 := eq_true (of_decide_eq_true (by first | (with_reducible assumption) | assumption) : 0 ≤ (ji8))
                          have H' := Aside0.mk H
                          clear H
                          go_wp2_with (first | (go_at_call 57; (with_reducible refine (spec_l3In.calls x5_2 x4_1 false _ A5.out).mono ?_); rintro e w' ⟨rfl, ⟨nd, rfl⟩⟩; (try first | exact ⟨rfl, _, World.drewN_drewN _ _ _⟩ | exact ⟨rfl, _, Eq.trans (World.drewN_drewN _ _ _) (congrArg (World.drewN _) (Nat.add_assoc _ _ _))⟩); have px15 : 0 ≤ (x5_2 : Int) := (of_decide_eq_true (by first | (with_reducible assumption) | assumption)); have qx15 : (x5_2 : Int) < 64 := (of_decide_eq_true (by first | (with_reducible assumption) | assumption)); replace px15 := eq_true px15; replace qx15 := eq_true qx15; have hcx16 : wr.cell? ⟨gb287, (x5_2 : Int).toNat, none⟩ = some (.bool (TabB.rd a0 x5_2)) := TabB.cell BK287.out x5_2 (of_decide_eq_true (by first | (with_reducible assumption) | assumption)) (of_decide_eq_true (by first | (with_reducible assumption) | assumption)); have px17 : 0 ≤ ((Go.bits .or .i64 x5_2 (ji10)) : Int) := (of_decide_eq_true (by first | (with_reducible assumption) | assumption)); have qx17 : ((Go.bits .or .i64 x5_2 (ji10)) : Int) < 64 := (of_decide_eq_true (by first | (with_reducible assumption) | assumption)); replace px17 := eq_true px17; replace qx17 := eq_true qx17; have hcx18 : wr.cell? ⟨gb287, ((Go.bits .or .i64 x5_2 (ji10)) : Int).toNat, none⟩ = some (.bool (TabB.rd a0 (Go.bits .or .i64 x5_2 (ji10)))) := TabB.cell BK287.out (Go.bits .or .i64 x5_2 (ji10)) (of_decide_eq_true (by first | (with_reducible assumption) | assumption)) (of_decide_eq_true (by first | (with_reducible assumption) | assumption))))
                          repeat (go_quiet (first | (go_at_call 57; (with_reducible refine (spec_l3In.calls x5_2 x4_1 false _ A5.out).mono ?_); rintro e w' ⟨rfl, ⟨nd, rfl⟩⟩; (try first | exact ⟨rfl, _, World.drewN_drewN _ _ _⟩ | exact ⟨rfl, _, Eq.trans (World.drewN_drewN _ _ _) (congrArg (World.drewN _) (Nat.add_assoc _ _ _))⟩); have px15 : 0 ≤ (x5_2 : Int) := (of_decide_eq_true (by first | (with_reducible assumption) | assumption)); have qx15 : (x5_2 : Int) < 64 := (of_decide_eq_true (by first | (with_reducible assumption) | assumption)); replace px15 := eq_true px15; replace qx15 := eq_true qx15; have hcx16 : wr.cell? ⟨gb287, (x5_2 : Int).toNat, none⟩ = some (.bool (TabB.rd a0 x5_2)) := TabB.cell BK287.out x5_2 (of_decide_eq_true (by first | (with_reducible assumption) | assumption)) (of_decide_eq_true (by first | (with_reducible assumption) | assumption)); have px17 : 0 ≤ ((Go.bits .or .i64 x5_2 (ji10)) : Int) := (of_decide_eq_true (by first | (with_reducible assumption) | assumption)); have qx17 : ((Go.bits .or .i64 x5_2 (ji10)) : Int) < 64 := (of_decide_eq_true (by first | (with_reducible assumption) | assumption)); replace px17 := eq_true px17; replace qx17 := eq_true qx17; have hcx18 : wr.cell? ⟨gb287, ((Go.bits .or .i64 x5_2 (ji10)) : Int).toNat, none⟩ = some (.bool (TabB.rd a0 (Go.bits .or .i64 x5_2 (ji10)))) := TabB.cell BK287.out (Go.bits .or .i64 x5_2 (ji10)) (of_decide_eq_true (by first | (with_reducible assumption) | assumption)) (of_decide_eq_true (by first | (with_reducible assumption) | assumption)))); try go_wp2_with (first | (go_at_call 57; (with_reducible refine (spec_l3In.calls x5_2 x4_1 false _ A5.out).mono ?_); rintro e w' ⟨rfl, ⟨nd, rfl⟩⟩; (try first | exact ⟨rfl, _, World.drewN_drewN _ _ _⟩ | exact ⟨rfl, _, Eq.trans (World.drewN_drewN _ _ _) (congrArg (World.drewN _) (Nat.add_assoc _ _ _))⟩); have px15 : 0 ≤ (x5_2 : Int) := (of_decide_eq_true (by first | (with_reducible assumption) | assumption)); have qx15 : (x5_2 : Int) < 64 := (of_decide_eq_true (by first | (with_reducible assumption) | assumption)); replace px15 := eq_true px15; replace qx15 := eq_true qx15; have hcx16 : wr.cell? ⟨gb287, (x5_2 : Int).toNat, none⟩ = some (.bool (TabB.rd a0 x5_2)) := TabB.cell BK287.out x5_2 (of_decide_eq_true (by first | (with_reducible assumption) | assumption)) (of_decide_eq_true (by first | (with_reducible assumption) | assumption)); have px17 : 0 ≤ ((Go.bits .or .i64 x5_2 (ji10)) : Int) := (of_decide_eq_true (by first | (with_reducible assumption) | assumption)); have qx17 : ((Go.bits .or .i64 x5_2 (ji10)) : Int) < 64 := (of_decide_eq_true (by first | (with_reducible assumption) | assumption)); replace px17 := eq_true px17; replace qx17 := eq_true qx17; have hcx18 : wr.cell? ⟨gb287, ((Go.bits .or .i64 x5_2 (ji10)) : Int).toNat, none⟩ = some (.bool (TabB.rd a0 (Go.bits .or .i64 x5_2 (ji10)))) := TabB.cell BK287.out (Go.bits .or .i64 x5_2 (ji10)) (of_decide_eq_true (by first | (with_reducible assumption) | assumption)) (of_decide_eq_true (by first | (with_reducible assumption) | assumption)))))
                          go_roundg k2
                          case measure => have := HK1.out; have := HK2.out; omega
                          case rel => exact ⟨(Go.bits .or .i64 x3_2 (ji10)), (wrap64 (x5_2 + 1)), (by first | rfl | (simp; done) | (simp only [← hji10] <;> (first | rfl | simp)) | (simp [*]; done)), (by first | rfl | (simp; done) | (simp [*]; done)), H', ⟨by have := HK1.out; have := HK2.out; omega⟩, ⟨by (with_reducible repeat (first | refine blk_drewN ?_ _ | refine blk_drew ?_ | refine blk_alloc ?_ _)); exact BK287.out⟩, ⟨by repeat (first | (with_reducible first | exact HB.out | apply below_alloc | apply pw_below_drewN | apply below_drew1 | refine below_set ?_ GE287.out) | exact HB.out)⟩⟩
                        · rw [if_neg c13] at H
                          have c13b0 : ((TabB.rd a0 x5_2) != (TabB.rd a0 (Go.bits .or .i64 x5_2 (ji10)))) = false := by simpa using c13
                          (try (have c13b1 : decide ((TabB.rd a0 x5_2) = (TabB.rd a0 (Go.bits .or .i64 x5_2 (ji10)))) = true := by simpa using c13))
                          (try (have c13b2 : ((TabB.rd a0 x5_2) == (TabB.rd a0 (Go.bits .or .i64 x5_2 (ji10)))) = true := by simpa using c13))
                          clear c13
                          have H' := Aside0.mk H
                          clear H
                          go_wp2_with (first | (go_at_call 57; (with_reducible refine (spec_l3In.calls x5_2 x4_1 false _ A5.out).mono ?_); rintro e w' ⟨rfl, ⟨nd, rfl⟩⟩; (try first | exact ⟨rfl, _, World.drewN_drewN _ _ _⟩ | exact ⟨rfl, _, Eq.trans (World.drewN_drewN _ _ _) (congrArg (World.drewN _) (Nat.add_assoc _ _ _))⟩); have px19 : 0 ≤ (x5_2 : Int) := (of_decide_eq_true (by first | (with_reducible assumption) | assumption)); have qx19 : (x5_2 : Int) < 64 := (of_decide_eq_true (by first | (with_reducible assumption) | assumption)); replace px19 := eq_true px19; replace qx19 := eq_true qx19; have hcx20 : wr.cell? ⟨gb287, (x5_2 : Int).toNat, none⟩ = some (.bool (TabB.rd a0 x5_2)) := TabB.cell BK287.out x5_2 (of_decide_eq_true (by first | (with_reducible assumption) | assumption)) (of_decide_eq_true (by first | (with_reducible assumption) | assumption)); have px21 : 0 ≤ ((Go.bits .or .i64 x5_2 (ji10)) : Int) := (of_decide_eq_true (by first | (with_reducible assumption) | assumption)); have qx21 : ((Go.bits .or .i64 x5_2 (ji10)) : Int) < 64 := (of_decide_eq_true (by first | (with_reducible assumption) | assumption)); replace px21 := eq_true px21; replace qx21 := eq_true qx21; have hcx22 : wr.cell? ⟨gb287, ((Go.bits .or .i64 x5_2 (ji10)) : Int).toNat, none⟩ = some (.bool (TabB.rd a0 (Go.bits .or .i64 x5_2 (ji10)))) := TabB.cell BK287.out (Go.bits .or .i64 x5_2 (ji10)) (of_decide_eq_true (by first | (with_reducible assumption) | assumption)) (of_decide_eq_true (by first | (with_reducible assumption) | assumption))))
                          repeat (go_quiet (first | (go_at_call 57; (with_reducible refine (spec_l3In.calls x5_2 x4_1 false _ A5.out).mono ?_); rintro e w' ⟨rfl, ⟨nd, rfl⟩⟩; (try first | exact ⟨rfl, _, World.drewN_drewN _ _ _⟩ | exact ⟨rfl, _, Eq.trans (World.drewN_drewN _ _ _) (congrArg (World.drewN _) (Nat.add_assoc _ _ _))⟩); have px19 : 0 ≤ (x5_2 : Int) := (of_decide_eq_true (by first | (with_reducible assumption) | assumption)); have qx19 : (x5_2 : Int) < 64 := (of_decide_eq_true (by first | (with_reducible assumption) | assumption)); replace px19 := eq_true px19; replace qx19 := eq_true qx19; have hcx20 : wr.cell? ⟨gb287, (x5_2 : Int).toNat, none⟩ = some (.bool (TabB.rd a0 x5_2)) := TabB.cell BK287.out x5_2 (of_decide_eq_true (by first | (with_reducible assumption) | assumption)) (of_decide_eq_true (by first | (with_reducible assumption) | assumption)); have px21 : 0 ≤ ((Go.bits .or .i64 x5_2 (ji10)) : Int) := (of_decide_eq_true (by first | (with_reducible assumption) | assumption)); have qx21 : ((Go.bits .or .i64 x5_2 (ji10)) : Int) < 64 := (of_decide_eq_true (by first | (with_reducible assumption) | assumption)); replace px21 := eq_true px21; replace qx21 := eq_true qx21; have hcx22 : wr.cell? ⟨gb287, ((Go.bits .or .i64 x5_2 (ji10)) : Int).toNat, none⟩ = some (.bool (TabB.rd a0 (Go.bits .or .i64 x5_2 (ji10)))) := TabB.cell BK287.out (Go.bits .or .i64 x5_2 (ji10)) (of_decide_eq_true (by first | (with_reducible assumption) | assumption)) (of_decide_eq_true (by first | (with_reducible assumption) | assumption)))); try go_wp2_with (first | (go_at_call 57; (with_reducible refine (spec_l3In.calls x5_2 x4_1 false _ A5.out).mono ?_); rintro e w' ⟨rfl, ⟨nd, rfl⟩⟩; (try first | exact ⟨rfl, _, World.drewN_drewN _ _ _⟩ | exact ⟨rfl, _, Eq.trans (World.drewN_drewN _ _ _) (congrArg (World.drewN _) (Nat.add_assoc _ _ _))⟩); have px19 : 0 ≤ (x5_2 : Int) := (of_decide_eq_true (by first | (with_reducible assumption) | assumption)); have qx19 : (x5_2 : Int) < 64 := (of_decide_eq_true (by first | (with_reducible assumption) | assumption)); replace px19 := eq_true px19; replace qx19 := eq_true qx19; have hcx20 : wr.cell? ⟨gb287, (x5_2 : Int).toNat, none⟩ = some (.bool (TabB.rd a0 x5_2)) := TabB.cell BK287.out x5_2 (of_decide_eq_true (by first | (with_reducible assumption) | assumption)) (of_decide_eq_true (by first | (with_reducible assumption) | assumption)); have px21 : 0 ≤ ((Go.bits .or .i64 x5_2 (ji10)) : Int) := (of_decide_eq_true (by first | (with_reducible assumption) | assumption)); have qx21 : ((Go.bits .or .i64 x5_2 (ji10)) : Int) < 64 := (of_decide_eq_true (by first | (with_reducible assumption) | assumption)); replace px21 := eq_true px21; replace qx21 := eq_true qx21; have hcx22 : wr.cell? ⟨gb287, ((Go.bits .or .i64 x5_2 (ji10)) : Int).toNat, none⟩ = some (.bool (TabB.rd a0 (Go.bits .or .i64 x5_2 (ji10)))) := TabB.cell BK287.out (Go.bits .or .i64 x5_2 (ji10)) (of_decide_eq_true (by first | (with_reducible assumption) | assumption)) (of_decide_eq_true (by first | (with_reducible assumption) | assumption)))))
                          go_roundg k2
                          case measure => have := HK1.out; have := HK2.out; omega
                          case rel => exact ⟨(x3_2), (wrap64 (x5_2 + 1)), (by first | rfl | (simp; done) | (simp [*]; done)), (by first | rfl | (simp; done) | (simp [*]; done)), H', ⟨by have := HK1.out; have := HK2.out; omega⟩, ⟨by (with_reducible repeat (first | refine blk_drewN ?_ _ | refine blk_drew ?_ | refine blk_alloc ?_ _)); exact BK287.out⟩, ⟨by repeat (first | (with_reducible first | exact HB.out | apply below_alloc | apply pw_below_drewN | apply below_drew1 | refine below_set ?_ GE287.out) | exact HB.out)⟩⟩
                      · rw [if_neg c12] at H
                        exact absurd H (by simp)
                    · rw [if_neg c11] at H
                      exact absurd H (by simp)
                  · rw [if_neg c9] at H
                    exact absurd H (by simp)
                · rw [if_neg c7] at H
                  exact absurd H (by simp)
            · rw [if_neg c4] at H
              have c4b0 : decide (x5_2 < 64) = false := decide_eq_false c4
              clear c4
              have H' := Aside0.mk H
              clear H
              go_wp2
              repeat (go_quiet (fail); try go_wp2)
              go_roundg k2
              case measure => have := HK1.out; have := HK2.out; omega
              case rel => exact ⟨(x3_2), (wrap64 (x4_1 + 1)), (by first | rfl | (simp; done) | (simp [*]; done)), (by first | rfl | (simp; done) | (simp [*]; done)), H', ⟨by have := HK1.out; have := HK2.out; omega⟩, ⟨by (with_reducible repeat (first | refine blk_drewN ?_ _ | refine blk_drew ?_ | refine blk_alloc ?_ _)); exact BK287.out⟩, ⟨by repeat (first | (with_reducible first | exact HB.out | apply below_alloc | apply pw_below_drewN | apply below_drew1 | refine below_set ?_ GE287.out) | exact HB.out)⟩⟩
      · rw [if_neg c3] at H
        have c3b0 : decide (x4_1 ≤ 6) = false := decide_eq_false c3
        clear c3
        obtain rfl := Option.some.inj H
        go_wp2
        repeat (go_quiet (fail); try go_wp2)
        go_ret
        exact ⟨by first | rfl | (simp [errW_none, errW_some] <;> rfl) | (simp [*, errW_none, errW_some] <;> rfl), by repeat (first | (with_reducible first | exact HB.out | apply below_alloc | apply pw_below_drewN | apply below_drew1 | refine below_set ?_ GE287.out) | exact HB.out)⟩

/-! ### spec_l3Take: function 112 -/
def spec_l3Take.l0 : Nat → List Int → Int → List Int → Int → Option (List Int)
  | 0, _, _, _, _ => none
  | k + 1, x0, x1, x5, x6 => if x6 < (x0.length : Int) then (if 0 ≤ x6 then ((spec_l2Nail.f (rd x0 x6)).bind fun t296 => ((spec_l3In.f x1 t296).bind fun t297 => (if t297 = true then (spec_l3Take.l0 k x0 x1 x5 (wrap64 (x6 + 1))) else (if x5.length < 17592186044416 then (spec_l3Take.l0 k x0 x1 (x5 ++ [rd x0 x6]) (wrap64 (x6 + 1))) else (none))))) else (none)) else ((spec_l2Reduce.f k x5).bind fun t292 => (some t292))
def spec_l3Take.f (k : Nat) (l0 : List Int) (a1 : Int) : Option (List Int) := spec_l3Take.l0 k l0 a1 (([] : List Int)) 0
theorem spec_l3Take.mono_l : ∀ k, (∀ y0 y1 y2 y3, LeO (spec_l3Take.l0 k y0 y1 y2 y3) (spec_l3Take.l0 (k + 1) y0 y1 y2 y3))
  | 0 => fun _ _ _ _ r h => by simp [spec_l3Take.l0] at h
  | k + 1 => by
    have ih0 := spec_l3Take.mono_l k
    · intro y0 y1 y2 y3
      unfold spec_l3Take.l0
      repeat' first
      | (with_reducible exact ih0 _ _ _ _)
      | (with_reducible exact spec_l2Reduce.mono _ _)
      | (with_reducible exact LeO.refl _)
      | (with_reducible exact LeO.none _)
      | (with_reducible refine LeO.ite ?_ ?_)
      | (with_reducible refine LeO.bind ?_ (fun _ => ?_))
      | exact ih0 _ _ _ _
      | exact spec_l2Reduce.mono _ _
      | exact LeO.none _
      | refine LeO.ite ?_ ?_
      | refine LeO.bind ?_ (fun _ => ?_)
theorem spec_l3Take.mono : ∀ a0 a1 k, LeO (spec_l3Take.f k a0 a1) (spec_l3Take.f (k + 1) a0 a1) := by
  intro a0 a1 k
  have ih0 := spec_l3Take.mono_l k
  unfold spec_l3Take.f
  repeat' first
      | (with_reducible exact ih0 _ _ _ _)
      | (with_reducible exact spec_l2Reduce.mono _ _)
      | (with_reducible exact LeO.refl _)
      | (with_reducible exact LeO.none _)
      | (with_reducible refine LeO.ite ?_ ?_)
      | (with_reducible refine LeO.bind ?_ (fun _ => ?_))
      | exact ih0 _ _ _ _
      | exact spec_l2Reduce.mono _ _
      | exact LeO.none _
      | refine LeO.ite ?_ ?_
      | refine LeO.bind ?_ (fun _ => ?_)
set_option maxHeartbeats 8000000 in
set_option maxRecDepth 100000 in
theorem spec_l3Take.calls (k : Nat) (A0 : Option Addr) (c0 : Nat) (l0 : List Int) (a1 : Int) (r : List Int) (w : World) (hr0 : Kd.C (Kd.int .i64) w A0 l0.length l0) (hc0 : l0.length ≤ c0) (h : spec_l3Take.f k l0 a1 = some r) :
    Calls Try.prog 112 #[.slice A0 l0.length c0, .int .i64 a1] w fun e w' => ∃ v0_ : Value, e = .returned (v0_) ∧ Kd.R (Kd.int .i64) 3 w' w.heap.size (fun _ => True) v0_ r ∧ Below w.heap.size w w' := by
  have HR0 := Aside0.mk hr0
  have HC0 := Aside0.mk hc0
  clear hr0 hc0
  have HB := Aside0.mk (Below.refl w.heap.size w)
  have H : (spec_l3Take.l0 k l0 a1 (([] : List Int)) 0) = some r := h
  clear h
  obtain ⟨y289, hy289⟩ : ∃ y_ : List Int, y_ = (([] : List Int)) := ⟨_, rfl⟩
  replace H : (spec_l3Take.l0 k l0 a1 y289 0) = some r := by first | (rw [hy289]; with_reducible exact H) | (have H2_ := (Option.bind_some _ _).symm.trans H; rw [hy289]; with_reducible exact H2_) | (have H2_ := (Option.bind_some _ _).symm.trans H; with_reducible exact H2_) | with_reducible exact H | (rw [hy289]; exact H) | exact H
  have Ny289 := Aside0.mk hy289
  clear hy289
  have H' := Aside0.mk H
  clear H
  go_enter Try.func112, Try.ntmps112
  go_wp2_with (first | ((with_reducible refine gate_dst (N := 7) rfl ?_); refine Kd.R_lit (Kd.int .i64) _ 3 ?hg (N := 7) ?hd (xs := ([] : List Int)) (inner := []) (ok := fun _ => True) (okp := fun _ => True) ?hr ?hp (fun _ hk => hk) trivial (Below.refl _ _) (Nat.le_refl _) (by simp) ?_; (case hd => rfl); (case hg => rfl); (case hr => first | (go_simp; done) | (go_simp; rfl)); (case hp => exact (Reps.none _ _)); intro v290 w3 ho4 hb hg_ hnew_; clear hg_ hnew_; (first | rw [← Ny289.out] at ho4 | (simp only [Int.reduceToNat] at ho4; rw [← Ny289.out] at ho4)); have n0_ := Aside0.mk (Kd.R_lower ho4 (below_size (by repeat (first | (with_reducible first | exact HB.out | apply below_alloc | apply pw_below_drewN | apply below_drew1) | exact HB.out)))); have n1_ := Aside0.mk (below_step (by repeat (first | (with_reducible first | exact HB.out | apply below_alloc | apply pw_below_drewN | apply below_drew1) | exact HB.out)) hb); clear HB; have HO291 := n0_; have HB := n1_; clear n0_ n1_; clear hb ho4))
  go_loopg [5, 6] k (fun kq v5 v6 w' => ∃ (x5_1 : List Int) (x6_1 : Int), v6 = .int .i64 x6_1 ∧ Aside0 (spec_l3Take.l0 kq l0 a1 x5_1 x6_1 = some r) ∧ Aside0 (kq ≤ k) ∧ Aside0 (Kd.R (Kd.int .i64) 3 w' w.heap.size (fun _ => True) v5 x5_1) ∧ Aside0 (Below w.heap.size w w'))
  case atStart => exact ⟨(y289), (0), (by first | rfl | (simp; done) | (simp [*]; done)), H', ⟨Nat.le_refl _⟩, ⟨by (with_reducible repeat (first | apply Kd.R_alloc | apply Kd.R_drewN | apply Kd.R_drew)); exact HO291.out⟩, ⟨by repeat (first | (with_reducible first | exact HB.out | apply below_alloc | apply pw_below_drewN | apply below_drew1) | exact HB.out)⟩⟩
  case round =>
    clear H'
    try clear c1
    try clear p2
    obtain ⟨x5_1, x6_1, rfl, HA, HK1, HO_5, HB⟩ := hrel
    cases gk with
    | zero => exact absurd HA.out (by simp [spec_l3Take.l0])
    | succ k1 =>
      have H := HA.out
      clear HA
      simp only [spec_l3Take.l0] at H
      by_cases c5 : x6_1 < (l0.length : Int)
      · rw [if_pos c5] at H
        have c5b0 : decide (x6_1 < (l0.length : Int)) = true := decide_eq_true c5
        clear c5
        by_cases c6 : 0 ≤ x6_1
        · rw [if_pos c6] at H
          have c6b0 : decide (0 ≤ x6_1) = true := decide_eq_true c6
          clear c6
          replace H := Option.bind_eq_some_iff.mp H
          obtain ⟨t296, A70, H⟩ := H
          replace H : ((spec_l3In.f a1 t296).bind fun t297 => (if t297 = true then (spec_l3Take.l0 k1 l0 a1 x5_1 (wrap64 (x6_1 + 1))) else (if x5_1.length < 17592186044416 then (spec_l3Take.l0 k1 l0 a1 (x5_1 ++ [rd l0 x6_1]) (wrap64 (x6_1 + 1))) else (none)))) = some r := H
          have A7 := Aside0.mk A70
          clear A70
          replace H := Option.bind_eq_some_iff.mp H
          obtain ⟨t297, A80, H⟩ := H
          replace H : (if t297 = true then (spec_l3Take.l0 k1 l0 a1 x5_1 (wrap64 (x6_1 + 1))) else (if x5_1.length < 17592186044416 then (spec_l3Take.l0 k1 l0 a1 (x5_1 ++ [rd l0 x6_1]) (wrap64 (x6_1 + 1))) else (none))) = some r := H
          have A8 := Aside0.mk A80
          clear A80
          by_cases c9 : t297 = true
          · subst c9
            have H1 : (spec_l3Take.l0 k1 l0 a1 x5_1 (wrap64 (x6_1 + 1))) = some r := by rw [if_pos rfl] at H; exact H
            clear H
            have H := H1
            clear H1
            have H' := Aside0.mk H
            clear H
            have p295 : 0 ≤ (x6_1 : Int) := of_decide_eq_true (by first | (with_reducible assumption) | assumption)
            have q295 : x6_1 < (l0.length : Int) := of_decide_eq_true (by first | (with_reducible assumption) | assumption)
            obtain ⟨ad295, e295, hx295_0⟩ := Kd.at_int HR0.out x6_1 p295 q295
            cases e295
            replace hx295_0 := (HB.out.cell (World.block_lt_of_cell? w _ hx295_0)).trans hx295_0
            replace p295 := eq_true p295
            replace q295 := eq_true q295
            go_wp2_with (first | ((with_reducible refine gate_callee (f := 91) rfl ?_); refine goesL_ (some 19) rfl rfl Try.func91 (by kernel_rfl) rfl #[.int .i64 (rd l0 x6_1)] rfl (by (try simp only [List.map_toArray, List.map_cons, List.map_nil]); first | done | rfl | (simp only [List.length_drop, List.length_take]; rfl)) ?_; (with_reducible refine (spec_l2Nail.calls (rd l0 x6_1) t296 _ A7.out).mono ?_); rintro e w' ⟨rfl, ⟨nd, rfl⟩⟩; refine ⟨_, rfl, ?_⟩) | ((with_reducible refine gate_callee (f := 57) rfl ?_); refine goesL_ (some 20) rfl rfl Try.func57 (by kernel_rfl) rfl #[.int .i64 a1, .int .i64 t296] rfl (by (try simp only [List.map_toArray, List.map_cons, List.map_nil]); first | done | rfl | (simp only [List.length_drop, List.length_take]; rfl)) ?_; (with_reducible refine (spec_l3In.calls a1 t296 true _ A8.out).mono ?_); rintro e w' ⟨rfl, ⟨nd, rfl⟩⟩; refine ⟨_, rfl, ?_⟩))
            go_roundg k1
            case measure => have := HK1.out; omega
            case rel => exact ⟨(x5_1), (wrap64 (x6_1 + 1)), (by first | rfl | (simp; done) | (simp [*]; done)), H', ⟨by have := HK1.out; omega⟩, ⟨by (with_reducible repeat (first | apply Kd.R_alloc | apply Kd.R_drewN | apply Kd.R_drew)); exact HO_5.out⟩, ⟨by repeat (first | (with_reducible first | exact HB.out | apply below_alloc | apply pw_below_drewN | apply below_drew1) | exact HB.out)⟩⟩
          · replace c9 := Bool.eq_false_iff.mpr c9
            subst c9
            have H1 : (if x5_1.length < 17592186044416 then (spec_l3Take.l0 k1 l0 a1 (x5_1 ++ [rd l0 x6_1]) (wrap64 (x6_1 + 1))) else (none)) = some r := by rw [if_neg (show ¬ (false = true) by decide)] at H; exact H
            clear H
            have H := H1
            clear H1
            by_cases c10 : x5_1.length < 17592186044416
            · rw [if_pos c10] at H
              have LMc10 := Aside0.mk c10
              clear c10
              obtain ⟨y299, hy299⟩ : ∃ y_ : List Int, y_ = (x5_1 ++ [rd l0 x6_1]) := ⟨_, rfl⟩
              replace H : (spec_l3Take.l0 k1 l0 a1 y299 (wrap64 (x6_1 + 1))) = some r := by first | (rw [hy299]; with_reducible exact H) | (have H2_ := (Option.bind_some _ _).symm.trans H; rw [hy299]; with_reducible exact H2_) | (have H2_ := (Option.bind_some _ _).symm.trans H; with_reducible exact H2_) | with_reducible exact H | (rw [hy299]; exact H) | exact H
              have Ny299 := Aside0.mk hy299
              clear hy299
              have H' := Aside0.mk H
              clear H
              have p295 : 0 ≤ (x6_1 : Int) := of_decide_eq_true (by first | (with_reducible assumption) | assumption)
              have q295 : x6_1 < (l0.length : Int) := of_decide_eq_true (by first | (with_reducible assumption) | assumption)
              obtain ⟨ad295, e295, hx295_0⟩ := Kd.at_int HR0.out x6_1 p295 q295
              cases e295
              replace hx295_0 := (HB.out.cell (World.block_lt_of_cell? w _ hx295_0)).trans hx295_0
              replace p295 := eq_true p295
              replace q295 := eq_true q295
              go_wp2_with (first | ((with_reducible refine gate_callee (f := 91) rfl ?_); refine goesL_ (some 19) rfl rfl Try.func91 (by kernel_rfl) rfl #[.int .i64 (rd l0 x6_1)] rfl (by (try simp only [List.map_toArray, List.map_cons, List.map_nil]); first | done | rfl | (simp only [List.length_drop, List.length_take]; rfl)) ?_; (with_reducible refine (spec_l2Nail.calls (rd l0 x6_1) t296 _ A7.out).mono ?_); rintro e w' ⟨rfl, ⟨nd, rfl⟩⟩; refine ⟨_, rfl, ?_⟩) | ((with_reducible refine gate_callee (f := 57) rfl ?_); refine goesL_ (some 20) rfl rfl Try.func57 (by kernel_rfl) rfl #[.int .i64 a1, .int .i64 t296] rfl (by (try simp only [List.map_toArray, List.map_cons, List.map_nil]); first | done | rfl | (simp only [List.length_drop, List.length_take]; rfl)) ?_; (with_reducible refine (spec_l3In.calls a1 t296 false _ A8.out).mono ?_); rintro e w' ⟨rfl, ⟨nd, rfl⟩⟩; refine ⟨_, rfl, ?_⟩; have p298 : 0 ≤ (x6_1 : Int) := of_decide_eq_true (by first | (with_reducible assumption) | assumption); have q298 : x6_1 < (l0.length : Int) := of_decide_eq_true (by first | (with_reducible assumption) | assumption); obtain ⟨ad298, e298, hx298_0⟩ := Kd.at_int HR0.out x6_1 p298 q298; obtain rfl : ad295 = ad298 := (by injection e298); replace hx298_0 := (HB.out.cell (World.block_lt_of_cell? w _ hx298_0)).trans hx298_0; replace p298 := eq_true p298; replace q298 := eq_true q298) | ((with_reducible refine gate_builtin (b := .append) (xs := #[.tmp 22, .tmp 27]) rfl ?_); at_builtin; refine Kd.R_append (Kd.int .i64) (w0 := w) w.heap.size rfl (.tmp 22) (.tmp 27) 22 3 (.int .i64 0) 8 rfl Try.underlying22 info3 rfl (by decide) (by omega) u5 x5_1 (rd l0 x6_1) [.int .i64 (rd l0 x6_1)] (fun _ => True) (fun _ => False) rfl rfl ?aP (fun _ hk => hk.elim) ?aF ?aO ?aB ?aS ?aL ?_; (case aP => exact rfl); (case aB => exact (by repeat (first | (with_reducible first | exact HB.out | apply below_alloc | apply pw_below_drewN | apply below_drew1) | exact HB.out))); (case aF => exact (fun _ _ => trivial)); (case aO => exact (by (with_reducible repeat (first | apply Kd.R_alloc | apply Kd.R_drewN | apply Kd.R_drew)); exact HO_5.out)); (case aS => exact (below_size (by repeat (first | (with_reducible first | exact HB.out | apply below_alloc | apply pw_below_drewN | apply below_drew1) | exact HB.out)))); (case aL => have := LMc10.out; omega); intro v300 w11 ho hb hg hat; rw [← Ny299.out] at ho; have n0_ := Aside0.mk (hb); have n1_ := Aside0.mk (ho); clear HB; clear HO_5; have HB := n0_; have HO301 := n1_; clear n0_ n1_; clear ho hb hg hat))
              go_roundg k1
              case measure => have := HK1.out; omega
              case rel => exact ⟨(y299), (wrap64 (x6_1 + 1)), (by first | rfl | (simp; done) | (simp [*]; done)), H', ⟨by have := HK1.out; omega⟩, ⟨by (with_reducible repeat (first | apply Kd.R_alloc | apply Kd.R_drewN | apply Kd.R_drew)); exact HO301.out⟩, ⟨by repeat (first | (with_reducible first | exact HB.out | apply below_alloc | apply pw_below_drewN | apply below_drew1) | exact HB.out)⟩⟩
            · rw [if_neg c10] at H
              exact absurd H (by simp)
        · rw [if_neg c6] at H
          exact absurd H (by simp)
      · rw [if_neg c5] at H
        have c5b0 : decide (x6_1 < (l0.length : Int)) = false := decide_eq_false c5
        clear c5
        replace H := Option.bind_eq_some_iff.mp H
        obtain ⟨t292, A120, H⟩ := H
        replace H : (some t292) = some r := H
        have A12 := Aside0.mk A120
        clear A120
        obtain rfl := Option.some.inj H
        obtain ⟨Ao13, co13, eo13⟩ := Kd.R_slice HO_5.out
        subst eo13
        go_wp2_with (first | ((with_reducible refine gate_callee (f := 67) rfl ?_); refine goesL_ (some 30) rfl rfl Try.func67 (by kernel_rfl) rfl #[.slice Ao13 x5_1.length co13] rfl (by (try simp only [List.map_toArray, List.map_cons, List.map_nil]); first | done | rfl | (simp only [List.length_drop, List.length_take]; rfl)) ?_; (with_reducible refine (spec_l2Reduce.calls k1 _ _ x5_1 t292 _ ?side1 ?side2 A12.out).mono ?_); (case side1 => repeat (first | exact (Kd.R_reads' HO_5.out).2.2 | (with_reducible refine Kd.C_alloc ?_ _) | (with_reducible refine Kd.C_drewN ?_ _) | (with_reducible refine Kd.C_drew ?_))); (case side2 => exact (Kd.R_reads' HO_5.out).2.1); rintro e w14 ⟨v293, rfl, ho0, hb⟩; refine ⟨_, rfl, ?_⟩; have n0_ := Aside0.mk (Kd.R_elder' (by (with_reducible repeat (first | apply Kd.R_alloc | apply Kd.R_drewN | apply Kd.R_drew)); exact HO_5.out) (Kd.R_base ho0) hb); have n1_ := Aside0.mk (Kd.R_lower (Kd.R_new' ho0 (Kd.R_lt (by (with_reducible repeat (first | apply Kd.R_alloc | apply Kd.R_drewN | apply Kd.R_drew)); exact HO_5.out))) (below_size (by repeat (first | (with_reducible first | exact HB.out | apply below_alloc | apply pw_below_drewN | apply below_drew1) | exact HB.out)))); have n2_ := Aside0.mk (below_step (by repeat (first | (with_reducible first | exact HB.out | apply below_alloc | apply pw_below_drewN | apply below_drew1) | exact HB.out)) hb); clear HO_5; clear HB; have HO_5 := n0_; have HO294 := n1_; have HB := n2_; clear n0_ n1_ n2_; (try clear hb); (try clear hb2); (try clear hk); (try clear hi); (try clear ho0)))
        go_ret
        exact ⟨_, by first | rfl | (simp [errW_none, errW_some] <;> rfl) | (simp [*, errW_none, errW_some] <;> rfl), by (with_reducible repeat (first | apply Kd.R_alloc | apply Kd.R_drewN | apply Kd.R_drew)); exact Kd.R_mono HO294.out (fun _ hk => trivial), by repeat (first | (with_reducible first | exact HB.out | apply below_alloc | apply pw_below_drewN | apply below_drew1) | exact HB.out)⟩

/-! ### spec_l3Falls: function 99 -/
def spec_l3Falls.f (k : Nat) (l0 : List Int) (a1 : Int) : Option (Bool) := (spec_l3Take.f k l0 a1).bind fun t302 => (some ((t302.length : Int) == 0))
theorem spec_l3Falls.mono : ∀ a0 a1 k, LeO (spec_l3Falls.f k a0 a1) (spec_l3Falls.f (k + 1) a0 a1) := by
  intro a0 a1 k
  unfold spec_l3Falls.f
  repeat' first
      | (with_reducible exact spec_l3Take.mono _ _ _)
      | (with_reducible exact LeO.refl _)
      | (with_reducible exact LeO.none _)
      | (with_reducible refine LeO.ite ?_ ?_)
      | (with_reducible refine LeO.bind ?_ (fun _ => ?_))
      | exact spec_l3Take.mono _ _ _
      | exact LeO.none _
      | refine LeO.ite ?_ ?_
      | refine LeO.bind ?_ (fun _ => ?_)
set_option maxHeartbeats 8000000 in
set_option maxRecDepth 100000 in
theorem spec_l3Falls.calls (k : Nat) (A0 : Option Addr) (c0 : Nat) (l0 : List Int) (a1 : Int) (r : Bool) (w : World) (hr0 : Kd.C (Kd.int .i64) w A0 l0.length l0) (hc0 : l0.length ≤ c0) (h : spec_l3Falls.f k l0 a1 = some r) :
    Calls Try.prog 99 #[.slice A0 l0.length c0, .int .i64 a1] w fun e w' => e = .returned (.bool r) ∧ Below w.heap.size w w' := by
  have HR0 := Aside0.mk hr0
  have HC0 := Aside0.mk hc0
  clear hr0 hc0
  have HB := Aside0.mk (Below.refl w.heap.size w)
  have H : ((spec_l3Take.f k l0 a1).bind fun t302 => (some ((t302.length : Int) == 0))) = some r := h
  clear h
  replace H := Option.bind_eq_some_iff.mp H
  obtain ⟨t302, A30, H⟩ := H
  replace H : (some ((t302.length : Int) == 0)) = some r := H
  have A3 := Aside0.mk A30
  clear A30
  obtain rfl := Option.some.inj H
  go_enter Try.func99, Try.ntmps99
  go_wp2_with (first | ((with_reducible refine gate_callee (f := 112) rfl ?_); refine goesL_ (some 7) rfl rfl Try.func112 (by kernel_rfl) rfl #[.slice A0 l0.length c0, .int .i64 a1] rfl (by (try simp only [List.map_toArray, List.map_cons, List.map_nil]); first | done | rfl | (simp only [List.length_drop, List.length_take]; rfl)) ?_; (with_reducible refine (spec_l3Take.calls k _ _ l0 a1 t302 _ ?side1 ?side2 A3.out).mono ?_); (case side1 => repeat (first | exact HR0.out | (with_reducible refine Kd.C_alloc ?_ _) | (with_reducible refine Kd.C_drewN ?_ _) | (with_reducible refine Kd.C_drew ?_))); (case side2 => exact HC0.out); rintro e w4 ⟨v303, rfl, ho0, hb⟩; refine ⟨_, rfl, ?_⟩; have n0_ := Aside0.mk (Kd.R_lower ho0 (below_size (by repeat (first | (with_reducible first | exact HB.out | apply below_alloc | apply pw_below_drewN | apply below_drew1) | exact HB.out)))); have n1_ := Aside0.mk (below_step (by repeat (first | (with_reducible first | exact HB.out | apply below_alloc | apply pw_below_drewN | apply below_drew1) | exact HB.out)) hb); clear HB; have HO304 := n0_; have HB := n1_; clear n0_ n1_; (try clear hb); (try clear hb2); (try clear hk); (try clear hi); (try clear ho0); obtain ⟨Ao5, co5, eo5⟩ := Kd.R_slice HO304.out; subst eo5))
  go_ret
  exact ⟨by first | rfl | (simp [errW_none, errW_some] <;> rfl) | (simp [*, errW_none, errW_some] <;> rfl), by repeat (first | (with_reducible first | exact HB.out | apply below_alloc | apply pw_below_drewN | apply below_drew1) | exact HB.out)⟩

end Go.Proofs.Ytheicbcedhfahaa.P
