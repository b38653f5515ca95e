/- Each call of a Go function named below comes to exactly the answers of the Lean function of its name, and a law row follows from its plain statement. No condition beyond those that each theorem states. -/
import Derived.Test.YtpdpcbebnlbpnaaPx0
import Derived.Test.YtpdpcbebnlbpnaaPx11
import Derived.Test.YtpdpcbebnlbpnaaPx12
import Derived.Test.YtpdpcbebnlbpnaaPx19
import Derived.Test.YtpdpcbebnlbpnaaPx33
import Derived.Test.YtpdpcbebnlbpnaaPx34
namespace Go.Proofs.Ytpdpcbebnlbpnaa.P
open Go.RowKit Go.Proofs.YtpdpcbebnlbpnaaW.PrintWords Go.Proofs.YtpdpcbebnlbpnaaW.PrintLast Go.Proofs.YtpdpcbebnlbpnaaW.PrintMore
attribute [local go_sem] max2_int min2_int max_two min_two max_three min_three max_four min_four   -- for this text's walks alone
set_option linter.unusedVariables false
set_option linter.unusedSimpArgs false

/-! ### impl_WicksParts: function 35 -/
mutual
def impl_WicksParts.l0 : Nat → List Int → Int → Int → Int → Option (List Int × List Int × List Int × Int × Bool)
 | 0, _, _, _, _ => none
 | k + 1, x7, x9, x30, x31 => if x31 < x30 then ((impl_turned.f k x7 x31).bind fun t526 => (impl_WicksParts.l1 k x7 x9 x31 t526 0 x30 x31)) else (some (([] : List Int), ([] : List Int), ([] : List Int), 0, false))
def impl_WicksParts.l1 : Nat → List Int → Int → Int → List Int → Int → Int → Int → Option (List Int × List Int × List Int × Int × Bool)
 | 0, _, _, _, _, _, _, _ => none
 | k + 1, x7, x9, x10, x11, x12, x30, x31 => if x12 ≤ x9 then (impl_WicksParts.l2 k x7 x9 x10 x11 x12 x12 x30 x31) else (impl_WicksParts.l0 k x7 x9 x30 (wrap64 (x31 + 1)))
def impl_WicksParts.l2 : Nat → List Int → Int → Int → List Int → Int → Int → Int → Int → Option (List Int × List Int × List Int × Int × Bool)
 | 0, _, _, _, _, _, _, _, _ => none
 | k + 1, x7, x9, x10, x11, x12, x13, x30, x31 => if x13 ≤ x9 then (if 0 ≤ x12 then (if x12 ≤ (x11.length : Int) then ((some (x11.take (x12 : Int).toNat : List Int)).bind fun y529 => (if x12 ≤ x13 then (if x13 ≤ (x11.length : Int) then ((some ((x11.take (x13 : Int).toNat).drop (x12 : Int).toNat : List Int)).bind fun y534 => (if 0 ≤ x13 then (if x9 ≤ (x11.length : Int) then ((some ((x11.take (x9 : Int).toNat).drop (x13 : Int).toNat : List Int)).bind fun y539 => (if x12 = 0 then (if x13 = x12 then (impl_WicksParts.j3 k x7 x9 x10 x11 x12 x13 y529 y534 y539 true x30 x31) else (if x13 = x9 then (impl_WicksParts.j3 k x7 x9 x10 x11 x12 x13 y529 y534 y539 true x30 x31) else (impl_WicksParts.j3 k x7 x9 x10 x11 x12 x13 y529 y534 y539 false x30 x31))) else (if x13 = x12 then (impl_WicksParts.j3 k x7 x9 x10 x11 x12 x13 y529 y534 y539 (x13 == x9) x30 x31) else (impl_WicksParts.j3 k x7 x9 x10 x11 x12 x13 y529 y534 y539 false x30 x31)))) else (none)) else (none))) else (none)) else (none))) else (none)) else (none)) else (impl_WicksParts.l1 k x7 x9 x10 x11 (wrap64 (x12 + 1)) x30 x31)
def impl_WicksParts.j3 : Nat → List Int → Int → Int → List Int → Int → Int → List Int → List Int → List Int → Bool → Int → Int → Option (List Int × List Int × List Int × Int × Bool)
 | 0, _, _, _, _, _, _, _, _, _, _, _, _ => none
 | k + 1, x7, x9, x10, x11, x12, x13, x14, x15, x16, x17, x30, x31 => if x17 = true then (impl_WicksParts.l2 k x7 x9 x10 x11 x12 (wrap64 (x13 + 1)) x30 x31) else (if 0 ≤ x9 then (if x9 ≤ (x11.length : Int) then ((impl_inverse.f x14).bind fun t549 => ((impl_inverse.f x15).bind fun t552 => ((impl_inverse.f x16).bind fun t555 => ((slices_Concat_int_int.f k (([t549, t552, t555] : List (List Int)))).bind fun t561 => ((slices_Equal_int_int.f k (x11.drop (x9 : Int).toNat) t561).bind fun t564 => (if t564 = true then ((slices_Clone_int_int.f x14).bind fun t565 => ((slices_Clone_int_int.f x15).bind fun t568 => ((slices_Clone_int_int.f x16).bind fun t571 => (some (t565, t568, t571, x10, true))))) else (impl_WicksParts.l2 k x7 x9 x10 x11 x12 (wrap64 (x13 + 1)) x30 x31))))))) else (none)) else (none))
end
def impl_WicksParts.f (k : Nat) (l0 : List Int) : Option (List Int × List Int × List Int × Int × Bool) := (impl_isWord.f l0).bind fun t519 => (if t519 = true then ((impl_core.f k l0).bind fun bt520 => (impl_WicksParts.l0 k bt520.1 (wrap64 ((bt520.1.length : Int) / 2)) (bt520.1.length : Int) 0)) else (some (([] : List Int), ([] : List Int), ([] : List Int), 0, false)))
theorem impl_WicksParts.mono_l : ∀ k, (∀ y0 y1 y2 y3, LeO (impl_WicksParts.l0 k y0 y1 y2 y3) (impl_WicksParts.l0 (k + 1) y0 y1 y2 y3)) ∧ (∀ y0 y1 y2 y3 y4 y5 y6, LeO (impl_WicksParts.l1 k y0 y1 y2 y3 y4 y5 y6) (impl_WicksParts.l1 (k + 1) y0 y1 y2 y3 y4 y5 y6)) ∧ (∀ y0 y1 y2 y3 y4 y5 y6 y7, LeO (impl_WicksParts.l2 k y0 y1 y2 y3 y4 y5 y6 y7) (impl_WicksParts.l2 (k + 1) y0 y1 y2 y3 y4 y5 y6 y7)) ∧ (∀ y0 y1 y2 y3 y4 y5 y6 y7 y8 y9 y10 y11, LeO (impl_WicksParts.j3 k y0 y1 y2 y3 y4 y5 y6 y7 y8 y9 y10 y11) (impl_WicksParts.j3 (k + 1) y0 y1 y2 y3 y4 y5 y6 y7 y8 y9 y10 y11))
 | 0 => ⟨fun _ _ _ _ r h => by simp [impl_WicksParts.l0] at h, fun _ _ _ _ _ _ _ r h => by simp [impl_WicksParts.l1] at h, fun _ _ _ _ _ _ _ _ r h => by simp [impl_WicksParts.l2] at h, fun _ _ _ _ _ _ _ _ _ _ _ _ r h => by simp [impl_WicksParts.j3] at h⟩
 | k + 1 => by
  obtain ⟨ih0, ih1, ih2, ih3⟩ := impl_WicksParts.mono_l k
  refine ⟨?_, ?_, ?_, ?_⟩
  ·intro y0 y1 y2 y3
   unfold impl_WicksParts.l0
   repeat' first
   | (with_reducible exact ih0 _ _ _ _)
   | (with_reducible exact ih1 _ _ _ _ _ _ _)
   | (with_reducible exact ih2 _ _ _ _ _ _ _ _)
   | (with_reducible exact ih3 _ _ _ _ _ _ _ _ _ _ _ _)
   | (with_reducible exact impl_core.mono _ _)
   | (with_reducible exact impl_turned.mono _ _ _)
   | (with_reducible exact slices_Concat_int_int.mono _ _)
   | (with_reducible exact slices_Equal_int_int.mono _ _ _)
   | (with_reducible exact LeO.refl _)
   | (with_reducible exact LeO.none _)
   | (with_reducible refine LeO.ite ?_ ?_)
   | (with_reducible refine LeO.bind ?_ (fun _ => ?_))
   | exact ih0 _ _ _ _
   | exact ih1 _ _ _ _ _ _ _
   | exact ih2 _ _ _ _ _ _ _ _
   | exact ih3 _ _ _ _ _ _ _ _ _ _ _ _
   | exact impl_core.mono _ _
   | exact impl_turned.mono _ _ _
   | exact slices_Concat_int_int.mono _ _
   | exact slices_Equal_int_int.mono _ _ _
   | exact LeO.none _
   | refine LeO.ite ?_ ?_
   | refine LeO.bind ?_ (fun _ => ?_)
  ·intro y0 y1 y2 y3 y4 y5 y6
   unfold impl_WicksParts.l1
   repeat' first
   | (with_reducible exact ih0 _ _ _ _)
   | (with_reducible exact ih1 _ _ _ _ _ _ _)
   | (with_reducible exact ih2 _ _ _ _ _ _ _ _)
   | (with_reducible exact ih3 _ _ _ _ _ _ _ _ _ _ _ _)
   | (with_reducible exact impl_core.mono _ _)
   | (with_reducible exact impl_turned.mono _ _ _)
   | (with_reducible exact slices_Concat_int_int.mono _ _)
   | (with_reducible exact slices_Equal_int_int.mono _ _ _)
   | (with_reducible exact LeO.refl _)
   | (with_reducible exact LeO.none _)
   | (with_reducible refine LeO.ite ?_ ?_)
   | (with_reducible refine LeO.bind ?_ (fun _ => ?_))
   | exact ih0 _ _ _ _
   | exact ih1 _ _ _ _ _ _ _
   | exact ih2 _ _ _ _ _ _ _ _
   | exact ih3 _ _ _ _ _ _ _ _ _ _ _ _
   | exact impl_core.mono _ _
   | exact impl_turned.mono _ _ _
   | exact slices_Concat_int_int.mono _ _
   | exact slices_Equal_int_int.mono _ _ _
   | exact LeO.none _
   | refine LeO.ite ?_ ?_
   | refine LeO.bind ?_ (fun _ => ?_)
  ·intro y0 y1 y2 y3 y4 y5 y6 y7
   unfold impl_WicksParts.l2
   repeat' first
   | (with_reducible exact ih0 _ _ _ _)
   | (with_reducible exact ih1 _ _ _ _ _ _ _)
   | (with_reducible exact ih2 _ _ _ _ _ _ _ _)
   | (with_reducible exact ih3 _ _ _ _ _ _ _ _ _ _ _ _)
   | (with_reducible exact impl_core.mono _ _)
   | (with_reducible exact impl_turned.mono _ _ _)
   | (with_reducible exact slices_Concat_int_int.mono _ _)
   | (with_reducible exact slices_Equal_int_int.mono _ _ _)
   | (with_reducible exact LeO.refl _)
   | (with_reducible exact LeO.none _)
   | (with_reducible refine LeO.ite ?_ ?_)
   | (with_reducible refine LeO.bind ?_ (fun _ => ?_))
   | exact ih0 _ _ _ _
   | exact ih1 _ _ _ _ _ _ _
   | exact ih2 _ _ _ _ _ _ _ _
   | exact ih3 _ _ _ _ _ _ _ _ _ _ _ _
   | exact impl_core.mono _ _
   | exact impl_turned.mono _ _ _
   | exact slices_Concat_int_int.mono _ _
   | exact slices_Equal_int_int.mono _ _ _
   | exact LeO.none _
   | refine LeO.ite ?_ ?_
   | refine LeO.bind ?_ (fun _ => ?_)
  ·intro y0 y1 y2 y3 y4 y5 y6 y7 y8 y9 y10 y11
   unfold impl_WicksParts.j3
   repeat' first
   | (with_reducible exact ih0 _ _ _ _)
   | (with_reducible exact ih1 _ _ _ _ _ _ _)
   | (with_reducible exact ih2 _ _ _ _ _ _ _ _)
   | (with_reducible exact ih3 _ _ _ _ _ _ _ _ _ _ _ _)
   | (with_reducible exact impl_core.mono _ _)
   | (with_reducible exact impl_turned.mono _ _ _)
   | (with_reducible exact slices_Concat_int_int.mono _ _)
   | (with_reducible exact slices_Equal_int_int.mono _ _ _)
   | (with_reducible exact LeO.refl _)
   | (with_reducible exact LeO.none _)
   | (with_reducible refine LeO.ite ?_ ?_)
   | (with_reducible refine LeO.bind ?_ (fun _ => ?_))
   | exact ih0 _ _ _ _
   | exact ih1 _ _ _ _ _ _ _
   | exact ih2 _ _ _ _ _ _ _ _
   | exact ih3 _ _ _ _ _ _ _ _ _ _ _ _
   | exact impl_core.mono _ _
   | exact impl_turned.mono _ _ _
   | exact slices_Concat_int_int.mono _ _
   | exact slices_Equal_int_int.mono _ _ _
   | exact LeO.none _
   | refine LeO.ite ?_ ?_
   | refine LeO.bind ?_ (fun _ => ?_)
theorem impl_WicksParts.mono : ∀ a0 k, LeO (impl_WicksParts.f k a0) (impl_WicksParts.f (k + 1) a0) := by
 intro a0 k
 obtain ⟨ih0, ih1, ih2, ih3⟩ := impl_WicksParts.mono_l k
 unfold impl_WicksParts.f
 repeat' first
   | (with_reducible exact ih0 _ _ _ _)
   | (with_reducible exact ih1 _ _ _ _ _ _ _)
   | (with_reducible exact ih2 _ _ _ _ _ _ _ _)
   | (with_reducible exact ih3 _ _ _ _ _ _ _ _ _ _ _ _)
   | (with_reducible exact impl_core.mono _ _)
   | (with_reducible exact impl_turned.mono _ _ _)
   | (with_reducible exact slices_Concat_int_int.mono _ _)
   | (with_reducible exact slices_Equal_int_int.mono _ _ _)
   | (with_reducible exact LeO.refl _)
   | (with_reducible exact LeO.none _)
   | (with_reducible refine LeO.ite ?_ ?_)
   | (with_reducible refine LeO.bind ?_ (fun _ => ?_))
   | exact ih0 _ _ _ _
   | exact ih1 _ _ _ _ _ _ _
   | exact ih2 _ _ _ _ _ _ _ _
   | exact ih3 _ _ _ _ _ _ _ _ _ _ _ _
   | exact impl_core.mono _ _
   | exact impl_turned.mono _ _ _
   | exact slices_Concat_int_int.mono _ _
   | exact slices_Equal_int_int.mono _ _ _
   | exact LeO.none _
   | refine LeO.ite ?_ ?_
   | refine LeO.bind ?_ (fun _ => ?_)
def impl_WicksParts.T15 : Bool × List (List Nat × List Nat) := (true, [([], []), ([], []), ([0, 1], [0, 1]), ([], []), ([], []), ([], []), ([3, 4, 5], [3, 4, 5]), ([], []), ([], []), ([], []), ([7, 8, 9], [7, 8, 9]), ([2, 0, 1, 2], [2]), ([6, 11, 0, 1, 2, 3, 4, 5, 6, 11], [6]), ([10, 12, 0, 1, 2, 3, 4, 5, 6, 7, 8, 9, 10, 11, 12], [10])])
def impl_WicksParts.B15 : List Nat := [0, 0, 3, 0, 0, 0, 56, 0, 0, 0, 896, 7, 2175, 8191]
theorem impl_WicksParts.tab15 : rtab .any (opsOf Try.f35 15) = impl_WicksParts.T15 := by kernel_rfl
theorem impl_WicksParts.bits15 : waitsOk impl_WicksParts.T15.2 impl_WicksParts.B15 = true := by kernel_rfl
def impl_WicksParts.T18 : Bool × List (List Nat × List Nat) := (true, [([], []), ([], []), ([0, 1], [0, 1]), ([], []), ([3], [3]), ([], []), ([5, 4], [5]), ([], []), ([7, 6], [7]), ([4, 6, 8], [4, 6, 8]), ([9, 8], [9]), ([2, 10, 10], [2, 10])])
def impl_WicksParts.B18 : List Nat := [0, 0, 3, 0, 8, 0, 56, 0, 248, 504, 1016, 2047]
theorem impl_WicksParts.tab18 : rtab .any (opsOf Try.f35 18) = impl_WicksParts.T18 := by kernel_rfl
theorem impl_WicksParts.bits18 : waitsOk impl_WicksParts.T18.2 impl_WicksParts.B18 = true := by kernel_rfl
set_option maxHeartbeats 8000000 in
set_option maxRecDepth 100000 in
theorem impl_WicksParts.calls (k : Nat) (A0 : Option Addr) (c0 : Nat) (l0 : List Int) (r1 : List Int) (r2 : List Int) (r3 : List Int) (r4 : Int) (r5 : Bool) (w : World) (hr0 : Kd.C (Kd.int .i64) w A0 l0.length l0) (hc0 : l0.length ≤ c0) (h : impl_WicksParts.f k l0 = some (r1, r2, r3, r4, r5)) :
  Calls Try.prog 35 #[.slice A0 l0.length c0] w fun e w' => ∃ v0_ v1_ v2_ : Value, e = .returned (.tuple #[v0_, v1_, v2_, .int .i64 r4, .bool r5]) ∧ Kd.R (Kd.int .i64) 3 w' w.heap.size (fun k_ => some k_ ≠ (v1_ : Value).ownBlock ∧ some k_ ≠ (v2_ : Value).ownBlock) v0_ r1 ∧ Kd.R (Kd.int .i64) 3 w' w.heap.size (fun k_ => some k_ ≠ (v0_ : Value).ownBlock ∧ some k_ ≠ (v2_ : Value).ownBlock) v1_ r2 ∧ Kd.R (Kd.int .i64) 3 w' w.heap.size (fun k_ => some k_ ≠ (v0_ : Value).ownBlock ∧ some k_ ≠ (v1_ : Value).ownBlock) v2_ r3 ∧ Below w.heap.size w w' := by
 have HR0 := Aside0.mk hr0
 have HC0 := Aside0.mk hc0
 clear hr0 hc0
 have HB := Aside0.mk (Below.refl w.heap.size w)
 have H : ((impl_isWord.f l0).bind fun t519 => (if t519 = true then ((impl_core.f k l0).bind fun bt520 => (impl_WicksParts.l0 k bt520.1 (wrap64 ((bt520.1.length : Int) / 2)) (bt520.1.length : Int) 0)) else (some (([] : List Int), ([] : List Int), ([] : List Int), 0, false)))) = some (r1, r2, r3, r4, r5) := h
 clear h
 replace H := Option.bind_eq_some_iff.mp H
 obtain ⟨t519, A20, H⟩ := H
 replace H : (if t519 = true then ((impl_core.f k l0).bind fun bt520 => (impl_WicksParts.l0 k bt520.1 (wrap64 ((bt520.1.length : Int) / 2)) (bt520.1.length : Int) 0)) else (some (([] : List Int), ([] : List Int), ([] : List Int), 0, false))) = some (r1, r2, r3, r4, r5) := H
 have A2 := Aside0.mk A20
 clear A20
 by_cases c3 : t519 = true
 ·subst c3
  have H1 : ((impl_core.f k l0).bind fun bt520 => (impl_WicksParts.l0 k bt520.1 (wrap64 ((bt520.1.length : Int) / 2)) (bt520.1.length : Int) 0)) = some (r1, r2, r3, r4, r5) := by rw [if_pos rfl] at H; exact H
  clear H
  have H := H1
  clear H1
  replace H := Option.bind_eq_some_iff.mp H
  obtain ⟨⟨t520, t521⟩, A40, H⟩ := H
  replace H : (impl_WicksParts.l0 k t520 (wrap64 ((t520.length : Int) / 2)) (t520.length : Int) 0) = some (r1, r2, r3, r4, r5) := H
  have A4 := Aside0.mk A40
  clear A40
  have H' := Aside0.mk H
  clear H
  go_enter Try.func35, Try.ntmps35
  go_wp2_with (first | ((with_reducible refine gate_callee (f := 70) rfl ?_); refine goesL_ (some 19) rfl rfl Try.func70 (by kernel_rfl) rfl #[.slice A0 l0.length c0] rfl (by (try simp only [List.map_toArray, List.map_cons, List.map_nil]); first | done | rfl | (simp only [List.length_drop, List.length_take]; rfl)) ?_; (with_reducible refine (impl_isWord.calls _ _ l0 true _ ?side1 ?side2 A2.out).mono ?_); (case side1 => repeat (first | exact HR0.out | (with_reducible refine Kd.C_alloc ?_ _) | (with_reducible refine Kd.C_drewN ?_ _) | (with_reducible refine Kd.C_drew ?_))); (case side2 => exact HC0.out); rintro e w' ⟨rfl, ⟨nd, rfl⟩⟩; refine ⟨_, rfl, ?_⟩) | ((with_reducible refine gate_callee (f := 71) rfl ?_); refine goesL_ (some 23) rfl rfl Try.func71 (by kernel_rfl) rfl #[.slice A0 l0.length c0] rfl (by (try simp only [List.map_toArray, List.map_cons, List.map_nil]); first | done | rfl | (simp only [List.length_drop, List.length_take]; rfl)) ?_; (with_reducible refine (impl_core.calls k _ _ l0 t520 t521 _ ?side1 ?side2 A4.out).mono ?_); (case side1 => repeat (first | exact HR0.out | (with_reducible refine Kd.C_alloc ?_ _) | (with_reducible refine Kd.C_drewN ?_ _) | (with_reducible refine Kd.C_drew ?_))); (case side2 => exact HC0.out); rintro e w5 ⟨v522, v524, rfl, ho0, ho1, hb⟩; refine ⟨_, rfl, ?_⟩; have n0_ := Aside0.mk (Kd.Q_lower ho0 (below_size (by repeat (first | (with_reducible first | exact HB.out | apply below_alloc | apply pw_below_drewN | apply below_drew1) | exact HB.out)))); have n1_ := Aside0.mk (Kd.R_lower ho1 (below_size (by repeat (first | (with_reducible first | exact HB.out | apply below_alloc | apply pw_below_drewN | apply below_drew1) | exact HB.out)))); have n2_ := Aside0.mk (below_step (by repeat (first | (with_reducible first | exact HB.out | apply below_alloc | apply pw_below_drewN | apply below_drew1) | exact HB.out)) hb); clear HB; have HO523 := n0_; have HO525 := n1_; have HB := n2_; clear n0_ n1_ n2_; (try clear hb); (try clear hb2); (try clear hk); (try clear hi); (try clear ho0); (try clear ho1); obtain ⟨Ao6, co6, eo6, _⟩ := Kd.Q_slice HO523.out; subst eo6))
  go_loopg [31] k (fun kq v31 w' => ∃ (x31_1 : Int), v31 = .int .i64 x31_1 ∧ Aside0 (impl_WicksParts.l0 kq t520 (wrap64 ((t520.length : Int) / 2)) (t520.length : Int) x31_1 = some (r1, r2, r3, r4, r5)) ∧ Aside0 (kq ≤ k) ∧ Aside0 (Kd.Q (Kd.int .i64) 3 w' w.heap.size (fun _ => True) (.slice Ao6 t520.length co6) t520) ∧ Aside0 (Below w.heap.size w w'))
  case atStart => exact ⟨(0), (by first | rfl | (simp; done) | (simp [*]; done)), H', ⟨Nat.le_refl _⟩, ⟨by (with_reducible repeat (first | apply Kd.Q_alloc | apply Kd.Q_drewN | apply Kd.Q_drew)); exact Kd.Q_mono HO523.out (fun _ hk => trivial)⟩, ⟨by repeat (first | (with_reducible first | exact HB.out | apply below_alloc | apply pw_below_drewN | apply below_drew1) | exact HB.out)⟩⟩
  case round =>
   clear H'
   try clear p2
   try clear c3
   try clear p6
   obtain ⟨x31_1, rfl, HA, HK1, HO_7, HB⟩ := hrel
   cases gk with
   | zero => exact absurd HA.out (by simp [impl_WicksParts.l0])
   | succ k1 =>
    have H := HA.out
    clear HA
    simp only [impl_WicksParts.l0] at H
    by_cases c7 : x31_1 < (t520.length : Int)
    ·rw [if_pos c7] at H
     have c7b0 : decide (x31_1 < (t520.length : Int)) = true := decide_eq_true c7
     clear c7
     replace H := Option.bind_eq_some_iff.mp H
     obtain ⟨t526, A80, H⟩ := H
     replace H : (impl_WicksParts.l1 k1 t520 (wrap64 ((t520.length : Int) / 2)) x31_1 t526 0 (t520.length : Int) x31_1) = some (r1, r2, r3, r4, r5) := H
     have A8 := Aside0.mk A80
     clear A80
     have H' := Aside0.mk H
     clear H
     go_wp2_with (first | ((with_reducible refine gate_callee (f := 72) rfl ?_); refine goesL_ (some 36) rfl rfl Try.func72 (by kernel_rfl) rfl #[.slice Ao6 t520.length co6, .int .i64 x31_1] rfl (by (try simp only [List.map_toArray, List.map_cons, List.map_nil]); first | done | rfl | (simp only [List.length_drop, List.length_take]; rfl)) ?_; (with_reducible refine (impl_turned.calls k1 (fun k_ => some k_ = (.slice Ao6 t520.length co6 : Value).ownBlock) _ _ t520 x31_1 t526 _ ?side1 A8.out).mono ?_); (case side1 => exact Kd.Q_V (Kd.Q_tight rfl (HO_7.out))); rintro e w9 ⟨v527, rfl, ho0, hb⟩; refine ⟨_, rfl, ?_⟩; have n0_ := Aside0.mk (Kd.Q_elder' (by (with_reducible repeat (first | apply Kd.Q_alloc | apply Kd.Q_drewN | apply Kd.Q_drew)); exact HO_7.out) (Kd.R_base ho0) hb); have n1_ := Aside0.mk (Kd.R_lower (Kd.R_new' (Kd.R_mono (ok' := fun k_ => True) ho0 (fun _ hk_ => trivial)) (Kd.Q_lt (by (with_reducible repeat (first | apply Kd.Q_alloc | apply Kd.Q_drewN | apply Kd.Q_drew)); exact HO_7.out))) (below_size (by repeat (first | (with_reducible first | exact HB.out | apply below_alloc | apply pw_below_drewN | apply below_drew1) | exact HB.out)))); have n2_ := Aside0.mk (below_step (by repeat (first | (with_reducible first | exact HB.out | apply below_alloc | apply pw_below_drewN | apply below_drew1) | exact HB.out)) hb); clear HO_7; clear HB; have HO_7 := n0_; have HO528 := n1_; have HB := n2_; clear n0_ n1_ n2_; (try clear hb); (try clear hb2); (try clear hk); (try clear hi); (try clear ho0)))
     go_loopg [12] k1 (fun kq v12 w' => ∃ (x12_2 : Int), v12 = .int .i64 x12_2 ∧ Aside0 (impl_WicksParts.l1 kq t520 (wrap64 ((t520.length : Int) / 2)) x31_1 t526 x12_2 (t520.length : Int) x31_1 = some (r1, r2, r3, r4, r5)) ∧ Aside0 (kq ≤ k1) ∧ Aside0 (Kd.Q (Kd.int .i64) 3 w' w.heap.size (fun k_ => some k_ ≠ (v527 : Value).ownBlock) (.slice Ao6 t520.length co6) t520) ∧ Aside0 (Kd.R (Kd.int .i64) 3 w' w.heap.size (fun k_ => some k_ ≠ ((.slice Ao6 t520.length co6) : Value).ownBlock) v527 t526) ∧ Aside0 (Below w.heap.size w w'))
     case atStart => exact ⟨(0), (by first | rfl | (simp; done) | (simp [*]; done)), H', ⟨Nat.le_refl _⟩, ⟨by (with_reducible repeat (first | apply Kd.Q_alloc | apply Kd.Q_drewN | apply Kd.Q_drew)); exact Kd.Q_mono HO_7.out (fun _ hk => hk.2)⟩, ⟨by (with_reducible repeat (first | apply Kd.R_alloc | apply Kd.R_drewN | apply Kd.R_drew)); exact Kd.R_mono HO528.out (fun _ hk => hk.2)⟩, ⟨by repeat (first | (with_reducible first | exact HB.out | apply below_alloc | apply pw_below_drewN | apply below_drew1) | exact HB.out)⟩⟩
     case round =>
      clear H'
      try clear p2
      try clear c3
      try clear p6
      try clear c7
      try clear c7b0
      try clear p2
      try clear p6
      obtain ⟨x12_2, rfl, HA, HK2, HO_7, HO_11, HB⟩ := hrel
      cases gk with
      | zero => exact absurd HA.out (by simp [impl_WicksParts.l1])
      | succ k2 =>
       have H := HA.out
       clear HA
       simp only [impl_WicksParts.l1] at H
       by_cases c10 : x12_2 ≤ (wrap64 ((t520.length : Int) / 2))
       ·rw [if_pos c10] at H
        have c10b0 : decide (x12_2 ≤ (wrap64 ((t520.length : Int) / 2))) = true := decide_eq_true c10
        clear c10
        have H' := Aside0.mk H
        clear H
        go_wp2
        go_loopg [13] k2 (fun kq v13 w' => ∃ (x13_3 : Int), v13 = .int .i64 x13_3 ∧ Aside0 (impl_WicksParts.l2 kq t520 (wrap64 ((t520.length : Int) / 2)) x31_1 t526 x12_2 x13_3 (t520.length : Int) x31_1 = some (r1, r2, r3, r4, r5)) ∧ Aside0 (kq ≤ k2) ∧ Aside0 (Kd.Q (Kd.int .i64) 3 w' w.heap.size (fun k_ => some k_ ≠ (v527 : Value).ownBlock) (.slice Ao6 t520.length co6) t520) ∧ Aside0 (Kd.R (Kd.int .i64) 3 w' w.heap.size (fun k_ => some k_ ≠ ((.slice Ao6 t520.length co6) : Value).ownBlock) v527 t526) ∧ Aside0 (Below w.heap.size w w'))
        case atStart => exact ⟨(x12_2), (by first | rfl | (simp; done) | (simp [*]; done)), H', ⟨Nat.le_refl _⟩, ⟨by (with_reducible repeat (first | apply Kd.Q_alloc | apply Kd.Q_drewN | apply Kd.Q_drew)); exact HO_7.out⟩, ⟨by (with_reducible repeat (first | apply Kd.R_alloc | apply Kd.R_drewN | apply Kd.R_drew)); exact HO_11.out⟩, ⟨by repeat (first | (with_reducible first | exact HB.out | apply below_alloc | apply pw_below_drewN | apply below_drew1) | exact HB.out)⟩⟩
        case round =>
         clear H'
         try clear c1
         try clear p2
         try clear c3
         try clear p6
         try clear c7
         try clear c7b0
         try clear c10
         try clear c10b0
         try clear p2
         try clear p6
         obtain ⟨x13_3, rfl, HA, HK3, HO_7, HO_11, HB⟩ := hrel
         cases gk with
         | zero => exact absurd HA.out (by simp [impl_WicksParts.l2])
         | succ k3 =>
          have H := HA.out
          clear HA
          simp only [impl_WicksParts.l2] at H
          by_cases c11 : x13_3 ≤ (wrap64 ((t520.length : Int) / 2))
          ·rw [if_pos c11] at H
           have c11b0 : decide (x13_3 ≤ (wrap64 ((t520.length : Int) / 2))) = true := decide_eq_true c11
           clear c11
           by_cases c12 : 0 ≤ x12_2
           ·rw [if_pos c12] at H
            have c12b0 := eq_true c12
            have c12b1 : decide (0 ≤ x12_2) = true := decide_eq_true c12
            clear c12
            by_cases c13 : x12_2 ≤ (t526.length : Int)
            ·rw [if_pos c13] at H
             have c13b0 := eq_true c13
             have c13b1 : decide (x12_2 ≤ (t526.length : Int)) = true := decide_eq_true c13
             clear c13
             obtain ⟨y529, hy529⟩ : ∃ y_ : List Int, y_ = (t526.take (x12_2 : Int).toNat) := ⟨_, rfl⟩
             replace H : (if x12_2 ≤ x13_3 then (if x13_3 ≤ (t526.length : Int) then ((some ((t526.take (x13_3 : Int).toNat).drop (x12_2 : Int).toNat : List Int)).bind fun y534 => (if 0 ≤ x13_3 then (if (wrap64 ((t520.length : Int) / 2)) ≤ (t526.length : Int) then ((some ((t526.take ((wrap64 ((t520.length : Int) / 2)) : Int).toNat).drop (x13_3 : Int).toNat : List Int)).bind fun y539 => (if x12_2 = 0 then (if x13_3 = x12_2 then (impl_WicksParts.j3 k3 t520 (wrap64 ((t520.length : Int) / 2)) x31_1 t526 x12_2 x13_3 y529 y534 y539 true (t520.length : Int) x31_1) else (if x13_3 = (wrap64 ((t520.length : Int) / 2)) then (impl_WicksParts.j3 k3 t520 (wrap64 ((t520.length : Int) / 2)) x31_1 t526 x12_2 x13_3 y529 y534 y539 true (t520.length : Int) x31_1) else (impl_WicksParts.j3 k3 t520 (wrap64 ((t520.length : Int) / 2)) x31_1 t526 x12_2 x13_3 y529 y534 y539 false (t520.length : Int) x31_1))) else (if x13_3 = x12_2 then (impl_WicksParts.j3 k3 t520 (wrap64 ((t520.length : Int) / 2)) x31_1 t526 x12_2 x13_3 y529 y534 y539 (x13_3 == (wrap64 ((t520.length : Int) / 2))) (t520.length : Int) x31_1) else (impl_WicksParts.j3 k3 t520 (wrap64 ((t520.length : Int) / 2)) x31_1 t526 x12_2 x13_3 y529 y534 y539 false (t520.length : Int) x31_1)))) else (none)) else (none))) else (none)) else (none)) = some (r1, r2, r3, r4, r5) := by first | (rw [hy529]; with_reducible exact H) | (have H2_ := (Option.bind_some _ _).symm.trans H; rw [hy529]; with_reducible exact H2_) | (have H2_ := (Option.bind_some _ _).symm.trans H; with_reducible exact H2_) | with_reducible exact H | (rw [hy529]; exact H) | exact H
             have Ny529 := Aside0.mk hy529
             clear hy529
             have c14b0 := eq_true (of_decide_eq_true (by first | (with_reducible assumption) | assumption) : 0 ≤ x12_2)
             by_cases c15 : x12_2 ≤ x13_3
             ·rw [if_pos c15] at H
              have c15b0 := eq_true c15
              have c15b1 : decide (x12_2 ≤ x13_3) = true := decide_eq_true c15
              clear c15
              by_cases c16 : x13_3 ≤ (t526.length : Int)
              ·rw [if_pos c16] at H
               have c16b0 := eq_true c16
               have c16b1 : decide (x13_3 ≤ (t526.length : Int)) = true := decide_eq_true c16
               clear c16
               obtain ⟨y534, hy534⟩ : ∃ y_ : List Int, y_ = ((t526.take (x13_3 : Int).toNat).drop (x12_2 : Int).toNat) := ⟨_, rfl⟩
               replace H : (if 0 ≤ x13_3 then (if (wrap64 ((t520.length : Int) / 2)) ≤ (t526.length : Int) then ((some ((t526.take ((wrap64 ((t520.length : Int) / 2)) : Int).toNat).drop (x13_3 : Int).toNat : List Int)).bind fun y539 => (if x12_2 = 0 then (if x13_3 = x12_2 then (impl_WicksParts.j3 k3 t520 (wrap64 ((t520.length : Int) / 2)) x31_1 t526 x12_2 x13_3 y529 y534 y539 true (t520.length : Int) x31_1) else (if x13_3 = (wrap64 ((t520.length : Int) / 2)) then (impl_WicksParts.j3 k3 t520 (wrap64 ((t520.length : Int) / 2)) x31_1 t526 x12_2 x13_3 y529 y534 y539 true (t520.length : Int) x31_1) else (impl_WicksParts.j3 k3 t520 (wrap64 ((t520.length : Int) / 2)) x31_1 t526 x12_2 x13_3 y529 y534 y539 false (t520.length : Int) x31_1))) else (if x13_3 = x12_2 then (impl_WicksParts.j3 k3 t520 (wrap64 ((t520.length : Int) / 2)) x31_1 t526 x12_2 x13_3 y529 y534 y539 (x13_3 == (wrap64 ((t520.length : Int) / 2))) (t520.length : Int) x31_1) else (impl_WicksParts.j3 k3 t520 (wrap64 ((t520.length : Int) / 2)) x31_1 t526 x12_2 x13_3 y529 y534 y539 false (t520.length : Int) x31_1)))) else (none)) else (none)) = some (r1, r2, r3, r4, r5) := by first | (rw [hy534]; with_reducible exact H) | (have H2_ := (Option.bind_some _ _).symm.trans H; rw [hy534]; with_reducible exact H2_) | (have H2_ := (Option.bind_some _ _).symm.trans H; with_reducible exact H2_) | with_reducible exact H | (rw [hy534]; exact H) | exact H
               have Ny534 := Aside0.mk hy534
               clear hy534
               by_cases c17 : 0 ≤ x13_3
               ·rw [if_pos c17] at H
                have c17b0 := eq_true c17
                have c17b1 : decide (0 ≤ x13_3) = true := decide_eq_true c17
                clear c17
                have c18b0 := eq_true (of_decide_eq_true (by first | (with_reducible assumption) | assumption) : x13_3 ≤ (wrap64 ((t520.length : Int) / 2)))
                by_cases c19 : (wrap64 ((t520.length : Int) / 2)) ≤ (t526.length : Int)
                ·rw [if_pos c19] at H
                 have c19b0 := eq_true c19
                 have c19b1 : decide ((wrap64 ((t520.length : Int) / 2)) ≤ (t526.length : Int)) = true := decide_eq_true c19
                 clear c19
                 obtain ⟨y539, hy539⟩ : ∃ y_ : List Int, y_ = ((t526.take ((wrap64 ((t520.length : Int) / 2)) : Int).toNat).drop (x13_3 : Int).toNat) := ⟨_, rfl⟩
                 replace H : (if x12_2 = 0 then (if x13_3 = x12_2 then (impl_WicksParts.j3 k3 t520 (wrap64 ((t520.length : Int) / 2)) x31_1 t526 x12_2 x13_3 y529 y534 y539 true (t520.length : Int) x31_1) else (if x13_3 = (wrap64 ((t520.length : Int) / 2)) then (impl_WicksParts.j3 k3 t520 (wrap64 ((t520.length : Int) / 2)) x31_1 t526 x12_2 x13_3 y529 y534 y539 true (t520.length : Int) x31_1) else (impl_WicksParts.j3 k3 t520 (wrap64 ((t520.length : Int) / 2)) x31_1 t526 x12_2 x13_3 y529 y534 y539 false (t520.length : Int) x31_1))) else (if x13_3 = x12_2 then (impl_WicksParts.j3 k3 t520 (wrap64 ((t520.length : Int) / 2)) x31_1 t526 x12_2 x13_3 y529 y534 y539 (x13_3 == (wrap64 ((t520.length : Int) / 2))) (t520.length : Int) x31_1) else (impl_WicksParts.j3 k3 t520 (wrap64 ((t520.length : Int) / 2)) x31_1 t526 x12_2 x13_3 y529 y534 y539 false (t520.length : Int) x31_1))) = some (r1, r2, r3, r4, r5) := by first | (rw [hy539]; with_reducible exact H) | (have H2_ := (Option.bind_some _ _).symm.trans H; rw [hy539]; with_reducible exact H2_) | (have H2_ := (Option.bind_some _ _).symm.trans H; with_reducible exact H2_) | with_reducible exact H | (rw [hy539]; exact H) | exact H
                 have Ny539 := Aside0.mk hy539
                 clear hy539
                 have HC20 := Aside0.mk H
                 clear H
                 try go_wp2
                 have n0_ := Aside0.mk (Kd.Q_drew HO_7.out)
                 have n1_ := Aside0.mk (Kd.R_drew HO_11.out)
                 have n2_ := Aside0.mk (below_drew1 HB.out)
                 clear HO_7
                 clear HO_11
                 clear HB
                 have HO_7 := n0_
                 have HO_11 := n1_
                 have HB := n2_
                 clear n0_ n1_ n2_
                 obtain ⟨Ao23, co23, eo23⟩ := Kd.R_slice HO_11.out
                 (first | subst eo23 | (injection eo23 with f1_ f2_ f3_; have f4_ := f1_.symm; have f5_ := f3_.symm; clear f1_ f2_ f3_; subst f4_; subst f5_))
                 have q22 : (x12_2 : Int) ≤ ((t526.length : Int) : Int) := of_decide_eq_true (by first | (with_reducible assumption) | assumption)
                 obtain ⟨i022, hi022, _, hsz22, _⟩ := info_parts info3
                 have hroom22 : t526.length ≤ co23 := (Kd.R_reads' HO_11.out).2.1
                 have hC22 : Kd.F (Kd.int .i64) _ _ Ao23 t526.length t526 := (Kd.V_at (base := w.heap.size) (Kd.R_V HO_11.out)).2.2
                 have hcut22 := cut_to (P := Try.prog) 25 3 .i64 Try.underlying25 hi022 Ao23 t526.length co23 x12_2 (of_decide_eq_true (by first | (with_reducible assumption) | assumption)) q22 hroom22
                 have hr22 := Kd.F_take (m := (x12_2 : Int).toNat) hC22 (by omega)
                 have hy22 : y529.length = (x12_2 : Int).toNat := (by rw [Ny529.out, List.length_take]; omega)
                 rw [← Ny529.out] at hr22
                 rw [← hy22] at hcut22
                 have HO533 := Aside0.mk (show Kd.V (Kd.int .i64) 3 _ w.heap.size _ (.slice Ao23 y529.length co23) y529 from Kd.V_mk (by omega) hr22)
                 have HC533 := Aside0.mk (show y529.length ≤ co23 from by omega)
                 clear hr22 hC22 hroom22 hi022 hsz22
                 have KY22 := Aside0.mk hy22
                 clear hy22
                 replace q22 := eq_true q22
                 have q24 : (x13_3 : Int) ≤ ((t526.length : Int) : Int) := of_decide_eq_true (by first | (with_reducible assumption) | assumption)
                 obtain ⟨i024, hi024, _, hsz24, _⟩ := info_parts info3
                 have hroom24 : t526.length ≤ co23 := (Kd.R_reads' HO_11.out).2.1
                 have hC24 : Kd.F (Kd.int .i64) _ _ Ao23 t526.length t526 := (Kd.V_at (base := w.heap.size) (Kd.R_V HO_11.out)).2.2
                 have ql24 : (x12_2 : Int) ≤ (x13_3 : Int) := of_decide_eq_true (by first | (with_reducible assumption) | assumption)
                 have q024 : (0 : Int) ≤ (x12_2 : Int) := of_decide_eq_true (by first | (with_reducible assumption) | assumption)
                 have hcut24 := cut_mid (P := Try.prog) 25 3 .i64 .i64 Try.underlying25 hi024 1 hsz24 Ao23 t526.length co23 x12_2 x13_3 q024 ql24 q24 hroom24
                 have hr24 := Kd.F_mid (lo := (x12_2 : Int).toNat) (hi := (x13_3 : Int).toNat) (c := co23) hC24 (by first | exact Int.toNat_le_toNat ql24 | omega) (by first | exact Int.toNat_le.mpr q24 | omega) hroom24
                 obtain ⟨A24, hA24⟩ : ∃ A1, A1 = (if co23 = (x12_2 : Int).toNat then Ao23 else (Ao23 : Option Addr).map (·.add ((x12_2 : Int).toNat * 1))) := ⟨_, rfl⟩
                 obtain ⟨c24, hc24⟩ : ∃ c1, c1 = co23 - (x12_2 : Int).toNat := ⟨_, rfl⟩
                 have hy24 : y534.length = (x13_3 : Int).toNat - (x12_2 : Int).toNat := (by first | (rw [Ny534.out]; exact (len_mid_ q24 ql24).symm) | (rw [Ny534.out, List.length_drop, List.length_take] <;> omega))
                 rw [show ((t526).take (x13_3 : Int).toNat).drop (x12_2 : Int).toNat = y534 from Ny534.out.symm] at hr24
                 replace hr24 : Kd.F (Kd.int .i64) _ _ A24 y534.length y534 := (by rw [hA24]; exact hr24)
                 rw [← hy24, ← hA24, ← hc24] at hcut24
                 have HO538 := Aside0.mk (show Kd.V (Kd.int .i64) 3 _ w.heap.size _ (.slice A24 y534.length c24) y534 from Kd.V_mk (by rw [hy24, hc24]; exact Nat.sub_le_sub_right (Nat.le_trans (by first | exact Int.toNat_le.mpr q24 | omega) hroom24) _) hr24)
                 have HC538 := Aside0.mk (show y534.length ≤ c24 from by rw [hy24, hc24]; exact Nat.sub_le_sub_right (Nat.le_trans (by first | exact Int.toNat_le.mpr q24 | omega) hroom24) _)
                 clear hr24 hC24 hroom24 hi024 hsz24 hc24
                 have KY24 := Aside0.mk hy24
                 have KA24 := Aside0.mk hA24
                 clear hy24 hA24
                 replace q24 := eq_true q24
                 have q25 : ((wrap64 ((t520.length : Int) / 2)) : Int) ≤ ((t526.length : Int) : Int) := of_decide_eq_true (by first | (with_reducible assumption) | assumption)
                 obtain ⟨i025, hi025, _, hsz25, _⟩ := info_parts info3
                 have hroom25 : t526.length ≤ co23 := (Kd.R_reads' HO_11.out).2.1
                 have hC25 : Kd.F (Kd.int .i64) _ _ Ao23 t526.length t526 := (Kd.V_at (base := w.heap.size) (Kd.R_V HO_11.out)).2.2
                 have ql25 : (x13_3 : Int) ≤ ((wrap64 ((t520.length : Int) / 2)) : Int) := of_decide_eq_true (by first | (with_reducible assumption) | assumption)
                 have q025 : (0 : Int) ≤ (x13_3 : Int) := of_decide_eq_true (by first | (with_reducible assumption) | assumption)
                 have hcut25 := cut_mid (P := Try.prog) 25 3 .i64 .i64 Try.underlying25 hi025 1 hsz25 Ao23 t526.length co23 x13_3 (wrap64 ((t520.length : Int) / 2)) q025 ql25 q25 hroom25
                 have hr25 := Kd.F_mid (lo := (x13_3 : Int).toNat) (hi := ((wrap64 ((t520.length : Int) / 2)) : Int).toNat) (c := co23) hC25 (by first | exact Int.toNat_le_toNat ql25 | omega) (by first | exact Int.toNat_le.mpr q25 | omega) hroom25
                 obtain ⟨A25, hA25⟩ : ∃ A1, A1 = (if co23 = (x13_3 : Int).toNat then Ao23 else (Ao23 : Option Addr).map (·.add ((x13_3 : Int).toNat * 1))) := ⟨_, rfl⟩
                 obtain ⟨c25, hc25⟩ : ∃ c1, c1 = co23 - (x13_3 : Int).toNat := ⟨_, rfl⟩
                 have hy25 : y539.length = ((wrap64 ((t520.length : Int) / 2)) : Int).toNat - (x13_3 : Int).toNat := (by first | (rw [Ny539.out]; exact (len_mid_ q25 ql25).symm) | (rw [Ny539.out, List.length_drop, List.length_take] <;> omega))
                 rw [show ((t526).take ((wrap64 ((t520.length : Int) / 2)) : Int).toNat).drop (x13_3 : Int).toNat = y539 from Ny539.out.symm] at hr25
                 replace hr25 : Kd.F (Kd.int .i64) _ _ A25 y539.length y539 := (by rw [hA25]; exact hr25)
                 rw [← hy25, ← hA25, ← hc25] at hcut25
                 have HO543 := Aside0.mk (show Kd.V (Kd.int .i64) 3 _ w.heap.size _ (.slice A25 y539.length c25) y539 from Kd.V_mk (by rw [hy25, hc25]; exact Nat.sub_le_sub_right (Nat.le_trans (by first | exact Int.toNat_le.mpr q25 | omega) hroom25) _) hr25)
                 have HC543 := Aside0.mk (show y539.length ≤ c25 from by rw [hy25, hc25]; exact Nat.sub_le_sub_right (Nat.le_trans (by first | exact Int.toNat_le.mpr q25 | omega) hroom25) _)
                 clear hr25 hC25 hroom25 hi025 hsz25 hc25
                 have KY25 := Aside0.mk hy25
                 have KA25 := Aside0.mk hA25
                 clear hy25 hA25
                 replace q25 := eq_true q25
                 refine start_ (n := 14) (S := fun w' => True) (ds := []) #[false, false, false, false, false, false, false, false, false, false, false, false, false, false] (by kernel_rfl) rfl rfl trivial (fun hHeld => ?_); refine with_tabW impl_WicksParts.tab15 impl_WicksParts.bits15 (fun HT_ HW_ => ?_)
                 generalize wr.drew = w21 at HO_7 HO_11 HB HO533 HO538 HO543 hHeld ⊢
                 refine pure_ (i := 0) (N := some 48) (v := ?_) (a' := ?_) #[true, false, false, false, false, false, false, false, false, false, false, false, false, false] rfl rfl (any_of HT_.out (by kernel_rfl)) (fun _ _ _ h => h) (Or.inl ⟨by rfl, ?_⟩) ?_ ?_
                 rotate_left
                 ·intro w'
                  go_simp
                  with_reducible rfl
                 rotate_left
                 ·simp only [Act.put, List.setIfInBounds_toArray, List.set_cons_zero, List.set_cons_succ, i64_w, i32_w]
                  rfl
                 refine pure_ (i := 1) (N := some 49) (v := ?_) (a' := ?_) #[true, true, false, false, false, false, false, false, false, false, false, false, false, false] rfl rfl (any_of HT_.out (by kernel_rfl)) (fun _ _ _ h => h) (Or.inl ⟨by rfl, ?_⟩) ?_ ?_
                 rotate_left
                 ·intro w'
                  go_simp
                  with_reducible rfl
                 rotate_left
                 ·simp only [Act.put, List.setIfInBounds_toArray, List.set_cons_zero, List.set_cons_succ, i64_w, i32_w]
                  rfl
                 refine pure_ (i := 2) (N := some 50) (v := ?_) (a' := ?_) #[true, true, true, false, false, false, false, false, false, false, false, false, false, false] rfl rfl (any_of HT_.out (by kernel_rfl)) (fun _ _ _ h => h) (Or.inl ⟨by rfl, ?_⟩) ?_ ?_
                 rotate_left
                 ·intro w'
                  go_simp
                  with_reducible rfl
                 rotate_left
                 ·simp only [Act.put, List.setIfInBounds_toArray, List.set_cons_zero, List.set_cons_succ, i64_w, i32_w]
                  rfl
                 refine pure_ (i := 3) (N := some 51) (v := ?_) (a' := ?_) #[true, true, true, true, false, false, false, false, false, false, false, false, false, false] rfl rfl (any_of HT_.out (by kernel_rfl)) (fun _ _ _ h => h) (Or.inl ⟨by rfl, ?_⟩) ?_ ?_
                 rotate_left
                 ·intro w'
                  go_simp
                  with_reducible rfl
                 rotate_left
                 ·simp only [Act.put, List.setIfInBounds_toArray, List.set_cons_zero, List.set_cons_succ, i64_w, i32_w]
                  rfl
                 refine pure_ (i := 4) (N := some 52) (v := ?_) (a' := ?_) #[true, true, true, true, true, false, false, false, false, false, false, false, false, false] rfl rfl (any_of HT_.out (by kernel_rfl)) (fun _ _ _ h => h) (Or.inl ⟨by rfl, ?_⟩) ?_ ?_
                 rotate_left
                 ·intro w'
                  go_simp
                  with_reducible rfl
                 rotate_left
                 ·simp only [Act.put, List.setIfInBounds_toArray, List.set_cons_zero, List.set_cons_succ, i64_w, i32_w]
                  rfl
                 refine pure_ (i := 5) (N := some 53) (v := ?_) (a' := ?_) #[true, true, true, true, true, true, false, false, false, false, false, false, false, false] rfl rfl (any_of HT_.out (by kernel_rfl)) (fun _ _ _ h => h) (Or.inl ⟨by rfl, ?_⟩) ?_ ?_
                 rotate_left
                 ·intro w'
                  go_simp
                  with_reducible rfl
                 rotate_left
                 ·simp only [Act.put, List.setIfInBounds_toArray, List.set_cons_zero, List.set_cons_succ, i64_w, i32_w]
                  rfl
                 refine pure_ (i := 6) (N := some 54) (v := ?_) (a' := ?_) #[true, true, true, true, true, true, true, false, false, false, false, false, false, false] rfl rfl (any_of HT_.out (by kernel_rfl)) (fun _ _ _ h => h) (Or.inl ⟨by rfl, ?_⟩) ?_ ?_
                 rotate_left
                 ·intro w'
                  go_simp
                  with_reducible rfl
                 rotate_left
                 ·simp only [Act.put, List.setIfInBounds_toArray, List.set_cons_zero, List.set_cons_succ, i64_w, i32_w]
                  rfl
                 refine pure_ (i := 7) (N := some 55) (v := ?_) (a' := ?_) #[true, true, true, true, true, true, true, true, false, false, false, false, false, false] rfl rfl (any_of HT_.out (by kernel_rfl)) (fun _ _ _ h => h) (Or.inl ⟨by rfl, ?_⟩) ?_ ?_
                 rotate_left
                 ·intro w'
                  go_simp
                  with_reducible rfl
                 rotate_left
                 ·simp only [Act.put, List.setIfInBounds_toArray, List.set_cons_zero, List.set_cons_succ, i64_w, i32_w]
                  rfl
                 refine pure_ (i := 8) (N := some 56) (v := ?_) (a' := ?_) #[true, true, true, true, true, true, true, true, true, false, false, false, false, false] rfl rfl (any_of HT_.out (by kernel_rfl)) (fun _ _ _ h => h) (Or.inl ⟨by rfl, ?_⟩) ?_ ?_
                 rotate_left
                 ·intro w'
                  go_simp
                  with_reducible rfl
                 rotate_left
                 ·simp only [Act.put, List.setIfInBounds_toArray, List.set_cons_zero, List.set_cons_succ, i64_w, i32_w]
                  rfl
                 refine pure_ (i := 9) (N := some 57) (v := ?_) (a' := ?_) #[true, true, true, true, true, true, true, true, true, true, false, false, false, false] rfl rfl (any_of HT_.out (by kernel_rfl)) (fun _ _ _ h => h) (Or.inl ⟨by rfl, ?_⟩) ?_ ?_
                 rotate_left
                 ·intro w'
                  go_simp
                  with_reducible rfl
                 rotate_left
                 ·simp only [Act.put, List.setIfInBounds_toArray, List.set_cons_zero, List.set_cons_succ, i64_w, i32_w]
                  rfl
                 refine pure_ (i := 10) (N := some 58) (v := ?_) (a' := ?_) #[true, true, true, true, true, true, true, true, true, true, true, false, false, false] rfl rfl (any_of HT_.out (by kernel_rfl)) (fun _ _ _ h => h) (Or.inl ⟨by rfl, ?_⟩) ?_ ?_
                 rotate_left
                 ·intro w'
                  go_simp
                  with_reducible rfl
                 rotate_left
                 ·simp only [Act.put, List.setIfInBounds_toArray, List.set_cons_zero, List.set_cons_succ, i64_w, i32_w]
                  rfl
                 refine pure_ (i := 11) (N := some 14) (v := ?_) (a' := ?_) #[true, true, true, true, true, true, true, true, true, true, true, true, false, false] rfl rfl (any_of HT_.out (by kernel_rfl)) (fun _ _ _ h => h) (Or.inl ⟨by rfl, ?_⟩) ?_ ?_
                 rotate_left
                 ·intro w'
                  go_simp
                  with_reducible rfl
                 rotate_left
                 ·simp only [Act.put, List.setIfInBounds_toArray, List.set_cons_zero, List.set_cons_succ, i64_w, i32_w]
                  rfl
                 refine pure_ (i := 12) (N := some 15) (v := ?_) (a' := ?_) #[true, true, true, true, true, true, true, true, true, true, true, true, true, false] rfl rfl (any_of HT_.out (by kernel_rfl)) (fun _ _ _ h => h) (Or.inl ⟨by rfl, ?_⟩) ?_ ?_
                 rotate_left
                 ·intro w'
                  go_simp
                  with_reducible rfl
                 rotate_left
                 ·simp only [Act.put, List.setIfInBounds_toArray, List.set_cons_zero, List.set_cons_succ, i64_w, i32_w]
                  rfl
                 refine pure_ (i := 13) (N := some 16) (v := ?_) (a' := ?_) #[true, true, true, true, true, true, true, true, true, true, true, true, true, true] rfl rfl (any_of HT_.out (by kernel_rfl)) (fun _ _ _ h => h) (Or.inl ⟨by rfl, ?_⟩) ?_ ?_
                 rotate_left
                 ·intro w'
                  go_simp
                  with_reducible rfl
                 rotate_left
                 ·simp only [Act.put, List.setIfInBounds_toArray, List.set_cons_zero, List.set_cons_succ, i64_w, i32_w]
                  rfl
                 refine done_ (done_of HT_.out (by kernel_rfl)) ?_
                 go_upto_region 16 with (fail)
                 go_cut [17] (fun v17 wc => ∃ (kq : Nat) (x17_19 : Bool), v17 = .bool x17_19 ∧ Aside0 (impl_WicksParts.j3 kq t520 (wrap64 ((t520.length : Int) / 2)) x31_1 t526 x12_2 x13_3 y529 y534 y539 x17_19 (t520.length : Int) x31_1 = some (r1, r2, r3, r4, r5)) ∧ Aside0 (kq ≤ k3) ∧ Aside0 (Kd.Q (Kd.int .i64) 3 wc w.heap.size (fun k_ => some k_ ≠ ((.slice Ao23 t526.length co23) : Value).ownBlock) (.slice Ao6 t520.length co6) t520) ∧ Aside0 (Kd.R (Kd.int .i64) 3 wc w.heap.size (fun k_ => some k_ ≠ ((.slice Ao6 t520.length co6) : Value).ownBlock) (.slice Ao23 t526.length co23) t526) ∧ Aside0 (Kd.V (Kd.int .i64) 3 wc w.heap.size (fun k_ => some k_ ≠ ((.slice Ao6 t520.length co6) : Value).ownBlock) (.slice Ao23 y529.length co23) y529) ∧ Aside0 (Kd.V (Kd.int .i64) 3 wc w.heap.size (fun k_ => some k_ ≠ ((.slice Ao6 t520.length co6) : Value).ownBlock) (.slice A24 y534.length c24) y534) ∧ Aside0 (Kd.V (Kd.int .i64) 3 wc w.heap.size (fun k_ => some k_ ≠ ((.slice Ao6 t520.length co6) : Value).ownBlock) (.slice A25 y539.length c25) y539) ∧ Aside0 (Below w.heap.size w wc))
                 case first =>
                  have H := HC20.out
                  clear HC20
                  by_cases c26 : x12_2 = 0
                  ·rw [if_pos c26] at H
                   have c26b0 : (x12_2 == 0) = true := beq_iff_eq.mpr c26
                   have c26b1 : (x12_2 != 0) = false := bne_eq_false_iff_eq.mpr c26
                   clear c26
                   (first | rw [c26b0] | (simp only [i64_w, i32_w]; rw [c26b0]) | skip)
                   by_cases c27 : x13_3 = x12_2
                   ·rw [if_pos c27] at H
                    have c27b0 : (x13_3 == x12_2) = true := beq_iff_eq.mpr c27
                    have c27b1 : (x13_3 != x12_2) = false := bne_eq_false_iff_eq.mpr c27
                    clear c27
                    have H' := Aside0.mk H
                    clear H
                    go_wp2
                    go_meet
                    case rel => exact ⟨_, (true), (by first | rfl | (simp; done) | (simp [*]; done)), H', ⟨by have := HK1.out; have := HK2.out; have := HK3.out; first | omega | exact Nat.le_refl _⟩, ⟨by (with_reducible repeat (first | apply Kd.Q_alloc | apply Kd.Q_drewN | apply Kd.Q_drew)); exact HO_7.out⟩, ⟨by (with_reducible repeat (first | apply Kd.R_alloc | apply Kd.R_drewN | apply Kd.R_drew)); exact HO_11.out⟩, ⟨by (with_reducible repeat (first | apply Kd.V_alloc | apply Kd.V_drewN | apply Kd.V_drew)); exact HO533.out⟩, ⟨by (with_reducible repeat (first | apply Kd.V_alloc | apply Kd.V_drewN | apply Kd.V_drew)); exact HO538.out⟩, ⟨by (with_reducible repeat (first | apply Kd.V_alloc | apply Kd.V_drewN | apply Kd.V_drew)); exact HO543.out⟩, ⟨by repeat (first | (with_reducible first | exact HB.out | apply below_alloc | apply pw_below_drewN | apply below_drew1) | exact HB.out)⟩⟩
                   ·rw [if_neg c27] at H
                    have c27b0 : (x13_3 == x12_2) = false := beq_eq_false_iff_ne.mpr c27
                    have c27b1 : (x13_3 != x12_2) = true := bne_iff_ne.mpr c27
                    by_cases c28 : x13_3 = (wrap64 ((t520.length : Int) / 2))
                    ·rw [if_pos c28] at H
                     have c28b0 : (x13_3 == (wrap64 ((t520.length : Int) / 2))) = true := beq_iff_eq.mpr c28
                     have c28b1 : (x13_3 != (wrap64 ((t520.length : Int) / 2))) = false := bne_eq_false_iff_eq.mpr c28
                     clear c28
                     have H' := Aside0.mk H
                     clear H
                     go_wp2
                     go_meet
                     case rel => exact ⟨_, (true), (by first | rfl | (simp; done) | (simp [*]; done)), H', ⟨by have := HK1.out; have := HK2.out; have := HK3.out; first | omega | exact Nat.le_refl _⟩, ⟨by (with_reducible repeat (first | apply Kd.Q_alloc | apply Kd.Q_drewN | apply Kd.Q_drew)); exact HO_7.out⟩, ⟨by (with_reducible repeat (first | apply Kd.R_alloc | apply Kd.R_drewN | apply Kd.R_drew)); exact HO_11.out⟩, ⟨by (with_reducible repeat (first | apply Kd.V_alloc | apply Kd.V_drewN | apply Kd.V_drew)); exact HO533.out⟩, ⟨by (with_reducible repeat (first | apply Kd.V_alloc | apply Kd.V_drewN | apply Kd.V_drew)); exact HO538.out⟩, ⟨by (with_reducible repeat (first | apply Kd.V_alloc | apply Kd.V_drewN | apply Kd.V_drew)); exact HO543.out⟩, ⟨by repeat (first | (with_reducible first | exact HB.out | apply below_alloc | apply pw_below_drewN | apply below_drew1) | exact HB.out)⟩⟩
                    ·rw [if_neg c28] at H
                     have c28b0 : (x13_3 == (wrap64 ((t520.length : Int) / 2))) = false := beq_eq_false_iff_ne.mpr c28
                     have c28b1 : (x13_3 != (wrap64 ((t520.length : Int) / 2))) = true := bne_iff_ne.mpr c28
                     have H' := Aside0.mk H
                     clear H
                     go_wp2
                     go_meet
                     case rel => exact ⟨_, (false), (by first | rfl | (simp; done) | (simp [*]; done)), H', ⟨by have := HK1.out; have := HK2.out; have := HK3.out; first | omega | exact Nat.le_refl _⟩, ⟨by (with_reducible repeat (first | apply Kd.Q_alloc | apply Kd.Q_drewN | apply Kd.Q_drew)); exact HO_7.out⟩, ⟨by (with_reducible repeat (first | apply Kd.R_alloc | apply Kd.R_drewN | apply Kd.R_drew)); exact HO_11.out⟩, ⟨by (with_reducible repeat (first | apply Kd.V_alloc | apply Kd.V_drewN | apply Kd.V_drew)); exact HO533.out⟩, ⟨by (with_reducible repeat (first | apply Kd.V_alloc | apply Kd.V_drewN | apply Kd.V_drew)); exact HO538.out⟩, ⟨by (with_reducible repeat (first | apply Kd.V_alloc | apply Kd.V_drewN | apply Kd.V_drew)); exact HO543.out⟩, ⟨by repeat (first | (with_reducible first | exact HB.out | apply below_alloc | apply pw_below_drewN | apply below_drew1) | exact HB.out)⟩⟩
                  ·rw [if_neg c26] at H
                   have c26b0 : (x12_2 == 0) = false := beq_eq_false_iff_ne.mpr c26
                   have c26b1 : (x12_2 != 0) = true := bne_iff_ne.mpr c26
                   (first | rw [c26b0] | (simp only [i64_w, i32_w]; rw [c26b0]) | skip)
                   by_cases c29 : x13_3 = x12_2
                   ·rw [if_pos c29] at H
                    have c29b0 : (x13_3 == x12_2) = true := beq_iff_eq.mpr c29
                    have c29b1 : (x13_3 != x12_2) = false := bne_eq_false_iff_eq.mpr c29
                    clear c29
                    have H' := Aside0.mk H
                    clear H
                    go_wp2
                    go_meet
                    case rel => exact ⟨_, ((x13_3 == (wrap64 ((t520.length : Int) / 2)))), (by first | rfl | (simp; done) | (simp [*]; done)), H', ⟨by have := HK1.out; have := HK2.out; have := HK3.out; first | omega | exact Nat.le_refl _⟩, ⟨by (with_reducible repeat (first | apply Kd.Q_alloc | apply Kd.Q_drewN | apply Kd.Q_drew)); exact HO_7.out⟩, ⟨by (with_reducible repeat (first | apply Kd.R_alloc | apply Kd.R_drewN | apply Kd.R_drew)); exact HO_11.out⟩, ⟨by (with_reducible repeat (first | apply Kd.V_alloc | apply Kd.V_drewN | apply Kd.V_drew)); exact HO533.out⟩, ⟨by (with_reducible repeat (first | apply Kd.V_alloc | apply Kd.V_drewN | apply Kd.V_drew)); exact HO538.out⟩, ⟨by (with_reducible repeat (first | apply Kd.V_alloc | apply Kd.V_drewN | apply Kd.V_drew)); exact HO543.out⟩, ⟨by repeat (first | (with_reducible first | exact HB.out | apply below_alloc | apply pw_below_drewN | apply below_drew1) | exact HB.out)⟩⟩
                   ·rw [if_neg c29] at H
                    have c29b0 : (x13_3 == x12_2) = false := beq_eq_false_iff_ne.mpr c29
                    have c29b1 : (x13_3 != x12_2) = true := bne_iff_ne.mpr c29
                    have H' := Aside0.mk H
                    clear H
                    go_wp2
                    go_meet
                    case rel => exact ⟨_, (false), (by first | rfl | (simp; done) | (simp [*]; done)), H', ⟨by have := HK1.out; have := HK2.out; have := HK3.out; first | omega | exact Nat.le_refl _⟩, ⟨by (with_reducible repeat (first | apply Kd.Q_alloc | apply Kd.Q_drewN | apply Kd.Q_drew)); exact HO_7.out⟩, ⟨by (with_reducible repeat (first | apply Kd.R_alloc | apply Kd.R_drewN | apply Kd.R_drew)); exact HO_11.out⟩, ⟨by (with_reducible repeat (first | apply Kd.V_alloc | apply Kd.V_drewN | apply Kd.V_drew)); exact HO533.out⟩, ⟨by (with_reducible repeat (first | apply Kd.V_alloc | apply Kd.V_drewN | apply Kd.V_drew)); exact HO538.out⟩, ⟨by (with_reducible repeat (first | apply Kd.V_alloc | apply Kd.V_drewN | apply Kd.V_drew)); exact HO543.out⟩, ⟨by repeat (first | (with_reducible first | exact HB.out | apply below_alloc | apply pw_below_drewN | apply below_drew1) | exact HB.out)⟩⟩
                 case rest =>
                  clear HC20
                  try clear c1
                  try clear c2
                  try clear p2
                  try clear q2
                  try clear c3
                  try clear p6
                  try clear c7
                  try clear c7b0
                  try clear c10
                  try clear c10b0
                  try clear c11
                  try clear c11b0
                  try clear c12
                  try clear c12b0
                  try clear c12b1
                  try clear c13
                  try clear c13b0
                  try clear c13b1
                  try clear c14
                  try clear c14b0
                  try clear c15
                  try clear c15b0
                  try clear c15b1
                  try clear c16
                  try clear c16b0
                  try clear c16b1
                  try clear c17
                  try clear c17b0
                  try clear c17b1
                  try clear c18
                  try clear c18b0
                  try clear c19
                  try clear c19b0
                  try clear c19b1
                  try clear q22
                  try clear c24
                  try clear q24
                  try clear c25
                  try clear q25
                  try clear c26
                  try clear c26b0
                  try clear c26b1
                  try clear c27
                  try clear c27b0
                  try clear c27b1
                  try clear c28
                  try clear c28b0
                  try clear c28b1
                  try clear c29
                  try clear c29b0
                  try clear c29b1
                  try clear p2
                  try clear p6
                  try clear q024
                  try clear q025
                  try clear q22
                  try clear q24
                  try clear q25
                  obtain ⟨kq, x17_19, rfl, HA, HJ19, HO_7, HO_11, HO_14, HO_15, HO_16, HB⟩ := hcut
                  cases kq with
                  | zero => exact absurd HA.out (by simp [impl_WicksParts.j3])
                  | succ kj19 =>
                   have H := HA.out
                   clear HA
                   simp only [impl_WicksParts.j3] at H
                   by_cases c30 : x17_19 = true
                   ·subst c30
                    have H1 : (impl_WicksParts.l2 kj19 t520 (wrap64 ((t520.length : Int) / 2)) x31_1 t526 x12_2 (wrap64 (x13_3 + 1)) (t520.length : Int) x31_1) = some (r1, r2, r3, r4, r5) := by rw [if_pos rfl] at H; exact H
                    clear H
                    have H := H1
                    clear H1
                    have H' := Aside0.mk H
                    clear H
                    go_wp2
                    go_roundg kj19
                    case measure => have := HK1.out; have := HK2.out; have := HK3.out; have := HJ19.out; omega
                    case rel => exact ⟨(wrap64 (x13_3 + 1)), (by first | rfl | (simp; done) | (simp [*]; done)), H', ⟨by have := HK1.out; have := HK2.out; have := HK3.out; have := HJ19.out; omega⟩, ⟨by (with_reducible repeat (first | apply Kd.Q_alloc | apply Kd.Q_drewN | apply Kd.Q_drew)); exact HO_7.out⟩, ⟨by (with_reducible repeat (first | apply Kd.R_alloc | apply Kd.R_drewN | apply Kd.R_drew)); exact HO_11.out⟩, ⟨by repeat (first | (with_reducible first | exact HB.out | apply below_alloc | apply pw_below_drewN | apply below_drew1) | exact HB.out)⟩⟩
                   ·replace c30 := Bool.eq_false_iff.mpr c30
                    subst c30
                    have H1 : (if 0 ≤ (wrap64 ((t520.length : Int) / 2)) then (if (wrap64 ((t520.length : Int) / 2)) ≤ (t526.length : Int) then ((impl_inverse.f y529).bind fun t549 => ((impl_inverse.f y534).bind fun t552 => ((impl_inverse.f y539).bind fun t555 => ((slices_Concat_int_int.f kj19 (([t549, t552, t555] : List (List Int)))).bind fun t561 => ((slices_Equal_int_int.f kj19 (t526.drop ((wrap64 ((t520.length : Int) / 2)) : Int).toNat) t561).bind fun t564 => (if t564 = true then ((slices_Clone_int_int.f y529).bind fun t565 => ((slices_Clone_int_int.f y534).bind fun t568 => ((slices_Clone_int_int.f y539).bind fun t571 => (some (t565, t568, t571, x31_1, true))))) else (impl_WicksParts.l2 kj19 t520 (wrap64 ((t520.length : Int) / 2)) x31_1 t526 x12_2 (wrap64 (x13_3 + 1)) (t520.length : Int) x31_1))))))) else (none)) else (none)) = some (r1, r2, r3, r4, r5) := by rw [if_neg (show ¬ (false = true) by decide)] at H; exact H
                    clear H
                    have H := H1
                    clear H1
                    by_cases c31 : 0 ≤ (wrap64 ((t520.length : Int) / 2))
                    ·rw [if_pos c31] at H
                     have c31b0 := eq_true c31
                     have c31b1 : decide (0 ≤ (wrap64 ((t520.length : Int) / 2))) = true := decide_eq_true c31
                     clear c31
                     by_cases c32 : (wrap64 ((t520.length : Int) / 2)) ≤ (t526.length : Int)
                     ·rw [if_pos c32] at H
                      have c32b0 := eq_true c32
                      have c32b1 : decide ((wrap64 ((t520.length : Int) / 2)) ≤ (t526.length : Int)) = true := decide_eq_true c32
                      clear c32
                      obtain ⟨y544, hy544⟩ : ∃ y_ : List Int, y_ = (t526.drop ((wrap64 ((t520.length : Int) / 2)) : Int).toNat) := ⟨_, rfl⟩
                      replace H : ((impl_inverse.f y529).bind fun t549 => ((impl_inverse.f y534).bind fun t552 => ((impl_inverse.f y539).bind fun t555 => ((slices_Concat_int_int.f kj19 (([t549, t552, t555] : List (List Int)))).bind fun t561 => ((slices_Equal_int_int.f kj19 y544 t561).bind fun t564 => (if t564 = true then ((slices_Clone_int_int.f y529).bind fun t565 => ((slices_Clone_int_int.f y534).bind fun t568 => ((slices_Clone_int_int.f y539).bind fun t571 => (some (t565, t568, t571, x31_1, true))))) else (impl_WicksParts.l2 kj19 t520 (wrap64 ((t520.length : Int) / 2)) x31_1 t526 x12_2 (wrap64 (x13_3 + 1)) (t520.length : Int) x31_1))))))) = some (r1, r2, r3, r4, r5) := by first | (rw [hy544]; with_reducible exact H) | (have H2_ := (Option.bind_some _ _).symm.trans H; rw [hy544]; with_reducible exact H2_) | (have H2_ := (Option.bind_some _ _).symm.trans H; with_reducible exact H2_) | with_reducible exact H | (rw [hy544]; exact H) | exact H
                      have Ny544 := Aside0.mk hy544
                      clear hy544
                      replace H := Option.bind_eq_some_iff.mp H
                      obtain ⟨t549, A330, H⟩ := H
                      replace H : ((impl_inverse.f y534).bind fun t552 => ((impl_inverse.f y539).bind fun t555 => ((slices_Concat_int_int.f kj19 (([t549, t552, t555] : List (List Int)))).bind fun t561 => ((slices_Equal_int_int.f kj19 y544 t561).bind fun t564 => (if t564 = true then ((slices_Clone_int_int.f y529).bind fun t565 => ((slices_Clone_int_int.f y534).bind fun t568 => ((slices_Clone_int_int.f y539).bind fun t571 => (some (t565, t568, t571, x31_1, true))))) else (impl_WicksParts.l2 kj19 t520 (wrap64 ((t520.length : Int) / 2)) x31_1 t526 x12_2 (wrap64 (x13_3 + 1)) (t520.length : Int) x31_1)))))) = some (r1, r2, r3, r4, r5) := H
                      have A33 := Aside0.mk A330
                      clear A330
                      replace H := Option.bind_eq_some_iff.mp H
                      obtain ⟨t552, A340, H⟩ := H
                      replace H : ((impl_inverse.f y539).bind fun t555 => ((slices_Concat_int_int.f kj19 (([t549, t552, t555] : List (List Int)))).bind fun t561 => ((slices_Equal_int_int.f kj19 y544 t561).bind fun t564 => (if t564 = true then ((slices_Clone_int_int.f y529).bind fun t565 => ((slices_Clone_int_int.f y534).bind fun t568 => ((slices_Clone_int_int.f y539).bind fun t571 => (some (t565, t568, t571, x31_1, true))))) else (impl_WicksParts.l2 kj19 t520 (wrap64 ((t520.length : Int) / 2)) x31_1 t526 x12_2 (wrap64 (x13_3 + 1)) (t520.length : Int) x31_1))))) = some (r1, r2, r3, r4, r5) := H
                      have A34 := Aside0.mk A340
                      clear A340
                      replace H := Option.bind_eq_some_iff.mp H
                      obtain ⟨t555, A350, H⟩ := H
                      replace H : ((slices_Concat_int_int.f kj19 (([t549, t552, t555] : List (List Int)))).bind fun t561 => ((slices_Equal_int_int.f kj19 y544 t561).bind fun t564 => (if t564 = true then ((slices_Clone_int_int.f y529).bind fun t565 => ((slices_Clone_int_int.f y534).bind fun t568 => ((slices_Clone_int_int.f y539).bind fun t571 => (some (t565, t568, t571, x31_1, true))))) else (impl_WicksParts.l2 kj19 t520 (wrap64 ((t520.length : Int) / 2)) x31_1 t526 x12_2 (wrap64 (x13_3 + 1)) (t520.length : Int) x31_1)))) = some (r1, r2, r3, r4, r5) := H
                      have A35 := Aside0.mk A350
                      clear A350
                      obtain ⟨y558, hy558⟩ : ∃ y_ : List (List Int), y_ = (([t549, t552, t555] : List (List Int))) := ⟨_, rfl⟩
                      replace H : ((slices_Concat_int_int.f kj19 y558).bind fun t561 => ((slices_Equal_int_int.f kj19 y544 t561).bind fun t564 => (if t564 = true then ((slices_Clone_int_int.f y529).bind fun t565 => ((slices_Clone_int_int.f y534).bind fun t568 => ((slices_Clone_int_int.f y539).bind fun t571 => (some (t565, t568, t571, x31_1, true))))) else (impl_WicksParts.l2 kj19 t520 (wrap64 ((t520.length : Int) / 2)) x31_1 t526 x12_2 (wrap64 (x13_3 + 1)) (t520.length : Int) x31_1)))) = some (r1, r2, r3, r4, r5) := by first | (rw [hy558]; with_reducible exact H) | (have H2_ := (Option.bind_some _ _).symm.trans H; rw [hy558]; with_reducible exact H2_) | (have H2_ := (Option.bind_some _ _).symm.trans H; with_reducible exact H2_) | with_reducible exact H | (rw [hy558]; exact H) | exact H
                      have Ny558 := Aside0.mk hy558
                      clear hy558
                      replace H := Option.bind_eq_some_iff.mp H
                      obtain ⟨t561, A360, H⟩ := H
                      replace H : ((slices_Equal_int_int.f kj19 y544 t561).bind fun t564 => (if t564 = true then ((slices_Clone_int_int.f y529).bind fun t565 => ((slices_Clone_int_int.f y534).bind fun t568 => ((slices_Clone_int_int.f y539).bind fun t571 => (some (t565, t568, t571, x31_1, true))))) else (impl_WicksParts.l2 kj19 t520 (wrap64 ((t520.length : Int) / 2)) x31_1 t526 x12_2 (wrap64 (x13_3 + 1)) (t520.length : Int) x31_1))) = some (r1, r2, r3, r4, r5) := H
                      have A36 := Aside0.mk A360
                      clear A360
                      replace H := Option.bind_eq_some_iff.mp H
                      obtain ⟨t564, A370, H⟩ := H
                      replace H : (if t564 = true then ((slices_Clone_int_int.f y529).bind fun t565 => ((slices_Clone_int_int.f y534).bind fun t568 => ((slices_Clone_int_int.f y539).bind fun t571 => (some (t565, t568, t571, x31_1, true))))) else (impl_WicksParts.l2 kj19 t520 (wrap64 ((t520.length : Int) / 2)) x31_1 t526 x12_2 (wrap64 (x13_3 + 1)) (t520.length : Int) x31_1)) = some (r1, r2, r3, r4, r5) := H
                      have A37 := Aside0.mk A370
                      clear A370
                      by_cases c38 : t564 = true
                      ·subst c38
                       have H1 : ((slices_Clone_int_int.f y529).bind fun t565 => ((slices_Clone_int_int.f y534).bind fun t568 => ((slices_Clone_int_int.f y539).bind fun t571 => (some (t565, t568, t571, x31_1, true))))) = some (r1, r2, r3, r4, r5) := by rw [if_pos rfl] at H; exact H
                       clear H
                       have H := H1
                       clear H1
                       replace H := Option.bind_eq_some_iff.mp H
                       obtain ⟨t565, A390, H⟩ := H
                       replace H : ((slices_Clone_int_int.f y534).bind fun t568 => ((slices_Clone_int_int.f y539).bind fun t571 => (some (t565, t568, t571, x31_1, true)))) = some (r1, r2, r3, r4, r5) := H
                       have A39 := Aside0.mk A390
                       clear A390
                       replace H := Option.bind_eq_some_iff.mp H
                       obtain ⟨t568, A400, H⟩ := H
                       replace H : ((slices_Clone_int_int.f y539).bind fun t571 => (some (t565, t568, t571, x31_1, true))) = some (r1, r2, r3, r4, r5) := H
                       have A40 := Aside0.mk A400
                       clear A400
                       replace H := Option.bind_eq_some_iff.mp H
                       obtain ⟨t571, A410, H⟩ := H
                       replace H : (some (t565, t568, t571, x31_1, true)) = some (r1, r2, r3, r4, r5) := H
                       have A41 := Aside0.mk A410
                       clear A410
                       simp only [Option.some.injEq, Prod.mk.injEq] at H
                       obtain ⟨rfl, rfl, rfl, rfl, rfl⟩ := H
                       try go_wp2
                       have n0_ := Aside0.mk (Kd.Q_drew HO_7.out)
                       have n1_ := Aside0.mk (Kd.R_drew HO_11.out)
                       have n2_ := Aside0.mk (Kd.V_drew HO_14.out)
                       have n3_ := Aside0.mk (Kd.V_drew HO_15.out)
                       have n4_ := Aside0.mk (Kd.V_drew HO_16.out)
                       have n5_ := Aside0.mk (below_drew1 HB.out)
                       clear HO_7
                       clear HO_11
                       clear HO_14
                       clear HO_15
                       clear HO_16
                       clear HB
                       have HO_7 := n0_
                       have HO_11 := n1_
                       have HO_14 := n2_
                       have HO_15 := n3_
                       have HO_16 := n4_
                       have HB := n5_
                       clear n0_ n1_ n2_ n3_ n4_ n5_
                       have q43 : ((wrap64 ((t520.length : Int) / 2)) : Int) ≤ ((t526.length : Int) : Int) := of_decide_eq_true (by first | (with_reducible assumption) | assumption)
                       obtain ⟨i043, hi043, _, hsz43, _⟩ := info_parts info3
                       have hroom43 : t526.length ≤ co23 := (Kd.R_reads' HO_11.out).2.1
                       have hC43 : Kd.F (Kd.int .i64) _ _ Ao23 t526.length t526 := (Kd.V_at (base := w.heap.size) (Kd.R_V HO_11.out)).2.2
                       have q043 : (0 : Int) ≤ ((wrap64 ((t520.length : Int) / 2)) : Int) := of_decide_eq_true (by first | (with_reducible assumption) | assumption)
                       have hcut43 := cut_from (P := Try.prog) 25 3 .i64 Try.underlying25 hi043 1 hsz43 Ao23 t526.length co23 (wrap64 ((t520.length : Int) / 2)) q043 q43
                       have hr43 := Kd.F_cut (m := ((wrap64 ((t520.length : Int) / 2)) : Int).toNat) (c := co23) hC43 (by first | exact Int.toNat_le.mpr q43 | omega) hroom43
                       obtain ⟨A43, hA43⟩ : ∃ A1, A1 = (if co23 = ((wrap64 ((t520.length : Int) / 2)) : Int).toNat then Ao23 else (Ao23 : Option Addr).map (·.add (((wrap64 ((t520.length : Int) / 2)) : Int).toNat * 1))) := ⟨_, rfl⟩
                       obtain ⟨c43, hc43⟩ : ∃ c1, c1 = co23 - ((wrap64 ((t520.length : Int) / 2)) : Int).toNat := ⟨_, rfl⟩
                       have hy43 : y544.length = t526.length - ((wrap64 ((t520.length : Int) / 2)) : Int).toNat := (by first | (rw [Ny544.out]; exact List.length_drop) | (rw [Ny544.out, List.length_drop] <;> omega))
                       rw [show (t526).drop ((wrap64 ((t520.length : Int) / 2)) : Int).toNat = y544 from Ny544.out.symm] at hr43
                       replace hr43 : Kd.F (Kd.int .i64) _ _ A43 y544.length y544 := (by rw [hA43]; exact hr43)
                       rw [← hy43, ← hA43, ← hc43] at hcut43
                       have HO548 := Aside0.mk (show Kd.V (Kd.int .i64) 3 _ w.heap.size _ (.slice A43 y544.length c43) y544 from Kd.V_mk (by rw [hy43, hc43]; exact Nat.sub_le_sub_right hroom43 _) hr43)
                       have HC548 := Aside0.mk (show y544.length ≤ c43 from by rw [hy43, hc43]; exact Nat.sub_le_sub_right hroom43 _)
                       clear hr43 hC43 hroom43 hi043 hsz43 hc43
                       have KY43 := Aside0.mk hy43
                       have KA43 := Aside0.mk hA43
                       clear hy43 hA43
                       replace q43 := eq_true q43
                       refine start_ (n := 12) (S := fun w' => True) (ds := []) #[false, false, false, false, false, false, false, false, false, false, false, false] (by kernel_rfl) rfl rfl trivial (fun hHeld => ?_); refine with_tabW impl_WicksParts.tab18 impl_WicksParts.bits18 (fun HT_ HW_ => ?_)
                       generalize wc.drew = w42 at HO_7 HO_11 HO_14 HO_15 HO_16 HB HO548 hHeld ⊢
                       refine pure_ (i := 0) (N := some 86) (v := ?_) (a' := ?_) #[true, false, false, false, false, false, false, false, false, false, false, false] rfl rfl (any_of HT_.out (by kernel_rfl)) (fun _ _ _ h => h) (Or.inl ⟨by rfl, ?_⟩) ?_ ?_
                       rotate_left
                       ·intro w'
                        go_simp
                        with_reducible rfl
                       rotate_left
                       ·simp only [Act.put, List.setIfInBounds_toArray, List.set_cons_zero, List.set_cons_succ, i64_w, i32_w]
                        rfl
                       refine pure_ (i := 1) (N := some 87) (v := ?_) (a' := ?_) #[true, true, false, false, false, false, false, false, false, false, false, false] rfl rfl (any_of HT_.out (by kernel_rfl)) (fun _ _ _ h => h) (Or.inl ⟨by rfl, ?_⟩) ?_ ?_
                       rotate_left
                       ·intro w'
                        go_simp
                        with_reducible rfl
                       rotate_left
                       ·simp only [Act.put, List.setIfInBounds_toArray, List.set_cons_zero, List.set_cons_succ, i64_w, i32_w]
                        rfl
                       refine pure_ (i := 2) (N := some 88) (v := ?_) (a' := ?_) #[true, true, true, false, false, false, false, false, false, false, false, false] rfl rfl (any_of HT_.out (by kernel_rfl)) (fun _ _ _ h => h) (Or.inl ⟨by rfl, ?_⟩) ?_ ?_
                       rotate_left
                       ·intro w'
                        go_simp
                        with_reducible rfl
                       rotate_left
                       ·simp only [Act.put, List.setIfInBounds_toArray, List.set_cons_zero, List.set_cons_succ, i64_w, i32_w]
                        rfl
                       refine pure_ (i := 3) (N := some 89) (v := ?_) (a' := ?_) #[true, true, true, true, false, false, false, false, false, false, false, false] rfl rfl (any_of HT_.out (by kernel_rfl)) (fun _ _ _ h => h) (Or.inl ⟨by rfl, ?_⟩) ?_ ?_
                       rotate_left
                       ·intro w'
                        go_simp
                        with_reducible rfl
                       rotate_left
                       ·simp only [Act.put, List.setIfInBounds_toArray, List.set_cons_zero, List.set_cons_succ, i64_w, i32_w]
                        rfl
                       refine pure_ (i := 5) (N := some 91) (v := ?_) (a' := ?_) #[true, true, true, true, false, true, false, false, false, false, false, false] rfl rfl (any_of HT_.out (by kernel_rfl)) (fun _ _ _ h => h) (Or.inl ⟨by rfl, ?_⟩) ?_ ?_
                       rotate_left
                       ·intro w'
                        go_simp
                        with_reducible rfl
                       rotate_left
                       ·simp only [Act.put, List.setIfInBounds_toArray, List.set_cons_zero, List.set_cons_succ, i64_w, i32_w]
                        rfl
                       refine pure_ (i := 7) (N := some 93) (v := ?_) (a' := ?_) #[true, true, true, true, false, true, false, true, false, false, false, false] rfl rfl (any_of HT_.out (by kernel_rfl)) (fun _ _ _ h => h) (Or.inl ⟨by rfl, ?_⟩) ?_ ?_
                       rotate_left
                       ·intro w'
                        go_simp
                        with_reducible rfl
                       rotate_left
                       ·simp only [Act.put, List.setIfInBounds_toArray, List.set_cons_zero, List.set_cons_succ, i64_w, i32_w]
                        rfl
                       refine one_ (i := 4) (N := some 90) #[true, true, true, true, true, true, false, true, false, false, false, false] rfl rfl (one_of HT_.out (by kernel_rfl)) (by decide) (fun K hK => ?_)
                       refine goes_ Try.func75 (by kernel_rfl) rfl #[.slice Ao23 y529.length co23] (by rfl) rfl rfl (by (try simp only [List.map_toArray, List.map_cons, List.map_nil]); first | done | rfl | (simp only [List.length_drop, List.length_take]; rfl)) ?_
                       with_reducible refine (impl_inverse.calls _ _ y529 t549 _ ?side1 ?side2 A33.out).mono ?_
                       (case side1 => repeat (first | exact (Kd.V_reads' HO_14.out).2.2 | (with_reducible refine Kd.C_alloc ?_ _) | (with_reducible refine Kd.C_drewN ?_ _) | (with_reducible refine Kd.C_drew ?_)))
                       (case side2 => exact (Kd.V_reads' HO_14.out).2.1)
                       rintro e w44 ⟨v550, rfl, ho0, hb⟩
                       refine ⟨_, rfl, ?_⟩
                       have n0_ := Aside0.mk (Kd.Q_elder' (by (with_reducible repeat (first | apply Kd.Q_alloc | apply Kd.Q_drewN | apply Kd.Q_drew)); exact HO_7.out) (Kd.R_base ho0) hb)
                       have n1_ := Aside0.mk (Kd.R_elder' (by (with_reducible repeat (first | apply Kd.R_alloc | apply Kd.R_drewN | apply Kd.R_drew)); exact HO_11.out) (Kd.R_base ho0) hb)
                       have n2_ := Aside0.mk (Kd.V_elder' (by (with_reducible repeat (first | apply Kd.V_alloc | apply Kd.V_drewN | apply Kd.V_drew)); exact HO_14.out) (Kd.R_base ho0) hb)
                       have n3_ := Aside0.mk (Kd.V_elder' (by (with_reducible repeat (first | apply Kd.V_alloc | apply Kd.V_drewN | apply Kd.V_drew)); exact HO_15.out) (Kd.R_base ho0) hb)
                       have n4_ := Aside0.mk (Kd.V_elder' (by (with_reducible repeat (first | apply Kd.V_alloc | apply Kd.V_drewN | apply Kd.V_drew)); exact HO_16.out) (Kd.R_base ho0) hb)
                       have n5_ := Aside0.mk (Kd.V_elder' (by (with_reducible repeat (first | apply Kd.V_alloc | apply Kd.V_drewN | apply Kd.V_drew)); exact HO548.out) (Kd.R_base ho0) hb)
                       have n6_ := Aside0.mk (Kd.R_lower (Kd.R_new' (Kd.R_new' ho0 (Kd.Q_lt (by (with_reducible repeat (first | apply Kd.Q_alloc | apply Kd.Q_drewN | apply Kd.Q_drew)); exact HO_7.out))) (Kd.R_lt (by (with_reducible repeat (first | apply Kd.R_alloc | apply Kd.R_drewN | apply Kd.R_drew)); exact HO_11.out))) (below_size (by repeat (first | (with_reducible first | exact HB.out | apply below_alloc | apply pw_below_drewN | apply below_drew1) | exact HB.out))))
                       have n7_ := Aside0.mk (below_step (by repeat (first | (with_reducible first | exact HB.out | apply below_alloc | apply pw_below_drewN | apply below_drew1) | exact HB.out)) hb)
                       clear HO_7
                       clear HO_11
                       clear HO_14
                       clear HO_15
                       clear HO_16
                       clear HO548
                       clear HB
                       have HO_7 := n0_
                       have HO_11 := n1_
                       have HO_14 := n2_
                       have HO_15 := n3_
                       have HO_16 := n4_
                       have HO548 := n5_
                       have HO551 := n6_
                       have HB := n7_
                       clear n0_ n1_ n2_ n3_ n4_ n5_ n6_ n7_
                       (try clear hb)
                       (try clear hb2)
                       (try clear hk)
                       (try clear hi)
                       (try clear ho0)
                       refine hK.out _ _ trivial (fun hHeld => ?_)
                       clear hK K
                       refine norm_ (a' := ?_) ?_ ?_
                       rotate_left
                       ·show Act.put _ (some 90) _ = _
                        simp only [Act.put, List.setIfInBounds_toArray, List.set_cons_zero, List.set_cons_succ, i64_w, i32_w]
                        rfl
                       refine one_ (i := 6) (N := some 92) #[true, true, true, true, true, true, true, true, false, false, false, false] rfl rfl (one_of HT_.out (by kernel_rfl)) (by decide) (fun K hK => ?_)
                       refine goes_ Try.func75 (by kernel_rfl) rfl #[.slice A24 y534.length c24] (by rfl) rfl rfl (by (try simp only [List.map_toArray, List.map_cons, List.map_nil]); first | done | rfl | (simp only [List.length_drop, List.length_take]; rfl)) ?_
                       with_reducible refine (impl_inverse.calls _ _ y534 t552 _ ?side1 ?side2 A34.out).mono ?_
                       (case side1 => repeat (first | exact (Kd.V_reads' HO_15.out).2.2 | (with_reducible refine Kd.C_alloc ?_ _) | (with_reducible refine Kd.C_drewN ?_ _) | (with_reducible refine Kd.C_drew ?_)))
                       (case side2 => exact (Kd.V_reads' HO_15.out).2.1)
                       rintro e w45 ⟨v553, rfl, ho0, hb⟩
                       refine ⟨_, rfl, ?_⟩
                       have n0_ := Aside0.mk (Kd.Q_elder' (by (with_reducible repeat (first | apply Kd.Q_alloc | apply Kd.Q_drewN | apply Kd.Q_drew)); exact HO_7.out) (Kd.R_base ho0) hb)
                       have n1_ := Aside0.mk (Kd.R_elder' (by (with_reducible repeat (first | apply Kd.R_alloc | apply Kd.R_drewN | apply Kd.R_drew)); exact HO_11.out) (Kd.R_base ho0) hb)
                       have n2_ := Aside0.mk (Kd.V_elder' (by (with_reducible repeat (first | apply Kd.V_alloc | apply Kd.V_drewN | apply Kd.V_drew)); exact HO_14.out) (Kd.R_base ho0) hb)
                       have n3_ := Aside0.mk (Kd.V_elder' (by (with_reducible repeat (first | apply Kd.V_alloc | apply Kd.V_drewN | apply Kd.V_drew)); exact HO_15.out) (Kd.R_base ho0) hb)
                       have n4_ := Aside0.mk (Kd.V_elder' (by (with_reducible repeat (first | apply Kd.V_alloc | apply Kd.V_drewN | apply Kd.V_drew)); exact HO_16.out) (Kd.R_base ho0) hb)
                       have n5_ := Aside0.mk (Kd.V_elder' (by (with_reducible repeat (first | apply Kd.V_alloc | apply Kd.V_drewN | apply Kd.V_drew)); exact HO548.out) (Kd.R_base ho0) hb)
                       have n6_ := Aside0.mk (Kd.R_elder' (by (with_reducible repeat (first | apply Kd.R_alloc | apply Kd.R_drewN | apply Kd.R_drew)); exact HO551.out) (Kd.R_base ho0) hb)
                       have n7_ := Aside0.mk (Kd.R_lower (Kd.R_new' (Kd.R_new' (Kd.R_new' ho0 (Kd.Q_lt (by (with_reducible repeat (first | apply Kd.Q_alloc | apply Kd.Q_drewN | apply Kd.Q_drew)); exact HO_7.out))) (Kd.R_lt (by (with_reducible repeat (first | apply Kd.R_alloc | apply Kd.R_drewN | apply Kd.R_drew)); exact HO_11.out))) (Kd.R_lt (by (with_reducible repeat (first | apply Kd.R_alloc | apply Kd.R_drewN | apply Kd.R_drew)); exact HO551.out))) (below_size (by repeat (first | (with_reducible first | exact HB.out | apply below_alloc | apply pw_below_drewN | apply below_drew1) | exact HB.out))))
                       have n8_ := Aside0.mk (below_step (by repeat (first | (with_reducible first | exact HB.out | apply below_alloc | apply pw_below_drewN | apply below_drew1) | exact HB.out)) hb)
                       clear HO_7
                       clear HO_11
                       clear HO_14
                       clear HO_15
                       clear HO_16
                       clear HO548
                       clear HO551
                       clear HB
                       have HO_7 := n0_
                       have HO_11 := n1_
                       have HO_14 := n2_
                       have HO_15 := n3_
                       have HO_16 := n4_
                       have HO548 := n5_
                       have HO551 := n6_
                       have HO554 := n7_
                       have HB := n8_
                       clear n0_ n1_ n2_ n3_ n4_ n5_ n6_ n7_ n8_
                       (try clear hb)
                       (try clear hb2)
                       (try clear hk)
                       (try clear hi)
                       (try clear ho0)
                       refine hK.out _ _ trivial (fun hHeld => ?_)
                       clear hK K
                       refine norm_ (a' := ?_) ?_ ?_
                       rotate_left
                       ·show Act.put _ (some 92) _ = _
                        simp only [Act.put, List.setIfInBounds_toArray, List.set_cons_zero, List.set_cons_succ, i64_w, i32_w]
                        rfl
                       refine one_ (i := 8) (N := some 94) #[true, true, true, true, true, true, true, true, true, false, false, false] rfl rfl (one_of HT_.out (by kernel_rfl)) (by decide) (fun K hK => ?_)
                       refine goes_ Try.func75 (by kernel_rfl) rfl #[.slice A25 y539.length c25] (by rfl) rfl rfl (by (try simp only [List.map_toArray, List.map_cons, List.map_nil]); first | done | rfl | (simp only [List.length_drop, List.length_take]; rfl)) ?_
                       with_reducible refine (impl_inverse.calls _ _ y539 t555 _ ?side1 ?side2 A35.out).mono ?_
                       (case side1 => repeat (first | exact (Kd.V_reads' HO_16.out).2.2 | (with_reducible refine Kd.C_alloc ?_ _) | (with_reducible refine Kd.C_drewN ?_ _) | (with_reducible refine Kd.C_drew ?_)))
                       (case side2 => exact (Kd.V_reads' HO_16.out).2.1)
                       rintro e w46 ⟨v556, rfl, ho0, hb⟩
                       refine ⟨_, rfl, ?_⟩
                       have n0_ := Aside0.mk (Kd.Q_elder' (by (with_reducible repeat (first | apply Kd.Q_alloc | apply Kd.Q_drewN | apply Kd.Q_drew)); exact HO_7.out) (Kd.R_base ho0) hb)
                       have n1_ := Aside0.mk (Kd.R_elder' (by (with_reducible repeat (first | apply Kd.R_alloc | apply Kd.R_drewN | apply Kd.R_drew)); exact HO_11.out) (Kd.R_base ho0) hb)
                       have n2_ := Aside0.mk (Kd.V_elder' (by (with_reducible repeat (first | apply Kd.V_alloc | apply Kd.V_drewN | apply Kd.V_drew)); exact HO_14.out) (Kd.R_base ho0) hb)
                       have n3_ := Aside0.mk (Kd.V_elder' (by (with_reducible repeat (first | apply Kd.V_alloc | apply Kd.V_drewN | apply Kd.V_drew)); exact HO_15.out) (Kd.R_base ho0) hb)
                       have n4_ := Aside0.mk (Kd.V_elder' (by (with_reducible repeat (first | apply Kd.V_alloc | apply Kd.V_drewN | apply Kd.V_drew)); exact HO_16.out) (Kd.R_base ho0) hb)
                       have n5_ := Aside0.mk (Kd.V_elder' (by (with_reducible repeat (first | apply Kd.V_alloc | apply Kd.V_drewN | apply Kd.V_drew)); exact HO548.out) (Kd.R_base ho0) hb)
                       have n6_ := Aside0.mk (Kd.R_elder' (by (with_reducible repeat (first | apply Kd.R_alloc | apply Kd.R_drewN | apply Kd.R_drew)); exact HO551.out) (Kd.R_base ho0) hb)
                       have n7_ := Aside0.mk (Kd.R_elder' (by (with_reducible repeat (first | apply Kd.R_alloc | apply Kd.R_drewN | apply Kd.R_drew)); exact HO554.out) (Kd.R_base ho0) hb)
                       have n8_ := Aside0.mk (Kd.R_lower (Kd.R_new' (Kd.R_new' (Kd.R_new' (Kd.R_new' ho0 (Kd.Q_lt (by (with_reducible repeat (first | apply Kd.Q_alloc | apply Kd.Q_drewN | apply Kd.Q_drew)); exact HO_7.out))) (Kd.R_lt (by (with_reducible repeat (first | apply Kd.R_alloc | apply Kd.R_drewN | apply Kd.R_drew)); exact HO_11.out))) (Kd.R_lt (by (with_reducible repeat (first | apply Kd.R_alloc | apply Kd.R_drewN | apply Kd.R_drew)); exact HO551.out))) (Kd.R_lt (by (with_reducible repeat (first | apply Kd.R_alloc | apply Kd.R_drewN | apply Kd.R_drew)); exact HO554.out))) (below_size (by repeat (first | (with_reducible first | exact HB.out | apply below_alloc | apply pw_below_drewN | apply below_drew1) | exact HB.out))))
                       have n9_ := Aside0.mk (below_step (by repeat (first | (with_reducible first | exact HB.out | apply below_alloc | apply pw_below_drewN | apply below_drew1) | exact HB.out)) hb)
                       clear HO_7
                       clear HO_11
                       clear HO_14
                       clear HO_15
                       clear HO_16
                       clear HO548
                       clear HO551
                       clear HO554
                       clear HB
                       have HO_7 := n0_
                       have HO_11 := n1_
                       have HO_14 := n2_
                       have HO_15 := n3_
                       have HO_16 := n4_
                       have HO548 := n5_
                       have HO551 := n6_
                       have HO554 := n7_
                       have HO557 := n8_
                       have HB := n9_
                       clear n0_ n1_ n2_ n3_ n4_ n5_ n6_ n7_ n8_ n9_
                       (try clear hb)
                       (try clear hb2)
                       (try clear hk)
                       (try clear hi)
                       (try clear ho0)
                       obtain ⟨Ao47, co47, eo47⟩ := Kd.R_slice HO551.out
                       (first | subst eo47 | (injection eo47 with f1_ f2_ f3_; have f4_ := f1_.symm; have f5_ := f3_.symm; clear f1_ f2_ f3_; subst f4_; subst f5_))
                       obtain ⟨Ao48, co48, eo48⟩ := Kd.R_slice HO554.out
                       (first | subst eo48 | (injection eo48 with f1_ f2_ f3_; have f4_ := f1_.symm; have f5_ := f3_.symm; clear f1_ f2_ f3_; subst f4_; subst f5_))
                       obtain ⟨Ao49, co49, eo49⟩ := Kd.R_slice HO557.out
                       (first | subst eo49 | (injection eo49 with f1_ f2_ f3_; have f4_ := f1_.symm; have f5_ := f3_.symm; clear f1_ f2_ f3_; subst f4_; subst f5_))
                       refine hK.out _ _ trivial (fun hHeld => ?_)
                       clear hK K
                       refine norm_ (a' := ?_) ?_ ?_
                       rotate_left
                       ·show Act.put _ (some 94) _ = _
                        simp only [Act.put, List.setIfInBounds_toArray, List.set_cons_zero, List.set_cons_succ, i64_w, i32_w]
                        rfl
                       refine one_ (i := 9) (N := some 95) #[true, true, true, true, true, true, true, true, true, true, false, false] rfl rfl (one_of HT_.out (by kernel_rfl)) (by decide) (fun K hK => ?_)
                       refine Kd.N_lit_step (Kd.slice 3 (Kd.int .i64)) _ 25 ?hg (N' := 95) ?hd (xs := ([t549, t552, t555] : List (List Int))) (inner := [.slice Ao47 t549.length co47, .slice Ao48 t552.length co48, .slice Ao49 t555.length co49]) (ok := (fun k_ => some k_ ≠ (.slice Ao6 t520.length co6 : Value).ownBlock ∧ some k_ ≠ (.slice Ao23 t526.length co23 : Value).ownBlock)) (okp := (fun k_ => some k_ ≠ (.slice Ao6 t520.length co6 : Value).ownBlock ∧ some k_ ≠ (.slice Ao23 t526.length co23 : Value).ownBlock)) ?hr ?hp (fun _ hk => hk) ((show ∀ k_, w46.heap.size ≤ k_ → (fun k_ => some k_ ≠ (.slice Ao6 t520.length co6 : Value).ownBlock ∧ some k_ ≠ (.slice Ao23 t526.length co23 : Value).ownBlock) k_ from fun k_ hk => ⟨Kd.fresh' (Kd.Q_lt (by (with_reducible repeat (first | apply Kd.Q_alloc | apply Kd.Q_drewN | apply Kd.Q_drew)); exact HO_7.out)) k_ hk, Kd.fresh' (Kd.R_lt (by (with_reducible repeat (first | apply Kd.R_alloc | apply Kd.R_drewN | apply Kd.R_drew)); exact HO_11.out)) k_ hk⟩) _ (Nat.le_refl _)) (Below.refl _ _) (Nat.le_refl _) (by simp) ?_; (case hd => rfl); (case hg => rfl); (case hr => first | (go_simp; done) | (go_simp; rfl)); (case hp => first | exact (Reps.one (show Kd.FK (Kd.slice 3 (Kd.int .i64)) _ _ t549 [.slice Ao47 t549.length co47] from (Kd.FK_slice_mk (Kd.R_reads' (Kd.R_mono (ok' := (fun k_ => some k_ ≠ (.slice Ao6 t520.length co6 : Value).ownBlock ∧ some k_ ≠ (.slice Ao23 t526.length co23 : Value).ownBlock)) (HO551.out) (fun k_ hk => ⟨hk.1.1.1.2, hk.1.1.2⟩))).2.1 (Kd.R_F (Kd.R_mono (ok' := (fun k_ => some k_ ≠ (.slice Ao6 t520.length co6 : Value).ownBlock ∧ some k_ ≠ (.slice Ao23 t526.length co23 : Value).ownBlock)) (HO551.out) (fun k_ hk => ⟨hk.1.1.1.2, hk.1.1.2⟩))))) (Reps.one (show Kd.FK (Kd.slice 3 (Kd.int .i64)) _ _ t552 [.slice Ao48 t552.length co48] from (Kd.FK_slice_mk (Kd.R_reads' (Kd.R_mono (ok' := (fun k_ => some k_ ≠ (.slice Ao6 t520.length co6 : Value).ownBlock ∧ some k_ ≠ (.slice Ao23 t526.length co23 : Value).ownBlock)) (HO554.out) (fun k_ hk => ⟨hk.1.1.1.2, hk.1.1.2⟩))).2.1 (Kd.R_F (Kd.R_mono (ok' := (fun k_ => some k_ ≠ (.slice Ao6 t520.length co6 : Value).ownBlock ∧ some k_ ≠ (.slice Ao23 t526.length co23 : Value).ownBlock)) (HO554.out) (fun k_ hk => ⟨hk.1.1.1.2, hk.1.1.2⟩))))) (Reps.one (show Kd.FK (Kd.slice 3 (Kd.int .i64)) _ _ t555 [.slice Ao49 t555.length co49] from (Kd.FK_slice_mk (Kd.R_reads' (Kd.R_mono (ok' := (fun k_ => some k_ ≠ (.slice Ao6 t520.length co6 : Value).ownBlock ∧ some k_ ≠ (.slice Ao23 t526.length co23 : Value).ownBlock)) (HO557.out) (fun k_ hk => ⟨hk.1.1.1.2, hk.1.1.2⟩))).2.1 (Kd.R_F (Kd.R_mono (ok' := (fun k_ => some k_ ≠ (.slice Ao6 t520.length co6 : Value).ownBlock ∧ some k_ ≠ (.slice Ao23 t526.length co23 : Value).ownBlock)) (HO557.out) (fun k_ hk => ⟨hk.1.1.1.2, hk.1.1.2⟩))))) (Reps.none _ _)))) | exact (Reps.one (show Kd.FK (Kd.slice 3 (Kd.int .i64)) _ _ t549 [.slice Ao47 t549.length co47] from (Kd.FK_slice_mk (Kd.R_reads' (Kd.R_mono (ok' := (fun k_ => some k_ ≠ (.slice Ao6 t520.length co6 : Value).ownBlock ∧ some k_ ≠ (.slice Ao23 t526.length co23 : Value).ownBlock)) (HO551.out) (fun k_ hk => ⟨hk.1.1.1.2, hk.1.1.2⟩))).2.1 (Kd.R_F (Kd.R_mono (ok' := (fun k_ => some k_ ≠ (.slice Ao6 t520.length co6 : Value).ownBlock ∧ some k_ ≠ (.slice Ao23 t526.length co23 : Value).ownBlock)) (Kd.R_drewN (HO551.out) _) (fun k_ hk => ⟨hk.1.1.1.2, hk.1.1.2⟩))))) (Reps.one (show Kd.FK (Kd.slice 3 (Kd.int .i64)) _ _ t552 [.slice Ao48 t552.length co48] from (Kd.FK_slice_mk (Kd.R_reads' (Kd.R_mono (ok' := (fun k_ => some k_ ≠ (.slice Ao6 t520.length co6 : Value).ownBlock ∧ some k_ ≠ (.slice Ao23 t526.length co23 : Value).ownBlock)) (HO554.out) (fun k_ hk => ⟨hk.1.1.1.2, hk.1.1.2⟩))).2.1 (Kd.R_F (Kd.R_mono (ok' := (fun k_ => some k_ ≠ (.slice Ao6 t520.length co6 : Value).ownBlock ∧ some k_ ≠ (.slice Ao23 t526.length co23 : Value).ownBlock)) (Kd.R_drewN (HO554.out) _) (fun k_ hk => ⟨hk.1.1.1.2, hk.1.1.2⟩))))) (Reps.one (show Kd.FK (Kd.slice 3 (Kd.int .i64)) _ _ t555 [.slice Ao49 t555.length co49] from (Kd.FK_slice_mk (Kd.R_reads' (Kd.R_mono (ok' := (fun k_ => some k_ ≠ (.slice Ao6 t520.length co6 : Value).ownBlock ∧ some k_ ≠ (.slice Ao23 t526.length co23 : Value).ownBlock)) (HO557.out) (fun k_ hk => ⟨hk.1.1.1.2, hk.1.1.2⟩))).2.1 (Kd.R_F (Kd.R_mono (ok' := (fun k_ => some k_ ≠ (.slice Ao6 t520.length co6 : Value).ownBlock ∧ some k_ ≠ (.slice Ao23 t526.length co23 : Value).ownBlock)) (Kd.R_drewN (HO557.out) _) (fun k_ hk => ⟨hk.1.1.1.2, hk.1.1.2⟩))))) (Reps.none _ _)))))
                       intro v559 w50 ho51 hb hg_ hnew_
                       clear hg_ hnew_
                       (first | rw [← Ny558.out] at ho51 | (simp only [Int.reduceToNat] at ho51; rw [← Ny558.out] at ho51))
                       have n0_ := Aside0.mk (Kd.Q_below (by (with_reducible repeat (first | apply Kd.Q_alloc | apply Kd.Q_drewN | apply Kd.Q_drew)); exact HO_7.out) hb)
                       have n1_ := Aside0.mk (Kd.R_below (by (with_reducible repeat (first | apply Kd.R_alloc | apply Kd.R_drewN | apply Kd.R_drew)); exact HO_11.out) hb)
                       have n2_ := Aside0.mk (Kd.V_elder' (by (with_reducible repeat (first | apply Kd.V_alloc | apply Kd.V_drewN | apply Kd.V_drew)); exact HO_14.out) (Kd.N_base ho51) hb)
                       have n3_ := Aside0.mk (Kd.V_elder' (by (with_reducible repeat (first | apply Kd.V_alloc | apply Kd.V_drewN | apply Kd.V_drew)); exact HO_15.out) (Kd.N_base ho51) hb)
                       have n4_ := Aside0.mk (Kd.V_elder' (by (with_reducible repeat (first | apply Kd.V_alloc | apply Kd.V_drewN | apply Kd.V_drew)); exact HO_16.out) (Kd.N_base ho51) hb)
                       have n5_ := Aside0.mk (Kd.V_elder' (by (with_reducible repeat (first | apply Kd.V_alloc | apply Kd.V_drewN | apply Kd.V_drew)); exact HO548.out) (Kd.N_base ho51) hb)
                       have n6_ := Aside0.mk (Kd.N_lower ho51 (below_size (by repeat (first | (with_reducible first | exact HB.out | apply below_alloc | apply pw_below_drewN | apply below_drew1) | exact HB.out))))
                       have n7_ := Aside0.mk (below_step (by repeat (first | (with_reducible first | exact HB.out | apply below_alloc | apply pw_below_drewN | apply below_drew1) | exact HB.out)) hb)
                       clear HO_7
                       clear HO_11
                       clear HO_14
                       clear HO_15
                       clear HO_16
                       clear HO548
                       clear HB
                       clear HO551
                       clear HO554
                       clear HO557
                       have HO_7 := n0_
                       have HO_11 := n1_
                       have HO_14 := n2_
                       have HO_15 := n3_
                       have HO_16 := n4_
                       have HO548 := n5_
                       have HO560 := n6_
                       have HB := n7_
                       clear n0_ n1_ n2_ n3_ n4_ n5_ n6_ n7_
                       clear hb ho51
                       obtain ⟨Ao52, co52, eo52⟩ := Kd.N_slice HO560.out
                       (first | subst eo52 | (injection eo52 with f1_ f2_ f3_; have f4_ := f1_.symm; have f5_ := f3_.symm; clear f1_ f2_ f3_; subst f4_; subst f5_))
                       refine hK.out _ _ trivial (fun hHeld => ?_)
                       clear hK K
                       refine norm_ (a' := ?_) ?_ ?_
                       rotate_left
                       ·show Act.put _ (some 95) _ = _
                        simp only [Act.put, List.setIfInBounds_toArray, List.set_cons_zero, List.set_cons_succ, i64_w, i32_w]
                        rfl
                       refine one_ (i := 10) (N := some 96) #[true, true, true, true, true, true, true, true, true, true, true, false] rfl rfl (one_of HT_.out (by kernel_rfl)) (by decide) (fun K hK => ?_)
                       refine goes_ Try.func74 (by kernel_rfl) rfl #[.slice Ao52 y558.length co52] (by rfl) rfl rfl (by (try simp only [List.map_toArray, List.map_cons, List.map_nil]); first | done | rfl | (simp only [List.length_drop, List.length_take]; rfl)) ?_
                       with_reducible refine (slices_Concat_int_int.calls kj19 _ _ y558 t561 _ ?side1 ?side2 A36.out).mono ?_
                       (case side1 => repeat (first | exact (Kd.N_reads' HO560.out).2.2 | (with_reducible refine Kd.C_alloc ?_ _) | (with_reducible refine Kd.C_drewN ?_ _) | (with_reducible refine Kd.C_drew ?_)))
                       (case side2 => exact (Kd.N_reads' HO560.out).2.1)
                       rintro e w53 ⟨v562, rfl, ho0, hb⟩
                       refine ⟨_, rfl, ?_⟩
                       have n0_ := Aside0.mk (Kd.Q_elder' (by (with_reducible repeat (first | apply Kd.Q_alloc | apply Kd.Q_drewN | apply Kd.Q_drew)); exact HO_7.out) (Kd.R_base ho0) hb)
                       have n1_ := Aside0.mk (Kd.R_elder' (by (with_reducible repeat (first | apply Kd.R_alloc | apply Kd.R_drewN | apply Kd.R_drew)); exact HO_11.out) (Kd.R_base ho0) hb)
                       have n2_ := Aside0.mk (Kd.V_elder' (by (with_reducible repeat (first | apply Kd.V_alloc | apply Kd.V_drewN | apply Kd.V_drew)); exact HO_14.out) (Kd.R_base ho0) hb)
                       have n3_ := Aside0.mk (Kd.V_elder' (by (with_reducible repeat (first | apply Kd.V_alloc | apply Kd.V_drewN | apply Kd.V_drew)); exact HO_15.out) (Kd.R_base ho0) hb)
                       have n4_ := Aside0.mk (Kd.V_elder' (by (with_reducible repeat (first | apply Kd.V_alloc | apply Kd.V_drewN | apply Kd.V_drew)); exact HO_16.out) (Kd.R_base ho0) hb)
                       have n5_ := Aside0.mk (Kd.V_elder' (by (with_reducible repeat (first | apply Kd.V_alloc | apply Kd.V_drewN | apply Kd.V_drew)); exact HO548.out) (Kd.R_base ho0) hb)
                       have n6_ := Aside0.mk (Kd.N_elder' (by (with_reducible repeat (first | apply Kd.N_alloc | apply Kd.N_drewN | apply Kd.N_drew)); exact HO560.out) (Kd.R_base ho0) hb)
                       have n7_ := Aside0.mk (Kd.R_lower (Kd.R_new' (Kd.R_new' ho0 (Kd.Q_lt (by (with_reducible repeat (first | apply Kd.Q_alloc | apply Kd.Q_drewN | apply Kd.Q_drew)); exact HO_7.out))) (Kd.R_lt (by (with_reducible repeat (first | apply Kd.R_alloc | apply Kd.R_drewN | apply Kd.R_drew)); exact HO_11.out))) (below_size (by repeat (first | (with_reducible first | exact HB.out | apply below_alloc | apply pw_below_drewN | apply below_drew1) | exact HB.out))))
                       have n8_ := Aside0.mk (below_step (by repeat (first | (with_reducible first | exact HB.out | apply below_alloc | apply pw_below_drewN | apply below_drew1) | exact HB.out)) hb)
                       clear HO_7
                       clear HO_11
                       clear HO_14
                       clear HO_15
                       clear HO_16
                       clear HO548
                       clear HO560
                       clear HB
                       have HO_7 := n0_
                       have HO_11 := n1_
                       have HO_14 := n2_
                       have HO_15 := n3_
                       have HO_16 := n4_
                       have HO548 := n5_
                       have HO560 := n6_
                       have HO563 := n7_
                       have HB := n8_
                       clear n0_ n1_ n2_ n3_ n4_ n5_ n6_ n7_ n8_
                       (try clear hb)
                       (try clear hb2)
                       (try clear hk)
                       (try clear hi)
                       (try clear ho0)
                       obtain ⟨Ao54, co54, eo54⟩ := Kd.R_slice HO563.out
                       (first | subst eo54 | (injection eo54 with f1_ f2_ f3_; have f4_ := f1_.symm; have f5_ := f3_.symm; clear f1_ f2_ f3_; subst f4_; subst f5_))
                       refine hK.out _ _ trivial (fun hHeld => ?_)
                       clear hK K
                       refine norm_ (a' := ?_) ?_ ?_
                       rotate_left
                       ·show Act.put _ (some 96) _ = _
                        simp only [Act.put, List.setIfInBounds_toArray, List.set_cons_zero, List.set_cons_succ, i64_w, i32_w]
                        rfl
                       refine one_ (i := 11) (N := some 97) #[true, true, true, true, true, true, true, true, true, true, true, true] rfl rfl (one_of HT_.out (by kernel_rfl)) (by decide) (fun K hK => ?_)
                       refine goes_ Try.func73 (by kernel_rfl) rfl #[.slice A43 y544.length c43, .slice Ao54 t561.length co54] (by rfl) rfl rfl (by (try simp only [List.map_toArray, List.map_cons, List.map_nil]); first | done | rfl | (simp only [List.length_drop, List.length_take]; rfl)) ?_
                       with_reducible refine (slices_Equal_int_int.calls kj19 _ _ y544 _ _ t561 true _ ?side1 ?side2 ?side3 ?side4 A37.out).mono ?_
                       (case side1 => repeat (first | exact (Kd.V_reads' HO548.out).2.2 | (with_reducible refine Kd.C_alloc ?_ _) | (with_reducible refine Kd.C_drewN ?_ _) | (with_reducible refine Kd.C_drew ?_)))
                       (case side2 => exact (Kd.V_reads' HO548.out).2.1)
                       (case side3 => repeat (first | exact (Kd.R_reads' HO563.out).2.2 | (with_reducible refine Kd.C_alloc ?_ _) | (with_reducible refine Kd.C_drewN ?_ _) | (with_reducible refine Kd.C_drew ?_)))
                       (case side4 => exact (Kd.R_reads' HO563.out).2.1)
                       rintro e w' ⟨rfl, ⟨nd, rfl⟩⟩
                       refine ⟨_, rfl, ?_⟩
                       refine hK.out _ _ trivial (fun hHeld => ?_)
                       clear hK K
                       refine norm_ (a' := ?_) ?_ ?_
                       rotate_left
                       ·show Act.put _ (some 97) _ = _
                        simp only [Act.put, List.setIfInBounds_toArray, List.set_cons_zero, List.set_cons_succ, i64_w, i32_w]
                        rfl
                       refine done_ (done_of HT_.out (by kernel_rfl)) ?_
                       try go_wp2_with (first | ((with_reducible refine gate_callee (f := 76) rfl ?_); refine goesL_ (some 99) rfl rfl Try.func76 (by kernel_rfl) rfl #[.slice Ao23 y529.length co23] rfl (by (try simp only [List.map_toArray, List.map_cons, List.map_nil]); first | done | rfl | (simp only [List.length_drop, List.length_take]; rfl)) ?_; (with_reducible refine (slices_Clone_int_int.calls _ _ y529 t565 _ ?side1 ?side2 A39.out).mono ?_); (case side1 => repeat (first | exact (Kd.V_reads' HO_14.out).2.2 | (with_reducible refine Kd.C_alloc ?_ _) | (with_reducible refine Kd.C_drewN ?_ _) | (with_reducible refine Kd.C_drew ?_))); (case side2 => exact (Kd.V_reads' HO_14.out).2.1); rintro e w55 ⟨v566, rfl, ho0, hb⟩; refine ⟨_, rfl, ?_⟩; have n0_ := Aside0.mk (Kd.Q_elder' (by (with_reducible repeat (first | apply Kd.Q_alloc | apply Kd.Q_drewN | apply Kd.Q_drew)); exact HO_7.out) (Kd.R_base ho0) hb); have n1_ := Aside0.mk (Kd.R_elder' (by (with_reducible repeat (first | apply Kd.R_alloc | apply Kd.R_drewN | apply Kd.R_drew)); exact HO_11.out) (Kd.R_base ho0) hb); have n2_ := Aside0.mk (Kd.V_elder' (by (with_reducible repeat (first | apply Kd.V_alloc | apply Kd.V_drewN | apply Kd.V_drew)); exact HO_14.out) (Kd.R_base ho0) hb); have n3_ := Aside0.mk (Kd.V_elder' (by (with_reducible repeat (first | apply Kd.V_alloc | apply Kd.V_drewN | apply Kd.V_drew)); exact HO_15.out) (Kd.R_base ho0) hb); have n4_ := Aside0.mk (Kd.V_elder' (by (with_reducible repeat (first | apply Kd.V_alloc | apply Kd.V_drewN | apply Kd.V_drew)); exact HO_16.out) (Kd.R_base ho0) hb); have n5_ := Aside0.mk (Kd.V_elder' (by (with_reducible repeat (first | apply Kd.V_alloc | apply Kd.V_drewN | apply Kd.V_drew)); exact HO548.out) (Kd.R_base ho0) hb); have n6_ := Aside0.mk (Kd.N_elder' (by (with_reducible repeat (first | apply Kd.N_alloc | apply Kd.N_drewN | apply Kd.N_drew)); exact HO560.out) (Kd.R_base ho0) hb); have n7_ := Aside0.mk (Kd.R_elder' (by (with_reducible repeat (first | apply Kd.R_alloc | apply Kd.R_drewN | apply Kd.R_drew)); exact HO563.out) (Kd.R_base ho0) hb); have n8_ := Aside0.mk (Kd.R_lower (Kd.R_new' (Kd.R_new' (Kd.R_new' ho0 (Kd.Q_lt (by (with_reducible repeat (first | apply Kd.Q_alloc | apply Kd.Q_drewN | apply Kd.Q_drew)); exact HO_7.out))) (Kd.R_lt (by (with_reducible repeat (first | apply Kd.R_alloc | apply Kd.R_drewN | apply Kd.R_drew)); exact HO_11.out))) (Kd.R_lt (by (with_reducible repeat (first | apply Kd.R_alloc | apply Kd.R_drewN | apply Kd.R_drew)); exact HO563.out))) (below_size (by repeat (first | (with_reducible first | exact HB.out | apply below_alloc | apply pw_below_drewN | apply below_drew1) | exact HB.out)))); have n9_ := Aside0.mk (below_step (by repeat (first | (with_reducible first | exact HB.out | apply below_alloc | apply pw_below_drewN | apply below_drew1) | exact HB.out)) hb); clear HO_7; clear HO_11; clear HO_14; clear HO_15; clear HO_16; clear HO548; clear HO560; clear HO563; clear HB; have HO_7 := n0_; have HO_11 := n1_; have HO_14 := n2_; have HO_15 := n3_; have HO_16 := n4_; have HO548 := n5_; have HO560 := n6_; have HO563 := n7_; have HO567 := n8_; have HB := n9_; clear n0_ n1_ n2_ n3_ n4_ n5_ n6_ n7_ n8_ n9_; (try clear hb); (try clear hb2); (try clear hk); (try clear hi); (try clear ho0)) | ((with_reducible refine gate_callee (f := 76) rfl ?_); refine goesL_ (some 101) rfl rfl Try.func76 (by kernel_rfl) rfl #[.slice A24 y534.length c24] rfl (by (try simp only [List.map_toArray, List.map_cons, List.map_nil]); first | done | rfl | (simp only [List.length_drop, List.length_take]; rfl)) ?_; (with_reducible refine (slices_Clone_int_int.calls _ _ y534 t568 _ ?side1 ?side2 A40.out).mono ?_); (case side1 => repeat (first | exact (Kd.V_reads' HO_15.out).2.2 | (with_reducible refine Kd.C_alloc ?_ _) | (with_reducible refine Kd.C_drewN ?_ _) | (with_reducible refine Kd.C_drew ?_))); (case side2 => exact (Kd.V_reads' HO_15.out).2.1); rintro e w56 ⟨v569, rfl, ho0, hb⟩; refine ⟨_, rfl, ?_⟩; have n0_ := Aside0.mk (Kd.Q_elder' (by (with_reducible repeat (first | apply Kd.Q_alloc | apply Kd.Q_drewN | apply Kd.Q_drew)); exact HO_7.out) (Kd.R_base ho0) hb); have n1_ := Aside0.mk (Kd.R_elder' (by (with_reducible repeat (first | apply Kd.R_alloc | apply Kd.R_drewN | apply Kd.R_drew)); exact HO_11.out) (Kd.R_base ho0) hb); have n2_ := Aside0.mk (Kd.V_elder' (by (with_reducible repeat (first | apply Kd.V_alloc | apply Kd.V_drewN | apply Kd.V_drew)); exact HO_14.out) (Kd.R_base ho0) hb); have n3_ := Aside0.mk (Kd.V_elder' (by (with_reducible repeat (first | apply Kd.V_alloc | apply Kd.V_drewN | apply Kd.V_drew)); exact HO_15.out) (Kd.R_base ho0) hb); have n4_ := Aside0.mk (Kd.V_elder' (by (with_reducible repeat (first | apply Kd.V_alloc | apply Kd.V_drewN | apply Kd.V_drew)); exact HO_16.out) (Kd.R_base ho0) hb); have n5_ := Aside0.mk (Kd.V_elder' (by (with_reducible repeat (first | apply Kd.V_alloc | apply Kd.V_drewN | apply Kd.V_drew)); exact HO548.out) (Kd.R_base ho0) hb); have n6_ := Aside0.mk (Kd.N_elder' (by (with_reducible repeat (first | apply Kd.N_alloc | apply Kd.N_drewN | apply Kd.N_drew)); exact HO560.out) (Kd.R_base ho0) hb); have n7_ := Aside0.mk (Kd.R_elder' (by (with_reducible repeat (first | apply Kd.R_alloc | apply Kd.R_drewN | apply Kd.R_drew)); exact HO563.out) (Kd.R_base ho0) hb); have n8_ := Aside0.mk (Kd.R_elder' (by (with_reducible repeat (first | apply Kd.R_alloc | apply Kd.R_drewN | apply Kd.R_drew)); exact HO567.out) (Kd.R_base ho0) hb); have n9_ := Aside0.mk (Kd.R_lower (Kd.R_new' (Kd.R_new' (Kd.R_new' (Kd.R_new' ho0 (Kd.Q_lt (by (with_reducible repeat (first | apply Kd.Q_alloc | apply Kd.Q_drewN | apply Kd.Q_drew)); exact HO_7.out))) (Kd.R_lt (by (with_reducible repeat (first | apply Kd.R_alloc | apply Kd.R_drewN | apply Kd.R_drew)); exact HO_11.out))) (Kd.R_lt (by (with_reducible repeat (first | apply Kd.R_alloc | apply Kd.R_drewN | apply Kd.R_drew)); exact HO563.out))) (Kd.R_lt (by (with_reducible repeat (first | apply Kd.R_alloc | apply Kd.R_drewN | apply Kd.R_drew)); exact HO567.out))) (below_size (by repeat (first | (with_reducible first | exact HB.out | apply below_alloc | apply pw_below_drewN | apply below_drew1) | exact HB.out)))); have n10_ := Aside0.mk (below_step (by repeat (first | (with_reducible first | exact HB.out | apply below_alloc | apply pw_below_drewN | apply below_drew1) | exact HB.out)) hb); clear HO_7; clear HO_11; clear HO_14; clear HO_15; clear HO_16; clear HO548; clear HO560; clear HO563; clear HO567; clear HB; have HO_7 := n0_; have HO_11 := n1_; have HO_14 := n2_; have HO_15 := n3_; have HO_16 := n4_; have HO548 := n5_; have HO560 := n6_; have HO563 := n7_; have HO567 := n8_; have HO570 := n9_; have HB := n10_; clear n0_ n1_ n2_ n3_ n4_ n5_ n6_ n7_ n8_ n9_ n10_; (try clear hb); (try clear hb2); (try clear hk); (try clear hi); (try clear ho0)) | ((with_reducible refine gate_callee (f := 76) rfl ?_); refine goesL_ (some 103) rfl rfl Try.func76 (by kernel_rfl) rfl #[.slice A25 y539.length c25] rfl (by (try simp only [List.map_toArray, List.map_cons, List.map_nil]); first | done | rfl | (simp only [List.length_drop, List.length_take]; rfl)) ?_; (with_reducible refine (slices_Clone_int_int.calls _ _ y539 t571 _ ?side1 ?side2 A41.out).mono ?_); (case side1 => repeat (first | exact (Kd.V_reads' HO_16.out).2.2 | (with_reducible refine Kd.C_alloc ?_ _) | (with_reducible refine Kd.C_drewN ?_ _) | (with_reducible refine Kd.C_drew ?_))); (case side2 => exact (Kd.V_reads' HO_16.out).2.1); rintro e w57 ⟨v572, rfl, ho0, hb⟩; refine ⟨_, rfl, ?_⟩; have n0_ := Aside0.mk (Kd.Q_elder' (by (with_reducible repeat (first | apply Kd.Q_alloc | apply Kd.Q_drewN | apply Kd.Q_drew)); exact HO_7.out) (Kd.R_base ho0) hb); have n1_ := Aside0.mk (Kd.R_elder' (by (with_reducible repeat (first | apply Kd.R_alloc | apply Kd.R_drewN | apply Kd.R_drew)); exact HO_11.out) (Kd.R_base ho0) hb); have n2_ := Aside0.mk (Kd.V_elder' (by (with_reducible repeat (first | apply Kd.V_alloc | apply Kd.V_drewN | apply Kd.V_drew)); exact HO_14.out) (Kd.R_base ho0) hb); have n3_ := Aside0.mk (Kd.V_elder' (by (with_reducible repeat (first | apply Kd.V_alloc | apply Kd.V_drewN | apply Kd.V_drew)); exact HO_15.out) (Kd.R_base ho0) hb); have n4_ := Aside0.mk (Kd.V_elder' (by (with_reducible repeat (first | apply Kd.V_alloc | apply Kd.V_drewN | apply Kd.V_drew)); exact HO_16.out) (Kd.R_base ho0) hb); have n5_ := Aside0.mk (Kd.V_elder' (by (with_reducible repeat (first | apply Kd.V_alloc | apply Kd.V_drewN | apply Kd.V_drew)); exact HO548.out) (Kd.R_base ho0) hb); have n6_ := Aside0.mk (Kd.N_elder' (by (with_reducible repeat (first | apply Kd.N_alloc | apply Kd.N_drewN | apply Kd.N_drew)); exact HO560.out) (Kd.R_base ho0) hb); have n7_ := Aside0.mk (Kd.R_elder' (by (with_reducible repeat (first | apply Kd.R_alloc | apply Kd.R_drewN | apply Kd.R_drew)); exact HO563.out) (Kd.R_base ho0) hb); have n8_ := Aside0.mk (Kd.R_elder' (by (with_reducible repeat (first | apply Kd.R_alloc | apply Kd.R_drewN | apply Kd.R_drew)); exact HO567.out) (Kd.R_base ho0) hb); have n9_ := Aside0.mk (Kd.R_elder' (by (with_reducible repeat (first | apply Kd.R_alloc | apply Kd.R_drewN | apply Kd.R_drew)); exact HO570.out) (Kd.R_base ho0) hb); have n10_ := Aside0.mk (Kd.R_lower (Kd.R_new' (Kd.R_new' (Kd.R_new' (Kd.R_new' (Kd.R_new' ho0 (Kd.Q_lt (by (with_reducible repeat (first | apply Kd.Q_alloc | apply Kd.Q_drewN | apply Kd.Q_drew)); exact HO_7.out))) (Kd.R_lt (by (with_reducible repeat (first | apply Kd.R_alloc | apply Kd.R_drewN | apply Kd.R_drew)); exact HO_11.out))) (Kd.R_lt (by (with_reducible repeat (first | apply Kd.R_alloc | apply Kd.R_drewN | apply Kd.R_drew)); exact HO563.out))) (Kd.R_lt (by (with_reducible repeat (first | apply Kd.R_alloc | apply Kd.R_drewN | apply Kd.R_drew)); exact HO567.out))) (Kd.R_lt (by (with_reducible repeat (first | apply Kd.R_alloc | apply Kd.R_drewN | apply Kd.R_drew)); exact HO570.out))) (below_size (by repeat (first | (with_reducible first | exact HB.out | apply below_alloc | apply pw_below_drewN | apply below_drew1) | exact HB.out)))); have n11_ := Aside0.mk (below_step (by repeat (first | (with_reducible first | exact HB.out | apply below_alloc | apply pw_below_drewN | apply below_drew1) | exact HB.out)) hb); clear HO_7; clear HO_11; clear HO_14; clear HO_15; clear HO_16; clear HO548; clear HO560; clear HO563; clear HO567; clear HO570; clear HB; have HO_7 := n0_; have HO_11 := n1_; have HO_14 := n2_; have HO_15 := n3_; have HO_16 := n4_; have HO548 := n5_; have HO560 := n6_; have HO563 := n7_; have HO567 := n8_; have HO570 := n9_; have HO573 := n10_; have HB := n11_; clear n0_ n1_ n2_ n3_ n4_ n5_ n6_ n7_ n8_ n9_ n10_ n11_; (try clear hb); (try clear hb2); (try clear hk); (try clear hi); (try clear ho0)))
                       refine bodyPost_ret (results_list (rs := [.tmp 2, .tmp 3, .tmp 4, .tmp 5, .tmp 6]) rfl (by simp) (.tmp (.tmp (.tmp (.tmp (.tmp .nil)))))) rfl ?_
                       exact ⟨_, _, _, by first | rfl | (simp [errW_none, errW_some] <;> rfl) | (simp [*, errW_none, errW_some] <;> rfl), by (with_reducible repeat (first | apply Kd.R_alloc | apply Kd.R_drewN | apply Kd.R_drew)); exact Kd.R_mono HO567.out (fun _ hk => ⟨hk.1.2, hk.2⟩), by (with_reducible repeat (first | apply Kd.R_alloc | apply Kd.R_drewN | apply Kd.R_drew)); exact Kd.R_mono HO570.out (fun _ hk => ⟨hk.1.2, hk.2⟩), by (with_reducible repeat (first | apply Kd.R_alloc | apply Kd.R_drewN | apply Kd.R_drew)); exact Kd.R_mono HO573.out (fun _ hk => ⟨hk.1.2, hk.2⟩), by repeat (first | (with_reducible first | exact HB.out | apply below_alloc | apply pw_below_drewN | apply below_drew1) | exact HB.out)⟩
                      ·replace c38 := Bool.eq_false_iff.mpr c38
                       subst c38
                       have H1 : (impl_WicksParts.l2 kj19 t520 (wrap64 ((t520.length : Int) / 2)) x31_1 t526 x12_2 (wrap64 (x13_3 + 1)) (t520.length : Int) x31_1) = some (r1, r2, r3, r4, r5) := by rw [if_neg (show ¬ (false = true) by decide)] at H; exact H
                       clear H
                       have H := H1
                       clear H1
                       have H' := Aside0.mk H
                       clear H
                       try go_wp2
                       have n0_ := Aside0.mk (Kd.Q_drew HO_7.out)
                       have n1_ := Aside0.mk (Kd.R_drew HO_11.out)
                       have n2_ := Aside0.mk (Kd.V_drew HO_14.out)
                       have n3_ := Aside0.mk (Kd.V_drew HO_15.out)
                       have n4_ := Aside0.mk (Kd.V_drew HO_16.out)
                       have n5_ := Aside0.mk (below_drew1 HB.out)
                       clear HO_7
                       clear HO_11
                       clear HO_14
                       clear HO_15
                       clear HO_16
                       clear HB
                       have HO_7 := n0_
                       have HO_11 := n1_
                       have HO_14 := n2_
                       have HO_15 := n3_
                       have HO_16 := n4_
                       have HB := n5_
                       clear n0_ n1_ n2_ n3_ n4_ n5_
                       have q59 : ((wrap64 ((t520.length : Int) / 2)) : Int) ≤ ((t526.length : Int) : Int) := of_decide_eq_true (by first | (with_reducible assumption) | assumption)
                       obtain ⟨i059, hi059, _, hsz59, _⟩ := info_parts info3
                       have hroom59 : t526.length ≤ co23 := (Kd.R_reads' HO_11.out).2.1
                       have hC59 : Kd.F (Kd.int .i64) _ _ Ao23 t526.length t526 := (Kd.V_at (base := w.heap.size) (Kd.R_V HO_11.out)).2.2
                       have q059 : (0 : Int) ≤ ((wrap64 ((t520.length : Int) / 2)) : Int) := of_decide_eq_true (by first | (with_reducible assumption) | assumption)
                       have hcut59 := cut_from (P := Try.prog) 25 3 .i64 Try.underlying25 hi059 1 hsz59 Ao23 t526.length co23 (wrap64 ((t520.length : Int) / 2)) q059 q59
                       have hr59 := Kd.F_cut (m := ((wrap64 ((t520.length : Int) / 2)) : Int).toNat) (c := co23) hC59 (by first | exact Int.toNat_le.mpr q59 | omega) hroom59
                       obtain ⟨A59, hA59⟩ : ∃ A1, A1 = (if co23 = ((wrap64 ((t520.length : Int) / 2)) : Int).toNat then Ao23 else (Ao23 : Option Addr).map (·.add (((wrap64 ((t520.length : Int) / 2)) : Int).toNat * 1))) := ⟨_, rfl⟩
                       obtain ⟨c59, hc59⟩ : ∃ c1, c1 = co23 - ((wrap64 ((t520.length : Int) / 2)) : Int).toNat := ⟨_, rfl⟩
                       have hy59 : y544.length = t526.length - ((wrap64 ((t520.length : Int) / 2)) : Int).toNat := (by first | (rw [Ny544.out]; exact List.length_drop) | (rw [Ny544.out, List.length_drop] <;> omega))
                       rw [show (t526).drop ((wrap64 ((t520.length : Int) / 2)) : Int).toNat = y544 from Ny544.out.symm] at hr59
                       replace hr59 : Kd.F (Kd.int .i64) _ _ A59 y544.length y544 := (by rw [hA59]; exact hr59)
                       rw [← hy59, ← hA59, ← hc59] at hcut59
                       have HO548 := Aside0.mk (show Kd.V (Kd.int .i64) 3 _ w.heap.size _ (.slice A59 y544.length c59) y544 from Kd.V_mk (by rw [hy59, hc59]; exact Nat.sub_le_sub_right hroom59 _) hr59)
                       have HC548 := Aside0.mk (show y544.length ≤ c59 from by rw [hy59, hc59]; exact Nat.sub_le_sub_right hroom59 _)
                       clear hr59 hC59 hroom59 hi059 hsz59 hc59
                       have KY59 := Aside0.mk hy59
                       have KA59 := Aside0.mk hA59
                       clear hy59 hA59
                       replace q59 := eq_true q59
                       refine start_ (n := 12) (S := fun w' => True) (ds := []) #[false, false, false, false, false, false, false, false, false, false, false, false] (by kernel_rfl) rfl rfl trivial (fun hHeld => ?_); refine with_tabW impl_WicksParts.tab18 impl_WicksParts.bits18 (fun HT_ HW_ => ?_)
                       generalize wc.drew = w58 at HO_7 HO_11 HO_14 HO_15 HO_16 HB HO548 hHeld ⊢
                       refine pure_ (i := 0) (N := some 86) (v := ?_) (a' := ?_) #[true, false, false, false, false, false, false, false, false, false, false, false] rfl rfl (any_of HT_.out (by kernel_rfl)) (fun _ _ _ h => h) (Or.inl ⟨by rfl, ?_⟩) ?_ ?_
                       rotate_left
                       ·intro w'
                        go_simp
                        with_reducible rfl
                       rotate_left
                       ·simp only [Act.put, List.setIfInBounds_toArray, List.set_cons_zero, List.set_cons_succ, i64_w, i32_w]
                        rfl
                       refine pure_ (i := 1) (N := some 87) (v := ?_) (a' := ?_) #[true, true, false, false, false, false, false, false, false, false, false, false] rfl rfl (any_of HT_.out (by kernel_rfl)) (fun _ _ _ h => h) (Or.inl ⟨by rfl, ?_⟩) ?_ ?_
                       rotate_left
                       ·intro w'
                        go_simp
                        with_reducible rfl
                       rotate_left
                       ·simp only [Act.put, List.setIfInBounds_toArray, List.set_cons_zero, List.set_cons_succ, i64_w, i32_w]
                        rfl
                       refine pure_ (i := 2) (N := some 88) (v := ?_) (a' := ?_) #[true, true, true, false, false, false, false, false, false, false, false, false] rfl rfl (any_of HT_.out (by kernel_rfl)) (fun _ _ _ h => h) (Or.inl ⟨by rfl, ?_⟩) ?_ ?_
                       rotate_left
                       ·intro w'
                        go_simp
                        with_reducible rfl
                       rotate_left
                       ·simp only [Act.put, List.setIfInBounds_toArray, List.set_cons_zero, List.set_cons_succ, i64_w, i32_w]
                        rfl
                       refine pure_ (i := 3) (N := some 89) (v := ?_) (a' := ?_) #[true, true, true, true, false, false, false, false, false, false, false, false] rfl rfl (any_of HT_.out (by kernel_rfl)) (fun _ _ _ h => h) (Or.inl ⟨by rfl, ?_⟩) ?_ ?_
                       rotate_left
                       ·intro w'
                        go_simp
                        with_reducible rfl
                       rotate_left
                       ·simp only [Act.put, List.setIfInBounds_toArray, List.set_cons_zero, List.set_cons_succ, i64_w, i32_w]
                        rfl
                       refine pure_ (i := 5) (N := some 91) (v := ?_) (a' := ?_) #[true, true, true, true, false, true, false, false, false, false, false, false] rfl rfl (any_of HT_.out (by kernel_rfl)) (fun _ _ _ h => h) (Or.inl ⟨by rfl, ?_⟩) ?_ ?_
                       rotate_left
                       ·intro w'
                        go_simp
                        with_reducible rfl
                       rotate_left
                       ·simp only [Act.put, List.setIfInBounds_toArray, List.set_cons_zero, List.set_cons_succ, i64_w, i32_w]
                        rfl
                       refine pure_ (i := 7) (N := some 93) (v := ?_) (a' := ?_) #[true, true, true, true, false, true, false, true, false, false, false, false] rfl rfl (any_of HT_.out (by kernel_rfl)) (fun _ _ _ h => h) (Or.inl ⟨by rfl, ?_⟩) ?_ ?_
                       rotate_left
                       ·intro w'
                        go_simp
                        with_reducible rfl
                       rotate_left
                       ·simp only [Act.put, List.setIfInBounds_toArray, List.set_cons_zero, List.set_cons_succ, i64_w, i32_w]
                        rfl
                       refine one_ (i := 4) (N := some 90) #[true, true, true, true, true, true, false, true, false, false, false, false] rfl rfl (one_of HT_.out (by kernel_rfl)) (by decide) (fun K hK => ?_)
                       refine goes_ Try.func75 (by kernel_rfl) rfl #[.slice Ao23 y529.length co23] (by rfl) rfl rfl (by (try simp only [List.map_toArray, List.map_cons, List.map_nil]); first | done | rfl | (simp only [List.length_drop, List.length_take]; rfl)) ?_
                       with_reducible refine (impl_inverse.calls _ _ y529 t549 _ ?side1 ?side2 A33.out).mono ?_
                       (case side1 => repeat (first | exact (Kd.V_reads' HO_14.out).2.2 | (with_reducible refine Kd.C_alloc ?_ _) | (with_reducible refine Kd.C_drewN ?_ _) | (with_reducible refine Kd.C_drew ?_)))
                       (case side2 => exact (Kd.V_reads' HO_14.out).2.1)
                       rintro e w60 ⟨v550, rfl, ho0, hb⟩
                       refine ⟨_, rfl, ?_⟩
                       have n0_ := Aside0.mk (Kd.Q_elder' (by (with_reducible repeat (first | apply Kd.Q_alloc | apply Kd.Q_drewN | apply Kd.Q_drew)); exact HO_7.out) (Kd.R_base ho0) hb)
                       have n1_ := Aside0.mk (Kd.R_elder' (by (with_reducible repeat (first | apply Kd.R_alloc | apply Kd.R_drewN | apply Kd.R_drew)); exact HO_11.out) (Kd.R_base ho0) hb)
                       have n2_ := Aside0.mk (Kd.V_elder' (by (with_reducible repeat (first | apply Kd.V_alloc | apply Kd.V_drewN | apply Kd.V_drew)); exact HO_14.out) (Kd.R_base ho0) hb)
                       have n3_ := Aside0.mk (Kd.V_elder' (by (with_reducible repeat (first | apply Kd.V_alloc | apply Kd.V_drewN | apply Kd.V_drew)); exact HO_15.out) (Kd.R_base ho0) hb)
                       have n4_ := Aside0.mk (Kd.V_elder' (by (with_reducible repeat (first | apply Kd.V_alloc | apply Kd.V_drewN | apply Kd.V_drew)); exact HO_16.out) (Kd.R_base ho0) hb)
                       have n5_ := Aside0.mk (Kd.V_elder' (by (with_reducible repeat (first | apply Kd.V_alloc | apply Kd.V_drewN | apply Kd.V_drew)); exact HO548.out) (Kd.R_base ho0) hb)
                       have n6_ := Aside0.mk (Kd.R_lower (Kd.R_new' (Kd.R_new' ho0 (Kd.Q_lt (by (with_reducible repeat (first | apply Kd.Q_alloc | apply Kd.Q_drewN | apply Kd.Q_drew)); exact HO_7.out))) (Kd.R_lt (by (with_reducible repeat (first | apply Kd.R_alloc | apply Kd.R_drewN | apply Kd.R_drew)); exact HO_11.out))) (below_size (by repeat (first | (with_reducible first | exact HB.out | apply below_alloc | apply pw_below_drewN | apply below_drew1) | exact HB.out))))
                       have n7_ := Aside0.mk (below_step (by repeat (first | (with_reducible first | exact HB.out | apply below_alloc | apply pw_below_drewN | apply below_drew1) | exact HB.out)) hb)
                       clear HO_7
                       clear HO_11
                       clear HO_14
                       clear HO_15
                       clear HO_16
                       clear HO548
                       clear HB
                       have HO_7 := n0_
                       have HO_11 := n1_
                       have HO_14 := n2_
                       have HO_15 := n3_
                       have HO_16 := n4_
                       have HO548 := n5_
                       have HO551 := n6_
                       have HB := n7_
                       clear n0_ n1_ n2_ n3_ n4_ n5_ n6_ n7_
                       (try clear hb)
                       (try clear hb2)
                       (try clear hk)
                       (try clear hi)
                       (try clear ho0)
                       refine hK.out _ _ trivial (fun hHeld => ?_)
                       clear hK K
                       refine norm_ (a' := ?_) ?_ ?_
                       rotate_left
                       ·show Act.put _ (some 90) _ = _
                        simp only [Act.put, List.setIfInBounds_toArray, List.set_cons_zero, List.set_cons_succ, i64_w, i32_w]
                        rfl
                       refine one_ (i := 6) (N := some 92) #[true, true, true, true, true, true, true, true, false, false, false, false] rfl rfl (one_of HT_.out (by kernel_rfl)) (by decide) (fun K hK => ?_)
                       refine goes_ Try.func75 (by kernel_rfl) rfl #[.slice A24 y534.length c24] (by rfl) rfl rfl (by (try simp only [List.map_toArray, List.map_cons, List.map_nil]); first | done | rfl | (simp only [List.length_drop, List.length_take]; rfl)) ?_
                       with_reducible refine (impl_inverse.calls _ _ y534 t552 _ ?side1 ?side2 A34.out).mono ?_
                       (case side1 => repeat (first | exact (Kd.V_reads' HO_15.out).2.2 | (with_reducible refine Kd.C_alloc ?_ _) | (with_reducible refine Kd.C_drewN ?_ _) | (with_reducible refine Kd.C_drew ?_)))
                       (case side2 => exact (Kd.V_reads' HO_15.out).2.1)
                       rintro e w61 ⟨v553, rfl, ho0, hb⟩
                       refine ⟨_, rfl, ?_⟩
                       have n0_ := Aside0.mk (Kd.Q_elder' (by (with_reducible repeat (first | apply Kd.Q_alloc | apply Kd.Q_drewN | apply Kd.Q_drew)); exact HO_7.out) (Kd.R_base ho0) hb)
                       have n1_ := Aside0.mk (Kd.R_elder' (by (with_reducible repeat (first | apply Kd.R_alloc | apply Kd.R_drewN | apply Kd.R_drew)); exact HO_11.out) (Kd.R_base ho0) hb)
                       have n2_ := Aside0.mk (Kd.V_elder' (by (with_reducible repeat (first | apply Kd.V_alloc | apply Kd.V_drewN | apply Kd.V_drew)); exact HO_14.out) (Kd.R_base ho0) hb)
                       have n3_ := Aside0.mk (Kd.V_elder' (by (with_reducible repeat (first | apply Kd.V_alloc | apply Kd.V_drewN | apply Kd.V_drew)); exact HO_15.out) (Kd.R_base ho0) hb)
                       have n4_ := Aside0.mk (Kd.V_elder' (by (with_reducible repeat (first | apply Kd.V_alloc | apply Kd.V_drewN | apply Kd.V_drew)); exact HO_16.out) (Kd.R_base ho0) hb)
                       have n5_ := Aside0.mk (Kd.V_elder' (by (with_reducible repeat (first | apply Kd.V_alloc | apply Kd.V_drewN | apply Kd.V_drew)); exact HO548.out) (Kd.R_base ho0) hb)
                       have n6_ := Aside0.mk (Kd.R_elder' (by (with_reducible repeat (first | apply Kd.R_alloc | apply Kd.R_drewN | apply Kd.R_drew)); exact HO551.out) (Kd.R_base ho0) hb)
                       have n7_ := Aside0.mk (Kd.R_lower (Kd.R_new' (Kd.R_new' (Kd.R_new' ho0 (Kd.Q_lt (by (with_reducible repeat (first | apply Kd.Q_alloc | apply Kd.Q_drewN | apply Kd.Q_drew)); exact HO_7.out))) (Kd.R_lt (by (with_reducible repeat (first | apply Kd.R_alloc | apply Kd.R_drewN | apply Kd.R_drew)); exact HO_11.out))) (Kd.R_lt (by (with_reducible repeat (first | apply Kd.R_alloc | apply Kd.R_drewN | apply Kd.R_drew)); exact HO551.out))) (below_size (by repeat (first | (with_reducible first | exact HB.out | apply below_alloc | apply pw_below_drewN | apply below_drew1) | exact HB.out))))
                       have n8_ := Aside0.mk (below_step (by repeat (first | (with_reducible first | exact HB.out | apply below_alloc | apply pw_below_drewN | apply below_drew1) | exact HB.out)) hb)
                       clear HO_7
                       clear HO_11
                       clear HO_14
                       clear HO_15
                       clear HO_16
                       clear HO548
                       clear HO551
                       clear HB
                       have HO_7 := n0_
                       have HO_11 := n1_
                       have HO_14 := n2_
                       have HO_15 := n3_
                       have HO_16 := n4_
                       have HO548 := n5_
                       have HO551 := n6_
                       have HO554 := n7_
                       have HB := n8_
                       clear n0_ n1_ n2_ n3_ n4_ n5_ n6_ n7_ n8_
                       (try clear hb)
                       (try clear hb2)
                       (try clear hk)
                       (try clear hi)
                       (try clear ho0)
                       refine hK.out _ _ trivial (fun hHeld => ?_)
                       clear hK K
                       refine norm_ (a' := ?_) ?_ ?_
                       rotate_left
                       ·show Act.put _ (some 92) _ = _
                        simp only [Act.put, List.setIfInBounds_toArray, List.set_cons_zero, List.set_cons_succ, i64_w, i32_w]
                        rfl
                       refine one_ (i := 8) (N := some 94) #[true, true, true, true, true, true, true, true, true, false, false, false] rfl rfl (one_of HT_.out (by kernel_rfl)) (by decide) (fun K hK => ?_)
                       refine goes_ Try.func75 (by kernel_rfl) rfl #[.slice A25 y539.length c25] (by rfl) rfl rfl (by (try simp only [List.map_toArray, List.map_cons, List.map_nil]); first | done | rfl | (simp only [List.length_drop, List.length_take]; rfl)) ?_
                       with_reducible refine (impl_inverse.calls _ _ y539 t555 _ ?side1 ?side2 A35.out).mono ?_
                       (case side1 => repeat (first | exact (Kd.V_reads' HO_16.out).2.2 | (with_reducible refine Kd.C_alloc ?_ _) | (with_reducible refine Kd.C_drewN ?_ _) | (with_reducible refine Kd.C_drew ?_)))
                       (case side2 => exact (Kd.V_reads' HO_16.out).2.1)
                       rintro e w62 ⟨v556, rfl, ho0, hb⟩
                       refine ⟨_, rfl, ?_⟩
                       have n0_ := Aside0.mk (Kd.Q_elder' (by (with_reducible repeat (first | apply Kd.Q_alloc | apply Kd.Q_drewN | apply Kd.Q_drew)); exact HO_7.out) (Kd.R_base ho0) hb)
                       have n1_ := Aside0.mk (Kd.R_elder' (by (with_reducible repeat (first | apply Kd.R_alloc | apply Kd.R_drewN | apply Kd.R_drew)); exact HO_11.out) (Kd.R_base ho0) hb)
                       have n2_ := Aside0.mk (Kd.V_elder' (by (with_reducible repeat (first | apply Kd.V_alloc | apply Kd.V_drewN | apply Kd.V_drew)); exact HO_14.out) (Kd.R_base ho0) hb)
                       have n3_ := Aside0.mk (Kd.V_elder' (by (with_reducible repeat (first | apply Kd.V_alloc | apply Kd.V_drewN | apply Kd.V_drew)); exact HO_15.out) (Kd.R_base ho0) hb)
                       have n4_ := Aside0.mk (Kd.V_elder' (by (with_reducible repeat (first | apply Kd.V_alloc | apply Kd.V_drewN | apply Kd.V_drew)); exact HO_16.out) (Kd.R_base ho0) hb)
                       have n5_ := Aside0.mk (Kd.V_elder' (by (with_reducible repeat (first | apply Kd.V_alloc | apply Kd.V_drewN | apply Kd.V_drew)); exact HO548.out) (Kd.R_base ho0) hb)
                       have n6_ := Aside0.mk (Kd.R_elder' (by (with_reducible repeat (first | apply Kd.R_alloc | apply Kd.R_drewN | apply Kd.R_drew)); exact HO551.out) (Kd.R_base ho0) hb)
                       have n7_ := Aside0.mk (Kd.R_elder' (by (with_reducible repeat (first | apply Kd.R_alloc | apply Kd.R_drewN | apply Kd.R_drew)); exact HO554.out) (Kd.R_base ho0) hb)
                       have n8_ := Aside0.mk (Kd.R_lower (Kd.R_new' (Kd.R_new' (Kd.R_new' (Kd.R_new' ho0 (Kd.Q_lt (by (with_reducible repeat (first | apply Kd.Q_alloc | apply Kd.Q_drewN | apply Kd.Q_drew)); exact HO_7.out))) (Kd.R_lt (by (with_reducible repeat (first | apply Kd.R_alloc | apply Kd.R_drewN | apply Kd.R_drew)); exact HO_11.out))) (Kd.R_lt (by (with_reducible repeat (first | apply Kd.R_alloc | apply Kd.R_drewN | apply Kd.R_drew)); exact HO551.out))) (Kd.R_lt (by (with_reducible repeat (first | apply Kd.R_alloc | apply Kd.R_drewN | apply Kd.R_drew)); exact HO554.out))) (below_size (by repeat (first | (with_reducible first | exact HB.out | apply below_alloc | apply pw_below_drewN | apply below_drew1) | exact HB.out))))
                       have n9_ := Aside0.mk (below_step (by repeat (first | (with_reducible first | exact HB.out | apply below_alloc | apply pw_below_drewN | apply below_drew1) | exact HB.out)) hb)
                       clear HO_7
                       clear HO_11
                       clear HO_14
                       clear HO_15
                       clear HO_16
                       clear HO548
                       clear HO551
                       clear HO554
                       clear HB
                       have HO_7 := n0_
                       have HO_11 := n1_
                       have HO_14 := n2_
                       have HO_15 := n3_
                       have HO_16 := n4_
                       have HO548 := n5_
                       have HO551 := n6_
                       have HO554 := n7_
                       have HO557 := n8_
                       have HB := n9_
                       clear n0_ n1_ n2_ n3_ n4_ n5_ n6_ n7_ n8_ n9_
                       (try clear hb)
                       (try clear hb2)
                       (try clear hk)
                       (try clear hi)
                       (try clear ho0)
                       obtain ⟨Ao63, co63, eo63⟩ := Kd.R_slice HO551.out
                       (first | subst eo63 | (injection eo63 with f1_ f2_ f3_; have f4_ := f1_.symm; have f5_ := f3_.symm; clear f1_ f2_ f3_; subst f4_; subst f5_))
                       obtain ⟨Ao64, co64, eo64⟩ := Kd.R_slice HO554.out
                       (first | subst eo64 | (injection eo64 with f1_ f2_ f3_; have f4_ := f1_.symm; have f5_ := f3_.symm; clear f1_ f2_ f3_; subst f4_; subst f5_))
                       obtain ⟨Ao65, co65, eo65⟩ := Kd.R_slice HO557.out
                       (first | subst eo65 | (injection eo65 with f1_ f2_ f3_; have f4_ := f1_.symm; have f5_ := f3_.symm; clear f1_ f2_ f3_; subst f4_; subst f5_))
                       refine hK.out _ _ trivial (fun hHeld => ?_)
                       clear hK K
                       refine norm_ (a' := ?_) ?_ ?_
                       rotate_left
                       ·show Act.put _ (some 94) _ = _
                        simp only [Act.put, List.setIfInBounds_toArray, List.set_cons_zero, List.set_cons_succ, i64_w, i32_w]
                        rfl
                       refine one_ (i := 9) (N := some 95) #[true, true, true, true, true, true, true, true, true, true, false, false] rfl rfl (one_of HT_.out (by kernel_rfl)) (by decide) (fun K hK => ?_)
                       refine Kd.N_lit_step (Kd.slice 3 (Kd.int .i64)) _ 25 ?hg (N' := 95) ?hd (xs := ([t549, t552, t555] : List (List Int))) (inner := [.slice Ao63 t549.length co63, .slice Ao64 t552.length co64, .slice Ao65 t555.length co65]) (ok := (fun k_ => some k_ ≠ (.slice Ao6 t520.length co6 : Value).ownBlock ∧ some k_ ≠ (.slice Ao23 t526.length co23 : Value).ownBlock)) (okp := (fun k_ => some k_ ≠ (.slice Ao6 t520.length co6 : Value).ownBlock ∧ some k_ ≠ (.slice Ao23 t526.length co23 : Value).ownBlock)) ?hr ?hp (fun _ hk => hk) ((show ∀ k_, w62.heap.size ≤ k_ → (fun k_ => some k_ ≠ (.slice Ao6 t520.length co6 : Value).ownBlock ∧ some k_ ≠ (.slice Ao23 t526.length co23 : Value).ownBlock) k_ from fun k_ hk => ⟨Kd.fresh' (Kd.Q_lt (by (with_reducible repeat (first | apply Kd.Q_alloc | apply Kd.Q_drewN | apply Kd.Q_drew)); exact HO_7.out)) k_ hk, Kd.fresh' (Kd.R_lt (by (with_reducible repeat (first | apply Kd.R_alloc | apply Kd.R_drewN | apply Kd.R_drew)); exact HO_11.out)) k_ hk⟩) _ (Nat.le_refl _)) (Below.refl _ _) (Nat.le_refl _) (by simp) ?_; (case hd => rfl); (case hg => rfl); (case hr => first | (go_simp; done) | (go_simp; rfl)); (case hp => first | exact (Reps.one (show Kd.FK (Kd.slice 3 (Kd.int .i64)) _ _ t549 [.slice Ao63 t549.length co63] from (Kd.FK_slice_mk (Kd.R_reads' (Kd.R_mono (ok' := (fun k_ => some k_ ≠ (.slice Ao6 t520.length co6 : Value).ownBlock ∧ some k_ ≠ (.slice Ao23 t526.length co23 : Value).ownBlock)) (HO551.out) (fun k_ hk => ⟨hk.1.1.1.2, hk.1.1.2⟩))).2.1 (Kd.R_F (Kd.R_mono (ok' := (fun k_ => some k_ ≠ (.slice Ao6 t520.length co6 : Value).ownBlock ∧ some k_ ≠ (.slice Ao23 t526.length co23 : Value).ownBlock)) (HO551.out) (fun k_ hk => ⟨hk.1.1.1.2, hk.1.1.2⟩))))) (Reps.one (show Kd.FK (Kd.slice 3 (Kd.int .i64)) _ _ t552 [.slice Ao64 t552.length co64] from (Kd.FK_slice_mk (Kd.R_reads' (Kd.R_mono (ok' := (fun k_ => some k_ ≠ (.slice Ao6 t520.length co6 : Value).ownBlock ∧ some k_ ≠ (.slice Ao23 t526.length co23 : Value).ownBlock)) (HO554.out) (fun k_ hk => ⟨hk.1.1.1.2, hk.1.1.2⟩))).2.1 (Kd.R_F (Kd.R_mono (ok' := (fun k_ => some k_ ≠ (.slice Ao6 t520.length co6 : Value).ownBlock ∧ some k_ ≠ (.slice Ao23 t526.length co23 : Value).ownBlock)) (HO554.out) (fun k_ hk => ⟨hk.1.1.1.2, hk.1.1.2⟩))))) (Reps.one (show Kd.FK (Kd.slice 3 (Kd.int .i64)) _ _ t555 [.slice Ao65 t555.length co65] from (Kd.FK_slice_mk (Kd.R_reads' (Kd.R_mono (ok' := (fun k_ => some k_ ≠ (.slice Ao6 t520.length co6 : Value).ownBlock ∧ some k_ ≠ (.slice Ao23 t526.length co23 : Value).ownBlock)) (HO557.out) (fun k_ hk => ⟨hk.1.1.1.2, hk.1.1.2⟩))).2.1 (Kd.R_F (Kd.R_mono (ok' := (fun k_ => some k_ ≠ (.slice Ao6 t520.length co6 : Value).ownBlock ∧ some k_ ≠ (.slice Ao23 t526.length co23 : Value).ownBlock)) (HO557.out) (fun k_ hk => ⟨hk.1.1.1.2, hk.1.1.2⟩))))) (Reps.none _ _)))) | exact (Reps.one (show Kd.FK (Kd.slice 3 (Kd.int .i64)) _ _ t549 [.slice Ao63 t549.length co63] from (Kd.FK_slice_mk (Kd.R_reads' (Kd.R_mono (ok' := (fun k_ => some k_ ≠ (.slice Ao6 t520.length co6 : Value).ownBlock ∧ some k_ ≠ (.slice Ao23 t526.length co23 : Value).ownBlock)) (HO551.out) (fun k_ hk => ⟨hk.1.1.1.2, hk.1.1.2⟩))).2.1 (Kd.R_F (Kd.R_mono (ok' := (fun k_ => some k_ ≠ (.slice Ao6 t520.length co6 : Value).ownBlock ∧ some k_ ≠ (.slice Ao23 t526.length co23 : Value).ownBlock)) (Kd.R_drewN (HO551.out) _) (fun k_ hk => ⟨hk.1.1.1.2, hk.1.1.2⟩))))) (Reps.one (show Kd.FK (Kd.slice 3 (Kd.int .i64)) _ _ t552 [.slice Ao64 t552.length co64] from (Kd.FK_slice_mk (Kd.R_reads' (Kd.R_mono (ok' := (fun k_ => some k_ ≠ (.slice Ao6 t520.length co6 : Value).ownBlock ∧ some k_ ≠ (.slice Ao23 t526.length co23 : Value).ownBlock)) (HO554.out) (fun k_ hk => ⟨hk.1.1.1.2, hk.1.1.2⟩))).2.1 (Kd.R_F (Kd.R_mono (ok' := (fun k_ => some k_ ≠ (.slice Ao6 t520.length co6 : Value).ownBlock ∧ some k_ ≠ (.slice Ao23 t526.length co23 : Value).ownBlock)) (Kd.R_drewN (HO554.out) _) (fun k_ hk => ⟨hk.1.1.1.2, hk.1.1.2⟩))))) (Reps.one (show Kd.FK (Kd.slice 3 (Kd.int .i64)) _ _ t555 [.slice Ao65 t555.length co65] from (Kd.FK_slice_mk (Kd.R_reads' (Kd.R_mono (ok' := (fun k_ => some k_ ≠ (.slice Ao6 t520.length co6 : Value).ownBlock ∧ some k_ ≠ (.slice Ao23 t526.length co23 : Value).ownBlock)) (HO557.out) (fun k_ hk => ⟨hk.1.1.1.2, hk.1.1.2⟩))).2.1 (Kd.R_F (Kd.R_mono (ok' := (fun k_ => some k_ ≠ (.slice Ao6 t520.length co6 : Value).ownBlock ∧ some k_ ≠ (.slice Ao23 t526.length co23 : Value).ownBlock)) (Kd.R_drewN (HO557.out) _) (fun k_ hk => ⟨hk.1.1.1.2, hk.1.1.2⟩))))) (Reps.none _ _)))))
                       intro v559 w66 ho67 hb hg_ hnew_
                       clear hg_ hnew_
                       (first | rw [← Ny558.out] at ho67 | (simp only [Int.reduceToNat] at ho67; rw [← Ny558.out] at ho67))
                       have n0_ := Aside0.mk (Kd.Q_below (by (with_reducible repeat (first | apply Kd.Q_alloc | apply Kd.Q_drewN | apply Kd.Q_drew)); exact HO_7.out) hb)
                       have n1_ := Aside0.mk (Kd.R_below (by (with_reducible repeat (first | apply Kd.R_alloc | apply Kd.R_drewN | apply Kd.R_drew)); exact HO_11.out) hb)
                       have n2_ := Aside0.mk (Kd.V_elder' (by (with_reducible repeat (first | apply Kd.V_alloc | apply Kd.V_drewN | apply Kd.V_drew)); exact HO_14.out) (Kd.N_base ho67) hb)
                       have n3_ := Aside0.mk (Kd.V_elder' (by (with_reducible repeat (first | apply Kd.V_alloc | apply Kd.V_drewN | apply Kd.V_drew)); exact HO_15.out) (Kd.N_base ho67) hb)
                       have n4_ := Aside0.mk (Kd.V_elder' (by (with_reducible repeat (first | apply Kd.V_alloc | apply Kd.V_drewN | apply Kd.V_drew)); exact HO_16.out) (Kd.N_base ho67) hb)
                       have n5_ := Aside0.mk (Kd.V_elder' (by (with_reducible repeat (first | apply Kd.V_alloc | apply Kd.V_drewN | apply Kd.V_drew)); exact HO548.out) (Kd.N_base ho67) hb)
                       have n6_ := Aside0.mk (Kd.N_lower ho67 (below_size (by repeat (first | (with_reducible first | exact HB.out | apply below_alloc | apply pw_below_drewN | apply below_drew1) | exact HB.out))))
                       have n7_ := Aside0.mk (below_step (by repeat (first | (with_reducible first | exact HB.out | apply below_alloc | apply pw_below_drewN | apply below_drew1) | exact HB.out)) hb)
                       clear HO_7
                       clear HO_11
                       clear HO_14
                       clear HO_15
                       clear HO_16
                       clear HO548
                       clear HB
                       clear HO551
                       clear HO554
                       clear HO557
                       have HO_7 := n0_
                       have HO_11 := n1_
                       have HO_14 := n2_
                       have HO_15 := n3_
                       have HO_16 := n4_
                       have HO548 := n5_
                       have HO560 := n6_
                       have HB := n7_
                       clear n0_ n1_ n2_ n3_ n4_ n5_ n6_ n7_
                       clear hb ho67
                       obtain ⟨Ao68, co68, eo68⟩ := Kd.N_slice HO560.out
                       (first | subst eo68 | (injection eo68 with f1_ f2_ f3_; have f4_ := f1_.symm; have f5_ := f3_.symm; clear f1_ f2_ f3_; subst f4_; subst f5_))
                       refine hK.out _ _ trivial (fun hHeld => ?_)
                       clear hK K
                       refine norm_ (a' := ?_) ?_ ?_
                       rotate_left
                       ·show Act.put _ (some 95) _ = _
                        simp only [Act.put, List.setIfInBounds_toArray, List.set_cons_zero, List.set_cons_succ, i64_w, i32_w]
                        rfl
                       refine one_ (i := 10) (N := some 96) #[true, true, true, true, true, true, true, true, true, true, true, false] rfl rfl (one_of HT_.out (by kernel_rfl)) (by decide) (fun K hK => ?_)
                       refine goes_ Try.func74 (by kernel_rfl) rfl #[.slice Ao68 y558.length co68] (by rfl) rfl rfl (by (try simp only [List.map_toArray, List.map_cons, List.map_nil]); first | done | rfl | (simp only [List.length_drop, List.length_take]; rfl)) ?_
                       with_reducible refine (slices_Concat_int_int.calls kj19 _ _ y558 t561 _ ?side1 ?side2 A36.out).mono ?_
                       (case side1 => repeat (first | exact (Kd.N_reads' HO560.out).2.2 | (with_reducible refine Kd.C_alloc ?_ _) | (with_reducible refine Kd.C_drewN ?_ _) | (with_reducible refine Kd.C_drew ?_)))
                       (case side2 => exact (Kd.N_reads' HO560.out).2.1)
                       rintro e w69 ⟨v562, rfl, ho0, hb⟩
                       refine ⟨_, rfl, ?_⟩
                       have n0_ := Aside0.mk (Kd.Q_elder' (by (with_reducible repeat (first | apply Kd.Q_alloc | apply Kd.Q_drewN | apply Kd.Q_drew)); exact HO_7.out) (Kd.R_base ho0) hb)
                       have n1_ := Aside0.mk (Kd.R_elder' (by (with_reducible repeat (first | apply Kd.R_alloc | apply Kd.R_drewN | apply Kd.R_drew)); exact HO_11.out) (Kd.R_base ho0) hb)
                       have n2_ := Aside0.mk (Kd.V_elder' (by (with_reducible repeat (first | apply Kd.V_alloc | apply Kd.V_drewN | apply Kd.V_drew)); exact HO_14.out) (Kd.R_base ho0) hb)
                       have n3_ := Aside0.mk (Kd.V_elder' (by (with_reducible repeat (first | apply Kd.V_alloc | apply Kd.V_drewN | apply Kd.V_drew)); exact HO_15.out) (Kd.R_base ho0) hb)
                       have n4_ := Aside0.mk (Kd.V_elder' (by (with_reducible repeat (first | apply Kd.V_alloc | apply Kd.V_drewN | apply Kd.V_drew)); exact HO_16.out) (Kd.R_base ho0) hb)
                       have n5_ := Aside0.mk (Kd.V_elder' (by (with_reducible repeat (first | apply Kd.V_alloc | apply Kd.V_drewN | apply Kd.V_drew)); exact HO548.out) (Kd.R_base ho0) hb)
                       have n6_ := Aside0.mk (Kd.N_elder' (by (with_reducible repeat (first | apply Kd.N_alloc | apply Kd.N_drewN | apply Kd.N_drew)); exact HO560.out) (Kd.R_base ho0) hb)
                       have n7_ := Aside0.mk (Kd.R_lower (Kd.R_new' (Kd.R_new' ho0 (Kd.Q_lt (by (with_reducible repeat (first | apply Kd.Q_alloc | apply Kd.Q_drewN | apply Kd.Q_drew)); exact HO_7.out))) (Kd.R_lt (by (with_reducible repeat (first | apply Kd.R_alloc | apply Kd.R_drewN | apply Kd.R_drew)); exact HO_11.out))) (below_size (by repeat (first | (with_reducible first | exact HB.out | apply below_alloc | apply pw_below_drewN | apply below_drew1) | exact HB.out))))
                       have n8_ := Aside0.mk (below_step (by repeat (first | (with_reducible first | exact HB.out | apply below_alloc | apply pw_below_drewN | apply below_drew1) | exact HB.out)) hb)
                       clear HO_7
                       clear HO_11
                       clear HO_14
                       clear HO_15
                       clear HO_16
                       clear HO548
                       clear HO560
                       clear HB
                       have HO_7 := n0_
                       have HO_11 := n1_
                       have HO_14 := n2_
                       have HO_15 := n3_
                       have HO_16 := n4_
                       have HO548 := n5_
                       have HO560 := n6_
                       have HO563 := n7_
                       have HB := n8_
                       clear n0_ n1_ n2_ n3_ n4_ n5_ n6_ n7_ n8_
                       (try clear hb)
                       (try clear hb2)
                       (try clear hk)
                       (try clear hi)
                       (try clear ho0)
                       obtain ⟨Ao70, co70, eo70⟩ := Kd.R_slice HO563.out
                       (first | subst eo70 | (injection eo70 with f1_ f2_ f3_; have f4_ := f1_.symm; have f5_ := f3_.symm; clear f1_ f2_ f3_; subst f4_; subst f5_))
                       refine hK.out _ _ trivial (fun hHeld => ?_)
                       clear hK K
                       refine norm_ (a' := ?_) ?_ ?_
                       rotate_left
                       ·show Act.put _ (some 96) _ = _
                        simp only [Act.put, List.setIfInBounds_toArray, List.set_cons_zero, List.set_cons_succ, i64_w, i32_w]
                        rfl
                       refine one_ (i := 11) (N := some 97) #[true, true, true, true, true, true, true, true, true, true, true, true] rfl rfl (one_of HT_.out (by kernel_rfl)) (by decide) (fun K hK => ?_)
                       refine goes_ Try.func73 (by kernel_rfl) rfl #[.slice A59 y544.length c59, .slice Ao70 t561.length co70] (by rfl) rfl rfl (by (try simp only [List.map_toArray, List.map_cons, List.map_nil]); first | done | rfl | (simp only [List.length_drop, List.length_take]; rfl)) ?_
                       with_reducible refine (slices_Equal_int_int.calls kj19 _ _ y544 _ _ t561 false _ ?side1 ?side2 ?side3 ?side4 A37.out).mono ?_
                       (case side1 => repeat (first | exact (Kd.V_reads' HO548.out).2.2 | (with_reducible refine Kd.C_alloc ?_ _) | (with_reducible refine Kd.C_drewN ?_ _) | (with_reducible refine Kd.C_drew ?_)))
                       (case side2 => exact (Kd.V_reads' HO548.out).2.1)
                       (case side3 => repeat (first | exact (Kd.R_reads' HO563.out).2.2 | (with_reducible refine Kd.C_alloc ?_ _) | (with_reducible refine Kd.C_drewN ?_ _) | (with_reducible refine Kd.C_drew ?_)))
                       (case side4 => exact (Kd.R_reads' HO563.out).2.1)
                       rintro e w' ⟨rfl, ⟨nd, rfl⟩⟩
                       refine ⟨_, rfl, ?_⟩
                       refine hK.out _ _ trivial (fun hHeld => ?_)
                       clear hK K
                       refine norm_ (a' := ?_) ?_ ?_
                       rotate_left
                       ·show Act.put _ (some 97) _ = _
                        simp only [Act.put, List.setIfInBounds_toArray, List.set_cons_zero, List.set_cons_succ, i64_w, i32_w]
                        rfl
                       refine done_ (done_of HT_.out (by kernel_rfl)) ?_
                       try go_wp2
                       go_roundg kj19
                       case measure => have := HK1.out; have := HK2.out; have := HK3.out; have := HJ19.out; omega
                       case rel => exact ⟨(wrap64 (x13_3 + 1)), (by first | rfl | (simp; done) | (simp [*]; done)), H', ⟨by have := HK1.out; have := HK2.out; have := HK3.out; have := HJ19.out; omega⟩, ⟨by (with_reducible repeat (first | apply Kd.Q_alloc | apply Kd.Q_drewN | apply Kd.Q_drew)); exact Kd.Q_mono HO_7.out (fun _ hk => hk.1.1.1.1)⟩, ⟨by (with_reducible repeat (first | apply Kd.R_alloc | apply Kd.R_drewN | apply Kd.R_drew)); exact Kd.R_mono HO_11.out (fun _ hk => hk.1.1.1.1)⟩, ⟨by repeat (first | (with_reducible first | exact HB.out | apply below_alloc | apply pw_below_drewN | apply below_drew1) | exact HB.out)⟩⟩
                     ·rw [if_neg c32] at H
                      exact absurd H (by simp)
                    ·rw [if_neg c31] at H
                     exact absurd H (by simp)
                ·rw [if_neg c19] at H
                 exact absurd H (by simp)
               ·rw [if_neg c17] at H
                exact absurd H (by simp)
              ·rw [if_neg c16] at H
               exact absurd H (by simp)
             ·rw [if_neg c15] at H
              exact absurd H (by simp)
            ·rw [if_neg c13] at H
             exact absurd H (by simp)
           ·rw [if_neg c12] at H
            exact absurd H (by simp)
          ·rw [if_neg c11] at H
           have c11b0 : decide (x13_3 ≤ (wrap64 ((t520.length : Int) / 2))) = false := decide_eq_false c11
           clear c11
           have H' := Aside0.mk H
           clear H
           go_wp2
           go_roundg k3
           case measure => have := HK1.out; have := HK2.out; have := HK3.out; omega
           case rel => exact ⟨(wrap64 (x12_2 + 1)), (by first | rfl | (simp; done) | (simp [*]; done)), H', ⟨by have := HK1.out; have := HK2.out; have := HK3.out; omega⟩, ⟨by (with_reducible repeat (first | apply Kd.Q_alloc | apply Kd.Q_drewN | apply Kd.Q_drew)); exact HO_7.out⟩, ⟨by (with_reducible repeat (first | apply Kd.R_alloc | apply Kd.R_drewN | apply Kd.R_drew)); exact HO_11.out⟩, ⟨by repeat (first | (with_reducible first | exact HB.out | apply below_alloc | apply pw_below_drewN | apply below_drew1) | exact HB.out)⟩⟩
       ·rw [if_neg c10] at H
        have c10b0 : decide (x12_2 ≤ (wrap64 ((t520.length : Int) / 2))) = false := decide_eq_false c10
        clear c10
        have H' := Aside0.mk H
        clear H
        go_wp2
        go_roundg k2
        case measure => have := HK1.out; have := HK2.out; omega
        case rel => exact ⟨(wrap64 (x31_1 + 1)), (by first | rfl | (simp; done) | (simp [*]; done)), H', ⟨by have := HK1.out; have := HK2.out; omega⟩, ⟨by (with_reducible repeat (first | apply Kd.Q_alloc | apply Kd.Q_drewN | apply Kd.Q_drew)); exact Kd.Q_mono HO_7.out (fun _ hk => trivial)⟩, ⟨by repeat (first | (with_reducible first | exact HB.out | apply below_alloc | apply pw_below_drewN | apply below_drew1) | exact HB.out)⟩⟩
    ·rw [if_neg c7] at H
     have c7b0 : decide (x31_1 < (t520.length : Int)) = false := decide_eq_false c7
     clear c7
     simp only [Option.some.injEq, Prod.mk.injEq] at H
     obtain ⟨rfl, rfl, rfl, rfl, rfl⟩ := H
     go_wp2
     refine bodyPost_ret (results_list (rs := [.tmp 2, .tmp 3, .tmp 4, .tmp 5, .tmp 6]) rfl (by simp) (.tmp (.tmp (.tmp (.tmp (.tmp .nil)))))) rfl ?_
     exact ⟨_, _, _, by first | rfl | (simp [errW_none, errW_some] <;> rfl) | (simp [*, errW_none, errW_some] <;> rfl), by first | exact Kd.R_nil _ _ _ _ _ | exact Kd.N_nil _ _ _ _ _ | exact Kd.V_nil _ _ _ _ _ | exact Kd.Q_nil _ _ _ _ _ | exact Kd.S_nil _ _ _ _ _, by first | exact Kd.R_nil _ _ _ _ _ | exact Kd.N_nil _ _ _ _ _ | exact Kd.V_nil _ _ _ _ _ | exact Kd.Q_nil _ _ _ _ _ | exact Kd.S_nil _ _ _ _ _, by first | exact Kd.R_nil _ _ _ _ _ | exact Kd.N_nil _ _ _ _ _ | exact Kd.V_nil _ _ _ _ _ | exact Kd.Q_nil _ _ _ _ _ | exact Kd.S_nil _ _ _ _ _, by repeat (first | (with_reducible first | exact HB.out | apply below_alloc | apply pw_below_drewN | apply below_drew1) | exact HB.out)⟩
 ·replace c3 := Bool.eq_false_iff.mpr c3
  subst c3
  have H1 : (some (([] : List Int), ([] : List Int), ([] : List Int), 0, false)) = some (r1, r2, r3, r4, r5) := by rw [if_neg (show ¬ (false = true) by decide)] at H; exact H
  clear H
  have H := H1
  clear H1
  simp only [Option.some.injEq, Prod.mk.injEq] at H
  obtain ⟨rfl, rfl, rfl, rfl, rfl⟩ := H
  go_enter Try.func35, Try.ntmps35
  go_wp2_with (first | ((with_reducible refine gate_callee (f := 70) rfl ?_); refine goesL_ (some 19) rfl rfl Try.func70 (by kernel_rfl) rfl #[.slice A0 l0.length c0] rfl (by (try simp only [List.map_toArray, List.map_cons, List.map_nil]); first | done | rfl | (simp only [List.length_drop, List.length_take]; rfl)) ?_; (with_reducible refine (impl_isWord.calls _ _ l0 false _ ?side1 ?side2 A2.out).mono ?_); (case side1 => repeat (first | exact HR0.out | (with_reducible refine Kd.C_alloc ?_ _) | (with_reducible refine Kd.C_drewN ?_ _) | (with_reducible refine Kd.C_drew ?_))); (case side2 => exact HC0.out); rintro e w' ⟨rfl, ⟨nd, rfl⟩⟩; refine ⟨_, rfl, ?_⟩))
  refine bodyPost_ret (results_list (rs := [.tmp 2, .tmp 3, .tmp 4, .tmp 5, .tmp 6]) rfl (by simp) (.tmp (.tmp (.tmp (.tmp (.tmp .nil)))))) rfl ?_
  exact ⟨_, _, _, by first | rfl | (simp [errW_none, errW_some] <;> rfl) | (simp [*, errW_none, errW_some] <;> rfl), by first | exact Kd.R_nil _ _ _ _ _ | exact Kd.N_nil _ _ _ _ _ | exact Kd.V_nil _ _ _ _ _ | exact Kd.Q_nil _ _ _ _ _ | exact Kd.S_nil _ _ _ _ _, by first | exact Kd.R_nil _ _ _ _ _ | exact Kd.N_nil _ _ _ _ _ | exact Kd.V_nil _ _ _ _ _ | exact Kd.Q_nil _ _ _ _ _ | exact Kd.S_nil _ _ _ _ _, by first | exact Kd.R_nil _ _ _ _ _ | exact Kd.N_nil _ _ _ _ _ | exact Kd.V_nil _ _ _ _ _ | exact Kd.Q_nil _ _ _ _ _ | exact Kd.S_nil _ _ _ _ _, by repeat (first | (with_reducible first | exact HB.out | apply below_alloc | apply pw_below_drewN | apply below_drew1) | exact HB.out)⟩

end Go.Proofs.Ytpdpcbebnlbpnaa.P
