/- Each call of a Go function named below comes to exactly the answers of the Lean function of its name, and a law row follows from its plain statement. No condition beyond those that each theorem states. -/
import Derived.Test.YtjjoinhackfmnaaPx0
import Derived.Deep.RegionHeld3
namespace Go.Proofs.Ytjjoinhackfmnaa.P
open Go.RowKit Go.Proofs.YtjjoinhackfmnaaW.PrintWords Go.Proofs.YtjjoinhackfmnaaW.PrintLast Go.Proofs.YtjjoinhackfmnaaW.PrintMore
attribute [local go_sem] max2_int min2_int max_two min_two max_three min_three max_four min_four   -- for this text's walks alone
set_option linter.unusedVariables false
set_option linter.unusedSimpArgs false

/-! ### laws_eqIntA64: function 37 -/
--@IMPORT Derived.Deep.RegionHeld3
def laws_eqIntA64.f (x y : TabI 64) : Option Bool := some (x == y)
theorem laws_eqIntA64.differ {x y : TabI 64} {i : Nat} (a b : Int) (ha : x.1[i]? = some a) (hb : y.1[i]? = some b) (h : a ≠ b) : (x == y) = false := by
  rw [beq_eq_false_iff_ne]
  rintro rfl
  rw [ha] at hb
  exact h (Option.some.inj hb)
theorem laws_eqIntA64.same {x y : TabI 64} (h : ∀ j, j < 64 → x.1[j]? = y.1[j]?) : (x == y) = true := by
  rw [beq_iff_eq]
  apply Subtype.ext
  apply List.ext_getElem?
  intro i
  by_cases hi : i < 64
  · exact h i hi
  · rw [List.getElem?_eq_none (by rw [x.2]; omega), List.getElem?_eq_none (by rw [y.2]; omega)]
set_option maxHeartbeats 8000000 in
set_option maxRecDepth 100000 in
theorem laws_eqIntA64.calls (x y : TabI 64) (r : Bool) (w : World) (h : laws_eqIntA64.f x y = some r) :
    Calls Try.prog 37 #[.agg (TabI.v x), .agg (TabI.v y)] w fun e w' => e = .returned (.bool r) ∧ Below w.heap.size w w' := by
  obtain rfl := Option.some.inj h
  clear h
  obtain ⟨w2, hw2⟩ : ∃ w2, w2 = (w.alloc (.cells (TabI.v x) 49)).alloc (.cells (TabI.v y) 49) := ⟨_, rfl⟩
  have HX : Aside0 (ArrW w2 w.heap.size 49 (x.1.map (Value.int .i64))) := ⟨by rw [hw2]; exact (ArrW.new w 49 (x.1.map (Value.int .i64))).alloc _⟩
  have HY : Aside0 (ArrW w2 (w.heap.size + 1) 49 (y.1.map (Value.int .i64))) := ⟨by rw [hw2]; have h_ := ArrW.new (w.alloc (.cells (TabI.v x) 49)) 49 (y.1.map (Value.int .i64)); rwa [World.size_alloc] at h_⟩
  have HB : Aside0 (Below w.heap.size w w2) := ⟨by rw [hw2]; exact below_alloc (below_alloc (Below.refl _ _) _) _⟩
  have HW := Aside0.mk hw2.symm
  clear hw2
  have hc1 : (Value.agg (TabI.v x)).cells = TabI.v x := rfl
  have hc2 : (Value.agg (TabI.v y)).cells = TabI.v y := rfl
  go_enter Try.func37, Try.ntmps37
  go_wp2
  rw [HW.out]
  clear HW hc1 hc2
  go_loopg [5] 64 (fun gg s5 wr => ∃ i : Nat, i ≤ 64 ∧ 64 - i ≤ gg ∧ s5 = .int .i64 i ∧ Aside0 (Below w.heap.size w wr) ∧ Aside0 (Below w2.heap.size w2 wr) ∧ Aside0 (∀ j, j < i → x.1[j]? = y.1[j]?))
  case atStart => exact ⟨0, by omega, by omega, rfl, HB, ⟨Below.refl _ _⟩, ⟨fun j hj => absurd hj (Nat.not_lt_zero _)⟩⟩
  case round =>
    obtain ⟨i, hi, hg, rfl, HC, HC2, HA⟩ := hrel
    by_cases hlt : i < 64
    · have hltz : (i : Int) < 64 := by omega
      have hge0 : (0 : Int) ≤ (i : Int) := by omega
      obtain ⟨a, ha⟩ : ∃ a, x.1[i]? = some a := ⟨_, List.getElem?_eq_getElem (by rw [x.2]; omega)⟩
      obtain ⟨b, hb⟩ : ∃ b, y.1[i]? = some b := ⟨_, List.getElem?_eq_getElem (by rw [y.2]; omega)⟩
      obtain ⟨hca, _⟩ := (HX.out.below HC2.out).at i (.int .i64 a) (by rw [List.getElem?_map, ha]; rfl)
      obtain ⟨hcb, _⟩ := (HY.out.below HC2.out).at i (.int .i64 b) (by rw [List.getElem?_map, hb]; rfl)
      have HAA := Aside0.mk ha
      have HBB := Aside0.mk hb
      clear ha hb
      by_cases hab : a = b
      · have hne : (!(a == b)) = false := by rw [hab]; simp
        go_wp2
        go_region_held3 (fun w' => w'.cell? ⟨w.heap.size, i, none⟩ = some (.int .i64 a) ∧ w'.cell? ⟨w.heap.size + 1, i, none⟩ = some (.int .i64 b) ∧ Below wr.heap.size wr w') (exact ⟨by first | assumption | (simp; assumption), by first | assumption | (simp; assumption), below_drew (Below.refl _ _)⟩) (fail)
        all_goals (rename_i hHeld_; have HK := Aside0.mk hHeld_.2.2; clear hHeld_; go_wp2)
        go_roundg (64 - (i + 1))
        case measure => omega
        case rel =>
          refine ⟨i + 1, by omega, by omega, by go_num, ⟨below_step HC.out HK.out⟩, ⟨below_step HC2.out HK.out⟩, ⟨fun j hj => ?_⟩⟩
          by_cases e : j = i
          · subst e; rw [HAA.out, HBB.out, hab]
          · exact HA.out j (by omega)
      · have hne : (!(a == b)) = true := by simpa using hab
        go_wp2
        go_region_held3 (fun w' => w'.cell? ⟨w.heap.size, i, none⟩ = some (.int .i64 a) ∧ w'.cell? ⟨w.heap.size + 1, i, none⟩ = some (.int .i64 b) ∧ Below wr.heap.size wr w') (exact ⟨by first | assumption | (simp; assumption), by first | assumption | (simp; assumption), below_drew (Below.refl _ _)⟩) (fail)
        all_goals (rename_i hHeld_; have HK := Aside0.mk hHeld_.2.2; clear hHeld_; go_wp2)
        go_ret
        exact ⟨by rw [laws_eqIntA64.differ a b HAA.out HBB.out hab]; rfl, below_step HC.out HK.out⟩
    · have hltz : ¬ (i : Int) < 64 := by omega
      have hn : i = 64 := by omega
      subst hn
      go_wp2
      go_ret
      exact ⟨by rw [laws_eqIntA64.same HA.out]; rfl, HC.out⟩

end Go.Proofs.Ytjjoinhackfmnaa.P
