/- Each call of a Go function named below comes to exactly the answers of the Lean function of its name, and a law row follows from its plain statement. No condition beyond those that each theorem states. -/
import Derived.Test.YtlojkjkbocfmfaaPx0
import Derived.Deep.RegionHeld3
namespace Go.Proofs.Ytlojkjkbocfmfaa.P
open Go.RowKit Go.Proofs.YtlojkjkbocfmfaaW.PrintWords Go.Proofs.YtlojkjkbocfmfaaW.PrintLast Go.Proofs.YtlojkjkbocfmfaaW.PrintMore
attribute [local go_sem] max2_int min2_int max_two min_two max_three min_three max_four min_four   -- for this text's walks alone
set_option linter.unusedVariables false
set_option linter.unusedSimpArgs false

/-! ### impl_balanced: function 37 -/
--@IMPORT Derived.Deep.RegionHeld3
def impl_balanced.f : Nat → List Int → Option Tr
  | 0, _ => none
  | k + 1, l => if l.length = 1 then some (.leaf l) else if l.length < 17592186044416 then (impl_balanced.f k (l.take ((l.length + 1) / 2))).bind fun s => (impl_balanced.f k (l.drop ((l.length + 1) / 2))).bind fun t => some (.node s t) else none
theorem impl_balanced.mono_l : ∀ k l, LeO (impl_balanced.f k l) (impl_balanced.f (k + 1) l)
  | 0, _ => fun _ h => by simp [impl_balanced.f] at h
  | k + 1, l => LeO.ite (LeO.refl _) (LeO.ite (LeO.bind (impl_balanced.mono_l k _) (fun _ => LeO.bind (impl_balanced.mono_l k _) (fun _ => LeO.refl _))) (LeO.refl _))
theorem impl_balanced.mono : ∀ l k, LeO (impl_balanced.f k l) (impl_balanced.f (k + 1) l) := fun l k => impl_balanced.mono_l k l
set_option maxHeartbeats 4000000 in
set_option maxRecDepth 100000 in
theorem impl_balanced.calls (k : Nat) : ∀ (A0 : Option Addr) (c0 : Nat) (l0 : List Int) (t : Tr) (w : World) (_hr0 : Kd.C (Kd.int .i64) w A0 l0.length l0) (_hc0 : l0.length ≤ c0) (_h : impl_balanced.f k l0 = some t),
    Calls Try.prog 37 #[.slice A0 l0.length c0] w fun e w' => ∃ b, e = .returned (.pointer (some ⟨b, 0, none⟩)) ∧ TrAt 60 3 w.heap.size w' t b ∧ Below w.heap.size w w' := by
  induction k with
  | zero => intro A0 c0 l0 t w _ _ h; exact absurd h (by simp [impl_balanced.f])
  | succ k ih =>
  intro A0 c0 l0 t w hr0 hc0 h
  have h' : (if l0.length = 1 then some (.leaf l0) else if l0.length < 17592186044416 then (impl_balanced.f k (l0.take ((l0.length + 1) / 2))).bind fun s => (impl_balanced.f k (l0.drop ((l0.length + 1) / 2))).bind fun t => some (.node s t) else none) = some t := h
  clear h
  by_cases h1 : l0.length = 1
  · rw [if_pos h1] at h'
    obtain rfl := Option.some.inj h'
    clear h'
    obtain ⟨x, rfl⟩ : ∃ x, l0 = [x] := by
      cases l0 with
      | nil => simp at h1
      | cons x l => cases l with
        | nil => exact ⟨x, rfl⟩
        | cons y l => simp at h1
    obtain ⟨ad, rfl, hcell⟩ := Kd.at_int hr0 0 (by omega) (by simp)
    have hcell2 : w.cell? ad = some (.int .i64 x) := by
      have e : ad.add (Int.toNat 0) = ad := by unfold Addr.add; simp
      rw [e] at hcell
      exact hcell
    clear hcell hr0 h1
    go_enter Try.func37, Try.ntmps37
    go_wp2
    go_ret
    have hown : ((w.alloc (.cells #[.int .i64 x] 3)).alloc (.cells #[.slice (some ⟨w.heap.size, 0, none⟩) 1 1, .pointer none, .pointer none] 60)).ownsRow w.heap.size 3 1 (.slice (some ⟨w.heap.size, 0, none⟩) 1 1) 1 [.int .i64 x] :=
      ⟨rfl, .inr ⟨w.heap.size, 1, #[.int .i64 x], rfl, Nat.le_refl _, blk_alloc (blk_new w _) _, Nat.le_refl _, by decide, rfl, rfl⟩⟩
    refine ⟨w.heap.size + 1, ?_, ⟨Nat.le_succ _, _, ?_, Kd.R_of_own (enc := Value.int .i64) (h1 := fun _ => rfl) hown (fun _ _ => trivial)⟩, ?_⟩
    · first | rfl | simp
    · have h_ := ArrW.new (w.alloc (.cells #[.int .i64 x] 3)) 60 [.slice (some ⟨w.heap.size, 0, none⟩) 1 1, .pointer none, .pointer none]
      simpa using h_
    · exact below_alloc (below_alloc (Below.refl _ _) _) _
  · rw [if_neg h1] at h'
    by_cases h2 : l0.length < 17592186044416
    · rw [if_pos h2] at h'
      obtain ⟨s, hs, h3⟩ := Option.bind_eq_some_iff.1 h'
      obtain ⟨u, hu, h4⟩ := Option.bind_eq_some_iff.1 h3
      obtain rfl := Option.some.inj h4
      clear h' h3 h4
      obtain ⟨j, hj⟩ : ∃ j : Int, j = (((l0.length + 1) / 2 : Nat) : Int) := ⟨_, rfl⟩
      have hjn : (l0.length + 1) / 2 = j.toNat := by rw [hj, Int.toNat_natCast]
      rw [hjn] at hs hu
      have j0 : 0 ≤ j := by omega
      have j1 : j ≤ (l0.length : Int) := by omega
      have hw1 : wrap64 ((l0.length : Int) + 1) = (l0.length : Int) + 1 := by unfold wrap64; omega
      have hw2 : Int.tdiv ((l0.length : Int) + 1) 2 = j := by rw [hj, Int.tdiv_eq_ediv_of_nonneg (by omega)]; omega
      have hw3 : wrap64 j = j := by unfold wrap64; omega
      have c1 : ((l0.length : Int) == 1) = false := beq_eq_false_iff_ne.2 (by omega)
      obtain ⟨i016, hi016, _, hsz16, _⟩ := info_parts info3
      obtain ⟨hcut1, hA1, hC1⟩ := print_take_of (P := Try.prog) (Value.int .i64) 0 25 3 .i64 Try.underlying25 hi016 hsz16 A0 c0 l0 j j0 j1 hc0
      obtain ⟨A2, hcut2, hA2, hC2⟩ := print_drop_of (P := Try.prog) (Value.int .i64) 0 25 3 .i64 Try.underlying25 hi016 hsz16 A0 c0 l0 j j0 j1 hc0
      obtain ⟨va, hva⟩ : ∃ v, v = Value.slice A0 (l0.take j.toNat).length c0 := ⟨_, rfl⟩
      obtain ⟨vb, hvb⟩ : ∃ v, v = Value.slice A2 (l0.drop j.toNat).length (c0 - j.toNat) := ⟨_, rfl⟩
      have HS : Aside0 (∀ W, Below w.heap.size w W → Calls Try.prog 37 #[va] W fun e w' => ∃ b, e = .returned (.pointer (some ⟨b, 0, none⟩)) ∧ TrAt 60 3 w.heap.size w' s b ∧ Below w.heap.size w w' ) := ⟨fun W hB => by
        rw [hva]
        exact (ih A0 c0 (l0.take j.toNat) s W (Kd.C_below (Kd.C_of_reads (h1 := fun _ => rfl) (hA1 _ (Kd.reads_of_C hr0))) hB) hC1 hs).mono (by
        rintro e w' ⟨b, rfl, h5, h6⟩
        exact ⟨b, rfl, h5.lower hB.size, below_step hB h6⟩)⟩
      have HT : Aside0 (∀ W, Below w.heap.size w W → Calls Try.prog 37 #[vb] W fun e w' => ∃ b, e = .returned (.pointer (some ⟨b, 0, none⟩)) ∧ TrAt 60 3 w.heap.size w' u b ∧ Below w.heap.size w w' ∧ Below W.heap.size W w') := ⟨fun W hB => by
        rw [hvb]
        exact (ih A2 (c0 - j.toNat) (l0.drop j.toNat) u W (Kd.C_below (Kd.C_of_reads (h1 := fun _ => rfl) (hA2 _ (Kd.reads_of_C hr0))) hB) hC2 hu).mono (by
        rintro e w' ⟨b, rfl, h5, h6⟩
        exact ⟨b, rfl, h5.lower hB.size, below_step hB h6, h6⟩)⟩
      rw [← hva] at hcut1
      rw [← hvb] at hcut2
      have HW : Aside0 (wrap64 ((l0.length : Int) + 1) = (l0.length : Int) + 1 ∧ Int.tdiv ((l0.length : Int) + 1) 2 = j ∧ wrap64 j = j) := ⟨hw1, hw2, hw3⟩
      have hj2 : ((l0.length : Int) + 1) / 2 = j := by omega
      clear hA1 hA2 hC1 hC2 hs hu ih hr0 hc0 hi016 hsz16 hjn hw1 hw2 hw3 hj hva hvb
      go_enter Try.func37, Try.ntmps37
      go_wp2
      simp only [hj2]
      go_region_held3 (fun w' => Below w.heap.size w w') (first | assumption | exact below_drew (Below.refl _ _) | exact below_alloc (by assumption) _) (first | (go_at_call_of 37 va; refine (HS.out _ (by assumption)).mono ?_; rintro e w1 ⟨b1, rfl, ht1, hb1⟩; have HT1 := Aside0.mk ht1; clear ht1) | (go_at_call_of 37 vb; refine (HT.out _ (by assumption)).mono ?_; rintro e w2 ⟨b2, rfl, ht2, hb2, hb3⟩; have HT2 := Aside0.mk ht2; have HT3 := Aside0.mk (HT1.out.below hb3); clear ht2 hb3))
      all_goals
        rename_i hHeld_
        have HK := Aside0.mk hHeld_
        have HSZ := Aside0.mk hb2.size
        clear hHeld_ hb1 hb2
        go_wp2
        go_ret
        refine ⟨w2.heap.size, by first | rfl | simp, ⟨HSZ.out, b1, b2, ?_, TrAt.below (below_alloc (Below.refl _ _) _) HT3.out, TrAt.below (below_alloc (Below.refl _ _) _) HT2.out⟩, HK.out⟩
        exact ArrW.new w2 60 [.slice none 0 0, .pointer (some ⟨b1, 0, none⟩), .pointer (some ⟨b2, 0, none⟩)]
    · rw [if_neg h2] at h'
      exact absurd h' (by simp)

end Go.Proofs.Ytlojkjkbocfmfaa.P
