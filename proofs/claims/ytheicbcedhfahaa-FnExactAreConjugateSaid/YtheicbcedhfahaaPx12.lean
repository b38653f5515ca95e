/- Each call of a Go function named below comes to exactly the answers of the Lean function of its name, and a law row follows from its plain statement. No condition beyond those that each theorem states. -/
import Derived.Test.YtheicbcedhfahaaPx0
import Derived.Test.YtheicbcedhfahaaPx3
import Derived.Test.YtheicbcedhfahaaPx4
import Derived.Test.YtheicbcedhfahaaPx10
import Derived.Test.YtheicbcedhfahaaPx11
import Derived.Deep.RegionHeld3
namespace Go.Proofs.Ytheicbcedhfahaa.P
open Go.RowKit Go.Proofs.YtheicbcedhfahaaW.PrintWords Go.Proofs.YtheicbcedhfahaaW.PrintLast Go.Proofs.YtheicbcedhfahaaW.PrintMore
attribute [local go_sem] max2_int min2_int max_two min_two max_three min_three max_four min_four   -- for this text's walks alone
set_option linter.unusedVariables false
set_option linter.unusedSimpArgs false

/-! ### impl_taken: function 113 -/
--@IMPORT Derived.Deep.RegionHeld3
def impl_taken.p (a1 x : Int) : Bool := (Go.bits .and .i64 a1 ((impl_nailBit.f x).getD 0) != 0)
def impl_taken.f (k : Nat) (l0 : List Int) (a1 : Int) : Option (List Int) := if l0.length < 17592186044416 ∧ (l0.all fun x => (impl_nailBit.f x).isSome) = true then impl_reduced.f k (l0.filter fun x => !impl_taken.p a1 x) else none
theorem impl_taken.mono : ∀ a0 a1 k, LeO (impl_taken.f k a0 a1) (impl_taken.f (k + 1) a0 a1) := by
  intro a0 a1 k
  unfold impl_taken.f
  split
  · exact impl_reduced.mono _ _
  · exact LeO.refl _
theorem impl_taken.kp {a : Addr} {v : Value} {W0 W W' : World} (h : W.cell? a = some v ∧ Below W0.heap.size W0 W) (hb : Below W.heap.size W W') : W'.cell? a = some v ∧ Below W0.heap.size W0 W' := ⟨(hb.cell (World.block_lt_of_cell? W _ h.1)).trans h.1, below_step h.2 hb⟩
set_option maxHeartbeats 1000000 in
theorem impl_taken.lit (a1 x : Int) (B : Nat) (w : World) (hB : w.cell? ⟨B, 0, none⟩ = some (.int .i64 a1)) (hs : (impl_nailBit.f x).isSome = true) : Calls Try.prog 128 #[.int .i64 x, .pointer (some ⟨B, 0, none⟩)] w fun e w' => e = .returned (.bool (impl_taken.p a1 x)) ∧ Below w.heap.size w w' := by
  obtain ⟨y, hy⟩ := Option.isSome_iff_exists.1 hs
  have HP : Aside0 (impl_taken.p a1 x = (Go.bits .and .i64 a1 y != 0)) := ⟨by unfold impl_taken.p; rw [hy]; rfl⟩
  clear hs
  have HN : ∀ W, Calls Try.prog 71 #[.int .i64 x] W fun e w' => e = .returned (.int .i64 y) ∧ Below W.heap.size W w' := fun W => impl_nailBit.calls x y W hy
  clear hy
  go_enter Try.func128, Try.ntmps128
  go_wp2
  go_region_held3 (fun w' => w'.cell? ⟨B, 0, none⟩ = some (.int .i64 a1) ∧ Below w.heap.size w w') (first | exact ⟨by (first | assumption | (simp; assumption)), below_drew (Below.refl _ _)⟩ | exact impl_taken.kp (by assumption) hb' | exact impl_taken.kp ⟨by assumption, by assumption⟩ hb') ((go_at_call 71; refine (HN _).mono ?_; rintro e w' ⟨rfl, hb'⟩))
  all_goals (rename_i hHeld_; have HK := Aside0.mk hHeld_.2; clear hHeld_; go_wp2; go_ret; exact ⟨by rw [HP.out]; rfl, HK.out⟩)
set_option maxHeartbeats 4000000 in
set_option maxRecDepth 100000 in
theorem impl_taken.calls (k : Nat) (A0 : Option Addr) (c0 : Nat) (l0 : List Int) (a1 : Int) (r : List Int) (w : World) (hr0 : Kd.C (Kd.int .i64) w A0 l0.length l0) (hc0 : l0.length ≤ c0) (h : impl_taken.f k l0 a1 = some r) :
    Calls Try.prog 113 #[.slice A0 l0.length c0, .int .i64 a1] w fun e w' => ∃ v0_ : Value, e = .returned (v0_) ∧ Kd.R (Kd.int .i64) 3 w' w.heap.size (fun _ => True) v0_ r ∧ Below w.heap.size w w' := by
  unfold impl_taken.f at h
  by_cases hif : l0.length < 17592186044416 ∧ (l0.all fun x => (impl_nailBit.f x).isSome) = true
  · rw [if_pos hif] at h
    obtain ⟨hl, hall⟩ := hif
    rw [List.all_eq_true] at hall
    have eg : ∀ args w, (callFunc 128 args).run Try.prog w = .ok (.enter 128 args) w := enters_of Try.func128 (by kernel_rfl) rfl
    have HH := Aside0.mk h
    have HALL := Aside0.mk hall
    obtain ⟨w1, hw1⟩ : ∃ w1, w1 = w.alloc (.cells #[.int .i64 a1] 3) := ⟨_, rfl⟩
    have hb1 : Below w.heap.size w w1 := by rw [hw1]; exact below_alloc (Below.refl _ _) _
    have hcell : w1.cell? ⟨w.heap.size, 0, none⟩ = some (.int .i64 a1) := by rw [hw1]; exact cell_one_new w (.int .i64 a1) 3 0 _ rfl
    have hsz : w1.heap.size = w.heap.size + 1 := by rw [hw1]; simp
    have hC := slices_Clone_int_int.calls A0 c0 l0 l0 w1 (Kd.C_below hr0 hb1) hc0 (by unfold slices_Clone_int_int.f; rw [if_pos hl])
    have HCL := Aside0.mk hC
    have HB1 := Aside0.mk hb1
    have HCE := Aside0.mk hcell
    have HSZ := Aside0.mk hsz
    have HW1 := Aside0.mk hw1.symm
    clear hC hb1 hcell hsz hr0 h hall hl
    have HRED : ∀ (A : Option Addr) (c : Nat) (W : World), Kd.C (Kd.int .i64) W A (l0.filter fun x => !impl_taken.p a1 x).length (l0.filter fun x => !impl_taken.p a1 x) → (l0.filter fun x => !impl_taken.p a1 x).length ≤ c → Calls Try.prog 70 #[.slice A (l0.filter fun x => !impl_taken.p a1 x).length c] W fun e w' => ∃ v0_ : Value, e = .returned (v0_) ∧ Kd.R (Kd.int .i64) 3 w' W.heap.size (fun _ => True) v0_ r ∧ Below W.heap.size W w' :=
      fun A c W hC hc => impl_reduced.calls k A c _ r W hC hc HH.out
    have hdel : ∀ (v : Value) (w2 : World), Kd.R (Kd.int .i64) 3 w2 w1.heap.size (fun _ => True) v l0 → Below w1.heap.size w1 w2 → Calls Try.prog 127 #[v, .func (.func 128) #[] #[.pointer (some ⟨w.heap.size, 0, none⟩)]] w2 fun e w' =>
        ∃ (A : Option Addr) (c : Nat), e = .returned (.slice A (l0.filter fun x => !impl_taken.p a1 x).length c) ∧ Kd.C (Kd.int .i64) w' A (l0.filter fun x => !impl_taken.p a1 x).length (l0.filter fun x => !impl_taken.p a1 x) ∧ (l0.filter fun x => !impl_taken.p a1 x).length ≤ c ∧ Below w.heap.size w w' := by
      intro v w2 hR hb2
      have hbb : Below w.heap.size w w2 := HB1.out.trans (hb2.mono (by rw [HSZ.out]; omega))
      by_cases h0 : 0 < l0.length
      · obtain ⟨b, cap, rfl, hbb0, -, -⟩ := Kd.R_form hR h0
        have hcx : w2.cell? ⟨w.heap.size, 0, none⟩ = some (.int .i64 a1) := (hb2.cell (World.block_lt_of_cell? w1 _ HCE.out)).trans HCE.out
        have hne : b ≠ w.heap.size := by have := HSZ.out; omega
        refine (slices_DeleteFunc_int_int.own (impl_taken.p a1) 128 #[.pointer (some ⟨w.heap.size, 0, none⟩)] eg (fun W => W.cell? ⟨w.heap.size, 0, none⟩ = some (.int .i64 a1)) (fun W W' hI hB => (hB.cell (World.block_lt_of_cell? W _ hI)).trans hI) b cap
          (fun W i u hI => by rw [World.cell?_setCell_other]; exact hI; intro e; injection e with e1; exact hne e1) _ l0 w1 w2 hR hb2 hcx (fun x hx W hI => impl_taken.lit a1 x w.heap.size W hI (HALL.out x hx))).mono ?_
        rintro e w3 ⟨rfl, h1, h2⟩
        exact ⟨_, _, rfl, (Kd.R_reads' h1).2.2, (Kd.R_reads' h1).2.1, HB1.out.trans (h2.mono (by rw [HSZ.out]; omega))⟩
      · have hl : l0 = [] := by cases l0 with | nil => rfl | cons x l => simp at h0
        subst hl
        obtain ⟨A, c, rfl⟩ := Kd.R_slice hR
        refine (slices_DeleteFunc_int_int.own0 128 #[.pointer (some ⟨w.heap.size, 0, none⟩)] A c w2).mono ?_
        rintro e w3 ⟨rfl, h1⟩
        exact ⟨A, c, rfl, (Kd.R_reads' (Kd.R_below hR h1)).2.2, (Kd.R_reads' hR).2.1, below_step hbb h1⟩
    clear hw1 HH HALL
    generalize (l0.filter fun x => !impl_taken.p a1 x) = fl at hdel HRED
    go_enter Try.func113, Try.ntmps113
    go_wp2_with (first | (go_at_call 54; rw [HW1.out]; refine HCL.out.mono ?_; rintro e w2 ⟨v, rfl, hR, hb2⟩) | (go_at_call 127; refine (hdel v w2 hR hb2).mono ?_; rintro e w3 ⟨A3, c3, rfl, hC3, hc3, hb3⟩) | (go_at_call 70; refine (HRED A3 c3 w3 hC3 hc3).mono ?_; rintro e w4 ⟨v4, rfl, hR4, hb4⟩))
    go_ret
    exact ⟨v4, rfl, Kd.R_lower hR4 hb3.size, below_step hb3 hb4⟩
  · rw [if_neg hif] at h
    exact absurd h (by simp)

end Go.Proofs.Ytheicbcedhfahaa.P
