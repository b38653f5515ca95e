/- Each call of a Go function named below comes to exactly the answers of the Lean function of its name, and a law row follows from its plain statement. No condition beyond those that each theorem states. -/
import Derived.Test.YtlojkjkbocfmfaaPx0
import Derived.Test.YtlojkjkbocfmfaaPx1
import Derived.Deep.RegionHeld3
namespace Go.Proofs.Ytlojkjkbocfmfaa.P
open Go.RowKit Go.Proofs.YtlojkjkbocfmfaaW.PrintWords Go.Proofs.YtlojkjkbocfmfaaW.PrintLast Go.Proofs.YtlojkjkbocfmfaaW.PrintMore
attribute [local go_sem] max2_int min2_int max_two min_two max_three min_three max_four min_four   -- for this text's walks alone
set_option linter.unusedVariables false
set_option linter.unusedSimpArgs false

/-! ### impl_tree_raw: function 44 -/
--@IMPORT Derived.Deep.RegionHeld3
def impl_tree_raw.f : Tr → Int
  | .leaf l => l.length
  | .node s t => wrap64 (2 * wrap64 (impl_tree_raw.f s + impl_tree_raw.f t))
/-- Two cells stay, and what lay ahead of the call stays. -/
theorem tr_kp {a a' : Addr} {v v' : Value} {W0 W W' : World} (h : W.cell? a = some v ∧ W.cell? a' = some v' ∧ Below W0.heap.size W0 W) (hb : Below W.heap.size W W') : W'.cell? a = some v ∧ W'.cell? a' = some v' ∧ Below W0.heap.size W0 W' :=
  ⟨(hb.cell (World.block_lt_of_cell? W _ h.1)).trans h.1, (hb.cell (World.block_lt_of_cell? W _ h.2.1)).trans h.2.1, below_step h.2.2 hb⟩
set_option maxHeartbeats 2000000 in
set_option maxRecDepth 100000 in
theorem impl_tree_raw.calls (t : Tr) : ∀ (n b : Nat) (w : World), TrAt 60 3 n w t b →
    Calls Try.prog 44 #[.pointer (some ⟨b, 0, none⟩)] w fun e w' => e = .returned (.int .i64 (impl_tree_raw.f t)) ∧ Below w.heap.size w w' := by
  induction t with
  | leaf l =>
    intro n b w h
    have hI := impl_tree_isLeaf.calls (.leaf l) n b w h
    obtain ⟨-, v, h1, h3⟩ := h
    obtain ⟨A, c, rfl⟩ := Kd.R_slice h3
    have h2 := (h1.at 0 (.slice A l.length c) rfl).1
    clear h1
    go_enter Try.func44, Try.ntmps44
    go_wp2_with (go_at_call 47; refine hI.mono ?_; rintro e w' ⟨rfl, hw'⟩; rw [hw', show Tr.isLeaf (.leaf l) = true from rfl]; clear hw')
    go_ret
    exact ⟨rfl, Below.refl _ _⟩
  | node s t ihs iht =>
    intro n b w h
    have hI := impl_tree_isLeaf.calls (.node s t) n b w h
    obtain ⟨-, p, q, h1, h2, h3⟩ := h
    have h4 := (h1.at 1 (.pointer (some ⟨p, 0, none⟩)) rfl).1
    have h5 := (h1.at 2 (.pointer (some ⟨q, 0, none⟩)) rfl).1
    obtain ⟨vp, hvp⟩ : ∃ v, v = Value.pointer (some ⟨p, 0, none⟩) := ⟨_, rfl⟩
    obtain ⟨vq, hvq⟩ : ∃ v, v = Value.pointer (some ⟨q, 0, none⟩) := ⟨_, rfl⟩
    have HS : Aside0 (∀ W, Below w.heap.size w W → Calls Try.prog 44 #[vp] W fun e w' => e = .returned (.int .i64 (impl_tree_raw.f s)) ∧ Below W.heap.size W w') := ⟨fun W hB => by rw [hvp]; exact ihs n p W (h2.below hB)⟩
    have HT : Aside0 (∀ W, Below w.heap.size w W → Calls Try.prog 44 #[vq] W fun e w' => e = .returned (.int .i64 (impl_tree_raw.f t)) ∧ Below W.heap.size W w') := ⟨fun W hB => by rw [hvq]; exact iht n q W (h3.below hB)⟩
    rw [← hvp] at h4
    rw [← hvq] at h5
    clear h1 h2 h3 ihs iht hvp hvq
    go_enter Try.func44, Try.ntmps44
    go_wp2_with (go_at_call 47; refine hI.mono ?_; rintro e w' ⟨rfl, hw'⟩; rw [hw', show Tr.isLeaf (.node s t) = false from rfl]; clear hw')
    go_region_held3 (fun w' => w'.cell? ⟨b, 1, none⟩ = some vp ∧ w'.cell? ⟨b, 2, none⟩ = some vq ∧ Below w.heap.size w w') (first | exact ⟨by (first | assumption | (simp; assumption)), by (first | assumption | (simp; assumption)), below_drew (Below.refl _ _)⟩ | exact tr_kp (by assumption) hb' | exact tr_kp ⟨by assumption, by assumption, by assumption⟩ hb') (first | (go_at_call_of 44 vp; refine (HS.out _ (And.right (And.right (by assumption)))).mono ?_; rintro e w' ⟨rfl, hb'⟩) | (go_at_call_of 44 vq; refine (HT.out _ (And.right (And.right (by assumption)))).mono ?_; rintro e w' ⟨rfl, hb'⟩))
    all_goals (rename_i hHeld_; have HK := Aside0.mk hHeld_.2.2; clear hHeld_; go_wp2; go_ret; exact ⟨by simp only [impl_tree_raw.f, i64_w]; rfl, HK.out⟩)

end Go.Proofs.Ytlojkjkbocfmfaa.P
