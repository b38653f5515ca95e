/- Each call of a Go function named below comes to exactly the answers of the Lean function of its name, and a law row follows from its plain statement. No condition beyond those that each theorem states. -/
import Derived.Test.YtlojkjkbocfmfaaPx0
import Derived.Test.YtlojkjkbocfmfaaPx1
import Derived.Test.YtlojkjkbocfmfaaPx12
import Derived.Test.YtlojkjkbocfmfaaPx16
import Derived.Deep.RegionHeld3
namespace Go.Proofs.Ytlojkjkbocfmfaa.P
open Go.RowKit Go.Proofs.YtlojkjkbocfmfaaW.PrintWords Go.Proofs.YtlojkjkbocfmfaaW.PrintLast Go.Proofs.YtlojkjkbocfmfaaW.PrintMore
attribute [local go_sem] max2_int min2_int max_two min_two max_three min_three max_four min_four   -- for this text's walks alone
set_option linter.unusedVariables false
set_option linter.unusedSimpArgs false

/-! ### impl_tree_text: function 38 -/
--@IMPORT Derived.Deep.RegionHeld3
def impl_tree_text.f (k : Nat) : Tr → Option ByteArray
  | .leaf l => impl_wordText.f k l
  | .node s t => (impl_tree_text.f k s).bind fun a => (impl_tree_text.f k t).bind fun b => if 3 + a.size + b.size ≤ 9223372036854775807 then some ((⟨#[91]⟩ : ByteArray) ++ a ++ (⟨#[44]⟩ : ByteArray) ++ b ++ (⟨#[93]⟩ : ByteArray)) else none
theorem impl_tree_text.mono : ∀ (t : Tr) k, LeO (impl_tree_text.f k t) (impl_tree_text.f (k + 1) t)
  | .leaf l, k => impl_wordText.mono l k
  | .node s t, k => LeO.bind (impl_tree_text.mono s k) (fun _ => LeO.bind (impl_tree_text.mono t k) (fun _ => LeO.refl _))
set_option maxHeartbeats 4000000 in
set_option maxRecDepth 100000 in
theorem impl_tree_text.calls (k : Nat) (t : Tr) : ∀ (n b : Nat) (r : ByteArray) (w : World), TrAt 60 3 n w t b → impl_tree_text.f k t = some r →
    Calls Try.prog 38 #[.pointer (some ⟨b, 0, none⟩)] w fun e w' => e = .returned (.string r) ∧ Below w.heap.size w w' := by
  induction t with
  | leaf l =>
    intro n b r w h hf
    have hI := impl_tree_isLeaf.calls (.leaf l) n b w h
    obtain ⟨-, v, h1, h3⟩ := h
    obtain ⟨A, c, rfl⟩ := Kd.R_slice h3
    have h2 := (h1.at 0 (.slice A l.length c) rfl).1
    have hW := Aside0.mk (impl_wordText.calls k A c l r w (Kd.R_reads' h3).2.2 (Kd.R_reads' h3).2.1 hf)
    clear h1 h3
    go_enter Try.func38, Try.ntmps38
    go_wp2_with (first | (go_at_call 47; refine hI.mono ?_; rintro e w' ⟨rfl, hw'⟩; rw [hw', show Tr.isLeaf (.leaf l) = true from rfl]; clear hw') | (go_at_call 56; refine hW.out.mono ?_; rintro e w1 ⟨rfl, hb1⟩))
    go_ret
    exact ⟨rfl, hb1⟩
  | node s t ihs iht =>
    intro n b r w h hf
    have hI := impl_tree_isLeaf.calls (.node s t) n b w h
    obtain ⟨x, hx, hf⟩ := Option.bind_eq_some_iff.1 hf
    obtain ⟨y, hy, hf⟩ := Option.bind_eq_some_iff.1 hf
    by_cases hsz : 3 + x.size + y.size ≤ 9223372036854775807
    · rw [if_pos hsz] at hf
      have HR := Aside0.mk (Option.some.inj hf).symm
      obtain ⟨-, p, q, h1, h2, h3⟩ := h
      have h4 := (h1.at 1 (.pointer (some ⟨p, 0, none⟩)) rfl).1
      have h5 := (h1.at 2 (.pointer (some ⟨q, 0, none⟩)) rfl).1
      obtain ⟨vp, hvp⟩ : ∃ v, v = Value.pointer (some ⟨p, 0, none⟩) := ⟨_, rfl⟩
      obtain ⟨vq, hvq⟩ : ∃ v, v = Value.pointer (some ⟨q, 0, none⟩) := ⟨_, rfl⟩
      have HS : Aside0 (∀ W, Below w.heap.size w W → Calls Try.prog 38 #[vp] W fun e w' => e = .returned (.string x) ∧ Below W.heap.size W w') := ⟨fun W hB => by rw [hvp]; exact ihs n p x W (h2.below hB) hx⟩
      have HT : Aside0 (∀ W, Below w.heap.size w W → Calls Try.prog 38 #[vq] W fun e w' => e = .returned (.string y) ∧ Below W.heap.size W w') := ⟨fun W hB => by rw [hvq]; exact iht n q y W (h3.below hB) hy⟩
      rw [← hvp] at h4
      rw [← hvq] at h5
      have k1 : (9223372036854775807 < 1 + x.size) = False := eq_false (by omega)
      have k2 : (9223372036854775807 < 1 + x.size + 1) = False := eq_false (by omega)
      have k3 : (9223372036854775807 < 1 + x.size + 1 + y.size) = False := eq_false (by omega)
      have k4 : (9223372036854775807 < 1 + x.size + 1 + y.size + 1) = False := eq_false (by omega)
      clear h1 h2 h3 ihs iht hvp hvq hf hx hy hsz
      go_enter Try.func38, Try.ntmps38
      go_wp2_with (go_at_call 47; refine hI.mono ?_; rintro e w' ⟨rfl, hw'⟩; rw [hw', show Tr.isLeaf (.node s t) = false from rfl]; clear hw')
      go_region_held3 (fun w' => w'.cell? ⟨b, 1, none⟩ = some vp ∧ w'.cell? ⟨b, 2, none⟩ = some vq ∧ Below w.heap.size w w') (first | exact ⟨by (first | assumption | (simp; assumption)), by (first | assumption | (simp; assumption)), below_drew (Below.refl _ _)⟩ | exact tr_kp (by assumption) hb' | exact tr_kp ⟨by assumption, by assumption, by assumption⟩ hb') (first | (go_at_call_of 38 vp; refine (HS.out _ (And.right (And.right (by assumption)))).mono ?_; rintro e w' ⟨rfl, hb'⟩) | (go_at_call_of 38 vq; refine (HT.out _ (And.right (And.right (by assumption)))).mono ?_; rintro e w' ⟨rfl, hb'⟩))
      all_goals (rename_i hHeld_; have HK := Aside0.mk hHeld_.2.2; clear hHeld_; go_wp2; go_ret; exact ⟨by rw [HR.out]; rfl, HK.out⟩)
    · rw [if_neg hsz] at hf
      exact absurd hf (by simp)

end Go.Proofs.Ytlojkjkbocfmfaa.P
