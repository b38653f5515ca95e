/- FnExactChecksum's pure statement: both loops over a string's bytes give one checksum. No condition. -/
import Derived.Test.YtgdpgnlajaphaaaPFnExactChecksumx1
namespace Go.Proofs.Ytgdpgnlajaphaaa.Pure
open Go.RowKit Go.Proofs.Ytgdpgnlajaphaaa.PFnExactChecksum Go.Proofs.YtgdpgnlajaphaaaW.PrintWords Go.Proofs.YtgdpgnlajaphaaaW.PrintLast
theorem sum_round (s : ByteArray) (hs : s.size ≤ 140737488351232) (d : Nat) : ∀ (k : Nat) (h i : Int), 0 ≤ i → i ≤ s.size → (s.size : Int) - i = d → d < k →
    ∃ r, spec_l1Sum.l0 k s h i = some r ∧ impl_checksum.l0 k s h (s.size : Int) i = some r := by
  induction d with
  | zero =>
    intro k h i h0 h1 hd hk
    obtain ⟨k, rfl⟩ : ∃ m, k = m + 1 := ⟨k - 1, by omega⟩
    refine ⟨h, ?_, ?_⟩
    · simp only [spec_l1Sum.l0]; rw [if_neg (by omega)]
    · simp only [impl_checksum.l0]; rw [if_neg (by omega)]
  | succ d ih =>
    intro k h i h0 h1 hd hk
    obtain ⟨k, rfl⟩ : ∃ m, k = m + 1 := ⟨k - 1, by omega⟩
    have hlt : i < (s.size : Int) := by omega
    have hw : wrap64 (i + 1) = i + 1 := by unfold wrap64; omega
    obtain ⟨r, a, b⟩ := ih k (Int.tmod (wrap64 ((wrap64 ((wrap64 (41 * h)) + (wrap64 (bt s i)))) + 1)) 999979) (i + 1) (by omega) (by omega) (by omega) (by omega)
    refine ⟨r, ?_, ?_⟩
    · simp only [spec_l1Sum.l0]; rw [if_pos hlt, if_pos h0, hw]; exact a
    · simp only [impl_checksum.l0]; rw [if_pos hlt, if_pos h0, if_pos hlt, hw]; exact b

theorem FnExactChecksum : laws_FnExactChecksum.Pure := by
  intro s hs
  obtain ⟨r, a, b⟩ := sum_round s hs s.size (s.size + 1) 7 0 (by omega) (by omega) (by omega) (by omega)
  refine ⟨s.size + 1, ?_⟩
  unfold laws_FnExactChecksum.f spec_Checksum.f impl_Checksum.f spec_l1Sum.f impl_checksum.f
  by_cases h : (s.size : Int) > 1048576
  · rw [if_pos h]
  · rw [if_neg h]
    by_cases h4 : (s.size : Int) > 4000
    · simp [h4]
    · simp [h4, a, b]
end Go.Proofs.Ytgdpgnlajaphaaa.Pure
