/- Each call of a Go function named below comes to exactly the answers of the Lean function of its name, and a law row follows from its plain statement. No condition beyond those that each theorem states. -/
import Derived.Test.YtlojkjkbocfmfaaPx0
import Derived.Test.YtlojkjkbocfmfaaPx4
import Derived.Test.YtlojkjkbocfmfaaPx13
namespace Go.Proofs.Ytlojkjkbocfmfaa.P
open Go.RowKit Go.Proofs.YtlojkjkbocfmfaaW.PrintWords Go.Proofs.YtlojkjkbocfmfaaW.PrintLast Go.Proofs.YtlojkjkbocfmfaaW.PrintMore
attribute [local go_sem] max2_int min2_int max_two min_two max_three min_three max_four min_four   -- for this text's walks alone
set_option linter.unusedVariables false
set_option linter.unusedSimpArgs false

/-! ### spec_SwapTree: function 27 -/
def spec_SwapTree.f (k : Nat) (a0 : ByteArray) : Option (ByteArray × Bool) := (spec_IsTree.f k a0).bind fun t385 => (if t385 = true then (if 0 < (a0.size : Int) then (if (bt a0 0) = 91 then (if 1 ≤ (a0.size : Int) then ((spec_l4Read.f k (a0.extract 1 a0.size)).bind fun bt386 => (if 0 ≤ (wrap64 (2 + bt386.1)) then (if (wrap64 (2 + bt386.1)) ≤ (wrap64 ((a0.size : Int) - 1)) then (if (wrap64 ((a0.size : Int) - 1)) ≤ (a0.size : Int) then (if 1 + (a0.extract ((wrap64 (2 + bt386.1)) : Int).toNat ((wrap64 ((a0.size : Int) - 1)) : Int).toNat).size ≤ 9223372036854775807 then (if ((⟨#[91]⟩ : ByteArray) ++ (a0.extract ((wrap64 (2 + bt386.1)) : Int).toNat ((wrap64 ((a0.size : Int) - 1)) : Int).toNat)).size + 1 ≤ 9223372036854775807 then (if 1 ≤ (wrap64 (1 + bt386.1)) then (if (wrap64 (1 + bt386.1)) ≤ (a0.size : Int) then (if (((⟨#[91]⟩ : ByteArray) ++ (a0.extract ((wrap64 (2 + bt386.1)) : Int).toNat ((wrap64 ((a0.size : Int) - 1)) : Int).toNat)) ++ (⟨#[44]⟩ : ByteArray)).size + (a0.extract 1 ((wrap64 (1 + bt386.1)) : Int).toNat).size ≤ 9223372036854775807 then (if ((((⟨#[91]⟩ : ByteArray) ++ (a0.extract ((wrap64 (2 + bt386.1)) : Int).toNat ((wrap64 ((a0.size : Int) - 1)) : Int).toNat)) ++ (⟨#[44]⟩ : ByteArray)) ++ (a0.extract 1 ((wrap64 (1 + bt386.1)) : Int).toNat)).size + 1 ≤ 9223372036854775807 then (some (((((⟨#[91]⟩ : ByteArray) ++ (a0.extract ((wrap64 (2 + bt386.1)) : Int).toNat ((wrap64 ((a0.size : Int) - 1)) : Int).toNat)) ++ (⟨#[44]⟩ : ByteArray)) ++ (a0.extract 1 ((wrap64 (1 + bt386.1)) : Int).toNat)) ++ (⟨#[93]⟩ : ByteArray), true)) else (none)) else (none)) else (none)) else (none)) else (none)) else (none)) else (none)) else (none)) else (none))) else (none)) else (some ((⟨#[]⟩ : ByteArray), false))) else (none)) else (some ((⟨#[]⟩ : ByteArray), false)))
theorem spec_SwapTree.mono : ∀ a0 k, LeO (spec_SwapTree.f k a0) (spec_SwapTree.f (k + 1) a0) := by
  intro a0 k
  unfold spec_SwapTree.f
  repeat' first
      | (with_reducible exact spec_IsTree.mono _ _)
      | (with_reducible exact spec_l4Read.mono _ _)
      | (with_reducible exact LeO.refl _)
      | (with_reducible exact LeO.none _)
      | (with_reducible refine LeO.ite ?_ ?_)
      | (with_reducible refine LeO.bind ?_ (fun _ => ?_))
      | exact spec_IsTree.mono _ _
      | exact spec_l4Read.mono _ _
      | exact LeO.none _
      | refine LeO.ite ?_ ?_
      | refine LeO.bind ?_ (fun _ => ?_)
set_option maxHeartbeats 8000000 in
set_option maxRecDepth 100000 in
theorem spec_SwapTree.calls (k : Nat) (a0 : ByteArray) (r1 : ByteArray) (r2 : Bool) (w : World) (h : spec_SwapTree.f k a0 = some (r1, r2)) :
    Calls Try.prog 27 #[.string a0] w fun e w' => e = .returned (.tuple #[.string r1, .bool r2]) ∧ Below w.heap.size w w' := by
  have hu50 := Try.underlying50
  have HB := Aside0.mk (Below.refl w.heap.size w)
  have H : ((spec_IsTree.f k a0).bind fun t385 => (if t385 = true then (if 0 < (a0.size : Int) then (if (bt a0 0) = 91 then (if 1 ≤ (a0.size : Int) then ((spec_l4Read.f k (a0.extract 1 a0.size)).bind fun bt386 => (if 0 ≤ (wrap64 (2 + bt386.1)) then (if (wrap64 (2 + bt386.1)) ≤ (wrap64 ((a0.size : Int) - 1)) then (if (wrap64 ((a0.size : Int) - 1)) ≤ (a0.size : Int) then (if 1 + (a0.extract ((wrap64 (2 + bt386.1)) : Int).toNat ((wrap64 ((a0.size : Int) - 1)) : Int).toNat).size ≤ 9223372036854775807 then (if ((⟨#[91]⟩ : ByteArray) ++ (a0.extract ((wrap64 (2 + bt386.1)) : Int).toNat ((wrap64 ((a0.size : Int) - 1)) : Int).toNat)).size + 1 ≤ 9223372036854775807 then (if 1 ≤ (wrap64 (1 + bt386.1)) then (if (wrap64 (1 + bt386.1)) ≤ (a0.size : Int) then (if (((⟨#[91]⟩ : ByteArray) ++ (a0.extract ((wrap64 (2 + bt386.1)) : Int).toNat ((wrap64 ((a0.size : Int) - 1)) : Int).toNat)) ++ (⟨#[44]⟩ : ByteArray)).size + (a0.extract 1 ((wrap64 (1 + bt386.1)) : Int).toNat).size ≤ 9223372036854775807 then (if ((((⟨#[91]⟩ : ByteArray) ++ (a0.extract ((wrap64 (2 + bt386.1)) : Int).toNat ((wrap64 ((a0.size : Int) - 1)) : Int).toNat)) ++ (⟨#[44]⟩ : ByteArray)) ++ (a0.extract 1 ((wrap64 (1 + bt386.1)) : Int).toNat)).size + 1 ≤ 9223372036854775807 then (some (((((⟨#[91]⟩ : ByteArray) ++ (a0.extract ((wrap64 (2 + bt386.1)) : Int).toNat ((wrap64 ((a0.size : Int) - 1)) : Int).toNat)) ++ (⟨#[44]⟩ : ByteArray)) ++ (a0.extract 1 ((wrap64 (1 + bt386.1)) : Int).toNat)) ++ (⟨#[93]⟩ : ByteArray), true)) else (none)) else (none)) else (none)) else (none)) else (none)) else (none)) else (none)) else (none)) else (none))) else (none)) else (some ((⟨#[]⟩ : ByteArray), false))) else (none)) else (some ((⟨#[]⟩ : ByteArray), false)))) = some (r1, r2) := h
  clear h
  replace H := Option.bind_eq_some_iff.mp H
  obtain ⟨t385, A20, H⟩ := H
  replace H : (if t385 = true then (if 0 < (a0.size : Int) then (if (bt a0 0) = 91 then (if 1 ≤ (a0.size : Int) then ((spec_l4Read.f k (a0.extract 1 a0.size)).bind fun bt386 => (if 0 ≤ (wrap64 (2 + bt386.1)) then (if (wrap64 (2 + bt386.1)) ≤ (wrap64 ((a0.size : Int) - 1)) then (if (wrap64 ((a0.size : Int) - 1)) ≤ (a0.size : Int) then (if 1 + (a0.extract ((wrap64 (2 + bt386.1)) : Int).toNat ((wrap64 ((a0.size : Int) - 1)) : Int).toNat).size ≤ 9223372036854775807 then (if ((⟨#[91]⟩ : ByteArray) ++ (a0.extract ((wrap64 (2 + bt386.1)) : Int).toNat ((wrap64 ((a0.size : Int) - 1)) : Int).toNat)).size + 1 ≤ 9223372036854775807 then (if 1 ≤ (wrap64 (1 + bt386.1)) then (if (wrap64 (1 + bt386.1)) ≤ (a0.size : Int) then (if (((⟨#[91]⟩ : ByteArray) ++ (a0.extract ((wrap64 (2 + bt386.1)) : Int).toNat ((wrap64 ((a0.size : Int) - 1)) : Int).toNat)) ++ (⟨#[44]⟩ : ByteArray)).size + (a0.extract 1 ((wrap64 (1 + bt386.1)) : Int).toNat).size ≤ 9223372036854775807 then (if ((((⟨#[91]⟩ : ByteArray) ++ (a0.extract ((wrap64 (2 + bt386.1)) : Int).toNat ((wrap64 ((a0.size : Int) - 1)) : Int).toNat)) ++ (⟨#[44]⟩ : ByteArray)) ++ (a0.extract 1 ((wrap64 (1 + bt386.1)) : Int).toNat)).size + 1 ≤ 9223372036854775807 then (some (((((⟨#[91]⟩ : ByteArray) ++ (a0.extract ((wrap64 (2 + bt386.1)) : Int).toNat ((wrap64 ((a0.size : Int) - 1)) : Int).toNat)) ++ (⟨#[44]⟩ : ByteArray)) ++ (a0.extract 1 ((wrap64 (1 + bt386.1)) : Int).toNat)) ++ (⟨#[93]⟩ : ByteArray), true)) else (none)) else (none)) else (none)) else (none)) else (none)) else (none)) else (none)) else (none)) else (none))) else (none)) else (some ((⟨#[]⟩ : ByteArray), false))) else (none)) else (some ((⟨#[]⟩ : ByteArray), false))) = some (r1, r2) := H
  have A2 := Aside0.mk A20
  clear A20
  by_cases c3 : t385 = true
  · subst c3
    have H1 : (if 0 < (a0.size : Int) then (if (bt a0 0) = 91 then (if 1 ≤ (a0.size : Int) then ((spec_l4Read.f k (a0.extract 1 a0.size)).bind fun bt386 => (if 0 ≤ (wrap64 (2 + bt386.1)) then (if (wrap64 (2 + bt386.1)) ≤ (wrap64 ((a0.size : Int) - 1)) then (if (wrap64 ((a0.size : Int) - 1)) ≤ (a0.size : Int) then (if 1 + (a0.extract ((wrap64 (2 + bt386.1)) : Int).toNat ((wrap64 ((a0.size : Int) - 1)) : Int).toNat).size ≤ 9223372036854775807 then (if ((⟨#[91]⟩ : ByteArray) ++ (a0.extract ((wrap64 (2 + bt386.1)) : Int).toNat ((wrap64 ((a0.size : Int) - 1)) : Int).toNat)).size + 1 ≤ 9223372036854775807 then (if 1 ≤ (wrap64 (1 + bt386.1)) then (if (wrap64 (1 + bt386.1)) ≤ (a0.size : Int) then (if (((⟨#[91]⟩ : ByteArray) ++ (a0.extract ((wrap64 (2 + bt386.1)) : Int).toNat ((wrap64 ((a0.size : Int) - 1)) : Int).toNat)) ++ (⟨#[44]⟩ : ByteArray)).size + (a0.extract 1 ((wrap64 (1 + bt386.1)) : Int).toNat).size ≤ 9223372036854775807 then (if ((((⟨#[91]⟩ : ByteArray) ++ (a0.extract ((wrap64 (2 + bt386.1)) : Int).toNat ((wrap64 ((a0.size : Int) - 1)) : Int).toNat)) ++ (⟨#[44]⟩ : ByteArray)) ++ (a0.extract 1 ((wrap64 (1 + bt386.1)) : Int).toNat)).size + 1 ≤ 9223372036854775807 then (some (((((⟨#[91]⟩ : ByteArray) ++ (a0.extract ((wrap64 (2 + bt386.1)) : Int).toNat ((wrap64 ((a0.size : Int) - 1)) : Int).toNat)) ++ (⟨#[44]⟩ : ByteArray)) ++ (a0.extract 1 ((wrap64 (1 + bt386.1)) : Int).toNat)) ++ (⟨#[93]⟩ : ByteArray), true)) else (none)) else (none)) else (none)) else (none)) else (none)) else (none)) else (none)) else (none)) else (none))) else (none)) else (some ((⟨#[]⟩ : ByteArray), false))) else (none)) = some (r1, r2) := by rw [if_pos rfl] at H; exact H
    clear H
    have H := H1
    clear H1
    by_cases c4 : 0 < (a0.size : Int)
    · rw [if_pos c4] at H
      have c4b0 : decide (0 < (a0.size : Int)) = true := decide_eq_true c4
      have c4b1 : decide (0 < a0.size) = true := decide_eq_true (by omega)
      clear c4
      by_cases c6 : (bt a0 0) = 91
      · rw [if_pos c6] at H
        have c6b0 : ((bt a0 0) == 91) = true := beq_iff_eq.mpr c6
        have c6b1 : ((bt a0 0) != 91) = false := bne_eq_false_iff_eq.mpr c6
        clear c6
        by_cases c7 : 1 ≤ (a0.size : Int)
        · rw [if_pos c7] at H
          have c7b0 := eq_true c7
          have c7b1 : decide (1 ≤ (a0.size : Int)) = true := decide_eq_true c7
          clear c7
          replace H := Option.bind_eq_some_iff.mp H
          obtain ⟨⟨t386, t387, t388, t389, t390⟩, A80, H⟩ := H
          replace H : (if 0 ≤ (wrap64 (2 + t386)) then (if (wrap64 (2 + t386)) ≤ (wrap64 ((a0.size : Int) - 1)) then (if (wrap64 ((a0.size : Int) - 1)) ≤ (a0.size : Int) then (if 1 + (a0.extract ((wrap64 (2 + t386)) : Int).toNat ((wrap64 ((a0.size : Int) - 1)) : Int).toNat).size ≤ 9223372036854775807 then (if ((⟨#[91]⟩ : ByteArray) ++ (a0.extract ((wrap64 (2 + t386)) : Int).toNat ((wrap64 ((a0.size : Int) - 1)) : Int).toNat)).size + 1 ≤ 9223372036854775807 then (if 1 ≤ (wrap64 (1 + t386)) then (if (wrap64 (1 + t386)) ≤ (a0.size : Int) then (if (((⟨#[91]⟩ : ByteArray) ++ (a0.extract ((wrap64 (2 + t386)) : Int).toNat ((wrap64 ((a0.size : Int) - 1)) : Int).toNat)) ++ (⟨#[44]⟩ : ByteArray)).size + (a0.extract 1 ((wrap64 (1 + t386)) : Int).toNat).size ≤ 9223372036854775807 then (if ((((⟨#[91]⟩ : ByteArray) ++ (a0.extract ((wrap64 (2 + t386)) : Int).toNat ((wrap64 ((a0.size : Int) - 1)) : Int).toNat)) ++ (⟨#[44]⟩ : ByteArray)) ++ (a0.extract 1 ((wrap64 (1 + t386)) : Int).toNat)).size + 1 ≤ 9223372036854775807 then (some (((((⟨#[91]⟩ : ByteArray) ++ (a0.extract ((wrap64 (2 + t386)) : Int).toNat ((wrap64 ((a0.size : Int) - 1)) : Int).toNat)) ++ (⟨#[44]⟩ : ByteArray)) ++ (a0.extract 1 ((wrap64 (1 + t386)) : Int).toNat)) ++ (⟨#[93]⟩ : ByteArray), true)) else (none)) else (none)) else (none)) else (none)) else (none)) else (none)) else (none)) else (none)) else (none)) = some (r1, r2) := H
          have A8 := Aside0.mk A80
          clear A80
          obtain ⟨ji9, hji9⟩ : ∃ j_ : Int, (wrap64 (2 + t386)) = j_ := ⟨_, rfl⟩
          replace H : (if 0 ≤ (ji9) then (if (ji9) ≤ (wrap64 ((a0.size : Int) - 1)) then (if (wrap64 ((a0.size : Int) - 1)) ≤ (a0.size : Int) then (if 1 + (a0.extract ((ji9) : Int).toNat ((wrap64 ((a0.size : Int) - 1)) : Int).toNat).size ≤ 9223372036854775807 then (if ((⟨#[91]⟩ : ByteArray) ++ (a0.extract ((ji9) : Int).toNat ((wrap64 ((a0.size : Int) - 1)) : Int).toNat)).size + 1 ≤ 9223372036854775807 then (if 1 ≤ (wrap64 (1 + t386)) then (if (wrap64 (1 + t386)) ≤ (a0.size : Int) then (if (((⟨#[91]⟩ : ByteArray) ++ (a0.extract ((ji9) : Int).toNat ((wrap64 ((a0.size : Int) - 1)) : Int).toNat)) ++ (⟨#[44]⟩ : ByteArray)).size + (a0.extract 1 ((wrap64 (1 + t386)) : Int).toNat).size ≤ 9223372036854775807 then (if ((((⟨#[91]⟩ : ByteArray) ++ (a0.extract ((ji9) : Int).toNat ((wrap64 ((a0.size : Int) - 1)) : Int).toNat)) ++ (⟨#[44]⟩ : ByteArray)) ++ (a0.extract 1 ((wrap64 (1 + t386)) : Int).toNat)).size + 1 ≤ 9223372036854775807 then (some (((((⟨#[91]⟩ : ByteArray) ++ (a0.extract ((ji9) : Int).toNat ((wrap64 ((a0.size : Int) - 1)) : Int).toNat)) ++ (⟨#[44]⟩ : ByteArray)) ++ (a0.extract 1 ((wrap64 (1 + t386)) : Int).toNat)) ++ (⟨#[93]⟩ : ByteArray), true)) else (none)) else (none)) else (none)) else (none)) else (none)) else (none)) else (none)) else (none)) else (none)) = some (r1, r2) := by first | (rw [hji9] at H; exact H) | (simp only [hji9] at H ⊢; exact H)
          (try rw [hji9] at A2)
          (try rw [hji9] at A8)
          have hji9w : (IntKind.i64.wrap (2 + t386)) = ji9 := (i64_w _).trans hji9
          obtain ⟨jwa, hjwa⟩ : ∃ j_ : Int, (wrap64 ((a0.size : Int) - 1)) = j_ := ⟨_, rfl⟩
          obtain ⟨jwb, hjwb⟩ : ∃ j_ : Int, (wrap64 (1 + t386)) = j_ := ⟨_, rfl⟩
          rw [hjwa, hjwb] at H
          have hjwaw : (IntKind.i64.wrap ((a0.size : Int) - 1)) = jwa := (i64_w _).trans hjwa
          have hjwbw : (IntKind.i64.wrap (1 + t386)) = jwb := (i64_w _).trans hjwb
          by_cases c10 : 0 ≤ (ji9)
          · rw [if_pos c10] at H
            have c10b0 := eq_true c10
            have c10b1 : decide (0 ≤ (ji9)) = true := decide_eq_true c10
            clear c10
            by_cases c11 : (ji9) ≤ (jwa)
            · rw [if_pos c11] at H
              have c11b0 := eq_true c11
              have c11b1 : decide ((ji9) ≤ (jwa)) = true := decide_eq_true c11
              clear c11
              by_cases c12 : (jwa) ≤ (a0.size : Int)
              · rw [if_pos c12] at H
                have c12b0 := eq_true c12
                have c12b1 : decide ((jwa) ≤ (a0.size : Int)) = true := decide_eq_true c12
                clear c12
                by_cases c13 : 1 + (a0.extract ((ji9) : Int).toNat ((jwa) : Int).toNat).size ≤ 9223372036854775807
                · rw [if_pos c13] at H
                  have c13b0 := eq_true c13
                  have c13b1 : decide (1 + (a0.extract ((ji9) : Int).toNat ((jwa) : Int).toNat).size ≤ 9223372036854775807) = true := decide_eq_true c13
                  try have c13b2 : (9223372036854775807 < 1 + (a0.extract ((ji9) : Int).toNat ((jwa) : Int).toNat).size) = False := eq_false (Nat.not_lt.2 c13)
                  try have c13b4 : (9223372036854775807 < 1 + (min (((jwa) : Int).toNat) a0.size - (((ji9) : Int).toNat))) = False := eq_false (Nat.not_lt.2 (by have h_ := c13; simp only [ByteArray.size_append, ByteArray.size_extract] at h_; exact h_))
                  have c13b5 : (9223372036854775807 < 1 + ((((jwa) : Int).toNat) - (((ji9) : Int).toNat))) = False := eq_false (Nat.not_lt.2 (by have h_ := c13; simp only [ByteArray.size_append, ByteArray.size_extract] at h_; have q1_ := of_eq_true c12b0; have z_ : (⟨#[91]⟩ : ByteArray).size = 1 := rfl; have z2_ : (⟨#[44]⟩ : ByteArray).size = 1 := rfl; omega))
                  by_cases c14 : ((⟨#[91]⟩ : ByteArray) ++ (a0.extract ((ji9) : Int).toNat ((jwa) : Int).toNat)).size + 1 ≤ 9223372036854775807
                  · rw [if_pos c14] at H
                    have c14b0 := eq_true c14
                    have c14b1 : decide (((⟨#[91]⟩ : ByteArray) ++ (a0.extract ((ji9) : Int).toNat ((jwa) : Int).toNat)).size + 1 ≤ 9223372036854775807) = true := decide_eq_true c14
                    try have c14b2 : (9223372036854775807 < ((⟨#[91]⟩ : ByteArray) ++ (a0.extract ((ji9) : Int).toNat ((jwa) : Int).toNat)).size + 1) = False := eq_false (Nat.not_lt.2 c14)
                    try have c14b3 : (9223372036854775807 < 1 + (a0.extract ((ji9) : Int).toNat ((jwa) : Int).toNat).size + 1) = False := eq_false (Nat.not_lt.2 (by have h_ := c14; simp only [ByteArray.size_append] at h_; exact h_))
                    try have c14b4 : (9223372036854775807 < 1 + (min (((jwa) : Int).toNat) a0.size - (((ji9) : Int).toNat)) + 1) = False := eq_false (Nat.not_lt.2 (by have h_ := c14; simp only [ByteArray.size_append, ByteArray.size_extract] at h_; exact h_))
                    have c14b5 : (9223372036854775807 < 1 + ((((jwa) : Int).toNat) - (((ji9) : Int).toNat)) + 1) = False := eq_false (Nat.not_lt.2 (by have h_ := c14; simp only [ByteArray.size_append, ByteArray.size_extract] at h_; have q1_ := of_eq_true c12b0; have z_ : (⟨#[91]⟩ : ByteArray).size = 1 := rfl; have z2_ : (⟨#[44]⟩ : ByteArray).size = 1 := rfl; omega))
                    by_cases c15 : 1 ≤ (jwb)
                    · rw [if_pos c15] at H
                      have c15b0 := eq_true c15
                      have c15b1 : decide (1 ≤ (jwb)) = true := decide_eq_true c15
                      by_cases c16 : (jwb) ≤ (a0.size : Int)
                      · rw [if_pos c16] at H
                        have c16b0 := eq_true c16
                        have c16b1 : decide ((jwb) ≤ (a0.size : Int)) = true := decide_eq_true c16
                        by_cases c17 : (((⟨#[91]⟩ : ByteArray) ++ (a0.extract ((ji9) : Int).toNat ((jwa) : Int).toNat)) ++ (⟨#[44]⟩ : ByteArray)).size + (a0.extract 1 ((jwb) : Int).toNat).size ≤ 9223372036854775807
                        · rw [if_pos c17] at H
                          have c17b0 := eq_true c17
                          have c17b1 : decide ((((⟨#[91]⟩ : ByteArray) ++ (a0.extract ((ji9) : Int).toNat ((jwa) : Int).toNat)) ++ (⟨#[44]⟩ : ByteArray)).size + (a0.extract 1 ((jwb) : Int).toNat).size ≤ 9223372036854775807) = true := decide_eq_true c17
                          try have c17b2 : (9223372036854775807 < (((⟨#[91]⟩ : ByteArray) ++ (a0.extract ((ji9) : Int).toNat ((jwa) : Int).toNat)) ++ (⟨#[44]⟩ : ByteArray)).size + (a0.extract 1 ((jwb) : Int).toNat).size) = False := eq_false (Nat.not_lt.2 c17)
                          try have c17b3 : (9223372036854775807 < 1 + (a0.extract ((ji9) : Int).toNat ((jwa) : Int).toNat).size + 1 + (a0.extract 1 ((jwb) : Int).toNat).size) = False := eq_false (Nat.not_lt.2 (by have h_ := c17; simp only [ByteArray.size_append] at h_; exact h_))
                          try have c17b4 : (9223372036854775807 < 1 + (min (((jwa) : Int).toNat) a0.size - (((ji9) : Int).toNat)) + 1 + (min (((jwb) : Int).toNat) a0.size - (1))) = False := eq_false (Nat.not_lt.2 (by have h_ := c17; simp only [ByteArray.size_append, ByteArray.size_extract] at h_; exact h_))
                          have c17b5 : (9223372036854775807 < 1 + ((((jwa) : Int).toNat) - (((ji9) : Int).toNat)) + 1 + ((((jwb) : Int).toNat) - (1))) = False := eq_false (Nat.not_lt.2 (by have h_ := c17; simp only [ByteArray.size_append, ByteArray.size_extract] at h_; have q1_ := of_eq_true c12b0; have q2_ := of_eq_true c16b0; have z_ : (⟨#[91]⟩ : ByteArray).size = 1 := rfl; have z2_ : (⟨#[44]⟩ : ByteArray).size = 1 := rfl; omega))
                          by_cases c18 : ((((⟨#[91]⟩ : ByteArray) ++ (a0.extract ((ji9) : Int).toNat ((jwa) : Int).toNat)) ++ (⟨#[44]⟩ : ByteArray)) ++ (a0.extract 1 ((jwb) : Int).toNat)).size + 1 ≤ 9223372036854775807
                          · rw [if_pos c18] at H
                            have c18b0 := eq_true c18
                            have c18b1 : decide (((((⟨#[91]⟩ : ByteArray) ++ (a0.extract ((ji9) : Int).toNat ((jwa) : Int).toNat)) ++ (⟨#[44]⟩ : ByteArray)) ++ (a0.extract 1 ((jwb) : Int).toNat)).size + 1 ≤ 9223372036854775807) = true := decide_eq_true c18
                            try have c18b2 : (9223372036854775807 < ((((⟨#[91]⟩ : ByteArray) ++ (a0.extract ((ji9) : Int).toNat ((jwa) : Int).toNat)) ++ (⟨#[44]⟩ : ByteArray)) ++ (a0.extract 1 ((jwb) : Int).toNat)).size + 1) = False := eq_false (Nat.not_lt.2 c18)
                            try have c18b3 : (9223372036854775807 < 1 + (a0.extract ((ji9) : Int).toNat ((jwa) : Int).toNat).size + 1 + (a0.extract 1 ((jwb) : Int).toNat).size + 1) = False := eq_false (Nat.not_lt.2 (by have h_ := c18; simp only [ByteArray.size_append] at h_; exact h_))
                            try have c18b4 : (9223372036854775807 < 1 + (min (((jwa) : Int).toNat) a0.size - (((ji9) : Int).toNat)) + 1 + (min (((jwb) : Int).toNat) a0.size - (1)) + 1) = False := eq_false (Nat.not_lt.2 (by have h_ := c18; simp only [ByteArray.size_append, ByteArray.size_extract] at h_; exact h_))
                            have c18b5 : (9223372036854775807 < 1 + ((((jwa) : Int).toNat) - (((ji9) : Int).toNat)) + 1 + ((((jwb) : Int).toNat) - (1)) + 1) = False := eq_false (Nat.not_lt.2 (by have h_ := c18; simp only [ByteArray.size_append, ByteArray.size_extract] at h_; have q1_ := of_eq_true c12b0; have q2_ := of_eq_true c16b0; have z_ : (⟨#[91]⟩ : ByteArray).size = 1 := rfl; have z2_ : (⟨#[44]⟩ : ByteArray).size = 1 := rfl; omega))
                            simp only [Option.some.injEq, Prod.mk.injEq] at H
                            obtain ⟨rfl, rfl⟩ := H
                            go_enter Try.func27, Try.ntmps27
                            go_wp2_with (first | (go_at_call 21; (with_reducible refine (spec_IsTree.calls k a0 true _ A2.out).mono ?_); rintro e w19 ⟨rfl, hb⟩; have n0_ := Aside0.mk (below_step (by repeat (first | (with_reducible first | exact HB.out | apply below_alloc | apply pw_below_drewN | apply below_drew1) | exact HB.out)) hb); clear HB; have HB := n0_; clear n0_; (try clear hb); (try clear hb2); (try clear hk); (try clear hi); have p5 : 0 ≤ (0 : Int) := (by omega); have q5 : 0 < a0.size := (by have : (0 : Int) < (a0.size : Int) := of_decide_eq_true (by first | (with_reducible assumption) | assumption); omega); have hx5 : ∀ h : 0 < a0.size, ((a0[0]'h).toNat : Int) = bt a0 0 := bt_at a0 0; clear p5; have qi5 : (0 < (a0.size : Int)) = True := eq_true (of_decide_eq_true (by first | (with_reducible assumption) | assumption)); replace q5 := eq_true q5) | (go_at_call 46; (with_reducible refine (spec_l4Read.calls k (a0.extract 1 a0.size) t386 t387 t388 t389 t390 _ A8.out).mono ?_); rintro e w20 ⟨rfl, hb⟩; have n0_ := Aside0.mk (below_step (by repeat (first | (with_reducible first | exact HB.out | apply below_alloc | apply pw_below_drewN | apply below_drew1) | exact HB.out)) hb); clear HB; have HB := n0_; clear n0_; (try clear hb); (try clear hb2); (try clear hk); (try clear hi)) | ((with_reducible refine gate_dst (N := 4) rfl ?_); refine box_event ?hg (N := 4) ?hd (cs := #[.int .i64 0, .int .i64 0, .int .i64 0, .int .i64 0]) (t := 50) ?hr ?_; (case hd => rfl); (case hg => rfl); (case hr => first | (go_simp; done) | (go_simp; rfl)); intro gb391 hg w21 hbox hb; have n0_ := Aside0.mk (below_step (by repeat (first | (with_reducible first | exact HB.out | apply below_alloc | apply pw_below_drewN | apply below_drew1) | exact HB.out)) hb); have n1_ := Aside0.mk (hbox); have n2_ := Aside0.mk ((by rw [hg]; exact (below_size (by repeat (first | (with_reducible first | exact HB.out | apply below_alloc | apply pw_below_drewN | apply below_drew1) | exact HB.out))) : w.heap.size ≤ gb391)); have n3_ := Aside0.mk ((by rw [hg]; exact (below_size (by repeat (first | (with_reducible first | exact HB.out | apply below_alloc | apply pw_below_drewN | apply below_drew1) | exact HB.out))) : w.heap.size ≤ gb391)); clear HB; have HB := n0_; have BK391 := n1_; have GW391 := n2_; have GE391 := n3_; clear n0_ n1_ n2_ n3_; clear hb hbox hg; have hcz22_0 : w21.cell? ⟨gb391, 0, none⟩ = some (.int .i64 0) := (blk_cell BK391.out 0).trans rfl; have hcz22_1 : w21.cell? ⟨gb391, 1, none⟩ = some (.int .i64 0) := (blk_cell BK391.out 1).trans rfl; have hcz22_2 : w21.cell? ⟨gb391, 2, none⟩ = some (.int .i64 0) := (blk_cell BK391.out 2).trans rfl; have hcz22_3 : w21.cell? ⟨gb391, 3, none⟩ = some (.int .i64 0) := (blk_cell BK391.out 3).trans rfl; have hfz22_0 := blk_frozen BK391.out 0; have hfz22_1 := blk_frozen BK391.out 1; have hfz22_2 := blk_frozen BK391.out 2; have hfz22_3 := blk_frozen BK391.out 3))
                            repeat (go_quiet (first | (go_at_call 21; (with_reducible refine (spec_IsTree.calls k a0 true _ A2.out).mono ?_); rintro e w19 ⟨rfl, hb⟩; have n0_ := Aside0.mk (below_step (by repeat (first | (with_reducible first | exact HB.out | apply below_alloc | apply pw_below_drewN | apply below_drew1) | exact HB.out)) hb); clear HB; have HB := n0_; clear n0_; (try clear hb); (try clear hb2); (try clear hk); (try clear hi); have p5 : 0 ≤ (0 : Int) := (by omega); have q5 : 0 < a0.size := (by have : (0 : Int) < (a0.size : Int) := of_decide_eq_true (by first | (with_reducible assumption) | assumption); omega); have hx5 : ∀ h : 0 < a0.size, ((a0[0]'h).toNat : Int) = bt a0 0 := bt_at a0 0; clear p5; have qi5 : (0 < (a0.size : Int)) = True := eq_true (of_decide_eq_true (by first | (with_reducible assumption) | assumption)); replace q5 := eq_true q5) | (go_at_call 46; (with_reducible refine (spec_l4Read.calls k (a0.extract 1 a0.size) t386 t387 t388 t389 t390 _ A8.out).mono ?_); rintro e w20 ⟨rfl, hb⟩; have n0_ := Aside0.mk (below_step (by repeat (first | (with_reducible first | exact HB.out | apply below_alloc | apply pw_below_drewN | apply below_drew1) | exact HB.out)) hb); clear HB; have HB := n0_; clear n0_; (try clear hb); (try clear hb2); (try clear hk); (try clear hi)) | ((with_reducible refine gate_dst (N := 4) rfl ?_); refine box_event ?hg (N := 4) ?hd (cs := #[.int .i64 0, .int .i64 0, .int .i64 0, .int .i64 0]) (t := 50) ?hr ?_; (case hd => rfl); (case hg => rfl); (case hr => first | (go_simp; done) | (go_simp; rfl)); intro gb391 hg w21 hbox hb; have n0_ := Aside0.mk (below_step (by repeat (first | (with_reducible first | exact HB.out | apply below_alloc | apply pw_below_drewN | apply below_drew1) | exact HB.out)) hb); have n1_ := Aside0.mk (hbox); have n2_ := Aside0.mk ((by rw [hg]; exact (below_size (by repeat (first | (with_reducible first | exact HB.out | apply below_alloc | apply pw_below_drewN | apply below_drew1) | exact HB.out))) : w.heap.size ≤ gb391)); have n3_ := Aside0.mk ((by rw [hg]; exact (below_size (by repeat (first | (with_reducible first | exact HB.out | apply below_alloc | apply pw_below_drewN | apply below_drew1) | exact HB.out))) : w.heap.size ≤ gb391)); clear HB; have HB := n0_; have BK391 := n1_; have GW391 := n2_; have GE391 := n3_; clear n0_ n1_ n2_ n3_; clear hb hbox hg; have hcz22_0 : w21.cell? ⟨gb391, 0, none⟩ = some (.int .i64 0) := (blk_cell BK391.out 0).trans rfl; have hcz22_1 : w21.cell? ⟨gb391, 1, none⟩ = some (.int .i64 0) := (blk_cell BK391.out 1).trans rfl; have hcz22_2 : w21.cell? ⟨gb391, 2, none⟩ = some (.int .i64 0) := (blk_cell BK391.out 2).trans rfl; have hcz22_3 : w21.cell? ⟨gb391, 3, none⟩ = some (.int .i64 0) := (blk_cell BK391.out 3).trans rfl; have hfz22_0 := blk_frozen BK391.out 0; have hfz22_1 := blk_frozen BK391.out 1; have hfz22_2 := blk_frozen BK391.out 2; have hfz22_3 := blk_frozen BK391.out 3)); try go_wp2_with (first | (go_at_call 21; (with_reducible refine (spec_IsTree.calls k a0 true _ A2.out).mono ?_); rintro e w19 ⟨rfl, hb⟩; have n0_ := Aside0.mk (below_step (by repeat (first | (with_reducible first | exact HB.out | apply below_alloc | apply pw_below_drewN | apply below_drew1) | exact HB.out)) hb); clear HB; have HB := n0_; clear n0_; (try clear hb); (try clear hb2); (try clear hk); (try clear hi); have p5 : 0 ≤ (0 : Int) := (by omega); have q5 : 0 < a0.size := (by have : (0 : Int) < (a0.size : Int) := of_decide_eq_true (by first | (with_reducible assumption) | assumption); omega); have hx5 : ∀ h : 0 < a0.size, ((a0[0]'h).toNat : Int) = bt a0 0 := bt_at a0 0; clear p5; have qi5 : (0 < (a0.size : Int)) = True := eq_true (of_decide_eq_true (by first | (with_reducible assumption) | assumption)); replace q5 := eq_true q5) | (go_at_call 46; (with_reducible refine (spec_l4Read.calls k (a0.extract 1 a0.size) t386 t387 t388 t389 t390 _ A8.out).mono ?_); rintro e w20 ⟨rfl, hb⟩; have n0_ := Aside0.mk (below_step (by repeat (first | (with_reducible first | exact HB.out | apply below_alloc | apply pw_below_drewN | apply below_drew1) | exact HB.out)) hb); clear HB; have HB := n0_; clear n0_; (try clear hb); (try clear hb2); (try clear hk); (try clear hi)) | ((with_reducible refine gate_dst (N := 4) rfl ?_); refine box_event ?hg (N := 4) ?hd (cs := #[.int .i64 0, .int .i64 0, .int .i64 0, .int .i64 0]) (t := 50) ?hr ?_; (case hd => rfl); (case hg => rfl); (case hr => first | (go_simp; done) | (go_simp; rfl)); intro gb391 hg w21 hbox hb; have n0_ := Aside0.mk (below_step (by repeat (first | (with_reducible first | exact HB.out | apply below_alloc | apply pw_below_drewN | apply below_drew1) | exact HB.out)) hb); have n1_ := Aside0.mk (hbox); have n2_ := Aside0.mk ((by rw [hg]; exact (below_size (by repeat (first | (with_reducible first | exact HB.out | apply below_alloc | apply pw_below_drewN | apply below_drew1) | exact HB.out))) : w.heap.size ≤ gb391)); have n3_ := Aside0.mk ((by rw [hg]; exact (below_size (by repeat (first | (with_reducible first | exact HB.out | apply below_alloc | apply pw_below_drewN | apply below_drew1) | exact HB.out))) : w.heap.size ≤ gb391)); clear HB; have HB := n0_; have BK391 := n1_; have GW391 := n2_; have GE391 := n3_; clear n0_ n1_ n2_ n3_; clear hb hbox hg; have hcz22_0 : w21.cell? ⟨gb391, 0, none⟩ = some (.int .i64 0) := (blk_cell BK391.out 0).trans rfl; have hcz22_1 : w21.cell? ⟨gb391, 1, none⟩ = some (.int .i64 0) := (blk_cell BK391.out 1).trans rfl; have hcz22_2 : w21.cell? ⟨gb391, 2, none⟩ = some (.int .i64 0) := (blk_cell BK391.out 2).trans rfl; have hcz22_3 : w21.cell? ⟨gb391, 3, none⟩ = some (.int .i64 0) := (blk_cell BK391.out 3).trans rfl; have hfz22_0 := blk_frozen BK391.out 0; have hfz22_1 := blk_frozen BK391.out 1; have hfz22_2 := blk_frozen BK391.out 2; have hfz22_3 := blk_frozen BK391.out 3)))
                            go_ret2
                            exact ⟨by first | rfl | (simp [errW_none, errW_some] <;> rfl) | (simp only [← hji9, ← hjwa, ← hjwb]; first | rfl | (simp [errW_none, errW_some] <;> rfl)) | (simp [*, errW_none, errW_some] <;> rfl), by repeat (first | (with_reducible first | exact HB.out | apply below_alloc | apply pw_below_drewN | apply below_drew1 | refine below_set ?_ GE391.out) | exact HB.out)⟩
                          · rw [if_neg c18] at H
                            exact absurd H (by simp)
                        · rw [if_neg c17] at H
                          exact absurd H (by simp)
                      · rw [if_neg c16] at H
                        exact absurd H (by simp)
                    · rw [if_neg c15] at H
                      exact absurd H (by simp)
                  · rw [if_neg c14] at H
                    exact absurd H (by simp)
                · rw [if_neg c13] at H
                  exact absurd H (by simp)
              · rw [if_neg c12] at H
                exact absurd H (by simp)
            · rw [if_neg c11] at H
              exact absurd H (by simp)
          · rw [if_neg c10] at H
            exact absurd H (by simp)
        · rw [if_neg c7] at H
          exact absurd H (by simp)
      · rw [if_neg c6] at H
        have c6b0 : ((bt a0 0) == 91) = false := beq_eq_false_iff_ne.mpr c6
        have c6b1 : ((bt a0 0) != 91) = true := bne_iff_ne.mpr c6
        simp only [Option.some.injEq, Prod.mk.injEq] at H
        obtain ⟨rfl, rfl⟩ := H
        go_enter Try.func27, Try.ntmps27
        go_wp2_with (first | (go_at_call 21; (with_reducible refine (spec_IsTree.calls k a0 true _ A2.out).mono ?_); rintro e w23 ⟨rfl, hb⟩; have n0_ := Aside0.mk (below_step (by repeat (first | (with_reducible first | exact HB.out | apply below_alloc | apply pw_below_drewN | apply below_drew1) | exact HB.out)) hb); clear HB; have HB := n0_; clear n0_; (try clear hb); (try clear hb2); (try clear hk); (try clear hi); have p5 : 0 ≤ (0 : Int) := (by omega); have q5 : 0 < a0.size := (by have : (0 : Int) < (a0.size : Int) := of_decide_eq_true (by first | (with_reducible assumption) | assumption); omega); have hx5 : ∀ h : 0 < a0.size, ((a0[0]'h).toNat : Int) = bt a0 0 := bt_at a0 0; clear p5; have qi5 : (0 < (a0.size : Int)) = True := eq_true (of_decide_eq_true (by first | (with_reducible assumption) | assumption)); replace q5 := eq_true q5))
        repeat (go_quiet (first | (go_at_call 21; (with_reducible refine (spec_IsTree.calls k a0 true _ A2.out).mono ?_); rintro e w23 ⟨rfl, hb⟩; have n0_ := Aside0.mk (below_step (by repeat (first | (with_reducible first | exact HB.out | apply below_alloc | apply pw_below_drewN | apply below_drew1) | exact HB.out)) hb); clear HB; have HB := n0_; clear n0_; (try clear hb); (try clear hb2); (try clear hk); (try clear hi); have p5 : 0 ≤ (0 : Int) := (by omega); have q5 : 0 < a0.size := (by have : (0 : Int) < (a0.size : Int) := of_decide_eq_true (by first | (with_reducible assumption) | assumption); omega); have hx5 : ∀ h : 0 < a0.size, ((a0[0]'h).toNat : Int) = bt a0 0 := bt_at a0 0; clear p5; have qi5 : (0 < (a0.size : Int)) = True := eq_true (of_decide_eq_true (by first | (with_reducible assumption) | assumption)); replace q5 := eq_true q5)); try go_wp2_with (first | (go_at_call 21; (with_reducible refine (spec_IsTree.calls k a0 true _ A2.out).mono ?_); rintro e w23 ⟨rfl, hb⟩; have n0_ := Aside0.mk (below_step (by repeat (first | (with_reducible first | exact HB.out | apply below_alloc | apply pw_below_drewN | apply below_drew1) | exact HB.out)) hb); clear HB; have HB := n0_; clear n0_; (try clear hb); (try clear hb2); (try clear hk); (try clear hi); have p5 : 0 ≤ (0 : Int) := (by omega); have q5 : 0 < a0.size := (by have : (0 : Int) < (a0.size : Int) := of_decide_eq_true (by first | (with_reducible assumption) | assumption); omega); have hx5 : ∀ h : 0 < a0.size, ((a0[0]'h).toNat : Int) = bt a0 0 := bt_at a0 0; clear p5; have qi5 : (0 < (a0.size : Int)) = True := eq_true (of_decide_eq_true (by first | (with_reducible assumption) | assumption)); replace q5 := eq_true q5)))
        go_ret2
        exact ⟨by first | rfl | (simp [errW_none, errW_some] <;> rfl) | (simp [*, errW_none, errW_some] <;> rfl), by repeat (first | (with_reducible first | exact HB.out | apply below_alloc | apply pw_below_drewN | apply below_drew1) | exact HB.out)⟩
    · rw [if_neg c4] at H
      exact absurd H (by simp)
  · replace c3 := Bool.eq_false_iff.mpr c3
    subst c3
    have H1 : (some ((⟨#[]⟩ : ByteArray), false)) = some (r1, r2) := by rw [if_neg (show ¬ (false = true) by decide)] at H; exact H
    clear H
    have H := H1
    clear H1
    simp only [Option.some.injEq, Prod.mk.injEq] at H
    obtain ⟨rfl, rfl⟩ := H
    go_enter Try.func27, Try.ntmps27
    go_wp2_with (first | (go_at_call 21; (with_reducible refine (spec_IsTree.calls k a0 false _ A2.out).mono ?_); rintro e w24 ⟨rfl, hb⟩; have n0_ := Aside0.mk (below_step (by repeat (first | (with_reducible first | exact HB.out | apply below_alloc | apply pw_below_drewN | apply below_drew1) | exact HB.out)) hb); clear HB; have HB := n0_; clear n0_; (try clear hb); (try clear hb2); (try clear hk); (try clear hi)))
    repeat (go_quiet (first | (go_at_call 21; (with_reducible refine (spec_IsTree.calls k a0 false _ A2.out).mono ?_); rintro e w24 ⟨rfl, hb⟩; have n0_ := Aside0.mk (below_step (by repeat (first | (with_reducible first | exact HB.out | apply below_alloc | apply pw_below_drewN | apply below_drew1) | exact HB.out)) hb); clear HB; have HB := n0_; clear n0_; (try clear hb); (try clear hb2); (try clear hk); (try clear hi))); try go_wp2_with (first | (go_at_call 21; (with_reducible refine (spec_IsTree.calls k a0 false _ A2.out).mono ?_); rintro e w24 ⟨rfl, hb⟩; have n0_ := Aside0.mk (below_step (by repeat (first | (with_reducible first | exact HB.out | apply below_alloc | apply pw_below_drewN | apply below_drew1) | exact HB.out)) hb); clear HB; have HB := n0_; clear n0_; (try clear hb); (try clear hb2); (try clear hk); (try clear hi))))
    go_ret2
    exact ⟨by first | rfl | (simp [errW_none, errW_some] <;> rfl) | (simp [*, errW_none, errW_some] <;> rfl), by repeat (first | (with_reducible first | exact HB.out | apply below_alloc | apply pw_below_drewN | apply below_drew1) | exact HB.out)⟩

end Go.Proofs.Ytlojkjkbocfmfaa.P
