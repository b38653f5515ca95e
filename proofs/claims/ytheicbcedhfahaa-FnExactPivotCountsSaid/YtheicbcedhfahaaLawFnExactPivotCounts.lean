/- Each call of a Go function named below comes to exactly the answers of the Lean function of its name, and a law row follows from its plain statement. No condition beyond those that each theorem states. -/
import Derived.Test.YtheicbcedhfahaaRows
import Derived.Test.YtheicbcedhfahaaPx37
import Derived.Test.YtheicbcedhfahaaPureFnExactPivotCounts
import Derived.WalkKit
import Derived.ProofKit
import Derived.OpenShut
import Derived.ShutString
import Derived.ChangeOld
import Derived.Below
import Derived.SizedLaws
import Derived.Test.YtheicbcedhfahaaWSized
namespace Go.Proofs.Ytheicbcedhfahaa.fnExactPivotCounts
open Go.ChangeShapes Go.WideShapes Go.ChangeAt Go.RowKit
open Go.ChangeMaps (open_string shut_string)
set_option linter.unusedVariables false
theorem own : ownKnob Try.prog.godebug = none := by kernel_rfl
theorem laidOut : laidOutB Try.prog = true := by kernel_rfl
def IsRow (k : IntKind) (w : World) (a : Option Addr) (len cap : Nat) (zs : List Int) : Prop :=
  (a = none ∧ len = 0 ∧ cap = 0 ∧ zs = []) ∨
  ∃ x, a = some x ∧ len ≤ cap ∧ cap ≤ maxLen ∧ zs.length = cap ∧ (∀ i, i < zs.length → w.cell? (x.add i) = some (.int k (zs.getD i 0))) ∧ ∀ n ∈ zs, (Lit.int k n).wf = true
theorem one0 {α : Type} {cs : Array α} (h : cs.size = 1) : ∃ c, cs = #[c] := by
  obtain ⟨l⟩ := cs
  match l, h with
  | [c], _ => exact ⟨c, rfl⟩
theorem cells0 : Try.prog.cellsOf 34 = 1 := by kernel_rfl
theorem fcells0 : Try.prog.cellsOf 22 = 1 := by kernel_rfl
set_option maxRecDepth 100001 in
theorem open0 {H : Type} {enc : TypeId × Value → H} {W : World} {base : Nat} {v : Value} {d : DataW H} {p : List MemPlace} (hv : Value.okWide Try.prog W .any base 34 v) (h : DataW.Trod enc Try.prog W 0 (fun _ => true) true 34 v d p) : ∃ a len cap zs, v = .agg #[.slice a len cap] ∧ IsRow .i64 W a len cap zs := by
  obtain ⟨cs, rfl, hs⟩ := okWide_struct Try.underlying34 hv
  rw [cells0] at hs
  obtain ⟨c, rfl⟩ := one0 hs
  obtain ⟨fuel, hf⟩ := h
  obtain ⟨y, m, -, -, hf2⟩ := trod_struct1 Try.underlying34 hf
  have hf3 : DataW.trod enc Try.prog W 0 (fun _ => true) true m 22 [c] = some y := by simpa [Value.cells, fcells0] using hf2
  rcases open_ints Try.underlying22 Try.underlying3 (by kernel_rfl) hf3 with ⟨hcs, _⟩ | ⟨x, l, c', zs, hcs, _, hl, hm, hz, _, hcell, hwz⟩
  · exact ⟨none, 0, 0, [], by rw [List.cons.inj hcs |>.1], .inl ⟨rfl, rfl, rfl, rfl⟩⟩
  · exact ⟨some x, l, c', zs, by rw [List.cons.inj hcs |>.1], .inr ⟨_, rfl, hl, hm, by simpa using hz, hcell, hwz⟩⟩
set_option maxRecDepth 100000 in
theorem lifted (os : Os) (started : os.Started) (H : Type) (enc : TypeId × Value → H) :
    ReturnsInHanded {} Try.checked os 5 .any (Rows.fnExactPivotCountsSpec.pre6 enc Try.prog Try.f5 Rows.fnExactPivotCountsRow.domain false) (Rows.fnExactPivotCountsSpec.post enc Try.prog Try.f5 false true false false) := by
  refine returnsInHanded_of_change_sized (C := Try.checked) own started (by kernel_rfl) Try.func5
    (ChangeSpec.witness6 (enc := enc) (C := Try.checked) false ⟨#[], #[.agg #[.slice none 0 0]], []⟩ 8 (by kernel_rfl) (by kernel_rfl) (by kernel_rfl) (by kernel_rfl)) ?_
  intro W base args ds gs before hval0 hW hcnd hsz0 _
  have hsz : (DataW.weightsEach Try.prog (Try.f5.params.toList ++ Rows.fnExactPivotCountsSpec.plain.varTypes Try.prog) (ds ++ gs)).all (· ≤ reachBytes) = true := hsz0
  have hval : ∀ (j : Nat) t v, Try.f5.params[j]? = some t → args[j]? = some v → Value.okWide Try.prog W .any base t v := hval0
  have hW' := hW
  obtain ⟨p, q, hA0, hV, rfl, hfz, hnd⟩ := hW
  have hA : DataW.TrodAll enc Try.prog W 0 (fun _ => true) true Try.f5.params.toList args.toList ds p := hA0
  rw [Try.params5] at hA hval hsz
  obtain ⟨v0, vs0, d0, ds0, p0, q0, hargs, rfl, rfl, h0, r0⟩ := trodAll_cons hA
  obtain ⟨rfl, rfl, rfl⟩ := trodAll_nil r0
  obtain rfl : args = #[v0] := by cases args; simp_all
  obtain ⟨rfl, rfl⟩ := trodVars_none hV
  obtain ⟨a0, len0, cap0, z0, rfl, w0⟩ := open0 (hval 0 34 v0 rfl rfl) h0
  have k0 := h0
  have lt0 : ∀ x ∈ p0, x.block < W.heap.size := by obtain ⟨m, hm⟩ := k0; exact DataW.trod_lt m _ _ _ hm
  clear hA0 hval0 hsz0 hsz
  refine (P.laws_FnExactPivotCounts.walk Pure.FnExactPivotCounts a0 len0 cap0 z0 W w0).mono fun e W' ⟨he, bel⟩ => ?_
  subst he
  exact ⟨_, rfl, _, _, _, [], _, [], hW', trodAll_mk1 (shut_bool Try.underlying4 _), (trodAll_cons_mk (Below.trod laidOut (by kernel_rfl) (of_decide_eq_true (by kernel_rfl)) k0 bel lt0) trodAll_mk0), rfl, bel.frame _, fun h => by cases h⟩
theorem over : Rows.fnExactPivotCountsRow.holds Try.pinned (OpenSpec.ofChange Rows.fnExactPivotCountsSpec) :=
  OpenClaim.holds_of_wide 5 Try.f5 rfl rfl rfl rfl rfl rfl rfl ⟨rfl, rfl, rfl, rfl, rfl⟩ rfl rfl rfl rfl rfl (by kernel_rfl) Try.func5 (by kernel_rfl)
    (of_decide_eq_true (by kernel_rfl)) (by unfold Func.isWrapper; first | (rw [if_pos (by decide +kernel)]; kernel_rfl) | (rw [if_neg (by decide +kernel)]; exact ⟨rfl, rfl⟩))
    (fun os started H enc _ => lifted os started H enc)
theorem proved : Rows.FnExactPivotCountsSaid := over
#print axioms proved
end Go.Proofs.Ytheicbcedhfahaa.fnExactPivotCounts
namespace Go.Proofs.Ytheicbcedhfahaa
/-- The row, under a short name, for the claim. -/
theorem fnExactPivotCounts_holds : Rows.FnExactPivotCountsSaid := fnExactPivotCounts.proved
end Go.Proofs.Ytheicbcedhfahaa
