/- Each call of a Go function named below comes to exactly the answers of the Lean function of its name, and a law row follows from its plain statement. No condition beyond those that each theorem states. -/
import Derived.Test.YtlojkjkbocfmfaaPx0
import Derived.LoopIn
import Derived.LoopNIn
import Derived.Maps.AppendAt
import Derived.OwnWalkIn
import Derived.RangeFuncBox
import Derived.RangeFuncLeaves
import Derived.RangeFuncNested
import Derived.TacticsInMore
namespace Go.Proofs.Ytlojkjkbocfmfaa.P
open Go.RowKit Go.Proofs.YtlojkjkbocfmfaaW.PrintWords Go.Proofs.YtlojkjkbocfmfaaW.PrintLast Go.Proofs.YtlojkjkbocfmfaaW.PrintMore
attribute [local go_sem] max2_int min2_int max_two min_two max_three min_three max_four min_four   -- for this text's walks alone
set_option linter.unusedVariables false
set_option linter.unusedSimpArgs false

/-! ### impl_inverse: function 72 -/
--@IMPORT Derived.RangeFuncBox
--@IMPORT Derived.RangeFuncLeaves
--@IMPORT Derived.RangeFuncNested
--@IMPORT Derived.OwnWalkIn
--@IMPORT Derived.TacticsInMore
--@IMPORT Derived.LoopNIn
--@IMPORT Derived.LoopIn
--@IMPORT Derived.Maps.AppendAt
section
attribute [local go_sem] Oper.semAt_some
/-- What has come of a slice that is ranged over from its end when k rounds are over. -/
def bwd (zs : List Int) (k : Nat) : List (Nat × Int) := (List.range k).map fun j => (zs.length - 1 - j, rd zs ((zs.length - 1 - j : Nat) : Int))
theorem bwd_succ (zs : List Int) (k : Nat) : bwd zs (k + 1) = bwd zs k ++ [(zs.length - 1 - k, rd zs ((zs.length - 1 - k : Nat) : Int))] := by simp [bwd, List.range_succ]
theorem bwd_length (zs : List Int) (k : Nat) : (bwd zs k).length = k := by simp [bwd]
def KpB (n₀ Bs : Nat) (t : TypeId) (sv : Value) (W W' : World) : Prop := Below n₀ W W' ∧ (Boxed W Bs t sv → Boxed W' Bs t sv)
set_option maxHeartbeats 4000000 in
set_option maxRecDepth 100000 in
/-- 'slices.Backward's closure, at every loop body that keeps what lay and the slice's own box. -/
theorem bwd_in (F : Fence) (n : Nat) (hf : F.fn 85) (hro : F.round = none) (hn : 1 ≤ n) (l Bs n₀ c : Nat) (A : Option Addr) (zs : List Int) (w0 : World) (h0n : n₀ = w0.heap.size) (HR : Aside0 (Kd.C (Kd.int .i64) w0 A zs.length zs)) (J Jx : List (Nat × Int) → World → Prop)
    (hY : ∀ pre x W, J pre W → pre.length < zs.length → YieldAt F (n - 1) Try.prog l #[.int .i64 (x.1 : Int), .int .i64 x.2] W fun e W' =>
      (e = .returned (.bool true) ∧ J (pre ++ [x]) W' ∧ KpB n₀ Bs 25 (.slice A zs.length c) W W') ∨ (e = .returned (.bool false) ∧ Jx (pre ++ [x]) W'))
    (W : World) (hB : Below n₀ w0 W) (hBs : Boxed W Bs 25 (.slice A zs.length c)) (h0 : J [] W) :
    CallsIn F n Try.prog 85 #[.func (.yield l) #[] #[], .pointer (some ⟨Bs, 0, none⟩)] W fun e W' => (∃ v, e = .returned v) ∧
      ((∃ ys, ys = bwd zs zs.length ∧ J ys W') ∨ (∃ pre, (∃ k, k ≤ zs.length ∧ pre = bwd zs k) ∧ Jx pre W')) := by
  have hmax := Kd.C_max HR.out
  have hcb := hBs.cell
  have HB0 := Aside0.mk hB
  have HBX := Aside0.mk hBs
  clear hB hBs
  have H0n := Aside0.mk h0n
  clear h0n
  refine callsIn_of_wp Try.func85 rfl hf ?_ hro
  simp only [Try.ntmps85, List.size_toArray, List.length_cons, List.length_nil, Nat.reduceAdd, Nat.reduceSub, Array.replicate_succ, Array.replicate_zero, List.push_toArray, List.append_toArray, List.nil_append, List.cons_append]
  gi_wp2
  gi_loopw [3] (fun i wr => ∃ k : Nat, k ≤ zs.length ∧ i = .int .i64 ((zs.length : Int) - 1 - k) ∧ J (bwd zs k) wr ∧ Aside0 (Below n₀ w0 wr) ∧ Aside0 (Boxed wr Bs 25 (.slice A zs.length c)))
    (fun i _ => ((intOf i) + 1).toNat)
  case atStart => exact ⟨0, Nat.zero_le _, by simp, h0, HB0, HBX⟩
  case round =>
    clear hcb
    obtain ⟨k, hk, rfl, hJs, hnx, hbx⟩ := hrel
    have hcb := hbx.out.cell
    by_cases hlt : k < zs.length
    · obtain ⟨j, hj⟩ : ∃ j : Nat, (zs.length : Int) - 1 - k = (j : Int) := ⟨zs.length - 1 - k, by omega⟩
      have hjn : zs.length - 1 - k = j := by omega
      have hjl : j < zs.length := by omega
      obtain ⟨ad, e0, hcell⟩ := Kd.at_int (Kd.C_below HR.out (by rw [← H0n.out]; exact hnx.out)) (j : Int) (by omega) (by omega)
      rw [Int.toNat_natCast] at hcell
      cases e0
      rw [hj]
      obtain ⟨fn, tmps, assign, body, hy, hR⟩ := hY _ (j, rd zs (j : Int)) wr hJs (by rw [bwd_length]; exact hlt)
      dsimp only at hy
      have HJ := Aside0.mk hj
      have HJn := Aside0.mk hjn
      clear hj hjn
      gi_wp2
      refine hR.mono ?_
      rintro e W3 (⟨rfl, hJ3, hk3, hbk⟩ | ⟨rfl, hJx3⟩)
      · gi_wp2
        go_roundw
        case rel => exact ⟨k + 1, by omega, by have := HJ.out; first | (congr 1; done) | (congr 1; omega), by rw [bwd_succ, HJn.out]; exact hJ3, ⟨hnx.out.trans hk3⟩, ⟨hbk hbx.out⟩⟩
        case measure => have := HJ.out; first | (simp [intOf]; done) | (simp [intOf]; omega)
      · gi_wp2
        refine bodyPost_ret (results_none rfl _ _ _) rfl ?_
        exact ⟨⟨_, rfl⟩, .inr ⟨_, ⟨k + 1, by omega, by rw [bwd_succ, HJn.out]⟩, hJx3⟩⟩
    · have hke : k = zs.length := by omega
      subst hke
      have hneg : ¬ (0 ≤ (zs.length : Int) - 1 - (zs.length : Int)) := by omega
      gi_wp2
      go_end0
      first | exact ⟨⟨_, rfl⟩, .inl ⟨_, rfl, hJs⟩⟩ | exact ⟨⟨_, rfl⟩, .inl hJs⟩
set_option maxHeartbeats 1000000 in
theorem bwd_make (F : Fence) (n : Nat) (h6 : F.fn 78) (hro : F.round = none) (a : Option Addr) (len cap : Nat) (w : World) :
    CallsIn F n Try.prog 78 #[.slice a len cap] w fun e w' => e = .returned (.func (.func 85) #[] #[.pointer (some ⟨w.heap.size, 0, none⟩)]) ∧ w' = w.alloc (.cells #[.slice a len cap] 25) := by
  refine callsIn_of_wp Try.func78 rfl h6 ?_ hro
  simp only [Try.ntmps78, List.size_toArray, List.length_cons, List.length_nil, Nat.reduceAdd, Nat.reduceSub, Array.replicate_succ, Array.replicate_zero, List.push_toArray, List.append_toArray, List.nil_append, List.cons_append]
  gi_wp2
  go_ret
  exact ⟨rfl, rfl⟩
theorem bwd_stops (F : Fence) (n : Nat) (h8 : F.fn 85) (hro : F.round = none) (hn : 1 ≤ n) (Bs c : Nat) (A : Option Addr) (zs : List Int) (w0 w : World) (hBs : Bs < w.heap.size) (hn₀ : w0.heap.size ≤ w.heap.size)
    (hb0 : Below w0.heap.size w0 w) (hc : Boxed w Bs 25 (.slice A zs.length c)) (HR : Aside0 (Kd.C (Kd.int .i64) w0 A zs.length zs)) :
    SeqStopsK F n Try.prog 85 #[.pointer (some ⟨Bs, 0, none⟩)] (fun x : Nat × Int => #[Value.int .i64 (x.1 : Int), Value.int .i64 x.2]) (KpB w0.heap.size Bs 25 (.slice A zs.length c)) (fun ys => ys = bwd zs zs.length)
      (fun pre => ∃ k, k ≤ zs.length ∧ pre = bwd zs k) zs.length w := fun l J Jx W hW _ _ hY h0 =>
  bwd_in F n h8 hro hn l Bs w0.heap.size c A zs w0 rfl HR J Jx hY W (hb0.trans (hW.mono hn₀)) (hc.kept (grown_of_below hW none) (by simp)) h0
end
def impl_inverse.f (l0 : List Int) : Option (List Int) := if l0.length < 17592186044416 then some (l0.reverse.map fun x => wrap64 (-x)) else none
theorem bwd_inv (zs : List Int) : (bwd zs zs.length).map (fun x => wrap64 (-x.2)) = zs.reverse.map fun x => wrap64 (-x) := by
  apply List.ext_getElem
  · simp [bwd]
  · intro i h1 h2
    simp only [List.length_map, bwd_length] at h1
    simp only [bwd, List.map_map, List.getElem_map, List.getElem_range, List.getElem_reverse, Function.comp]
    unfold rd
    rw [Int.toNat_natCast, List.getD_eq_getElem?_getD, List.getElem?_eq_getElem (by omega)]
    rfl
section
attribute [local go_sem] Oper.semAt_some
set_option maxHeartbeats 8000000 in
set_option maxRecDepth 100000 in
theorem impl_inverse.calls (A0 : Option Addr) (c0 : Nat) (l0 : List Int) (r : List Int) (w : World) (hr0 : Kd.C (Kd.int .i64) w A0 l0.length l0) (hc0 : l0.length ≤ c0) (h : impl_inverse.f l0 = some r) :
    Calls Try.prog 72 #[.slice A0 l0.length c0] w fun e w' => ∃ v0_ : Value, e = .returned (v0_) ∧ Kd.R (Kd.int .i64) 3 w' w.heap.size (fun _ => True) v0_ r ∧ Below w.heap.size w w' := by
  have HR := Aside0.mk hr0
  clear hr0 hc0
  unfold impl_inverse.f at h
  by_cases hlim : l0.length < 17592186044416
  · rw [if_pos hlim] at h
    have hr := (Option.some.inj h).symm
    have HRR := Aside0.mk hr
    clear h hr
    obtain ⟨i0, hi, hz0, hz1, hz2⟩ := info_parts info3
    have hro : Fence.wide.round = none := rfl
    refine (callsIn_wide (n := 5)).1 ?_
    refine callsIn_of_wp_marks Try.func72 rfl trivial ?_ hro
    simp only [Try.ntmps72, List.size_toArray, List.length_cons, List.length_nil, Nat.reduceAdd, Nat.reduceSub, Array.replicate_succ, Array.replicate_zero, List.push_toArray, List.append_toArray, List.nil_append, List.cons_append]
    gi_wp2_with (refine ⟨trivial, ?_⟩; gi_at_call 78; refine (bwd_make Fence.wide 4 trivial hro _ _ _ _).mono ?_; rintro e w' ⟨rfl, rfl⟩)
    have hB0 : Below w.heap.size w (w.alloc (.cells #[] 3)) := (Below.refl _ w).alloc (Nat.le_refl _) _
    have bO := Boxed.new (w.alloc (.cells #[] 3)) 25 (.slice (some ⟨w.heap.size, 0, none⟩) 0 0)
    have bN := Boxed.new ((w.alloc (.cells #[] 3)).alloc (.cells #[.slice (some ⟨w.heap.size, 0, none⟩) 0 0] 25)) 25 (.slice A0 l0.length c0)
    simp only [World.size_alloc] at bO bN
    have hB1 : Below w.heap.size w (((w.alloc (.cells #[] 3)).alloc (.cells #[.slice (some ⟨w.heap.size, 0, none⟩) 0 0] 25)).alloc (.cells #[.slice A0 l0.length c0] 25)) := (hB0.alloc (by simp) _).alloc (by simp; omega) _
    have hR0 : (w.alloc (.cells #[] 3)).ownsRow w.heap.size 3 1 (.slice (some ⟨w.heap.size, 0, none⟩) 0 0) 0 [] := ⟨rfl, .inr ⟨w.heap.size, 0, #[], rfl, Nat.le_refl _, World.alloc_heap_new w _, Nat.le_refl _, Nat.zero_le _, rfl, rfl⟩⟩
    refine wpIn_rangeFunc_ownG hro (by omega) (gf := 85) (lb := #[.pointer (some ⟨w.heap.size + 1 + 1, 0, none⟩)]) rfl trivial (enters_of Try.func85 (by kernel_rfl) rfl)
      (bwd_stops Fence.wide 4 trivial hro (by omega) (w.heap.size + 1 + 1) c0 A0 l0 w _ (by simp) (by simp; omega) hB1 bN HR)
      (fun h k => ⟨h.1.trans k.1, fun q => k.2 (h.2 q)⟩) (fun W l o o' hl ho h1 h2 => ⟨belowK_b (w := ((w.alloc (.cells #[] 3)).alloc (.cells #[.slice (some ⟨w.heap.size, 0, none⟩) 0 0] 25)).alloc (.cells #[.slice A0 l0.length c0] 25)) (by simp; omega) W l o o' hl ho h1 h2, fun q => q.kept (grownBy_putObj' W l o') (by simp at hl ⊢; omega)⟩) (Below.refl _ _) (fun _ => rfl)
      (fun (pre : List (Nat × Int)) W => ((∃ v, Boxed W (w.heap.size + 1) 25 v ∧ W.ownsRow w.heap.size 3 1 v pre.length (pre.map fun x => Value.int .i64 (wrap64 (-x.2))) ∧ True) ∧ Boxed W (w.heap.size + 1 + 1) 25 (.slice A0 l0.length c0)) ∧ Below w.heap.size w W)
      (fun _ _ _ => False)
      (OwnFrom.and (OwnFrom.and (Own.from (holdsRow_own w.heap.size (w.heap.size + 1) 25 3 1 (fun (pre : List (Nat × Int)) => pre.length) (fun (pre : List (Nat × Int)) => pre.map fun x => Value.int .i64 (wrap64 (-x.2))) (fun (_ : List (Nat × Int)) (_ : Value) => True)) _) (Own.from (boxed_own _ _ _) _)) (ownFrom_below (Nat.le_refl _) (by simp; omega)))
      (fun _ _ _ _ _ hs _ _ => hs)
      ⟨⟨⟨_, bO.alloc _, (hR0.alloc _).alloc _, trivial⟩, bN⟩, hB1⟩
      (fun x => { tmps := #[.slice A0 l0.length c0, undef, .slice none 0 0, .pointer (some ⟨w.heap.size + 1, 0, none⟩), undef, .int .i64 x.2, .slice (some ⟨w.heap.size, 0, none⟩) 0 0, .slice A0 l0.length c0, .func (.func 85) #[] #[.pointer (some ⟨w.heap.size + 1 + 1, 0, none⟩)], .int .i64 (x.1 : Int), .int .i64 x.2, undef, undef, undef, undef, undef, undef], defers := [] }) ?assign ?body ?done ?stop
    case assign =>
      intro l x W K hK
      gi_wp2
      exact hK
    case body =>
      rintro l pre x W ⟨⟨⟨v, hv, hrow, _⟩, hbs⟩, hB⟩ hlt
      have hc := hv.cell
      have HBS := Aside0.mk hbs
      clear hbs
      gi_wp2_with (gi_at_builtin; refine wpListIn_append_own _ rfl _ _ 25 rfl w.heap.size 3 i0 (.int .i64 0) 1 8 Try.underlying25 hi hz0 hz1 hz2 rfl (by decide) _ _ _ rfl (hrow.alloc _) ⟨W.heap.size, 0, none⟩ 1 1 [.int .i64 (wrap64 (-x.2))] rfl rfl (cell_one_new _ _ _) (by simp [Value.oneCell']) (by unfold maxLen; omega) (by omega) (by have := hB.size; simp; omega) ?_; intro v' w1 hown' hgrow _; obtain ⟨g', cap', rfl⟩ := ownsRow_succ hown'; obtain ⟨hv1, hv2, hr2, hk2, hb2⟩ := hv.appended (by decide) hrow hB.size (Nat.le_succ _) hown' hgrow; have hc1 := hv1.cell; have hf1 := hv1.frozen; have hbs2 : Boxed (w1.setCell ⟨w.heap.size + 1, 0, none⟩ (.slice (some ⟨g', 0, none⟩) (pre.length + 1) cap')) (w.heap.size + 1 + 1) 25 (.slice A0 l0.length c0) := ((HBS.out.alloc _).kept hgrow (HBS.out.not_row (by decide) hrow)).kept (grownBy_setCell' w1 (w.heap.size + 1) _) (by simp))
      exact ⟨hk2.from _, ⟨hb2, fun _ => hbs2⟩, ⟨⟨_, hv2, by simpa using hr2, trivial⟩, hbs2⟩, hB.trans hb2⟩
    case done =>
      rintro D ys W hD rfl ⟨⟨⟨v, hv, hrow, _⟩, hbs⟩, hB⟩ hK
      have hc := hv.cell
      gi_wp2
      refine ⟨by simp, .inl ⟨_, _, rfl, run_takeDeferred hK, ?_⟩⟩
      refine ⟨_, results_tmp rfl _ _ _, v, rfl, ?_, hB.trans (belowK_b (w := w) (Nat.le_refl _) W D _ _ (by simp at hD; omega) hK rfl rfl)⟩
      have hrow2 := ownsRow_putObj hrow (.deferred none) hK rfl
      rw [HRR.out, ← bwd_inv]
      refine Kd.R_of_own (enc := Value.int .i64) (h1 := fun _ => rfl) ?_ (fun _ _ => trivial)
      have e1 : ((bwd l0 l0.length).map fun x => wrap64 (-x.2)).length = (bwd l0 l0.length).length := by simp
      rw [e1]
      simpa [encs, Function.comp_def] using hrow2
    case stop =>
      rintro D c pre W _ _ h _
      exact h.elim
  · rw [if_neg hlim] at h
    exact absurd h (by simp)
end

end Go.Proofs.Ytlojkjkbocfmfaa.P
