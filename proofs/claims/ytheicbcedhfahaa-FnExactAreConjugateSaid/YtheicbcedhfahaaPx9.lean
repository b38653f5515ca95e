/- Each call of a Go function named below comes to exactly the answers of the Lean function of its name, and a law row follows from its plain statement. No condition beyond those that each theorem states. -/
import Derived.Test.YtheicbcedhfahaaPx0
import Derived.Test.YtheicbcedhfahaaPx8
import Derived.Laws.CopyOwn
import Derived.Laws.Rows
import Derived.Laws.Tables
namespace Go.Proofs.Ytheicbcedhfahaa.P
open Go.RowKit Go.Proofs.YtheicbcedhfahaaW.PrintWords Go.Proofs.YtheicbcedhfahaaW.PrintLast Go.Proofs.YtheicbcedhfahaaW.PrintMore
attribute [local go_sem] max2_int min2_int max_two min_two max_three min_three max_four min_four   -- for this text's walks alone
set_option linter.unusedVariables false
set_option linter.unusedSimpArgs false

/-! ### spec_l3Table: function 62 -/
--@IMPORT Derived.Laws.Rows
--@IMPORT Derived.Laws.Tables
--@IMPORT Derived.Laws.CopyOwn
/-- The answers of n calls, one after the other. -/
def spec_l3Table.up {α : Type} (g : Int → Option α) : Nat → Option (List α)
  | 0 => some []
  | n + 1 => (spec_l3Table.up g n).bind fun t => (g (n : Int)).bind fun b => some (t ++ [b])
theorem spec_l3Table.up_spec {α : Type} {g : Int → Option α} : ∀ {n : Nat} {r : List α}, spec_l3Table.up g n = some r → r.length = n ∧ ∀ i : Nat, i < n → ∃ b, g (i : Int) = some b ∧ r[i]? = some b
  | 0, r, h => by
    obtain rfl := Option.some.inj h
    exact ⟨rfl, fun i hi => absurd hi (Nat.not_lt_zero i)⟩
  | n + 1, r, h => by
    obtain ⟨t, h1, h2⟩ := Option.bind_eq_some_iff.1 h
    obtain ⟨b, h3, h4⟩ := Option.bind_eq_some_iff.1 h2
    obtain rfl := Option.some.inj h4
    obtain ⟨e1, e2⟩ := spec_l3Table.up_spec h1
    refine ⟨by simp [e1], fun i hi => ?_⟩
    by_cases hin : i < n
    · obtain ⟨c, h5, h6⟩ := e2 i hin
      exact ⟨c, h5, by rw [List.getElem?_append_left (by omega)]; exact h6⟩
    · have : i = n := by omega
      subst this
      exact ⟨b, h3, by rw [List.getElem?_append_right (by omega), e1]; simp⟩
def spec_l3Table.f (k : Nat) (l0 : List Int) : Option (TabB 64) := (spec_l3Table.up (fun s => spec_l3Falls.f k l0 s) 64).bind fun r => if h : r.length = 64 then some ⟨r, h⟩ else none
theorem spec_l3Table.up_mono {α : Type} {g g' : Int → Option α} (h : ∀ s, LeO (g s) (g' s)) : ∀ n, LeO (spec_l3Table.up g n) (spec_l3Table.up g' n)
  | 0 => LeO.refl _
  | n + 1 => LeO.bind (spec_l3Table.up_mono h n) (fun t => LeO.bind (h _) (fun b => LeO.refl _))
theorem spec_l3Table.mono : ∀ a0 k, LeO (spec_l3Table.f k a0) (spec_l3Table.f (k + 1) a0) := fun a0 k => LeO.bind (spec_l3Table.up_mono (fun s => spec_l3Falls.mono a0 s k) 64) (fun _ => LeO.refl _)
theorem spec_l3Table.step {r : List Bool} {n : Nat} (hr : r.length = n) {i : Nat} (hi : i < n) {b : Bool} (hb : r[i]? = some b) : ((r.take i ++ List.replicate (n - i) false).map Value.bool).set i (.bool b) = (r.take (i + 1) ++ List.replicate (n - (i + 1)) false).map Value.bool := by
  have hlt : i < r.length := by omega
  rw [List.getElem?_eq_getElem hlt] at hb
  rw [← Option.some.inj hb, List.take_succ_eq_append_getElem hlt, show n - i = (n - (i + 1)) + 1 from by omega, List.replicate_succ]
  have hl : ((r.take i).map Value.bool).length = i := by simp; omega
  simp only [List.map_append, List.map_cons, List.map_nil, List.append_assoc, List.cons_append, List.nil_append]
  rw [List.set_append_right _ _ (by omega), hl, Nat.sub_self, List.set_cons_zero]
set_option maxHeartbeats 8000000 in
set_option maxRecDepth 100000 in
theorem spec_l3Table.calls (k : Nat) (A0 : Option Addr) (c0 : Nat) (l0 : List Int) (r : TabB 64) (w : World) (hr0 : Kd.C (Kd.int .i64) w A0 l0.length l0) (hc0 : l0.length ≤ c0) (h : spec_l3Table.f k l0 = some r) :
    Calls Try.prog 62 #[.slice A0 l0.length c0] w fun e w' => e = .returned (.agg (TabB.v r)) ∧ Below w.heap.size w w' := by
  obtain ⟨r, hr64⟩ := r
  replace h := Option.bind_eq_some_iff.1 h
  obtain ⟨r', h, h2⟩ := h
  have hrr : r' = r := by
    by_cases hc : r'.length = 64
    · rw [dif_pos hc] at h2; exact congrArg Subtype.val (Option.some.inj h2)
    · rw [dif_neg hc] at h2; exact absurd h2 (by simp)
  subst hrr
  clear h2
  obtain ⟨hlen, hall⟩ := spec_l3Table.up_spec h
  have hinfo : (Try.prog.info? 65).map (fun i => (i.zero, i.size, i.bytes)) = some (some (.agg ((List.replicate 64 false).map Value.bool).toArray), 64, 64) := by kernel_rfl
  have hz := arr_zero (P := Try.prog) hinfo
  have hsz := arr_size (P := Try.prog) hinfo
  clear hinfo
  have HR := Aside0.mk hr0
  have HA := Aside0.mk hall
  clear hr0 h hall
  have hfal : ∀ (s : Nat) (W : World) (b : Bool), s < 64 → r'[s]? = some b → Below w.heap.size w W → Calls Try.prog 99 #[.slice A0 l0.length c0, .int .i64 (s : Int)] W fun e w' => e = .returned (.bool b) ∧ Below W.heap.size W w' := by
    intro s W b hs hb hB
    obtain ⟨b', h1, h2⟩ := HA.out s hs
    rw [hb] at h2
    obtain rfl := Option.some.inj h2
    exact spec_l3Falls.calls k A0 c0 l0 (s : Int) b W (Kd.C_below HR.out hB) hc0 h1
  have HF := Aside0.mk hfal
  have H0 := Aside0.mk (Below.refl w.heap.size w)
  obtain ⟨zs, hzs⟩ : ∃ zs : List Value, zs = (List.replicate 64 false).map Value.bool := ⟨_, rfl⟩
  have hz1 : ∀ v, (Value.agg v).cells = v := fun _ => rfl
  have hz2 : ∀ W, (zeroValue 65).run Try.prog W = .ok (.agg zs.toArray) W := by rw [hzs]; exact hz
  have hl : zs.length = 64 := by rw [hzs]; simp
  have h1 : zs.toArray.all (·.oneCell') = true := by rw [hzs]; exact bools_one _
  have HBL : Aside0 (Try.prog.built 65 [] = some zs.toArray) := ⟨by rw [hzs]; kernel_rfl⟩
  have HZS := Aside0.mk hzs
  clear hfal hz hzs
  have HSZ := Aside0.mk hsz
  have HN3 : Aside0 (ArrW ((w.alloc (.cells zs.toArray 65)).alloc (.cells zs.toArray 65)) (w.heap.size + 1) 65 zs) := ⟨by have h_ := ArrW.new (w.alloc (.cells zs.toArray 65)) 65 zs; rwa [World.size_alloc] at h_⟩
  have HN2 : Aside0 (ArrW ((w.alloc (.cells zs.toArray 65)).alloc (.cells zs.toArray 65)) w.heap.size 65 zs) := ⟨(ArrW.new w 65 zs).alloc _⟩
  have HNB : Aside0 (Below w.heap.size w ((w.alloc (.cells zs.toArray 65)).alloc (.cells zs.toArray 65))) := ⟨below_alloc (below_alloc (Below.refl _ _) _) _⟩
  clear hsz
  go_enter Try.func62, Try.ntmps62
  go_wp2_with (first
    | ((with_reducible refine gate_dst (N := 2) rfl ?_); refine arr_alloc rfl 65 rfl hz2 ?_; rw [hz1])
    | ((with_reducible refine gate_dst (N := 5) rfl ?_); refine arr_build rfl 65 rfl HBL.out ?_)
    | ((with_reducible refine gate_dst (N := 3) rfl ?_); refine arr_alloc rfl 65 rfl hz2 ?_; rw [hz1])
    | ((with_reducible refine gate_store0 (t := 65) (p := 3) (v := .tmp 5) rfl ?_); refine arr_store (n := 64) (by rfl) (by rfl) 65 (.tmp 3) (.tmp 5) (by rfl) (b := w.heap.size + 1) (cs := zs) (cs' := zs) (by go_simp) (by rfl) HN3.out HSZ.out hl hl h1 ?_; intro w3 ha3 hot3 hbl3))
  have HA2 : Aside0 (ArrW w3 w.heap.size 65 zs) := ⟨(hot3 w.heap.size (by omega)).trans HN2.out⟩
  have HA3 : Aside0 (ArrW w3 (w.heap.size + 1) 65 ((r'.take 0 ++ List.replicate (64 - 0) false).map Value.bool)) := ⟨by rw [HZS.out] at ha3; simpa using ha3⟩
  have HB3 := Aside0.mk (hbl3 _ _ HNB.out (by omega))
  clear ha3 hot3 hbl3 HN2 HN3 HNB
  go_loopg [4] 64 (fun gg s4 wr => ∃ i : Nat, i ≤ 64 ∧ 64 - i ≤ gg ∧ s4 = .int .i64 i ∧ Aside0 (ArrW wr w.heap.size 65 zs) ∧ Aside0 (ArrW wr (w.heap.size + 1) 65 ((r'.take i ++ List.replicate (64 - i) false).map Value.bool)) ∧ Aside0 (Below w.heap.size w wr))
  case atStart => exact ⟨0, by omega, by omega, rfl, HA2, HA3, HB3⟩
  case round =>
    obtain ⟨i, hi, hg, rfl, HC2, HC3, HC⟩ := hrel
    by_cases hlt : i < 64
    · have hltz : (i : Int) < 64 := by omega
      have hge0 : (0 : Int) ≤ (i : Int) := by omega
      obtain ⟨b, hb⟩ : ∃ b, r'[i]? = some b := ⟨r'[i], List.getElem?_eq_getElem (by omega)⟩
      have HBB := Aside0.mk hb
      have HCALL := Aside0.mk (HF.out i wr b hlt hb HC.out)
      clear hb
      go_wp2_with (go_at_call 99; refine HCALL.out.mono ?_; rintro e w' ⟨rfl, hb'⟩; obtain ⟨hci, hfi⟩ := (HC3.out.below hb').at i (.bool false) (by rw [List.getElem?_map, List.getElem?_append_right (by simp; omega), List.getElem?_replicate, if_pos (by simp; omega)]; rfl))
      go_roundg (64 - (i + 1))
      case measure => omega
      case rel => exact ⟨i + 1, by omega, by omega, by go_num, ⟨(HC2.out.below hb').other _ _ (by simp)⟩, ⟨by rw [← spec_l3Table.step hlen hlt HBB.out]; exact (HC3.out.below hb').set i _⟩, ⟨below_cell (below_step HC.out hb') (by omega)⟩⟩
    · have hltz : ¬ (i : Int) < 64 := by omega
      have hn : i = 64 := by omega
      subst hn
      have hfin : (r'.take 64 ++ List.replicate (64 - 64) false).map Value.bool = r'.map Value.bool := by rw [List.take_of_length_le (by omega)]; simp
      rw [hfin] at HC3
      have hrl : (r'.map Value.bool).length = 64 := by simpa using hlen
      have hr1 := bools_one r'
      generalize hrs : r'.map Value.bool = rs at HC3 hrl hr1
      have HRS := Aside0.mk hrs
      clear hrs
      go_wp2_with (first
        | ((with_reducible refine gate_dst (N := 15) rfl ?_); refine arr_load (n := 64) (by rfl) 65 (.tmp 3) (by rfl) (b := w.heap.size + 1) (by rfl) HC3.out Try.underlying65 rfl HSZ.out hrl ?_)
        | ((with_reducible refine gate_store0 (t := 65) (p := 2) (v := .tmp 15) rfl ?_); refine arr_store (n := 64) (by rfl) (by rfl) 65 (.tmp 2) (.tmp 15) (by rfl) (b := w.heap.size) (cs := zs) (cs' := rs) (by rfl) (by rfl) HC2.out HSZ.out hl hrl hr1 ?_; intro w4 ha4 hot4 hbl4))
      refine bodyPost_ret (results_cell_row rfl _ _ w.heap.size 65 rs.toArray (0, 0) _ rfl ha4 Try.underlying65 rfl (by rw [HSZ.out, ← hrl]; simp)) rfl ?_
      exact ⟨by show _ = Ending.returned (.agg (r'.map Value.bool).toArray); rw [HRS.out], hbl4 _ _ HC.out (Nat.le_refl _)⟩

end Go.Proofs.Ytheicbcedhfahaa.P
