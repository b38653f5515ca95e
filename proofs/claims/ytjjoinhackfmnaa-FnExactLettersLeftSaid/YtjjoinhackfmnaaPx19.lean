/- Each call of a Go function named below comes to exactly the answers of the Lean function of its name, and a law row follows from its plain statement. No condition beyond those that each theorem states. -/
import Derived.Test.YtjjoinhackfmnaaPx0
import Derived.Test.YtjjoinhackfmnaaPx1
import Derived.Test.YtjjoinhackfmnaaPx12
import Derived.Deep.MidRow
import Derived.Deep.RegionHeld3
namespace Go.Proofs.Ytjjoinhackfmnaa.P
open Go.RowKit Go.Proofs.YtjjoinhackfmnaaW.PrintWords Go.Proofs.YtjjoinhackfmnaaW.PrintLast Go.Proofs.YtjjoinhackfmnaaW.PrintMore
attribute [local go_sem] max2_int min2_int max_two min_two max_three min_three max_four min_four   -- for this text's walks alone
set_option linter.unusedVariables false
set_option linter.unusedSimpArgs false

/-! ### spec_LettersLeft: function 35 -/
--@IMPORT Derived.Deep.RegionHeld3
--@IMPORT Derived.Deep.MidRow
/-- The answers of n calls, one after the other. -/
def spec_LettersLeft.up {α : Type} (g : Int → Option α) : Nat → Option (List α)
  | 0 => some []
  | n + 1 => (spec_LettersLeft.up g n).bind fun t => (g (n : Int)).bind fun b => some (t ++ [b])
theorem spec_LettersLeft.up_spec {α : Type} {g : Int → Option α} : ∀ {n : Nat} {r : List α}, spec_LettersLeft.up g n = some r → r.length = n ∧ ∀ i : Nat, i < n → ∃ b, g (i : Int) = some b ∧ r[i]? = some b
  | 0, r, h => by
    obtain rfl := Option.some.inj h
    exact ⟨rfl, fun i hi => absurd hi (Nat.not_lt_zero i)⟩
  | n + 1, r, h => by
    obtain ⟨t, h1, h2⟩ := Option.bind_eq_some_iff.1 h
    obtain ⟨b, h3, h4⟩ := Option.bind_eq_some_iff.1 h2
    obtain rfl := Option.some.inj h4
    obtain ⟨e1, e2⟩ := spec_LettersLeft.up_spec h1
    refine ⟨by simp [e1], fun i hi => ?_⟩
    by_cases hin : i < n
    · obtain ⟨c, h5, h6⟩ := e2 i hin
      exact ⟨c, h5, by rw [List.getElem?_append_left (by omega)]; exact h6⟩
    · have : i = n := by omega
      subst this
      exact ⟨b, h3, by rw [List.getElem?_append_right (by omega), e1]; simp⟩
theorem spec_LettersLeft.up_mono {α : Type} {g g' : Int → Option α} (h : ∀ s, LeO (g s) (g' s)) : ∀ n, LeO (spec_LettersLeft.up g n) (spec_LettersLeft.up g' n)
  | 0 => LeO.refl _
  | n + 1 => LeO.bind (spec_LettersLeft.up_mono h n) (fun t => LeO.bind (h _) (fun b => LeO.refl _))
theorem spec_LettersLeft.step {r : List Int} {n : Nat} (hr : r.length = n) {i : Nat} (hi : i < n) {b : Int} (hb : r[i]? = some b) : ((r.take i ++ List.replicate (n - i) (0 : Int)).map (Value.int .i64)).set i (.int .i64 b) = (r.take (i + 1) ++ List.replicate (n - (i + 1)) (0 : Int)).map (Value.int .i64) := by
  have hlt : i < r.length := by omega
  rw [List.getElem?_eq_getElem hlt] at hb
  rw [← Option.some.inj hb, List.take_succ_eq_append_getElem hlt, show n - i = (n - (i + 1)) + 1 from by omega, List.replicate_succ]
  have hl : ((r.take i).map (Value.int .i64)).length = i := by simp; omega
  simp only [List.map_append, List.map_cons, List.map_nil, List.append_assoc, List.cons_append, List.nil_append]
  rw [List.set_append_right _ _ (by omega), hl, Nat.sub_self, List.set_cons_zero]
theorem spec_LettersLeft.ret {P : Program} {fn : Func} {p u : Tmp} {ty : TypeId} (h : fn.results = #[.cell p ty, .tmp u]) (tmps : Array Value) (w : World) (g : Nat) (t : TypeId) (cs : Array Value) (fr : Nat × Nat) (d : TypeDesc)
    (hp : tmps.getD p undef = .pointer (some ⟨g, 0, none⟩)) (hg : w.heap[g]? = some (.cells cs t fr))
    (hu : P.underlying ty = some d) (hd : (match d with | .struct _ | .array _ _ => true | _ => false) = true) (hi : (P.info? ty).map (·.size) = some cs.size) :
    (results fn tmps).run P w = .ok (.tuple #[.agg cs, tmps.getD u undef]) w := by
  have hp' : tmps[p]?.getD undef = .pointer (some ⟨g, 0, none⟩) := by simpa using hp
  simp [results, h, hp', asAddr, run_loadVar_row w g t ty cs fr d hg hu hd hi]
theorem spec_LettersLeft.sets {t b : Nat} : ∀ (vs : List Value) (o : Nat) (cs : List Value) (w : World), ArrW w b t cs → o + vs.length ≤ cs.length → ArrW (w.setCells b o vs) b t (cs.take o ++ vs ++ cs.drop (o + vs.length))
  | [], o, cs, w, h, _ => by simpa [World.setCells] using h
  | v :: vs, o, cs, w, h, hl => by
    simp only [List.length_cons] at hl
    have h2 := spec_LettersLeft.sets vs (o + 1) (cs.set o v) _ (h.set o v) (by simp; omega)
    have e : (cs.set o v).take (o + 1) ++ vs ++ (cs.set o v).drop (o + 1 + vs.length) = cs.take o ++ (v :: vs) ++ cs.drop (o + (v :: vs).length) := by
      rw [List.drop_set_of_lt (by omega), List.take_succ_eq_append_getElem (by simp; omega), List.take_set_of_le (Nat.le_refl _)]
      simp [Nat.add_assoc, Nat.add_comm 1]
    rw [e] at h2
    exact h2
theorem spec_LettersLeft.bsets {n0 b : Nat} {w0 : World} (hn : n0 ≤ b) : ∀ (vs : List Value) (o : Nat) (w : World), Below n0 w0 w → Below n0 w0 (w.setCells b o vs)
  | [], _, _, h => h
  | _ :: vs, o, _, h => spec_LettersLeft.bsets hn vs (o + 1) _ (below_cell h hn)
def spec_LettersLeft.f (k : Nat) (l0 : List Int) : Option (TabI 64 × Bool) := (spec_l2Word.f k l0).bind fun t => if t = true then (spec_LettersLeft.up (fun s => (spec_l3Take.f k l0 s).bind fun z => some (z.length : Int)) 64).bind fun r => (if h : r.length = 64 then some (⟨r, h⟩, true) else none) else some (TabI.zero 64, false)
theorem spec_LettersLeft.mono : ∀ a0 k, LeO (spec_LettersLeft.f k a0) (spec_LettersLeft.f (k + 1) a0) := by
  intro a0 k
  refine LeO.bind (spec_l2Word.mono a0 k) (fun t => ?_)
  by_cases h : t = true
  · rw [if_pos h, if_pos h]; exact LeO.bind (spec_LettersLeft.up_mono (fun s => LeO.bind (spec_l3Take.mono a0 s k) (fun _ => LeO.refl _)) 64) (fun _ => LeO.refl _)
  · rw [if_neg h, if_neg h]; exact LeO.refl _
set_option maxHeartbeats 8000000 in
set_option maxRecDepth 100000 in
theorem spec_LettersLeft.calls (k : Nat) (A0 : Option Addr) (c0 : Nat) (l0 : List Int) (r1 : TabI 64) (r2 : Bool) (w : World) (hr0 : Kd.C (Kd.int .i64) w A0 l0.length l0) (hc0 : l0.length ≤ c0) (h : spec_LettersLeft.f k l0 = some (r1, r2)) :
    Calls Try.prog 35 #[.slice A0 l0.length c0] w fun e w' => e = .returned (.tuple #[.agg (TabI.v r1), .bool r2]) ∧ Below w.heap.size w w' := by
  have hinfo : (Try.prog.info? 49).map (fun i => (i.zero, i.size, i.bytes)) = some (some (.agg ((List.replicate 64 (0 : Int)).map (Value.int .i64)).toArray), 64, 512) := by kernel_rfl
  have hz := arr_zero (P := Try.prog) hinfo
  have hsz := arr_size (P := Try.prog) hinfo
  clear hinfo
  obtain ⟨t, h1, h2⟩ := Option.bind_eq_some_iff.1 h
  have hW := fun W (hB : Below w.heap.size w W) => spec_l2Word.calls k A0 c0 l0 t W (Kd.C_below hr0 hB) hc0 h1
  obtain ⟨zs, hzs⟩ : ∃ zs : List Value, zs = (List.replicate 64 (0 : Int)).map (Value.int .i64) := ⟨_, rfl⟩
  have hz1 : ∀ v, (Value.agg v).cells = v := fun _ => rfl
  have hz2 : ∀ W, (zeroValue 49).run Try.prog W = .ok (.agg zs.toArray) W := by rw [hzs]; exact hz
  have hl : zs.length = 64 := by rw [hzs]; simp
  have ho : zs.toArray.all (·.oneCell') = true := by rw [hzs]; exact ints_one _
  have HBL : Aside0 (Try.prog.built 49 [] = some zs.toArray) := ⟨by rw [hzs]; kernel_rfl⟩
  have HSZ := Aside0.mk hsz
  have HZV : Aside0 (zs.toArray = TabI.v (TabI.zero 64)) := ⟨by rw [hzs]; rfl⟩
  have HZS := Aside0.mk hzs
  have HN3 : Aside0 (ArrW ((w.alloc (.cells zs.toArray 49)).alloc (.cells zs.toArray 49)) (w.heap.size + 1) 49 zs) := ⟨by have h_ := ArrW.new (w.alloc (.cells zs.toArray 49)) 49 zs; rwa [World.size_alloc] at h_⟩
  have HN2 : Aside0 (ArrW ((w.alloc (.cells zs.toArray 49)).alloc (.cells zs.toArray 49)) w.heap.size 49 zs) := ⟨(ArrW.new w 49 zs).alloc _⟩
  have HNB : Aside0 (Below w.heap.size w ((w.alloc (.cells zs.toArray 49)).alloc (.cells zs.toArray 49))) := ⟨below_alloc (below_alloc (Below.refl _ _) _) _⟩
  have HW := Aside0.mk hW
  clear hz hsz hzs hW h h1
  cases t with
  | false =>
    obtain ⟨rfl, rfl⟩ : TabI.zero 64 = r1 ∧ false = r2 := by simpa using h2
    clear h2 hr0
    go_enter Try.func35, Try.ntmps35
    go_wp2_with (first
      | ((with_reducible refine gate_dst (N := 2) rfl ?_); refine arr_alloc rfl 49 rfl hz2 ?_; rw [hz1])
      | ((with_reducible refine gate_dst (N := 6) rfl ?_); refine arr_build rfl 49 rfl HBL.out ?_)
      | ((with_reducible refine gate_dst (N := 4) rfl ?_); refine arr_alloc rfl 49 rfl hz2 ?_; rw [hz1])
      | ((with_reducible refine gate_store0 (t := 49) (p := 4) (v := .tmp 6) rfl ?_); refine arr_store (n := 64) (by rfl) (by rfl) 49 (.tmp 4) (.tmp 6) (by rfl) (b := w.heap.size + 1) (cs := zs) (cs' := zs) (by go_simp) (by rfl) HN3.out HSZ.out hl hl ho ?_; intro w3 ha3 hot3 hbl3; have HA3 := Aside0.mk ha3; have HA2 := Aside0.mk (show ArrW w3 w.heap.size 49 zs from (hot3 w.heap.size (by omega)).trans HN2.out); have HB3 := Aside0.mk (hbl3 _ _ HNB.out (by omega)); clear ha3 hot3 hbl3))
    clear HN3 HN2 HNB
    go_loopg [5] 1 (fun gg s5 wr => s5 = .int .i64 0 ∧ Aside0 (ArrW wr w.heap.size 49 zs) ∧ Aside0 (ArrW wr (w.heap.size + 1) 49 zs) ∧ Aside0 (Below w.heap.size w wr))
    case atStart => exact ⟨rfl, HA2, HA3, HB3⟩
    case round =>
      obtain ⟨rfl, HD2, HD3, HD⟩ := hrel
      go_wp2_with (go_at_call 49; refine (HW.out _ HD.out).mono ?_; rintro e w' ⟨rfl, ⟨nd, rfl⟩⟩)
      have hu := Try.underlying49
      have hi64 : (Try.prog.info? 49).map (·.size) = some zs.length := by rw [hl]; exact HSZ.out
      have h1c : ∀ v ∈ zs, v.oneCell' = true := by intro v hv; have h_ := ho; simp at h_; exact h_ v hv
      have hr3 : (wr.drewN nd).rangeAt (w.heap.size + 1) 0 zs := fun j v hv => by rw [Nat.zero_add]; exact ((HD3.out.below (pw_below_drewN (Below.refl _ _) nd)).at j v hv).1
      have hth : (wr.drewN nd).there w.heap.size 0 64 := fun j hj => by
        rw [Nat.zero_add]
        have h_ := (HD2.out.below (pw_below_drewN (Below.refl _ _) nd)).at j zs[j] (List.getElem?_eq_getElem (by omega))
        exact ⟨by rw [h_.1]; rfl, h_.2⟩
      have hrw : wr.rangeAt (w.heap.size + 1) 0 zs := fun j v hv => by rw [Nat.zero_add]; exact (HD3.out.at j v hv).1
      have htw : wr.there w.heap.size 0 64 := fun j hj => by
        rw [Nat.zero_add]
        have h_ := HD2.out.at j zs[j] (List.getElem?_eq_getElem (by omega))
        exact ⟨by rw [h_.1]; rfl, h_.2⟩
      have HDN := Aside0.mk (pw_below_drewN HD.out nd)
      have HRW := Aside0.mk hrw
      have HTW := Aside0.mk htw
      clear hrw htw
      go_region_held3 (fun w' => w'.rangeAt (w.heap.size + 1) 0 zs ∧ w'.there w.heap.size 0 64 ∧ Below w.heap.size w w') (first | exact ⟨(World.rangeAt_drew _ _ _ _).2 hr3, (World.there_drew _ _ _ _).2 hth, below_drew1 HDN.out⟩ | exact ⟨(World.rangeAt_drew _ _ _ _).2 hr3, (World.there_drew _ _ _ _).2 hth, below_drew HDN.out⟩ | exact ⟨fun j v hv => HRW.out j v hv, fun j hj => HTW.out j hj, pw_below_drewN HD.out _⟩ | exact ⟨World.rangeAt_setCells_apart (show (World.drewN wr _).rangeAt (w.heap.size + 1) 0 zs from fun j v hv => HRW.out j v hv) _ _ _ (.inl (by omega)), World.there_setCells (show (World.drewN wr _).there w.heap.size 0 64 from fun j hj => HTW.out j hj) _ _ _, spec_LettersLeft.bsets (Nat.le_refl _) _ _ _ (pw_below_drewN HD.out _)⟩) ((go_at_call 49; refine (HW.out _ (by first | exact (by assumption : World.rangeAt _ (w.heap.size + 1) 0 zs ∧ World.there _ w.heap.size 0 64 ∧ Below w.heap.size w _).2.2 | assumption)).mono ?_; rintro e w' ⟨rfl, ⟨nd2, rfl⟩⟩))
      all_goals (have ha4 := spec_LettersLeft.sets (t := 49) zs 0 zs _ (HD2.out.below (pw_below_drewN (Below.refl _ _) (nd + 1 + nd2))) (by omega))
      all_goals (simp only [List.take_zero, List.nil_append, Nat.zero_add, List.drop_length, List.append_nil] at ha4)
      all_goals (have HA4 := Aside0.mk ha4; clear ha4; have HB4 := Aside0.mk (spec_LettersLeft.bsets (Nat.le_refl _) zs 0 _ (pw_below_drewN HD.out (nd + 1 + nd2))))
      all_goals go_wp2
      refine bodyPost_ret (spec_LettersLeft.ret rfl _ _ w.heap.size 49 zs.toArray (0, 0) _ rfl HA4.out Try.underlying49 rfl (by rw [HSZ.out, ← hl]; simp)) rfl ?_
      exact ⟨by rw [← HZV.out]; rfl, HB4.out⟩
  | true =>
    replace h2 := Option.bind_eq_some_iff.1 (show (spec_LettersLeft.up (fun s => (spec_l3Take.f k l0 s).bind fun z => some (z.length : Int)) 64).bind (fun r => (if h : r.length = 64 then some ((⟨r, h⟩ : TabI 64), true) else none)) = some (r1, r2) from h2)
    obtain ⟨r, hup, h2⟩ := h2
    obtain ⟨hlen, hall⟩ := spec_LettersLeft.up_spec hup
    rw [dif_pos hlen] at h2
    obtain ⟨rfl, rfl⟩ := Prod.mk.inj (Option.some.inj h2)
    have htak : ∀ (s : Nat) (W : World) (b : Int), s < 64 → r[s]? = some b → Below w.heap.size w W → Calls Try.prog 73 #[.slice A0 l0.length c0, .int .i64 (s : Int)] W fun e w' => ∃ (A : Option Addr) (n c : Nat), e = .returned (.slice A n c) ∧ (n : Int) = b ∧ Below W.heap.size W w' := by
      intro s W b hs hb hB
      obtain ⟨b', h1, h3⟩ := hall s hs
      rw [hb] at h3
      obtain rfl := Option.some.inj h3
      obtain ⟨z, hz3, hz4⟩ := Option.bind_eq_some_iff.1 h1
      refine (spec_l3Take.calls k A0 c0 l0 (s : Int) z W (Kd.C_below hr0 hB) hc0 hz3).mono ?_
      rintro e w' ⟨v, rfl, ho5, hb5⟩
      obtain ⟨A, c, rfl⟩ := Kd.R_slice ho5
      exact ⟨A, z.length, c, rfl, Option.some.inj hz4, hb5⟩
    have HF := Aside0.mk htak
    clear h2 hr0 hup hall htak
    go_enter Try.func35, Try.ntmps35
    go_wp2_with (first
      | ((with_reducible refine gate_dst (N := 2) rfl ?_); refine arr_alloc rfl 49 rfl hz2 ?_; rw [hz1])
      | ((with_reducible refine gate_dst (N := 6) rfl ?_); refine arr_build rfl 49 rfl HBL.out ?_)
      | ((with_reducible refine gate_dst (N := 4) rfl ?_); refine arr_alloc rfl 49 rfl hz2 ?_; rw [hz1])
      | ((with_reducible refine gate_store0 (t := 49) (p := 4) (v := .tmp 6) rfl ?_); refine arr_store (n := 64) (by rfl) (by rfl) 49 (.tmp 4) (.tmp 6) (by rfl) (b := w.heap.size + 1) (cs := zs) (cs' := zs) (by go_simp) (by rfl) HN3.out HSZ.out hl hl ho ?_; intro w3 ha3 hot3 hbl3; have HA3 := Aside0.mk ha3; have HA2 := Aside0.mk (show ArrW w3 w.heap.size 49 zs from (hot3 w.heap.size (by omega)).trans HN2.out); have HB3 := Aside0.mk (hbl3 _ _ HNB.out (by omega)); clear ha3 hot3 hbl3))
    have HL3 : Aside0 (ArrW w3 (w.heap.size + 1) 49 ((r.take 0 ++ List.replicate (64 - 0) (0 : Int)).map (Value.int .i64))) := ⟨by have h_ := HA3.out; rw [HZS.out] at h_; simpa using h_⟩
    clear HN3 HN2 HNB HA3
    go_loopg [5] 64 (fun gg s5 wr => ∃ i : Nat, i ≤ 64 ∧ 64 - i ≤ gg ∧ s5 = .int .i64 i ∧ Aside0 (ArrW wr w.heap.size 49 zs) ∧ Aside0 (ArrW wr (w.heap.size + 1) 49 ((r.take i ++ List.replicate (64 - i) (0 : Int)).map (Value.int .i64))) ∧ Aside0 (Below w.heap.size w wr))
    case atStart => exact ⟨0, by omega, by omega, rfl, HA2, HL3, HB3⟩
    case round =>
      obtain ⟨i, hi, hg, rfl, HD2, HD3, HD⟩ := hrel
      by_cases hlt : i < 64
      · have hltz : (i : Int) < 64 := by omega
        have hge0 : (0 : Int) ≤ (i : Int) := by omega
        obtain ⟨b, hb⟩ : ∃ b, r[i]? = some b := ⟨r[i], List.getElem?_eq_getElem (by omega)⟩
        have HBB := Aside0.mk hb
        have HCALL := Aside0.mk (fun n => HF.out i (wr.drewN n) b hlt hb (pw_below_drewN HD.out n))
        clear hb
        go_wp2_with (first
          | (go_at_call 49; refine (HW.out _ HD.out).mono ?_; rintro e w' ⟨rfl, ⟨nd, rfl⟩⟩)
          | (go_at_call 73; refine (HCALL.out _).mono ?_; rintro e w' ⟨A5, n5, c5, rfl, hn5, hb'⟩; obtain ⟨hci, hfi⟩ := ((HD3.out.below (pw_below_drewN (Below.refl _ _) nd)).below hb').at i (.int .i64 0) (by rw [List.getElem?_map, List.getElem?_append_right (by simp; omega), List.getElem?_replicate, if_pos (by simp; omega)]; rfl)))
        go_roundg (64 - (i + 1))
        case measure => omega
        case rel => exact ⟨i + 1, by omega, by omega, by go_num, ⟨((HD2.out.below (pw_below_drewN (Below.refl _ _) nd)).below hb').other _ _ (by simp)⟩, ⟨by rw [← spec_LettersLeft.step hlen hlt HBB.out, ← hn5]; exact ((HD3.out.below (pw_below_drewN (Below.refl _ _) nd)).below hb').set i _⟩, ⟨below_cell (below_step (pw_below_drewN HD.out nd) hb') (by omega)⟩⟩
      · have hltz : ¬ (i : Int) < 64 := by omega
        have hn : i = 64 := by omega
        subst hn
        have hfin : (r.take 64 ++ List.replicate (64 - 64) (0 : Int)).map (Value.int .i64) = r.map (Value.int .i64) := by rw [List.take_of_length_le (by omega)]; simp
        rw [hfin] at HD3
        have hrl : (r.map (Value.int .i64)).length = 64 := by simpa using hlen
        have hr1 := ints_one r
        generalize hrs : r.map (Value.int .i64) = rs at HD3 hrl hr1
        have HRS := Aside0.mk hrs
        clear hrs
        go_wp2
        have hu := Try.underlying49
        have hi64 : (Try.prog.info? 49).map (·.size) = some rs.length := by rw [hrl]; exact HSZ.out
        have h1c : ∀ v ∈ rs, v.oneCell' = true := by intro v hv; have h_ := hr1; simp at h_; exact h_ v hv
        have hrw : wr.rangeAt (w.heap.size + 1) 0 rs := fun j v hv => by rw [Nat.zero_add]; exact (HD3.out.at j v hv).1
        have htw : wr.there w.heap.size 0 64 := fun j hj => by
          rw [Nat.zero_add]
          have h_ := HD2.out.at j zs[j] (List.getElem?_eq_getElem (by omega))
          exact ⟨by rw [h_.1]; rfl, h_.2⟩
        have HDN := Aside0.mk HD.out
        have HRW := Aside0.mk hrw
        have HTW := Aside0.mk htw
        clear hrw htw
        go_region_held3 (fun w' => w'.rangeAt (w.heap.size + 1) 0 rs ∧ w'.there w.heap.size 0 64 ∧ Below w.heap.size w w') (first | exact ⟨(World.rangeAt_drew _ _ _ _).2 HRW.out, (World.there_drew _ _ _ _).2 HTW.out, below_drew1 HDN.out⟩ | exact ⟨(World.rangeAt_drew _ _ _ _).2 HRW.out, (World.there_drew _ _ _ _).2 HTW.out, below_drew HDN.out⟩ | exact ⟨fun j v hv => HRW.out j v hv, fun j hj => HTW.out j hj, pw_below_drewN HD.out _⟩ | exact ⟨World.rangeAt_setCells_apart (show (World.drewN wr _).rangeAt (w.heap.size + 1) 0 rs from fun j v hv => HRW.out j v hv) _ _ _ (.inl (by omega)), World.there_setCells (show (World.drewN wr _).there w.heap.size 0 64 from fun j hj => HTW.out j hj) _ _ _, spec_LettersLeft.bsets (Nat.le_refl _) _ _ _ (pw_below_drewN HD.out _)⟩) ((go_at_call 49; refine (HW.out _ (by first | exact (by assumption : World.rangeAt _ (w.heap.size + 1) 0 rs ∧ World.there _ w.heap.size 0 64 ∧ Below w.heap.size w _).2.2 | assumption)).mono ?_; rintro e w' ⟨rfl, ⟨nd2, rfl⟩⟩))
        all_goals (have ha4 := spec_LettersLeft.sets (t := 49) rs 0 zs _ (HD2.out.below (pw_below_drewN (Below.refl _ _) (1 + nd2))) (by omega))
        all_goals (simp only [List.take_zero, List.nil_append, Nat.zero_add, List.drop_of_length_le (show zs.length ≤ rs.length by omega), List.append_nil] at ha4)
        all_goals (have HA4 := Aside0.mk ha4; clear ha4; have HB4 := Aside0.mk (spec_LettersLeft.bsets (Nat.le_refl _) rs 0 _ (pw_below_drewN HD.out (1 + nd2))))
        all_goals go_wp2
        refine bodyPost_ret (spec_LettersLeft.ret rfl _ _ w.heap.size 49 rs.toArray (0, 0) _ rfl HA4.out Try.underlying49 rfl (by rw [HSZ.out, ← hrl]; simp)) rfl ?_
        exact ⟨by show _ = Ending.returned (.tuple #[.agg (r.map (Value.int .i64)).toArray, .bool true]); rw [HRS.out]; rfl, HB4.out⟩

end Go.Proofs.Ytjjoinhackfmnaa.P
