/- Each call of a Go function named below comes to exactly the answers of the Lean function of its name, and a law row follows from its plain statement. No condition beyond those that each theorem states. -/
import Derived.Test.YtheicbcedhfahaaPx0
import Derived.Lib.SliceRun
namespace Go.Proofs.Ytheicbcedhfahaa.P
open Go.RowKit Go.Proofs.YtheicbcedhfahaaW.PrintWords Go.Proofs.YtheicbcedhfahaaW.PrintLast Go.Proofs.YtheicbcedhfahaaW.PrintMore
attribute [local go_sem] max2_int min2_int max_two min_two max_three min_three max_four min_four   -- for this text's walks alone
set_option linter.unusedVariables false
set_option linter.unusedSimpArgs false

/-! ### slices_DeleteFunc_int_int: function 127 -/
--@IMPORT Derived.Lib.SliceRun
set_option maxHeartbeats 4000000 in
set_option maxRecDepth 100000 in
/-- 'slices.IndexFunc' over an own row, at a function value that computes a predicate for each of its numbers: the first place where it holds. -/
theorem slices_DeleteFunc_int_int.first (p : Int → Bool) (g : Nat) (lb : Array Value) (eg : ∀ args w, (callFunc g args).run Try.prog w = .ok (.enter g args) w) (I : World → Prop) (hIb : ∀ W W', I W → Below W.heap.size W W' → I W') (b cap base : Nat) (P : Nat → Prop) (l0 : List Int) (w : World)
    (hr0 : Kd.R (Kd.int .i64) 3 w base P (.slice (some ⟨b, 0, none⟩) l0.length cap) l0) (hI : I w)
    (hp : ∀ x ∈ l0, ∀ W, I W → Calls Try.prog g (#[.int .i64 x] ++ lb) W fun e w' => e = .returned (.bool (p x)) ∧ Below W.heap.size W w') :
    Calls Try.prog 111 #[.slice (some ⟨b, 0, none⟩) l0.length cap, .func (.func g) #[] lb] w fun e w' => ∃ r : Int, e = .returned (.int .i64 r) ∧ Below w.heap.size w w' ∧
      ((r = -1 ∧ ∀ j, j < l0.length → p (l0.getD j 0) = false) ∨ ∃ k : Nat, k < l0.length ∧ r = (k : Int) ∧ p (l0.getD k 0) = true ∧ ∀ j, j < k → p (l0.getD j 0) = false) := by
  have hmax : l0.length ≤ 9223372036854775807 := Kd.C_max (Kd.R_reads' hr0).2.2
  have HR0 := Aside0.mk hr0
  have HI0 := Aside0.mk hI
  have HB0 := Aside0.mk (Below.refl w.heap.size w)
  clear hr0 hI
  go_enter Try.func111, Try.ntmps111
  go_wp2
  go_loopg [5, 8] l0.length (fun gg _ s8 wr => ∃ kk : Nat, kk ≤ l0.length ∧ l0.length - kk ≤ gg ∧ s8 = .int .i64 kk ∧ Aside0 (Below w.heap.size w wr) ∧ Aside0 (∀ j, j < kk → p (l0.getD j 0) = false))
  case atStart => exact ⟨0, Nat.zero_le _, by omega, rfl, HB0, ⟨fun j hj => absurd hj (Nat.not_lt_zero _)⟩⟩
  case round =>
    obtain ⟨kk, hkk, hg, rfl, HB, A⟩ := hrel
    by_cases hlt : kk < l0.length
    · have hltz : (kk : Int) < (l0.length : Int) := by omega
      have hrr := Kd.R_below HR0.out HB.out
      obtain ⟨hcell, hfz⟩ := Kd.R_celln 0 hrr (kk : Int) (by omega) (by omega)
      have hIr := hIb _ _ HI0.out HB.out
      have hrd : rdOf 0 l0 (kk : Int) = l0.getD kk 0 := by unfold rdOf; simp
      rw [hrd, Int.toNat_natCast] at hcell
      have hmem : l0.getD kk 0 ∈ l0 := by rw [List.getD_eq_getElem?_getD, List.getElem?_eq_getElem hlt]; exact List.getElem_mem hlt
      have hcall := hp _ hmem wr hIr
      generalize hy : l0.getD kk 0 = y at hcell hcall
      have B := Aside0.mk hy
      clear hy hrd hmem hIr hrr hfz
      cases hq : p y with
      | true =>
        rw [hq] at hcall
        have HC := Aside0.mk hcall
        clear hcall
        go_wp2_with (go_at_fn g; refine HC.out.mono ?_; rintro e w' ⟨rfl, hb'⟩)
        go_ret
        exact ⟨_, rfl, below_step HB.out hb', .inr ⟨kk, hlt, rfl, by rw [B.out]; exact hq, A.out⟩⟩
      | false =>
        rw [hq] at hcall
        have HC := Aside0.mk hcall
        clear hcall
        go_wp2_with (go_at_fn g; refine HC.out.mono ?_; rintro e w' ⟨rfl, hb'⟩)
        go_roundg (l0.length - (kk + 1))
        case measure => omega
        case rel =>
          refine ⟨kk + 1, by omega, by omega, by go_num, ⟨below_step HB.out hb'⟩, ⟨fun j hj => ?_⟩⟩
          by_cases e : j = kk
          · subst e
            rw [B.out]; exact hq
          · exact A.out j (by omega)
    · have hltz : ¬ (kk : Int) < (l0.length : Int) := by omega
      have hn : kk = l0.length := by omega
      subst hn
      go_wp2
      go_ret
      exact ⟨-1, rfl, HB.out, .inl ⟨rfl, A.out⟩⟩
theorem slices_DeleteFunc_int_int.izero {P : Program} {t : TypeId} (h : (P.info? t).map (fun i => (i.zero, i.size, i.bytes)) = some (some (.int .i64 0), 1, 8)) : ∀ w, (zeroValue t).run P w = .ok (.int .i64 0) w := by
  obtain ⟨i0, hi, hz0, -, -⟩ := info_parts h
  intro w
  simp [zeroValue, typeInfo, hi, hz0]
theorem slices_DeleteFunc_int_int.zeros {b cap base : Nat} {P : Nat → Prop} : ∀ (m o : Nat) (cs : List Int) (W w0 : World), base = w0.heap.size → Kd.R (Kd.int .i64) 3 W base P (.slice (some ⟨b, 0, none⟩) cs.length cap) cs → Below base w0 W → o + m ≤ cs.length →
    ∃ cs' : List Int, cs'.length = cs.length ∧ cs'.take o = cs.take o ∧ Kd.R (Kd.int .i64) 3 (W.setCells b o (List.replicate m (.int .i64 0))) base P (.slice (some ⟨b, 0, none⟩) cs'.length cap) cs' ∧ Below base w0 (W.setCells b o (List.replicate m (.int .i64 0)))
  | 0, o, cs, W, w0, _, h, hB, _ => ⟨cs, rfl, rfl, h, hB⟩
  | m + 1, o, cs, W, w0, hb, h, hB, hm => by
    obtain ⟨h1, h2⟩ := Kd.R_putg h (o : Int) (0 : Int)
    rw [Int.toNat_natCast] at h1 h2
    have hB' : Below base w0 (W.setCell ⟨b, o, none⟩ (.int .i64 0)) := by
      subst hb
      exact hB.grown h2 hB.size (fun k hk => Kd.R_base h k hk)
    have h3 : Kd.R (Kd.int .i64) 3 (W.setCell ⟨b, o, none⟩ (.int .i64 0)) base P (.slice (some ⟨b, 0, none⟩) (cs.set o 0).length cap) (cs.set o 0) := by rw [List.length_set]; exact h1
    obtain ⟨cs', e1, e2, e3, e4⟩ := slices_DeleteFunc_int_int.zeros m (o + 1) (cs.set o 0) _ w0 hb h3 hB' (by simp; omega)
    refine ⟨cs', by rw [e1]; simp, ?_, e3, e4⟩
    have := congrArg (List.take o) e2
    rw [List.take_take, List.take_take, Nat.min_eq_left (by omega)] at this
    rw [this, List.take_set_of_le (Nat.le_refl _)]
theorem slices_DeleteFunc_int_int.step {q : Int → Bool} {l cs : List Int} {i j : Nat} (hj : j < l.length) (h : cs.take i = (l.take j).filter q) : q l[j] = false → cs.take i = (l.take (j + 1)).filter q := by
  intro e
  rw [List.take_succ_eq_append_getElem hj, List.filter_append, ← h]; simp [e]
theorem slices_DeleteFunc_int_int.put {q : Int → Bool} {l cs : List Int} {i j : Nat} (hj : j < l.length) (hi : i < cs.length) (h : cs.take i = (l.take j).filter q) : q l[j] = true → (cs.set i l[j]).take (i + 1) = (l.take (j + 1)).filter q := by
  intro e
  rw [List.take_succ_eq_append_getElem hj, List.filter_append, ← h, List.take_succ_eq_append_getElem (by simpa using hi), List.take_set_of_le (Nat.le_refl _)]; simp [e]
set_option maxHeartbeats 8000000 in
set_option maxRecDepth 100000 in
/-- 'slices.DeleteFunc' over an own row. -/
theorem slices_DeleteFunc_int_int.own (p : Int → Bool) (g : Nat) (lb : Array Value) (eg : ∀ args w, (callFunc g args).run Try.prog w = .ok (.enter g args) w) (I : World → Prop) (hIb : ∀ W W', I W → Below W.heap.size W W' → I W') (b cap : Nat) (hIs : ∀ W i u, I W → I (W.setCell ⟨b, i, none⟩ u)) (P : Nat → Prop) (l0 : List Int) (w0 w : World)
    (hr0 : Kd.R (Kd.int .i64) 3 w w0.heap.size P (.slice (some ⟨b, 0, none⟩) l0.length cap) l0) (hB : Below w0.heap.size w0 w) (hI : I w)
    (hp : ∀ x ∈ l0, ∀ W, I W → Calls Try.prog g (#[.int .i64 x] ++ lb) W fun e w' => e = .returned (.bool (p x)) ∧ Below W.heap.size W w') :
    Calls Try.prog 127 #[.slice (some ⟨b, 0, none⟩) l0.length cap, .func (.func g) #[] lb] w fun e w' => e = .returned (.slice (some ⟨b, 0, none⟩) (l0.filter fun x => !p x).length cap) ∧
      Kd.R (Kd.int .i64) 3 w' w0.heap.size P (.slice (some ⟨b, 0, none⟩) (l0.filter fun x => !p x).length cap) (l0.filter fun x => !p x) ∧ Below w0.heap.size w0 w' := by
  have hmax : l0.length ≤ 9223372036854775807 := Kd.C_max (Kd.R_reads' hr0).2.2
  have hcap : l0.length ≤ cap := (Kd.R_reads' hr0).2.1
  have HF := Aside0.mk (slices_DeleteFunc_int_int.first p g lb eg I hIb b cap _ P l0 w hr0 hI hp)
  have HR0 := Aside0.mk hr0
  have HI0 := Aside0.mk hI
  have HB0 := Aside0.mk hB
  clear hr0 hI hB
  obtain ⟨i0, hi0, hz0, hz1, hz2⟩ := info_parts info3
  go_enter Try.func127, Try.ntmps127
  have hv0 := slices_DeleteFunc_int_int.izero (P := Try.prog) info3
  have kneg : ∀ k : Nat, ¬ ((k : Int) = -1) := fun k => by omega
  go_wp2_with (go_at_call 111; refine HF.out.mono ?_; rintro e w1 ⟨r, rfl, hb1, (⟨rfl, hA⟩ | ⟨k, hk, rfl, hpk, hA⟩)⟩)
  · go_ret
    have hfe : (l0.filter fun x => !p x) = l0 := by
      rw [List.filter_eq_self]
      intro x hx
      obtain ⟨j, hj, rfl⟩ := List.getElem_of_mem hx
      have h_ := hA j hj
      rw [List.getD_eq_getElem?_getD, List.getElem?_eq_getElem hj] at h_
      simpa using h_
    rw [hfe]
    exact ⟨rfl, Kd.R_below HR0.out hb1, below_step HB0.out hb1⟩
  · have hfk : l0.take k = (l0.take (k + 1)).filter fun x => !p x := by
      have hpk' : p l0[k] = true := by rw [List.getD_eq_getElem?_getD, List.getElem?_eq_getElem hk] at hpk; simpa using hpk
      rw [List.take_succ_eq_append_getElem hk, List.filter_append]
      have : (l0.take k).filter (fun x => !p x) = l0.take k := by
        rw [List.filter_eq_self]
        intro x hx
        obtain ⟨j, hj, rfl⟩ := List.getElem_of_mem hx
        have hj' : j < k := by simp at hj; omega
        have h_ := hA j hj'
        rw [List.getD_eq_getElem?_getD, List.getElem?_eq_getElem (by omega)] at h_
        rw [List.getElem_take]
        simpa using h_
      rw [this]; simp [hpk']
    have HFK := Aside0.mk hfk
    have HB1 := Aside0.mk (below_step HB0.out hb1)
    have HR1 := Aside0.mk (Kd.R_below HR0.out hb1)
    have HI1 := Aside0.mk (hIb _ _ HI0.out hb1)
    clear HF HR0 HI0 HB0 hA hpk hfk hb1
    go_loopg [5, 6] l0.length (fun gg s5 s6 wr => ∃ (i j : Nat) (cs : List Int), j ≤ l0.length ∧ i < j ∧ l0.length - j ≤ gg ∧ s5 = .int .i64 i ∧ s6 = .int .i64 j ∧ Aside0 (cs.length = l0.length ∧ cs.take i = (l0.take j).filter (fun x => !p x) ∧ cs.drop j = l0.drop j) ∧
      Aside0 (Kd.R (Kd.int .i64) 3 wr w0.heap.size P (.slice (some ⟨b, 0, none⟩) l0.length cap) cs) ∧ Aside0 (Below w0.heap.size w0 wr) ∧ Aside0 (I wr))
    case atStart => exact ⟨k, k + 1, l0, by omega, by omega, by omega, rfl, by go_num, ⟨rfl, HFK.out, rfl⟩, HR1, HB1, HI1⟩
    case round =>
      obtain ⟨i, j, cs, hj, hij, hg, rfl, rfl, HC, HR, HB, HI⟩ := hrel
      have hcl := HC.out.1
      by_cases hlt : j < l0.length
      · have hltz : (j : Int) < (l0.length : Int) := by omega
        obtain ⟨hcell, hfz⟩ := Kd.R_celln 0 HR.out (j : Int) (by omega) (by omega)
        have hrd : rdOf 0 cs (j : Int) = l0[j] := by
          have h_ := congrArg (fun z => z[0]?) HC.out.2.2
          simp only [List.getElem?_drop, Nat.add_zero] at h_
          unfold rdOf
          rw [Int.toNat_natCast, List.getD_eq_getElem?_getD, h_, List.getElem?_eq_getElem hlt]; rfl
        rw [hrd, Int.toNat_natCast] at hcell
        have hcall := hp l0[j] (List.getElem_mem hlt) wr HI.out
        have hdr : cs.drop (j + 1) = l0.drop (j + 1) := by
          have h_ := congrArg (List.drop 1) HC.out.2.2
          simpa only [List.drop_drop] using h_
        have HD := Aside0.mk hdr
        have HS1 := Aside0.mk (slices_DeleteFunc_int_int.step (q := fun x => !p x) hlt HC.out.2.1)
        have HS2 := Aside0.mk (slices_DeleteFunc_int_int.put (q := fun x => !p x) hlt (by omega) HC.out.2.1)
        generalize hy : l0[j] = y at hcell hcall
        have B := Aside0.mk hy
        clear hy hrd hfz hdr
        cases hq : p y with
        | true =>
          rw [hq] at hcall
          have HCA := Aside0.mk hcall
          clear hcall
          go_wp2_with (go_at_fn g; refine HCA.out.mono ?_; rintro e w' ⟨rfl, hb'⟩)
          go_roundg (l0.length - (j + 1))
          case measure => omega
          case rel => exact ⟨i, j + 1, cs, by omega, by omega, by omega, rfl, by go_num, ⟨hcl, HS1.out (by rw [B.out, hq]; rfl), HD.out⟩, ⟨Kd.R_below HR.out hb'⟩, ⟨below_step HB.out hb'⟩, ⟨hIb _ _ HI.out hb'⟩⟩
        | false =>
          rw [hq] at hcall
          have HCA := Aside0.mk hcall
          clear hcall
          go_wp2_with (go_at_fn g; refine HCA.out.mono ?_; rintro e w' ⟨rfl, hb'⟩; have hput := Kd.R_celln 0 (Kd.R_below HR.out hb') (i : Int) (by omega) (by omega); rw [Int.toNat_natCast] at hput; obtain ⟨hci, hfi⟩ := hput)
          go_roundg (l0.length - (j + 1))
          case measure => omega
          case rel =>
            have hpg := Kd.R_putg (Kd.R_below HR.out hb') (i : Int) y
            rw [Int.toNat_natCast] at hpg
            refine ⟨i + 1, j + 1, cs.set i y, by omega, by omega, by omega, by go_num, by go_num, ⟨by rw [List.length_set]; exact hcl, ?_, ?_⟩, ⟨hpg.1⟩, ⟨(below_step HB.out hb').grown hpg.2 (below_step HB.out hb').size (fun k hk => Kd.R_base HR.out k hk)⟩, ⟨hIs _ _ _ (hIb _ _ HI.out hb')⟩⟩
            · have := HS2.out (by rw [B.out, hq]; rfl)
              rw [B.out] at this; exact this
            · rw [List.drop_set_of_lt (by omega)]; exact HD.out
      · have hltz : ¬ (j : Int) < (l0.length : Int) := by omega
        have hn : j = l0.length := by omega
        subst hn
        have hilt : i < l0.length := hij
        have hic : i ≤ cap := by omega
        have hcells : ∀ t, t < l0.length - i → wr.cell? ⟨b, i + t, none⟩ = some (.int .i64 (rdOf 0 cs ((i + t : Nat) : Int))) ∧ wr.frozen? ⟨b, i + t, none⟩ = false := fun t ht => by
          have h_ := Kd.R_celln 0 HR.out ((i + t : Nat) : Int) (by omega) (by omega)
          rw [Int.toNat_natCast] at h_; exact h_
        have hclr : ∀ ty, (Builtin.clear_ #[22] ty #[.slice (some ⟨b, i, none⟩) (l0.length - i) (cap - i)]).run Try.prog wr = .ok (.tuple #[]) (wr.setCells b i (List.replicate (l0.length - i) (.int .i64 0))) :=
          fun ty => Lib.run_clear_slice wr _ _ ty _ Try.underlying22 hv0 rfl rfl b i _ _ (by omega) (fun t ht => by rw [(hcells t ht).1]; rfl) (fun t ht => (hcells t ht).2)
        have HZ := Aside0.mk (slices_DeleteFunc_int_int.zeros (l0.length - i) i cs wr w0 rfl (by rw [hcl]; exact HR.out) HB.out (by omega))
        clear hcells HR HB
        go_wp2
        go_ret
        have hft : cs.take i = l0.filter fun x => !p x := by have := HC.out.2.1; rw [List.take_length] at this; exact this
        have hfl : (l0.filter fun x => !p x).length = i := by rw [← hft, List.length_take]; omega
        obtain ⟨cs', e1, e2, e3, e4⟩ := HZ.out
        have e5 := Kd.R_take e3 (m := i) (by omega)
        rw [e2, hft] at e5
        exact ⟨by rw [hfl]; rfl, by rw [hfl]; exact e5, e4⟩
set_option maxHeartbeats 4000000 in
set_option maxRecDepth 100000 in
theorem slices_DeleteFunc_int_int.first0 (g : Nat) (lb : Array Value) (A : Option Addr) (c : Nat) (w : World) : Calls Try.prog 111 #[.slice A 0 c, .func (.func g) #[] lb] w fun e w' => e = .returned (.int .i64 (-1)) ∧ Below w.heap.size w w' := by
  go_enter Try.func111, Try.ntmps111
  go_wp2
  go_loopg [5, 8] 0 (fun gg _ s8 wr => s8 = .int .i64 0 ∧ Aside0 (Below w.heap.size w wr))
  case atStart => exact ⟨rfl, ⟨Below.refl _ _⟩⟩
  case round =>
    obtain ⟨rfl, HB⟩ := hrel
    go_wp2
    go_ret
    exact ⟨rfl, HB.out⟩
set_option maxHeartbeats 4000000 in
set_option maxRecDepth 100000 in
theorem slices_DeleteFunc_int_int.own0 (g : Nat) (lb : Array Value) (A : Option Addr) (c : Nat) (w : World) : Calls Try.prog 127 #[.slice A 0 c, .func (.func g) #[] lb] w fun e w' => e = .returned (.slice A 0 c) ∧ Below w.heap.size w w' := by
  go_enter Try.func127, Try.ntmps127
  go_wp2_with (go_at_call 111; refine (slices_DeleteFunc_int_int.first0 g lb A c _).mono ?_; rintro e w' ⟨rfl, hb'⟩)
  go_ret
  exact ⟨rfl, hb'⟩

end Go.Proofs.Ytheicbcedhfahaa.P
