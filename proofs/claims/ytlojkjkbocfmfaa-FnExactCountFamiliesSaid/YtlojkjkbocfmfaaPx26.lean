/- Each call of a Go function named below comes to exactly the answers of the Lean function of its name, and a law row follows from its plain statement. No condition beyond those that each theorem states. -/
import Derived.Test.YtlojkjkbocfmfaaPx0
import Derived.Test.YtlojkjkbocfmfaaPx24
import Derived.Test.YtlojkjkbocfmfaaPx25
import Derived.Deep.RegionHeld3
import Derived.Maps.AppendAt
namespace Go.Proofs.Ytlojkjkbocfmfaa.P
open Go.RowKit Go.Proofs.YtlojkjkbocfmfaaW.PrintWords Go.Proofs.YtlojkjkbocfmfaaW.PrintLast Go.Proofs.YtlojkjkbocfmfaaW.PrintMore
attribute [local go_sem] max2_int min2_int max_two min_two max_three min_three max_four min_four   -- for this text's walks alone
set_option linter.unusedVariables false
set_option linter.unusedSimpArgs false

/-! ### impl_antichains: function 33 -/
--@IMPORT Derived.Deep.RegionHeld3
--@IMPORT Derived.Maps.AppendAt
def impl_antichains.p (set own : Int) : Bool := (Go.bits .and .i64 own set == own) || (Go.bits .and .i64 own set == set)
mutual
def impl_antichains.l0 : Nat → Int → Int → List Int → Int → Option Int
  | 0, _, _, _, _ => none
  | k + 1, n, set, l, out => if set < shl .i64 1 n then (if l.any (fun own => impl_antichains.p set own) = true then impl_antichains.l0 k n (wrap64 (set + 1)) l out else (impl_antichains.f k n (wrap64 (set + 1)) (l ++ [set])).bind fun r => impl_antichains.l0 k n (wrap64 (set + 1)) l (wrap64 (out + r))) else some out
def impl_antichains.f : Nat → Int → Int → List Int → Option Int
  | 0, _, _, _ => none
  | k + 1, n, fr, l => if 0 ≤ n ∧ l.length < 1000 then impl_antichains.l0 k n fr l 1 else none
end
theorem impl_antichains.mono_l : ∀ k, (∀ n set l out, LeO (impl_antichains.l0 k n set l out) (impl_antichains.l0 (k + 1) n set l out)) ∧ (∀ n fr l, LeO (impl_antichains.f k n fr l) (impl_antichains.f (k + 1) n fr l))
  | 0 => ⟨fun _ _ _ _ r h => by simp [impl_antichains.l0] at h, fun _ _ _ r h => by simp [impl_antichains.f] at h⟩
  | k + 1 => by
    obtain ⟨h0, h1⟩ := impl_antichains.mono_l k
    refine ⟨fun n set l out => ?_, fun n fr l => ?_⟩
    · rw [impl_antichains.l0, impl_antichains.l0]
      exact LeO.ite (LeO.ite (h0 _ _ _ _) (LeO.bind (h1 _ _ _) (fun _ => h0 _ _ _ _))) (LeO.refl _)
    · rw [impl_antichains.f, impl_antichains.f]
      exact LeO.ite (h0 _ _ _ _) (LeO.refl _)
theorem impl_antichains.mono : ∀ a0 a1 a2 k, LeO (impl_antichains.f k a0 a1 a2) (impl_antichains.f (k + 1) a0 a1 a2) := fun n fr l k => (impl_antichains.mono_l k).2 n fr l
set_option maxHeartbeats 1000000 in
theorem impl_antichains.lit (set x : Int) (B : Nat) (w : World) (hB : w.cell? ⟨B, 0, none⟩ = some (.int .i64 set)) : Calls Try.prog 50 #[.int .i64 x, .pointer (some ⟨B, 0, none⟩)] w fun e w' => e = .returned (.bool (impl_antichains.p set x)) ∧ ∃ q', w' = w.drewN q' := by
  cases h1 : (Go.bits .and .i64 x set == x)
  all_goals
    go_enter Try.func50, Try.ntmps50
    go_wp2
    go_ret
    exact ⟨by unfold impl_antichains.p; rw [h1]; first | rfl | simp, 0, rfl⟩
/-- append of one number that lies in a block of its own, in whatever world. -/
theorem impl_antichains.app {P : Program} {ops : Array Oper} {o : Oper} {a : Act} {Q : Exit → Act → World → Prop} {K : Act → World → Prop} {w0 W : World} (base : Nat) (hw : Region.wanted o (yielded ops a.tmps) = true) (s x : Operand) (t e : TypeId)
    (ho : o.op = .call { callee := .builtin .append, args := #[s, x], argTypes := #[t, t] })
    (ht : P.underlying t = some (.slice e)) (hinfo : (P.info? e).map (fun i => (i.zero, i.size, i.bytes)) = some (some (.int .i64 0), 1, 8))
    (v : Value) (l : List Int) (y : Int) (g : Nat) (hs : a.eval s = v) (hx : a.eval x = .slice (some ⟨g, 0, none⟩) 1 1) (hc : W.cell? ⟨g, 0, none⟩ = some (.int .i64 y))
    (HR : Kd.R (Kd.int .i64) e W base (fun _ => True) v l) (HB : Below base w0 W) (hbase : base ≤ W.heap.size) (hl : l.length < 1000)
    (h : ∀ A c w1, Kd.C (Kd.int .i64) w1 A (l.length + 1) (l ++ [y]) → l.length + 1 ≤ c → Below base w0 w1 → W.grownBy w1 v.ownBlock → K (a.put o.dst (.slice A (l.length + 1) c)) w1) :
    if Region.wanted o (yielded ops a.tmps) = true then Oper.wp P o a W K Q else K (a.put o.dst undef) W := by
  obtain ⟨i0, hi, hzz⟩ := Option.map_eq_some_iff.1 hinfo
  simp only [Prod.mk.injEq] at hzz
  obtain ⟨hz0, hz1, hz2⟩ := hzz
  have HO := Kd.own_of_R (enc := Value.int .i64) (h1 := fun _ => rfl) HR
  rw [if_pos hw]
  obtain ⟨v1, w1, hr, hown, hg, _, hat⟩ := run_append_own_at (P := P) W base t o.type e i0 (.int .i64 0) 1 8 ht hi hz0 hz1 hz2 rfl (by decide) v l.length (encs (Value.int .i64) l) HO ⟨g, 0, none⟩ 1 1 [.int .i64 y] rfl
    (by intro j u hj; match j, hj with | 0, hj => (obtain rfl := Option.some.inj hj; simpa [Addr.add] using hc) | j + 1, hj => simp at hj) (by intro u hu; simp at hu; rw [hu]; rfl) (by simp only [maxLen]; omega) (by omega) hbase
  have e1 : encs (Value.int .i64) l ++ [Value.int .i64 y] = encs (Value.int .i64) (l ++ [y]) := by simp [encs]
  have e2 : l.length + 1 = (l ++ [y]).length := by simp
  rw [e1, e2] at hown
  have HR1 := Kd.R_of_own (enc := Value.int .i64) (h1 := fun _ => rfl) (ok := fun _ => True) hown (fun _ _ => trivial)
  obtain ⟨A, c, rfl⟩ := Kd.R_slice HR1
  unfold Oper.wp execOp
  simp only [ho, resolve, invoke, builtin, Sem.run_bind, Sem.run_pure, Result.andThen_ok, List.map_toArray, List.map_cons, List.map_nil, hs, hx, hr]
  have hq_ := Kd.R_reads' HR1
  rw [← e2] at hq_ ⊢
  exact h A c w1 hq_.2.2 hq_.2.1 (HB.grown hg hbase (own_base HO)) hg
set_option maxHeartbeats 8000000 in
set_option maxRecDepth 100000 in
theorem impl_antichains.calls (k : Nat) : ∀ (n fr : Int) (A0 : Option Addr) (c0 : Nat) (l0 : List Int) (r : Int) (w : World) (_hr0 : Kd.C (Kd.int .i64) w A0 l0.length l0) (_hc0 : l0.length ≤ c0) (_h : impl_antichains.f k n fr l0 = some r),
    Calls Try.prog 33 #[.int .i64 n, .int .i64 fr, .slice A0 l0.length c0] w fun e w' => e = .returned (.int .i64 r) ∧ Below w.heap.size w w' := by
  induction k using Nat.strongRecOn with
  | _ k ih =>
  intro n fr A0 c0 l0 r w hr0 hc0 h
  cases k with
  | zero => exact absurd h (by simp [impl_antichains.f])
  | succ k =>
  rw [impl_antichains.f] at h
  by_cases hg : 0 ≤ n ∧ l0.length < 1000
  · rw [if_pos hg] at h
    obtain ⟨hn, hlen⟩ := hg
    have eg : ∀ args w, (callFunc 50 args).run Try.prog w = .ok (.enter 50 args) w := enters_of Try.func50 (by kernel_rfl) rfl
    have CF : Aside0 (∀ (set : Int) (b : Nat) (W : World), Below w.heap.size w W → W.cell? ⟨b, 0, none⟩ = some (.int .i64 set) → Calls Try.prog 49 #[.slice A0 l0.length c0, .func (.func 50) #[] #[.pointer (some ⟨b, 0, none⟩)]] W fun e w' => e = .returned (.bool (l0.any (impl_antichains.p set))) ∧ Drawn0 W w') := ⟨fun set b W hB hc =>
      slices_ContainsFunc_int_int.gen (impl_antichains.p set) 50 #[.pointer (some ⟨b, 0, none⟩)] eg A0 c0 l0 W (Kd.C_below hr0 hB) (fun x q => impl_antichains.lit set x b (W.drewN q) hc)⟩
    have CL : Aside0 (∀ W, Below w.heap.size w W → Calls Try.prog 51 #[.slice A0 l0.length c0] W fun e w' => ∃ v0_ : Value, e = .returned (v0_) ∧ Kd.R (Kd.int .i64) 3 w' W.heap.size (fun _ => True) v0_ l0 ∧ Below W.heap.size W w') := ⟨fun W hB =>
      slices_Clone_int_int.calls A0 c0 l0 l0 W (Kd.C_below hr0 hB) hc0 (by unfold slices_Clone_int_int.f; rw [if_pos (by omega)])⟩
    have IH := Aside0.mk ih
    have HL0 := Aside0.mk h
    have HLEN := Aside0.mk hlen
    have hn0 := eq_true hn
    clear h ih hr0 hc0 hlen eg
    obtain ⟨m, hm⟩ : ∃ m : Int, shl .i64 1 n = m := ⟨_, rfl⟩
    have hm_ : (IntKind.i64.wrap (1 * 2 ^ min n.toNat 64)) = m := hm
    have hmu : (IntKind.i64.wrap (2 ^ min n.toNat 64)) = m := by have h_ := hm_; rw [Int.one_mul] at h_; exact h_
    have hmy : (wrap64 (1 * 2 ^ min n.toNat 64)) = m := (i64_w _).symm.trans hm_
    have hmz : (wrap64 (2 ^ min n.toNat 64)) = m := (i64_w _).symm.trans hmu
    have HM := Aside0.mk hm
    clear hm
    have HW0 : Aside0 ((w.alloc (.cells #[.int .i64 fr] 3)).heap[w.heap.size]? = some (.cells #[.int .i64 fr] 3 (0, 0))) := ⟨blk_new w _⟩
    go_enter Try.func33, Try.ntmps33
    go_wp2
    go_loopg [7, 8] k (fun kq s7 s8 wr => ∃ (out set : Int) (b : Nat), s7 = .int .i64 out ∧ s8 = .pointer (some ⟨b, 0, none⟩) ∧ Aside0 (impl_antichains.l0 kq n set l0 out = some r) ∧ Aside0 (kq ≤ k) ∧ Aside0 (w.heap.size ≤ b) ∧ Aside0 (wr.heap[b]? = some (.cells #[.int .i64 set] 3 (0, 0))) ∧ Aside0 (Below w.heap.size w wr))
    case atStart => exact ⟨1, fr, w.heap.size, rfl, rfl, HL0, ⟨Nat.le_refl _⟩, ⟨Nat.le_refl _⟩, HW0, ⟨below_alloc (Below.refl _ _) _⟩⟩
    case round =>
      obtain ⟨out, set, b, rfl, rfl, HL, HK, HBb, HBK, HB⟩ := hrel
      clear HL0 HW0
      cases gk with
      | zero => exact absurd HL.out (by simp [impl_antichains.l0])
      | succ kq =>
        have H := HL.out
        rw [impl_antichains.l0, HM.out] at H
        clear HL
        have hcell : wr.cell? ⟨b, 0, none⟩ = some (.int .i64 set) := (blk_cell HBK.out 0).trans rfl
        have HCL := Aside0.mk hcell
        by_cases hlt : set < m
        · rw [if_pos hlt] at H
          have hlt1 : decide (set < m) = true := decide_eq_true hlt
          cases hany : l0.any (fun own => impl_antichains.p set own) with
          | true =>
            rw [if_pos hany] at H
            have HH := Aside0.mk H
            have HANY := Aside0.mk hany
            clear H hany
            go_wp2
            go_region_held3 (fun w' => w'.cell? ⟨b, 0, none⟩ = some (.int .i64 set) ∧ Below w.heap.size w w') (first | exact ⟨by (first | assumption | (simp; assumption)), below_drew HB.out⟩ | assumption) (fail)
            all_goals
              rename_i hHeld_
              clear hHeld_
              go_wp2_with (go_at_call 49; refine (CF.out set b _ (below_drew HB.out) HCL.out).mono ?_; rintro e w0' ⟨rfl, hd⟩; rw [show l0.any (impl_antichains.p set) = true from HANY.out]; have hb0 : Below wr.heap.size wr w0' := (by obtain ⟨q, hq⟩ := hd; rw [hq]; exact pw_below_drewN (below_drew (Below.refl _ _)) q); clear hd; have hc0' := (hb0.cell (World.block_lt_of_cell? wr _ HCL.out)).trans HCL.out; have HB0 := Aside0.mk hb0; clear hb0)
              go_roundg kq
              case measure => omega
              case rel => exact ⟨out, wrap64 (set + 1), w0'.heap.size, rfl, rfl, HH, ⟨by have := HK.out; omega⟩, ⟨(below_step HB.out HB0.out).size⟩, ⟨blk_new _ _⟩, ⟨below_alloc (below_step HB.out HB0.out) _⟩⟩
          | false =>
            rw [if_neg (by rw [hany]; simp)] at H
            obtain ⟨r1, hr1, H2⟩ := Option.bind_eq_some_iff.1 H
            obtain ⟨j, hj⟩ : ∃ j : Int, wrap64 (set + 1) = j := ⟨_, rfl⟩
            rw [hj] at hr1 H2
            have hjw : IntKind.i64.wrap (set + 1) = j := (i64_w _).trans hj
            obtain ⟨o2, ho2⟩ : ∃ o2 : Int, wrap64 (out + r1) = o2 := ⟨_, rfl⟩
            rw [ho2] at H2
            have ho2w : IntKind.i64.wrap (out + r1) = o2 := (i64_w _).trans ho2
            have HF := Aside0.mk hr1
            have HH := Aside0.mk H2
            have HANY := Aside0.mk hany
            have HS : Aside0 (∀ W, Below wr.heap.size wr W → W.cell? ⟨b, 0, none⟩ = some (.int .i64 set) ∧ Below wr.heap.size wr W) := ⟨fun W hW => ⟨(hW.cell (World.block_lt_of_cell? wr _ HCL.out)).trans HCL.out, hW⟩⟩
            have IHC : Aside0 (∀ (A : Option Addr) (c : Nat) (W : World), Kd.C (Kd.int .i64) W A (l0.length + 1) (l0 ++ [set]) → l0.length + 1 ≤ c → Calls Try.prog 33 #[.int .i64 n, .int .i64 j, .slice A (l0.length + 1) c] W fun e w' => e = .returned (.int .i64 r1) ∧ Below W.heap.size W w') := ⟨fun A c W h1_ h2_ => by
              have e2 : (l0 ++ [set]).length = l0.length + 1 := by simp
              have h_ := IH.out kq (by have := HK.out; omega) n j A c (l0 ++ [set]) r1 W
              rw [e2] at h_
              exact h_ h1_ h2_ HF.out⟩
            clear H hany hr1 H2
            go_wp2
            go_region_held3 (fun w' => w'.cell? ⟨b, 0, none⟩ = some (.int .i64 set) ∧ Below w.heap.size w w') (first | exact ⟨by (first | assumption | (simp; assumption)), below_drew HB.out⟩ | assumption) (fail)
            all_goals
              go_wp2_with (go_at_call 49; refine (CF.out set b _ (below_drew HB.out) HCL.out).mono ?_; rintro e w0' ⟨rfl, hd⟩; rw [show l0.any (impl_antichains.p set) = false from HANY.out]; have hb0 : Below wr.heap.size wr w0' := (by obtain ⟨q, hq⟩ := hd; rw [hq]; exact pw_below_drewN (below_drew (Below.refl _ _)) q); clear hd; have hc0' := (hb0.cell (World.block_lt_of_cell? wr _ HCL.out)).trans HCL.out; have HB0 := Aside0.mk hb0; clear hb0)
              go_region_held3 (fun w' => w'.cell? ⟨b, 0, none⟩ = some (.int .i64 set) ∧ Below wr.heap.size wr w') (first | exact HS.out _ (by first | exact hx | exact below_drew HB0.out | exact below_alloc (And.right (by assumption)) _)) ((first
                | (go_at_call 51; refine (CL.out _ (below_step HB.out (And.right (by assumption)))).mono ?_; rintro e w1 ⟨v1, rfl, hr1, hb1⟩; have hx := below_step (And.right (by assumption)) hb1; have hr2 := Kd.R_lower hr1 (Below.size (And.right (by assumption))))
                | (refine impl_antichains.app (w0 := wr) wr.heap.size (by rfl) (.tmp 25) (.tmp 27) 25 3 (by rfl) Try.underlying25 info3 v1 l0 set _ (by rfl) (by rfl) ((blk_cell (blk_new _ (.cells #[.int .i64 set] 3)) 0).trans rfl) (Kd.R_alloc hr2 _) (And.right (by assumption)) (Below.size (And.right (by assumption))) HLEN.out ?_; intro A c w2 hr3 hr4 hb2 hg2; have hx := hb2)
                | (refine impl_antichains.app (w0 := wr) wr.heap.size (by rfl) (.tmp 25) (.tmp 27) 25 3 (by rfl) Try.underlying25 info3 v1 l0 set _ (by rfl) (by rfl) ((hb1.cell (World.block_lt_of_cell? _ _ ((blk_cell (blk_new _ (.cells #[.int .i64 set] 3)) 0).trans rfl))).trans ((blk_cell (blk_new _ (.cells #[.int .i64 set] 3)) 0).trans rfl)) hr2 (And.right (by assumption)) (Below.size (And.right (by assumption))) HLEN.out ?_; intro A c w2 hr3 hr4 hb2 hg2; have hx := hb2)
                | (go_at_call 33; refine (IHC.out A c w2 hr3 hr4).mono ?_; rintro e w3 ⟨rfl, hb3⟩; have hx := below_step hb2 hb3)))
              all_goals
                rename_i hHeld_
                obtain ⟨hcell3, hb3'⟩ := hHeld_
                have HB3 := Aside0.mk hb3'
                clear hb3' hb3 hb2 hx hr3 hr4 hg2 hb1 hr1 hr2
                go_wp2
                go_roundg kq
                case measure => omega
                case rel => exact ⟨o2, j, w3.heap.size, rfl, rfl, HH, ⟨by have := HK.out; omega⟩, ⟨(below_step HB.out HB3.out).size⟩, ⟨blk_new _ _⟩, ⟨below_alloc (below_step HB.out HB3.out) _⟩⟩
        · rw [if_neg hlt] at H
          have hlt1 : decide (set < m) = false := decide_eq_false hlt
          obtain rfl := Option.some.inj H
          go_wp2
          go_region_held3 (fun w' => w'.cell? ⟨b, 0, none⟩ = some (.int .i64 set) ∧ Below w.heap.size w w') (first | exact ⟨by (first | assumption | (simp; assumption)), below_drew HB.out⟩ | assumption) (fail)
          all_goals
            clear hcell
            go_wp2
            go_ret
            exact ⟨rfl, below_drew HB.out⟩
  · rw [if_neg hg] at h
    exact absurd h (by simp)

end Go.Proofs.Ytlojkjkbocfmfaa.P
