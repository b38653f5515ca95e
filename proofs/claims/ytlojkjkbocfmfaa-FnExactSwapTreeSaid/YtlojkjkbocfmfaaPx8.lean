/- Each call of a Go function named below comes to exactly the answers of the Lean function of its name, and a law row follows from its plain statement. No condition beyond those that each theorem states. -/
import Derived.Test.YtlojkjkbocfmfaaPx0
import Derived.Test.YtlojkjkbocfmfaaPx5
import Derived.Test.YtlojkjkbocfmfaaPx6
import Derived.Test.YtlojkjkbocfmfaaPx7
import Derived.Deep.RegionHeld3
namespace Go.Proofs.Ytlojkjkbocfmfaa.P
open Go.RowKit Go.Proofs.YtlojkjkbocfmfaaW.PrintWords Go.Proofs.YtlojkjkbocfmfaaW.PrintLast Go.Proofs.YtlojkjkbocfmfaaW.PrintMore
attribute [local go_sem] max2_int min2_int max_two min_two max_three min_three max_four min_four   -- for this text's walks alone
set_option linter.unusedVariables false
set_option linter.unusedSimpArgs false

/-! ### impl_readTree: function 62 -/
--@IMPORT Derived.Deep.RegionHeld3
/-- One round: a tree, and a sign behind it. -/
def impl_readTree.step (f : ByteArray → Option (Tr × ByteArray × Bool)) (s sign : ByteArray) : Option (Option (Tr × ByteArray)) :=
  (f s).bind fun q => if q.2.2 = true then (strings_CutPrefix.f q.2.1 sign).bind fun c => if c.2 = true then some (some (q.1, c.1)) else some none else some none
def impl_readTree.endOf (s : ByteArray) : Int := if Lib.indexAny s.data.toList [44, 93] < 0 then (s.size : Int) else Lib.indexAny s.data.toList [44, 93]
def impl_readTree.f : Nat → ByteArray → Option (Tr × ByteArray × Bool)
  | 0, _ => none
  | k + 1, s => if s.size ≤ 1048576 then (strings_CutPrefix.f s ⟨#[91]⟩).bind fun o => if o.2 = true then
        (impl_readTree.step (impl_readTree.f k) o.1 ⟨#[44]⟩).bind fun x => match x with
          | none => some (.leaf [], ⟨#[]⟩, false)
          | some (t1, r1) => (impl_readTree.step (impl_readTree.f k) r1 ⟨#[93]⟩).bind fun y => match y with
            | none => some (.leaf [], ⟨#[]⟩, false)
            | some (t2, r2) => some (.node t1 t2, r2, true)
      else if 0 ≤ impl_readTree.endOf s ∧ impl_readTree.endOf s ≤ (s.size : Int) then (impl_parseWord.f k (s.extract 0 (impl_readTree.endOf s).toNat)).bind fun p => some (.leaf p.1, s.extract (impl_readTree.endOf s).toNat s.size, p.2 && decide (0 < p.1.length)) else none
    else none
theorem impl_readTree.step_mono {f g : ByteArray → Option (Tr × ByteArray × Bool)} (h : ∀ s, LeO (f s) (g s)) (s sign : ByteArray) : LeO (impl_readTree.step f s sign) (impl_readTree.step g s sign) := LeO.bind (h s) (fun _ => LeO.refl _)
theorem impl_readTree.mono_l : ∀ k s, LeO (impl_readTree.f k s) (impl_readTree.f (k + 1) s)
  | 0, _ => fun _ h => by simp [impl_readTree.f] at h
  | k + 1, s => LeO.ite (LeO.bind (LeO.refl _) (fun o => LeO.ite
      (LeO.bind (impl_readTree.step_mono (impl_readTree.mono_l k) _ _) (fun x => match x with
        | none => LeO.refl _
        | some (t1, r1) => LeO.bind (impl_readTree.step_mono (impl_readTree.mono_l k) _ _) (fun _ => LeO.refl _)))
      (LeO.ite (LeO.bind (impl_parseWord.mono _ k) (fun _ => LeO.refl _)) (LeO.refl _)))) (LeO.refl _)
theorem impl_readTree.mono : ∀ s k, LeO (impl_readTree.f k s) (impl_readTree.f (k + 1) s) := fun s k => impl_readTree.mono_l k s
/-- What a call says. -/
def impl_readTree.says (w : World) (t : Tr) (q : ByteArray) (ok : Bool) (e : Ending) (w' : World) : Prop :=
  ∃ v, e = .returned (.tuple #[v, .string q, .bool ok]) ∧ (ok = true → ∃ b, v = .pointer (some ⟨b, 0, none⟩) ∧ TrAt 60 3 w.heap.size w' t b) ∧ Below w.heap.size w w'
theorem impl_readTree.says_below {w w1 w2 : World} {t : Tr} {q : ByteArray} {ok : Bool} {e : Ending} (h : impl_readTree.says w t q ok e w1) (hb : Below w1.heap.size w1 w2) : impl_readTree.says w t q ok e w2 := by
  obtain ⟨v, h1, h2, h3⟩ := h
  exact ⟨v, h1, fun hok => by obtain ⟨b, h4, h5⟩ := h2 hok; exact ⟨b, h4, h5.below hb⟩, below_step h3 hb⟩
set_option maxHeartbeats 4000000 in
set_option maxRecDepth 100000 in
theorem impl_readTree.leaf (k : Nat) (s q0 : ByteArray) (p1 : List Int) (p2 : Bool) (w : World) (hs : s.size ≤ 1048576) (ho : strings_CutPrefix.f s ⟨#[91]⟩ = some (q0, false)) (h0 : 0 ≤ impl_readTree.endOf s) (h1 : impl_readTree.endOf s ≤ (s.size : Int)) (hp : impl_parseWord.f k (s.extract 0 (impl_readTree.endOf s).toNat) = some (p1, p2)) :
    Calls Try.prog 62 #[.string s] w (impl_readTree.says w (.leaf p1) (s.extract (impl_readTree.endOf s).toNat s.size) (p2 && decide (0 < p1.length))) := by
  have HO : Aside0 (∀ W, Calls Try.prog 73 #[.string s, .string ⟨#[91]⟩] W fun e w' => e = .returned (.tuple #[.string q0, .bool false]) ∧ Drawn0 W w') := ⟨fun W => strings_CutPrefix.calls s ⟨#[91]⟩ q0 false W ho⟩
  have HP : Aside0 (∀ W, Calls Try.prog 75 #[.string (s.extract 0 (impl_readTree.endOf s).toNat)] W fun e w' => ∃ A c, e = .returned (.tuple #[.slice A p1.length c, .bool p2]) ∧ Kd.R (Kd.int .i64) 3 w' W.heap.size (fun _ => True) (.slice A p1.length c) p1 ∧ Below W.heap.size W w') := ⟨fun W => (impl_parseWord.calls k _ p1 p2 W hp).mono (by
    rintro e w' ⟨v, rfl, h2, h3⟩
    obtain ⟨A, c, rfl⟩ := Kd.R_slice h2
    exact ⟨A, c, rfl, h2, h3⟩)⟩
  have HX : Aside0 (∀ W, Calls Try.prog 74 #[.string s, .string ⟨#[44, 93]⟩] W fun e w' => e = .returned (.int .i64 (Lib.indexAny s.data.toList [44, 93])) ∧ Below W.heap.size W w') := ⟨fun W => strings_IndexAny.calls s W (by omega)⟩
  obtain ⟨e, he⟩ : ∃ e, e = impl_readTree.endOf s := ⟨_, rfl⟩
  have HE := Aside0.mk he
  rw [← he] at h0 h1 HP ⊢
  unfold impl_readTree.endOf at he
  clear ho hp
  obtain ⟨x, hx⟩ : ∃ x, x = Lib.indexAny s.data.toList [44, 93] := ⟨_, rfl⟩
  rw [← hx] at HX he
  have hfin : ∀ W : World, Below w.heap.size w W → ∀ (A : Option Addr) (c : Nat), Kd.R (Kd.int .i64) 3 W w.heap.size (fun _ => True) (.slice A p1.length c) p1 →
      impl_readTree.says w (.leaf p1) (s.extract e.toNat s.size) (p2 && decide (0 < p1.length)) (.returned (.tuple #[.pointer (some ⟨W.heap.size, 0, none⟩), .string (s.extract e.toNat s.size), .bool (p2 && decide (0 < p1.length))])) (W.alloc (.cells #[.slice A p1.length c, .pointer none, .pointer none] 60)) := fun W hB A c hR =>
    ⟨_, rfl, fun _ => ⟨_, rfl, hB.size, _, ArrW.new W 60 [.slice A p1.length c, .pointer none, .pointer none], Kd.R_below hR (below_alloc (Below.refl _ _) _)⟩, below_alloc hB _⟩
  have HFIN := Aside0.mk hfin
  clear hfin hs hx
  by_cases hneg : x < 0
  · rw [if_pos hneg] at he
    subst he
    have e1 : s.extract 0 ((s.size : Int)).toNat = s := by rw [Int.toNat_natCast]; exact ByteArray.extract_zero_size
    have e2 : s.extract ((s.size : Int)).toNat s.size = ByteArray.empty := by
      rw [Int.toNat_natCast]
      apply ByteArray.ext
      simp
    rw [e1] at HP
    rw [e2] at HFIN ⊢
    clear e1 e2
    go_enter Try.func62, Try.ntmps62
    go_wp2_with (first
      | (go_at_call 73; refine (HO.out _).mono ?_; rintro e w1 ⟨rfl, ⟨nd, rfl⟩⟩)
      | (go_at_call 74; refine (HX.out _).mono ?_; rintro e w2 ⟨rfl, hb2⟩; have HB2 := Aside0.mk (below_step (pw_below_drewN (Below.refl w.heap.size w) nd) hb2); clear hb2)
      | (go_at_call 75; refine (HP.out _).mono ?_; rintro e w3 ⟨A, c, rfl, hr3, hb3⟩; have HB3 := Aside0.mk (below_step HB2.out hb3); have HR3 := Aside0.mk (Kd.R_lower hr3 HB2.out.size); clear hr3 hb3))
    clear HP HO HX
    cases p2
    all_goals
      go_region
    all_goals
      go_wp2
      go_ret3
      exact impl_readTree.says_below (HFIN.out w3 HB3.out A c HR3.out) (below_drew (Below.refl _ _))
  · rw [if_neg hneg] at he
    subst he
    go_enter Try.func62, Try.ntmps62
    go_wp2_with (first
      | (go_at_call 73; refine (HO.out _).mono ?_; rintro e w1 ⟨rfl, ⟨nd, rfl⟩⟩)
      | (go_at_call 74; refine (HX.out _).mono ?_; rintro e w2 ⟨rfl, hb2⟩; have HB2 := Aside0.mk (below_step (pw_below_drewN (Below.refl w.heap.size w) nd) hb2); clear hb2)
      | (go_at_call 75; refine (HP.out _).mono ?_; rintro e w3 ⟨A, c, rfl, hr3, hb3⟩; have HB3 := Aside0.mk (below_step HB2.out hb3); have HR3 := Aside0.mk (Kd.R_lower hr3 HB2.out.size); clear hr3 hb3))
    clear HP HO HX
    cases p2
    all_goals
      go_region
    all_goals
      go_wp2
      go_ret3
      exact impl_readTree.says_below (HFIN.out w3 HB3.out A c HR3.out) (below_drew (Below.refl _ _))
/-- The world within the loop: the two signs, the tree that is being made, what lay ahead. -/
def impl_readTree.St (w wr : World) (x y : Value) : Prop := ArrW wr (w.heap.size + 1) 9 [.string ⟨#[44]⟩, .string ⟨#[93]⟩] ∧ ArrW wr w.heap.size 60 [.slice none 0 0, x, y] ∧ Below w.heap.size w wr
theorem impl_readTree.St.below {w wr w2 : World} {x y : Value} (h : impl_readTree.St w wr x y) (hb : Below wr.heap.size wr w2) : impl_readTree.St w w2 x y := ⟨h.1.below hb, h.2.1.below hb, below_step h.2.2 hb⟩
theorem impl_readTree.St.set1 {w wr : World} {x y : Value} (h : impl_readTree.St w wr x y) (v : Value) : impl_readTree.St w (wr.setCell ⟨w.heap.size, 1, none⟩ v) v y :=
  ⟨h.1.other _ _ (by simp), by have := h.2.1.set 1 v; simpa using this, below_cell h.2.2 (Nat.le_refl _)⟩
theorem impl_readTree.St.set2 {w wr : World} {x y : Value} (h : impl_readTree.St w wr x y) (v : Value) : impl_readTree.St w (wr.setCell ⟨w.heap.size, 2, none⟩ v) x v :=
  ⟨h.1.other _ _ (by simp), by have := h.2.1.set 2 v; simpa using this, below_cell h.2.2 (Nat.le_refl _)⟩
theorem impl_readTree.St.drewN {w wr : World} {x y : Value} (h : impl_readTree.St w wr x y) (n : Nat) : impl_readTree.St w (wr.drewN n) x y := h.below (pw_below_drewN (Below.refl _ _) n)
set_option maxHeartbeats 8000000 in
set_option maxRecDepth 100000 in
theorem impl_readTree.opened (k : Nat) (s q0 : ByteArray) (t : Tr) (q : ByteArray) (ok : Bool) (w : World) (ho : strings_CutPrefix.f s ⟨#[91]⟩ = some (q0, true))
    (ih : ∀ (s : ByteArray) (t : Tr) (q : ByteArray) (ok : Bool) (w : World), impl_readTree.f k s = some (t, q, ok) → Calls Try.prog 62 #[.string s] w (impl_readTree.says w t q ok))
    (H : ((impl_readTree.step (impl_readTree.f k) q0 ⟨#[44]⟩).bind fun x => match x with
          | none => some (.leaf [], ⟨#[]⟩, false)
          | some (t1, r1) => (impl_readTree.step (impl_readTree.f k) r1 ⟨#[93]⟩).bind fun y => match y with
            | none => some (.leaf [], ⟨#[]⟩, false)
            | some (t2, r2) => some (.node t1 t2, r2, true)) = some (t, q, ok)) :
    Calls Try.prog 62 #[.string s] w (impl_readTree.says w t q ok) := by
  have HO : Aside0 (∀ W, Calls Try.prog 73 #[.string s, .string ⟨#[91]⟩] W fun e w' => e = .returned (.tuple #[.string q0, .bool true]) ∧ Drawn0 W w') := ⟨fun W => strings_CutPrefix.calls s ⟨#[91]⟩ q0 true W ho⟩
  have IH := Aside0.mk ih
  have HH := Aside0.mk H
  have S0 : Aside0 (∀ nd, impl_readTree.St w (((w.drewN nd).alloc (.cells #[.slice none 0 0, .pointer none, .pointer none] 60)).alloc (.cells #[.string ⟨#[44]⟩, .string ⟨#[93]⟩] 9)) (.pointer none) (.pointer none)) := ⟨fun nd => by
    refine ⟨?_, ?_, below_alloc (below_alloc (pw_below_drewN (Below.refl _ _) nd) _) _⟩
    · have h_ := ArrW.new ((w.drewN nd).alloc (.cells #[.slice none 0 0, .pointer none, .pointer none] 60)) 9 [.string ⟨#[44]⟩, .string ⟨#[93]⟩]
      simpa using h_
    · exact (ArrW.new (w.drewN nd) 60 [.slice none 0 0, .pointer none, .pointer none]).alloc _⟩
  have CP : Aside0 (∀ (a b c : ByteArray) (o : Bool) (W : World), strings_CutPrefix.f a b = some (c, o) → Calls Try.prog 73 #[.string a, .string b] W fun e w' => e = .returned (.tuple #[.string c, .bool o]) ∧ Drawn0 W w') := ⟨fun a b c o W h => strings_CutPrefix.calls a b c o W h⟩
  clear ho ih H
  go_enter Try.func62, Try.ntmps62
  go_wp2_with (go_at_call 73; refine (HO.out _).mono ?_; rintro e w1 ⟨rfl, ⟨nd, rfl⟩⟩)
  go_loopg [5, 11, 12, 13, 14, 51] 2 (fun g s5 s11 s12 s13 s14 s51 wr =>
      (g = 2 ∧ s5 = .string q0 ∧ s51 = .int .i64 0 ∧ Aside0 (impl_readTree.St w wr (.pointer none) (.pointer none))) ∨
      (g = 1 ∧ ∃ (t1 : Tr) (r1 : ByteArray) (p1 : Nat), s5 = .string r1 ∧ s51 = .int .i64 1 ∧ Aside0 (impl_readTree.St w wr (.pointer (some ⟨p1, 0, none⟩)) (.pointer none) ∧ TrAt 60 3 (w.heap.size + 2) wr t1 p1 ∧
        ((impl_readTree.step (impl_readTree.f k) r1 ⟨#[93]⟩).bind fun y => match y with
            | none => some (.leaf [], ⟨#[]⟩, false)
            | some (t2, r2) => some (.node t1 t2, r2, true)) = some (t, q, ok))) ∨
      (g = 0 ∧ ∃ (p1 p2 : Nat) (t1 t2 : Tr), s5 = .string q ∧ s51 = .int .i64 2 ∧ Aside0 (impl_readTree.St w wr (.pointer (some ⟨p1, 0, none⟩)) (.pointer (some ⟨p2, 0, none⟩)) ∧ TrAt 60 3 (w.heap.size + 2) wr t1 p1 ∧ TrAt 60 3 (w.heap.size + 2) wr t2 p2 ∧ t = .node t1 t2 ∧ ok = true)))
  case atStart => exact .inl ⟨rfl, rfl, rfl, ⟨S0.out nd⟩⟩
  case round =>
    rcases hrel with ⟨rfl, rfl, rfl, HS⟩ | ⟨rfl, t1, r1, p1, rfl, rfl, HS⟩ | ⟨rfl, p1, p2, t1, t2, rfl, rfl, HS⟩
    · obtain ⟨x, hx, H2⟩ := Option.bind_eq_some_iff.1 HH.out
      obtain ⟨⟨t1, r1, ok1⟩, hf1, hx2⟩ := Option.bind_eq_some_iff.1 (show ((impl_readTree.f k q0).bind fun q => if q.2.2 = true then (strings_CutPrefix.f q.2.1 ⟨#[44]⟩).bind fun c => if c.2 = true then some (some (q.1, c.1)) else some none else some none) = some x from hx)
      have hl0 := (HS.out.1.at 0 (.string ⟨#[44]⟩) rfl).1
      have hlt := HS.out.1.lt
      have HSZ : Aside0 (w.heap.size + 2 ≤ wr.heap.size) := ⟨by omega⟩
      have HF1 := Aside0.mk hf1
      clear hx hf1 hlt
      cases ok1 with
      | false =>
        obtain rfl : none = x := by simpa using hx2
        obtain ⟨rfl, rfl, rfl⟩ : Tr.leaf [] = t ∧ (⟨#[]⟩ : ByteArray) = q ∧ false = ok := by simpa using H2
        clear hx2 H2
        go_wp2_with (go_at_call 62; refine (IH.out q0 t1 r1 false _ HF1.out).mono ?_; rintro e w2 ⟨v2, rfl, -, hb2⟩)
        go_ret3
        exact ⟨_, rfl, fun h => absurd h (by decide), below_step HS.out.2.2 hb2⟩
      | true =>
        obtain ⟨⟨c1, o1⟩, hc1, hx3⟩ := Option.bind_eq_some_iff.1 (show ((strings_CutPrefix.f r1 ⟨#[44]⟩).bind fun c => if c.2 = true then some (some (t1, c.1)) else some none) = some x by simpa using hx2)
        have HC1 := Aside0.mk hc1
        clear hx2 hc1
        cases o1 with
        | false =>
          obtain rfl : none = x := by simpa using hx3
          obtain ⟨rfl, rfl, rfl⟩ : Tr.leaf [] = t ∧ (⟨#[]⟩ : ByteArray) = q ∧ false = ok := by simpa using H2
          clear hx3 H2
          go_wp2_with (first
            | (go_at_call 62; refine (IH.out q0 t1 r1 true _ HF1.out).mono ?_; rintro e w2 ⟨v2, rfl, -, hb2⟩)
            | (go_at_call 73; refine (CP.out _ _ _ _ _ HC1.out).mono ?_; rintro e w3 ⟨rfl, ⟨nd3, rfl⟩⟩))
          go_ret3
          exact ⟨_, rfl, fun h => absurd h (by decide), below_step HS.out.2.2 (pw_below_drewN hb2 nd3)⟩
        | true =>
          obtain rfl : some (t1, c1) = x := by simpa using hx3
          have H3 := Aside0.mk (show ((impl_readTree.step (impl_readTree.f k) c1 ⟨#[93]⟩).bind fun y => match y with
            | none => some (.leaf [], ⟨#[]⟩, false)
            | some (t2, r2) => some (.node t1 t2, r2, true)) = some (t, q, ok) from H2)
          clear hx3 H2
          go_wp2_with (first
            | (go_at_call 62; refine (IH.out q0 t1 r1 true _ HF1.out).mono ?_; rintro e w2 ⟨v2, rfl, h2, hb2⟩; obtain ⟨p1, rfl, ht1⟩ := h2 rfl; have HB2 := Aside0.mk hb2; have HT1 := Aside0.mk (ht1.lower HSZ.out); have HS2 := Aside0.mk (HS.out.below hb2); have hcl := HS2.out.2.1.at 1 (.pointer none) rfl; obtain ⟨hcl1, hcl2⟩ := hcl; clear ht1 hb2 h2)
            | (go_at_call 73; refine (CP.out _ _ _ _ _ HC1.out).mono ?_; rintro e w3 ⟨rfl, ⟨nd3, rfl⟩⟩))
          go_roundg 1
          case measure => omega
          case rel => exact .inr (.inl ⟨rfl, t1, c1, p1, rfl, rfl, ⟨(HS2.out.drewN nd3).set1 _, (HT1.out.below (pw_below_drewN (Below.refl _ _) nd3)).far (by simp), H3.out⟩⟩)
    · obtain ⟨hS, hT, hE⟩ := HS.out
      have HT0 := Aside0.mk hT
      have HS0 := Aside0.mk hS
      obtain ⟨x, hx, H2⟩ := Option.bind_eq_some_iff.1 hE
      obtain ⟨⟨t2, r2, ok2⟩, hf1, hx2⟩ := Option.bind_eq_some_iff.1 (show ((impl_readTree.f k r1).bind fun q => if q.2.2 = true then (strings_CutPrefix.f q.2.1 ⟨#[93]⟩).bind fun c => if c.2 = true then some (some (q.1, c.1)) else some none else some none) = some x from hx)
      have hl0 := (hS.1.at 1 (.string ⟨#[93]⟩) rfl).1
      have hlt := hS.1.lt
      have HSZ : Aside0 (w.heap.size + 2 ≤ wr.heap.size) := ⟨by omega⟩
      have HF1 := Aside0.mk hf1
      clear hx hf1 hlt hS hT hE HS HH
      cases ok2 with
      | false =>
        obtain rfl : none = x := by simpa using hx2
        obtain ⟨rfl, rfl, rfl⟩ : Tr.leaf [] = t ∧ (⟨#[]⟩ : ByteArray) = q ∧ false = ok := by simpa using H2
        clear hx2 H2
        go_wp2_with (go_at_call 62; refine (IH.out r1 t2 r2 false _ HF1.out).mono ?_; rintro e w2 ⟨v2, rfl, -, hb2⟩)
        go_ret3
        exact ⟨_, rfl, fun h => absurd h (by decide), below_step HS0.out.2.2 hb2⟩
      | true =>
        obtain ⟨⟨c1, o1⟩, hc1, hx3⟩ := Option.bind_eq_some_iff.1 (show ((strings_CutPrefix.f r2 ⟨#[93]⟩).bind fun c => if c.2 = true then some (some (t2, c.1)) else some none) = some x by simpa using hx2)
        have HC1 := Aside0.mk hc1
        clear hx2 hc1
        cases o1 with
        | false =>
          obtain rfl : none = x := by simpa using hx3
          obtain ⟨rfl, rfl, rfl⟩ : Tr.leaf [] = t ∧ (⟨#[]⟩ : ByteArray) = q ∧ false = ok := by simpa using H2
          clear hx3 H2
          go_wp2_with (first
            | (go_at_call 62; refine (IH.out r1 t2 r2 true _ HF1.out).mono ?_; rintro e w2 ⟨v2, rfl, -, hb2⟩)
            | (go_at_call 73; refine (CP.out _ _ _ _ _ HC1.out).mono ?_; rintro e w3 ⟨rfl, ⟨nd3, rfl⟩⟩))
          go_ret3
          exact ⟨_, rfl, fun h => absurd h (by decide), below_step HS0.out.2.2 (pw_below_drewN hb2 nd3)⟩
        | true =>
          obtain rfl : some (t2, c1) = x := by simpa using hx3
          obtain ⟨rfl, rfl, rfl⟩ : Tr.node t1 t2 = t ∧ c1 = q ∧ true = ok := by simpa using H2
          clear hx3 H2
          go_wp2_with (first
            | (go_at_call 62; refine (IH.out r1 t2 r2 true _ HF1.out).mono ?_; rintro e w2 ⟨v2, rfl, h2, hb2⟩; obtain ⟨p2, rfl, ht1⟩ := h2 rfl; have HB2 := Aside0.mk hb2; have HT1 := Aside0.mk (ht1.lower HSZ.out); have HT3 := Aside0.mk (HT0.out.below hb2); have HS2 := Aside0.mk (HS0.out.below hb2); have hcl := HS2.out.2.1.at 2 (.pointer none) rfl; obtain ⟨hcl1, hcl2⟩ := hcl; clear ht1 hb2 h2)
            | (go_at_call 73; refine (CP.out _ _ _ _ _ HC1.out).mono ?_; rintro e w3 ⟨rfl, ⟨nd3, rfl⟩⟩))
          go_roundg 0
          case measure => omega
          case rel => exact .inr (.inr ⟨rfl, p1, p2, t1, t2, rfl, rfl, ⟨(HS2.out.drewN nd3).set2 _, (HT3.out.below (pw_below_drewN (Below.refl _ _) nd3)).far (by simp), (HT1.out.below (pw_below_drewN (Below.refl _ _) nd3)).far (by simp), by first | rfl | trivial, by first | rfl | trivial⟩⟩)
    · clear HH
      obtain ⟨hS, hT1, hT2, rfl, rfl⟩ := HS.out
      have HF : Aside0 (impl_readTree.says w (.node t1 t2) q true (.returned (.tuple #[.pointer (some ⟨w.heap.size, 0, none⟩), .string q, .bool true])) wr) := ⟨⟨_, rfl, fun _ => ⟨_, rfl, Nat.le_refl _, p1, p2, hS.2.1, hT1.lower (by omega), hT2.lower (by omega)⟩, hS.2.2⟩⟩
      clear hS hT1 hT2 HS
      go_wp2
      go_ret3
      exact HF.out
set_option maxHeartbeats 1000000 in
theorem impl_readTree.calls (k : Nat) : ∀ (s : ByteArray) (t : Tr) (q : ByteArray) (ok : Bool) (w : World), impl_readTree.f k s = some (t, q, ok) → Calls Try.prog 62 #[.string s] w (impl_readTree.says w t q ok) := by
  induction k with
  | zero => intro s t q ok w h; exact absurd h (by simp [impl_readTree.f])
  | succ k ih =>
    intro s t q ok w h
    unfold impl_readTree.f at h
    by_cases hs : s.size ≤ 1048576
    · rw [if_pos hs] at h
      obtain ⟨⟨q0, o⟩, ho, h2⟩ := Option.bind_eq_some_iff.1 h
      cases o with
      | true =>
        rw [if_pos rfl] at h2
        exact impl_readTree.opened k s q0 t q ok w ho ih h2
      | false =>
        rw [if_neg (by simp)] at h2
        by_cases he : 0 ≤ impl_readTree.endOf s ∧ impl_readTree.endOf s ≤ (s.size : Int)
        · rw [if_pos he] at h2
          obtain ⟨⟨p1, p2⟩, hp, h3⟩ := Option.bind_eq_some_iff.1 h2
          have h4 := Option.some.inj h3
          simp only [Prod.mk.injEq] at h4
          obtain ⟨rfl, rfl, rfl⟩ := h4
          exact impl_readTree.leaf k s q0 p1 p2 w hs ho he.1 he.2 hp
        · rw [if_neg he] at h2
          exact absurd h2 (by simp)
    · rw [if_neg hs] at h
      exact absurd h (by simp)

end Go.Proofs.Ytlojkjkbocfmfaa.P
