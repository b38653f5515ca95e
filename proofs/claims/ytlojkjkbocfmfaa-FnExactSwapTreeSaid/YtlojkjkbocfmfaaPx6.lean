/- Each call of a Go function named below comes to exactly the answers of the Lean function of its name, and a law row follows from its plain statement. No condition beyond those that each theorem states. -/
import Derived.Test.YtlojkjkbocfmfaaPx0
import Derived.Deep.RegionHeld3
import Derived.Laws.RangeAny
import Derived.Lib.OthersKept
import Derived.ScopeJumps
import Derived.Shelf.Small.Utf8
import Derived.Shelf.Strings.IndexAnyAll
import Derived.WalkMore
namespace Go.Proofs.Ytlojkjkbocfmfaa.P
open Go.RowKit Go.Proofs.YtlojkjkbocfmfaaW.PrintWords Go.Proofs.YtlojkjkbocfmfaaW.PrintLast Go.Proofs.YtlojkjkbocfmfaaW.PrintMore
attribute [local go_sem] max2_int min2_int max_two min_two max_three min_three max_four min_four   -- for this text's walks alone
set_option linter.unusedVariables false
set_option linter.unusedSimpArgs false

/-! ### strings_IndexAny: function 74 -/
--@IMPORT Derived.Shelf.Strings.IndexAnyAll
--@IMPORT Derived.Laws.RangeAny
--@IMPORT Derived.Lib.OthersKept
--@IMPORT Derived.WalkMore
--@IMPORT Derived.Deep.RegionHeld3
--@IMPORT Derived.ScopeJumps
--@IMPORT Derived.Shelf.Small.Utf8
section
open Go.Shelf Go.Lib
def strings_IndexAny.lays_ren : Go.Shelf.Ren := ⟨fun | 153 => 74 | 152 => 80 | 226 => 81 | 227 => 82 | 228 => 83 | 137 => 87 | 119 => 88 | 224 => 89 | 225 => 90 | 217 => 91 | 266 => 92 | n => n, fun | 9 => 9 | 3 => 3 | 4 => 4 | 5 => 5 | 21 => 21 | 117 => 82 | 116 => 81 | 0 => 0 | 46 => 41 | 124 => 89 | n => n, fun | n => n⟩
theorem strings_IndexAny.lays : Go.Proofs.Lays.n153 Try.prog strings_IndexAny.lays_ren := {
  mixed := by kernel_rfl
  f119 := Try.func88.trans (congrArg some (by kernel_rfl))
  f137 := Try.func87.trans (congrArg some (by kernel_rfl))
  f152 := Try.func80.trans (congrArg some (by kernel_rfl))
  f153 := Try.func74.trans (congrArg some (by kernel_rfl))
  f217 := Try.func91.trans (congrArg some (by kernel_rfl))
  f224 := Try.func89.trans (congrArg some (by kernel_rfl))
  f225 := Try.func90.trans (congrArg some (by kernel_rfl))
  f226 := Try.func81.trans (congrArg some (by kernel_rfl))
  f227 := Try.func82.trans (congrArg some (by kernel_rfl))
  f228 := Try.func83.trans (congrArg some (by kernel_rfl))
  f266 := Try.func92.trans (congrArg some (by kernel_rfl))
  t0 := Try.underlying0
  a0 := Try.isAgg0
  z0 := Try.sizeOf0
  v0 := Try.zeroValue0
  t3 := Try.underlying3
  a3 := Try.isAgg3
  z3 := Try.sizeOf3
  v3 := Try.zeroValue3
  t4 := Try.underlying4
  a4 := Try.isAgg4
  z4 := Try.sizeOf4
  v4 := Try.zeroValue4
  t5 := Try.underlying5
  a5 := Try.isAgg5
  z5 := Try.sizeOf5
  v5 := Try.zeroValue5
  t9 := Try.underlying9
  a9 := Try.isAgg9
  z9 := Try.sizeOf9
  v9 := Try.zeroValue9
  t21 := Try.underlying21
  a21 := Try.isAgg21
  z21 := Try.sizeOf21
  v21 := Try.zeroValue21
  t46 := Try.underlying41
  a46 := Try.isAgg41
  z46 := Try.sizeOf41
  v46 := Try.zeroValue41
  t116 := Try.underlying81
  a116 := Try.isAgg81
  z116 := Try.sizeOf81
  t117 := Try.underlying82
  a117 := Try.isAgg82
  z117 := Try.sizeOf82
  v117 := Try.zeroValue82
  t124 := Try.underlying89
  a124 := Try.isAgg89
  z124 := Try.sizeOf89
  v124 := Try.zeroValue89 }
theorem strings_IndexAny.byte (s : ByteArray) (c : Int) (w : World) :
    Calls Try.prog 87 #[.string s, .int .u8 c] w fun e w' => e = .returned (.int .i64 (Lib.indexByte s.data.toList c.toNat.toUInt8)) ∧ w' = w := Any.strings_IndexByte { strings_IndexAny.lays with } s c w
theorem strings_IndexAny.byte0 (c : Int) (w : World) : Calls Try.prog 87 #[.string ByteArray.empty, .int .u8 c] w fun e w' => e = .returned (.int .i64 (-1)) ∧ w' = w := strings_IndexAny.byte ByteArray.empty c w
theorem strings_IndexAny.ascii (s : ByteArray) (r : Int) (w : World) (h0 : 0 ≤ r) (h1 : r < 128) :
    Calls Try.prog 80 #[.string s, .int .i32 r] w fun e w' => e = .returned (.int .i64 (Lib.indexByte s.data.toList r.toNat.toUInt8)) ∧ w' = w := Any.strings_IndexRune_ascii { strings_IndexAny.lays with } s r w h0 h1
theorem strings_IndexAny.short8 (n : Int) (w : World) :
    Calls Try.prog 81 #[.int .i64 n] w fun e w' => e = .returned (.bool (decide (8 < n))) ∧ w' = w := Any.strings_shouldUseASCIISet { strings_IndexAny.lays with } n w
theorem strings_IndexAny.valid (r : Int) (w : World) :
    Calls Try.prog 88 #[.int .i32 r] w fun e w' => e = .returned (.bool (Lib.validRune r)) ∧ w' = w := Any.utf8_ValidRune { strings_IndexAny.lays with } r w
theorem strings_IndexAny.long (s : ByteArray) (w : World) (h8 : 8 < s.size) (hs : s.size < 4294967281) :
    Calls Try.prog 74 #[.string s, .string ⟨#[44, 93]⟩] w fun e w' => e = .returned (.int .i64 (Lib.indexAny s.data.toList [44, 93])) ∧ Below w.heap.size w w' :=
  (Any.strings_IndexAny_long (P := Try.prog) (ρ := strings_IndexAny.lays_ren) strings_IndexAny.lays (arr_zero (s := 256) (b := 256) (z := .agg (Array.replicate 256 (.bool false))) (by kernel_rfl)) (by kernel_rfl) s ⟨#[44, 93]⟩ w (by decide) h8 hs (by decide) (by intro j b h; match j, h with | 0, h => cases h; decide | 1, h => cases h; decide | j + 2, h => simp at h)).mono (by
    rintro e w' ⟨rfl, rfl⟩
    exact ⟨rfl, below_alloc (below_alloc (Below.refl _ _) _) _⟩)
set_option maxHeartbeats 4000000 in
set_option maxRecDepth 100000 in
theorem strings_IndexAny.high1 (r : Int) (w : World) (h0 : 128 ≤ r) (h1 : r ≤ 2147483647) (h2 : r ≠ 65533) (h3 : Lib.validRune r = true) :
    Calls Try.prog 80 #[.string ⟨#[44, 93]⟩, .int .i32 r] w fun e w' => e = .returned (.int .i64 (-1)) ∧ Below w.heap.size w w' := by
  have c1 : decide (r < 128) = false := decide_eq_false (by omega)
  have c2 : (r == 65533) = false := beq_eq_false_iff_ne.2 h2
  have c0 : decide (0 ≤ r) = true := decide_eq_true (by omega)
  go_enter Try.func80, Try.ntmps80
  go_wp2_with (go_at_call 88; refine (strings_IndexAny.valid r _).mono ?_; rintro e w' ⟨rfl, hw'⟩; rw [hw', h3])
  obtain ⟨e1, e2, e3⟩ := encode_facts r (by rw [validRune_eq]; exact h3) h0
  have hconv : ∀ W : World, (convert 21 9 (.int .i32 r)).run Try.prog W = .ok (.string (Utf8.encode r)) W := fun W => run_convert_int_string W _ _ _ _ (by kernel_rfl) Try.underlying9
  generalize Utf8.encode r = rs at *
  go_step3
  go_wp2
  have HN : Aside0 (rs.size ≤ 4) := ⟨e2⟩
  go_loopg [9, 10, 11, 12] 0 (fun g s9 s10 s11 s12 wr => s9 = .int .i64 ((rs.size : Int) - 1) ∧ wr = w)
  case atStart => exact ⟨rfl, rfl⟩
  case round =>
    obtain ⟨rfl, rfl⟩ := hrel
    by_cases h5 : rs.size = 2
    · obtain ⟨x, y, rfl, hy⟩ : ∃ x y : UInt8, rs = ⟨#[x, y]⟩ ∧ 128 ≤ y.toNat := by
        obtain ⟨⟨l⟩⟩ := rs
        match l, h5, e3 with
        | [x, y], _, e3 => exact ⟨x, y, rfl, e3 (by show 1 < 2; decide)⟩
      have hb : ((93 : Int) == (y.toNat : Int)) = false := beq_eq_false_iff_ne.2 (by omega)
      have hb2 : ((93 : Int) != (y.toNat : Int)) = true := bne_iff_ne.2 (by omega)
      have hb3 : ((((⟨#[44, 93]⟩ : ByteArray)[1]'(by decide)).toNat : Int) != (((⟨#[x, y]⟩ : ByteArray)[1]'(by show 1 < 2; decide)).toNat : Int)) = true := hb2
      clear e1 e2 e3 h5 HN hconv
      have hw1 : IntKind.i64.wrap (1 + 1) = 2 := by decide
      have hw2 : IntKind.i64.wrap 2 = 2 := by decide
      have hw3 : wrap64 2 = 2 := by unfold wrap64; omega
      go_wp2
      go_step3
      go_wp2
      go_region_held3 (fun w' => Below wr.heap.size wr w') (first | assumption | exact below_drew (Below.refl _ _) | exact below_drew (by assumption)) (fail)
      all_goals
        rename_i hHeld_
        have HK := Aside0.mk hHeld_
        clear hHeld_
        go_wp2
        go_region_held3 (fun w' => Below wr.heap.size wr w') (first | assumption | exact below_drew (Below.refl _ _) | exact below_drew (by assumption) | exact below_drew HK.out) ((go_at_call 87; refine (strings_IndexAny.byte0 _ _).mono ?_; rintro e w' ⟨rfl, rfl⟩))
      all_goals
        rename_i hHeld_
        have HK2 := Aside0.mk hHeld_
        clear hHeld_
        go_wp2
        simp only [Exit.noGoto, Exit.inBlock, Exit.then]
        go_ret
        exact ⟨rfl, HK2.out⟩
    · have h6 : decide ((rs.size : Int) - 1 < 2) = false := decide_eq_false (by omega)
      go_wp2
      rw [Exit.noGoto_ret]
      go_ret
      exact ⟨rfl, Below.refl _ _⟩
theorem strings_IndexAny.twice (i : Nat) (hi : i < (⟨#[44, 93]⟩ : ByteArray).size) : (((⟨#[44, 93]⟩ : ByteArray)[i]'hi).toNat = 44 ∨ ((⟨#[44, 93]⟩ : ByteArray)[i]'hi).toNat = 93) := by
  have hi2 : i < 2 := hi
  match i, hi2 with
  | 0, _ => exact .inl rfl
  | 1, _ => exact .inr rfl
set_option maxHeartbeats 4000000 in
set_option maxRecDepth 100000 in
theorem strings_IndexAny.high (r : Int) (w : World) (h0 : 128 ≤ r) (h1 : r ≤ 2147483647) :
    Calls Try.prog 80 #[.string ⟨#[44, 93]⟩, .int .i32 r] w fun e w' => e = .returned (.int .i64 (-1)) ∧ Below w.heap.size w w' := by
  by_cases h2 : r = 65533
  · subst h2
    go_enter Try.func80, Try.ntmps80
    go_wp2
    obtain ⟨s, hs⟩ : ∃ s : ByteArray, s = ⟨#[44, 93]⟩ := ⟨_, rfl⟩
    rw [← hs]
    have hsz : s.size = 2 := by rw [hs]; rfl
    have htw : ∀ (i : Nat) (hi : i < s.size), (s[i]'hi).toNat = 44 ∨ (s[i]'hi).toNat = 93 := by rw [hs]; exact strings_IndexAny.twice
    have HTW := Aside0.mk htw
    clear htw hs
    go_loopg [5, 6] 2 (fun g s5 s6 wr => ∃ i : Nat, i + g = 2 ∧ wr = w.iter s i)
    case atStart => exact ⟨0, rfl, rfl⟩
    case round =>
      obtain ⟨i, hig, rfl⟩ := hrel
      cases gk with
      | zero =>
        have hnx := fun ty => run_next_end (P := Try.prog) w s i ty (by omega)
        go_wp2
        go_ret
        exact ⟨rfl, below_alloc (Below.refl _ _) _⟩
      | succ g =>
        have hi : i < s.size := by omega
        have h7 := HTW.out i hi
        obtain ⟨x, hx⟩ : ∃ x : UInt8, s[i]'hi = x := ⟨_, rfl⟩
        rw [hx] at h7
        have hnx := fun ty => run_next_ascii (P := Try.prog) w s i ty hi (by rw [hx]; omega)
        rw [hx] at hnx
        have c7 : ((x.toNat : Int) == 65533) = false := beq_eq_false_iff_ne.2 (by omega)
        go_wp2
        go_roundg g
        case measure => omega
        case rel => exact ⟨i + 1, by omega, rfl⟩
  · by_cases h3 : Lib.validRune r = true
    · exact strings_IndexAny.high1 r w h0 h1 h2 h3
    · have h3' : Lib.validRune r = false := by simpa using h3
      have c1 : decide (r < 128) = false := decide_eq_false (by omega)
      have c2 : (r == 65533) = false := beq_eq_false_iff_ne.2 h2
      have c0 : decide (0 ≤ r) = true := decide_eq_true (by omega)
      go_enter Try.func80, Try.ntmps80
      go_wp2_with (go_at_call 88; refine (strings_IndexAny.valid r _).mono ?_; rintro e w' ⟨rfl, hw'⟩; rw [hw', h3'])
      go_ret
      exact ⟨rfl, Below.refl _ _⟩
theorem u8_skip (s : ByteArray) (pos : Nat) (h : pos < s.size) (ha : 128 ≤ (s[pos]'h).toNat) (k : Nat) (h1 : 1 ≤ k) (h2 : k < (Utf8.decode s pos).2) : pos + k < s.size ∧ 128 ≤ (s.get! (pos + k)).toNat := by
  have hn : ¬ (s[pos]'h).toNat < 128 := by omega
  simp only [Utf8.decode, get_at s pos h, hn, if_false] at h2
  repeat' split at h2
  all_goals simp_all
  all_goals first
    | omega
    | (rcases (by omega : k = 1 ∨ k = 2 ∨ k = 3) with rfl | rfl | rfl <;> first | omega | (constructor <;> omega))
theorem u8_get (s : ByteArray) (j : Nat) (b : UInt8) (h : s.data.toList[j]? = some b) : s.get! j = b := by
  have hj : j < s.data.toList.length := (List.getElem?_eq_some_iff.1 h).1
  have e := (List.getElem?_eq_some_iff.1 h).2
  show s.data[j]! = b
  rw [getElem!_pos s.data j (by simpa using hj)]
  simpa using e
theorem u8_noAny (s : ByteArray) (i : Nat) (hi : i < s.size) (ha : 128 ≤ (s[i]'hi).toNat) (h : Lib.NoAny s.data.toList [44, 93] i) : i + (Utf8.decode s i).2 ≤ s.size ∧ Lib.NoAny s.data.toList [44, 93] (i + (Utf8.decode s i).2) := by
  have hw := (decode_high s i hi ha).2
  refine ⟨?_, fun j b hj hb => ?_⟩
  · by_cases h1 : (Utf8.decode s i).2 = 1
    · omega
    · have := (u8_skip s i hi ha ((Utf8.decode s i).2 - 1) (by omega) (by omega)).1
      omega
  · by_cases hji : j < i
    · exact h j b hji hb
    · have hbb : 128 ≤ b.toNat := by
        by_cases e : j = i
        · subst e
          have := u8_get s j b hb
          have h3 := get_at s j hi
          rw [Nat.add_zero] at h3
          rw [← this, h3]; exact ha
        · have h4 := (u8_skip s i hi ha (j - i) (by omega) (by omega)).2
          rw [show i + (j - i) = j from by omega, u8_get s j b hb] at h4
          exact h4
      have n1 : b ≠ 44 := fun e => by rw [e] at hbb; exact absurd hbb (by decide)
      have n2 : b ≠ 93 := fun e => by rw [e] at hbb; exact absurd hbb (by decide)
      simp [n1, n2]
set_option maxHeartbeats 4000000 in
set_option maxRecDepth 100000 in
theorem strings_IndexAny.short (s : ByteArray) (w : World) (h8 : s.size ≤ 8) :
    Calls Try.prog 74 #[.string s, .string ⟨#[44, 93]⟩] w fun e w' => e = .returned (.int .i64 (Lib.indexAny s.data.toList [44, 93])) ∧ Below w.heap.size w w' := by
  have h8z : decide ((8 : Int) < (s.size : Int)) = false := decide_eq_false (by omega)
  have hb0 : Aside0 (Below w.heap.size w (w.iter s 0)) := ⟨below_alloc (Below.refl _ _) _⟩
  have hi0 := Aside0.mk (World.iter_heap w s 0)
  have HSZ := Aside0.mk (Lib.size_eq s)
  obtain ⟨K, hK⟩ : ∃ K, K = w.heap.size := ⟨_, rfl⟩
  go_enter Try.func74, Try.ntmps74
  go_wp2_with (go_at_call 81; refine (strings_IndexAny.short8 _ _).mono ?_; rintro e w' ⟨rfl, hw⟩; rw [hw, h8z])
  go_loopg [9, 10] s.size (fun g _ _ wx => ∃ i : Nat, i ≤ s.size ∧ s.size - i ≤ g ∧ Aside0 (wx.heap[w.heap.size]? = some (.stringIter s i)) ∧ Aside0 (Below w.heap.size w wx) ∧ Aside0 (Lib.NoAny s.data.toList [44, 93] i))
  case atStart => exact ⟨0, by omega, by omega, hi0, hb0, ⟨Lib.NoAny.zero _ _⟩⟩
  case round =>
    obtain ⟨i, hi, hig, HH, HB, HN⟩ := hrel
    by_cases hlt : i < s.size
    · obtain ⟨g, rfl⟩ : ∃ g, gk = g + 1 := ⟨gk - 1, by omega⟩
      obtain ⟨x, hx⟩ : ∃ x : UInt8, s[i]'hlt = x := ⟨_, rfl⟩
      have hxl : s.data.toList[i]? = some x := by rw [← hx]; exact Lib.data_getElem? s i hlt
      have HX := Aside0.mk hxl
      by_cases h128 : x.toNat < 128
      · have hnx := fun ty => run_next_ascii_at (P := Try.prog) wr w.heap.size s i ty HH.out hlt (by rw [hx]; exact h128)
        rw [hx] at hnx
        have HH2 := Aside0.mk (iterAt_heap wr w.heap.size s i (i + 1) HH.out)
        have HB2 := Aside0.mk (below_iterAt HB.out (Nat.le_refl w.heap.size) s (i + 1))
        have hcon := Lib.contains_iff_indexByte [44, 93] x
        have hback : ((x.toNat : Int)).toNat.toUInt8 = x := by simp
        obtain ⟨W2, hW2⟩ : ∃ W2, W2 = wr.iterAt w.heap.size s (i + 1) := ⟨_, rfl⟩
        rw [← hW2] at hnx HH2 HB2
        clear hxl hx hW2
        cases hin : ([44, 93] : List UInt8).contains x
        · rw [hin] at hcon
          have hlt0 : ¬ ((0 : Int) ≤ Lib.indexByte [44, 93] x) := of_decide_eq_false hcon.symm
          clear hcon
          go_wp2_with (go_at_call 80; refine (strings_IndexAny.ascii _ _ _ (by omega) (by omega)).mono ?_; rintro e w' ⟨rfl, hw⟩; rw [hw, hback])
          go_roundg g
          case measure => omega
          case rel => exact ⟨i + 1, by omega, by omega, HH2, HB2, ⟨HN.out.succ HX.out hin⟩⟩
        · rw [hin] at hcon
          have hge : (0 : Int) ≤ Lib.indexByte [44, 93] x := of_decide_eq_true hcon.symm
          clear hcon
          go_wp2_with (go_at_call 80; refine (strings_IndexAny.ascii _ _ _ (by omega) (by omega)).mono ?_; rintro e w' ⟨rfl, hw⟩; rw [hw, hback])
          go_ret
          exact ⟨by rw [Lib.indexAny_hit HN.out HX.out hin]; rfl, HB2.out⟩
      · have hnx := fun ty => run_next_any_at (P := Try.prog) wr w.heap.size s i ty HH.out hlt
        have hd1 := (decode_high s i hlt (by rw [hx]; omega)).1
        have hd2 := decode_le s i
        obtain ⟨hd3, hd4⟩ := u8_noAny s i hlt (by rw [hx]; omega) HN.out
        have hd5 := (decode_high s i hlt (by rw [hx]; omega)).2
        have HH2 := Aside0.mk (iterAt_heap wr w.heap.size s i (i + (Utf8.decode s i).2) HH.out)
        have HB2 := Aside0.mk (below_iterAt HB.out (Nat.le_refl w.heap.size) s (i + (Utf8.decode s i).2))
        have HN2 := Aside0.mk hd4
        have HI2 : Aside0 (i < i + (Utf8.decode s i).2) := ⟨by omega⟩
        obtain ⟨i2, hi2⟩ : ∃ i2, i2 = i + (Utf8.decode s i).2 := ⟨_, rfl⟩
        obtain ⟨d, hd⟩ : ∃ d, d = (Utf8.decode s i).1 := ⟨_, rfl⟩
        rw [← hi2] at hnx hd3 HH2 HB2 HN2 HI2
        rw [← hd] at hnx hd1 hd2
        obtain ⟨W2, hW2⟩ : ∃ W2, W2 = wr.iterAt w.heap.size s i2 := ⟨_, rfl⟩
        rw [← hW2] at hnx HH2 HB2
        clear hxl hx hW2 hi2 hd hd4 hd5
        go_wp2_with (go_at_call 80; refine (strings_IndexAny.high _ _ (by omega) (by omega)).mono ?_; rintro e w3 ⟨rfl, hb3⟩)
        go_roundg g
        case measure => have := HI2.out; omega
        case rel => exact ⟨i2, hd3, by have := HI2.out; omega, ⟨(hb3.block _ (Array.getElem?_eq_some_iff.1 HH2.out).1).trans HH2.out⟩, ⟨below_step HB2.out hb3⟩, HN2⟩
    · have hnx := fun ty => run_next_end_at (P := Try.prog) wr w.heap.size s i ty HH.out hlt
      go_wp2
      go_ret
      exact ⟨by rw [Lib.indexAny_none (by rw [← HSZ.out, show s.size = i from by omega]; exact HN.out)]; rfl, HB.out⟩
theorem strings_IndexAny.calls (s : ByteArray) (w : World) (hs : s.size < 4294967281) :
    Calls Try.prog 74 #[.string s, .string ⟨#[44, 93]⟩] w fun e w' => e = .returned (.int .i64 (Lib.indexAny s.data.toList [44, 93])) ∧ Below w.heap.size w w' := by
  by_cases h8 : s.size ≤ 8
  · exact strings_IndexAny.short s w h8
  · exact strings_IndexAny.long s w (by omega) hs
end

end Go.Proofs.Ytlojkjkbocfmfaa.P
