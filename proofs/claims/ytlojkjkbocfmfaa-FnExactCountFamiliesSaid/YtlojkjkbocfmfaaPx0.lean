/- Each call of a Go function named below comes to exactly the answers of the Lean function of its name, and a law row follows from its plain statement. No condition beyond those that each theorem states. -/
import Derived.Test.YtlojkjkbocfmfaaProg
import Derived.Below
import Derived.Deep.Draws
import Derived.Deep.AppendLies
import Derived.Maps.AppendAt
import Derived.OwnWalk
import Derived.Laws.BytesArg
import Derived.Laws.MakeOwn
import Derived.Laws.OwnMore
import Derived.Deep.OwnRows
import Derived.Tactics
import Derived.Lib.ConvBytes
import Derived.Laws.Slices
import Derived.WalkKit
import Derived.KernelRfl
import Derived.RowKit3
import Derived.Deep.LoopGhost
import Derived.Deep.QuietTactic
import Derived.BigQuiet
import Derived.WideLaws
import Derived.Deep.DeepCutAuto
import Derived.Deep.CutBlock
import Derived.Deep.RegionHeld3
import Derived.Laws.Rows
import Derived.Lib.AppendStr
import Derived.ArgAppend
import Derived.Laws.IdiomCopy
import Derived.OrdersHeld
import Derived.Laws.BitsLemmas
import Derived.RowKit
import Derived.Shelf.Abstract
import Derived.Laws.Rows
import Derived.Laws.Tables
import Derived.Laws.CopyOwn
import Derived.ChangeKeysEq
import Derived.RangeFuncRecord
import Derived.Test.YtlojkjkbocfmfaaWWords
import Derived.Test.YtlojkjkbocfmfaaWLast
import Derived.Test.YtlojkjkbocfmfaaWTab
import Derived.Test.YtlojkjkbocfmfaaWFour
import Derived.Test.YtlojkjkbocfmfaaWQPut
import Derived.Test.YtlojkjkbocfmfaaWApart
import Derived.Test.YtlojkjkbocfmfaaWArr
import Derived.Test.YtlojkjkbocfmfaaWZeros
import Derived.Test.YtlojkjkbocfmfaaWFoot
import Derived.Test.YtlojkjkbocfmfaaWKept
import Derived.Test.YtlojkjkbocfmfaaWShare
import Derived.Test.YtlojkjkbocfmfaaWN
import Derived.Test.YtlojkjkbocfmfaaWFootNe
import Derived.Test.YtlojkjkbocfmfaaWAt
import Derived.Test.YtlojkjkbocfmfaaWEqStruct
import Derived.Test.YtlojkjkbocfmfaaWRepsOne
import Derived.Test.YtlojkjkbocfmfaaWInv
import Derived.Test.YtlojkjkbocfmfaaWInvWords
import Derived.Test.YtlojkjkbocfmfaaWGuard
import Derived.Test.YtlojkjkbocfmfaaWNEv
import Derived.Test.YtlojkjkbocfmfaaWMore
namespace Go.Proofs.Ytlojkjkbocfmfaa.P
open Go.RowKit Go.Proofs.YtlojkjkbocfmfaaW.PrintWords Go.Proofs.YtlojkjkbocfmfaaW.PrintLast Go.Proofs.YtlojkjkbocfmfaaW.PrintMore
attribute [local go_sem] max2_int min2_int max_two min_two max_three min_three max_four min_four   -- for this text's walks alone
set_option linter.unusedVariables false
set_option linter.unusedSimpArgs false



def errW : Option Int → Value
  | none => .nilIface
  | some c => .iface 0 (.int .i64 c)
theorem errW_none : errW none = .nilIface := rfl
theorem errW_some (c : Int) : errW (some c) = .iface 0 (.int .i64 c) := rfl

theorem info3 : (Try.prog.info? 3).map (fun i => (i.zero, i.size, i.bytes)) = some (some (.int .i64 0), 1, 8) := by kernel_rfl
theorem info5 : (Try.prog.info? 5).map (fun i => (i.zero, i.size, i.bytes)) = some (some (.int .u8 0), 1, 1) := by kernel_rfl
theorem info25 : (Try.prog.info? 25).map (fun i => (i.zero, i.size, i.bytes)) = some (some (.slice none 0 0), 1, 24) := by kernel_rfl
-- the values' own types
def rd_L1 (xs : List (List Int)) (i : Int) : (List Int) := xs.getD i.toNat ([] : List Int)
theorem at_L1 {w : World} {A : Option Addr} {n : Nat} {xs : List (List Int)} (h : Kd.C (Kd.slice 3 (Kd.int .i64)) w A n xs) (i : Int) (h0 : 0 ≤ i) (h1 : i < n) : ∃ ad A0 c0, A = some ad ∧ w.cell? (ad.add i.toNat) = some (.slice A0 (rd_L1 xs i).length c0) ∧ (rd_L1 xs i).length ≤ c0 ∧ (Kd.int .i64).C w A0 (rd_L1 xs i).length (rd_L1 xs i) := by
  obtain ⟨ad, c, e, _, hK, hc0⟩ := Kd.C_get h ([] : List Int) i h0 h1
  have hc : ∀ j u, c[j]? = some u → w.cell? (ad.add (i.toNat * 1 + j)) = some u := hc0
  obtain ⟨A0, c0, rfl, l0, g0⟩ := hK
  exact ⟨ad, A0, c0, e, by have hq := hc 0 _ rfl; rwa [Nat.mul_one, Nat.add_zero] at hq, l0, g0⟩

theorem calls_len2 {P : Program} {f : Nat} {A : Option Addr} {n m c : Nat} {v : Value} {w : World} {R : Ending → World → Prop} (h : n = m) (k : Calls P f #[.slice A m c, v] w R) : Calls P f #[.slice A n c, v] w R := h ▸ k
theorem calls_len1 {P : Program} {f : Nat} {A : Option Addr} {n m c : Nat} {w : World} {R : Ending → World → Prop} (h : n = m) (k : Calls P f #[.slice A m c] w R) : Calls P f #[.slice A n c] w R := h ▸ k
theorem len_take_ {α : Type} {l : List α} {i : Int} (h : i ≤ (l.length : Int)) : i.toNat = (l.take i.toNat).length := by rw [List.length_take]; omega
theorem len_mid_ {α : Type} {l : List α} {i j : Int} (h1 : j ≤ (l.length : Int)) (h2 : i ≤ j) : j.toNat - i.toNat = ((l.take j.toNat).drop i.toNat).length := by rw [List.length_drop, List.length_take]; omega
theorem len_drop_ {α : Type} {l : List α} {i : Int} : l.length - i.toNat = (l.drop i.toNat).length := by rw [List.length_drop]
theorem reads_len {α : Type} {R : α → List Value → Prop} {size n m : Nat} {w : World} {A : Option Addr} {ps : List α} (h : n = m) (k : ReadsRow R size w A n ps) : ReadsRow R size w A m ps := h ▸ k
/-! A boxed array: what its block holds. -/
def ArrW (w : World) (b t : Nat) (cs : List Value) : Prop := w.heap[b]? = some (.cells cs.toArray t (0, 0))
theorem ArrW.lt {w : World} {b t : Nat} {cs : List Value} (h : ArrW w b t cs) : b < w.heap.size := blk_lt h
theorem ArrW.at {w : World} {b t : Nat} {cs : List Value} (h : ArrW w b t cs) (i : Nat) (u : Value) (hi : cs[i]? = some u) : w.cell? ⟨b, i, none⟩ = some u ∧ w.frozen? ⟨b, i, none⟩ = false := ⟨by rw [blk_cell h i]; simpa using hi, blk_frozen h i⟩
theorem ArrW.set {w : World} {b t : Nat} {cs : List Value} (h : ArrW w b t cs) (i : Nat) (u : Value) : ArrW (w.setCell ⟨b, i, none⟩ u) b t (cs.set i u) := by
  have := blk_set h i u
  unfold ArrW
  rw [this]; simp
theorem ArrW.other {w : World} {b t : Nat} {cs : List Value} (h : ArrW w b t cs) (a : Addr) (u : Value) (hne : b ≠ a.block) : ArrW (w.setCell a u) b t cs := (Below.heap_setCell w a u b hne).trans h
theorem ArrW.below {w w' : World} {b t : Nat} {cs : List Value} (h : ArrW w b t cs) (hb : Below w.heap.size w w') : ArrW w' b t cs := blk_below h hb
theorem ArrW.alloc {w : World} {b t : Nat} {cs : List Value} (h : ArrW w b t cs) (o : Obj) : ArrW (w.alloc o) b t cs := blk_alloc h o
theorem ArrW.new (w : World) (t : Nat) (cs : List Value) : ArrW (w.alloc (.cells cs.toArray t)) w.heap.size t cs := World.alloc_heap_new w _
theorem ArrW.row {w : World} {b t : Nat} {cs : List Value} (h : ArrW w b t cs) (cs' : List Value) : ArrW (w.setRow b cs'.toArray) b t cs' := setRow_heap w b _ _ t _ h
theorem ArrW.rowo {w : World} {b t g : Nat} {cs : List Value} (h : ArrW w b t cs) (c : Array Value) (hne : b ≠ g) : ArrW (w.setRow g c) b t cs := (setRow_other w g b c hne).trans h
theorem below_cell {n0 b i : Nat} {u : Value} {w0 w : World} (hb : Below n0 w0 w) (hn : n0 ≤ b) : Below n0 w0 (w.setCell ⟨b, i, none⟩ u) := hb.setCell (p := ⟨b, i, none⟩) hn _
theorem arr_alloc {P : Program} {ops : Array Oper} {rest : List Oper} {o : Oper} {a : Act} {W : World} {Q : Exit → Act → World → Prop} (hgd : o.guard = none) (t : TypeId) (ho : o.op = .alloc t) {z : Value} (hz : ∀ w, (zeroValue t).run P w = .ok z w)
    (h : wpList P ops Q rest (a.put o.dst (.pointer (some ⟨W.heap.size, 0, none⟩))) (W.alloc (.cells z.cells t))) : wpList P ops Q (o :: rest) a W := by
  refine wpList_plain hgd fun K hK => ?_
  unfold Oper.wp execOp
  simp only [ho, Instr.alloc, newVar, newRow, Sem.run_bind, Sem.run_pure, Result.andThen_ok, hz]
  exact hK _ _ h
theorem arr_zero {P : Program} {t s b : Nat} {z : Value} (h : (P.info? t).map (fun i => (i.zero, i.size, i.bytes)) = some (some z, s, b)) : ∀ w, (zeroValue t).run P w = .ok z w := by
  obtain ⟨i0, hi, hz0, -, -⟩ := info_parts h
  intro w
  simp [zeroValue, typeInfo, hi, hz0]
theorem arr_size {P : Program} {t s b : Nat} {z : Value} (h : (P.info? t).map (fun i => (i.zero, i.size, i.bytes)) = some (some z, s, b)) : (P.info? t).map (·.size) = some s := by
  obtain ⟨i0, hi, -, hs, -⟩ := info_parts h
  rw [hi]; simp [hs]
theorem arr_build {P : Program} {ops : Array Oper} {rest : List Oper} {o : Oper} {a : Act} {W : World} {Q : Exit → Act → World → Prop} (hgd : o.guard = none) (t : TypeId) (ho : o.op = .build t #[]) {zs : Array Value} (hb : P.built t [] = some zs)
    (h : wpList P ops Q rest (a.put o.dst (.agg zs)) W) : wpList P ops Q (o :: rest) a W := by
  refine wpList_build hgd t #[] ho (by simp [hb]) ?_
  simpa [hb] using h
theorem bools_one (l : List Bool) : (l.map Value.bool).toArray.all (·.oneCell') = true := by simp [Value.oneCell']
theorem ints_one (l : List Int) : (l.map (Value.int .i64)).toArray.all (·.oneCell') = true := by simp [Value.oneCell']
theorem arr_store {P : Program} {ops : Array Oper} {rest : List Oper} {o : Oper} {a : Act} {W : World} {Q : Exit → Act → World → Prop} (hgd : o.guard = none) (hN : o.dst = none) (t : TypeId) (x y : Operand) (ho : o.op = .store t x y) {b n t' : Nat} {cs cs' : List Value}
    (hx : a.eval x = .pointer (some ⟨b, 0, none⟩)) (hy : a.eval y = .agg cs'.toArray) (hg : ArrW W b t' cs) (hi : (P.info? t).map (·.size) = some n) (hl : cs.length = n) (hl' : cs'.length = n) (h1 : cs'.toArray.all (·.oneCell') = true)
    (h : ∀ W', ArrW W' b t' cs' → (∀ k, k ≠ b → W'.heap[k]? = W.heap[k]?) → (∀ n0 w0, Below n0 w0 W → n0 ≤ b → Below n0 w0 W') → wpList P ops Q rest a W') : wpList P ops Q (o :: rest) a W := by
  refine wpList_store_row hgd t x y ho b cs'.toArray hx hy t' cs.toArray hg (by rw [hi, ← hl']; simp) (by simp [hl, hl']) h1 ?_
  rw [hN]
  exact h _ (ArrW.row hg cs') (fun k hk => setRow_other W b k _ hk) (fun n0 w0 hb hn => below_setRow hb hn _)
theorem arr_load {P : Program} {ops : Array Oper} {rest : List Oper} {o : Oper} {a : Act} {W : World} {Q : Exit → Act → World → Prop} (hgd : o.guard = none) (t : TypeId) (x : Operand) (ho : o.op = .load t x) {b n t' : Nat} {cs : List Value} {d : TypeDesc}
    (hx : a.eval x = .pointer (some ⟨b, 0, none⟩)) (hg : ArrW W b t' cs) (hu : P.underlying t = some d) (hd : (match d with | .struct _ | .array _ _ => true | _ => false) = true) (hi : (P.info? t).map (·.size) = some n) (hl : cs.length = n)
    (h : wpList P ops Q rest (a.put o.dst (.agg cs.toArray)) W) : wpList P ops Q (o :: rest) a W :=
  wpList_load_row hgd t x ho b hx t' cs.toArray (0, 0) d hg hu hd (by rw [hi, ← hl]; simp) h
theorem gate_store0 {P : Program} {ops : Array Oper} {Q : Exit → Act → World → Prop} {rest : List Oper} {o : Oper} {a : Act} {W : World} {t : TypeId} {p : Tmp} {v : Operand} (_ho : o.op = .store t (.tmp p) v) (h : wpList P ops Q (o :: rest) a W) : wpList P ops Q (o :: rest) a W := h
/-! Arrays of n bools as whole values. -/
def TabB (n : Nat) : Type := { l : List Bool // l.length = n }
instance (n : Nat) : DecidableEq (TabB n) := inferInstanceAs (DecidableEq { l : List Bool // l.length = n })
def TabB.zero (n : Nat) : TabB n := ⟨List.replicate n false, by simp⟩
def TabB.v {n : Nat} (t : TabB n) : Array Value := (t.1.map Value.bool).toArray
theorem TabB.items {P : Program} {e : TypeId} (he : P.underlying e = some .bool) (hp : P.plainKey e = true) (d : Nat) (w : World) (xs ys : List Bool) : ∀ is : List Nat, (∀ i ∈ is, i < xs.length ∧ i < ys.length) →
    (Op.eqItems (d + 1) e 1 (xs.map Value.bool).toArray (ys.map Value.bool).toArray is).run P w = .ok (is.all fun i => xs[i]? == ys[i]?) w
  | [], _ => by simp [Op.eqItems]
  | i :: is, h => by
    have hi := h i (by simp)
    have h1 : (xs.map Value.bool).toArray[i * 1]? = some (.bool xs[i]) := by simp [hi.1]
    have h2 : (ys.map Value.bool).toArray[i * 1]? = some (.bool ys[i]) := by simp [hi.2]
    have ih := TabB.items he hp d w xs ys is (fun j hj => h j (by simp [hj]))
    have h3 : (Op.equalIn (d + 1) e (.bool xs[i]) (.bool ys[i])).run P w = .ok (xs[i] == ys[i]) w := by simp [Op.equalIn, run_underlying he]
    simp only [Op.eqItems, Sem.run_bind, run_part_plain w hp h1, run_part_plain w hp h2, Result.andThen_ok, h3, List.all_cons, List.getElem?_eq_getElem hi.1, List.getElem?_eq_getElem hi.2]
    cases hc : (xs[i] == ys[i]) with
    | false =>
      have : (some xs[i] == some ys[i]) = false := by simpa using hc
      simp [this]
    | true =>
      have : (some xs[i] == some ys[i]) = true := by simpa using hc
      simpa [this] using ih
theorem TabB.eq {P : Program} {t e n : Nat} (hu : P.underlying t = some (.array n e)) (he : P.underlying e = some .bool) (hp : P.plainKey e = true) (hs : P.cellsOf e = 1) (w : World) (x y : TabB n) :
    (binOp .eql t (.agg (TabB.v x)) (.agg (TabB.v y))).run P w = .ok (.bool (x == y)) w := by
  obtain ⟨i, hi⟩ := info_of_underlying he
  have h := run_equalIn_array (P := P) (w := w) 9999 (TabB.v x) (TabB.v y) hu hi
  rw [hs] at h
  have h2 := TabB.items he hp 9998 w x.1 y.1 (List.range n) (fun i hi => by rw [x.2, y.2]; simpa using hi)
  have h3 : ((List.range n).all fun i => x.1[i]? == y.1[i]?) = (x == y) := by
    rw [Bool.eq_iff_iff, List.all_eq_true, beq_iff_eq]
    constructor
    · intro hh
      apply Subtype.ext
      apply List.ext_getElem?
      intro i
      by_cases hi : i < n
      · simpa using hh i (by simpa using hi)
      · rw [List.getElem?_eq_none (by rw [x.2]; omega), List.getElem?_eq_none (by rw [y.2]; omega)]
    · rintro rfl i _; simp
  simp only [binOp]
  simp only [Op.equal, Op.maxDepth, Sem.run_bind]
  rw [show (10000 : Nat) = 9999 + 1 from rfl, h]
  unfold TabB.v at h2 ⊢
  rw [h2, h3]
  simp
/-! Arrays of n ints as whole values. -/
def TabI (n : Nat) : Type := { l : List Int // l.length = n }
instance (n : Nat) : DecidableEq (TabI n) := inferInstanceAs (DecidableEq { l : List Int // l.length = n })
def TabI.zero (n : Nat) : TabI n := ⟨List.replicate n 0, by simp⟩
def TabI.v {n : Nat} (t : TabI n) : Array Value := (t.1.map (Value.int .i64)).toArray
theorem TabI.items {P : Program} {e : TypeId} (he : P.underlying e = some (.int .i64)) (hp : P.plainKey e = true) (d : Nat) (w : World) (xs ys : List Int) : ∀ is : List Nat, (∀ i ∈ is, i < xs.length ∧ i < ys.length) →
    (Op.eqItems (d + 1) e 1 (xs.map (Value.int .i64)).toArray (ys.map (Value.int .i64)).toArray is).run P w = .ok (is.all fun i => xs[i]? == ys[i]?) w
  | [], _ => by simp [Op.eqItems]
  | i :: is, h => by
    have hi := h i (by simp)
    have h1 : (xs.map (Value.int .i64)).toArray[i * 1]? = some (.int .i64 xs[i]) := by simp [hi.1]
    have h2 : (ys.map (Value.int .i64)).toArray[i * 1]? = some (.int .i64 ys[i]) := by simp [hi.2]
    have ih := TabI.items he hp d w xs ys is (fun j hj => h j (by simp [hj]))
    have h3 : (Op.equalIn (d + 1) e (.int .i64 xs[i]) (.int .i64 ys[i])).run P w = .ok (xs[i] == ys[i]) w := by simp [Op.equalIn, run_underlying he]
    simp only [Op.eqItems, Sem.run_bind, run_part_plain w hp h1, run_part_plain w hp h2, Result.andThen_ok, h3, List.all_cons, List.getElem?_eq_getElem hi.1, List.getElem?_eq_getElem hi.2]
    cases hc : (xs[i] == ys[i]) with
    | false =>
      have : (some xs[i] == some ys[i]) = false := by simpa using hc
      simp [this]
    | true =>
      have : (some xs[i] == some ys[i]) = true := by simpa using hc
      simpa [this] using ih
theorem TabI.eq {P : Program} {t e n : Nat} (hu : P.underlying t = some (.array n e)) (he : P.underlying e = some (.int .i64)) (hp : P.plainKey e = true) (hs : P.cellsOf e = 1) (w : World) (x y : TabI n) :
    (binOp .eql t (.agg (TabI.v x)) (.agg (TabI.v y))).run P w = .ok (.bool (x == y)) w := by
  obtain ⟨i, hi⟩ := info_of_underlying he
  have h := run_equalIn_array (P := P) (w := w) 9999 (TabI.v x) (TabI.v y) hu hi
  rw [hs] at h
  have h2 := TabI.items he hp 9998 w x.1 y.1 (List.range n) (fun i hi => by rw [x.2, y.2]; simpa using hi)
  have h3 : ((List.range n).all fun i => x.1[i]? == y.1[i]?) = (x == y) := by
    rw [Bool.eq_iff_iff, List.all_eq_true, beq_iff_eq]
    constructor
    · intro hh
      apply Subtype.ext
      apply List.ext_getElem?
      intro i
      by_cases hi : i < n
      · simpa using hh i (by simpa using hi)
      · rw [List.getElem?_eq_none (by rw [x.2]; omega), List.getElem?_eq_none (by rw [y.2]; omega)]
    · rintro rfl i _; simp
  simp only [binOp]
  simp only [Op.equal, Op.maxDepth, Sem.run_bind]
  rw [show (10000 : Nat) = 9999 + 1 from rfl, h]
  unfold TabI.v at h2 ⊢
  rw [h2, h3]
  simp
/-! Arrays of bools (TabB) and of ints (TabI) in memory: an element read, an element set, the whole loaded and stored. -/
def TabB.rd {n : Nat} (x : TabB n) (i : Int) : Bool := x.1.getD i.toNat false
def TabB.set {n : Nat} (x : TabB n) (i : Int) (v : Bool) : TabB n := ⟨x.1.set i.toNat v, by rw [List.length_set]; exact x.2⟩
theorem TabB.size {n : Nat} (x : TabB n) : (TabB.v x).size = n := by simp [TabB.v, x.2]
theorem TabB.one {n : Nat} (x : TabB n) : (TabB.v x).all (·.oneCell') = true := bools_one x.1
theorem TabB.get {n : Nat} (x : TabB n) (i : Int) (h0 : 0 ≤ i) (h1 : i < n) : (TabB.v x)[i.toNat]? = some (.bool (x.rd i)) := by
  have hl : i.toNat < x.1.length := by rw [x.2]; omega
  unfold TabB.v TabB.rd
  rw [List.getElem?_toArray, List.getElem?_map, List.getElem?_eq_getElem hl, List.getD_eq_getElem?_getD, List.getElem?_eq_getElem hl]
  rfl
theorem TabB.cell {n t b : Nat} {w : World} {x : TabB n} (h : w.heap[b]? = some (.cells (TabB.v x) t (0, 0))) (i : Int) (h0 : 0 ≤ i) (h1 : i < n) : w.cell? ⟨b, i.toNat, none⟩ = some (.bool (x.rd i)) := (blk_cell h _).trans (TabB.get x i h0 h1)
theorem TabB.set_v {n : Nat} (x : TabB n) (i : Int) (u : Bool) : (TabB.v x).setIfInBounds i.toNat (.bool u) = TabB.v (x.set i u) := by
  unfold TabB.v TabB.set
  simp [List.map_set]
theorem TabB.index {P : Program} {t e n : Nat} (hu : P.underlying t = some (.array n e)) (hp : P.plainKey e = true) (hs : (P.info? e).map (·.size) = some 1) (x : TabB n) (i : Int) (h0 : 0 ≤ i) (h1 : i < n) (w : World) : (Instr.index t (.agg (TabB.v x)) (.int .i64 i)).run P w = .ok (.bool (x.rd i)) w := by
  have hz : (sizeOf e).run P w = .ok 1 w := by
    cases hi : P.info? e with
    | none => simp [hi] at hs
    | some q => simp [hi] at hs; simp [sizeOf, typeInfo, hi, hs]
  have hg := TabB.get x i h0 h1
  have hp2 : (part e (TabB.v x) (i.toNat * 1)).run P w = .ok (.bool (x.rd i)) w := run_part_plain w hp (by rw [Nat.mul_one]; exact hg)
  unfold Instr.index
  simp only [asIntOf, Sem.run_bind, Sem.run_pure, Result.andThen_ok, run_underlying hu, if_pos (⟨h0, h1⟩ : 0 ≤ i ∧ i < (n : Int)), hz, hp2]
theorem TabB.put {n : Nat} {P : Program} {ops : Array Oper} {rest : List Oper} {o : Oper} {a : Act} {W : World} {Q : Exit → Act → World → Prop} (hgd : o.guard = none) (hN : o.dst = none) (t : TypeId) (p y : Operand) (ho : o.op = .store t p y) {b t' : Nat} {x : TabB n} (i : Int) (u : Bool) (h0 : 0 ≤ i) (h1 : i < n)
    (hx : a.eval p = .pointer (some ⟨b, i.toNat, none⟩)) (hy : a.eval y = .bool u) (hg : W.heap[b]? = some (.cells (TabB.v x) t' (0, 0))) (hi : (P.info? t).map (·.size) = some 1)
    (h : ∀ W', W'.heap[b]? = some (.cells (TabB.v (x.set i u)) t' (0, 0)) → (∀ k, k ≠ b → W'.heap[k]? = W.heap[k]?) → (∀ n0 w0, Below n0 w0 W → n0 ≤ b → Below n0 w0 W') → wpList P ops Q rest a W') : wpList P ops Q (o :: rest) a W := by
  refine wpList_plain hgd fun K hK => ?_
  have hc : W.cell? ⟨b, i.toNat, none⟩ = some (.bool (x.rd i)) := TabB.cell hg i h0 h1
  have hf := blk_frozen hg i.toNat
  have hs : (store ⟨b, i.toNat, none⟩ (.bool u)).run P W = .ok () (W.setCell ⟨b, i.toNat, none⟩ (.bool u)) := by
    rw [run_store P W _ _ _ rfl, hc, hf]; rfl
  have hr : (storeVar t ⟨b, i.toNat, none⟩ (.bool u)).run P W = .ok () (W.setCell ⟨b, i.toNat, none⟩ (.bool u)) := by
    cases hq : P.info? t with
    | none => simp [hq] at hi
    | some q => 
      have hz : q.size = 1 := by simpa [hq] using hi
      have ha : (⟨b, i.toNat, none⟩ : Addr).add 0 = ⟨b, i.toNat, none⟩ := rfl
      simp [storeVar, sizeOf, typeInfo, hq, Value.cells, hz, storeCells, ha, hs]
  unfold Oper.wp execOp
  simp only [ho, hx, hy, Instr.storeAt, Instr.sureAddr, Sem.run_bind, Sem.run_pure, Result.andThen_ok, hr]
  show K (a.put o.dst undef) _
  rw [hN]
  refine hK _ _ (h _ ?_ (fun k hk => Below.heap_setCell W _ _ k hk) (fun n0 w0 hb hn => hb.setCell (p := ⟨b, i.toNat, none⟩) hn _))
  rw [blk_set hg, TabB.set_v]
def TabI.rd {n : Nat} (x : TabI n) (i : Int) : Int := x.1.getD i.toNat 0
def TabI.set {n : Nat} (x : TabI n) (i : Int) (v : Int) : TabI n := ⟨x.1.set i.toNat v, by rw [List.length_set]; exact x.2⟩
theorem TabI.size {n : Nat} (x : TabI n) : (TabI.v x).size = n := by simp [TabI.v, x.2]
theorem TabI.one {n : Nat} (x : TabI n) : (TabI.v x).all (·.oneCell') = true := ints_one x.1
theorem TabI.get {n : Nat} (x : TabI n) (i : Int) (h0 : 0 ≤ i) (h1 : i < n) : (TabI.v x)[i.toNat]? = some (.int .i64 (x.rd i)) := by
  have hl : i.toNat < x.1.length := by rw [x.2]; omega
  unfold TabI.v TabI.rd
  rw [List.getElem?_toArray, List.getElem?_map, List.getElem?_eq_getElem hl, List.getD_eq_getElem?_getD, List.getElem?_eq_getElem hl]
  rfl
theorem TabI.cell {n t b : Nat} {w : World} {x : TabI n} (h : w.heap[b]? = some (.cells (TabI.v x) t (0, 0))) (i : Int) (h0 : 0 ≤ i) (h1 : i < n) : w.cell? ⟨b, i.toNat, none⟩ = some (.int .i64 (x.rd i)) := (blk_cell h _).trans (TabI.get x i h0 h1)
theorem TabI.set_v {n : Nat} (x : TabI n) (i : Int) (u : Int) : (TabI.v x).setIfInBounds i.toNat (.int .i64 u) = TabI.v (x.set i u) := by
  unfold TabI.v TabI.set
  simp [List.map_set]
theorem TabI.index {P : Program} {t e n : Nat} (hu : P.underlying t = some (.array n e)) (hp : P.plainKey e = true) (hs : (P.info? e).map (·.size) = some 1) (x : TabI n) (i : Int) (h0 : 0 ≤ i) (h1 : i < n) (w : World) : (Instr.index t (.agg (TabI.v x)) (.int .i64 i)).run P w = .ok (.int .i64 (x.rd i)) w := by
  have hz : (sizeOf e).run P w = .ok 1 w := by
    cases hi : P.info? e with
    | none => simp [hi] at hs
    | some q => simp [hi] at hs; simp [sizeOf, typeInfo, hi, hs]
  have hg := TabI.get x i h0 h1
  have hp2 : (part e (TabI.v x) (i.toNat * 1)).run P w = .ok (.int .i64 (x.rd i)) w := run_part_plain w hp (by rw [Nat.mul_one]; exact hg)
  unfold Instr.index
  simp only [asIntOf, Sem.run_bind, Sem.run_pure, Result.andThen_ok, run_underlying hu, if_pos (⟨h0, h1⟩ : 0 ≤ i ∧ i < (n : Int)), hz, hp2]
theorem TabI.put {n : Nat} {P : Program} {ops : Array Oper} {rest : List Oper} {o : Oper} {a : Act} {W : World} {Q : Exit → Act → World → Prop} (hgd : o.guard = none) (hN : o.dst = none) (t : TypeId) (p y : Operand) (ho : o.op = .store t p y) {b t' : Nat} {x : TabI n} (i : Int) (u : Int) (h0 : 0 ≤ i) (h1 : i < n)
    (hx : a.eval p = .pointer (some ⟨b, i.toNat, none⟩)) (hy : a.eval y = .int .i64 u) (hg : W.heap[b]? = some (.cells (TabI.v x) t' (0, 0))) (hi : (P.info? t).map (·.size) = some 1)
    (h : ∀ W', W'.heap[b]? = some (.cells (TabI.v (x.set i u)) t' (0, 0)) → (∀ k, k ≠ b → W'.heap[k]? = W.heap[k]?) → (∀ n0 w0, Below n0 w0 W → n0 ≤ b → Below n0 w0 W') → wpList P ops Q rest a W') : wpList P ops Q (o :: rest) a W := by
  refine wpList_plain hgd fun K hK => ?_
  have hc : W.cell? ⟨b, i.toNat, none⟩ = some (.int .i64 (x.rd i)) := TabI.cell hg i h0 h1
  have hf := blk_frozen hg i.toNat
  have hs : (store ⟨b, i.toNat, none⟩ (.int .i64 u)).run P W = .ok () (W.setCell ⟨b, i.toNat, none⟩ (.int .i64 u)) := by
    rw [run_store P W _ _ _ rfl, hc, hf]; rfl
  have hr : (storeVar t ⟨b, i.toNat, none⟩ (.int .i64 u)).run P W = .ok () (W.setCell ⟨b, i.toNat, none⟩ (.int .i64 u)) := by
    cases hq : P.info? t with
    | none => simp [hq] at hi
    | some q => 
      have hz : q.size = 1 := by simpa [hq] using hi
      have ha : (⟨b, i.toNat, none⟩ : Addr).add 0 = ⟨b, i.toNat, none⟩ := rfl
      simp [storeVar, sizeOf, typeInfo, hq, Value.cells, hz, storeCells, ha, hs]
  unfold Oper.wp execOp
  simp only [ho, hx, hy, Instr.storeAt, Instr.sureAddr, Sem.run_bind, Sem.run_pure, Result.andThen_ok, hr]
  show K (a.put o.dst undef) _
  rw [hN]
  refine hK _ _ (h _ ?_ (fun k hk => Below.heap_setCell W _ _ k hk) (fun n0 w0 hb hn => hb.setCell (p := ⟨b, i.toNat, none⟩) hn _))
  rw [blk_set hg, TabI.set_v]
section
variable {P : Program} {ops : Array Oper} {rest : List Oper} {o : Oper} {a : Act} {W : World} {Q : Exit → Act → World → Prop}
theorem tab_new (hgd : o.guard = none) {N : Tmp} (_hd : o.dst = some N) (t : TypeId) (ho : o.op = .alloc t) {cs : Array Value} (hz : ∀ w, (zeroValue t).run P w = .ok (.agg cs) w)
    (h : ∀ g, g = W.heap.size → ∀ w1, w1.heap[g]? = some (.cells cs t (0, 0)) → Below W.heap.size W w1 → wpList P ops Q rest (a.put o.dst (.pointer (some ⟨g, 0, none⟩))) w1) : wpList P ops Q (o :: rest) a W :=
  arr_alloc hgd t ho hz (h _ rfl _ (blk_new W _) (below_alloc (Below.refl _ _) _))
theorem tab_load (hgd : o.guard = none) (t : TypeId) (x : Operand) (ho : o.op = .load t x) {b n t' : Nat} {cs : Array Value} {d : TypeDesc} (hx : a.eval x = .pointer (some ⟨b, 0, none⟩)) (hg : W.heap[b]? = some (.cells cs t' (0, 0)))
    (hu : P.underlying t = some d) (hd : (match d with | .struct _ | .array _ _ => true | _ => false) = true) (hi : (P.info? t).map (·.size) = some n) (hl : cs.size = n)
    (h : wpList P ops Q rest (a.put o.dst (.agg cs)) W) : wpList P ops Q (o :: rest) a W :=
  wpList_load_row hgd t x ho b hx t' cs (0, 0) d hg hu hd (by rw [hi, ← hl]) h
theorem tab_store (hgd : o.guard = none) (hN : o.dst = none) (t : TypeId) (x y : Operand) (ho : o.op = .store t x y) {b n t' : Nat} {cs cs' : Array Value} (hx : a.eval x = .pointer (some ⟨b, 0, none⟩)) (hy : a.eval y = .agg cs') (hg : W.heap[b]? = some (.cells cs t' (0, 0)))
    (hi : (P.info? t).map (·.size) = some n) (hl : cs.size = n) (hl' : cs'.size = n) (h1 : cs'.all (·.oneCell') = true)
    (h : ∀ W', W'.heap[b]? = some (.cells cs' t' (0, 0)) → (∀ k, k ≠ b → W'.heap[k]? = W.heap[k]?) → (∀ n0 w0, Below n0 w0 W → n0 ≤ b → Below n0 w0 W') → wpList P ops Q rest a W') : wpList P ops Q (o :: rest) a W := by
  refine wpList_store_row hgd t x y ho b cs' hx hy t' cs hg (by rw [hi, ← hl']) (by rw [hl, hl']) h1 ?_
  rw [hN]
  exact h _ (setRow_heap W b cs cs' t' _ hg) (fun k hk => setRow_other W b k _ hk) (fun n0 w0 hb hn => below_setRow hb hn _)
end
theorem Kd.R_hot {α : Type} {d : Kd α} {e base g t : Nat} {ok : Nat → Prop} {w w' : World} {v : Value} {xs : List α} {cells : Array Value} (h : d.R e w base ok v xs) (hb : w.heap[g]? = some (.cells cells t (0, 0))) (ht : ∀ q, q ∈ e :: d.E → q ≠ t) (hot : ∀ k, k ≠ g → w'.heap[k]? = w.heap[k]?) : d.R e w' base ok v xs :=
  Kd.R_mono (Kd.R_step (Kd.R_types h hb ht) (fun k hk _ => hot k hk.2)) (fun _ hk => hk.1)
/-! Trees of the call's own: a word, or two trees, behind a pointer to a struct of three cells. -/
inductive Tr where
  | leaf (l : List Int)
  | node (s t : Tr)
/-- The tree lies at block b (type T; its words' rows: type e); all its blocks are n or later. -/
def TrAt (T e n : Nat) (w : World) : Tr → Nat → Prop
  | .leaf l, b => n ≤ b ∧ ∃ v, ArrW w b T [v, .pointer none, .pointer none] ∧ Kd.R (Kd.int .i64) e w n (fun _ => True) v l
  | .node s t, b => n ≤ b ∧ ∃ p q, ArrW w b T [.slice none 0 0, .pointer (some ⟨p, 0, none⟩), .pointer (some ⟨q, 0, none⟩)] ∧ TrAt T e n w s p ∧ TrAt T e n w t q
theorem TrAt.below {T e n : Nat} {w w' : World} (hb : Below w.heap.size w w') : ∀ {t : Tr} {b : Nat}, TrAt T e n w t b → TrAt T e n w' t b
  | .leaf _, _, ⟨h0, v, h1, h2⟩ => ⟨h0, v, h1.below hb, Kd.R_below h2 hb⟩
  | .node _ _, _, ⟨h0, p, q, h1, h2, h3⟩ => ⟨h0, p, q, h1.below hb, TrAt.below hb h2, TrAt.below hb h3⟩
theorem TrAt.lower {T e n m : Nat} {w : World} (hm : m ≤ n) : ∀ {t : Tr} {b : Nat}, TrAt T e n w t b → TrAt T e m w t b
  | .leaf _, _, ⟨h0, v, h1, h2⟩ => ⟨Nat.le_trans hm h0, v, h1, Kd.R_lower h2 hm⟩
  | .node _ _, _, ⟨h0, p, q, h1, h2, h3⟩ => ⟨Nat.le_trans hm h0, p, q, h1, TrAt.lower hm h2, TrAt.lower hm h3⟩
theorem TrAt.far {T e n : Nat} {w : World} {a : Addr} {u : Value} (ha : a.block < n) : ∀ {t : Tr} {b : Nat}, TrAt T e n w t b → TrAt T e n (w.setCell a u) t b
  | .leaf _, b, ⟨h0, v, h1, h2⟩ => ⟨h0, v, h1.other a u (by omega), Kd.R_mono (Kd.R_far (Kd.R_bound h2) (fun k hk => by have := hk.2.1; omega) u) (fun _ _ => trivial)⟩
  | .node _ _, b, ⟨h0, p, q, h1, h2, h3⟩ => ⟨h0, p, q, h1.other a u (by omega), TrAt.far ha h2, TrAt.far ha h3⟩

end Go.Proofs.Ytlojkjkbocfmfaa.P
