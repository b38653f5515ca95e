/- Each call of a Go function named below comes to exactly the answers of the Lean function of its name, and a law row follows from its plain statement. No condition beyond those that each theorem states. -/
import Derived.Test.YtlojkjkbocfmfaaPx0
import Derived.Test.YtlojkjkbocfmfaaPx1
import Derived.Test.YtlojkjkbocfmfaaPx9
import Derived.Test.YtlojkjkbocfmfaaPx12
import Derived.Test.YtlojkjkbocfmfaaPx17
import Derived.Deep.RegionHeld3
namespace Go.Proofs.Ytlojkjkbocfmfaa.P
open Go.RowKit Go.Proofs.YtlojkjkbocfmfaaW.PrintWords Go.Proofs.YtlojkjkbocfmfaaW.PrintLast Go.Proofs.YtlojkjkbocfmfaaW.PrintMore
attribute [local go_sem] max2_int min2_int max_two min_two max_three min_three max_four min_four   -- for this text's walks alone
set_option linter.unusedVariables false
set_option linter.unusedSimpArgs false

/-! ### impl_SwapTree: function 28 -/
--@IMPORT Derived.Deep.RegionHeld3
def Tr.swap : Tr → Tr
  | .leaf l => .leaf l
  | .node a b => .node b a
def impl_SwapTree.f (k : Nat) (s : ByteArray) : Option (ByteArray × Bool) := (impl_treeOf.f k s).bind fun q => if q.2 = true then (if q.1.isLeaf = true then some (⟨#[]⟩, false) else (impl_tree_text.f k q.1.swap).bind fun x => some (x, true)) else some (⟨#[]⟩, false)
theorem impl_SwapTree.mono : ∀ s k, LeO (impl_SwapTree.f k s) (impl_SwapTree.f (k + 1) s) := fun s k => LeO.bind (impl_treeOf.mono s k) (fun q => LeO.ite (LeO.ite (LeO.refl _) (LeO.bind (impl_tree_text.mono q.1.swap k) (fun _ => LeO.refl _))) (LeO.refl _))
set_option maxHeartbeats 4000000 in
set_option maxRecDepth 100000 in
theorem impl_SwapTree.calls (k : Nat) (s : ByteArray) (r1 : ByteArray) (r2 : Bool) (w : World) (h : impl_SwapTree.f k s = some (r1, r2)) :
    Calls Try.prog 28 #[.string s] w fun e w' => e = .returned (.tuple #[.string r1, .bool r2]) ∧ Below w.heap.size w w' := by
  obtain ⟨⟨t, o⟩, ht, h2⟩ := Option.bind_eq_some_iff.1 h
  have HT := Aside0.mk (fun W => impl_treeOf.calls k s t o W ht)
  clear h ht
  cases o with
  | false =>
    obtain ⟨rfl, rfl⟩ : (⟨#[]⟩ : ByteArray) = r1 ∧ false = r2 := by simpa using h2
    clear h2
    go_enter Try.func28, Try.ntmps28
    go_wp2_with (go_at_call 43; refine (HT.out _).mono ?_; rintro e w1 ⟨v1, rfl, -, hb1⟩)
    go_ret2
    exact ⟨rfl, hb1⟩
  | true =>
    cases t with
    | leaf l =>
      obtain ⟨rfl, rfl⟩ : (⟨#[]⟩ : ByteArray) = r1 ∧ false = r2 := by simpa [Tr.isLeaf] using h2
      clear h2
      go_enter Try.func28, Try.ntmps28
      go_wp2_with (first
        | (go_at_call 43; refine (HT.out _).mono ?_; rintro e w1 ⟨v1, rfl, h1, hb1⟩; obtain ⟨b, rfl, ht1⟩ := h1 rfl; have HT1 := Aside0.mk ht1; have HB1 := Aside0.mk hb1; clear ht1 h1 hb1)
        | (go_at_call 47; refine (impl_tree_isLeaf.calls (.leaf l) _ b w1 HT1.out).mono ?_; rintro e w2 ⟨rfl, hw2⟩; rw [hw2, show Tr.isLeaf (.leaf l) = true from rfl]; clear hw2))
      go_ret2
      exact ⟨rfl, HB1.out⟩
    | node a d =>
      have h3 : ((impl_tree_text.f k (Tr.node d a)).bind fun x => some (x, true)) = some (r1, r2) := by simpa [Tr.isLeaf, Tr.swap] using h2
      obtain ⟨x, hx, h4⟩ := Option.bind_eq_some_iff.1 h3
      obtain ⟨rfl, rfl⟩ : x = r1 ∧ true = r2 := by simpa using h4
      have HX := Aside0.mk hx
      clear h2 h3 h4 hx
      go_enter Try.func28, Try.ntmps28
      go_wp2_with (first
        | (go_at_call 43; refine (HT.out _).mono ?_; rintro e w1 ⟨v1, rfl, h1, hb1⟩; obtain ⟨b, rfl, ht1⟩ := h1 rfl; have HT1 := Aside0.mk ht1; have HB1 := Aside0.mk hb1; clear ht1 h1 hb1)
        | (go_at_call 47; refine (impl_tree_isLeaf.calls (.node a d) _ b w1 HT1.out).mono ?_; rintro e w2 ⟨rfl, hw2⟩; rw [hw2, show Tr.isLeaf (.node a d) = false from rfl]; clear hw2))
      obtain ⟨-, p, q, c1, c2, c3⟩ := HT1.out
      have c4 := (c1.at 1 (.pointer (some ⟨p, 0, none⟩)) rfl).1
      have c5 := (c1.at 2 (.pointer (some ⟨q, 0, none⟩)) rfl).1
      have HTX : Aside0 (∀ W, Below w1.heap.size w1 W → Calls Try.prog 38 #[.pointer (some ⟨W.heap.size, 0, none⟩)] (W.alloc (.cells #[.slice none 0 0, .pointer (some ⟨q, 0, none⟩), .pointer (some ⟨p, 0, none⟩)] 60)) fun e w' => e = .returned (.string x) ∧ Below w1.heap.size w1 w') := ⟨fun W hB => by
        refine (impl_tree_text.calls k (.node d a) w.heap.size W.heap.size x _ ⟨Nat.le_trans HB1.out.size hB.size, q, p, ArrW.new W 60 [.slice none 0 0, .pointer (some ⟨q, 0, none⟩), .pointer (some ⟨p, 0, none⟩)], TrAt.below (below_alloc hB _) c3, TrAt.below (below_alloc hB _) c2⟩ HX.out).mono ?_
        rintro e w' ⟨rfl, h5⟩
        exact ⟨rfl, below_step (below_alloc hB _) h5⟩⟩
      clear c1 c2 c3
      go_region_held3 (fun w' => w'.cell? ⟨b, 1, none⟩ = some (.pointer (some ⟨p, 0, none⟩)) ∧ w'.cell? ⟨b, 2, none⟩ = some (.pointer (some ⟨q, 0, none⟩)) ∧ Below w1.heap.size w1 w') (first | assumption | exact ⟨by (first | assumption | (simp; assumption)), by (first | assumption | (simp; assumption)), below_drew (Below.refl _ _)⟩ | exact tr_kp (by assumption) (below_alloc (Below.refl _ _) _) | exact tr_kp ⟨c4, c5, Below.refl _ _⟩ hb') ((go_at_call 38; refine (HTX.out _ (by first | exact (below_drew (Below.refl _ _)) | exact And.right (And.right (by assumption)))).mono ?_; rintro e w' ⟨rfl, hb'⟩))
      all_goals
        rename_i hHeld_
        have HK := Aside0.mk hHeld_.2.2
        clear hHeld_
        go_wp2
        go_ret2
        exact ⟨rfl, below_step HB1.out HK.out⟩

end Go.Proofs.Ytlojkjkbocfmfaa.P
