/- Words for the walk of CellsForms: blocks that are kept over calls; the cases of the point. -/
import Derived.Test.YtlglalemhfjmhaaAwake
namespace Go.Proofs.Ytlglalemhfjmhaa
open Go.RowKit
/-- the world W behind w0, with blocks that are known whole -/
def Env (w0 W : World) (bs : List (Nat × TypeId × Array Value)) : Prop := Below w0.heap.size w0 W ∧ ∀ b ∈ bs, Blk W b.1 b.2.1 b.2.2
theorem Env.start (w : World) : Env w w [] := ⟨Below.refl _ _, fun b h => by simp at h⟩
theorem Env.call {w0 W w' : World} {bs : List (Nat × TypeId × Array Value)} (h : Env w0 W bs) (hb : Below W.heap.size W w') : Env w0 w' bs :=
  ⟨h.1.trans (hb.mono h.1.size), fun b hm => (h.2 b hm).below hb (h.2 b hm).lt⟩
theorem Env.alloc {w0 W : World} {bs : List (Nat × TypeId × Array Value)} (h : Env w0 W bs) (t : TypeId) (cs : Array Value) (g : Nat) (hg : g = W.heap.size) : Env w0 (W.alloc (.cells cs t)) ((g, t, cs) :: bs) := by
  refine ⟨h.1.alloc h.1.size _, fun b hm => ?_⟩
  simp only [List.mem_cons] at hm
  rcases hm with rfl | hm
  · subst hg; exact Blk.new W t cs
  · exact (h.2 b hm).alloc _
theorem Env.bl {w0 W : World} {bs : List (Nat × TypeId × Array Value)} (h : Env w0 W bs) : Below w0.heap.size w0 W := h.1
theorem Env.drewN {w0 W : World} {bs : List (Nat × TypeId × Array Value)} (h : Env w0 W bs) (n : Nat) : Env w0 (W.drewN n) bs := ⟨bl_drewN h.1 n, fun b hm => (h.2 b hm).drewN n⟩
theorem Env.drew {w0 W : World} {bs : List (Nat × TypeId × Array Value)} (h : Env w0 W bs) : Env w0 W.drew bs := ⟨bl_drew h.1, fun b hm => (h.2 b hm).drew⟩
theorem Env.cell {w0 W : World} {bs : List (Nat × TypeId × Array Value)} (h : Env w0 W bs) {g : Nat} {t : TypeId} {cs : Array Value} (hm : (g, t, cs) ∈ bs) (i : Nat) : W.cell? ⟨g, i, none⟩ = cs[i]? := (h.2 _ hm).cell i
theorem Env.lt {w0 W : World} {bs : List (Nat × TypeId × Array Value)} (h : Env w0 W bs) {g : Nat} {t : TypeId} {cs : Array Value} (hm : (g, t, cs) ∈ bs) : g < W.heap.size := (h.2 _ hm).lt
theorem refValid_yes (l r c : Int) (hv : vldB l r c = true) (w : World) : Calls Try.prog 19 #[.agg #[.int .i64 l, .int .i64 r, .int .i64 c]] w fun e w' => e = .returned (.bool true) ∧ Below w.heap.size w w' := by
  rw [← hv]; exact refValid_any l r c w
theorem refValid_no (l r c : Int) (hv : vldB l r c = false) (w : World) : Calls Try.prog 19 #[.agg #[.int .i64 l, .int .i64 r, .int .i64 c]] w fun e w' => e = .returned (.bool false) ∧ Below w.heap.size w w' := by
  rw [← hv]; exact refValid_any l r c w
theorem refVpt_yes (a b : Int) (hv : vptB a b = true) (w : World) : Calls Try.prog 25 #[.agg #[.int .i64 a, .int .i64 b]] w fun e w' => e = .returned (.bool true) ∧ Below w.heap.size w w' := by
  rw [← hv]; exact refVpt_any a b w
theorem refVpt_no (a b : Int) (hv : vptB a b = false) (w : World) : Calls Try.prog 25 #[.agg #[.int .i64 a, .int .i64 b]] w fun e w' => e = .returned (.bool false) ∧ Below w.heap.size w w' := by
  rw [← hv]; exact refVpt_any a b w
/-- what Of and the reference do at a point and a level -/
def PtCase (a b l z2 z3 : Int) : Prop :=
  (Hid (∀ w, Calls Try.prog 23 #[.agg #[.int .i64 a, .int .i64 b], .int .i64 l] w fun e w' => e = .returned (.tuple #[.agg #[.int .i64 0, .int .i64 0, .int .i64 0], .int .i64 1]) ∧ Below w.heap.size w w') ∧
   Hid (∀ w, Calls Try.prog 25 #[.agg #[.int .i64 a, .int .i64 b]] w fun e w' => e = .returned (.bool false) ∧ Below w.heap.size w w')) ∨
  (Hid (∀ w, Calls Try.prog 23 #[.agg #[.int .i64 a, .int .i64 b], .int .i64 l] w fun e w' => e = .returned (.tuple #[.agg #[.int .i64 0, .int .i64 0, .int .i64 0], .int .i64 2]) ∧ Below w.heap.size w w') ∧
   Hid (∀ w, Calls Try.prog 25 #[.agg #[.int .i64 a, .int .i64 b]] w fun e w' => e = .returned (.bool true) ∧ Below w.heap.size w w') ∧ (l < 0 ∨ 16 < l)) ∨
  (Hid (∀ w, Calls Try.prog 23 #[.agg #[.int .i64 a, .int .i64 b], .int .i64 l] w fun e w' => e = .returned (.tuple #[.agg #[.int .i64 l, .int .i64 z2, .int .i64 z3], .int .i64 0]) ∧ Below w.heap.size w w') ∧
   Hid (∀ w, Calls Try.prog 25 #[.agg #[.int .i64 a, .int .i64 b]] w fun e w' => e = .returned (.bool true) ∧ Below w.heap.size w w') ∧
   Hid (∀ w, Calls Try.prog 26 #[.agg #[.int .i64 a, .int .i64 b], .int .i64 l] w fun e w' => e = .returned (.agg #[.int .i64 l, .int .i64 z2, .int .i64 z3]) ∧ Below w.heap.size w w') ∧ (0 ≤ l ∧ l ≤ 16))
theorem ptCase_any (a b l : Int) : ∃ z2 z3, PtCase a b l z2 z3 := by
  cases h : vptB a b with
  | false => exact ⟨0, 0, .inl ⟨fun w => Of_bad a b l w h, fun w => refVpt_no a b h w⟩⟩
  | true =>
    by_cases hl : 0 ≤ l ∧ l ≤ 16
    · exact ⟨_, _, .inr (.inr ⟨fun w => Of_yes a b l w h hl.1 hl.2, fun w => refVpt_yes a b h w, fun w => refOf_any a b l w h hl.1 hl.2, hl⟩)⟩
    · exact ⟨0, 0, .inr (.inl ⟨fun w => Of_range a b l w h (by omega), fun w => refVpt_yes a b h w, by omega⟩)⟩
end Go.Proofs.Ytlglalemhfjmhaa
