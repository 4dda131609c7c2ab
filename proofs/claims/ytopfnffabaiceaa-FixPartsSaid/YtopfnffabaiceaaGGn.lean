/- Words for the walk of the reference's Parts: the row of the parts' numbers, the state of the search. -/
import Derived.Test.YtopfnffabaiceaaGGm
import Derived.Test.YtopfnffabaiceaaGGl
set_option linter.unusedVariables false
set_option linter.unusedSimpArgs false
namespace Go.Proofs.Ytopfnffabaiceaa
open Go.RowKit
namespace PQ
/-- the parts whose least members are among the first things, whole -/
def prtR (c : Nat → Nat) (n i : Nat) : List (List Nat) := (ldr c i).map fun r => (List.range n).filter (fun j => c j = r)
theorem prtR_new {c : Nat → Nat} {n i : Nat} (hi : c i = i) : prtR c n (i + 1) = prtR c n i ++ [(List.range n).filter (fun j => c j = i)] := by
  unfold prtR; rw [ldr_succ, if_pos hi, List.map_append]; rfl
theorem prtR_old {c : Nat → Nat} {n i : Nat} (hi : c i ≠ i) : prtR c n (i + 1) = prtR c n i := by
  unfold prtR; rw [ldr_succ, if_neg hi]
theorem prtR_all (c : Nat → Nat) (n : Nat) : prtR c n n = prtI c n := rfl
theorem prtR_len (c : Nat → Nat) (n i : Nat) : (prtR c n i).length = rnk c i := by unfold prtR; rw [List.length_map, ldr_length]
theorem rnk_le (c : Nat → Nat) (i : Nat) : rnk c i ≤ i := by unfold rnk; exact Nat.le_trans (List.length_filter_le _ _) (by simp)
theorem unm_le (pt : Nat → Nat) (n : Nat) : unm pt n ≤ n := by unfold unm; exact Nat.le_trans (List.length_filter_le _ _) (by simp)
end PQ
/-- a row of numbers that stands in one block -/
structure PtAt (W : World) (g n : Nat) (f : Nat → Nat) : Prop where
  cell : ∀ j, j < n → W.cell? ⟨g, j, none⟩ = some (.int .i64 (f j))
  fr : ∀ j, j < n → W.frozen? ⟨g, j, none⟩ = false
  lt : g < W.heap.size
section
variable {W W' : World} {g n : Nat} {f f' : Nat → Nat}
theorem PtAt.set (h : PtAt W g n f) (j v : Nat) (hj : j < n) : PtAt (W.setCell ⟨g, j, none⟩ (.int .i64 v)) g n (PQ.upd f j v) := by
  refine ⟨fun k hk => ?_, fun k hk => by simpa using h.fr k hk, by simpa using h.lt⟩
  unfold PQ.upd
  by_cases e : k = j
  · subst e
    rw [if_pos rfl]
    exact World.cell?_setCell_same _ _ _ (h.cell k hk)
  · rw [if_neg e, World.cell?_setCell_other _ _ _ _ (fun e' => e (by injection e' with _ e2; exact e2.symm))]
    exact h.cell k hk
theorem PtAt.below {B : Nat} (h : PtAt W g n f) (hb : Below B W W') (hg : g < B) : PtAt W' g n f :=
  ⟨fun j hj => (hb.cell (p := ⟨g, j, none⟩) hg).trans (h.cell j hj), fun j hj => (hb.frozen (p := ⟨g, j, none⟩) hg).trans (h.fr j hj), Nat.lt_of_lt_of_le h.lt hb.size⟩
theorem PtAt.congr (h : PtAt W g n f) (he : ∀ j, j < n → f j = f' j) : PtAt W g n f' :=
  ⟨fun j hj => by rw [← he j hj]; exact h.cell j hj, h.fr, h.lt⟩
theorem PtAt.made (w : World) (n : Nat) (t : TypeId) : PtAt (w.alloc (.cells (madeCells #[.int .i64 0] n) t)) w.heap.size n (fun _ => 0) := by
  refine ⟨fun j hj => ?_, fun j hj => Blk.frozen (Blk.new w t (madeCells #[.int .i64 0] n)) j, by simp⟩
  rw [Blk.cell (Blk.new w t (madeCells #[.int .i64 0] n)) j]
  simp [madeCells, hj, Nat.mod_one]
end
theorem grown_bl {w1 W W' : World} {B : Nat} {row : Option Nat} (h : w1.grownBy W row) (hb : Below B W W') (hB : w1.heap.size ≤ B) : w1.grownBy W' row :=
  ⟨hb.os.trans h.os, hb.tape.trans h.tape, hb.output.trans h.output, Nat.le_trans h.size hb.size, fun k hk hr => (hb.block k (by omega)).trans (h.block k hk hr)⟩
theorem grown_set2 {w1 W : World} {g o : Nat} {v : Value} (h : w1.grownBy W (some g)) : w1.grownBy (W.setCell ⟨g, o, none⟩ v) (some g) :=
  ⟨h.os, h.tape, h.output, by simpa using h.size, fun k hk hr => (Below.heap_setCell _ _ _ k (fun e => hr (by rw [e]))).trans (h.block k hk hr)⟩
/-- the state of the search for one part -/
structure SSt (w1 W : World) (g n : Nat) (c : Nat → Nat) (t : Nat → Nat → Bool) (i : Nat) (pt : Nat → Nat) (A : Option Addr) (nT cT : Nat) (T : List Nat) (k m : Nat) : Prop where
  row : PtAt W g n pt
  q : Que W w1.heap.size A nT cT T
  g : w1.grownBy W (some g)
  fl : PQ.Fl c t n i pt T k m
section
variable {w1 W W' : World} {g n : Nat} {c : Nat → Nat} {t : Nat → Nat → Bool} {i : Nat} {pt : Nat → Nat} {A : Option Addr} {nT cT : Nat} {T : List Nat} {k m : Nat}
theorem SSt.bl (h : SSt w1 W g n c t i pt A nT cT T k m) (hb : Below W.heap.size W W') : SSt w1 W' g n c t i pt A nT cT T k m :=
  ⟨h.row.below hb h.row.lt, h.q.bl hb, grown_bl h.g hb h.g.size, h.fl⟩
theorem SSt.no (h : SSt w1 W g n c t i pt A nT cT T k m) (hm : ¬ (pt m = 0 ∧ t k m = true)) : SSt w1 W g n c t i pt A nT cT T k (m + 1) := ⟨h.row, h.q, h.g, h.fl.no hm⟩
end
end Go.Proofs.Ytopfnffabaiceaa
