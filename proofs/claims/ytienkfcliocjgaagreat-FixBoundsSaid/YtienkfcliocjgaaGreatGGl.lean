/- The walks of fix.bounds, fix.Bounds and fix.Center. -/
import Derived.Deep.RegionHeld3
import Derived.Deep.DeepCutAuto
import Derived.Test.YtienkfcliocjgaaGreatGGj
import Derived.Test.YtienkfcliocjgaaGreatGRin
import Derived.Test.YtienkfcliocjgaaGreatGGh
import Derived.Test.YtienkfcliocjgaaGreatGHk
set_option linter.unusedVariables false
set_option linter.unusedSimpArgs false
/- The walks of the reference's Meet and Touch. -/
namespace Go.Proofs.YtienkfcliocjgaaGreat
open Go.RowKit
theorem K4.drew {W : World} {g : Nat} {a b c d : Int} (h : K4 W g a b c d) : K4 W.drew g a b c d := h.below (bl_drew (Below.refl _ _)) h.lt
theorem K4.far {W : World} {g : Nat} {a b c d : Int} (h : K4 W g a b c d) {p : Addr} (hp : g ≠ p.block) (u : Value) : K4 (W.setCell p u) g a b c d := by
  have hne : ∀ i, p ≠ (⟨g, i, none⟩ : Addr) := fun i e => hp (by rw [e])
  refine ⟨by simpa using h.lt, ?_, ?_, ?_, ?_, ?_, ?_, ?_, ?_⟩
  · rw [World.cell?_setCell_other _ _ _ _ (hne 0)]; exact h.c0
  · rw [World.cell?_setCell_other _ _ _ _ (hne 1)]; exact h.c1
  · rw [World.cell?_setCell_other _ _ _ _ (hne 2)]; exact h.c2
  · rw [World.cell?_setCell_other _ _ _ _ (hne 3)]; exact h.c3
  · rw [World.frozen?_setCell]; exact h.f0
  · rw [World.frozen?_setCell]; exact h.f1
  · rw [World.frozen?_setCell]; exact h.f2
  · rw [World.frozen?_setCell]; exact h.f3
theorem K4.far4 {W : World} {g g' : Nat} {a b c d : Int} (h : K4 W g a b c d) (hp : g ≠ g') {x y z u : Value} : K4 ((((W.setCell ⟨g', 0, none⟩ x).setCell ⟨g', 1, none⟩ y).setCell ⟨g', 2, none⟩ z).setCell ⟨g', 3, none⟩ u) g a b c d :=
  (((h.far (p := ⟨g', 0, none⟩) hp x).far (p := ⟨g', 1, none⟩) hp y).far (p := ⟨g', 2, none⟩) hp z).far (p := ⟨g', 3, none⟩) hp u
theorem K4.set4 {W : World} {g : Nat} {a b c d : Int} (h : K4 W g a b c d) (x y z u : Int) : K4 ((((W.setCell ⟨g, 0, none⟩ (.int .i64 x)).setCell ⟨g, 1, none⟩ (.int .i64 y)).setCell ⟨g, 2, none⟩ (.int .i64 z)).setCell ⟨g, 3, none⟩ (.int .i64 u)) g x y z u := by
  have e0 := h.c0; have e1 := h.c1; have e2 := h.c2; have e3 := h.c3
  have o : ∀ (V : World) (i j : Nat) (v : Value), i ≠ j → (V.setCell ⟨g, i, none⟩ v).cell? ⟨g, j, none⟩ = V.cell? ⟨g, j, none⟩ := fun V i j v hij => World.cell?_setCell_other _ _ _ _ (fun e => hij (by injection e))
  refine ⟨by simpa using h.lt, ?_, ?_, ?_, ?_, ?_, ?_, ?_, ?_⟩
  · rw [o _ 3 0 _ (by decide), o _ 2 0 _ (by decide), o _ 1 0 _ (by decide)]; exact World.cell?_setCell_same _ _ _ e0
  · rw [o _ 3 1 _ (by decide), o _ 2 1 _ (by decide)]; exact World.cell?_setCell_same _ _ _ (by rw [o _ 0 1 _ (by decide)]; exact e1)
  · rw [o _ 3 2 _ (by decide)]; exact World.cell?_setCell_same _ _ _ (by rw [o _ 1 2 _ (by decide), o _ 0 2 _ (by decide)]; exact e2)
  · exact World.cell?_setCell_same _ _ _ (by rw [o _ 2 3 _ (by decide), o _ 1 3 _ (by decide), o _ 0 3 _ (by decide)]; exact e3)
  · rw [World.frozen?_setCell, World.frozen?_setCell, World.frozen?_setCell, World.frozen?_setCell]; exact h.f0
  · rw [World.frozen?_setCell, World.frozen?_setCell, World.frozen?_setCell, World.frozen?_setCell]; exact h.f1
  · rw [World.frozen?_setCell, World.frozen?_setCell, World.frozen?_setCell, World.frozen?_setCell]; exact h.f2
  · rw [World.frozen?_setCell, World.frozen?_setCell, World.frozen?_setCell, World.frozen?_setCell]; exact h.f3
theorem bl_put4 {B : Nat} {a w : World} {g : Nat} {x y z u : Value} (h : Below B a w) (hg : B ≤ g) : Below B a ((((w.setCell ⟨g, 0, none⟩ x).setCell ⟨g, 1, none⟩ y).setCell ⟨g, 2, none⟩ z).setCell ⟨g, 3, none⟩ u) := (((h.setCell hg _).setCell hg _).setCell hg _).setCell hg _
/-- two places in blocks of their own, while a region's operations come up in whatever order -/
structure TI (W2 w : World) (L : Nat → Bool) (g5 g6 : Nat) (a0 a1 a2 a3 b0 b1 b2 b3 : Int) : Prop where
  bl : Below W2.heap.size W2 w
  d6 : L 6 = true → L 4 = true
  d7 : L 7 = true → L 5 = true
  lo5 : L 4 = true → W2.heap.size ≤ g5
  lo6 : L 5 = true → W2.heap.size ≤ g6
  z5 : L 4 = true → L 6 = false → K4 w g5 0 0 0 0
  z6 : L 5 = true → L 7 = false → K4 w g6 0 0 0 0
  k5 : L 6 = true → K4 w g5 a0 a1 a2 a3
  k6 : L 7 = true → K4 w g6 b0 b1 b2 b3
  ne : L 4 = true → L 5 = true → g5 ≠ g6
section
variable {W2 w w' : World} {L : Nat → Bool} {g5 g6 : Nat} {a0 a1 a2 a3 b0 b1 b2 b3 : Int}
theorem TI.call (h : TI W2 w L g5 g6 a0 a1 a2 a3 b0 b1 b2 b3) (hb : Below w.heap.size w w') : TI W2 w' L g5 g6 a0 a1 a2 a3 b0 b1 b2 b3 :=
  ⟨h.bl.trans (hb.mono h.bl.size), h.d6, h.d7, h.lo5, h.lo6, fun p q => (h.z5 p q).below hb (h.z5 p q).lt, fun p q => (h.z6 p q).below hb (h.z6 p q).lt, fun p => (h.k5 p).below hb (h.k5 p).lt, fun p => (h.k6 p).below hb (h.k6 p).lt, h.ne⟩
theorem TI.mark (h : TI W2 w L g5 g6 a0 a1 a2 a3 b0 b1 b2 b3) (i : Nat) (hi : i < 4) : TI W2 w (mkd L i) g5 g6 a0 a1 a2 a3 b0 b1 b2 b3 := by
  have e4 : ¬ 4 = i := by omega
  have e5 : ¬ 5 = i := by omega
  have e6 : ¬ 6 = i := by omega
  have e7 : ¬ 7 = i := by omega
  constructor
  · exact h.bl
  all_goals simp only [mkd_ne e4, mkd_ne e5, mkd_ne e6, mkd_ne e7]
  · exact h.d6
  · exact h.d7
  · exact h.lo5
  · exact h.lo6
  · exact h.z5
  · exact h.z6
  · exact h.k5
  · exact h.k6
  · exact h.ne
theorem TI.l5 (h : TI W2 w L g5 g6 a0 a1 a2 a3 b0 b1 b2 b3) (h5 : L 4 = true) : g5 < w.heap.size := by
  cases e : L 6 with
  | false => exact (h.z5 h5 e).lt
  | true => exact (h.k5 e).lt
theorem TI.l6 (h : TI W2 w L g5 g6 a0 a1 a2 a3 b0 b1 b2 b3) (h5 : L 5 = true) : g6 < w.heap.size := by
  cases e : L 7 with
  | false => exact (h.z6 h5 e).lt
  | true => exact (h.k6 e).lt
theorem TI.al5 (h : TI W2 w L g5 g6 a0 a1 a2 a3 b0 b1 b2 b3) (h4 : L 4 = false) (t : TypeId) : TI W2 (w.alloc (.cells #[.int .i64 0, .int .i64 0, .int .i64 0, .int .i64 0] t)) (mkd L 4) w.heap.size g6 a0 a1 a2 a3 b0 b1 b2 b3 := by
  have c := h.call (bl_alloc w (.cells #[.int .i64 0, .int .i64 0, .int .i64 0, .int .i64 0] t))
  have n6 : L 6 = false := by
    cases e : L 6 with
    | false => rfl
    | true => rw [h.d6 e] at h4; cases h4
  constructor
  · exact c.bl
  all_goals simp only [mkd_same, mkd_ne (by decide : ¬ 5 = 4), mkd_ne (by decide : ¬ 6 = 4), mkd_ne (by decide : ¬ 7 = 4)]
  · exact fun _ => trivial
  · exact c.d7
  · exact fun _ => h.bl.size
  · exact c.lo6
  · exact fun _ _ => K4.new w 0 0 0 0 t
  · exact c.z6
  · intro p; rw [n6] at p; cases p
  · exact c.k6
  · intro _ p; have := h.l6 p; omega
theorem TI.al6 (h : TI W2 w L g5 g6 a0 a1 a2 a3 b0 b1 b2 b3) (h4 : L 5 = false) (t : TypeId) : TI W2 (w.alloc (.cells #[.int .i64 0, .int .i64 0, .int .i64 0, .int .i64 0] t)) (mkd L 5) g5 w.heap.size a0 a1 a2 a3 b0 b1 b2 b3 := by
  have c := h.call (bl_alloc w (.cells #[.int .i64 0, .int .i64 0, .int .i64 0, .int .i64 0] t))
  have n7 : L 7 = false := by
    cases e : L 7 with
    | false => rfl
    | true => rw [h.d7 e] at h4; cases h4
  constructor
  · exact c.bl
  all_goals simp only [mkd_same, mkd_ne (by decide : ¬ 4 = 5), mkd_ne (by decide : ¬ 6 = 5), mkd_ne (by decide : ¬ 7 = 5)]
  · exact c.d6
  · exact fun _ => trivial
  · exact c.lo5
  · exact fun _ => h.bl.size
  · exact c.z5
  · exact fun _ _ => K4.new w 0 0 0 0 t
  · exact c.k5
  · intro p; rw [n7] at p; cases p
  · intro p _; have := h.l5 p; omega
theorem TI.st5 (h : TI W2 w L g5 g6 a0 a1 a2 a3 b0 b1 b2 b3) (h4 : L 4 = true) (h6 : L 6 = false) : TI W2 ((((w.setCell ⟨g5, 0, none⟩ (.int .i64 a0)).setCell ⟨g5, 1, none⟩ (.int .i64 a1)).setCell ⟨g5, 2, none⟩ (.int .i64 a2)).setCell ⟨g5, 3, none⟩ (.int .i64 a3)) (mkd L 6) g5 g6 a0 a1 a2 a3 b0 b1 b2 b3 := by
  have hg := h.lo5 h4
  have z := h.z5 h4 h6
  constructor
  · exact bl_put4 h.bl hg
  all_goals simp only [mkd_same, mkd_ne (by decide : ¬ 4 = 6), mkd_ne (by decide : ¬ 5 = 6), mkd_ne (by decide : ¬ 7 = 6)]
  · exact fun _ => h4
  · exact h.d7
  · exact h.lo5
  · exact h.lo6
  · intro _ p; cases p
  · intro p q; have := h.ne h4 p; exact K4.far4 (h.z6 p q) (by omega)
  · exact fun _ => z.set4 a0 a1 a2 a3
  · intro p; have := h.ne h4 (h.d7 p); exact K4.far4 (h.k6 p) (by omega)
  · exact h.ne
theorem TI.st6 (h : TI W2 w L g5 g6 a0 a1 a2 a3 b0 b1 b2 b3) (h4 : L 5 = true) (h6 : L 7 = false) : TI W2 ((((w.setCell ⟨g6, 0, none⟩ (.int .i64 b0)).setCell ⟨g6, 1, none⟩ (.int .i64 b1)).setCell ⟨g6, 2, none⟩ (.int .i64 b2)).setCell ⟨g6, 3, none⟩ (.int .i64 b3)) (mkd L 7) g5 g6 a0 a1 a2 a3 b0 b1 b2 b3 := by
  have hg := h.lo6 h4
  have z := h.z6 h4 h6
  constructor
  · exact bl_put4 h.bl hg
  all_goals simp only [mkd_same, mkd_ne (by decide : ¬ 4 = 7), mkd_ne (by decide : ¬ 5 = 7), mkd_ne (by decide : ¬ 6 = 7)]
  · exact h.d6
  · exact fun _ => h4
  · exact h.lo5
  · exact h.lo6
  · intro p q; have := h.ne p h4; exact K4.far4 (h.z5 p q) this
  · intro _ p; cases p
  · intro p; have := h.ne (h.d6 p) h4; exact K4.far4 (h.k5 p) this
  · exact fun _ => z.set4 b0 b1 b2 b3
  · exact h.ne
end
/-- the state of the region of Touch in which both boxes are made -/
def TInv (W2 : World) (l r c l' r' c' a0 a1 a2 a3 b0 b1 b2 b3 : Int) (a : Act) (L : Nat → Bool) (a' : Act) (w' : World) : Prop :=
  ∃ (v9 v10 v11 v12 v5 v6 : Value) (g5 g6 : Nat), a' = (((((a.put (some 9) v9).put (some 10) v10).put (some 11) v11).put (some 12) v12).put (some 5) v5).put (some 6) v6 ∧ TI W2 w' L g5 g6 a0 a1 a2 a3 b0 b1 b2 b3 ∧
    (L 0 = true → v9 = .agg #[.int .i64 l, .int .i64 r, .int .i64 c]) ∧ (L 1 = true → v10 = .agg #[.int .i64 a0, .int .i64 a1, .int .i64 a2, .int .i64 a3]) ∧ (L 2 = true → v11 = .agg #[.int .i64 l', .int .i64 r', .int .i64 c']) ∧ (L 3 = true → v12 = .agg #[.int .i64 b0, .int .i64 b1, .int .i64 b2, .int .i64 b3]) ∧ (L 4 = true → v5 = .pointer (some ⟨g5, 0, none⟩)) ∧ (L 5 = true → v6 = .pointer (some ⟨g6, 0, none⟩))
end Go.Proofs.YtienkfcliocjgaaGreat
/- Words for the walk of the reference's Parts: the row of the parts' numbers, the state of the search. -/
namespace Go.Proofs.YtienkfcliocjgaaGreat
open Go.RowKit
namespace PQ
/-- the parts whose least members are among the first things, whole -/
def prtR (c : Nat → Nat) (n i : Nat) : List (List Nat) := (ldr c i).map fun r => (List.range n).filter (fun j => c j = r)
theorem prtR_new {c : Nat → Nat} {n i : Nat} (hi : c i = i) : prtR c n (i + 1) = prtR c n i ++ [(List.range n).filter (fun j => c j = i)] := by
  unfold prtR; rw [ldr_succ, if_pos hi, List.map_append]; rfl
theorem prtR_old {c : Nat → Nat} {n i : Nat} (hi : c i ≠ i) : prtR c n (i + 1) = prtR c n i := by
  unfold prtR; rw [ldr_succ, if_neg hi]
theorem prtR_all (c : Nat → Nat) (n : Nat) : prtR c n n = prtI c n := rfl
theorem prtR_len (c : Nat → Nat) (n i : Nat) : (prtR c n i).length = rnk c i := by unfold prtR; rw [List.length_map, ldr_length]
theorem rnk_le (c : Nat → Nat) (i : Nat) : rnk c i ≤ i := by unfold rnk; exact Nat.le_trans (List.length_filter_le _ _) (by simp)
theorem unm_le (pt : Nat → Nat) (n : Nat) : unm pt n ≤ n := by unfold unm; exact Nat.le_trans (List.length_filter_le _ _) (by simp)
end PQ
/-- a row of numbers that stands in one block -/
structure PtAt (W : World) (g n : Nat) (f : Nat → Nat) : Prop where
  cell : ∀ j, j < n → W.cell? ⟨g, j, none⟩ = some (.int .i64 (f j))
  fr : ∀ j, j < n → W.frozen? ⟨g, j, none⟩ = false
  lt : g < W.heap.size
section
variable {W W' : World} {g n : Nat} {f f' : Nat → Nat}
theorem PtAt.set (h : PtAt W g n f) (j v : Nat) (hj : j < n) : PtAt (W.setCell ⟨g, j, none⟩ (.int .i64 v)) g n (PQ.upd f j v) := by
  refine ⟨fun k hk => ?_, fun k hk => by simpa using h.fr k hk, by simpa using h.lt⟩
  unfold PQ.upd
  by_cases e : k = j
  · subst e
    rw [if_pos rfl]
    exact World.cell?_setCell_same _ _ _ (h.cell k hk)
  · rw [if_neg e, World.cell?_setCell_other _ _ _ _ (fun e' => e (by injection e' with _ e2; exact e2.symm))]
    exact h.cell k hk
theorem PtAt.below {B : Nat} (h : PtAt W g n f) (hb : Below B W W') (hg : g < B) : PtAt W' g n f :=
  ⟨fun j hj => (hb.cell (p := ⟨g, j, none⟩) hg).trans (h.cell j hj), fun j hj => (hb.frozen (p := ⟨g, j, none⟩) hg).trans (h.fr j hj), Nat.lt_of_lt_of_le h.lt hb.size⟩
theorem PtAt.congr (h : PtAt W g n f) (he : ∀ j, j < n → f j = f' j) : PtAt W g n f' :=
  ⟨fun j hj => by rw [← he j hj]; exact h.cell j hj, h.fr, h.lt⟩
theorem PtAt.made (w : World) (n : Nat) (t : TypeId) : PtAt (w.alloc (.cells (madeCells #[.int .i64 0] n) t)) w.heap.size n (fun _ => 0) := by
  refine ⟨fun j hj => ?_, fun j hj => Blk.frozen (Blk.new w t (madeCells #[.int .i64 0] n)) j, by simp⟩
  rw [Blk.cell (Blk.new w t (madeCells #[.int .i64 0] n)) j]
  simp [madeCells, hj, Nat.mod_one]
end
theorem grown_bl {w1 W W' : World} {B : Nat} {row : Option Nat} (h : w1.grownBy W row) (hb : Below B W W') (hB : w1.heap.size ≤ B) : w1.grownBy W' row :=
  ⟨hb.os.trans h.os, hb.tape.trans h.tape, hb.output.trans h.output, Nat.le_trans h.size hb.size, fun k hk hr => (hb.block k (by omega)).trans (h.block k hk hr)⟩
theorem grown_set2 {w1 W : World} {g o : Nat} {v : Value} (h : w1.grownBy W (some g)) : w1.grownBy (W.setCell ⟨g, o, none⟩ v) (some g) :=
  ⟨h.os, h.tape, h.output, by simpa using h.size, fun k hk hr => (Below.heap_setCell _ _ _ k (fun e => hr (by rw [e]))).trans (h.block k hk hr)⟩
/-- the state of the search for one part -/
structure SSt (w1 W : World) (g n : Nat) (c : Nat → Nat) (t : Nat → Nat → Bool) (i : Nat) (pt : Nat → Nat) (A : Option Addr) (nT cT : Nat) (T : List Nat) (k m : Nat) : Prop where
  row : PtAt W g n pt
  q : Que W w1.heap.size A nT cT T
  g : w1.grownBy W (some g)
  fl : PQ.Fl c t n i pt T k m
section
variable {w1 W W' : World} {g n : Nat} {c : Nat → Nat} {t : Nat → Nat → Bool} {i : Nat} {pt : Nat → Nat} {A : Option Addr} {nT cT : Nat} {T : List Nat} {k m : Nat}
theorem SSt.bl (h : SSt w1 W g n c t i pt A nT cT T k m) (hb : Below W.heap.size W W') : SSt w1 W' g n c t i pt A nT cT T k m :=
  ⟨h.row.below hb h.row.lt, h.q.bl hb, grown_bl h.g hb h.g.size, h.fl⟩
theorem SSt.no (h : SSt w1 W g n c t i pt A nT cT T k m) (hm : ¬ (pt m = 0 ∧ t k m = true)) : SSt w1 W g n c t i pt A nT cT T k (m + 1) := ⟨h.row, h.q, h.g, h.fl.no hm⟩
end
end Go.Proofs.YtienkfcliocjgaaGreat
namespace Go.Proofs.YtienkfcliocjgaaGreat
open Go.RowKit
theorem K4.two {W : World} {g : Nat} {a b c d : Int} (h : K4 W g a b c d) (x y : Int) : K4 ((W.setCell ⟨g, 0, none⟩ (.int .i64 x)).setCell ⟨g, 1, none⟩ (.int .i64 y)) g x y c d := by
  have o : ∀ (V : World) (i j : Nat) (v : Value), i ≠ j → (V.setCell ⟨g, i, none⟩ v).cell? ⟨g, j, none⟩ = V.cell? ⟨g, j, none⟩ := fun V i j v hij => World.cell?_setCell_other _ _ _ _ (fun e => hij (by injection e))
  refine ⟨by simpa using h.lt, ?_, ?_, ?_, ?_, ?_, ?_, ?_, ?_⟩
  · rw [o _ 1 0 _ (by decide)]; exact World.cell?_setCell_same _ _ _ h.c0
  · exact World.cell?_setCell_same _ _ _ (by rw [o _ 0 1 _ (by decide)]; exact h.c1)
  · rw [o _ 1 2 _ (by decide), o _ 0 2 _ (by decide)]; exact h.c2
  · rw [o _ 1 3 _ (by decide), o _ 0 3 _ (by decide)]; exact h.c3
  · rw [World.frozen?_setCell, World.frozen?_setCell]; exact h.f0
  · rw [World.frozen?_setCell, World.frozen?_setCell]; exact h.f1
  · rw [World.frozen?_setCell, World.frozen?_setCell]; exact h.f2
  · rw [World.frozen?_setCell, World.frozen?_setCell]; exact h.f3
theorem K4.two' {W : World} {g : Nat} {a b c d : Int} (h : K4 W g a b c d) (x y : Int) : K4 ((W.setCell ⟨g, 2, none⟩ (.int .i64 x)).setCell ⟨g, 3, none⟩ (.int .i64 y)) g a b x y := by
  have o : ∀ (V : World) (i j : Nat) (v : Value), i ≠ j → (V.setCell ⟨g, i, none⟩ v).cell? ⟨g, j, none⟩ = V.cell? ⟨g, j, none⟩ := fun V i j v hij => World.cell?_setCell_other _ _ _ _ (fun e => hij (by injection e))
  refine ⟨by simpa using h.lt, ?_, ?_, ?_, ?_, ?_, ?_, ?_, ?_⟩
  · rw [o _ 3 0 _ (by decide), o _ 2 0 _ (by decide)]; exact h.c0
  · rw [o _ 3 1 _ (by decide), o _ 2 1 _ (by decide)]; exact h.c1
  · rw [o _ 3 2 _ (by decide)]; exact World.cell?_setCell_same _ _ _ h.c2
  · exact World.cell?_setCell_same _ _ _ (by rw [o _ 2 3 _ (by decide)]; exact h.c3)
  · rw [World.frozen?_setCell, World.frozen?_setCell]; exact h.f0
  · rw [World.frozen?_setCell, World.frozen?_setCell]; exact h.f1
  · rw [World.frozen?_setCell, World.frozen?_setCell]; exact h.f2
  · rw [World.frozen?_setCell, World.frozen?_setCell]; exact h.f3
theorem K4.farB {W : World} {g : Nat} {a b c d : Int} (h : K4 W g a b c d) {p : Addr} (hp : g ≠ p.block) (u : Value) : K4 (W.setCell p u) g a b c d := by
  have hne : ∀ i, p ≠ (⟨g, i, none⟩ : Addr) := fun i e => hp (by rw [e])
  refine ⟨by simpa using h.lt, ?_, ?_, ?_, ?_, ?_, ?_, ?_, ?_⟩
  · rw [World.cell?_setCell_other _ _ _ _ (hne 0)]; exact h.c0
  · rw [World.cell?_setCell_other _ _ _ _ (hne 1)]; exact h.c1
  · rw [World.cell?_setCell_other _ _ _ _ (hne 2)]; exact h.c2
  · rw [World.cell?_setCell_other _ _ _ _ (hne 3)]; exact h.c3
  · rw [World.frozen?_setCell]; exact h.f0
  · rw [World.frozen?_setCell]; exact h.f1
  · rw [World.frozen?_setCell]; exact h.f2
  · rw [World.frozen?_setCell]; exact h.f3
theorem cell_put_same {W : World} {p : Addr} {v : Value} (h : W.cell? p = some v) (q : Addr) : (W.setCell p v).cell? q = W.cell? q := by
  by_cases e : p = q
  · subst e; rw [World.cell?_setCell_same _ _ _ h, h]
  · exact World.cell?_setCell_other _ _ _ _ e
set_option maxHeartbeats 4000000 in
set_option maxRecDepth 100000 in
/-- the bounds of one box -/
theorem fbounds_one (A : Option Addr) (c : Nat) (q0 q1 q2 q3 : Int) (w : World) (hr : Reads w w.heap.size 4 A 1 (bv (q0, q1, q2, q3))) (hD : OkA [(q2, q3)]) :
    Calls Tryz.prog 14 #[.slice A 1 c] w fun e w' => e = .returned (.agg #[.int .i64 q0, .int .i64 q1, .int .i64 (fS [(q2, q3)] 1).1.1, .int .i64 (fS [(q2, q3)] 1).1.2]) ∧ Below w.heap.size w w' := by
  have HD := Lib.hid hD
  obtain ⟨b, off, rfl, hb, x0, x1, x2, x3⟩ := BReads.elem (D := [(q0, q1, q2, q3)]) (by simpa [bvs, bv] using hr) (Nat.zero_lt_one)
  simp only [Nat.zero_mul, Nat.add_zero] at x0 x1 x2 x3
  replace x0 : w.cell? ⟨b, off, none⟩ = some (.int .i64 q0) := x0
  replace x1 : w.cell? ⟨b, off + 1, none⟩ = some (.int .i64 q1) := x1
  replace x2 : w.cell? ⟨b, off + 2, none⟩ = some (.int .i64 q2) := x2
  replace x3 : w.cell? ⟨b, off + 3, none⟩ = some (.int .i64 q3) := x3
  clear hr hD
  obtain ⟨iA, hiA, hzA, hz1A, hzbA⟩ : ∃ i0, Tryz.prog.info? 27 = some i0 ∧ i0.zero = some (.agg #[.int .i64 0, .int .i64 0]) ∧ i0.size = 2 ∧ i0.bytes = 16 := by
    have h : (Tryz.prog.info? 27).map (fun i => (i.zero, i.size, i.bytes)) = some (some (.agg #[.int .i64 0, .int .i64 0]), 2, 16) := by kernel_rfl
    obtain ⟨i0, a, b, c, d⟩ := info_parts h
    exact ⟨i0, a, b, c, d⟩
  obtain ⟨⟨r0, r1⟩, hRR⟩ : ∃ R, (fS [(q2, q3)] 1).1 = R := ⟨_, rfl⟩
  have HRR := Lib.hid hRR
  simp only [hRR]
  clear hRR
  have Z0 := Lib.hid ((K4.new w 0 0 0 0 29).alloc (.cells #[.int .i64 q0, .int .i64 q1, .int .i64 0, .int .i64 0] 29))
  have P0 := Lib.hid (K4.new (w.alloc (.cells #[.int .i64 0, .int .i64 0, .int .i64 0, .int .i64 0] 29)) q0 q1 0 0 29)
  have B0 := Lib.hid ((bl_alloc w (.cells #[.int .i64 0, .int .i64 0, .int .i64 0, .int .i64 0] 29)).alloc (by simp) (.cells #[.int .i64 q0, .int .i64 q1, .int .i64 0, .int .i64 0] 29))
  have X := Lib.hid (And.intro x0 (And.intro x1 (And.intro x2 x3)))
  go_enter Tryz.func14, Tryz.ntmps14
  go_wp2
  clear x0 x1 x2 x3
  go_loopw [4, 14] (fun s4 i wr => ∃ k : Nat, k ≤ 1 ∧ i = .int .i64 k ∧ wr.ownsRow (w.heap.size + 2) 27 2 s4 k (spvs ([(q2, q3)].take k)) ∧ K4 wr w.heap.size 0 0 0 0 ∧ K4 wr (w.heap.size + 1) q0 q1 0 0 ∧ Below w.heap.size w wr) (fun _ i _ => 1 - (intOf i).toNat)
  case atStart => exact ⟨0, Nat.zero_le _, rfl, own_nil _ _ _ _, Z0.out, by have := P0.out; rwa [show (w.alloc (.cells #[.int .i64 0, .int .i64 0, .int .i64 0, .int .i64 0] 29)).heap.size = w.heap.size + 1 from World.size_alloc _ _] at this, B0.out⟩
  case round =>
    obtain ⟨k, hk, rfl, hown, hZ, hP, hbl⟩ := hrel
    clear Z0 P0 B0
    have HOW := Lib.hid hown
    have HZ := Lib.hid hZ
    have HP := Lib.hid hP
    have HB := Lib.hid hbl
    clear hown hZ hP hbl
    by_cases hlt : k < 1
    · obtain rfl : k = 0 := by omega
      have y0 := (HB.out.cell (p := ⟨b, off, none⟩) hb).trans X.out.1
      have y1 := (HB.out.cell (p := ⟨b, off + 1, none⟩) hb).trans X.out.2.1
      have y2 := (HB.out.cell (p := ⟨b, off + 2, none⟩) hb).trans X.out.2.2.1
      have y3 := (HB.out.cell (p := ⟨b, off + 3, none⟩) hb).trans X.out.2.2.2
      have PW := Lib.hid (HP.out.alloc (.cells #[.int .i64 q0, .int .i64 q1, .int .i64 q2, .int .i64 q3] 29))
      have ZW := Lib.hid (HZ.out.alloc (.cells #[.int .i64 q0, .int .i64 q1, .int .i64 q2, .int .i64 q3] 29))
      have OW := Lib.hid (HOW.out.alloc (.cells #[.int .i64 q0, .int .i64 q1, .int .i64 q2, .int .i64 q3] 29))
      have hzw := HB.out.size
      have BW := Lib.hid (HB.out.alloc hzw (.cells #[.int .i64 q0, .int .i64 q1, .int .i64 q2, .int .i64 q3] 29))
      have NW := Lib.hid (K4.new wr q0 q1 q2 q3 29)
      have hlp := HP.out.lt
      go_upto_region 6 with (fail)
      clear y0 y1 y2 y3
      obtain ⟨WA, hWA⟩ : ∃ WA, wr.alloc (.cells #[.int .i64 q0, .int .i64 q1, .int .i64 q2, .int .i64 q3] 29) = WA := ⟨_, rfl⟩
      rw [hWA] at PW ZW OW BW NW ⊢
      have hzA : WA.heap.size = wr.heap.size + 1 := by rw [← hWA]; simp
      clear hWA HOW HZ HP HB
      have HZA := Lib.hid hzA
      generalize wr.heap.size = ga at *
      clear hzA
      have hn1 : ¬ ga = w.heap.size + 1 := by omega
      have hn2 : ¬ w.heap.size + 1 = ga := by omega
      obtain ⟨pt2, p0, p1, p2, p3, pf0, pf1, -, -⟩ := PW.out
      obtain ⟨nt2, a0, a1, a2, a3, -, -, -, -⟩ := NW.out
      have e1 := fun q => cell_put_same p0 q
      have e2 := fun q => (cell_put_same ((e1 _).trans p1) q).trans (e1 q)
      go_cut [14] from 14 to 41 (fun s14 wy => s14 = .int .i64 ((0 : Nat) : Int) ∧ wy = ((WA.setCell ⟨w.heap.size + 1, 0, none⟩ (.int .i64 q0)).setCell ⟨w.heap.size + 1, 1, none⟩ (.int .i64 q1)).drew)
      case first =>
        go_region_held3 (fun w' => w'.cell? ⟨ga, 0, none⟩ = some (.int .i64 q0) ∧ w'.cell? ⟨ga, 1, none⟩ = some (.int .i64 q1) ∧ w'.cell? ⟨w.heap.size + 1, 0, none⟩ = some (.int .i64 q0) ∧ w'.cell? ⟨w.heap.size + 1, 1, none⟩ = some (.int .i64 q1)) (simp [e1, e2, a0, a1, p0, p1]) (fail)
        all_goals
          try go_wp2_with fail
          go_meet
          case rel => exact ⟨rfl, rfl⟩
      case rest =>
        obtain ⟨rfl, rfl⟩ := hcut
        clear e1 e2 p0 p1 p2 p3 pf0 pf1 a0 a1 a2 a3 pt2 nt2
        have PX := Lib.hid ((PW.out.two q0 q1).below (bl_drew (Below.refl _ _)) (by simpa using PW.out.lt))
        have ZX := Lib.hid (((ZW.out.farB (p := ⟨w.heap.size + 1, 0, none⟩) (by simp only []; omega) (.int .i64 q0)).farB (p := ⟨w.heap.size + 1, 1, none⟩) (by simp only []; omega) (.int .i64 q1)).below (bl_drew (Below.refl _ _)) (by simpa using ZW.out.lt))
        have NX := Lib.hid (((NW.out.farB (p := ⟨w.heap.size + 1, 0, none⟩) hn1 (.int .i64 q0)).farB (p := ⟨w.heap.size + 1, 1, none⟩) hn1 (.int .i64 q1)).below (bl_drew (Below.refl _ _)) (by simpa using NW.out.lt))
        have BX := Lib.hid (bl_drew ((BW.out.setCell (p := ⟨w.heap.size + 1, 0, none⟩) (by simp) (.int .i64 q0)).setCell (p := ⟨w.heap.size + 1, 1, none⟩) (by simp) (.int .i64 q1)))
        have hzX : (((WA.setCell ⟨w.heap.size + 1, 0, none⟩ (.int .i64 q0)).setCell ⟨w.heap.size + 1, 1, none⟩ (.int .i64 q1)).drew).heap.size = ga + 1 := by simp; exact HZA.out
        have HZX := Lib.hid hzX
        have OX := Lib.hid (own_grown' OW.out (grown_bl (grown_set2 (o := 1) (v := .int .i64 q1) (grown_set2 (o := 0) (v := .int .i64 q0) (World.grownBy.refl WA (some (w.heap.size + 1))))) (bl_drew (Below.refl WA.heap.size _)) (Nat.le_refl _)) (fun q hq e => by have := own_base OW.out q hq; cases e; omega))
        clear hzX HZA PW ZW NW BW OW
        generalize ((WA.setCell ⟨w.heap.size + 1, 0, none⟩ (.int .i64 q0)).setCell ⟨w.heap.size + 1, 1, none⟩ (.int .i64 q1)).drew = WX at *
        obtain ⟨nt2, a0, a1, a2, a3, -, -, -, -⟩ := NX.out
        go_wp2_with (at_builtin; first
          | (refine wpList_append_any _ rfl (.tmp 36) (.tmp 39) _ rfl (w.heap.size + 2) 27 iA _ 2 16 Tryz.underlying56 hiA hzA hz1A hzbA rfl (by decide) _ 0 [] rfl (OX.out.alloc _) (WX.heap.size + 1) (some ⟨WX.heap.size, 0, none⟩) 1 1 [.int .i64 q2, .int .i64 q3] rfl ⟨rfl, fun _ => ⟨_, rfl, by simp, arc_cells WX (q2, q3) _⟩⟩ (by simp [Value.oneCell']) (by simp [maxLen]) (by omega) (by have := HZX.out; simp; omega) ?_; intro v7 w7 hown7 hg7 hat7)
          | fail)
        have hzz := HZX.out
        have b7 := ((bl_alloc WX (.cells #[.int .i64 q2, .int .i64 q3] 27)).mono (show w.heap.size + 2 ≤ WX.heap.size by omega)).grown hg7 (by simp; omega) (own_base OX.out)
        go_roundw
        case rel => exact ⟨1, Nat.le_refl _, by go_num, by simpa [spvs, spv] using hown7, ZX.out.below b7 (by omega), PX.out.below b7 (by omega), BX.out.trans (b7.mono (by omega))⟩
        case measure => simp [intOf]
    · obtain rfl : k = 1 := by omega
      obtain ⟨g, cap, hv, hg, hgl⟩ := own_some HOW.out (by decide)
      subst hv
      have HS : Hid (∀ j, j < [(q2, q3)].length → wr.cell? ⟨g, 0 + j * 2, none⟩ = some (.int .i64 (gs [(q2, q3)] j).1) ∧ wr.cell? ⟨g, 0 + j * 2 + 1, none⟩ = some (.int .i64 (gs [(q2, q3)] j).2)) := Lib.hid (fun j hj => by
        have hr := Reads.of_own HOW.out
        obtain ⟨b', off', e, -, z0, z1⟩ := SReads.elem (D := [(q2, q3)]) hr (k := j) (by simpa using hj)
        cases e
        exact ⟨z0, z1⟩)
      have KA := Lib.hid ((fAround_any g 0 1 cap [(q2, q3)] wr hgl HS.out rfl (by decide) (by decide) HD.out).mono (R' := fun e w' => e = .returned (.agg #[.int .i64 r0, .int .i64 r1]) ∧ Below wr.heap.size wr w') fun e w' ⟨D', hp, _, he, hb⟩ => by
        obtain rfl := List.perm_singleton.1 hp
        rw [HRR.out] at he
        exact ⟨he, hb⟩)
      clear HS
      go_wp2_with fail
      (with_reducible refine KA.out.mono ?_)
      rintro e w4 ⟨rfl, hb4⟩
      have P4 := Lib.hid (HP.out.below hb4 HP.out.lt)
      have Z4 := Lib.hid (HZ.out.below hb4 HZ.out.lt)
      have B4 := Lib.hid (HB.out.trans (hb4.mono HB.out.size))
      clear KA HP HZ HB HOW hb4
      obtain ⟨pt, p0, p1, p2, p3, pf0, pf1, pf2, pf3⟩ := P4.out
      have hn1 : ¬ w.heap.size = w.heap.size + 1 := by omega
      have hn2 : ¬ w.heap.size + 1 = w.heap.size := by omega
      obtain ⟨zt, z0, z1, z2, z3, zf0, zf1, zf2, zf3⟩ := Z4.out
      go_wp2
      refine bodyPost_ret (v := .agg #[.int .i64 q0, .int .i64 q1, .int .i64 r0, .int .i64 r1]) (by simp [results, Tryz.results14, go_sem, *]; done) rfl ⟨rfl, ?_⟩
      exact bl_put4 ((B4.out.setCell (by simp) _).setCell (by simp) _) (Nat.le_refl _)
end Go.Proofs.YtienkfcliocjgaaGreat
