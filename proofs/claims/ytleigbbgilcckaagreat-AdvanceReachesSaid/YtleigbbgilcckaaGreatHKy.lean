/- A list of numbers that is taken from at its front and grows at its end: a slice at an offset. -/
import Derived.Deep.DeepCutAuto
import Derived.Deep.LoopGhost
import Derived.Deep.AppendSrc
import Derived.Test.YtleigbbgilcckaaGreatHGd
import Derived.Test.YtleigbbgilcckaaGreatHShelfT
import Derived.Test.YtleigbbgilcckaaGreatHWords
set_option linter.unusedVariables false
set_option linter.unusedSimpArgs false
namespace Go.Proofs.YtleigbbgilcckaaGreat
open Go.RowKit
set_option maxHeartbeats 2000000 in
theorem insideArc_any (x y u v : Int) (w : World) (ha : VL (x, y)) (hb : VL (u, v)) :
    Calls Tryz.prog 132 #[.agg #[.int .i64 x, .int .i64 y], .agg #[.int .i64 u, .int .i64 v]] w fun e w' => e = .returned (.bool (insA (x, y) (u, v))) ∧ Below w.heap.size w w' := by
  have oa : (x = -10800000 ∧ y = 10800000) ∨ (-10800000 ≤ x ∧ x < 10800000 ∧ x ≤ y ∧ y - x < 21600000) := ha
  have ob : (u = -10800000 ∧ v = 10800000) ∨ (-10800000 ≤ u ∧ u < 10800000 ∧ u ≤ v ∧ v - u < 21600000) := hb
  clear ha hb
  have K1 := fun W => all_any u v W
  have K2 := fun W => all_any x y W
  have K3 := Lib.hid (fun W => beyond_any u v x W (by omega) (by omega) (by omega) (by omega))
  obtain ⟨m, hm⟩ : ∃ m, (x - u) % 21600000 = m := ⟨_, rfl⟩
  have hm0 : 0 ≤ m ∧ m < 21600000 := by omega
  have hR : insA (x, y) (u, v) = (decide (u = -10800000 ∧ v = 10800000) || (!decide (x = -10800000 ∧ y = 10800000) && decide (m + y - x ≤ v - u))) := by unfold insA; rw [← hm]
  rw [hm] at K3
  rw [hR]
  clear hR hm
  by_cases h1 : u = -10800000 ∧ v = 10800000
  · have q : aeq u v (-10800000) 10800000 = true := by simp [aeq, h1]
    rw [q] at K1
    rw [decide_eq_true h1]
    clear q h1
    have K1 := Lib.hid K1
    go_enter Tryz.func132, Tryz.ntmps132
    go_wp2_with fail
    (with_reducible refine (K1.out _).mono ?_)
    rintro e w1 ⟨rfl, hb1⟩
    have hb1' := Lib.hid (two_bl hb1)
    clear hb1
    go_wp2
    go_ret
    exact ⟨rfl, hb1'.out⟩
  · have q : aeq u v (-10800000) 10800000 = false := by simp [aeq]; omega
    rw [q] at K1
    rw [decide_eq_false h1]
    clear q
    have H1 := Lib.hid h1
    clear h1
    have K1 := Lib.hid K1
    by_cases h2 : x = -10800000 ∧ y = 10800000
    · have q : aeq x y (-10800000) 10800000 = true := by simp [aeq, h2]
      rw [q] at K2
      rw [decide_eq_true h2]
      clear q h2
      have K2 := Lib.hid K2
      go_enter Tryz.func132, Tryz.ntmps132
      go_wp2_with fail
      (with_reducible refine (K1.out _).mono ?_)
      rintro e w1 ⟨rfl, hb1⟩
      have hb1' := two_bl hb1
      have hz1 := two_lt hb1
      have x0 := (hb1.cell (p := ⟨w.heap.size, 0, none⟩) (by simp; omega)).trans (show _ = some (.int .i64 x) by simp)
      have x1 := (hb1.cell (p := ⟨w.heap.size, 1, none⟩) (by simp; omega)).trans (show _ = some (.int .i64 y) by simp)
      have y0 := (hb1.cell (p := ⟨w.heap.size + 1, 0, none⟩) (by simp)).trans (show _ = some (.int .i64 u) by simp)
      have y1 := (hb1.cell (p := ⟨w.heap.size + 1, 1, none⟩) (by simp)).trans (show _ = some (.int .i64 v) by simp)
      clear hb1
      go_wp2_with fail
      (with_reducible refine (K2.out _).mono ?_)
      rintro e w2 ⟨rfl, hb2⟩
      have hb2' := Lib.hid (hb1'.trans (hb2.mono hb1'.size))
      clear hb2 hb1' x0 x1 y0 y1
      go_wp2
      go_ret
      exact ⟨rfl, hb2'.out⟩
    · have q : aeq x y (-10800000) 10800000 = false := by simp [aeq]; omega
      rw [q] at K2
      rw [decide_eq_false h2]
      clear q
      have H2 := Lib.hid h2
      clear h2
      have K2 := Lib.hid K2
      obtain ⟨K, hK⟩ : ∃ K, decide (m + y - x ≤ v - u) = K := ⟨_, rfl⟩
      rw [hK]
      go_enter Tryz.func132, Tryz.ntmps132
      go_wp2_with fail
      (with_reducible refine (K1.out _).mono ?_)
      rintro e w1 ⟨rfl, hb1⟩
      have hb1' := two_bl hb1
      have hz1 := two_lt hb1
      have x0 := (hb1.cell (p := ⟨w.heap.size, 0, none⟩) (by simp; omega)).trans (show _ = some (.int .i64 x) by simp)
      have x1 := (hb1.cell (p := ⟨w.heap.size, 1, none⟩) (by simp; omega)).trans (show _ = some (.int .i64 y) by simp)
      have y0 := (hb1.cell (p := ⟨w.heap.size + 1, 0, none⟩) (by simp)).trans (show _ = some (.int .i64 u) by simp)
      have y1 := (hb1.cell (p := ⟨w.heap.size + 1, 1, none⟩) (by simp)).trans (show _ = some (.int .i64 v) by simp)
      clear hb1
      go_wp2_with fail
      (with_reducible refine (K2.out _).mono ?_)
      rintro e w2 ⟨rfl, hb2⟩
      have hb2' := hb1'.trans (hb2.mono hb1'.size)
      have hz2 : w.heap.size + 1 < w2.heap.size := Nat.lt_of_lt_of_le hz1.2 hb2.size
      have x0 := (hb2.cell (p := ⟨w.heap.size, 0, none⟩) hz1.1).trans x0
      have x1 := (hb2.cell (p := ⟨w.heap.size, 1, none⟩) hz1.1).trans x1
      have y0 := (hb2.cell (p := ⟨w.heap.size + 1, 0, none⟩) hz1.2).trans y0
      have y1 := (hb2.cell (p := ⟨w.heap.size + 1, 1, none⟩) hz1.2).trans y1
      clear hb2 hb1' K1 K2 hz1
      go_upto_region 5 with fail
      have c0 : ∀ s : BV w2, s.w.cell? ⟨w.heap.size, 0, none⟩ = some (.int .i64 x) := fun s => (s.hb.cell (p := ⟨w.heap.size, 0, none⟩) (by simp only []; omega)).trans x0
      have c1 : ∀ s : BV w2, s.w.cell? ⟨w.heap.size, 1, none⟩ = some (.int .i64 y) := fun s => (s.hb.cell (p := ⟨w.heap.size, 1, none⟩) (by simp only []; omega)).trans x1
      have c2 : ∀ s : BV w2, s.w.cell? ⟨w.heap.size + 1, 0, none⟩ = some (.int .i64 u) := fun s => (s.hb.cell (p := ⟨w.heap.size + 1, 0, none⟩) hz2).trans y0
      have c3 : ∀ s : BV w2, s.w.cell? ⟨w.heap.size + 1, 1, none⟩ = some (.int .i64 v) := fun s => (s.hb.cell (p := ⟨w.heap.size + 1, 1, none⟩) hz2).trans y1
      have s1 : IntKind.i64.wrap (m + y) = m + y := IntWalk.i64_in _ (by omega)
      have s2 : IntKind.i64.wrap (m + y - x) = m + y - x := IntWalk.i64_in _ (by clear s1; omega)
      have s3 : IntKind.i64.wrap (v - u) = v - u := IntWalk.i64_in _ (by clear s1 s2; omega)
      clear x0 x1 y0 y1
      refine wp_region_bv w2 (by kernel_rfl) (by kernel_rfl) (Below.refl _ _) ?_
      (repeat (go_big_quiet_step (first | (go_at_call 99; with_reducible exact quiet_bv (K3.out _)) | fail)))
      refine wpQuiet_nil ?_
      intro w9 hb9
      clear c0 c1 c2 c3 s1 s2 s3
      go_wp2
      go_ret
      exact ⟨ret_bool (by first | rfl | (simp; done) | simp [hK]), hb2'.trans (hb9.mono hb2'.size)⟩
set_option maxHeartbeats 2000000 in
theorem placeInside_any (a0 a1 a2 a3 b0 b1 b2 b3 : Int) (w : World) (ha : VP (a0, a1, a2, a3)) (hb : VP (b0, b1, b2, b3)) :
    Calls Tryz.prog 103 #[.agg #[.int .i64 a0, .int .i64 a1, .int .i64 a2, .int .i64 a3], .agg #[.int .i64 b0, .int .i64 b1, .int .i64 b2, .int .i64 b3]] w fun e w' => e = .returned (.bool (insX (a0, a1, a2, a3) (b0, b1, b2, b3))) ∧ Below w.heap.size w w' := by
  have K1 := Lib.hid (fun W => placeValid_vp a0 a1 a2 a3 W ha)
  have K2 := Lib.hid (fun W => placeValid_vp b0 b1 b2 b3 W hb)
  have K3 := fun W => insideArc_any a2 a3 b2 b3 W ha.o hb.o
  have hR : insX (a0, a1, a2, a3) (b0, b1, b2, b3) = (decide (b0 ≤ a0) && (decide (a1 ≤ b1) && insA (a2, a3) (b2, b3))) := by
    unfold insX
    simp only [Bool.decide_and, Bool.and_assoc]
  rw [hR]
  clear hR ha hb
  generalize insA (a2, a3) (b2, b3) = K at *
  have K3 := Lib.hid K3
  go_enter Tryz.func103, Tryz.ntmps103
  go_wp2_with fail
  (with_reducible refine (K1.out _).mono ?_)
  rintro e w1 ⟨rfl, hb1⟩
  have hb1' := two_bl hb1
  have hz1 := two_lt hb1
  have x0 := (hb1.cell (p := ⟨w.heap.size, 0, none⟩) (by simp; omega)).trans (show _ = some (.int .i64 a0) by simp)
  have x1 := (hb1.cell (p := ⟨w.heap.size, 1, none⟩) (by simp; omega)).trans (show _ = some (.int .i64 a1) by simp)
  have x2 := (hb1.cell (p := ⟨w.heap.size, 2, none⟩) (by simp; omega)).trans (show _ = some (.int .i64 a2) by simp)
  have x3 := (hb1.cell (p := ⟨w.heap.size, 3, none⟩) (by simp; omega)).trans (show _ = some (.int .i64 a3) by simp)
  have y0 := (hb1.cell (p := ⟨w.heap.size + 1, 0, none⟩) (by simp)).trans (show _ = some (.int .i64 b0) by simp)
  have y1 := (hb1.cell (p := ⟨w.heap.size + 1, 1, none⟩) (by simp)).trans (show _ = some (.int .i64 b1) by simp)
  have y2 := (hb1.cell (p := ⟨w.heap.size + 1, 2, none⟩) (by simp)).trans (show _ = some (.int .i64 b2) by simp)
  have y3 := (hb1.cell (p := ⟨w.heap.size + 1, 3, none⟩) (by simp)).trans (show _ = some (.int .i64 b3) by simp)
  clear hb1
  go_wp2_with fail
  (with_reducible refine (K2.out _).mono ?_)
  rintro e w2 ⟨rfl, hb2⟩
  have hb2' := hb1'.trans (hb2.mono hb1'.size)
  have x0 := (hb2.cell (p := ⟨w.heap.size, 0, none⟩) hz1.1).trans x0
  have x1 := (hb2.cell (p := ⟨w.heap.size, 1, none⟩) hz1.1).trans x1
  have x2 := (hb2.cell (p := ⟨w.heap.size, 2, none⟩) hz1.1).trans x2
  have x3 := (hb2.cell (p := ⟨w.heap.size, 3, none⟩) hz1.1).trans x3
  have y0 := (hb2.cell (p := ⟨w.heap.size + 1, 0, none⟩) hz1.2).trans y0
  have y1 := (hb2.cell (p := ⟨w.heap.size + 1, 1, none⟩) hz1.2).trans y1
  have y2 := (hb2.cell (p := ⟨w.heap.size + 1, 2, none⟩) hz1.2).trans y2
  have y3 := (hb2.cell (p := ⟨w.heap.size + 1, 3, none⟩) hz1.2).trans y3
  clear hb2 hb1' K1 K2
  have HBB := Lib.hid hb2'
  clear hb2'
  by_cases d0 : b0 ≤ a0
  · have q0 := decide_eq_true d0
    by_cases d1 : a1 ≤ b1
    · have q1 := decide_eq_true d1
      go_wp2_with (go_at_call 132; (with_reducible refine (K3.out _).mono ?_); rintro e w3 ⟨rfl, hb3⟩)
      go_ret
      exact ⟨ret_bool (by simp [d0, d1]), HBB.out.trans (hb3.mono HBB.out.size)⟩
    · have q1 := decide_eq_false d1
      go_wp2
      go_ret
      exact ⟨ret_bool (by rw [q1]; simp), HBB.out⟩
  · have q0 := decide_eq_false d0
    go_wp2
    go_ret
    exact ⟨ret_bool (by rw [q0]; simp), HBB.out⟩
theorem bx_vp {x : Cl} (hx : Vl x) : VP (bxI x) := by
  have f := bx_facts hx
  refine ⟨by omega, by omega, by omega, .inr ?_⟩
  simp only []
  omega
set_option maxHeartbeats 2000000 in
theorem rbox_any (l r c : Int) (w : World) (hv : vldB l r c = true) : Calls Tryz.prog 101 #[.agg #[.int .i64 l, .int .i64 r, .int .i64 c]] w fun e w' => e = .returned (boxV l r c) ∧ Below w.heap.size w w' := by
  have KB := Lib.hid (fun W => Box_yes l r c W hv)
  obtain ⟨b0, b1, b2, b3, hbv⟩ : ∃ b0 b1 b2 b3 : Int, boxV l r c = .agg #[.int .i64 b0, .int .i64 b1, .int .i64 b2, .int .i64 b3] := ⟨_, _, _, _, rfl⟩
  rw [hbv] at KB ⊢
  clear hbv hv
  go_enter Tryz.func101, Tryz.ntmps101
  go_wp2_with fail
  (with_reducible refine (KB.out _).mono ?_)
  rintro e w1 ⟨rfl, hb1⟩
  have hb2 := Lib.hid (two_bl hb1)
  have hz := two_lt hb1
  have G := Blk.below (((Blk.new (w.alloc (.cells #[.int .i64 l, .int .i64 r, .int .i64 c] 46)) 48 #[.int .i64 0, .int .i64 0, .int .i64 0, .int .i64 0]))) hb1 (by simp)
  rw [World.size_alloc] at G
  have hf := G.frozen 0
  have hf1 := G.frozen 1
  have hf2 := G.frozen 2
  have hf3 := G.frozen 3
  have y0 := G.cell 0
  have y1 := G.cell 1
  have y2 := G.cell 2
  have y3 := G.cell 3
  simp only [List.getElem?_toArray, List.getElem?_cons_zero, List.getElem?_cons_succ] at y0 y1 y2 y3
  have BK := (((G.set_ 0 (.int .i64 b0)).set_ 1 (.int .i64 b1)).set_ 2 (.int .i64 b2)).set_ 3 (.int .i64 b3)
  simp only [List.setIfInBounds_toArray, List.set_cons_zero, List.set_cons_succ] at BK
  have BK := BK.alloc (.cells #[.int .i64 b0, .int .i64 b1, .int .i64 b2, .int .i64 b3] 48)
  have BB : Below w.heap.size w _ := ((((hb2.out.setCell (p := ⟨w.heap.size + 1, 0, none⟩) (Nat.le_succ _) (.int .i64 b0)).setCell (p := ⟨w.heap.size + 1, 1, none⟩) (Nat.le_succ _) (.int .i64 b1)).setCell (p := ⟨w.heap.size + 1, 2, none⟩) (Nat.le_succ _) (.int .i64 b2)).setCell (p := ⟨w.heap.size + 1, 3, none⟩) (Nat.le_succ _) (.int .i64 b3)).alloc (by simp [World.setCell]; omega) (.cells #[.int .i64 b0, .int .i64 b1, .int .i64 b2, .int .i64 b3] 48)
  have BKH := Lib.hid BK
  have BBH := Lib.hid BB
  clear hb1 G BK BB
  go_wp2
  have c0 := BKH.out.cell 0
  have c1 := BKH.out.cell 1
  have c2 := BKH.out.cell 2
  have c3 := BKH.out.cell 3
  have BB := BBH.out
  generalize World.alloc _ _ = W9 at c0 c1 c2 c3 BB ⊢
  simp only [List.getElem?_toArray, List.getElem?_cons_zero, List.getElem?_cons_succ] at c0 c1 c2 c3
  refine bodyPost_ret (v := .agg #[.int .i64 b0, .int .i64 b1, .int .i64 b2, .int .i64 b3]) (by simp [results, Tryz.results101, go_sem, c0, c1, c2, c3]) rfl ⟨rfl, BB⟩
set_option maxHeartbeats 2000000 in
theorem rgMeets_any (a0 a1 a2 a3 b0 b1 b2 b3 : Int) (w : World) (ha : VP (a0, a1, a2, a3)) (hb : VP (b0, b1, b2, b3)) :
    Calls Tryz.prog 102 #[.agg #[.int .i64 a0, .int .i64 a1, .int .i64 a2, .int .i64 a3], .agg #[.int .i64 b0, .int .i64 b1, .int .i64 b2, .int .i64 b3]] w fun e w' => e = .returned (.bool (meetB (a0, a1, a2, a3) (b0, b1, b2, b3))) ∧ Below w.heap.size w w' := by
  have KM := fun W => Meet_any a0 a1 a2 a3 b0 b1 b2 b3 W ha hb
  clear ha hb
  cases hm : meetB (a0, a1, a2, a3) (b0, b1, b2, b3)
  all_goals
    rw [hm] at KM
    simp only [if_true, Bool.false_eq_true, if_false] at KM
    have KM := Lib.hid KM
    clear hm
    go_enter Tryz.func102, Tryz.ntmps102
    go_wp2_with fail
    (with_reducible refine (KM.out _).mono ?_)
    rintro e w1 ⟨r0, r1, r2, r3, rfl, hb1⟩
    have HB := Lib.hid ((two_bl hb1).alloc (two_bl hb1).size (.cells #[.int .i64 r0, .int .i64 r1, .int .i64 r2, .int .i64 r3] 48))
    clear hb1
    go_wp2
    go_ret
    exact ⟨ret_bool (by simp), HB.out⟩
end Go.Proofs.YtleigbbgilcckaaGreat
namespace Go.Proofs.YtleigbbgilcckaaGreat
open Go.RowKit
/-- a row of integers that stands in one block, and the variable that holds it -/
structure RootAt (W : World) (q g n : Nat) (f : Nat → Nat) : Prop where
  box : W.cell? ⟨q, 0, none⟩ = some (.slice (some ⟨g, 0, none⟩) n n)
  cell : ∀ j, j < n → W.cell? ⟨g, j, none⟩ = some (.int .i64 (f j))
  fr : ∀ j, j < n → W.frozen? ⟨g, j, none⟩ = false
  ne : g ≠ q
  lt : g < W.heap.size
  ltq : q < W.heap.size
theorem RootAt.set {W : World} {q g n : Nat} {f : Nat → Nat} (h : RootAt W q g n f) (j v : Nat) (hj : j < n) : RootAt (W.setCell ⟨g, j, none⟩ (.int .i64 v)) q g n (PQ.upd f j v) := by
  refine ⟨?_, fun k hk => ?_, fun k hk => by simpa using h.fr k hk, h.ne, by simpa using h.lt, by simpa using h.ltq⟩
  · rw [World.cell?_setCell_other _ _ _ _ (fun e => h.ne (by injection e))]
    exact h.box
  · unfold PQ.upd
    by_cases e : k = j
    · subst e
      rw [if_pos rfl]
      exact World.cell?_setCell_same _ _ _ (h.cell k hk)
    · rw [if_neg e, World.cell?_setCell_other _ _ _ _ (fun e' => e (by injection e' with _ e2; exact e2.symm))]
      exact h.cell k hk
theorem RootAt.below {W W' : World} {B q g n : Nat} {f : Nat → Nat} (h : RootAt W q g n f) (hb : Below B W W') (hg : g < B) (hq : q < B) : RootAt W' q g n f :=
  ⟨(hb.cell (p := ⟨q, 0, none⟩) hq).trans h.box, fun j hj => (hb.cell (p := ⟨g, j, none⟩) hg).trans (h.cell j hj), fun j hj => (hb.frozen (p := ⟨g, j, none⟩) hg).trans (h.fr j hj), h.ne, Nat.lt_of_lt_of_le h.lt hb.size, Nat.lt_of_lt_of_le h.ltq hb.size⟩
theorem RootAt.drew {W : World} {q g n : Nat} {f : Nat → Nat} (h : RootAt W q g n f) : RootAt W.drew q g n f := ⟨h.box, h.cell, h.fr, h.ne, h.lt, h.ltq⟩
/-- what the row of roots says of the least members -/
structure Rt (c f : Nat → Nat) (n : Nat) : Prop where
  le : ∀ j, j < n → f j ≤ j
  up : ∀ j, j < n → c (f j) = c j
  fix : ∀ j, j < n → f j = j → c j = j
theorem grown_setG (w : World) (g j : Nat) (v : Value) : w.grownBy (w.setCell ⟨g, j, none⟩ v) (some g) :=
  ⟨rfl, rfl, rfl, by simp, fun k _ hk => Below.heap_setCell _ _ _ k (fun e => hk (by rw [e]))⟩
end Go.Proofs.YtleigbbgilcckaaGreat
namespace Go.Proofs.YtleigbbgilcckaaGreat
open Go.RowKit
def gl (LL : List (List Cl)) (k : Nat) : List Cl := LL.getD k []
theorem own_lt' {w : World} {base : Nat} {e : TypeId} {size n : Nat} {v : Value} {xs : List Value} (h : w.ownsRow base e size v n xs) {q : Nat} (hq : v.ownBlock = some q) : q < w.heap.size := by
  rcases h.2 with ⟨rfl, _⟩ | ⟨g, cap, cur, rfl, _, hh, _⟩
  · simp [Value.ownBlock] at hq
  · have : g = q := by simpa [Value.ownBlock] using hq
    subst this
    rcases Nat.lt_or_ge g w.heap.size with hlt | hge
    · exact hlt
    · rw [Array.getElem?_eq_none hge] at hh; cases hh
theorem own_grown' {w w' : World} {base : Nat} {e : TypeId} {size n : Nat} {v : Value} {xs : List Value} {row : Option Nat} (h : w.ownsRow base e size v n xs) (hg : w.grownBy w' row) (hne : ∀ q, v.ownBlock = some q → row ≠ some q) : w'.ownsRow base e size v n xs := by
  refine ⟨h.1, ?_⟩
  have hlt := @own_lt' w base e size n v xs h
  rcases h.2 with h1 | ⟨g, cap, cur, rfl, hb, hh, hr⟩
  · exact .inl h1
  · have hq : (Value.slice (some ⟨g, 0, none⟩) n cap).ownBlock = some g := by simp [Value.ownBlock]
    exact .inr ⟨g, cap, cur, rfl, hb, (hg.block g (hlt hq) (fun e => hne g hq e.symm)).trans hh, hr⟩
theorem own_own_ne {w : World} {b1 b2 : Nat} {e1 e2 : TypeId} {s1 s2 n1 n2 : Nat} {v1 v2 : Value} {x1 x2 : List Value} (h1 : w.ownsRow b1 e1 s1 v1 n1 x1) (h2 : w.ownsRow b2 e2 s2 v2 n2 x2) (hne : e1 ≠ e2) {q : Nat} (hq : v1.ownBlock = some q) : v2.ownBlock ≠ some q := by
  rcases h1.2 with ⟨rfl, _⟩ | ⟨g, cap, cur, rfl, _, hh, _⟩
  · simp [Value.ownBlock] at hq
  · have : g = q := by simpa [Value.ownBlock] using hq
    subst this
    exact own_blk_ne h2 (show Blk w g e1 cur from hh) (fun e => hne e.symm)
/-- rows of cells, in a row of the call's own, each in a block of its own -/
structure Rws (W : World) (B : Nat) (v : Value) (LL : List (List Cl)) (vs : List Value) : Prop where
  row : W.ownsRow B 22 1 v LL.length vs
  one : ∀ (k : Nat) (u : Value), vs[k]? = some u → W.ownsRow B 46 3 u (gl LL k).length (cvs (gl LL k))
  ne : ∀ (k m : Nat) (u u' : Value), k ≠ m → vs[k]? = some u → vs[m]? = some u' → ∀ q, u.ownBlock = some q → u'.ownBlock ≠ some q
section
variable {W W' : World} {B : Nat} {v : Value} {LL : List (List Cl)} {vs : List Value}
theorem Rws.len (h : Rws W B v LL vs) : vs.length = LL.length := by have := h.row.1; omega
theorem Rws.nil (W : World) (B : Nat) : Rws W B (.slice none 0 0) [] [] := ⟨own_nil _ _ _ _, fun k u h => by simp at h, fun k m u u' _ h => by simp at h⟩
theorem Rws.kept (h : Rws W B v LL vs) {row : Option Nat} (hg : W.grownBy W' row) (hr : ∀ q, row = some q → q < B) : Rws W' B v LL vs :=
  ⟨own_grown' h.row hg (fun q hq e => by have := own_base h.row q hq; have := hr q e; omega), fun k u hk => own_grown' (h.one k u hk) hg (fun q hq e => by have := own_base (h.one k u hk) q hq; have := hr q e; omega), h.ne⟩
theorem Rws.bl (h : Rws W B v LL vs) (hb : Below W.heap.size W W') : Rws W' B v LL vs :=
  ⟨own_bl h.row hb (Nat.le_refl _), fun k u hk => own_bl (h.one k u hk) hb (Nat.le_refl _), h.ne⟩
theorem Rws.alloc (h : Rws W B v LL vs) (o : Obj) : Rws (W.alloc o) B v LL vs := h.bl (bl_alloc W o)
/-- another row of the call's own, of another type, grows -/
theorem Rws.other (h : Rws W B v LL vs) {b : Nat} {e : TypeId} {s n : Nat} {u : Value} {xs : List Value} (ho : W.ownsRow b e s u n xs) (h1 : e ≠ 22) (h2 : e ≠ 46) (hg : W.grownBy W' u.ownBlock) : Rws W' B v LL vs :=
  ⟨own_grown' h.row hg (fun q hq e' => own_own_ne ho h.row h1 e' hq), fun k u' hk => own_grown' (h.one k u' hk) hg (fun q hq e' => own_own_ne ho (h.one k u' hk) h2 e' hq), h.ne⟩
theorem tne : (22 : TypeId) ≠ 46 := by decide
/-- one row grows by itself -/
theorem Rws.grow (h : Rws W B v LL vs) {k g cap : Nat} {u u' : Value} {L : List Cl} (hv : v = .slice (some ⟨g, 0, none⟩) LL.length cap) (hk : vs[k]? = some u) (hg : W.grownBy W' u.ownBlock) (hu : W'.ownsRow B 46 3 u' L.length (cvs L)) (hat : u'.ownBlock = u.ownBlock ∨ u'.ownBlock = some W.heap.size) :
    Rws (W'.setCell ⟨g, k, none⟩ u') B v (LL.set k L) (vs.set k u') := by
  have hl := h.len
  have hkl : k < vs.length := by
    rcases Nat.lt_or_ge k vs.length with e | e
    · exact e
    · rw [List.getElem?_eq_none e] at hk; cases hk
  have hrow' : W'.ownsRow B 22 1 v LL.length vs := own_grown' h.row hg (fun q hq e' => own_own_ne h.row (h.one k u hk) tne hq e')
  have hblk : ∃ cs, Blk W' g 22 cs := by
    rcases hrow'.2 with ⟨e, _⟩ | ⟨g', cap', cur, e, _, hh, _⟩
    · rw [hv] at e; cases e
    · rw [hv] at e
      injection e with e1 e2 e3
      injection e1 with e1
      injection e1 with e1
      subst e1
      exact ⟨cur, hh⟩
  obtain ⟨cs, hblk⟩ := hblk
  subst hv
  refine ⟨?_, fun m x hm => ?_, fun m p x y hne hm hp q hq => ?_⟩
  · have := own_set hrow' k u' (by omega)
    simpa using this
  · by_cases e : k = m
    · subst e
      rw [List.getElem?_set_self (by omega)] at hm
      injection hm with hm
      subst hm
      have e2 : gl (LL.set k L) k = L := by unfold gl; simp [show k < LL.length by omega]
      rw [e2]
      exact ownsRow_far hu hblk (fun e => tne e.symm)
    · rw [List.getElem?_set_ne e] at hm
      have e2 : gl (LL.set k L) m = gl LL m := by unfold gl; simp [List.getElem?_set_ne e]
      rw [e2]
      exact ownsRow_far (own_grown' (h.one m x hm) hg (fun q hq e' => h.ne k m u x e hk hm q e' hq)) hblk (fun e => tne e.symm)
  · have fresh : ∀ m x, vs[m]? = some x → k ≠ m → ∀ q, u'.ownBlock = some q → x.ownBlock ≠ some q := fun m x hm e q hq => by
      rcases hat with h1 | h1
      · exact h.ne k m u x e hk hm q (h1 ▸ hq)
      · intro e'
        have := own_lt' (h.one m x hm) e'
        rw [h1] at hq
        injection hq with hq
        omega
    by_cases e : k = m
    · subst e
      rw [List.getElem?_set_self (by omega)] at hm
      injection hm with hm
      subst hm
      rw [List.getElem?_set_ne hne] at hp
      exact fresh p y hp hne q hq
    · rw [List.getElem?_set_ne e] at hm
      by_cases e2 : k = p
      · subst e2
        rw [List.getElem?_set_self (by omega)] at hp
        injection hp with hp
        subst hp
        intro e'
        exact fresh m x hm e q e' hq
      · rw [List.getElem?_set_ne e2] at hp
        exact h.ne m p x y hne hm hp q hq
end
end Go.Proofs.YtleigbbgilcckaaGreat
namespace Go.Proofs.YtleigbbgilcckaaGreat
open Go.RowKit
def gb (D : List Bx) (k : Nat) : Bx := D.getD k (0, 0, 0, 0)
theorem bvs_at (L : List Bx) (k : Nat) (hk : k < L.length) : (bvs L)[k * 4]? = some (.int .i64 (gb L k).1) ∧ (bvs L)[k * 4 + 1]? = some (.int .i64 (gb L k).2.1) ∧ (bvs L)[k * 4 + 2]? = some (.int .i64 (gb L k).2.2.1) ∧ (bvs L)[k * 4 + 3]? = some (.int .i64 (gb L k).2.2.2) := by
  induction L generalizing k with
  | nil => simp at hk
  | cons x r ih =>
    have hc : bvs (x :: r) = .int .i64 x.1 :: .int .i64 x.2.1 :: .int .i64 x.2.2.1 :: .int .i64 x.2.2.2 :: bvs r := rfl
    rw [hc]
    match k with
    | 0 => simp [gb]
    | k + 1 =>
      have := ih k (by simpa using hk)
      have e : (k + 1) * 4 = k * 4 + 4 := by omega
      rw [e]
      simpa [gb] using this
theorem BReads.elem {w : World} {B n : Nat} {A : Option Addr} {D : List Bx} (h : Reads w B 4 A n (bvs D)) {k : Nat} (hk : k < n) :
    ∃ b off, A = some ⟨b, off, none⟩ ∧ b < B ∧ w.cell? ⟨b, off + k * 4, none⟩ = some (.int .i64 (gb D k).1) ∧ w.cell? ⟨b, off + k * 4 + 1, none⟩ = some (.int .i64 (gb D k).2.1) ∧ w.cell? ⟨b, off + k * 4 + 2, none⟩ = some (.int .i64 (gb D k).2.2.1) ∧ w.cell? ⟨b, off + k * 4 + 3, none⟩ = some (.int .i64 (gb D k).2.2.2) := by
  have hl : D.length = n := by have := h.1; rw [bvs_length] at this; omega
  obtain ⟨ad, rfl, hb, hc⟩ := h.2 (by omega)
  obtain ⟨b, off, spot⟩ := ad
  obtain ⟨z1, _⟩ := bvs_at D 0 (by omega)
  have hspot : spot = none := by simpa [Addr.add] using World.cell?_spot (hc 0 _ (by simpa using z1))
  subst hspot
  obtain ⟨y1, y2, y3, y4⟩ := bvs_at D k (by omega)
  refine ⟨b, off, rfl, hb, ?_, ?_, ?_, ?_⟩
  · have := hc _ _ y1; rw [Go.WideShapes.add_plain] at this; exact this
  · have := hc _ _ y2; rw [Go.WideShapes.add_plain] at this; exact this
  · have := hc _ _ y3; rw [Go.WideShapes.add_plain] at this; exact this
  · have := hc _ _ y4; rw [Go.WideShapes.add_plain] at this; exact this
theorem RootAt.congr {W : World} {q g n : Nat} {f f' : Nat → Nat} (h : RootAt W q g n f) (he : ∀ j, j < n → f j = f' j) : RootAt W q g n f' :=
  ⟨h.box, fun j hj => by rw [← he j hj]; exact h.cell j hj, h.fr, h.ne, h.lt, h.ltq⟩
theorem RootAt.made (w : World) (n : Nat) (t t' : TypeId) : RootAt ((w.alloc (.cells (madeCells #[.int .i64 0] n) t)).alloc (.cells #[.slice (some ⟨w.heap.size, 0, none⟩) n n] t')) (w.heap.size + 1) w.heap.size n (fun _ => 0) := by
  have hb : ∀ j, j < n → (w.alloc (.cells (madeCells #[.int .i64 0] n) t)).cell? ⟨w.heap.size, j, none⟩ = some (.int .i64 0) := fun j hj => by
    have h := Blk.cell (Blk.new w t (madeCells #[.int .i64 0] n)) j
    rw [h]
    simp [madeCells, hj, Nat.mod_one]
  refine ⟨by simp, fun j hj => ?_, fun j hj => ?_, by omega, by simp; omega, by simp⟩
  · rw [World.cell?_alloc_lt _ _ _ (by simp)]; exact hb j hj
  · exact Blk.frozen ((Blk.new w t (madeCells #[.int .i64 0] n)).alloc _) j
def ivsG (D : List Nat) : List Value := D.map fun (r : Nat) => Value.int .i64 (r : Int)
/-- what stands between two steps of the gathering -/
structure PSt (w1 W : World) (i : Nat) (C f : Nat → Nat) (v13 v14 : Value) (LL : List (List Cl)) (vs : List Value) (D : List Nat) : Prop where
  r : RootAt W (w1.heap.size + 1) w1.heap.size i f
  t : Rt C f i
  o : Rws W (w1.heap.size + 2) v13 LL vs
  s : W.ownsRow (w1.heap.size + 2) 3 1 v14 D.length (ivsG D)
  b : Below w1.heap.size w1 W
section
variable {w1 W W' : World} {i : Nat} {C f f' : Nat → Nat} {v13 v14 : Value} {LL : List (List Cl)} {vs : List Value} {D : List Nat}
theorem Rws.mono {B B' : Nat} {v : Value} (h : Rws W B v LL vs) (hb : B' ≤ B) : Rws W B' v LL vs := ⟨own_mono h.row hb, fun k u hk => own_mono (h.one k u hk) hb, h.ne⟩
theorem PSt.bl (h : PSt w1 W i C f v13 v14 LL vs D) (hb : Below W.heap.size W W') : PSt w1 W' i C f v13 v14 LL vs D :=
  ⟨h.r.below hb h.r.lt h.r.ltq, h.t, h.o.bl hb, own_bl h.s hb (Nat.le_refl _), h.b.trans (hb.mono h.b.size)⟩
theorem PSt.alloc (h : PSt w1 W i C f v13 v14 LL vs D) (o : Obj) : PSt w1 (W.alloc o) i C f v13 v14 LL vs D := h.bl (bl_alloc W o)
theorem PSt.drew (h : PSt w1 W i C f v13 v14 LL vs D) : PSt w1 W.drew i C f v13 v14 LL vs D := h.bl (bl_drew (Below.refl _ _))
end
end Go.Proofs.YtleigbbgilcckaaGreat
namespace Go.Proofs.YtleigbbgilcckaaGreat
open Go.RowKit
structure Que (W : World) (B : Nat) (A : Option Addr) (n c : Nat) (T : List Nat) : Prop where
  len : T.length = n
  le : n ≤ c
  max : c ≤ maxLen
  spot : 0 < c → ∃ g d, A = some ⟨g, d, none⟩ ∧ B ≤ g ∧ g < W.heap.size ∧ (∀ j, j < c → (W.cell? ⟨g, d + j, none⟩).isSome = true) ∧ (∀ j, j < c → W.frozen? ⟨g, d + j, none⟩ = false) ∧ ∀ (j x : Nat), T[j]? = some x → W.cell? ⟨g, d + j, none⟩ = some (.int .i64 (x : Int))
section
variable {W W' : World} {B : Nat} {A : Option Addr} {n c : Nat} {T : List Nat}
theorem Que.bl (h : Que W B A n c T) (hb : Below W.heap.size W W') : Que W' B A n c T := by
  refine ⟨h.len, h.le, h.max, fun hc => ?_⟩
  obtain ⟨g, d, e, hg, hlt, h1, h2, h3⟩ := h.spot hc
  exact ⟨g, d, e, hg, Nat.lt_of_lt_of_le hlt hb.size, fun j hj => by rw [hb.cell (p := ⟨g, d + j, none⟩) hlt]; exact h1 j hj, fun j hj => (hb.frozen (p := ⟨g, d + j, none⟩) hlt).trans (h2 j hj), fun j x hx => (hb.cell (p := ⟨g, d + j, none⟩) hlt).trans (h3 j x hx)⟩
theorem Que.set (h : Que W B A n c T) {q o : Nat} (hq : q < B) (u : Value) : Que (W.setCell ⟨q, o, none⟩ u) B A n c T := by
  refine ⟨h.len, h.le, h.max, fun hc => ?_⟩
  obtain ⟨g, d, e, hg, hlt, h1, h2, h3⟩ := h.spot hc
  have hne : ∀ j, W.cell? ⟨g, d + j, none⟩ = (W.setCell ⟨q, o, none⟩ u).cell? ⟨g, d + j, none⟩ := fun j => (World.cell?_setCell_other _ _ _ _ (fun e => by injection e with e1; omega)).symm
  exact ⟨g, d, e, hg, by simpa using hlt, fun j hj => by rw [← hne]; exact h1 j hj, fun j hj => by rw [World.frozen?_setCell]; exact h2 j hj, fun j x hx => by rw [← hne]; exact h3 j x hx⟩
theorem Que.mono {B' : Nat} (h : Que W B A n c T) (hb : B' ≤ B) : Que W B' A n c T := ⟨h.len, h.le, h.max, fun hc => by
  obtain ⟨g, d, e, hg, r⟩ := h.spot hc
  exact ⟨g, d, e, by omega, r⟩⟩
theorem Que.one {g k : Nat} (hB : B ≤ g) (hg : g < W.heap.size) (h : W.cell? ⟨g, 0, none⟩ = some (.int .i64 (k : Int))) (hf : W.frozen? ⟨g, 0, none⟩ = false) : Que W B (some ⟨g, 0, none⟩) 1 1 [k] := by
  refine ⟨rfl, Nat.le_refl _, by simp [maxLen], fun _ => ⟨g, 0, rfl, hB, hg, fun j hj => ?_, fun j hj => ?_, fun j x hx => ?_⟩⟩
  · obtain rfl : j = 0 := by omega
    rw [h]; rfl
  · obtain rfl : j = 0 := by omega
    exact hf
  · match j, hx with
    | 0, hx => simp at hx; subst hx; exact h
    | j + 1, hx => simp at hx
end
section
variable {P : Program}
end
end Go.Proofs.YtleigbbgilcckaaGreat
