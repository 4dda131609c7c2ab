/- The walks of the reference's Side, and of Agrees and agrees of layer 39 at valid circles and cells. -/
import Derived.Deep.DeepCutAuto
import Derived.Test.YtpemohoibeipfaaGreatHJm
import Derived.Test.YtpemohoibeipfaaGreatHTf
import Derived.Test.YtpemohoibeipfaaGreatHNa
set_option linter.unusedVariables false
set_option linter.unusedSimpArgs false
namespace Go.Proofs.YtpemohoibeipfaaGreat
open Go.RowKit
set_option maxHeartbeats 2000000 in
theorem insideArc_any (x y u v : Int) (w : World) (ha : VL (x, y)) (hb : VL (u, v)) :
    Calls Tryz.prog 145 #[.agg #[.int .i64 x, .int .i64 y], .agg #[.int .i64 u, .int .i64 v]] w fun e w' => e = .returned (.bool (insA (x, y) (u, v))) ∧ Below w.heap.size w w' := by
  have oa : (x = -10800000 ∧ y = 10800000) ∨ (-10800000 ≤ x ∧ x < 10800000 ∧ x ≤ y ∧ y - x < 21600000) := ha
  have ob : (u = -10800000 ∧ v = 10800000) ∨ (-10800000 ≤ u ∧ u < 10800000 ∧ u ≤ v ∧ v - u < 21600000) := hb
  clear ha hb
  have K1 := fun W => all_any u v W
  have K2 := fun W => all_any x y W
  have K3 := Lib.hid (fun W => beyond_any u v x W (by omega) (by omega) (by omega) (by omega))
  obtain ⟨m, hm⟩ : ∃ m, (x - u) % 21600000 = m := ⟨_, rfl⟩
  have hm0 : 0 ≤ m ∧ m < 21600000 := by omega
  have hR : insA (x, y) (u, v) = (decide (u = -10800000 ∧ v = 10800000) || (!decide (x = -10800000 ∧ y = 10800000) && decide (m + y - x ≤ v - u))) := by unfold insA; rw [← hm]
  rw [hm] at K3
  rw [hR]
  clear hR hm
  by_cases h1 : u = -10800000 ∧ v = 10800000
  · have q : aeq u v (-10800000) 10800000 = true := by simp [aeq, h1]
    rw [q] at K1
    rw [decide_eq_true h1]
    clear q h1
    have K1 := Lib.hid K1
    go_enter Tryz.func145, Tryz.ntmps145
    go_wp2_with fail
    (with_reducible refine (K1.out _).mono ?_)
    rintro e w1 ⟨rfl, hb1⟩
    have hb1' := Lib.hid (two_bl hb1)
    clear hb1
    go_wp2
    go_ret
    exact ⟨rfl, hb1'.out⟩
  · have q : aeq u v (-10800000) 10800000 = false := by simp [aeq]; omega
    rw [q] at K1
    rw [decide_eq_false h1]
    clear q
    have H1 := Lib.hid h1
    clear h1
    have K1 := Lib.hid K1
    by_cases h2 : x = -10800000 ∧ y = 10800000
    · have q : aeq x y (-10800000) 10800000 = true := by simp [aeq, h2]
      rw [q] at K2
      rw [decide_eq_true h2]
      clear q h2
      have K2 := Lib.hid K2
      go_enter Tryz.func145, Tryz.ntmps145
      go_wp2_with fail
      (with_reducible refine (K1.out _).mono ?_)
      rintro e w1 ⟨rfl, hb1⟩
      have hb1' := two_bl hb1
      have hz1 := two_lt hb1
      have x0 := (hb1.cell (p := ⟨w.heap.size, 0, none⟩) (by simp; omega)).trans (show _ = some (.int .i64 x) by simp)
      have x1 := (hb1.cell (p := ⟨w.heap.size, 1, none⟩) (by simp; omega)).trans (show _ = some (.int .i64 y) by simp)
      have y0 := (hb1.cell (p := ⟨w.heap.size + 1, 0, none⟩) (by simp)).trans (show _ = some (.int .i64 u) by simp)
      have y1 := (hb1.cell (p := ⟨w.heap.size + 1, 1, none⟩) (by simp)).trans (show _ = some (.int .i64 v) by simp)
      clear hb1
      go_wp2_with fail
      (with_reducible refine (K2.out _).mono ?_)
      rintro e w2 ⟨rfl, hb2⟩
      have hb2' := Lib.hid (hb1'.trans (hb2.mono hb1'.size))
      clear hb2 hb1' x0 x1 y0 y1
      go_wp2
      go_ret
      exact ⟨rfl, hb2'.out⟩
    · have q : aeq x y (-10800000) 10800000 = false := by simp [aeq]; omega
      rw [q] at K2
      rw [decide_eq_false h2]
      clear q
      have H2 := Lib.hid h2
      clear h2
      have K2 := Lib.hid K2
      obtain ⟨K, hK⟩ : ∃ K, decide (m + y - x ≤ v - u) = K := ⟨_, rfl⟩
      rw [hK]
      go_enter Tryz.func145, Tryz.ntmps145
      go_wp2_with fail
      (with_reducible refine (K1.out _).mono ?_)
      rintro e w1 ⟨rfl, hb1⟩
      have hb1' := two_bl hb1
      have hz1 := two_lt hb1
      have x0 := (hb1.cell (p := ⟨w.heap.size, 0, none⟩) (by simp; omega)).trans (show _ = some (.int .i64 x) by simp)
      have x1 := (hb1.cell (p := ⟨w.heap.size, 1, none⟩) (by simp; omega)).trans (show _ = some (.int .i64 y) by simp)
      have y0 := (hb1.cell (p := ⟨w.heap.size + 1, 0, none⟩) (by simp)).trans (show _ = some (.int .i64 u) by simp)
      have y1 := (hb1.cell (p := ⟨w.heap.size + 1, 1, none⟩) (by simp)).trans (show _ = some (.int .i64 v) by simp)
      clear hb1
      go_wp2_with fail
      (with_reducible refine (K2.out _).mono ?_)
      rintro e w2 ⟨rfl, hb2⟩
      have hb2' := hb1'.trans (hb2.mono hb1'.size)
      have hz2 : w.heap.size + 1 < w2.heap.size := Nat.lt_of_lt_of_le hz1.2 hb2.size
      have x0 := (hb2.cell (p := ⟨w.heap.size, 0, none⟩) hz1.1).trans x0
      have x1 := (hb2.cell (p := ⟨w.heap.size, 1, none⟩) hz1.1).trans x1
      have y0 := (hb2.cell (p := ⟨w.heap.size + 1, 0, none⟩) hz1.2).trans y0
      have y1 := (hb2.cell (p := ⟨w.heap.size + 1, 1, none⟩) hz1.2).trans y1
      clear hb2 hb1' K1 K2 hz1
      go_upto_region 5 with fail
      have c0 : ∀ s : BV w2, s.w.cell? ⟨w.heap.size, 0, none⟩ = some (.int .i64 x) := fun s => (s.hb.cell (p := ⟨w.heap.size, 0, none⟩) (by simp only []; omega)).trans x0
      have c1 : ∀ s : BV w2, s.w.cell? ⟨w.heap.size, 1, none⟩ = some (.int .i64 y) := fun s => (s.hb.cell (p := ⟨w.heap.size, 1, none⟩) (by simp only []; omega)).trans x1
      have c2 : ∀ s : BV w2, s.w.cell? ⟨w.heap.size + 1, 0, none⟩ = some (.int .i64 u) := fun s => (s.hb.cell (p := ⟨w.heap.size + 1, 0, none⟩) hz2).trans y0
      have c3 : ∀ s : BV w2, s.w.cell? ⟨w.heap.size + 1, 1, none⟩ = some (.int .i64 v) := fun s => (s.hb.cell (p := ⟨w.heap.size + 1, 1, none⟩) hz2).trans y1
      have s1 : IntKind.i64.wrap (m + y) = m + y := IntWalk.i64_in _ (by omega)
      have s2 : IntKind.i64.wrap (m + y - x) = m + y - x := IntWalk.i64_in _ (by clear s1; omega)
      have s3 : IntKind.i64.wrap (v - u) = v - u := IntWalk.i64_in _ (by clear s1 s2; omega)
      clear x0 x1 y0 y1
      refine wp_region_bv w2 (by kernel_rfl) (by kernel_rfl) (Below.refl _ _) ?_
      (repeat (go_big_quiet_step (first | (go_at_call 109; with_reducible exact quiet_bv (K3.out _)) | fail)))
      refine wpQuiet_nil ?_
      intro w9 hb9
      clear c0 c1 c2 c3 s1 s2 s3
      go_wp2
      go_ret
      exact ⟨ret_bool (by first | rfl | (simp; done) | simp [hK]), hb2'.trans (hb9.mono hb2'.size)⟩
set_option maxHeartbeats 2000000 in
theorem placeInside_any (a0 a1 a2 a3 b0 b1 b2 b3 : Int) (w : World) (ha : VP (a0, a1, a2, a3)) (hb : VP (b0, b1, b2, b3)) :
    Calls Tryz.prog 104 #[.agg #[.int .i64 a0, .int .i64 a1, .int .i64 a2, .int .i64 a3], .agg #[.int .i64 b0, .int .i64 b1, .int .i64 b2, .int .i64 b3]] w fun e w' => e = .returned (.bool (insX (a0, a1, a2, a3) (b0, b1, b2, b3))) ∧ Below w.heap.size w w' := by
  have K1 := Lib.hid (fun W => placeValid_vp a0 a1 a2 a3 W ha)
  have K2 := Lib.hid (fun W => placeValid_vp b0 b1 b2 b3 W hb)
  have K3 := fun W => insideArc_any a2 a3 b2 b3 W ha.o hb.o
  have hR : insX (a0, a1, a2, a3) (b0, b1, b2, b3) = (decide (b0 ≤ a0) && (decide (a1 ≤ b1) && insA (a2, a3) (b2, b3))) := by
    unfold insX
    simp only [Bool.decide_and, Bool.and_assoc]
  rw [hR]
  clear hR ha hb
  generalize insA (a2, a3) (b2, b3) = K at *
  have K3 := Lib.hid K3
  go_enter Tryz.func104, Tryz.ntmps104
  go_wp2_with fail
  (with_reducible refine (K1.out _).mono ?_)
  rintro e w1 ⟨rfl, hb1⟩
  have hb1' := two_bl hb1
  have hz1 := two_lt hb1
  have x0 := (hb1.cell (p := ⟨w.heap.size, 0, none⟩) (by simp; omega)).trans (show _ = some (.int .i64 a0) by simp)
  have x1 := (hb1.cell (p := ⟨w.heap.size, 1, none⟩) (by simp; omega)).trans (show _ = some (.int .i64 a1) by simp)
  have x2 := (hb1.cell (p := ⟨w.heap.size, 2, none⟩) (by simp; omega)).trans (show _ = some (.int .i64 a2) by simp)
  have x3 := (hb1.cell (p := ⟨w.heap.size, 3, none⟩) (by simp; omega)).trans (show _ = some (.int .i64 a3) by simp)
  have y0 := (hb1.cell (p := ⟨w.heap.size + 1, 0, none⟩) (by simp)).trans (show _ = some (.int .i64 b0) by simp)
  have y1 := (hb1.cell (p := ⟨w.heap.size + 1, 1, none⟩) (by simp)).trans (show _ = some (.int .i64 b1) by simp)
  have y2 := (hb1.cell (p := ⟨w.heap.size + 1, 2, none⟩) (by simp)).trans (show _ = some (.int .i64 b2) by simp)
  have y3 := (hb1.cell (p := ⟨w.heap.size + 1, 3, none⟩) (by simp)).trans (show _ = some (.int .i64 b3) by simp)
  clear hb1
  go_wp2_with fail
  (with_reducible refine (K2.out _).mono ?_)
  rintro e w2 ⟨rfl, hb2⟩
  have hb2' := hb1'.trans (hb2.mono hb1'.size)
  have x0 := (hb2.cell (p := ⟨w.heap.size, 0, none⟩) hz1.1).trans x0
  have x1 := (hb2.cell (p := ⟨w.heap.size, 1, none⟩) hz1.1).trans x1
  have x2 := (hb2.cell (p := ⟨w.heap.size, 2, none⟩) hz1.1).trans x2
  have x3 := (hb2.cell (p := ⟨w.heap.size, 3, none⟩) hz1.1).trans x3
  have y0 := (hb2.cell (p := ⟨w.heap.size + 1, 0, none⟩) hz1.2).trans y0
  have y1 := (hb2.cell (p := ⟨w.heap.size + 1, 1, none⟩) hz1.2).trans y1
  have y2 := (hb2.cell (p := ⟨w.heap.size + 1, 2, none⟩) hz1.2).trans y2
  have y3 := (hb2.cell (p := ⟨w.heap.size + 1, 3, none⟩) hz1.2).trans y3
  clear hb2 hb1' K1 K2
  have HBB := Lib.hid hb2'
  clear hb2'
  by_cases d0 : b0 ≤ a0
  · have q0 := decide_eq_true d0
    by_cases d1 : a1 ≤ b1
    · have q1 := decide_eq_true d1
      go_wp2_with (go_at_call 145; (with_reducible refine (K3.out _).mono ?_); rintro e w3 ⟨rfl, hb3⟩)
      go_ret
      exact ⟨ret_bool (by simp [d0, d1]), HBB.out.trans (hb3.mono HBB.out.size)⟩
    · have q1 := decide_eq_false d1
      go_wp2
      go_ret
      exact ⟨ret_bool (by rw [q1]; simp), HBB.out⟩
  · have q0 := decide_eq_false d0
    go_wp2
    go_ret
    exact ⟨ret_bool (by rw [q0]; simp), HBB.out⟩
theorem bx_vp {x : Cl} (hx : Vl x) : VP (bxI x) := by
  have f := bx_facts hx
  refine ⟨by omega, by omega, by omega, .inr ?_⟩
  simp only []
  omega
set_option maxHeartbeats 2000000 in
theorem rbox_any (l r c : Int) (w : World) (hv : vldB l r c = true) : Calls Tryz.prog 102 #[.agg #[.int .i64 l, .int .i64 r, .int .i64 c]] w fun e w' => e = .returned (boxV l r c) ∧ Below w.heap.size w w' := by
  have KB := Lib.hid (fun W => Box_yes l r c W hv)
  obtain ⟨b0, b1, b2, b3, hbv⟩ : ∃ b0 b1 b2 b3 : Int, boxV l r c = .agg #[.int .i64 b0, .int .i64 b1, .int .i64 b2, .int .i64 b3] := ⟨_, _, _, _, rfl⟩
  rw [hbv] at KB ⊢
  clear hbv hv
  go_enter Tryz.func102, Tryz.ntmps102
  go_wp2_with fail
  (with_reducible refine (KB.out _).mono ?_)
  rintro e w1 ⟨rfl, hb1⟩
  have hb2 := Lib.hid (two_bl hb1)
  have hz := two_lt hb1
  have G := Blk.below (((Blk.new (w.alloc (.cells #[.int .i64 l, .int .i64 r, .int .i64 c] 58)) 43 #[.int .i64 0, .int .i64 0, .int .i64 0, .int .i64 0]))) hb1 (by simp)
  rw [World.size_alloc] at G
  have hf := G.frozen 0
  have hf1 := G.frozen 1
  have hf2 := G.frozen 2
  have hf3 := G.frozen 3
  have y0 := G.cell 0
  have y1 := G.cell 1
  have y2 := G.cell 2
  have y3 := G.cell 3
  simp only [List.getElem?_toArray, List.getElem?_cons_zero, List.getElem?_cons_succ] at y0 y1 y2 y3
  have BK := (((G.set_ 0 (.int .i64 b0)).set_ 1 (.int .i64 b1)).set_ 2 (.int .i64 b2)).set_ 3 (.int .i64 b3)
  simp only [List.setIfInBounds_toArray, List.set_cons_zero, List.set_cons_succ] at BK
  have BK := BK.alloc (.cells #[.int .i64 b0, .int .i64 b1, .int .i64 b2, .int .i64 b3] 43)
  have BB : Below w.heap.size w _ := ((((hb2.out.setCell (p := ⟨w.heap.size + 1, 0, none⟩) (Nat.le_succ _) (.int .i64 b0)).setCell (p := ⟨w.heap.size + 1, 1, none⟩) (Nat.le_succ _) (.int .i64 b1)).setCell (p := ⟨w.heap.size + 1, 2, none⟩) (Nat.le_succ _) (.int .i64 b2)).setCell (p := ⟨w.heap.size + 1, 3, none⟩) (Nat.le_succ _) (.int .i64 b3)).alloc (by simp [World.setCell]; omega) (.cells #[.int .i64 b0, .int .i64 b1, .int .i64 b2, .int .i64 b3] 43)
  have BKH := Lib.hid BK
  have BBH := Lib.hid BB
  clear hb1 G BK BB
  go_wp2
  have c0 := BKH.out.cell 0
  have c1 := BKH.out.cell 1
  have c2 := BKH.out.cell 2
  have c3 := BKH.out.cell 3
  have BB := BBH.out
  generalize World.alloc _ _ = W9 at c0 c1 c2 c3 BB ⊢
  simp only [List.getElem?_toArray, List.getElem?_cons_zero, List.getElem?_cons_succ] at c0 c1 c2 c3
  refine bodyPost_ret (v := .agg #[.int .i64 b0, .int .i64 b1, .int .i64 b2, .int .i64 b3]) (by simp [results, Tryz.results102, go_sem, c0, c1, c2, c3]) rfl ⟨rfl, BB⟩
set_option maxHeartbeats 2000000 in
theorem rgMeets_any (a0 a1 a2 a3 b0 b1 b2 b3 : Int) (w : World) (ha : VP (a0, a1, a2, a3)) (hb : VP (b0, b1, b2, b3)) :
    Calls Tryz.prog 103 #[.agg #[.int .i64 a0, .int .i64 a1, .int .i64 a2, .int .i64 a3], .agg #[.int .i64 b0, .int .i64 b1, .int .i64 b2, .int .i64 b3]] w fun e w' => e = .returned (.bool (meetB (a0, a1, a2, a3) (b0, b1, b2, b3))) ∧ Below w.heap.size w w' := by
  have KM := fun W => Meet_any a0 a1 a2 a3 b0 b1 b2 b3 W ha hb
  clear ha hb
  cases hm : meetB (a0, a1, a2, a3) (b0, b1, b2, b3)
  all_goals
    rw [hm] at KM
    simp only [if_true, Bool.false_eq_true, if_false] at KM
    have KM := Lib.hid KM
    clear hm
    go_enter Tryz.func103, Tryz.ntmps103
    go_wp2_with fail
    (with_reducible refine (KM.out _).mono ?_)
    rintro e w1 ⟨r0, r1, r2, r3, rfl, hb1⟩
    have HB := Lib.hid ((two_bl hb1).alloc (two_bl hb1).size (.cells #[.int .i64 r0, .int .i64 r1, .int .i64 r2, .int .i64 r3] 43))
    clear hb1
    go_wp2
    go_ret
    exact ⟨ret_bool (by simp), HB.out⟩
end Go.Proofs.YtpemohoibeipfaaGreat
namespace Go.Proofs.YtpemohoibeipfaaGreat
open Go.RowKit
set_option maxHeartbeats 4000000 in
set_option maxRecDepth 100000 in
theorem rSide_yes (a0 a1 o0 o1 r0 r1 q0 q1 q2 q3 : Int) (w : World) (hc : VC a0 a1 o0 o1 r0 r1) (hq : VP (q0, q1, q2, q3)) :
    Calls Tryz.prog 156 #[.agg #[.int .i64 a0, .int .i64 a1, .int .i64 o0, .int .i64 o1, .int .i64 r0, .int .i64 r1], .agg #[.int .i64 q0, .int .i64 q1, .int .i64 q2, .int .i64 q3]] w fun e w' => e = .returned (.int .i64 (sdV (Trig.sinT (q0, q1) (a0, a1) (q2 - o1, q3 - o0)) (Trig.csP (r0, r1)))) ∧ Below w.heap.size w w' := by
  have bq := vp_bd hq
  have bp := vp_bd hc.p
  have br := hc.h0
  have br1 := hc.h1
  have br2 := hc.h2
  have KT := fun W => Triangle2_any a0 a1 o0 o1 r0 r1 q0 q1 q2 q3 W (by omega)
  have KS := fun W => Sine25_any (q0, q1) (a0, a1) (q2 - o1, q3 - o0) W (by simp only []; omega) (by simp only []; omega) (by simp only []; omega)
  have KC := fun W => CosR_any r0 r1 W (by omega) (by omega) (by omega) (by omega)
  rw [show Trig.enLo (r0 + 5400000) (r1 + 5400000) = (Trig.csP (r0, r1)).1 from rfl, show Trig.enHi (r0 + 5400000) (r1 + 5400000) = (Trig.csP (r0, r1)).2 from rfl] at KC
  clear hc hq bq bp br br1 br2
  generalize Trig.sinT (q0, q1) (a0, a1) (q2 - o1, q3 - o0) = s at *
  generalize Trig.csP (r0, r1) = tr at *
  obtain ⟨V, hV⟩ : ∃ V, sdV s tr = V := ⟨_, rfl⟩
  rw [hV]
  unfold sdV at hV
  obtain ⟨t0, t1⟩ := tr
  obtain ⟨s0, s1⟩ := s
  simp only [] at KS KC hV
  generalize q2 - o1 = c0 at *
  generalize q3 - o0 = c1 at *
  have KT := Lib.hid KT
  have KS := Lib.hid KS
  have KC := Lib.hid KC
  have HV := Lib.hid hV
  clear hV
  have C0 := Lib.hid ((Blk.new w 36 #[.int .i64 a0, .int .i64 a1, .int .i64 o0, .int .i64 o1, .int .i64 r0, .int .i64 r1]).alloc (.cells #[.int .i64 q0, .int .i64 q1, .int .i64 q2, .int .i64 q3] 43))
  have B0 := Lib.hid ((bl_alloc w (.cells #[.int .i64 a0, .int .i64 a1, .int .i64 o0, .int .i64 o1, .int .i64 r0, .int .i64 r1] 36)).alloc (by simp) (.cells #[.int .i64 q0, .int .i64 q1, .int .i64 q2, .int .i64 q3] 43))
  go_enter Tryz.func156, Tryz.ntmps156
  go_wp2_with fail
  (with_reducible refine (KT.out _).mono ?_)
  rintro e w1 ⟨rfl, hb1⟩
  have C1 := Lib.hid (C0.out.below hb1 C0.out.lt)
  have B1 := Lib.hid (B0.out.trans (hb1.mono B0.out.size))
  clear hb1 C0 B0 KT
  go_wp2_with fail
  (with_reducible refine (KS.out _).mono ?_)
  rintro e w2 ⟨rfl, hb2⟩
  have C2 := Lib.hid ((C1.out.below hb2 C1.out.lt).alloc (.cells #[.int .i64 s0, .int .i64 s1] 85))
  have D2' := Lib.hid (D2.new w2 s0 s1 85)
  have b2 := B1.out.trans (hb2.mono B1.out.size)
  have B2 := Lib.hid (b2.alloc b2.size (.cells #[.int .i64 s0, .int .i64 s1] 85))
  have k4 : (w2.alloc (.cells #[.int .i64 s0, .int .i64 s1] 85)).cell? ⟨w.heap.size, 4, none⟩ = some (.int .i64 r0) := C2.out.cell 4
  have k5 : (w2.alloc (.cells #[.int .i64 s0, .int .i64 s1] 85)).cell? ⟨w.heap.size, 5, none⟩ = some (.int .i64 r1) := C2.out.cell 5
  clear hb2 b2 C1 B1 KS
  go_wp2_with fail
  (with_reducible refine (KC.out _).mono ?_)
  rintro e w3 ⟨rfl, hb3⟩
  have D3 := Lib.hid ((D2'.out.below hb3 D2'.out.lt).alloc (.cells #[.int .i64 t0, .int .i64 t1] 85))
  have b3 := B2.out.trans (hb3.mono B2.out.size)
  have B3 := Lib.hid (b3.alloc b3.size (.cells #[.int .i64 t0, .int .i64 t1] 85))
  clear hb3 b3 C2 B2 D2' k4 k5 KC
  obtain ⟨-, u0, u1, -, -⟩ := D3.out
  have HV := HV.out
  by_cases h1 : t1 < s0
  · rw [if_pos h1] at HV
    subst HV
    have d1 : decide (t1 < s0) = true := decide_eq_true h1
    clear h1
    go_wp2
    go_ret
    exact ⟨rfl, B3.out⟩
  · rw [if_neg h1] at HV
    have d1 : decide (t1 < s0) = false := decide_eq_false h1
    by_cases h2 : s1 < t0
    · rw [if_pos h2] at HV
      subst HV
      have d2 : decide (s1 < t0) = true := decide_eq_true h2
      clear h1 h2
      go_wp2
      go_ret
      exact ⟨rfl, B3.out⟩
    · rw [if_neg h2] at HV
      subst HV
      have d2 : decide (s1 < t0) = false := decide_eq_false h2
      clear h1 h2
      go_wp2
      go_ret
      exact ⟨rfl, B3.out⟩
end Go.Proofs.YtpemohoibeipfaaGreat
