/- The walk of place.Meet at valid places, and of fix.touch. -/
import Derived.LoopN
import Derived.Test.YtifdgdgfmjfbdaaGreatHPa
import Derived.Test.YtifdgdgfmjfbdaaGreatHWm
set_option linter.unusedVariables false
set_option linter.unusedSimpArgs false
namespace Go.Proofs.YtifdgdgfmjfbdaaGreat
open Go.RowKit
set_option maxHeartbeats 400000 in
theorem r5Sub_any (a b c d : Int) (w : World) (h0 : -2000000000000 ≤ a) (h1 : a ≤ 2000000000000) (h2 : -2000000000000 ≤ b) (h3 : b ≤ 2000000000000) (h4 : -2000000000000 ≤ c) (h5 : c ≤ 2000000000000) (h6 : -2000000000000 ≤ d) (h7 : d ≤ 2000000000000) :
    Calls Tryz.prog 66 #[.agg #[.int .i64 a, .int .i64 b], .agg #[.int .i64 c, .int .i64 d]] w fun e w' => e = .returned (.agg #[.int .i64 (a - d), .int .i64 (b - c)]) ∧ Below w.heap.size w w' := by
  go_enter Tryz.func66, Tryz.ntmps66
  go_wp2
  refine bodyPost_ret (v := .agg #[.int .i64 (a - d), .int .i64 (b - c)]) (by simp [results, Tryz.results66, go_sem, *]; done) rfl ⟨rfl, ?_⟩
  repeat (first | exact Below.refl _ _ | assumption | refine bl_drew ?_ | refine bl_drewN ?_ _ | refine Below.setCell ?_ (by first | assumption | omega | (simp; done) | (simp; omega)) _ | refine Below.alloc ?_ (by first | assumption | omega | (simp; done) | (simp; omega)) _)
theorem blk6 {W : World} {g : Nat} {t : TypeId} {z : Value} (h : Blk W g t #[z, z, z, z, z, z]) (u0 u1 u2 u3 u4 u5 : Value) : Blk ((((((W.setCell ⟨g, 0, none⟩ u0).setCell ⟨g, 1, none⟩ u1).setCell ⟨g, 2, none⟩ u2).setCell ⟨g, 3, none⟩ u3).setCell ⟨g, 4, none⟩ u4).setCell ⟨g, 5, none⟩ u5) g t #[u0, u1, u2, u3, u4, u5] := by
  have := ((((((h.set_ 0 u0).set_ 1 u1).set_ 2 u2).set_ 3 u3).set_ 4 u4).set_ 5 u5)
  simp only [List.setIfInBounds_toArray, List.set_cons_zero, List.set_cons_succ] at this
  exact this
theorem bl6 {B : Nat} {a w : World} {g : Nat} (h : Below B a w) (hg : B ≤ g) (u0 u1 u2 u3 u4 u5 : Value) : Below B a ((((((w.setCell ⟨g, 0, none⟩ u0).setCell ⟨g, 1, none⟩ u1).setCell ⟨g, 2, none⟩ u2).setCell ⟨g, 3, none⟩ u3).setCell ⟨g, 4, none⟩ u4).setCell ⟨g, 5, none⟩ u5) :=
  ((((((h.setCell hg u0).setCell hg u1).setCell hg u2).setCell hg u3).setCell hg u4).setCell hg u5)
theorem triS {W0 w' : World} {g k : Nat} {t t' : TypeId} {a0 a1 b0 b1 q0 q1 q2 q3 : Int} {z0 z1 : Value} (h : Blk W0 g t #[.int .i64 a0, .int .i64 a1, .int .i64 b0, .int .i64 b1, z0, z1]) (h' : Blk W0 k t' #[.int .i64 q0, .int .i64 q1, .int .i64 q2, .int .i64 q3]) (hb : Below W0.heap.size W0 w') :
    w'.cell? ⟨g, 0, none⟩ = some (.int .i64 a0) ∧ w'.cell? ⟨g, 1, none⟩ = some (.int .i64 a1) ∧ w'.cell? ⟨g, 2, none⟩ = some (.int .i64 b0) ∧ w'.cell? ⟨g, 3, none⟩ = some (.int .i64 b1) ∧ w'.cell? ⟨k, 0, none⟩ = some (.int .i64 q0) ∧ w'.cell? ⟨k, 1, none⟩ = some (.int .i64 q1) ∧ w'.cell? ⟨k, 2, none⟩ = some (.int .i64 q2) ∧ w'.cell? ⟨k, 3, none⟩ = some (.int .i64 q3) ∧ Below W0.heap.size W0 w' := by
  have u := h.below hb h.lt
  have v := h'.below hb h'.lt
  exact ⟨u.cell 0, u.cell 1, u.cell 2, u.cell 3, v.cell 0, v.cell 1, v.cell 2, v.cell 3, hb⟩
set_option maxHeartbeats 4000000 in
set_option maxRecDepth 100000 in
theorem Triangle2_any (a0 a1 b0 b1 r0 r1 q0 q1 q2 q3 : Int) (w : World) (h4 : -40000000 ≤ b0 ∧ b0 ≤ 40000000 ∧ -40000000 ≤ b1 ∧ b1 ≤ 40000000 ∧ -40000000 ≤ q2 ∧ q2 ≤ 40000000 ∧ -40000000 ≤ q3 ∧ q3 ≤ 40000000) :
    Calls Tryz.prog 247 #[.agg #[.int .i64 a0, .int .i64 a1, .int .i64 b0, .int .i64 b1, .int .i64 r0, .int .i64 r1], .agg #[.int .i64 q0, .int .i64 q1, .int .i64 q2, .int .i64 q3]] w fun e w' => e = .returned (.agg #[.int .i64 q0, .int .i64 q1, .int .i64 a0, .int .i64 a1, .int .i64 (q2 - b1), .int .i64 (q3 - b0)]) ∧ Below w.heap.size w w' := by
  have KS := Lib.hid (fun W => r5Sub_any q2 q3 b0 b1 W (by omega) (by omega) (by omega) (by omega) (by omega) (by omega) (by omega) (by omega))
  generalize q2 - b1 = y0 at *
  generalize q3 - b0 = y1 at *
  clear h4
  have T1 := Lib.hid (((Blk.new w 39 #[.int .i64 a0, .int .i64 a1, .int .i64 b0, .int .i64 b1, .int .i64 r0, .int .i64 r1]).alloc (.cells #[.int .i64 q0, .int .i64 q1, .int .i64 q2, .int .i64 q3] 31)).alloc (.cells #[.int .i64 0, .int .i64 0, .int .i64 0, .int .i64 0, .int .i64 0, .int .i64 0] 92))
  have T2 : Hid (Blk (((w.alloc (.cells #[.int .i64 a0, .int .i64 a1, .int .i64 b0, .int .i64 b1, .int .i64 r0, .int .i64 r1] 39)).alloc (.cells #[.int .i64 q0, .int .i64 q1, .int .i64 q2, .int .i64 q3] 31)).alloc (.cells #[.int .i64 0, .int .i64 0, .int .i64 0, .int .i64 0, .int .i64 0, .int .i64 0] 92)) (w.heap.size + 1) 31 #[.int .i64 q0, .int .i64 q1, .int .i64 q2, .int .i64 q3]) := Lib.hid (by
    have := (Blk.new (w.alloc (.cells #[.int .i64 a0, .int .i64 a1, .int .i64 b0, .int .i64 b1, .int .i64 r0, .int .i64 r1] 39)) 31 #[.int .i64 q0, .int .i64 q1, .int .i64 q2, .int .i64 q3]).alloc (.cells #[.int .i64 0, .int .i64 0, .int .i64 0, .int .i64 0, .int .i64 0, .int .i64 0] 92)
    rwa [World.size_alloc] at this)
  have TR : Hid (Blk (((w.alloc (.cells #[.int .i64 a0, .int .i64 a1, .int .i64 b0, .int .i64 b1, .int .i64 r0, .int .i64 r1] 39)).alloc (.cells #[.int .i64 q0, .int .i64 q1, .int .i64 q2, .int .i64 q3] 31)).alloc (.cells #[.int .i64 0, .int .i64 0, .int .i64 0, .int .i64 0, .int .i64 0, .int .i64 0] 92)) (w.heap.size + 1 + 1) 92 #[.int .i64 0, .int .i64 0, .int .i64 0, .int .i64 0, .int .i64 0, .int .i64 0]) := Lib.hid (by
    have := Blk.new ((w.alloc (.cells #[.int .i64 a0, .int .i64 a1, .int .i64 b0, .int .i64 b1, .int .i64 r0, .int .i64 r1] 39)).alloc (.cells #[.int .i64 q0, .int .i64 q1, .int .i64 q2, .int .i64 q3] 31)) 92 #[.int .i64 0, .int .i64 0, .int .i64 0, .int .i64 0, .int .i64 0, .int .i64 0]
    rwa [World.size_alloc, World.size_alloc] at this)
  have B0 := Lib.hid (((bl_alloc w (.cells #[.int .i64 a0, .int .i64 a1, .int .i64 b0, .int .i64 b1, .int .i64 r0, .int .i64 r1] 39)).alloc (by simp) (.cells #[.int .i64 q0, .int .i64 q1, .int .i64 q2, .int .i64 q3] 31)).alloc (by simp; omega) (.cells #[.int .i64 0, .int .i64 0, .int .i64 0, .int .i64 0, .int .i64 0, .int .i64 0] 92))
  go_enter Tryz.func247, Tryz.ntmps247
  go_upto_region 1 with (fail)
  generalize ((w.alloc (.cells #[.int .i64 a0, .int .i64 a1, .int .i64 b0, .int .i64 b1, .int .i64 r0, .int .i64 r1] 39)).alloc (.cells #[.int .i64 q0, .int .i64 q1, .int .i64 q2, .int .i64 q3] 31)).alloc (.cells #[.int .i64 0, .int .i64 0, .int .i64 0, .int .i64 0, .int .i64 0, .int .i64 0] 92) = W0 at *
  obtain ⟨x0, x1, x2, x3, x4, x5, x6, x7, -⟩ := triS T1.out T2.out (Below.refl _ _)
  have hn1 : ¬ w.heap.size + 1 + 1 = w.heap.size := by omega
  have hn2 : ¬ w.heap.size + 1 + 1 = w.heap.size + 1 := by omega
  go_region_held3 (fun w' => w'.cell? ⟨w.heap.size, 0, none⟩ = some (.int .i64 a0) ∧ w'.cell? ⟨w.heap.size, 1, none⟩ = some (.int .i64 a1) ∧ w'.cell? ⟨w.heap.size, 2, none⟩ = some (.int .i64 b0) ∧ w'.cell? ⟨w.heap.size, 3, none⟩ = some (.int .i64 b1) ∧ w'.cell? ⟨w.heap.size + 1, 0, none⟩ = some (.int .i64 q0) ∧ w'.cell? ⟨w.heap.size + 1, 1, none⟩ = some (.int .i64 q1) ∧ w'.cell? ⟨w.heap.size + 1, 2, none⟩ = some (.int .i64 q2) ∧ w'.cell? ⟨w.heap.size + 1, 3, none⟩ = some (.int .i64 q3)) (simp [*, World.cell?_setCell_other]) (first
    | (go_at_call 66; (with_reducible refine (KS.out _).mono ?_); rintro e w9 ⟨rfl, hb9⟩; (first | (replace hb9 := first_b hb9) | skip); have Z9 := hb9; clear x0 x1 x2 x3 x4 x5 x6 x7; have B9 := Lib.hid (B0.out.trans (Z9.mono B0.out.size)); have T9 := Lib.hid (TR.out.below Z9 TR.out.lt); obtain ⟨x0, x1, x2, x3, x4, x5, x6, x7, -⟩ := triS T1.out T2.out Z9; have z9 := fun i => T9.out.cell i; have f9 := fun i => T9.out.frozen i)
    | fail)
  all_goals
    have hB := B9.out
    have HZ := Lib.hid T9.out
    clear x0 x1 x2 x3 x4 x5 x6 x7 KS T1 T2 TR T9
    go_wp2
    clear z9 f9
    generalize hW : World.setCell _ (⟨w.heap.size + 1 + 1, 5, none⟩ : Addr) _ = W6
    have TB : Blk W6 (w.heap.size + 1 + 1) 92 #[.int .i64 q0, .int .i64 q1, .int .i64 a0, .int .i64 a1, .int .i64 y0, .int .i64 y1] := by
      rw [← hW]
      with_reducible exact blk6 HZ.out _ _ _ _ _ _
    have hBW : Below w.heap.size w W6 := by
      rw [← hW]
      with_reducible exact bl6 hB (Nat.le_succ_of_le (Nat.le_succ _)) _ _ _ _ _ _
    have z := fun i => TB.cell i
    clear hW hB HZ TB
    have c0 : W6.cell? ⟨w.heap.size + 1 + 1, 0, none⟩ = some (.int .i64 q0) := z 0
    have c1 : W6.cell? ⟨w.heap.size + 1 + 1, 1, none⟩ = some (.int .i64 q1) := z 1
    have c2 : W6.cell? ⟨w.heap.size + 1 + 1, 2, none⟩ = some (.int .i64 a0) := z 2
    have c3 : W6.cell? ⟨w.heap.size + 1 + 1, 3, none⟩ = some (.int .i64 a1) := z 3
    have c4 : W6.cell? ⟨w.heap.size + 1 + 1, 4, none⟩ = some (.int .i64 y0) := z 4
    have c5 : W6.cell? ⟨w.heap.size + 1 + 1, 5, none⟩ = some (.int .i64 y1) := z 5
    clear z
    refine bodyPost_ret (v := .agg #[.int .i64 q0, .int .i64 q1, .int .i64 a0, .int .i64 a1, .int .i64 y0, .int .i64 y1]) ?_ rfl ⟨rfl, hBW⟩
    clear hBW
    simp [results, Tryz.results247, go_sem, c0, c1, c2, c3, c4, c5]
end Go.Proofs.YtifdgdgfmjfbdaaGreat
namespace Go.Proofs.YtifdgdgfmjfbdaaGreat
open Go.RowKit
/-- two cells that are known -/
structure K2 (W : World) (g : Nat) (a b : Int) : Prop where
  lt : g < W.heap.size
  c0 : W.cell? ⟨g, 0, none⟩ = some (.int .i64 a)
  c1 : W.cell? ⟨g, 1, none⟩ = some (.int .i64 b)
  f0 : W.frozen? ⟨g, 0, none⟩ = false
  f1 : W.frozen? ⟨g, 1, none⟩ = false
section
variable {W W' : World} {g : Nat} {a b : Int}
end
end Go.Proofs.YtifdgdgfmjfbdaaGreat
namespace Go.Proofs.YtifdgdgfmjfbdaaGreat
open Go.RowKit
theorem validLat_yes (x y : Int) (w : World) (h1 : x ≤ y) (h2 : -5400000 ≤ x) (h3 : y ≤ 5400000) : Calls Tryz.prog 95 #[.agg #[.int .i64 x, .int .i64 y]] w fun e w' => e = .returned (.bool true) ∧ Below w.heap.size w w' := by
  have d3 : decide (y ≤ 5400000) = true := decide_eq_true h3
  go_enter Tryz.func95, Tryz.ntmps95
  go_wp2
  all_goals
    go_ret
    refine ⟨ret_bool (by first | rfl | (simp_all; done) | (simp_all; omega)), ?_⟩
    repeat (first | exact Below.refl _ _ | assumption | refine bl_drew ?_ | refine bl_drewN ?_ _ | refine Below.setCell ?_ (by first | assumption | omega | (simp; done) | (simp; omega)) _ | refine Below.alloc ?_ (by first | assumption | omega | (simp; done) | (simp; omega)) _)
set_option maxHeartbeats 400000 in
theorem validLon_yes (x y : Int) (w : World) (h1 : x ≤ y) (h2 : -10800000 ≤ x) (h3 : x < 10800000) (h4 : y - x < 21600000) : Calls Tryz.prog 96 #[.agg #[.int .i64 x, .int .i64 y]] w fun e w' => e = .returned (.bool true) ∧ Below w.heap.size w w' := by
  have ha : aeq x y (-10800000) 10800000 = false := by simp [aeq]; omega
  have K := Lib.hid (fun W => all_any x y W)
  rw [ha] at K
  have sy : IntKind.i64.wrap (y - x) = y - x := IntWalk.i64_in _ (by omega)
  clear ha
  go_enter Tryz.func96, Tryz.ntmps96
  go_wp2_with (go_at_call 134; (with_reducible refine (K.out _).mono ?_); rintro e w1 ⟨rfl, hb⟩; have hz := one_lt hb; have hb1 := one_bl hb; have y1 := (hb.cell (p := ⟨w.heap.size, 0, none⟩) (by simp)).trans (show _ = some (.int .i64 x) by simp); have y2 := (hb.cell (p := ⟨w.heap.size, 1, none⟩) (by simp)).trans (show _ = some (.int .i64 y) by simp))
  all_goals
    go_ret
    exact ⟨ret_bool (by first | rfl | (simp_all; done) | (simp_all; omega)), hb1⟩
/-- the numbers of a box -/
structure BoxOk (b0 b1 b2 b3 : Int) : Prop where
  l1 : b0 ≤ b1
  l2 : -5400000 ≤ b0
  l3 : b1 ≤ 5400000
  o1 : b2 ≤ b3
  o2 : -10800000 ≤ b2
  o3 : b2 < 10800000
  o4 : b3 - b2 < 21600000
set_option maxHeartbeats 400000 in
theorem placeValid_yes (b0 b1 b2 b3 : Int) (w : World) (hb : BoxOk b0 b1 b2 b3) : Calls Tryz.prog 43 #[.agg #[.int .i64 b0, .int .i64 b1, .int .i64 b2, .int .i64 b3]] w fun e w' => e = .returned (.bool true) ∧ Below w.heap.size w w' := by
  have K1 := Lib.hid (fun W => validLat_yes b0 b1 W hb.l1 hb.l2 hb.l3)
  have K2 := Lib.hid (fun W => validLon_yes b2 b3 W hb.o1 hb.o2 hb.o3 hb.o4)
  clear hb
  go_enter Tryz.func43, Tryz.ntmps43
  go_wp2_with (first | (go_at_call 95; (with_reducible refine (K1.out _).mono ?_); rintro e w1 ⟨rfl, hb⟩; have hz := one_lt hb; have hb1 := one_bl hb; have y1 := (hb.cell (p := ⟨w.heap.size, 2, none⟩) (by simp)).trans (show _ = some (.int .i64 b2) by simp); have y2 := (hb.cell (p := ⟨w.heap.size, 3, none⟩) (by simp)).trans (show _ = some (.int .i64 b3) by simp)) | (go_at_call 96; (with_reducible refine (K2.out _).mono ?_); rintro e w2 ⟨rfl, hb2⟩))
  go_ret
  exact ⟨rfl, hb1.trans (hb2.mono hb1.size)⟩
/-- whether a point is in a box -/
def inBox (b0 b1 b2 b3 a b : Int) : Bool := decide (b0 ≤ a ∧ a ≤ b1) && (decide (a = 5400000) || decide (a = -5400000) || lonIn b2 b3 b)
set_option maxHeartbeats 1000000 in
theorem placeContains_any (b0 b1 b2 b3 a b : Int) (w : World) (hb : BoxOk b0 b1 b2 b3) (hp : vptB a b = true) :
    Calls Tryz.prog 31 #[.agg #[.int .i64 b0, .int .i64 b1, .int .i64 b2, .int .i64 b3], .agg #[.int .i64 a, .int .i64 b]] w fun e w' => e = .returned (.tuple #[.bool (inBox b0 b1 b2 b3 a b), .int .i64 0]) ∧ Below w.heap.size w w' := by
  have K1 := Lib.hid (fun W => placeValid_yes b0 b1 b2 b3 W hb)
  have K2 := Lib.hid (vpt_yes a b hp)
  obtain ⟨p1, p2, p3, p4⟩ := vptB_true.1 hp
  have q1 := hb.o1
  have q2 := hb.o2
  have q3 := hb.o3
  have q4 := hb.o4
  have K3 := Lib.hid (fun W => has_place b2 b3 b W (by omega) (by omega) (by omega) (by omega) q1 q4)
  clear q1 q2 q3 q4 hb hp
  obtain ⟨R, hR⟩ : ∃ R, R = inBox b0 b1 b2 b3 a b := ⟨_, rfl⟩
  rw [← hR]
  have HR := Lib.hid hR
  clear hR
  go_enter Tryz.func31, Tryz.ntmps31
  go_wp2_with fail
  (with_reducible refine (K1.out _).mono ?_)
  rintro e w1 ⟨rfl, hb1⟩
  have hb1' := two_bl hb1
  have hz1 := two_lt hb1
  have x0 := (hb1.cell (p := ⟨w.heap.size, 0, none⟩) (by simp; omega)).trans (show _ = some (.int .i64 b0) by simp)
  have x1 := (hb1.cell (p := ⟨w.heap.size, 1, none⟩) (by simp; omega)).trans (show _ = some (.int .i64 b1) by simp)
  have x2 := (hb1.cell (p := ⟨w.heap.size, 2, none⟩) (by simp; omega)).trans (show _ = some (.int .i64 b2) by simp)
  have x3 := (hb1.cell (p := ⟨w.heap.size, 3, none⟩) (by simp; omega)).trans (show _ = some (.int .i64 b3) by simp)
  have y0 := (hb1.cell (p := ⟨w.heap.size + 1, 0, none⟩) (by simp)).trans (show _ = some (.int .i64 a) by simp)
  have y1 := (hb1.cell (p := ⟨w.heap.size + 1, 1, none⟩) (by simp)).trans (show _ = some (.int .i64 b) by simp)
  clear hb1
  go_wp2_with fail
  (with_reducible refine (K2.out _).mono ?_)
  rintro e w2 ⟨rfl, hb2⟩
  have hb2' := hb1'.trans (hb2.mono hb1'.size)
  have x0 := (hb2.cell (p := ⟨w.heap.size, 0, none⟩) hz1.1).trans x0
  have x1 := (hb2.cell (p := ⟨w.heap.size, 1, none⟩) hz1.1).trans x1
  have x2 := (hb2.cell (p := ⟨w.heap.size, 2, none⟩) hz1.1).trans x2
  have x3 := (hb2.cell (p := ⟨w.heap.size, 3, none⟩) hz1.1).trans x3
  have y0 := (hb2.cell (p := ⟨w.heap.size + 1, 0, none⟩) hz1.2).trans y0
  have y1 := (hb2.cell (p := ⟨w.heap.size + 1, 1, none⟩) hz1.2).trans y1
  clear hb2 hb1' K1 K2
  by_cases h0 : a < b0
  · have hE : Hid (R = false) := Lib.hid (by rw [HR.out]; simp [inBox]; omega)
    go_wp2
    go_ret2
    exact ⟨by rw [hE.out]; rfl, hb2'⟩
  · have d0 : decide (a < b0) = false := decide_eq_false h0
    by_cases h1 : b1 < a
    · have hE : Hid (R = false) := Lib.hid (by rw [HR.out]; simp [inBox]; omega)
      go_wp2
      go_ret2
      exact ⟨by rw [hE.out]; rfl, hb2'⟩
    · have d1 : decide (b1 < a) = false := decide_eq_false h1
      have hin : decide (b0 ≤ a ∧ a ≤ b1) = true := decide_eq_true (by omega)
      by_cases h2 : a = 5400000
      · have hE : Hid (R = true) := Lib.hid (by rw [HR.out, inBox, hin]; simp [h2])
        subst h2
        clear hin
        go_wp2
        go_ret2
        exact ⟨by rw [hE.out]; rfl, hb2'⟩
      · have e2 : (a == 5400000) = false := by simp [h2]
        by_cases h3 : a = -5400000
        · have hE : Hid (R = true) := Lib.hid (by rw [HR.out, inBox, hin]; simp [h3])
          subst h3
          clear hin
          go_wp2
          go_ret2
          exact ⟨by rw [hE.out]; rfl, hb2'⟩
        · have e3 : (a == -5400000) = false := by simp [h3]
          have hE : Hid (R = lonIn b2 b3 b) := Lib.hid (by rw [HR.out, inBox, hin]; simp [h2, h3])
          generalize lonIn b2 b3 b = z at K3 hE
          clear hin
          go_wp2_with (go_at_call 70; (with_reducible refine (K3.out _).mono ?_); rintro e w3 ⟨rfl, hb3⟩)
          go_ret2
          exact ⟨by rw [hE.out]; rfl, hb2'.trans (hb3.mono hb2'.size)⟩
end Go.Proofs.YtifdgdgfmjfbdaaGreat
namespace Go.Proofs.YtifdgdgfmjfbdaaGreat
open Go.RowKit
/-- arcs of longitudes -/
def VL (a : Sp) : Prop := (a.1 = -10800000 ∧ a.2 = 10800000) ∨ (-10800000 ≤ a.1 ∧ a.1 < 10800000 ∧ a.1 ≤ a.2 ∧ a.2 - a.1 < 21600000)
/-- the numbers of a valid place -/
structure VP (a : Bx) : Prop where
  l1 : a.1 ≤ a.2.1
  l2 : -5400000 ≤ a.1
  l3 : a.2.1 ≤ 5400000
  o : VL (a.2.2.1, a.2.2.2)
/-- four cells that are known -/
structure K4 (W : World) (g : Nat) (a b c d : Int) : Prop where
  lt : g < W.heap.size
  c0 : W.cell? ⟨g, 0, none⟩ = some (.int .i64 a)
  c1 : W.cell? ⟨g, 1, none⟩ = some (.int .i64 b)
  c2 : W.cell? ⟨g, 2, none⟩ = some (.int .i64 c)
  c3 : W.cell? ⟨g, 3, none⟩ = some (.int .i64 d)
  f0 : W.frozen? ⟨g, 0, none⟩ = false
  f1 : W.frozen? ⟨g, 1, none⟩ = false
  f2 : W.frozen? ⟨g, 2, none⟩ = false
  f3 : W.frozen? ⟨g, 3, none⟩ = false
section
variable {W W' : World} {g : Nat} {a b c d : Int}
end
theorem validLon_vl (x y : Int) (w : World) (h : VL (x, y)) : Calls Tryz.prog 96 #[.agg #[.int .i64 x, .int .i64 y]] w fun e w' => e = .returned (.bool true) ∧ Below w.heap.size w w' := by
  have h' : (x = -10800000 ∧ y = 10800000) ∨ (-10800000 ≤ x ∧ x < 10800000 ∧ x ≤ y ∧ y - x < 21600000) := h
  by_cases hc : x = -10800000 ∧ y = 10800000
  · obtain ⟨rfl, rfl⟩ := hc
    have K := Lib.hid (fun W => all_any (-10800000) 10800000 W)
    rw [show aeq (-10800000) 10800000 (-10800000) 10800000 = true by decide] at K
    clear h h'
    go_enter Tryz.func96, Tryz.ntmps96
    go_wp2_with (go_at_call 134; (with_reducible refine (K.out _).mono ?_); rintro e w1 ⟨rfl, hb⟩; have hz := one_lt hb; have hb1 := one_bl hb)
    all_goals
      go_ret
      exact ⟨ret_bool (by first | rfl | (simp_all; done) | (simp_all; omega)), hb1⟩
  · have h2 : -10800000 ≤ x ∧ x < 10800000 ∧ x ≤ y ∧ y - x < 21600000 := h'.resolve_left hc
    exact validLon_yes x y w h2.2.2.1 h2.1 h2.2.1 h2.2.2.2
set_option maxHeartbeats 400000 in
theorem placeValid_vp (b0 b1 b2 b3 : Int) (w : World) (hb : VP (b0, b1, b2, b3)) : Calls Tryz.prog 43 #[.agg #[.int .i64 b0, .int .i64 b1, .int .i64 b2, .int .i64 b3]] w fun e w' => e = .returned (.bool true) ∧ Below w.heap.size w w' := by
  have K1 := Lib.hid (fun W => validLat_yes b0 b1 W hb.l1 hb.l2 hb.l3)
  have K2 := Lib.hid (fun W => validLon_vl b2 b3 W hb.o)
  clear hb
  go_enter Tryz.func43, Tryz.ntmps43
  go_wp2_with (first | (go_at_call 95; (with_reducible refine (K1.out _).mono ?_); rintro e w1 ⟨rfl, hb⟩; have hz := one_lt hb; have hb1 := one_bl hb; have y1 := (hb.cell (p := ⟨w.heap.size, 2, none⟩) (by simp)).trans (show _ = some (.int .i64 b2) by simp); have y2 := (hb.cell (p := ⟨w.heap.size, 3, none⟩) (by simp)).trans (show _ = some (.int .i64 b3) by simp)) | (go_at_call 96; (with_reducible refine (K2.out _).mono ?_); rintro e w2 ⟨rfl, hb2⟩))
  go_ret
  exact ⟨rfl, hb1.trans (hb2.mono hb1.size)⟩
end Go.Proofs.YtifdgdgfmjfbdaaGreat
