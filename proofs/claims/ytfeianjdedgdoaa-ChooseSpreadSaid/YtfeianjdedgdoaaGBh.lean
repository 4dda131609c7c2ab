/- The walk of arctrig's Bearing of points ahead. -/
import Derived.Test.YtfeianjdedgdoaaGBf
import Derived.Test.YtfeianjdedgdoaaGUn
set_option linter.unusedVariables false
set_option linter.unusedSimpArgs false
namespace Go.Proofs.Ytfeianjdedgdoaa
open Go.RowKit
theorem corner_at0 (a0 a1 a2 a3 a4 a5 a6 a7 : Int) (W : World) : (Instr.index 83 (.agg #[.int .i64 a0, .int .i64 a1, .int .i64 a2, .int .i64 a3, .int .i64 a4, .int .i64 a5, .int .i64 a6, .int .i64 a7]) (.int .i64 0)).run Try.prog W = .ok (.agg #[.int .i64 a0, .int .i64 a1]) W := by
  have u := Try.underlying83
  have up := Try.underlying82
  have sp := Try.sizeOf82
  have ap := Try.isAgg82
  simp [Instr.index, run_underlying u, asIntOf, go_sem, part]
theorem corner_at1 (a0 a1 a2 a3 a4 a5 a6 a7 : Int) (W : World) : (Instr.index 83 (.agg #[.int .i64 a0, .int .i64 a1, .int .i64 a2, .int .i64 a3, .int .i64 a4, .int .i64 a5, .int .i64 a6, .int .i64 a7]) (.int .i64 1)).run Try.prog W = .ok (.agg #[.int .i64 a2, .int .i64 a3]) W := by
  have u := Try.underlying83
  have up := Try.underlying82
  have sp := Try.sizeOf82
  have ap := Try.isAgg82
  simp [Instr.index, run_underlying u, asIntOf, go_sem, part]
theorem corner_at2 (a0 a1 a2 a3 a4 a5 a6 a7 : Int) (W : World) : (Instr.index 83 (.agg #[.int .i64 a0, .int .i64 a1, .int .i64 a2, .int .i64 a3, .int .i64 a4, .int .i64 a5, .int .i64 a6, .int .i64 a7]) (.int .i64 2)).run Try.prog W = .ok (.agg #[.int .i64 a4, .int .i64 a5]) W := by
  have u := Try.underlying83
  have up := Try.underlying82
  have sp := Try.sizeOf82
  have ap := Try.isAgg82
  simp [Instr.index, run_underlying u, asIntOf, go_sem, part]
theorem corner_at3 (a0 a1 a2 a3 a4 a5 a6 a7 : Int) (W : World) : (Instr.index 83 (.agg #[.int .i64 a0, .int .i64 a1, .int .i64 a2, .int .i64 a3, .int .i64 a4, .int .i64 a5, .int .i64 a6, .int .i64 a7]) (.int .i64 3)).run Try.prog W = .ok (.agg #[.int .i64 a6, .int .i64 a7]) W := by
  have u := Try.underlying83
  have up := Try.underlying82
  have sp := Try.sizeOf82
  have ap := Try.isAgg82
  simp [Instr.index, run_underlying u, asIntOf, go_sem, part]
/-- some arc of directions -/
def BearR (e : Ending) : Prop := ∃ lo hi : Int, e = .returned (.tuple #[.agg #[.int .i64 lo, .int .i64 hi], .int .i64 0]) ∧ 0 ≤ lo ∧ lo < 5400000 ∧ lo ≤ hi ∧ hi ≤ lo + 27000001
set_option maxHeartbeats 4000000 in
set_option maxRecDepth 100000 in
theorem Bearing_ahead (x0 x1 : Int) (w : World) (h0 : 0 < x0) (h1 : x0 ≤ x1) (h2 : x1 ≤ 2147483648) :
    Calls Try.prog 33 #[.agg #[.int .i64 0, .int .i64 0], .agg #[.int .i64 x0, .int .i64 x1]] w fun e w' => BearR e ∧ Below w.heap.size w w' := by
  have KV0 := fun W => fValid_any 0 0 W
  have KV1 := fun W => fValid_any x0 x1 W
  rw [show fvB 0 0 = true from by decide] at KV0
  rw [show fvB x0 x1 = true from by unfold fvB; exact decide_eq_true (by omega)] at KV1
  have KV0 := Lib.hid KV0
  have KV1 := Lib.hid KV1
  have KA := Lib.hid (fun W => angle_ahead x1 W (by omega) (by omega))
  have KB : Hid (∀ (x x' : Int) W, Calls Try.prog 47 #[.agg #[.int .i64 x, .int .i64 0], .agg #[.int .i64 x', .int .i64 0]] W fun e w' => e = .returned (.bool true) ∧ Below W.heap.size W w') := Lib.hid (fun (x x' : Int) W => by
    have := before_any x 0 x' 0 W (by simp [wrap64]) (by simp [wrap64])
    rwa [show decide (0 * x' ≤ x * 0) = true from by simp] at this)
  have Y0 := Lib.hid (((Blk.new w 63 #[.int .i64 0, .int .i64 0]).alloc (.cells #[.int .i64 x0, .int .i64 x1] 63)).alloc (.cells #[.int .i64 0, .int .i64 0] 26))
  have xx := (Blk.new (w.alloc (.cells #[.int .i64 0, .int .i64 0] 63)) 63 #[.int .i64 x0, .int .i64 x1]).alloc (.cells #[.int .i64 0, .int .i64 0] 26)
  have zz := Blk.new ((w.alloc (.cells #[.int .i64 0, .int .i64 0] 63)).alloc (.cells #[.int .i64 x0, .int .i64 x1] 63)) 26 #[.int .i64 0, .int .i64 0]
  rw [World.size_alloc] at xx
  rw [World.size_alloc, World.size_alloc] at zz
  have X0 := Lib.hid xx
  have Z0 := Lib.hid zz
  have B0 := Lib.hid (((bl_alloc w (.cells #[.int .i64 0, .int .i64 0] 63)).alloc (by simp) (.cells #[.int .i64 x0, .int .i64 x1] 63)).alloc (by simp; omega) (.cells #[.int .i64 0, .int .i64 0] 26))
  clear xx zz
  have hd : decide (x0 ≤ 0) = false := decide_eq_false (by omega)
  go_enter Try.func33, Try.ntmps33
  go_wp2_with fail
  (with_reducible refine (KV1.out _).mono ?_)
  rintro e w1 ⟨rfl, hb1⟩
  have Y1 := Lib.hid (Y0.out.below hb1 Y0.out.lt)
  have X1 := Lib.hid (X0.out.below hb1 X0.out.lt)
  have Z1 := Lib.hid (Z0.out.below hb1 Z0.out.lt)
  have B1 := Lib.hid (B0.out.trans (hb1.mono B0.out.size))
  clear hb1 Y0 X0 Z0 B0
  have y0 : w1.cell? ⟨w.heap.size, 0, none⟩ = some (.int .i64 0) := Y1.out.cell 0
  have y1 : w1.cell? ⟨w.heap.size, 1, none⟩ = some (.int .i64 0) := Y1.out.cell 1
  go_wp2_with fail
  (with_reducible refine (KV0.out _).mono ?_)
  rintro e w2 ⟨rfl, hb2⟩
  clear y0 y1
  have Y2 := Lib.hid (Y1.out.below hb2 Y1.out.lt)
  have X2 := Lib.hid (X1.out.below hb2 X1.out.lt)
  have Z2 := Lib.hid (Z1.out.below hb2 Z1.out.lt)
  have B2 := Lib.hid (B1.out.trans (hb2.mono B1.out.size))
  clear hb2 Y1 X1 Z1 B1
  have y0 : w2.cell? ⟨w.heap.size, 0, none⟩ = some (.int .i64 0) := Y2.out.cell 0
  have y1 : w2.cell? ⟨w.heap.size, 1, none⟩ = some (.int .i64 0) := Y2.out.cell 1
  have q0 : w2.cell? ⟨w.heap.size + 1, 0, none⟩ = some (.int .i64 x0) := X2.out.cell 0
  have q1 : w2.cell? ⟨w.heap.size + 1, 1, none⟩ = some (.int .i64 x1) := X2.out.cell 1
  go_upto_region 6 with (fail)
  have C3 := Lib.hid (Blk.new w2 83 #[.int .i64 x0, .int .i64 0, .int .i64 x0, .int .i64 0, .int .i64 x1, .int .i64 0, .int .i64 x1, .int .i64 0])
  have Z3 := Lib.hid (Z2.out.alloc (.cells #[.int .i64 x0, .int .i64 0, .int .i64 x0, .int .i64 0, .int .i64 x1, .int .i64 0, .int .i64 x1, .int .i64 0] 83))
  have B3 := Lib.hid (B2.out.alloc B2.out.size (.cells #[.int .i64 x0, .int .i64 0, .int .i64 x0, .int .i64 0, .int .i64 x1, .int .i64 0, .int .i64 x1, .int .i64 0] 83))
  obtain ⟨w3, hw3⟩ : ∃ w3, w2.alloc (.cells #[.int .i64 x0, .int .i64 0, .int .i64 x0, .int .i64 0, .int .i64 x1, .int .i64 0, .int .i64 x1, .int .i64 0] 83) = w3 := ⟨_, rfl⟩
  rw [hw3] at C3 Z3 B3 ⊢
  clear hw3 y0 y1 q0 q1 X2 Y2 Z2 B2 KV0 KV1
  generalize w2.heap.size = g6 at *
  have c0 : w3.cell? ⟨g6, 0, none⟩ = some (.int .i64 x0) := C3.out.cell 0
  have c1 : w3.cell? ⟨g6, 1, none⟩ = some (.int .i64 0) := C3.out.cell 1
  have y0 := fun o => ((bl_alloc w3 o).cell (p := ⟨g6, 0, none⟩) C3.out.lt).trans c0
  have y1 := fun o => ((bl_alloc w3 o).cell (p := ⟨g6, 1, none⟩) C3.out.lt).trans c1
  have v0 := fun o o' => (((bl_alloc w3 o).alloc (by simp) o').cell (p := ⟨g6, 0, none⟩) C3.out.lt).trans c0
  have v1 := fun o o' => (((bl_alloc w3 o).alloc (by simp) o').cell (p := ⟨g6, 1, none⟩) C3.out.lt).trans c1
  go_cut [7, 8] from 7 to 67 (fun s7 s8 wy => ∃ g7 g8 : Nat, s7 = .pointer (some ⟨g7, 0, none⟩) ∧ s8 = .pointer (some ⟨g8, 0, none⟩) ∧ g7 ≠ g8 ∧ w3.heap.size ≤ g7 ∧ w3.heap.size ≤ g8 ∧ Blk wy g7 82 #[.int .i64 x0, .int .i64 0] ∧ Blk wy g8 82 #[.int .i64 x0, .int .i64 0] ∧ Below w3.heap.size w3 wy)
  case first =>
    have hA := Lib.hid ((Blk.new w3 82 #[.int .i64 x0, .int .i64 0]).alloc (.cells #[.int .i64 x0, .int .i64 0] 82))
    have hb' := Blk.new (w3.alloc (.cells #[.int .i64 x0, .int .i64 0] 82)) 82 #[.int .i64 x0, .int .i64 0]
    rw [World.size_alloc] at hb'
    have hB := Lib.hid hb'
    have hC := Lib.hid (bl_drew ((bl_alloc w3 (.cells #[.int .i64 x0, .int .i64 0] 82)).alloc (by simp) (.cells #[.int .i64 x0, .int .i64 0] 82)))
    clear hb'
    go_region
    all_goals
      try go_wp2
      go_meet
      case rel =>
        first
        | exact ⟨_, _, rfl, rfl, Nat.ne_of_lt (Nat.lt_succ_self _), Nat.le_refl _, Nat.le_succ _, hA.out.drew, hB.out.drew, hC.out⟩
        | exact ⟨_, _, rfl, rfl, Nat.ne_of_gt (Nat.lt_succ_self _), Nat.le_succ _, Nat.le_refl _, hB.out.drew, hA.out.drew, hC.out⟩
  case rest =>
  obtain ⟨g7, g8, rfl, rfl, hne, h7, h8, T7, T8, hb⟩ := hcut
  rename World => w4
  have hl3 := C3.out.lt
  have hz3 := Z3.out.lt
  have C4 := C3.out.below hb C3.out.lt
  have c0 : w4.cell? ⟨g6, 0, none⟩ = some (.int .i64 x0) := C4.cell 0
  have c1 : w4.cell? ⟨g6, 1, none⟩ = some (.int .i64 0) := C4.cell 1
  have c2 : w4.cell? ⟨g6, 2, none⟩ = some (.int .i64 x0) := C4.cell 2
  have c3 : w4.cell? ⟨g6, 3, none⟩ = some (.int .i64 0) := C4.cell 3
  have c4 : w4.cell? ⟨g6, 4, none⟩ = some (.int .i64 x1) := C4.cell 4
  have c5 : w4.cell? ⟨g6, 5, none⟩ = some (.int .i64 0) := C4.cell 5
  have c6 : w4.cell? ⟨g6, 6, none⟩ = some (.int .i64 x1) := C4.cell 6
  have c7 : w4.cell? ⟨g6, 7, none⟩ = some (.int .i64 0) := C4.cell 7
  have S0 := Lib.hid T7
  have L0 := Lib.hid T8
  have Z4 := Lib.hid (Z3.out.below hb Z3.out.lt)
  have B4 := Lib.hid (B3.out.trans (hb.mono B3.out.size))
  have hg7 : w.heap.size + 1 + 1 < g7 := by omega
  have hg8 : w.heap.size + 1 + 1 < g8 := by omega
  clear T7 T8 hb C4 C3 Z3 B3 y0 y1 v0 v1
  go_wp2
  clear c0 c1 c2 c3 c4 c5 c6 c7
  refine wp_loop_rounds 5 ?_
  rw [rounds_succ]
  have a0 : w4.cell? ⟨g7, 0, none⟩ = some (.int .i64 x0) := S0.out.cell 0
  have a1 : w4.cell? ⟨g7, 1, none⟩ = some (.int .i64 0) := S0.out.cell 1
  have a2 : ∀ W, (Instr.index 83 (.agg #[.int .i64 x0, .int .i64 0, .int .i64 x0, .int .i64 0, .int .i64 x1, .int .i64 0, .int .i64 x1, .int .i64 0]) (.int .i64 0)).run Try.prog W = .ok (.agg #[.int .i64 x0, .int .i64 0]) W := fun W => corner_at0 _ _ _ _ _ _ _ _ W
  have b0 := fun o => ((bl_alloc w4 o).cell (p := ⟨g7, 0, none⟩) S0.out.lt).trans a0
  have b1 := fun o => ((bl_alloc w4 o).cell (p := ⟨g7, 1, none⟩) S0.out.lt).trans a1
  go_wp2_with fail
  (with_reducible refine (KB.out _ _ _).mono ?_)
  rintro e u0 ⟨rfl, hb5⟩
  clear a0 a1 a2 b0 b1
  have hb6 := (bl_alloc w4 (.cells #[.int .i64 x0, .int .i64 0] 82)).trans (hb5.mono (by simp))
  have N0 := Lib.hid ((Blk.new w4 82 #[.int .i64 x0, .int .i64 0]).below hb5 (by simp))
  have hlt7 := S0.out.lt
  have hlt8 := L0.out.lt
  have S0a := S0.out.below hb6 S0.out.lt
  have S0b := Lib.hid (((S0a.set_ 0 (.int .i64 x0)).set_ 1 (.int .i64 0)))
  have L0b := Lib.hid (((L0.out.below hb6 L0.out.lt).far (p := ⟨g7, 0, none⟩) hne.symm (.int .i64 x0)).far (p := ⟨g7, 1, none⟩) hne.symm (.int .i64 0))
  have N0b := Lib.hid ((N0.out.far (p := ⟨g7, 0, none⟩) (by simp only []; omega) (.int .i64 x0)).far (p := ⟨g7, 1, none⟩) (by simp only []; omega) (.int .i64 0))
  have Z0b := Lib.hid (((Z4.out.below hb6 Z4.out.lt).far (p := ⟨g7, 0, none⟩) (by simp only []; omega) (.int .i64 x0)).far (p := ⟨g7, 1, none⟩) (by simp only []; omega) (.int .i64 0))
  have B0b := Lib.hid (((B4.out.trans (hb6.mono B4.out.size)).setCell (p := ⟨g7, 0, none⟩) (by simp only []; omega) (.int .i64 x0)).setCell (p := ⟨g7, 1, none⟩) (by simp only []; omega) (.int .i64 0))
  have a0 : u0.cell? ⟨g7, 0, none⟩ = some (.int .i64 x0) := S0a.cell 0
  have a1 : u0.cell? ⟨g7, 1, none⟩ = some (.int .i64 0) := S0a.cell 1
  have f0 := S0a.frozen 0
  have f1 := S0a.frozen 1
  have d0 : u0.cell? ⟨w4.heap.size, 0, none⟩ = some (.int .i64 x0) := N0.out.cell 0
  have d1 : u0.cell? ⟨w4.heap.size, 1, none⟩ = some (.int .i64 0) := N0.out.cell 1
  go_upto_region 12 with (fail)
  generalize ((u0.setCell ⟨g7, 0, none⟩ (.int .i64 x0)).setCell ⟨g7, 1, none⟩ (.int .i64 0)) = v0 at *
  clear a0 a1 f0 f1 d0 d1 hb5 hb6 S0a
  generalize w4.heap.size = g0c at *
  have a0 : v0.cell? ⟨g8, 0, none⟩ = some (.int .i64 x0) := L0b.out.cell 0
  have a1 : v0.cell? ⟨g8, 1, none⟩ = some (.int .i64 0) := L0b.out.cell 1
  have d0 : v0.cell? ⟨g0c, 0, none⟩ = some (.int .i64 x0) := N0b.out.cell 0
  have d1 : v0.cell? ⟨g0c, 1, none⟩ = some (.int .i64 0) := N0b.out.cell 1
  go_wp2_with fail
  (with_reducible refine (KB.out _ _ _).mono ?_)
  rintro e t0 ⟨rfl, hb7⟩
  clear a0 a1 d0 d1
  have Sa := S0b.out.below hb7 S0b.out.lt
  have La := L0b.out.below hb7 L0b.out.lt
  have Na := N0b.out.below hb7 N0b.out.lt
  have S1 : Hid (Blk ((t0.setCell ⟨g8, 0, none⟩ (.int .i64 x0)).setCell ⟨g8, 1, none⟩ (.int .i64 0)) g7 82 #[.int .i64 x0, .int .i64 0]) := Lib.hid ((Sa.far (p := ⟨g8, 0, none⟩) hne _).far (p := ⟨g8, 1, none⟩) hne _)
  have L1 : Hid (Blk ((t0.setCell ⟨g8, 0, none⟩ (.int .i64 x0)).setCell ⟨g8, 1, none⟩ (.int .i64 0)) g8 82 #[.int .i64 x0, .int .i64 0]) := Lib.hid ((La.set_ 0 _).set_ 1 _)
  have Z0c := Lib.hid (((Z0b.out.below hb7 Z0b.out.lt).far (p := ⟨g8, 0, none⟩) (by simp only []; omega) (.int .i64 x0)).far (p := ⟨g8, 1, none⟩) (by simp only []; omega) (.int .i64 0))
  have B0c := Lib.hid (((B0b.out.trans (hb7.mono B0b.out.size)).setCell (p := ⟨g8, 0, none⟩) (by simp only []; omega) (.int .i64 x0)).setCell (p := ⟨g8, 1, none⟩) (by simp only []; omega) (.int .i64 0))
  have a0 : t0.cell? ⟨g8, 0, none⟩ = some (.int .i64 x0) := La.cell 0
  have a1 : t0.cell? ⟨g8, 1, none⟩ = some (.int .i64 0) := La.cell 1
  have f0 := La.frozen 0
  have f1 := La.frozen 1
  have d0 : t0.cell? ⟨g0c, 0, none⟩ = some (.int .i64 x0) := Na.cell 0
  have d1 : t0.cell? ⟨g0c, 1, none⟩ = some (.int .i64 0) := Na.cell 1
  go_wp2
  generalize ((t0.setCell ⟨g8, 0, none⟩ (.int .i64 x0)).setCell ⟨g8, 1, none⟩ (.int .i64 0)) = s0 at *
  clear a0 a1 f0 f1 d0 d1 hb7 Sa La Na S0 L0 S0b L0b N0 N0b Z0b B0b Z4 B4 hlt7 hlt8
  rw [rounds_succ]
  have a0 : s0.cell? ⟨g7, 0, none⟩ = some (.int .i64 x0) := S1.out.cell 0
  have a1 : s0.cell? ⟨g7, 1, none⟩ = some (.int .i64 0) := S1.out.cell 1
  have a2 : ∀ W, (Instr.index 83 (.agg #[.int .i64 x0, .int .i64 0, .int .i64 x0, .int .i64 0, .int .i64 x1, .int .i64 0, .int .i64 x1, .int .i64 0]) (.int .i64 1)).run Try.prog W = .ok (.agg #[.int .i64 x0, .int .i64 0]) W := fun W => corner_at1 _ _ _ _ _ _ _ _ W
  have b0 := fun o => ((bl_alloc s0 o).cell (p := ⟨g7, 0, none⟩) S1.out.lt).trans a0
  have b1 := fun o => ((bl_alloc s0 o).cell (p := ⟨g7, 1, none⟩) S1.out.lt).trans a1
  go_wp2_with fail
  (with_reducible refine (KB.out _ _ _).mono ?_)
  rintro e u1 ⟨rfl, hb5⟩
  clear a0 a1 a2 b0 b1
  have hb6 := (bl_alloc s0 (.cells #[.int .i64 x0, .int .i64 0] 82)).trans (hb5.mono (by simp))
  have N1 := Lib.hid ((Blk.new s0 82 #[.int .i64 x0, .int .i64 0]).below hb5 (by simp))
  have hlt7 := S1.out.lt
  have hlt8 := L1.out.lt
  have S1a := S1.out.below hb6 S1.out.lt
  have S1b := Lib.hid (((S1a.set_ 0 (.int .i64 x0)).set_ 1 (.int .i64 0)))
  have L1b := Lib.hid (((L1.out.below hb6 L1.out.lt).far (p := ⟨g7, 0, none⟩) hne.symm (.int .i64 x0)).far (p := ⟨g7, 1, none⟩) hne.symm (.int .i64 0))
  have N1b := Lib.hid ((N1.out.far (p := ⟨g7, 0, none⟩) (by simp only []; omega) (.int .i64 x0)).far (p := ⟨g7, 1, none⟩) (by simp only []; omega) (.int .i64 0))
  have Z1b := Lib.hid (((Z0c.out.below hb6 Z0c.out.lt).far (p := ⟨g7, 0, none⟩) (by simp only []; omega) (.int .i64 x0)).far (p := ⟨g7, 1, none⟩) (by simp only []; omega) (.int .i64 0))
  have B1b := Lib.hid (((B0c.out.trans (hb6.mono B0c.out.size)).setCell (p := ⟨g7, 0, none⟩) (by simp only []; omega) (.int .i64 x0)).setCell (p := ⟨g7, 1, none⟩) (by simp only []; omega) (.int .i64 0))
  have a0 : u1.cell? ⟨g7, 0, none⟩ = some (.int .i64 x0) := S1a.cell 0
  have a1 : u1.cell? ⟨g7, 1, none⟩ = some (.int .i64 0) := S1a.cell 1
  have f0 := S1a.frozen 0
  have f1 := S1a.frozen 1
  have d0 : u1.cell? ⟨s0.heap.size, 0, none⟩ = some (.int .i64 x0) := N1.out.cell 0
  have d1 : u1.cell? ⟨s0.heap.size, 1, none⟩ = some (.int .i64 0) := N1.out.cell 1
  go_upto_region 12 with (fail)
  generalize ((u1.setCell ⟨g7, 0, none⟩ (.int .i64 x0)).setCell ⟨g7, 1, none⟩ (.int .i64 0)) = v1 at *
  clear a0 a1 f0 f1 d0 d1 hb5 hb6 S1a
  generalize s0.heap.size = g1c at *
  have a0 : v1.cell? ⟨g8, 0, none⟩ = some (.int .i64 x0) := L1b.out.cell 0
  have a1 : v1.cell? ⟨g8, 1, none⟩ = some (.int .i64 0) := L1b.out.cell 1
  have d0 : v1.cell? ⟨g1c, 0, none⟩ = some (.int .i64 x0) := N1b.out.cell 0
  have d1 : v1.cell? ⟨g1c, 1, none⟩ = some (.int .i64 0) := N1b.out.cell 1
  go_wp2_with fail
  (with_reducible refine (KB.out _ _ _).mono ?_)
  rintro e t1 ⟨rfl, hb7⟩
  clear a0 a1 d0 d1
  have Sa := S1b.out.below hb7 S1b.out.lt
  have La := L1b.out.below hb7 L1b.out.lt
  have Na := N1b.out.below hb7 N1b.out.lt
  have S2 : Hid (Blk ((t1.setCell ⟨g8, 0, none⟩ (.int .i64 x0)).setCell ⟨g8, 1, none⟩ (.int .i64 0)) g7 82 #[.int .i64 x0, .int .i64 0]) := Lib.hid ((Sa.far (p := ⟨g8, 0, none⟩) hne _).far (p := ⟨g8, 1, none⟩) hne _)
  have L2 : Hid (Blk ((t1.setCell ⟨g8, 0, none⟩ (.int .i64 x0)).setCell ⟨g8, 1, none⟩ (.int .i64 0)) g8 82 #[.int .i64 x0, .int .i64 0]) := Lib.hid ((La.set_ 0 _).set_ 1 _)
  have Z1c := Lib.hid (((Z1b.out.below hb7 Z1b.out.lt).far (p := ⟨g8, 0, none⟩) (by simp only []; omega) (.int .i64 x0)).far (p := ⟨g8, 1, none⟩) (by simp only []; omega) (.int .i64 0))
  have B1c := Lib.hid (((B1b.out.trans (hb7.mono B1b.out.size)).setCell (p := ⟨g8, 0, none⟩) (by simp only []; omega) (.int .i64 x0)).setCell (p := ⟨g8, 1, none⟩) (by simp only []; omega) (.int .i64 0))
  have a0 : t1.cell? ⟨g8, 0, none⟩ = some (.int .i64 x0) := La.cell 0
  have a1 : t1.cell? ⟨g8, 1, none⟩ = some (.int .i64 0) := La.cell 1
  have f0 := La.frozen 0
  have f1 := La.frozen 1
  have d0 : t1.cell? ⟨g1c, 0, none⟩ = some (.int .i64 x0) := Na.cell 0
  have d1 : t1.cell? ⟨g1c, 1, none⟩ = some (.int .i64 0) := Na.cell 1
  go_wp2
  generalize ((t1.setCell ⟨g8, 0, none⟩ (.int .i64 x0)).setCell ⟨g8, 1, none⟩ (.int .i64 0)) = s1 at *
  clear a0 a1 f0 f1 d0 d1 hb7 Sa La Na S1 L1 S1b L1b N1 N1b Z1b B1b Z0c B0c hlt7 hlt8
  rw [rounds_succ]
  have a0 : s1.cell? ⟨g7, 0, none⟩ = some (.int .i64 x0) := S2.out.cell 0
  have a1 : s1.cell? ⟨g7, 1, none⟩ = some (.int .i64 0) := S2.out.cell 1
  have a2 : ∀ W, (Instr.index 83 (.agg #[.int .i64 x0, .int .i64 0, .int .i64 x0, .int .i64 0, .int .i64 x1, .int .i64 0, .int .i64 x1, .int .i64 0]) (.int .i64 2)).run Try.prog W = .ok (.agg #[.int .i64 x1, .int .i64 0]) W := fun W => corner_at2 _ _ _ _ _ _ _ _ W
  have b0 := fun o => ((bl_alloc s1 o).cell (p := ⟨g7, 0, none⟩) S2.out.lt).trans a0
  have b1 := fun o => ((bl_alloc s1 o).cell (p := ⟨g7, 1, none⟩) S2.out.lt).trans a1
  go_wp2_with fail
  (with_reducible refine (KB.out _ _ _).mono ?_)
  rintro e u2 ⟨rfl, hb5⟩
  clear a0 a1 a2 b0 b1
  have hb6 := (bl_alloc s1 (.cells #[.int .i64 x1, .int .i64 0] 82)).trans (hb5.mono (by simp))
  have N2 := Lib.hid ((Blk.new s1 82 #[.int .i64 x1, .int .i64 0]).below hb5 (by simp))
  have hlt7 := S2.out.lt
  have hlt8 := L2.out.lt
  have S2a := S2.out.below hb6 S2.out.lt
  have S2b := Lib.hid (((S2a.set_ 0 (.int .i64 x1)).set_ 1 (.int .i64 0)))
  have L2b := Lib.hid (((L2.out.below hb6 L2.out.lt).far (p := ⟨g7, 0, none⟩) hne.symm (.int .i64 x1)).far (p := ⟨g7, 1, none⟩) hne.symm (.int .i64 0))
  have N2b := Lib.hid ((N2.out.far (p := ⟨g7, 0, none⟩) (by simp only []; omega) (.int .i64 x1)).far (p := ⟨g7, 1, none⟩) (by simp only []; omega) (.int .i64 0))
  have Z2b := Lib.hid (((Z1c.out.below hb6 Z1c.out.lt).far (p := ⟨g7, 0, none⟩) (by simp only []; omega) (.int .i64 x1)).far (p := ⟨g7, 1, none⟩) (by simp only []; omega) (.int .i64 0))
  have B2b := Lib.hid (((B1c.out.trans (hb6.mono B1c.out.size)).setCell (p := ⟨g7, 0, none⟩) (by simp only []; omega) (.int .i64 x1)).setCell (p := ⟨g7, 1, none⟩) (by simp only []; omega) (.int .i64 0))
  have a0 : u2.cell? ⟨g7, 0, none⟩ = some (.int .i64 x0) := S2a.cell 0
  have a1 : u2.cell? ⟨g7, 1, none⟩ = some (.int .i64 0) := S2a.cell 1
  have f0 := S2a.frozen 0
  have f1 := S2a.frozen 1
  have d0 : u2.cell? ⟨s1.heap.size, 0, none⟩ = some (.int .i64 x1) := N2.out.cell 0
  have d1 : u2.cell? ⟨s1.heap.size, 1, none⟩ = some (.int .i64 0) := N2.out.cell 1
  go_upto_region 12 with (fail)
  generalize ((u2.setCell ⟨g7, 0, none⟩ (.int .i64 x1)).setCell ⟨g7, 1, none⟩ (.int .i64 0)) = v2 at *
  clear a0 a1 f0 f1 d0 d1 hb5 hb6 S2a
  generalize s1.heap.size = g2c at *
  have a0 : v2.cell? ⟨g8, 0, none⟩ = some (.int .i64 x0) := L2b.out.cell 0
  have a1 : v2.cell? ⟨g8, 1, none⟩ = some (.int .i64 0) := L2b.out.cell 1
  have d0 : v2.cell? ⟨g2c, 0, none⟩ = some (.int .i64 x1) := N2b.out.cell 0
  have d1 : v2.cell? ⟨g2c, 1, none⟩ = some (.int .i64 0) := N2b.out.cell 1
  go_wp2_with fail
  (with_reducible refine (KB.out _ _ _).mono ?_)
  rintro e t2 ⟨rfl, hb7⟩
  clear a0 a1 d0 d1
  have Sa := S2b.out.below hb7 S2b.out.lt
  have La := L2b.out.below hb7 L2b.out.lt
  have Na := N2b.out.below hb7 N2b.out.lt
  have S3 : Hid (Blk ((t2.setCell ⟨g8, 0, none⟩ (.int .i64 x1)).setCell ⟨g8, 1, none⟩ (.int .i64 0)) g7 82 #[.int .i64 x1, .int .i64 0]) := Lib.hid ((Sa.far (p := ⟨g8, 0, none⟩) hne _).far (p := ⟨g8, 1, none⟩) hne _)
  have L3 : Hid (Blk ((t2.setCell ⟨g8, 0, none⟩ (.int .i64 x1)).setCell ⟨g8, 1, none⟩ (.int .i64 0)) g8 82 #[.int .i64 x1, .int .i64 0]) := Lib.hid ((La.set_ 0 _).set_ 1 _)
  have Z2c := Lib.hid (((Z2b.out.below hb7 Z2b.out.lt).far (p := ⟨g8, 0, none⟩) (by simp only []; omega) (.int .i64 x1)).far (p := ⟨g8, 1, none⟩) (by simp only []; omega) (.int .i64 0))
  have B2c := Lib.hid (((B2b.out.trans (hb7.mono B2b.out.size)).setCell (p := ⟨g8, 0, none⟩) (by simp only []; omega) (.int .i64 x1)).setCell (p := ⟨g8, 1, none⟩) (by simp only []; omega) (.int .i64 0))
  have a0 : t2.cell? ⟨g8, 0, none⟩ = some (.int .i64 x0) := La.cell 0
  have a1 : t2.cell? ⟨g8, 1, none⟩ = some (.int .i64 0) := La.cell 1
  have f0 := La.frozen 0
  have f1 := La.frozen 1
  have d0 : t2.cell? ⟨g2c, 0, none⟩ = some (.int .i64 x1) := Na.cell 0
  have d1 : t2.cell? ⟨g2c, 1, none⟩ = some (.int .i64 0) := Na.cell 1
  go_wp2
  generalize ((t2.setCell ⟨g8, 0, none⟩ (.int .i64 x1)).setCell ⟨g8, 1, none⟩ (.int .i64 0)) = s2 at *
  clear a0 a1 f0 f1 d0 d1 hb7 Sa La Na S2 L2 S2b L2b N2 N2b Z2b B2b Z1c B1c hlt7 hlt8
  rw [rounds_succ]
  have a0 : s2.cell? ⟨g7, 0, none⟩ = some (.int .i64 x1) := S3.out.cell 0
  have a1 : s2.cell? ⟨g7, 1, none⟩ = some (.int .i64 0) := S3.out.cell 1
  have a2 : ∀ W, (Instr.index 83 (.agg #[.int .i64 x0, .int .i64 0, .int .i64 x0, .int .i64 0, .int .i64 x1, .int .i64 0, .int .i64 x1, .int .i64 0]) (.int .i64 3)).run Try.prog W = .ok (.agg #[.int .i64 x1, .int .i64 0]) W := fun W => corner_at3 _ _ _ _ _ _ _ _ W
  have b0 := fun o => ((bl_alloc s2 o).cell (p := ⟨g7, 0, none⟩) S3.out.lt).trans a0
  have b1 := fun o => ((bl_alloc s2 o).cell (p := ⟨g7, 1, none⟩) S3.out.lt).trans a1
  go_wp2_with fail
  (with_reducible refine (KB.out _ _ _).mono ?_)
  rintro e u3 ⟨rfl, hb5⟩
  clear a0 a1 a2 b0 b1
  have hb6 := (bl_alloc s2 (.cells #[.int .i64 x1, .int .i64 0] 82)).trans (hb5.mono (by simp))
  have N3 := Lib.hid ((Blk.new s2 82 #[.int .i64 x1, .int .i64 0]).below hb5 (by simp))
  have hlt7 := S3.out.lt
  have hlt8 := L3.out.lt
  have S3a := S3.out.below hb6 S3.out.lt
  have S3b := Lib.hid (((S3a.set_ 0 (.int .i64 x1)).set_ 1 (.int .i64 0)))
  have L3b := Lib.hid (((L3.out.below hb6 L3.out.lt).far (p := ⟨g7, 0, none⟩) hne.symm (.int .i64 x1)).far (p := ⟨g7, 1, none⟩) hne.symm (.int .i64 0))
  have N3b := Lib.hid ((N3.out.far (p := ⟨g7, 0, none⟩) (by simp only []; omega) (.int .i64 x1)).far (p := ⟨g7, 1, none⟩) (by simp only []; omega) (.int .i64 0))
  have Z3b := Lib.hid (((Z2c.out.below hb6 Z2c.out.lt).far (p := ⟨g7, 0, none⟩) (by simp only []; omega) (.int .i64 x1)).far (p := ⟨g7, 1, none⟩) (by simp only []; omega) (.int .i64 0))
  have B3b := Lib.hid (((B2c.out.trans (hb6.mono B2c.out.size)).setCell (p := ⟨g7, 0, none⟩) (by simp only []; omega) (.int .i64 x1)).setCell (p := ⟨g7, 1, none⟩) (by simp only []; omega) (.int .i64 0))
  have a0 : u3.cell? ⟨g7, 0, none⟩ = some (.int .i64 x1) := S3a.cell 0
  have a1 : u3.cell? ⟨g7, 1, none⟩ = some (.int .i64 0) := S3a.cell 1
  have f0 := S3a.frozen 0
  have f1 := S3a.frozen 1
  have d0 : u3.cell? ⟨s2.heap.size, 0, none⟩ = some (.int .i64 x1) := N3.out.cell 0
  have d1 : u3.cell? ⟨s2.heap.size, 1, none⟩ = some (.int .i64 0) := N3.out.cell 1
  go_upto_region 12 with (fail)
  generalize ((u3.setCell ⟨g7, 0, none⟩ (.int .i64 x1)).setCell ⟨g7, 1, none⟩ (.int .i64 0)) = v3 at *
  clear a0 a1 f0 f1 d0 d1 hb5 hb6 S3a
  generalize s2.heap.size = g3c at *
  have a0 : v3.cell? ⟨g8, 0, none⟩ = some (.int .i64 x1) := L3b.out.cell 0
  have a1 : v3.cell? ⟨g8, 1, none⟩ = some (.int .i64 0) := L3b.out.cell 1
  have d0 : v3.cell? ⟨g3c, 0, none⟩ = some (.int .i64 x1) := N3b.out.cell 0
  have d1 : v3.cell? ⟨g3c, 1, none⟩ = some (.int .i64 0) := N3b.out.cell 1
  go_wp2_with fail
  (with_reducible refine (KB.out _ _ _).mono ?_)
  rintro e t3 ⟨rfl, hb7⟩
  clear a0 a1 d0 d1
  have Sa := S3b.out.below hb7 S3b.out.lt
  have La := L3b.out.below hb7 L3b.out.lt
  have Na := N3b.out.below hb7 N3b.out.lt
  have S4 : Hid (Blk ((t3.setCell ⟨g8, 0, none⟩ (.int .i64 x1)).setCell ⟨g8, 1, none⟩ (.int .i64 0)) g7 82 #[.int .i64 x1, .int .i64 0]) := Lib.hid ((Sa.far (p := ⟨g8, 0, none⟩) hne _).far (p := ⟨g8, 1, none⟩) hne _)
  have L4 : Hid (Blk ((t3.setCell ⟨g8, 0, none⟩ (.int .i64 x1)).setCell ⟨g8, 1, none⟩ (.int .i64 0)) g8 82 #[.int .i64 x1, .int .i64 0]) := Lib.hid ((La.set_ 0 _).set_ 1 _)
  have Z3c := Lib.hid (((Z3b.out.below hb7 Z3b.out.lt).far (p := ⟨g8, 0, none⟩) (by simp only []; omega) (.int .i64 x1)).far (p := ⟨g8, 1, none⟩) (by simp only []; omega) (.int .i64 0))
  have B3c := Lib.hid (((B3b.out.trans (hb7.mono B3b.out.size)).setCell (p := ⟨g8, 0, none⟩) (by simp only []; omega) (.int .i64 x1)).setCell (p := ⟨g8, 1, none⟩) (by simp only []; omega) (.int .i64 0))
  have a0 : t3.cell? ⟨g8, 0, none⟩ = some (.int .i64 x1) := La.cell 0
  have a1 : t3.cell? ⟨g8, 1, none⟩ = some (.int .i64 0) := La.cell 1
  have f0 := La.frozen 0
  have f1 := La.frozen 1
  have d0 : t3.cell? ⟨g3c, 0, none⟩ = some (.int .i64 x1) := Na.cell 0
  have d1 : t3.cell? ⟨g3c, 1, none⟩ = some (.int .i64 0) := Na.cell 1
  go_wp2
  generalize ((t3.setCell ⟨g8, 0, none⟩ (.int .i64 x1)).setCell ⟨g8, 1, none⟩ (.int .i64 0)) = s3 at *
  clear a0 a1 f0 f1 d0 d1 hb7 Sa La Na S3 L3 S3b L3b N3 N3b Z3b B3b Z2c B2c hlt7 hlt8
  rw [rounds_succ]
  have a0 : s3.cell? ⟨g7, 0, none⟩ = some (.int .i64 x1) := S4.out.cell 0
  have a1 : s3.cell? ⟨g7, 1, none⟩ = some (.int .i64 0) := S4.out.cell 1
  go_wp2_with fail
  (with_reducible refine (KA.out _).mono ?_)
  rintro e w8 ⟨⟨lo, bo, rfl, hlo0, hlo1⟩, hb8⟩
  clear a0 a1
  have L8 := L4.out.below hb8 L4.out.lt
  have Z8 := Lib.hid (Z3c.out.below hb8 Z3c.out.lt)
  have B8 := Lib.hid (B3c.out.trans (hb8.mono B3c.out.size))
  have a0 : w8.cell? ⟨g8, 0, none⟩ = some (.int .i64 x1) := L8.cell 0
  have a1 : w8.cell? ⟨g8, 1, none⟩ = some (.int .i64 0) := L8.cell 1
  go_wp2_with fail
  (with_reducible refine (KA.out _).mono ?_)
  rintro e w9 ⟨⟨hi, b2, rfl, hhi0, hhi1⟩, hb9⟩
  have Z9 := Z8.out.below hb9 Z8.out.lt
  have B9 := Lib.hid (B8.out.trans (hb9.mono B8.out.size))
  clear a0 a1 L8 hb8 hb9 S4 L4 Z3c B3c Z8 B8 KA KB
  have z0 : w9.cell? ⟨w.heap.size + 1 + 1, 0, none⟩ = some (.int .i64 0) := Z9.cell 0
  have z1 : w9.cell? ⟨w.heap.size + 1 + 1, 1, none⟩ = some (.int .i64 0) := Z9.cell 1
  have f0 := Z9.frozen 0
  have f1 := Z9.frozen 1
  clear Z9
  have n0 : wrap64 (hi + 21600000) = hi + 21600000 := IntWalk.wrap64_in _ (by omega)
  have n1 : wrap64 (hi + 1) = hi + 1 := IntWalk.wrap64_in _ (by omega)
  have n2 : wrap64 (hi + 21600000 + 1) = hi + 21600000 + 1 := IntWalk.wrap64_in _ (by omega)
  by_cases hlt : hi < lo <;> cases b2
  · have hdd : decide (hi < lo) = true := decide_eq_true hlt
    go_wp2
    refine bodyPost_ret (v := .tuple #[.agg #[.int .i64 lo, .int .i64 (hi + 21600000 + 1)], .int .i64 0]) (by simp [results, Try.results33, go_sem, *]) rfl ⟨⟨_, _, rfl, hlo0, hlo1, by omega, by omega⟩, ?_⟩
    exact (B9.out.setCell (by simp only []; omega) _).setCell (by simp only []; omega) _
  · have hdd : decide (hi < lo) = true := decide_eq_true hlt
    go_wp2
    refine bodyPost_ret (v := .tuple #[.agg #[.int .i64 lo, .int .i64 (hi + 21600000)], .int .i64 0]) (by simp [results, Try.results33, go_sem, *]) rfl ⟨⟨_, _, rfl, hlo0, hlo1, by omega, by omega⟩, ?_⟩
    exact (B9.out.setCell (by simp only []; omega) _).setCell (by simp only []; omega) _
  · have hdd : decide (hi < lo) = false := decide_eq_false hlt
    go_wp2
    refine bodyPost_ret (v := .tuple #[.agg #[.int .i64 lo, .int .i64 (hi + 1)], .int .i64 0]) (by simp [results, Try.results33, go_sem, *]) rfl ⟨⟨_, _, rfl, hlo0, hlo1, by omega, by omega⟩, ?_⟩
    exact (B9.out.setCell (by simp only []; omega) _).setCell (by simp only []; omega) _
  · have hdd : decide (hi < lo) = false := decide_eq_false hlt
    go_wp2
    refine bodyPost_ret (v := .tuple #[.agg #[.int .i64 lo, .int .i64 (hi)], .int .i64 0]) (by simp [results, Try.results33, go_sem, *]) rfl ⟨⟨_, _, rfl, hlo0, hlo1, by omega, by omega⟩, ?_⟩
    exact (B9.out.setCell (by simp only []; omega) _).setCell (by simp only []; omega) _
end Go.Proofs.Ytfeianjdedgdoaa
