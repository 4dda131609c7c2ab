/- The walk of trig's difference of numbers. -/
import Derived.Deep.RegionHeld3
import Derived.Deep.RegionLaw
import Derived.Deep.DeepCutAuto
import Derived.Deep.CutBlock
import Derived.Test.YtifdgdgfmjfbdaaGreatITf
import Derived.Test.YtifdgdgfmjfbdaaGreatIBase
set_option linter.unusedVariables false
set_option linter.unusedSimpArgs false
namespace Go.Proofs.YtifdgdgfmjfbdaaGreat
open Go.RowKit
abbrev arr4 (a0 a1 a2 a3 : Int) : Array Value := #[.int .u64 a0, .int .u64 a1, .int .u64 a2, .int .u64 a3]
/-- three blocks of four words, at the end of the memory that was there -/
structure Two4 (w wx : World) (a0 a1 a2 a3 b0 b1 b2 b3 : Int) : Prop where
  bl : Below w.heap.size w wx
  A : Blk wx w.heap.size 267 (arr4 a0 a1 a2 a3)
  B : Blk wx (w.heap.size + 1) 267 (arr4 b0 b1 b2 b3)
  C : Blk wx (w.heap.size + 1 + 1) 267 (arr4 0 0 0 0)
theorem Two4.drew {w wx : World} {a0 a1 a2 a3 b0 b1 b2 b3 : Int} (h : Two4 w wx a0 a1 a2 a3 b0 b1 b2 b3) : Two4 w wx.drew a0 a1 a2 a3 b0 b1 b2 b3 := ⟨bl_drew h.bl, h.A, h.B, h.C⟩
theorem Two4.start (w : World) (a0 a1 a2 a3 b0 b1 b2 b3 : Int) : Two4 w (((w.alloc (.cells (arr4 a0 a1 a2 a3) 267)).alloc (.cells (arr4 b0 b1 b2 b3) 267)).alloc (.cells (arr4 0 0 0 0) 267)) a0 a1 a2 a3 b0 b1 b2 b3 := by
  refine ⟨?_, ?_, ?_, ?_⟩
  · exact (((Below.refl _ _).alloc (Nat.le_refl _) _).alloc (by simp) _).alloc (by simp; omega) _
  · exact ((Blk.new w 267 (arr4 a0 a1 a2 a3)).alloc _).alloc _
  · have := (Blk.new (w.alloc (.cells (arr4 a0 a1 a2 a3) 267)) 267 (arr4 b0 b1 b2 b3)).alloc (.cells (arr4 0 0 0 0) 267)
    simpa using this
  · have := Blk.new ((w.alloc (.cells (arr4 a0 a1 a2 a3) 267)).alloc (.cells (arr4 b0 b1 b2 b3) 267)) 267 (arr4 0 0 0 0)
    simpa using this
theorem Two4.set_ {w wx : World} {a0 a1 a2 a3 b0 b1 b2 b3 : Int} (h : Two4 w wx a0 a1 a2 a3 b0 b1 b2 b3) (i : Nat) (u : Value) : 
    Below w.heap.size w (wx.setCell ⟨w.heap.size, i, none⟩ u) ∧ Blk (wx.setCell ⟨w.heap.size, i, none⟩ u) w.heap.size 267 ((arr4 a0 a1 a2 a3).setIfInBounds i u) ∧ Blk (wx.setCell ⟨w.heap.size, i, none⟩ u) (w.heap.size + 1) 267 (arr4 b0 b1 b2 b3) ∧ Blk (wx.setCell ⟨w.heap.size, i, none⟩ u) (w.heap.size + 1 + 1) 267 (arr4 0 0 0 0) :=
  ⟨h.bl.setCell (Nat.le_refl _) _, h.A.set_ i u, h.B.far (by simp) u, h.C.far (by simp; omega) u⟩

theorem Two4.set0 {w wx : World} {a0 a1 a2 a3 b0 b1 b2 b3 d : Int} (h : Two4 w wx a0 a1 a2 a3 b0 b1 b2 b3) : Two4 w (wx.setCell ⟨w.heap.size, 0, none⟩ (.int .u64 d)) d a1 a2 a3 b0 b1 b2 b3 := by
  obtain ⟨h1, h2, h3, h4⟩ := h.set_ 0 (.int .u64 d)
  exact ⟨h1, h2, h3, h4⟩
theorem Two4.set1 {w wx : World} {a0 a1 a2 a3 b0 b1 b2 b3 d : Int} (h : Two4 w wx a0 a1 a2 a3 b0 b1 b2 b3) : Two4 w (wx.setCell ⟨w.heap.size, 1, none⟩ (.int .u64 d)) a0 d a2 a3 b0 b1 b2 b3 := by
  obtain ⟨h1, h2, h3, h4⟩ := h.set_ 1 (.int .u64 d)
  exact ⟨h1, h2, h3, h4⟩
theorem Two4.set2 {w wx : World} {a0 a1 a2 a3 b0 b1 b2 b3 d : Int} (h : Two4 w wx a0 a1 a2 a3 b0 b1 b2 b3) : Two4 w (wx.setCell ⟨w.heap.size, 2, none⟩ (.int .u64 d)) a0 a1 d a3 b0 b1 b2 b3 := by
  obtain ⟨h1, h2, h3, h4⟩ := h.set_ 2 (.int .u64 d)
  exact ⟨h1, h2, h3, h4⟩
theorem Two4.set3 {w wx : World} {a0 a1 a2 a3 b0 b1 b2 b3 d : Int} (h : Two4 w wx a0 a1 a2 a3 b0 b1 b2 b3) : Two4 w (wx.setCell ⟨w.heap.size, 3, none⟩ (.int .u64 d)) a0 a1 a2 d b0 b1 b2 b3 := by
  obtain ⟨h1, h2, h3, h4⟩ := h.set_ 3 (.int .u64 d)
  exact ⟨h1, h2, h3, h4⟩
set_option maxHeartbeats 2000000 in
set_option maxRecDepth 100000 in
theorem subN_any (a0 a1 a2 a3 b0 b1 b2 b3 : Int) (w : World) (ha0 : U64 a0) (ha1 : U64 a1) (ha2 : U64 a2) (ha3 : U64 a3) (hb0 : U64 b0) (hb1 : U64 b1) (hb2 : U64 b2) (hb3 : U64 b3) :
    Calls Tryz.prog 280 #[num4 a0 a1 a2 a3, num4 b0 b1 b2 b3] w fun e w' => e = .returned (num4 (suD a0 b0 (suB a1 b1 (suB a2 b2 (suB a3 b3 0)))) (suD a1 b1 (suB a2 b2 (suB a3 b3 0))) (suD a2 b2 (suB a3 b3 0)) (suD a3 b3 0)) ∧ Below w.heap.size w w' := by
  have s3 := Lib.hid (sub64 a3 b3 0 ha3 hb3 (by omega) (by omega))
  have c3 := suB_bd a3 b3 0
  generalize suB a3 b3 0 = k3 at *
  generalize suD a3 b3 0 = d3 at *
  have s2 := Lib.hid (sub64 a2 b2 k3 ha2 hb2 c3.1 c3.2)
  have c2 := suB_bd a2 b2 k3
  generalize suB a2 b2 k3 = k2 at *
  generalize suD a2 b2 k3 = d2 at *
  have s1 := Lib.hid (sub64 a1 b1 k2 ha1 hb1 c2.1 c2.2)
  have c1 := suB_bd a1 b1 k2
  generalize suB a1 b1 k2 = k1 at *
  generalize suD a1 b1 k2 = d1 at *
  have s0 := Lib.hid (sub64 a0 b0 k1 ha0 hb0 c1.1 c1.2)
  generalize suB a0 b0 k1 = k0 at *
  generalize suD a0 b0 k1 = d0 at *
  clear ha0 ha1 ha2 ha3 hb0 hb1 hb2 hb3 c1 c2 c3
  go_enter Tryz.func280, Tryz.ntmps280
  go_wp2
  have T4 := Lib.hid (Two4.start w a0 a1 a2 a3 b0 b1 b2 b3)
  unfold arr4 at T4
  generalize ((w.alloc (.cells #[.int .u64 a0, .int .u64 a1, .int .u64 a2, .int .u64 a3] 267)).alloc (.cells #[.int .u64 b0, .int .u64 b1, .int .u64 b2, .int .u64 b3] 267)).alloc (.cells #[.int .u64 0, .int .u64 0, .int .u64 0, .int .u64 0] 267) = w4 at *
  refine wp_loop_rounds 5 ?_
  rw [rounds_succ]
  have x := T4.out.A.cell 3
  have f := T4.out.A.frozen 3
  have y := T4.out.B.cell 3
  simp at x y
  go_upto_block 1 with (fail)
  go_cut [5] (fun s5 wy => s5 = .int .u64 k3 ∧ Two4 w wy a0 a1 a2 d3 b0 b1 b2 b3)
  case first =>
    have q := s3.out
    go_wp2
    go_region_law (fail)
    all_goals
      go_wp2_with fail
      go_meet
      case rel => exact ⟨rfl, T4.out.drew.set3⟩
  case rest =>
  obtain ⟨rfl, T⟩ := hcut
  rename World => w3
  have T3 := Lib.hid T
  clear x f y T T4
  go_wp2
  rw [rounds_succ]
  have x := T3.out.A.cell 2
  have f := T3.out.A.frozen 2
  have y := T3.out.B.cell 2
  simp at x y
  go_upto_block 1 with (fail)
  go_cut [5] (fun s5 wy => s5 = .int .u64 k2 ∧ Two4 w wy a0 a1 d2 d3 b0 b1 b2 b3)
  case first =>
    have q := s2.out
    go_wp2
    go_region_law (fail)
    all_goals
      go_wp2_with fail
      go_meet
      case rel => exact ⟨rfl, T3.out.drew.set2⟩
  case rest =>
  obtain ⟨rfl, T⟩ := hcut
  rename World => w2
  have T2 := Lib.hid T
  clear x f y T T3
  go_wp2
  rw [rounds_succ]
  have x := T2.out.A.cell 1
  have f := T2.out.A.frozen 1
  have y := T2.out.B.cell 1
  simp at x y
  go_upto_block 1 with (fail)
  go_cut [5] (fun s5 wy => s5 = .int .u64 k1 ∧ Two4 w wy a0 d1 d2 d3 b0 b1 b2 b3)
  case first =>
    have q := s1.out
    go_wp2
    go_region_law (fail)
    all_goals
      go_wp2_with fail
      go_meet
      case rel => exact ⟨rfl, T2.out.drew.set1⟩
  case rest =>
  obtain ⟨rfl, T⟩ := hcut
  rename World => w1
  have T1 := Lib.hid T
  clear x f y T T2
  go_wp2
  rw [rounds_succ]
  have x := T1.out.A.cell 0
  have f := T1.out.A.frozen 0
  have y := T1.out.B.cell 0
  simp at x y
  go_upto_block 1 with (fail)
  go_cut [5] (fun s5 wy => s5 = .int .u64 k0 ∧ Two4 w wy d0 d1 d2 d3 b0 b1 b2 b3)
  case first =>
    have q := s0.out
    go_wp2
    go_region_law (fail)
    all_goals
      go_wp2_with fail
      go_meet
      case rel => exact ⟨rfl, T1.out.drew.set0⟩
  case rest =>
  obtain ⟨rfl, T⟩ := hcut
  rename World => w0
  have T0 := Lib.hid T
  clear x f y T T1
  go_wp2
  rw [rounds_succ]
  have x0 := T0.out.A.cell 0
  have x1 := T0.out.A.cell 1
  have x2 := T0.out.A.cell 2
  have x3 := T0.out.A.cell 3
  have z0 := T0.out.C.cell 0
  have z1 := T0.out.C.cell 1
  have z2 := T0.out.C.cell 2
  have z3 := T0.out.C.cell 3
  have f0 := T0.out.C.frozen 0
  have f1 := T0.out.C.frozen 1
  have f2 := T0.out.C.frozen 2
  have f3 := T0.out.C.frozen 3
  simp at x0 x1 x2 x3 z0 z1 z2 z3
  go_wp2
  refine bodyPost_ret (v := num4 d0 d1 d2 d3) (by simp [results, Tryz.results280, go_sem, *]) rfl ⟨rfl, ?_⟩
  exact (((T0.out.bl.setCell (by simp; omega) _).setCell (by simp; omega) _).setCell (by simp; omega) _).setCell (by simp; omega) _
end Go.Proofs.YtifdgdgfmjfbdaaGreat
