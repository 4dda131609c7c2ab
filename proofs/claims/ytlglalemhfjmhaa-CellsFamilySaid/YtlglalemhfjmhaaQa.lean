/- Walks of place.inside and place.Inside where one box lies in the other. -/
import Derived.Test.YtlglalemhfjmhaaPb
namespace Go.Proofs.Ytlglalemhfjmhaa
open Go.RowKit
set_option maxHeartbeats 1000000 in
theorem insideArc (x y u v : Int) (w : World) (h1 : u ≤ x) (h2 : x ≤ y) (h3 : y ≤ v) (h4 : v - u < 21600000) (h5 : -10800000 ≤ u) (h6 : u < 10800000) :
    Calls Try.prog 76 #[.agg #[.int .i64 x, .int .i64 y], .agg #[.int .i64 u, .int .i64 v]] w fun e w' => e = .returned (.bool true) ∧ Below w.heap.size w w' := by
  have ha : aeq u v (-10800000) 10800000 = false := by simp [aeq]; omega
  have hb : aeq x y (-10800000) 10800000 = false := by simp [aeq]; omega
  have K1 := Lib.hid (fun W => all_any u v W)
  have K2 := Lib.hid (fun W => all_any x y W)
  rw [ha] at K1
  rw [hb] at K2
  have K3 := Lib.hid (fun W => beyond_any u v x W (by omega) (by omega) (by omega) (by omega))
  have e3 : (x - u) % 21600000 = x - u := Int.emod_eq_of_lt (by omega) (by omega)
  rw [e3] at K3
  clear ha hb e3
  go_enter Try.func76, Try.ntmps76
  go_wp2_with fail
  (with_reducible refine (K1.out _).mono ?_)
  rintro e w1 ⟨rfl, hb1⟩
  have hb1' := two_bl hb1
  have hz1 := two_lt hb1
  have x0 := (hb1.cell (p := ⟨w.heap.size, 0, none⟩) (by simp; omega)).trans (show _ = some (.int .i64 x) by simp)
  have x1 := (hb1.cell (p := ⟨w.heap.size, 1, none⟩) (by simp; omega)).trans (show _ = some (.int .i64 y) by simp)
  have y0 := (hb1.cell (p := ⟨w.heap.size + 1, 0, none⟩) (by simp)).trans (show _ = some (.int .i64 u) by simp)
  have y1 := (hb1.cell (p := ⟨w.heap.size + 1, 1, none⟩) (by simp)).trans (show _ = some (.int .i64 v) by simp)
  clear hb1
  go_wp2_with fail
  (with_reducible refine (K2.out _).mono ?_)
  rintro e w2 ⟨rfl, hb2⟩
  have hb2' := hb1'.trans (hb2.mono hb1'.size)
  have hz2 : w.heap.size + 1 < w2.heap.size := Nat.lt_of_lt_of_le hz1.2 hb2.size
  have x0 := (hb2.cell (p := ⟨w.heap.size, 0, none⟩) hz1.1).trans x0
  have x1 := (hb2.cell (p := ⟨w.heap.size, 1, none⟩) hz1.1).trans x1
  have y0 := (hb2.cell (p := ⟨w.heap.size + 1, 0, none⟩) hz1.2).trans y0
  have y1 := (hb2.cell (p := ⟨w.heap.size + 1, 1, none⟩) hz1.2).trans y1
  clear hb2 hb1' K1 K2 hz1
  go_upto_region 5 with fail
  have c0 : ∀ s : BV w2, s.w.cell? ⟨w.heap.size, 0, none⟩ = some (.int .i64 x) := fun s => (s.hb.cell (p := ⟨w.heap.size, 0, none⟩) (by simp only []; omega)).trans x0
  have c1 : ∀ s : BV w2, s.w.cell? ⟨w.heap.size, 1, none⟩ = some (.int .i64 y) := fun s => (s.hb.cell (p := ⟨w.heap.size, 1, none⟩) (by simp only []; omega)).trans x1
  have c2 : ∀ s : BV w2, s.w.cell? ⟨w.heap.size + 1, 0, none⟩ = some (.int .i64 u) := fun s => (s.hb.cell (p := ⟨w.heap.size + 1, 0, none⟩) hz2).trans y0
  have c3 : ∀ s : BV w2, s.w.cell? ⟨w.heap.size + 1, 1, none⟩ = some (.int .i64 v) := fun s => (s.hb.cell (p := ⟨w.heap.size + 1, 1, none⟩) hz2).trans y1
  have s1 : IntKind.i64.wrap (x - u + y) = x - u + y := IntWalk.i64_in _ (by omega)
  have s2 : IntKind.i64.wrap (x - u + y - x) = y - u := (IntWalk.i64_in _ (by clear s1; omega)).trans (by clear s1; omega)
  have s3 : IntKind.i64.wrap (v - u) = v - u := IntWalk.i64_in _ (by clear s1 s2; omega)
  have s4 : decide (y - u ≤ v - u) = true := decide_eq_true (by clear s1 s2 s3; omega)
  clear x0 x1 y0 y1
  refine wp_region_bv w2 (by kernel_rfl) (by kernel_rfl) (Below.refl _ _) ?_
  (repeat (go_big_quiet_step (first | (go_at_call 110; with_reducible exact quiet_bv (K3.out _)) | fail)))
  refine wpQuiet_nil ?_
  intro w9 hb9
  clear c0 c1 c2 c3 s1 s2 s3
  go_wp2
  go_ret
  exact ⟨ret_bool (by first | rfl | exact s4 | (simp; omega)), hb2'.trans (hb9.mono hb2'.size)⟩
set_option maxHeartbeats 1000000 in
theorem placeInside (a0 a1 a2 a3 b0 b1 b2 b3 : Int) (w : World) (ha : BoxOk a0 a1 a2 a3) (hb : BoxOk b0 b1 b2 b3) (h0 : b0 ≤ a0) (h1 : a1 ≤ b1) (h2 : b2 ≤ a2) (h3 : a3 ≤ b3) :
    Calls Try.prog 37 #[.agg #[.int .i64 a0, .int .i64 a1, .int .i64 a2, .int .i64 a3], .agg #[.int .i64 b0, .int .i64 b1, .int .i64 b2, .int .i64 b3]] w fun e w' => e = .returned (.bool true) ∧ Below w.heap.size w w' := by
  have K1 := Lib.hid (fun W => placeValid_yes a0 a1 a2 a3 W ha)
  have K2 := Lib.hid (fun W => placeValid_yes b0 b1 b2 b3 W hb)
  have K3 := Lib.hid (fun W => insideArc a2 a3 b2 b3 W h2 ha.o1 h3 hb.o4 hb.o2 hb.o3)
  clear ha hb
  go_enter Try.func37, Try.ntmps37
  go_wp2_with fail
  (with_reducible refine (K1.out _).mono ?_)
  rintro e w1 ⟨rfl, hb1⟩
  have hb1' := two_bl hb1
  have hz1 := two_lt hb1
  have x0 := (hb1.cell (p := ⟨w.heap.size, 0, none⟩) (by simp; omega)).trans (show _ = some (.int .i64 a0) by simp)
  have x1 := (hb1.cell (p := ⟨w.heap.size, 1, none⟩) (by simp; omega)).trans (show _ = some (.int .i64 a1) by simp)
  have x2 := (hb1.cell (p := ⟨w.heap.size, 2, none⟩) (by simp; omega)).trans (show _ = some (.int .i64 a2) by simp)
  have x3 := (hb1.cell (p := ⟨w.heap.size, 3, none⟩) (by simp; omega)).trans (show _ = some (.int .i64 a3) by simp)
  have y0 := (hb1.cell (p := ⟨w.heap.size + 1, 0, none⟩) (by simp)).trans (show _ = some (.int .i64 b0) by simp)
  have y1 := (hb1.cell (p := ⟨w.heap.size + 1, 1, none⟩) (by simp)).trans (show _ = some (.int .i64 b1) by simp)
  have y2 := (hb1.cell (p := ⟨w.heap.size + 1, 2, none⟩) (by simp)).trans (show _ = some (.int .i64 b2) by simp)
  have y3 := (hb1.cell (p := ⟨w.heap.size + 1, 3, none⟩) (by simp)).trans (show _ = some (.int .i64 b3) by simp)
  clear hb1
  go_wp2_with fail
  (with_reducible refine (K2.out _).mono ?_)
  rintro e w2 ⟨rfl, hb2⟩
  have hb2' := hb1'.trans (hb2.mono hb1'.size)
  have x0 := (hb2.cell (p := ⟨w.heap.size, 0, none⟩) hz1.1).trans x0
  have x1 := (hb2.cell (p := ⟨w.heap.size, 1, none⟩) hz1.1).trans x1
  have x2 := (hb2.cell (p := ⟨w.heap.size, 2, none⟩) hz1.1).trans x2
  have x3 := (hb2.cell (p := ⟨w.heap.size, 3, none⟩) hz1.1).trans x3
  have y0 := (hb2.cell (p := ⟨w.heap.size + 1, 0, none⟩) hz1.2).trans y0
  have y1 := (hb2.cell (p := ⟨w.heap.size + 1, 1, none⟩) hz1.2).trans y1
  have y2 := (hb2.cell (p := ⟨w.heap.size + 1, 2, none⟩) hz1.2).trans y2
  have y3 := (hb2.cell (p := ⟨w.heap.size + 1, 3, none⟩) hz1.2).trans y3
  clear hb2 hb1' K1 K2
  have d0 : decide (b0 ≤ a0) = true := decide_eq_true h0
  have d1 : decide (a1 ≤ b1) = true := decide_eq_true h1
  go_wp2_with (go_at_call 76; (with_reducible refine (K3.out _).mono ?_); rintro e w3 ⟨rfl, hb3⟩)
  go_ret
  exact ⟨rfl, hb2'.trans (hb3.mono hb2'.size)⟩
end Go.Proofs.Ytlglalemhfjmhaa
