/- Walks of place.Valid, place.Contains at boxes of cells, and of cells.Contains. -/
import Derived.Test.YtopfnffabaiceaaGAwake
set_option linter.unusedVariables false
set_option linter.unusedSimpArgs false
namespace Go.Proofs.Ytopfnffabaiceaa
open Go.RowKit
theorem validLat_yes (x y : Int) (w : World) (h1 : x ≤ y) (h2 : -5400000 ≤ x) (h3 : y ≤ 5400000) : Calls Try.prog 97 #[.agg #[.int .i64 x, .int .i64 y]] w fun e w' => e = .returned (.bool true) ∧ Below w.heap.size w w' := by
  have d3 : decide (y ≤ 5400000) = true := decide_eq_true h3
  go_enter Try.func97, Try.ntmps97
  go_wp2
  all_goals
    go_ret
    refine ⟨ret_bool (by first | rfl | (simp_all; done) | (simp_all; omega)), ?_⟩
    repeat (first | exact Below.refl _ _ | assumption | refine bl_drew ?_ | refine bl_drewN ?_ _ | refine Below.setCell ?_ (by first | assumption | omega | (simp; done) | (simp; omega)) _ | refine Below.alloc ?_ (by first | assumption | omega | (simp; done) | (simp; omega)) _)
set_option maxHeartbeats 400000 in
theorem validLon_yes (x y : Int) (w : World) (h1 : x ≤ y) (h2 : -10800000 ≤ x) (h3 : x < 10800000) (h4 : y - x < 21600000) : Calls Try.prog 98 #[.agg #[.int .i64 x, .int .i64 y]] w fun e w' => e = .returned (.bool true) ∧ Below w.heap.size w w' := by
  have ha : aeq x y (-10800000) 10800000 = false := by simp [aeq]; omega
  have K := Lib.hid (fun W => all_any x y W)
  rw [ha] at K
  have sy : IntKind.i64.wrap (y - x) = y - x := IntWalk.i64_in _ (by omega)
  clear ha
  go_enter Try.func98, Try.ntmps98
  go_wp2_with (go_at_call 99; (with_reducible refine (K.out _).mono ?_); rintro e w1 ⟨rfl, hb⟩; have hz := one_lt hb; have hb1 := one_bl hb; have y1 := (hb.cell (p := ⟨w.heap.size, 0, none⟩) (by simp)).trans (show _ = some (.int .i64 x) by simp); have y2 := (hb.cell (p := ⟨w.heap.size, 1, none⟩) (by simp)).trans (show _ = some (.int .i64 y) by simp))
  all_goals
    go_ret
    exact ⟨ret_bool (by first | rfl | (simp_all; done) | (simp_all; omega)), hb1⟩
/-- the numbers of a box -/
structure BoxOk (b0 b1 b2 b3 : Int) : Prop where
  l1 : b0 ≤ b1
  l2 : -5400000 ≤ b0
  l3 : b1 ≤ 5400000
  o1 : b2 ≤ b3
  o2 : -10800000 ≤ b2
  o3 : b2 < 10800000
  o4 : b3 - b2 < 21600000
set_option maxHeartbeats 400000 in
theorem placeValid_yes (b0 b1 b2 b3 : Int) (w : World) (hb : BoxOk b0 b1 b2 b3) : Calls Try.prog 69 #[.agg #[.int .i64 b0, .int .i64 b1, .int .i64 b2, .int .i64 b3]] w fun e w' => e = .returned (.bool true) ∧ Below w.heap.size w w' := by
  have K1 := Lib.hid (fun W => validLat_yes b0 b1 W hb.l1 hb.l2 hb.l3)
  have K2 := Lib.hid (fun W => validLon_yes b2 b3 W hb.o1 hb.o2 hb.o3 hb.o4)
  clear hb
  go_enter Try.func69, Try.ntmps69
  go_wp2_with (first | (go_at_call 97; (with_reducible refine (K1.out _).mono ?_); rintro e w1 ⟨rfl, hb⟩; have hz := one_lt hb; have hb1 := one_bl hb; have y1 := (hb.cell (p := ⟨w.heap.size, 2, none⟩) (by simp)).trans (show _ = some (.int .i64 b2) by simp); have y2 := (hb.cell (p := ⟨w.heap.size, 3, none⟩) (by simp)).trans (show _ = some (.int .i64 b3) by simp)) | (go_at_call 98; (with_reducible refine (K2.out _).mono ?_); rintro e w2 ⟨rfl, hb2⟩))
  go_ret
  exact ⟨rfl, hb1.trans (hb2.mono hb1.size)⟩
/-- whether a point is in a box -/
def inBox (b0 b1 b2 b3 a b : Int) : Bool := decide (b0 ≤ a ∧ a ≤ b1) && (decide (a = 5400000) || decide (a = -5400000) || lonIn b2 b3 b)
end Go.Proofs.Ytopfnffabaiceaa
