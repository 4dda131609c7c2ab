/- Walks of place.Valid, place.Contains at boxes of cells, and of cells.Contains. -/
import Derived.Test.YtlglalemhfjmhaaPa
namespace Go.Proofs.Ytlglalemhfjmhaa
open Go.RowKit
theorem validLat_yes (x y : Int) (w : World) (h1 : x ≤ y) (h2 : -5400000 ≤ x) (h3 : y ≤ 5400000) : Calls Try.prog 74 #[.agg #[.int .i64 x, .int .i64 y]] w fun e w' => e = .returned (.bool true) ∧ Below w.heap.size w w' := by
  have d3 : decide (y ≤ 5400000) = true := decide_eq_true h3
  go_enter Try.func74, Try.ntmps74
  go_wp2
  all_goals
    go_ret
    refine ⟨ret_bool (by first | rfl | (simp_all; done) | (simp_all; omega)), ?_⟩
    repeat (first | exact Below.refl _ _ | assumption | refine bl_drew ?_ | refine bl_drewN ?_ _ | refine Below.setCell ?_ (by first | assumption | omega | (simp; done) | (simp; omega)) _ | refine Below.alloc ?_ (by first | assumption | omega | (simp; done) | (simp; omega)) _)
set_option maxHeartbeats 400000 in
theorem validLon_yes (x y : Int) (w : World) (h1 : x ≤ y) (h2 : -10800000 ≤ x) (h3 : x < 10800000) (h4 : y - x < 21600000) : Calls Try.prog 75 #[.agg #[.int .i64 x, .int .i64 y]] w fun e w' => e = .returned (.bool true) ∧ Below w.heap.size w w' := by
  have ha : aeq x y (-10800000) 10800000 = false := by simp [aeq]; omega
  have K := Lib.hid (fun W => all_any x y W)
  rw [ha] at K
  have sy : IntKind.i64.wrap (y - x) = y - x := IntWalk.i64_in _ (by omega)
  clear ha
  go_enter Try.func75, Try.ntmps75
  go_wp2_with (go_at_call 109; (with_reducible refine (K.out _).mono ?_); rintro e w1 ⟨rfl, hb⟩; have hz := one_lt hb; have hb1 := one_bl hb; have y1 := (hb.cell (p := ⟨w.heap.size, 0, none⟩) (by simp)).trans (show _ = some (.int .i64 x) by simp); have y2 := (hb.cell (p := ⟨w.heap.size, 1, none⟩) (by simp)).trans (show _ = some (.int .i64 y) by simp))
  all_goals
    go_ret
    exact ⟨ret_bool (by first | rfl | (simp_all; done) | (simp_all; omega)), hb1⟩
/-- the numbers of a box -/
structure BoxOk (b0 b1 b2 b3 : Int) : Prop where
  l1 : b0 ≤ b1
  l2 : -5400000 ≤ b0
  l3 : b1 ≤ 5400000
  o1 : b2 ≤ b3
  o2 : -10800000 ≤ b2
  o3 : b2 < 10800000
  o4 : b3 - b2 < 21600000
set_option maxHeartbeats 400000 in
theorem placeValid_yes (b0 b1 b2 b3 : Int) (w : World) (hb : BoxOk b0 b1 b2 b3) : Calls Try.prog 36 #[.agg #[.int .i64 b0, .int .i64 b1, .int .i64 b2, .int .i64 b3]] w fun e w' => e = .returned (.bool true) ∧ Below w.heap.size w w' := by
  have K1 := Lib.hid (fun W => validLat_yes b0 b1 W hb.l1 hb.l2 hb.l3)
  have K2 := Lib.hid (fun W => validLon_yes b2 b3 W hb.o1 hb.o2 hb.o3 hb.o4)
  clear hb
  go_enter Try.func36, Try.ntmps36
  go_wp2_with (first | (go_at_call 74; (with_reducible refine (K1.out _).mono ?_); rintro e w1 ⟨rfl, hb⟩; have hz := one_lt hb; have hb1 := one_bl hb; have y1 := (hb.cell (p := ⟨w.heap.size, 2, none⟩) (by simp)).trans (show _ = some (.int .i64 b2) by simp); have y2 := (hb.cell (p := ⟨w.heap.size, 3, none⟩) (by simp)).trans (show _ = some (.int .i64 b3) by simp)) | (go_at_call 75; (with_reducible refine (K2.out _).mono ?_); rintro e w2 ⟨rfl, hb2⟩))
  go_ret
  exact ⟨rfl, hb1.trans (hb2.mono hb1.size)⟩
/-- whether a point is in a box -/
def inBox (b0 b1 b2 b3 a b : Int) : Bool := decide (b0 ≤ a ∧ a ≤ b1) && (decide (a = 5400000) || decide (a = -5400000) || lonIn b2 b3 b)
set_option maxHeartbeats 1000000 in
theorem placeContains_any (b0 b1 b2 b3 a b : Int) (w : World) (hb : BoxOk b0 b1 b2 b3) (hp : vptB a b = true) :
    Calls Try.prog 73 #[.agg #[.int .i64 b0, .int .i64 b1, .int .i64 b2, .int .i64 b3], .agg #[.int .i64 a, .int .i64 b]] w fun e w' => e = .returned (.tuple #[.bool (inBox b0 b1 b2 b3 a b), .int .i64 0]) ∧ Below w.heap.size w w' := by
  have K1 := Lib.hid (fun W => placeValid_yes b0 b1 b2 b3 W hb)
  have K2 := Lib.hid (vpt_yes a b hp)
  obtain ⟨p1, p2, p3, p4⟩ := vptB_true.1 hp
  have q1 := hb.o1
  have q2 := hb.o2
  have q3 := hb.o3
  have q4 := hb.o4
  have K3 := Lib.hid (fun W => has_place b2 b3 b W (by omega) (by omega) (by omega) (by omega) q1 q4)
  clear q1 q2 q3 q4 hb hp
  obtain ⟨R, hR⟩ : ∃ R, R = inBox b0 b1 b2 b3 a b := ⟨_, rfl⟩
  rw [← hR]
  have HR := Lib.hid hR
  clear hR
  go_enter Try.func73, Try.ntmps73
  go_wp2_with fail
  (with_reducible refine (K1.out _).mono ?_)
  rintro e w1 ⟨rfl, hb1⟩
  have hb1' := two_bl hb1
  have hz1 := two_lt hb1
  have x0 := (hb1.cell (p := ⟨w.heap.size, 0, none⟩) (by simp; omega)).trans (show _ = some (.int .i64 b0) by simp)
  have x1 := (hb1.cell (p := ⟨w.heap.size, 1, none⟩) (by simp; omega)).trans (show _ = some (.int .i64 b1) by simp)
  have x2 := (hb1.cell (p := ⟨w.heap.size, 2, none⟩) (by simp; omega)).trans (show _ = some (.int .i64 b2) by simp)
  have x3 := (hb1.cell (p := ⟨w.heap.size, 3, none⟩) (by simp; omega)).trans (show _ = some (.int .i64 b3) by simp)
  have y0 := (hb1.cell (p := ⟨w.heap.size + 1, 0, none⟩) (by simp)).trans (show _ = some (.int .i64 a) by simp)
  have y1 := (hb1.cell (p := ⟨w.heap.size + 1, 1, none⟩) (by simp)).trans (show _ = some (.int .i64 b) by simp)
  clear hb1
  go_wp2_with fail
  (with_reducible refine (K2.out _).mono ?_)
  rintro e w2 ⟨rfl, hb2⟩
  have hb2' := hb1'.trans (hb2.mono hb1'.size)
  have x0 := (hb2.cell (p := ⟨w.heap.size, 0, none⟩) hz1.1).trans x0
  have x1 := (hb2.cell (p := ⟨w.heap.size, 1, none⟩) hz1.1).trans x1
  have x2 := (hb2.cell (p := ⟨w.heap.size, 2, none⟩) hz1.1).trans x2
  have x3 := (hb2.cell (p := ⟨w.heap.size, 3, none⟩) hz1.1).trans x3
  have y0 := (hb2.cell (p := ⟨w.heap.size + 1, 0, none⟩) hz1.2).trans y0
  have y1 := (hb2.cell (p := ⟨w.heap.size + 1, 1, none⟩) hz1.2).trans y1
  clear hb2 hb1' K1 K2
  by_cases h0 : a < b0
  · have hE : Hid (R = false) := Lib.hid (by rw [HR.out]; simp [inBox]; omega)
    go_wp2
    go_ret2
    exact ⟨by rw [hE.out]; rfl, hb2'⟩
  · have d0 : decide (a < b0) = false := decide_eq_false h0
    by_cases h1 : b1 < a
    · have hE : Hid (R = false) := Lib.hid (by rw [HR.out]; simp [inBox]; omega)
      go_wp2
      go_ret2
      exact ⟨by rw [hE.out]; rfl, hb2'⟩
    · have d1 : decide (b1 < a) = false := decide_eq_false h1
      have hin : decide (b0 ≤ a ∧ a ≤ b1) = true := decide_eq_true (by omega)
      by_cases h2 : a = 5400000
      · have hE : Hid (R = true) := Lib.hid (by rw [HR.out, inBox, hin]; simp [h2])
        subst h2
        clear hin
        go_wp2
        go_ret2
        exact ⟨by rw [hE.out]; rfl, hb2'⟩
      · have e2 : (a == 5400000) = false := by simp [h2]
        by_cases h3 : a = -5400000
        · have hE : Hid (R = true) := Lib.hid (by rw [HR.out, inBox, hin]; simp [h3])
          subst h3
          clear hin
          go_wp2
          go_ret2
          exact ⟨by rw [hE.out]; rfl, hb2'⟩
        · have e3 : (a == -5400000) = false := by simp [h3]
          have hE : Hid (R = lonIn b2 b3 b) := Lib.hid (by rw [HR.out, inBox, hin]; simp [h2, h3])
          generalize lonIn b2 b3 b = z at K3 hE
          clear hin
          go_wp2_with (go_at_call 108; (with_reducible refine (K3.out _).mono ?_); rintro e w3 ⟨rfl, hb3⟩)
          go_ret2
          exact ⟨by rw [hE.out]; rfl, hb2'.trans (hb3.mono hb2'.size)⟩
end Go.Proofs.Ytlglalemhfjmhaa
