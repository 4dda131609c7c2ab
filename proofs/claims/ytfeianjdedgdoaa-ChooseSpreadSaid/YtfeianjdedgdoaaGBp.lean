/- The walk of choose.Circle at the example's body. -/
import Derived.Test.YtfeianjdedgdoaaGBi
import Derived.Test.YtfeianjdedgdoaaGBh
import Derived.Test.YtfeianjdedgdoaaGBl
import Derived.Test.YtfeianjdedgdoaaGBk
set_option linter.unusedVariables false
set_option linter.unusedSimpArgs false
/- The numbers of layer 52's example: sines and cosines, and the chain's answers at them. -/
namespace Go.Proofs.Ytfeianjdedgdoaa
open Go.RowKit
theorem sn7 : Trig.snP (7, 7) = (2186, 2187) := by decide +kernel
theorem cs7 : Trig.csP (7, 7) = (1073741823, 1073741824) := by decide +kernel
theorem sn0 : Trig.snP (0, 0) = (0, 0) := by decide +kernel
theorem cs0 : Trig.csP (0, 0) = (1073741824, 1073741824) := by decide +kernel
theorem asn_6 : Trig.asnV 2186 = 6 := (Trig.asn_is ⟨by decide, by decide, by decide +kernel, fun _ => by decide +kernel⟩).symm
theorem asn_8 : Trig.asnV (-2187) = -8 := (Trig.asn_is ⟨by decide, by decide, by decide +kernel, fun _ => by decide +kernel⟩).symm
theorem sm_of {a b : Int} (h0 : -1073741824 ≤ a) (h1 : a ≤ b) (h2 : b ≤ 1073741824) : Trig.Small (a, b) := ⟨h0, h1, h2⟩
theorem kU7 (g : Nat) (W : World) (h : Blk W g 62 #[.int .i64 0]) : Calls Try.prog 31 #[.pointer (some ⟨g, 0, none⟩), .agg #[.int .i64 2186, .int .i64 2187], .agg #[.int .i64 1073741824, .int .i64 1073741824]] W fun e w' => e = .returned (.agg #[.int .i64 2186, .int .i64 2187]) ∧ Below W.heap.size W w' :=
  kmul_any g (2186, 2187) (1073741824, 1073741824) W (sm_of (by decide) (by decide) (by decide)) (sm_of (by decide) (by decide) (by decide)) h
theorem kV7 (g : Nat) (W : World) (h : Blk W g 62 #[.int .i64 0]) : Calls Try.prog 31 #[.pointer (some ⟨g, 0, none⟩), .agg #[.int .i64 1073741823, .int .i64 1073741824], .agg #[.int .i64 0, .int .i64 0]] W fun e w' => e = .returned (.agg #[.int .i64 0, .int .i64 0]) ∧ Below W.heap.size W w' :=
  kmul_any g (1073741823, 1073741824) (0, 0) W (sm_of (by decide) (by decide) (by decide)) (sm_of (by decide) (by decide) (by decide)) h
theorem kZ7 (g : Nat) (W : World) (h : Blk W g 62 #[.int .i64 0]) : Calls Try.prog 31 #[.pointer (some ⟨g, 0, none⟩), .agg #[.int .i64 0, .int .i64 0], .agg #[.int .i64 1073741824, .int .i64 1073741824]] W fun e w' => e = .returned (.agg #[.int .i64 0, .int .i64 0]) ∧ Below W.heap.size W w' :=
  kmul_any g (0, 0) (1073741824, 1073741824) W (sm_of (by decide) (by decide) (by decide)) (sm_of (by decide) (by decide) (by decide)) h
theorem kY7 (g : Nat) (W : World) (h : Blk W g 62 #[.int .i64 0]) : Calls Try.prog 31 #[.pointer (some ⟨g, 0, none⟩), .agg #[.int .i64 0, .int .i64 0], .agg #[.int .i64 0, .int .i64 0]] W fun e w' => e = .returned (.agg #[.int .i64 0, .int .i64 0]) ∧ Below W.heap.size W w' :=
  kmul_any g (0, 0) (0, 0) W (sm_of (by decide) (by decide) (by decide)) (sm_of (by decide) (by decide) (by decide)) h
theorem kX7 (g : Nat) (W : World) (h : Blk W g 62 #[.int .i64 0]) : Calls Try.prog 31 #[.pointer (some ⟨g, 0, none⟩), .agg #[.int .i64 1073741824, .int .i64 1073741824], .agg #[.int .i64 1073741823, .int .i64 1073741824]] W fun e w' => e = .returned (.agg #[.int .i64 1073741823, .int .i64 1073741824]) ∧ Below W.heap.size W w' :=
  kmul_any g (1073741824, 1073741824) (1073741823, 1073741824) W (sm_of (by decide) (by decide) (by decide)) (sm_of (by decide) (by decide) (by decide)) h
theorem kW7 (g : Nat) (W : World) (h : Blk W g 62 #[.int .i64 0]) : Calls Try.prog 31 #[.pointer (some ⟨g, 0, none⟩), .agg #[.int .i64 0, .int .i64 0], .agg #[.int .i64 2186, .int .i64 2187]] W fun e w' => e = .returned (.agg #[.int .i64 0, .int .i64 0]) ∧ Below W.heap.size W w' :=
  kmul_any g (0, 0) (2186, 2187) W (sm_of (by decide) (by decide) (by decide)) (sm_of (by decide) (by decide) (by decide)) h
theorem kP7 (g : Nat) (W : World) (h : Blk W g 62 #[.int .i64 0]) : Calls Try.prog 30 #[.pointer (some ⟨g, 0, none⟩), .agg #[.int .i64 2186, .int .i64 2187], .agg #[.int .i64 0, .int .i64 0]] W fun e w' => e = .returned (.agg #[.int .i64 2186, .int .i64 2187]) ∧ Below W.heap.size W w' :=
  kplus_any g (2186, 2187) (0, 0) W (sm_of (by decide) (by decide) (by decide)) (sm_of (by decide) (by decide) (by decide)) h
theorem kI7 (g : Nat) (W : World) (h : Blk W g 62 #[.int .i64 0]) : Calls Try.prog 34 #[.pointer (some ⟨g, 0, none⟩), .agg #[.int .i64 1073741823, .int .i64 1073741824], .agg #[.int .i64 0, .int .i64 0]] W fun e w' => e = .returned (.agg #[.int .i64 1073741823, .int .i64 1073741824]) ∧ Below W.heap.size W w' :=
  kminus_any g (1073741823, 1073741824) (0, 0) W (sm_of (by decide) (by decide) (by decide)) (sm_of (by decide) (by decide) (by decide)) h
theorem kS7 (g : Nat) (W : World) (h : Blk W g 62 #[.int .i64 0]) : Calls Try.prog 27 #[.pointer (some ⟨g, 0, none⟩), .agg #[.int .i64 7, .int .i64 7]] W fun e w' => e = .returned (.agg #[.int .i64 2186, .int .i64 2187]) ∧ Below W.heap.size W w' := by
  have := ksin_any g (7, 7) W (avB_true.2 (by decide)) h
  rw [sn7] at this
  exact this
theorem kC7 (g : Nat) (W : World) (h : Blk W g 62 #[.int .i64 0]) : Calls Try.prog 28 #[.pointer (some ⟨g, 0, none⟩), .agg #[.int .i64 7, .int .i64 7]] W fun e w' => e = .returned (.agg #[.int .i64 1073741823, .int .i64 1073741824]) ∧ Below W.heap.size W w' := by
  have := kcos_any g (7, 7) W (avB_true.2 (by decide)) h
  rw [cs7] at this
  exact this
theorem kS0 (g : Nat) (W : World) (h : Blk W g 62 #[.int .i64 0]) : Calls Try.prog 27 #[.pointer (some ⟨g, 0, none⟩), .agg #[.int .i64 0, .int .i64 0]] W fun e w' => e = .returned (.agg #[.int .i64 0, .int .i64 0]) ∧ Below W.heap.size W w' := by
  have := ksin_any g (0, 0) W (avB_true.2 (by decide)) h
  rw [sn0] at this
  exact this
theorem kC0 (g : Nat) (W : World) (h : Blk W g 62 #[.int .i64 0]) : Calls Try.prog 28 #[.pointer (some ⟨g, 0, none⟩), .agg #[.int .i64 0, .int .i64 0]] W fun e w' => e = .returned (.agg #[.int .i64 1073741824, .int .i64 1073741824]) ∧ Below W.heap.size W w' := by
  have := kcos_any g (0, 0) W (avB_true.2 (by decide)) h
  rw [cs0] at this
  exact this
theorem asin7 (W : World) : Calls Try.prog 29 #[.agg #[.int .i64 2186, .int .i64 2187]] W fun e w' => e = .returned (.tuple #[.agg #[.int .i64 6, .int .i64 8], .int .i64 0]) ∧ Below W.heap.size W w' := by
  have := Asin_yes 2186 2187 W (by decide) (by decide) (by decide) (by decide) (by decide)
  rw [show max (2186 : Int) (-1073741824) = 2186 by decide, show -(min (2187 : Int) 1073741824) = -2187 by decide, asn_6, asn_8] at this
  exact this
theorem bear7 (W : World) : Calls Try.prog 33 #[.agg #[.int .i64 0, .int .i64 0], .agg #[.int .i64 1073741823, .int .i64 1073741824]] W fun e w' => BearR e ∧ Below W.heap.size W w' := Bearing_ahead 1073741823 1073741824 W (by decide) (by decide) (by decide)
def aeqQ (a b a' b' : Int) : Bool := decide (a = a' ∧ b = b')
theorem equalInArcQ (a b a' b' : Int) (w : World) : (Op.equalIn 10000 26 (.agg #[.int .i64 a, .int .i64 b]) (.agg #[.int .i64 a', .int .i64 b'])).run Try.prog w = .ok (aeqQ a b a' b') w := by
  have u3 := Try.underlying3
  have a3 := Try.isAgg3
  have z3 := Try.sizeOf3
  have hS : Try.prog.underlying 26 = some (.struct (Try.prog.fieldsOf 26)) := by kernel_rfl
  have hp : Try.prog.stoodInHeld 26 = false := by kernel_rfl
  rw [show (10000 : Nat) = 9999 + 1 from rfl, run_equalIn_agg w 9999 26 _ _ hS hp]
  simp only [Program.fieldsOf, Try.underlying26]
  go_simp
  by_cases h1 : a = a' <;> by_cases h2 : b = b' <;> simp [aeqQ, h1, h2]
theorem eqlArcQ (a b a' b' : Int) (w : World) : (binOp .eql 26 (.agg #[.int .i64 a, .int .i64 b]) (.agg #[.int .i64 a', .int .i64 b'])).run Try.prog w = .ok (.bool (aeqQ a b a' b')) w := by
  rw [run_eql_struct, equalInArcQ]; rfl
theorem everyQ (w : World) : Calls Try.prog 70 #[] w fun e w' => e = .returned (.agg #[.int .i64 (-10800000), .int .i64 10800000]) ∧ Below w.heap.size w w' := by
  go_enter Try.func70, Try.ntmps70
  go_wp2
  refine bodyPost_ret (v := .agg #[.int .i64 (-10800000), .int .i64 10800000]) (by simp [results, Try.results70, go_sem]) rfl ⟨rfl, ?_⟩
  repeat (first | exact Below.refl _ _ | assumption | refine bl_drew ?_ | refine bl_drewN ?_ _ | refine Below.setCell ?_ (by first | assumption | omega | (simp; done) | (simp; omega)) _ | refine Below.alloc ?_ (by first | assumption | omega | (simp; done) | (simp; omega)) _)
set_option maxHeartbeats 1000000 in
theorem allQ (w : World) : Calls Try.prog 64 #[.agg #[.int .i64 0, .int .i64 0]] w fun e w' => e = .returned (.bool false) ∧ Below w.heap.size w w' := by
  have K := Lib.hid everyQ
  have hq := eqlArcQ
  have hf : aeqQ 0 0 (-10800000) 10800000 = false := by decide
  have A0 := Lib.hid (D2.new w 0 0 26)
  have b0 := bl_alloc w (.cells #[.int .i64 0, .int .i64 0] 26)
  go_enter Try.func64, Try.ntmps64
  go_upto_region 1 with fail
  have x1 : ∀ s : BVq (w.alloc (.cells #[.int .i64 0, .int .i64 0] 26)), s.w.cell? ⟨w.heap.size, 0, none⟩ = some (.int .i64 0) := fun s => (A0.out.below s.hb A0.out.lt).c0
  have x2 : ∀ s : BVq (w.alloc (.cells #[.int .i64 0, .int .i64 0] 26)), s.w.cell? ⟨w.heap.size, 1, none⟩ = some (.int .i64 0) := fun s => (A0.out.below s.hb A0.out.lt).c1
  refine wp_region_bvq (w.alloc (.cells #[.int .i64 0, .int .i64 0] 26)) (by kernel_rfl) (by kernel_rfl) (Below.refl _ _) ?_
  (repeat (go_big_quiet_step (first | (go_at_call 70; with_reducible exact quiet_bvq (K.out _)) | fail)))
  refine wpQuiet_nil ?_
  intro w9 hb9
  go_wp2
  go_ret
  exact ⟨rfl, b0.trans (hb9.mono (by simp))⟩
theorem vLat7 (w : World) : Calls Try.prog 52 #[.agg #[.int .i64 7, .int .i64 7]] w fun e w' => e = .returned (.bool true) ∧ Below w.heap.size w w' := by
  go_enter Try.func52, Try.ntmps52
  go_wp2
  go_ret
  exact ⟨rfl, by repeat (first | exact Below.refl _ _ | assumption | refine bl_drew ?_ | refine bl_drewN ?_ _ | refine Below.setCell ?_ (by first | assumption | omega | (simp; done) | (simp; omega)) _ | refine Below.alloc ?_ (by first | assumption | omega | (simp; done) | (simp; omega)) _)⟩
set_option maxHeartbeats 1000000 in
theorem vLon0 (w : World) : Calls Try.prog 53 #[.agg #[.int .i64 0, .int .i64 0]] w fun e w' => e = .returned (.bool true) ∧ Below w.heap.size w w' := by
  have K := Lib.hid allQ
  have A0 := Lib.hid (D2.new w 0 0 26)
  have b0 := Lib.hid (bl_alloc w (.cells #[.int .i64 0, .int .i64 0] 26))
  go_enter Try.func53, Try.ntmps53
  go_wp2_with fail
  (with_reducible refine (K.out _).mono ?_)
  rintro e w1 ⟨rfl, hb1⟩
  obtain ⟨-, x0, x1, -, -⟩ := A0.out.below hb1 A0.out.lt
  have b1 := Lib.hid (b0.out.trans (hb1.mono b0.out.size))
  clear hb1
  go_wp2
  go_ret
  exact ⟨rfl, b1.out⟩
end Go.Proofs.Ytfeianjdedgdoaa
/- The walks of place.Valid and circles.Valid at the example's circle; of the bodies' validity. -/
namespace Go.Proofs.Ytfeianjdedgdoaa
open Go.RowKit
set_option maxHeartbeats 1000000 in
theorem plV7 (w : World) : Calls Try.prog 38 #[.agg #[.int .i64 7, .int .i64 7, .int .i64 0, .int .i64 0]] w fun e w' => e = .returned (.bool true) ∧ Below w.heap.size w w' := by
  have K1 := Lib.hid vLat7
  have K2 := Lib.hid vLon0
  have A0 := Lib.hid (Blk.new w 52 #[.int .i64 7, .int .i64 7, .int .i64 0, .int .i64 0])
  have b0 := Lib.hid (bl_alloc w (.cells #[.int .i64 7, .int .i64 7, .int .i64 0, .int .i64 0] 52))
  go_enter Try.func38, Try.ntmps38
  go_wp2_with fail
  (with_reducible refine (K1.out _).mono ?_)
  rintro e w1 ⟨rfl, hb1⟩
  have A1 := Lib.hid (A0.out.below hb1 A0.out.lt)
  have b1 := Lib.hid (b0.out.trans (hb1.mono b0.out.size))
  clear hb1 A0 b0
  have x2 : w1.cell? ⟨w.heap.size, 2, none⟩ = some (.int .i64 0) := A1.out.cell 2
  have x3 : w1.cell? ⟨w.heap.size, 3, none⟩ = some (.int .i64 0) := A1.out.cell 3
  go_wp2_with fail
  (with_reducible refine (K2.out _).mono ?_)
  rintro e w2 ⟨rfl, hb2⟩
  have b2 := Lib.hid (b1.out.trans (hb2.mono b1.out.size))
  clear hb2
  go_wp2
  go_ret
  exact ⟨rfl, b2.out⟩
set_option maxHeartbeats 1000000 in
theorem ciV7 (w : World) : Calls Try.prog 26 #[.agg #[.int .i64 7, .int .i64 7, .int .i64 0, .int .i64 0, .int .i64 0, .int .i64 0]] w fun e w' => e = .returned (.bool true) ∧ Below w.heap.size w w' := by
  have K1 := Lib.hid plV7
  have k2 := fun W => aVal_any 0 0 W
  rw [show avB 0 0 = true from avB_true.2 (by omega)] at k2
  have K2 := Lib.hid k2
  clear k2
  have A0 := Lib.hid (Blk.new w 40 #[.int .i64 7, .int .i64 7, .int .i64 0, .int .i64 0, .int .i64 0, .int .i64 0])
  have b0 := Lib.hid (bl_alloc w (.cells #[.int .i64 7, .int .i64 7, .int .i64 0, .int .i64 0, .int .i64 0, .int .i64 0] 40))
  go_enter Try.func26, Try.ntmps26
  go_wp2_with fail
  (with_reducible refine (K1.out _).mono ?_)
  rintro e w1 ⟨rfl, hb1⟩
  have A1 := Lib.hid (A0.out.below hb1 A0.out.lt)
  have b1 := Lib.hid (b0.out.trans (hb1.mono b0.out.size))
  clear hb1 A0 b0
  have x4 : w1.cell? ⟨w.heap.size, 4, none⟩ = some (.int .i64 0) := A1.out.cell 4
  have x5 : w1.cell? ⟨w.heap.size, 5, none⟩ = some (.int .i64 0) := A1.out.cell 5
  go_wp2_with fail
  (with_reducible refine (K2.out _).mono ?_)
  rintro e w2 ⟨rfl, hb2⟩
  clear x4 x5
  have A2 := Lib.hid (A1.out.below hb2 A1.out.lt)
  have b2 := Lib.hid (b1.out.trans (hb2.mono b1.out.size))
  have x4 : w2.cell? ⟨w.heap.size, 4, none⟩ = some (.int .i64 0) := A2.out.cell 4
  have x5 : w2.cell? ⟨w.heap.size, 5, none⟩ = some (.int .i64 0) := A2.out.cell 5
  clear hb2
  go_wp2
  go_ret
  exact ⟨rfl, b2.out⟩
set_option maxHeartbeats 1000000 in
theorem vPoint7 (w : World) : Calls Try.prog 22 #[.agg #[.int .i64 7, .int .i64 0]] w fun e w' => e = .returned (.bool true) ∧ Below w.heap.size w w' := by
  go_enter Try.func22, Try.ntmps22
  go_wp2
  go_ret
  exact ⟨rfl, by repeat (first | exact Below.refl _ _ | assumption | refine bl_drew ?_ | refine bl_drewN ?_ _ | refine Below.setCell ?_ (by first | assumption | omega | (simp; done) | (simp; omega)) _ | refine Below.alloc ?_ (by first | assumption | omega | (simp; done) | (simp; omega)) _)⟩
end Go.Proofs.Ytfeianjdedgdoaa
/- circles.At at the example's circle. -/
namespace Go.Proofs.Ytfeianjdedgdoaa
open Go.RowKit
theorem At_ex (w : World) : Calls Try.prog 19 #[.agg #[.int .i64 7, .int .i64 7, .int .i64 0, .int .i64 0, .int .i64 0, .int .i64 0], .agg #[.int .i64 0, .int .i64 0]] w fun e w' => (∃ a b : Int, e = .returned (.tuple #[.agg #[.int .i64 6, .int .i64 8, .int .i64 a, .int .i64 b], .int .i64 0])) ∧ Below w.heap.size w w' :=
  At_num 2186 2187 1073741823 1073741824 6 8 w ciV7 kS7 kC7 kS0 kC0 kU7 kV7 kZ7 kP7 kY7 kX7 kW7 kI7 bear7 asin7
end Go.Proofs.Ytfeianjdedgdoaa
/- The walks of choose's validity at the example's body. -/
namespace Go.Proofs.Ytfeianjdedgdoaa
open Go.RowKit
set_option maxHeartbeats 1000000 in
/-- a body that is seen: its name, its altitude, its azimuth -/
theorem seenV (nm : ByteArray) (w : World) : Calls Try.prog 25 #[.agg #[.string nm, .int .i64 5400000, .int .i64 5400000, .int .i64 0, .int .i64 0]] w fun e w' => e = .returned (.bool true) ∧ Below w.heap.size w w' := by
  have k1 := fun W => aVal_any 5400000 5400000 W
  rw [show avB 5400000 5400000 = true from avB_true.2 (by omega)] at k1
  have K1 := Lib.hid k1
  have k2 := fun W => aVal_any 0 0 W
  rw [show avB 0 0 = true from avB_true.2 (by omega)] at k2
  have K2 := Lib.hid k2
  clear k1 k2
  have A0 := Lib.hid (Blk.new w 37 #[.string nm, .int .i64 5400000, .int .i64 5400000, .int .i64 0, .int .i64 0])
  have b0 := Lib.hid (bl_alloc w (.cells #[.string nm, .int .i64 5400000, .int .i64 5400000, .int .i64 0, .int .i64 0] 37))
  go_enter Try.func25, Try.ntmps25
  go_wp2_with fail
  (with_reducible refine (K1.out _).mono ?_)
  rintro e w1 ⟨rfl, hb1⟩
  have A1 := Lib.hid (A0.out.below hb1 A0.out.lt)
  have b1 := Lib.hid (b0.out.trans (hb1.mono b0.out.size))
  clear hb1 A0 b0
  have x1 : w1.cell? ⟨w.heap.size, 1, none⟩ = some (.int .i64 5400000) := A1.out.cell 1
  have x2 : w1.cell? ⟨w.heap.size, 2, none⟩ = some (.int .i64 5400000) := A1.out.cell 2
  have x3 : w1.cell? ⟨w.heap.size, 3, none⟩ = some (.int .i64 0) := A1.out.cell 3
  have x4 : w1.cell? ⟨w.heap.size, 4, none⟩ = some (.int .i64 0) := A1.out.cell 4
  go_wp2_with fail
  (with_reducible refine (K2.out _).mono ?_)
  rintro e w2 ⟨rfl, hb2⟩
  have b2 := Lib.hid (b1.out.trans (hb2.mono b1.out.size))
  clear hb2
  go_wp2
  go_ret
  exact ⟨rfl, b2.out⟩
set_option maxHeartbeats 1000000 in
theorem badSeen (nm : ByteArray) (w : World) : Calls Try.prog 24 #[.agg #[.string nm, .int .i64 5400000, .int .i64 5400000, .int .i64 0, .int .i64 0]] w fun e w' => e = .returned (.bool false) ∧ Below w.heap.size w w' := by
  have K := Lib.hid (fun W => seenV nm W)
  have b0 := Lib.hid (bl_alloc w (.cells #[.string nm, .int .i64 5400000, .int .i64 5400000, .int .i64 0, .int .i64 0] 37))
  go_enter Try.func24, Try.ntmps24
  go_wp2_with fail
  (with_reducible refine (K.out _).mono ?_)
  rintro e w1 ⟨rfl, hb1⟩
  have b1 := Lib.hid (b0.out.trans (hb1.mono b0.out.size))
  clear hb1
  go_wp2
  go_ret
  exact ⟨rfl, b1.out⟩
set_option maxHeartbeats 1000000 in
set_option maxRecDepth 100000 in
theorem idxSeen (g : Nat) (nm : ByteArray) (w : World) (h : Blk w g 37 #[.string nm, .int .i64 5400000, .int .i64 5400000, .int .i64 0, .int .i64 0]) : Calls Try.prog 37 #[.slice (some ⟨g, 0, none⟩) 1 1, .func (.func 24) #[] #[]] w fun e w' => e = .returned (.int .i64 (-1)) ∧ Below w.heap.size w w' := by
  have K := Lib.hid (fun W => badSeen nm W)
  have x0 : w.cell? ⟨g, 0, none⟩ = some (.string nm) := h.cell 0
  have x1 : w.cell? ⟨g, 1, none⟩ = some (.int .i64 5400000) := h.cell 1
  have x2 : w.cell? ⟨g, 2, none⟩ = some (.int .i64 5400000) := h.cell 2
  have x3 : w.cell? ⟨g, 3, none⟩ = some (.int .i64 0) := h.cell 3
  have x4 : w.cell? ⟨g, 4, none⟩ = some (.int .i64 0) := h.cell 4
  clear h
  go_enter Try.func37, Try.ntmps37
  go_wp2
  refine wp_loop_rounds 2 ?_
  rw [rounds_succ]
  go_wp2_with fail
  (with_reducible refine (K.out _).mono ?_)
  rintro e w1 ⟨rfl, hb1⟩
  clear x0 x1 x2 x3 x4
  go_wp2
  rw [rounds_succ]
  go_wp2
  go_ret
  exact ⟨rfl, hb1⟩
set_option maxHeartbeats 1000000 in
theorem contSeen (g : Nat) (nm : ByteArray) (w : World) (h : Blk w g 37 #[.string nm, .int .i64 5400000, .int .i64 5400000, .int .i64 0, .int .i64 0]) : Calls Try.prog 23 #[.slice (some ⟨g, 0, none⟩) 1 1, .func (.func 24) #[] #[]] w fun e w' => e = .returned (.bool false) ∧ Below w.heap.size w w' := by
  have H := Lib.hid (idxSeen g nm w h)
  clear h
  go_enter Try.func23, Try.ntmps23
  go_wp2_with fail
  (with_reducible refine H.out.mono ?_)
  rintro e w1 ⟨rfl, hb1⟩
  go_wp2
  go_ret
  exact ⟨rfl, hb1⟩
set_option maxHeartbeats 1000000 in
theorem right7 (g : Nat) (nm : ByteArray) (w : World) (h : Blk w g 37 #[.string nm, .int .i64 5400000, .int .i64 5400000, .int .i64 0, .int .i64 0]) : Calls Try.prog 18 #[.slice (some ⟨g, 0, none⟩) 1 1, .agg #[.int .i64 7, .int .i64 0]] w fun e w' => e = .returned (.bool true) ∧ Below w.heap.size w w' := by
  have K1 := Lib.hid vPoint7
  have KC := Lib.hid (fun (W : World) (hW : Below w.heap.size w W) => contSeen g nm W (h.below hW h.lt))
  have b0 := Lib.hid (bl_alloc w (.cells #[.int .i64 7, .int .i64 0] 44))
  clear h
  go_enter Try.func18, Try.ntmps18
  go_wp2_with fail
  (with_reducible refine (K1.out _).mono ?_)
  rintro e w1 ⟨rfl, hb1⟩
  have b1 := Lib.hid (b0.out.trans (hb1.mono b0.out.size))
  clear hb1
  go_wp2_with fail
  (with_reducible refine (KC.out _ b1.out).mono ?_)
  rintro e w2 ⟨rfl, hb2⟩
  have b2 := Lib.hid (b1.out.trans (hb2.mono b1.out.size))
  clear hb2
  go_wp2
  go_ret
  exact ⟨rfl, b2.out⟩
end Go.Proofs.Ytfeianjdedgdoaa
namespace Go.Proofs.Ytfeianjdedgdoaa
open Go.RowKit
set_option maxHeartbeats 4000000 in
set_option maxRecDepth 100000 in
theorem Circle_num (nm : ByteArray) (w : World)
    (KAT : ∀ W, Calls Try.prog 19 #[.agg #[.int .i64 7, .int .i64 7, .int .i64 0, .int .i64 0, .int .i64 0, .int .i64 0], .agg #[.int .i64 0, .int .i64 0]] W fun e w' => (∃ a b : Int, e = .returned (.tuple #[.agg #[.int .i64 6, .int .i64 8, .int .i64 a, .int .i64 b], .int .i64 0])) ∧ Below W.heap.size W w') :
    Calls Try.prog 11 #[.agg #[.string nm, .int .i64 5400000, .int .i64 5400000, .int .i64 0, .int .i64 0], .agg #[.int .i64 7, .int .i64 0], .int .i64 5] w fun e w' => (∃ a b : Int, e = .returned (.tuple #[.agg #[.int .i64 6, .int .i64 8, .int .i64 a, .int .i64 b, .int .i64 0, .int .i64 5], .int .i64 0])) ∧ Below w.heap.size w w' := by
  have KAT := Lib.hid KAT
  have KR := Lib.hid (fun (g : Nat) (W : World) (h : Blk W g 37 #[.string nm, .int .i64 5400000, .int .i64 5400000, .int .i64 0, .int .i64 0]) => right7 g nm W h)
  have S0 := Lib.hid (((Blk.new w 37 #[.string nm, .int .i64 5400000, .int .i64 5400000, .int .i64 0, .int .i64 0]).alloc (.cells #[.int .i64 7, .int .i64 0] 44)).alloc (.cells #[.int .i64 0, .int .i64 0, .int .i64 0, .int .i64 0, .int .i64 0, .int .i64 0] 40))
  have pp := (Blk.new (w.alloc (.cells #[.string nm, .int .i64 5400000, .int .i64 5400000, .int .i64 0, .int .i64 0] 37)) 44 #[.int .i64 7, .int .i64 0]).alloc (.cells #[.int .i64 0, .int .i64 0, .int .i64 0, .int .i64 0, .int .i64 0, .int .i64 0] 40)
  have zz := Blk.new ((w.alloc (.cells #[.string nm, .int .i64 5400000, .int .i64 5400000, .int .i64 0, .int .i64 0] 37)).alloc (.cells #[.int .i64 7, .int .i64 0] 44)) 40 #[.int .i64 0, .int .i64 0, .int .i64 0, .int .i64 0, .int .i64 0, .int .i64 0]
  rw [World.size_alloc] at pp
  rw [World.size_alloc, World.size_alloc] at zz
  have P0 := Lib.hid pp
  have Z0 := Lib.hid zz
  have B0 := Lib.hid (((bl_alloc w (.cells #[.string nm, .int .i64 5400000, .int .i64 5400000, .int .i64 0, .int .i64 0] 37)).alloc (by simp) (.cells #[.int .i64 7, .int .i64 0] 44)).alloc (by simp; omega) (.cells #[.int .i64 0, .int .i64 0, .int .i64 0, .int .i64 0, .int .i64 0, .int .i64 0] 40))
  clear pp zz
  have hh := Blk.new (((w.alloc (.cells #[.string nm, .int .i64 5400000, .int .i64 5400000, .int .i64 0, .int .i64 0] 37)).alloc (.cells #[.int .i64 7, .int .i64 0] 44)).alloc (.cells #[.int .i64 0, .int .i64 0, .int .i64 0, .int .i64 0, .int .i64 0, .int .i64 0] 40)) 37 #[.string nm, .int .i64 5400000, .int .i64 5400000, .int .i64 0, .int .i64 0]
  rw [World.size_alloc, World.size_alloc, World.size_alloc] at hh
  have H0 := Lib.hid hh
  have S1 := Lib.hid (S0.out.alloc (.cells #[.string nm, .int .i64 5400000, .int .i64 5400000, .int .i64 0, .int .i64 0] 37))
  have P1 := Lib.hid (P0.out.alloc (.cells #[.string nm, .int .i64 5400000, .int .i64 5400000, .int .i64 0, .int .i64 0] 37))
  have Z1 := Lib.hid (Z0.out.alloc (.cells #[.string nm, .int .i64 5400000, .int .i64 5400000, .int .i64 0, .int .i64 0] 37))
  have B1 := Lib.hid (B0.out.alloc B0.out.size (.cells #[.string nm, .int .i64 5400000, .int .i64 5400000, .int .i64 0, .int .i64 0] 37))
  clear hh S0 P0 Z0 B0
  go_enter Try.func11, Try.ntmps11
  go_wp2_with fail
  (with_reducible refine (KR.out _ _ H0.out).mono ?_)
  rintro e w1 ⟨rfl, hb1⟩
  have S2 := Lib.hid (((S1.out.below hb1 S1.out.lt).alloc (.cells #[.int .i64 0, .int .i64 0] 26)).alloc (.cells #[.int .i64 7, .int .i64 7, .int .i64 0, .int .i64 0, .int .i64 0, .int .i64 0] 40))
  have S2a := Lib.hid (S1.out.below hb1 S1.out.lt)
  have P2 := Lib.hid (P1.out.below hb1 P1.out.lt)
  have Z2 := Lib.hid (((Z1.out.below hb1 Z1.out.lt).alloc (.cells #[.int .i64 0, .int .i64 0] 26)).alloc (.cells #[.int .i64 7, .int .i64 7, .int .i64 0, .int .i64 0, .int .i64 0, .int .i64 0] 40))
  have B2a := Lib.hid (B1.out.trans (hb1.mono B1.out.size))
  have B2 := Lib.hid ((B2a.out.alloc B2a.out.size (.cells #[.int .i64 0, .int .i64 0] 26)).alloc (by have := B2a.out.size; simp; omega) (.cells #[.int .i64 7, .int .i64 7, .int .i64 0, .int .i64 0, .int .i64 0, .int .i64 0] 40))
  have R2 := Lib.hid ((D2.new w1 0 0 26).alloc (.cells #[.int .i64 7, .int .i64 7, .int .i64 0, .int .i64 0, .int .i64 0, .int .i64 0] 40))
  have hzz := Z1.out.lt
  have hbs := hb1.size
  clear hb1 H0 S1 P1 Z1 B1 KR
  have x1 : w1.cell? ⟨w.heap.size, 1, none⟩ = some (.int .i64 5400000) := S2a.out.cell 1
  have x2 : w1.cell? ⟨w.heap.size, 2, none⟩ = some (.int .i64 5400000) := S2a.out.cell 2
  have x3 : w1.cell? ⟨w.heap.size, 3, none⟩ = some (.int .i64 0) := S2a.out.cell 3
  have x4 : w1.cell? ⟨w.heap.size, 4, none⟩ = some (.int .i64 0) := S2a.out.cell 4
  have y0 : w1.cell? ⟨w.heap.size + 1, 0, none⟩ = some (.int .i64 7) := P2.out.cell 0
  have y1 : w1.cell? ⟨w.heap.size + 1, 1, none⟩ = some (.int .i64 0) := P2.out.cell 1
  have ls := S2a.out.lt
  have lp := P2.out.lt
  go_wp2_with fail
  (with_reducible refine (KAT.out _).mono ?_)
  rintro e w2 ⟨⟨a, b, rfl⟩, hb2⟩
  have R3 := Lib.hid ((R2.out.below hb2 R2.out.lt).alloc (.cells #[.int .i64 6, .int .i64 8, .int .i64 a, .int .i64 b] 52))
  have Z3 := Lib.hid ((Z2.out.below hb2 Z2.out.lt).alloc (.cells #[.int .i64 6, .int .i64 8, .int .i64 a, .int .i64 b] 52))
  have B3 := Lib.hid ((B2.out.trans (hb2.mono B2.out.size)).alloc (by have := B2.out.size; have := hb2.size; omega) (.cells #[.int .i64 6, .int .i64 8, .int .i64 a, .int .i64 b] 52))
  have N3 := Lib.hid (Blk.new w2 52 #[.int .i64 6, .int .i64 8, .int .i64 a, .int .i64 b])
  clear x1 x2 x3 x4 y0 y1 ls lp hb2 R2 Z2 B2 S2 S2a P2 B2a KAT
  go_upto_region 10 with (fail)
  generalize w2.alloc (.cells #[.int .i64 6, .int .i64 8, .int .i64 a, .int .i64 b] 52) = w3 at *
  generalize w2.heap.size = g10 at *
  generalize hg8 : w1.heap.size = g8 at *
  obtain ⟨-, r0, r1, -, -⟩ := R3.out
  have n0 : w3.cell? ⟨g10, 0, none⟩ = some (.int .i64 6) := N3.out.cell 0
  have n1 : w3.cell? ⟨g10, 1, none⟩ = some (.int .i64 8) := N3.out.cell 1
  have n2 : w3.cell? ⟨g10, 2, none⟩ = some (.int .i64 a) := N3.out.cell 2
  have n3 : w3.cell? ⟨g10, 3, none⟩ = some (.int .i64 b) := N3.out.cell 3
  have z := fun i => Z3.out.cell i
  have f := fun i => Z3.out.frozen i
  have z0 : w3.cell? ⟨w.heap.size + 1 + 1, 0, none⟩ = some (.int .i64 0) := z 0
  have z1 : w3.cell? ⟨w.heap.size + 1 + 1, 1, none⟩ = some (.int .i64 0) := z 1
  have z2 : w3.cell? ⟨w.heap.size + 1 + 1, 2, none⟩ = some (.int .i64 0) := z 2
  have z3 : w3.cell? ⟨w.heap.size + 1 + 1, 3, none⟩ = some (.int .i64 0) := z 3
  have z4 : w3.cell? ⟨w.heap.size + 1 + 1, 4, none⟩ = some (.int .i64 0) := z 4
  have z5 : w3.cell? ⟨w.heap.size + 1 + 1, 5, none⟩ = some (.int .i64 0) := z 5
  have R6 := ((((((Z3.out.set_ 0 (.int .i64 6)).set_ 1 (.int .i64 8)).set_ 2 (.int .i64 a)).set_ 3 (.int .i64 b)).set_ 4 (.int .i64 0)).set_ 5 (.int .i64 5))
  simp only [List.setIfInBounds_toArray, List.set_cons_zero, List.set_cons_succ] at R6
  have HR6 := Lib.hid R6
  have B6 : Hid (Below w.heap.size w ((((((w3.setCell ⟨w.heap.size + 1 + 1, 0, none⟩ (.int .i64 6)).setCell ⟨w.heap.size + 1 + 1, 1, none⟩ (.int .i64 8)).setCell ⟨w.heap.size + 1 + 1, 2, none⟩ (.int .i64 a)).setCell ⟨w.heap.size + 1 + 1, 3, none⟩ (.int .i64 b)).setCell ⟨w.heap.size + 1 + 1, 4, none⟩ (.int .i64 0)).setCell ⟨w.heap.size + 1 + 1, 5, none⟩ (.int .i64 5))) := Lib.hid ((((((B3.out.setCell (by simp only []; omega) _).setCell (by simp only []; omega) _).setCell (by simp only []; omega) _).setCell (by simp only []; omega) _).setCell (by simp only []; omega) _).setCell (by simp only []; omega) _)
  clear z R6
  have m0 : max (0 : Int) (-5) = 0 := by decide
  have m1 : min (10800000 : Int) 5 = 5 := by decide
  go_wp2
  generalize (((((w3.setCell ⟨w.heap.size + 1 + 1, 0, none⟩ (.int .i64 6)).setCell ⟨w.heap.size + 1 + 1, 1, none⟩ (.int .i64 8)).setCell ⟨w.heap.size + 1 + 1, 2, none⟩ (.int .i64 a)).setCell ⟨w.heap.size + 1 + 1, 3, none⟩ (.int .i64 b)).setCell ⟨w.heap.size + 1 + 1, 4, none⟩ (.int .i64 0)).setCell ⟨w.heap.size + 1 + 1, 5, none⟩ (.int .i64 5) = w9 at *
  clear z0 z1 z2 z3 z4 z5 f n0 n1 n2 n3 r0 r1
  have u0 : w9.cell? ⟨w.heap.size + 1 + 1, 0, none⟩ = some (.int .i64 6) := HR6.out.cell 0
  have u1 : w9.cell? ⟨w.heap.size + 1 + 1, 1, none⟩ = some (.int .i64 8) := HR6.out.cell 1
  have u2 : w9.cell? ⟨w.heap.size + 1 + 1, 2, none⟩ = some (.int .i64 a) := HR6.out.cell 2
  have u3 : w9.cell? ⟨w.heap.size + 1 + 1, 3, none⟩ = some (.int .i64 b) := HR6.out.cell 3
  have u4 : w9.cell? ⟨w.heap.size + 1 + 1, 4, none⟩ = some (.int .i64 0) := HR6.out.cell 4
  have u5 : w9.cell? ⟨w.heap.size + 1 + 1, 5, none⟩ = some (.int .i64 5) := HR6.out.cell 5
  exact bodyPost_ret (v := .tuple #[.agg #[.int .i64 6, .int .i64 8, .int .i64 a, .int .i64 b, .int .i64 0, .int .i64 5], .int .i64 0]) (by simp [results, Try.results11, go_sem, u0, u1, u2, u3, u4, u5]) rfl ⟨⟨a, b, rfl⟩, B6.out⟩
end Go.Proofs.Ytfeianjdedgdoaa
