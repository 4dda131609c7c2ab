/- The walk of arctrig's Bearing of points ahead. -/
import Derived.Deep.RegionHeld3
import Derived.Test.YtifdgdgfmjfbdaaGreatIBd
import Derived.Test.YtifdgdgfmjfbdaaGreatITk
import Derived.Test.YtifdgdgfmjfbdaaGreatIUk
set_option linter.unusedVariables false
set_option linter.unusedSimpArgs false
namespace Go.Proofs.YtifdgdgfmjfbdaaGreat
open Go.RowKit
theorem pi_any (w : World) : Calls Tryz.prog 273 #[] w fun e w' => e = .returned (num4 3 2611923443488327891 1376283091369227076 11820040416388919760) ∧ Below w.heap.size w w' := by
  go_enter Tryz.func273, Tryz.ntmps273
  go_wp2
  refine bodyPost_ret (v := num4 3 2611923443488327891 1376283091369227076 11820040416388919760) (by simp [results, Tryz.results273, go_sem]) rfl ⟨rfl, ?_⟩
  repeat (first | exact Below.refl _ _ | assumption | refine bl_drew ?_ | refine bl_drewN ?_ _ | refine Below.setCell ?_ (by first | assumption | omega | (simp; done) | (simp; omega)) _ | refine Below.alloc ?_ (by first | assumption | omega | (simp; done) | (simp; omega)) _)
/-- two numbers -/
def TwoNums (e : Ending) : Prop := ∃ r0 r1 r2 r3 q0 q1 q2 q3 : Int, e = .returned (.tuple #[num4 r0 r1 r2 r3, num4 q0 q1 q2 q3]) ∧ (U64 r0 ∧ U64 r1 ∧ U64 r2 ∧ U64 r3) ∧ (U64 q0 ∧ U64 q1 ∧ U64 q2 ∧ U64 q3)
theorem part_small {r0 r1 r2 r3 t k q0 q1 q2 q3 : Int} (hk : k ≤ 2700000) (ht : 0 ≤ t) (h : nv r0 r1 r2 r3 + 115792089237316195423570985008687907853269984665640564039457584007913129639936 * t = 3 * k * 6277101735386680763835789423207666416102355444464034512896 + 2611923443488327891 * k * 340282366920938463463374607431768211456 + 1376283091369227076 * k * 18446744073709551616 + 11820040416388919760 * k) (h2 : nv q0 q1 q2 q3 * 10800000 ≤ nv r0 r1 r2 r3) : nv q0 q1 q2 q3 ≤ 6277101735386680763835789423207666416102355444464034512896 := by
  generalize nv r0 r1 r2 r3 = r at *
  generalize nv q0 q1 q2 q3 = q at *
  omega
theorem sq_small {q0 q1 q2 q3 s0 s1 s2 s3 : Int} (h0 : 0 ≤ nv q0 q1 q2 q3) (h1 : nv q0 q1 q2 q3 ≤ 6277101735386680763835789423207666416102355444464034512896) (h2 : nv s0 s1 s2 s3 * 6277101735386680763835789423207666416102355444464034512896 ≤ nv q0 q1 q2 q3 * nv q0 q1 q2 q3) : nv s0 s1 s2 s3 ≤ 6277101735386680763835789423207666416102355444464034512896 := by
  generalize nv q0 q1 q2 q3 = q at *
  generalize nv s0 s1 s2 s3 = s at *
  have a1 : q * q ≤ q * 6277101735386680763835789423207666416102355444464034512896 := Int.mul_le_mul_of_nonneg_left h1 h0
  omega
theorem cells4 {W W0 : World} {g : Nat} {t : TypeId} {a0 a1 a2 a3 : Int} (h : Blk W0 g t (arr4 a0 a1 a2 a3)) (hb : Below W0.heap.size W0 W) : W.cell? ⟨g, 0, none⟩ = some (.int .u64 a0) ∧ W.cell? ⟨g, 1, none⟩ = some (.int .u64 a1) ∧ W.cell? ⟨g, 2, none⟩ = some (.int .u64 a2) ∧ W.cell? ⟨g, 3, none⟩ = some (.int .u64 a3) := by
  have k := h.below hb h.lt
  exact ⟨k.cell 0, k.cell 1, k.cell 2, k.cell 3⟩
theorem first_b4 {W w9 : World} (h : Below W.drew.heap.size W.drew w9) : Below W.heap.size W w9 := (bl_drew (Below.refl _ _)).trans h
set_option maxHeartbeats 4000000 in
set_option maxRecDepth 100000 in
theorem circle_low (k : Int) (w : World) (h0 : 0 ≤ k) (h1 : k ≤ 2700000) :
    Calls Tryz.prog 248 #[.int .i64 k] w fun e w' => TwoNums e ∧ Below w.heap.size w w' := by
  have KP := Lib.hid pi_any
  have KT := Lib.hid (fun W => timesQ_any 3 2611923443488327891 1376283091369227076 11820040416388919760 k W ⟨by omega, by omega⟩ ⟨by omega, by omega⟩ ⟨by omega, by omega⟩ ⟨by omega, by omega⟩ ⟨by omega, by omega⟩)
  have z2 := (Blk.new w 238 (arr4 0 0 0 0)).alloc (.cells (arr4 0 0 0 0) 238)
  have z3 := Blk.new (w.alloc (.cells (arr4 0 0 0 0) 238)) 238 (arr4 0 0 0 0)
  rw [World.size_alloc] at z3
  have Z2 := Lib.hid z2
  have Z3 := Lib.hid z3
  have B0 := Lib.hid ((bl_alloc w (.cells (arr4 0 0 0 0) 238)).alloc (by simp) (.cells (arr4 0 0 0 0) 238))
  clear z2 z3
  unfold arr4 at Z2 Z3 B0
  have hc : ¬ 2700000 < k := by omega
  have hw : IntKind.u64.wrap k = k := by rw [IntKind.wrap_u64]; omega
  go_enter Tryz.func248, Tryz.ntmps248
  go_wp2_with fail
  (with_reducible refine (KP.out _).mono ?_)
  rintro e w1 ⟨rfl, hb1⟩
  have Z2a := Lib.hid (Z2.out.below hb1 Z2.out.lt)
  have Z3a := Lib.hid (Z3.out.below hb1 Z3.out.lt)
  have B1 := Lib.hid (B0.out.trans (hb1.mono B0.out.size))
  clear hb1 Z2 Z3 B0 KP
  go_wp2_with fail
  (with_reducible refine (KT.out _).mono ?_)
  rintro e w2 ⟨⟨r0, r1, r2, r3, t, rfl, hr, ht, hrv⟩, hb2⟩
  have KO := Lib.hid (fun W => overR_any r0 r1 r2 r3 10800000 W hr.1 hr.2.1 hr.2.2.1 hr.2.2.2 (by omega) (by omega))
  go_wp2_with fail
  (with_reducible refine (KO.out _).mono ?_)
  rintro e w3 ⟨⟨q0, q1, q2, q3, rfl, hq, hqv⟩, hb3⟩
  have hsm := part_small h1 ht hrv hqv
  have KM := Lib.hid (fun W => mulQ_any q0 q1 q2 q3 q0 q1 q2 q3 W hq.1 hq.2.1 hq.2.2.1 hq.2.2.2 hq.1 hq.2.1 hq.2.2.1 hq.2.2.2)
  have HQ := Lib.hid hq
  have HS := Lib.hid hsm
  have hb23 := hb2.trans (hb3.mono hb2.size)
  have T4 := Lib.hid (Blk.new w3 238 (arr4 q0 q1 q2 q3))
  have Z2b := Lib.hid ((Z2a.out.below hb23 Z2a.out.lt).alloc (.cells (arr4 q0 q1 q2 q3) 238))
  have Z3b := Lib.hid ((Z3a.out.below hb23 Z3a.out.lt).alloc (.cells (arr4 q0 q1 q2 q3) 238))
  have B3 := Lib.hid ((B1.out.trans (hb23.mono B1.out.size)).alloc (by have := B1.out.size; have := hb23.size; omega) (.cells (arr4 q0 q1 q2 q3) 238))
  have hz3 : w.heap.size + 1 < w3.heap.size := by have := Z3a.out.lt; have := hb23.size; omega
  clear hr ht hrv hq hqv hsm hb2 hb3 hb23 KO KT Z2a Z3a B1 hw hc
  unfold arr4 at Z2b Z3b B3
  go_wp2_with fail
  (with_reducible refine (KM.out _).mono ?_)
  rintro e w4 ⟨⟨s0, s1, s2, s3, rfl, hs, hsv⟩, hb4⟩
  have hss := sq_small (nv_nn HQ.out.1 HQ.out.2.1 HQ.out.2.2.1 HQ.out.2.2.2).1 HS.out hsv
  have K1 := Lib.hid (fun W => series_any q0 q1 q2 q3 s0 s1 s2 s3 1 W HQ.out hs hss (by omega) (by omega))
  have K2 := Lib.hid (fun W => series_any 1 0 0 0 s0 s1 s2 s3 0 W ⟨⟨by omega, by omega⟩, ⟨by omega, by omega⟩, ⟨by omega, by omega⟩, ⟨by omega, by omega⟩⟩ hs hss (by omega) (by omega))
  have T4a := Lib.hid ((T4.out.below hb4 T4.out.lt).alloc (.cells (arr4 s0 s1 s2 s3) 238))
  have T5a := Lib.hid (Blk.new w4 238 (arr4 s0 s1 s2 s3))
  have Z2c := Lib.hid ((Z2b.out.below hb4 Z2b.out.lt).alloc (.cells (arr4 s0 s1 s2 s3) 238))
  have Z3c := Lib.hid ((Z3b.out.below hb4 Z3b.out.lt).alloc (.cells (arr4 s0 s1 s2 s3) 238))
  have B4 := Lib.hid ((B3.out.trans (hb4.mono B3.out.size)).alloc (by have := B3.out.size; have := hb4.size; omega) (.cells (arr4 s0 s1 s2 s3) 238))
  have hg : w3.heap.size < w4.heap.size := by have := hb4.size; rw [World.size_alloc] at this; omega
  clear hs hsv hss hb4 T4 Z2b Z3b B3 KM HQ HS
  go_upto_region 6 with (fail)
  unfold arr4 at T4a T5a Z2c Z3c B4
  obtain ⟨W5, hW5⟩ : ∃ W5, w4.alloc (.cells #[.int .u64 s0, .int .u64 s1, .int .u64 s2, .int .u64 s3] 238) = W5 := ⟨_, rfl⟩
  rw [hW5] at T4a T5a Z2c Z3c B4 ⊢
  clear hW5
  generalize w4.heap.size = g5 at *
  generalize w3.heap.size = g4 at *
  have hn1 : ¬ w.heap.size = g4 := by omega
  have hn2 : ¬ w.heap.size = g5 := by omega
  have hn3 : ¬ w.heap.size + 1 = g4 := by omega
  have hn4 : ¬ w.heap.size + 1 = g5 := by omega
  obtain ⟨x0, x1, x2, x3⟩ := cells4 T4a.out (Below.refl _ _)
  obtain ⟨y0, y1, y2, y3⟩ := cells4 T5a.out (Below.refl _ _)
  go_region_held3 (fun w' => w'.cell? ⟨g4, 0, none⟩ = some (.int .u64 q0) ∧ w'.cell? ⟨g4, 1, none⟩ = some (.int .u64 q1) ∧ w'.cell? ⟨g4, 2, none⟩ = some (.int .u64 q2) ∧ w'.cell? ⟨g4, 3, none⟩ = some (.int .u64 q3) ∧ w'.cell? ⟨g5, 0, none⟩ = some (.int .u64 s0) ∧ w'.cell? ⟨g5, 1, none⟩ = some (.int .u64 s1) ∧ w'.cell? ⟨g5, 2, none⟩ = some (.int .u64 s2) ∧ w'.cell? ⟨g5, 3, none⟩ = some (.int .u64 s3)) (simp [*, World.cell?_setCell_other]) (first
    | (go_at_call 276; (with_reducible refine (K1.out _).mono ?_); rintro e w9 ⟨⟨r0, r1, r2, r3, rfl, hr⟩, hb9⟩; (first | (replace hb9 := first_b4 hb9) | skip); have HR1 := Lib.hid hr; clear x0 x1 x2 x3 y0 y1 y2 y3; obtain ⟨x0, x1, x2, x3⟩ := cells4 T4a.out hb9; obtain ⟨y0, y1, y2, y3⟩ := cells4 T5a.out hb9; have T4n := Lib.hid (T4a.out.below hb9 T4a.out.lt); have T5n := Lib.hid (T5a.out.below hb9 T5a.out.lt); have Z2n := Lib.hid (Z2c.out.below hb9 Z2c.out.lt); have Z3n := Lib.hid (Z3c.out.below hb9 Z3c.out.lt); have B9 := Lib.hid (B4.out.trans (hb9.mono B4.out.size)); clear hr)
    | (go_at_call 276; (with_reducible refine (K2.out _).mono ?_); rintro e w8 ⟨⟨u0, u1, u2, u3, rfl, hu⟩, hb8⟩; have HR2 := Lib.hid hu; clear x0 x1 x2 x3 y0 y1 y2 y3; obtain ⟨x0, x1, x2, x3⟩ := cells4 T4n.out hb8; obtain ⟨y0, y1, y2, y3⟩ := cells4 T5n.out hb8; have Z2m := Lib.hid (Z2n.out.below hb8 Z2n.out.lt); have Z3m := Lib.hid (Z3n.out.below hb8 Z3n.out.lt); have B8 := Lib.hid (B9.out.trans (hb8.mono B9.out.size)); have z0 := fun i => Z2m.out.cell i; have f0 := fun i => Z2m.out.frozen i; have z1 := fun i => Z3m.out.cell i; have f1 := fun i => Z3m.out.frozen i; clear hu)
    | fail)
  all_goals
    have R2 := Lib.hid (blk_far4 (g := w.heap.size + 1) (blk4 Z2m.out (.int .u64 r0) (.int .u64 r1) (.int .u64 r2) (.int .u64 r3)) (by omega) (.int .u64 u0) (.int .u64 u1) (.int .u64 u2) (.int .u64 u3))
    have R3 := Lib.hid (blk4 (blk_far4 (g := w.heap.size) Z3m.out (by omega) (.int .u64 r0) (.int .u64 r1) (.int .u64 r2) (.int .u64 r3)) (.int .u64 u0) (.int .u64 u1) (.int .u64 u2) (.int .u64 u3))
    have B7 := Lib.hid (bl_put4' (g := w.heap.size + 1) (bl_put4' (g := w.heap.size) B8.out (Nat.le_refl _) (.int .u64 r0) (.int .u64 r1) (.int .u64 r2) (.int .u64 r3)) (Nat.le_succ _) (.int .u64 u0) (.int .u64 u1) (.int .u64 u2) (.int .u64 u3))
    clear x0 x1 x2 x3 y0 y1 y2 y3 z0 z1 f0 f1 Z2m Z3m Z2n Z3n Z2c Z3c T4a T4n T5a T5n B4 B8 B9 K1 K2
    generalize ((((((((w8.setCell ⟨w.heap.size, 0, none⟩ (.int .u64 r0)).setCell ⟨w.heap.size, 1, none⟩ (.int .u64 r1)).setCell ⟨w.heap.size, 2, none⟩ (.int .u64 r2)).setCell ⟨w.heap.size, 3, none⟩ (.int .u64 r3)).setCell ⟨w.heap.size + 1, 0, none⟩ (.int .u64 u0)).setCell ⟨w.heap.size + 1, 1, none⟩ (.int .u64 u1)).setCell ⟨w.heap.size + 1, 2, none⟩ (.int .u64 u2)).setCell ⟨w.heap.size + 1, 3, none⟩ (.int .u64 u3)) = W9 at *
    go_wp2
    have z0 := R2.out.cell 0
    have z1 := R2.out.cell 1
    have z2 := R2.out.cell 2
    have z3 := R2.out.cell 3
    have v0 := R3.out.cell 0
    have v1 := R3.out.cell 1
    have v2 := R3.out.cell 2
    have v3 := R3.out.cell 3
    simp at z0 z1 z2 z3 v0 v1 v2 v3
    refine bodyPost_ret (v := .tuple #[num4 r0 r1 r2 r3, num4 u0 u1 u2 u3]) (by simp [results, Tryz.results248, go_sem, z0, z1, z2, z3, v0, v1, v2, v3]) rfl ⟨⟨r0, r1, r2, r3, u0, u1, u2, u3, rfl, HR1.out, HR2.out⟩, B7.out⟩
end Go.Proofs.YtifdgdgfmjfbdaaGreat
namespace Go.Proofs.YtifdgdgfmjfbdaaGreat
open Go.RowKit
set_option maxHeartbeats 4000000 in
set_option maxRecDepth 100000 in
theorem reaches_half (x y : Int) (w : World) : Calls Tryz.prog 211 #[.agg #[.int .i64 x, .int .i64 y], .int .i64 2700000] w fun e w' => e = .returned (.bool (decide (x ≤ y))) ∧ Below w.heap.size w w' := by
  go_enter Tryz.func211, Tryz.ntmps211
  go_wp2
  go_ret
  exact ⟨rfl, by repeat (first | exact Below.refl _ _ | assumption | refine bl_drew ?_ | refine bl_drewN ?_ _ | refine Below.setCell ?_ (by first | assumption | omega | (simp; done) | (simp; omega)) _ | refine Below.alloc ?_ (by first | assumption | omega | (simp; done) | (simp; omega)) _)⟩
set_option maxHeartbeats 400000 in
theorem ptBefore_any (x y x' y' : Int) (w : World) (h0 : wrap64 (x * y') = x * y') (h1 : wrap64 (y * x') = y * x') : Calls Tryz.prog 154 #[.agg #[.int .i64 x, .int .i64 y], .agg #[.int .i64 x', .int .i64 y']] w fun e w' => e = .returned (.bool (decide (y * x' ≤ x * y'))) ∧ Below w.heap.size w w' := by
  go_enter Tryz.func154, Tryz.ntmps154
  go_wp2
  go_ret
  exact ⟨rfl, by repeat (first | exact Below.refl _ _ | assumption | refine bl_drew ?_ | refine bl_drewN ?_ _ | refine Below.setCell ?_ (by first | assumption | omega | (simp; done) | (simp; omega)) _ | refine Below.alloc ?_ (by first | assumption | omega | (simp; done) | (simp; omega)) _)⟩
end Go.Proofs.YtifdgdgfmjfbdaaGreat
namespace Go.Proofs.YtifdgdgfmjfbdaaGreat
open Go.RowKit
def CiI (w W9 : World) (q0 q1 q2 q3 r0 r1 r2 r3 : Int) (a : Act) (L : Nat → Bool) (a' : Act) (w' : World) : Prop :=
  ∃ v14 v15 : Value, a' = (a.put (some 14) v14).put (some 15) v15 ∧ Blk w' w.heap.size 238 #[.int .u64 q0, .int .u64 q1, .int .u64 q2, .int .u64 q3] ∧ Blk w' (w.heap.size + 1) 238 #[.int .u64 r0, .int .u64 r1, .int .u64 r2, .int .u64 r3] ∧ Below w.heap.size w w' ∧
    (L 0 = true → v14 = .agg #[.int .u64 q0, .int .u64 q1, .int .u64 q2, .int .u64 q3]) ∧ (L 1 = true → v15 = .agg #[.int .u64 r0, .int .u64 r1, .int .u64 r2, .int .u64 r3])
theorem CiI.start {w W9 : World} {q0 q1 q2 q3 r0 r1 r2 r3 : Int} (a : Act) (h2 : Blk W9 w.heap.size 238 #[.int .u64 q0, .int .u64 q1, .int .u64 q2, .int .u64 q3]) (h3 : Blk W9 (w.heap.size + 1) 238 #[.int .u64 r0, .int .u64 r1, .int .u64 r2, .int .u64 r3]) (hb : Below w.heap.size w W9) : CiI w W9 q0 q1 q2 q3 r0 r1 r2 r3 a (fun _ => false) a W9.drew :=
  ⟨_, _, by rw [putQ_self a 14, putQ_self a 15], h2.drew, h3.drew, bl_drew hb, fun h => (by cases h), fun h => (by cases h)⟩
set_option maxHeartbeats 4000000 in
set_option maxRecDepth 100000 in
theorem circle_high (k : Int) (w : World) (h0 : 2700000 < k) (h1 : k ≤ 5400000) :
    Calls Tryz.prog 248 #[.int .i64 k] w fun e w' => TwoNums e ∧ Below w.heap.size w w' := by
  have KC := Lib.hid (fun W => circle_low (5400000 - k) W (by omega) (by omega))
  have n0 : wrap64 (5400000 - k) = 5400000 - k := IntWalk.wrap64_in _ (by omega)
  have z2 := (Blk.new w 238 (arr4 0 0 0 0)).alloc (.cells (arr4 0 0 0 0) 238)
  have z3 := Blk.new (w.alloc (.cells (arr4 0 0 0 0) 238)) 238 (arr4 0 0 0 0)
  rw [World.size_alloc] at z3
  have Z2 := Lib.hid z2
  have Z3 := Lib.hid z3
  have B0 := Lib.hid ((bl_alloc w (.cells (arr4 0 0 0 0) 238)).alloc (by simp) (.cells (arr4 0 0 0 0) 238))
  clear z2 z3
  unfold arr4 at Z2 Z3 B0
  go_enter Tryz.func248, Tryz.ntmps248
  go_wp2_with fail
  (with_reducible refine (KC.out _).mono ?_)
  rintro e w1 ⟨⟨r0, r1, r2, r3, q0, q1, q2, q3, rfl, hr, hq⟩, hb1⟩
  have Z2a := Lib.hid (Z2.out.below hb1 Z2.out.lt)
  have Z3a := Lib.hid (Z3.out.below hb1 Z3.out.lt)
  have B1 := Lib.hid (B0.out.trans (hb1.mono B0.out.size))
  have HR := Lib.hid hr
  have HQ := Lib.hid hq
  clear hb1 Z2 Z3 B0 KC hr hq
  have f3 := fun i => Z3a.out.frozen i
  have f2 := fun i => Z2a.out.frozen i
  have z3 := fun i => Z3a.out.cell i
  have z2 := fun i => Z2a.out.cell i
  have l2 := Z2a.out.lt
  have l3 := Z3a.out.lt
  have R3 := Lib.hid (blk_far4 (g := w.heap.size) (blk4 Z3a.out (.int .u64 r0) (.int .u64 r1) (.int .u64 r2) (.int .u64 r3)) (by omega) (.int .u64 q0) (.int .u64 q1) (.int .u64 q2) (.int .u64 q3))
  have R2 := Lib.hid (blk4 (blk_far4 (g := w.heap.size + 1) Z2a.out (by omega) (.int .u64 r0) (.int .u64 r1) (.int .u64 r2) (.int .u64 r3)) (.int .u64 q0) (.int .u64 q1) (.int .u64 q2) (.int .u64 q3))
  have B7 := Lib.hid (bl_put4' (g := w.heap.size) (bl_put4' (g := w.heap.size + 1) B1.out (Nat.le_succ _) (.int .u64 r0) (.int .u64 r1) (.int .u64 r2) (.int .u64 r3)) (Nat.le_refl _) (.int .u64 q0) (.int .u64 q1) (.int .u64 q2) (.int .u64 q3))
  go_upto_region 3 with (fail)
  generalize ((((((((w1.setCell ⟨w.heap.size + 1, 0, none⟩ (.int .u64 r0)).setCell ⟨w.heap.size + 1, 1, none⟩ (.int .u64 r1)).setCell ⟨w.heap.size + 1, 2, none⟩ (.int .u64 r2)).setCell ⟨w.heap.size + 1, 3, none⟩ (.int .u64 r3)).setCell ⟨w.heap.size, 0, none⟩ (.int .u64 q0)).setCell ⟨w.heap.size, 1, none⟩ (.int .u64 q1)).setCell ⟨w.heap.size, 2, none⟩ (.int .u64 q2)).setCell ⟨w.heap.size, 3, none⟩ (.int .u64 q3)) = W9 at R2 R3 B7 ⊢
  clear f2 f3 z2 z3 l2 l3 Z2a Z3a B1
  obtain ⟨x0, x1, x2, x3⟩ := cells4 R2.out (Below.refl _ _)
  obtain ⟨y0, y1, y2, y3⟩ := cells4 R3.out (Below.refl _ _)
  clear x0 x1 x2 x3 y0 y1 y2 y3
  refine wp_region_inv3 (by kernel_rfl) (CiI w W9 q0 q1 q2 q3 r0 r1 r2 r3) (waits_bind (by kernel_rfl)) ?start ?step ?fin
  case start => exact CiI.start _ R2.out R3.out B7.out
  case step =>
    rintro N i o a1' w' ho hL haf ⟨v14, v15, rfl, k2, k3, hb, e0, e1⟩
    have K2 := Lib.hid k2
    have K3 := Lib.hid k3
    have HB := Lib.hid hb
    have E0 := Lib.hid e0
    have E1 := Lib.hid e1
    clear k2 k3 hb e0 e1 R2 R3 B7
    rcases i with _ | _ | _ | _ | i
    all_goals (simp at ho; try subst ho)
    all_goals (try simp [Region.binds] at haf)
    · obtain ⟨x0, x1, x2, x3⟩ := cells4 K2.out (Below.refl _ _)
      go_wp2
      unfold CiI
      exact ⟨.agg #[.int .u64 q0, .int .u64 q1, .int .u64 q2, .int .u64 q3], v15, by simp only [Act.put, List.setIfInBounds_toArray, List.set_cons_zero, List.set_cons_succ], K2.out, K3.out, HB.out, fun _ => rfl, fun h => E1.out (by simpa [mkd] using h)⟩
    · obtain ⟨y0, y1, y2, y3⟩ := cells4 K3.out (Below.refl _ _)
      go_wp2
      unfold CiI
      exact ⟨v14, .agg #[.int .u64 r0, .int .u64 r1, .int .u64 r2, .int .u64 r3], by simp only [Act.put, List.setIfInBounds_toArray, List.set_cons_zero, List.set_cons_succ], K2.out, K3.out, HB.out, fun h => E0.out (by simpa [mkd] using h), fun _ => rfl⟩
    · obtain rfl := E0.out (by simp [haf])
      have f2 : ∀ i, w'.frozen? ⟨w.heap.size, i, none⟩ = false := fun i => K2.out.frozen i
      have l2 := K2.out.lt
      obtain ⟨x0, x1, x2, x3⟩ := cells4 K2.out (Below.refl _ _)
      have T2 := Lib.hid (blk4 K2.out (.int .u64 q0) (.int .u64 q1) (.int .u64 q2) (.int .u64 q3))
      have T3 := Lib.hid (blk_far4 (g := w.heap.size) K3.out (by omega) (.int .u64 q0) (.int .u64 q1) (.int .u64 q2) (.int .u64 q3))
      have TB := Lib.hid (bl_put4' (g := w.heap.size) HB.out (Nat.le_refl _) (.int .u64 q0) (.int .u64 q1) (.int .u64 q2) (.int .u64 q3))
      go_wp2
      unfold CiI
      exact ⟨_, v15, rfl, T2.out, T3.out, TB.out, fun _ => rfl, fun h => E1.out (by simpa [mkd] using h)⟩
    · obtain rfl := E1.out (by simp [haf])
      have f3 : ∀ i, w'.frozen? ⟨w.heap.size + 1, i, none⟩ = false := fun i => K3.out.frozen i
      have l3 := K3.out.lt
      obtain ⟨y0, y1, y2, y3⟩ := cells4 K3.out (Below.refl _ _)
      have T3 := Lib.hid (blk4 K3.out (.int .u64 r0) (.int .u64 r1) (.int .u64 r2) (.int .u64 r3))
      have T2 := Lib.hid (blk_far4 (g := w.heap.size + 1) K2.out (by omega) (.int .u64 r0) (.int .u64 r1) (.int .u64 r2) (.int .u64 r3))
      have TB := Lib.hid (bl_put4' (g := w.heap.size + 1) HB.out (Nat.le_succ _) (.int .u64 r0) (.int .u64 r1) (.int .u64 r2) (.int .u64 r3))
      go_wp2
      unfold CiI
      exact ⟨v14, _, rfl, T2.out, T3.out, TB.out, fun h => E0.out (by simpa [mkd] using h), fun _ => rfl⟩
  case fin =>
    rintro N a1' w5 hall ⟨v14, v15, rfl, k2, k3, hb, e0, e1⟩
    have K2 := Lib.hid k2
    have K3 := Lib.hid k3
    have HB := Lib.hid hb
    clear k2 k3 hb e0 e1 R2 R3 B7 hall
    go_wp2
    have z0 := K2.out.cell 0
    have z1 := K2.out.cell 1
    have z2 := K2.out.cell 2
    have z3 := K2.out.cell 3
    have v0 := K3.out.cell 0
    have v1 := K3.out.cell 1
    have v2 := K3.out.cell 2
    have v3 := K3.out.cell 3
    simp at z0 z1 z2 z3 v0 v1 v2 v3
    refine bodyPost_ret (v := .tuple #[num4 q0 q1 q2 q3, num4 r0 r1 r2 r3]) (by simp [results, Tryz.results248, go_sem, z0, z1, z2, z3, v0, v1, v2, v3]) rfl ⟨⟨q0, q1, q2, q3, r0, r1, r2, r3, rfl, HQ.out, HR.out⟩, HB.out⟩
theorem circle_any (k : Int) (w : World) (h0 : 0 ≤ k) (h1 : k ≤ 5400000) : Calls Tryz.prog 248 #[.int .i64 k] w fun e w' => TwoNums e ∧ Below w.heap.size w w' := by
  by_cases h : k ≤ 2700000
  · exact circle_low k w h0 h
  · exact circle_high k w (by omega) h1
set_option maxHeartbeats 4000000 in
set_option maxRecDepth 100000 in
theorem reaches_gen (x y k : Int) (w : World) (hx0 : 0 ≤ x) (hx1 : x ≤ 1099511627776) (hy0 : 0 ≤ y) (hy1 : y ≤ 1099511627776) (h0 : 0 < k) (h1 : k < 5400000) (hne : k ≠ 2700000) :
    Calls Tryz.prog 211 #[.agg #[.int .i64 x, .int .i64 y], .int .i64 k] w fun e w' => AnyBool e ∧ Below w.heap.size w w' := by
  have KC := Lib.hid (fun W => circle_any k W (by omega) (by omega))
  have hk0 : (k == 0) = false := by simp; omega
  have hk1 : (k == 2700000) = false := by simp; omega
  have n0 : IntKind.u64.wrap x = x := by rw [IntKind.wrap_u64]; omega
  have n1 : IntKind.u64.wrap y = y := by rw [IntKind.wrap_u64]; omega
  have P0 := Lib.hid (Blk.new w 178 #[.int .i64 x, .int .i64 y])
  have B0 := Lib.hid (bl_alloc w (.cells #[.int .i64 x, .int .i64 y] 178))
  go_enter Tryz.func211, Tryz.ntmps211
  go_wp2_with fail
  (with_reducible refine (KC.out _).mono ?_)
  rintro e w1 ⟨⟨r0, r1, r2, r3, q0, q1, q2, q3, rfl, hr, hq⟩, hb1⟩
  have K1 := Lib.hid (fun W => timesQ_any q0 q1 q2 q3 y W hq.1 hq.2.1 hq.2.2.1 hq.2.2.2 ⟨by omega, by omega⟩)
  have K2 := Lib.hid (fun W => timesQ_any r0 r1 r2 r3 x W hr.1 hr.2.1 hr.2.2.1 hr.2.2.2 ⟨by omega, by omega⟩)
  have P1 := Lib.hid (((P0.out.below hb1 P0.out.lt).alloc (.cells (arr4 r0 r1 r2 r3) 238)).alloc (.cells (arr4 q0 q1 q2 q3) 238))
  have T5 := Lib.hid ((Blk.new w1 238 (arr4 r0 r1 r2 r3)).alloc (.cells (arr4 q0 q1 q2 q3) 238))
  have t6 := Blk.new (w1.alloc (.cells (arr4 r0 r1 r2 r3) 238)) 238 (arr4 q0 q1 q2 q3)
  rw [World.size_alloc] at t6
  have T6 := Lib.hid t6
  have hz1 := hb1.size
  have hz0 := B0.out.size
  have B1 := Lib.hid (((B0.out.trans (hb1.mono hz0)).alloc (by omega) (.cells (arr4 r0 r1 r2 r3) 238)).alloc (by simp; omega) (.cells (arr4 q0 q1 q2 q3) 238))
  clear hr hq t6 hb1 P0 B0 KC hk0 hk1
  unfold arr4 at P1 T5 T6 B1
  go_upto_region 7 with (fail)
  obtain ⟨W2, hW2⟩ : ∃ W2, (w1.alloc (.cells #[.int .u64 r0, .int .u64 r1, .int .u64 r2, .int .u64 r3] 238)).alloc (.cells #[.int .u64 q0, .int .u64 q1, .int .u64 q2, .int .u64 q3] 238) = W2 := ⟨_, rfl⟩
  rw [hW2] at P1 T5 T6 B1 ⊢
  clear hW2 hz0 hz1
  generalize w1.heap.size = g5 at *
  obtain ⟨x0, x1, x2, x3⟩ := cells4 T5.out (Below.refl _ _)
  obtain ⟨y0, y1, y2, y3⟩ := cells4 T6.out (Below.refl _ _)
  have p0 : W2.cell? ⟨w.heap.size, 0, none⟩ = some (.int .i64 x) := P1.out.cell 0
  have p1 : W2.cell? ⟨w.heap.size, 1, none⟩ = some (.int .i64 y) := P1.out.cell 1
  go_region_held3 (fun w' => w'.cell? ⟨g5, 0, none⟩ = some (.int .u64 r0) ∧ w'.cell? ⟨g5, 1, none⟩ = some (.int .u64 r1) ∧ w'.cell? ⟨g5, 2, none⟩ = some (.int .u64 r2) ∧ w'.cell? ⟨g5, 3, none⟩ = some (.int .u64 r3) ∧ w'.cell? ⟨g5 + 1, 0, none⟩ = some (.int .u64 q0) ∧ w'.cell? ⟨g5 + 1, 1, none⟩ = some (.int .u64 q1) ∧ w'.cell? ⟨g5 + 1, 2, none⟩ = some (.int .u64 q2) ∧ w'.cell? ⟨g5 + 1, 3, none⟩ = some (.int .u64 q3) ∧ w'.cell? ⟨w.heap.size, 0, none⟩ = some (.int .i64 x) ∧ w'.cell? ⟨w.heap.size, 1, none⟩ = some (.int .i64 y)) (simp [*]) (first
    | (go_at_call 249; (with_reducible refine (K1.out _).mono ?_); rintro e w9 ⟨⟨a0, a1, a2, a3, t, rfl, ha, -, -⟩, hb9⟩; (first | (replace hb9 := first_b4 hb9) | skip); clear x0 x1 x2 x3 y0 y1 y2 y3 p0 p1; obtain ⟨x0, x1, x2, x3⟩ := cells4 T5.out hb9; obtain ⟨y0, y1, y2, y3⟩ := cells4 T6.out hb9; have T5n := Lib.hid (T5.out.below hb9 T5.out.lt); have T6n := Lib.hid (T6.out.below hb9 T6.out.lt); have P1n := Lib.hid (P1.out.below hb9 P1.out.lt); have B9 := Lib.hid (B1.out.trans (hb9.mono B1.out.size)); have p0 : w9.cell? ⟨w.heap.size, 0, none⟩ = some (.int .i64 x) := P1n.out.cell 0; have p1 : w9.cell? ⟨w.heap.size, 1, none⟩ = some (.int .i64 y) := P1n.out.cell 1)
    | (go_at_call 249; (with_reducible refine (K2.out _).mono ?_); rintro e w8 ⟨⟨c0, c1, c2, c3, t', rfl, hc, -, -⟩, hb8⟩; clear x0 x1 x2 x3 y0 y1 y2 y3 p0 p1; obtain ⟨x0, x1, x2, x3⟩ := cells4 T5n.out hb8; obtain ⟨y0, y1, y2, y3⟩ := cells4 T6n.out hb8; have T5m := Lib.hid (T5n.out.below hb8 T5n.out.lt); have T6m := Lib.hid (T6n.out.below hb8 T6n.out.lt); have P1m := Lib.hid (P1n.out.below hb8 P1n.out.lt); have B8 := Lib.hid (B9.out.trans (hb8.mono B9.out.size)); have p0 : w8.cell? ⟨w.heap.size, 0, none⟩ = some (.int .i64 x) := P1m.out.cell 0; have p1 : w8.cell? ⟨w.heap.size, 1, none⟩ = some (.int .i64 y) := P1m.out.cell 1)
    | (go_at_call 250; (with_reducible refine (lessQ_any _ _ _ _ _ _ _ _ _).mono ?_); rintro e w7 ⟨⟨bo, rfl⟩, hb7⟩; clear x0 x1 x2 x3 y0 y1 y2 y3 p0 p1; obtain ⟨x0, x1, x2, x3⟩ := cells4 T5m.out hb7; obtain ⟨y0, y1, y2, y3⟩ := cells4 T6m.out hb7; have P1k := Lib.hid (P1m.out.below hb7 P1m.out.lt); have B7 := Lib.hid (B8.out.trans (hb7.mono B8.out.size)); have p0 : w7.cell? ⟨w.heap.size, 0, none⟩ = some (.int .i64 x) := P1k.out.cell 0; have p1 : w7.cell? ⟨w.heap.size, 1, none⟩ = some (.int .i64 y) := P1k.out.cell 1)
    | fail)
  all_goals
    go_wp2
    go_ret
    exact ⟨⟨_, rfl⟩, B7.out⟩
/-- whether an angle is at most that of a point: some answer -/
theorem reaches_any (x y k : Int) (w : World) (hx0 : 0 ≤ x) (hx1 : x ≤ 1099511627776) (hy0 : 0 ≤ y) (hy1 : y ≤ 1099511627776) (h0 : 0 < k) (h1 : k < 5400000) :
    Calls Tryz.prog 211 #[.agg #[.int .i64 x, .int .i64 y], .int .i64 k] w fun e w' => AnyBool e ∧ Below w.heap.size w w' := by
  by_cases h : k = 2700000
  · subst h
    exact (reaches_half x y w).mono fun e w' ⟨he, hb⟩ => ⟨⟨_, he⟩, hb⟩
  · exact reaches_gen x y k w hx0 hx1 hy0 hy1 h0 h1 h
end Go.Proofs.YtifdgdgfmjfbdaaGreat
namespace Go.Proofs.YtifdgdgfmjfbdaaGreat
open Go.RowKit
/-- how often a point is turned by a right angle, until it is in the first quadrant -/
def rnd (x y : Int) : Nat := if 0 < x ∧ 0 ≤ y then 0 else if x ≤ 0 ∧ 0 < y then 1 else if x < 0 ∧ y ≤ 0 then 2 else 3
theorem rnd_turn {x y : Int} (hne : x ≠ 0 ∨ y ≠ 0) (h : ¬ (0 < x ∧ 0 ≤ y)) : rnd y (-x) + 1 = rnd x y := by
  unfold rnd
  repeat' split
  all_goals omega
theorem rnd_le (x y : Int) : rnd x y ≤ 3 := by
  unfold rnd
  repeat' split
  all_goals omega
/-- some angle of a point -/
def AngR (e : Ending) : Prop := ∃ (lo : Int) (bo : Bool), e = .returned (.tuple #[.int .i64 lo, .bool bo]) ∧ 0 ≤ lo ∧ lo < 21600000
set_option maxHeartbeats 4000000 in
set_option maxRecDepth 100000 in
theorem angle_any (x y : Int) (w : World) (hx0 : -1099511627776 ≤ x) (hx1 : x ≤ 1099511627776) (hy0 : -1099511627776 ≤ y) (hy1 : y ≤ 1099511627776) (hne : x ≠ 0 ∨ y ≠ 0) :
    Calls Tryz.prog 155 #[.agg #[.int .i64 x, .int .i64 y]] w fun e w' => AngR e ∧ Below w.heap.size w w' := by
  have P0 := Lib.hid (Blk.new w 178 #[.int .i64 x, .int .i64 y])
  have B0 := Lib.hid (bl_alloc w (.cells #[.int .i64 x, .int .i64 y] 178))
  have HN := Lib.hid hne
  clear hne
  go_enter Tryz.func155, Tryz.ntmps155
  go_wp2
  go_loopg [4] 3 (fun gg s4 wr => ∃ x' y' t : Int, rnd x' y' ≤ gg ∧ 0 ≤ t ∧ t + 5400000 * rnd x' y' ≤ 16200000 ∧ s4 = .int .i64 t ∧ (x' ≠ 0 ∨ y' ≠ 0) ∧ (-1099511627776 ≤ x' ∧ x' ≤ 1099511627776 ∧ -1099511627776 ≤ y' ∧ y' ≤ 1099511627776) ∧ Blk wr w.heap.size 178 #[.int .i64 x', .int .i64 y'] ∧ Below w.heap.size w wr)
  case atStart => exact ⟨x, y, 0, rnd_le _ _, Int.le_refl _, by have := rnd_le x y; omega, rfl, HN.out, ⟨hx0, hx1, hy0, hy1⟩, P0.out, B0.out⟩
  case round =>
    obtain ⟨x', y', t, hg, ht0, ht1, rfl, hne, hbd, hP, hB⟩ := hrel
    clear P0 B0 HN
    have HP := Lib.hid hP
    have HB := Lib.hid hB
    have p0 : wr.cell? ⟨w.heap.size, 0, none⟩ = some (.int .i64 x') := hP.cell 0
    have p1 : wr.cell? ⟨w.heap.size, 1, none⟩ = some (.int .i64 y') := hP.cell 1
    have f0 := hP.frozen 0
    have f1 := hP.frozen 1
    have hl0 := hP.lt
    clear hP hB
    by_cases hq : 0 < x' ∧ 0 ≤ y'
    · have d0 : decide (0 < x') = true := decide_eq_true hq.1
      have d1 : decide (0 ≤ y') = true := decide_eq_true hq.2
      have ht2 : t ≤ 16200000 := by omega
      have hq0 := hq.1
      have hq1 := hq.2
      have KL := Lib.hid (fun m (h0 : 0 < m) (h1 : m < 5400000) W => reaches_any x' y' m W (by omega) hbd.2.1 hq1 hbd.2.2.2 h0 h1)
      clear hne hg ht1 f0 f1 hq hl0
      go_wp2
      clear d0 d1
      go_loopw [5, 6] (fun v5 v6 ws => ∃ lo hi : Int, v5 = .int .i64 lo ∧ v6 = .int .i64 hi ∧ 0 ≤ lo ∧ lo < hi ∧ hi ≤ 5400000 ∧ Blk ws w.heap.size 178 #[.int .i64 x', .int .i64 y'] ∧ Below w.heap.size w ws) (fun v5 v6 _ => (intOf v6 - intOf v5).toNat)
      case atStart => exact ⟨0, 5400000, rfl, rfl, by omega, by omega, by omega, HP.out, HB.out⟩
      case round =>
        obtain ⟨lo, hi, rfl, rfl, hl0, hlh, hh, hP, hB⟩ := hrel
        clear HP HB p0 p1
        have HP := Lib.hid hP
        have HB := Lib.hid hB
        have p0 : wr.cell? ⟨w.heap.size, 0, none⟩ = some (.int .i64 x') := hP.cell 0
        have p1 : wr.cell? ⟨w.heap.size, 1, none⟩ = some (.int .i64 y') := hP.cell 1
        clear hP hB
        by_cases h1 : 1 < hi - lo
        · obtain ⟨m, hm⟩ : ∃ m, (lo + hi) / 2 = m := ⟨_, rfl⟩
          have hm0 : 0 < m := by omega
          have hm1 : m < 5400000 := by omega
          have hm2 : lo < m ∧ m < hi := by omega
          have n0 : wrap64 (hi - lo) = hi - lo := IntWalk.wrap64_in _ (by omega)
          have n1 : wrap64 (lo + hi) = lo + hi := IntWalk.wrap64_in _ (by omega)
          have n2 : Int.tdiv (lo + hi) 2 = m := by rw [Int.tdiv_eq_ediv_of_nonneg (by omega)]; exact hm
          have n3 : wrap64 m = m := IntWalk.wrap64_in _ (by omega)
          have hd1 : decide (1 < hi - lo) = true := decide_eq_true h1
          clear hm h1
          go_wp2_with fail
          (with_reducible refine (KL.out m hm0 hm1 _).mono ?_)
          rintro e w1 ⟨⟨bo, rfl⟩, hb1⟩
          clear p0 p1
          cases bo with
          | true =>
            go_wp2
            go_roundw
            case rel => exact ⟨m, hi, rfl, rfl, by omega, by omega, hh, HP.out.below hb1 HP.out.lt, HB.out.trans (hb1.mono HB.out.size)⟩
            case measure => simp [intOf]; omega
          | false =>
            go_wp2
            go_roundw
            case rel => exact ⟨lo, m, rfl, rfl, by omega, by omega, by omega, HP.out.below hb1 HP.out.lt, HB.out.trans (hb1.mono HB.out.size)⟩
            case measure => simp [intOf]; omega
        · have n0 : wrap64 (hi - lo) = hi - lo := IntWalk.wrap64_in _ (by omega)
          have hd1 : decide (1 < hi - lo) = false := decide_eq_false h1
          have n1 : wrap64 (t + lo) = t + lo := IntWalk.wrap64_in _ (by omega)
          have n4 : wrap64 lo = lo := IntWalk.wrap64_in _ (by omega)
          have hr : 0 ≤ t + lo ∧ t + lo < 21600000 := by omega
          clear h1 KL
          obtain ⟨b1, e1⟩ : ∃ b, (lo == 0) = b := ⟨_, rfl⟩
          obtain ⟨b2, e2⟩ : ∃ b, (y' == 0) = b := ⟨_, rfl⟩
          obtain ⟨b3, e3⟩ : ∃ b, (lo == 2700000) = b := ⟨_, rfl⟩
          obtain ⟨b4, e4⟩ : ∃ b, (x' == y') = b := ⟨_, rfl⟩
          clear hl0 hlh hh hbd hq0 hq1 ht0 ht2
          obtain ⟨bo, hbo⟩ : ∃ bo, ((b1 && b2) || (b3 && b4)) = bo := ⟨_, rfl⟩
          have HBo := Lib.hid hbo
          clear hbo
          cases b1 <;> cases b2 <;> cases b3 <;> cases b4
          all_goals
            go_wp2
            go_quiet (fail)
            rename_i nq
            go_wp2
            have hbo := HBo.out
            simp only [Bool.and_true, Bool.true_and, Bool.and_false, Bool.false_and, Bool.or_true, Bool.true_or, Bool.or_false, Bool.false_or] at hbo
            exact bodyPost_ret (v := .tuple #[.int .i64 (t + lo), .bool bo]) (by simp [results, Tryz.results155, go_sem, ← hbo]) rfl ⟨⟨_, _, rfl, hr.1, hr.2⟩, bl_drewN HB.out nq⟩
    · have hrt := rnd_turn hne hq
      have n0 : wrap64 (-x') = -x' := IntWalk.wrap64_in _ (by omega)
      have n1 : wrap64 (t + 5400000) = t + 5400000 := IntWalk.wrap64_in _ (by omega)
      have S := Lib.hid ((HP.out.set_ 0 (.int .i64 y')).set_ 1 (.int .i64 (-x')))
      have SB := Lib.hid ((HB.out.setCell (p := ⟨w.heap.size, 0, none⟩) (Nat.le_refl _) (.int .i64 y')).setCell (p := ⟨w.heap.size, 1, none⟩) (Nat.le_refl _) (.int .i64 (-x')))
      have HNE := Lib.hid hne
      have HBD := Lib.hid hbd
      clear hne
      by_cases h0 : 0 < x'
      · have d0 : decide (0 < x') = true := decide_eq_true h0
        have d1 : decide (0 ≤ y') = false := decide_eq_false (by omega)
        clear hq h0
        go_wp2
        go_roundg (rnd y' (-x'))
        case measure => omega
        case rel => exact ⟨y', -x', t + 5400000, Nat.le_refl _, by omega, by omega, by go_num, by have := HNE.out; omega, by have := HBD.out; omega, S.out, SB.out⟩
      · have d0 : decide (0 < x') = false := decide_eq_false h0
        clear hq h0
        go_wp2
        go_roundg (rnd y' (-x'))
        case measure => omega
        case rel => exact ⟨y', -x', t + 5400000, Nat.le_refl _, by omega, by omega, by go_num, by have := HNE.out; omega, by have := HBD.out; omega, S.out, SB.out⟩
end Go.Proofs.YtifdgdgfmjfbdaaGreat
namespace Go.Proofs.YtifdgdgfmjfbdaaGreat
open Go.RowKit
theorem corner_at0 (a0 a1 a2 a3 a4 a5 a6 a7 : Int) (W : World) : (Instr.index 179 (.agg #[.int .i64 a0, .int .i64 a1, .int .i64 a2, .int .i64 a3, .int .i64 a4, .int .i64 a5, .int .i64 a6, .int .i64 a7]) (.int .i64 0)).run Tryz.prog W = .ok (.agg #[.int .i64 a0, .int .i64 a1]) W := by
  have u := Tryz.underlying179
  have up := Tryz.underlying178
  have sp := Tryz.sizeOf178
  have ap := Tryz.isAgg178
  simp [Instr.index, run_underlying u, asIntOf, go_sem, part]
theorem corner_at1 (a0 a1 a2 a3 a4 a5 a6 a7 : Int) (W : World) : (Instr.index 179 (.agg #[.int .i64 a0, .int .i64 a1, .int .i64 a2, .int .i64 a3, .int .i64 a4, .int .i64 a5, .int .i64 a6, .int .i64 a7]) (.int .i64 1)).run Tryz.prog W = .ok (.agg #[.int .i64 a2, .int .i64 a3]) W := by
  have u := Tryz.underlying179
  have up := Tryz.underlying178
  have sp := Tryz.sizeOf178
  have ap := Tryz.isAgg178
  simp [Instr.index, run_underlying u, asIntOf, go_sem, part]
theorem corner_at2 (a0 a1 a2 a3 a4 a5 a6 a7 : Int) (W : World) : (Instr.index 179 (.agg #[.int .i64 a0, .int .i64 a1, .int .i64 a2, .int .i64 a3, .int .i64 a4, .int .i64 a5, .int .i64 a6, .int .i64 a7]) (.int .i64 2)).run Tryz.prog W = .ok (.agg #[.int .i64 a4, .int .i64 a5]) W := by
  have u := Tryz.underlying179
  have up := Tryz.underlying178
  have sp := Tryz.sizeOf178
  have ap := Tryz.isAgg178
  simp [Instr.index, run_underlying u, asIntOf, go_sem, part]
theorem corner_at3 (a0 a1 a2 a3 a4 a5 a6 a7 : Int) (W : World) : (Instr.index 179 (.agg #[.int .i64 a0, .int .i64 a1, .int .i64 a2, .int .i64 a3, .int .i64 a4, .int .i64 a5, .int .i64 a6, .int .i64 a7]) (.int .i64 3)).run Tryz.prog W = .ok (.agg #[.int .i64 a6, .int .i64 a7]) W := by
  have u := Tryz.underlying179
  have up := Tryz.underlying178
  have sp := Tryz.sizeOf178
  have ap := Tryz.isAgg178
  simp [Instr.index, run_underlying u, asIntOf, go_sem, part]
end Go.Proofs.YtifdgdgfmjfbdaaGreat
