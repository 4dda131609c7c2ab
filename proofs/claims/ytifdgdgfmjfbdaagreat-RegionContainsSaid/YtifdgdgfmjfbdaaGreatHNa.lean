/- The walks of circles.Valid, triangle, Side at valid circles and places, and of the reference's Side. -/
import Derived.Test.YtifdgdgfmjfbdaaGreatHBi
import Derived.Test.YtifdgdgfmjfbdaaGreatHAm
set_option linter.unusedVariables false
set_option linter.unusedSimpArgs false
namespace Go.Proofs.YtifdgdgfmjfbdaaGreat
open Go.RowKit
/-- a valid circle -/
structure VC (a0 a1 o0 o1 r0 r1 : Int) : Prop where
  p : VP (a0, a1, o0, o1)
  h0 : 0 ≤ r0
  h1 : r0 ≤ r1
  h2 : r1 ≤ 10800000
/-- on which side -/
def sdV (s r : Int × Int) : Int := if r.2 < s.1 then 1 else if s.2 < r.1 then -1 else 0
def SdI5 (W2 : World) (x0 x1 x2 x3 x4 x5 x6 x7 x8 x9 x10 x11 x12 x13 x14 x15 x16 x17 x18 x19 x20 x21 x22 x23 x24 x25 x26 x27 : Value) (v : Nat → Int × Int) (a : Act) (L : Nat → Bool) (a' : Act) (w' : World) : Prop :=
  ∃ (v23 v24 v25 v26 v27 v28 v29 v30 v31 v32 v33 v34 v35 v36 v37 v38 v39 v40 v41 v42 v43 v44 v45 v46 v47 v48 v49 v50 v8 : Value) (g : Nat → Nat), a' = (((((((((((((((((((((((((((((a.put (some 23) v23).put (some 24) v24).put (some 25) v25).put (some 26) v26).put (some 27) v27).put (some 28) v28).put (some 29) v29).put (some 30) v30).put (some 31) v31).put (some 32) v32).put (some 33) v33).put (some 34) v34).put (some 35) v35).put (some 36) v36).put (some 37) v37).put (some 38) v38).put (some 39) v39).put (some 40) v40).put (some 41) v41).put (some 42) v42).put (some 43) v43).put (some 44) v44).put (some 45) v45).put (some 46) v46).put (some 47) v47).put (some 48) v48).put (some 49) v49).put (some 50) v50).put (some 8) v8) ∧ MJ W2 w' L 1 28 29 g v ∧
    (L 0 = true → v23 = x0) ∧ (L 1 = true → v24 = x1) ∧ (L 2 = true → v25 = x2) ∧ (L 3 = true → v26 = x3) ∧ (L 4 = true → v27 = x4) ∧ (L 5 = true → v28 = x5) ∧ (L 6 = true → v29 = x6) ∧ (L 7 = true → v30 = x7) ∧ (L 8 = true → v31 = x8) ∧ (L 9 = true → v32 = x9) ∧ (L 10 = true → v33 = x10) ∧ (L 11 = true → v34 = x11) ∧ (L 12 = true → v35 = x12) ∧ (L 13 = true → v36 = x13) ∧ (L 14 = true → v37 = x14) ∧ (L 15 = true → v38 = x15) ∧ (L 16 = true → v39 = x16) ∧ (L 17 = true → v40 = x17) ∧ (L 18 = true → v41 = x18) ∧ (L 19 = true → v42 = x19) ∧ (L 20 = true → v43 = x20) ∧ (L 21 = true → v44 = x21) ∧ (L 22 = true → v45 = x22) ∧ (L 23 = true → v46 = x23) ∧ (L 24 = true → v47 = x24) ∧ (L 25 = true → v48 = x25) ∧ (L 26 = true → v49 = x26) ∧ (L 27 = true → v50 = x27) ∧ (L 28 = true → v8 = .pointer (some ⟨g 0, 0, none⟩))
theorem SdI5.start (W2 : World) (x0 x1 x2 x3 x4 x5 x6 x7 x8 x9 x10 x11 x12 x13 x14 x15 x16 x17 x18 x19 x20 x21 x22 x23 x24 x25 x26 x27 : Value) (v : Nat → Int × Int) (a : Act) : SdI5 W2 x0 x1 x2 x3 x4 x5 x6 x7 x8 x9 x10 x11 x12 x13 x14 x15 x16 x17 x18 x19 x20 x21 x22 x23 x24 x25 x26 x27 v a (fun _ => false) a W2.drew :=
  ⟨_, _, _, _, _, _, _, _, _, _, _, _, _, _, _, _, _, _, _, _, _, _, _, _, _, _, _, _, _, fun _ => 0, by rw [putQ_self a 23, putQ_self a 24, putQ_self a 25, putQ_self a 26, putQ_self a 27, putQ_self a 28, putQ_self a 29, putQ_self a 30, putQ_self a 31, putQ_self a 32, putQ_self a 33, putQ_self a 34, putQ_self a 35, putQ_self a 36, putQ_self a 37, putQ_self a 38, putQ_self a 39, putQ_self a 40, putQ_self a 41, putQ_self a 42, putQ_self a 43, putQ_self a 44, putQ_self a 45, putQ_self a 46, putQ_self a 47, putQ_self a 48, putQ_self a 49, putQ_self a 50, putQ_self a 8], MJ.start W2 1 28 29 _ v, fun h => (by cases h), fun h => (by cases h), fun h => (by cases h), fun h => (by cases h), fun h => (by cases h), fun h => (by cases h), fun h => (by cases h), fun h => (by cases h), fun h => (by cases h), fun h => (by cases h), fun h => (by cases h), fun h => (by cases h), fun h => (by cases h), fun h => (by cases h), fun h => (by cases h), fun h => (by cases h), fun h => (by cases h), fun h => (by cases h), fun h => (by cases h), fun h => (by cases h), fun h => (by cases h), fun h => (by cases h), fun h => (by cases h), fun h => (by cases h), fun h => (by cases h), fun h => (by cases h), fun h => (by cases h), fun h => (by cases h), fun h => (by cases h)⟩
set_option maxHeartbeats 2000000 in
set_option maxRecDepth 100000 in
theorem cirValid_yes (a0 a1 o0 o1 r0 r1 : Int) (w : World) (h : VC a0 a1 o0 o1 r0 r1) :
    Calls Tryz.prog 13 #[.agg #[.int .i64 a0, .int .i64 a1, .int .i64 o0, .int .i64 o1, .int .i64 r0, .int .i64 r1]] w fun e w' => e = .returned (.bool true) ∧ Below w.heap.size w w' := by
  obtain ⟨hp, h0, h1, h2⟩ := h
  have KV := Lib.hid (fun W => placeValid_vp a0 a1 o0 o1 W hp)
  have KA := fun W => aVal_any r0 r1 W
  rw [show avB r0 r1 = true from avB_true.2 (by omega)] at KA
  have KA := Lib.hid KA
  have C0 := Lib.hid (Blk.new w 39 #[.int .i64 a0, .int .i64 a1, .int .i64 o0, .int .i64 o1, .int .i64 r0, .int .i64 r1])
  have B0 := Lib.hid (bl_alloc w (.cells #[.int .i64 a0, .int .i64 a1, .int .i64 o0, .int .i64 o1, .int .i64 r0, .int .i64 r1] 39))
  have d0 : decide (0 ≤ r0) = true := decide_eq_true h0
  have d1 : decide (r1 ≤ 10800000) = true := decide_eq_true h2
  clear hp h0 h1 h2
  go_enter Tryz.func13, Tryz.ntmps13
  go_wp2_with fail
  (with_reducible refine (KV.out _).mono ?_)
  rintro e w1 ⟨rfl, hb1⟩
  have C1 := Lib.hid (C0.out.below hb1 C0.out.lt)
  have B1 := Lib.hid (B0.out.trans (hb1.mono B0.out.size))
  have k4 : w1.cell? ⟨w.heap.size, 4, none⟩ = some (.int .i64 r0) := C1.out.cell 4
  have k5 : w1.cell? ⟨w.heap.size, 5, none⟩ = some (.int .i64 r1) := C1.out.cell 5
  clear hb1 C0 B0
  go_wp2_with fail
  (with_reducible refine (KA.out _).mono ?_)
  rintro e w2 ⟨rfl, hb2⟩
  have C2 := Lib.hid (C1.out.below hb2 C1.out.lt)
  have B2 := Lib.hid (B1.out.trans (hb2.mono B1.out.size))
  clear k4 k5
  have k4 : w2.cell? ⟨w.heap.size, 4, none⟩ = some (.int .i64 r0) := C2.out.cell 4
  have k5 : w2.cell? ⟨w.heap.size, 5, none⟩ = some (.int .i64 r1) := C2.out.cell 5
  clear hb2 C1 B1
  go_wp2
  go_ret
  exact ⟨rfl, B2.out⟩
set_option maxHeartbeats 2000000 in
set_option maxRecDepth 100000 in
theorem ctri_any (a0 a1 o0 o1 r0 r1 q0 q1 q2 q3 : Int) (w : World) (h4 : -20000000 ≤ o0 ∧ o0 ≤ 20000000 ∧ -20000000 ≤ o1 ∧ o1 ≤ 40000000 ∧ -20000000 ≤ q2 ∧ q2 ≤ 20000000 ∧ -20000000 ≤ q3 ∧ q3 ≤ 40000000) :
    Calls Tryz.prog 44 #[.agg #[.int .i64 a0, .int .i64 a1, .int .i64 o0, .int .i64 o1, .int .i64 r0, .int .i64 r1], .agg #[.int .i64 q0, .int .i64 q1, .int .i64 q2, .int .i64 q3]] w fun e w' => e = .returned (.agg #[.int .i64 q0, .int .i64 q1, .int .i64 a0, .int .i64 a1, .int .i64 (q2 - o1), .int .i64 (q3 - o0)]) ∧ Below w.heap.size w w' := by
  have e0 : wrap64 (q2 - o1) = q2 - o1 := IntWalk.wrap64_in _ (by omega)
  have e1 : wrap64 (q3 - o0) = q3 - o0 := IntWalk.wrap64_in _ (by omega)
  clear h4
  go_enter Tryz.func44, Tryz.ntmps44
  go_wp2
  refine bodyPost_ret (v := .agg #[.int .i64 q0, .int .i64 q1, .int .i64 a0, .int .i64 a1, .int .i64 (q2 - o1), .int .i64 (q3 - o0)]) (by simp [results, Tryz.results44, go_sem, *]; done) rfl ⟨rfl, ?_⟩
  repeat (first | exact Below.refl _ _ | assumption | refine bl_drew ?_ | refine bl_drewN ?_ _ | refine Below.setCell ?_ (by first | assumption | omega | (simp; done) | (simp; omega)) _ | refine Below.alloc ?_ (by first | assumption | omega | (simp; done) | (simp; omega)) _)
theorem vp_bd {q0 q1 q2 q3 : Int} (h : VP (q0, q1, q2, q3)) : -5400000 ≤ q0 ∧ q0 ≤ q1 ∧ q1 ≤ 5400000 ∧ -10800000 ≤ q2 ∧ q2 ≤ q3 ∧ q2 < 10800000 ∧ q3 ≤ q2 + 21600000 := by
  obtain ⟨h1, h2, h3, h4⟩ := h
  unfold VL at h4
  simp only [] at h1 h2 h3 h4
  omega
set_option maxHeartbeats 8000000 in
set_option maxRecDepth 100000 in
theorem Side_yes (a0 a1 o0 o1 r0 r1 q0 q1 q2 q3 : Int) (w : World) (hc : VC a0 a1 o0 o1 r0 r1) (hq : VP (q0, q1, q2, q3)) :
    Calls Tryz.prog 12 #[.agg #[.int .i64 a0, .int .i64 a1, .int .i64 o0, .int .i64 o1, .int .i64 r0, .int .i64 r1], .agg #[.int .i64 q0, .int .i64 q1, .int .i64 q2, .int .i64 q3]] w fun e w' => e = .returned (.tuple #[.int .i64 (sdV (Trig.sinT (q0, q1) (a0, a1) (q2 - o1, q3 - o0)) (Trig.csP (r0, r1))), .int .i64 0]) ∧ Below w.heap.size w w' := by
  have bq := vp_bd hq
  have bp := vp_bd hc.p
  have br := hc.h0
  have br1 := hc.h1
  have br2 := hc.h2
  have KV := Lib.hid (fun W => cirValid_yes a0 a1 o0 o1 r0 r1 W hc)
  have KP := Lib.hid (fun W => placeValid_vp q0 q1 q2 q3 W hq)
  have KT := fun W => ctri_any a0 a1 o0 o1 r0 r1 q0 q1 q2 q3 W (by omega)
  have KSA := fun (g : Nat) (W : World) (h : Blk W g 96 #[.int .i64 0]) => ksin_any g (q0, q1) W (avB_true.2 (by simp only []; omega)) h
  have KSB := fun (g : Nat) (W : World) (h : Blk W g 96 #[.int .i64 0]) => ksin_any g (a0, a1) W (avB_true.2 (by simp only []; omega)) h
  have KCA := fun (g : Nat) (W : World) (h : Blk W g 96 #[.int .i64 0]) => kcos_any g (q0, q1) W (avB_true.2 (by simp only []; omega)) h
  have KCB := fun (g : Nat) (W : World) (h : Blk W g 96 #[.int .i64 0]) => kcos_any g (a0, a1) W (avB_true.2 (by simp only []; omega)) h
  have KCC := fun (g : Nat) (W : World) (h : Blk W g 96 #[.int .i64 0]) => kcos_any g (q2 - o1, q3 - o0) W (avB_true.2 (by simp only []; omega)) h
  have KCR := fun (g : Nat) (W : World) (h : Blk W g 96 #[.int .i64 0]) => kcos_any g (r0, r1) W (avB_true.2 (by simp only []; omega)) h
  have hsa := Trig.snP_small (q0, q1)
  have hsb := Trig.snP_small (a0, a1)
  have hca := Trig.csP_small (q0, q1)
  have hcb := Trig.csP_small (a0, a1)
  have hcc := Trig.csP_small (q2 - o1, q3 - o0)
  have hS : Trig.sinT (q0, q1) (a0, a1) (q2 - o1, q3 - o0) = Trig.addP (Trig.mulP (Trig.snP (q0, q1)) (Trig.snP (a0, a1))) (Trig.mulP (Trig.mulP (Trig.csP (q0, q1)) (Trig.csP (a0, a1))) (Trig.csP (q2 - o1, q3 - o0))) := rfl
  rw [hS]
  clear hS hc hq bq bp br br1 br2
  generalize Trig.snP (q0, q1) = sa at *
  generalize Trig.snP (a0, a1) = sb at *
  generalize Trig.csP (q0, q1) = ca at *
  generalize Trig.csP (a0, a1) = cb at *
  generalize Trig.csP (q2 - o1, q3 - o0) = cc at *
  generalize Trig.csP (r0, r1) = tr at *
  have KM1 := fun (g : Nat) (W : World) (h : Blk W g 96 #[.int .i64 0]) => kmul_any g sa sb W hsa hsb h
  have hma := Trig.mulP_small hsa hsb
  generalize Trig.mulP sa sb = ma at *
  have KM2 := fun (g : Nat) (W : World) (h : Blk W g 96 #[.int .i64 0]) => kmul_any g ca cb W hca hcb h
  have hmb := Trig.mulP_small hca hcb
  generalize Trig.mulP ca cb = mb at *
  have KM3 := fun (g : Nat) (W : World) (h : Blk W g 96 #[.int .i64 0]) => kmul_any g mb cc W hmb hcc h
  have hmc := Trig.mulP_small hmb hcc
  generalize Trig.mulP mb cc = mc at *
  have KPL := fun (g : Nat) (W : World) (h : Blk W g 96 #[.int .i64 0]) => kplus_any g ma mc W hma hmc h
  generalize Trig.addP ma mc = s at *
  obtain ⟨V, hV⟩ : ∃ V, sdV s tr = V := ⟨_, rfl⟩
  rw [hV]
  unfold sdV at hV
  obtain ⟨sa0, sa1⟩ := sa
  obtain ⟨sb0, sb1⟩ := sb
  obtain ⟨ca0, ca1⟩ := ca
  obtain ⟨cb0, cb1⟩ := cb
  obtain ⟨cc0, cc1⟩ := cc
  obtain ⟨t0, t1⟩ := tr
  obtain ⟨ma0, ma1⟩ := ma
  obtain ⟨mb0, mb1⟩ := mb
  obtain ⟨mc0, mc1⟩ := mc
  obtain ⟨s0, s1⟩ := s
  simp only [] at KSA KSB KCA KCB KCC KCR KM1 KM2 KM3 KPL hV
  generalize q2 - o1 = c0 at *
  generalize q3 - o0 = c1 at *
  have KT := Lib.hid KT
  have KSA := Lib.hid KSA
  have KSB := Lib.hid KSB
  have KCA := Lib.hid KCA
  have KCB := Lib.hid KCB
  have KCC := Lib.hid KCC
  have KCR := Lib.hid KCR
  have KM1 := Lib.hid KM1
  have KM2 := Lib.hid KM2
  have KM3 := Lib.hid KM3
  have KPL := Lib.hid KPL
  have HV := Lib.hid hV
  clear hsa hsb hca hcb hcc hma hmb hmc hV
  have C0 := Lib.hid ((Blk.new w 39 #[.int .i64 a0, .int .i64 a1, .int .i64 o0, .int .i64 o1, .int .i64 r0, .int .i64 r1]).alloc (.cells #[.int .i64 q0, .int .i64 q1, .int .i64 q2, .int .i64 q3] 31))
  have p0 := Blk.new (w.alloc (.cells #[.int .i64 a0, .int .i64 a1, .int .i64 o0, .int .i64 o1, .int .i64 r0, .int .i64 r1] 39)) 31 #[.int .i64 q0, .int .i64 q1, .int .i64 q2, .int .i64 q3]
  rw [World.size_alloc] at p0
  have P0 := Lib.hid p0
  have B0 := Lib.hid ((bl_alloc w (.cells #[.int .i64 a0, .int .i64 a1, .int .i64 o0, .int .i64 o1, .int .i64 r0, .int .i64 r1] 39)).alloc (by simp) (.cells #[.int .i64 q0, .int .i64 q1, .int .i64 q2, .int .i64 q3] 31))
  clear p0
  go_enter Tryz.func12, Tryz.ntmps12
  go_wp2_with fail
  (with_reducible refine (KV.out _).mono ?_)
  rintro e w1 ⟨rfl, hb1⟩
  have C1 := Lib.hid (C0.out.below hb1 C0.out.lt)
  have P1 := Lib.hid (P0.out.below hb1 P0.out.lt)
  have B1 := Lib.hid (B0.out.trans (hb1.mono B0.out.size))
  have x0 : w1.cell? ⟨w.heap.size + 1, 0, none⟩ = some (.int .i64 q0) := P1.out.cell 0
  have x1 : w1.cell? ⟨w.heap.size + 1, 1, none⟩ = some (.int .i64 q1) := P1.out.cell 1
  have x2 : w1.cell? ⟨w.heap.size + 1, 2, none⟩ = some (.int .i64 q2) := P1.out.cell 2
  have x3 : w1.cell? ⟨w.heap.size + 1, 3, none⟩ = some (.int .i64 q3) := P1.out.cell 3
  clear hb1 C0 P0 B0
  go_wp2_with fail
  (with_reducible refine (KP.out _).mono ?_)
  rintro e w2 ⟨rfl, hb2⟩
  have C2 := Lib.hid (C1.out.below hb2 C1.out.lt)
  have P2 := Lib.hid (P1.out.below hb2 P1.out.lt)
  have B2 := Lib.hid (B1.out.trans (hb2.mono B1.out.size))
  clear hb2 x0 x1 x2 x3 C1 P1 B1
  have x0 : w2.cell? ⟨w.heap.size + 1, 0, none⟩ = some (.int .i64 q0) := P2.out.cell 0
  have x1 : w2.cell? ⟨w.heap.size + 1, 1, none⟩ = some (.int .i64 q1) := P2.out.cell 1
  have x2 : w2.cell? ⟨w.heap.size + 1, 2, none⟩ = some (.int .i64 q2) := P2.out.cell 2
  have x3 : w2.cell? ⟨w.heap.size + 1, 3, none⟩ = some (.int .i64 q3) := P2.out.cell 3
  have y0 : w2.cell? ⟨w.heap.size, 0, none⟩ = some (.int .i64 a0) := C2.out.cell 0
  have y1 : w2.cell? ⟨w.heap.size, 1, none⟩ = some (.int .i64 a1) := C2.out.cell 1
  have y2 : w2.cell? ⟨w.heap.size, 2, none⟩ = some (.int .i64 o0) := C2.out.cell 2
  have y3 : w2.cell? ⟨w.heap.size, 3, none⟩ = some (.int .i64 o1) := C2.out.cell 3
  have y4 : w2.cell? ⟨w.heap.size, 4, none⟩ = some (.int .i64 r0) := C2.out.cell 4
  have y5 : w2.cell? ⟨w.heap.size, 5, none⟩ = some (.int .i64 r1) := C2.out.cell 5
  go_wp2_with fail
  (with_reducible refine (KT.out _).mono ?_)
  rintro e w2' ⟨rfl, hb3⟩
  have C3 := Lib.hid (((C2.out.below hb3 C2.out.lt).alloc (.cells #[.int .i64 q0, .int .i64 q1, .int .i64 a0, .int .i64 a1, .int .i64 c0, .int .i64 c1] 92)).alloc (.cells #[.int .i64 0] 96))
  have tt := (Blk.new w2' 92 #[.int .i64 q0, .int .i64 q1, .int .i64 a0, .int .i64 a1, .int .i64 c0, .int .i64 c1]).alloc (.cells #[.int .i64 0] 96)
  have kk := Blk.new (w2'.alloc (.cells #[.int .i64 q0, .int .i64 q1, .int .i64 a0, .int .i64 a1, .int .i64 c0, .int .i64 c1] 92)) 96 #[.int .i64 0]
  rw [World.size_alloc] at kk
  have b3 := B2.out.trans (hb3.mono B2.out.size)
  have B3 := Lib.hid ((b3.alloc b3.size (.cells #[.int .i64 q0, .int .i64 q1, .int .i64 a0, .int .i64 a1, .int .i64 c0, .int .i64 c1] 92)).alloc (by have := b3.size; simp; omega) (.cells #[.int .i64 0] 96))
  clear hb3 x0 x1 x2 x3 y0 y1 y2 y3 y4 y5 C2 P2 B2 b3 KV KP KT
  go_upto_region 5 with (fail)
  obtain ⟨w3, hw3⟩ : ∃ w3, (w2'.alloc (.cells #[.int .i64 q0, .int .i64 q1, .int .i64 a0, .int .i64 a1, .int .i64 c0, .int .i64 c1] 92)).alloc (.cells #[.int .i64 0] 96) = w3 := ⟨_, rfl⟩
  rw [hw3] at C3 tt kk B3 ⊢
  clear hw3
  obtain ⟨gk, hgk⟩ : ∃ g, w2'.heap.size + 1 = g := ⟨_, rfl⟩
  rw [hgk] at kk ⊢
  clear hgk
  generalize w2'.heap.size = gt at *
  have TT := Lib.hid tt
  have KK := Lib.hid kk
  clear tt kk
  refine wp_region_inv3 (by kernel_rfl) (SdI5 w3 (.pointer (some ⟨gk, 0, none⟩)) (.pointer (some ⟨gk, 0, none⟩)) (.pointer (some ⟨gk, 0, none⟩)) (.pointer (some ⟨gt, 0, none⟩)) (.agg #[.int .i64 q0, .int .i64 q1]) (.agg #[.int .i64 sa0, .int .i64 sa1]) (.pointer (some ⟨gk, 0, none⟩)) (.pointer (some ⟨gt, 2, none⟩)) (.agg #[.int .i64 a0, .int .i64 a1]) (.agg #[.int .i64 sb0, .int .i64 sb1]) (.agg #[.int .i64 ma0, .int .i64 ma1]) (.pointer (some ⟨gk, 0, none⟩)) (.pointer (some ⟨gk, 0, none⟩)) (.pointer (some ⟨gk, 0, none⟩)) (.pointer (some ⟨gt, 0, none⟩)) (.agg #[.int .i64 q0, .int .i64 q1]) (.agg #[.int .i64 ca0, .int .i64 ca1]) (.pointer (some ⟨gk, 0, none⟩)) (.pointer (some ⟨gt, 2, none⟩)) (.agg #[.int .i64 a0, .int .i64 a1]) (.agg #[.int .i64 cb0, .int .i64 cb1]) (.agg #[.int .i64 mb0, .int .i64 mb1]) (.pointer (some ⟨gk, 0, none⟩)) (.pointer (some ⟨gt, 4, none⟩)) (.agg #[.int .i64 c0, .int .i64 c1]) (.agg #[.int .i64 cc0, .int .i64 cc1]) (.agg #[.int .i64 mc0, .int .i64 mc1]) (.agg #[.int .i64 s0, .int .i64 s1]) (fun _ => ((s0 : Int), (s1 : Int)))) (waits_bind (by kernel_rfl)) ?start ?step ?fin
  case start => exact SdI5.start w3 _ _ _ _ _ _ _ _ _ _ _ _ _ _ _ _ _ _ _ _ _ _ _ _ _ _ _ _ _ _
  case step =>
    rintro L i o a1' w' ho hL haf ⟨v23, v24, v25, v26, v27, v28, v29, v30, v31, v32, v33, v34, v35, v36, v37, v38, v39, v40, v41, v42, v43, v44, v45, v46, v47, v48, v49, v50, v8, g, rfl, hT, e0, e1, e2, e3, e4, e5, e6, e7, e8, e9, e10, e11, e12, e13, e14, e15, e16, e17, e18, e19, e20, e21, e22, e23, e24, e25, e26, e27, e28⟩
    have HT := Lib.hid hT
    clear hT
    have E0 := Lib.hid e0
    have E1 := Lib.hid e1
    have E2 := Lib.hid e2
    have E3 := Lib.hid e3
    have E4 := Lib.hid e4
    have E5 := Lib.hid e5
    have E6 := Lib.hid e6
    have E7 := Lib.hid e7
    have E8 := Lib.hid e8
    have E9 := Lib.hid e9
    have E10 := Lib.hid e10
    have E11 := Lib.hid e11
    have E12 := Lib.hid e12
    have E13 := Lib.hid e13
    have E14 := Lib.hid e14
    have E15 := Lib.hid e15
    have E16 := Lib.hid e16
    have E17 := Lib.hid e17
    have E18 := Lib.hid e18
    have E19 := Lib.hid e19
    have E20 := Lib.hid e20
    have E21 := Lib.hid e21
    have E22 := Lib.hid e22
    have E23 := Lib.hid e23
    have E24 := Lib.hid e24
    have E25 := Lib.hid e25
    have E26 := Lib.hid e26
    have E27 := Lib.hid e27
    have E28 := Lib.hid e28
    clear e0 e1 e2 e3 e4 e5 e6 e7 e8 e9 e10 e11 e12 e13 e14 e15 e16 e17 e18 e19 e20 e21 e22 e23 e24 e25 e26 e27 e28
    rcases i with _ | _ | _ | _ | _ | _ | _ | _ | _ | _ | _ | _ | _ | _ | _ | _ | _ | _ | _ | _ | _ | _ | _ | _ | _ | _ | _ | _ | _ | _ | i
    all_goals (simp at ho; try subst ho)
    all_goals (try simp [Region.binds] at haf)
    · go_wp2
      unfold SdI5
      exact ⟨(.pointer (some ⟨gk, 0, none⟩)), v24, v25, v26, v27, v28, v29, v30, v31, v32, v33, v34, v35, v36, v37, v38, v39, v40, v41, v42, v43, v44, v45, v46, v47, v48, v49, v50, v8, g, by simp only [Act.put, List.setIfInBounds_toArray, List.set_cons_zero, List.set_cons_succ], HT.out.mark 0 (by decide), fun _ => rfl, kq E1, kq E2, kq E3, kq E4, kq E5, kq E6, kq E7, kq E8, kq E9, kq E10, kq E11, kq E12, kq E13, kq E14, kq E15, kq E16, kq E17, kq E18, kq E19, kq E20, kq E21, kq E22, kq E23, kq E24, kq E25, kq E26, kq E27, kq E28⟩
    · go_wp2
      unfold SdI5
      exact ⟨v23, (.pointer (some ⟨gk, 0, none⟩)), v25, v26, v27, v28, v29, v30, v31, v32, v33, v34, v35, v36, v37, v38, v39, v40, v41, v42, v43, v44, v45, v46, v47, v48, v49, v50, v8, g, by simp only [Act.put, List.setIfInBounds_toArray, List.set_cons_zero, List.set_cons_succ], HT.out.mark 1 (by decide), kq E0, fun _ => rfl, kq E2, kq E3, kq E4, kq E5, kq E6, kq E7, kq E8, kq E9, kq E10, kq E11, kq E12, kq E13, kq E14, kq E15, kq E16, kq E17, kq E18, kq E19, kq E20, kq E21, kq E22, kq E23, kq E24, kq E25, kq E26, kq E27, kq E28⟩
    · go_wp2
      unfold SdI5
      exact ⟨v23, v24, (.pointer (some ⟨gk, 0, none⟩)), v26, v27, v28, v29, v30, v31, v32, v33, v34, v35, v36, v37, v38, v39, v40, v41, v42, v43, v44, v45, v46, v47, v48, v49, v50, v8, g, by simp only [Act.put, List.setIfInBounds_toArray, List.set_cons_zero, List.set_cons_succ], HT.out.mark 2 (by decide), kq E0, kq E1, fun _ => rfl, kq E3, kq E4, kq E5, kq E6, kq E7, kq E8, kq E9, kq E10, kq E11, kq E12, kq E13, kq E14, kq E15, kq E16, kq E17, kq E18, kq E19, kq E20, kq E21, kq E22, kq E23, kq E24, kq E25, kq E26, kq E27, kq E28⟩
    · go_wp2
      unfold SdI5
      exact ⟨v23, v24, v25, (.pointer (some ⟨gt, 0, none⟩)), v27, v28, v29, v30, v31, v32, v33, v34, v35, v36, v37, v38, v39, v40, v41, v42, v43, v44, v45, v46, v47, v48, v49, v50, v8, g, by simp only [Act.put, List.setIfInBounds_toArray, List.set_cons_zero, List.set_cons_succ], HT.out.mark 3 (by decide), kq E0, kq E1, kq E2, fun _ => rfl, kq E4, kq E5, kq E6, kq E7, kq E8, kq E9, kq E10, kq E11, kq E12, kq E13, kq E14, kq E15, kq E16, kq E17, kq E18, kq E19, kq E20, kq E21, kq E22, kq E23, kq E24, kq E25, kq E26, kq E27, kq E28⟩
    · have T9 := TT.out.below HT.out.bl TT.out.lt
      have k0 : w'.cell? ⟨gt, 0, none⟩ = some (.int .i64 q0) := T9.cell 0
      have k1 : w'.cell? ⟨gt, 1, none⟩ = some (.int .i64 q1) := T9.cell 1
      clear T9
      obtain rfl := E3.out (by simp [haf])
      go_wp2
      unfold SdI5
      exact ⟨v23, v24, v25, (.pointer (some ⟨gt, 0, none⟩)), (.agg #[.int .i64 q0, .int .i64 q1]), v28, v29, v30, v31, v32, v33, v34, v35, v36, v37, v38, v39, v40, v41, v42, v43, v44, v45, v46, v47, v48, v49, v50, v8, g, by simp only [Act.put, List.setIfInBounds_toArray, List.set_cons_zero, List.set_cons_succ], HT.out.mark 4 (by decide), kq E0, kq E1, kq E2, fun _ => rfl, fun _ => rfl, kq E5, kq E6, kq E7, kq E8, kq E9, kq E10, kq E11, kq E12, kq E13, kq E14, kq E15, kq E16, kq E17, kq E18, kq E19, kq E20, kq E21, kq E22, kq E23, kq E24, kq E25, kq E26, kq E27, kq E28⟩
    · have K9 := Lib.hid (KK.out.below HT.out.bl KK.out.lt)
      obtain rfl := E2.out (by simp [haf])
      obtain rfl := E4.out (by simp [haf])
      go_wp2_with fail
      (with_reducible refine (KSA.out _ _ K9.out).mono ?_)
      rintro e w9 ⟨rfl, hb9⟩
      go_wp2
      unfold SdI5
      exact ⟨v23, v24, (.pointer (some ⟨gk, 0, none⟩)), v26, (.agg #[.int .i64 q0, .int .i64 q1]), (.agg #[.int .i64 sa0, .int .i64 sa1]), v29, v30, v31, v32, v33, v34, v35, v36, v37, v38, v39, v40, v41, v42, v43, v44, v45, v46, v47, v48, v49, v50, v8, g, by simp only [Act.put, List.setIfInBounds_toArray, List.set_cons_zero, List.set_cons_succ], (HT.out.call hb9).mark 5 (by decide), kq E0, kq E1, fun _ => rfl, kq E3, fun _ => rfl, fun _ => rfl, kq E6, kq E7, kq E8, kq E9, kq E10, kq E11, kq E12, kq E13, kq E14, kq E15, kq E16, kq E17, kq E18, kq E19, kq E20, kq E21, kq E22, kq E23, kq E24, kq E25, kq E26, kq E27, kq E28⟩
    · go_wp2
      unfold SdI5
      exact ⟨v23, v24, v25, v26, v27, v28, (.pointer (some ⟨gk, 0, none⟩)), v30, v31, v32, v33, v34, v35, v36, v37, v38, v39, v40, v41, v42, v43, v44, v45, v46, v47, v48, v49, v50, v8, g, by simp only [Act.put, List.setIfInBounds_toArray, List.set_cons_zero, List.set_cons_succ], HT.out.mark 6 (by decide), kq E0, kq E1, kq E2, kq E3, kq E4, kq E5, fun _ => rfl, kq E7, kq E8, kq E9, kq E10, kq E11, kq E12, kq E13, kq E14, kq E15, kq E16, kq E17, kq E18, kq E19, kq E20, kq E21, kq E22, kq E23, kq E24, kq E25, kq E26, kq E27, kq E28⟩
    · go_wp2
      unfold SdI5
      exact ⟨v23, v24, v25, v26, v27, v28, v29, (.pointer (some ⟨gt, 2, none⟩)), v31, v32, v33, v34, v35, v36, v37, v38, v39, v40, v41, v42, v43, v44, v45, v46, v47, v48, v49, v50, v8, g, by simp only [Act.put, List.setIfInBounds_toArray, List.set_cons_zero, List.set_cons_succ], HT.out.mark 7 (by decide), kq E0, kq E1, kq E2, kq E3, kq E4, kq E5, kq E6, fun _ => rfl, kq E8, kq E9, kq E10, kq E11, kq E12, kq E13, kq E14, kq E15, kq E16, kq E17, kq E18, kq E19, kq E20, kq E21, kq E22, kq E23, kq E24, kq E25, kq E26, kq E27, kq E28⟩
    · have T9 := TT.out.below HT.out.bl TT.out.lt
      have k0 : w'.cell? ⟨gt, 2, none⟩ = some (.int .i64 a0) := T9.cell 2
      have k1 : w'.cell? ⟨gt, 3, none⟩ = some (.int .i64 a1) := T9.cell 3
      clear T9
      obtain rfl := E7.out (by simp [haf])
      go_wp2
      unfold SdI5
      exact ⟨v23, v24, v25, v26, v27, v28, v29, (.pointer (some ⟨gt, 2, none⟩)), (.agg #[.int .i64 a0, .int .i64 a1]), v32, v33, v34, v35, v36, v37, v38, v39, v40, v41, v42, v43, v44, v45, v46, v47, v48, v49, v50, v8, g, by simp only [Act.put, List.setIfInBounds_toArray, List.set_cons_zero, List.set_cons_succ], HT.out.mark 8 (by decide), kq E0, kq E1, kq E2, kq E3, kq E4, kq E5, kq E6, fun _ => rfl, fun _ => rfl, kq E9, kq E10, kq E11, kq E12, kq E13, kq E14, kq E15, kq E16, kq E17, kq E18, kq E19, kq E20, kq E21, kq E22, kq E23, kq E24, kq E25, kq E26, kq E27, kq E28⟩
    · have K9 := Lib.hid (KK.out.below HT.out.bl KK.out.lt)
      obtain rfl := E6.out (by simp [haf])
      obtain rfl := E8.out (by simp [haf])
      go_wp2_with fail
      (with_reducible refine (KSB.out _ _ K9.out).mono ?_)
      rintro e w9 ⟨rfl, hb9⟩
      go_wp2
      unfold SdI5
      exact ⟨v23, v24, v25, v26, v27, v28, (.pointer (some ⟨gk, 0, none⟩)), v30, (.agg #[.int .i64 a0, .int .i64 a1]), (.agg #[.int .i64 sb0, .int .i64 sb1]), v33, v34, v35, v36, v37, v38, v39, v40, v41, v42, v43, v44, v45, v46, v47, v48, v49, v50, v8, g, by simp only [Act.put, List.setIfInBounds_toArray, List.set_cons_zero, List.set_cons_succ], (HT.out.call hb9).mark 9 (by decide), kq E0, kq E1, kq E2, kq E3, kq E4, kq E5, fun _ => rfl, kq E7, fun _ => rfl, fun _ => rfl, kq E10, kq E11, kq E12, kq E13, kq E14, kq E15, kq E16, kq E17, kq E18, kq E19, kq E20, kq E21, kq E22, kq E23, kq E24, kq E25, kq E26, kq E27, kq E28⟩
    · have K9 := Lib.hid (KK.out.below HT.out.bl KK.out.lt)
      obtain rfl := E1.out (by simp [haf])
      obtain rfl := E5.out (by simp [haf])
      obtain rfl := E9.out (by simp [haf])
      go_wp2_with fail
      (with_reducible refine (KM1.out _ _ K9.out).mono ?_)
      rintro e w9 ⟨rfl, hb9⟩
      go_wp2
      unfold SdI5
      exact ⟨v23, (.pointer (some ⟨gk, 0, none⟩)), v25, v26, v27, (.agg #[.int .i64 sa0, .int .i64 sa1]), v29, v30, v31, (.agg #[.int .i64 sb0, .int .i64 sb1]), (.agg #[.int .i64 ma0, .int .i64 ma1]), v34, v35, v36, v37, v38, v39, v40, v41, v42, v43, v44, v45, v46, v47, v48, v49, v50, v8, g, by simp only [Act.put, List.setIfInBounds_toArray, List.set_cons_zero, List.set_cons_succ], (HT.out.call hb9).mark 10 (by decide), kq E0, fun _ => rfl, kq E2, kq E3, kq E4, fun _ => rfl, kq E6, kq E7, kq E8, fun _ => rfl, fun _ => rfl, kq E11, kq E12, kq E13, kq E14, kq E15, kq E16, kq E17, kq E18, kq E19, kq E20, kq E21, kq E22, kq E23, kq E24, kq E25, kq E26, kq E27, kq E28⟩
    · go_wp2
      unfold SdI5
      exact ⟨v23, v24, v25, v26, v27, v28, v29, v30, v31, v32, v33, (.pointer (some ⟨gk, 0, none⟩)), v35, v36, v37, v38, v39, v40, v41, v42, v43, v44, v45, v46, v47, v48, v49, v50, v8, g, by simp only [Act.put, List.setIfInBounds_toArray, List.set_cons_zero, List.set_cons_succ], HT.out.mark 11 (by decide), kq E0, kq E1, kq E2, kq E3, kq E4, kq E5, kq E6, kq E7, kq E8, kq E9, kq E10, fun _ => rfl, kq E12, kq E13, kq E14, kq E15, kq E16, kq E17, kq E18, kq E19, kq E20, kq E21, kq E22, kq E23, kq E24, kq E25, kq E26, kq E27, kq E28⟩
    · go_wp2
      unfold SdI5
      exact ⟨v23, v24, v25, v26, v27, v28, v29, v30, v31, v32, v33, v34, (.pointer (some ⟨gk, 0, none⟩)), v36, v37, v38, v39, v40, v41, v42, v43, v44, v45, v46, v47, v48, v49, v50, v8, g, by simp only [Act.put, List.setIfInBounds_toArray, List.set_cons_zero, List.set_cons_succ], HT.out.mark 12 (by decide), kq E0, kq E1, kq E2, kq E3, kq E4, kq E5, kq E6, kq E7, kq E8, kq E9, kq E10, kq E11, fun _ => rfl, kq E13, kq E14, kq E15, kq E16, kq E17, kq E18, kq E19, kq E20, kq E21, kq E22, kq E23, kq E24, kq E25, kq E26, kq E27, kq E28⟩
    · go_wp2
      unfold SdI5
      exact ⟨v23, v24, v25, v26, v27, v28, v29, v30, v31, v32, v33, v34, v35, (.pointer (some ⟨gk, 0, none⟩)), v37, v38, v39, v40, v41, v42, v43, v44, v45, v46, v47, v48, v49, v50, v8, g, by simp only [Act.put, List.setIfInBounds_toArray, List.set_cons_zero, List.set_cons_succ], HT.out.mark 13 (by decide), kq E0, kq E1, kq E2, kq E3, kq E4, kq E5, kq E6, kq E7, kq E8, kq E9, kq E10, kq E11, kq E12, fun _ => rfl, kq E14, kq E15, kq E16, kq E17, kq E18, kq E19, kq E20, kq E21, kq E22, kq E23, kq E24, kq E25, kq E26, kq E27, kq E28⟩
    · go_wp2
      unfold SdI5
      exact ⟨v23, v24, v25, v26, v27, v28, v29, v30, v31, v32, v33, v34, v35, v36, (.pointer (some ⟨gt, 0, none⟩)), v38, v39, v40, v41, v42, v43, v44, v45, v46, v47, v48, v49, v50, v8, g, by simp only [Act.put, List.setIfInBounds_toArray, List.set_cons_zero, List.set_cons_succ], HT.out.mark 14 (by decide), kq E0, kq E1, kq E2, kq E3, kq E4, kq E5, kq E6, kq E7, kq E8, kq E9, kq E10, kq E11, kq E12, kq E13, fun _ => rfl, kq E15, kq E16, kq E17, kq E18, kq E19, kq E20, kq E21, kq E22, kq E23, kq E24, kq E25, kq E26, kq E27, kq E28⟩
    · have T9 := TT.out.below HT.out.bl TT.out.lt
      have k0 : w'.cell? ⟨gt, 0, none⟩ = some (.int .i64 q0) := T9.cell 0
      have k1 : w'.cell? ⟨gt, 1, none⟩ = some (.int .i64 q1) := T9.cell 1
      clear T9
      obtain rfl := E14.out (by simp [haf])
      go_wp2
      unfold SdI5
      exact ⟨v23, v24, v25, v26, v27, v28, v29, v30, v31, v32, v33, v34, v35, v36, (.pointer (some ⟨gt, 0, none⟩)), (.agg #[.int .i64 q0, .int .i64 q1]), v39, v40, v41, v42, v43, v44, v45, v46, v47, v48, v49, v50, v8, g, by simp only [Act.put, List.setIfInBounds_toArray, List.set_cons_zero, List.set_cons_succ], HT.out.mark 15 (by decide), kq E0, kq E1, kq E2, kq E3, kq E4, kq E5, kq E6, kq E7, kq E8, kq E9, kq E10, kq E11, kq E12, kq E13, fun _ => rfl, fun _ => rfl, kq E16, kq E17, kq E18, kq E19, kq E20, kq E21, kq E22, kq E23, kq E24, kq E25, kq E26, kq E27, kq E28⟩
    · have K9 := Lib.hid (KK.out.below HT.out.bl KK.out.lt)
      obtain rfl := E13.out (by simp [haf])
      obtain rfl := E15.out (by simp [haf])
      go_wp2_with fail
      (with_reducible refine (KCA.out _ _ K9.out).mono ?_)
      rintro e w9 ⟨rfl, hb9⟩
      go_wp2
      unfold SdI5
      exact ⟨v23, v24, v25, v26, v27, v28, v29, v30, v31, v32, v33, v34, v35, (.pointer (some ⟨gk, 0, none⟩)), v37, (.agg #[.int .i64 q0, .int .i64 q1]), (.agg #[.int .i64 ca0, .int .i64 ca1]), v40, v41, v42, v43, v44, v45, v46, v47, v48, v49, v50, v8, g, by simp only [Act.put, List.setIfInBounds_toArray, List.set_cons_zero, List.set_cons_succ], (HT.out.call hb9).mark 16 (by decide), kq E0, kq E1, kq E2, kq E3, kq E4, kq E5, kq E6, kq E7, kq E8, kq E9, kq E10, kq E11, kq E12, fun _ => rfl, kq E14, fun _ => rfl, fun _ => rfl, kq E17, kq E18, kq E19, kq E20, kq E21, kq E22, kq E23, kq E24, kq E25, kq E26, kq E27, kq E28⟩
    · go_wp2
      unfold SdI5
      exact ⟨v23, v24, v25, v26, v27, v28, v29, v30, v31, v32, v33, v34, v35, v36, v37, v38, v39, (.pointer (some ⟨gk, 0, none⟩)), v41, v42, v43, v44, v45, v46, v47, v48, v49, v50, v8, g, by simp only [Act.put, List.setIfInBounds_toArray, List.set_cons_zero, List.set_cons_succ], HT.out.mark 17 (by decide), kq E0, kq E1, kq E2, kq E3, kq E4, kq E5, kq E6, kq E7, kq E8, kq E9, kq E10, kq E11, kq E12, kq E13, kq E14, kq E15, kq E16, fun _ => rfl, kq E18, kq E19, kq E20, kq E21, kq E22, kq E23, kq E24, kq E25, kq E26, kq E27, kq E28⟩
    · go_wp2
      unfold SdI5
      exact ⟨v23, v24, v25, v26, v27, v28, v29, v30, v31, v32, v33, v34, v35, v36, v37, v38, v39, v40, (.pointer (some ⟨gt, 2, none⟩)), v42, v43, v44, v45, v46, v47, v48, v49, v50, v8, g, by simp only [Act.put, List.setIfInBounds_toArray, List.set_cons_zero, List.set_cons_succ], HT.out.mark 18 (by decide), kq E0, kq E1, kq E2, kq E3, kq E4, kq E5, kq E6, kq E7, kq E8, kq E9, kq E10, kq E11, kq E12, kq E13, kq E14, kq E15, kq E16, kq E17, fun _ => rfl, kq E19, kq E20, kq E21, kq E22, kq E23, kq E24, kq E25, kq E26, kq E27, kq E28⟩
    · have T9 := TT.out.below HT.out.bl TT.out.lt
      have k0 : w'.cell? ⟨gt, 2, none⟩ = some (.int .i64 a0) := T9.cell 2
      have k1 : w'.cell? ⟨gt, 3, none⟩ = some (.int .i64 a1) := T9.cell 3
      clear T9
      obtain rfl := E18.out (by simp [haf])
      go_wp2
      unfold SdI5
      exact ⟨v23, v24, v25, v26, v27, v28, v29, v30, v31, v32, v33, v34, v35, v36, v37, v38, v39, v40, (.pointer (some ⟨gt, 2, none⟩)), (.agg #[.int .i64 a0, .int .i64 a1]), v43, v44, v45, v46, v47, v48, v49, v50, v8, g, by simp only [Act.put, List.setIfInBounds_toArray, List.set_cons_zero, List.set_cons_succ], HT.out.mark 19 (by decide), kq E0, kq E1, kq E2, kq E3, kq E4, kq E5, kq E6, kq E7, kq E8, kq E9, kq E10, kq E11, kq E12, kq E13, kq E14, kq E15, kq E16, kq E17, fun _ => rfl, fun _ => rfl, kq E20, kq E21, kq E22, kq E23, kq E24, kq E25, kq E26, kq E27, kq E28⟩
    · have K9 := Lib.hid (KK.out.below HT.out.bl KK.out.lt)
      obtain rfl := E17.out (by simp [haf])
      obtain rfl := E19.out (by simp [haf])
      go_wp2_with fail
      (with_reducible refine (KCB.out _ _ K9.out).mono ?_)
      rintro e w9 ⟨rfl, hb9⟩
      go_wp2
      unfold SdI5
      exact ⟨v23, v24, v25, v26, v27, v28, v29, v30, v31, v32, v33, v34, v35, v36, v37, v38, v39, (.pointer (some ⟨gk, 0, none⟩)), v41, (.agg #[.int .i64 a0, .int .i64 a1]), (.agg #[.int .i64 cb0, .int .i64 cb1]), v44, v45, v46, v47, v48, v49, v50, v8, g, by simp only [Act.put, List.setIfInBounds_toArray, List.set_cons_zero, List.set_cons_succ], (HT.out.call hb9).mark 20 (by decide), kq E0, kq E1, kq E2, kq E3, kq E4, kq E5, kq E6, kq E7, kq E8, kq E9, kq E10, kq E11, kq E12, kq E13, kq E14, kq E15, kq E16, fun _ => rfl, kq E18, fun _ => rfl, fun _ => rfl, kq E21, kq E22, kq E23, kq E24, kq E25, kq E26, kq E27, kq E28⟩
    · have K9 := Lib.hid (KK.out.below HT.out.bl KK.out.lt)
      obtain rfl := E12.out (by simp [haf])
      obtain rfl := E16.out (by simp [haf])
      obtain rfl := E20.out (by simp [haf])
      go_wp2_with fail
      (with_reducible refine (KM2.out _ _ K9.out).mono ?_)
      rintro e w9 ⟨rfl, hb9⟩
      go_wp2
      unfold SdI5
      exact ⟨v23, v24, v25, v26, v27, v28, v29, v30, v31, v32, v33, v34, (.pointer (some ⟨gk, 0, none⟩)), v36, v37, v38, (.agg #[.int .i64 ca0, .int .i64 ca1]), v40, v41, v42, (.agg #[.int .i64 cb0, .int .i64 cb1]), (.agg #[.int .i64 mb0, .int .i64 mb1]), v45, v46, v47, v48, v49, v50, v8, g, by simp only [Act.put, List.setIfInBounds_toArray, List.set_cons_zero, List.set_cons_succ], (HT.out.call hb9).mark 21 (by decide), kq E0, kq E1, kq E2, kq E3, kq E4, kq E5, kq E6, kq E7, kq E8, kq E9, kq E10, kq E11, fun _ => rfl, kq E13, kq E14, kq E15, fun _ => rfl, kq E17, kq E18, kq E19, fun _ => rfl, fun _ => rfl, kq E22, kq E23, kq E24, kq E25, kq E26, kq E27, kq E28⟩
    · go_wp2
      unfold SdI5
      exact ⟨v23, v24, v25, v26, v27, v28, v29, v30, v31, v32, v33, v34, v35, v36, v37, v38, v39, v40, v41, v42, v43, v44, (.pointer (some ⟨gk, 0, none⟩)), v46, v47, v48, v49, v50, v8, g, by simp only [Act.put, List.setIfInBounds_toArray, List.set_cons_zero, List.set_cons_succ], HT.out.mark 22 (by decide), kq E0, kq E1, kq E2, kq E3, kq E4, kq E5, kq E6, kq E7, kq E8, kq E9, kq E10, kq E11, kq E12, kq E13, kq E14, kq E15, kq E16, kq E17, kq E18, kq E19, kq E20, kq E21, fun _ => rfl, kq E23, kq E24, kq E25, kq E26, kq E27, kq E28⟩
    · go_wp2
      unfold SdI5
      exact ⟨v23, v24, v25, v26, v27, v28, v29, v30, v31, v32, v33, v34, v35, v36, v37, v38, v39, v40, v41, v42, v43, v44, v45, (.pointer (some ⟨gt, 4, none⟩)), v47, v48, v49, v50, v8, g, by simp only [Act.put, List.setIfInBounds_toArray, List.set_cons_zero, List.set_cons_succ], HT.out.mark 23 (by decide), kq E0, kq E1, kq E2, kq E3, kq E4, kq E5, kq E6, kq E7, kq E8, kq E9, kq E10, kq E11, kq E12, kq E13, kq E14, kq E15, kq E16, kq E17, kq E18, kq E19, kq E20, kq E21, kq E22, fun _ => rfl, kq E24, kq E25, kq E26, kq E27, kq E28⟩
    · have T9 := TT.out.below HT.out.bl TT.out.lt
      have k0 : w'.cell? ⟨gt, 4, none⟩ = some (.int .i64 c0) := T9.cell 4
      have k1 : w'.cell? ⟨gt, 5, none⟩ = some (.int .i64 c1) := T9.cell 5
      clear T9
      obtain rfl := E23.out (by simp [haf])
      go_wp2
      unfold SdI5
      exact ⟨v23, v24, v25, v26, v27, v28, v29, v30, v31, v32, v33, v34, v35, v36, v37, v38, v39, v40, v41, v42, v43, v44, v45, (.pointer (some ⟨gt, 4, none⟩)), (.agg #[.int .i64 c0, .int .i64 c1]), v48, v49, v50, v8, g, by simp only [Act.put, List.setIfInBounds_toArray, List.set_cons_zero, List.set_cons_succ], HT.out.mark 24 (by decide), kq E0, kq E1, kq E2, kq E3, kq E4, kq E5, kq E6, kq E7, kq E8, kq E9, kq E10, kq E11, kq E12, kq E13, kq E14, kq E15, kq E16, kq E17, kq E18, kq E19, kq E20, kq E21, kq E22, fun _ => rfl, fun _ => rfl, kq E25, kq E26, kq E27, kq E28⟩
    · have K9 := Lib.hid (KK.out.below HT.out.bl KK.out.lt)
      obtain rfl := E22.out (by simp [haf])
      obtain rfl := E24.out (by simp [haf])
      go_wp2_with fail
      (with_reducible refine (KCC.out _ _ K9.out).mono ?_)
      rintro e w9 ⟨rfl, hb9⟩
      go_wp2
      unfold SdI5
      exact ⟨v23, v24, v25, v26, v27, v28, v29, v30, v31, v32, v33, v34, v35, v36, v37, v38, v39, v40, v41, v42, v43, v44, (.pointer (some ⟨gk, 0, none⟩)), v46, (.agg #[.int .i64 c0, .int .i64 c1]), (.agg #[.int .i64 cc0, .int .i64 cc1]), v49, v50, v8, g, by simp only [Act.put, List.setIfInBounds_toArray, List.set_cons_zero, List.set_cons_succ], (HT.out.call hb9).mark 25 (by decide), kq E0, kq E1, kq E2, kq E3, kq E4, kq E5, kq E6, kq E7, kq E8, kq E9, kq E10, kq E11, kq E12, kq E13, kq E14, kq E15, kq E16, kq E17, kq E18, kq E19, kq E20, kq E21, fun _ => rfl, kq E23, fun _ => rfl, fun _ => rfl, kq E26, kq E27, kq E28⟩
    · have K9 := Lib.hid (KK.out.below HT.out.bl KK.out.lt)
      obtain rfl := E11.out (by simp [haf])
      obtain rfl := E21.out (by simp [haf])
      obtain rfl := E25.out (by simp [haf])
      go_wp2_with fail
      (with_reducible refine (KM3.out _ _ K9.out).mono ?_)
      rintro e w9 ⟨rfl, hb9⟩
      go_wp2
      unfold SdI5
      exact ⟨v23, v24, v25, v26, v27, v28, v29, v30, v31, v32, v33, (.pointer (some ⟨gk, 0, none⟩)), v35, v36, v37, v38, v39, v40, v41, v42, v43, (.agg #[.int .i64 mb0, .int .i64 mb1]), v45, v46, v47, (.agg #[.int .i64 cc0, .int .i64 cc1]), (.agg #[.int .i64 mc0, .int .i64 mc1]), v50, v8, g, by simp only [Act.put, List.setIfInBounds_toArray, List.set_cons_zero, List.set_cons_succ], (HT.out.call hb9).mark 26 (by decide), kq E0, kq E1, kq E2, kq E3, kq E4, kq E5, kq E6, kq E7, kq E8, kq E9, kq E10, fun _ => rfl, kq E12, kq E13, kq E14, kq E15, kq E16, kq E17, kq E18, kq E19, kq E20, fun _ => rfl, kq E22, kq E23, kq E24, fun _ => rfl, fun _ => rfl, kq E27, kq E28⟩
    · have K9 := Lib.hid (KK.out.below HT.out.bl KK.out.lt)
      obtain rfl := E0.out (by simp [haf])
      obtain rfl := E10.out (by simp [haf])
      obtain rfl := E26.out (by simp [haf])
      go_wp2_with fail
      (with_reducible refine (KPL.out _ _ K9.out).mono ?_)
      rintro e w9 ⟨rfl, hb9⟩
      go_wp2
      unfold SdI5
      exact ⟨(.pointer (some ⟨gk, 0, none⟩)), v24, v25, v26, v27, v28, v29, v30, v31, v32, (.agg #[.int .i64 ma0, .int .i64 ma1]), v34, v35, v36, v37, v38, v39, v40, v41, v42, v43, v44, v45, v46, v47, v48, (.agg #[.int .i64 mc0, .int .i64 mc1]), (.agg #[.int .i64 s0, .int .i64 s1]), v8, g, by simp only [Act.put, List.setIfInBounds_toArray, List.set_cons_zero, List.set_cons_succ], (HT.out.call hb9).mark 27 (by decide), fun _ => rfl, kq E1, kq E2, kq E3, kq E4, kq E5, kq E6, kq E7, kq E8, kq E9, fun _ => rfl, kq E11, kq E12, kq E13, kq E14, kq E15, kq E16, kq E17, kq E18, kq E19, kq E20, kq E21, kq E22, kq E23, kq E24, kq E25, fun _ => rfl, fun _ => rfl, kq E28⟩
    · go_wp2
      unfold SdI5
      exact ⟨v23, v24, v25, v26, v27, v28, v29, v30, v31, v32, v33, v34, v35, v36, v37, v38, v39, v40, v41, v42, v43, v44, v45, v46, v47, v48, v49, v50, (.pointer (some ⟨w'.heap.size, 0, none⟩)), (fun j => if j = 0 then w'.heap.size else g j), by simp only [Act.put, List.setIfInBounds_toArray, List.set_cons_zero, List.set_cons_succ], HT.out.al 0 (by decide) (by decide) hL _, kq E0, kq E1, kq E2, kq E3, kq E4, kq E5, kq E6, kq E7, kq E8, kq E9, kq E10, kq E11, kq E12, kq E13, kq E14, kq E15, kq E16, kq E17, kq E18, kq E19, kq E20, kq E21, kq E22, kq E23, kq E24, kq E25, kq E26, kq E27, fun _ => rfl⟩
    · obtain rfl := E28.out (by simp [haf])
      obtain rfl := E27.out (by simp [haf])
      have hA : L 28 = true := by simp [haf]
      obtain ⟨zt, z0, z1, zf0, zf1⟩ := HT.out.z 0 (by decide) hA hL
      have HS := Lib.hid (HT.out.st 0 (by decide) (by decide) hA hL rfl)
      go_wp2
      unfold SdI5
      exact ⟨v23, v24, v25, v26, v27, v28, v29, v30, v31, v32, v33, v34, v35, v36, v37, v38, v39, v40, v41, v42, v43, v44, v45, v46, v47, v48, v49, (.agg #[.int .i64 s0, .int .i64 s1]), (.pointer (some ⟨g 0, 0, none⟩)), g, by simp only [Act.put, List.setIfInBounds_toArray, List.set_cons_zero, List.set_cons_succ], HS.out, kq E0, kq E1, kq E2, kq E3, kq E4, kq E5, kq E6, kq E7, kq E8, kq E9, kq E10, kq E11, kq E12, kq E13, kq E14, kq E15, kq E16, kq E17, kq E18, kq E19, kq E20, kq E21, kq E22, kq E23, kq E24, kq E25, kq E26, fun _ => rfl, fun _ => rfl⟩
  case fin =>
    rintro L a1' w4 hall ⟨v23, v24, v25, v26, v27, v28, v29, v30, v31, v32, v33, v34, v35, v36, v37, v38, v39, v40, v41, v42, v43, v44, v45, v46, v47, v48, v49, v50, v8, g, rfl, hT, e0, e1, e2, e3, e4, e5, e6, e7, e8, e9, e10, e11, e12, e13, e14, e15, e16, e17, e18, e19, e20, e21, e22, e23, e24, e25, e26, e27, e28⟩
    obtain rfl := e0 (hall 0 (by decide))
    obtain rfl := e1 (hall 1 (by decide))
    obtain rfl := e2 (hall 2 (by decide))
    obtain rfl := e3 (hall 3 (by decide))
    obtain rfl := e4 (hall 4 (by decide))
    obtain rfl := e5 (hall 5 (by decide))
    obtain rfl := e6 (hall 6 (by decide))
    obtain rfl := e7 (hall 7 (by decide))
    obtain rfl := e8 (hall 8 (by decide))
    obtain rfl := e9 (hall 9 (by decide))
    obtain rfl := e10 (hall 10 (by decide))
    obtain rfl := e11 (hall 11 (by decide))
    obtain rfl := e12 (hall 12 (by decide))
    obtain rfl := e13 (hall 13 (by decide))
    obtain rfl := e14 (hall 14 (by decide))
    obtain rfl := e15 (hall 15 (by decide))
    obtain rfl := e16 (hall 16 (by decide))
    obtain rfl := e17 (hall 17 (by decide))
    obtain rfl := e18 (hall 18 (by decide))
    obtain rfl := e19 (hall 19 (by decide))
    obtain rfl := e20 (hall 20 (by decide))
    obtain rfl := e21 (hall 21 (by decide))
    obtain rfl := e22 (hall 22 (by decide))
    obtain rfl := e23 (hall 23 (by decide))
    obtain rfl := e24 (hall 24 (by decide))
    obtain rfl := e25 (hall 25 (by decide))
    obtain rfl := e26 (hall 26 (by decide))
    obtain rfl := e27 (hall 27 (by decide))
    obtain rfl := e28 (hall 28 (by decide))
    have D8 : Hid (D2 w4 (g 0) s0 s1) := Lib.hid (hT.k 0 (by decide) (hall 29 (by decide)))
    have C4 := Lib.hid (C3.out.below hT.bl C3.out.lt)
    have K4 := Lib.hid (KK.out.below hT.bl KK.out.lt)
    have B4 := Lib.hid (B3.out.trans (hT.bl.mono B3.out.size))
    clear hT hall C3 TT KK B3 KSA KSB KCA KCB KCC KM1 KM2 KM3 KPL
    generalize g 0 = g8 at *
    clear g
    have y4 : w4.cell? ⟨w.heap.size, 4, none⟩ = some (.int .i64 r0) := C4.out.cell 4
    have y5 : w4.cell? ⟨w.heap.size, 5, none⟩ = some (.int .i64 r1) := C4.out.cell 5
    go_wp2_with fail
    (with_reducible refine (KCR.out _ _ K4.out).mono ?_)
    rintro e w5 ⟨rfl, hb5⟩
    have D9 := Lib.hid (D2.new w5 t0 t1 97)
    have D85 := Lib.hid ((D8.out.below hb5 D8.out.lt).alloc (.cells #[.int .i64 t0, .int .i64 t1] 97))
    have K5 := Lib.hid ((K4.out.below hb5 K4.out.lt).alloc (.cells #[.int .i64 t0, .int .i64 t1] 97))
    have b5 := B4.out.trans (hb5.mono B4.out.size)
    have B5 := Lib.hid (b5.alloc b5.size (.cells #[.int .i64 t0, .int .i64 t1] 97))
    clear hb5 b5 y4 y5 C4 K4 B4 D8 KCR
    obtain ⟨-, u0, u1, -, -⟩ := D85.out
    have kc : (w5.alloc (.cells #[.int .i64 t0, .int .i64 t1] 97)).cell? ⟨gk, 0, none⟩ = some (.int .i64 0) := K5.out.cell 0
    have HV := HV.out
    by_cases h1 : t1 < s0
    · rw [if_pos h1] at HV
      subst HV
      have d1 : decide (t1 < s0) = true := decide_eq_true h1
      clear h1
      go_wp2
      go_ret2
      exact ⟨rfl, B5.out⟩
    · rw [if_neg h1] at HV
      have d1 : decide (t1 < s0) = false := decide_eq_false h1
      by_cases h2 : s1 < t0
      · rw [if_pos h2] at HV
        subst HV
        have d2 : decide (s1 < t0) = true := decide_eq_true h2
        clear h1 h2
        go_wp2
        go_ret2
        exact ⟨rfl, B5.out⟩
      · rw [if_neg h2] at HV
        subst HV
        have d2 : decide (s1 < t0) = false := decide_eq_false h2
        clear h1 h2
        go_wp2
        go_ret2
        exact ⟨rfl, B5.out⟩
end Go.Proofs.YtifdgdgfmjfbdaaGreat
