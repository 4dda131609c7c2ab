/- The walk of circles.Tangent at a valid circle and a valid point: the intercept, and some azimuth. -/
import Derived.Test.YtifdgdgfmjfbdaaGreatICe
import Derived.Test.YtifdgdgfmjfbdaaGreatIBi
import Derived.Test.YtifdgdgfmjfbdaaGreatITk
set_option linter.unusedVariables false
set_option linter.unusedSimpArgs false
namespace Go.Proofs.YtifdgdgfmjfbdaaGreat
open Go.RowKit
set_option maxHeartbeats 1000000 in
theorem placeOf_yes (a b : Int) (w : World) (hv : vptB a b = true) : Calls Tryz.prog 10 #[.agg #[.int .i64 a, .int .i64 b]] w fun e w' => e = .returned (.tuple #[.agg #[.int .i64 a, .int .i64 a, .int .i64 b, .int .i64 b], .int .i64 0]) ∧ Below w.heap.size w w' := by
  have KV := Lib.hid (fun W => vpt_yes a b hv W)
  have T1 := Lib.hid ((Blk.new w 24 #[.int .i64 a, .int .i64 b]).alloc (.cells #[.int .i64 0, .int .i64 0, .int .i64 0, .int .i64 0] 31))
  have TR : Hid (Blk ((w.alloc (.cells #[.int .i64 a, .int .i64 b] 24)).alloc (.cells #[.int .i64 0, .int .i64 0, .int .i64 0, .int .i64 0] 31)) (w.heap.size + 1) 31 #[.int .i64 0, .int .i64 0, .int .i64 0, .int .i64 0]) := Lib.hid (by
    have := Blk.new (w.alloc (.cells #[.int .i64 a, .int .i64 b] 24)) 31 #[.int .i64 0, .int .i64 0, .int .i64 0, .int .i64 0]
    rwa [World.size_alloc] at this)
  have B0 := Lib.hid ((bl_alloc w (.cells #[.int .i64 a, .int .i64 b] 24)).alloc (by simp) (.cells #[.int .i64 0, .int .i64 0, .int .i64 0, .int .i64 0] 31))
  clear hv
  go_enter Tryz.func10, Tryz.ntmps10
  go_wp2_with fail
  (with_reducible refine (KV.out _).mono ?_)
  rintro e w1 ⟨rfl, hb1⟩
  have P1 := Lib.hid (T1.out.below hb1 T1.out.lt)
  have R1 := Lib.hid (TR.out.below hb1 TR.out.lt)
  have B1 := Lib.hid (B0.out.trans (hb1.mono B0.out.size))
  clear hb1 T1 TR B0
  have p0 : w1.cell? ⟨w.heap.size, 0, none⟩ = some (.int .i64 a) := P1.out.cell 0
  have p1 : w1.cell? ⟨w.heap.size, 1, none⟩ = some (.int .i64 b) := P1.out.cell 1
  have r0 := fun i => R1.out.cell i
  have f0 := fun i => R1.out.frozen i
  have rl := R1.out.lt
  have E4 := Lib.hid (blk4 R1.out (.int .i64 a) (.int .i64 a) (.int .i64 b) (.int .i64 b))
  have B4 := Lib.hid (bl_put4' (g := w.heap.size + 1) B1.out (Nat.le_succ _) (.int .i64 a) (.int .i64 a) (.int .i64 b) (.int .i64 b))
  go_wp2
  generalize ((((w1.setCell ⟨w.heap.size + 1, 0, none⟩ (.int .i64 a)).setCell ⟨w.heap.size + 1, 1, none⟩ (.int .i64 a)).setCell ⟨w.heap.size + 1, 2, none⟩ (.int .i64 b)).setCell ⟨w.heap.size + 1, 3, none⟩ (.int .i64 b)) = w5 at E4 B4 ⊢
  have e0 := E4.out.cell 0
  have e1 := E4.out.cell 1
  have e2 := E4.out.cell 2
  have e3 := E4.out.cell 3
  simp at e0 e1 e2 e3
  exact bodyPost_ret (v := .tuple #[.agg #[.int .i64 a, .int .i64 a, .int .i64 b, .int .i64 b], .int .i64 0]) (by simp [results, Tryz.results10, go_sem, e0, e1, e2, e3]) rfl ⟨rfl, B4.out⟩
theorem blkL6 {W : World} {g : Nat} {t : TypeId} {z0 z1 z2 z3 z4 z5 : Value} (h : Blk W g t #[z0, z1, z2, z3, z4, z5]) (u0 u1 u2 u3 u4 u5 : Value) : Blk ((((((W.setCell ⟨g, 0, none⟩ u0).setCell ⟨g, 1, none⟩ u1).setCell ⟨g, 2, none⟩ u2).setCell ⟨g, 3, none⟩ u3).setCell ⟨g, 4, none⟩ u4).setCell ⟨g, 5, none⟩ u5) g t #[u0, u1, u2, u3, u4, u5] := by
  have := ((((((h.set_ 0 u0).set_ 1 u1).set_ 2 u2).set_ 3 u3).set_ 4 u4).set_ 5 u5)
  simp only [List.setIfInBounds_toArray, List.set_cons_zero, List.set_cons_succ] at this
  exact this
theorem bl_put6' {B : Nat} {a W : World} {g : Nat} (h : Below B a W) (hg : B ≤ g) (u0 u1 u2 u3 u4 u5 : Value) : Below B a ((((((W.setCell ⟨g, 0, none⟩ u0).setCell ⟨g, 1, none⟩ u1).setCell ⟨g, 2, none⟩ u2).setCell ⟨g, 3, none⟩ u3).setCell ⟨g, 4, none⟩ u4).setCell ⟨g, 5, none⟩ u5) :=
  (((((h.setCell hg u0).setCell hg u1).setCell hg u2).setCell hg u3).setCell hg u4).setCell hg u5
/-- the line of position near a point: its intercept, and some azimuth -/
def TanR (a b i0 i1 : Int) (e : Ending) : Prop := ∃ z0 z1 : Int, e = .returned (.tuple #[.agg #[.int .i64 a, .int .i64 b, .int .i64 z0, .int .i64 z1, .int .i64 i0, .int .i64 i1], .int .i64 0])
def TgI (cc : Array Value) (W2 : World) (x0 x1 x2 x3 x4 x5 x6 x7 x8 x9 x10 x11 x12 : Value) (a : Act) (L : Nat → Bool) (a' : Act) (w' : World) : Prop :=
  ∃ (v37 v38 v39 v40 v41 v42 v43 v44 v45 v46 v47 v48 v49 v10 : Value) (g : Nat), a' = ((((((((((((((a.put (some 37) v37).put (some 38) v38).put (some 39) v39).put (some 40) v40).put (some 41) v41).put (some 42) v42).put (some 43) v43).put (some 44) v44).put (some 45) v45).put (some 46) v46).put (some 47) v47).put (some 48) v48).put (some 49) v49).put (some 10) v10) ∧ Below W2.heap.size W2 w' ∧
    (L 13 = true → v10 = .pointer (some ⟨g, 0, none⟩) ∧ W2.heap.size ≤ g) ∧
    (L 13 = true → L 14 = false → Blk w' g 73 #[.int .i64 0, .int .i64 0, .int .i64 0, .int .i64 0, .int .i64 0, .int .i64 0]) ∧
    (L 14 = true → Blk w' g 73 cc) ∧
    (L 14 = true → L 13 = true) ∧
    (L 0 = true → v37 = x0) ∧
    (L 1 = true → v38 = x1) ∧
    (L 2 = true → v39 = x2) ∧
    (L 3 = true → v40 = x3) ∧
    (L 4 = true → v41 = x4) ∧
    (L 5 = true → v42 = x5) ∧
    (L 6 = true → v43 = x6) ∧
    (L 7 = true → v44 = x7) ∧
    (L 8 = true → v45 = x8) ∧
    (L 9 = true → v46 = x9) ∧
    (L 10 = true → v47 = x10) ∧
    (L 11 = true → v48 = x11) ∧
    (L 12 = true → v49 = x12)
theorem TgI.start {cc : Array Value} {W2 : World} {x0 x1 x2 x3 x4 x5 x6 x7 x8 x9 x10 x11 x12 : Value} (a : Act) : TgI cc W2 x0 x1 x2 x3 x4 x5 x6 x7 x8 x9 x10 x11 x12 a (fun _ => false) a W2.drew :=
  ⟨_, _, _, _, _, _, _, _, _, _, _, _, _, _, 0, by rw [putQ_self a 37, putQ_self a 38, putQ_self a 39, putQ_self a 40, putQ_self a 41, putQ_self a 42, putQ_self a 43, putQ_self a 44, putQ_self a 45, putQ_self a 46, putQ_self a 47, putQ_self a 48, putQ_self a 49, putQ_self a 10], bl_drew (Below.refl _ _), fun h => (by cases h), fun h => (by cases h), fun h => (by cases h), fun h => (by cases h), fun h => (by cases h), fun h => (by cases h), fun h => (by cases h), fun h => (by cases h), fun h => (by cases h), fun h => (by cases h), fun h => (by cases h), fun h => (by cases h), fun h => (by cases h), fun h => (by cases h), fun h => (by cases h), fun h => (by cases h), fun h => (by cases h)⟩
theorem tgq {L : Nat → Bool} {i j : Nat} {p : Prop} (E : Hid (L j = true → p)) (hne : (j == i) = false := by decide) : mkd L i j = true → p := fun h => E.out (by rwa [mkd_ne (by simpa using hne)] at h)
theorem tgf {L : Nat → Bool} {i j : Nat} (h : mkd L i j = false) : L j = false := by
  unfold mkd at h
  split at h
  · cases h
  · exact h
theorem tgt {L : Nat → Bool} {i j : Nat} (h : mkd L i j = true) (hne : (j == i) = false := by decide) : L j = true := by rwa [mkd_ne (by simpa using hne)] at h
theorem tgm {L : Nat → Bool} {i j : Nat} (h : L j = true) (hne : (j == i) = false := by decide) : mkd L i j = true := by rwa [mkd_ne (by simpa using hne)]
set_option maxHeartbeats 8000000 in
set_option maxRecDepth 100000 in
theorem Tangent_yes (a0 a1 o0 o1 r0 r1 a b : Int) (w : World) (hc : VC a0 a1 o0 o1 r0 r1) (hv : vptB a b = true) :
    Calls Tryz.prog 34 #[.agg #[.int .i64 a0, .int .i64 a1, .int .i64 o0, .int .i64 o1, .int .i64 r0, .int .i64 r1], .agg #[.int .i64 a, .int .i64 b]] w fun e w' =>
      TanR a b (5400000 + Trig.asnV (-(min (Trig.sinT (a, a) (a0, a1) (b - o1, b - o0)).2 1073741824)) - r1) (5400000 - Trig.asnV (max (Trig.sinT (a, a) (a0, a1) (b - o1, b - o0)).1 (-1073741824)) - r0) e ∧ Below w.heap.size w w' := by
  have bp := vp_bd hc.p
  have bv := vptB_true.1 hv
  have hs1 := Trig.sinT_fv (a, a) (a0, a1) (b - o1, b - o0)
  have hs2 := Trig.sinT_meets (a, a) (a0, a1) (b - o1, b - o0)
  have hord := Trig.asn_arc (s := Trig.sinT (a, a) (a0, a1) (b - o1, b - o0)) hs1.2.1 hs2.1 hs2.2
  have hb0 := Trig.asn_bd (max (Trig.sinT (a, a) (a0, a1) (b - o1, b - o0)).1 (-1073741824))
  have hb1 := Trig.asn_bd (-(min (Trig.sinT (a, a) (a0, a1) (b - o1, b - o0)).2 1073741824))
  have KS := fun W => Solve_yes (a, a) (a0, a1) (b - o1, b - o0) W ⟨by simp only []; omega, by simp only []; omega, by simp only []; omega⟩ ⟨by simp only []; omega, by simp only []; omega, by simp only []; omega⟩ (avB_true.2 (by simp only []; omega)) hs2.1 hs2.2
  have KT := fun W => ctri_any a0 a1 o0 o1 r0 r1 a a b b W (by omega)
  have KP := Lib.hid (fun W => placeOf_yes a b W hv)
  have KV := Lib.hid (fun W => cirValid_yes a0 a1 o0 o1 r0 r1 W hc)
  obtain ⟨h0, hh0⟩ : ∃ x, Trig.asnV (max (Trig.sinT (a, a) (a0, a1) (b - o1, b - o0)).1 (-1073741824)) = x := ⟨_, rfl⟩
  obtain ⟨h1, hh1⟩ : ∃ x, -Trig.asnV (-(min (Trig.sinT (a, a) (a0, a1) (b - o1, b - o0)).2 1073741824)) = x := ⟨_, rfl⟩
  rw [hh0, hh1] at KS
  rw [hh0] at hord hb0
  rw [hh1] at hord
  have hi1 : 5400000 + Trig.asnV (-(min (Trig.sinT (a, a) (a0, a1) (b - o1, b - o0)).2 1073741824)) - r1 = 5400000 - h1 - r1 := by omega
  rw [hi1, hh0]
  have hbh : -5400000 ≤ h1 ∧ h1 ≤ 5400000 := by omega
  have hr0 := hc.h0
  have hr1 := hc.h1
  have hr2 := hc.h2
  have L1 := fun (g : Nat) (W : World) h => kless_any g (5400000, 5400000) (h0, h1) W ⟨by simp only []; omega, by simp only []; omega, by simp only []; omega⟩ ⟨by simp only []; omega, by simp only []; omega, by simp only []; omega⟩ h
  have L2 := fun (g : Nat) (W : World) h => kless_any g (5400000 - h1, 5400000 - h0) (r0, r1) W ⟨by simp only []; omega, by simp only []; omega, by simp only []; omega⟩ ⟨by simp only []; omega, by simp only []; omega, by simp only []; omega⟩ h
  simp only [subP] at L1 L2
  simp only [] at KS
  clear hi1 hh0 hh1 hs1 hs2 hb0 hb1 hord hbh hr0 hr1 hr2 bv bp hc hv
  obtain ⟨i0, hi0⟩ : ∃ x, 5400000 - h1 - r1 = x := ⟨_, rfl⟩
  obtain ⟨i1, hi1⟩ : ∃ x, 5400000 - h0 - r0 = x := ⟨_, rfl⟩
  obtain ⟨j0, hj0⟩ : ∃ x, 5400000 - h1 = x := ⟨_, rfl⟩
  obtain ⟨j1, hj1⟩ : ∃ x, 5400000 - h0 = x := ⟨_, rfl⟩
  rw [hi0, hi1]
  rw [hj0, hj1] at L1 L2
  rw [hj0] at hi0
  rw [hj1] at hi1
  rw [show j0 - r1 = i0 from by omega, show j1 - r0 = i1 from by omega] at L2
  clear hi0 hi1 hj0 hj1
  have KS := Lib.hid KS
  have KT := Lib.hid KT
  have L1 := Lib.hid L1
  have L2 := Lib.hid L2
  have KR := Lib.hid right_any
  have cc := ((Blk.new w 39 #[.int .i64 a0, .int .i64 a1, .int .i64 o0, .int .i64 o1, .int .i64 r0, .int .i64 r1]).alloc (.cells #[.int .i64 a, .int .i64 b] 24)).alloc (.cells #[.int .i64 0, .int .i64 0, .int .i64 0, .int .i64 0, .int .i64 0, .int .i64 0] 73)
  have pp := (Blk.new (w.alloc (.cells #[.int .i64 a0, .int .i64 a1, .int .i64 o0, .int .i64 o1, .int .i64 r0, .int .i64 r1] 39)) 24 #[.int .i64 a, .int .i64 b]).alloc (.cells #[.int .i64 0, .int .i64 0, .int .i64 0, .int .i64 0, .int .i64 0, .int .i64 0] 73)
  have ll := Blk.new ((w.alloc (.cells #[.int .i64 a0, .int .i64 a1, .int .i64 o0, .int .i64 o1, .int .i64 r0, .int .i64 r1] 39)).alloc (.cells #[.int .i64 a, .int .i64 b] 24)) 73 #[.int .i64 0, .int .i64 0, .int .i64 0, .int .i64 0, .int .i64 0, .int .i64 0]
  rw [World.size_alloc] at pp
  rw [World.size_alloc, World.size_alloc] at ll
  have C0 := Lib.hid cc
  have P0 := Lib.hid pp
  have R0 := Lib.hid ll
  have B0 := Lib.hid (((bl_alloc w (.cells #[.int .i64 a0, .int .i64 a1, .int .i64 o0, .int .i64 o1, .int .i64 r0, .int .i64 r1] 39)).alloc (by simp) (.cells #[.int .i64 a, .int .i64 b] 24)).alloc (by simp; omega) (.cells #[.int .i64 0, .int .i64 0, .int .i64 0, .int .i64 0, .int .i64 0, .int .i64 0] 73))
  clear cc pp ll
  go_enter Tryz.func34, Tryz.ntmps34
  go_upto_region 1 with (fail)
  generalize ((w.alloc (.cells #[.int .i64 a0, .int .i64 a1, .int .i64 o0, .int .i64 o1, .int .i64 r0, .int .i64 r1] 39)).alloc (.cells #[.int .i64 a, .int .i64 b] 24)).alloc (.cells #[.int .i64 0, .int .i64 0, .int .i64 0, .int .i64 0, .int .i64 0, .int .i64 0] 73) = wa at C0 P0 R0 B0 ⊢
  have p0 : wa.cell? ⟨w.heap.size + 1, 0, none⟩ = some (.int .i64 a) := P0.out.cell 0
  have p1 : wa.cell? ⟨w.heap.size + 1, 1, none⟩ = some (.int .i64 b) := P0.out.cell 1
  go_wp2_with fail
  (with_reducible refine (KP.out _).mono ?_)
  rintro e w1 ⟨rfl, hb1⟩
  have hb1a := hb1.alloc hb1.size (.cells #[.int .i64 a, .int .i64 a, .int .i64 b, .int .i64 b] 31)
  have C1 := Lib.hid (C0.out.below hb1a C0.out.lt)
  have P1 := Lib.hid (P0.out.below hb1a P0.out.lt)
  have R1 := Lib.hid (R0.out.below hb1a R0.out.lt)
  have B1 := Lib.hid (B0.out.trans (hb1a.mono B0.out.size))
  have Q1 := Lib.hid (Blk.new w1 31 #[.int .i64 a, .int .i64 a, .int .i64 b, .int .i64 b])
  have hg1 : w.heap.size + 1 + 1 < w1.heap.size := (R0.out.below hb1 R0.out.lt).lt
  clear hb1 hb1a C0 P0 R0 B0 p0 p1 KP
  go_upto_region 2 with (fail)
  generalize w1.alloc (.cells #[.int .i64 a, .int .i64 a, .int .i64 b, .int .i64 b] 31) = wb at C1 P1 R1 B1 Q1 ⊢
  generalize w1.heap.size = gq at Q1 hg1 ⊢
  have k0 : wb.cell? ⟨w.heap.size, 0, none⟩ = some (.int .i64 a0) := C1.out.cell 0
  have k1 : wb.cell? ⟨w.heap.size, 1, none⟩ = some (.int .i64 a1) := C1.out.cell 1
  have k2 : wb.cell? ⟨w.heap.size, 2, none⟩ = some (.int .i64 o0) := C1.out.cell 2
  have k3 : wb.cell? ⟨w.heap.size, 3, none⟩ = some (.int .i64 o1) := C1.out.cell 3
  have k4 : wb.cell? ⟨w.heap.size, 4, none⟩ = some (.int .i64 r0) := C1.out.cell 4
  have k5 : wb.cell? ⟨w.heap.size, 5, none⟩ = some (.int .i64 r1) := C1.out.cell 5
  go_wp2_with fail
  (with_reducible refine (KV.out _).mono ?_)
  rintro e w2 ⟨rfl, hb2⟩
  have C2 := Lib.hid (C1.out.below hb2 C1.out.lt)
  have P2 := Lib.hid (P1.out.below hb2 P1.out.lt)
  have R2 := Lib.hid (R1.out.below hb2 R1.out.lt)
  have Q2 := Lib.hid (Q1.out.below hb2 Q1.out.lt)
  have B2 := Lib.hid (B1.out.trans (hb2.mono B1.out.size))
  clear hb2 C1 P1 R1 Q1 B1 k0 k1 k2 k3 k4 k5 KV
  have k0 : w2.cell? ⟨w.heap.size, 0, none⟩ = some (.int .i64 a0) := C2.out.cell 0
  have k1 : w2.cell? ⟨w.heap.size, 1, none⟩ = some (.int .i64 a1) := C2.out.cell 1
  have k2 : w2.cell? ⟨w.heap.size, 2, none⟩ = some (.int .i64 o0) := C2.out.cell 2
  have k3 : w2.cell? ⟨w.heap.size, 3, none⟩ = some (.int .i64 o1) := C2.out.cell 3
  have k4 : w2.cell? ⟨w.heap.size, 4, none⟩ = some (.int .i64 r0) := C2.out.cell 4
  have k5 : w2.cell? ⟨w.heap.size, 5, none⟩ = some (.int .i64 r1) := C2.out.cell 5
  have q0 : w2.cell? ⟨gq, 0, none⟩ = some (.int .i64 a) := Q2.out.cell 0
  have q1 : w2.cell? ⟨gq, 1, none⟩ = some (.int .i64 a) := Q2.out.cell 1
  have q2 : w2.cell? ⟨gq, 2, none⟩ = some (.int .i64 b) := Q2.out.cell 2
  have q3 : w2.cell? ⟨gq, 3, none⟩ = some (.int .i64 b) := Q2.out.cell 3
  go_wp2_with fail
  (with_reducible refine (KT.out _).mono ?_)
  rintro e w3 ⟨rfl, hb3⟩
  have C3 := Lib.hid (C2.out.below hb3 C2.out.lt)
  have P3 := Lib.hid (P2.out.below hb3 P2.out.lt)
  have R3 := Lib.hid (R2.out.below hb3 R2.out.lt)
  have B3 := Lib.hid (B2.out.trans (hb3.mono B2.out.size))
  clear hb3 C2 P2 R2 Q2 B2 k0 k1 k2 k3 k4 k5 q0 q1 q2 q3 KT
  go_wp2_with fail
  (with_reducible refine (KS.out _).mono ?_)
  rintro e w4 ⟨⟨z0, z1, rfl, -, -, -, -⟩, hb4⟩
  have hb4a := hb4.alloc hb4.size (.cells #[.int .i64 h0, .int .i64 h1, .int .i64 z0, .int .i64 z1] 122)
  have hb4b := hb4a.alloc hb4a.size (.cells #[.int .i64 0] 96)
  have X1 := Lib.hid (C3.out.below hb4b C3.out.lt)
  have XP := Lib.hid (P3.out.below hb4b P3.out.lt)
  have R4 := Lib.hid (R3.out.below hb4b R3.out.lt)
  have B4 := Lib.hid (B3.out.trans (hb4b.mono B3.out.size))
  have XS := Lib.hid ((Blk.new w4 122 #[.int .i64 h0, .int .i64 h1, .int .i64 z0, .int .i64 z1]).alloc (.cells #[.int .i64 0] 96))
  have hh := Blk.new (w4.alloc (.cells #[.int .i64 h0, .int .i64 h1, .int .i64 z0, .int .i64 z1] 122)) 96 #[.int .i64 0]
  rw [World.size_alloc] at hh
  have HC := Lib.hid hh
  have hg4 : w.heap.size + 1 + 1 < w4.heap.size := (R3.out.below hb4 R3.out.lt).lt
  clear hb4 hb4a hb4b hh C3 P3 R3 B3 KS
  go_upto_region 8 with (fail)
  generalize (w4.alloc (.cells #[.int .i64 h0, .int .i64 h1, .int .i64 z0, .int .i64 z1] 122)).alloc (.cells #[.int .i64 0] 96) = W2 at X1 XP R4 B4 XS HC ⊢
  generalize w4.heap.size = gs at XS HC hg4 ⊢
  have hl := HC.out.lt
  refine wp_region_inv3 (by kernel_rfl) (TgI #[.int .i64 a, .int .i64 b, .int .i64 z0, .int .i64 z1, .int .i64 i0, .int .i64 i1] W2 (.agg #[.int .i64 a, .int .i64 b]) (.pointer (some ⟨gs, 2, none⟩)) (.agg #[.int .i64 z0, .int .i64 z1]) (.pointer (some ⟨gs + 1, 0, none⟩)) (.pointer (some ⟨gs + 1, 0, none⟩)) (.agg #[.int .i64 5400000, .int .i64 5400000]) (.pointer (some ⟨gs, 0, none⟩)) (.agg #[.int .i64 h0, .int .i64 h1]) (.agg #[.int .i64 j0, .int .i64 j1]) (.pointer (some ⟨w.heap.size, 4, none⟩)) (.agg #[.int .i64 r0, .int .i64 r1]) (.agg #[.int .i64 i0, .int .i64 i1]) (.agg #[.int .i64 a, .int .i64 b, .int .i64 z0, .int .i64 z1, .int .i64 i0, .int .i64 i1])) (waits_bind (by kernel_rfl)) ?start ?step ?fin
  case start => exact TgI.start _
  case step =>
    rintro L io o a1' w' ho hL haf ⟨v37, v38, v39, v40, v41, v42, v43, v44, v45, v46, v47, v48, v49, v10, g, rfl, hb, h1, h2, h3, h4, e0, e1, e2, e3, e4, e5, e6, e7, e8, e9, e10, e11, e12⟩
    have HB := Lib.hid hb
    have H1 := Lib.hid h1
    have H2 := Lib.hid h2
    have H3 := Lib.hid h3
    have H4 := Lib.hid h4
    have E0 := Lib.hid e0
    have E1 := Lib.hid e1
    have E2 := Lib.hid e2
    have E3 := Lib.hid e3
    have E4 := Lib.hid e4
    have E5 := Lib.hid e5
    have E6 := Lib.hid e6
    have E7 := Lib.hid e7
    have E8 := Lib.hid e8
    have E9 := Lib.hid e9
    have E10 := Lib.hid e10
    have E11 := Lib.hid e11
    have E12 := Lib.hid e12
    clear hb h1 h2 h3 h4 e0 e1 e2 e3 e4 e5 e6 e7 e8 e9 e10 e11 e12
    rcases io with _ | _ | _ | _ | _ | _ | _ | _ | _ | _ | _ | _ | _ | _ | _ | io
    all_goals (simp at ho; try subst ho)
    all_goals (try simp [Region.binds] at haf)
    · have z9 := XP.out.below HB.out XP.out.lt
      have k0 : w'.cell? ⟨w.heap.size + 1, 0, none⟩ = some (.int .i64 a) := z9.cell 0
      have k1 : w'.cell? ⟨w.heap.size + 1, 1, none⟩ = some (.int .i64 b) := z9.cell 1
      clear z9
      go_wp2
      unfold TgI
      exact ⟨(.agg #[.int .i64 a, .int .i64 b]), v38, v39, v40, v41, v42, v43, v44, v45, v46, v47, v48, v49, v10, g, by simp only [Act.put, List.setIfInBounds_toArray, List.set_cons_zero, List.set_cons_succ], HB.out, tgq H1, fun h k => H2.out (tgt h) (tgf k), fun h => H3.out (tgt h), fun h => tgm (H4.out (tgt h)), fun _ => rfl, tgq E1, tgq E2, tgq E3, tgq E4, tgq E5, tgq E6, tgq E7, tgq E8, tgq E9, tgq E10, tgq E11, tgq E12⟩
    · go_wp2
      unfold TgI
      exact ⟨v37, (.pointer (some ⟨gs, 2, none⟩)), v39, v40, v41, v42, v43, v44, v45, v46, v47, v48, v49, v10, g, by simp only [Act.put, List.setIfInBounds_toArray, List.set_cons_zero, List.set_cons_succ], HB.out, tgq H1, fun h k => H2.out (tgt h) (tgf k), fun h => H3.out (tgt h), fun h => tgm (H4.out (tgt h)), tgq E0, fun _ => rfl, tgq E2, tgq E3, tgq E4, tgq E5, tgq E6, tgq E7, tgq E8, tgq E9, tgq E10, tgq E11, tgq E12⟩
    · have z9 := XS.out.below HB.out XS.out.lt
      have k2 : w'.cell? ⟨gs, 2, none⟩ = some (.int .i64 z0) := z9.cell 2
      have k3 : w'.cell? ⟨gs, 3, none⟩ = some (.int .i64 z1) := z9.cell 3
      clear z9
      obtain rfl := (E1.out (by simp [haf])).symm
      go_wp2
      unfold TgI
      exact ⟨v37, (.pointer (some ⟨gs, 2, none⟩)), (.agg #[.int .i64 z0, .int .i64 z1]), v40, v41, v42, v43, v44, v45, v46, v47, v48, v49, v10, g, by simp only [Act.put, List.setIfInBounds_toArray, List.set_cons_zero, List.set_cons_succ], HB.out, tgq H1, fun h k => H2.out (tgt h) (tgf k), fun h => H3.out (tgt h), fun h => tgm (H4.out (tgt h)), tgq E0, fun _ => rfl, fun _ => rfl, tgq E3, tgq E4, tgq E5, tgq E6, tgq E7, tgq E8, tgq E9, tgq E10, tgq E11, tgq E12⟩
    · go_wp2
      unfold TgI
      exact ⟨v37, v38, v39, (.pointer (some ⟨gs + 1, 0, none⟩)), v41, v42, v43, v44, v45, v46, v47, v48, v49, v10, g, by simp only [Act.put, List.setIfInBounds_toArray, List.set_cons_zero, List.set_cons_succ], HB.out, tgq H1, fun h k => H2.out (tgt h) (tgf k), fun h => H3.out (tgt h), fun h => tgm (H4.out (tgt h)), tgq E0, tgq E1, tgq E2, fun _ => rfl, tgq E4, tgq E5, tgq E6, tgq E7, tgq E8, tgq E9, tgq E10, tgq E11, tgq E12⟩
    · go_wp2
      unfold TgI
      exact ⟨v37, v38, v39, v40, (.pointer (some ⟨gs + 1, 0, none⟩)), v42, v43, v44, v45, v46, v47, v48, v49, v10, g, by simp only [Act.put, List.setIfInBounds_toArray, List.set_cons_zero, List.set_cons_succ], HB.out, tgq H1, fun h k => H2.out (tgt h) (tgf k), fun h => H3.out (tgt h), fun h => tgm (H4.out (tgt h)), tgq E0, tgq E1, tgq E2, tgq E3, fun _ => rfl, tgq E5, tgq E6, tgq E7, tgq E8, tgq E9, tgq E10, tgq E11, tgq E12⟩
    · go_wp2_with fail
      (with_reducible refine (KR.out _).mono ?_)
      rintro e w9 ⟨rfl, hb9⟩
      have HB9 := Lib.hid hb9
      clear hb9
      go_wp2
      unfold TgI
      exact ⟨v37, v38, v39, v40, v41, (.agg #[.int .i64 5400000, .int .i64 5400000]), v43, v44, v45, v46, v47, v48, v49, v10, g, by simp only [Act.put, List.setIfInBounds_toArray, List.set_cons_zero, List.set_cons_succ], HB.out.trans (HB9.out.mono HB.out.size), tgq H1, fun h k => (H2.out (tgt h) (tgf k)).below HB9.out (H2.out (tgt h) (tgf k)).lt, fun h => (H3.out (tgt h)).below HB9.out (H3.out (tgt h)).lt, fun h => tgm (H4.out (tgt h)), tgq E0, tgq E1, tgq E2, tgq E3, tgq E4, fun _ => rfl, tgq E6, tgq E7, tgq E8, tgq E9, tgq E10, tgq E11, tgq E12⟩
    · go_wp2
      unfold TgI
      exact ⟨v37, v38, v39, v40, v41, v42, (.pointer (some ⟨gs, 0, none⟩)), v44, v45, v46, v47, v48, v49, v10, g, by simp only [Act.put, List.setIfInBounds_toArray, List.set_cons_zero, List.set_cons_succ], HB.out, tgq H1, fun h k => H2.out (tgt h) (tgf k), fun h => H3.out (tgt h), fun h => tgm (H4.out (tgt h)), tgq E0, tgq E1, tgq E2, tgq E3, tgq E4, tgq E5, fun _ => rfl, tgq E7, tgq E8, tgq E9, tgq E10, tgq E11, tgq E12⟩
    · have z9 := XS.out.below HB.out XS.out.lt
      have k0 : w'.cell? ⟨gs, 0, none⟩ = some (.int .i64 h0) := z9.cell 0
      have k1 : w'.cell? ⟨gs, 1, none⟩ = some (.int .i64 h1) := z9.cell 1
      clear z9
      obtain rfl := (E6.out (by simp [haf])).symm
      go_wp2
      unfold TgI
      exact ⟨v37, v38, v39, v40, v41, v42, (.pointer (some ⟨gs, 0, none⟩)), (.agg #[.int .i64 h0, .int .i64 h1]), v45, v46, v47, v48, v49, v10, g, by simp only [Act.put, List.setIfInBounds_toArray, List.set_cons_zero, List.set_cons_succ], HB.out, tgq H1, fun h k => H2.out (tgt h) (tgf k), fun h => H3.out (tgt h), fun h => tgm (H4.out (tgt h)), tgq E0, tgq E1, tgq E2, tgq E3, tgq E4, tgq E5, fun _ => rfl, fun _ => rfl, tgq E8, tgq E9, tgq E10, tgq E11, tgq E12⟩
    · obtain rfl := (E4.out (by simp [haf])).symm
      obtain rfl := (E5.out (by simp [haf])).symm
      obtain rfl := (E7.out (by simp [haf])).symm
      go_wp2_with fail
      (with_reducible refine (L1.out _ _ (HC.out.below HB.out HC.out.lt)).mono ?_)
      rintro e w9 ⟨rfl, hb9⟩
      have HB9 := Lib.hid hb9
      clear hb9
      go_wp2
      unfold TgI
      exact ⟨v37, v38, v39, v40, (.pointer (some ⟨gs + 1, 0, none⟩)), (.agg #[.int .i64 5400000, .int .i64 5400000]), v43, (.agg #[.int .i64 h0, .int .i64 h1]), (.agg #[.int .i64 j0, .int .i64 j1]), v46, v47, v48, v49, v10, g, by simp only [Act.put, List.setIfInBounds_toArray, List.set_cons_zero, List.set_cons_succ], HB.out.trans (HB9.out.mono HB.out.size), tgq H1, fun h k => (H2.out (tgt h) (tgf k)).below HB9.out (H2.out (tgt h) (tgf k)).lt, fun h => (H3.out (tgt h)).below HB9.out (H3.out (tgt h)).lt, fun h => tgm (H4.out (tgt h)), tgq E0, tgq E1, tgq E2, tgq E3, fun _ => rfl, fun _ => rfl, tgq E6, fun _ => rfl, fun _ => rfl, tgq E9, tgq E10, tgq E11, tgq E12⟩
    · go_wp2
      unfold TgI
      exact ⟨v37, v38, v39, v40, v41, v42, v43, v44, v45, (.pointer (some ⟨w.heap.size, 4, none⟩)), v47, v48, v49, v10, g, by simp only [Act.put, List.setIfInBounds_toArray, List.set_cons_zero, List.set_cons_succ], HB.out, tgq H1, fun h k => H2.out (tgt h) (tgf k), fun h => H3.out (tgt h), fun h => tgm (H4.out (tgt h)), tgq E0, tgq E1, tgq E2, tgq E3, tgq E4, tgq E5, tgq E6, tgq E7, tgq E8, fun _ => rfl, tgq E10, tgq E11, tgq E12⟩
    · have z9 := X1.out.below HB.out X1.out.lt
      have k4 : w'.cell? ⟨w.heap.size, 4, none⟩ = some (.int .i64 r0) := z9.cell 4
      have k5 : w'.cell? ⟨w.heap.size, 5, none⟩ = some (.int .i64 r1) := z9.cell 5
      clear z9
      obtain rfl := (E9.out (by simp [haf])).symm
      go_wp2
      unfold TgI
      exact ⟨v37, v38, v39, v40, v41, v42, v43, v44, v45, (.pointer (some ⟨w.heap.size, 4, none⟩)), (.agg #[.int .i64 r0, .int .i64 r1]), v48, v49, v10, g, by simp only [Act.put, List.setIfInBounds_toArray, List.set_cons_zero, List.set_cons_succ], HB.out, tgq H1, fun h k => H2.out (tgt h) (tgf k), fun h => H3.out (tgt h), fun h => tgm (H4.out (tgt h)), tgq E0, tgq E1, tgq E2, tgq E3, tgq E4, tgq E5, tgq E6, tgq E7, tgq E8, fun _ => rfl, fun _ => rfl, tgq E11, tgq E12⟩
    · obtain rfl := (E3.out (by simp [haf])).symm
      obtain rfl := (E8.out (by simp [haf])).symm
      obtain rfl := (E10.out (by simp [haf])).symm
      go_wp2_with fail
      (with_reducible refine (L2.out _ _ (HC.out.below HB.out HC.out.lt)).mono ?_)
      rintro e w9 ⟨rfl, hb9⟩
      have HB9 := Lib.hid hb9
      clear hb9
      go_wp2
      unfold TgI
      exact ⟨v37, v38, v39, (.pointer (some ⟨gs + 1, 0, none⟩)), v41, v42, v43, v44, (.agg #[.int .i64 j0, .int .i64 j1]), v46, (.agg #[.int .i64 r0, .int .i64 r1]), (.agg #[.int .i64 i0, .int .i64 i1]), v49, v10, g, by simp only [Act.put, List.setIfInBounds_toArray, List.set_cons_zero, List.set_cons_succ], HB.out.trans (HB9.out.mono HB.out.size), tgq H1, fun h k => (H2.out (tgt h) (tgf k)).below HB9.out (H2.out (tgt h) (tgf k)).lt, fun h => (H3.out (tgt h)).below HB9.out (H3.out (tgt h)).lt, fun h => tgm (H4.out (tgt h)), tgq E0, tgq E1, tgq E2, fun _ => rfl, tgq E4, tgq E5, tgq E6, tgq E7, fun _ => rfl, tgq E9, fun _ => rfl, fun _ => rfl, tgq E12⟩
    · obtain rfl := (E0.out (by simp [haf])).symm
      obtain rfl := (E2.out (by simp [haf])).symm
      obtain rfl := (E11.out (by simp [haf])).symm
      go_wp2
      unfold TgI
      exact ⟨(.agg #[.int .i64 a, .int .i64 b]), v38, (.agg #[.int .i64 z0, .int .i64 z1]), v40, v41, v42, v43, v44, v45, v46, v47, (.agg #[.int .i64 i0, .int .i64 i1]), (.agg #[.int .i64 a, .int .i64 b, .int .i64 z0, .int .i64 z1, .int .i64 i0, .int .i64 i1]), v10, g, by simp only [Act.put, List.setIfInBounds_toArray, List.set_cons_zero, List.set_cons_succ], HB.out, tgq H1, fun h k => H2.out (tgt h) (tgf k), fun h => H3.out (tgt h), fun h => tgm (H4.out (tgt h)), fun _ => rfl, tgq E1, fun _ => rfl, tgq E3, tgq E4, tgq E5, tgq E6, tgq E7, tgq E8, tgq E9, tgq E10, fun _ => rfl, fun _ => rfl⟩
    · have hL4 : L 14 = false := by
        cases q : L 14 with
        | false => rfl
        | true => rw [H4.out q] at hL; cases hL
      have NB := Lib.hid (Blk.new w' 73 #[.int .i64 0, .int .i64 0, .int .i64 0, .int .i64 0, .int .i64 0, .int .i64 0])
      have NH := Lib.hid (HB.out.alloc HB.out.size (.cells #[.int .i64 0, .int .i64 0, .int .i64 0, .int .i64 0, .int .i64 0, .int .i64 0] 73))
      have hz := HB.out.size
      go_wp2
      unfold TgI
      exact ⟨v37, v38, v39, v40, v41, v42, v43, v44, v45, v46, v47, v48, v49, (.pointer (some ⟨w'.heap.size, 0, none⟩)), w'.heap.size, by simp only [Act.put, List.setIfInBounds_toArray, List.set_cons_zero, List.set_cons_succ], NH.out, fun _ => ⟨rfl, hz⟩, fun _ _ => NB.out, fun h => (by rw [tgt h] at hL4; cases hL4), fun _ => mkd_same _ _, tgq E0, tgq E1, tgq E2, tgq E3, tgq E4, tgq E5, tgq E6, tgq E7, tgq E8, tgq E9, tgq E10, tgq E11, tgq E12⟩
    · obtain rfl := (E12.out (by simp [haf])).symm
      obtain ⟨rfl, hg⟩ := H1.out (by simp [haf])
      have RB := H2.out (by simp [haf]) hL
      have fz : ∀ j, w'.frozen? ⟨g, j, none⟩ = false := fun j => RB.frozen j
      have gl := RB.lt
      have z0' : w'.cell? ⟨g, 0, none⟩ = some (.int .i64 0) := RB.cell 0
      have z1' : w'.cell? ⟨g, 1, none⟩ = some (.int .i64 0) := RB.cell 1
      have z2' : w'.cell? ⟨g, 2, none⟩ = some (.int .i64 0) := RB.cell 2
      have z3' : w'.cell? ⟨g, 3, none⟩ = some (.int .i64 0) := RB.cell 3
      have z4' : w'.cell? ⟨g, 4, none⟩ = some (.int .i64 0) := RB.cell 4
      have z5' : w'.cell? ⟨g, 5, none⟩ = some (.int .i64 0) := RB.cell 5
      have HX := Lib.hid (blkL6 RB (.int .i64 a) (.int .i64 b) (.int .i64 z0) (.int .i64 z1) (.int .i64 i0) (.int .i64 i1))
      have HY := Lib.hid (bl_put6' HB.out hg (.int .i64 a) (.int .i64 b) (.int .i64 z0) (.int .i64 z1) (.int .i64 i0) (.int .i64 i1))
      clear RB
      have hL3 : L 13 = true := by simp [haf]
      go_wp2
      unfold TgI
      exact ⟨v37, v38, v39, v40, v41, v42, v43, v44, v45, v46, v47, v48, (.agg #[.int .i64 a, .int .i64 b, .int .i64 z0, .int .i64 z1, .int .i64 i0, .int .i64 i1]), (.pointer (some ⟨g, 0, none⟩)), g, by simp only [Act.put, List.setIfInBounds_toArray, List.set_cons_zero, List.set_cons_succ], HY.out, fun _ => ⟨rfl, hg⟩, fun _ h => (by rw [mkd_same] at h; cases h), fun _ => HX.out, fun _ => tgm hL3, tgq E0, tgq E1, tgq E2, tgq E3, tgq E4, tgq E5, tgq E6, tgq E7, tgq E8, tgq E9, tgq E10, tgq E11, fun _ => rfl⟩
  case fin =>
    rintro L a1' w5 hall ⟨v37, v38, v39, v40, v41, v42, v43, v44, v45, v46, v47, v48, v49, v10, g, rfl, hb, h1, h2, h3, h4, e0, e1, e2, e3, e4, e5, e6, e7, e8, e9, e10, e11, e12⟩
    obtain rfl := (e0 (hall 0 (by decide))).symm
    obtain rfl := (e1 (hall 1 (by decide))).symm
    obtain rfl := (e2 (hall 2 (by decide))).symm
    obtain rfl := (e3 (hall 3 (by decide))).symm
    obtain rfl := (e4 (hall 4 (by decide))).symm
    obtain rfl := (e5 (hall 5 (by decide))).symm
    obtain rfl := (e6 (hall 6 (by decide))).symm
    obtain rfl := (e7 (hall 7 (by decide))).symm
    obtain rfl := (e8 (hall 8 (by decide))).symm
    obtain rfl := (e9 (hall 9 (by decide))).symm
    obtain rfl := (e10 (hall 10 (by decide))).symm
    obtain rfl := (e11 (hall 11 (by decide))).symm
    obtain rfl := (e12 (hall 12 (by decide))).symm
    obtain ⟨rfl, hg9⟩ := h1 (hall 13 (by decide))
    have hD := h3 (hall 14 (by decide))
    have hC := HC.out.below hb HC.out.lt
    have hR := R4.out.below hb R4.out.lt
    have hB := B4.out.trans (hb.mono B4.out.size)
    clear hb h1 h2 h3 h4 hall hg9
    generalize g = q at hD ⊢
    have c0 : w5.cell? ⟨gs + 1, 0, none⟩ = some (.int .i64 0) := hC.cell 0
    have cl := hC.lt
    have d0 : w5.cell? ⟨q, 0, none⟩ = some (.int .i64 a) := hD.cell 0
    have d1 : w5.cell? ⟨q, 1, none⟩ = some (.int .i64 b) := hD.cell 1
    have d2 : w5.cell? ⟨q, 2, none⟩ = some (.int .i64 z0) := hD.cell 2
    have d3 : w5.cell? ⟨q, 3, none⟩ = some (.int .i64 z1) := hD.cell 3
    have d4 : w5.cell? ⟨q, 4, none⟩ = some (.int .i64 i0) := hD.cell 4
    have d5 : w5.cell? ⟨q, 5, none⟩ = some (.int .i64 i1) := hD.cell 5
    have s0 : w5.cell? ⟨w.heap.size + 1 + 1, 0, none⟩ = some (.int .i64 0) := hR.cell 0
    have s1 : w5.cell? ⟨w.heap.size + 1 + 1, 1, none⟩ = some (.int .i64 0) := hR.cell 1
    have s2 : w5.cell? ⟨w.heap.size + 1 + 1, 2, none⟩ = some (.int .i64 0) := hR.cell 2
    have s3 : w5.cell? ⟨w.heap.size + 1 + 1, 3, none⟩ = some (.int .i64 0) := hR.cell 3
    have s4 : w5.cell? ⟨w.heap.size + 1 + 1, 4, none⟩ = some (.int .i64 0) := hR.cell 4
    have s5 : w5.cell? ⟨w.heap.size + 1 + 1, 5, none⟩ = some (.int .i64 0) := hR.cell 5
    have fz : ∀ j, w5.frozen? ⟨w.heap.size + 1 + 1, j, none⟩ = false := fun j => hR.frozen j
    have sl := hR.lt
    have E6 := Lib.hid (blkL6 hR (.int .i64 a) (.int .i64 b) (.int .i64 z0) (.int .i64 z1) (.int .i64 i0) (.int .i64 i1))
    have B6 := Lib.hid (bl_put6' (g := w.heap.size + 1 + 1) hB (by omega) (.int .i64 a) (.int .i64 b) (.int .i64 z0) (.int .i64 z1) (.int .i64 i0) (.int .i64 i1))
    clear X1 XP XS R4 B4 HC L1 L2 KR hD hC hR hB
    go_wp2
    generalize ((((((w5.setCell ⟨w.heap.size + 1 + 1, 0, none⟩ (.int .i64 a)).setCell ⟨w.heap.size + 1 + 1, 1, none⟩ (.int .i64 b)).setCell ⟨w.heap.size + 1 + 1, 2, none⟩ (.int .i64 z0)).setCell ⟨w.heap.size + 1 + 1, 3, none⟩ (.int .i64 z1)).setCell ⟨w.heap.size + 1 + 1, 4, none⟩ (.int .i64 i0)).setCell ⟨w.heap.size + 1 + 1, 5, none⟩ (.int .i64 i1)) = w6 at E6 B6 ⊢
    have e0 := E6.out.cell 0
    have e1 := E6.out.cell 1
    have e2 := E6.out.cell 2
    have e3 := E6.out.cell 3
    have e4 := E6.out.cell 4
    have e5 := E6.out.cell 5
    simp at e0 e1 e2 e3 e4 e5
    exact bodyPost_ret (v := .tuple #[.agg #[.int .i64 a, .int .i64 b, .int .i64 z0, .int .i64 z1, .int .i64 i0, .int .i64 i1], .int .i64 0]) (by simp [results, Tryz.results34, go_sem, e0, e1, e2, e3, e4, e5]) rfl ⟨⟨_, _, rfl⟩, B6.out⟩
end Go.Proofs.YtifdgdgfmjfbdaaGreat
