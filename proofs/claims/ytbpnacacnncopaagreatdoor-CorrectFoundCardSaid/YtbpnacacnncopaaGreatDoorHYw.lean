/- (*chain).upwards. -/
import Derived.Test.YtbpnacacnncopaaGreatDoorHYu
import Derived.Test.YtbpnacacnncopaaGreatDoorHXl
set_option linter.unusedVariables false
set_option linter.unusedSimpArgs false
namespace Go.Proofs.YtbpnacacnncopaaGreatDoor
open Go.RowKit Frm
/-- the semidiameter of a limb -/
def seA (limb a b c d lo hi : Int) : Int := if limb = 2 then auA a b c d lo hi else if limb = 3 then -auB a b c d lo hi else 0
def seB (limb a b c d lo hi : Int) : Int := if limb = 2 then auB a b c d lo hi else if limb = 3 then -auA a b c d lo hi else 0
set_option maxHeartbeats 8000000 in
set_option maxRecDepth 100000 in
theorem up_any (g q : Nat) (s : Sgt) (g0 g1 g2 g3 e0 e1 p0 p1 lo hi c0 c1 c2 c3 d0 d1 d2 d3 : Int) (w : World) (hg : Blk w g 86 #[.int .i64 0]) (hq : Blk w q 46 #[.int .i64 c0, .int .i64 c1, .int .i64 c2, .int .i64 c3, .int .i64 0, .int .i64 0, .int .i64 0, .int .i64 0, .int .i64 0, .int .i64 0, .int .i64 d0, .int .i64 d1, .int .i64 d2, .int .i64 d3]) (hne : g ≠ q)
    (hv : siS s = true) (he : smP e0 e1 = true) (hp : smP p0 p1 = true) (h0 : -60000 ≤ lo) (h1 : lo ≤ hi) (h2 : hi ≤ 5400000) :
    Calls Tryz.prog 58 #[.pointer (some ⟨g, 0, none⟩), .pointer (some ⟨q, 0, none⟩), sgv s.body s.limb s.lo s.hi s.hs s.by_ s.hor s.eye s.shore s.temp s.press, .agg #[.int .i64 g0, .int .i64 g1, .int .i64 g2, .int .i64 g3, .int .i64 e0, .int .i64 e1, .int .i64 p0, .int .i64 p1], .agg #[.int .i64 lo, .int .i64 hi]] w fun e w' => (∃ v, e = .returned v) ∧
      Blk w' q 46 #[.int .i64 c0, .int .i64 c1, .int .i64 c2, .int .i64 c3, .int .i64 (rfL hi s.temp s.press), .int .i64 (rfH lo s.temp s.press), .int .i64 (pxA p0 p1 lo hi), .int .i64 (pxB p0 p1 lo hi), .int .i64 (seA s.limb e0 e1 p0 p1 lo hi), .int .i64 (seB s.limb e0 e1 p0 p1 lo hi), .int .i64 d0, .int .i64 d1, .int .i64 d2, .int .i64 d3] ∧ Kps q w w' := by
  have k := si_ok hv
  have kt := k.temp
  have kp := k.press
  have kl := k.limb
  have hqlt := hq.lt
  have KC := Lib.hid (fun (a b : Int) W h => arcC_any g a b W h)
  have K1 := Lib.hid (fun W => rfAt_any lo hi s.temp s.press W h0 h1 h2 kt.1 kt.2 kp.1 kp.2)
  have K2 := Lib.hid (fun W => InAlt_any p0 p1 lo hi W hp (by omega) h1 h2)
  have K3 := Lib.hid (fun W => Aug_any e0 e1 p0 p1 lo hi W he hp (by omega) h1 h2)
  have hau := au_bd p0 p1 lo hi he
  have hs0 : 0 ≤ e0 := by unfold smP at he; rw [decide_eq_true_eq] at he; exact he.1
  have K4 := Lib.hid (fun W => arNeg_any (auA e0 e1 p0 p1 lo hi) (auB e0 e1 p0 p1 lo hi) W (by rw [avB_true]; omega))
  have hsA : seA s.limb e0 e1 p0 p1 lo hi = if s.limb = 2 then auA e0 e1 p0 p1 lo hi else if s.limb = 3 then -auB e0 e1 p0 p1 lo hi else 0 := rfl
  have hsB : seB s.limb e0 e1 p0 p1 lo hi = if s.limb = 2 then auB e0 e1 p0 p1 lo hi else if s.limb = 3 then -auA e0 e1 p0 p1 lo hi else 0 := rfl
  generalize seA s.limb e0 e1 p0 p1 lo hi = sA at *
  generalize seB s.limb e0 e1 p0 p1 lo hi = sB at *
  generalize rfL hi s.temp s.press = r0 at *
  generalize rfH lo s.temp s.press = r1 at *
  generalize pxA p0 p1 lo hi = x0 at *
  generalize pxB p0 p1 lo hi = x1 at *
  generalize auA e0 e1 p0 p1 lo hi = u0 at *
  generalize auB e0 e1 p0 p1 lo hi = u1 at *
  clear hv he hp h0 h1 h2 k hau hs0 kt kp
  have HSA := Lib.hid hsA
  have HSB := Lib.hid hsB
  clear hsA hsB
  obtain ⟨body, limb, tlo, thi, hs, by_, hor, eye, shore, temp, press⟩ := s
  simp only [] at kl HSA HSB K1 ⊢
  have B0 := Lib.hid (((Blk.new w 25 #[txb body, .int .i64 limb, .int .i64 tlo, .int .i64 thi, .int .i64 hs, .int .i64 by_, .int .i64 hor, .int .i64 eye, .int .i64 shore, .int .i64 temp, .int .i64 press]).alloc (.cells #[.int .i64 g0, .int .i64 g1, .int .i64 g2, .int .i64 g3, .int .i64 e0, .int .i64 e1, .int .i64 p0, .int .i64 p1] 43)).alloc (.cells #[.int .i64 lo, .int .i64 hi] 41))
  have E0 := Lib.hid ((Blk.new (w.alloc (.cells #[txb body, .int .i64 limb, .int .i64 tlo, .int .i64 thi, .int .i64 hs, .int .i64 by_, .int .i64 hor, .int .i64 eye, .int .i64 shore, .int .i64 temp, .int .i64 press] 25)) 43 #[.int .i64 g0, .int .i64 g1, .int .i64 g2, .int .i64 g3, .int .i64 e0, .int .i64 e1, .int .i64 p0, .int .i64 p1]).alloc (.cells #[.int .i64 lo, .int .i64 hi] 41))
  simp only [World.size_alloc] at E0
  have A0 := Lib.hid (Blk.new ((w.alloc (.cells #[txb body, .int .i64 limb, .int .i64 tlo, .int .i64 thi, .int .i64 hs, .int .i64 by_, .int .i64 hor, .int .i64 eye, .int .i64 shore, .int .i64 temp, .int .i64 press] 25)).alloc (.cells #[.int .i64 g0, .int .i64 g1, .int .i64 g2, .int .i64 g3, .int .i64 e0, .int .i64 e1, .int .i64 p0, .int .i64 p1] 43)) 41 #[.int .i64 lo, .int .i64 hi])
  simp only [World.size_alloc] at A0
  have b0 := Lib.hid ((((Below.refl w.heap.size w).alloc (Nat.le_refl _) (.cells #[txb body, .int .i64 limb, .int .i64 tlo, .int .i64 thi, .int .i64 hs, .int .i64 by_, .int .i64 hor, .int .i64 eye, .int .i64 shore, .int .i64 temp, .int .i64 press] 25)).alloc (by simp) (.cells #[.int .i64 g0, .int .i64 g1, .int .i64 g2, .int .i64 g3, .int .i64 e0, .int .i64 e1, .int .i64 p0, .int .i64 p1] 43)).alloc (by simp; omega) (.cells #[.int .i64 lo, .int .i64 hi] 41))
  have G0 := Lib.hid ((((hg).alloc (.cells #[txb body, .int .i64 limb, .int .i64 tlo, .int .i64 thi, .int .i64 hs, .int .i64 by_, .int .i64 hor, .int .i64 eye, .int .i64 shore, .int .i64 temp, .int .i64 press] 25)).alloc (.cells #[.int .i64 g0, .int .i64 g1, .int .i64 g2, .int .i64 g3, .int .i64 e0, .int .i64 e1, .int .i64 p0, .int .i64 p1] 43)).alloc (.cells #[.int .i64 lo, .int .i64 hi] 41))
  clear hg
  have Q0 := Lib.hid ((((hq).alloc (.cells #[txb body, .int .i64 limb, .int .i64 tlo, .int .i64 thi, .int .i64 hs, .int .i64 by_, .int .i64 hor, .int .i64 eye, .int .i64 shore, .int .i64 temp, .int .i64 press] 25)).alloc (.cells #[.int .i64 g0, .int .i64 g1, .int .i64 g2, .int .i64 g3, .int .i64 e0, .int .i64 e1, .int .i64 p0, .int .i64 p1] 43)).alloc (.cells #[.int .i64 lo, .int .i64 hi] 41))
  clear hq
  have K0q := Lib.hid (Kps.of_below (g := q) b0.out)
  clear b0
  go_enter Tryz.func58, Tryz.ntmps58
  go_upto_region 1 with fail
  generalize (((w.alloc (.cells #[txb body, .int .i64 limb, .int .i64 tlo, .int .i64 thi, .int .i64 hs, .int .i64 by_, .int .i64 hor, .int .i64 eye, .int .i64 shore, .int .i64 temp, .int .i64 press] 25)).alloc (.cells #[.int .i64 g0, .int .i64 g1, .int .i64 g2, .int .i64 g3, .int .i64 e0, .int .i64 e1, .int .i64 p0, .int .i64 p1] 43)).alloc (.cells #[.int .i64 lo, .int .i64 hi] 41)) = w1 at *
  have yB : ∀ i, w1.cell? ⟨w.heap.size, i, none⟩ = (#[txb body, .int .i64 limb, .int .i64 tlo, .int .i64 thi, .int .i64 hs, .int .i64 by_, .int .i64 hor, .int .i64 eye, .int .i64 shore, .int .i64 temp, .int .i64 press] : Array Value)[i]? := fun i => B0.out.cell i
  have yA : ∀ i, w1.cell? ⟨w.heap.size + 1 + 1, i, none⟩ = (#[.int .i64 lo, .int .i64 hi] : Array Value)[i]? := fun i => A0.out.cell i
  go_wp2_with fail
  (with_reducible refine (K1.out _).mono ?_)
  rintro e w2 ⟨rfl, hb⟩
  have B2 := Lib.hid (B0.out.below hb B0.out.lt)
  have E2 := Lib.hid (E0.out.below hb E0.out.lt)
  have A2 := Lib.hid (A0.out.below hb A0.out.lt)
  have G2 := Lib.hid (G0.out.below hb G0.out.lt)
  have Q2 := Lib.hid (Q0.out.below hb Q0.out.lt)
  have K2q := Lib.hid (K0q.out.trans (Kps.of_below hb))
  clear hb B0 E0 A0 G0 Q0 K0q yB yA
  go_wp2_with fail
  (with_reducible refine (KC.out r0 r1 _ G2.out).mono ?_)
  rintro e w3 ⟨rfl, hb⟩
  have B3 := Lib.hid (B2.out.below hb B2.out.lt)
  have E3 := Lib.hid (E2.out.below hb E2.out.lt)
  have A3 := Lib.hid (A2.out.below hb A2.out.lt)
  have G3 := Lib.hid (G2.out.below hb G2.out.lt)
  have Q3 := Lib.hid (Q2.out.below hb Q2.out.lt)
  have K3q := Lib.hid (K2q.out.trans (Kps.of_below hb))
  clear hb B2 E2 A2 G2 Q2 K2q
  have yQ : ∀ i, w3.cell? ⟨q, i, none⟩ = (#[.int .i64 c0, .int .i64 c1, .int .i64 c2, .int .i64 c3, .int .i64 0, .int .i64 0, .int .i64 0, .int .i64 0, .int .i64 0, .int .i64 0, .int .i64 d0, .int .i64 d1, .int .i64 d2, .int .i64 d3] : Array Value)[i]? := fun i => Q3.out.cell i
  have zQ : ∀ i, w3.frozen? ⟨q, i, none⟩ = false := fun i => Q3.out.frozen i
  have B4 := Lib.hid (((B3.out).far (p := ⟨q, 4, none⟩) (by show _ ≠ q; omega) (.int .i64 r0)).far (p := ⟨q, 5, none⟩) (by show _ ≠ q; omega) (.int .i64 r1))
  have E4 := Lib.hid (((E3.out).far (p := ⟨q, 4, none⟩) (by show _ ≠ q; omega) (.int .i64 r0)).far (p := ⟨q, 5, none⟩) (by show _ ≠ q; omega) (.int .i64 r1))
  have A4 := Lib.hid (((A3.out).far (p := ⟨q, 4, none⟩) (by show _ ≠ q; omega) (.int .i64 r0)).far (p := ⟨q, 5, none⟩) (by show _ ≠ q; omega) (.int .i64 r1))
  have G4 := Lib.hid (((G3.out).far (p := ⟨q, 4, none⟩) hne (.int .i64 r0)).far (p := ⟨q, 5, none⟩) hne (.int .i64 r1))
  have Q4 := Lib.hid ((show Blk ((w3.setCell ⟨q, 4, none⟩ (.int .i64 r0)).setCell ⟨q, 5, none⟩ (.int .i64 r1)) q 46 #[.int .i64 c0, .int .i64 c1, .int .i64 c2, .int .i64 c3, .int .i64 r0, .int .i64 r1, .int .i64 0, .int .i64 0, .int .i64 0, .int .i64 0, .int .i64 d0, .int .i64 d1, .int .i64 d2, .int .i64 d3] from by simpa using ((show Blk (w3.setCell ⟨q, 4, none⟩ (.int .i64 r0)) q 46 #[.int .i64 c0, .int .i64 c1, .int .i64 c2, .int .i64 c3, .int .i64 r0, .int .i64 0, .int .i64 0, .int .i64 0, .int .i64 0, .int .i64 0, .int .i64 d0, .int .i64 d1, .int .i64 d2, .int .i64 d3] from by simpa using (Q3.out).set_ 4 (.int .i64 r0))).set_ 5 (.int .i64 r1)))
  have K4q := Lib.hid (((K3q.out).trans (Kps.set_ q 4 w3 (.int .i64 r0))).trans (Kps.set_ q 5 (w3.setCell ⟨q, 4, none⟩ (.int .i64 r0)) (.int .i64 r1)))
  clear B3 E3 A3 G3 Q3 K3q
  go_upto_region 2 with fail
  clear yQ zQ
  generalize ((w3.setCell ⟨q, 4, none⟩ (.int .i64 r0)).setCell ⟨q, 5, none⟩ (.int .i64 r1)) = w5 at *
  have yE : ∀ i, w5.cell? ⟨w.heap.size + 1, i, none⟩ = (#[.int .i64 g0, .int .i64 g1, .int .i64 g2, .int .i64 g3, .int .i64 e0, .int .i64 e1, .int .i64 p0, .int .i64 p1] : Array Value)[i]? := fun i => E4.out.cell i
  have yA : ∀ i, w5.cell? ⟨w.heap.size + 1 + 1, i, none⟩ = (#[.int .i64 lo, .int .i64 hi] : Array Value)[i]? := fun i => A4.out.cell i
  go_wp2_with fail
  (with_reducible refine (K2.out _).mono ?_)
  rintro e w6 ⟨rfl, hb⟩
  have B6 := Lib.hid (B4.out.below hb B4.out.lt)
  have E6 := Lib.hid (E4.out.below hb E4.out.lt)
  have A6 := Lib.hid (A4.out.below hb A4.out.lt)
  have G6 := Lib.hid (G4.out.below hb G4.out.lt)
  have Q6 := Lib.hid (Q4.out.below hb Q4.out.lt)
  have K6q := Lib.hid (K4q.out.trans (Kps.of_below hb))
  clear hb B4 E4 A4 G4 Q4 K4q yE yA
  go_wp2_with fail
  (with_reducible refine (KC.out x0 x1 _ G6.out).mono ?_)
  rintro e w7 ⟨rfl, hb⟩
  have B7 := Lib.hid (B6.out.below hb B6.out.lt)
  have E7 := Lib.hid (E6.out.below hb E6.out.lt)
  have A7 := Lib.hid (A6.out.below hb A6.out.lt)
  have G7 := Lib.hid (G6.out.below hb G6.out.lt)
  have Q7 := Lib.hid (Q6.out.below hb Q6.out.lt)
  have K7q := Lib.hid (K6q.out.trans (Kps.of_below hb))
  clear hb B6 E6 A6 G6 Q6 K6q
  have yQ : ∀ i, w7.cell? ⟨q, i, none⟩ = (#[.int .i64 c0, .int .i64 c1, .int .i64 c2, .int .i64 c3, .int .i64 r0, .int .i64 r1, .int .i64 0, .int .i64 0, .int .i64 0, .int .i64 0, .int .i64 d0, .int .i64 d1, .int .i64 d2, .int .i64 d3] : Array Value)[i]? := fun i => Q7.out.cell i
  have zQ : ∀ i, w7.frozen? ⟨q, i, none⟩ = false := fun i => Q7.out.frozen i
  have B8 := Lib.hid (((B7.out).far (p := ⟨q, 6, none⟩) (by show _ ≠ q; omega) (.int .i64 x0)).far (p := ⟨q, 7, none⟩) (by show _ ≠ q; omega) (.int .i64 x1))
  have E8 := Lib.hid (((E7.out).far (p := ⟨q, 6, none⟩) (by show _ ≠ q; omega) (.int .i64 x0)).far (p := ⟨q, 7, none⟩) (by show _ ≠ q; omega) (.int .i64 x1))
  have A8 := Lib.hid (((A7.out).far (p := ⟨q, 6, none⟩) (by show _ ≠ q; omega) (.int .i64 x0)).far (p := ⟨q, 7, none⟩) (by show _ ≠ q; omega) (.int .i64 x1))
  have G8 := Lib.hid (((G7.out).far (p := ⟨q, 6, none⟩) hne (.int .i64 x0)).far (p := ⟨q, 7, none⟩) hne (.int .i64 x1))
  have Q8 := Lib.hid ((show Blk ((w7.setCell ⟨q, 6, none⟩ (.int .i64 x0)).setCell ⟨q, 7, none⟩ (.int .i64 x1)) q 46 #[.int .i64 c0, .int .i64 c1, .int .i64 c2, .int .i64 c3, .int .i64 r0, .int .i64 r1, .int .i64 x0, .int .i64 x1, .int .i64 0, .int .i64 0, .int .i64 d0, .int .i64 d1, .int .i64 d2, .int .i64 d3] from by simpa using ((show Blk (w7.setCell ⟨q, 6, none⟩ (.int .i64 x0)) q 46 #[.int .i64 c0, .int .i64 c1, .int .i64 c2, .int .i64 c3, .int .i64 r0, .int .i64 r1, .int .i64 x0, .int .i64 0, .int .i64 0, .int .i64 0, .int .i64 d0, .int .i64 d1, .int .i64 d2, .int .i64 d3] from by simpa using (Q7.out).set_ 6 (.int .i64 x0))).set_ 7 (.int .i64 x1)))
  have K8q := Lib.hid (((K7q.out).trans (Kps.set_ q 6 w7 (.int .i64 x0))).trans (Kps.set_ q 7 (w7.setCell ⟨q, 6, none⟩ (.int .i64 x0)) (.int .i64 x1)))
  clear B7 E7 A7 G7 Q7 K7q
  go_upto_region 3 with fail
  clear yQ zQ
  generalize ((w7.setCell ⟨q, 6, none⟩ (.int .i64 x0)).setCell ⟨q, 7, none⟩ (.int .i64 x1)) = w9 at *
  have yE : ∀ i, w9.cell? ⟨w.heap.size + 1, i, none⟩ = (#[.int .i64 g0, .int .i64 g1, .int .i64 g2, .int .i64 g3, .int .i64 e0, .int .i64 e1, .int .i64 p0, .int .i64 p1] : Array Value)[i]? := fun i => E8.out.cell i
  have yA : ∀ i, w9.cell? ⟨w.heap.size + 1 + 1, i, none⟩ = (#[.int .i64 lo, .int .i64 hi] : Array Value)[i]? := fun i => A8.out.cell i
  go_wp2_with fail
  (with_reducible refine (K3.out _).mono ?_)
  rintro e w10 ⟨rfl, hb⟩
  have B10 := Lib.hid (B8.out.below hb B8.out.lt)
  have E10 := Lib.hid (E8.out.below hb E8.out.lt)
  have A10 := Lib.hid (A8.out.below hb A8.out.lt)
  have G10 := Lib.hid (G8.out.below hb G8.out.lt)
  have Q10 := Lib.hid (Q8.out.below hb Q8.out.lt)
  have K10q := Lib.hid (K8q.out.trans (Kps.of_below hb))
  clear hb B8 E8 A8 G8 Q8 K8q yE yA
  go_wp2_with fail
  (with_reducible refine (KC.out u0 u1 _ G10.out).mono ?_)
  rintro e w11 ⟨rfl, hb⟩
  have B11 := Lib.hid (B10.out.below hb B10.out.lt)
  have E11 := Lib.hid (E10.out.below hb E10.out.lt)
  have A11 := Lib.hid (A10.out.below hb A10.out.lt)
  have G11 := Lib.hid (G10.out.below hb G10.out.lt)
  have Q11 := Lib.hid (Q10.out.below hb Q10.out.lt)
  have K11q := Lib.hid (K10q.out.trans (Kps.of_below hb))
  clear hb B10 E10 A10 G10 Q10 K10q
  have B12 := Lib.hid (B11.out.alloc (.cells #[.int .i64 u0, .int .i64 u1] 41))
  have E12 := Lib.hid (E11.out.alloc (.cells #[.int .i64 u0, .int .i64 u1] 41))
  have A12 := Lib.hid (A11.out.alloc (.cells #[.int .i64 u0, .int .i64 u1] 41))
  have G12 := Lib.hid (G11.out.alloc (.cells #[.int .i64 u0, .int .i64 u1] 41))
  have Q12 := Lib.hid (Q11.out.alloc (.cells #[.int .i64 u0, .int .i64 u1] 41))
  have HS0 := Lib.hid (show w.heap.size ≤ w11.heap.size from K11q.out.size)
  have S12 := Lib.hid (Blk.new w11 41 #[.int .i64 u0, .int .i64 u1])
  have K12q := Lib.hid (K11q.out.trans (Kps.of_below (bl_alloc w11 (.cells #[.int .i64 u0, .int .i64 u1] 41))))
  clear B11 E11 A11 G11 Q11 K11q
  go_upto_region 4 with fail
  generalize w11.alloc (.cells #[.int .i64 u0, .int .i64 u1] 41) = w13 at *
  obtain ⟨sa, hsa⟩ : ∃ sa, w11.heap.size = sa := ⟨_, rfl⟩
  rw [hsa] at S12 ⊢
  have hsq : sa ≠ q := by rw [← hsa]; have := HS0.out; omega
  clear hsa
  have yB : ∀ i, w13.cell? ⟨w.heap.size, i, none⟩ = (#[txb body, .int .i64 limb, .int .i64 tlo, .int .i64 thi, .int .i64 hs, .int .i64 by_, .int .i64 hor, .int .i64 eye, .int .i64 shore, .int .i64 temp, .int .i64 press] : Array Value)[i]? := fun i => B12.out.cell i
  have h123 : limb = 1 ∨ limb = 2 ∨ limb = 3 := by omega
  rcases h123 with rfl | rfl | rfl
  · skip
    go_wp2
    exact bodyPost_end (results_none Tryz.results58 _ _ _) rfl ⟨⟨_, rfl⟩, by rw [HSA.out, HSB.out]; exact Q12.out, K12q.out⟩
  · skip
    go_upto_region 6 with fail
    clear yB
    have yS : ∀ i, w13.cell? ⟨sa, i, none⟩ = (#[.int .i64 u0, .int .i64 u1] : Array Value)[i]? := fun i => S12.out.cell i
    have yQ : ∀ i, w13.cell? ⟨q, i, none⟩ = (#[.int .i64 c0, .int .i64 c1, .int .i64 c2, .int .i64 c3, .int .i64 r0, .int .i64 r1, .int .i64 x0, .int .i64 x1, .int .i64 0, .int .i64 0, .int .i64 d0, .int .i64 d1, .int .i64 d2, .int .i64 d3] : Array Value)[i]? := fun i => Q12.out.cell i
    have zQ : ∀ i, w13.frozen? ⟨q, i, none⟩ = false := fun i => Q12.out.frozen i
    have B14 := Lib.hid (((B12.out).far (p := ⟨q, 8, none⟩) (by show _ ≠ q; omega) (.int .i64 u0)).far (p := ⟨q, 9, none⟩) (by show _ ≠ q; omega) (.int .i64 u1))
    have E14 := Lib.hid (((E12.out).far (p := ⟨q, 8, none⟩) (by show _ ≠ q; omega) (.int .i64 u0)).far (p := ⟨q, 9, none⟩) (by show _ ≠ q; omega) (.int .i64 u1))
    have A14 := Lib.hid (((A12.out).far (p := ⟨q, 8, none⟩) (by show _ ≠ q; omega) (.int .i64 u0)).far (p := ⟨q, 9, none⟩) (by show _ ≠ q; omega) (.int .i64 u1))
    have G14 := Lib.hid (((G12.out).far (p := ⟨q, 8, none⟩) hne (.int .i64 u0)).far (p := ⟨q, 9, none⟩) hne (.int .i64 u1))
    have S14 := Lib.hid (((S12.out).far (p := ⟨q, 8, none⟩) hsq (.int .i64 u0)).far (p := ⟨q, 9, none⟩) hsq (.int .i64 u1))
    have Q14 := Lib.hid ((show Blk ((w13.setCell ⟨q, 8, none⟩ (.int .i64 u0)).setCell ⟨q, 9, none⟩ (.int .i64 u1)) q 46 #[.int .i64 c0, .int .i64 c1, .int .i64 c2, .int .i64 c3, .int .i64 r0, .int .i64 r1, .int .i64 x0, .int .i64 x1, .int .i64 u0, .int .i64 u1, .int .i64 d0, .int .i64 d1, .int .i64 d2, .int .i64 d3] from by simpa using ((show Blk (w13.setCell ⟨q, 8, none⟩ (.int .i64 u0)) q 46 #[.int .i64 c0, .int .i64 c1, .int .i64 c2, .int .i64 c3, .int .i64 r0, .int .i64 r1, .int .i64 x0, .int .i64 x1, .int .i64 u0, .int .i64 0, .int .i64 d0, .int .i64 d1, .int .i64 d2, .int .i64 d3] from by simpa using (Q12.out).set_ 8 (.int .i64 u0))).set_ 9 (.int .i64 u1)))
    have K14q := Lib.hid (((K12q.out).trans (Kps.set_ q 8 w13 (.int .i64 u0))).trans (Kps.set_ q 9 (w13.setCell ⟨q, 8, none⟩ (.int .i64 u0)) (.int .i64 u1)))
    clear B12 E12 A12 G12 S12 Q12 K12q
    go_wp2
    generalize ((w13.setCell ⟨q, 8, none⟩ (.int .i64 u0)).setCell ⟨q, 9, none⟩ (.int .i64 u1)) = w99 at *
    exact bodyPost_end (results_none Tryz.results58 _ _ _) rfl ⟨⟨_, rfl⟩, by rw [HSA.out, HSB.out]; exact Q14.out, K14q.out⟩
  · skip
    go_upto_region 8 with fail
    clear yB
    have yS : ∀ i, w13.cell? ⟨sa, i, none⟩ = (#[.int .i64 u0, .int .i64 u1] : Array Value)[i]? := fun i => S12.out.cell i
    go_wp2_with fail
    (with_reducible refine (K4.out _).mono ?_)
    rintro e w14 ⟨rfl, hb⟩
    have B14 := Lib.hid (B12.out.below hb B12.out.lt)
    have E14 := Lib.hid (E12.out.below hb E12.out.lt)
    have A14 := Lib.hid (A12.out.below hb A12.out.lt)
    have G14 := Lib.hid (G12.out.below hb G12.out.lt)
    have Q14 := Lib.hid (Q12.out.below hb Q12.out.lt)
    have S14 := Lib.hid (S12.out.below hb S12.out.lt)
    have K14q := Lib.hid (K12q.out.trans (Kps.of_below hb))
    clear hb B12 E12 A12 G12 Q12 S12 K12q yS
    go_wp2_with fail
    (with_reducible refine (KC.out (-u1) (-u0) _ G14.out).mono ?_)
    rintro e w15 ⟨rfl, hb⟩
    have B15 := Lib.hid (B14.out.below hb B14.out.lt)
    have E15 := Lib.hid (E14.out.below hb E14.out.lt)
    have A15 := Lib.hid (A14.out.below hb A14.out.lt)
    have G15 := Lib.hid (G14.out.below hb G14.out.lt)
    have Q15 := Lib.hid (Q14.out.below hb Q14.out.lt)
    have S15 := Lib.hid (S14.out.below hb S14.out.lt)
    have K15q := Lib.hid (K14q.out.trans (Kps.of_below hb))
    clear hb B14 E14 A14 G14 Q14 S14 K14q
    have yQ : ∀ i, w15.cell? ⟨q, i, none⟩ = (#[.int .i64 c0, .int .i64 c1, .int .i64 c2, .int .i64 c3, .int .i64 r0, .int .i64 r1, .int .i64 x0, .int .i64 x1, .int .i64 0, .int .i64 0, .int .i64 d0, .int .i64 d1, .int .i64 d2, .int .i64 d3] : Array Value)[i]? := fun i => Q15.out.cell i
    have zQ : ∀ i, w15.frozen? ⟨q, i, none⟩ = false := fun i => Q15.out.frozen i
    have B16 := Lib.hid (((B15.out).far (p := ⟨q, 8, none⟩) (by show _ ≠ q; omega) (.int .i64 (-u1))).far (p := ⟨q, 9, none⟩) (by show _ ≠ q; omega) (.int .i64 (-u0)))
    have E16 := Lib.hid (((E15.out).far (p := ⟨q, 8, none⟩) (by show _ ≠ q; omega) (.int .i64 (-u1))).far (p := ⟨q, 9, none⟩) (by show _ ≠ q; omega) (.int .i64 (-u0)))
    have A16 := Lib.hid (((A15.out).far (p := ⟨q, 8, none⟩) (by show _ ≠ q; omega) (.int .i64 (-u1))).far (p := ⟨q, 9, none⟩) (by show _ ≠ q; omega) (.int .i64 (-u0)))
    have G16 := Lib.hid (((G15.out).far (p := ⟨q, 8, none⟩) hne (.int .i64 (-u1))).far (p := ⟨q, 9, none⟩) hne (.int .i64 (-u0)))
    have S16 := Lib.hid (((S15.out).far (p := ⟨q, 8, none⟩) hsq (.int .i64 (-u1))).far (p := ⟨q, 9, none⟩) hsq (.int .i64 (-u0)))
    have Q16 := Lib.hid ((show Blk ((w15.setCell ⟨q, 8, none⟩ (.int .i64 (-u1))).setCell ⟨q, 9, none⟩ (.int .i64 (-u0))) q 46 #[.int .i64 c0, .int .i64 c1, .int .i64 c2, .int .i64 c3, .int .i64 r0, .int .i64 r1, .int .i64 x0, .int .i64 x1, .int .i64 (-u1), .int .i64 (-u0), .int .i64 d0, .int .i64 d1, .int .i64 d2, .int .i64 d3] from by simpa using ((show Blk (w15.setCell ⟨q, 8, none⟩ (.int .i64 (-u1))) q 46 #[.int .i64 c0, .int .i64 c1, .int .i64 c2, .int .i64 c3, .int .i64 r0, .int .i64 r1, .int .i64 x0, .int .i64 x1, .int .i64 (-u1), .int .i64 0, .int .i64 d0, .int .i64 d1, .int .i64 d2, .int .i64 d3] from by simpa using (Q15.out).set_ 8 (.int .i64 (-u1)))).set_ 9 (.int .i64 (-u0))))
    have K16q := Lib.hid (((K15q.out).trans (Kps.set_ q 8 w15 (.int .i64 (-u1)))).trans (Kps.set_ q 9 (w15.setCell ⟨q, 8, none⟩ (.int .i64 (-u1))) (.int .i64 (-u0))))
    clear B15 E15 A15 G15 S15 Q15 K15q
    go_wp2
    generalize ((w15.setCell ⟨q, 8, none⟩ (.int .i64 (-u1))).setCell ⟨q, 9, none⟩ (.int .i64 (-u0))) = w99 at *
    exact bodyPost_end (results_none Tryz.results58 _ _ _) rfl ⟨⟨_, rfl⟩, by rw [HSA.out, HSB.out]; exact Q16.out, K16q.out⟩
end Go.Proofs.YtbpnacacnncopaaGreatDoor
