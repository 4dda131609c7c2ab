/- The walks of angle.Neg and Sub, and of circles' chain: less; circles.right. -/
import Derived.Test.YtifdgdgfmjfbdaaGreatICj
import Derived.Test.YtifdgdgfmjfbdaaGreatICc
import Derived.Test.YtifdgdgfmjfbdaaGreatIAi
import Derived.Test.YtifdgdgfmjfbdaaGreatIBi
set_option linter.unusedVariables false
set_option linter.unusedSimpArgs false
namespace Go.Proofs.YtifdgdgfmjfbdaaGreat
open Go.RowKit
set_option maxHeartbeats 4000000 in
set_option maxRecDepth 100000 in
theorem azimuth_yes (a b c : Int × Int) (w : World) (ha : avB a.1 a.2 = true) (hb : avB b.1 b.2 = true) (hc : avB c.1 c.2 = true) :
    Calls Tryz.prog 203 #[.agg #[.int .i64 a.1, .int .i64 a.2, .int .i64 b.1, .int .i64 b.2, .int .i64 c.1, .int .i64 c.2]] w fun e w' => BearA e ∧ Below w.heap.size w w' := by
  have hfy := small_fv (negP_small (Trig.mulP_small (Trig.csP_small b) (Trig.snP_small c)))
  have hfx := subP_fv (Trig.mulP_small (Trig.snP_small b) (Trig.csP_small a)) (Trig.mulP_small (Trig.mulP_small (Trig.csP_small b) (Trig.csP_small c)) (Trig.snP_small a))
  have KB := fun W => Bearing_any _ _ _ _ W hfy hfx
  have KO := fun (g : Nat) (W : World) h => of_any g a b c W ha hb hc h
  have Y1 := fun (g : Nat) (W : World) h => cmul_any g (Trig.csP b) (Trig.snP c) W (Trig.csP_small b) (Trig.snP_small c) h
  have Y2 := fun (g : Nat) (W : World) h => cneg_any g (Trig.mulP (Trig.csP b) (Trig.snP c)) W (Trig.mulP_small (Trig.csP_small b) (Trig.snP_small c)) h
  have M1 := fun (g : Nat) (W : World) h => cmul_any g (Trig.snP b) (Trig.csP a) W (Trig.snP_small b) (Trig.csP_small a) h
  have M2 := fun (g : Nat) (W : World) h => cmul_any g (Trig.csP b) (Trig.csP c) W (Trig.csP_small b) (Trig.csP_small c) h
  have M3 := fun (g : Nat) (W : World) h => cmul_any g (Trig.mulP (Trig.csP b) (Trig.csP c)) (Trig.snP a) W (Trig.mulP_small (Trig.csP_small b) (Trig.csP_small c)) (Trig.snP_small a) h
  have M4 := fun (g : Nat) (W : World) h => csub_any g (Trig.mulP (Trig.snP b) (Trig.csP a)) (Trig.mulP (Trig.mulP (Trig.csP b) (Trig.csP c)) (Trig.snP a)) W (Trig.mulP_small (Trig.snP_small b) (Trig.csP_small a)) (Trig.mulP_small (Trig.mulP_small (Trig.csP_small b) (Trig.csP_small c)) (Trig.snP_small a)) h
  clear hfx hfy
  obtain ⟨⟨s0, s1⟩, hs⟩ : ∃ x, subP (Trig.mulP (Trig.snP b) (Trig.csP a)) (Trig.mulP (Trig.mulP (Trig.csP b) (Trig.csP c)) (Trig.snP a)) = x := ⟨_, rfl⟩
  rw [hs] at M4 KB
  obtain ⟨⟨k0, k1⟩, hk⟩ : ∃ x, negP (Trig.mulP (Trig.csP b) (Trig.snP c)) = x := ⟨_, rfl⟩
  rw [hk] at Y2 KB
  obtain ⟨⟨j0, j1⟩, hj⟩ : ∃ x, Trig.mulP (Trig.csP b) (Trig.snP c) = x := ⟨_, rfl⟩
  rw [hj] at Y1 Y2
  obtain ⟨⟨u0, u1⟩, hu⟩ : ∃ x, Trig.mulP (Trig.mulP (Trig.csP b) (Trig.csP c)) (Trig.snP a) = x := ⟨_, rfl⟩
  rw [hu] at M3 M4
  obtain ⟨⟨v0, v1⟩, hv⟩ : ∃ x, Trig.mulP (Trig.csP b) (Trig.csP c) = x := ⟨_, rfl⟩
  rw [hv] at M2 M3
  obtain ⟨⟨t0, t1⟩, ht⟩ : ∃ x, Trig.mulP (Trig.snP b) (Trig.csP a) = x := ⟨_, rfl⟩
  rw [ht] at M1 M4
  obtain ⟨⟨n0, n1⟩, hn⟩ : ∃ x, Trig.snP a = x := ⟨_, rfl⟩
  obtain ⟨⟨n2, n3⟩, hn2⟩ : ∃ x, Trig.snP b = x := ⟨_, rfl⟩
  obtain ⟨⟨n4, n5⟩, hn3⟩ : ∃ x, Trig.snP c = x := ⟨_, rfl⟩
  obtain ⟨⟨p0, p1⟩, hp⟩ : ∃ x, Trig.csP a = x := ⟨_, rfl⟩
  obtain ⟨⟨p2, p3⟩, hp2⟩ : ∃ x, Trig.csP b = x := ⟨_, rfl⟩
  obtain ⟨⟨p4, p5⟩, hp3⟩ : ∃ x, Trig.csP c = x := ⟨_, rfl⟩
  rw [hn, hn2, hn3, hp, hp2, hp3] at KO
  rw [hp2, hn3] at Y1
  rw [hn2, hp] at M1
  rw [hp2, hp3] at M2
  rw [hn] at M3
  clear hs hk hj hu hv ht hn hn2 hn3 hp hp2 hp3 ha hb hc
  simp only [] at Y1 Y2 M1 M2 M3 M4 KB KO ⊢
  obtain ⟨a0, a1⟩ := a
  obtain ⟨b0, b1⟩ := b
  obtain ⟨c0, c1⟩ := c
  simp only [] at KO ⊢
  have KB := Lib.hid KB
  have KO := Lib.hid KO
  have Y1 := Lib.hid Y1
  have Y2 := Lib.hid Y2
  have M1 := Lib.hid M1
  have M2 := Lib.hid M2
  have M3 := Lib.hid M3
  have M4 := Lib.hid M4
  have TC : Hid (Blk (((w.alloc (.cells #[.int .i64 a0, .int .i64 a1, .int .i64 b0, .int .i64 b1, .int .i64 c0, .int .i64 c1] 92)).alloc (.cells #[.int .i64 0, .int .i64 0] 29)).alloc (.cells #[.int .i64 0] 214)) (w.heap.size + 1 + 1) 214 #[.int .i64 0]) := Lib.hid (by
    have := Blk.new ((w.alloc (.cells #[.int .i64 a0, .int .i64 a1, .int .i64 b0, .int .i64 b1, .int .i64 c0, .int .i64 c1] 92)).alloc (.cells #[.int .i64 0, .int .i64 0] 29)) 214 #[.int .i64 0]
    rwa [World.size_alloc, World.size_alloc] at this)
  have TR : Hid (D2 (((w.alloc (.cells #[.int .i64 a0, .int .i64 a1, .int .i64 b0, .int .i64 b1, .int .i64 c0, .int .i64 c1] 92)).alloc (.cells #[.int .i64 0, .int .i64 0] 29)).alloc (.cells #[.int .i64 0] 214)) (w.heap.size + 1) 0 0) := Lib.hid (by
    have := (D2.new (w.alloc (.cells #[.int .i64 a0, .int .i64 a1, .int .i64 b0, .int .i64 b1, .int .i64 c0, .int .i64 c1] 92)) 0 0 29).alloc (.cells #[.int .i64 0] 214)
    rwa [World.size_alloc] at this)
  have B0 := Lib.hid (((bl_alloc w (.cells #[.int .i64 a0, .int .i64 a1, .int .i64 b0, .int .i64 b1, .int .i64 c0, .int .i64 c1] 92)).alloc (by simp) (.cells #[.int .i64 0, .int .i64 0] 29)).alloc (by simp; omega) (.cells #[.int .i64 0] 214))
  go_enter Tryz.func203, Tryz.ntmps203
  go_wp2_with fail
  (with_reducible refine (KO.out _ _ TC.out).mono ?_)
  rintro e w1 ⟨rfl, hb1⟩
  have TC1 := Lib.hid (TC.out.below hb1 TC.out.lt)
  have TR1 := Lib.hid (TR.out.below hb1 TR.out.lt)
  have B1 := Lib.hid (B0.out.trans (hb1.mono B0.out.size))
  clear hb1 TC TR B0
  go_upto_region 3 with (fail)
  have X1 := Lib.hid (Blk.new w1 216 #[.int .i64 n0, .int .i64 n1, .int .i64 p0, .int .i64 p1, .int .i64 n2, .int .i64 n3, .int .i64 p2, .int .i64 p3, .int .i64 n4, .int .i64 n5, .int .i64 p4, .int .i64 p5])
  have HC := Lib.hid (TC1.out.alloc (.cells #[.int .i64 n0, .int .i64 n1, .int .i64 p0, .int .i64 p1, .int .i64 n2, .int .i64 n3, .int .i64 p2, .int .i64 p3, .int .i64 n4, .int .i64 n5, .int .i64 p4, .int .i64 p5] 216))
  have TR2 := Lib.hid (TR1.out.alloc (.cells #[.int .i64 n0, .int .i64 n1, .int .i64 p0, .int .i64 p1, .int .i64 n2, .int .i64 n3, .int .i64 p2, .int .i64 p3, .int .i64 n4, .int .i64 n5, .int .i64 p4, .int .i64 p5] 216))
  have B2 := Lib.hid (B1.out.alloc B1.out.size (.cells #[.int .i64 n0, .int .i64 n1, .int .i64 p0, .int .i64 p1, .int .i64 n2, .int .i64 n3, .int .i64 p2, .int .i64 p3, .int .i64 n4, .int .i64 n5, .int .i64 p4, .int .i64 p5] 216))
  have hg : w.heap.size + 1 + 1 < w1.heap.size := TC1.out.lt
  generalize w1.alloc (.cells #[.int .i64 n0, .int .i64 n1, .int .i64 p0, .int .i64 p1, .int .i64 n2, .int .i64 n3, .int .i64 p2, .int .i64 p3, .int .i64 n4, .int .i64 n5, .int .i64 p4, .int .i64 p5] 216) = W2 at *
  generalize w1.heap.size = g at *
  clear TC1 TR1 B1 KO
  have q6 : W2.cell? ⟨g, 6, none⟩ = some (.int .i64 p2) := X1.out.cell 6
  have q7 : W2.cell? ⟨g, 7, none⟩ = some (.int .i64 p3) := X1.out.cell 7
  have q8 : W2.cell? ⟨g, 8, none⟩ = some (.int .i64 n4) := X1.out.cell 8
  have q9 : W2.cell? ⟨g, 9, none⟩ = some (.int .i64 n5) := X1.out.cell 9
  go_wp2_with fail
  (with_reducible refine (Y1.out _ _ HC.out).mono ?_)
  rintro e w3 ⟨rfl, hb3⟩
  have HC3 := Lib.hid (HC.out.below hb3 HC.out.lt)
  clear q6 q7 q8 q9
  go_wp2_with fail
  (with_reducible refine (Y2.out _ _ HC3.out).mono ?_)
  rintro e w4 ⟨rfl, hb4⟩
  have hb34 := hb3.trans (hb4.mono hb3.size)
  have X4 := Lib.hid ((X1.out.below hb34 X1.out.lt).alloc (.cells #[.int .i64 k0, .int .i64 k1] 97))
  have HC4 := Lib.hid ((HC.out.below hb34 HC.out.lt).alloc (.cells #[.int .i64 k0, .int .i64 k1] 97))
  have TR4 := Lib.hid ((TR2.out.below hb34 TR2.out.lt).alloc (.cells #[.int .i64 k0, .int .i64 k1] 97))
  have b4 := B2.out.trans (hb34.mono B2.out.size)
  have B4 := Lib.hid (b4.alloc b4.size (.cells #[.int .i64 k0, .int .i64 k1] 97))
  have YY := Lib.hid (D2.new w4 k0 k1 97)
  have hg4 : g < w4.heap.size := (X1.out.below hb34 X1.out.lt).lt
  go_upto_region 4 with (fail)
  clear hb3 hb4 hb34 b4 X1 HC HC3 TR2 B2 Y1 Y2
  generalize w4.alloc (.cells #[.int .i64 k0, .int .i64 k1] 97) = W2 at X4 HC4 TR4 B4 YY ⊢
  generalize w4.heap.size = gy at hg4 YY ⊢
  have X1 := X4
  have HC := HC4
  clear X4 HC4
  have hl := HC.out.lt
  go_cut [7] (fun s7 wy => ∃ q : Nat, s7 = .pointer (some ⟨q, 0, none⟩) ∧ D2 wy q s0 s1 ∧ Blk wy (w.heap.size + 1 + 1) 214 #[.int .i64 0] ∧ D2 wy (w.heap.size + 1) 0 0 ∧ D2 wy gy k0 k1 ∧ Below w.heap.size w wy)
  case first =>
    obtain ⟨y0, y1, y2, y3, y4, y5, y6, y7, y8, y9, Z0⟩ := sA X1.out (Below.refl _ _)
    go_region_held3 (fun w' => w'.cell? ⟨g, 0, none⟩ = some (.int .i64 n0) ∧ w'.cell? ⟨g, 1, none⟩ = some (.int .i64 n1) ∧ w'.cell? ⟨g, 2, none⟩ = some (.int .i64 p0) ∧ w'.cell? ⟨g, 3, none⟩ = some (.int .i64 p1) ∧ w'.cell? ⟨g, 4, none⟩ = some (.int .i64 n2) ∧ w'.cell? ⟨g, 5, none⟩ = some (.int .i64 n3) ∧ w'.cell? ⟨g, 6, none⟩ = some (.int .i64 p2) ∧ w'.cell? ⟨g, 7, none⟩ = some (.int .i64 p3) ∧ w'.cell? ⟨g, 10, none⟩ = some (.int .i64 p4) ∧ w'.cell? ⟨g, 11, none⟩ = some (.int .i64 p5) ∧ Below W2.heap.size W2 w') (exact sA X1.out (by repeat (first | exact Below.refl _ _ | assumption | refine bl_drew ?_ | refine bl_drewN ?_ _ | refine Below.setCell ?_ (by first | assumption | omega | (simp; done) | (simp; omega)) _ | refine Below.alloc ?_ (by first | assumption | omega | (simp; done) | (simp; omega)) _))) (first
      | (go_at_call 202; (first | (with_reducible refine (M1.out _ _ (HC.out.below (show Below W2.heap.size W2 _ by repeat (first | exact Below.refl _ _ | assumption | refine bl_drew ?_ | refine bl_drewN ?_ _ | refine Below.setCell ?_ (by first | assumption | omega | (simp; done) | (simp; omega)) _ | refine Below.alloc ?_ (by first | assumption | omega | (simp; done) | (simp; omega)) _)) HC.out.lt)).mono ?_) | (with_reducible refine (M2.out _ _ (HC.out.below (show Below W2.heap.size W2 _ by repeat (first | exact Below.refl _ _ | assumption | refine bl_drew ?_ | refine bl_drewN ?_ _ | refine Below.setCell ?_ (by first | assumption | omega | (simp; done) | (simp; omega)) _ | refine Below.alloc ?_ (by first | assumption | omega | (simp; done) | (simp; omega)) _)) HC.out.lt)).mono ?_) | (with_reducible refine (M3.out _ _ (HC.out.below (show Below W2.heap.size W2 _ by repeat (first | exact Below.refl _ _ | assumption | refine bl_drew ?_ | refine bl_drewN ?_ _ | refine Below.setCell ?_ (by first | assumption | omega | (simp; done) | (simp; omega)) _ | refine Below.alloc ?_ (by first | assumption | omega | (simp; done) | (simp; omega)) _)) HC.out.lt)).mono ?_)); rintro e w9 ⟨rfl, hb9⟩; have Z9 := (show Below W2.heap.size W2 _ by repeat (first | exact Below.refl _ _ | assumption | refine bl_drew ?_ | refine bl_drewN ?_ _ | refine Below.setCell ?_ (by first | assumption | omega | (simp; done) | (simp; omega)) _ | refine Below.alloc ?_ (by first | assumption | omega | (simp; done) | (simp; omega)) _)).trans (hb9.mono (by first | exact Nat.le_refl _ | (simp; done) | (simp; omega) | omega)); have z9 := Z9.size; obtain ⟨y0, y1, y2, y3, y4, y5, y6, y7, y8, y9, -⟩ := sA X1.out Z9; (first | (have NN := Lib.hid ((D2.new W2 0 0 97).drw.below hb9 (by simp)); have nn := NN.out; (try simp only [World.size_alloc, World.size_drew] at nn); obtain ⟨nt, m0, m1, nf0, nf1⟩ := nn) | (have NN := Lib.hid ((D2.new _ 0 0 97).below hb9 (by simp)); have nn := NN.out; (try simp only [World.size_alloc, World.size_drew] at nn); obtain ⟨nt, m0, m1, nf0, nf1⟩ := nn) | (have NN := Lib.hid (NN.out.below hb9 NN.out.lt); have nn := NN.out; (try simp only [World.size_alloc, World.size_drew] at nn); obtain ⟨nt, m0, m1, nf0, nf1⟩ := nn) | skip))
      | (go_at_call 244; (with_reducible refine (M4.out _ _ (HC.out.below (show Below W2.heap.size W2 _ by repeat (first | exact Below.refl _ _ | assumption | refine bl_drew ?_ | refine bl_drewN ?_ _ | refine Below.setCell ?_ (by first | assumption | omega | (simp; done) | (simp; omega)) _ | refine Below.alloc ?_ (by first | assumption | omega | (simp; done) | (simp; omega)) _)) HC.out.lt)).mono ?_); rintro e w9 ⟨rfl, hb9⟩; have Z9 := (show Below W2.heap.size W2 _ by repeat (first | exact Below.refl _ _ | assumption | refine bl_drew ?_ | refine bl_drewN ?_ _ | refine Below.setCell ?_ (by first | assumption | omega | (simp; done) | (simp; omega)) _ | refine Below.alloc ?_ (by first | assumption | omega | (simp; done) | (simp; omega)) _)).trans (hb9.mono (by first | exact Nat.le_refl _ | (simp; done) | (simp; omega) | omega)); have z9 := Z9.size; obtain ⟨y0, y1, y2, y3, y4, y5, y6, y7, y8, y9, -⟩ := sA X1.out Z9; (first | (have NN := Lib.hid ((D2.new W2 0 0 97).drw.below hb9 (by simp)); have nn := NN.out; (try simp only [World.size_alloc, World.size_drew] at nn); obtain ⟨nt, m0, m1, nf0, nf1⟩ := nn) | (have NN := Lib.hid ((D2.new _ 0 0 97).below hb9 (by simp)); have nn := NN.out; (try simp only [World.size_alloc, World.size_drew] at nn); obtain ⟨nt, m0, m1, nf0, nf1⟩ := nn) | (have NN := Lib.hid (NN.out.below hb9 NN.out.lt); have nn := NN.out; (try simp only [World.size_alloc, World.size_drew] at nn); obtain ⟨nt, m0, m1, nf0, nf1⟩ := nn) | skip))
      | fail)
    all_goals
      try go_wp2_with fail
      go_meet
      case rel =>
        have hl2 := HC.out.lt
        have hly := YY.out.lt
        have hZ := B4.out.trans (Z9.mono B4.out.size)
        first
          | exact ⟨_, rfl, D2.new w9 s0 s1 _, (HC.out.below Z9 HC.out.lt).alloc _, (TR4.out.below Z9 TR4.out.lt).alloc _, (YY.out.below Z9 YY.out.lt).alloc _, hZ.alloc hZ.size _⟩
          | exact ⟨_, rfl, (NN.out.set0 s0).set1 s1, ((HC.out.below Z9 HC.out.lt).far (by simp only []; omega) _).far (by simp only []; omega) _, ((TR4.out.below Z9 TR4.out.lt).far (by simp only []; omega) _).far (by simp only []; omega) _, ((YY.out.below Z9 YY.out.lt).far (by simp only []; omega) _).far (by simp only []; omega) _, (hZ.setCell (by simp only []; omega) _).setCell (by simp only []; omega) _⟩
          | (trace_state; fail)
  case rest =>
    obtain ⟨q, rfl, hD, hC, hR, hY, hB⟩ := hcut
    rename World => w5
    have R3 := Lib.hid hR
    have c0 : w5.cell? ⟨w.heap.size + 1 + 1, 0, none⟩ = some (.int .i64 0) := by rw [hC.cell 0]; rfl
    have cl := hC.lt
    clear hR X1 TR4 B4 M1 M2 M3 M4 YY
    obtain ⟨xt, xa, xb, xc, xd⟩ := hD
    obtain ⟨yt, ya, yb, yc, yd⟩ := hY
    go_wp2_with fail
    (with_reducible refine (KB.out _).mono ?_)
    rintro e w6 ⟨⟨r0, r1, rfl, hr0, hr1, hr2, hr3⟩, hb4⟩
    have B4 := hB.trans (hb4.mono hB.size)
    have R4 := R3.out.below hb4 R3.out.lt
    clear hb4 R3 xt xa xb xc xd yt ya yb yc yd hC hB c0
    obtain ⟨rt, ra, rb, rf0, rf1⟩ := R4
    go_wp2
    refine bodyPost_ret (v := .tuple #[.agg #[.int .i64 r0, .int .i64 r1], .int .i64 0]) (by simp [results, Tryz.results203, go_sem, ra, rb]; done) rfl ⟨⟨_, _, rfl, hr0, hr1, hr2, hr3⟩, ?_⟩
    exact (B4.setCell (by simp only []; omega) _).setCell (by simp only []; omega) _
end Go.Proofs.YtifdgdgfmjfbdaaGreat
namespace Go.Proofs.YtifdgdgfmjfbdaaGreat
open Go.RowKit
set_option maxHeartbeats 1000000 in
set_option maxRecDepth 100000 in
theorem Azimuth_yes (a b c : Int × Int) (w : World) (ha : -5400000 ≤ a.1 ∧ a.1 ≤ a.2 ∧ a.2 ≤ 5400000) (hb : -5400000 ≤ b.1 ∧ b.1 ≤ b.2 ∧ b.2 ≤ 5400000) (hc : avB c.1 c.2 = true) :
    Calls Tryz.prog 138 #[.agg #[.int .i64 a.1, .int .i64 a.2, .int .i64 b.1, .int .i64 b.2, .int .i64 c.1, .int .i64 c.2]] w fun e w' => BearA e ∧ Below w.heap.size w w' := by
  have KV := Lib.hid (fun W => cValid_yes a b c W ha hb hc)
  have KA := Lib.hid (fun W => azimuth_yes a b c W (avB_true.2 (by omega)) (avB_true.2 (by omega)) hc)
  obtain ⟨a0, a1⟩ := a
  obtain ⟨b0, b1⟩ := b
  obtain ⟨c0, c1⟩ := c
  simp only [] at KV KA ⊢
  clear ha hb hc
  have T1 := Lib.hid ((C6.new w a0 a1 b0 b1 c0 c1 92).below (bl_alloc _ (.cells #[.int .i64 0, .int .i64 0] 29)) (by simp))
  have TR : Hid (D2 ((w.alloc (.cells #[.int .i64 a0, .int .i64 a1, .int .i64 b0, .int .i64 b1, .int .i64 c0, .int .i64 c1] 92)).alloc (.cells #[.int .i64 0, .int .i64 0] 29)) (w.heap.size + 1) 0 0) := Lib.hid (by
    have := D2.new (w.alloc (.cells #[.int .i64 a0, .int .i64 a1, .int .i64 b0, .int .i64 b1, .int .i64 c0, .int .i64 c1] 92)) 0 0 29
    rwa [World.size_alloc] at this)
  have B0 := Lib.hid ((bl_alloc w (.cells #[.int .i64 a0, .int .i64 a1, .int .i64 b0, .int .i64 b1, .int .i64 c0, .int .i64 c1] 92)).alloc (by simp) (.cells #[.int .i64 0, .int .i64 0] 29))
  go_enter Tryz.func138, Tryz.ntmps138
  go_wp2_with fail
  (with_reducible refine (KV.out _).mono ?_)
  rintro e w1 ⟨rfl, hb1⟩
  have B1 := Lib.hid (B0.out.trans (hb1.mono B0.out.size))
  have T2 := Lib.hid (T1.out.below hb1 T1.out.lt)
  have R2 := Lib.hid (TR.out.below hb1 TR.out.lt)
  clear hb1 T1 B0 TR
  obtain ⟨tl, x0, x1, x2, x3, x4, x5⟩ := T2.out
  go_wp2_with fail
  (with_reducible refine (KA.out _).mono ?_)
  rintro e w2 ⟨⟨r0, r1, rfl, hr0, hr1, hr2, hr3⟩, hb2⟩
  have B2 := Lib.hid (B1.out.trans (hb2.mono B1.out.size))
  clear tl x0 x1 x2 x3 x4 x5
  obtain ⟨rt, ra, rb, rf0, rf1⟩ := R2.out.below hb2 R2.out.lt
  clear hb2
  go_wp2
  refine bodyPost_ret (v := .tuple #[.agg #[.int .i64 r0, .int .i64 r1], .int .i64 0]) (by simp [results, Tryz.results138, go_sem, ra, rb]; done) rfl ⟨⟨_, _, rfl, hr0, hr1, hr2, hr3⟩, ?_⟩
  exact (B2.out.setCell (by simp only []; omega) _).setCell (by simp only []; omega) _
/-- the altitude, and some azimuth -/
def SolR (h0 h1 : Int) (e : Ending) : Prop := ∃ lo hi : Int, e = .returned (.tuple #[.agg #[.int .i64 h0, .int .i64 h1, .int .i64 lo, .int .i64 hi], .int .i64 0]) ∧ 0 ≤ lo ∧ lo < 21600000 ∧ lo ≤ hi ∧ hi ≤ 43200000
set_option maxHeartbeats 2000000 in
set_option maxRecDepth 100000 in
theorem Solve_yes (a b c : Int × Int) (w : World) (ha : -5400000 ≤ a.1 ∧ a.1 ≤ a.2 ∧ a.2 ≤ 5400000) (hb : -5400000 ≤ b.1 ∧ b.1 ≤ b.2 ∧ b.2 ≤ 5400000) (hc : avB c.1 c.2 = true) (h3 : (Trig.sinT a b c).1 ≤ 1073741824) (h4 : -1073741824 ≤ (Trig.sinT a b c).2) :
    Calls Tryz.prog 72 #[.agg #[.int .i64 a.1, .int .i64 a.2, .int .i64 b.1, .int .i64 b.2, .int .i64 c.1, .int .i64 c.2]] w fun e w' => SolR (Trig.asnV (max (Trig.sinT a b c).1 (-1073741824))) (-Trig.asnV (-(min (Trig.sinT a b c).2 1073741824))) e ∧ Below w.heap.size w w' := by
  have KA := fun W => Altitude_yes a b c W ha hb hc h3 h4
  have KZ := fun W => Azimuth_yes a b c W ha hb hc
  generalize Trig.asnV (max (Trig.sinT a b c).1 (-1073741824)) = h0 at *
  generalize -Trig.asnV (-(min (Trig.sinT a b c).2 1073741824)) = h1 at *
  obtain ⟨a0, a1⟩ := a
  obtain ⟨b0, b1⟩ := b
  obtain ⟨c0, c1⟩ := c
  simp only [] at KA KZ ⊢
  have KA := Lib.hid KA
  have KZ := Lib.hid KZ
  clear ha hb hc h3 h4
  have T1 := Lib.hid ((C6.new w a0 a1 b0 b1 c0 c1 92).below (bl_alloc _ (.cells #[.int .i64 0, .int .i64 0, .int .i64 0, .int .i64 0] 122)) (by simp))
  have TR : Hid (Blk ((w.alloc (.cells #[.int .i64 a0, .int .i64 a1, .int .i64 b0, .int .i64 b1, .int .i64 c0, .int .i64 c1] 92)).alloc (.cells #[.int .i64 0, .int .i64 0, .int .i64 0, .int .i64 0] 122)) (w.heap.size + 1) 122 #[.int .i64 0, .int .i64 0, .int .i64 0, .int .i64 0]) := Lib.hid (by
    have := Blk.new (w.alloc (.cells #[.int .i64 a0, .int .i64 a1, .int .i64 b0, .int .i64 b1, .int .i64 c0, .int .i64 c1] 92)) 122 #[.int .i64 0, .int .i64 0, .int .i64 0, .int .i64 0]
    rwa [World.size_alloc] at this)
  have B0 := Lib.hid ((bl_alloc w (.cells #[.int .i64 a0, .int .i64 a1, .int .i64 b0, .int .i64 b1, .int .i64 c0, .int .i64 c1] 92)).alloc (by simp) (.cells #[.int .i64 0, .int .i64 0, .int .i64 0, .int .i64 0] 122))
  go_enter Tryz.func72, Tryz.ntmps72
  go_upto_region 1 with (fail)
  generalize (w.alloc (.cells #[.int .i64 a0, .int .i64 a1, .int .i64 b0, .int .i64 b1, .int .i64 c0, .int .i64 c1] 92)).alloc (.cells #[.int .i64 0, .int .i64 0, .int .i64 0, .int .i64 0] 122) = w0 at T1 TR B0 ⊢
  obtain ⟨tl, x0, x1, x2, x3, x4, x5⟩ := T1.out
  go_wp2_with fail
  (with_reducible refine (KA.out _).mono ?_)
  rintro e w1 ⟨rfl, hb1⟩
  have hb1a := hb1.alloc hb1.size (.cells #[.int .i64 h0, .int .i64 h1] 29)
  have B1 := Lib.hid (B0.out.trans (hb1a.mono B0.out.size))
  have T2 := Lib.hid (T1.out.below hb1a T1.out.lt)
  have R2 := Lib.hid (TR.out.below hb1a TR.out.lt)
  have H2 := Lib.hid (D2.new w1 h0 h1 29)
  have hg1 : w.heap.size + 1 < w1.heap.size := (TR.out.below hb1 TR.out.lt).lt
  clear hb1 hb1a T1 B0 TR tl x0 x1 x2 x3 x4 x5
  go_upto_region 4 with (fail)
  generalize w1.alloc (.cells #[.int .i64 h0, .int .i64 h1] 29) = w2 at T2 R2 H2 B1 ⊢
  generalize w1.heap.size = g1 at H2 hg1 ⊢
  obtain ⟨tl, x0, x1, x2, x3, x4, x5⟩ := T2.out
  go_wp2_with fail
  (with_reducible refine (KZ.out _).mono ?_)
  rintro e w3 ⟨⟨z0, z1, rfl, hr0, hr1, hr2, hr3⟩, hb3⟩
  have hb3a := hb3.alloc hb3.size (.cells #[.int .i64 z0, .int .i64 z1] 29)
  have B3 := Lib.hid (B1.out.trans (hb3a.mono B1.out.size))
  have R3 := Lib.hid (R2.out.below hb3a R2.out.lt)
  have H3 := Lib.hid (H2.out.below hb3a H2.out.lt)
  have Z3 := Lib.hid (D2.new w3 z0 z1 29)
  have hg3 : g1 < w3.heap.size := (H2.out.below hb3 H2.out.lt).lt
  clear hb3 hb3a T2 B1 R2 H2 tl x0 x1 x2 x3 x4 x5 KA KZ
  go_upto_region 5 with (fail)
  generalize w3.alloc (.cells #[.int .i64 z0, .int .i64 z1] 29) = w4 at R3 H3 Z3 B3 ⊢
  generalize w3.heap.size = g3 at Z3 hg3 ⊢
  obtain ⟨ht, ha, hb, hf0, hf1⟩ := H3.out
  obtain ⟨zt, za, zb, zf0, zf1⟩ := Z3.out
  have r0 := fun i => R3.out.cell i
  have f0 := fun i => R3.out.frozen i
  have rl := R3.out.lt
  have E4 := Lib.hid (blk4 R3.out (.int .i64 h0) (.int .i64 h1) (.int .i64 z0) (.int .i64 z1))
  have B4 := Lib.hid (bl_put4' (g := w.heap.size + 1) B3.out (Nat.le_succ _) (.int .i64 h0) (.int .i64 h1) (.int .i64 z0) (.int .i64 z1))
  go_wp2
  generalize ((((w4.setCell ⟨w.heap.size + 1, 0, none⟩ (.int .i64 h0)).setCell ⟨w.heap.size + 1, 1, none⟩ (.int .i64 h1)).setCell ⟨w.heap.size + 1, 2, none⟩ (.int .i64 z0)).setCell ⟨w.heap.size + 1, 3, none⟩ (.int .i64 z1)) = w5 at E4 B4 ⊢
  have e0 := E4.out.cell 0
  have e1 := E4.out.cell 1
  have e2 := E4.out.cell 2
  have e3 := E4.out.cell 3
  simp at e0 e1 e2 e3
  exact bodyPost_ret (v := .tuple #[.agg #[.int .i64 h0, .int .i64 h1, .int .i64 z0, .int .i64 z1], .int .i64 0]) (by simp [results, Tryz.results72, go_sem, e0, e1, e2, e3]) rfl ⟨⟨_, _, rfl, hr0, hr1, hr2, hr3⟩, B4.out⟩
end Go.Proofs.YtifdgdgfmjfbdaaGreat
namespace Go.Proofs.YtifdgdgfmjfbdaaGreat
open Go.RowKit
set_option maxHeartbeats 1000000 in
set_option maxRecDepth 100000 in
theorem angNeg_yes (x : Int × Int) (hx : ArcS x) (w : World) : Calls Tryz.prog 204 #[.agg #[.int .i64 x.1, .int .i64 x.2]] w fun e w' => e = .returned (.tuple #[.agg #[.int .i64 (-x.2), .int .i64 (-x.1)], .int .i64 0]) ∧ Below w.heap.size w w' := by
  obtain ⟨x0, x1⟩ := x
  obtain ⟨a0, a1, a2⟩ := hx
  simp only [] at a0 a1 a2 ⊢
  have KX := fun W => aVal_any x0 x1 W
  rw [avB_true.2 (by omega)] at KX
  have KX := Lib.hid KX
  have KR := Lib.hid (fun W => result_yes (-x1) (-x0) W (by unfold rchB; exact decide_eq_true (by omega)) (by unfold rchB; exact decide_eq_true (by omega)))
  have n0 : wrap64 (-x0) = -x0 := IntWalk.wrap64_in _ (by omega)
  have n1 : wrap64 (-x1) = -x1 := IntWalk.wrap64_in _ (by omega)
  have T1 := Lib.hid ((D2.new w x0 x1 29).below (bl_alloc _ (.cells #[.int .i64 0, .int .i64 0] 29)) (by simp))
  have TR : Hid (D2 ((w.alloc (.cells #[.int .i64 x0, .int .i64 x1] 29)).alloc (.cells #[.int .i64 0, .int .i64 0] 29)) (w.heap.size + 1) 0 0) := Lib.hid (by
    have := D2.new (w.alloc (.cells #[.int .i64 x0, .int .i64 x1] 29)) 0 0 29
    rwa [World.size_alloc] at this)
  have B0 := Lib.hid ((bl_alloc w (.cells #[.int .i64 x0, .int .i64 x1] 29)).alloc (by simp) (.cells #[.int .i64 0, .int .i64 0] 29))
  clear a0 a1 a2
  go_enter Tryz.func204, Tryz.ntmps204
  go_wp2_with fail
  (with_reducible refine (KX.out _).mono ?_)
  rintro e w1 ⟨rfl, hb1⟩
  have B1 := Lib.hid (B0.out.trans (hb1.mono B0.out.size))
  have R1 := Lib.hid (TR.out.below hb1 TR.out.lt)
  obtain ⟨tl, y0, y1, yf0, yf1⟩ := T1.out.below hb1 T1.out.lt
  clear hb1 T1 TR B0
  go_wp2_with fail
  (with_reducible refine (KR.out _).mono ?_)
  rintro e w2 ⟨rfl, hb2⟩
  have B2 := Lib.hid (B1.out.trans (hb2.mono B1.out.size))
  obtain ⟨rt, ra, rb, rf0, rf1⟩ := R1.out.below hb2 R1.out.lt
  clear hb2 tl y0 y1 yf0 yf1 B1 R1
  go_wp2
  refine bodyPost_ret (v := .tuple #[.agg #[.int .i64 (-x1), .int .i64 (-x0)], .int .i64 0]) (by simp [results, Tryz.results204, go_sem, ra, rb]; done) rfl ⟨rfl, ?_⟩
  exact (B2.out.setCell (by simp only []; omega) _).setCell (by simp only []; omega) _
set_option maxHeartbeats 1000000 in
set_option maxRecDepth 100000 in
theorem angSub_yes (x y : Int × Int) (hx : ArcS x) (hy : ArcS y) (w : World) : Calls Tryz.prog 139 #[.agg #[.int .i64 x.1, .int .i64 x.2], .agg #[.int .i64 y.1, .int .i64 y.2]] w fun e w' => e = .returned (.tuple #[.agg #[.int .i64 (subP x y).1, .int .i64 (subP x y).2], .int .i64 0]) ∧ Below w.heap.size w w' := by
  have KN := fun W => angNeg_yes y hy W
  have KA := fun W => angAdd_yes x (-y.2, -y.1) hx (by obtain ⟨h0, h1, h2⟩ := hy; exact ⟨by simp only []; omega, by simp only []; omega, by simp only []; omega⟩) W
  have e1 : (Trig.addP x (-y.2, -y.1)).1 = (subP x y).1 := by simp only [Trig.addP, subP]; omega
  have e2 : (Trig.addP x (-y.2, -y.1)).2 = (subP x y).2 := by simp only [Trig.addP, subP]; omega
  rw [e1, e2] at KA
  clear e1 e2
  obtain ⟨⟨s0, s1⟩, hs⟩ : ∃ z, subP x y = z := ⟨_, rfl⟩
  rw [hs] at KA ⊢
  clear hs hx hy
  obtain ⟨x0, x1⟩ := x
  obtain ⟨y0, y1⟩ := y
  simp only [] at KN KA ⊢
  have KN := Lib.hid KN
  have KA := Lib.hid KA
  have X0 := Lib.hid (((D2.new w x0 x1 29).alloc (.cells #[.int .i64 y0, .int .i64 y1] 29)).alloc (.cells #[.int .i64 0, .int .i64 0] 29))
  have yy := (D2.new (w.alloc (.cells #[.int .i64 x0, .int .i64 x1] 29)) y0 y1 29).alloc (.cells #[.int .i64 0, .int .i64 0] 29)
  have zz := D2.new ((w.alloc (.cells #[.int .i64 x0, .int .i64 x1] 29)).alloc (.cells #[.int .i64 y0, .int .i64 y1] 29)) 0 0 29
  rw [World.size_alloc] at yy
  rw [World.size_alloc, World.size_alloc] at zz
  have Y0 := Lib.hid yy
  have Z0 := Lib.hid zz
  have B0 := Lib.hid (((bl_alloc w (.cells #[.int .i64 x0, .int .i64 x1] 29)).alloc (by simp) (.cells #[.int .i64 y0, .int .i64 y1] 29)).alloc (by simp; omega) (.cells #[.int .i64 0, .int .i64 0] 29))
  clear yy zz
  go_enter Tryz.func139, Tryz.ntmps139
  go_wp2_with fail
  (with_reducible refine (KN.out _).mono ?_)
  rintro e w1 ⟨rfl, hb1⟩
  have hb1a := hb1.alloc hb1.size (.cells #[.int .i64 (-y1), .int .i64 (-y0)] 29)
  have N1 := Lib.hid (D2.new w1 (-y1) (-y0) 29)
  have X1 := Lib.hid (X0.out.below hb1a X0.out.lt)
  have Z1 := Lib.hid (Z0.out.below hb1a Z0.out.lt)
  have B1 := Lib.hid (B0.out.trans (hb1a.mono B0.out.size))
  have hg1 : w.heap.size + 1 + 1 < w1.heap.size := (Z0.out.below hb1 Z0.out.lt).lt
  clear hb1 hb1a X0 Y0 Z0 B0
  go_upto_region 4 with (fail)
  generalize w1.alloc (.cells #[.int .i64 (-y1), .int .i64 (-y0)] 29) = w2 at N1 X1 Z1 B1 ⊢
  generalize w1.heap.size = g1 at N1 hg1 ⊢
  obtain ⟨xt, x2, x3, -, -⟩ := X1.out
  obtain ⟨nt, n2, n3, -, -⟩ := N1.out
  go_wp2_with fail
  (with_reducible refine (KA.out _).mono ?_)
  rintro e w3 ⟨rfl, hb3⟩
  have B3 := Lib.hid (B1.out.trans (hb3.mono B1.out.size))
  obtain ⟨zt, z0, z1, zf0, zf1⟩ := Z1.out.below hb3 Z1.out.lt
  clear hb3 Z1 B1 xt x2 x3 nt n2 n3
  go_wp2
  refine bodyPost_ret (v := .tuple #[.agg #[.int .i64 s0, .int .i64 s1], .int .i64 0]) (by simp [results, Tryz.results139, go_sem, z0, z1]; done) rfl ⟨rfl, ?_⟩
  exact (B3.out.setCell (by simp only []; omega) _).setCell (by simp only []; omega) _
set_option maxHeartbeats 1000000 in
theorem right_any (w : World) : Calls Tryz.prog 74 #[] w fun e w' => e = .returned (.agg #[.int .i64 5400000, .int .i64 5400000]) ∧ Below w.heap.size w w' := by
  go_enter Tryz.func74, Tryz.ntmps74
  go_wp2
  refine bodyPost_ret (v := .agg #[.int .i64 5400000, .int .i64 5400000]) (by simp [results, Tryz.results74, go_sem]) rfl ⟨rfl, ?_⟩
  repeat (first | exact Below.refl _ _ | assumption | refine bl_drew ?_ | refine bl_drewN ?_ _ | refine Below.setCell ?_ (by first | assumption | omega | (simp; done) | (simp; omega)) _ | refine Below.alloc ?_ (by first | assumption | omega | (simp; done) | (simp; omega)) _)
set_option maxHeartbeats 1000000 in
set_option maxRecDepth 100000 in
theorem kless_any (g : Nat) (x y : Int × Int) (w : World) (hx : ArcS x) (hy : ArcS y) (h : Blk w g 96 #[.int .i64 0]) :
    Calls Tryz.prog 73 #[.pointer (some ⟨g, 0, none⟩), .agg #[.int .i64 x.1, .int .i64 x.2], .agg #[.int .i64 y.1, .int .i64 y.2]] w fun e w' => e = .returned (.agg #[.int .i64 (subP x y).1, .int .i64 (subP x y).2]) ∧ Below w.heap.size w w' := by
  have KS := Lib.hid (fun W => angSub_yes x y hx hy W)
  have KK := Lib.hid (fun (lo hi : Int) (W : World) (h : Blk W g 96 #[.int .i64 0]) => keptA_any g lo hi W h)
  obtain ⟨⟨s0, s1⟩, hs⟩ : ∃ z, (subP x y) = z := ⟨_, rfl⟩
  rw [hs] at KS ⊢
  simp only [] at KS ⊢
  clear hs
  have hg := h.lt
  have H0 := Lib.hid (((h.alloc (.cells #[.int .i64 x.1, .int .i64 x.2] 29)).alloc (.cells #[.int .i64 y.1, .int .i64 y.2] 29)).alloc (.cells #[.int .i64 0, .int .i64 0] 29))
  have T0 : Hid (D2 (((w.alloc (.cells #[.int .i64 x.1, .int .i64 x.2] 29)).alloc (.cells #[.int .i64 y.1, .int .i64 y.2] 29)).alloc (.cells #[.int .i64 0, .int .i64 0] 29)) (w.heap.size + 1 + 1) 0 0) := Lib.hid (by
    have := D2.new ((w.alloc (.cells #[.int .i64 x.1, .int .i64 x.2] 29)).alloc (.cells #[.int .i64 y.1, .int .i64 y.2] 29)) 0 0 29
    rwa [World.size_alloc, World.size_alloc] at this)
  have B0 := Lib.hid (((bl_alloc w (.cells #[.int .i64 x.1, .int .i64 x.2] 29)).alloc (by simp) (.cells #[.int .i64 y.1, .int .i64 y.2] 29)).alloc (by simp; omega) (.cells #[.int .i64 0, .int .i64 0] 29))
  clear h
  go_enter Tryz.func73, Tryz.ntmps73
  go_wp2_with fail
  (with_reducible refine (KS.out _).mono ?_)
  rintro e w1 ⟨rfl, hb1⟩
  have H1 := Lib.hid ((H0.out.below hb1 H0.out.lt).alloc (.cells #[.int .i64 s0, .int .i64 s1] 29))
  have T1 := Lib.hid ((T0.out.below hb1 T0.out.lt).alloc (.cells #[.int .i64 s0, .int .i64 s1] 29))
  have B1 := Lib.hid ((B0.out.trans (hb1.mono B0.out.size)).alloc (by have := B0.out.size; have := hb1.size; omega) (.cells #[.int .i64 s0, .int .i64 s1] 29))
  clear hb1 H0 T0 B0
  go_wp2_with fail
  (with_reducible refine (KK.out _ _ _ H1.out).mono ?_)
  rintro e w2 ⟨rfl, hb2⟩
  have T2 := Lib.hid (T1.out.below hb2 T1.out.lt)
  have B2 := Lib.hid (B1.out.trans (hb2.mono B1.out.size))
  obtain ⟨zt, z0, z1, zf0, zf1⟩ := T2.out
  go_wp2
  refine bodyPost_ret (v := .agg #[.int .i64 s0, .int .i64 s1]) (by simp [results, Tryz.results73, go_sem, *]; done) rfl ⟨rfl, ?_⟩
  exact (B2.out.setCell (by simp only []; omega) _).setCell (by simp only []; omega) _
end Go.Proofs.YtifdgdgfmjfbdaaGreat
