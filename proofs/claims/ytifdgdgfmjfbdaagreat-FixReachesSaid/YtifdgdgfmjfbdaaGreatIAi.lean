/- The walks of cosine.Altitude and of the reference's Altitude at a valid triangle. -/
import Derived.Test.YtifdgdgfmjfbdaaGreatIVi
import Derived.Test.YtifdgdgfmjfbdaaGreatIUk
import Derived.Test.YtifdgdgfmjfbdaaGreatIBase
import Derived.Test.YtifdgdgfmjfbdaaGreatIJc
set_option linter.unusedVariables false
set_option linter.unusedSimpArgs false
namespace Go.Proofs.YtifdgdgfmjfbdaaGreat
open Go.RowKit
theorem blk12 {W : World} {g : Nat} {t : TypeId} {z : Value} (h : Blk W g t #[z, z, z, z, z, z, z, z, z, z, z, z]) (u0 u1 u2 u3 u4 u5 u6 u7 u8 u9 u10 u11 : Value) : Blk ((((((((((((W.setCell ⟨g, 0, none⟩ u0).setCell ⟨g, 1, none⟩ u1).setCell ⟨g, 2, none⟩ u2).setCell ⟨g, 3, none⟩ u3).setCell ⟨g, 4, none⟩ u4).setCell ⟨g, 5, none⟩ u5).setCell ⟨g, 6, none⟩ u6).setCell ⟨g, 7, none⟩ u7).setCell ⟨g, 8, none⟩ u8).setCell ⟨g, 9, none⟩ u9).setCell ⟨g, 10, none⟩ u10).setCell ⟨g, 11, none⟩ u11) g t #[u0, u1, u2, u3, u4, u5, u6, u7, u8, u9, u10, u11] := by
  have := ((((((((((((h.set_ 0 u0).set_ 1 u1).set_ 2 u2).set_ 3 u3).set_ 4 u4).set_ 5 u5).set_ 6 u6).set_ 7 u7).set_ 8 u8).set_ 9 u9).set_ 10 u10).set_ 11 u11)
  simp only [List.setIfInBounds_toArray, List.set_cons_zero, List.set_cons_succ] at this
  exact this
theorem bl12 {B : Nat} {a w : World} {g : Nat} (h : Below B a w) (hg : B ≤ g) (u0 u1 u2 u3 u4 u5 u6 u7 u8 u9 u10 u11 : Value) : Below B a ((((((((((((w.setCell ⟨g, 0, none⟩ u0).setCell ⟨g, 1, none⟩ u1).setCell ⟨g, 2, none⟩ u2).setCell ⟨g, 3, none⟩ u3).setCell ⟨g, 4, none⟩ u4).setCell ⟨g, 5, none⟩ u5).setCell ⟨g, 6, none⟩ u6).setCell ⟨g, 7, none⟩ u7).setCell ⟨g, 8, none⟩ u8).setCell ⟨g, 9, none⟩ u9).setCell ⟨g, 10, none⟩ u10).setCell ⟨g, 11, none⟩ u11) :=
  ((((((((((((h.setCell hg u0).setCell hg u1).setCell hg u2).setCell hg u3).setCell hg u4).setCell hg u5).setCell hg u6).setCell hg u7).setCell hg u8).setCell hg u9).setCell hg u10).setCell hg u11)
set_option maxHeartbeats 4000000 in
set_option maxRecDepth 100000 in
theorem of_any (g : Nat) (a b c : Int × Int) (w : World) (ha : avB a.1 a.2 = true) (hb : avB b.1 b.2 = true) (hc : avB c.1 c.2 = true) (h : Blk w g 214 #[.int .i64 0]) :
    Calls Tryz.prog 200 #[.pointer (some ⟨g, 0, none⟩), .agg #[.int .i64 a.1, .int .i64 a.2, .int .i64 b.1, .int .i64 b.2, .int .i64 c.1, .int .i64 c.2]] w fun e w' => e = .returned (.agg #[.int .i64 (Trig.snP a).1, .int .i64 (Trig.snP a).2, .int .i64 (Trig.csP a).1, .int .i64 (Trig.csP a).2, .int .i64 (Trig.snP b).1, .int .i64 (Trig.snP b).2, .int .i64 (Trig.csP b).1, .int .i64 (Trig.csP b).2, .int .i64 (Trig.snP c).1, .int .i64 (Trig.snP c).2, .int .i64 (Trig.csP c).1, .int .i64 (Trig.csP c).2]) ∧ Below w.heap.size w w' := by
  have K1 := Lib.hid (fun W h => csin_any g a W ha h)
  have K2 := Lib.hid (fun W h => ccos_any g a W ha h)
  have K3 := Lib.hid (fun W h => csin_any g b W hb h)
  have K4' := Lib.hid (fun W h => ccos_any g b W hb h)
  have K5 := Lib.hid (fun W h => csin_any g c W hc h)
  have K6 := Lib.hid (fun W h => ccos_any g c W hc h)
  generalize (Trig.snP a).1 = n0 at *
  generalize (Trig.snP a).2 = n1 at *
  generalize (Trig.csP a).1 = p0 at *
  generalize (Trig.csP a).2 = p1 at *
  generalize (Trig.snP b).1 = n2 at *
  generalize (Trig.snP b).2 = n3 at *
  generalize (Trig.csP b).1 = p2 at *
  generalize (Trig.csP b).2 = p3 at *
  generalize (Trig.snP c).1 = n4 at *
  generalize (Trig.snP c).2 = n5 at *
  generalize (Trig.csP c).1 = p4 at *
  generalize (Trig.csP c).2 = p5 at *
  obtain ⟨a0, a1⟩ := a
  obtain ⟨b0, b1⟩ := b
  obtain ⟨c0, c1⟩ := c
  simp only [] at K1 K2 K3 K4' K5 K6 ⊢
  clear ha hb hc
  have hg := h.lt
  have H := Lib.hid ((h.alloc (.cells #[.int .i64 a0, .int .i64 a1, .int .i64 b0, .int .i64 b1, .int .i64 c0, .int .i64 c1] 92)).alloc (.cells #[.int .i64 0, .int .i64 0, .int .i64 0, .int .i64 0, .int .i64 0, .int .i64 0, .int .i64 0, .int .i64 0, .int .i64 0, .int .i64 0, .int .i64 0, .int .i64 0] 216))
  clear h
  go_enter Tryz.func200, Tryz.ntmps200
  go_upto_region 1 with (fail)
  have T1 := Lib.hid ((C6.new w a0 a1 b0 b1 c0 c1 92).below (bl_alloc _ (.cells #[.int .i64 0, .int .i64 0, .int .i64 0, .int .i64 0, .int .i64 0, .int .i64 0, .int .i64 0, .int .i64 0, .int .i64 0, .int .i64 0, .int .i64 0, .int .i64 0] 216)) (by simp))
  have T2 : Hid (Blk ((w.alloc (.cells #[.int .i64 a0, .int .i64 a1, .int .i64 b0, .int .i64 b1, .int .i64 c0, .int .i64 c1] 92)).alloc (.cells #[.int .i64 0, .int .i64 0, .int .i64 0, .int .i64 0, .int .i64 0, .int .i64 0, .int .i64 0, .int .i64 0, .int .i64 0, .int .i64 0, .int .i64 0, .int .i64 0] 216)) (w.heap.size + 1) 216 #[.int .i64 0, .int .i64 0, .int .i64 0, .int .i64 0, .int .i64 0, .int .i64 0, .int .i64 0, .int .i64 0, .int .i64 0, .int .i64 0, .int .i64 0, .int .i64 0]) := Lib.hid (by
    have := Blk.new (w.alloc (.cells #[.int .i64 a0, .int .i64 a1, .int .i64 b0, .int .i64 b1, .int .i64 c0, .int .i64 c1] 92)) 216 #[.int .i64 0, .int .i64 0, .int .i64 0, .int .i64 0, .int .i64 0, .int .i64 0, .int .i64 0, .int .i64 0, .int .i64 0, .int .i64 0, .int .i64 0, .int .i64 0]
    rwa [World.size_alloc] at this)
  have B0 := Lib.hid ((bl_alloc w (.cells #[.int .i64 a0, .int .i64 a1, .int .i64 b0, .int .i64 b1, .int .i64 c0, .int .i64 c1] 92)).alloc (by simp) (.cells #[.int .i64 0, .int .i64 0, .int .i64 0, .int .i64 0, .int .i64 0, .int .i64 0, .int .i64 0, .int .i64 0, .int .i64 0, .int .i64 0, .int .i64 0, .int .i64 0] 216))
  generalize (w.alloc (.cells #[.int .i64 a0, .int .i64 a1, .int .i64 b0, .int .i64 b1, .int .i64 c0, .int .i64 c1] 92)).alloc (.cells #[.int .i64 0, .int .i64 0, .int .i64 0, .int .i64 0, .int .i64 0, .int .i64 0, .int .i64 0, .int .i64 0, .int .i64 0, .int .i64 0, .int .i64 0, .int .i64 0] 216) = W0 at *
  have hn1 : ¬ w.heap.size + 1 = w.heap.size := by omega
  have hn2 : ¬ w.heap.size = w.heap.size + 1 := by omega
  obtain ⟨tl, x0, x1, x2, x3, x4, x5⟩ := T1.out
  go_region_held3 (fun w' => w'.cell? ⟨w.heap.size, 0, none⟩ = some (.int .i64 a0) ∧ w'.cell? ⟨w.heap.size, 1, none⟩ = some (.int .i64 a1) ∧ w'.cell? ⟨w.heap.size, 2, none⟩ = some (.int .i64 b0) ∧ w'.cell? ⟨w.heap.size, 3, none⟩ = some (.int .i64 b1) ∧ w'.cell? ⟨w.heap.size, 4, none⟩ = some (.int .i64 c0) ∧ w'.cell? ⟨w.heap.size, 5, none⟩ = some (.int .i64 c1)) (simp [*, World.cell?_setCell_other]) (first
    | ((first | go_at_call 240 | go_at_call 241); (first | (with_reducible refine (K1.out _ (by first | exact H.out | exact H.out.drew)).mono ?_) | (with_reducible refine (K2.out _ (by first | exact H.out | exact H.out.drew)).mono ?_) | (with_reducible refine (K3.out _ (by first | exact H.out | exact H.out.drew)).mono ?_) | (with_reducible refine (K4'.out _ (by first | exact H.out | exact H.out.drew)).mono ?_) | (with_reducible refine (K5.out _ (by first | exact H.out | exact H.out.drew)).mono ?_) | (with_reducible refine (K6.out _ (by first | exact H.out | exact H.out.drew)).mono ?_)); rintro e w9 ⟨rfl, hb9⟩; (first | (replace hb9 := first_b hb9) | skip); have B0 := Lib.hid (B0.out.trans (hb9.mono B0.out.size)); have T1 := Lib.hid (T1.out.below hb9 T1.out.lt); have T2 := Lib.hid (T2.out.below hb9 T2.out.lt); have H := Lib.hid (H.out.below hb9 H.out.lt); clear hb9; clear x0 x1 x2 x3 x4 x5 tl; obtain ⟨tl, x0, x1, x2, x3, x4, x5⟩ := T1.out; have z9 := fun i => T2.out.cell i; have f9 := fun i => T2.out.frozen i)
    | fail)
  all_goals
    have hB := B0.out
    have HZ := Lib.hid T2.out
    clear x0 x1 x2 x3 x4 x5 tl K1 K2 K3 K4' K5 K6 T1 H
    go_wp2
    clear z9 f9
    generalize hW : World.setCell _ (⟨w.heap.size + 1, 11, none⟩ : Addr) _ = W12
    have TB : Blk W12 (w.heap.size + 1) 216 #[.int .i64 n0, .int .i64 n1, .int .i64 p0, .int .i64 p1, .int .i64 n2, .int .i64 n3, .int .i64 p2, .int .i64 p3, .int .i64 n4, .int .i64 n5, .int .i64 p4, .int .i64 p5] := by
      rw [← hW]
      with_reducible exact blk12 HZ.out _ _ _ _ _ _ _ _ _ _ _ _
    have hBW : Below w.heap.size w W12 := by
      rw [← hW]
      with_reducible exact bl12 hB (Nat.le_succ _) _ _ _ _ _ _ _ _ _ _ _ _
    have z := fun i => TB.cell i
    clear hW hB HZ TB
    have r0 : W12.cell? ⟨w.heap.size + 1, 0, none⟩ = some (.int .i64 n0) := z 0
    have r1 : W12.cell? ⟨w.heap.size + 1, 1, none⟩ = some (.int .i64 n1) := z 1
    have r2 : W12.cell? ⟨w.heap.size + 1, 2, none⟩ = some (.int .i64 p0) := z 2
    have r3 : W12.cell? ⟨w.heap.size + 1, 3, none⟩ = some (.int .i64 p1) := z 3
    have r4 : W12.cell? ⟨w.heap.size + 1, 4, none⟩ = some (.int .i64 n2) := z 4
    have r5 : W12.cell? ⟨w.heap.size + 1, 5, none⟩ = some (.int .i64 n3) := z 5
    have r6 : W12.cell? ⟨w.heap.size + 1, 6, none⟩ = some (.int .i64 p2) := z 6
    have r7 : W12.cell? ⟨w.heap.size + 1, 7, none⟩ = some (.int .i64 p3) := z 7
    have r8 : W12.cell? ⟨w.heap.size + 1, 8, none⟩ = some (.int .i64 n4) := z 8
    have r9 : W12.cell? ⟨w.heap.size + 1, 9, none⟩ = some (.int .i64 n5) := z 9
    have r10 : W12.cell? ⟨w.heap.size + 1, 10, none⟩ = some (.int .i64 p4) := z 10
    have r11 : W12.cell? ⟨w.heap.size + 1, 11, none⟩ = some (.int .i64 p5) := z 11
    clear z
    refine bodyPost_ret (v := .agg #[.int .i64 n0, .int .i64 n1, .int .i64 p0, .int .i64 p1, .int .i64 n2, .int .i64 n3, .int .i64 p2, .int .i64 p3, .int .i64 n4, .int .i64 n5, .int .i64 p4, .int .i64 p5]) ?_ rfl ⟨rfl, hBW⟩
    clear hBW
    simp [results, Tryz.results200, go_sem, r0, r1, r2, r3, r4, r5, r6, r7, r8, r9, r10, r11]
end Go.Proofs.YtifdgdgfmjfbdaaGreat
namespace Go.Proofs.YtifdgdgfmjfbdaaGreat
open Go.RowKit
theorem D2.drw {W : World} {g : Nat} {a b : Int} (h : D2 W g a b) : D2 W.drew g a b := ⟨h.lt, h.c0, h.c1, h.f0, h.f1⟩
/-- ten cells of the sines and cosines of a triangle, and what was there -/
theorem sA {W2 w' : World} {g : Nat} {t : TypeId} {n0 n1 p0 p1 n2 n3 p2 p3 n4 n5 p4 p5 : Int} (h : Blk W2 g t #[.int .i64 n0, .int .i64 n1, .int .i64 p0, .int .i64 p1, .int .i64 n2, .int .i64 n3, .int .i64 p2, .int .i64 p3, .int .i64 n4, .int .i64 n5, .int .i64 p4, .int .i64 p5]) (hb : Below W2.heap.size W2 w') :
    w'.cell? ⟨g, 0, none⟩ = some (.int .i64 n0) ∧ w'.cell? ⟨g, 1, none⟩ = some (.int .i64 n1) ∧ w'.cell? ⟨g, 2, none⟩ = some (.int .i64 p0) ∧ w'.cell? ⟨g, 3, none⟩ = some (.int .i64 p1) ∧ w'.cell? ⟨g, 4, none⟩ = some (.int .i64 n2) ∧ w'.cell? ⟨g, 5, none⟩ = some (.int .i64 n3) ∧ w'.cell? ⟨g, 6, none⟩ = some (.int .i64 p2) ∧ w'.cell? ⟨g, 7, none⟩ = some (.int .i64 p3) ∧ w'.cell? ⟨g, 10, none⟩ = some (.int .i64 p4) ∧ w'.cell? ⟨g, 11, none⟩ = some (.int .i64 p5) ∧ Below W2.heap.size W2 w' := by
  have k := h.below hb h.lt
  exact ⟨k.cell 0, k.cell 1, k.cell 2, k.cell 3, k.cell 4, k.cell 5, k.cell 6, k.cell 7, k.cell 10, k.cell 11, hb⟩
set_option maxHeartbeats 4000000 in
set_option maxRecDepth 100000 in
theorem altitude_yes (a b c : Int × Int) (w : World) (ha : avB a.1 a.2 = true) (hb : avB b.1 b.2 = true) (hc : avB c.1 c.2 = true) (h3 : (Trig.sinT a b c).1 ≤ 1073741824) (h4 : -1073741824 ≤ (Trig.sinT a b c).2) :
    Calls Tryz.prog 137 #[.agg #[.int .i64 a.1, .int .i64 a.2, .int .i64 b.1, .int .i64 b.2, .int .i64 c.1, .int .i64 c.2]] w fun e w' => e = .returned (.tuple #[.agg #[.int .i64 (Trig.asnV (max (Trig.sinT a b c).1 (-1073741824))), .int .i64 (-Trig.asnV (-(min (Trig.sinT a b c).2 1073741824)))], .int .i64 0]) ∧ Below w.heap.size w w' := by
  have hf := Trig.sinT_fv a b c
  have KA := fun W => Asin_yes (Trig.sinT a b c).1 (Trig.sinT a b c).2 W hf.1 hf.2.1 hf.2.2 h3 h4
  have KO := fun (g : Nat) (W : World) h => of_any g a b c W ha hb hc h
  have M1 := fun (g : Nat) (W : World) h => cmul_any g (Trig.snP a) (Trig.snP b) W (Trig.snP_small a) (Trig.snP_small b) h
  have M2 := fun (g : Nat) (W : World) h => cmul_any g (Trig.csP a) (Trig.csP b) W (Trig.csP_small a) (Trig.csP_small b) h
  have M3 := fun (g : Nat) (W : World) h => cmul_any g (Trig.mulP (Trig.csP a) (Trig.csP b)) (Trig.csP c) W (Trig.mulP_small (Trig.csP_small a) (Trig.csP_small b)) (Trig.csP_small c) h
  have M4 := fun (g : Nat) (W : World) h => cadd_any g (Trig.mulP (Trig.snP a) (Trig.snP b)) (Trig.mulP (Trig.mulP (Trig.csP a) (Trig.csP b)) (Trig.csP c)) W (Trig.mulP_small (Trig.snP_small a) (Trig.snP_small b)) (Trig.mulP_small (Trig.mulP_small (Trig.csP_small a) (Trig.csP_small b)) (Trig.csP_small c)) h
  have e0 : Trig.sinT a b c = Trig.addP (Trig.mulP (Trig.snP a) (Trig.snP b)) (Trig.mulP (Trig.mulP (Trig.csP a) (Trig.csP b)) (Trig.csP c)) := rfl
  rw [← e0] at M4
  obtain ⟨⟨s0, s1⟩, hs⟩ : ∃ x, Trig.sinT a b c = x := ⟨_, rfl⟩
  rw [hs] at M4 KA ⊢
  obtain ⟨⟨u0, u1⟩, hu⟩ : ∃ x, Trig.mulP (Trig.mulP (Trig.csP a) (Trig.csP b)) (Trig.csP c) = x := ⟨_, rfl⟩
  rw [hu] at M3 M4
  obtain ⟨⟨v0, v1⟩, hv⟩ : ∃ x, Trig.mulP (Trig.csP a) (Trig.csP b) = x := ⟨_, rfl⟩
  rw [hv] at M2 M3
  obtain ⟨⟨t0, t1⟩, ht⟩ : ∃ x, Trig.mulP (Trig.snP a) (Trig.snP b) = x := ⟨_, rfl⟩
  rw [ht] at M1 M4
  obtain ⟨⟨n0, n1⟩, hn⟩ : ∃ x, Trig.snP a = x := ⟨_, rfl⟩
  obtain ⟨⟨n2, n3⟩, hn2⟩ : ∃ x, Trig.snP b = x := ⟨_, rfl⟩
  obtain ⟨⟨n4, n5⟩, hn3⟩ : ∃ x, Trig.snP c = x := ⟨_, rfl⟩
  obtain ⟨⟨p0, p1⟩, hp⟩ : ∃ x, Trig.csP a = x := ⟨_, rfl⟩
  obtain ⟨⟨p2, p3⟩, hp2⟩ : ∃ x, Trig.csP b = x := ⟨_, rfl⟩
  obtain ⟨⟨p4, p5⟩, hp3⟩ : ∃ x, Trig.csP c = x := ⟨_, rfl⟩
  rw [hn, hn2, hn3, hp, hp2, hp3] at KO
  rw [hn, hn2] at M1
  rw [hp, hp2] at M2
  rw [hp3] at M3
  clear e0 hs hu hv ht hn hn2 hn3 hp hp2 hp3 hf h3 h4 ha hb hc
  simp only [] at M1 M2 M3 M4 KA KO ⊢
  generalize Trig.asnV (max s0 (-1073741824)) = r0 at *
  generalize -Trig.asnV (-(min s1 1073741824)) = r1 at *
  obtain ⟨a0, a1⟩ := a
  obtain ⟨b0, b1⟩ := b
  obtain ⟨c0, c1⟩ := c
  simp only [] at KO ⊢
  have KA := Lib.hid KA
  have KO := Lib.hid KO
  have M1 := Lib.hid M1
  have M2 := Lib.hid M2
  have M3 := Lib.hid M3
  have M4 := Lib.hid M4
  have TC : Hid (Blk (((w.alloc (.cells #[.int .i64 a0, .int .i64 a1, .int .i64 b0, .int .i64 b1, .int .i64 c0, .int .i64 c1] 92)).alloc (.cells #[.int .i64 0, .int .i64 0] 29)).alloc (.cells #[.int .i64 0] 214)) (w.heap.size + 1 + 1) 214 #[.int .i64 0]) := Lib.hid (by
    have := Blk.new ((w.alloc (.cells #[.int .i64 a0, .int .i64 a1, .int .i64 b0, .int .i64 b1, .int .i64 c0, .int .i64 c1] 92)).alloc (.cells #[.int .i64 0, .int .i64 0] 29)) 214 #[.int .i64 0]
    rwa [World.size_alloc, World.size_alloc] at this)
  have TR : Hid (D2 (((w.alloc (.cells #[.int .i64 a0, .int .i64 a1, .int .i64 b0, .int .i64 b1, .int .i64 c0, .int .i64 c1] 92)).alloc (.cells #[.int .i64 0, .int .i64 0] 29)).alloc (.cells #[.int .i64 0] 214)) (w.heap.size + 1) 0 0) := Lib.hid (by
    have := (D2.new (w.alloc (.cells #[.int .i64 a0, .int .i64 a1, .int .i64 b0, .int .i64 b1, .int .i64 c0, .int .i64 c1] 92)) 0 0 29).alloc (.cells #[.int .i64 0] 214)
    rwa [World.size_alloc] at this)
  have B0 := Lib.hid (((bl_alloc w (.cells #[.int .i64 a0, .int .i64 a1, .int .i64 b0, .int .i64 b1, .int .i64 c0, .int .i64 c1] 92)).alloc (by simp) (.cells #[.int .i64 0, .int .i64 0] 29)).alloc (by simp; omega) (.cells #[.int .i64 0] 214))
  go_enter Tryz.func137, Tryz.ntmps137
  go_wp2_with fail
  (with_reducible refine (KO.out _ _ TC.out).mono ?_)
  rintro e w1 ⟨rfl, hb1⟩
  have TC1 := Lib.hid (TC.out.below hb1 TC.out.lt)
  have TR1 := Lib.hid (TR.out.below hb1 TR.out.lt)
  have B1 := Lib.hid (B0.out.trans (hb1.mono B0.out.size))
  clear hb1 TC TR B0
  go_upto_region 3 with (fail)
  have X1 := Lib.hid (Blk.new w1 216 #[.int .i64 n0, .int .i64 n1, .int .i64 p0, .int .i64 p1, .int .i64 n2, .int .i64 n3, .int .i64 p2, .int .i64 p3, .int .i64 n4, .int .i64 n5, .int .i64 p4, .int .i64 p5])
  have HC := Lib.hid (TC1.out.alloc (.cells #[.int .i64 n0, .int .i64 n1, .int .i64 p0, .int .i64 p1, .int .i64 n2, .int .i64 n3, .int .i64 p2, .int .i64 p3, .int .i64 n4, .int .i64 n5, .int .i64 p4, .int .i64 p5] 216))
  have TR2 := Lib.hid (TR1.out.alloc (.cells #[.int .i64 n0, .int .i64 n1, .int .i64 p0, .int .i64 p1, .int .i64 n2, .int .i64 n3, .int .i64 p2, .int .i64 p3, .int .i64 n4, .int .i64 n5, .int .i64 p4, .int .i64 p5] 216))
  have B2 := Lib.hid (B1.out.alloc B1.out.size (.cells #[.int .i64 n0, .int .i64 n1, .int .i64 p0, .int .i64 p1, .int .i64 n2, .int .i64 n3, .int .i64 p2, .int .i64 p3, .int .i64 n4, .int .i64 n5, .int .i64 p4, .int .i64 p5] 216))
  have hg : w.heap.size + 1 + 1 < w1.heap.size := TC1.out.lt
  generalize w1.alloc (.cells #[.int .i64 n0, .int .i64 n1, .int .i64 p0, .int .i64 p1, .int .i64 n2, .int .i64 n3, .int .i64 p2, .int .i64 p3, .int .i64 n4, .int .i64 n5, .int .i64 p4, .int .i64 p5] 216) = W2 at *
  generalize w1.heap.size = g at *
  clear TC1 TR1 B1 KO
  have hl := HC.out.lt
  go_cut [6] (fun s6 wy => ∃ q : Nat, s6 = .pointer (some ⟨q, 0, none⟩) ∧ D2 wy q s0 s1 ∧ Blk wy (w.heap.size + 1 + 1) 214 #[.int .i64 0] ∧ D2 wy (w.heap.size + 1) 0 0 ∧ Below w.heap.size w wy)
  case first =>
    obtain ⟨y0, y1, y2, y3, y4, y5, y6, y7, y8, y9, Z0⟩ := sA X1.out (Below.refl _ _)
    go_region_held3 (fun w' => w'.cell? ⟨g, 0, none⟩ = some (.int .i64 n0) ∧ w'.cell? ⟨g, 1, none⟩ = some (.int .i64 n1) ∧ w'.cell? ⟨g, 2, none⟩ = some (.int .i64 p0) ∧ w'.cell? ⟨g, 3, none⟩ = some (.int .i64 p1) ∧ w'.cell? ⟨g, 4, none⟩ = some (.int .i64 n2) ∧ w'.cell? ⟨g, 5, none⟩ = some (.int .i64 n3) ∧ w'.cell? ⟨g, 6, none⟩ = some (.int .i64 p2) ∧ w'.cell? ⟨g, 7, none⟩ = some (.int .i64 p3) ∧ w'.cell? ⟨g, 10, none⟩ = some (.int .i64 p4) ∧ w'.cell? ⟨g, 11, none⟩ = some (.int .i64 p5) ∧ Below W2.heap.size W2 w') (exact sA X1.out (by repeat (first | exact Below.refl _ _ | assumption | refine bl_drew ?_ | refine bl_drewN ?_ _ | refine Below.setCell ?_ (by first | assumption | omega | (simp; done) | (simp; omega)) _ | refine Below.alloc ?_ (by first | assumption | omega | (simp; done) | (simp; omega)) _))) (first
      | (go_at_call 202; (first | (with_reducible refine (M1.out _ _ (HC.out.below (show Below W2.heap.size W2 _ by repeat (first | exact Below.refl _ _ | assumption | refine bl_drew ?_ | refine bl_drewN ?_ _ | refine Below.setCell ?_ (by first | assumption | omega | (simp; done) | (simp; omega)) _ | refine Below.alloc ?_ (by first | assumption | omega | (simp; done) | (simp; omega)) _)) HC.out.lt)).mono ?_) | (with_reducible refine (M2.out _ _ (HC.out.below (show Below W2.heap.size W2 _ by repeat (first | exact Below.refl _ _ | assumption | refine bl_drew ?_ | refine bl_drewN ?_ _ | refine Below.setCell ?_ (by first | assumption | omega | (simp; done) | (simp; omega)) _ | refine Below.alloc ?_ (by first | assumption | omega | (simp; done) | (simp; omega)) _)) HC.out.lt)).mono ?_) | (with_reducible refine (M3.out _ _ (HC.out.below (show Below W2.heap.size W2 _ by repeat (first | exact Below.refl _ _ | assumption | refine bl_drew ?_ | refine bl_drewN ?_ _ | refine Below.setCell ?_ (by first | assumption | omega | (simp; done) | (simp; omega)) _ | refine Below.alloc ?_ (by first | assumption | omega | (simp; done) | (simp; omega)) _)) HC.out.lt)).mono ?_)); rintro e w9 ⟨rfl, hb9⟩; have Z9 := (show Below W2.heap.size W2 _ by repeat (first | exact Below.refl _ _ | assumption | refine bl_drew ?_ | refine bl_drewN ?_ _ | refine Below.setCell ?_ (by first | assumption | omega | (simp; done) | (simp; omega)) _ | refine Below.alloc ?_ (by first | assumption | omega | (simp; done) | (simp; omega)) _)).trans (hb9.mono (by first | exact Nat.le_refl _ | (simp; done) | (simp; omega) | omega)); have z9 := Z9.size; obtain ⟨y0, y1, y2, y3, y4, y5, y6, y7, y8, y9, -⟩ := sA X1.out Z9; (first | (have NN := Lib.hid ((D2.new W2 0 0 97).drw.below hb9 (by simp)); have nn := NN.out; (try simp only [World.size_alloc, World.size_drew] at nn); obtain ⟨nt, m0, m1, nf0, nf1⟩ := nn) | (have NN := Lib.hid ((D2.new _ 0 0 97).below hb9 (by simp)); have nn := NN.out; (try simp only [World.size_alloc, World.size_drew] at nn); obtain ⟨nt, m0, m1, nf0, nf1⟩ := nn) | (have NN := Lib.hid (NN.out.below hb9 NN.out.lt); have nn := NN.out; (try simp only [World.size_alloc, World.size_drew] at nn); obtain ⟨nt, m0, m1, nf0, nf1⟩ := nn) | skip))
      | (go_at_call 201; (with_reducible refine (M4.out _ _ (HC.out.below (show Below W2.heap.size W2 _ by repeat (first | exact Below.refl _ _ | assumption | refine bl_drew ?_ | refine bl_drewN ?_ _ | refine Below.setCell ?_ (by first | assumption | omega | (simp; done) | (simp; omega)) _ | refine Below.alloc ?_ (by first | assumption | omega | (simp; done) | (simp; omega)) _)) HC.out.lt)).mono ?_); rintro e w9 ⟨rfl, hb9⟩; have Z9 := (show Below W2.heap.size W2 _ by repeat (first | exact Below.refl _ _ | assumption | refine bl_drew ?_ | refine bl_drewN ?_ _ | refine Below.setCell ?_ (by first | assumption | omega | (simp; done) | (simp; omega)) _ | refine Below.alloc ?_ (by first | assumption | omega | (simp; done) | (simp; omega)) _)).trans (hb9.mono (by first | exact Nat.le_refl _ | (simp; done) | (simp; omega) | omega)); have z9 := Z9.size; obtain ⟨y0, y1, y2, y3, y4, y5, y6, y7, y8, y9, -⟩ := sA X1.out Z9; (first | (have NN := Lib.hid ((D2.new W2 0 0 97).drw.below hb9 (by simp)); have nn := NN.out; (try simp only [World.size_alloc, World.size_drew] at nn); obtain ⟨nt, m0, m1, nf0, nf1⟩ := nn) | (have NN := Lib.hid ((D2.new _ 0 0 97).below hb9 (by simp)); have nn := NN.out; (try simp only [World.size_alloc, World.size_drew] at nn); obtain ⟨nt, m0, m1, nf0, nf1⟩ := nn) | (have NN := Lib.hid (NN.out.below hb9 NN.out.lt); have nn := NN.out; (try simp only [World.size_alloc, World.size_drew] at nn); obtain ⟨nt, m0, m1, nf0, nf1⟩ := nn) | skip))
      | fail)
    all_goals
      try go_wp2_with fail
      go_meet
      case rel =>
        have hl2 := HC.out.lt
        have hZ := B2.out.trans (Z9.mono B2.out.size)
        first
          | exact ⟨_, rfl, D2.new w9 s0 s1 _, (HC.out.below Z9 HC.out.lt).alloc _, (TR2.out.below Z9 TR2.out.lt).alloc _, hZ.alloc hZ.size _⟩
          | exact ⟨_, rfl, (NN.out.set0 s0).set1 s1, ((HC.out.below Z9 HC.out.lt).far (by simp only []; omega) _).far (by simp only []; omega) _, ((TR2.out.below Z9 TR2.out.lt).far (by simp only []; omega) _).far (by simp only []; omega) _, (hZ.setCell (by simp only []; omega) _).setCell (by simp only []; omega) _⟩
          | (trace_state; fail)
  case rest =>
    obtain ⟨q, rfl, hD, hC, hR, hB⟩ := hcut
    rename World => w3
    have R3 := Lib.hid hR
    have c0 : w3.cell? ⟨w.heap.size + 1 + 1, 0, none⟩ = some (.int .i64 0) := by rw [hC.cell 0]; rfl
    have cl := hC.lt
    clear hR X1 TR2 B2 M1 M2 M3 M4
    obtain ⟨xt, xa, xb, xc, xd⟩ := hD
    go_wp2_with fail
    (with_reducible refine (KA.out _).mono ?_)
    rintro e w4 ⟨rfl, hb4⟩
    have B4 := hB.trans (hb4.mono hB.size)
    have R4 := R3.out.below hb4 R3.out.lt
    clear hb4 R3 xt xa xb xc xd hC hB c0
    obtain ⟨rt, ra, rb, rf0, rf1⟩ := R4
    go_wp2
    refine bodyPost_ret (v := .tuple #[.agg #[.int .i64 r0, .int .i64 r1], .int .i64 0]) (by simp [results, Tryz.results137, go_sem, *]; done) rfl ⟨rfl, ?_⟩
    exact (B4.setCell (by simp only []; omega) _).setCell (by simp only []; omega) _
end Go.Proofs.YtifdgdgfmjfbdaaGreat
namespace Go.Proofs.YtifdgdgfmjfbdaaGreat
open Go.RowKit
/-- whether a number may be the end of a range -/
def rchB (n : Int) : Bool := decide (-1099511627776 ≤ n ∧ n ≤ 1099511627776)
/-- eight cells that are known: the pairs of ends -/
structure Q8 (W : World) (g : Nat) (p q : Int) : Prop where
  lt : g < W.heap.size
  c0 : W.cell? ⟨g, 0, none⟩ = some (.int .i64 1073741824)
  c1 : W.cell? ⟨g, 1, none⟩ = some (.int .i64 p)
  c2 : W.cell? ⟨g, 2, none⟩ = some (.int .i64 1073741824)
  c3 : W.cell? ⟨g, 3, none⟩ = some (.int .i64 q)
  c4 : W.cell? ⟨g, 4, none⟩ = some (.int .i64 1073741824)
  c5 : W.cell? ⟨g, 5, none⟩ = some (.int .i64 p)
  c6 : W.cell? ⟨g, 6, none⟩ = some (.int .i64 1073741824)
  c7 : W.cell? ⟨g, 7, none⟩ = some (.int .i64 q)
end Go.Proofs.YtifdgdgfmjfbdaaGreat
namespace Go.Proofs.YtifdgdgfmjfbdaaGreat
open Go.RowKit
theorem fits_any (n : Int) (w : World) : Calls Tryz.prog 102 #[.int .i64 n] w fun e w' => e = .returned (.bool (rchB n)) ∧ w' = w := by
  unfold rchB
  go_enter Tryz.func102, Tryz.ntmps102
  go_wp2
  all_goals
    go_ret
    exact ⟨ret_bool (by first | rfl | (simp_all; done) | (simp_all; omega)), rfl⟩
theorem av_parts (lo hi : Int) : avB lo hi = (decide (lo ≤ hi) && rchB lo && rchB hi) := by
  unfold avB rchB
  rw [Bool.eq_iff_iff]
  simp only [Bool.and_eq_true, decide_eq_true_eq]
  omega
set_option maxHeartbeats 400000 in
theorem aValid_any (lo hi : Int) (w : World) : Calls Tryz.prog 49 #[.agg #[.int .i64 lo, .int .i64 hi]] w fun e w' => e = .returned (.bool (avB lo hi)) ∧ Below w.heap.size w w' := by
  have KL := Lib.hid (fun W => fits_any lo W)
  have KH := Lib.hid (fun W => fits_any hi W)
  rw [av_parts]
  generalize rchB lo = s at *
  generalize rchB hi = t at *
  by_cases h : lo ≤ hi
  · have d : decide (lo ≤ hi) = true := decide_eq_true h
    rw [d]
    cases s
    · go_enter Tryz.func49, Tryz.ntmps49
      go_wp2_with (go_at_call 102; (with_reducible refine (KL.out _).mono ?_); rintro e w9 ⟨rfl, rfl⟩)
      go_ret
      refine ⟨rfl, ?_⟩
      repeat (first | exact Below.refl _ _ | assumption | refine bl_drew ?_ | refine bl_drewN ?_ _ | refine Below.setCell ?_ (by first | assumption | omega | (simp; done) | (simp; omega)) _ | refine Below.alloc ?_ (by first | assumption | omega | (simp; done) | (simp; omega)) _)
    · cases t
      all_goals
        go_enter Tryz.func49, Tryz.ntmps49
        go_wp2_with (go_at_call 102; (first | (with_reducible refine (KL.out _).mono ?_) | (with_reducible refine (KH.out _).mono ?_)); rintro e w9 ⟨rfl, rfl⟩)
        go_ret
        refine ⟨rfl, ?_⟩
        repeat (first | exact Below.refl _ _ | assumption | refine bl_drew ?_ | refine bl_drewN ?_ _ | refine Below.setCell ?_ (by first | assumption | omega | (simp; done) | (simp; omega)) _ | refine Below.alloc ?_ (by first | assumption | omega | (simp; done) | (simp; omega)) _)
  · have d : decide (lo ≤ hi) = false := decide_eq_false h
    rw [d]
    go_enter Tryz.func49, Tryz.ntmps49
    go_wp2
    go_ret
    refine ⟨rfl, ?_⟩
    repeat (first | exact Below.refl _ _ | assumption | refine bl_drew ?_ | refine bl_drewN ?_ _ | refine Below.setCell ?_ (by first | assumption | omega | (simp; done) | (simp; omega)) _ | refine Below.alloc ?_ (by first | assumption | omega | (simp; done) | (simp; omega)) _)
end Go.Proofs.YtifdgdgfmjfbdaaGreat
namespace Go.Proofs.YtifdgdgfmjfbdaaGreat
open Go.RowKit
theorem clat_yes (lo hi : Int) (w : World) (h0 : -5400000 ≤ lo) (h1 : lo ≤ hi) (h2 : hi ≤ 5400000) : Calls Tryz.prog 199 #[.agg #[.int .i64 lo, .int .i64 hi]] w fun e w' => e = .returned (.bool true) ∧ Below w.heap.size w w' := by
  have KV := Lib.hid (fun W => aValid_any lo hi W)
  rw [avB_true.2 (by omega : -1099511627776 ≤ lo ∧ lo ≤ hi ∧ hi ≤ 1099511627776)] at KV
  have T1 := Lib.hid (D2.new w lo hi 29)
  have B0 := Lib.hid (bl_alloc w (.cells #[.int .i64 lo, .int .i64 hi] 29))
  have d1 : -5400000 ≤ lo := h0
  have d2 : hi ≤ 5400000 := h2
  go_enter Tryz.func199, Tryz.ntmps199
  go_wp2_with fail
  (with_reducible refine (KV.out _).mono ?_)
  rintro e w1 ⟨rfl, hb1⟩
  have B1 := Lib.hid (B0.out.trans (hb1.mono B0.out.size))
  obtain ⟨at1, a0, a1, af0, af1⟩ := T1.out.below hb1 T1.out.lt
  clear hb1
  go_wp2
  go_ret
  exact ⟨ret_bool (by simp), B1.out⟩
set_option maxHeartbeats 1000000 in
theorem cValid_yes (a b c : Int × Int) (w : World) (ha : -5400000 ≤ a.1 ∧ a.1 ≤ a.2 ∧ a.2 ≤ 5400000) (hb : -5400000 ≤ b.1 ∧ b.1 ≤ b.2 ∧ b.2 ≤ 5400000) (hc : avB c.1 c.2 = true) :
    Calls Tryz.prog 136 #[.agg #[.int .i64 a.1, .int .i64 a.2, .int .i64 b.1, .int .i64 b.2, .int .i64 c.1, .int .i64 c.2]] w fun e w' => e = .returned (.bool true) ∧ Below w.heap.size w w' := by
  have K1 := Lib.hid (fun W => clat_yes a.1 a.2 W ha.1 ha.2.1 ha.2.2)
  have K2 := Lib.hid (fun W => clat_yes b.1 b.2 W hb.1 hb.2.1 hb.2.2)
  have K3 := Lib.hid (fun W => aValid_any c.1 c.2 W)
  rw [hc] at K3
  obtain ⟨a0, a1⟩ := a
  obtain ⟨b0, b1⟩ := b
  obtain ⟨c0, c1⟩ := c
  simp only [] at K1 K2 K3 ⊢
  clear ha hb hc
  have T1 := Lib.hid (C6.new w a0 a1 b0 b1 c0 c1 92)
  have B0 := Lib.hid (bl_alloc w (.cells #[.int .i64 a0, .int .i64 a1, .int .i64 b0, .int .i64 b1, .int .i64 c0, .int .i64 c1] 92))
  go_enter Tryz.func136, Tryz.ntmps136
  go_wp2_with fail
  (with_reducible refine (K1.out _).mono ?_)
  rintro e w1 ⟨rfl, hb1⟩
  have B1 := Lib.hid (B0.out.trans (hb1.mono B0.out.size))
  have T2 := Lib.hid (T1.out.below hb1 T1.out.lt)
  clear hb1 T1 B0
  obtain ⟨tl, x0, x1, x2, x3, x4, x5⟩ := T2.out
  go_wp2_with fail
  (with_reducible refine (K2.out _).mono ?_)
  rintro e w2 ⟨rfl, hb2⟩
  have B2 := Lib.hid (B1.out.trans (hb2.mono B1.out.size))
  clear tl x0 x1 x2 x3 x4 x5
  obtain ⟨tl, x0, x1, x2, x3, x4, x5⟩ := T2.out.below hb2 T2.out.lt
  clear hb2
  go_wp2_with fail
  (with_reducible refine (K3.out _).mono ?_)
  rintro e w3 ⟨rfl, hb3⟩
  have B3 := Lib.hid (B2.out.trans (hb3.mono B2.out.size))
  clear hb3
  go_wp2
  go_ret
  exact ⟨rfl, B3.out⟩
set_option maxHeartbeats 1000000 in
set_option maxRecDepth 100000 in
theorem Altitude_yes (a b c : Int × Int) (w : World) (ha : -5400000 ≤ a.1 ∧ a.1 ≤ a.2 ∧ a.2 ≤ 5400000) (hb : -5400000 ≤ b.1 ∧ b.1 ≤ b.2 ∧ b.2 ≤ 5400000) (hc : avB c.1 c.2 = true) (h3 : (Trig.sinT a b c).1 ≤ 1073741824) (h4 : -1073741824 ≤ (Trig.sinT a b c).2) :
    Calls Tryz.prog 71 #[.agg #[.int .i64 a.1, .int .i64 a.2, .int .i64 b.1, .int .i64 b.2, .int .i64 c.1, .int .i64 c.2]] w fun e w' => e = .returned (.tuple #[.agg #[.int .i64 (Trig.asnV (max (Trig.sinT a b c).1 (-1073741824))), .int .i64 (-Trig.asnV (-(min (Trig.sinT a b c).2 1073741824)))], .int .i64 0]) ∧ Below w.heap.size w w' := by
  have KV := Lib.hid (fun W => cValid_yes a b c W ha hb hc)
  have KA := Lib.hid (fun W => altitude_yes a b c W (avB_true.2 (by omega)) (avB_true.2 (by omega)) hc h3 h4)
  generalize Trig.asnV (max (Trig.sinT a b c).1 (-1073741824)) = r0 at *
  generalize -Trig.asnV (-(min (Trig.sinT a b c).2 1073741824)) = r1 at *
  obtain ⟨a0, a1⟩ := a
  obtain ⟨b0, b1⟩ := b
  obtain ⟨c0, c1⟩ := c
  simp only [] at KV KA ⊢
  clear ha hb hc h3 h4
  have T1 := Lib.hid ((C6.new w a0 a1 b0 b1 c0 c1 92).below (bl_alloc _ (.cells #[.int .i64 0, .int .i64 0] 29)) (by simp))
  have TR : Hid (D2 ((w.alloc (.cells #[.int .i64 a0, .int .i64 a1, .int .i64 b0, .int .i64 b1, .int .i64 c0, .int .i64 c1] 92)).alloc (.cells #[.int .i64 0, .int .i64 0] 29)) (w.heap.size + 1) 0 0) := Lib.hid (by
    have := D2.new (w.alloc (.cells #[.int .i64 a0, .int .i64 a1, .int .i64 b0, .int .i64 b1, .int .i64 c0, .int .i64 c1] 92)) 0 0 29
    rwa [World.size_alloc] at this)
  have B0 := Lib.hid ((bl_alloc w (.cells #[.int .i64 a0, .int .i64 a1, .int .i64 b0, .int .i64 b1, .int .i64 c0, .int .i64 c1] 92)).alloc (by simp) (.cells #[.int .i64 0, .int .i64 0] 29))
  go_enter Tryz.func71, Tryz.ntmps71
  go_wp2_with fail
  (with_reducible refine (KV.out _).mono ?_)
  rintro e w1 ⟨rfl, hb1⟩
  have B1 := Lib.hid (B0.out.trans (hb1.mono B0.out.size))
  have T2 := Lib.hid (T1.out.below hb1 T1.out.lt)
  have R2 := Lib.hid (TR.out.below hb1 TR.out.lt)
  clear hb1 T1 B0 TR
  obtain ⟨tl, x0, x1, x2, x3, x4, x5⟩ := T2.out
  go_wp2_with fail
  (with_reducible refine (KA.out _).mono ?_)
  rintro e w2 ⟨rfl, hb2⟩
  have B2 := Lib.hid (B1.out.trans (hb2.mono B1.out.size))
  clear tl x0 x1 x2 x3 x4 x5
  obtain ⟨rt, ra, rb, rf0, rf1⟩ := R2.out.below hb2 R2.out.lt
  clear hb2
  go_wp2
  refine bodyPost_ret (v := .tuple #[.agg #[.int .i64 r0, .int .i64 r1], .int .i64 0]) (by simp [results, Tryz.results71, go_sem, *]; done) rfl ⟨rfl, ?_⟩
  exact (B2.out.setCell (by simp only []; omega) _).setCell (by simp only []; omega) _
end Go.Proofs.YtifdgdgfmjfbdaaGreat
