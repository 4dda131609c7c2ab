/- The walk of trig's sine of an angle of the first eighth. -/
import Derived.Deep.RegionHeld3
import Derived.Test.YtifdgdgfmjfbdaaGreatIUc
set_option linter.unusedVariables false
set_option linter.unusedSimpArgs false
namespace Go.Proofs.YtifdgdgfmjfbdaaGreat
open Go.RowKit
/-- a result and a number, at the end of the memory that was there -/
structure R2 (w wx : World) (a0 a1 a2 a3 : Int) : Prop where
  bl : Below w.heap.size w wx
  A : Blk wx (w.heap.size + 1) 267 (arr4 a0 a1 a2 a3)
  C : Blk wx w.heap.size 267 (arr4 0 0 0 0)
theorem R2.start (w : World) (a0 a1 a2 a3 : Int) : R2 w ((w.alloc (.cells (arr4 0 0 0 0) 267)).alloc (.cells (arr4 a0 a1 a2 a3) 267)) a0 a1 a2 a3 := by
  refine ⟨?_, ?_, ?_⟩
  · exact ((Below.refl _ _).alloc (Nat.le_refl _) _).alloc (by simp) _
  · have := Blk.new (w.alloc (.cells (arr4 0 0 0 0) 267)) 267 (arr4 a0 a1 a2 a3)
    simpa using this
  · exact (Blk.new w 267 (arr4 0 0 0 0)).alloc _
theorem R2.set_ {w wx : World} {a0 a1 a2 a3 : Int} (h : R2 w wx a0 a1 a2 a3) (i : Nat) (u : Value) : 
    Below w.heap.size w (wx.setCell ⟨w.heap.size + 1, i, none⟩ u) ∧ Blk (wx.setCell ⟨w.heap.size + 1, i, none⟩ u) (w.heap.size + 1) 267 ((arr4 a0 a1 a2 a3).setIfInBounds i u) ∧ Blk (wx.setCell ⟨w.heap.size + 1, i, none⟩ u) w.heap.size 267 (arr4 0 0 0 0) :=
  ⟨h.bl.setCell (show w.heap.size ≤ w.heap.size + 1 by omega) _, h.A.set_ i u, h.C.far (show w.heap.size ≠ w.heap.size + 1 by omega) u⟩
theorem R2.set0 {w wx : World} {a0 a1 a2 a3 d : Int} (h : R2 w wx a0 a1 a2 a3) : R2 w (wx.setCell ⟨w.heap.size + 1, 0, none⟩ (.int .u64 d)) d a1 a2 a3 := by
  obtain ⟨h1, h2, h3⟩ := h.set_ 0 (.int .u64 d)
  exact ⟨h1, h2, h3⟩
theorem R2.set1 {w wx : World} {a0 a1 a2 a3 d : Int} (h : R2 w wx a0 a1 a2 a3) : R2 w (wx.setCell ⟨w.heap.size + 1, 1, none⟩ (.int .u64 d)) a0 d a2 a3 := by
  obtain ⟨h1, h2, h3⟩ := h.set_ 1 (.int .u64 d)
  exact ⟨h1, h2, h3⟩
theorem R2.set2 {w wx : World} {a0 a1 a2 a3 d : Int} (h : R2 w wx a0 a1 a2 a3) : R2 w (wx.setCell ⟨w.heap.size + 1, 2, none⟩ (.int .u64 d)) a0 a1 d a3 := by
  obtain ⟨h1, h2, h3⟩ := h.set_ 2 (.int .u64 d)
  exact ⟨h1, h2, h3⟩
theorem R2.set3 {w wx : World} {a0 a1 a2 a3 d : Int} (h : R2 w wx a0 a1 a2 a3) : R2 w (wx.setCell ⟨w.heap.size + 1, 3, none⟩ (.int .u64 d)) a0 a1 a2 d := by
  obtain ⟨h1, h2, h3⟩ := h.set_ 3 (.int .u64 d)
  exact ⟨h1, h2, h3⟩
theorem radStep {p n t : Int} (hp : U64 p) (hn0 : 0 ≤ n) (hn1 : n ≤ 2700000) (ht0 : 0 ≤ t) (ht1 : t ≤ n) : ∃ H L S C t' : Int,
    (∀ W, Calls Tryz.prog 277 #[.int .u64 p, .int .u64 n] W fun e w' => e = .returned (.tuple #[.int .u64 H, .int .u64 L]) ∧ w' = W) ∧
    (∀ W, (callFunc 278 #[.int .u64 L, .int .u64 t, .int .u64 0]).run Tryz.prog W = .ok (.value (.tuple #[.int .u64 S, .int .u64 C])) W) ∧
    0 ≤ H ∧ H ≤ 18446744073709551614 ∧ 0 ≤ C ∧ C ≤ 1 ∧ H + C = t' ∧ 0 ≤ t' ∧ t' ≤ n ∧ U64 S ∧ S + 18446744073709551616 * t' = p * n + t := by
  have hn : U64 n := ⟨hn0, by omega⟩
  have ht : U64 t := ⟨ht0, by omega⟩
  have hL := muL_u p n
  have hH := muH_bd hp hn
  have e1 := mu_eq p n
  have e2 := ad_eq (muL p n) t 0
  have b2 := adC_bd hL ht (by omega : (0 : Int) ≤ 0) (by omega)
  have u2 := adS_u (muL p n) t 0
  have hb : p * n ≤ 18446744073709551615 * n := Int.mul_le_mul_of_nonneg_right (by have := hp.2; omega) hn0
  refine ⟨muH p n, muL p n, adS (muL p n) t 0, adC (muL p n) t 0, _, fun W => mul64 p n hp hn W, fun W => add64_0 _ t hL ht W, hH.1, hH.2, b2.1, b2.2, rfl, by omega, ?_, u2, by omega⟩
  unfold U64 at *
  generalize muL p n = L at *
  generalize muH p n = H at *
  generalize p * n = q at *
  generalize adS L t 0 = S at *
  generalize adC L t 0 = C at *
  omega
set_option maxHeartbeats 4000000 in
set_option maxRecDepth 100000 in
theorem radiansV (n : Int) (w : World) (h0 : 0 ≤ n) (h1 : n ≤ 2700000) : Calls Tryz.prog 279 #[.int .i64 n] w (RetN (fun V => V = Trig.radN n.toNat) w) := by
  have hw : IntKind.u64.wrap n = n := by rw [IntKind.wrap_u64]; omega
  obtain ⟨H3, L3, S3, C3, t3, km, ka, bh03, bh13, bc03, bc13, ec, bt03, bt13, us3, es3⟩ := radStep (p := 589684135938649225) (n := n) (t := 0) ⟨by omega, by omega⟩ h0 h1 (by omega) h0
  have KM3 := Lib.hid km
  have KA3 := Lib.hid ka
  have EC3 := Lib.hid ec
  have US3 := Lib.hid us3
  have ES3 := Lib.hid es3
  clear km ka ec us3 es3
  obtain ⟨H2, L2, S2, C2, t2, km, ka, bh02, bh12, bc02, bc12, ec, bt02, bt12, us2, es2⟩ := radStep (p := 11820040416388919760) (n := n) (t := t3) ⟨by omega, by omega⟩ h0 h1 bt03 bt13
  have KM2 := Lib.hid km
  have KA2 := Lib.hid ka
  have EC2 := Lib.hid ec
  have US2 := Lib.hid us2
  have ES2 := Lib.hid es2
  clear km ka ec us2 es2
  obtain ⟨H1, L1, S1, C1, t1, km, ka, bh01, bh11, bc01, bc11, ec, bt01, bt11, us1, es1⟩ := radStep (p := 1376283091369227076) (n := n) (t := t2) ⟨by omega, by omega⟩ h0 h1 bt02 bt12
  have KM1 := Lib.hid km
  have KA1 := Lib.hid ka
  have EC1 := Lib.hid ec
  have US1 := Lib.hid us1
  have ES1 := Lib.hid es1
  clear km ka ec us1 es1
  obtain ⟨H0, L0, S0, C0, t0, km, ka, bh00, bh10, bc00, bc10, ec, bt00, bt10, us0, es0⟩ := radStep (p := 2611923443488327891) (n := n) (t := t1) ⟨by omega, by omega⟩ h0 h1 bt01 bt11
  have KM0 := Lib.hid km
  have KA0 := Lib.hid ka
  have EC0 := Lib.hid ec
  have US0 := Lib.hid us0
  have ES0 := Lib.hid es0
  clear km ka ec us0 es0
  have ht : 0 ≤ t0 + 3 * n ∧ t0 + 3 * n < 10800000 := by
    by_cases hz : n = 0
    · omega
    · have e0 := ES0.out
      have e1 := US0.out.1
      omega
  have KD := Lib.hid (fun W => divV (NV.of US0.out US1.out US2.out US3.out) (show (0 : Int) < 10800000 by omega) (by omega) ht.1 ht.2 W)
  go_enter Tryz.func279, Tryz.ntmps279
  go_wp2
  have T4 := Lib.hid (R2.start w 2611923443488327891 1376283091369227076 11820040416388919760 589684135938649225)
  unfold arr4 at T4
  generalize (w.alloc (.cells #[.int .u64 0, .int .u64 0, .int .u64 0, .int .u64 0] 267)).alloc (.cells #[.int .u64 2611923443488327891, .int .u64 1376283091369227076, .int .u64 11820040416388919760, .int .u64 589684135938649225] 267) = w4 at *
  refine wp_loop_rounds 5 ?_
  rw [rounds_succ]
  have x := T4.out.A.cell 3
  have f := T4.out.A.frozen 3
  simp at x
  have ka := KA3.out
  have ec := EC3.out
  go_wp2_with (go_at_call 277; (with_reducible refine (KM3.out _).mono ?_); rintro e wy ⟨rfl, rfl⟩)
  rename World => w4
  have T3 := Lib.hid (T4.out.set3 (d := S3))
  generalize (w4.setCell ⟨w.heap.size + 1, 3, none⟩ (.int .u64 S3)) = w3' at *
  clear x f ka ec KM3 KA3 EC3 T4
  rw [rounds_succ]
  have x := T3.out.A.cell 2
  have f := T3.out.A.frozen 2
  simp at x
  have ka := KA2.out
  have ec := EC2.out
  go_wp2_with (go_at_call 277; (with_reducible refine (KM2.out _).mono ?_); rintro e wy ⟨rfl, rfl⟩)
  rename World => w3
  have T2 := Lib.hid (T3.out.set2 (d := S2))
  generalize (w3.setCell ⟨w.heap.size + 1, 2, none⟩ (.int .u64 S2)) = w2' at *
  clear x f ka ec KM2 KA2 EC2 T3
  rw [rounds_succ]
  have x := T2.out.A.cell 1
  have f := T2.out.A.frozen 1
  simp at x
  have ka := KA1.out
  have ec := EC1.out
  go_wp2_with (go_at_call 277; (with_reducible refine (KM1.out _).mono ?_); rintro e wy ⟨rfl, rfl⟩)
  rename World => w2
  have T1 := Lib.hid (T2.out.set1 (d := S1))
  generalize (w2.setCell ⟨w.heap.size + 1, 1, none⟩ (.int .u64 S1)) = w1' at *
  clear x f ka ec KM1 KA1 EC1 T2
  rw [rounds_succ]
  have x := T1.out.A.cell 0
  have f := T1.out.A.frozen 0
  simp at x
  have ka := KA0.out
  have ec := EC0.out
  go_wp2_with (go_at_call 277; (with_reducible refine (KM0.out _).mono ?_); rintro e wy ⟨rfl, rfl⟩)
  rename World => w1
  have T0 := Lib.hid (T1.out.set0 (d := S0))
  generalize (w1.setCell ⟨w.heap.size + 1, 0, none⟩ (.int .u64 S0)) = w0' at *
  clear x f ka ec KM0 KA0 EC0 T1
  rw [rounds_succ]
  have x0 := T0.out.A.cell 0
  have x1 := T0.out.A.cell 1
  have x2 := T0.out.A.cell 2
  have x3 := T0.out.A.cell 3
  simp at x0 x1 x2 x3
  have hmod : (t0 + 3 * n) % 10800000 = t0 + 3 * n := Int.emod_eq_of_lt ht.1 ht.2
  obtain ⟨ht0, ht1⟩ := ht
  go_wp2_with fail
  (with_reducible refine (KD.out _).mono ?_)
  rintro e w9 ⟨v0, v1, v2, v3, V, rfl, hV, hq, hb⟩
  have hC := T0.out.C.below hb T0.out.C.lt
  have z0 := hC.cell 0
  have z1 := hC.cell 1
  have z2 := hC.cell 2
  have z3 := hC.cell 3
  have f0 := hC.frozen 0
  have f1 := hC.frozen 1
  have f2 := hC.frozen 2
  have f3 := hC.frozen 3
  simp at z0 z1 z2 z3
  have hbl := T0.out.bl.trans (hb.mono T0.out.bl.size)
  have HQ := Lib.hid hq
  clear hq x0 x1 x2 x3 hmod
  go_wp2
  refine bodyPost_ret (v := num4 v0 v1 v2 v3) (by simp [results, Tryz.results279, go_sem, *]) rfl ⟨v0, v1, v2, v3, V, rfl, hV, ?_, ?_⟩
  · have hq := HQ.out
    have e3 := ES3.out
    have e2 := ES2.out
    have e1 := ES1.out
    have e0 := ES0.out
    have hnn := Int.toNat_of_nonneg (nv_bd US0.out US1.out US2.out US3.out).1
    have hnv : nv S0 S1 S2 S3 = S0 * 6277101735386680763835789423207666416102355444464034512896 + S1 * 340282366920938463463374607431768211456 + S2 * 18446744073709551616 + S3 := rfl
    have hN : ((n.toNat : Nat) : Int) = n := Int.toNat_of_nonneg h0
    have hI : (V : Int) = ((Trig.PiN * n.toNat / 10800000 : Nat) : Int) := by
      rw [hq, hnn, Int.natCast_ediv, Int.natCast_mul, hN]
      have hnum : (t0 + 3 * n) * 115792089237316195423570985008687907853269984665640564039457584007913129639936 + nv S0 S1 S2 S3 = (Trig.PiN : Int) * n := by
        have hP : ((Trig.PiN : Nat) : Int) = 363771576891766324280234942777729862653393377328392429958772151117938894466185 := rfl
        rw [hnv, hP]
        clear hP hq hnn hnv hN z0 z1 z2 z3 f0 f1 f2 f3
        omega
      rw [hnum]
      rfl
    show V = Trig.radN n.toNat
    unfold Trig.radN
    omega
  · exact (((hbl.setCell (Nat.le_refl _) _).setCell (Nat.le_refl _) _).setCell (Nat.le_refl _) _).setCell (Nat.le_refl _) _
end Go.Proofs.YtifdgdgfmjfbdaaGreat
namespace Go.Proofs.YtifdgdgfmjfbdaaGreat
open Go.RowKit
/-- the blocks of the series: the square, the sum, and the result -/
structure L3 (w w1 wr : World) (y0 y1 y2 y3 u0 u1 u2 u3 : Int) : Prop where
  bl : Below w.heap.size w wr
  z1 : w.heap.size + 2 ≤ w1.heap.size
  Y : Blk wr w1.heap.size 267 (arr4 y0 y1 y2 y3)
  U : Blk wr (w1.heap.size + 1) 267 (arr4 u0 u1 u2 u3)
  C : Blk wr (w.heap.size + 1) 267 (arr4 0 0 0 0)
theorem L3.below {w w1 wr w' : World} {y0 y1 y2 y3 u0 u1 u2 u3 : Int} (h : L3 w w1 wr y0 y1 y2 y3 u0 u1 u2 u3) (hb : Below wr.heap.size wr w') : L3 w w1 w' y0 y1 y2 y3 u0 u1 u2 u3 :=
  ⟨h.bl.trans (hb.mono h.bl.size), h.z1, h.Y.below hb h.Y.lt, h.U.below hb h.U.lt, h.C.below hb h.C.lt⟩
theorem L3.alloc {w w1 wr : World} {y0 y1 y2 y3 u0 u1 u2 u3 : Int} (h : L3 w w1 wr y0 y1 y2 y3 u0 u1 u2 u3) (o : Obj) : L3 w w1 (wr.alloc o) y0 y1 y2 y3 u0 u1 u2 u3 := h.below (bl_alloc wr o)
theorem L3.drew {w w1 wr : World} {y0 y1 y2 y3 u0 u1 u2 u3 : Int} (h : L3 w w1 wr y0 y1 y2 y3 u0 u1 u2 u3) : L3 w w1 wr.drew y0 y1 y2 y3 u0 u1 u2 u3 := ⟨bl_drew h.bl, h.z1, h.Y, h.U, h.C⟩
theorem L3.set {w w1 wr : World} {y0 y1 y2 y3 u0 u1 u2 u3 d0 d1 d2 d3 : Int} (h : L3 w w1 wr y0 y1 y2 y3 u0 u1 u2 u3) :
    L3 w w1 ((((wr.setCell ⟨w1.heap.size + 1, 0, none⟩ (.int .u64 d0)).setCell ⟨w1.heap.size + 1, 1, none⟩ (.int .u64 d1)).setCell ⟨w1.heap.size + 1, 2, none⟩ (.int .u64 d2)).setCell ⟨w1.heap.size + 1, 3, none⟩ (.int .u64 d3)) y0 y1 y2 y3 d0 d1 d2 d3 := by
  have hz := h.z1
  have hY : w1.heap.size ≠ w1.heap.size + 1 := by omega
  have hC : w.heap.size + 1 ≠ w1.heap.size + 1 := by omega
  refine ⟨?_, hz, ?_, ?_, ?_⟩
  · exact (((h.bl.setCell (show w.heap.size ≤ w1.heap.size + 1 by omega) _).setCell (show w.heap.size ≤ w1.heap.size + 1 by omega) _).setCell (show w.heap.size ≤ w1.heap.size + 1 by omega) _).setCell (show w.heap.size ≤ w1.heap.size + 1 by omega) _
  · exact (((h.Y.far hY _).far hY _).far hY _).far hY _
  · exact (((h.U.set_ 0 _).set_ 1 _).set_ 2 _).set_ 3 _
  · exact (((h.C.far hC _).far hC _).far hC _).far hC _
theorem lessFin {x : Rat} (hX : 0 ≤ x ∧ x ≤ 4 / 5) {Y U P Q V D j odd : Nat} {k : Int} (hk : k = (j : Int) + 1) (hk1 : k ≤ 34) (hD : D = (2 * j + odd + 1) * (2 * j + odd + 2)) (hQ : Q = Y / D) (hY : Trig.Nr (Y : Rat) (Trig.Z * (x * x)) 4)
    (hU : Trig.Nr (U : Rat) (Trig.Z * Trig.mis x (2 * k.toNat + odd) (34 - k.toNat)) 8) (hul : U < Trig.ZN) (hm : Trig.MulOk Q U P) (hv : (P ≤ Q → V = Q - P) ∧ (Q < P → V = Q + Trig.ZN - P)) :
    Trig.Nr (V : Rat) (Trig.Z * Trig.mis x (2 * j + odd) (34 - j)) 8 := by
  have e1 : k.toNat = j + 1 := by omega
  rw [e1, show 2 * (j + 1) + odd = 2 * j + odd + 2 by omega] at hU
  rw [hQ, hD] at hm
  obtain ⟨a, b⟩ := Trig.less_step (m := 2 * j + odd) (n := 34 - (j + 1)) hX.1 hX.2 hY hU hul hm
  rw [← hD, ← hQ] at a b
  rw [hv.1 a, show 34 - j = 34 - (j + 1) + 1 by omega]
  exact b
theorem mis_start (x : Rat) (m : Nat) : Trig.Nr ((0 : Nat) : Rat) (Trig.Z * Trig.mis x m (34 - 34)) 8 := by
  have : Trig.mis x m (34 - 34) = 0 := by rw [show 34 - 34 = 0 from rfl]; rfl
  rw [this]
  unfold Trig.Nr
  rw [Rat.mul_zero]
  constructor <;> decide +kernel
set_option maxHeartbeats 8000000 in
set_option maxRecDepth 100000 in
theorem lessV {a0 a1 a2 a3 : Int} {r : Nat} (ha : NV a0 a1 a2 a3 (Trig.radN r)) (hr : r ≤ 2700000) (odd : Nat) (ho : odd ≤ 1) (w : World) :
    Calls Tryz.prog 282 #[num4 a0 a1 a2 a3, .int .u64 odd] w (RetN (fun V => Trig.Nr (V : Rat) (Trig.Z * Trig.mis ((r : Rat) * Trig.th) odd 34) 8) w) := by
  obtain ⟨X0, X1⟩ := Trig.ang_bd hr
  have HX := Lib.hid (And.intro X0 X1)
  have KM := Lib.hid (fun W => mulV ha ha W)
  have hN := Trig.radN_near r
  have HN := Lib.hid hN
  clear ha X0 X1 hN
  generalize (r : Rat) * Trig.th = x at *
  go_enter Tryz.func282, Tryz.ntmps282
  go_wp2_with fail
  (with_reducible refine (KM.out _).mono ?_)
  rintro e w1 ⟨y0, y1, y2, y3, Y, rfl, hY, hm, hb1⟩
  have hYn := Lib.hid (Trig.sq_near HX.out.1 HX.out.2 HN.out hm)
  have HY := Lib.hid hY
  have hz1 := two_lt hb1
  have hbl1 := two_bl hb1
  have T0 : Hid (L3 w w1 ((w1.alloc (.cells (arr4 y0 y1 y2 y3) 267)).alloc (.cells (arr4 0 0 0 0) 267)) y0 y1 y2 y3 0 0 0 0) := Lib.hid (by
    have hC := ((Blk.new (w.alloc (.cells (arr4 a0 a1 a2 a3) 267)) 267 (arr4 0 0 0 0))).below hb1 (by simp)
    refine ⟨(hbl1.alloc hbl1.size _).alloc (by have := hbl1.size; simp; omega) _, by omega, (Blk.new w1 _ _).alloc _, ?_, ?_⟩
    · have := Blk.new (w1.alloc (.cells (arr4 y0 y1 y2 y3) 267)) 267 (arr4 0 0 0 0)
      simpa using this
    · have := (hC.alloc (.cells (arr4 y0 y1 y2 y3) 267)).alloc (.cells (arr4 0 0 0 0) 267)
      simpa using this)
  clear hY hm hb1 hz1 hbl1 KM
  go_wp2
  unfold arr4 at T0
  generalize (w1.alloc (.cells #[.int .u64 y0, .int .u64 y1, .int .u64 y2, .int .u64 y3] 267)).alloc (.cells #[.int .u64 0, .int .u64 0, .int .u64 0, .int .u64 0] 267) = w2 at *
  go_loopw [7] (fun s7 wr => ∃ k : Int, 0 ≤ k ∧ k ≤ 34 ∧ s7 = .int .u64 k ∧ ∃ u0 u1 u2 u3 : Int, ∃ U : Nat, L3 w w1 wr y0 y1 y2 y3 u0 u1 u2 u3 ∧ NV u0 u1 u2 u3 U ∧ Trig.Nr (U : Rat) (Trig.Z * Trig.mis x (2 * k.toNat + odd) (34 - k.toNat)) 8) (fun s7 _ => (intOf s7).toNat)
  case atStart =>
    exact ⟨34, by omega, by omega, rfl, 0, 0, 0, 0, 0, T0.out, ⟨hz, hz, hz, hz, rfl⟩, mis_start x _⟩
  case round =>
    obtain ⟨k, hk0, hk1, rfl, u0, u1, u2, u3, U, hT, hU, hUn⟩ := hrel
    have T := Lib.hid hT
    have HU := Lib.hid hU
    have HUn := Lib.hid hUn
    clear hT hU hUn
    by_cases hlt : 0 < k
    · obtain ⟨j, hj⟩ : ∃ j : Nat, k = (j : Int) + 1 := ⟨(k - 1).toNat, by omega⟩
      obtain ⟨D, hD⟩ : ∃ D : Nat, D = (2 * j + odd + 1) * (2 * j + odd + 2) := ⟨_, rfl⟩
      have hDb : 2 ≤ D ∧ D ≤ 70 * 71 := by
        rw [hD]
        exact ⟨Nat.mul_le_mul (show 1 ≤ 2 * j + odd + 1 by omega) (show 2 ≤ 2 * j + odd + 2 by omega), Nat.mul_le_mul (by omega) (by omega)⟩
      have hDw : IntKind.u64.wrap ((2 * k - 1 + (odd : Int)) * (2 * k + (odd : Int))) = (D : Int) := by
        have e1 : (2 * k - 1 + (odd : Int)) = ((2 * j + odd + 1 : Nat) : Int) := by omega
        have e2 : (2 * k + (odd : Int)) = ((2 * j + odd + 2 : Nat) : Int) := by omega
        rw [e1, e2, ← Int.natCast_mul, ← hD, IntKind.wrap_u64]
        omega
      have d0 : (0 : Int) < (D : Int) := by omega
      have d1 : (D : Int) ≤ 4970 := by omega
      have KD := Lib.hid (fun W => divV HY.out d0 (by omega) (Int.le_refl 0) d0 W)
      have HD := Lib.hid hD
      have HJ := Lib.hid hj
      clear hD hDb hj
      have y0' := T.out.Y.cell 0
      have y1' := T.out.Y.cell 1
      have y2' := T.out.Y.cell 2
      have y3' := T.out.Y.cell 3
      simp at y0' y1' y2' y3'
      go_upto_block 1 with (fail)
      go_cut [] (fun wy => ∃ v0 v1 v2 v3 : Int, ∃ V : Nat, L3 w w1 wy y0 y1 y2 y3 v0 v1 v2 v3 ∧ NV v0 v1 v2 v3 V ∧ Trig.Nr (V : Rat) (Trig.Z * Trig.mis x (2 * j + odd) (34 - j)) 8)
      case first =>
        go_wp2_with fail
        (with_reducible refine (KD.out _).mono ?_)
        rintro e w3 ⟨q0, q1, q2, q3, Q, rfl, hQ, hq, hb3⟩
        have HQ := Lib.hid hQ
        have hq' : Q = Y / D := by
          have : (Q : Int) = ((Y / D : Nat) : Int) := by rw [hq, Int.zero_mul, Int.zero_add, Int.natCast_ediv]
          omega
        have HQ' := Lib.hid hq'
        have T3 := Lib.hid ((T.out.below hb3).alloc (.cells (arr4 q0 q1 q2 q3) 267))
        have Q3 := Lib.hid (Blk.new w3 267 (arr4 q0 q1 q2 q3))
        clear hQ hq hq' hb3 y0' y1' y2' y3' hDw d0 d1 KD
        go_wp2
        unfold arr4 at T3 Q3
        generalize w3.alloc (.cells #[.int .u64 q0, .int .u64 q1, .int .u64 q2, .int .u64 q3] 267) = w4 at *
        generalize w3.heap.size = g9 at *
        have KX := Lib.hid (fun W => mulV HQ.out HU.out W)
        have l9 := Q3.out.lt
        have c0 := Q3.out.cell 0
        have c1 := Q3.out.cell 1
        have c2 := Q3.out.cell 2
        have c3 := Q3.out.cell 3
        have r0 := T3.out.U.cell 0
        have r1 := T3.out.U.cell 1
        have r2 := T3.out.U.cell 2
        have r3 := T3.out.U.cell 3
        simp at c0 c1 c2 c3 r0 r1 r2 r3
        go_region_with (first
          | (go_at_call 281; (with_reducible refine (KX.out _).mono ?_); rintro e w5 ⟨p0, p1, p2, p3, P, rfl, hP, hm, hb5⟩; have n0 := (hb5.cell (p := ⟨g9, 0, none⟩) l9).trans c0; have n1 := (hb5.cell (p := ⟨g9, 1, none⟩) l9).trans c1; have n2 := (hb5.cell (p := ⟨g9, 2, none⟩) l9).trans c2; have n3 := (hb5.cell (p := ⟨g9, 3, none⟩) l9).trans c3; have HP := Lib.hid hP; have HMM := Lib.hid hm; have T5 := Lib.hid (T3.out.drew.below hb5); clear hP hm)
          | (go_at_call 280; (with_reducible refine (subV HQ.out HP.out _).mono ?_); rintro e w6 ⟨v0, v1, v2, v3, V, rfl, hV, hv, hb6⟩; have T6 := Lib.hid (T5.out.below hb6); have s0 := T6.out.U.cell 0; have s1 := T6.out.U.cell 1; have s2 := T6.out.U.cell 2; have s3 := T6.out.U.cell 3; simp at s0 s1 s2 s3; have f0 := T6.out.U.frozen 0; have f1 := T6.out.U.frozen 1; have f2 := T6.out.U.frozen 2; have f3 := T6.out.U.frozen 3; have HV := Lib.hid hV; have HVV := Lib.hid hv; clear hV hv)
          | fail)
        all_goals
          go_wp2_with fail
          go_meet
          case rel => exact ⟨v0, v1, v2, v3, V, T6.out.set, HV.out, lessFin HX.out HJ.out hk1 HD.out HQ'.out hYn.out HUn.out HU.out.lt HMM.out HVV.out⟩
      case rest =>
        obtain ⟨v0, v1, v2, v3, V, hT', hV, hVn⟩ := hcut
        have T' := Lib.hid hT'
        have HV := Lib.hid hV
        have HVn := Lib.hid hVn
        clear hT' hV hVn y0' y1' y2' y3' hDw d0 d1 KD
        go_wp2
        go_roundw
        case rel => exact ⟨k - 1, by omega, by omega, rfl, v0, v1, v2, v3, V, T'.out, HV.out, by have := HJ.out; rw [show (k - 1).toNat = j by omega]; exact HVn.out⟩
        case measure => simp [intOf]; omega
    · have hk : k = 0 := by omega
      subst hk
      have z0 := T.out.C.cell 0
      have z1 := T.out.C.cell 1
      have z2 := T.out.C.cell 2
      have z3 := T.out.C.cell 3
      have f0 := T.out.C.frozen 0
      have f1 := T.out.C.frozen 1
      have f2 := T.out.C.frozen 2
      have f3 := T.out.C.frozen 3
      have x0 := T.out.U.cell 0
      have x1 := T.out.U.cell 1
      have x2 := T.out.U.cell 2
      have x3 := T.out.U.cell 3
      simp at x0 x1 x2 x3 z0 z1 z2 z3
      go_wp2
      refine bodyPost_ret (v := num4 u0 u1 u2 u3) (by simp [results, Tryz.results282, go_sem, *]) rfl ⟨u0, u1, u2, u3, U, rfl, HU.out, by simpa using HUn.out, ?_⟩
      exact (((T.out.bl.setCell (by simp) _).setCell (by simp) _).setCell (by simp) _).setCell (by simp) _
end Go.Proofs.YtifdgdgfmjfbdaaGreat
namespace Go.Proofs.YtifdgdgfmjfbdaaGreat
open Go.RowKit
theorem top_word {v0 v1 v2 v3 : Int} {V : Nat} (h : NV v0 v1 v2 v3 V) : v0 / 17179869184 = ((V / 107839786668602559178668060348078522694548577690162289924414440996864 : Nat) : Int) ∧ 0 ≤ v0 ∧ v0 ≤ 18446744073709551615 := by
  have h1 := h.v
  obtain ⟨a0, b0⟩ := h.u0
  obtain ⟨a1, b1⟩ := h.u1
  obtain ⟨a2, b2⟩ := h.u2
  obtain ⟨a3, b3⟩ := h.u3
  unfold nv at h1
  omega
theorem r_low {r : Nat} (h : 1 ≤ r) : 1 / 2 ^ 22 ≤ (r : Rat) * Trig.th := by
  have h1 : (1 : Rat) ≤ (r : Rat) := by exact_mod_cast h
  have h2 : (1 : Rat) / 2 ^ 22 ≤ Trig.th := by decide +kernel
  have h3 : 0 ≤ Trig.th := by decide +kernel
  have := Rat.mul_nonneg (a := (r : Rat) - 1) (b := Trig.th) (by grind) h3
  generalize (1 : Rat) / 2 ^ 22 = z at *
  grind
/-- the floor of the sine -/
theorem sin_floor {r X U P V : Nat} (hr : r ≤ 2700000) (h1 : 1 ≤ r) (hne : r ≠ 1800000) (hX : X = Trig.radN r) (hU : Trig.Nr (U : Rat) (Trig.Z * Trig.mis ((r : Rat) * Trig.th) 1 34) 8) (hul : U < Trig.ZN) (hP : Trig.MulOk X U P) (hV : (P ≤ X → V = X - P) ∧ (X < P → V = X + Trig.ZN - P)) :
    V / 107839786668602559178668060348078522694548577690162289924414440996864 = Trig.quickN r false / 4294967296 := by
  obtain ⟨x0, x1⟩ := Trig.ang_bd hr
  subst hX
  obtain ⟨a, b⟩ := Trig.sin_near x0 x1 (Trig.radN_near r) hU hul hP
  rw [hV.1 a]
  exact Trig.same_floor b (Trig.quick_sin hr) ((Trig.far_all h1 hr).2 hne)
theorem cos_floor {r U V : Nat} (hr : r ≤ 2700000) (h1 : 1 ≤ r) (hU : Trig.Nr (U : Rat) (Trig.Z * Trig.mis ((r : Rat) * Trig.th) 0 34) 8) (hul : U < Trig.ZN) (hV : (U ≤ 0 → V = 0 - U) ∧ (0 < U → V = 0 + Trig.ZN - U)) :
    V / 107839786668602559178668060348078522694548577690162289924414440996864 = Trig.quickN r true / 4294967296 := by
  obtain ⟨x0, x1⟩ := Trig.ang_bd hr
  obtain ⟨a, b⟩ := Trig.cos_near (r_low h1) x1 hU hul
  rw [hV.2 a, Nat.zero_add]
  exact Trig.same_floor b (Trig.quick_cos hr) (Trig.far_all h1 hr).1
theorem far4 {w : World} {p : Addr} {u a b c d : Value} {g : Nat} (h : w.cell? p = some u) (hp : p.block ≠ g) : ((((w.setCell ⟨g, 0, none⟩ a).setCell ⟨g, 1, none⟩ b).setCell ⟨g, 2, none⟩ c).setCell ⟨g, 3, none⟩ d).cell? p = some u := by
  have hne : ∀ i, (⟨g, i, none⟩ : Addr) ≠ p := fun i e => hp (by rw [← e])
  rw [World.cell?_setCell_other _ _ _ _ (hne 3), World.cell?_setCell_other _ _ _ _ (hne 2), World.cell?_setCell_other _ _ _ _ (hne 1), World.cell?_setCell_other _ _ _ _ (hne 0)]
  exact h
theorem nz : NV 0 0 0 0 0 := ⟨hz, hz, hz, hz, rfl⟩
set_option maxHeartbeats 4000000 in
set_option maxRecDepth 100000 in
theorem sine_hi (n : Int) (w : World) (h1 : 2700000 < n) (h2 : n < 5400000) :
    Calls Tryz.prog 252 #[.int .i64 n] w fun e w' => e = .returned (.tuple #[.int .i64 (Trig.sF n), .bool (Trig.exN n)]) ∧ Below w.heap.size w w' := by
  obtain ⟨r, hr⟩ : ∃ r : Nat, r = (5400000 - n).toNat := ⟨_, rfl⟩
  have hs : Trig.sF n = ((Trig.quickN r true / 4294967296 : Nat) : Int) := by
    unfold Trig.sF
    rw [if_neg (by omega), if_neg (by omega), if_neg (by omega), if_neg (by omega), hr]
  have hx : Trig.exN n = false := by
    unfold Trig.exN
    rw [decide_eq_false (by omega : ¬ n = 0), decide_eq_false (by omega : ¬ n = 1800000), decide_eq_false (by omega : ¬ n = 5400000)]
    rfl
  rw [hs, hx]
  have KR := Lib.hid (fun W => radiansV (5400000 - n) W (by omega) (by omega))
  have HR := Lib.hid hr
  have e1 : (n == 0) = false := by rw [beq_eq_false_iff_ne]; omega
  have e2 : (n == 1800000) = false := by rw [beq_eq_false_iff_ne]; omega
  have e3 : (n == 5400000) = false := by rw [beq_eq_false_iff_ne]; omega
  have e4 : decide (2 * n ≤ 5400000) = false := decide_eq_false (by omega)
  have hr1 : r ≤ 2700000 := by omega
  have hr2 : 1 ≤ r := by omega
  clear hs hx hr
  go_enter Tryz.func252, Tryz.ntmps252
  go_wp2_with fail
  (with_reducible refine (KR.out _).mono ?_)
  rintro e w1 ⟨x0, x1, x2, x3, X, rfl, hX, hXr, hb1⟩
  have hXr' : X = Trig.radN r := by rw [hXr, ← HR.out]
  rw [hXr'] at hX
  have KL : Hid (∀ W, Calls Tryz.prog 282 #[num4 x0 x1 x2 x3, .int .u64 0] W (RetN (fun V => Trig.Nr (V : Rat) (Trig.Z * Trig.mis ((r : Rat) * Trig.th) 0 34) 8) W)) := Lib.hid (fun W => lessV hX hr1 0 (by omega) W)
  have hz1 := one_lt hb1
  have hC := (Blk.new w 267 (arr4 0 0 0 0)).below hb1 (by simp)
  have hbl1 := one_bl hb1
  have HC := Lib.hid hC
  clear hX hXr hXr' hb1 hC KR
  go_wp2_with fail
  (with_reducible refine (KL.out _).mono ?_)
  rintro e w2 ⟨u0, u1, u2, u3, U, rfl, hU, hUn, hb2⟩
  have HU := Lib.hid hU
  have HUn := Lib.hid hUn
  have HC2 := Lib.hid (HC.out.below hb2 HC.out.lt)
  have hbl2 := hbl1.trans (hb2.mono hbl1.size)
  clear hU hUn HC hb2 hbl1 KL
  go_wp2_with fail
  (with_reducible refine (subV nz HU.out _).mono ?_)
  rintro e w3 ⟨v0, v1, v2, v3, V, rfl, hV, hv, hb3⟩
  have HC3 := Lib.hid (HC2.out.below hb3 HC2.out.lt)
  have hbl3 := hbl2.trans (hb3.mono hbl2.size)
  have HVF := Lib.hid (cos_floor hr1 hr2 HUn.out HU.out.lt hv)
  obtain ⟨ht, b0, b1⟩ := top_word hV
  have HT := Lib.hid ht
  have z0 := HC3.out.cell 0
  have z1 := HC3.out.cell 1
  have z2 := HC3.out.cell 2
  have z3 := HC3.out.cell 3
  have f0 := HC3.out.frozen 0
  have f1 := HC3.out.frozen 1
  have f2 := HC3.out.frozen 2
  have f3 := HC3.out.frozen 3
  simp at z0 z1 z2 z3
  clear hV hv hb3 hbl2 ht HC2
  go_wp2
  go_ret2
  refine ⟨?_, (((hbl3.setCell (Nat.le_refl _) _).setCell (Nat.le_refl _) _).setCell (Nat.le_refl _) _).setCell (Nat.le_refl _) _⟩
  rw [← HVF.out, ← HT.out]
  rfl
end Go.Proofs.YtifdgdgfmjfbdaaGreat
namespace Go.Proofs.YtifdgdgfmjfbdaaGreat
open Go.RowKit
set_option maxHeartbeats 4000000 in
set_option maxRecDepth 100000 in
theorem sine_lo (n : Int) (w : World) (h1 : 0 < n) (h2 : n ≤ 2700000) (hne : n ≠ 1800000) :
    Calls Tryz.prog 252 #[.int .i64 n] w fun e w' => e = .returned (.tuple #[.int .i64 (Trig.sF n), .bool (Trig.exN n)]) ∧ Below w.heap.size w w' := by
  obtain ⟨r, hr⟩ : ∃ r : Nat, r = n.toNat := ⟨_, rfl⟩
  have hs : Trig.sF n = ((Trig.quickN r false / 4294967296 : Nat) : Int) := by
    unfold Trig.sF
    rw [if_neg (by omega), if_neg (by omega), if_neg (by omega), if_pos (by omega), hr]
  have hx : Trig.exN n = false := by
    unfold Trig.exN
    rw [decide_eq_false (by omega : ¬ n = 0), decide_eq_false hne, decide_eq_false (by omega : ¬ n = 5400000)]
    rfl
  rw [hs, hx]
  have KR := Lib.hid (fun W => radiansV n W (by omega) (by omega))
  have HR := Lib.hid hr
  have e1 : (n == 0) = false := by rw [beq_eq_false_iff_ne]; omega
  have e2 : (n == 1800000) = false := by rw [beq_eq_false_iff_ne]; omega
  have e3 : (n == 5400000) = false := by rw [beq_eq_false_iff_ne]; omega
  have e4 : decide (2 * n ≤ 5400000) = true := decide_eq_true (by omega)
  have hr1 : r ≤ 2700000 := by omega
  have hr2 : 1 ≤ r := by omega
  have hr3 : r ≠ 1800000 := by omega
  have HR3 := Lib.hid hr3
  clear hs hx hr hne hr3
  go_enter Tryz.func252, Tryz.ntmps252
  go_wp2_with fail
  (with_reducible refine (KR.out _).mono ?_)
  rintro e w1 ⟨x0, x1, x2, x3, X, rfl, hX, hXr, hb1⟩
  have hXr' : X = Trig.radN r := by rw [hXr, ← HR.out]
  rw [hXr'] at hX
  have HX := Lib.hid hX
  have KL : Hid (∀ W, Calls Tryz.prog 282 #[num4 x0 x1 x2 x3, .int .u64 1] W (RetN (fun V => Trig.Nr (V : Rat) (Trig.Z * Trig.mis ((r : Rat) * Trig.th) 1 34) 8) W)) := Lib.hid (fun W => lessV hX hr1 1 (by omega) W)
  have hz1 := one_lt hb1
  have hC := ((Blk.new w 267 (arr4 0 0 0 0)).below hb1 (by simp)).alloc (.cells (arr4 x0 x1 x2 x3) 267)
  have hbl1 := (one_bl hb1).alloc (one_bl hb1).size (.cells (arr4 x0 x1 x2 x3) 267)
  have HC := Lib.hid hC
  have HB := Lib.hid (Blk.new w1 267 (arr4 x0 x1 x2 x3))
  clear hX hXr hXr' hb1 hC KR
  go_wp2
  unfold arr4 at HB HC hbl1
  generalize w1.alloc (.cells #[.int .u64 x0, .int .u64 x1, .int .u64 x2, .int .u64 x3] 267) = w2 at *
  have hlt : w.heap.size ≠ w1.heap.size := by omega
  generalize w1.heap.size = g at *
  have l9 := HB.out.lt
  have c0 := HB.out.cell 0
  have c1 := HB.out.cell 1
  have c2 := HB.out.cell 2
  have c3 := HB.out.cell 3
  simp at c0 c1 c2 c3
  go_region_held3 (fun w' => w'.cell? ⟨g, 0, none⟩ = some (.int .u64 x0) ∧ w'.cell? ⟨g, 1, none⟩ = some (.int .u64 x1) ∧ w'.cell? ⟨g, 2, none⟩ = some (.int .u64 x2) ∧ w'.cell? ⟨g, 3, none⟩ = some (.int .u64 x3)) (first | exact ⟨m0, m1, m2, m3⟩ | exact ⟨n0, n1, n2, n3⟩ | exact ⟨k0, k1, k2, k3⟩ | exact ⟨far4 m0 hlt.symm, far4 m1 hlt.symm, far4 m2 hlt.symm, far4 m3 hlt.symm⟩ | go_keep) (first
    | (go_at_call 282; (with_reducible refine (KL.out _).mono ?_); rintro e w3 ⟨u0, u1, u2, u3, U, rfl, hU, hUn, hb3⟩; have k0 := (hb3.cell (p := ⟨g, 0, none⟩) l9).trans c0; have k1 := (hb3.cell (p := ⟨g, 1, none⟩) l9).trans c1; have k2 := (hb3.cell (p := ⟨g, 2, none⟩) l9).trans c2; have k3 := (hb3.cell (p := ⟨g, 3, none⟩) l9).trans c3; have l10 := Nat.lt_of_lt_of_le l9 hb3.size; have HU := Lib.hid hU; have HUn := Lib.hid hUn; have KX := Lib.hid (fun W => mulV HX.out hU W); have HC3 := Lib.hid (HC.out.drew.below hb3 HC.out.lt); have hbl3 := (bl_drew hbl1).trans (hb3.mono hbl1.size); clear hU hUn hb3)
    | (go_at_call 281; (with_reducible refine (KX.out _).mono ?_); rintro e w4 ⟨p0, p1, p2, p3, P, rfl, hP, hm, hb4⟩; have n0 := (hb4.cell (p := ⟨g, 0, none⟩) l10).trans k0; have n1 := (hb4.cell (p := ⟨g, 1, none⟩) l10).trans k1; have n2 := (hb4.cell (p := ⟨g, 2, none⟩) l10).trans k2; have n3 := (hb4.cell (p := ⟨g, 3, none⟩) l10).trans k3; have l11 := Nat.lt_of_lt_of_le l10 hb4.size; have HP := Lib.hid hP; have HMM := Lib.hid hm; have HC4 := Lib.hid (HC3.out.below hb4 HC3.out.lt); have hbl4 := hbl3.trans (hb4.mono hbl3.size); clear hP hm hb4)
    | (go_at_call 280; (with_reducible refine (subV HX.out HP.out _).mono ?_); rintro e w5 ⟨v0, v1, v2, v3, V, rfl, hV, hv, hb5⟩; have m0 := (hb5.cell (p := ⟨g, 0, none⟩) l11).trans n0; have m1 := (hb5.cell (p := ⟨g, 1, none⟩) l11).trans n1; have m2 := (hb5.cell (p := ⟨g, 2, none⟩) l11).trans n2; have m3 := (hb5.cell (p := ⟨g, 3, none⟩) l11).trans n3; have HC5 := Lib.hid (HC4.out.below hb5 HC4.out.lt); have hbl5 := hbl4.trans (hb5.mono hbl4.size); have HVF := Lib.hid (sin_floor hr1 hr2 HR3.out rfl HUn.out HU.out.lt HMM.out hv); have HTW := Lib.hid (top_word hV); have z0 := HC5.out.cell 0; have z1 := HC5.out.cell 1; have z2 := HC5.out.cell 2; have z3 := HC5.out.cell 3; have f0 := HC5.out.frozen 0; have f1 := HC5.out.frozen 1; have f2 := HC5.out.frozen 2; have f3 := HC5.out.frozen 3; simp at z0 z1 z2 z3; clear hV hv hb5)
    | fail)
  obtain ⟨ht, b0, b1⟩ := HTW.out
  have HT := Lib.hid ht
  clear ht
  go_wp2
  go_ret2
  refine ⟨?_, (((hbl5.setCell (Nat.le_refl _) _).setCell (Nat.le_refl _) _).setCell (Nat.le_refl _) _).setCell (Nat.le_refl _) _⟩
  rw [← HVF.out, ← HT.out]
  rfl
end Go.Proofs.YtifdgdgfmjfbdaaGreat
