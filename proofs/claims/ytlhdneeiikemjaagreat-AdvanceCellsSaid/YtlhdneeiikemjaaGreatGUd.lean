/- Numbers of 256 digits by their values: what trig's difference, quotient and product give. -/
import Derived.Test.YtlhdneeiikemjaaGreatGUc
import Derived.Test.YtlhdneeiikemjaaGreatGShelfT
import Derived.Test.YtlhdneeiikemjaaGreatGUe
set_option linter.unusedVariables false
set_option linter.unusedSimpArgs false
/- The walk of trig's quotient of a number by a small one. -/
namespace Go.Proofs.YtlhdneeiikemjaaGreat
open Go.RowKit
/-- two blocks of four words, at the end of the memory that was there -/
structure One4 (w wx : World) (a0 a1 a2 a3 : Int) : Prop where
  bl : Below w.heap.size w wx
  A : Blk wx w.heap.size 229 (arr4 a0 a1 a2 a3)
  C : Blk wx (w.heap.size + 1) 229 (arr4 0 0 0 0)
theorem One4.drewN {w wx : World} {a0 a1 a2 a3 : Int} (h : One4 w wx a0 a1 a2 a3) (n : Nat) : One4 w (wx.drewN n) a0 a1 a2 a3 := ⟨bl_drewN h.bl n, h.A, h.C⟩
theorem One4.start (w : World) (a0 a1 a2 a3 : Int) : One4 w ((w.alloc (.cells (arr4 a0 a1 a2 a3) 229)).alloc (.cells (arr4 0 0 0 0) 229)) a0 a1 a2 a3 := by
  refine ⟨?_, ?_, ?_⟩
  · exact ((Below.refl _ _).alloc (Nat.le_refl _) _).alloc (by simp) _
  · exact (Blk.new w 229 (arr4 a0 a1 a2 a3)).alloc _
  · have := Blk.new (w.alloc (.cells (arr4 a0 a1 a2 a3) 229)) 229 (arr4 0 0 0 0)
    simpa using this
theorem One4.set_ {w wx : World} {a0 a1 a2 a3 : Int} (h : One4 w wx a0 a1 a2 a3) (i : Nat) (u : Value) : 
    Below w.heap.size w (wx.setCell ⟨w.heap.size, i, none⟩ u) ∧ Blk (wx.setCell ⟨w.heap.size, i, none⟩ u) w.heap.size 229 ((arr4 a0 a1 a2 a3).setIfInBounds i u) ∧ Blk (wx.setCell ⟨w.heap.size, i, none⟩ u) (w.heap.size + 1) 229 (arr4 0 0 0 0) :=
  ⟨h.bl.setCell (Nat.le_refl _) _, h.A.set_ i u, h.C.far (by simp) u⟩

theorem One4.set0 {w wx : World} {a0 a1 a2 a3 d : Int} (h : One4 w wx a0 a1 a2 a3) : One4 w (wx.setCell ⟨w.heap.size, 0, none⟩ (.int .u64 d)) d a1 a2 a3 := by
  obtain ⟨h1, h2, h3⟩ := h.set_ 0 (.int .u64 d)
  exact ⟨h1, h2, h3⟩
theorem One4.set1 {w wx : World} {a0 a1 a2 a3 d : Int} (h : One4 w wx a0 a1 a2 a3) : One4 w (wx.setCell ⟨w.heap.size, 1, none⟩ (.int .u64 d)) a0 d a2 a3 := by
  obtain ⟨h1, h2, h3⟩ := h.set_ 1 (.int .u64 d)
  exact ⟨h1, h2, h3⟩
theorem One4.set2 {w wx : World} {a0 a1 a2 a3 d : Int} (h : One4 w wx a0 a1 a2 a3) : One4 w (wx.setCell ⟨w.heap.size, 2, none⟩ (.int .u64 d)) a0 a1 d a3 := by
  obtain ⟨h1, h2, h3⟩ := h.set_ 2 (.int .u64 d)
  exact ⟨h1, h2, h3⟩
theorem One4.set3 {w wx : World} {a0 a1 a2 a3 d : Int} (h : One4 w wx a0 a1 a2 a3) : One4 w (wx.setCell ⟨w.heap.size, 3, none⟩ (.int .u64 d)) a0 a1 a2 d := by
  obtain ⟨h1, h2, h3⟩ := h.set_ 3 (.int .u64 d)
  exact ⟨h1, h2, h3⟩
def dvQ (t a d : Int) : Int := (t * 18446744073709551616 + a) / d
def dvR (t a d : Int) : Int := (t * 18446744073709551616 + a) % d
theorem dv_eq (t a d : Int) : dvQ t a d * d + dvR t a d = t * 18446744073709551616 + a := by
  unfold dvQ dvR
  rw [Int.mul_comm]
  exact Int.mul_ediv_add_emod _ _
theorem dvR_bd (t a : Int) {d : Int} (hd : 0 < d) : 0 ≤ dvR t a d ∧ dvR t a d < d := ⟨Int.emod_nonneg _ (by omega), Int.emod_lt_of_pos _ hd⟩
theorem dvQ_u {t a d : Int} (hd : 0 < d) (t0 : 0 ≤ t) (t1 : t < d) (ha : U64 a) : U64 (dvQ t a d) := by
  obtain ⟨a0, a1⟩ := ha
  refine ⟨Int.ediv_nonneg (by omega) (by omega), ?_⟩
  unfold dvQ
  refine Int.ediv_lt_of_lt_mul hd ?_
  have := Int.mul_le_mul_of_nonneg_right (show t + 1 ≤ d by omega) (show (0 : Int) ≤ 18446744073709551616 by omega)
  rw [Int.mul_comm d] at this
  omega
set_option maxHeartbeats 2000000 in
set_option maxRecDepth 100000 in
theorem divN_any (a0 a1 a2 a3 t0 d : Int) (w : World) (ha0 : U64 a0) (ha1 : U64 a1) (ha2 : U64 a2) (ha3 : U64 a3) (hd0 : 0 < d) (hd1 : d < 4294967296) (h0 : 0 ≤ t0) (h1 : t0 < d) :
    Calls Tryz.prog 279 #[num4 a0 a1 a2 a3, .int .u64 t0, .int .u64 d] w fun e w' => e = .returned (num4 (dvQ t0 a0 d) (dvQ (dvR t0 a0 d) a1 d) (dvQ (dvR (dvR t0 a0 d) a1 d) a2 d) (dvQ (dvR (dvR (dvR t0 a0 d) a1 d) a2 d) a3 d)) ∧ Below w.heap.size w w' := by
  have K0 : Hid (∀ W, Calls Tryz.prog 255 #[.int .u64 t0, .int .u64 a0, .int .u64 d] W fun e w' => e = .returned (.tuple #[.int .u64 (dvQ t0 a0 d), .int .u64 (dvR t0 a0 d)]) ∧ ∃ n, w' = W.drewN n) := Lib.hid (fun W => div64 t0 a0 d W hd0 hd1 h0 h1 ha0)
  have c0 := dvR_bd t0 a0 hd0
  generalize dvR t0 a0 d = t1 at *
  generalize dvQ t0 a0 d = q0 at *
  have K1 : Hid (∀ W, Calls Tryz.prog 255 #[.int .u64 t1, .int .u64 a1, .int .u64 d] W fun e w' => e = .returned (.tuple #[.int .u64 (dvQ t1 a1 d), .int .u64 (dvR t1 a1 d)]) ∧ ∃ n, w' = W.drewN n) := Lib.hid (fun W => div64 t1 a1 d W hd0 hd1 c0.1 c0.2 ha1)
  have c1 := dvR_bd t1 a1 hd0
  generalize dvR t1 a1 d = t2 at *
  generalize dvQ t1 a1 d = q1 at *
  have K2 : Hid (∀ W, Calls Tryz.prog 255 #[.int .u64 t2, .int .u64 a2, .int .u64 d] W fun e w' => e = .returned (.tuple #[.int .u64 (dvQ t2 a2 d), .int .u64 (dvR t2 a2 d)]) ∧ ∃ n, w' = W.drewN n) := Lib.hid (fun W => div64 t2 a2 d W hd0 hd1 c1.1 c1.2 ha2)
  have c2 := dvR_bd t2 a2 hd0
  generalize dvR t2 a2 d = t3 at *
  generalize dvQ t2 a2 d = q2 at *
  have K3 : Hid (∀ W, Calls Tryz.prog 255 #[.int .u64 t3, .int .u64 a3, .int .u64 d] W fun e w' => e = .returned (.tuple #[.int .u64 (dvQ t3 a3 d), .int .u64 (dvR t3 a3 d)]) ∧ ∃ n, w' = W.drewN n) := Lib.hid (fun W => div64 t3 a3 d W hd0 hd1 c2.1 c2.2 ha3)
  have c3 := dvR_bd t3 a3 hd0
  generalize dvR t3 a3 d = t4 at *
  generalize dvQ t3 a3 d = q3 at *
  clear ha0 ha1 ha2 ha3 hd0 hd1 h0 h1 c0 c1 c2 c3
  go_enter Tryz.func279, Tryz.ntmps279
  go_wp2
  have T0 := Lib.hid (One4.start w a0 a1 a2 a3)
  unfold arr4 at T0
  generalize (w.alloc (.cells #[.int .u64 a0, .int .u64 a1, .int .u64 a2, .int .u64 a3] 229)).alloc (.cells #[.int .u64 0, .int .u64 0, .int .u64 0, .int .u64 0] 229) = w0 at *
  refine wp_loop_rounds 5 ?_
  rw [rounds_succ]
  have x := T0.out.A.cell 0
  simp at x
  go_wp2_with fail
  (with_reducible refine (K0.out _).mono ?_)
  rintro e wy ⟨rfl, n, rfl⟩
  have x := (T0.out.drewN n).A.cell 0
  have f := (T0.out.drewN n).A.frozen 0
  simp at x
  go_wp2
  have T1 := Lib.hid ((T0.out.drewN n).set0 (d := q0))
  generalize ((w0.drewN n).setCell ⟨w.heap.size, 0, none⟩ (.int .u64 q0)) = w1 at *
  clear x f K0 T0
  rw [rounds_succ]
  have x := T1.out.A.cell 1
  simp at x
  go_wp2_with fail
  (with_reducible refine (K1.out _).mono ?_)
  rintro e wy ⟨rfl, n, rfl⟩
  have x := (T1.out.drewN n).A.cell 1
  have f := (T1.out.drewN n).A.frozen 1
  simp at x
  go_wp2
  have T2 := Lib.hid ((T1.out.drewN n).set1 (d := q1))
  generalize ((w1.drewN n).setCell ⟨w.heap.size, 1, none⟩ (.int .u64 q1)) = w2 at *
  clear x f K1 T1
  rw [rounds_succ]
  have x := T2.out.A.cell 2
  simp at x
  go_wp2_with fail
  (with_reducible refine (K2.out _).mono ?_)
  rintro e wy ⟨rfl, n, rfl⟩
  have x := (T2.out.drewN n).A.cell 2
  have f := (T2.out.drewN n).A.frozen 2
  simp at x
  go_wp2
  have T3 := Lib.hid ((T2.out.drewN n).set2 (d := q2))
  generalize ((w2.drewN n).setCell ⟨w.heap.size, 2, none⟩ (.int .u64 q2)) = w3 at *
  clear x f K2 T2
  rw [rounds_succ]
  have x := T3.out.A.cell 3
  simp at x
  go_wp2_with fail
  (with_reducible refine (K3.out _).mono ?_)
  rintro e wy ⟨rfl, n, rfl⟩
  have x := (T3.out.drewN n).A.cell 3
  have f := (T3.out.drewN n).A.frozen 3
  simp at x
  go_wp2
  have T4 := Lib.hid ((T3.out.drewN n).set3 (d := q3))
  generalize ((w3.drewN n).setCell ⟨w.heap.size, 3, none⟩ (.int .u64 q3)) = w4 at *
  clear x f K3 T3
  rw [rounds_succ]
  have x0 := T4.out.A.cell 0
  have x1 := T4.out.A.cell 1
  have x2 := T4.out.A.cell 2
  have x3 := T4.out.A.cell 3
  have z0 := T4.out.C.cell 0
  have z1 := T4.out.C.cell 1
  have z2 := T4.out.C.cell 2
  have z3 := T4.out.C.cell 3
  have f0 := T4.out.C.frozen 0
  have f1 := T4.out.C.frozen 1
  have f2 := T4.out.C.frozen 2
  have f3 := T4.out.C.frozen 3
  simp at x0 x1 x2 x3 z0 z1 z2 z3
  go_wp2
  refine bodyPost_ret (v := num4 q0 q1 q2 q3) (by simp [results, Tryz.results279, go_sem, *]) rfl ⟨rfl, ?_⟩
  exact (((T4.out.bl.setCell (by simp) _).setCell (by simp) _).setCell (by simp) _).setCell (by simp) _
end Go.Proofs.YtlhdneeiikemjaaGreat
namespace Go.Proofs.YtlhdneeiikemjaaGreat
open Go.RowKit
theorem prod_gen (M M2 M3 M4 a0 a1 a2 a3 b0 b1 b2 b3 : Int) (h2 : M2 = M * M) (h3 : M3 = M2 * M) (h4 : M4 = M3 * M) :
    (a0 * M3 + a1 * M2 + a2 * M + a3) * (b0 * M3 + b1 * M2 + b2 * M + b3) = (a3 * b1 + a3 * b0 * M + (a2 * b2 + a2 * b1 * M + a2 * b0 * M2) + (a1 * b3 + a1 * b2 * M + a1 * b1 * M2 + a1 * b0 * M3) + (a0 * b3 * M + a0 * b2 * M2 + a0 * b1 * M3 + a0 * b0 * M4)) * M2 + (a2 * b3 + a3 * b2) * M + a3 * b3 := by
  subst h2 h3 h4
  grind
/-- a number of 256 digits, and its value -/
structure NV (a0 a1 a2 a3 : Int) (n : Nat) : Prop where
  u0 : U64 a0
  u1 : U64 a1
  u2 : U64 a2
  u3 : U64 a3
  v : nv a0 a1 a2 a3 = n
theorem nv_bd {a0 a1 a2 a3 : Int} (h0 : U64 a0) (h1 : U64 a1) (h2 : U64 a2) (h3 : U64 a3) : 0 ≤ nv a0 a1 a2 a3 ∧ nv a0 a1 a2 a3 < 115792089237316195423570985008687907853269984665640564039457584007913129639936 := by
  unfold U64 nv at *
  omega
theorem NV.lt {a0 a1 a2 a3 : Int} {n : Nat} (h : NV a0 a1 a2 a3 n) : n < Trig.ZN := by
  have := nv_bd h.u0 h.u1 h.u2 h.u3
  rw [h.v] at this
  unfold Trig.ZN
  omega
theorem NV.of {a0 a1 a2 a3 : Int} (h0 : U64 a0) (h1 : U64 a1) (h2 : U64 a2) (h3 : U64 a3) : NV a0 a1 a2 a3 (nv a0 a1 a2 a3).toNat := ⟨h0, h1, h2, h3, (Int.toNat_of_nonneg (nv_bd h0 h1 h2 h3).1).symm⟩
/-- a call returns a number of which something is said -/
def RetN (p : Nat → Prop) (w : World) (e : Ending) (w' : World) : Prop := ∃ v0 v1 v2 v3 : Int, ∃ V : Nat, e = .returned (num4 v0 v1 v2 v3) ∧ NV v0 v1 v2 v3 V ∧ p V ∧ Below w.heap.size w w'
theorem prod_eq (a0 a1 a2 a3 b0 b1 b2 b3 : Int) : nv a0 a1 a2 a3 * nv b0 b1 b2 b3 = (a3 * b1 + a3 * b0 * 18446744073709551616 + (a2 * b2 + a2 * b1 * 18446744073709551616 + a2 * b0 * 340282366920938463463374607431768211456) + (a1 * b3 + a1 * b2 * 18446744073709551616 + a1 * b1 * 340282366920938463463374607431768211456 + a1 * b0 * 6277101735386680763835789423207666416102355444464034512896) + (a0 * b3 * 18446744073709551616 + a0 * b2 * 340282366920938463463374607431768211456 + a0 * b1 * 6277101735386680763835789423207666416102355444464034512896 + a0 * b0 * 115792089237316195423570985008687907853269984665640564039457584007913129639936)) * 340282366920938463463374607431768211456 + (a2 * b3 + a3 * b2) * 18446744073709551616 + a3 * b3 :=
  prod_gen 18446744073709551616 340282366920938463463374607431768211456 6277101735386680763835789423207666416102355444464034512896 115792089237316195423570985008687907853269984665640564039457584007913129639936 a0 a1 a2 a3 b0 b1 b2 b3 (by decide) (by decide) (by decide)
theorem mulV {a0 a1 a2 a3 b0 b1 b2 b3 : Int} {A B : Nat} (ha : NV a0 a1 a2 a3 A) (hb : NV b0 b1 b2 b3 B) (w : World) :
    Calls Tryz.prog 250 #[num4 a0 a1 a2 a3, num4 b0 b1 b2 b3] w (RetN (fun V => Trig.MulOk A B V) w) := by
  have hp := prod_eq a0 a1 a2 a3 b0 b1 b2 b3
  have la := nv_bd ha.u0 ha.u1 ha.u2 ha.u3
  have lb := nv_bd hb.u0 hb.u1 hb.u2 hb.u3
  have hlt : nv a0 a1 a2 a3 * nv b0 b1 b2 b3 ≤ 115792089237316195423570985008687907853269984665640564039457584007913129639935 * 115792089237316195423570985008687907853269984665640564039457584007913129639935 := Int.mul_le_mul (by omega) (by omega) lb.1 (by omega)
  have m1 := mul_lt ha.u2 hb.u3
  have m2 := mul_lt ha.u3 hb.u2
  have m3 := mul_lt ha.u3 hb.u3
  generalize hT : a3 * b1 + a3 * b0 * 18446744073709551616 + (a2 * b2 + a2 * b1 * 18446744073709551616 + a2 * b0 * 340282366920938463463374607431768211456) + (a1 * b3 + a1 * b2 * 18446744073709551616 + a1 * b1 * 340282366920938463463374607431768211456 + a1 * b0 * 6277101735386680763835789423207666416102355444464034512896) + (a0 * b3 * 18446744073709551616 + a0 * b2 * 340282366920938463463374607431768211456 + a0 * b1 * 6277101735386680763835789423207666416102355444464034512896 + a0 * b0 * 115792089237316195423570985008687907853269984665640564039457584007913129639936) = T at hp
  generalize a2 * b3 = x1 at *
  generalize a3 * b2 = x2 at *
  generalize a3 * b3 = x3 at *
  have hpp : ((A * B : Nat) : Int) = nv a0 a1 a2 a3 * nv b0 b1 b2 b3 := by rw [ha.v, hb.v, Int.natCast_mul]
  rw [hp] at hpp hlt
  refine (mulW a0 a1 a2 a3 b0 b1 b2 b3 w ha.u0 ha.u1 ha.u2 ha.u3 hb.u0 hb.u1 hb.u2 hb.u3 ?_).mono ?_
  · omega
  · rintro e w' ⟨⟨v0, v1, v2, v3, v4, v5, rfl, ⟨u0, u1, u2, u3, u4, u5⟩, hv⟩, hbl⟩
    have hv2 : nv6 v0 v1 v2 v3 v4 v5 = T := by rw [hv, ← hT]; omega
    refine ⟨v0, v1, v2, v3, (nv v0 v1 v2 v3).toNat, rfl, NV.of u0 u1 u2 u3, ?_, hbl⟩
    have hn := nv_bd u0 u1 u2 u3
    have e6 : nv6 v0 v1 v2 v3 v4 v5 = nv v0 v1 v2 v3 * 340282366920938463463374607431768211456 + v4 * 18446744073709551616 + v5 := by unfold nv6 nv; omega
    rw [hv2] at e6
    have hVc : (((nv v0 v1 v2 v3).toNat : Nat) : Int) = nv v0 v1 v2 v3 := Int.toNat_of_nonneg hn.1
    unfold U64 at u4 u5
    clear hv hv2 hT hp hlt
    generalize (nv v0 v1 v2 v3).toNat = V at *
    generalize nv v0 v1 v2 v3 = n at *
    subst hVc
    show Trig.MulOk A B V
    unfold Trig.MulOk Trig.ZN
    generalize A * B = P at *
    constructor
    · omega
    · omega
theorem divV {a0 a1 a2 a3 t d : Int} {A : Nat} (ha : NV a0 a1 a2 a3 A) (hd0 : 0 < d) (hd1 : d < 4294967296) (h0 : 0 ≤ t) (h1 : t < d) (w : World) :
    Calls Tryz.prog 279 #[num4 a0 a1 a2 a3, .int .u64 t, .int .u64 d] w (RetN (fun V => (V : Int) = (t * 115792089237316195423570985008687907853269984665640564039457584007913129639936 + A) / d) w) := by
  refine (divN_any a0 a1 a2 a3 t d w ha.u0 ha.u1 ha.u2 ha.u3 hd0 hd1 h0 h1).mono ?_
  rintro e w' ⟨rfl, hbl⟩
  have c0 := dvR_bd t a0 hd0
  have e0 := dv_eq t a0 d
  have q0 := dvQ_u hd0 h0 h1 ha.u0
  generalize dvQ t a0 d = Q0 at *
  generalize dvR t a0 d = R0 at *
  have c1 := dvR_bd R0 a1 hd0
  have e1 := dv_eq R0 a1 d
  have q1 := dvQ_u hd0 c0.1 c0.2 ha.u1
  generalize dvQ R0 a1 d = Q1 at *
  generalize dvR R0 a1 d = R1 at *
  have c2 := dvR_bd R1 a2 hd0
  have e2 := dv_eq R1 a2 d
  have q2 := dvQ_u hd0 c1.1 c1.2 ha.u2
  generalize dvQ R1 a2 d = Q2 at *
  generalize dvR R1 a2 d = R2 at *
  have c3 := dvR_bd R2 a3 hd0
  have e3 := dv_eq R2 a3 d
  have q3 := dvQ_u hd0 c2.1 c2.2 ha.u3
  generalize dvQ R2 a3 d = Q3 at *
  generalize dvR R2 a3 d = R3 at *
  refine ⟨Q0, Q1, Q2, Q3, (nv Q0 Q1 Q2 Q3).toNat, rfl, NV.of q0 q1 q2 q3, ?_, hbl⟩
  show (((nv Q0 Q1 Q2 Q3).toNat : Nat) : Int) = _
  rw [Int.toNat_of_nonneg (nv_bd q0 q1 q2 q3).1, ← ha.v]
  refine (((Int.ediv_emod_unique (r := R3) hd0).2 ⟨?_, c3⟩).1).symm
  unfold nv
  have f0 : d * (Q0 * 6277101735386680763835789423207666416102355444464034512896 + Q1 * 340282366920938463463374607431768211456 + Q2 * 18446744073709551616 + Q3) = Q0 * d * 6277101735386680763835789423207666416102355444464034512896 + Q1 * d * 340282366920938463463374607431768211456 + Q2 * d * 18446744073709551616 + Q3 * d := by grind
  rw [f0]
  omega
theorem subV {a0 a1 a2 a3 b0 b1 b2 b3 : Int} {A B : Nat} (ha : NV a0 a1 a2 a3 A) (hb : NV b0 b1 b2 b3 B) (w : World) :
    Calls Tryz.prog 249 #[num4 a0 a1 a2 a3, num4 b0 b1 b2 b3] w (RetN (fun V => (B ≤ A → V = A - B) ∧ (A < B → V = A + Trig.ZN - B)) w) := by
  refine (subN_any a0 a1 a2 a3 b0 b1 b2 b3 w ha.u0 ha.u1 ha.u2 ha.u3 hb.u0 hb.u1 hb.u2 hb.u3).mono ?_
  rintro e w' ⟨rfl, hbl⟩
  have e3 := su_eq ha.u3 hb.u3 (by omega : (0 : Int) ≤ 0) (by omega)
  have c3 := suB_bd a3 b3 0
  have u3 := suD_u a3 b3 0
  generalize suB a3 b3 0 = k3 at *
  generalize suD a3 b3 0 = d3 at *
  have e2 := su_eq ha.u2 hb.u2 c3.1 c3.2
  have c2 := suB_bd a2 b2 k3
  have u2 := suD_u a2 b2 k3
  generalize suB a2 b2 k3 = k2 at *
  generalize suD a2 b2 k3 = d2 at *
  have e1 := su_eq ha.u1 hb.u1 c2.1 c2.2
  have c1 := suB_bd a1 b1 k2
  have u1 := suD_u a1 b1 k2
  generalize suB a1 b1 k2 = k1 at *
  generalize suD a1 b1 k2 = d1 at *
  have e0 := su_eq ha.u0 hb.u0 c1.1 c1.2
  have c0 := suB_bd a0 b0 k1
  have u0 := suD_u a0 b0 k1
  generalize suB a0 b0 k1 = k0 at *
  generalize suD a0 b0 k1 = d0 at *
  refine ⟨d0, d1, d2, d3, (nv d0 d1 d2 d3).toNat, rfl, NV.of u0 u1 u2 u3, ?_, hbl⟩
  have hn := nv_bd u0 u1 u2 u3
  have hA := ha.v
  have hB := hb.v
  have lA := ha.lt
  have lB := hb.lt
  have hVc : (((nv d0 d1 d2 d3).toNat : Nat) : Int) = nv d0 d1 d2 d3 := Int.toNat_of_nonneg hn.1
  have hk : nv d0 d1 d2 d3 = nv a0 a1 a2 a3 - nv b0 b1 b2 b3 + k0 * 115792089237316195423570985008687907853269984665640564039457584007913129639936 := by
    unfold nv
    omega
  rw [hA, hB, ← hVc] at hk
  rw [← hVc] at hn
  generalize (nv d0 d1 d2 d3).toNat = V at *
  unfold Trig.ZN at *
  clear hA hB hVc e0 e1 e2 e3 u0 u1 u2 u3
  constructor
  · intro h
    have : k0 = 0 ∨ k0 = 1 := by omega
    rcases this with rfl | rfl <;> omega
  · intro h
    have : k0 = 0 ∨ k0 = 1 := by omega
    rcases this with rfl | rfl <;> omega
end Go.Proofs.YtlhdneeiikemjaaGreat
