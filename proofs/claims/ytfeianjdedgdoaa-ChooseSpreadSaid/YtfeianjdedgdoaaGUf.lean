/- The walk of trig's series. -/
import Derived.Test.YtfeianjdedgdoaaGUe
import Derived.Test.YtfeianjdedgdoaaGUc
set_option linter.unusedVariables false
set_option linter.unusedSimpArgs false
/- Numbers of 256 digits by their values: what trig's difference, quotient and product give. -/
namespace Go.Proofs.Ytfeianjdedgdoaa
open Go.RowKit
theorem prod_gen (M M2 M3 M4 a0 a1 a2 a3 b0 b1 b2 b3 : Int) (h2 : M2 = M * M) (h3 : M3 = M2 * M) (h4 : M4 = M3 * M) :
    (a0 * M3 + a1 * M2 + a2 * M + a3) * (b0 * M3 + b1 * M2 + b2 * M + b3) = (a3 * b1 + a3 * b0 * M + (a2 * b2 + a2 * b1 * M + a2 * b0 * M2) + (a1 * b3 + a1 * b2 * M + a1 * b1 * M2 + a1 * b0 * M3) + (a0 * b3 * M + a0 * b2 * M2 + a0 * b1 * M3 + a0 * b0 * M4)) * M2 + (a2 * b3 + a3 * b2) * M + a3 * b3 := by
  subst h2 h3 h4
  grind
/-- a number of 256 digits, and its value -/
structure NV (a0 a1 a2 a3 : Int) (n : Nat) : Prop where
  u0 : U64 a0
  u1 : U64 a1
  u2 : U64 a2
  u3 : U64 a3
  v : nv a0 a1 a2 a3 = n
theorem nv_bd {a0 a1 a2 a3 : Int} (h0 : U64 a0) (h1 : U64 a1) (h2 : U64 a2) (h3 : U64 a3) : 0 ≤ nv a0 a1 a2 a3 ∧ nv a0 a1 a2 a3 < 115792089237316195423570985008687907853269984665640564039457584007913129639936 := by
  unfold U64 nv at *
  omega
theorem NV.lt {a0 a1 a2 a3 : Int} {n : Nat} (h : NV a0 a1 a2 a3 n) : n < Trig.ZN := by
  have := nv_bd h.u0 h.u1 h.u2 h.u3
  rw [h.v] at this
  unfold Trig.ZN
  omega
theorem NV.of {a0 a1 a2 a3 : Int} (h0 : U64 a0) (h1 : U64 a1) (h2 : U64 a2) (h3 : U64 a3) : NV a0 a1 a2 a3 (nv a0 a1 a2 a3).toNat := ⟨h0, h1, h2, h3, (Int.toNat_of_nonneg (nv_bd h0 h1 h2 h3).1).symm⟩
/-- a call returns a number of which something is said -/
def RetN (p : Nat → Prop) (w : World) (e : Ending) (w' : World) : Prop := ∃ v0 v1 v2 v3 : Int, ∃ V : Nat, e = .returned (num4 v0 v1 v2 v3) ∧ NV v0 v1 v2 v3 V ∧ p V ∧ Below w.heap.size w w'
theorem prod_eq (a0 a1 a2 a3 b0 b1 b2 b3 : Int) : nv a0 a1 a2 a3 * nv b0 b1 b2 b3 = (a3 * b1 + a3 * b0 * 18446744073709551616 + (a2 * b2 + a2 * b1 * 18446744073709551616 + a2 * b0 * 340282366920938463463374607431768211456) + (a1 * b3 + a1 * b2 * 18446744073709551616 + a1 * b1 * 340282366920938463463374607431768211456 + a1 * b0 * 6277101735386680763835789423207666416102355444464034512896) + (a0 * b3 * 18446744073709551616 + a0 * b2 * 340282366920938463463374607431768211456 + a0 * b1 * 6277101735386680763835789423207666416102355444464034512896 + a0 * b0 * 115792089237316195423570985008687907853269984665640564039457584007913129639936)) * 340282366920938463463374607431768211456 + (a2 * b3 + a3 * b2) * 18446744073709551616 + a3 * b3 :=
  prod_gen 18446744073709551616 340282366920938463463374607431768211456 6277101735386680763835789423207666416102355444464034512896 115792089237316195423570985008687907853269984665640564039457584007913129639936 a0 a1 a2 a3 b0 b1 b2 b3 (by decide) (by decide) (by decide)
theorem mulV {a0 a1 a2 a3 b0 b1 b2 b3 : Int} {A B : Nat} (ha : NV a0 a1 a2 a3 A) (hb : NV b0 b1 b2 b3 B) (w : World) :
    Calls Try.prog 81 #[num4 a0 a1 a2 a3, num4 b0 b1 b2 b3] w (RetN (fun V => Trig.MulOk A B V) w) := by
  have hp := prod_eq a0 a1 a2 a3 b0 b1 b2 b3
  have la := nv_bd ha.u0 ha.u1 ha.u2 ha.u3
  have lb := nv_bd hb.u0 hb.u1 hb.u2 hb.u3
  have hlt : nv a0 a1 a2 a3 * nv b0 b1 b2 b3 ≤ 115792089237316195423570985008687907853269984665640564039457584007913129639935 * 115792089237316195423570985008687907853269984665640564039457584007913129639935 := Int.mul_le_mul (by omega) (by omega) lb.1 (by omega)
  have m1 := mul_lt ha.u2 hb.u3
  have m2 := mul_lt ha.u3 hb.u2
  have m3 := mul_lt ha.u3 hb.u3
  generalize hT : a3 * b1 + a3 * b0 * 18446744073709551616 + (a2 * b2 + a2 * b1 * 18446744073709551616 + a2 * b0 * 340282366920938463463374607431768211456) + (a1 * b3 + a1 * b2 * 18446744073709551616 + a1 * b1 * 340282366920938463463374607431768211456 + a1 * b0 * 6277101735386680763835789423207666416102355444464034512896) + (a0 * b3 * 18446744073709551616 + a0 * b2 * 340282366920938463463374607431768211456 + a0 * b1 * 6277101735386680763835789423207666416102355444464034512896 + a0 * b0 * 115792089237316195423570985008687907853269984665640564039457584007913129639936) = T at hp
  generalize a2 * b3 = x1 at *
  generalize a3 * b2 = x2 at *
  generalize a3 * b3 = x3 at *
  have hpp : ((A * B : Nat) : Int) = nv a0 a1 a2 a3 * nv b0 b1 b2 b3 := by rw [ha.v, hb.v, Int.natCast_mul]
  rw [hp] at hpp hlt
  refine (mulW a0 a1 a2 a3 b0 b1 b2 b3 w ha.u0 ha.u1 ha.u2 ha.u3 hb.u0 hb.u1 hb.u2 hb.u3 ?_).mono ?_
  · omega
  · rintro e w' ⟨⟨v0, v1, v2, v3, v4, v5, rfl, ⟨u0, u1, u2, u3, u4, u5⟩, hv⟩, hbl⟩
    have hv2 : nv6 v0 v1 v2 v3 v4 v5 = T := by rw [hv, ← hT]; omega
    refine ⟨v0, v1, v2, v3, (nv v0 v1 v2 v3).toNat, rfl, NV.of u0 u1 u2 u3, ?_, hbl⟩
    have hn := nv_bd u0 u1 u2 u3
    have e6 : nv6 v0 v1 v2 v3 v4 v5 = nv v0 v1 v2 v3 * 340282366920938463463374607431768211456 + v4 * 18446744073709551616 + v5 := by unfold nv6 nv; omega
    rw [hv2] at e6
    have hVc : (((nv v0 v1 v2 v3).toNat : Nat) : Int) = nv v0 v1 v2 v3 := Int.toNat_of_nonneg hn.1
    unfold U64 at u4 u5
    clear hv hv2 hT hp hlt
    generalize (nv v0 v1 v2 v3).toNat = V at *
    generalize nv v0 v1 v2 v3 = n at *
    subst hVc
    show Trig.MulOk A B V
    unfold Trig.MulOk Trig.ZN
    generalize A * B = P at *
    constructor
    · omega
    · omega
theorem divV {a0 a1 a2 a3 t d : Int} {A : Nat} (ha : NV a0 a1 a2 a3 A) (hd0 : 0 < d) (hd1 : d < 4294967296) (h0 : 0 ≤ t) (h1 : t < d) (w : World) :
    Calls Try.prog 86 #[num4 a0 a1 a2 a3, .int .u64 t, .int .u64 d] w (RetN (fun V => (V : Int) = (t * 115792089237316195423570985008687907853269984665640564039457584007913129639936 + A) / d) w) := by
  refine (divN_any a0 a1 a2 a3 t d w ha.u0 ha.u1 ha.u2 ha.u3 hd0 hd1 h0 h1).mono ?_
  rintro e w' ⟨rfl, hbl⟩
  have c0 := dvR_bd t a0 hd0
  have e0 := dv_eq t a0 d
  have q0 := dvQ_u hd0 h0 h1 ha.u0
  generalize dvQ t a0 d = Q0 at *
  generalize dvR t a0 d = R0 at *
  have c1 := dvR_bd R0 a1 hd0
  have e1 := dv_eq R0 a1 d
  have q1 := dvQ_u hd0 c0.1 c0.2 ha.u1
  generalize dvQ R0 a1 d = Q1 at *
  generalize dvR R0 a1 d = R1 at *
  have c2 := dvR_bd R1 a2 hd0
  have e2 := dv_eq R1 a2 d
  have q2 := dvQ_u hd0 c1.1 c1.2 ha.u2
  generalize dvQ R1 a2 d = Q2 at *
  generalize dvR R1 a2 d = R2 at *
  have c3 := dvR_bd R2 a3 hd0
  have e3 := dv_eq R2 a3 d
  have q3 := dvQ_u hd0 c2.1 c2.2 ha.u3
  generalize dvQ R2 a3 d = Q3 at *
  generalize dvR R2 a3 d = R3 at *
  refine ⟨Q0, Q1, Q2, Q3, (nv Q0 Q1 Q2 Q3).toNat, rfl, NV.of q0 q1 q2 q3, ?_, hbl⟩
  show (((nv Q0 Q1 Q2 Q3).toNat : Nat) : Int) = _
  rw [Int.toNat_of_nonneg (nv_bd q0 q1 q2 q3).1, ← ha.v]
  refine (((Int.ediv_emod_unique (r := R3) hd0).2 ⟨?_, c3⟩).1).symm
  unfold nv
  have f0 : d * (Q0 * 6277101735386680763835789423207666416102355444464034512896 + Q1 * 340282366920938463463374607431768211456 + Q2 * 18446744073709551616 + Q3) = Q0 * d * 6277101735386680763835789423207666416102355444464034512896 + Q1 * d * 340282366920938463463374607431768211456 + Q2 * d * 18446744073709551616 + Q3 * d := by grind
  rw [f0]
  omega
theorem subV {a0 a1 a2 a3 b0 b1 b2 b3 : Int} {A B : Nat} (ha : NV a0 a1 a2 a3 A) (hb : NV b0 b1 b2 b3 B) (w : World) :
    Calls Try.prog 80 #[num4 a0 a1 a2 a3, num4 b0 b1 b2 b3] w (RetN (fun V => (B ≤ A → V = A - B) ∧ (A < B → V = A + Trig.ZN - B)) w) := by
  refine (subN_any a0 a1 a2 a3 b0 b1 b2 b3 w ha.u0 ha.u1 ha.u2 ha.u3 hb.u0 hb.u1 hb.u2 hb.u3).mono ?_
  rintro e w' ⟨rfl, hbl⟩
  have e3 := su_eq ha.u3 hb.u3 (by omega : (0 : Int) ≤ 0) (by omega)
  have c3 := suB_bd a3 b3 0
  have u3 := suD_u a3 b3 0
  generalize suB a3 b3 0 = k3 at *
  generalize suD a3 b3 0 = d3 at *
  have e2 := su_eq ha.u2 hb.u2 c3.1 c3.2
  have c2 := suB_bd a2 b2 k3
  have u2 := suD_u a2 b2 k3
  generalize suB a2 b2 k3 = k2 at *
  generalize suD a2 b2 k3 = d2 at *
  have e1 := su_eq ha.u1 hb.u1 c2.1 c2.2
  have c1 := suB_bd a1 b1 k2
  have u1 := suD_u a1 b1 k2
  generalize suB a1 b1 k2 = k1 at *
  generalize suD a1 b1 k2 = d1 at *
  have e0 := su_eq ha.u0 hb.u0 c1.1 c1.2
  have c0 := suB_bd a0 b0 k1
  have u0 := suD_u a0 b0 k1
  generalize suB a0 b0 k1 = k0 at *
  generalize suD a0 b0 k1 = d0 at *
  refine ⟨d0, d1, d2, d3, (nv d0 d1 d2 d3).toNat, rfl, NV.of u0 u1 u2 u3, ?_, hbl⟩
  have hn := nv_bd u0 u1 u2 u3
  have hA := ha.v
  have hB := hb.v
  have lA := ha.lt
  have lB := hb.lt
  have hVc : (((nv d0 d1 d2 d3).toNat : Nat) : Int) = nv d0 d1 d2 d3 := Int.toNat_of_nonneg hn.1
  have hk : nv d0 d1 d2 d3 = nv a0 a1 a2 a3 - nv b0 b1 b2 b3 + k0 * 115792089237316195423570985008687907853269984665640564039457584007913129639936 := by
    unfold nv
    omega
  rw [hA, hB, ← hVc] at hk
  rw [← hVc] at hn
  generalize (nv d0 d1 d2 d3).toNat = V at *
  unfold Trig.ZN at *
  clear hA hB hVc e0 e1 e2 e3 u0 u1 u2 u3
  constructor
  · intro h
    have : k0 = 0 ∨ k0 = 1 := by omega
    rcases this with rfl | rfl <;> omega
  · intro h
    have : k0 = 0 ∨ k0 = 1 := by omega
    rcases this with rfl | rfl <;> omega
end Go.Proofs.Ytfeianjdedgdoaa
/- The walk of trig's angle of some units. -/
namespace Go.Proofs.Ytfeianjdedgdoaa
open Go.RowKit
/-- a result and a number, at the end of the memory that was there -/
structure R2 (w wx : World) (a0 a1 a2 a3 : Int) : Prop where
  bl : Below w.heap.size w wx
  A : Blk wx (w.heap.size + 1) 111 (arr4 a0 a1 a2 a3)
  C : Blk wx w.heap.size 111 (arr4 0 0 0 0)
theorem R2.start (w : World) (a0 a1 a2 a3 : Int) : R2 w ((w.alloc (.cells (arr4 0 0 0 0) 111)).alloc (.cells (arr4 a0 a1 a2 a3) 111)) a0 a1 a2 a3 := by
  refine ⟨?_, ?_, ?_⟩
  · exact ((Below.refl _ _).alloc (Nat.le_refl _) _).alloc (by simp) _
  · have := Blk.new (w.alloc (.cells (arr4 0 0 0 0) 111)) 111 (arr4 a0 a1 a2 a3)
    simpa using this
  · exact (Blk.new w 111 (arr4 0 0 0 0)).alloc _
theorem R2.set_ {w wx : World} {a0 a1 a2 a3 : Int} (h : R2 w wx a0 a1 a2 a3) (i : Nat) (u : Value) : 
    Below w.heap.size w (wx.setCell ⟨w.heap.size + 1, i, none⟩ u) ∧ Blk (wx.setCell ⟨w.heap.size + 1, i, none⟩ u) (w.heap.size + 1) 111 ((arr4 a0 a1 a2 a3).setIfInBounds i u) ∧ Blk (wx.setCell ⟨w.heap.size + 1, i, none⟩ u) w.heap.size 111 (arr4 0 0 0 0) :=
  ⟨h.bl.setCell (show w.heap.size ≤ w.heap.size + 1 by omega) _, h.A.set_ i u, h.C.far (show w.heap.size ≠ w.heap.size + 1 by omega) u⟩
theorem R2.set0 {w wx : World} {a0 a1 a2 a3 d : Int} (h : R2 w wx a0 a1 a2 a3) : R2 w (wx.setCell ⟨w.heap.size + 1, 0, none⟩ (.int .u64 d)) d a1 a2 a3 := by
  obtain ⟨h1, h2, h3⟩ := h.set_ 0 (.int .u64 d)
  exact ⟨h1, h2, h3⟩
theorem R2.set1 {w wx : World} {a0 a1 a2 a3 d : Int} (h : R2 w wx a0 a1 a2 a3) : R2 w (wx.setCell ⟨w.heap.size + 1, 1, none⟩ (.int .u64 d)) a0 d a2 a3 := by
  obtain ⟨h1, h2, h3⟩ := h.set_ 1 (.int .u64 d)
  exact ⟨h1, h2, h3⟩
theorem R2.set2 {w wx : World} {a0 a1 a2 a3 d : Int} (h : R2 w wx a0 a1 a2 a3) : R2 w (wx.setCell ⟨w.heap.size + 1, 2, none⟩ (.int .u64 d)) a0 a1 d a3 := by
  obtain ⟨h1, h2, h3⟩ := h.set_ 2 (.int .u64 d)
  exact ⟨h1, h2, h3⟩
theorem R2.set3 {w wx : World} {a0 a1 a2 a3 d : Int} (h : R2 w wx a0 a1 a2 a3) : R2 w (wx.setCell ⟨w.heap.size + 1, 3, none⟩ (.int .u64 d)) a0 a1 a2 d := by
  obtain ⟨h1, h2, h3⟩ := h.set_ 3 (.int .u64 d)
  exact ⟨h1, h2, h3⟩
theorem radStep {p n t : Int} (hp : U64 p) (hn0 : 0 ≤ n) (hn1 : n ≤ 2700000) (ht0 : 0 ≤ t) (ht1 : t ≤ n) : ∃ H L S C t' : Int,
    (∀ W, Calls Try.prog 77 #[.int .u64 p, .int .u64 n] W fun e w' => e = .returned (.tuple #[.int .u64 H, .int .u64 L]) ∧ w' = W) ∧
    (∀ W, (callFunc 78 #[.int .u64 L, .int .u64 t, .int .u64 0]).run Try.prog W = .ok (.value (.tuple #[.int .u64 S, .int .u64 C])) W) ∧
    0 ≤ H ∧ H ≤ 18446744073709551614 ∧ 0 ≤ C ∧ C ≤ 1 ∧ H + C = t' ∧ 0 ≤ t' ∧ t' ≤ n ∧ U64 S ∧ S + 18446744073709551616 * t' = p * n + t := by
  have hn : U64 n := ⟨hn0, by omega⟩
  have ht : U64 t := ⟨ht0, by omega⟩
  have hL := muL_u p n
  have hH := muH_bd hp hn
  have e1 := mu_eq p n
  have e2 := ad_eq (muL p n) t 0
  have b2 := adC_bd hL ht (by omega : (0 : Int) ≤ 0) (by omega)
  have u2 := adS_u (muL p n) t 0
  have hb : p * n ≤ 18446744073709551615 * n := Int.mul_le_mul_of_nonneg_right (by have := hp.2; omega) hn0
  refine ⟨muH p n, muL p n, adS (muL p n) t 0, adC (muL p n) t 0, _, fun W => mul64 p n hp hn W, fun W => add64_0 _ t hL ht W, hH.1, hH.2, b2.1, b2.2, rfl, by omega, ?_, u2, by omega⟩
  unfold U64 at *
  generalize muL p n = L at *
  generalize muH p n = H at *
  generalize p * n = q at *
  generalize adS L t 0 = S at *
  generalize adC L t 0 = C at *
  omega
set_option maxHeartbeats 4000000 in
set_option maxRecDepth 100000 in
theorem radiansV (n : Int) (w : World) (h0 : 0 ≤ n) (h1 : n ≤ 2700000) : Calls Try.prog 79 #[.int .i64 n] w (RetN (fun V => V = Trig.radN n.toNat) w) := by
  have hw : IntKind.u64.wrap n = n := by rw [IntKind.wrap_u64]; omega
  obtain ⟨H3, L3, S3, C3, t3, km, ka, bh03, bh13, bc03, bc13, ec, bt03, bt13, us3, es3⟩ := radStep (p := 589684135938649225) (n := n) (t := 0) ⟨by omega, by omega⟩ h0 h1 (by omega) h0
  have KM3 := Lib.hid km
  have KA3 := Lib.hid ka
  have EC3 := Lib.hid ec
  have US3 := Lib.hid us3
  have ES3 := Lib.hid es3
  clear km ka ec us3 es3
  obtain ⟨H2, L2, S2, C2, t2, km, ka, bh02, bh12, bc02, bc12, ec, bt02, bt12, us2, es2⟩ := radStep (p := 11820040416388919760) (n := n) (t := t3) ⟨by omega, by omega⟩ h0 h1 bt03 bt13
  have KM2 := Lib.hid km
  have KA2 := Lib.hid ka
  have EC2 := Lib.hid ec
  have US2 := Lib.hid us2
  have ES2 := Lib.hid es2
  clear km ka ec us2 es2
  obtain ⟨H1, L1, S1, C1, t1, km, ka, bh01, bh11, bc01, bc11, ec, bt01, bt11, us1, es1⟩ := radStep (p := 1376283091369227076) (n := n) (t := t2) ⟨by omega, by omega⟩ h0 h1 bt02 bt12
  have KM1 := Lib.hid km
  have KA1 := Lib.hid ka
  have EC1 := Lib.hid ec
  have US1 := Lib.hid us1
  have ES1 := Lib.hid es1
  clear km ka ec us1 es1
  obtain ⟨H0, L0, S0, C0, t0, km, ka, bh00, bh10, bc00, bc10, ec, bt00, bt10, us0, es0⟩ := radStep (p := 2611923443488327891) (n := n) (t := t1) ⟨by omega, by omega⟩ h0 h1 bt01 bt11
  have KM0 := Lib.hid km
  have KA0 := Lib.hid ka
  have EC0 := Lib.hid ec
  have US0 := Lib.hid us0
  have ES0 := Lib.hid es0
  clear km ka ec us0 es0
  have ht : 0 ≤ t0 + 3 * n ∧ t0 + 3 * n < 10800000 := by
    by_cases hz : n = 0
    · omega
    · have e0 := ES0.out
      have e1 := US0.out.1
      omega
  have KD := Lib.hid (fun W => divV (NV.of US0.out US1.out US2.out US3.out) (show (0 : Int) < 10800000 by omega) (by omega) ht.1 ht.2 W)
  go_enter Try.func79, Try.ntmps79
  go_wp2
  have T4 := Lib.hid (R2.start w 2611923443488327891 1376283091369227076 11820040416388919760 589684135938649225)
  unfold arr4 at T4
  generalize (w.alloc (.cells #[.int .u64 0, .int .u64 0, .int .u64 0, .int .u64 0] 111)).alloc (.cells #[.int .u64 2611923443488327891, .int .u64 1376283091369227076, .int .u64 11820040416388919760, .int .u64 589684135938649225] 111) = w4 at *
  refine wp_loop_rounds 5 ?_
  rw [rounds_succ]
  have x := T4.out.A.cell 3
  have f := T4.out.A.frozen 3
  simp at x
  have ka := KA3.out
  have ec := EC3.out
  go_wp2_with (go_at_call 77; (with_reducible refine (KM3.out _).mono ?_); rintro e wy ⟨rfl, rfl⟩)
  rename World => w4
  have T3 := Lib.hid (T4.out.set3 (d := S3))
  generalize (w4.setCell ⟨w.heap.size + 1, 3, none⟩ (.int .u64 S3)) = w3' at *
  clear x f ka ec KM3 KA3 EC3 T4
  rw [rounds_succ]
  have x := T3.out.A.cell 2
  have f := T3.out.A.frozen 2
  simp at x
  have ka := KA2.out
  have ec := EC2.out
  go_wp2_with (go_at_call 77; (with_reducible refine (KM2.out _).mono ?_); rintro e wy ⟨rfl, rfl⟩)
  rename World => w3
  have T2 := Lib.hid (T3.out.set2 (d := S2))
  generalize (w3.setCell ⟨w.heap.size + 1, 2, none⟩ (.int .u64 S2)) = w2' at *
  clear x f ka ec KM2 KA2 EC2 T3
  rw [rounds_succ]
  have x := T2.out.A.cell 1
  have f := T2.out.A.frozen 1
  simp at x
  have ka := KA1.out
  have ec := EC1.out
  go_wp2_with (go_at_call 77; (with_reducible refine (KM1.out _).mono ?_); rintro e wy ⟨rfl, rfl⟩)
  rename World => w2
  have T1 := Lib.hid (T2.out.set1 (d := S1))
  generalize (w2.setCell ⟨w.heap.size + 1, 1, none⟩ (.int .u64 S1)) = w1' at *
  clear x f ka ec KM1 KA1 EC1 T2
  rw [rounds_succ]
  have x := T1.out.A.cell 0
  have f := T1.out.A.frozen 0
  simp at x
  have ka := KA0.out
  have ec := EC0.out
  go_wp2_with (go_at_call 77; (with_reducible refine (KM0.out _).mono ?_); rintro e wy ⟨rfl, rfl⟩)
  rename World => w1
  have T0 := Lib.hid (T1.out.set0 (d := S0))
  generalize (w1.setCell ⟨w.heap.size + 1, 0, none⟩ (.int .u64 S0)) = w0' at *
  clear x f ka ec KM0 KA0 EC0 T1
  rw [rounds_succ]
  have x0 := T0.out.A.cell 0
  have x1 := T0.out.A.cell 1
  have x2 := T0.out.A.cell 2
  have x3 := T0.out.A.cell 3
  simp at x0 x1 x2 x3
  have hmod : (t0 + 3 * n) % 10800000 = t0 + 3 * n := Int.emod_eq_of_lt ht.1 ht.2
  obtain ⟨ht0, ht1⟩ := ht
  go_wp2_with fail
  (with_reducible refine (KD.out _).mono ?_)
  rintro e w9 ⟨v0, v1, v2, v3, V, rfl, hV, hq, hb⟩
  have hC := T0.out.C.below hb T0.out.C.lt
  have z0 := hC.cell 0
  have z1 := hC.cell 1
  have z2 := hC.cell 2
  have z3 := hC.cell 3
  have f0 := hC.frozen 0
  have f1 := hC.frozen 1
  have f2 := hC.frozen 2
  have f3 := hC.frozen 3
  simp at z0 z1 z2 z3
  have hbl := T0.out.bl.trans (hb.mono T0.out.bl.size)
  have HQ := Lib.hid hq
  clear hq x0 x1 x2 x3 hmod
  go_wp2
  refine bodyPost_ret (v := num4 v0 v1 v2 v3) (by simp [results, Try.results79, go_sem, *]) rfl ⟨v0, v1, v2, v3, V, rfl, hV, ?_, ?_⟩
  · have hq := HQ.out
    have e3 := ES3.out
    have e2 := ES2.out
    have e1 := ES1.out
    have e0 := ES0.out
    have hnn := Int.toNat_of_nonneg (nv_bd US0.out US1.out US2.out US3.out).1
    have hnv : nv S0 S1 S2 S3 = S0 * 6277101735386680763835789423207666416102355444464034512896 + S1 * 340282366920938463463374607431768211456 + S2 * 18446744073709551616 + S3 := rfl
    have hN : ((n.toNat : Nat) : Int) = n := Int.toNat_of_nonneg h0
    have hI : (V : Int) = ((Trig.PiN * n.toNat / 10800000 : Nat) : Int) := by
      rw [hq, hnn, Int.natCast_ediv, Int.natCast_mul, hN]
      have hnum : (t0 + 3 * n) * 115792089237316195423570985008687907853269984665640564039457584007913129639936 + nv S0 S1 S2 S3 = (Trig.PiN : Int) * n := by
        have hP : ((Trig.PiN : Nat) : Int) = 363771576891766324280234942777729862653393377328392429958772151117938894466185 := rfl
        rw [hnv, hP]
        clear hP hq hnn hnv hN z0 z1 z2 z3 f0 f1 f2 f3
        omega
      rw [hnum]
      rfl
    show V = Trig.radN n.toNat
    unfold Trig.radN
    omega
  · exact (((hbl.setCell (Nat.le_refl _) _).setCell (Nat.le_refl _) _).setCell (Nat.le_refl _) _).setCell (Nat.le_refl _) _
end Go.Proofs.Ytfeianjdedgdoaa
namespace Go.Proofs.Ytfeianjdedgdoaa
open Go.RowKit
/-- the blocks of the series: the square, the sum, and the result -/
structure L3 (w w1 wr : World) (y0 y1 y2 y3 u0 u1 u2 u3 : Int) : Prop where
  bl : Below w.heap.size w wr
  z1 : w.heap.size + 2 ≤ w1.heap.size
  Y : Blk wr w1.heap.size 111 (arr4 y0 y1 y2 y3)
  U : Blk wr (w1.heap.size + 1) 111 (arr4 u0 u1 u2 u3)
  C : Blk wr (w.heap.size + 1) 111 (arr4 0 0 0 0)
theorem L3.below {w w1 wr w' : World} {y0 y1 y2 y3 u0 u1 u2 u3 : Int} (h : L3 w w1 wr y0 y1 y2 y3 u0 u1 u2 u3) (hb : Below wr.heap.size wr w') : L3 w w1 w' y0 y1 y2 y3 u0 u1 u2 u3 :=
  ⟨h.bl.trans (hb.mono h.bl.size), h.z1, h.Y.below hb h.Y.lt, h.U.below hb h.U.lt, h.C.below hb h.C.lt⟩
theorem L3.alloc {w w1 wr : World} {y0 y1 y2 y3 u0 u1 u2 u3 : Int} (h : L3 w w1 wr y0 y1 y2 y3 u0 u1 u2 u3) (o : Obj) : L3 w w1 (wr.alloc o) y0 y1 y2 y3 u0 u1 u2 u3 := h.below (bl_alloc wr o)
theorem L3.drew {w w1 wr : World} {y0 y1 y2 y3 u0 u1 u2 u3 : Int} (h : L3 w w1 wr y0 y1 y2 y3 u0 u1 u2 u3) : L3 w w1 wr.drew y0 y1 y2 y3 u0 u1 u2 u3 := ⟨bl_drew h.bl, h.z1, h.Y, h.U, h.C⟩
theorem L3.set {w w1 wr : World} {y0 y1 y2 y3 u0 u1 u2 u3 d0 d1 d2 d3 : Int} (h : L3 w w1 wr y0 y1 y2 y3 u0 u1 u2 u3) :
    L3 w w1 ((((wr.setCell ⟨w1.heap.size + 1, 0, none⟩ (.int .u64 d0)).setCell ⟨w1.heap.size + 1, 1, none⟩ (.int .u64 d1)).setCell ⟨w1.heap.size + 1, 2, none⟩ (.int .u64 d2)).setCell ⟨w1.heap.size + 1, 3, none⟩ (.int .u64 d3)) y0 y1 y2 y3 d0 d1 d2 d3 := by
  have hz := h.z1
  have hY : w1.heap.size ≠ w1.heap.size + 1 := by omega
  have hC : w.heap.size + 1 ≠ w1.heap.size + 1 := by omega
  refine ⟨?_, hz, ?_, ?_, ?_⟩
  · exact (((h.bl.setCell (show w.heap.size ≤ w1.heap.size + 1 by omega) _).setCell (show w.heap.size ≤ w1.heap.size + 1 by omega) _).setCell (show w.heap.size ≤ w1.heap.size + 1 by omega) _).setCell (show w.heap.size ≤ w1.heap.size + 1 by omega) _
  · exact (((h.Y.far hY _).far hY _).far hY _).far hY _
  · exact (((h.U.set_ 0 _).set_ 1 _).set_ 2 _).set_ 3 _
  · exact (((h.C.far hC _).far hC _).far hC _).far hC _
theorem lessFin {x : Rat} (hX : 0 ≤ x ∧ x ≤ 4 / 5) {Y U P Q V D j odd : Nat} {k : Int} (hk : k = (j : Int) + 1) (hk1 : k ≤ 34) (hD : D = (2 * j + odd + 1) * (2 * j + odd + 2)) (hQ : Q = Y / D) (hY : Trig.Nr (Y : Rat) (Trig.Z * (x * x)) 4)
    (hU : Trig.Nr (U : Rat) (Trig.Z * Trig.mis x (2 * k.toNat + odd) (34 - k.toNat)) 8) (hul : U < Trig.ZN) (hm : Trig.MulOk Q U P) (hv : (P ≤ Q → V = Q - P) ∧ (Q < P → V = Q + Trig.ZN - P)) :
    Trig.Nr (V : Rat) (Trig.Z * Trig.mis x (2 * j + odd) (34 - j)) 8 := by
  have e1 : k.toNat = j + 1 := by omega
  rw [e1, show 2 * (j + 1) + odd = 2 * j + odd + 2 by omega] at hU
  rw [hQ, hD] at hm
  obtain ⟨a, b⟩ := Trig.less_step (m := 2 * j + odd) (n := 34 - (j + 1)) hX.1 hX.2 hY hU hul hm
  rw [← hD, ← hQ] at a b
  rw [hv.1 a, show 34 - j = 34 - (j + 1) + 1 by omega]
  exact b
theorem mis_start (x : Rat) (m : Nat) : Trig.Nr ((0 : Nat) : Rat) (Trig.Z * Trig.mis x m (34 - 34)) 8 := by
  have : Trig.mis x m (34 - 34) = 0 := by rw [show 34 - 34 = 0 from rfl]; rfl
  rw [this]
  unfold Trig.Nr
  rw [Rat.mul_zero]
  constructor <;> decide +kernel
set_option maxHeartbeats 8000000 in
set_option maxRecDepth 100000 in
theorem lessV {a0 a1 a2 a3 : Int} {r : Nat} (ha : NV a0 a1 a2 a3 (Trig.radN r)) (hr : r ≤ 2700000) (odd : Nat) (ho : odd ≤ 1) (w : World) :
    Calls Try.prog 82 #[num4 a0 a1 a2 a3, .int .u64 odd] w (RetN (fun V => Trig.Nr (V : Rat) (Trig.Z * Trig.mis ((r : Rat) * Trig.th) odd 34) 8) w) := by
  obtain ⟨X0, X1⟩ := Trig.ang_bd hr
  have HX := Lib.hid (And.intro X0 X1)
  have KM := Lib.hid (fun W => mulV ha ha W)
  have hN := Trig.radN_near r
  have HN := Lib.hid hN
  clear ha X0 X1 hN
  generalize (r : Rat) * Trig.th = x at *
  go_enter Try.func82, Try.ntmps82
  go_wp2_with fail
  (with_reducible refine (KM.out _).mono ?_)
  rintro e w1 ⟨y0, y1, y2, y3, Y, rfl, hY, hm, hb1⟩
  have hYn := Lib.hid (Trig.sq_near HX.out.1 HX.out.2 HN.out hm)
  have HY := Lib.hid hY
  have hz1 := two_lt hb1
  have hbl1 := two_bl hb1
  have T0 : Hid (L3 w w1 ((w1.alloc (.cells (arr4 y0 y1 y2 y3) 111)).alloc (.cells (arr4 0 0 0 0) 111)) y0 y1 y2 y3 0 0 0 0) := Lib.hid (by
    have hC := ((Blk.new (w.alloc (.cells (arr4 a0 a1 a2 a3) 111)) 111 (arr4 0 0 0 0))).below hb1 (by simp)
    refine ⟨(hbl1.alloc hbl1.size _).alloc (by have := hbl1.size; simp; omega) _, by omega, (Blk.new w1 _ _).alloc _, ?_, ?_⟩
    · have := Blk.new (w1.alloc (.cells (arr4 y0 y1 y2 y3) 111)) 111 (arr4 0 0 0 0)
      simpa using this
    · have := (hC.alloc (.cells (arr4 y0 y1 y2 y3) 111)).alloc (.cells (arr4 0 0 0 0) 111)
      simpa using this)
  clear hY hm hb1 hz1 hbl1 KM
  go_wp2
  unfold arr4 at T0
  generalize (w1.alloc (.cells #[.int .u64 y0, .int .u64 y1, .int .u64 y2, .int .u64 y3] 111)).alloc (.cells #[.int .u64 0, .int .u64 0, .int .u64 0, .int .u64 0] 111) = w2 at *
  go_loopw [7] (fun s7 wr => ∃ k : Int, 0 ≤ k ∧ k ≤ 34 ∧ s7 = .int .u64 k ∧ ∃ u0 u1 u2 u3 : Int, ∃ U : Nat, L3 w w1 wr y0 y1 y2 y3 u0 u1 u2 u3 ∧ NV u0 u1 u2 u3 U ∧ Trig.Nr (U : Rat) (Trig.Z * Trig.mis x (2 * k.toNat + odd) (34 - k.toNat)) 8) (fun s7 _ => (intOf s7).toNat)
  case atStart =>
    exact ⟨34, by omega, by omega, rfl, 0, 0, 0, 0, 0, T0.out, ⟨hz, hz, hz, hz, rfl⟩, mis_start x _⟩
  case round =>
    obtain ⟨k, hk0, hk1, rfl, u0, u1, u2, u3, U, hT, hU, hUn⟩ := hrel
    have T := Lib.hid hT
    have HU := Lib.hid hU
    have HUn := Lib.hid hUn
    clear hT hU hUn
    by_cases hlt : 0 < k
    · obtain ⟨j, hj⟩ : ∃ j : Nat, k = (j : Int) + 1 := ⟨(k - 1).toNat, by omega⟩
      obtain ⟨D, hD⟩ : ∃ D : Nat, D = (2 * j + odd + 1) * (2 * j + odd + 2) := ⟨_, rfl⟩
      have hDb : 2 ≤ D ∧ D ≤ 70 * 71 := by
        rw [hD]
        exact ⟨Nat.mul_le_mul (show 1 ≤ 2 * j + odd + 1 by omega) (show 2 ≤ 2 * j + odd + 2 by omega), Nat.mul_le_mul (by omega) (by omega)⟩
      have hDw : IntKind.u64.wrap ((2 * k - 1 + (odd : Int)) * (2 * k + (odd : Int))) = (D : Int) := by
        have e1 : (2 * k - 1 + (odd : Int)) = ((2 * j + odd + 1 : Nat) : Int) := by omega
        have e2 : (2 * k + (odd : Int)) = ((2 * j + odd + 2 : Nat) : Int) := by omega
        rw [e1, e2, ← Int.natCast_mul, ← hD, IntKind.wrap_u64]
        omega
      have d0 : (0 : Int) < (D : Int) := by omega
      have d1 : (D : Int) ≤ 4970 := by omega
      have KD := Lib.hid (fun W => divV HY.out d0 (by omega) (Int.le_refl 0) d0 W)
      have HD := Lib.hid hD
      have HJ := Lib.hid hj
      clear hD hDb hj
      have y0' := T.out.Y.cell 0
      have y1' := T.out.Y.cell 1
      have y2' := T.out.Y.cell 2
      have y3' := T.out.Y.cell 3
      simp at y0' y1' y2' y3'
      go_upto_block 1 with (fail)
      go_cut [] (fun wy => ∃ v0 v1 v2 v3 : Int, ∃ V : Nat, L3 w w1 wy y0 y1 y2 y3 v0 v1 v2 v3 ∧ NV v0 v1 v2 v3 V ∧ Trig.Nr (V : Rat) (Trig.Z * Trig.mis x (2 * j + odd) (34 - j)) 8)
      case first =>
        go_wp2_with fail
        (with_reducible refine (KD.out _).mono ?_)
        rintro e w3 ⟨q0, q1, q2, q3, Q, rfl, hQ, hq, hb3⟩
        have HQ := Lib.hid hQ
        have hq' : Q = Y / D := by
          have : (Q : Int) = ((Y / D : Nat) : Int) := by rw [hq, Int.zero_mul, Int.zero_add, Int.natCast_ediv]
          omega
        have HQ' := Lib.hid hq'
        have T3 := Lib.hid ((T.out.below hb3).alloc (.cells (arr4 q0 q1 q2 q3) 111))
        have Q3 := Lib.hid (Blk.new w3 111 (arr4 q0 q1 q2 q3))
        clear hQ hq hq' hb3 y0' y1' y2' y3' hDw d0 d1 KD
        go_wp2
        unfold arr4 at T3 Q3
        generalize w3.alloc (.cells #[.int .u64 q0, .int .u64 q1, .int .u64 q2, .int .u64 q3] 111) = w4 at *
        generalize w3.heap.size = g9 at *
        have KX := Lib.hid (fun W => mulV HQ.out HU.out W)
        have l9 := Q3.out.lt
        have c0 := Q3.out.cell 0
        have c1 := Q3.out.cell 1
        have c2 := Q3.out.cell 2
        have c3 := Q3.out.cell 3
        have r0 := T3.out.U.cell 0
        have r1 := T3.out.U.cell 1
        have r2 := T3.out.U.cell 2
        have r3 := T3.out.U.cell 3
        simp at c0 c1 c2 c3 r0 r1 r2 r3
        go_region_with (first
          | (go_at_call 81; (with_reducible refine (KX.out _).mono ?_); rintro e w5 ⟨p0, p1, p2, p3, P, rfl, hP, hm, hb5⟩; have n0 := (hb5.cell (p := ⟨g9, 0, none⟩) l9).trans c0; have n1 := (hb5.cell (p := ⟨g9, 1, none⟩) l9).trans c1; have n2 := (hb5.cell (p := ⟨g9, 2, none⟩) l9).trans c2; have n3 := (hb5.cell (p := ⟨g9, 3, none⟩) l9).trans c3; have HP := Lib.hid hP; have HMM := Lib.hid hm; have T5 := Lib.hid (T3.out.drew.below hb5); clear hP hm)
          | (go_at_call 80; (with_reducible refine (subV HQ.out HP.out _).mono ?_); rintro e w6 ⟨v0, v1, v2, v3, V, rfl, hV, hv, hb6⟩; have T6 := Lib.hid (T5.out.below hb6); have s0 := T6.out.U.cell 0; have s1 := T6.out.U.cell 1; have s2 := T6.out.U.cell 2; have s3 := T6.out.U.cell 3; simp at s0 s1 s2 s3; have f0 := T6.out.U.frozen 0; have f1 := T6.out.U.frozen 1; have f2 := T6.out.U.frozen 2; have f3 := T6.out.U.frozen 3; have HV := Lib.hid hV; have HVV := Lib.hid hv; clear hV hv)
          | fail)
        all_goals
          go_wp2_with fail
          go_meet
          case rel => exact ⟨v0, v1, v2, v3, V, T6.out.set, HV.out, lessFin HX.out HJ.out hk1 HD.out HQ'.out hYn.out HUn.out HU.out.lt HMM.out HVV.out⟩
      case rest =>
        obtain ⟨v0, v1, v2, v3, V, hT', hV, hVn⟩ := hcut
        have T' := Lib.hid hT'
        have HV := Lib.hid hV
        have HVn := Lib.hid hVn
        clear hT' hV hVn y0' y1' y2' y3' hDw d0 d1 KD
        go_wp2
        go_roundw
        case rel => exact ⟨k - 1, by omega, by omega, rfl, v0, v1, v2, v3, V, T'.out, HV.out, by have := HJ.out; rw [show (k - 1).toNat = j by omega]; exact HVn.out⟩
        case measure => simp [intOf]; omega
    · have hk : k = 0 := by omega
      subst hk
      have z0 := T.out.C.cell 0
      have z1 := T.out.C.cell 1
      have z2 := T.out.C.cell 2
      have z3 := T.out.C.cell 3
      have f0 := T.out.C.frozen 0
      have f1 := T.out.C.frozen 1
      have f2 := T.out.C.frozen 2
      have f3 := T.out.C.frozen 3
      have x0 := T.out.U.cell 0
      have x1 := T.out.U.cell 1
      have x2 := T.out.U.cell 2
      have x3 := T.out.U.cell 3
      simp at x0 x1 x2 x3 z0 z1 z2 z3
      go_wp2
      refine bodyPost_ret (v := num4 u0 u1 u2 u3) (by simp [results, Try.results82, go_sem, *]) rfl ⟨u0, u1, u2, u3, U, rfl, HU.out, by simpa using HUn.out, ?_⟩
      exact (((T.out.bl.setCell (by simp) _).setCell (by simp) _).setCell (by simp) _).setCell (by simp) _
end Go.Proofs.Ytfeianjdedgdoaa
