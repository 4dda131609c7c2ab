/- The walks of the reference's sine over an arc. -/
import Derived.Deep.RegionHeld3
import Derived.Test.YtbpnacacnncopaaGreatDoorHUc
import Derived.Test.YtbpnacacnncopaaGreatDoorHTe
set_option linter.unusedVariables false
set_option linter.unusedSimpArgs false
namespace Go.Proofs.YtbpnacacnncopaaGreatDoor
open Go.RowKit
/-- the blocks of the series: the square, the sum, and the result -/
structure L3 (w w1 wr : World) (y0 y1 y2 y3 u0 u1 u2 u3 : Int) : Prop where
  bl : Below w.heap.size w wr
  z1 : w.heap.size + 2 ≤ w1.heap.size
  Y : Blk wr w1.heap.size 254 (arr4 y0 y1 y2 y3)
  U : Blk wr (w1.heap.size + 1) 254 (arr4 u0 u1 u2 u3)
  C : Blk wr (w.heap.size + 1) 254 (arr4 0 0 0 0)
theorem L3.below {w w1 wr w' : World} {y0 y1 y2 y3 u0 u1 u2 u3 : Int} (h : L3 w w1 wr y0 y1 y2 y3 u0 u1 u2 u3) (hb : Below wr.heap.size wr w') : L3 w w1 w' y0 y1 y2 y3 u0 u1 u2 u3 :=
  ⟨h.bl.trans (hb.mono h.bl.size), h.z1, h.Y.below hb h.Y.lt, h.U.below hb h.U.lt, h.C.below hb h.C.lt⟩
theorem L3.alloc {w w1 wr : World} {y0 y1 y2 y3 u0 u1 u2 u3 : Int} (h : L3 w w1 wr y0 y1 y2 y3 u0 u1 u2 u3) (o : Obj) : L3 w w1 (wr.alloc o) y0 y1 y2 y3 u0 u1 u2 u3 := h.below (bl_alloc wr o)
theorem L3.drew {w w1 wr : World} {y0 y1 y2 y3 u0 u1 u2 u3 : Int} (h : L3 w w1 wr y0 y1 y2 y3 u0 u1 u2 u3) : L3 w w1 wr.drew y0 y1 y2 y3 u0 u1 u2 u3 := ⟨bl_drew h.bl, h.z1, h.Y, h.U, h.C⟩
theorem L3.set {w w1 wr : World} {y0 y1 y2 y3 u0 u1 u2 u3 d0 d1 d2 d3 : Int} (h : L3 w w1 wr y0 y1 y2 y3 u0 u1 u2 u3) :
    L3 w w1 ((((wr.setCell ⟨w1.heap.size + 1, 0, none⟩ (.int .u64 d0)).setCell ⟨w1.heap.size + 1, 1, none⟩ (.int .u64 d1)).setCell ⟨w1.heap.size + 1, 2, none⟩ (.int .u64 d2)).setCell ⟨w1.heap.size + 1, 3, none⟩ (.int .u64 d3)) y0 y1 y2 y3 d0 d1 d2 d3 := by
  have hz := h.z1
  have hY : w1.heap.size ≠ w1.heap.size + 1 := by omega
  have hC : w.heap.size + 1 ≠ w1.heap.size + 1 := by omega
  refine ⟨?_, hz, ?_, ?_, ?_⟩
  · exact (((h.bl.setCell (show w.heap.size ≤ w1.heap.size + 1 by omega) _).setCell (show w.heap.size ≤ w1.heap.size + 1 by omega) _).setCell (show w.heap.size ≤ w1.heap.size + 1 by omega) _).setCell (show w.heap.size ≤ w1.heap.size + 1 by omega) _
  · exact (((h.Y.far hY _).far hY _).far hY _).far hY _
  · exact (((h.U.set_ 0 _).set_ 1 _).set_ 2 _).set_ 3 _
  · exact (((h.C.far hC _).far hC _).far hC _).far hC _
theorem lessFin {x : Rat} (hX : 0 ≤ x ∧ x ≤ 4 / 5) {Y U P Q V D j odd : Nat} {k : Int} (hk : k = (j : Int) + 1) (hk1 : k ≤ 34) (hD : D = (2 * j + odd + 1) * (2 * j + odd + 2)) (hQ : Q = Y / D) (hY : Trig.Nr (Y : Rat) (Trig.Z * (x * x)) 4)
    (hU : Trig.Nr (U : Rat) (Trig.Z * Trig.mis x (2 * k.toNat + odd) (34 - k.toNat)) 8) (hul : U < Trig.ZN) (hm : Trig.MulOk Q U P) (hv : (P ≤ Q → V = Q - P) ∧ (Q < P → V = Q + Trig.ZN - P)) :
    Trig.Nr (V : Rat) (Trig.Z * Trig.mis x (2 * j + odd) (34 - j)) 8 := by
  have e1 : k.toNat = j + 1 := by omega
  rw [e1, show 2 * (j + 1) + odd = 2 * j + odd + 2 by omega] at hU
  rw [hQ, hD] at hm
  obtain ⟨a, b⟩ := Trig.less_step (m := 2 * j + odd) (n := 34 - (j + 1)) hX.1 hX.2 hY hU hul hm
  rw [← hD, ← hQ] at a b
  rw [hv.1 a, show 34 - j = 34 - (j + 1) + 1 by omega]
  exact b
theorem mis_start (x : Rat) (m : Nat) : Trig.Nr ((0 : Nat) : Rat) (Trig.Z * Trig.mis x m (34 - 34)) 8 := by
  have : Trig.mis x m (34 - 34) = 0 := by rw [show 34 - 34 = 0 from rfl]; rfl
  rw [this]
  unfold Trig.Nr
  rw [Rat.mul_zero]
  constructor <;> decide +kernel
set_option maxHeartbeats 8000000 in
set_option maxRecDepth 100000 in
theorem lessV {a0 a1 a2 a3 : Int} {r : Nat} (ha : NV a0 a1 a2 a3 (Trig.radN r)) (hr : r ≤ 2700000) (odd : Nat) (ho : odd ≤ 1) (w : World) :
    Calls Tryz.prog 254 #[num4 a0 a1 a2 a3, .int .u64 odd] w (RetN (fun V => Trig.Nr (V : Rat) (Trig.Z * Trig.mis ((r : Rat) * Trig.th) odd 34) 8) w) := by
  obtain ⟨X0, X1⟩ := Trig.ang_bd hr
  have HX := Lib.hid (And.intro X0 X1)
  have KM := Lib.hid (fun W => mulV ha ha W)
  have hN := Trig.radN_near r
  have HN := Lib.hid hN
  clear ha X0 X1 hN
  generalize (r : Rat) * Trig.th = x at *
  go_enter Tryz.func254, Tryz.ntmps254
  go_wp2_with fail
  (with_reducible refine (KM.out _).mono ?_)
  rintro e w1 ⟨y0, y1, y2, y3, Y, rfl, hY, hm, hb1⟩
  have hYn := Lib.hid (Trig.sq_near HX.out.1 HX.out.2 HN.out hm)
  have HY := Lib.hid hY
  have hz1 := two_lt hb1
  have hbl1 := two_bl hb1
  have T0 : Hid (L3 w w1 ((w1.alloc (.cells (arr4 y0 y1 y2 y3) 254)).alloc (.cells (arr4 0 0 0 0) 254)) y0 y1 y2 y3 0 0 0 0) := Lib.hid (by
    have hC := ((Blk.new (w.alloc (.cells (arr4 a0 a1 a2 a3) 254)) 254 (arr4 0 0 0 0))).below hb1 (by simp)
    refine ⟨(hbl1.alloc hbl1.size _).alloc (by have := hbl1.size; simp; omega) _, by omega, (Blk.new w1 _ _).alloc _, ?_, ?_⟩
    · have := Blk.new (w1.alloc (.cells (arr4 y0 y1 y2 y3) 254)) 254 (arr4 0 0 0 0)
      simpa using this
    · have := (hC.alloc (.cells (arr4 y0 y1 y2 y3) 254)).alloc (.cells (arr4 0 0 0 0) 254)
      simpa using this)
  clear hY hm hb1 hz1 hbl1 KM
  go_wp2
  unfold arr4 at T0
  generalize (w1.alloc (.cells #[.int .u64 y0, .int .u64 y1, .int .u64 y2, .int .u64 y3] 254)).alloc (.cells #[.int .u64 0, .int .u64 0, .int .u64 0, .int .u64 0] 254) = w2 at *
  go_loopw [7] (fun s7 wr => ∃ k : Int, 0 ≤ k ∧ k ≤ 34 ∧ s7 = .int .u64 k ∧ ∃ u0 u1 u2 u3 : Int, ∃ U : Nat, L3 w w1 wr y0 y1 y2 y3 u0 u1 u2 u3 ∧ NV u0 u1 u2 u3 U ∧ Trig.Nr (U : Rat) (Trig.Z * Trig.mis x (2 * k.toNat + odd) (34 - k.toNat)) 8) (fun s7 _ => (intOf s7).toNat)
  case atStart =>
    exact ⟨34, by omega, by omega, rfl, 0, 0, 0, 0, 0, T0.out, ⟨hz, hz, hz, hz, rfl⟩, mis_start x _⟩
  case round =>
    obtain ⟨k, hk0, hk1, rfl, u0, u1, u2, u3, U, hT, hU, hUn⟩ := hrel
    have T := Lib.hid hT
    have HU := Lib.hid hU
    have HUn := Lib.hid hUn
    clear hT hU hUn
    by_cases hlt : 0 < k
    · obtain ⟨j, hj⟩ : ∃ j : Nat, k = (j : Int) + 1 := ⟨(k - 1).toNat, by omega⟩
      obtain ⟨D, hD⟩ : ∃ D : Nat, D = (2 * j + odd + 1) * (2 * j + odd + 2) := ⟨_, rfl⟩
      have hDb : 2 ≤ D ∧ D ≤ 70 * 71 := by
        rw [hD]
        exact ⟨Nat.mul_le_mul (show 1 ≤ 2 * j + odd + 1 by omega) (show 2 ≤ 2 * j + odd + 2 by omega), Nat.mul_le_mul (by omega) (by omega)⟩
      have hDw : IntKind.u64.wrap ((2 * k - 1 + (odd : Int)) * (2 * k + (odd : Int))) = (D : Int) := by
        have e1 : (2 * k - 1 + (odd : Int)) = ((2 * j + odd + 1 : Nat) : Int) := by omega
        have e2 : (2 * k + (odd : Int)) = ((2 * j + odd + 2 : Nat) : Int) := by omega
        rw [e1, e2, ← Int.natCast_mul, ← hD, IntKind.wrap_u64]
        omega
      have d0 : (0 : Int) < (D : Int) := by omega
      have d1 : (D : Int) ≤ 4970 := by omega
      have KD := Lib.hid (fun W => divV HY.out d0 (by omega) (Int.le_refl 0) d0 W)
      have HD := Lib.hid hD
      have HJ := Lib.hid hj
      clear hD hDb hj
      have y0' := T.out.Y.cell 0
      have y1' := T.out.Y.cell 1
      have y2' := T.out.Y.cell 2
      have y3' := T.out.Y.cell 3
      simp at y0' y1' y2' y3'
      go_upto_block 1 with (fail)
      go_cut [] (fun wy => ∃ v0 v1 v2 v3 : Int, ∃ V : Nat, L3 w w1 wy y0 y1 y2 y3 v0 v1 v2 v3 ∧ NV v0 v1 v2 v3 V ∧ Trig.Nr (V : Rat) (Trig.Z * Trig.mis x (2 * j + odd) (34 - j)) 8)
      case first =>
        go_wp2_with fail
        (with_reducible refine (KD.out _).mono ?_)
        rintro e w3 ⟨q0, q1, q2, q3, Q, rfl, hQ, hq, hb3⟩
        have HQ := Lib.hid hQ
        have hq' : Q = Y / D := by
          have : (Q : Int) = ((Y / D : Nat) : Int) := by rw [hq, Int.zero_mul, Int.zero_add, Int.natCast_ediv]
          omega
        have HQ' := Lib.hid hq'
        have T3 := Lib.hid ((T.out.below hb3).alloc (.cells (arr4 q0 q1 q2 q3) 254))
        have Q3 := Lib.hid (Blk.new w3 254 (arr4 q0 q1 q2 q3))
        clear hQ hq hq' hb3 y0' y1' y2' y3' hDw d0 d1 KD
        go_wp2
        unfold arr4 at T3 Q3
        generalize w3.alloc (.cells #[.int .u64 q0, .int .u64 q1, .int .u64 q2, .int .u64 q3] 254) = w4 at *
        generalize w3.heap.size = g9 at *
        have KX := Lib.hid (fun W => mulV HQ.out HU.out W)
        have l9 := Q3.out.lt
        have c0 := Q3.out.cell 0
        have c1 := Q3.out.cell 1
        have c2 := Q3.out.cell 2
        have c3 := Q3.out.cell 3
        have r0 := T3.out.U.cell 0
        have r1 := T3.out.U.cell 1
        have r2 := T3.out.U.cell 2
        have r3 := T3.out.U.cell 3
        simp at c0 c1 c2 c3 r0 r1 r2 r3
        go_region_with (first
          | (go_at_call 253; (with_reducible refine (KX.out _).mono ?_); rintro e w5 ⟨p0, p1, p2, p3, P, rfl, hP, hm, hb5⟩; have n0 := (hb5.cell (p := ⟨g9, 0, none⟩) l9).trans c0; have n1 := (hb5.cell (p := ⟨g9, 1, none⟩) l9).trans c1; have n2 := (hb5.cell (p := ⟨g9, 2, none⟩) l9).trans c2; have n3 := (hb5.cell (p := ⟨g9, 3, none⟩) l9).trans c3; have HP := Lib.hid hP; have HMM := Lib.hid hm; have T5 := Lib.hid (T3.out.drew.below hb5); clear hP hm)
          | (go_at_call 252; (with_reducible refine (subV HQ.out HP.out _).mono ?_); rintro e w6 ⟨v0, v1, v2, v3, V, rfl, hV, hv, hb6⟩; have T6 := Lib.hid (T5.out.below hb6); have s0 := T6.out.U.cell 0; have s1 := T6.out.U.cell 1; have s2 := T6.out.U.cell 2; have s3 := T6.out.U.cell 3; simp at s0 s1 s2 s3; have f0 := T6.out.U.frozen 0; have f1 := T6.out.U.frozen 1; have f2 := T6.out.U.frozen 2; have f3 := T6.out.U.frozen 3; have HV := Lib.hid hV; have HVV := Lib.hid hv; clear hV hv)
          | fail)
        all_goals
          go_wp2_with fail
          go_meet
          case rel => exact ⟨v0, v1, v2, v3, V, T6.out.set, HV.out, lessFin HX.out HJ.out hk1 HD.out HQ'.out hYn.out HUn.out HU.out.lt HMM.out HVV.out⟩
      case rest =>
        obtain ⟨v0, v1, v2, v3, V, hT', hV, hVn⟩ := hcut
        have T' := Lib.hid hT'
        have HV := Lib.hid hV
        have HVn := Lib.hid hVn
        clear hT' hV hVn y0' y1' y2' y3' hDw d0 d1 KD
        go_wp2
        go_roundw
        case rel => exact ⟨k - 1, by omega, by omega, rfl, v0, v1, v2, v3, V, T'.out, HV.out, by have := HJ.out; rw [show (k - 1).toNat = j by omega]; exact HVn.out⟩
        case measure => simp [intOf]; omega
    · have hk : k = 0 := by omega
      subst hk
      have z0 := T.out.C.cell 0
      have z1 := T.out.C.cell 1
      have z2 := T.out.C.cell 2
      have z3 := T.out.C.cell 3
      have f0 := T.out.C.frozen 0
      have f1 := T.out.C.frozen 1
      have f2 := T.out.C.frozen 2
      have f3 := T.out.C.frozen 3
      have x0 := T.out.U.cell 0
      have x1 := T.out.U.cell 1
      have x2 := T.out.U.cell 2
      have x3 := T.out.U.cell 3
      simp at x0 x1 x2 x3 z0 z1 z2 z3
      go_wp2
      refine bodyPost_ret (v := num4 u0 u1 u2 u3) (by simp [results, Tryz.results254, go_sem, *]) rfl ⟨u0, u1, u2, u3, U, rfl, HU.out, by simpa using HUn.out, ?_⟩
      exact (((T.out.bl.setCell (by simp) _).setCell (by simp) _).setCell (by simp) _).setCell (by simp) _
end Go.Proofs.YtbpnacacnncopaaGreatDoor
namespace Go.Proofs.YtbpnacacnncopaaGreatDoor
open Go.RowKit
theorem top_word {v0 v1 v2 v3 : Int} {V : Nat} (h : NV v0 v1 v2 v3 V) : v0 / 17179869184 = ((V / 107839786668602559178668060348078522694548577690162289924414440996864 : Nat) : Int) ∧ 0 ≤ v0 ∧ v0 ≤ 18446744073709551615 := by
  have h1 := h.v
  obtain ⟨a0, b0⟩ := h.u0
  obtain ⟨a1, b1⟩ := h.u1
  obtain ⟨a2, b2⟩ := h.u2
  obtain ⟨a3, b3⟩ := h.u3
  unfold nv at h1
  omega
theorem r_low {r : Nat} (h : 1 ≤ r) : 1 / 2 ^ 22 ≤ (r : Rat) * Trig.th := by
  have h1 : (1 : Rat) ≤ (r : Rat) := by exact_mod_cast h
  have h2 : (1 : Rat) / 2 ^ 22 ≤ Trig.th := by decide +kernel
  have h3 : 0 ≤ Trig.th := by decide +kernel
  have := Rat.mul_nonneg (a := (r : Rat) - 1) (b := Trig.th) (by grind) h3
  generalize (1 : Rat) / 2 ^ 22 = z at *
  grind
/-- the floor of the sine -/
theorem sin_floor {r X U P V : Nat} (hr : r ≤ 2700000) (h1 : 1 ≤ r) (hne : r ≠ 1800000) (hX : X = Trig.radN r) (hU : Trig.Nr (U : Rat) (Trig.Z * Trig.mis ((r : Rat) * Trig.th) 1 34) 8) (hul : U < Trig.ZN) (hP : Trig.MulOk X U P) (hV : (P ≤ X → V = X - P) ∧ (X < P → V = X + Trig.ZN - P)) :
    V / 107839786668602559178668060348078522694548577690162289924414440996864 = Trig.quickN r false / 4294967296 := by
  obtain ⟨x0, x1⟩ := Trig.ang_bd hr
  subst hX
  obtain ⟨a, b⟩ := Trig.sin_near x0 x1 (Trig.radN_near r) hU hul hP
  rw [hV.1 a]
  exact Trig.same_floor b (Trig.quick_sin hr) ((Trig.far_all h1 hr).2 hne)
theorem cos_floor {r U V : Nat} (hr : r ≤ 2700000) (h1 : 1 ≤ r) (hU : Trig.Nr (U : Rat) (Trig.Z * Trig.mis ((r : Rat) * Trig.th) 0 34) 8) (hul : U < Trig.ZN) (hV : (U ≤ 0 → V = 0 - U) ∧ (0 < U → V = 0 + Trig.ZN - U)) :
    V / 107839786668602559178668060348078522694548577690162289924414440996864 = Trig.quickN r true / 4294967296 := by
  obtain ⟨x0, x1⟩ := Trig.ang_bd hr
  obtain ⟨a, b⟩ := Trig.cos_near (r_low h1) x1 hU hul
  rw [hV.2 a, Nat.zero_add]
  exact Trig.same_floor b (Trig.quick_cos hr) (Trig.far_all h1 hr).1
theorem far4 {w : World} {p : Addr} {u a b c d : Value} {g : Nat} (h : w.cell? p = some u) (hp : p.block ≠ g) : ((((w.setCell ⟨g, 0, none⟩ a).setCell ⟨g, 1, none⟩ b).setCell ⟨g, 2, none⟩ c).setCell ⟨g, 3, none⟩ d).cell? p = some u := by
  have hne : ∀ i, (⟨g, i, none⟩ : Addr) ≠ p := fun i e => hp (by rw [← e])
  rw [World.cell?_setCell_other _ _ _ _ (hne 3), World.cell?_setCell_other _ _ _ _ (hne 2), World.cell?_setCell_other _ _ _ _ (hne 1), World.cell?_setCell_other _ _ _ _ (hne 0)]
  exact h
theorem nz : NV 0 0 0 0 0 := ⟨hz, hz, hz, hz, rfl⟩
set_option maxHeartbeats 4000000 in
set_option maxRecDepth 100000 in
theorem sine_hi (n : Int) (w : World) (h1 : 2700000 < n) (h2 : n < 5400000) :
    Calls Tryz.prog 246 #[.int .i64 n] w fun e w' => e = .returned (.tuple #[.int .i64 (Trig.sF n), .bool (Trig.exN n)]) ∧ Below w.heap.size w w' := by
  obtain ⟨r, hr⟩ : ∃ r : Nat, r = (5400000 - n).toNat := ⟨_, rfl⟩
  have hs : Trig.sF n = ((Trig.quickN r true / 4294967296 : Nat) : Int) := by
    unfold Trig.sF
    rw [if_neg (by omega), if_neg (by omega), if_neg (by omega), if_neg (by omega), hr]
  have hx : Trig.exN n = false := by
    unfold Trig.exN
    rw [decide_eq_false (by omega : ¬ n = 0), decide_eq_false (by omega : ¬ n = 1800000), decide_eq_false (by omega : ¬ n = 5400000)]
    rfl
  rw [hs, hx]
  have KR := Lib.hid (fun W => radiansV (5400000 - n) W (by omega) (by omega))
  have HR := Lib.hid hr
  have e1 : (n == 0) = false := by rw [beq_eq_false_iff_ne]; omega
  have e2 : (n == 1800000) = false := by rw [beq_eq_false_iff_ne]; omega
  have e3 : (n == 5400000) = false := by rw [beq_eq_false_iff_ne]; omega
  have e4 : decide (2 * n ≤ 5400000) = false := decide_eq_false (by omega)
  have hr1 : r ≤ 2700000 := by omega
  have hr2 : 1 ≤ r := by omega
  clear hs hx hr
  go_enter Tryz.func246, Tryz.ntmps246
  go_wp2_with fail
  (with_reducible refine (KR.out _).mono ?_)
  rintro e w1 ⟨x0, x1, x2, x3, X, rfl, hX, hXr, hb1⟩
  have hXr' : X = Trig.radN r := by rw [hXr, ← HR.out]
  rw [hXr'] at hX
  have KL : Hid (∀ W, Calls Tryz.prog 254 #[num4 x0 x1 x2 x3, .int .u64 0] W (RetN (fun V => Trig.Nr (V : Rat) (Trig.Z * Trig.mis ((r : Rat) * Trig.th) 0 34) 8) W)) := Lib.hid (fun W => lessV hX hr1 0 (by omega) W)
  have hz1 := one_lt hb1
  have hC := (Blk.new w 254 (arr4 0 0 0 0)).below hb1 (by simp)
  have hbl1 := one_bl hb1
  have HC := Lib.hid hC
  clear hX hXr hXr' hb1 hC KR
  go_wp2_with fail
  (with_reducible refine (KL.out _).mono ?_)
  rintro e w2 ⟨u0, u1, u2, u3, U, rfl, hU, hUn, hb2⟩
  have HU := Lib.hid hU
  have HUn := Lib.hid hUn
  have HC2 := Lib.hid (HC.out.below hb2 HC.out.lt)
  have hbl2 := hbl1.trans (hb2.mono hbl1.size)
  clear hU hUn HC hb2 hbl1 KL
  go_wp2_with fail
  (with_reducible refine (subV nz HU.out _).mono ?_)
  rintro e w3 ⟨v0, v1, v2, v3, V, rfl, hV, hv, hb3⟩
  have HC3 := Lib.hid (HC2.out.below hb3 HC2.out.lt)
  have hbl3 := hbl2.trans (hb3.mono hbl2.size)
  have HVF := Lib.hid (cos_floor hr1 hr2 HUn.out HU.out.lt hv)
  obtain ⟨ht, b0, b1⟩ := top_word hV
  have HT := Lib.hid ht
  have z0 := HC3.out.cell 0
  have z1 := HC3.out.cell 1
  have z2 := HC3.out.cell 2
  have z3 := HC3.out.cell 3
  have f0 := HC3.out.frozen 0
  have f1 := HC3.out.frozen 1
  have f2 := HC3.out.frozen 2
  have f3 := HC3.out.frozen 3
  simp at z0 z1 z2 z3
  clear hV hv hb3 hbl2 ht HC2
  go_wp2
  go_ret2
  refine ⟨?_, (((hbl3.setCell (Nat.le_refl _) _).setCell (Nat.le_refl _) _).setCell (Nat.le_refl _) _).setCell (Nat.le_refl _) _⟩
  rw [← HVF.out, ← HT.out]
  rfl
end Go.Proofs.YtbpnacacnncopaaGreatDoor
namespace Go.Proofs.YtbpnacacnncopaaGreatDoor
open Go.RowKit
set_option maxHeartbeats 4000000 in
set_option maxRecDepth 100000 in
theorem sine_lo (n : Int) (w : World) (h1 : 0 < n) (h2 : n ≤ 2700000) (hne : n ≠ 1800000) :
    Calls Tryz.prog 246 #[.int .i64 n] w fun e w' => e = .returned (.tuple #[.int .i64 (Trig.sF n), .bool (Trig.exN n)]) ∧ Below w.heap.size w w' := by
  obtain ⟨r, hr⟩ : ∃ r : Nat, r = n.toNat := ⟨_, rfl⟩
  have hs : Trig.sF n = ((Trig.quickN r false / 4294967296 : Nat) : Int) := by
    unfold Trig.sF
    rw [if_neg (by omega), if_neg (by omega), if_neg (by omega), if_pos (by omega), hr]
  have hx : Trig.exN n = false := by
    unfold Trig.exN
    rw [decide_eq_false (by omega : ¬ n = 0), decide_eq_false hne, decide_eq_false (by omega : ¬ n = 5400000)]
    rfl
  rw [hs, hx]
  have KR := Lib.hid (fun W => radiansV n W (by omega) (by omega))
  have HR := Lib.hid hr
  have e1 : (n == 0) = false := by rw [beq_eq_false_iff_ne]; omega
  have e2 : (n == 1800000) = false := by rw [beq_eq_false_iff_ne]; omega
  have e3 : (n == 5400000) = false := by rw [beq_eq_false_iff_ne]; omega
  have e4 : decide (2 * n ≤ 5400000) = true := decide_eq_true (by omega)
  have hr1 : r ≤ 2700000 := by omega
  have hr2 : 1 ≤ r := by omega
  have hr3 : r ≠ 1800000 := by omega
  have HR3 := Lib.hid hr3
  clear hs hx hr hne hr3
  go_enter Tryz.func246, Tryz.ntmps246
  go_wp2_with fail
  (with_reducible refine (KR.out _).mono ?_)
  rintro e w1 ⟨x0, x1, x2, x3, X, rfl, hX, hXr, hb1⟩
  have hXr' : X = Trig.radN r := by rw [hXr, ← HR.out]
  rw [hXr'] at hX
  have HX := Lib.hid hX
  have KL : Hid (∀ W, Calls Tryz.prog 254 #[num4 x0 x1 x2 x3, .int .u64 1] W (RetN (fun V => Trig.Nr (V : Rat) (Trig.Z * Trig.mis ((r : Rat) * Trig.th) 1 34) 8) W)) := Lib.hid (fun W => lessV hX hr1 1 (by omega) W)
  have hz1 := one_lt hb1
  have hC := ((Blk.new w 254 (arr4 0 0 0 0)).below hb1 (by simp)).alloc (.cells (arr4 x0 x1 x2 x3) 254)
  have hbl1 := (one_bl hb1).alloc (one_bl hb1).size (.cells (arr4 x0 x1 x2 x3) 254)
  have HC := Lib.hid hC
  have HB := Lib.hid (Blk.new w1 254 (arr4 x0 x1 x2 x3))
  clear hX hXr hXr' hb1 hC KR
  go_wp2
  unfold arr4 at HB HC hbl1
  generalize w1.alloc (.cells #[.int .u64 x0, .int .u64 x1, .int .u64 x2, .int .u64 x3] 254) = w2 at *
  have hlt : w.heap.size ≠ w1.heap.size := by omega
  generalize w1.heap.size = g at *
  have l9 := HB.out.lt
  have c0 := HB.out.cell 0
  have c1 := HB.out.cell 1
  have c2 := HB.out.cell 2
  have c3 := HB.out.cell 3
  simp at c0 c1 c2 c3
  go_region_held3 (fun w' => w'.cell? ⟨g, 0, none⟩ = some (.int .u64 x0) ∧ w'.cell? ⟨g, 1, none⟩ = some (.int .u64 x1) ∧ w'.cell? ⟨g, 2, none⟩ = some (.int .u64 x2) ∧ w'.cell? ⟨g, 3, none⟩ = some (.int .u64 x3)) (first | exact ⟨m0, m1, m2, m3⟩ | exact ⟨n0, n1, n2, n3⟩ | exact ⟨k0, k1, k2, k3⟩ | exact ⟨far4 m0 hlt.symm, far4 m1 hlt.symm, far4 m2 hlt.symm, far4 m3 hlt.symm⟩ | go_keep) (first
    | (go_at_call 254; (with_reducible refine (KL.out _).mono ?_); rintro e w3 ⟨u0, u1, u2, u3, U, rfl, hU, hUn, hb3⟩; have k0 := (hb3.cell (p := ⟨g, 0, none⟩) l9).trans c0; have k1 := (hb3.cell (p := ⟨g, 1, none⟩) l9).trans c1; have k2 := (hb3.cell (p := ⟨g, 2, none⟩) l9).trans c2; have k3 := (hb3.cell (p := ⟨g, 3, none⟩) l9).trans c3; have l10 := Nat.lt_of_lt_of_le l9 hb3.size; have HU := Lib.hid hU; have HUn := Lib.hid hUn; have KX := Lib.hid (fun W => mulV HX.out hU W); have HC3 := Lib.hid (HC.out.drew.below hb3 HC.out.lt); have hbl3 := (bl_drew hbl1).trans (hb3.mono hbl1.size); clear hU hUn hb3)
    | (go_at_call 253; (with_reducible refine (KX.out _).mono ?_); rintro e w4 ⟨p0, p1, p2, p3, P, rfl, hP, hm, hb4⟩; have n0 := (hb4.cell (p := ⟨g, 0, none⟩) l10).trans k0; have n1 := (hb4.cell (p := ⟨g, 1, none⟩) l10).trans k1; have n2 := (hb4.cell (p := ⟨g, 2, none⟩) l10).trans k2; have n3 := (hb4.cell (p := ⟨g, 3, none⟩) l10).trans k3; have l11 := Nat.lt_of_lt_of_le l10 hb4.size; have HP := Lib.hid hP; have HMM := Lib.hid hm; have HC4 := Lib.hid (HC3.out.below hb4 HC3.out.lt); have hbl4 := hbl3.trans (hb4.mono hbl3.size); clear hP hm hb4)
    | (go_at_call 252; (with_reducible refine (subV HX.out HP.out _).mono ?_); rintro e w5 ⟨v0, v1, v2, v3, V, rfl, hV, hv, hb5⟩; have m0 := (hb5.cell (p := ⟨g, 0, none⟩) l11).trans n0; have m1 := (hb5.cell (p := ⟨g, 1, none⟩) l11).trans n1; have m2 := (hb5.cell (p := ⟨g, 2, none⟩) l11).trans n2; have m3 := (hb5.cell (p := ⟨g, 3, none⟩) l11).trans n3; have HC5 := Lib.hid (HC4.out.below hb5 HC4.out.lt); have hbl5 := hbl4.trans (hb5.mono hbl4.size); have HVF := Lib.hid (sin_floor hr1 hr2 HR3.out rfl HUn.out HU.out.lt HMM.out hv); have HTW := Lib.hid (top_word hV); have z0 := HC5.out.cell 0; have z1 := HC5.out.cell 1; have z2 := HC5.out.cell 2; have z3 := HC5.out.cell 3; have f0 := HC5.out.frozen 0; have f1 := HC5.out.frozen 1; have f2 := HC5.out.frozen 2; have f3 := HC5.out.frozen 3; simp at z0 z1 z2 z3; clear hV hv hb5)
    | fail)
  obtain ⟨ht, b0, b1⟩ := HTW.out
  have HT := Lib.hid ht
  clear ht
  go_wp2
  go_ret2
  refine ⟨?_, (((hbl5.setCell (Nat.le_refl _) _).setCell (Nat.le_refl _) _).setCell (Nat.le_refl _) _).setCell (Nat.le_refl _) _⟩
  rw [← HVF.out, ← HT.out]
  rfl
end Go.Proofs.YtbpnacacnncopaaGreatDoor
namespace Go.Proofs.YtbpnacacnncopaaGreatDoor.Trig
theorem qgo_le {sq : Nat} (h : sq ≤ 4611686018427387904) : ∀ (f t m : Nat), qgo sq f t (m + 1) ≤ t
  | 0, t, m => by simp [qgo]
  | f + 1, t, m => by
    rw [qgo]
    split
    · omega
    · have h1 := tm_le (t := t) (m := m) h
      have h2 := tm_le (t := tm t sq (m + 1)) (m := m + 2) h
      have h3 := qgo_le h f (tm (tm t sq (m + 1)) sq (m + 2 + 1)) (m + 4)
      rw [show m + 1 + 2 = m + 2 + 1 by omega, show m + 1 + 4 = m + 4 + 1 by omega]
      omega
theorem quickN_le {r : Nat} (h : r ≤ 2700000) (b : Bool) : quickN r b ≤ 4611686018427387904 := by
  obtain ⟨x0, x1⟩ := ang_bd h
  have hl := sq_le x0 x1 (sqN_err h)
  have ha : arcN r ≤ 4611686018427387904 := by
    unfold arcN
    omega
  unfold quickN
  cases b with
  | true =>
    rw [if_pos rfl]
    exact qgo_le (by omega) 17 _ 0
  | false =>
    rw [if_neg (by simp)]
    exact Nat.le_trans (qgo_le (by omega) 17 _ 1) ha
theorem sF_bd {q : Int} (h0 : 0 ≤ q) (h1 : q ≤ 5400000) : 0 ≤ sF q ∧ sF q ≤ 1073741824 := by
  unfold sF
  split
  · omega
  split
  · omega
  split
  · omega
  split
  · have := quickN_le (r := q.toNat) (by omega) false
    omega
  · have := quickN_le (r := (5400000 - q).toNat) (by omega) true
    omega
theorem lo_bd (n : Int) : -1073741825 ≤ loB n ∧ loB n ≤ 1073741824 ∧ -1073741824 ≤ hiB n ∧ hiB n ≤ 1073741825 := by
  have hq := qrt_bd n
  have hs := sF_bd hq.1 hq.2
  unfold loB hiB upF
  split <;> split <;> omega
/-- whether an arc has an angle -/
def metB (lo hi n : Int) : Bool := decide ((n - lo) % 21600000 ≤ hi - lo)
/-- the least enclosure of the sine over an arc -/
def enLo (lo hi : Int) : Int := if metB lo hi 16200000 = true then -1073741824 else min (loB lo) (loB hi)
def enHi (lo hi : Int) : Int := if metB lo hi 5400000 = true then 1073741824 else max (hiB lo) (hiB hi)
end Go.Proofs.YtbpnacacnncopaaGreatDoor.Trig
namespace Go.Proofs.YtbpnacacnncopaaGreatDoor
open Go.RowKit
theorem ret2_int {a b c d : Int} (h : a = c) (h2 : b = d) : Ending.returned (.tuple #[.int .i64 a, .int .i64 b]) = .returned (.tuple #[.int .i64 c, .int .i64 d]) := by rw [h, h2]
set_option maxHeartbeats 1000000 in
theorem sine_any (n : Int) (w : World) (h0 : 0 ≤ n) (h1 : n ≤ 5400000) :
    Calls Tryz.prog 246 #[.int .i64 n] w fun e w' => e = .returned (.tuple #[.int .i64 (Trig.sF n), .bool (Trig.exN n)]) ∧ Below w.heap.size w w' := by
  by_cases a : n = 0
  · subst a
    have hs : Trig.sF 0 = 0 := by simp [Trig.sF]
    have hx : Trig.exN 0 = true := by decide
    rw [hs, hx]
    go_enter Tryz.func246, Tryz.ntmps246
    go_wp2
    go_ret2
    exact ⟨rfl, Below.refl _ _⟩
  by_cases b : n = 1800000
  · subst b
    have hs : Trig.sF 1800000 = 536870912 := by simp [Trig.sF]
    have hx : Trig.exN 1800000 = true := by decide
    rw [hs, hx]
    go_enter Tryz.func246, Tryz.ntmps246
    go_wp2
    go_ret2
    exact ⟨rfl, Below.refl _ _⟩
  by_cases c : n = 5400000
  · subst c
    have hs : Trig.sF 5400000 = 1073741824 := by simp [Trig.sF]
    have hx : Trig.exN 5400000 = true := by decide
    rw [hs, hx]
    go_enter Tryz.func246, Tryz.ntmps246
    go_wp2
    go_ret2
    exact ⟨rfl, Below.refl _ _⟩
  by_cases d : n ≤ 2700000
  · exact sine_lo n w (by omega) d b
  · exact sine_hi n w (by omega) (by omega)
theorem tmodT_cases (n : Int) : (0 ≤ n ∧ n.tmod 21600000 = n % 21600000) ∨ (n < 0 ∧ n.tmod 21600000 = -((-n) % 21600000)) := by
  by_cases h : 0 ≤ n
  · exact .inl ⟨h, Int.tmod_eq_emod_of_nonneg h⟩
  · refine .inr ⟨by omega, ?_⟩
    have h1 : (-n).tmod 21600000 = (-n) % 21600000 := Int.tmod_eq_emod_of_nonneg (by omega)
    rw [Int.neg_tmod] at h1
    omega
theorem tmodT_pos {n : Int} (h : 0 ≤ n.tmod 21600000) : n.tmod 21600000 = n % 21600000 := by
  rcases tmodT_cases n with ⟨h1, h2⟩ | ⟨h1, h2⟩ <;> omega
theorem tmodT_neg {n : Int} (h : n.tmod 21600000 < 0) : n.tmod 21600000 + 21600000 = n % 21600000 := by
  rcases tmodT_cases n with ⟨h1, h2⟩ | ⟨h1, h2⟩ <;> omega
set_option maxHeartbeats 1000000 in
theorem turned_any (n : Int) (w : World) : Calls Tryz.prog 245 #[.int .i64 n] w fun e w' => e = .returned (.int .i64 (n % 21600000)) ∧ w' = w := by
  go_enter Tryz.func245, Tryz.ntmps245
  go_wp2
  all_goals
    go_ret
    refine ⟨ret_int ?_, rfl⟩
    first | (exact tmodT_pos (by assumption)) | (rw [IntWalk.wrap64_in _ (by have := tmodT_neg (n := n) (by assumption); omega)]; exact tmodT_neg (by assumption))
set_option maxHeartbeats 2000000 in
theorem bounds_any (n : Int) (w : World) :
    Calls Tryz.prog 240 #[.int .i64 n] w fun e w' => e = .returned (.tuple #[.int .i64 (Trig.loB n), .int .i64 (Trig.hiB n)]) ∧ Below w.heap.size w w' := by
  have KT := Lib.hid (fun W => turned_any n W)
  have hq := Trig.qrt_bd n
  have KS := Lib.hid (fun W => sine_any (Trig.qrt n) W hq.1 hq.2)
  have hb := Trig.sF_bd hq.1 hq.2
  have hlo : Trig.loB n = if Trig.sth n = true then - Trig.upF (Trig.qrt n) else Trig.sF (Trig.qrt n) := rfl
  have hhi : Trig.hiB n = if Trig.sth n = true then - Trig.sF (Trig.qrt n) else Trig.upF (Trig.qrt n) := rfl
  have hu : Trig.upF (Trig.qrt n) = if Trig.exN (Trig.qrt n) = true then Trig.sF (Trig.qrt n) else Trig.sF (Trig.qrt n) + 1 := rfl
  have hst : Trig.sth n = decide (n % 21600000 > 10800000) := rfl
  have hqd : Trig.qrt n = if n % 21600000 > 10800000 then (if n % 21600000 - 10800000 > 5400000 then 10800000 - (n % 21600000 - 10800000) else n % 21600000 - 10800000) else (if n % 21600000 > 5400000 then 10800000 - n % 21600000 else n % 21600000) := rfl
  rw [hlo, hhi, hu, hst]
  clear hlo hhi hu hst hq
  have hm : 0 ≤ n % 21600000 ∧ n % 21600000 < 21600000 := by omega
  generalize n % 21600000 = m at *
  generalize Trig.qrt n = q at *
  generalize Trig.sF q = s at *
  generalize Trig.exN q = x at *
  obtain ⟨m0, m1⟩ := hm
  obtain ⟨s0, s1⟩ := hb
  by_cases hs : m > 10800000
  · have ds : decide (10800000 < m) = true := decide_eq_true hs
    have hd : decide (m > 10800000) = true := ds
    rw [hd]
    clear hd
    by_cases hm5 : m - 10800000 > 5400000
    · rw [if_pos hs, if_pos hm5] at hqd
      subst hqd
      have d5 : decide (5400000 < m - 10800000) = true := decide_eq_true hm5
      cases x
      all_goals
        simp only [eq_self, if_true, Bool.false_eq_true, if_false]
        go_enter Tryz.func240, Tryz.ntmps240
        go_wp2_with (first | (go_at_call 245; (with_reducible refine (KT.out _).mono ?_); rintro e w1 ⟨rfl, rfl⟩) | (go_at_call 246; (with_reducible refine (KS.out _).mono ?_); rintro e w2 ⟨rfl, hb2⟩))
        go_ret2
        exact ⟨ret2_int rfl rfl, hb2⟩
    · rw [if_pos hs, if_neg hm5] at hqd
      subst hqd
      have d5 : decide (5400000 < m - 10800000) = false := decide_eq_false hm5
      cases x
      all_goals
        simp only [eq_self, if_true, Bool.false_eq_true, if_false]
        go_enter Tryz.func240, Tryz.ntmps240
        go_wp2_with (first | (go_at_call 245; (with_reducible refine (KT.out _).mono ?_); rintro e w1 ⟨rfl, rfl⟩) | (go_at_call 246; (with_reducible refine (KS.out _).mono ?_); rintro e w2 ⟨rfl, hb2⟩))
        go_ret2
        exact ⟨ret2_int rfl rfl, hb2⟩
  · have ds : decide (10800000 < m) = false := decide_eq_false hs
    have hd : decide (m > 10800000) = false := ds
    rw [hd]
    clear hd
    by_cases hm5 : m > 5400000
    · rw [if_neg hs, if_pos hm5] at hqd
      subst hqd
      have d5 : decide (5400000 < m) = true := decide_eq_true hm5
      cases x
      all_goals
        simp only [eq_self, if_true, Bool.false_eq_true, if_false]
        go_enter Tryz.func240, Tryz.ntmps240
        go_wp2_with (first | (go_at_call 245; (with_reducible refine (KT.out _).mono ?_); rintro e w1 ⟨rfl, rfl⟩) | (go_at_call 246; (with_reducible refine (KS.out _).mono ?_); rintro e w2 ⟨rfl, hb2⟩))
        go_ret2
        exact ⟨ret2_int rfl rfl, hb2⟩
    · rw [if_neg hs, if_neg hm5] at hqd
      subst hqd
      have d5 : decide (5400000 < q) = false := decide_eq_false hm5
      cases x
      all_goals
        simp only [eq_self, if_true, Bool.false_eq_true, if_false]
        go_enter Tryz.func240, Tryz.ntmps240
        go_wp2_with (first | (go_at_call 245; (with_reducible refine (KT.out _).mono ?_); rintro e w1 ⟨rfl, rfl⟩) | (go_at_call 246; (with_reducible refine (KS.out _).mono ?_); rintro e w2 ⟨rfl, hb2⟩))
        go_ret2
        exact ⟨ret2_int rfl rfl, hb2⟩
end Go.Proofs.YtbpnacacnncopaaGreatDoor
namespace Go.Proofs.YtbpnacacnncopaaGreatDoor
open Go.RowKit
/-- which arcs are valid -/
def avB (lo hi : Int) : Bool := decide (-1099511627776 ≤ lo ∧ lo ≤ hi ∧ hi ≤ 1099511627776)
theorem ret_boolU {a b : Bool} (h : a = b) : Ending.returned (.bool a) = .returned (.bool b) := by rw [h]
theorem avB_true {lo hi : Int} : avB lo hi = true ↔ (-1099511627776 ≤ lo ∧ lo ≤ hi ∧ hi ≤ 1099511627776) := by simp [avB]
set_option maxHeartbeats 1000000 in
theorem validT_any (lo hi : Int) (w : World) : Calls Tryz.prog 224 #[.agg #[.int .i64 lo, .int .i64 hi]] w fun e w' => e = .returned (.bool (avB lo hi)) ∧ Below w.heap.size w w' := by
  unfold avB
  go_enter Tryz.func224, Tryz.ntmps224
  go_wp2
  all_goals
    go_ret
    refine ⟨ret_boolU (by first | (simp_all; done) | (simp_all; omega)), ?_⟩
    repeat (first | exact Below.refl _ _ | assumption | refine bl_drew ?_ | refine bl_drewN ?_ _ | refine Below.setCell ?_ (by first | assumption | omega | (simp; done) | (simp; omega)) _ | refine Below.alloc ?_ (by first | assumption | omega | (simp; done) | (simp; omega)) _)
set_option maxHeartbeats 1000000 in
theorem meets_any (lo hi n : Int) (w : World) (h0 : -10000000000000 ≤ lo) (h1 : lo ≤ 10000000000000) (h2 : -10000000000000 ≤ hi) (h3 : hi ≤ 10000000000000) (h4 : 0 ≤ n) (h5 : n ≤ 21600000) :
    Calls Tryz.prog 241 #[.agg #[.int .i64 lo, .int .i64 hi], .int .i64 n] w fun e w' => e = .returned (.bool (Trig.metB lo hi n)) ∧ Below w.heap.size w w' := by
  have KT := Lib.hid (fun W => turned_any (n - lo) W)
  have s1 : IntKind.i64.wrap (n - lo) = n - lo := IntWalk.i64_in _ (by omega)
  have s2 : IntKind.i64.wrap (hi - lo) = hi - lo := IntWalk.i64_in _ (by clear s1; omega)
  unfold Trig.metB
  go_enter Tryz.func241, Tryz.ntmps241
  go_wp2
  go_quiet ((go_at_call 245; exact Calls.quiet_of_same (KT.out _)))
  go_wp2
  go_ret
  refine ⟨rfl, ?_⟩
  repeat (first | exact Below.refl _ _ | assumption | refine bl_drew ?_ | refine bl_drewN ?_ _ | refine Below.setCell ?_ (by first | assumption | omega | (simp; done) | (simp; omega)) _ | refine Below.alloc ?_ (by first | assumption | omega | (simp; done) | (simp; omega)) _)
set_option maxHeartbeats 2000000 in
theorem enclosure_any (lo hi : Int) (w : World) (h0 : -10000000000000 ≤ lo) (h1 : lo ≤ 10000000000000) (h2 : -10000000000000 ≤ hi) (h3 : hi ≤ 10000000000000) :
    Calls Tryz.prog 225 #[.agg #[.int .i64 lo, .int .i64 hi]] w fun e w' => e = .returned (.agg #[.int .i64 (Trig.enLo lo hi), .int .i64 (Trig.enHi lo hi)]) ∧ Below w.heap.size w w' := by
  have KA := Lib.hid (fun W => bounds_any lo W)
  have KB := Lib.hid (fun W => bounds_any hi W)
  have KQ := Lib.hid (fun W => meets_any lo hi 5400000 W h0 h1 h2 h3 (by omega) (by omega))
  have KR := Lib.hid (fun W => meets_any lo hi 16200000 W h0 h1 h2 h3 (by omega) (by omega))
  unfold Trig.enLo Trig.enHi
  generalize Trig.metB lo hi 5400000 = p at *
  generalize Trig.metB lo hi 16200000 = q at *
  generalize Trig.loB lo = a at *
  generalize Trig.hiB lo = b at *
  generalize Trig.loB hi = c at *
  generalize Trig.hiB hi = d at *
  cases p <;> cases q
  all_goals
    simp only [eq_self, if_true, Bool.false_eq_true, if_false]
    go_enter Tryz.func225, Tryz.ntmps225
    go_wp2_with fail
    (with_reducible refine (KA.out _).mono ?_)
    rintro e w1 ⟨rfl, hb1⟩
    have hz1 := two_lt hb1
    have hbl1 := two_bl hb1
    have x0 := (hb1.cell (p := ⟨w.heap.size, 0, none⟩) (by simp; omega)).trans (show _ = some (.int .i64 lo) by simp)
    have x1 := (hb1.cell (p := ⟨w.heap.size, 1, none⟩) (by simp; omega)).trans (show _ = some (.int .i64 hi) by simp)
    have z0 := (hb1.cell (p := ⟨w.heap.size + 1, 0, none⟩) (by simp)).trans (show _ = some (.int .i64 0) by simp)
    have z1 := (hb1.cell (p := ⟨w.heap.size + 1, 1, none⟩) (by simp)).trans (show _ = some (.int .i64 0) by simp)
    have f0 := (hb1.frozen (p := ⟨w.heap.size + 1, 0, none⟩) (by simp)).trans (show _ = false by simp)
    have f1 := (hb1.frozen (p := ⟨w.heap.size + 1, 1, none⟩) (by simp)).trans (show _ = false by simp)
    clear hb1
    go_wp2_with fail
    (with_reducible refine (KB.out _).mono ?_)
    rintro e w2 ⟨rfl, hb2⟩
    have x0 := (hb2.cell (p := ⟨w.heap.size, 0, none⟩) hz1.1).trans x0
    have x1 := (hb2.cell (p := ⟨w.heap.size, 1, none⟩) hz1.1).trans x1
    have z0 := (hb2.cell (p := ⟨w.heap.size + 1, 0, none⟩) hz1.2).trans z0
    have z1 := (hb2.cell (p := ⟨w.heap.size + 1, 1, none⟩) hz1.2).trans z1
    have f0 := (hb2.frozen (p := ⟨w.heap.size + 1, 0, none⟩) hz1.2).trans f0
    have f1 := (hb2.frozen (p := ⟨w.heap.size + 1, 1, none⟩) hz1.2).trans f1
    have hbl2 := hbl1.trans (hb2.mono hbl1.size)
    have hz2 : w.heap.size < w2.heap.size ∧ w.heap.size + 1 < w2.heap.size := by have := hb2.size; omega
    clear hb2 hbl1 hz1
    go_wp2_with fail
    (with_reducible refine (KQ.out _).mono ?_)
    rintro e w3 ⟨rfl, hb3⟩
    have x0 := (hb3.cell (p := ⟨w.heap.size, 0, none⟩) hz2.1).trans x0
    have x1 := (hb3.cell (p := ⟨w.heap.size, 1, none⟩) hz2.1).trans x1
    have z0 := (hb3.cell (p := ⟨w.heap.size + 1, 0, none⟩) hz2.2).trans z0
    have z1 := (hb3.cell (p := ⟨w.heap.size + 1, 1, none⟩) hz2.2).trans z1
    have f0 := (hb3.frozen (p := ⟨w.heap.size + 1, 0, none⟩) hz2.2).trans f0
    have f1 := (hb3.frozen (p := ⟨w.heap.size + 1, 1, none⟩) hz2.2).trans f1
    have hbl3 := hbl2.trans (hb3.mono hbl2.size)
    have hz3 : w.heap.size < w3.heap.size ∧ w.heap.size + 1 < w3.heap.size := by have := hb3.size; omega
    clear hb3 hbl2 hz2
    go_wp2_with fail
    (with_reducible refine (KR.out _).mono ?_)
    rintro e w4 ⟨rfl, hb4⟩
    have z0 := (hb4.cell (p := ⟨w.heap.size + 1, 0, none⟩) hz3.2).trans z0
    have z1 := (hb4.cell (p := ⟨w.heap.size + 1, 1, none⟩) hz3.2).trans z1
    have f0 := (hb4.frozen (p := ⟨w.heap.size + 1, 0, none⟩) hz3.2).trans f0
    have f1 := (hb4.frozen (p := ⟨w.heap.size + 1, 1, none⟩) hz3.2).trans f1
    have hbl4 := hbl3.trans (hb4.mono hbl3.size)
    clear hb4 hbl3 hz3 x0 x1
    go_wp2
    first
      | (refine bodyPost_ret (v := .agg #[.int .i64 (min a c), .int .i64 (max b d)]) (by simp [results, Tryz.results225, go_sem, *]) rfl ⟨rfl, ?_⟩; exact (hbl4.setCell (by simp) _).setCell (by simp) _)
      | (refine bodyPost_ret (v := .agg #[.int .i64 (-1073741824), .int .i64 (max b d)]) (by simp [results, Tryz.results225, go_sem, *]) rfl ⟨rfl, ?_⟩; exact (hbl4.setCell (by simp) _).setCell (by simp) _)
      | (refine bodyPost_ret (v := .agg #[.int .i64 (min a c), .int .i64 1073741824]) (by simp [results, Tryz.results225, go_sem, *]) rfl ⟨rfl, ?_⟩; exact (hbl4.setCell (by simp) _).setCell (by simp) _)
      | (refine bodyPost_ret (v := .agg #[.int .i64 (-1073741824), .int .i64 1073741824]) (by simp [results, Tryz.results225, go_sem, *]) rfl ⟨rfl, ?_⟩; exact (hbl4.setCell (by simp) _).setCell (by simp) _)
end Go.Proofs.YtbpnacacnncopaaGreatDoor
namespace Go.Proofs.YtbpnacacnncopaaGreatDoor
open Go.RowKit
set_option maxHeartbeats 1000000 in
theorem Sin_yes (lo hi : Int) (w : World) (hv : avB lo hi = true) : Calls Tryz.prog 195 #[.agg #[.int .i64 lo, .int .i64 hi]] w fun e w' => e = .returned (.tuple #[.agg #[.int .i64 (Trig.enLo lo hi), .int .i64 (Trig.enHi lo hi)], .int .i64 0]) ∧ Below w.heap.size w w' := by
  have KV := Lib.hid (fun W => validT_any lo hi W)
  rw [hv] at KV
  obtain ⟨a, b, c⟩ := avB_true.1 hv
  have KE := Lib.hid (fun W => enclosure_any lo hi W (by omega) (by omega) (by omega) (by omega))
  generalize Trig.enLo lo hi = u at *
  generalize Trig.enHi lo hi = v at *
  clear hv a b c
  go_enter Tryz.func195, Tryz.ntmps195
  go_wp2_with fail
  (with_reducible refine (KV.out _).mono ?_)
  rintro e w1 ⟨rfl, hb1⟩
  have hz1 := two_lt hb1
  have hbl1 := two_bl hb1
  have x0 := (hb1.cell (p := ⟨w.heap.size, 0, none⟩) (by simp; omega)).trans (show _ = some (.int .i64 lo) by simp)
  have x1 := (hb1.cell (p := ⟨w.heap.size, 1, none⟩) (by simp; omega)).trans (show _ = some (.int .i64 hi) by simp)
  have z0 := (hb1.cell (p := ⟨w.heap.size + 1, 0, none⟩) (by simp)).trans (show _ = some (.int .i64 0) by simp)
  have z1 := (hb1.cell (p := ⟨w.heap.size + 1, 1, none⟩) (by simp)).trans (show _ = some (.int .i64 0) by simp)
  have f0 := (hb1.frozen (p := ⟨w.heap.size + 1, 0, none⟩) (by simp)).trans (show _ = false by simp)
  have f1 := (hb1.frozen (p := ⟨w.heap.size + 1, 1, none⟩) (by simp)).trans (show _ = false by simp)
  clear hb1
  go_wp2_with fail
  (with_reducible refine (KE.out _).mono ?_)
  rintro e w2 ⟨rfl, hb2⟩
  have z0 := (hb2.cell (p := ⟨w.heap.size + 1, 0, none⟩) hz1.2).trans z0
  have z1 := (hb2.cell (p := ⟨w.heap.size + 1, 1, none⟩) hz1.2).trans z1
  have f0 := (hb2.frozen (p := ⟨w.heap.size + 1, 0, none⟩) hz1.2).trans f0
  have f1 := (hb2.frozen (p := ⟨w.heap.size + 1, 1, none⟩) hz1.2).trans f1
  have hbl2 := hbl1.trans (hb2.mono hbl1.size)
  clear hb2 hbl1 hz1 x0 x1
  go_wp2
  refine bodyPost_ret (v := .tuple #[.agg #[.int .i64 u, .int .i64 v], .int .i64 0]) (by simp [results, Tryz.results195, go_sem, *]) rfl ⟨rfl, ?_⟩
  exact (hbl2.setCell (by simp) _).setCell (by simp) _
set_option maxHeartbeats 1000000 in
theorem further_any (lo hi : Int) (w : World) (h0 : -10000000000000 ≤ lo) (h1 : lo ≤ 10000000000000) (h2 : -10000000000000 ≤ hi) (h3 : hi ≤ 10000000000000) : Calls Tryz.prog 226 #[.agg #[.int .i64 lo, .int .i64 hi]] w fun e w' => e = .returned (.agg #[.int .i64 (lo + 5400000), .int .i64 (hi + 5400000)]) ∧ Below w.heap.size w w' := by
  go_enter Tryz.func226, Tryz.ntmps226
  go_wp2
  refine bodyPost_ret (v := .agg #[.int .i64 (lo + 5400000), .int .i64 (hi + 5400000)]) (by simp [results, Tryz.results226, go_sem]) rfl ⟨rfl, ?_⟩
  repeat (first | exact Below.refl _ _ | assumption | refine bl_drew ?_ | refine bl_drewN ?_ _ | refine Below.setCell ?_ (by first | assumption | omega | (simp; done) | (simp; omega)) _ | refine Below.alloc ?_ (by first | assumption | omega | (simp; done) | (simp; omega)) _)
set_option maxHeartbeats 1000000 in
theorem Cos_yes (lo hi : Int) (w : World) (hv : avB lo hi = true) : Calls Tryz.prog 190 #[.agg #[.int .i64 lo, .int .i64 hi]] w fun e w' => e = .returned (.tuple #[.agg #[.int .i64 (Trig.enLo (lo + 5400000) (hi + 5400000)), .int .i64 (Trig.enHi (lo + 5400000) (hi + 5400000))], .int .i64 0]) ∧ Below w.heap.size w w' := by
  have KV := Lib.hid (fun W => validT_any lo hi W)
  rw [hv] at KV
  obtain ⟨a, b, c⟩ := avB_true.1 hv
  have KF := Lib.hid (fun W => further_any lo hi W (by omega) (by omega) (by omega) (by omega))
  have KE := Lib.hid (fun W => enclosure_any (lo + 5400000) (hi + 5400000) W (by omega) (by omega) (by omega) (by omega))
  generalize lo + 5400000 = lo' at *
  generalize hi + 5400000 = hi' at *
  generalize Trig.enLo lo' hi' = u at *
  generalize Trig.enHi lo' hi' = v at *
  clear hv a b c
  go_enter Tryz.func190, Tryz.ntmps190
  go_wp2_with fail
  (with_reducible refine (KV.out _).mono ?_)
  rintro e w1 ⟨rfl, hb1⟩
  have hz1 := two_lt hb1
  have hbl1 := two_bl hb1
  have x0 := (hb1.cell (p := ⟨w.heap.size, 0, none⟩) (by simp; omega)).trans (show _ = some (.int .i64 lo) by simp)
  have x1 := (hb1.cell (p := ⟨w.heap.size, 1, none⟩) (by simp; omega)).trans (show _ = some (.int .i64 hi) by simp)
  have z0 := (hb1.cell (p := ⟨w.heap.size + 1, 0, none⟩) (by simp)).trans (show _ = some (.int .i64 0) by simp)
  have z1 := (hb1.cell (p := ⟨w.heap.size + 1, 1, none⟩) (by simp)).trans (show _ = some (.int .i64 0) by simp)
  have f0 := (hb1.frozen (p := ⟨w.heap.size + 1, 0, none⟩) (by simp)).trans (show _ = false by simp)
  have f1 := (hb1.frozen (p := ⟨w.heap.size + 1, 1, none⟩) (by simp)).trans (show _ = false by simp)
  clear hb1
  go_wp2_with fail
  (with_reducible refine (KF.out _).mono ?_)
  rintro e w2 ⟨rfl, hb2⟩
  have z0 := (hb2.cell (p := ⟨w.heap.size + 1, 0, none⟩) hz1.2).trans z0
  have z1 := (hb2.cell (p := ⟨w.heap.size + 1, 1, none⟩) hz1.2).trans z1
  have f0 := (hb2.frozen (p := ⟨w.heap.size + 1, 0, none⟩) hz1.2).trans f0
  have f1 := (hb2.frozen (p := ⟨w.heap.size + 1, 1, none⟩) hz1.2).trans f1
  have hbl2 := hbl1.trans (hb2.mono hbl1.size)
  have hz2 : w.heap.size + 1 < w2.heap.size := Nat.lt_of_lt_of_le hz1.2 hb2.size
  clear hb2 hbl1 hz1 x0 x1
  go_wp2_with fail
  (with_reducible refine (KE.out _).mono ?_)
  rintro e w3 ⟨rfl, hb3⟩
  have z0 := (hb3.cell (p := ⟨w.heap.size + 1, 0, none⟩) hz2).trans z0
  have z1 := (hb3.cell (p := ⟨w.heap.size + 1, 1, none⟩) hz2).trans z1
  have f0 := (hb3.frozen (p := ⟨w.heap.size + 1, 0, none⟩) hz2).trans f0
  have f1 := (hb3.frozen (p := ⟨w.heap.size + 1, 1, none⟩) hz2).trans f1
  have hbl3 := hbl2.trans (hb3.mono hbl2.size)
  clear hb3 hbl2 hz2
  go_wp2
  refine bodyPost_ret (v := .tuple #[.agg #[.int .i64 u, .int .i64 v], .int .i64 0]) (by simp [results, Tryz.results190, go_sem, *]) rfl ⟨rfl, ?_⟩
  exact (hbl3.setCell (by simp) _).setCell (by simp) _
end Go.Proofs.YtbpnacacnncopaaGreatDoor
namespace Go.Proofs.YtbpnacacnncopaaGreatDoor
open Go.RowKit
/-- two cells that are known, and can be written -/
structure D2 (W : World) (g : Nat) (a b : Int) : Prop where
  lt : g < W.heap.size
  c0 : W.cell? ⟨g, 0, none⟩ = some (.int .i64 a)
  c1 : W.cell? ⟨g, 1, none⟩ = some (.int .i64 b)
  f0 : W.frozen? ⟨g, 0, none⟩ = false
  f1 : W.frozen? ⟨g, 1, none⟩ = false
section
variable {W W' : World} {g : Nat} {a b : Int}
theorem D2.below {B : Nat} (h : D2 W g a b) (hb : Below B W W') (hB : g < B) : D2 W' g a b :=
  ⟨Nat.lt_of_lt_of_le h.lt hb.size, (hb.cell (p := ⟨g, 0, none⟩) hB).trans h.c0, (hb.cell (p := ⟨g, 1, none⟩) hB).trans h.c1, (hb.frozen (p := ⟨g, 0, none⟩) hB).trans h.f0, (hb.frozen (p := ⟨g, 1, none⟩) hB).trans h.f1⟩
theorem D2.alloc (h : D2 W g a b) (o : Obj) : D2 (W.alloc o) g a b := h.below (bl_alloc W o) h.lt
theorem D2.new (W : World) (a b : Int) (t : TypeId) : D2 (W.alloc (.cells #[.int .i64 a, .int .i64 b] t)) W.heap.size a b := ⟨by simp, by simp, by simp, by simp, by simp⟩
end
end Go.Proofs.YtbpnacacnncopaaGreatDoor
