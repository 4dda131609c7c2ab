/- The walks of arctrig's comparison of numbers and of its series. -/
import Derived.ChangeKeysEq
import Derived.BigRegion
import Derived.Test.YtifdgdgfmjfbdaaGreatIBc
set_option linter.unusedVariables false
set_option linter.unusedSimpArgs false
namespace Go.Proofs.YtifdgdgfmjfbdaaGreat
open Go.RowKit
/-- whether a number is nothing -/
def numz (a0 a1 a2 a3 : Int) : Bool := decide (a0 = 0 ∧ a1 = 0 ∧ a2 = 0 ∧ a3 = 0)
theorem numz_nv {a0 a1 a2 a3 : Int} (h0 : U64 a0) (h1 : U64 a1) (h2 : U64 a2) (h3 : U64 a3) (h : numz a0 a1 a2 a3 = false) : 1 ≤ nv a0 a1 a2 a3 := by
  unfold numz at h
  have h := of_decide_eq_false h
  unfold nv
  unfold U64 at *
  omega
theorem neqNum (a0 a1 a2 a3 : Int) (w : World) : (binOp .neq 238 (num4 a0 a1 a2 a3) (num4 0 0 0 0)).run Tryz.prog w = .ok (.bool (!(numz a0 a1 a2 a3))) w := by
  have u3 := Tryz.underlying236
  have z3 : Tryz.prog.cellsOf 236 = 1 := by kernel_rfl
  have a3' := Tryz.isAgg236
  have s3 := Tryz.sizeOf236
  obtain ⟨i, hi⟩ : ∃ i, Tryz.prog.info? 236 = some i := by
    have h : (Tryz.prog.info? 236).isSome = true := by kernel_rfl
    exact Option.isSome_iff_exists.1 h
  rw [run_neq_struct, show (10000 : Nat) = 9999 + 1 from rfl, Go.run_equalIn_array w 9999 _ _ Tryz.underlying238 hi, z3]
  rw [show List.range 4 = [0, 1, 2, 3] from rfl]
  simp only [Op.eqItems]
  go_simp
  by_cases h0 : a0 = 0 <;> by_cases h1 : a1 = 0 <;> by_cases h2 : a2 = 0 <;> by_cases h3 : a3 = 0 <;> simp [numz, h0, h1, h2, h3]
theorem blk4 {W : World} {g : Nat} {t : TypeId} {z0 z1 z2 z3 : Value} (h : Blk W g t #[z0, z1, z2, z3]) (u0 u1 u2 u3 : Value) : Blk ((((W.setCell ⟨g, 0, none⟩ u0).setCell ⟨g, 1, none⟩ u1).setCell ⟨g, 2, none⟩ u2).setCell ⟨g, 3, none⟩ u3) g t #[u0, u1, u2, u3] := by
  have := ((((h.set_ 0 u0).set_ 1 u1).set_ 2 u2).set_ 3 u3)
  simp only [List.setIfInBounds_toArray, List.set_cons_zero, List.set_cons_succ] at this
  exact this
theorem blk_far4 {W : World} {g k : Nat} {t : TypeId} {cs : Array Value} (h : Blk W k t cs) (hk : k ≠ g) (u0 u1 u2 u3 : Value) : Blk ((((W.setCell ⟨g, 0, none⟩ u0).setCell ⟨g, 1, none⟩ u1).setCell ⟨g, 2, none⟩ u2).setCell ⟨g, 3, none⟩ u3) k t cs :=
  (((h.far hk u0).far hk u1).far hk u2).far hk u3
theorem bl_put4' {B : Nat} {a W : World} {g : Nat} (h : Below B a W) (hg : B ≤ g) (u0 u1 u2 u3 : Value) : Below B a ((((W.setCell ⟨g, 0, none⟩ u0).setCell ⟨g, 1, none⟩ u1).setCell ⟨g, 2, none⟩ u2).setCell ⟨g, 3, none⟩ u3) :=
  (((h.setCell hg u0).setCell hg u1).setCell hg u2).setCell hg u3
/-- a part of a number, rounded down -/
theorem over_nv (a0 a1 a2 a3 d : Int) (hd : 0 < d) : nv (dvQ 0 a0 d) (dvQ (dvR 0 a0 d) a1 d) (dvQ (dvR (dvR 0 a0 d) a1 d) a2 d) (dvQ (dvR (dvR (dvR 0 a0 d) a1 d) a2 d) a3 d) * d ≤ nv a0 a1 a2 a3 := by
  have e0 := dv_eq 0 a0 d
  have e1 := dv_eq (dvR 0 a0 d) a1 d
  have e2 := dv_eq (dvR (dvR 0 a0 d) a1 d) a2 d
  have e3 := dv_eq (dvR (dvR (dvR 0 a0 d) a1 d) a2 d) a3 d
  have b3 := (dvR_bd (dvR (dvR (dvR 0 a0 d) a1 d) a2 d) a3 hd).1
  generalize dvR (dvR (dvR (dvR 0 a0 d) a1 d) a2 d) a3 d = r3 at *
  generalize dvQ (dvR (dvR (dvR 0 a0 d) a1 d) a2 d) a3 d = q3 at *
  generalize dvR (dvR (dvR 0 a0 d) a1 d) a2 d = r2 at *
  generalize dvQ (dvR (dvR 0 a0 d) a1 d) a2 d = q2 at *
  generalize dvR (dvR 0 a0 d) a1 d = r1 at *
  generalize dvQ (dvR 0 a0 d) a1 d = q1 at *
  generalize dvR 0 a0 d = r0 at *
  generalize dvQ 0 a0 d = q0 at *
  rw [nv_mul]
  unfold nv
  omega
/-- what a part of a number is -/
def OverR (a0 a1 a2 a3 d : Int) (e : Ending) : Prop := ∃ r0 r1 r2 r3 : Int, e = .returned (num4 r0 r1 r2 r3) ∧ (U64 r0 ∧ U64 r1 ∧ U64 r2 ∧ U64 r3) ∧ nv r0 r1 r2 r3 * d ≤ nv a0 a1 a2 a3
theorem overR_any (a0 a1 a2 a3 d : Int) (w : World) (h0 : U64 a0) (h1 : U64 a1) (h2 : U64 a2) (h3 : U64 a3) (hd0 : 0 < d) (hd1 : d < 4294967296) :
    Calls Tryz.prog 274 #[num4 a0 a1 a2 a3, .int .u64 d] w fun e w' => OverR a0 a1 a2 a3 d e ∧ Below w.heap.size w w' := by
  refine (overQ_any a0 a1 a2 a3 d w h0 h1 h2 h3 hd0 hd1).mono ?_
  rintro e w' ⟨rfl, hb⟩
  have c0 := dvR_bd 0 a0 hd0
  have c1 := dvR_bd (dvR 0 a0 d) a1 hd0
  have c2 := dvR_bd (dvR (dvR 0 a0 d) a1 d) a2 hd0
  exact ⟨⟨_, _, _, _, rfl, ⟨dvQ_u hd0 (Int.le_refl 0) hd0 h0, dvQ_u hd0 c0.1 c0.2 h1, dvQ_u hd0 c1.1 c1.2 h2, dvQ_u hd0 c2.1 c2.2 h3⟩, over_nv a0 a1 a2 a3 d hd0⟩, hb⟩
/-- one step of a series: the term is at most half of the term before -/
theorem term_step {t0 t1 t2 t3 s0 s1 s2 s3 r0 r1 r2 r3 q0 q1 q2 q3 d : Int} {j : Nat} (ht : 0 ≤ nv t0 t1 t2 t3) (hs : nv s0 s1 s2 s3 ≤ 6277101735386680763835789423207666416102355444464034512896) (h1 : nv r0 r1 r2 r3 * 6277101735386680763835789423207666416102355444464034512896 ≤ nv t0 t1 t2 t3 * nv s0 s1 s2 s3) (h2 : nv q0 q1 q2 q3 * d ≤ nv r0 r1 r2 r3) (hd : 2 ≤ d) (hq : 0 ≤ nv q0 q1 q2 q3) (hj : nv t0 t1 t2 t3 * 2 ^ j < 115792089237316195423570985008687907853269984665640564039457584007913129639936) :
    nv q0 q1 q2 q3 * 2 ^ (j + 1) < 115792089237316195423570985008687907853269984665640564039457584007913129639936 := by
  generalize nv t0 t1 t2 t3 = t at *
  generalize nv s0 s1 s2 s3 = s at *
  generalize nv r0 r1 r2 r3 = r at *
  generalize nv q0 q1 q2 q3 = q at *
  have a1 : t * s ≤ t * 6277101735386680763835789423207666416102355444464034512896 := Int.mul_le_mul_of_nonneg_left hs ht
  have a2 : r ≤ t := by omega
  have a3 : q * 2 ≤ q * d := Int.mul_le_mul_of_nonneg_left hd hq
  have a4 : q * 2 ≤ t := by omega
  have hp : (0 : Int) ≤ 2 ^ j := Int.le_of_lt (Int.pow_pos (by decide))
  have a5 : q * 2 * 2 ^ j ≤ t * 2 ^ j := Int.mul_le_mul_of_nonneg_right a4 hp
  have e : q * 2 ^ (j + 1) = q * 2 * 2 ^ j := by rw [Int.pow_succ, Int.mul_comm (2 ^ j) 2, ← Int.mul_assoc]
  rw [e]
  omega
theorem term_few {t : Int} {j : Nat} (ht : 1 ≤ t) (hj : t * 2 ^ j < 115792089237316195423570985008687907853269984665640564039457584007913129639936) : j < 256 := by
  rcases Nat.lt_or_ge j 256 with h | h
  · exact h
  · exfalso
    have h1 : ((2 : Int) ^ 256) ≤ 2 ^ j := by
      have := Nat.pow_le_pow_right (show 0 < 2 by decide) h
      exact_mod_cast this
    have h2 : 1 * (2 : Int) ^ j ≤ t * 2 ^ j := Int.mul_le_mul_of_nonneg_right ht (Int.le_of_lt (Int.pow_pos (by decide)))
    have h3 : (2 : Int) ^ 256 = 115792089237316195423570985008687907853269984665640564039457584007913129639936 := by decide
    omega
theorem nv_nn {a0 a1 a2 a3 : Int} (h0 : U64 a0) (h1 : U64 a1) (h2 : U64 a2) (h3 : U64 a3) : 0 ≤ nv a0 a1 a2 a3 ∧ nv a0 a1 a2 a3 < 115792089237316195423570985008687907853269984665640564039457584007913129639936 := by
  unfold nv U64 at *
  omega
end Go.Proofs.YtifdgdgfmjfbdaaGreat
namespace Go.Proofs.YtifdgdgfmjfbdaaGreat
open Go.RowKit
/-- either answer -/
def AnyBool (e : Ending) : Prop := ∃ v : Bool, e = .returned (.bool v)
set_option maxHeartbeats 4000000 in
set_option maxRecDepth 100000 in
theorem lessQ_any (a0 a1 a2 a3 b0 b1 b2 b3 : Int) (w : World) :
    Calls Tryz.prog 250 #[num4 a0 a1 a2 a3, num4 b0 b1 b2 b3] w fun e w' => AnyBool e ∧ Below w.heap.size w w' := by
  have TA0 := Lib.hid ((Blk.new w 238 (arr4 a0 a1 a2 a3)).alloc (.cells (arr4 b0 b1 b2 b3) 238))
  have tb := Blk.new (w.alloc (.cells (arr4 a0 a1 a2 a3) 238)) 238 (arr4 b0 b1 b2 b3)
  rw [World.size_alloc] at tb
  have TB0 := Lib.hid tb
  have B0 := Lib.hid ((bl_alloc w (.cells (arr4 a0 a1 a2 a3) 238)).alloc (by simp) (.cells (arr4 b0 b1 b2 b3) 238))
  clear tb
  unfold arr4 at TA0 TB0 B0
  go_enter Tryz.func250, Tryz.ntmps250
  go_wp2
  generalize (w.alloc (.cells #[.int .u64 a0, .int .u64 a1, .int .u64 a2, .int .u64 a3] 238)).alloc (.cells #[.int .u64 b0, .int .u64 b1, .int .u64 b2, .int .u64 b3] 238) = w0 at *
  refine wp_loop_rounds 5 ?_
  rw [rounds_succ]
  have x := TA0.out.cell 0
  have y := TB0.out.cell 0
  simp at x y
  go_wp2
  go_quiet (fail)
  rename_i nq
  clear x y
  have TA1 := Lib.hid (TA0.out.drewN nq)
  have TB1 := Lib.hid (TB0.out.drewN nq)
  have B1 := Lib.hid (bl_drewN B0.out nq)
  generalize w0.drewN nq = w1 at *
  clear TA0 TB0 B0
  rcases Classical.em (a0 = b0) with h | h
  rotate_left
  · have hd1 : (a0 != b0) = true := by simp [h]
    have hd2 : (a0 == b0) = false := by simp [h]
    have x := TA1.out.cell 0
    have y := TB1.out.cell 0
    simp at x y
    clear h
    go_wp2
    go_quiet (fail)
    have b9 := B1.out
    go_wp2
    go_ret
    exact ⟨⟨_, rfl⟩, by repeat (first | exact Below.refl _ _ | assumption | refine bl_drew ?_ | refine bl_drewN ?_ _ | refine Below.setCell ?_ (by first | assumption | omega | (simp; done) | (simp; omega)) _ | refine Below.alloc ?_ (by first | assumption | omega | (simp; done) | (simp; omega)) _)⟩
  subst h
  go_wp2
  rw [rounds_succ]
  have x := TA1.out.cell 1
  have y := TB1.out.cell 1
  simp at x y
  go_wp2
  go_quiet (fail)
  rename_i nq
  clear x y
  have TA2 := Lib.hid (TA1.out.drewN nq)
  have TB2 := Lib.hid (TB1.out.drewN nq)
  have B2 := Lib.hid (bl_drewN B1.out nq)
  generalize w1.drewN nq = w2 at *
  clear TA1 TB1 B1
  rcases Classical.em (a1 = b1) with h | h
  rotate_left
  · have hd1 : (a1 != b1) = true := by simp [h]
    have hd2 : (a1 == b1) = false := by simp [h]
    have x := TA2.out.cell 1
    have y := TB2.out.cell 1
    simp at x y
    clear h
    go_wp2
    go_quiet (fail)
    have b9 := B2.out
    go_wp2
    go_ret
    exact ⟨⟨_, rfl⟩, by repeat (first | exact Below.refl _ _ | assumption | refine bl_drew ?_ | refine bl_drewN ?_ _ | refine Below.setCell ?_ (by first | assumption | omega | (simp; done) | (simp; omega)) _ | refine Below.alloc ?_ (by first | assumption | omega | (simp; done) | (simp; omega)) _)⟩
  subst h
  go_wp2
  rw [rounds_succ]
  have x := TA2.out.cell 2
  have y := TB2.out.cell 2
  simp at x y
  go_wp2
  go_quiet (fail)
  rename_i nq
  clear x y
  have TA3 := Lib.hid (TA2.out.drewN nq)
  have TB3 := Lib.hid (TB2.out.drewN nq)
  have B3 := Lib.hid (bl_drewN B2.out nq)
  generalize w2.drewN nq = w3 at *
  clear TA2 TB2 B2
  rcases Classical.em (a2 = b2) with h | h
  rotate_left
  · have hd1 : (a2 != b2) = true := by simp [h]
    have hd2 : (a2 == b2) = false := by simp [h]
    have x := TA3.out.cell 2
    have y := TB3.out.cell 2
    simp at x y
    clear h
    go_wp2
    go_quiet (fail)
    have b9 := B3.out
    go_wp2
    go_ret
    exact ⟨⟨_, rfl⟩, by repeat (first | exact Below.refl _ _ | assumption | refine bl_drew ?_ | refine bl_drewN ?_ _ | refine Below.setCell ?_ (by first | assumption | omega | (simp; done) | (simp; omega)) _ | refine Below.alloc ?_ (by first | assumption | omega | (simp; done) | (simp; omega)) _)⟩
  subst h
  go_wp2
  rw [rounds_succ]
  have x := TA3.out.cell 3
  have y := TB3.out.cell 3
  simp at x y
  go_wp2
  go_quiet (fail)
  rename_i nq
  clear x y
  have TA4 := Lib.hid (TA3.out.drewN nq)
  have TB4 := Lib.hid (TB3.out.drewN nq)
  have B4 := Lib.hid (bl_drewN B3.out nq)
  generalize w3.drewN nq = w4 at *
  clear TA3 TB3 B3
  rcases Classical.em (a3 = b3) with h | h
  rotate_left
  · have hd1 : (a3 != b3) = true := by simp [h]
    have hd2 : (a3 == b3) = false := by simp [h]
    have x := TA4.out.cell 3
    have y := TB4.out.cell 3
    simp at x y
    clear h
    go_wp2
    go_quiet (fail)
    have b9 := B4.out
    go_wp2
    go_ret
    exact ⟨⟨_, rfl⟩, by repeat (first | exact Below.refl _ _ | assumption | refine bl_drew ?_ | refine bl_drewN ?_ _ | refine Below.setCell ?_ (by first | assumption | omega | (simp; done) | (simp; omega)) _ | refine Below.alloc ?_ (by first | assumption | omega | (simp; done) | (simp; omega)) _)⟩
  subst h
  go_wp2
  rw [rounds_succ]
  go_wp2
  go_ret
  exact ⟨⟨_, rfl⟩, B4.out⟩
/-- some number -/
def AnyNum (e : Ending) : Prop := ∃ r0 r1 r2 r3 : Int, e = .returned (num4 r0 r1 r2 r3) ∧ U64 r0 ∧ U64 r1 ∧ U64 r2 ∧ U64 r3
/-- a series under way: its term, its sum, the square -/
structure SerI (w wr : World) (g7 g8 j : Nat) (s0 s1 s2 s3 t0 t1 t2 t3 u0 u1 u2 u3 : Int) : Prop where
  ht : U64 t0 ∧ U64 t1 ∧ U64 t2 ∧ U64 t3
  hu : U64 u0 ∧ U64 u1 ∧ U64 u2 ∧ U64 u3
  hj : nv t0 t1 t2 t3 * 2 ^ j < 115792089237316195423570985008687907853269984665640564039457584007913129639936
  T8 : Blk wr g8 238 (arr4 t0 t1 t2 t3)
  T7 : Blk wr g7 238 (arr4 u0 u1 u2 u3)
  TS : Blk wr (w.heap.size + 1) 238 (arr4 s0 s1 s2 s3)
  TZ : Blk wr (w.heap.size + 1 + 1) 238 (arr4 0 0 0 0)
  bl : Below w.heap.size w wr
set_option maxHeartbeats 4000000 in
set_option maxRecDepth 100000 in
theorem series_any (f0 f1 f2 f3 s0 s1 s2 s3 n : Int) (w : World) (hf : U64 f0 ∧ U64 f1 ∧ U64 f2 ∧ U64 f3) (hs : U64 s0 ∧ U64 s1 ∧ U64 s2 ∧ U64 s3) (hsq : nv s0 s1 s2 s3 ≤ 6277101735386680763835789423207666416102355444464034512896) (hn0 : 0 ≤ n) (hn1 : n ≤ 1) :
    Calls Tryz.prog 276 #[num4 f0 f1 f2 f3, num4 s0 s1 s2 s3, .int .u64 n] w fun e w' => AnyNum e ∧ Below w.heap.size w w' := by
  have hq := neqNum
  have HF := Lib.hid hf
  have HS := Lib.hid hs
  have HQ := Lib.hid hsq
  have TF0 := Lib.hid (((Blk.new w 238 (arr4 f0 f1 f2 f3)).alloc (.cells (arr4 s0 s1 s2 s3) 238)).alloc (.cells (arr4 0 0 0 0) 238))
  have ts := (Blk.new (w.alloc (.cells (arr4 f0 f1 f2 f3) 238)) 238 (arr4 s0 s1 s2 s3)).alloc (.cells (arr4 0 0 0 0) 238)
  have tz := Blk.new ((w.alloc (.cells (arr4 f0 f1 f2 f3) 238)).alloc (.cells (arr4 s0 s1 s2 s3) 238)) 238 (arr4 0 0 0 0)
  rw [World.size_alloc] at ts
  rw [World.size_alloc, World.size_alloc] at tz
  have TS0 := Lib.hid ts
  have TZ0 := Lib.hid tz
  have B0 := Lib.hid (((bl_alloc w (.cells (arr4 f0 f1 f2 f3) 238)).alloc (by simp) (.cells (arr4 s0 s1 s2 s3) 238)).alloc (by simp; omega) (.cells (arr4 0 0 0 0) 238))
  clear ts tz hf hs hsq
  unfold arr4 at TF0 TS0 TZ0 B0
  go_enter Tryz.func276, Tryz.ntmps276
  go_upto_region 1 with (fail)
  generalize ((w.alloc (.cells #[.int .u64 f0, .int .u64 f1, .int .u64 f2, .int .u64 f3] 238)).alloc (.cells #[.int .u64 s0, .int .u64 s1, .int .u64 s2, .int .u64 s3] 238)).alloc (.cells #[.int .u64 0, .int .u64 0, .int .u64 0, .int .u64 0] 238) = w0 at *
  have x0 := TF0.out.cell 0
  have x1 := TF0.out.cell 1
  have x2 := TF0.out.cell 2
  have x3 := TF0.out.cell 3
  simp at x0 x1 x2 x3
  have y0 := fun o => ((bl_alloc w0 o).cell (p := ⟨w.heap.size, 0, none⟩) TF0.out.lt).trans x0
  have y1 := fun o => ((bl_alloc w0 o).cell (p := ⟨w.heap.size, 1, none⟩) TF0.out.lt).trans x1
  have y2 := fun o => ((bl_alloc w0 o).cell (p := ⟨w.heap.size, 2, none⟩) TF0.out.lt).trans x2
  have y3 := fun o => ((bl_alloc w0 o).cell (p := ⟨w.heap.size, 3, none⟩) TF0.out.lt).trans x3
  have v0 := fun o o' => (((bl_alloc w0 o).alloc (by simp) o').cell (p := ⟨w.heap.size, 0, none⟩) TF0.out.lt).trans x0
  have v1 := fun o o' => (((bl_alloc w0 o).alloc (by simp) o').cell (p := ⟨w.heap.size, 1, none⟩) TF0.out.lt).trans x1
  have v2 := fun o o' => (((bl_alloc w0 o).alloc (by simp) o').cell (p := ⟨w.heap.size, 2, none⟩) TF0.out.lt).trans x2
  have v3 := fun o o' => (((bl_alloc w0 o).alloc (by simp) o').cell (p := ⟨w.heap.size, 3, none⟩) TF0.out.lt).trans x3
  go_cut [7, 8] from 7 to 11 (fun s7 s8 wy => ∃ g7 g8 : Nat, s7 = .pointer (some ⟨g7, 0, none⟩) ∧ s8 = .pointer (some ⟨g8, 0, none⟩) ∧ g7 ≠ g8 ∧ w0.heap.size ≤ g7 ∧ w0.heap.size ≤ g8 ∧ Blk wy g7 238 (arr4 f0 f1 f2 f3) ∧ Blk wy g8 238 (arr4 f0 f1 f2 f3) ∧ Below w0.heap.size w0 wy)
  case first =>
    have hA := Lib.hid ((Blk.new w0 238 #[.int .u64 f0, .int .u64 f1, .int .u64 f2, .int .u64 f3]).alloc (.cells #[.int .u64 f0, .int .u64 f1, .int .u64 f2, .int .u64 f3] 238))
    have hb' := Blk.new (w0.alloc (.cells #[.int .u64 f0, .int .u64 f1, .int .u64 f2, .int .u64 f3] 238)) 238 #[.int .u64 f0, .int .u64 f1, .int .u64 f2, .int .u64 f3]
    rw [World.size_alloc] at hb'
    have hB := Lib.hid hb'
    have hC := Lib.hid (bl_drew ((bl_alloc w0 (.cells #[.int .u64 f0, .int .u64 f1, .int .u64 f2, .int .u64 f3] 238)).alloc (by simp) (.cells #[.int .u64 f0, .int .u64 f1, .int .u64 f2, .int .u64 f3] 238)))
    clear hb'
    go_region
    all_goals
      try go_wp2
      go_meet
      case rel =>
        first
        | exact ⟨_, _, rfl, rfl, Nat.ne_of_lt (Nat.lt_succ_self _), Nat.le_refl _, Nat.le_succ _, hA.out.drew, hB.out.drew, hC.out⟩
        | exact ⟨_, _, rfl, rfl, Nat.ne_of_gt (Nat.lt_succ_self _), Nat.le_succ _, Nat.le_refl _, hB.out.drew, hA.out.drew, hC.out⟩
  case rest =>
    obtain ⟨g7, g8, rfl, rfl, hne, h7, h8, T7, T8, hb⟩ := hcut
    rename World => w1
    have z0 := TZ0.out.lt
    have I1 : Hid (SerI w w1 g7 g8 0 s0 s1 s2 s3 f0 f1 f2 f3 f0 f1 f2 f3) := Lib.hid ⟨HF.out, HF.out, by have := (nv_nn HF.out.1 HF.out.2.1 HF.out.2.2.1 HF.out.2.2.2).2; rw [Int.pow_zero, Int.mul_one]; exact this, T8, T7, TS0.out.below hb TS0.out.lt, TZ0.out.below hb TZ0.out.lt, B0.out.trans (hb.mono (by omega))⟩
    have hg7 : w.heap.size + 1 + 1 < g7 := by omega
    have hg8 : w.heap.size + 1 + 1 < g8 := by omega
    clear x0 x1 x2 x3 y0 y1 y2 y3 v0 v1 v2 v3 T7 T8 hb TF0 TS0 TZ0 B0 h7 h8 z0
    go_wp2
    go_loopw [2, 9] (fun v2 v9 wr => ∃ (j : Nat) (bo : Bool) (t0 t1 t2 t3 u0 u1 u2 u3 : Int), v2 = .int .u64 (n + 2 * j) ∧ v9 = .bool bo ∧ SerI w wr g7 g8 j s0 s1 s2 s3 t0 t1 t2 t3 u0 u1 u2 u3) (fun v2 _ _ => 1000 - (intOf v2).toNat)
    case atStart => exact ⟨0, true, _, _, _, _, _, _, _, _, by simp, rfl, I1.out⟩
    case round =>
      obtain ⟨j, bo, t0, t1, t2, t3, u0, u1, u2, u3, rfl, rfl, hI⟩ := hrel
      clear I1
      have HI := Lib.hid hI
      have y0 := hI.T8.cell 0
      have y1 := hI.T8.cell 1
      have y2 := hI.T8.cell 2
      have y3 := hI.T8.cell 3
      have x0 := hI.TS.cell 0
      have x1 := hI.TS.cell 1
      have x2 := hI.TS.cell 2
      have x3 := hI.TS.cell 3
      simp at y0 y1 y2 y3 x0 x1 x2 x3
      cases hz : numz t0 t1 t2 t3 with
      | true =>
        have q0 := hI.T7.cell 0
        have q1 := hI.T7.cell 1
        have q2 := hI.T7.cell 2
        have q3 := hI.T7.cell 3
        have r0 := hI.TZ.cell 0
        have r1 := hI.TZ.cell 1
        have r2 := hI.TZ.cell 2
        have r3 := hI.TZ.cell 3
        have p0 := hI.TZ.frozen 0
        have p1 := hI.TZ.frozen 1
        have p2 := hI.TZ.frozen 2
        have p3 := hI.TZ.frozen 3
        simp at q0 q1 q2 q3 r0 r1 r2 r3
        clear hI
        go_wp2
        refine bodyPost_ret (v := num4 u0 u1 u2 u3) (by simp [results, Tryz.results276, go_sem, *]) rfl ⟨⟨u0, u1, u2, u3, rfl, HI.out.hu⟩, ?_⟩
        exact bl_put4' HI.out.bl (by omega) _ _ _ _
      | false =>
        have ht1 := numz_nv hI.ht.1 hI.ht.2.1 hI.ht.2.2.1 hI.ht.2.2.2 hz
        have hj := term_few ht1 hI.hj
        obtain ⟨m, hm⟩ : ∃ m, n + 2 * (j : Int) = m := ⟨_, rfl⟩
        have hm0 : 0 ≤ m := by omega
        have hm1 : m ≤ 520 := by omega
        have hd1 : (m + 1) * (m + 2) ≤ 600 * 600 := Int.mul_le_mul (by omega) (by omega) (by omega) (by omega)
        have hd0 : 1 * 2 ≤ (m + 1) * (m + 2) := Int.mul_le_mul (by omega) (by omega) (by omega) (by omega)
        obtain ⟨d, hd⟩ : ∃ d, (m + 1) * (m + 2) = d := ⟨_, rfl⟩
        rw [hd] at hd0 hd1
        have n0 : IntKind.u64.wrap (m + 1) = m + 1 := by rw [IntKind.wrap_u64]; omega
        have n1 : IntKind.u64.wrap (m + 2) = m + 2 := by rw [IntKind.wrap_u64]; omega
        have n2 : IntKind.u64.wrap d = d := by rw [IntKind.wrap_u64]; omega
        have KM := Lib.hid (fun W => mulQ_any t0 t1 t2 t3 s0 s1 s2 s3 W hI.ht.1 hI.ht.2.1 hI.ht.2.2.1 hI.ht.2.2.2 HS.out.1 HS.out.2.1 HS.out.2.2.1 HS.out.2.2.2)
        have HT1 := Lib.hid ht1
        have hms : n + 2 * ((j + 1 : Nat) : Int) = m + 2 := by omega
        have HMS := Lib.hid hms
        rw [hm]
        clear hI ht1 hm hms
        go_wp2_with fail
        (with_reducible refine (KM.out _).mono ?_)
        rintro e w2 ⟨⟨r0, r1, r2, r3, rfl, hr, hrv⟩, hb2⟩
        have KO := Lib.hid (fun W => overR_any r0 r1 r2 r3 d W hr.1 hr.2.1 hr.2.2.1 hr.2.2.2 (by omega) (by omega))
        have HRV := Lib.hid hrv
        clear hr hrv x0 x1 x2 x3 y0 y1 y2 y3 KM
        go_wp2_with fail
        (with_reducible refine (KO.out _).mono ?_)
        rintro e w3 ⟨⟨q0, q1, q2, q3, rfl, hq', hqv⟩, hb3⟩
        have hb23 := hb2.trans (hb3.mono hb2.size)
        have HQ4 := Lib.hid hq'
        have HJ4 := Lib.hid (term_step (j := j) (nv_nn HI.out.ht.1 HI.out.ht.2.1 HI.out.ht.2.2.1 HI.out.ht.2.2.2).1 HQ.out HRV.out hqv (by omega) (nv_nn hq'.1 hq'.2.1 hq'.2.2.1 hq'.2.2.2).1 HI.out.hj)
        have T8 := HI.out.T8.below hb23 HI.out.T8.lt
        have T7 := Lib.hid ((HI.out.T7.below hb23 HI.out.T7.lt))
        have TS := Lib.hid (HI.out.TS.below hb23 HI.out.TS.lt)
        have TZ := Lib.hid (HI.out.TZ.below hb23 HI.out.TZ.lt)
        have hz3 := HI.out.bl.size
        have B3 := Lib.hid (HI.out.bl.trans (hb23.mono hz3))
        have hu := HI.out.hu
        have HU := Lib.hid hu
        have KS := Lib.hid (fun W => subQ_any u0 u1 u2 u3 q0 q1 q2 q3 W hu.1 hu.2.1 hu.2.2.1 hu.2.2.2 hq'.1 hq'.2.1 hq'.2.2.1 hq'.2.2.2)
        have KA := Lib.hid (fun W => addQ_any u0 u1 u2 u3 q0 q1 q2 q3 W hu.1 hu.2.1 hu.2.2.1 hu.2.2.2 hq'.1 hq'.2.1 hq'.2.2.1 hq'.2.2.2)
        have y0 := T8.cell 0
        have y1 := T8.cell 1
        have y2 := T8.cell 2
        have y3 := T8.cell 3
        have k0 := T8.frozen 0
        have k1 := T8.frozen 1
        have k2 := T8.frozen 2
        have k3 := T8.frozen 3
        simp at y0 y1 y2 y3
        have T8' := Lib.hid (blk4 T8 (.int .u64 q0) (.int .u64 q1) (.int .u64 q2) (.int .u64 q3))
        have T7' := Lib.hid (blk_far4 (g := g8) T7.out hne (.int .u64 q0) (.int .u64 q1) (.int .u64 q2) (.int .u64 q3))
        have TS' := Lib.hid (blk_far4 (g := g8) TS.out (by omega) (.int .u64 q0) (.int .u64 q1) (.int .u64 q2) (.int .u64 q3))
        have TZ' := Lib.hid (blk_far4 (g := g8) TZ.out (by omega) (.int .u64 q0) (.int .u64 q1) (.int .u64 q2) (.int .u64 q3))
        have B4 := Lib.hid (bl_put4' (g := g8) B3.out (by omega) (.int .u64 q0) (.int .u64 q1) (.int .u64 q2) (.int .u64 q3))
        clear hq' hqv hb3 hb2 hb23 hu T8 T7 TS TZ B3 HI HRV KO
        cases bo with
        | true =>
          go_upto_region 8 with (fail)
          generalize (((w3.setCell ⟨g8, 0, none⟩ (.int .u64 q0)).setCell ⟨g8, 1, none⟩ (.int .u64 q1)).setCell ⟨g8, 2, none⟩ (.int .u64 q2)).setCell ⟨g8, 3, none⟩ (.int .u64 q3) = w4 at *
          clear y0 y1 y2 y3 k0 k1 k2 k3
          have y0 := T8'.out.cell 0
          have y1 := T8'.out.cell 1
          have y2 := T8'.out.cell 2
          have y3 := T8'.out.cell 3
          have x0 := T7'.out.cell 0
          have x1 := T7'.out.cell 1
          have x2 := T7'.out.cell 2
          have x3 := T7'.out.cell 3
          simp at y0 y1 y2 y3 x0 x1 x2 x3
          go_wp2_with fail
          (with_reducible refine (KS.out _).mono ?_)
          rintro e w5 ⟨rfl, hb5⟩
          obtain ⟨d0, hd0'⟩ : ∃ d, suD u0 q0 (suB u1 q1 (suB u2 q2 (suB u3 q3 0))) = d := ⟨_, rfl⟩
          obtain ⟨d1, hd1'⟩ : ∃ d, suD u1 q1 (suB u2 q2 (suB u3 q3 0)) = d := ⟨_, rfl⟩
          obtain ⟨d2, hd2'⟩ : ∃ d, suD u2 q2 (suB u3 q3 0) = d := ⟨_, rfl⟩
          obtain ⟨d3, hd3'⟩ : ∃ d, suD u3 q3 0 = d := ⟨_, rfl⟩
          rw [hd0', hd1', hd2', hd3']
          have HD : Hid (U64 d0 ∧ U64 d1 ∧ U64 d2 ∧ U64 d3) := Lib.hid ⟨by rw [← hd0']; exact suD_u _ _ _, by rw [← hd1']; exact suD_u _ _ _, by rw [← hd2']; exact suD_u _ _ _, by rw [← hd3']; exact suD_u _ _ _⟩
          clear hd0' hd1' hd2' hd3' x0 x1 x2 x3 y0 y1 y2 y3
          have T7 := T7'.out.below hb5 T7'.out.lt
          have x0 := T7.cell 0
          have x1 := T7.cell 1
          have x2 := T7.cell 2
          have x3 := T7.cell 3
          have k0 := T7.frozen 0
          have k1 := T7.frozen 1
          have k2 := T7.frozen 2
          have k3 := T7.frozen 3
          simp at x0 x1 x2 x3
          have J := Lib.hid (show SerI w ((((w5.setCell ⟨g7, 0, none⟩ (.int .u64 d0)).setCell ⟨g7, 1, none⟩ (.int .u64 d1)).setCell ⟨g7, 2, none⟩ (.int .u64 d2)).setCell ⟨g7, 3, none⟩ (.int .u64 d3)) g7 g8 (j + 1) s0 s1 s2 s3 q0 q1 q2 q3 d0 d1 d2 d3 from ⟨HQ4.out, HD.out, HJ4.out, blk_far4 (T8'.out.below hb5 T8'.out.lt) hne.symm _ _ _ _, blk4 T7 _ _ _ _, blk_far4 (TS'.out.below hb5 TS'.out.lt) (by omega) _ _ _ _, blk_far4 (TZ'.out.below hb5 TZ'.out.lt) (by omega) _ _ _ _, bl_put4' (B4.out.trans (hb5.mono B4.out.size)) (by omega) _ _ _ _⟩)
          clear T7 hb5 T8' T7' TS' TZ' B4
          go_wp2
          go_roundw
          case rel => exact ⟨j + 1, false, _, _, _, _, _, _, _, _, by rw [HMS.out], rfl, J.out⟩
          case measure => simp [intOf]; omega
        | false =>
          go_upto_region 9 with (fail)
          generalize (((w3.setCell ⟨g8, 0, none⟩ (.int .u64 q0)).setCell ⟨g8, 1, none⟩ (.int .u64 q1)).setCell ⟨g8, 2, none⟩ (.int .u64 q2)).setCell ⟨g8, 3, none⟩ (.int .u64 q3) = w4 at *
          clear y0 y1 y2 y3 k0 k1 k2 k3
          have y0 := T8'.out.cell 0
          have y1 := T8'.out.cell 1
          have y2 := T8'.out.cell 2
          have y3 := T8'.out.cell 3
          have x0 := T7'.out.cell 0
          have x1 := T7'.out.cell 1
          have x2 := T7'.out.cell 2
          have x3 := T7'.out.cell 3
          simp at y0 y1 y2 y3 x0 x1 x2 x3
          go_wp2_with fail
          (with_reducible refine (KA.out _).mono ?_)
          rintro e w5 ⟨rfl, hb5⟩
          obtain ⟨d0, hd0'⟩ : ∃ d, adS u0 q0 (adC u1 q1 (adC u2 q2 (adC u3 q3 0))) = d := ⟨_, rfl⟩
          obtain ⟨d1, hd1'⟩ : ∃ d, adS u1 q1 (adC u2 q2 (adC u3 q3 0)) = d := ⟨_, rfl⟩
          obtain ⟨d2, hd2'⟩ : ∃ d, adS u2 q2 (adC u3 q3 0) = d := ⟨_, rfl⟩
          obtain ⟨d3, hd3'⟩ : ∃ d, adS u3 q3 0 = d := ⟨_, rfl⟩
          rw [hd0', hd1', hd2', hd3']
          have HD : Hid (U64 d0 ∧ U64 d1 ∧ U64 d2 ∧ U64 d3) := Lib.hid ⟨by rw [← hd0']; exact adS_u _ _ _, by rw [← hd1']; exact adS_u _ _ _, by rw [← hd2']; exact adS_u _ _ _, by rw [← hd3']; exact adS_u _ _ _⟩
          clear hd0' hd1' hd2' hd3' x0 x1 x2 x3 y0 y1 y2 y3
          have T7 := T7'.out.below hb5 T7'.out.lt
          have x0 := T7.cell 0
          have x1 := T7.cell 1
          have x2 := T7.cell 2
          have x3 := T7.cell 3
          have k0 := T7.frozen 0
          have k1 := T7.frozen 1
          have k2 := T7.frozen 2
          have k3 := T7.frozen 3
          simp at x0 x1 x2 x3
          have J := Lib.hid (show SerI w ((((w5.setCell ⟨g7, 0, none⟩ (.int .u64 d0)).setCell ⟨g7, 1, none⟩ (.int .u64 d1)).setCell ⟨g7, 2, none⟩ (.int .u64 d2)).setCell ⟨g7, 3, none⟩ (.int .u64 d3)) g7 g8 (j + 1) s0 s1 s2 s3 q0 q1 q2 q3 d0 d1 d2 d3 from ⟨HQ4.out, HD.out, HJ4.out, blk_far4 (T8'.out.below hb5 T8'.out.lt) hne.symm _ _ _ _, blk4 T7 _ _ _ _, blk_far4 (TS'.out.below hb5 TS'.out.lt) (by omega) _ _ _ _, blk_far4 (TZ'.out.below hb5 TZ'.out.lt) (by omega) _ _ _ _, bl_put4' (B4.out.trans (hb5.mono B4.out.size)) (by omega) _ _ _ _⟩)
          clear T7 hb5 T8' T7' TS' TZ' B4
          go_wp2
          go_roundw
          case rel => exact ⟨j + 1, true, _, _, _, _, _, _, _, _, by rw [HMS.out], rfl, J.out⟩
          case measure => simp [intOf]; omega
end Go.Proofs.YtifdgdgfmjfbdaaGreat
