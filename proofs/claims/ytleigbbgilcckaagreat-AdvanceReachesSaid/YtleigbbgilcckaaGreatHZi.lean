/- The walk of the reference's Dlon. -/
import Derived.Test.YtleigbbgilcckaaGreatHZd
import Derived.Test.YtleigbbgilcckaaGreatHUo
set_option linter.unusedVariables false
set_option linter.unusedSimpArgs false
namespace Go.Proofs.YtleigbbgilcckaaGreat
open Go.RowKit
set_option maxHeartbeats 1000000 in
theorem big_any (n y : Int) (w : World) (n0 : -16777216 ≤ n) (n1 : n ≤ 16777216) (y0 : 0 < y) : Calls Tryz.prog 118 #[.int .i64 1073741824, .int .i64 n, .int .i64 y] w fun e w' => e = .returned (.bool (bigB n y)) ∧ Below w.heap.size w w' := by
  have hB : 0 ≤ 1073741824 / y ∧ 1073741824 / y ≤ 1073741824 := by
    have := ediv_bd (a := 1073741824) (b := y) (B := 1073741824) y0 (by omega) (by omega) (by omega)
    exact ⟨Int.ediv_nonneg (by omega) (by omega), this.2⟩
  have t1 : Int.tdiv 1073741824 y = 1073741824 / y := Int.tdiv_eq_ediv_of_nonneg (by omega)
  have hne : y ≠ 0 := by omega
  unfold bigB
  by_cases hn : n < 0
  · rw [wab_neg hn]
    have hA : 0 ≤ -n / 1048576 ∧ -n / 1048576 ≤ 16 := by omega
    have t2 : Int.tdiv (-n) 1048576 = -n / 1048576 := Int.tdiv_eq_ediv_of_nonneg (by omega)
    obtain ⟨A, hAe⟩ : ∃ A, -n / 1048576 = A := ⟨_, rfl⟩
    obtain ⟨B, hBe⟩ : ∃ B, 1073741824 / y = B := ⟨_, rfl⟩
    rw [hAe] at hA
    rw [hBe] at hB
    have hp : A * B ≤ 16 * 1073741824 := Int.mul_le_mul (by omega) (by omega) (by omega) (by omega)
    have hp0 : 0 ≤ A * B := Int.mul_nonneg hA.1 hB.1
    have s : wrap64 (A * B) = A * B := IntWalk.wrap64_in _ (by omega)
    rw [hAe, hBe]
    rw [hAe] at t2
    rw [hBe] at t1
    have sB : wrap64 B = B := IntWalk.wrap64_in _ (by omega)
    cases d : decide (2 ≤ B)
    · go_enter Tryz.func118, Tryz.ntmps118
      go_wp2
      go_ret
      exact ⟨ret_bool (by simp), Below.refl _ _⟩
    · go_enter Tryz.func118, Tryz.ntmps118
      go_wp2
      go_ret
      exact ⟨ret_bool (by simp), Below.refl _ _⟩
  · rw [wab_pos (by omega)]
    have hA : 0 ≤ n / 1048576 ∧ n / 1048576 ≤ 16 := by omega
    have t2 : Int.tdiv n 1048576 = n / 1048576 := Int.tdiv_eq_ediv_of_nonneg (by omega)
    obtain ⟨A, hAe⟩ : ∃ A, n / 1048576 = A := ⟨_, rfl⟩
    obtain ⟨B, hBe⟩ : ∃ B, 1073741824 / y = B := ⟨_, rfl⟩
    rw [hAe] at hA
    rw [hBe] at hB
    have hp : A * B ≤ 16 * 1073741824 := Int.mul_le_mul (by omega) (by omega) (by omega) (by omega)
    have hp0 : 0 ≤ A * B := Int.mul_nonneg hA.1 hB.1
    have s : wrap64 (A * B) = A * B := IntWalk.wrap64_in _ (by omega)
    rw [hAe, hBe]
    rw [hAe] at t2
    rw [hBe] at t1
    have sB : wrap64 B = B := IntWalk.wrap64_in _ (by omega)
    cases d : decide (2 ≤ B)
    · go_enter Tryz.func118, Tryz.ntmps118
      go_wp2
      go_ret
      exact ⟨ret_bool (by simp), Below.refl _ _⟩
    · go_enter Tryz.func118, Tryz.ntmps118
      go_wp2
      go_ret
      exact ⟨ret_bool (by simp), Below.refl _ _⟩
set_option maxHeartbeats 1000000 in
theorem turned_yes (a b p q : Int) (w : World) (hp : 0 < p) : Calls Tryz.prog 117 #[.agg #[.int .i64 a, .int .i64 b], .agg #[.int .i64 p, .int .i64 q]] w fun e w' => e = .returned (.tuple #[.agg #[.int .i64 a, .int .i64 b], .agg #[.int .i64 p, .int .i64 q]]) ∧ Below w.heap.size w w' := by
  have d : decide (p < 0) = false := decide_eq_false (by omega)
  go_enter Tryz.func117, Tryz.ntmps117
  go_upto_region 3 with fail
  go_region
  all_goals
    go_wp2
    refine bodyPost_ret (v := .tuple #[.agg #[.int .i64 a, .int .i64 b], .agg #[.int .i64 p, .int .i64 q]]) (by simp [results, Tryz.results117, go_sem, *]; done) rfl ⟨rfl, ?_⟩
    repeat (first | exact Below.refl _ _ | assumption | refine bl_drew ?_ | refine bl_drewN ?_ _ | refine Below.setCell ?_ (by first | assumption | omega | (simp; done) | (simp; omega)) _ | refine Below.alloc ?_ (by first | assumption | omega | (simp; done) | (simp; omega)) _)
set_option maxHeartbeats 4000000 in
set_option maxRecDepth 100000 in
theorem corners_any (n p q : Int) (w : World) (n0 : -16777216 ≤ n) (n1 : n ≤ 16777216) (p0 : 0 < p) (pq : p ≤ q) (q1 : q ≤ 1073741824) :
    Calls Tryz.prog 119 #[.agg #[.int .i64 1073741824, .int .i64 1073741824], .agg #[.int .i64 p, .int .i64 q], .int .i64 n] w fun e w' => e = .returned (.tuple #[.int .i64 (qtA n p q), .int .i64 (qtB n p q)]) ∧ Below w.heap.size w w' := by
  have KP := Lib.hid (fun W => times_any n p W n0 n1 p0 (by omega))
  have KQ := Lib.hid (fun W => times_any n q W n0 n1 (by omega) (by omega))
  have KR := Lib.hid (fun W => times_any (-n) p W (by omega) (by omega) p0 (by omega))
  have KS := Lib.hid (fun W => times_any (-n) q W (by omega) (by omega) (by omega) (by omega))
  have e : 1073741824 * -n = -(1073741824 * n) := by omega
  rw [e] at KR KS
  have b1 := ediv_bd (a := -(1073741824 * n)) (b := p) (B := 18014398509481984) p0 (by omega) (by omega) (by omega)
  have b2 := ediv_bd (a := -(1073741824 * n)) (b := q) (B := 18014398509481984) (by omega) (by omega) (by omega) (by omega)
  have KL : Hid (∀ (a b : Int) W, Calls Tryz.prog 120 #[.int .i64 a, .int .i64 b] W fun e w' => e = .returned (.int .i64 (min a b)) ∧ Below W.heap.size W w') := Lib.hid (fun a b W => (rLeast_any a b W).mono fun _ _ ⟨h1, h2⟩ => ⟨h1, by rw [h2]; exact Below.refl _ _⟩)
  have hA : qtA n p q = min (1073741824 * n / p) (1073741824 * n / q) := rfl
  have hB : qtB n p q = max (-(-(1073741824 * n) / p)) (-(-(1073741824 * n) / q)) := rfl
  have sn : IntKind.i64.wrap (-n) = -n := IntWalk.i64_in _ (by omega)
  generalize 1073741824 * n / p = x at *
  generalize 1073741824 * n / q = y at *
  generalize -(1073741824 * n) / p = u at *
  generalize -(1073741824 * n) / q = v at *
  have hA2 : qtA n p q = min (min x y) (min x y) := by omega
  have hB2 : qtB n p q = -(min (min u v) (min u v)) := by omega
  rw [hA2, hB2]
  clear hA hB hA2 hB2 e n0 n1 p0 pq q1
  have m0 : -18014398509481984 ≤ min (min u v) (min u v) ∧ min (min u v) (min u v) ≤ 18014398509481984 := by omega
  obtain ⟨W0, hW0⟩ : ∃ W0, W0 = (w.alloc (.cells #[.int .i64 1073741824, .int .i64 1073741824] 67)).alloc (.cells #[.int .i64 p, .int .i64 q] 67) := ⟨_, rfl⟩
  have b0 : Below w.heap.size w W0 := by rw [hW0]; exact ((Below.refl _ _).alloc (Nat.le_refl _) _).alloc (by simp) _
  have A0 : Hid (D2 W0 w.heap.size 1073741824 1073741824) := Lib.hid (by rw [hW0]; exact (D2.new w _ _ _).alloc _)
  have P0 : Hid (D2 W0 (w.heap.size + 1) p q) := Lib.hid (by
    rw [hW0]
    have := D2.new (w.alloc (.cells #[.int .i64 1073741824, .int .i64 1073741824] 67)) p q 67
    simpa using this)
  go_enter Tryz.func119, Tryz.ntmps119
  go_upto_region 1 with fail
  rw [← hW0]
  clear hW0
  have c0 : ∀ s : BV W0, s.w.cell? ⟨w.heap.size, 0, none⟩ = some (.int .i64 1073741824) := fun s => (A0.out.below s.hb A0.out.lt).c0
  have c1 : ∀ s : BV W0, s.w.cell? ⟨w.heap.size, 1, none⟩ = some (.int .i64 1073741824) := fun s => (A0.out.below s.hb A0.out.lt).c1
  have c2 : ∀ s : BV W0, s.w.cell? ⟨w.heap.size + 1, 0, none⟩ = some (.int .i64 p) := fun s => (P0.out.below s.hb P0.out.lt).c0
  have c3 : ∀ s : BV W0, s.w.cell? ⟨w.heap.size + 1, 1, none⟩ = some (.int .i64 q) := fun s => (P0.out.below s.hb P0.out.lt).c1
  refine wp_region_bv W0 (by kernel_rfl) (by kernel_rfl) (Below.refl _ _) ?_
  (repeat (go_big_quiet_step (first | (go_at_call 147; with_reducible exact quiet_bv (KP.out _)) | (go_at_call 147; with_reducible exact quiet_bv (KQ.out _)) | (go_at_call 120; with_reducible exact quiet_bv (KL.out _ _ _)) | fail)))
  refine wpQuiet_nil ?_
  intro w9 hb9
  have A9 := Lib.hid (A0.out.below hb9 A0.out.lt)
  have P9 := Lib.hid (P0.out.below hb9 P0.out.lt)
  have b9 := b0.trans (hb9.mono b0.size)
  clear c0 c1 c2 c3 A0 P0 b0 hb9
  have c0 : ∀ s : BV w9, s.w.cell? ⟨w.heap.size, 0, none⟩ = some (.int .i64 1073741824) := fun s => (A9.out.below s.hb A9.out.lt).c0
  have c1 : ∀ s : BV w9, s.w.cell? ⟨w.heap.size, 1, none⟩ = some (.int .i64 1073741824) := fun s => (A9.out.below s.hb A9.out.lt).c1
  have c2 : ∀ s : BV w9, s.w.cell? ⟨w.heap.size + 1, 0, none⟩ = some (.int .i64 p) := fun s => (P9.out.below s.hb P9.out.lt).c0
  have c3 : ∀ s : BV w9, s.w.cell? ⟨w.heap.size + 1, 1, none⟩ = some (.int .i64 q) := fun s => (P9.out.below s.hb P9.out.lt).c1
  go_upto_region 2 with fail
  refine wp_region_bv w9 (by kernel_rfl) (by kernel_rfl) (Below.refl _ _) ?_
  (repeat (go_big_quiet_step (first | (go_at_call 147; with_reducible exact quiet_bv (KR.out _)) | (go_at_call 147; with_reducible exact quiet_bv (KS.out _)) | (go_at_call 120; with_reducible exact quiet_bv (KL.out _ _ _)) | fail)))
  refine wpQuiet_nil ?_
  intro w10 hb10
  have b10 := b9.trans (hb10.mono b9.size)
  clear c0 c1 c2 c3 A9 P9 b9 hb10 sn
  go_wp2
  go_ret2
  exact ⟨by simp, b10⟩
set_option maxHeartbeats 4000000 in
set_option maxRecDepth 100000 in
theorem rQuot_any (n p q : Int) (w : World) (n0 : -16777216 ≤ n) (n1 : n ≤ 16777216) (p0 : 0 < p) (pq : p ≤ q) (q1 : q ≤ 1073741824) :
    Calls Tryz.prog 82 #[.agg #[.int .i64 1073741824, .int .i64 1073741824], .agg #[.int .i64 p, .int .i64 q], .int .i64 n] w fun e w' => e = .returned (qtV n p q) ∧ Below w.heap.size w w' := by
  have KR := Lib.hid (fun W => rReaches_any n W)
  have hf : rchB n = true := by unfold rchB; rw [decide_eq_true_iff]; omega
  rw [hf] at KR
  have KZ := Lib.hid (fun W => rzero_no p q W p0)
  have KT := Lib.hid (fun W => turned_yes 1073741824 1073741824 p q W p0)
  have KG := Lib.hid (fun W => big_any n p W n0 n1 p0)
  have KC := Lib.hid (fun W => corners_any n p q W n0 n1 p0 pq q1)
  have KA := Lib.hid (fun W => rReaches_any (qtA n p q) W)
  have KB := Lib.hid (fun W => rReaches_any (qtB n p q) W)
  have hbig := Lib.hid (big_no (q := q) n0 n1 p0 pq)
  have b0 : Below w.heap.size w ((w.alloc (.cells #[.int .i64 1073741824, .int .i64 1073741824] 67)).alloc (.cells #[.int .i64 p, .int .i64 q] 67)) := ((Below.refl _ _).alloc (Nat.le_refl _) _).alloc (by simp) _
  have A0 := Lib.hid ((D2.new w 1073741824 1073741824 67).alloc (.cells #[.int .i64 p, .int .i64 q] 67))
  have P0 : Hid (D2 ((w.alloc (.cells #[.int .i64 1073741824, .int .i64 1073741824] 67)).alloc (.cells #[.int .i64 p, .int .i64 q] 67)) (w.heap.size + 1) p q) := Lib.hid (by
    have := D2.new (w.alloc (.cells #[.int .i64 1073741824, .int .i64 1073741824] 67)) p q 67
    simpa using this)
  clear hf n0 n1 p0 pq q1
  obtain ⟨R, hR⟩ : ∃ R, qtV n p q = R := ⟨_, rfl⟩
  have HR := Lib.hid hR
  rw [hR]
  unfold qtV qtG at HR
  unfold qtG at hbig
  clear hR
  generalize qtA n p q = A at *
  generalize qtB n p q = B at *
  generalize bigB n p = g at *
  have pre : ∀ (Q : Prop), Q → Q := fun _ h => h
  cases g with
  | true =>
    have HE : Hid (Value.tuple #[.int .i64 0, .int .i64 0, .int .i64 5] = R) := Lib.hid (by rw [← HR.out, hbig.out rfl]; simp)
    clear HR hbig KA KB KC
    go_enter Tryz.func82, Tryz.ntmps82
    go_wp2_with fail
    (with_reducible refine (KR.out _).mono ?_)
    rintro e w1 ⟨rfl, rfl⟩
    go_wp2_with fail
    (with_reducible refine (KZ.out _).mono ?_)
    rintro e w1 ⟨rfl, hb1⟩
    have A1 := Lib.hid (A0.out.below hb1 A0.out.lt)
    have P1 := Lib.hid (P0.out.below hb1 P0.out.lt)
    have b1 := b0.trans (hb1.mono b0.size)
    clear A0 P0 b0 hb1
    obtain ⟨at1, a0, a1, af0, af1⟩ := A1.out
    obtain ⟨pt1, c0, c1, cf0, cf1⟩ := P1.out
    go_wp2_with fail
    (with_reducible refine (KT.out _).mono ?_)
    rintro e w2 ⟨rfl, hb2⟩
    have A2 := Lib.hid (A1.out.below hb2 A1.out.lt)
    have P2 := Lib.hid (P1.out.below hb2 P1.out.lt)
    have b2 := b1.trans (hb2.mono b1.size)
    clear A1 P1 b1 hb2 at1 a0 a1 af0 af1 pt1 c0 c1 cf0 cf1
    obtain ⟨at1, a0, a1, af0, af1⟩ := A2.out
    obtain ⟨pt1, c0, c1, cf0, cf1⟩ := P2.out
    have b3 : Below w.heap.size w ((((w2.setCell ⟨w.heap.size, 0, none⟩ (.int .i64 1073741824)).setCell ⟨w.heap.size, 1, none⟩ (.int .i64 1073741824)).setCell ⟨w.heap.size + 1, 0, none⟩ (.int .i64 p)).setCell ⟨w.heap.size + 1, 1, none⟩ (.int .i64 q)) := (((b2.setCell (by simp) _).setCell (by simp) _).setCell (by simp) _).setCell (by simp) _
    go_wp2_with fail
    (with_reducible refine (KG.out _).mono ?_)
    rintro e w4 ⟨rfl, hb4⟩
    have b4 := b3.trans (hb4.mono b3.size)
    go_wp2
    go_ret3
    exact ⟨by rw [← HE.out]; rfl, b4⟩
  | false =>
    clear hbig
    generalize rchB A = s at *
    generalize rchB B = t at *
    cases s <;> cases t
    all_goals
      have HE := Lib.hid HR.out.symm
      clear HR
      go_enter Tryz.func82, Tryz.ntmps82
      go_wp2_with fail
      (with_reducible refine (KR.out _).mono ?_)
      rintro e w1 ⟨rfl, rfl⟩
      go_wp2_with fail
      (with_reducible refine (KZ.out _).mono ?_)
      rintro e w1 ⟨rfl, hb1⟩
      have A1 := Lib.hid (A0.out.below hb1 A0.out.lt)
      have P1 := Lib.hid (P0.out.below hb1 P0.out.lt)
      have b1 := b0.trans (hb1.mono b0.size)
      clear A0 P0 b0 hb1
      obtain ⟨at1, a0, a1, af0, af1⟩ := A1.out
      obtain ⟨pt1, c0, c1, cf0, cf1⟩ := P1.out
      go_wp2_with fail
      (with_reducible refine (KT.out _).mono ?_)
      rintro e w2 ⟨rfl, hb2⟩
      have A2 := Lib.hid (A1.out.below hb2 A1.out.lt)
      have P2 := Lib.hid (P1.out.below hb2 P1.out.lt)
      have b2 := b1.trans (hb2.mono b1.size)
      clear A1 P1 b1 hb2 at1 a0 a1 af0 af1 pt1 c0 c1 cf0 cf1
      obtain ⟨at1, a0, a1, af0, af1⟩ := A2.out
      obtain ⟨pt1, c0, c1, cf0, cf1⟩ := P2.out
      have b3 : Below w.heap.size w ((((w2.setCell ⟨w.heap.size, 0, none⟩ (.int .i64 1073741824)).setCell ⟨w.heap.size, 1, none⟩ (.int .i64 1073741824)).setCell ⟨w.heap.size + 1, 0, none⟩ (.int .i64 p)).setCell ⟨w.heap.size + 1, 1, none⟩ (.int .i64 q)) := (((b2.setCell (by simp) _).setCell (by simp) _).setCell (by simp) _).setCell (by simp) _
      have A3 : Hid (D2 ((((w2.setCell ⟨w.heap.size, 0, none⟩ (.int .i64 1073741824)).setCell ⟨w.heap.size, 1, none⟩ (.int .i64 1073741824)).setCell ⟨w.heap.size + 1, 0, none⟩ (.int .i64 p)).setCell ⟨w.heap.size + 1, 1, none⟩ (.int .i64 q)) w.heap.size 1073741824 1073741824) := Lib.hid ((((A2.out.set0 1073741824).set1 1073741824).far (by simp) _).far (by simp) _)
      have P3 : Hid (D2 ((((w2.setCell ⟨w.heap.size, 0, none⟩ (.int .i64 1073741824)).setCell ⟨w.heap.size, 1, none⟩ (.int .i64 1073741824)).setCell ⟨w.heap.size + 1, 0, none⟩ (.int .i64 p)).setCell ⟨w.heap.size + 1, 1, none⟩ (.int .i64 q)) (w.heap.size + 1) p q) := Lib.hid ((((P2.out.far (by simp) _).far (by simp) _).set0 p).set1 q)
      go_wp2_with fail
      (with_reducible refine (KG.out _).mono ?_)
      rintro e w4 ⟨rfl, hb4⟩
      have b4 := b3.trans (hb4.mono b3.size)
      have A4 := Lib.hid (A3.out.below hb4 A3.out.lt)
      have P4 := Lib.hid (P3.out.below hb4 P3.out.lt)
      clear A2 P2 b2 b3 A3 P3 hb4 at1 a0 a1 af0 af1 pt1 c0 c1 cf0 cf1
      obtain ⟨at1, a0, a1, af0, af1⟩ := A4.out
      obtain ⟨pt1, c0, c1, cf0, cf1⟩ := P4.out
      go_wp2_with fail
      (with_reducible refine (KG.out _).mono ?_)
      rintro e w5 ⟨rfl, hb5⟩
      have b5 := b4.trans (hb5.mono b4.size)
      have A5 := Lib.hid (A4.out.below hb5 A4.out.lt)
      have P5 := Lib.hid (P4.out.below hb5 P4.out.lt)
      clear A4 P4 b4 hb5 at1 a0 a1 af0 af1 pt1 c0 c1 cf0 cf1
      obtain ⟨at1, a0, a1, af0, af1⟩ := A5.out
      obtain ⟨pt1, c0, c1, cf0, cf1⟩ := P5.out
      go_wp2_with fail
      (with_reducible refine (KC.out _).mono ?_)
      rintro e w6 ⟨rfl, hb6⟩
      have b6 := b5.trans (hb6.mono b5.size)
      clear A5 P5 b5 hb6 at1 a0 a1 af0 af1 pt1 c0 c1 cf0 cf1
      go_wp2_with (go_at_call 115; (first | (with_reducible refine (KA.out _).mono ?_) | (with_reducible refine (KB.out _).mono ?_)); rintro e w9 ⟨rfl, rfl⟩)
      go_ret3
      exact ⟨by rw [HE.out]; rfl, b6⟩
end Go.Proofs.YtleigbbgilcckaaGreat
namespace Go.Proofs.YtleigbbgilcckaaGreat
open Go.RowKit
theorem hi_north {n : Int} (h0 : 0 ≤ n) (h1 : n ≤ 10800000) : 0 ≤ Trig.hiB n := by
  have e : Trig.sth n = false := by unfold Trig.sth; rw [decide_eq_false_iff_not]; omega
  have hq := Trig.qrt_bd n
  have hs := (Trig.sF_bd hq.1 hq.2).1
  unfold Trig.hiB Trig.upF
  rw [e]
  simp only [Bool.false_eq_true, if_false]
  split <;> omega
theorem cos_hi {lo hi : Int} (h0 : -5400000 ≤ lo) (h1 : lo ≤ hi) (h2 : hi ≤ 5400000) : 0 ≤ Trig.enHi (lo + 5400000) (hi + 5400000) := by
  have a := hi_north (n := lo + 5400000) (by omega) (by omega)
  unfold Trig.enHi
  split <;> omega
set_option maxHeartbeats 4000000 in
set_option maxRecDepth 100000 in
theorem rDlon_any (lo hi a b : Int) (w : World) (l0 : -5400000 ≤ lo) (l1 : lo ≤ hi) (l2 : hi ≤ 5400000) (hs : smB a b = true) :
    Calls Tryz.prog 51 #[.agg #[.int .i64 lo, .int .i64 hi], .agg #[.int .i64 a, .int .i64 b]] w fun e w' => e = .returned (dnV lo hi a b) ∧ Below w.heap.size w w' := by
  have KC := Lib.hid (fun W => CosR_any lo hi W (by omega) (by omega) (by omega) (by omega))
  have he := en_le (lo + 5400000) (hi + 5400000)
  have hc := cos_hi l0 l1 l2
  rw [sm_iff] at hs
  unfold dnV
  generalize Trig.enLo (lo + 5400000) (hi + 5400000) = p at *
  generalize Trig.enHi (lo + 5400000) (hi + 5400000) = q at *
  obtain ⟨W0, hW0⟩ : ∃ W0, W0 = (((w.alloc (.cells #[.int .i64 lo, .int .i64 hi] 26)).alloc (.cells #[.int .i64 a, .int .i64 b] 26)).alloc (.cells #[.int .i64 0, .int .i64 0] 26)).alloc (.cells #[.int .i64 1073741824, .int .i64 1073741824] 67) := ⟨_, rfl⟩
  have b0 : Below w.heap.size w W0 := by rw [hW0]; exact ((((Below.refl _ _).alloc (Nat.le_refl _) _).alloc (by simp) _).alloc (by simp; omega) _).alloc (by simp; omega) _
  have A0 : Hid (D2 W0 (w.heap.size + 1) a b) := Lib.hid (by
    rw [hW0]
    have := ((D2.new (w.alloc (.cells #[.int .i64 lo, .int .i64 hi] 26)) a b 26).alloc (.cells #[.int .i64 0, .int .i64 0] 26)).alloc (.cells #[.int .i64 1073741824, .int .i64 1073741824] 67)
    simpa using this)
  have R0 : Hid (D2 W0 (w.heap.size + 2) 0 0) := Lib.hid (by
    rw [hW0]
    have := (D2.new ((w.alloc (.cells #[.int .i64 lo, .int .i64 hi] 26)).alloc (.cells #[.int .i64 a, .int .i64 b] 26)) 0 0 26).alloc (.cells #[.int .i64 1073741824, .int .i64 1073741824] 67)
    simpa using this)
  have U0 : Hid (D2 W0 (w.heap.size + 3) 1073741824 1073741824) := Lib.hid (by
    rw [hW0]
    have := D2.new (((w.alloc (.cells #[.int .i64 lo, .int .i64 hi] 26)).alloc (.cells #[.int .i64 a, .int .i64 b] 26)).alloc (.cells #[.int .i64 0, .int .i64 0] 26)) 1073741824 1073741824 67
    simpa using this)
  by_cases hp : p ≤ 0
  · rw [if_pos hp]
    clear he l0 l1 l2 hs
    go_enter Tryz.func51, Tryz.ntmps51
    go_wp2_with fail
    rw [← hW0]
    clear hW0
    (with_reducible refine (KC.out _).mono ?_)
    rintro e w1 ⟨rfl, hb1⟩
    have b1 := b0.trans (hb1.mono b0.size)
    have z1 := b1.size
    obtain ⟨rt, r0, r1, rf0, rf1⟩ := (R0.out.below hb1 R0.out.lt).alloc (.cells #[.int .i64 p, .int .i64 q] 67)
    clear hb1 b0 A0 R0 U0
    go_wp2
    refine bodyPost_ret (v := .tuple #[.agg #[.int .i64 0, .int .i64 0], .int .i64 21]) (by simp [results, Tryz.results51, go_sem, *]; done) rfl ⟨rfl, ?_⟩
    repeat (first | exact Below.refl _ _ | assumption | refine bl_drew ?_ | refine bl_drewN ?_ _ | refine Below.setCell ?_ (by first | assumption | omega | (simp; done) | (simp; omega)) _ | refine Below.alloc ?_ (by first | assumption | omega | (simp; done) | (simp; omega)) _)
  · rw [if_neg hp]
    have KA := Lib.hid (fun W => rQuot_any a p q W (by omega) (by omega) (by omega) he.2.1 he.2.2)
    have KB := Lib.hid (fun W => rQuot_any b p q W (by omega) (by omega) (by omega) he.2.1 he.2.2)
    have KR := Lib.hid (fun W => around_any (qtA a p q) (qtB a p q) (qtA b p q) (qtB b p q) W)
    clear he l0 l1 l2 hs
    unfold dlV dlG dlA dlB
    unfold qtV at *
    generalize qtG a p q = s at *
    generalize qtG b p q = t at *
    generalize qtA a p q = x at *
    generalize qtB a p q = y at *
    generalize qtA b p q = x' at *
    generalize qtB b p q = y' at *
    cases s <;> cases t
    all_goals
      simp only [Bool.and_self, Bool.and_false, Bool.false_and, Bool.false_eq_true, if_false, if_true] at *
      go_enter Tryz.func51, Tryz.ntmps51
      go_wp2_with fail
      rw [← hW0]
      clear hW0
      (with_reducible refine (KC.out _).mono ?_)
      rintro e w1 ⟨rfl, hb1⟩
      have b1 := (b0.trans (hb1.mono b0.size)).alloc (b0.trans (hb1.mono b0.size)).size (.cells #[.int .i64 p, .int .i64 q] 67)
      have A1 := Lib.hid ((A0.out.below hb1 A0.out.lt).alloc (.cells #[.int .i64 p, .int .i64 q] 67))
      have R1 := Lib.hid ((R0.out.below hb1 R0.out.lt).alloc (.cells #[.int .i64 p, .int .i64 q] 67))
      have U1 := Lib.hid ((U0.out.below hb1 U0.out.lt).alloc (.cells #[.int .i64 p, .int .i64 q] 67))
      have C1 := Lib.hid (D2.new w1 p q 67)
      clear hb1 b0 A0 R0 U0
      obtain ⟨at1, a0, a1, af0, af1⟩ := A1.out
      obtain ⟨ut1, u0, u1, uf0, uf1⟩ := U1.out
      go_wp2_with fail
      (with_reducible refine (KA.out _).mono ?_)
      rintro e w2 ⟨rfl, hb2⟩
      have b2 := b1.trans (hb2.mono b1.size)
      have A2 := Lib.hid (A1.out.below hb2 A1.out.lt)
      have R2 := Lib.hid (R1.out.below hb2 R1.out.lt)
      have U2 := Lib.hid (U1.out.below hb2 U1.out.lt)
      have C2 := Lib.hid (C1.out.below hb2 C1.out.lt)
      clear hb2 b1 A1 R1 U1 C1 at1 a0 a1 af0 af1 ut1 u0 u1 uf0 uf1
      obtain ⟨at1, a0, a1, af0, af1⟩ := A2.out
      obtain ⟨ut1, u0, u1, uf0, uf1⟩ := U2.out
      obtain ⟨ct1, c0, c1, cf0, cf1⟩ := C2.out
      go_wp2_with fail
      (with_reducible refine (KB.out _).mono ?_)
      rintro e w3 ⟨rfl, hb3⟩
      have b3 := b2.trans (hb3.mono b2.size)
      have R3 := Lib.hid (R2.out.below hb3 R2.out.lt)
      clear hb3 b2 A2 R2 U2 C2 at1 a0 a1 af0 af1 ut1 u0 u1 uf0 uf1 ct1 c0 c1 cf0 cf1
      first
        | (obtain ⟨rt, r0, r1, rf0, rf1⟩ := R3.out
           have z3 := b3.size
           go_wp2
           refine bodyPost_ret (v := .tuple #[.agg #[.int .i64 0, .int .i64 0], .int .i64 5]) (by simp [results, Tryz.results51, go_sem, *]; done) rfl ⟨rfl, ?_⟩
           repeat (first | exact Below.refl _ _ | assumption | refine bl_drew ?_ | refine bl_drewN ?_ _ | refine Below.setCell ?_ (by first | assumption | omega | (simp; done) | (simp; omega)) _ | refine Below.alloc ?_ (by first | assumption | omega | (simp; done) | (simp; omega)) _)
           done)
        | (go_wp2_with fail
           (with_reducible refine (KR.out _).mono ?_)
           rintro e w4 ⟨rfl, hb4⟩
           have b4 := b3.trans (hb4.mono b3.size)
           obtain ⟨rt, r0, r1, rf0, rf1⟩ := R3.out.below hb4 R3.out.lt
           have z4 := b4.size
           go_wp2
           refine bodyPost_ret (v := .tuple #[.agg #[.int .i64 (min x x'), .int .i64 (max y y')], .int .i64 0]) (by simp [results, Tryz.results51, go_sem, *]; done) rfl ⟨rfl, ?_⟩
           clear hb4
           repeat (first | exact Below.refl _ _ | assumption | refine bl_drew ?_ | refine bl_drewN ?_ _ | refine Below.setCell ?_ (by first | assumption | omega | (simp; done) | (simp; omega)) _ | refine Below.alloc ?_ (by first | assumption | omega | (simp; done) | (simp; omega)) _)
           done)
end Go.Proofs.YtleigbbgilcckaaGreat
