/- The walk of fixed.Quotient where the dividend is the unit. -/
import Derived.Deep.RegionHeld3
import Derived.Laws.StructEq
import Derived.Test.YtpemohoibeipfaaGreatHUo
import Derived.Test.YtpemohoibeipfaaGreatHTf
import Derived.Test.YtpemohoibeipfaaGreatHUk
import Derived.Test.YtpemohoibeipfaaGreatHUa
set_option linter.unusedVariables false
set_option linter.unusedSimpArgs false
namespace Go.Proofs.YtpemohoibeipfaaGreat
open Go.RowKit
set_option maxHeartbeats 1000000 in
theorem rfit_any (lo hi : Int) (w : World) (hl : lo ≤ hi) : Calls Tryz.prog 218 #[.int .i64 lo, .int .i64 hi] w fun e w' => e = .returned (fitV lo hi) ∧ Below w.heap.size w w' := by
  have hs : fvB lo hi = (!(decide (lo < -2147483648)) && !(decide (2147483648 < hi))) := by
    unfold fvB
    rw [Bool.eq_iff_iff]
    simp only [decide_eq_true_eq, Bool.and_eq_true, Bool.not_eq_true', decide_eq_false_iff_not]
    omega
  unfold fitV
  rw [hs]
  clear hs hl
  cases hx : decide (lo < -2147483648) <;> cases hy : decide (2147483648 < hi)
  all_goals
    simp only [Bool.not_true, Bool.not_false, Bool.and_self, Bool.and_true, Bool.true_and, Bool.and_false, Bool.false_and, Bool.false_eq_true, if_false, if_true]
    go_enter Tryz.func218, Tryz.ntmps218
    go_wp2
    first
      | refine bodyPost_ret (v := .tuple #[.agg #[.int .i64 lo, .int .i64 hi], .int .i64 0]) (by simp [results, Tryz.results218, go_sem, *]; done) rfl ⟨rfl, ?_⟩
      | refine bodyPost_ret (v := .tuple #[.agg #[.int .i64 0, .int .i64 0], .int .i64 5]) (by simp [results, Tryz.results218, go_sem, *]; done) rfl ⟨rfl, ?_⟩
    repeat (first | exact Below.refl _ _ | assumption | refine bl_drew ?_ | refine bl_drewN ?_ _ | refine Below.setCell ?_ (by first | assumption | omega | (simp; done) | (simp; omega)) _ | refine Below.alloc ?_ (by first | assumption | omega | (simp; done) | (simp; omega)) _)
set_option maxHeartbeats 2000000 in
theorem rAdd_any (a b c d : Int) (w : World) (h : fvB a b = true) (g : fvB c d = true) : Calls Tryz.prog 207 #[.agg #[.int .i64 a, .int .i64 b], .agg #[.int .i64 c, .int .i64 d]] w fun e w' => e = .returned (fitV (a + c) (b + d)) ∧ Below w.heap.size w w' := by
  rw [fv_iff] at h g
  have KF := Lib.hid (fun W => rfit_any (a + c) (b + d) W (by omega))
  have s1 : wrap64 (a + c) = a + c := IntWalk.wrap64_in _ (by omega)
  have s2 : wrap64 (b + d) = b + d := IntWalk.wrap64_in _ (by omega)
  clear h g
  unfold fitV at *
  generalize fvB (a + c) (b + d) = s at *
  obtain ⟨p, hp⟩ : ∃ p, a + c = p := ⟨_, rfl⟩
  obtain ⟨q, hq⟩ : ∃ q, b + d = q := ⟨_, rfl⟩
  rw [hp] at s1 KF ⊢
  rw [hq] at s2 KF ⊢
  cases s
  all_goals
    simp only [Bool.false_eq_true, if_false, if_true] at *
    go_enter Tryz.func207, Tryz.ntmps207
    go_wp2_with fail
    (with_reducible refine (KF.out _).mono ?_)
    rintro e w2 ⟨rfl, hb2⟩
    obtain ⟨hbl2, A1, B1, C1⟩ := three_D2 hb2
    obtain ⟨rt, r0, r1, rf0, rf1⟩ := C1
    clear hb2 A1 B1
    go_wp2
    first
      | refine bodyPost_ret (v := .tuple #[.agg #[.int .i64 p, .int .i64 q], .int .i64 0]) (by simp [results, Tryz.results207, go_sem, *]; done) rfl ⟨rfl, ?_⟩
      | refine bodyPost_ret (v := .tuple #[.agg #[.int .i64 0, .int .i64 0], .int .i64 5]) (by simp [results, Tryz.results207, go_sem, *]; done) rfl ⟨rfl, ?_⟩
    exact (hbl2.setCell (by simp; omega) _).setCell (by simp; omega) _
set_option maxHeartbeats 1000000 in
theorem rFloor_any (a : Int) (w : World) (a0 : -4611686018427387904 ≤ a) (a1 : a ≤ 4611686018427387904) : Calls Tryz.prog 221 #[.int .i64 a, .int .i64 1073741824] w fun e w' => e = .returned (.int .i64 (a / 1073741824)) ∧ w' = w := by
  have h1 := Int.mul_tdiv_add_tmod a 1073741824
  have h3 := Int.tmod_lt_of_pos a (show (0 : Int) < 1073741824 by omega)
  have h4 := Int.tmod_lt_of_pos (-a) (show (0 : Int) < 1073741824 by omega)
  rw [Int.neg_tmod] at h4
  have h5 : a < 0 → Int.tmod a 1073741824 ≤ 0 := fun h => by
    have h2 := Int.tmod_nonneg 1073741824 (show 0 ≤ -a by omega)
    rw [Int.neg_tmod] at h2
    omega
  have h6 : ¬ a < 0 → 0 ≤ Int.tmod a 1073741824 := fun h => Int.tmod_nonneg 1073741824 (show 0 ≤ a by omega)
  have s1 : wrap64 (Int.tdiv a 1073741824 - 1) = Int.tdiv a 1073741824 - 1 := IntWalk.wrap64_in _ (by omega)
  have s2 : wrap64 (Int.tdiv a 1073741824) = Int.tdiv a 1073741824 := IntWalk.wrap64_in _ (by omega)
  have H := Lib.hid (And.intro h1 (And.intro h3 (And.intro h4 (And.intro h5 h6))))
  clear h1 h3 h4 h5 h6
  cases hx : decide (a < 0)
  all_goals
    go_enter Tryz.func221, Tryz.ntmps221
    go_wp2
    all_goals
      go_ret
      refine ⟨ret_int ?_, rfl⟩
      obtain ⟨h1, h3, h4, h5, h6⟩ := H.out
      try rw [s1]
      simp only [bne_iff_ne, ne_eq, bne_eq_false_iff_eq, decide_eq_true_eq, decide_eq_false_iff_not] at *
      omega
set_option maxHeartbeats 1000000 in
theorem rCeil_any (a : Int) (w : World) (a0 : -4611686018427387904 ≤ a) (a1 : a ≤ 4611686018427387904) : Calls Tryz.prog 222 #[.int .i64 a, .int .i64 1073741824] w fun e w' => e = .returned (.int .i64 (-(-a / 1073741824))) ∧ w' = w := by
  have KF := Lib.hid (fun W => rFloor_any (-a) W (by omega) (by omega))
  have s1 : wrap64 (-a) = -a := IntWalk.wrap64_in _ (by omega)
  have s2 : wrap64 (-(-a / 1073741824)) = -(-a / 1073741824) := IntWalk.wrap64_in _ (by omega)
  generalize -a / 1073741824 = q at *
  go_enter Tryz.func222, Tryz.ntmps222
  go_wp2_with fail
  (with_reducible refine (KF.out _).mono ?_)
  rintro e w1 ⟨rfl, rfl⟩
  go_wp2
  go_ret
  exact ⟨ret_int s2, rfl⟩
set_option maxHeartbeats 1000000 in
theorem rLeast_any (a b : Int) (w : World) : Calls Tryz.prog 219 #[.int .i64 a, .int .i64 b] w fun e w' => e = .returned (.int .i64 (min a b)) ∧ w' = w := by
  rw [← min_e]
  go_enter Tryz.func219, Tryz.ntmps219
  go_wp2
  all_goals
    go_ret
    refine ⟨ret_int (by simp_all), rfl⟩
set_option maxHeartbeats 1000000 in
theorem rMost_any (a b : Int) (w : World) : Calls Tryz.prog 220 #[.int .i64 a, .int .i64 b] w fun e w' => e = .returned (.int .i64 (max a b)) ∧ w' = w := by
  rw [← max_e]
  go_enter Tryz.func220, Tryz.ntmps220
  go_wp2
  all_goals
    go_ret
    refine ⟨ret_int (by simp_all), rfl⟩
set_option maxHeartbeats 4000000 in
theorem rMul_any (a b c d : Int) (w : World) (h : fvB a b = true) (g : fvB c d = true) : Calls Tryz.prog 208 #[.agg #[.int .i64 a, .int .i64 b], .agg #[.int .i64 c, .int .i64 d]] w fun e w' => e = .returned (fitV (min (a * c) (min (a * d) (min (b * c) (b * d))) / 1073741824) (-(-(max (a * c) (max (a * d) (max (b * c) (b * d)))) / 1073741824))) ∧ Below w.heap.size w w' := by
  rw [fv_iff] at h g
  have m1 := mul_bd31 (a := a) (b := c) (by omega) (by omega) (by omega) (by omega)
  have m2 := mul_bd31 (a := a) (b := d) (by omega) (by omega) (by omega) (by omega)
  have m3 := mul_bd31 (a := b) (b := c) (by omega) (by omega) (by omega) (by omega)
  have m4 := mul_bd31 (a := b) (b := d) (by omega) (by omega) (by omega) (by omega)
  have s1 : wrap64 (a * c) = a * c := IntWalk.wrap64_in _ (by omega)
  have s2 : wrap64 (a * d) = a * d := IntWalk.wrap64_in _ (by omega)
  have s3 : wrap64 (b * c) = b * c := IntWalk.wrap64_in _ (by omega)
  have s4 : wrap64 (b * d) = b * d := IntWalk.wrap64_in _ (by omega)
  clear h g
  obtain ⟨x, hx⟩ : ∃ p, a * c = p := ⟨_, rfl⟩
  obtain ⟨y, hy⟩ : ∃ p, a * d = p := ⟨_, rfl⟩
  obtain ⟨z, hz⟩ : ∃ p, b * c = p := ⟨_, rfl⟩
  obtain ⟨u, hu⟩ : ∃ p, b * d = p := ⟨_, rfl⟩
  rw [hx] at s1 m1 ⊢
  rw [hy] at s2 m2 ⊢
  rw [hz] at s3 m3 ⊢
  rw [hu] at s4 m4 ⊢
  have KL := Lib.hid (fun W => rFloor_any (min x (min y (min z u))) W (by omega) (by omega))
  have KC := Lib.hid (fun W => rCeil_any (max x (max y (max z u))) W (by omega) (by omega))
  have M1 := Lib.hid (fun W => rLeast_any x y W)
  have M2 := Lib.hid (fun W => rLeast_any z u W)
  have M3 := Lib.hid (fun W => rLeast_any (min x y) (min z u) W)
  have M4 := Lib.hid (fun W => rMost_any x y W)
  have M5 := Lib.hid (fun W => rMost_any z u W)
  have M6 := Lib.hid (fun W => rMost_any (max x y) (max z u) W)
  rw [Int.min_assoc] at M3
  rw [Int.max_assoc] at M6
  clear m1 m2 m3 m4
  have hpq : min x (min y (min z u)) / 1073741824 ≤ -(-(max x (max y (max z u))) / 1073741824) := by omega
  generalize hl : min x (min y (min z u)) / 1073741824 = p at *
  generalize hh : -(-(max x (max y (max z u))) / 1073741824) = q at *
  clear hl hh
  have KF := Lib.hid (fun W => rfit_any p q W hpq)
  unfold fitV at *
  generalize fvB p q = s at *
  cases s
  all_goals
    simp only [Bool.false_eq_true, if_false, if_true] at *
    go_enter Tryz.func208, Tryz.ntmps208
    go_wp2
    go_quiet (fail)
    go_wp2_with (first
      | (go_at_call 219; (first | (with_reducible refine (M1.out _).mono ?_) | (with_reducible refine (M2.out _).mono ?_) | (with_reducible refine (M3.out _).mono ?_)); rintro e w3 ⟨rfl, rfl⟩)
      | (go_at_call 220; (first | (with_reducible refine (M4.out _).mono ?_) | (with_reducible refine (M5.out _).mono ?_) | (with_reducible refine (M6.out _).mono ?_)); rintro e w3 ⟨rfl, rfl⟩)
      | (go_at_call 221; (with_reducible refine (KL.out _).mono ?_); rintro e w3 ⟨rfl, rfl⟩)
      | (go_at_call 222; (with_reducible refine (KC.out _).mono ?_); rintro e w3 ⟨rfl, rfl⟩)
      | fail)
    (with_reducible refine (KF.out _).mono ?_)
    rintro e w2 ⟨rfl, hb2⟩
    rename_i nq _ _ _ _
    obtain ⟨hbl2, A1, B1, C1⟩ := three_D2 ((bl_drewN (Below.refl _ _) nq).trans hb2)
    obtain ⟨rt, r0, r1, rf0, rf1⟩ := C1
    clear hb2 A1 B1
    go_wp2
    first
      | refine bodyPost_ret (v := .tuple #[.agg #[.int .i64 p, .int .i64 q], .int .i64 0]) (by simp [results, Tryz.results208, go_sem, *]; done) rfl ⟨rfl, ?_⟩
      | refine bodyPost_ret (v := .tuple #[.agg #[.int .i64 0, .int .i64 0], .int .i64 5]) (by simp [results, Tryz.results208, go_sem, *]; done) rfl ⟨rfl, ?_⟩
    exact (hbl2.setCell (by simp; omega) _).setCell (by simp; omega) _
end Go.Proofs.YtpemohoibeipfaaGreat
namespace Go.Proofs.YtpemohoibeipfaaGreat
open Go.RowKit
theorem first_b {W w9 : World} (h : Below W.drew.heap.size W.drew w9) : Below W.heap.size W w9 := (bl_drew (Below.refl _ _)).trans h
end Go.Proofs.YtpemohoibeipfaaGreat
namespace Go.Proofs.YtpemohoibeipfaaGreat
open Go.RowKit
/-- six cells that are known -/
structure C6 (W : World) (g : Nat) (a0 a1 b0 b1 c0 c1 : Int) : Prop where
  lt : g < W.heap.size
  x0 : W.cell? ⟨g, 0, none⟩ = some (.int .i64 a0)
  x1 : W.cell? ⟨g, 1, none⟩ = some (.int .i64 a1)
  x2 : W.cell? ⟨g, 2, none⟩ = some (.int .i64 b0)
  x3 : W.cell? ⟨g, 3, none⟩ = some (.int .i64 b1)
  x4 : W.cell? ⟨g, 4, none⟩ = some (.int .i64 c0)
  x5 : W.cell? ⟨g, 5, none⟩ = some (.int .i64 c1)
theorem C6.below {W W' : World} {g B : Nat} {a0 a1 b0 b1 c0 c1 : Int} (h : C6 W g a0 a1 b0 b1 c0 c1) (hb : Below B W W') (hB : g < B) : C6 W' g a0 a1 b0 b1 c0 c1 :=
  ⟨Nat.lt_of_lt_of_le h.lt hb.size, (hb.cell (p := ⟨g, 0, none⟩) hB).trans h.x0, (hb.cell (p := ⟨g, 1, none⟩) hB).trans h.x1, (hb.cell (p := ⟨g, 2, none⟩) hB).trans h.x2, (hb.cell (p := ⟨g, 3, none⟩) hB).trans h.x3, (hb.cell (p := ⟨g, 4, none⟩) hB).trans h.x4, (hb.cell (p := ⟨g, 5, none⟩) hB).trans h.x5⟩
theorem C6.new (w : World) (a0 a1 b0 b1 c0 c1 : Int) (t : TypeId) : C6 (w.alloc (.cells #[.int .i64 a0, .int .i64 a1, .int .i64 b0, .int .i64 b1, .int .i64 c0, .int .i64 c1] t)) w.heap.size a0 a1 b0 b1 c0 c1 := ⟨by simp, by simp, by simp, by simp, by simp, by simp, by simp⟩
theorem small_fv {x : Int × Int} (h : Trig.Small x) : fvB x.1 x.2 = true := by
  rw [fv_iff]; have := h.lo; have := h.le; have := h.hi; omega
theorem fit_small {x : Int × Int} (h : Trig.Small x) : fitV x.1 x.2 = .tuple #[.agg #[.int .i64 x.1, .int .i64 x.2], .int .i64 0] := by
  unfold fitV; rw [if_pos (small_fv h)]
set_option maxHeartbeats 1000000 in
set_option maxRecDepth 100000 in
theorem times25_any (x y : Int × Int) (hx : Trig.Small x) (hy : Trig.Small y) (w : World) : Calls Tryz.prog 188 #[.agg #[.int .i64 x.1, .int .i64 x.2], .agg #[.int .i64 y.1, .int .i64 y.2]] w fun e w' => e = .returned (.agg #[.int .i64 (Trig.mulP x y).1, .int .i64 (Trig.mulP x y).2]) ∧ Below w.heap.size w w' := by
  have km := fun W => rMul_any x.1 x.2 y.1 y.2 W (small_fv hx) (small_fv hy)
  have hm := fit_small (Trig.mulP_small hx hy)
  have km : ∀ W, Calls Tryz.prog 208 #[.agg #[.int .i64 x.1, .int .i64 x.2], .agg #[.int .i64 y.1, .int .i64 y.2]] W fun e w' => e = .returned (.tuple #[.agg #[.int .i64 (Trig.mulP x y).1, .int .i64 (Trig.mulP x y).2], .int .i64 0]) ∧ Below W.heap.size W w' := fun W => by rw [← hm]; exact km W
  have KM := Lib.hid km
  clear hm hx hy
  obtain ⟨x0, x1⟩ := x
  obtain ⟨y0, y1⟩ := y
  obtain ⟨⟨r0, r1⟩, hr⟩ : ∃ r, Trig.mulP (x0, x1) (y0, y1) = r := ⟨_, rfl⟩
  rw [hr] at KM ⊢
  simp only [] at KM ⊢
  clear hr km
  have T2 : Hid (D2 (((w.alloc (.cells #[.int .i64 x0, .int .i64 x1] 85)).alloc (.cells #[.int .i64 y0, .int .i64 y1] 85)).alloc (.cells #[.int .i64 0, .int .i64 0] 85)) (w.heap.size + 1 + 1) 0 0) := Lib.hid (by
    have := D2.new ((w.alloc (.cells #[.int .i64 x0, .int .i64 x1] 85)).alloc (.cells #[.int .i64 y0, .int .i64 y1] 85)) 0 0 85
    rwa [World.size_alloc, World.size_alloc] at this)
  have B0 := Lib.hid (((bl_alloc w (.cells #[.int .i64 x0, .int .i64 x1] 85)).alloc (by simp) (.cells #[.int .i64 y0, .int .i64 y1] 85)).alloc (by simp; omega) (.cells #[.int .i64 0, .int .i64 0] 85))
  go_enter Tryz.func188, Tryz.ntmps188
  go_wp2_with fail
  (with_reducible refine (KM.out _).mono ?_)
  rintro e w1 ⟨rfl, hb1⟩
  have T2 := Lib.hid ((T2.out.below hb1 T2.out.lt).alloc (.cells #[.int .i64 r0, .int .i64 r1] 85))
  have B0 := Lib.hid ((B0.out.trans (hb1.mono B0.out.size)).alloc (by have := B0.out.size; have := hb1.size; omega) (.cells #[.int .i64 r0, .int .i64 r1] 85))
  obtain ⟨zt, z0, z1, zf0, zf1⟩ := T2.out
  go_wp2
  refine bodyPost_ret (v := .agg #[.int .i64 r0, .int .i64 r1]) (by simp [results, Tryz.results188, go_sem, *]; done) rfl ⟨rfl, ?_⟩
  exact (B0.out.setCell (by simp only []; omega) _).setCell (by simp only []; omega) _
theorem fit_add {x y : Int × Int} (hx : Trig.Small x) (hy : Trig.Small y) : fitV (Trig.addP x y).1 (Trig.addP x y).2 = .tuple #[.agg #[.int .i64 (Trig.addP x y).1, .int .i64 (Trig.addP x y).2], .int .i64 0] := by
  have h : fvB (Trig.addP x y).1 (Trig.addP x y).2 = true := by
    rw [fv_iff]
    have := hx.lo; have := hx.le; have := hx.hi; have := hy.lo; have := hy.le; have := hy.hi
    unfold Trig.addP
    simp only []
    omega
  unfold fitV; rw [if_pos h]
set_option maxHeartbeats 1000000 in
set_option maxRecDepth 100000 in
theorem plus25_any (x y : Int × Int) (hx : Trig.Small x) (hy : Trig.Small y) (w : World) : Calls Tryz.prog 187 #[.agg #[.int .i64 x.1, .int .i64 x.2], .agg #[.int .i64 y.1, .int .i64 y.2]] w fun e w' => e = .returned (.agg #[.int .i64 (Trig.addP x y).1, .int .i64 (Trig.addP x y).2]) ∧ Below w.heap.size w w' := by
  have km := fun W => rAdd_any x.1 x.2 y.1 y.2 W (small_fv hx) (small_fv hy)
  have hm := fit_add hx hy
  have km : ∀ W, Calls Tryz.prog 207 #[.agg #[.int .i64 x.1, .int .i64 x.2], .agg #[.int .i64 y.1, .int .i64 y.2]] W fun e w' => e = .returned (.tuple #[.agg #[.int .i64 (Trig.addP x y).1, .int .i64 (Trig.addP x y).2], .int .i64 0]) ∧ Below W.heap.size W w' := fun W => by rw [← hm]; exact km W
  have KM := Lib.hid km
  clear hm hx hy
  obtain ⟨x0, x1⟩ := x
  obtain ⟨y0, y1⟩ := y
  obtain ⟨⟨r0, r1⟩, hr⟩ : ∃ r, Trig.addP (x0, x1) (y0, y1) = r := ⟨_, rfl⟩
  rw [hr] at KM ⊢
  simp only [] at KM ⊢
  clear hr km
  have T2 : Hid (D2 (((w.alloc (.cells #[.int .i64 x0, .int .i64 x1] 85)).alloc (.cells #[.int .i64 y0, .int .i64 y1] 85)).alloc (.cells #[.int .i64 0, .int .i64 0] 85)) (w.heap.size + 1 + 1) 0 0) := Lib.hid (by
    have := D2.new ((w.alloc (.cells #[.int .i64 x0, .int .i64 x1] 85)).alloc (.cells #[.int .i64 y0, .int .i64 y1] 85)) 0 0 85
    rwa [World.size_alloc, World.size_alloc] at this)
  have B0 := Lib.hid (((bl_alloc w (.cells #[.int .i64 x0, .int .i64 x1] 85)).alloc (by simp) (.cells #[.int .i64 y0, .int .i64 y1] 85)).alloc (by simp; omega) (.cells #[.int .i64 0, .int .i64 0] 85))
  go_enter Tryz.func187, Tryz.ntmps187
  go_wp2_with fail
  (with_reducible refine (KM.out _).mono ?_)
  rintro e w1 ⟨rfl, hb1⟩
  have T2 := Lib.hid ((T2.out.below hb1 T2.out.lt).alloc (.cells #[.int .i64 r0, .int .i64 r1] 85))
  have B0 := Lib.hid ((B0.out.trans (hb1.mono B0.out.size)).alloc (by have := B0.out.size; have := hb1.size; omega) (.cells #[.int .i64 r0, .int .i64 r1] 85))
  obtain ⟨zt, z0, z1, zf0, zf1⟩ := T2.out
  go_wp2
  refine bodyPost_ret (v := .agg #[.int .i64 r0, .int .i64 r1]) (by simp [results, Tryz.results187, go_sem, *]; done) rfl ⟨rfl, ?_⟩
  exact (B0.out.setCell (by simp only []; omega) _).setCell (by simp only []; omega) _
set_option maxHeartbeats 4000000 in
set_option maxRecDepth 100000 in
/-- the reference's sine of an altitude -/
theorem Sine25_any (a b c : Int × Int) (w : World) (ha : -10800000 ≤ a.1 ∧ a.1 ≤ 10800000 ∧ -10800000 ≤ a.2 ∧ a.2 ≤ 10800000) (hb : -10800000 ≤ b.1 ∧ b.1 ≤ 10800000 ∧ -10800000 ≤ b.2 ∧ b.2 ≤ 10800000) (hc : -1000000000000 ≤ c.1 ∧ c.1 ≤ 1000000000000 ∧ -1000000000000 ≤ c.2 ∧ c.2 ≤ 1000000000000) :
    Calls Tryz.prog 157 #[.agg #[.int .i64 a.1, .int .i64 a.2, .int .i64 b.1, .int .i64 b.2, .int .i64 c.1, .int .i64 c.2]] w fun e w' => e = .returned (.agg #[.int .i64 (Trig.sinT a b c).1, .int .i64 (Trig.sinT a b c).2]) ∧ Below w.heap.size w w' := by
  have K1 := fun W => SinR_any a.1 a.2 W (by omega) (by omega)
  have K2 := fun W => SinR_any b.1 b.2 W (by omega) (by omega)
  have K3 := fun W => CosR_any a.1 a.2 W (by omega) (by omega) (by omega) (by omega)
  have K4' := fun W => CosR_any b.1 b.2 W (by omega) (by omega) (by omega) (by omega)
  have K5 := fun W => CosR_any c.1 c.2 W (by omega) (by omega) (by omega) (by omega)
  have M1 := fun W => times25_any (Trig.snP a) (Trig.snP b) (Trig.snP_small a) (Trig.snP_small b) W
  have M2 := fun W => times25_any (Trig.csP a) (Trig.csP b) (Trig.csP_small a) (Trig.csP_small b) W
  have M3 := fun W => times25_any (Trig.mulP (Trig.csP a) (Trig.csP b)) (Trig.csP c) (Trig.mulP_small (Trig.csP_small a) (Trig.csP_small b)) (Trig.csP_small c) W
  have M4 := fun W => plus25_any (Trig.mulP (Trig.snP a) (Trig.snP b)) (Trig.mulP (Trig.mulP (Trig.csP a) (Trig.csP b)) (Trig.csP c)) (Trig.mulP_small (Trig.snP_small a) (Trig.snP_small b)) (Trig.mulP_small (Trig.mulP_small (Trig.csP_small a) (Trig.csP_small b)) (Trig.csP_small c)) W
  have e0 : Trig.sinT a b c = Trig.addP (Trig.mulP (Trig.snP a) (Trig.snP b)) (Trig.mulP (Trig.mulP (Trig.csP a) (Trig.csP b)) (Trig.csP c)) := rfl
  rw [e0]
  have e1 : ∀ x : Int × Int, Trig.snP x = (Trig.enLo x.1 x.2, Trig.enHi x.1 x.2) := fun _ => rfl
  have e2 : ∀ x : Int × Int, Trig.csP x = (Trig.enLo (x.1 + 5400000) (x.2 + 5400000), Trig.enHi (x.1 + 5400000) (x.2 + 5400000)) := fun _ => rfl
  obtain ⟨⟨s0, s1⟩, hs⟩ : ∃ x, Trig.addP (Trig.mulP (Trig.snP a) (Trig.snP b)) (Trig.mulP (Trig.mulP (Trig.csP a) (Trig.csP b)) (Trig.csP c)) = x := ⟨_, rfl⟩
  rw [hs] at M4 ⊢
  obtain ⟨⟨u0, u1⟩, hu⟩ : ∃ x, Trig.mulP (Trig.mulP (Trig.csP a) (Trig.csP b)) (Trig.csP c) = x := ⟨_, rfl⟩
  rw [hu] at M3 M4
  obtain ⟨⟨v0, v1⟩, hv⟩ : ∃ x, Trig.mulP (Trig.csP a) (Trig.csP b) = x := ⟨_, rfl⟩
  rw [hv] at M2 M3
  obtain ⟨⟨t0, t1⟩, ht⟩ : ∃ x, Trig.mulP (Trig.snP a) (Trig.snP b) = x := ⟨_, rfl⟩
  rw [ht] at M1 M4
  rw [e1, e1] at M1
  rw [e2, e2] at M2
  rw [e2] at M3
  clear e0 e1 e2 hs hu hv ht
  simp only [] at M1 M2 M3 M4 ⊢
  generalize Trig.enLo a.1 a.2 = n0 at *
  generalize Trig.enHi a.1 a.2 = n1 at *
  generalize Trig.enLo b.1 b.2 = n2 at *
  generalize Trig.enHi b.1 b.2 = n3 at *
  generalize Trig.enLo (a.1 + 5400000) (a.2 + 5400000) = p0 at *
  generalize Trig.enHi (a.1 + 5400000) (a.2 + 5400000) = p1 at *
  generalize Trig.enLo (b.1 + 5400000) (b.2 + 5400000) = p2 at *
  generalize Trig.enHi (b.1 + 5400000) (b.2 + 5400000) = p3 at *
  generalize Trig.enLo (c.1 + 5400000) (c.2 + 5400000) = p4 at *
  generalize Trig.enHi (c.1 + 5400000) (c.2 + 5400000) = p5 at *
  have K1 := Lib.hid K1
  have K2 := Lib.hid K2
  have K3 := Lib.hid K3
  have K4' := Lib.hid K4'
  have K5 := Lib.hid K5
  have M1 := Lib.hid M1
  have M2 := Lib.hid M2
  have M3 := Lib.hid M3
  have M4 := Lib.hid M4
  obtain ⟨a0, a1⟩ := a
  obtain ⟨b0, b1⟩ := b
  obtain ⟨c0, c1⟩ := c
  simp only [] at K1 K2 K3 K4' K5 ⊢
  clear ha hb hc
  go_enter Tryz.func157, Tryz.ntmps157
  go_upto_region 1 with (fail)
  have T1 := Lib.hid ((C6.new w a0 a1 b0 b1 c0 c1 78).below (bl_alloc _ (.cells #[.int .i64 0, .int .i64 0] 85)) (by simp))
  have T2 : Hid (D2 ((w.alloc (.cells #[.int .i64 a0, .int .i64 a1, .int .i64 b0, .int .i64 b1, .int .i64 c0, .int .i64 c1] 78)).alloc (.cells #[.int .i64 0, .int .i64 0] 85)) (w.heap.size + 1) 0 0) := Lib.hid (by
    have := D2.new (w.alloc (.cells #[.int .i64 a0, .int .i64 a1, .int .i64 b0, .int .i64 b1, .int .i64 c0, .int .i64 c1] 78)) 0 0 85
    rwa [World.size_alloc] at this)
  have B0 := Lib.hid ((bl_alloc w (.cells #[.int .i64 a0, .int .i64 a1, .int .i64 b0, .int .i64 b1, .int .i64 c0, .int .i64 c1] 78)).alloc (by simp) (.cells #[.int .i64 0, .int .i64 0] 85))
  generalize (w.alloc (.cells #[.int .i64 a0, .int .i64 a1, .int .i64 b0, .int .i64 b1, .int .i64 c0, .int .i64 c1] 78)).alloc (.cells #[.int .i64 0, .int .i64 0] 85) = W0 at *
  have hn1 : ¬ w.heap.size + 1 = w.heap.size := by omega
  obtain ⟨tl, x0, x1, x2, x3, x4, x5⟩ := T1.out
  go_region_held3 (fun w' => w'.cell? ⟨w.heap.size, 0, none⟩ = some (.int .i64 a0) ∧ w'.cell? ⟨w.heap.size, 1, none⟩ = some (.int .i64 a1) ∧ w'.cell? ⟨w.heap.size, 2, none⟩ = some (.int .i64 b0) ∧ w'.cell? ⟨w.heap.size, 3, none⟩ = some (.int .i64 b1) ∧ w'.cell? ⟨w.heap.size, 4, none⟩ = some (.int .i64 c0) ∧ w'.cell? ⟨w.heap.size, 5, none⟩ = some (.int .i64 c1)) (simp [*]) (first
    | ((first | go_at_call 189 | go_at_call 159 | go_at_call 188 | go_at_call 187); (first | (with_reducible refine (K1.out _).mono ?_) | (with_reducible refine (K2.out _).mono ?_) | (with_reducible refine (K3.out _).mono ?_) | (with_reducible refine (K4'.out _).mono ?_) | (with_reducible refine (K5.out _).mono ?_) | (with_reducible refine (M1.out _).mono ?_) | (with_reducible refine (M2.out _).mono ?_) | (with_reducible refine (M3.out _).mono ?_) | (with_reducible refine (M4.out _).mono ?_)); rintro e w9 ⟨rfl, hb9⟩; (first | (replace hb9 := first_b hb9) | skip); have B0 := Lib.hid (B0.out.trans (hb9.mono B0.out.size)); have T1 := Lib.hid (T1.out.below hb9 T1.out.lt); have T2 := Lib.hid (T2.out.below hb9 T2.out.lt); clear hb9; clear x0 x1 x2 x3 x4 x5 tl; obtain ⟨tl, x0, x1, x2, x3, x4, x5⟩ := T1.out; obtain ⟨bt9, b09, b19, bf09, bf19⟩ := T2.out; have e9 := fun (i : Nat) (u v : Value) => (World.cell?_setCell_other (w9.setCell ⟨w.heap.size + 1, 0, none⟩ u) ⟨w.heap.size + 1, 1, none⟩ ⟨w.heap.size, i, none⟩ v (fun e => hn1 (by injection e))).trans (World.cell?_setCell_other w9 ⟨w.heap.size + 1, 0, none⟩ ⟨w.heap.size, i, none⟩ u (fun e => hn1 (by injection e))))
    | fail)
  all_goals
    go_wp2
    refine bodyPost_ret (v := .agg #[.int .i64 s0, .int .i64 s1]) (by simp [results, Tryz.results157, go_sem, *]; done) rfl ⟨rfl, ?_⟩
    exact (B0.out.setCell (by simp only []; omega) _).setCell (by simp only []; omega) _
end Go.Proofs.YtpemohoibeipfaaGreat
namespace Go.Proofs.YtpemohoibeipfaaGreat
open Go.RowKit
/-- what stands in a block of one cell may be written again -/
theorem bl_same {B : Nat} {a w : World} {g : Nat} {t : TypeId} {u : Value} (hb : Below B a w) (h : Blk w g t #[u]) : Below B a (w.setCell ⟨g, 0, none⟩ u) := by
  have e : (w.setCell ⟨g, 0, none⟩ u).heap = w.heap := by
    unfold Blk at h
    have hlt : g < w.heap.size := by
      rcases Nat.lt_or_ge g w.heap.size with q | q
      · exact q
      · rw [Array.getElem?_eq_none q] at h; cases h
    apply Array.ext_getElem?
    intro i
    show (w.heap.modify g _)[i]? = w.heap[i]?
    by_cases hi : i = g
    · subst hi
      simp [Array.getElem?_modify, h]
    · simp [Array.getElem?_modify, show ¬ g = i from fun e => hi e.symm]
  exact ⟨hb.os, hb.tape, hb.output, by rw [e]; exact hb.size, fun k hk => by rw [e]; exact hb.block k hk⟩
theorem mul_yes (x y : Int × Int) (hx : Trig.Small x) (hy : Trig.Small y) (W : World) : Calls Tryz.prog 77 #[.agg #[.int .i64 x.1, .int .i64 x.2], .agg #[.int .i64 y.1, .int .i64 y.2]] W fun e w' => e = .returned (.tuple #[.agg #[.int .i64 (Trig.mulP x y).1, .int .i64 (Trig.mulP x y).2], .int .i64 0]) ∧ Below W.heap.size W w' := by
  rw [← fit_small (Trig.mulP_small hx hy)]; exact fMul_any x.1 x.2 y.1 y.2 W (small_fv hx) (small_fv hy)
theorem add_yes (x y : Int × Int) (hx : Trig.Small x) (hy : Trig.Small y) (W : World) : Calls Tryz.prog 75 #[.agg #[.int .i64 x.1, .int .i64 x.2], .agg #[.int .i64 y.1, .int .i64 y.2]] W fun e w' => e = .returned (.tuple #[.agg #[.int .i64 (Trig.addP x y).1, .int .i64 (Trig.addP x y).2], .int .i64 0]) ∧ Below W.heap.size W w' := by
  rw [← fit_add hx hy]; exact fAdd_any x.1 x.2 y.1 y.2 W (small_fv hx) (small_fv hy)
theorem sin_yes (a : Int × Int) (h : avB a.1 a.2 = true) (W : World) : Calls Tryz.prog 78 #[.agg #[.int .i64 a.1, .int .i64 a.2]] W fun e w' => e = .returned (.tuple #[.agg #[.int .i64 (Trig.snP a).1, .int .i64 (Trig.snP a).2], .int .i64 0]) ∧ Below W.heap.size W w' := Sin_yes a.1 a.2 W h
theorem cos_yes (a : Int × Int) (h : avB a.1 a.2 = true) (W : World) : Calls Tryz.prog 79 #[.agg #[.int .i64 a.1, .int .i64 a.2]] W fun e w' => e = .returned (.tuple #[.agg #[.int .i64 (Trig.csP a).1, .int .i64 (Trig.csP a).2], .int .i64 0]) ∧ Below W.heap.size W w' := Cos_yes a.1 a.2 W h
end Go.Proofs.YtpemohoibeipfaaGreat
namespace Go.Proofs.YtpemohoibeipfaaGreat
open Go.RowKit
theorem ret_bool {a b : Bool} (h : a = b) : Ending.returned (.bool a) = .returned (.bool b) := by rw [h]
def ceq (x y : Cl) : Bool := decide (x = y)
theorem ceq_true {x y : Cl} : ceq x y = true ↔ x = y := by simp [ceq]
theorem ceq_false {x y : Cl} : ceq x y = false ↔ x ≠ y := by simp [ceq]
abbrev cva (x : Cl) : Value := .agg #[.int .i64 x.1, .int .i64 x.2.1, .int .i64 x.2.2]
theorem equalInCell (a b c a' b' c' : Int) (w : World) : (Op.equalIn 10000 58 (.agg #[.int .i64 a, .int .i64 b, .int .i64 c]) (.agg #[.int .i64 a', .int .i64 b', .int .i64 c'])).run Tryz.prog w = .ok (ceq (a, b, c) (a', b', c')) w := by
  have u3 := Tryz.underlying3
  have a3 := Tryz.isAgg3
  have z3 := Tryz.sizeOf3
  have hS : Tryz.prog.underlying 58 = some (.struct (Tryz.prog.fieldsOf 58)) := by kernel_rfl
  have hp : Tryz.prog.stoodInHeld 58 = false := by kernel_rfl
  rw [show (10000 : Nat) = 9999 + 1 from rfl, run_equalIn_agg w 9999 58 _ _ hS hp]
  simp only [Program.fieldsOf, Tryz.underlying58]
  go_simp
  by_cases h1 : a = a' <;> by_cases h2 : b = b' <;> by_cases h3 : c = c' <;> simp [ceq, h1, h2, h3]
theorem neqCell (a b c a' b' c' : Int) (w : World) : (binOp .neq 58 (.agg #[.int .i64 a, .int .i64 b, .int .i64 c]) (.agg #[.int .i64 a', .int .i64 b', .int .i64 c'])).run Tryz.prog w = .ok (.bool (!(ceq (a, b, c) (a', b', c')))) w := by
  rw [run_neq_struct, equalInCell]; rfl
theorem eqlCell (a b c a' b' c' : Int) (w : World) : (binOp .eql 58 (.agg #[.int .i64 a, .int .i64 b, .int .i64 c]) (.agg #[.int .i64 a', .int .i64 b', .int .i64 c'])).run Tryz.prog w = .ok (.bool (ceq (a, b, c) (a', b', c'))) w := by
  rw [run_eql_struct, equalInCell]; rfl

def gt (L : List Cl) (k : Nat) : Cl := L.getD k (0, 0, 0)
theorem cvs_at (L : List Cl) (k : Nat) (hk : k < L.length) : (cvs L)[k * 3]? = some (.int .i64 (gt L k).1) ∧ (cvs L)[k * 3 + 1]? = some (.int .i64 (gt L k).2.1) ∧ (cvs L)[k * 3 + 2]? = some (.int .i64 (gt L k).2.2) := by
  induction L generalizing k with
  | nil => simp at hk
  | cons x r ih =>
    have hc : cvs (x :: r) = .int .i64 x.1 :: .int .i64 x.2.1 :: .int .i64 x.2.2 :: cvs r := rfl
    rw [hc]
    match k with
    | 0 => simp [gt]
    | k + 1 =>
      have := ih k (by simpa using hk)
      have e1 : (k + 1) * 3 = k * 3 + 3 := by omega
      have e2 : (k + 1) * 3 + 1 = (k * 3 + 1) + 3 := by omega
      have e3 : (k + 1) * 3 + 2 = (k * 3 + 2) + 3 := by omega
      rw [e3, e2, e1]
      simpa [gt] using this
theorem Reads.len {w : World} {B n : Nat} {A : Option Addr} {L : List Cl} (h : Reads w B 3 A n (cvs L)) : L.length = n := by
  have := h.1
  rw [cvs_length] at this
  omega
/-- the cells of one element -/
theorem Reads.elem {w : World} {B n : Nat} {A : Option Addr} {L : List Cl} (h : Reads w B 3 A n (cvs L)) {k : Nat} (hk : k < n) :
    ∃ b off, A = some ⟨b, off, none⟩ ∧ b < B ∧ w.cell? ⟨b, off + k * 3, none⟩ = some (.int .i64 (gt L k).1) ∧ w.cell? ⟨b, off + k * 3 + 1, none⟩ = some (.int .i64 (gt L k).2.1) ∧ w.cell? ⟨b, off + k * 3 + 2, none⟩ = some (.int .i64 (gt L k).2.2) := by
  have hl := h.len
  obtain ⟨ad, rfl, hb, hc⟩ := h.2 (by omega)
  obtain ⟨b, off, spot⟩ := ad
  obtain ⟨z1, _, _⟩ := cvs_at L 0 (by omega)
  have hspot : spot = none := by simpa [Addr.add] using World.cell?_spot (hc 0 _ (by simpa using z1))
  subst hspot
  obtain ⟨y1, y2, y3⟩ := cvs_at L k (by omega)
  refine ⟨b, off, rfl, hb, ?_, ?_, ?_⟩
  · have := hc _ _ y1; rw [Go.WideShapes.add_plain] at this; exact this
  · have := hc _ _ y2; rw [Go.WideShapes.add_plain] at this; exact this
  · have := hc _ _ y3; rw [Go.WideShapes.add_plain] at this; exact this

theorem take_eq_succ {L M : List Cl} {k : Nat} (h : L.take k = M.take k) (h1 : k < L.length) (h2 : k < M.length) (he : gt L k = gt M k) : L.take (k + 1) = M.take (k + 1) := by
  rw [List.take_succ_eq_append_getElem h1, List.take_succ_eq_append_getElem h2, h]
  simp [gt, h1, h2] at he
  rw [he]
theorem ne_of_gt {L M : List Cl} {k : Nat} (he : gt L k ≠ gt M k) : L ≠ M := fun h => he (by rw [h])

end Go.Proofs.YtpemohoibeipfaaGreat
namespace Go.Proofs.YtpemohoibeipfaaGreat
open Go.RowKit
/-- whether a number may be the end of a range -/
def rchB (n : Int) : Bool := decide (-1099511627776 ≤ n ∧ n ≤ 1099511627776)
/-- eight cells that are known: the pairs of ends -/
structure Q8 (W : World) (g : Nat) (p q : Int) : Prop where
  lt : g < W.heap.size
  c0 : W.cell? ⟨g, 0, none⟩ = some (.int .i64 1073741824)
  c1 : W.cell? ⟨g, 1, none⟩ = some (.int .i64 p)
  c2 : W.cell? ⟨g, 2, none⟩ = some (.int .i64 1073741824)
  c3 : W.cell? ⟨g, 3, none⟩ = some (.int .i64 q)
  c4 : W.cell? ⟨g, 4, none⟩ = some (.int .i64 1073741824)
  c5 : W.cell? ⟨g, 5, none⟩ = some (.int .i64 p)
  c6 : W.cell? ⟨g, 6, none⟩ = some (.int .i64 1073741824)
  c7 : W.cell? ⟨g, 7, none⟩ = some (.int .i64 q)
end Go.Proofs.YtpemohoibeipfaaGreat
