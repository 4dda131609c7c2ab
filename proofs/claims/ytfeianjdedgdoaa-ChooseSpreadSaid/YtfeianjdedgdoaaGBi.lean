/- The spread of azimuths (plain). -/
import Derived.Test.YtfeianjdedgdoaaGVi
import Derived.Test.YtfeianjdedgdoaaGWords
set_option linter.unusedVariables false
set_option linter.unusedSimpArgs false
/- The walks of circles' chain of operations, where nothing fails; angle.Valid and angle.Add. -/
namespace Go.Proofs.Ytfeianjdedgdoaa
open Go.RowKit
theorem fitsQ_any (n : Int) (w : World) : Calls Try.prog 20 #[.int .i64 n] w fun e w' => e = .returned (.bool (rchB n)) ∧ w' = w := by
  unfold rchB
  go_enter Try.func20, Try.ntmps20
  go_wp2
  all_goals
    go_ret
    exact ⟨ret_bool (by first | rfl | (simp_all; done) | (simp_all; omega)), rfl⟩
theorem avQ_parts (lo hi : Int) : avB lo hi = (decide (lo ≤ hi) && rchB lo && rchB hi) := by
  unfold avB rchB
  rw [Bool.eq_iff_iff]
  simp only [Bool.and_eq_true, decide_eq_true_eq]
  omega
set_option maxHeartbeats 400000 in
theorem aVal_any (lo hi : Int) (w : World) : Calls Try.prog 14 #[.agg #[.int .i64 lo, .int .i64 hi]] w fun e w' => e = .returned (.bool (avB lo hi)) ∧ Below w.heap.size w w' := by
  have KL := Lib.hid (fun W => fitsQ_any lo W)
  have KH := Lib.hid (fun W => fitsQ_any hi W)
  rw [avQ_parts]
  generalize rchB lo = s at *
  generalize rchB hi = t at *
  by_cases h : lo ≤ hi
  · have d : decide (lo ≤ hi) = true := decide_eq_true h
    rw [d]
    cases s
    · go_enter Try.func14, Try.ntmps14
      go_wp2_with (go_at_call 20; (with_reducible refine (KL.out _).mono ?_); rintro e w9 ⟨rfl, rfl⟩)
      go_ret
      refine ⟨rfl, ?_⟩
      repeat (first | exact Below.refl _ _ | assumption | refine bl_drew ?_ | refine bl_drewN ?_ _ | refine Below.setCell ?_ (by first | assumption | omega | (simp; done) | (simp; omega)) _ | refine Below.alloc ?_ (by first | assumption | omega | (simp; done) | (simp; omega)) _)
    · cases t
      all_goals
        go_enter Try.func14, Try.ntmps14
        go_wp2_with (go_at_call 20; (first | (with_reducible refine (KL.out _).mono ?_) | (with_reducible refine (KH.out _).mono ?_)); rintro e w9 ⟨rfl, rfl⟩)
        go_ret
        refine ⟨rfl, ?_⟩
        repeat (first | exact Below.refl _ _ | assumption | refine bl_drew ?_ | refine bl_drewN ?_ _ | refine Below.setCell ?_ (by first | assumption | omega | (simp; done) | (simp; omega)) _ | refine Below.alloc ?_ (by first | assumption | omega | (simp; done) | (simp; omega)) _)
  · have d : decide (lo ≤ hi) = false := decide_eq_false h
    rw [d]
    go_enter Try.func14, Try.ntmps14
    go_wp2
    go_ret
    refine ⟨rfl, ?_⟩
    repeat (first | exact Below.refl _ _ | assumption | refine bl_drew ?_ | refine bl_drewN ?_ _ | refine Below.setCell ?_ (by first | assumption | omega | (simp; done) | (simp; omega)) _ | refine Below.alloc ?_ (by first | assumption | omega | (simp; done) | (simp; omega)) _)
/-- the differences of two intervals -/
def subP (x y : Int × Int) : Int × Int := (x.1 - y.2, x.2 - y.1)
theorem fit_sub {x y : Int × Int} (hx : Trig.Small x) (hy : Trig.Small y) : fitV (subP x y).1 (subP x y).2 = .tuple #[.agg #[.int .i64 (subP x y).1, .int .i64 (subP x y).2], .int .i64 0] := by
  have h : fvB (subP x y).1 (subP x y).2 = true := by
    rw [fv_iff]
    have := hx.lo; have := hx.le; have := hx.hi; have := hy.lo; have := hy.le; have := hy.hi
    unfold subP
    simp only []
    omega
  unfold fitV
  rw [if_pos h]
theorem sub_yes (x y : Int × Int) (hx : Trig.Small x) (hy : Trig.Small y) (W : World) : Calls Try.prog 49 #[.agg #[.int .i64 x.1, .int .i64 x.2], .agg #[.int .i64 y.1, .int .i64 y.2]] W fun e w' => e = .returned (.tuple #[.agg #[.int .i64 (subP x y).1, .int .i64 (subP x y).2], .int .i64 0]) ∧ Below W.heap.size W w' := by
  rw [← fit_sub hx hy]; exact fSub_any x.1 x.2 y.1 y.2 W (small_fv hx) (small_fv hy)
/-- an arc of numbers that are not great -/
def ArcS (x : Int × Int) : Prop := -1000000000 ≤ x.1 ∧ x.1 ≤ x.2 ∧ x.2 ≤ 1000000000
set_option maxHeartbeats 1000000 in
set_option maxRecDepth 100000 in
theorem result_yes (lo hi : Int) (w : World) (h0 : rchB lo = true) (h1 : rchB hi = true) : Calls Try.prog 63 #[.int .i64 lo, .int .i64 hi] w fun e w' => e = .returned (.tuple #[.agg #[.int .i64 lo, .int .i64 hi], .int .i64 0]) ∧ Below w.heap.size w w' := by
  have KL := Lib.hid (fun W => fitsQ_any lo W)
  have KH := Lib.hid (fun W => fitsQ_any hi W)
  rw [h0] at KL
  rw [h1] at KH
  clear h0 h1
  go_enter Try.func63, Try.ntmps63
  go_wp2_with (go_at_call 20; (first | (with_reducible refine (KL.out _).mono ?_) | (with_reducible refine (KH.out _).mono ?_)); rintro e w9 ⟨rfl, rfl⟩)
  refine bodyPost_ret (v := .tuple #[.agg #[.int .i64 lo, .int .i64 hi], .int .i64 0]) (by simp [results, Try.results63, go_sem, *]; done) rfl ⟨rfl, ?_⟩
  repeat (first | exact Below.refl _ _ | assumption | refine bl_drew ?_ | refine bl_drewN ?_ _ | refine Below.setCell ?_ (by first | assumption | omega | (simp; done) | (simp; omega)) _ | refine Below.alloc ?_ (by first | assumption | omega | (simp; done) | (simp; omega)) _)
set_option maxHeartbeats 1000000 in
set_option maxRecDepth 100000 in
theorem angAdd_yes (x y : Int × Int) (hx : ArcS x) (hy : ArcS y) (w : World) : Calls Try.prog 50 #[.agg #[.int .i64 x.1, .int .i64 x.2], .agg #[.int .i64 y.1, .int .i64 y.2]] w fun e w' => e = .returned (.tuple #[.agg #[.int .i64 (Trig.addP x y).1, .int .i64 (Trig.addP x y).2], .int .i64 0]) ∧ Below w.heap.size w w' := by
  obtain ⟨x0, x1⟩ := x
  obtain ⟨y0, y1⟩ := y
  obtain ⟨a0, a1, a2⟩ := hx
  obtain ⟨b0, b1, b2⟩ := hy
  simp only [] at a0 a1 a2 b0 b1 b2
  simp only [Trig.addP]
  have KX := Lib.hid (fun W => aVal_any x0 x1 W)
  have KY := Lib.hid (fun W => aVal_any y0 y1 W)
  rw [avB_true.2 (by omega)] at KX KY
  have KR := Lib.hid (fun W => result_yes (x0 + y0) (x1 + y1) W (by unfold rchB; exact decide_eq_true (by omega)) (by unfold rchB; exact decide_eq_true (by omega)))
  have n0 : wrap64 (x0 + y0) = x0 + y0 := IntWalk.wrap64_in _ (by omega)
  have n1 : wrap64 (x1 + y1) = x1 + y1 := IntWalk.wrap64_in _ (by omega)
  have X0 := Lib.hid (((D2.new w x0 x1 26).alloc (.cells #[.int .i64 y0, .int .i64 y1] 26)).alloc (.cells #[.int .i64 0, .int .i64 0] 26))
  have yy := (D2.new (w.alloc (.cells #[.int .i64 x0, .int .i64 x1] 26)) y0 y1 26).alloc (.cells #[.int .i64 0, .int .i64 0] 26)
  have zz := D2.new ((w.alloc (.cells #[.int .i64 x0, .int .i64 x1] 26)).alloc (.cells #[.int .i64 y0, .int .i64 y1] 26)) 0 0 26
  rw [World.size_alloc] at yy
  rw [World.size_alloc, World.size_alloc] at zz
  have Y0 := Lib.hid yy
  have Z0 := Lib.hid zz
  have B0 := Lib.hid (((bl_alloc w (.cells #[.int .i64 x0, .int .i64 x1] 26)).alloc (by simp) (.cells #[.int .i64 y0, .int .i64 y1] 26)).alloc (by simp; omega) (.cells #[.int .i64 0, .int .i64 0] 26))
  clear yy zz a0 a1 a2 b0 b1 b2
  go_enter Try.func50, Try.ntmps50
  go_wp2_with fail
  (with_reducible refine (KX.out _).mono ?_)
  rintro e w1 ⟨rfl, hb1⟩
  have X1 := Lib.hid (X0.out.below hb1 X0.out.lt)
  have Y1 := Lib.hid (Y0.out.below hb1 Y0.out.lt)
  have Z1 := Lib.hid (Z0.out.below hb1 Z0.out.lt)
  have B1 := Lib.hid (B0.out.trans (hb1.mono B0.out.size))
  clear hb1 X0 Y0 Z0 B0
  obtain ⟨yt, y2, y3, -, -⟩ := Y1.out
  go_wp2_with fail
  (with_reducible refine (KY.out _).mono ?_)
  rintro e w2 ⟨rfl, hb2⟩
  clear yt y2 y3
  obtain ⟨xt, x2, x3, -, -⟩ := X1.out.below hb2 X1.out.lt
  obtain ⟨yt, y2, y3, -, -⟩ := Y1.out.below hb2 Y1.out.lt
  have Z2 := Lib.hid (Z1.out.below hb2 Z1.out.lt)
  have B2 := Lib.hid (B1.out.trans (hb2.mono B1.out.size))
  clear hb2 X1 Y1 Z1 B1
  go_wp2_with fail
  (with_reducible refine (KR.out _).mono ?_)
  rintro e w3 ⟨rfl, hb3⟩
  have B3 := Lib.hid (B2.out.trans (hb3.mono B2.out.size))
  obtain ⟨zt, z0, z1, zf0, zf1⟩ := Z2.out.below hb3 Z2.out.lt
  clear hb3 Z2 B2 xt x2 x3 yt y2 y3
  go_wp2
  refine bodyPost_ret (v := .tuple #[.agg #[.int .i64 (x0 + y0), .int .i64 (x1 + y1)], .int .i64 0]) (by simp [results, Try.results50, go_sem, *]; done) rfl ⟨rfl, ?_⟩
  exact (B3.out.setCell (by simp only []; omega) _).setCell (by simp only []; omega) _
set_option maxHeartbeats 1000000 in
set_option maxRecDepth 100000 in
theorem kept_any (g : Nat) (lo hi : Int) (w : World) (h : Blk w g 62 #[.int .i64 0]) :
    Calls Try.prog 40 #[.pointer (some ⟨g, 0, none⟩), .agg #[.int .i64 lo, .int .i64 hi], .int .i64 0] w fun e w' => e = .returned (.agg #[.int .i64 lo, .int .i64 hi]) ∧ Below w.heap.size w w' := by
  have hg := h.lt
  have h1 := (h.alloc (.cells #[.int .i64 lo, .int .i64 hi] 63)).alloc (.cells #[.int .i64 0, .int .i64 0] 63)
  have c0 : w.cell? ⟨g, 0, none⟩ = some (.int .i64 0) := by rw [h.cell 0]; rfl
  have f0 := h.frozen 0
  have H := Lib.hid h
  have HB := Lib.hid (bl_same (Below.refl w.heap.size w) h)
  clear h h1
  go_enter Try.func40, Try.ntmps40
  go_wp2
  refine bodyPost_ret (v := .agg #[.int .i64 lo, .int .i64 hi]) (by simp [results, Try.results40, go_sem, *]; done) rfl ⟨rfl, ?_⟩
  exact (HB.out.alloc HB.out.size _).alloc (by have := HB.out.size; first | (simp; done) | (simp; omega)) _
set_option maxHeartbeats 1000000 in
set_option maxRecDepth 100000 in
theorem ksin_any (g : Nat) (a : Int × Int) (w : World) (ha : avB a.1 a.2 = true) (h : Blk w g 62 #[.int .i64 0]) :
    Calls Try.prog 27 #[.pointer (some ⟨g, 0, none⟩), .agg #[.int .i64 a.1, .int .i64 a.2]] w fun e w' => e = .returned (.agg #[.int .i64 (Trig.snP a).1, .int .i64 (Trig.snP a).2]) ∧ Below w.heap.size w w' := by
  have KS := Lib.hid (fun W => sin_yes a ha W)
  have KK := Lib.hid (fun (lo hi : Int) (W : World) (h : Blk W g 62 #[.int .i64 0]) => kept_any g lo hi W h)
  obtain ⟨⟨s0, s1⟩, hs⟩ : ∃ z, (Trig.snP a) = z := ⟨_, rfl⟩
  rw [hs] at KS ⊢
  simp only [] at KS ⊢
  clear hs
  have hg := h.lt
  have H0 := Lib.hid ((h.alloc (.cells #[.int .i64 a.1, .int .i64 a.2] 26)).alloc (.cells #[.int .i64 0, .int .i64 0] 63))
  have T0 : Hid (D2 ((w.alloc (.cells #[.int .i64 a.1, .int .i64 a.2] 26)).alloc (.cells #[.int .i64 0, .int .i64 0] 63)) (w.heap.size + 1) 0 0) := Lib.hid (by
    have := D2.new (w.alloc (.cells #[.int .i64 a.1, .int .i64 a.2] 26)) 0 0 63
    rwa [World.size_alloc] at this)
  have B0 := Lib.hid ((bl_alloc w (.cells #[.int .i64 a.1, .int .i64 a.2] 26)).alloc (by simp) (.cells #[.int .i64 0, .int .i64 0] 63))
  clear h
  go_enter Try.func27, Try.ntmps27
  go_wp2_with fail
  (with_reducible refine (KS.out _).mono ?_)
  rintro e w1 ⟨rfl, hb1⟩
  have H1 := Lib.hid ((H0.out.below hb1 H0.out.lt).alloc (.cells #[.int .i64 s0, .int .i64 s1] 63))
  have T1 := Lib.hid ((T0.out.below hb1 T0.out.lt).alloc (.cells #[.int .i64 s0, .int .i64 s1] 63))
  have B1 := Lib.hid ((B0.out.trans (hb1.mono B0.out.size)).alloc (by have := B0.out.size; have := hb1.size; omega) (.cells #[.int .i64 s0, .int .i64 s1] 63))
  clear hb1 H0 T0 B0
  go_wp2_with fail
  (with_reducible refine (KK.out _ _ _ H1.out).mono ?_)
  rintro e w2 ⟨rfl, hb2⟩
  have T2 := Lib.hid (T1.out.below hb2 T1.out.lt)
  have B2 := Lib.hid (B1.out.trans (hb2.mono B1.out.size))
  obtain ⟨zt, z0, z1, zf0, zf1⟩ := T2.out
  go_wp2
  refine bodyPost_ret (v := .agg #[.int .i64 s0, .int .i64 s1]) (by simp [results, Try.results27, go_sem, *]; done) rfl ⟨rfl, ?_⟩
  exact (B2.out.setCell (by simp only []; omega) _).setCell (by simp only []; omega) _
set_option maxHeartbeats 1000000 in
set_option maxRecDepth 100000 in
theorem kcos_any (g : Nat) (a : Int × Int) (w : World) (ha : avB a.1 a.2 = true) (h : Blk w g 62 #[.int .i64 0]) :
    Calls Try.prog 28 #[.pointer (some ⟨g, 0, none⟩), .agg #[.int .i64 a.1, .int .i64 a.2]] w fun e w' => e = .returned (.agg #[.int .i64 (Trig.csP a).1, .int .i64 (Trig.csP a).2]) ∧ Below w.heap.size w w' := by
  have KS := Lib.hid (fun W => cos_yes a ha W)
  have KK := Lib.hid (fun (lo hi : Int) (W : World) (h : Blk W g 62 #[.int .i64 0]) => kept_any g lo hi W h)
  obtain ⟨⟨s0, s1⟩, hs⟩ : ∃ z, (Trig.csP a) = z := ⟨_, rfl⟩
  rw [hs] at KS ⊢
  simp only [] at KS ⊢
  clear hs
  have hg := h.lt
  have H0 := Lib.hid ((h.alloc (.cells #[.int .i64 a.1, .int .i64 a.2] 26)).alloc (.cells #[.int .i64 0, .int .i64 0] 63))
  have T0 : Hid (D2 ((w.alloc (.cells #[.int .i64 a.1, .int .i64 a.2] 26)).alloc (.cells #[.int .i64 0, .int .i64 0] 63)) (w.heap.size + 1) 0 0) := Lib.hid (by
    have := D2.new (w.alloc (.cells #[.int .i64 a.1, .int .i64 a.2] 26)) 0 0 63
    rwa [World.size_alloc] at this)
  have B0 := Lib.hid ((bl_alloc w (.cells #[.int .i64 a.1, .int .i64 a.2] 26)).alloc (by simp) (.cells #[.int .i64 0, .int .i64 0] 63))
  clear h
  go_enter Try.func28, Try.ntmps28
  go_wp2_with fail
  (with_reducible refine (KS.out _).mono ?_)
  rintro e w1 ⟨rfl, hb1⟩
  have H1 := Lib.hid ((H0.out.below hb1 H0.out.lt).alloc (.cells #[.int .i64 s0, .int .i64 s1] 63))
  have T1 := Lib.hid ((T0.out.below hb1 T0.out.lt).alloc (.cells #[.int .i64 s0, .int .i64 s1] 63))
  have B1 := Lib.hid ((B0.out.trans (hb1.mono B0.out.size)).alloc (by have := B0.out.size; have := hb1.size; omega) (.cells #[.int .i64 s0, .int .i64 s1] 63))
  clear hb1 H0 T0 B0
  go_wp2_with fail
  (with_reducible refine (KK.out _ _ _ H1.out).mono ?_)
  rintro e w2 ⟨rfl, hb2⟩
  have T2 := Lib.hid (T1.out.below hb2 T1.out.lt)
  have B2 := Lib.hid (B1.out.trans (hb2.mono B1.out.size))
  obtain ⟨zt, z0, z1, zf0, zf1⟩ := T2.out
  go_wp2
  refine bodyPost_ret (v := .agg #[.int .i64 s0, .int .i64 s1]) (by simp [results, Try.results28, go_sem, *]; done) rfl ⟨rfl, ?_⟩
  exact (B2.out.setCell (by simp only []; omega) _).setCell (by simp only []; omega) _
set_option maxHeartbeats 1000000 in
set_option maxRecDepth 100000 in
theorem kmul_any (g : Nat) (x y : Int × Int) (w : World) (hx : Trig.Small x) (hy : Trig.Small y) (h : Blk w g 62 #[.int .i64 0]) :
    Calls Try.prog 31 #[.pointer (some ⟨g, 0, none⟩), .agg #[.int .i64 x.1, .int .i64 x.2], .agg #[.int .i64 y.1, .int .i64 y.2]] w fun e w' => e = .returned (.agg #[.int .i64 (Trig.mulP x y).1, .int .i64 (Trig.mulP x y).2]) ∧ Below w.heap.size w w' := by
  have KS := Lib.hid (fun W => mul_yes x y hx hy W)
  have KK := Lib.hid (fun (lo hi : Int) (W : World) (h : Blk W g 62 #[.int .i64 0]) => kept_any g lo hi W h)
  obtain ⟨⟨s0, s1⟩, hs⟩ : ∃ z, (Trig.mulP x y) = z := ⟨_, rfl⟩
  rw [hs] at KS ⊢
  simp only [] at KS ⊢
  clear hs
  have hg := h.lt
  have H0 := Lib.hid (((h.alloc (.cells #[.int .i64 x.1, .int .i64 x.2] 63)).alloc (.cells #[.int .i64 y.1, .int .i64 y.2] 63)).alloc (.cells #[.int .i64 0, .int .i64 0] 63))
  have T0 : Hid (D2 (((w.alloc (.cells #[.int .i64 x.1, .int .i64 x.2] 63)).alloc (.cells #[.int .i64 y.1, .int .i64 y.2] 63)).alloc (.cells #[.int .i64 0, .int .i64 0] 63)) (w.heap.size + 1 + 1) 0 0) := Lib.hid (by
    have := D2.new ((w.alloc (.cells #[.int .i64 x.1, .int .i64 x.2] 63)).alloc (.cells #[.int .i64 y.1, .int .i64 y.2] 63)) 0 0 63
    rwa [World.size_alloc, World.size_alloc] at this)
  have B0 := Lib.hid (((bl_alloc w (.cells #[.int .i64 x.1, .int .i64 x.2] 63)).alloc (by simp) (.cells #[.int .i64 y.1, .int .i64 y.2] 63)).alloc (by simp; omega) (.cells #[.int .i64 0, .int .i64 0] 63))
  clear h
  go_enter Try.func31, Try.ntmps31
  go_wp2_with fail
  (with_reducible refine (KS.out _).mono ?_)
  rintro e w1 ⟨rfl, hb1⟩
  have H1 := Lib.hid ((H0.out.below hb1 H0.out.lt).alloc (.cells #[.int .i64 s0, .int .i64 s1] 63))
  have T1 := Lib.hid ((T0.out.below hb1 T0.out.lt).alloc (.cells #[.int .i64 s0, .int .i64 s1] 63))
  have B1 := Lib.hid ((B0.out.trans (hb1.mono B0.out.size)).alloc (by have := B0.out.size; have := hb1.size; omega) (.cells #[.int .i64 s0, .int .i64 s1] 63))
  clear hb1 H0 T0 B0
  go_wp2_with fail
  (with_reducible refine (KK.out _ _ _ H1.out).mono ?_)
  rintro e w2 ⟨rfl, hb2⟩
  have T2 := Lib.hid (T1.out.below hb2 T1.out.lt)
  have B2 := Lib.hid (B1.out.trans (hb2.mono B1.out.size))
  obtain ⟨zt, z0, z1, zf0, zf1⟩ := T2.out
  go_wp2
  refine bodyPost_ret (v := .agg #[.int .i64 s0, .int .i64 s1]) (by simp [results, Try.results31, go_sem, *]; done) rfl ⟨rfl, ?_⟩
  exact (B2.out.setCell (by simp only []; omega) _).setCell (by simp only []; omega) _
set_option maxHeartbeats 1000000 in
set_option maxRecDepth 100000 in
theorem kplus_any (g : Nat) (x y : Int × Int) (w : World) (hx : Trig.Small x) (hy : Trig.Small y) (h : Blk w g 62 #[.int .i64 0]) :
    Calls Try.prog 30 #[.pointer (some ⟨g, 0, none⟩), .agg #[.int .i64 x.1, .int .i64 x.2], .agg #[.int .i64 y.1, .int .i64 y.2]] w fun e w' => e = .returned (.agg #[.int .i64 (Trig.addP x y).1, .int .i64 (Trig.addP x y).2]) ∧ Below w.heap.size w w' := by
  have KS := Lib.hid (fun W => add_yes x y hx hy W)
  have KK := Lib.hid (fun (lo hi : Int) (W : World) (h : Blk W g 62 #[.int .i64 0]) => kept_any g lo hi W h)
  obtain ⟨⟨s0, s1⟩, hs⟩ : ∃ z, (Trig.addP x y) = z := ⟨_, rfl⟩
  rw [hs] at KS ⊢
  simp only [] at KS ⊢
  clear hs
  have hg := h.lt
  have H0 := Lib.hid (((h.alloc (.cells #[.int .i64 x.1, .int .i64 x.2] 63)).alloc (.cells #[.int .i64 y.1, .int .i64 y.2] 63)).alloc (.cells #[.int .i64 0, .int .i64 0] 63))
  have T0 : Hid (D2 (((w.alloc (.cells #[.int .i64 x.1, .int .i64 x.2] 63)).alloc (.cells #[.int .i64 y.1, .int .i64 y.2] 63)).alloc (.cells #[.int .i64 0, .int .i64 0] 63)) (w.heap.size + 1 + 1) 0 0) := Lib.hid (by
    have := D2.new ((w.alloc (.cells #[.int .i64 x.1, .int .i64 x.2] 63)).alloc (.cells #[.int .i64 y.1, .int .i64 y.2] 63)) 0 0 63
    rwa [World.size_alloc, World.size_alloc] at this)
  have B0 := Lib.hid (((bl_alloc w (.cells #[.int .i64 x.1, .int .i64 x.2] 63)).alloc (by simp) (.cells #[.int .i64 y.1, .int .i64 y.2] 63)).alloc (by simp; omega) (.cells #[.int .i64 0, .int .i64 0] 63))
  clear h
  go_enter Try.func30, Try.ntmps30
  go_wp2_with fail
  (with_reducible refine (KS.out _).mono ?_)
  rintro e w1 ⟨rfl, hb1⟩
  have H1 := Lib.hid ((H0.out.below hb1 H0.out.lt).alloc (.cells #[.int .i64 s0, .int .i64 s1] 63))
  have T1 := Lib.hid ((T0.out.below hb1 T0.out.lt).alloc (.cells #[.int .i64 s0, .int .i64 s1] 63))
  have B1 := Lib.hid ((B0.out.trans (hb1.mono B0.out.size)).alloc (by have := B0.out.size; have := hb1.size; omega) (.cells #[.int .i64 s0, .int .i64 s1] 63))
  clear hb1 H0 T0 B0
  go_wp2_with fail
  (with_reducible refine (KK.out _ _ _ H1.out).mono ?_)
  rintro e w2 ⟨rfl, hb2⟩
  have T2 := Lib.hid (T1.out.below hb2 T1.out.lt)
  have B2 := Lib.hid (B1.out.trans (hb2.mono B1.out.size))
  obtain ⟨zt, z0, z1, zf0, zf1⟩ := T2.out
  go_wp2
  refine bodyPost_ret (v := .agg #[.int .i64 s0, .int .i64 s1]) (by simp [results, Try.results30, go_sem, *]; done) rfl ⟨rfl, ?_⟩
  exact (B2.out.setCell (by simp only []; omega) _).setCell (by simp only []; omega) _
set_option maxHeartbeats 1000000 in
set_option maxRecDepth 100000 in
theorem kminus_any (g : Nat) (x y : Int × Int) (w : World) (hx : Trig.Small x) (hy : Trig.Small y) (h : Blk w g 62 #[.int .i64 0]) :
    Calls Try.prog 34 #[.pointer (some ⟨g, 0, none⟩), .agg #[.int .i64 x.1, .int .i64 x.2], .agg #[.int .i64 y.1, .int .i64 y.2]] w fun e w' => e = .returned (.agg #[.int .i64 (subP x y).1, .int .i64 (subP x y).2]) ∧ Below w.heap.size w w' := by
  have KS := Lib.hid (fun W => sub_yes x y hx hy W)
  have KK := Lib.hid (fun (lo hi : Int) (W : World) (h : Blk W g 62 #[.int .i64 0]) => kept_any g lo hi W h)
  obtain ⟨⟨s0, s1⟩, hs⟩ : ∃ z, (subP x y) = z := ⟨_, rfl⟩
  rw [hs] at KS ⊢
  simp only [] at KS ⊢
  clear hs
  have hg := h.lt
  have H0 := Lib.hid (((h.alloc (.cells #[.int .i64 x.1, .int .i64 x.2] 63)).alloc (.cells #[.int .i64 y.1, .int .i64 y.2] 63)).alloc (.cells #[.int .i64 0, .int .i64 0] 63))
  have T0 : Hid (D2 (((w.alloc (.cells #[.int .i64 x.1, .int .i64 x.2] 63)).alloc (.cells #[.int .i64 y.1, .int .i64 y.2] 63)).alloc (.cells #[.int .i64 0, .int .i64 0] 63)) (w.heap.size + 1 + 1) 0 0) := Lib.hid (by
    have := D2.new ((w.alloc (.cells #[.int .i64 x.1, .int .i64 x.2] 63)).alloc (.cells #[.int .i64 y.1, .int .i64 y.2] 63)) 0 0 63
    rwa [World.size_alloc, World.size_alloc] at this)
  have B0 := Lib.hid (((bl_alloc w (.cells #[.int .i64 x.1, .int .i64 x.2] 63)).alloc (by simp) (.cells #[.int .i64 y.1, .int .i64 y.2] 63)).alloc (by simp; omega) (.cells #[.int .i64 0, .int .i64 0] 63))
  clear h
  go_enter Try.func34, Try.ntmps34
  go_wp2_with fail
  (with_reducible refine (KS.out _).mono ?_)
  rintro e w1 ⟨rfl, hb1⟩
  have H1 := Lib.hid ((H0.out.below hb1 H0.out.lt).alloc (.cells #[.int .i64 s0, .int .i64 s1] 63))
  have T1 := Lib.hid ((T0.out.below hb1 T0.out.lt).alloc (.cells #[.int .i64 s0, .int .i64 s1] 63))
  have B1 := Lib.hid ((B0.out.trans (hb1.mono B0.out.size)).alloc (by have := B0.out.size; have := hb1.size; omega) (.cells #[.int .i64 s0, .int .i64 s1] 63))
  clear hb1 H0 T0 B0
  go_wp2_with fail
  (with_reducible refine (KK.out _ _ _ H1.out).mono ?_)
  rintro e w2 ⟨rfl, hb2⟩
  have T2 := Lib.hid (T1.out.below hb2 T1.out.lt)
  have B2 := Lib.hid (B1.out.trans (hb2.mono B1.out.size))
  obtain ⟨zt, z0, z1, zf0, zf1⟩ := T2.out
  go_wp2
  refine bodyPost_ret (v := .agg #[.int .i64 s0, .int .i64 s1]) (by simp [results, Try.results34, go_sem, *]; done) rfl ⟨rfl, ?_⟩
  exact (B2.out.setCell (by simp only []; omega) _).setCell (by simp only []; omega) _
set_option maxHeartbeats 1000000 in
set_option maxRecDepth 100000 in
theorem keptA_any (g : Nat) (lo hi : Int) (w : World) (h : Blk w g 62 #[.int .i64 0]) :
    Calls Try.prog 32 #[.pointer (some ⟨g, 0, none⟩), .agg #[.int .i64 lo, .int .i64 hi], .int .i64 0] w fun e w' => e = .returned (.agg #[.int .i64 lo, .int .i64 hi]) ∧ Below w.heap.size w w' := by
  have hg := h.lt
  have h1 := (h.alloc (.cells #[.int .i64 lo, .int .i64 hi] 26)).alloc (.cells #[.int .i64 0, .int .i64 0] 26)
  have c0 : w.cell? ⟨g, 0, none⟩ = some (.int .i64 0) := by rw [h.cell 0]; rfl
  have f0 := h.frozen 0
  have H := Lib.hid h
  have HB := Lib.hid (bl_same (Below.refl w.heap.size w) h)
  clear h h1
  go_enter Try.func32, Try.ntmps32
  go_wp2
  refine bodyPost_ret (v := .agg #[.int .i64 lo, .int .i64 hi]) (by simp [results, Try.results32, go_sem, *]; done) rfl ⟨rfl, ?_⟩
  exact (HB.out.alloc HB.out.size _).alloc (by have := HB.out.size; first | (simp; done) | (simp; omega)) _
set_option maxHeartbeats 1000000 in
set_option maxRecDepth 100000 in
theorem ksum_any (g : Nat) (x y : Int × Int) (w : World) (hx : ArcS x) (hy : ArcS y) (h : Blk w g 62 #[.int .i64 0]) :
    Calls Try.prog 35 #[.pointer (some ⟨g, 0, none⟩), .agg #[.int .i64 x.1, .int .i64 x.2], .agg #[.int .i64 y.1, .int .i64 y.2]] w fun e w' => e = .returned (.agg #[.int .i64 (Trig.addP x y).1, .int .i64 (Trig.addP x y).2]) ∧ Below w.heap.size w w' := by
  have KS := Lib.hid (fun W => angAdd_yes x y hx hy W)
  have KK := Lib.hid (fun (lo hi : Int) (W : World) (h : Blk W g 62 #[.int .i64 0]) => keptA_any g lo hi W h)
  obtain ⟨⟨s0, s1⟩, hs⟩ : ∃ z, (Trig.addP x y) = z := ⟨_, rfl⟩
  rw [hs] at KS ⊢
  simp only [] at KS ⊢
  clear hs
  have hg := h.lt
  have H0 := Lib.hid (((h.alloc (.cells #[.int .i64 x.1, .int .i64 x.2] 26)).alloc (.cells #[.int .i64 y.1, .int .i64 y.2] 26)).alloc (.cells #[.int .i64 0, .int .i64 0] 26))
  have T0 : Hid (D2 (((w.alloc (.cells #[.int .i64 x.1, .int .i64 x.2] 26)).alloc (.cells #[.int .i64 y.1, .int .i64 y.2] 26)).alloc (.cells #[.int .i64 0, .int .i64 0] 26)) (w.heap.size + 1 + 1) 0 0) := Lib.hid (by
    have := D2.new ((w.alloc (.cells #[.int .i64 x.1, .int .i64 x.2] 26)).alloc (.cells #[.int .i64 y.1, .int .i64 y.2] 26)) 0 0 26
    rwa [World.size_alloc, World.size_alloc] at this)
  have B0 := Lib.hid (((bl_alloc w (.cells #[.int .i64 x.1, .int .i64 x.2] 26)).alloc (by simp) (.cells #[.int .i64 y.1, .int .i64 y.2] 26)).alloc (by simp; omega) (.cells #[.int .i64 0, .int .i64 0] 26))
  clear h
  go_enter Try.func35, Try.ntmps35
  go_wp2_with fail
  (with_reducible refine (KS.out _).mono ?_)
  rintro e w1 ⟨rfl, hb1⟩
  have H1 := Lib.hid ((H0.out.below hb1 H0.out.lt).alloc (.cells #[.int .i64 s0, .int .i64 s1] 26))
  have T1 := Lib.hid ((T0.out.below hb1 T0.out.lt).alloc (.cells #[.int .i64 s0, .int .i64 s1] 26))
  have B1 := Lib.hid ((B0.out.trans (hb1.mono B0.out.size)).alloc (by have := B0.out.size; have := hb1.size; omega) (.cells #[.int .i64 s0, .int .i64 s1] 26))
  clear hb1 H0 T0 B0
  go_wp2_with fail
  (with_reducible refine (KK.out _ _ _ H1.out).mono ?_)
  rintro e w2 ⟨rfl, hb2⟩
  have T2 := Lib.hid (T1.out.below hb2 T1.out.lt)
  have B2 := Lib.hid (B1.out.trans (hb2.mono B1.out.size))
  obtain ⟨zt, z0, z1, zf0, zf1⟩ := T2.out
  go_wp2
  refine bodyPost_ret (v := .agg #[.int .i64 s0, .int .i64 s1]) (by simp [results, Try.results35, go_sem, *]; done) rfl ⟨rfl, ?_⟩
  exact (B2.out.setCell (by simp only []; omega) _).setCell (by simp only []; omega) _
end Go.Proofs.Ytfeianjdedgdoaa
namespace Go.Proofs.Ytfeianjdedgdoaa.Spd
abbrev Sp := Int × Int
def gs (L : List Sp) (k : Nat) : Sp := L.getD k (0, 0)
/-- how far a number is from the next multiple of half a turn -/
def near (n : Int) : Int := min (n % 10800000) (10800000 - n % 10800000)
/-- the folded arc's least number -/
def foldV (lo hi : Int) : Int := if (lo + 10799999) / 10800000 * 10800000 ≤ hi then 0 else min (near lo) (near hi)
/-- what two azimuths have between them -/
def prV (a b : Sp) : Int := if 21600000 ≤ a.2 - a.1 + b.2 - b.1 then 0 else foldV ((b.1 - a.2) % 21600000) ((b.1 - a.2) % 21600000 + (a.2 - a.1 + b.2 - b.1))
theorem near_bd (n : Int) : 0 ≤ near n ∧ near n ≤ 5400000 := by unfold near; omega
theorem foldV_bd (lo hi : Int) : 0 ≤ foldV lo hi ∧ foldV lo hi ≤ 5400000 := by
  have h1 := near_bd lo
  have h2 := near_bd hi
  unfold foldV
  split <;> omega
theorem prV_bd (a b : Sp) : 0 ≤ prV a b ∧ prV a b ≤ 5400000 := by
  have := foldV_bd ((b.1 - a.2) % 21600000) ((b.1 - a.2) % 21600000 + (a.2 - a.1 + b.2 - b.1))
  unfold prV
  split <;> omega
theorem near_neg (a b : Int) (h : (a + b) % 10800000 = 0) : near a = near b := by unfold near; omega
theorem foldV_neg {lo hi lo' hi' : Int} (h1 : (lo + hi') % 10800000 = 0) (h2 : lo + hi' = hi + lo') : foldV lo hi = foldV lo' hi' := by
  have e1 := near_neg lo hi' h1
  have e2 := near_neg hi lo' (by omega)
  unfold foldV
  rw [e1, e2]
  have : (lo + 10799999) / 10800000 * 10800000 ≤ hi ↔ (lo' + 10799999) / 10800000 * 10800000 ≤ hi' := by omega
  by_cases h : (lo + 10799999) / 10800000 * 10800000 ≤ hi
  · rw [if_pos h, if_pos (this.1 h)]
  · rw [if_neg h, if_neg (fun g => h (this.2 g))]
    omega
theorem prV_comm (a b : Sp) : prV a b = prV b a := by
  unfold prV
  by_cases h : 21600000 ≤ a.2 - a.1 + b.2 - b.1
  · rw [if_pos h, if_pos (by omega)]
  · rw [if_neg h, if_neg (by omega)]
    exact foldV_neg (by omega) (by omega)
theorem prV_turn (a b : Sp) (t : Int) : prV (a.1 + t, a.2 + t) (b.1 + t, b.2 + t) = prV a b := by
  unfold prV
  simp only []
  rw [show a.2 + t - (a.1 + t) + (b.2 + t) - (b.1 + t) = a.2 - a.1 + b.2 - b.1 by omega, show b.1 + t - (a.2 + t) = b.1 - a.2 by omega]
theorem prV_opp (a : Sp) (h : a.1 ≤ a.2) : prV (a.1 + 10800000, a.1 + 10800000) a = 0 := by
  unfold prV foldV
  simp only []
  split
  · rfl
  · rw [if_pos (by omega)]
/-- the least of some pairs, an inner loop and an outer one -/
def inn (L : List Sp) (i : Nat) (m : Int) : Nat → Int
  | 0 => m
  | k + 1 => min (inn L i m k) (prV (gs L i) (gs L k))
def spd (L : List Sp) : Nat → Int
  | 0 => 5400000
  | i + 1 => inn L i (spd L i) i
theorem le_inn (L : List Sp) (i : Nat) (m c : Int) (k : Nat) : c ≤ inn L i m k ↔ c ≤ m ∧ ∀ j, j < k → c ≤ prV (gs L i) (gs L j) := by
  induction k with
  | zero => simp [inn]
  | succ k ih =>
    unfold inn
    rw [Int.le_min, ih]
    constructor
    · rintro ⟨⟨a, b⟩, d⟩
      refine ⟨a, fun j hj => ?_⟩
      by_cases e : j = k
      · rw [e]; exact d
      · exact b j (by omega)
    · rintro ⟨a, b⟩
      exact ⟨⟨a, fun j hj => b j (by omega)⟩, b k (by omega)⟩
theorem le_spd (L : List Sp) (c : Int) (n : Nat) : c ≤ spd L n ↔ c ≤ 5400000 ∧ ∀ i, i < n → ∀ j, j < i → c ≤ prV (gs L i) (gs L j) := by
  induction n with
  | zero => simp [spd]
  | succ n ih =>
    unfold spd
    rw [le_inn, ih]
    constructor
    · rintro ⟨⟨a, b⟩, d⟩
      refine ⟨a, fun i hi => ?_⟩
      by_cases e : i = n
      · subst e; exact d
      · exact b i (by omega)
    · rintro ⟨a, b⟩
      exact ⟨⟨a, fun i hi => b i (by omega)⟩, b n (by omega)⟩
theorem spd_bd (L : List Sp) (n : Nat) : 0 ≤ spd L n ∧ spd L n ≤ 5400000 :=
  ⟨(le_spd L 0 n).2 ⟨by decide, fun _ _ _ _ => (prV_bd _ _).1⟩, ((le_spd L _ n).1 (Int.le_refl _)).1⟩
theorem inn_bd (L : List Sp) (i : Nat) (m : Int) (k : Nat) (h0 : 0 ≤ m) (h1 : m ≤ 5400000) : 0 ≤ inn L i m k ∧ inn L i m k ≤ 5400000 :=
  ⟨(le_inn L i m 0 k).2 ⟨h0, fun _ _ => (prV_bd _ _).1⟩, Int.le_trans ((le_inn L i m _ k).1 (Int.le_refl _)).1 h1⟩
/-- a pair with nothing between makes the least nothing -/
theorem spd_zero (L : List Sp) {n i j : Nat} (hi : i < n) (hj : j < i) (h : prV (gs L i) (gs L j) = 0) : spd L n = 0 := by
  have h1 := ((le_spd L _ n).1 (Int.le_refl _)).2 i hi j hj
  have := spd_bd L n
  omega
/-- the azimuths from the last one to the first one, turned -/
def trn (L : List Sp) (t : Int) : List Sp := L.reverse.map fun a => (a.1 + t, a.2 + t)
theorem trn_length (L : List Sp) (t : Int) : (trn L t).length = L.length := by simp [trn]
theorem trn_at (L : List Sp) (t : Int) (i : Nat) (hi : i < L.length) : gs (trn L t) i = ((gs L (L.length - 1 - i)).1 + t, (gs L (L.length - 1 - i)).2 + t) := by
  have h2 : L.length - 1 - i < L.length := by omega
  simp [gs, trn, hi, h2, List.getElem_reverse]
theorem spd_trn (L : List Sp) (t : Int) : spd (trn L t) L.length = spd L L.length := by
  have key : ∀ c, c ≤ spd (trn L t) L.length ↔ c ≤ spd L L.length := by
    intro c
    rw [le_spd, le_spd]
    constructor
    · rintro ⟨a, b⟩
      refine ⟨a, fun i hi j hj => ?_⟩
      have := b (L.length - 1 - j) (by omega) (L.length - 1 - i) (by omega)
      rw [trn_at L t _ (by omega), trn_at L t _ (by omega), prV_turn, prV_comm] at this
      rwa [show L.length - 1 - (L.length - 1 - j) = j by omega, show L.length - 1 - (L.length - 1 - i) = i by omega] at this
    · rintro ⟨a, b⟩
      refine ⟨a, fun i hi j hj => ?_⟩
      rw [trn_at L t _ (by omega), trn_at L t _ (by omega), prV_turn, prV_comm]
      exact b _ (by omega) _ (by omega)
  have h1 := (key (spd (trn L t) L.length)).1 (Int.le_refl _)
  have h2 := (key (spd L L.length)).2 (Int.le_refl _)
  omega
theorem spd_more (L : List Sp) (h0 : 0 < L.length) (hv : (gs L 0).1 ≤ (gs L 0).2) : spd (L ++ [((gs L 0).1 + 10800000, (gs L 0).1 + 10800000)]) (L.length + 1) = 0 := by
  refine spd_zero _ (i := L.length) (j := 0) (by omega) h0 ?_
  have e1 : gs (L ++ [((gs L 0).1 + 10800000, (gs L 0).1 + 10800000)]) L.length = ((gs L 0).1 + 10800000, (gs L 0).1 + 10800000) := by simp [gs]
  have e2 : gs (L ++ [((gs L 0).1 + 10800000, (gs L 0).1 + 10800000)]) 0 = gs L 0 := by simp [gs, h0]
  rw [e1, e2]
  exact prV_opp _ hv
end Go.Proofs.Ytfeianjdedgdoaa.Spd
