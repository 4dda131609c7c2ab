/- place.Contains at any valid place; the law RegionCovers. -/
import Derived.Deep.DeepCutAuto
import Derived.Lib.SliceRun
import Derived.BigQuiet
import Derived.Shelf.Abstract
import Derived.Deep.RegionLaw
import Derived.Test.YtifdgdgfmjfbdaaGreatIVi
import Derived.Test.YtifdgdgfmjfbdaaGreatIAi
import Derived.Test.YtifdgdgfmjfbdaaGreatITk
import Derived.Test.YtifdgdgfmjfbdaaGreatIUk
import Derived.Test.YtifdgdgfmjfbdaaGreatIAl
import Derived.Test.YtifdgdgfmjfbdaaGreatIHk
import Derived.Test.YtifdgdgfmjfbdaaGreatIGi
import Derived.Test.YtifdgdgfmjfbdaaGreatIJa
import Derived.Test.YtifdgdgfmjfbdaaGreatIJc
set_option linter.unusedVariables false
set_option linter.unusedSimpArgs false
namespace Go.Proofs.YtifdgdgfmjfbdaaGreat
open Go.RowKit
theorem fitsQ_any (n : Int) (w : World) : Calls Tryz.prog 102 #[.int .i64 n] w fun e w' => e = .returned (.bool (rchB n)) ∧ w' = w := by
  unfold rchB
  go_enter Tryz.func102, Tryz.ntmps102
  go_wp2
  all_goals
    go_ret
    exact ⟨ret_bool (by first | rfl | (simp_all; done) | (simp_all; omega)), rfl⟩
theorem avQ_parts (lo hi : Int) : avB lo hi = (decide (lo ≤ hi) && rchB lo && rchB hi) := by
  unfold avB rchB
  rw [Bool.eq_iff_iff]
  simp only [Bool.and_eq_true, decide_eq_true_eq]
  omega
set_option maxHeartbeats 400000 in
theorem aVal_any (lo hi : Int) (w : World) : Calls Tryz.prog 49 #[.agg #[.int .i64 lo, .int .i64 hi]] w fun e w' => e = .returned (.bool (avB lo hi)) ∧ Below w.heap.size w w' := by
  have KL := Lib.hid (fun W => fitsQ_any lo W)
  have KH := Lib.hid (fun W => fitsQ_any hi W)
  rw [avQ_parts]
  generalize rchB lo = s at *
  generalize rchB hi = t at *
  by_cases h : lo ≤ hi
  · have d : decide (lo ≤ hi) = true := decide_eq_true h
    rw [d]
    cases s
    · go_enter Tryz.func49, Tryz.ntmps49
      go_wp2_with (go_at_call 102; (with_reducible refine (KL.out _).mono ?_); rintro e w9 ⟨rfl, rfl⟩)
      go_ret
      refine ⟨rfl, ?_⟩
      repeat (first | exact Below.refl _ _ | assumption | refine bl_drew ?_ | refine bl_drewN ?_ _ | refine Below.setCell ?_ (by first | assumption | omega | (simp; done) | (simp; omega)) _ | refine Below.alloc ?_ (by first | assumption | omega | (simp; done) | (simp; omega)) _)
    · cases t
      all_goals
        go_enter Tryz.func49, Tryz.ntmps49
        go_wp2_with (go_at_call 102; (first | (with_reducible refine (KL.out _).mono ?_) | (with_reducible refine (KH.out _).mono ?_)); rintro e w9 ⟨rfl, rfl⟩)
        go_ret
        refine ⟨rfl, ?_⟩
        repeat (first | exact Below.refl _ _ | assumption | refine bl_drew ?_ | refine bl_drewN ?_ _ | refine Below.setCell ?_ (by first | assumption | omega | (simp; done) | (simp; omega)) _ | refine Below.alloc ?_ (by first | assumption | omega | (simp; done) | (simp; omega)) _)
  · have d : decide (lo ≤ hi) = false := decide_eq_false h
    rw [d]
    go_enter Tryz.func49, Tryz.ntmps49
    go_wp2
    go_ret
    refine ⟨rfl, ?_⟩
    repeat (first | exact Below.refl _ _ | assumption | refine bl_drew ?_ | refine bl_drewN ?_ _ | refine Below.setCell ?_ (by first | assumption | omega | (simp; done) | (simp; omega)) _ | refine Below.alloc ?_ (by first | assumption | omega | (simp; done) | (simp; omega)) _)
/-- the differences of two intervals -/
def subP (x y : Int × Int) : Int × Int := (x.1 - y.2, x.2 - y.1)
theorem fit_sub {x y : Int × Int} (hx : Trig.Small x) (hy : Trig.Small y) : fitV (subP x y).1 (subP x y).2 = .tuple #[.agg #[.int .i64 (subP x y).1, .int .i64 (subP x y).2], .int .i64 0] := by
  have h : fvB (subP x y).1 (subP x y).2 = true := by
    rw [fv_iff]
    have := hx.lo; have := hx.le; have := hx.hi; have := hy.lo; have := hy.le; have := hy.hi
    unfold subP
    simp only []
    omega
  unfold fitV
  rw [if_pos h]
theorem sub_yes (x y : Int × Int) (hx : Trig.Small x) (hy : Trig.Small y) (W : World) : Calls Tryz.prog 156 #[.agg #[.int .i64 x.1, .int .i64 x.2], .agg #[.int .i64 y.1, .int .i64 y.2]] W fun e w' => e = .returned (.tuple #[.agg #[.int .i64 (subP x y).1, .int .i64 (subP x y).2], .int .i64 0]) ∧ Below W.heap.size W w' := by
  rw [← fit_sub hx hy]; exact fSub_any x.1 x.2 y.1 y.2 W (small_fv hx) (small_fv hy)
/-- an arc of numbers that are not great -/
def ArcS (x : Int × Int) : Prop := -1000000000 ≤ x.1 ∧ x.1 ≤ x.2 ∧ x.2 ≤ 1000000000
set_option maxHeartbeats 1000000 in
set_option maxRecDepth 100000 in
theorem result_yes (lo hi : Int) (w : World) (h0 : rchB lo = true) (h1 : rchB hi = true) : Calls Tryz.prog 144 #[.int .i64 lo, .int .i64 hi] w fun e w' => e = .returned (.tuple #[.agg #[.int .i64 lo, .int .i64 hi], .int .i64 0]) ∧ Below w.heap.size w w' := by
  have KL := Lib.hid (fun W => fitsQ_any lo W)
  have KH := Lib.hid (fun W => fitsQ_any hi W)
  rw [h0] at KL
  rw [h1] at KH
  clear h0 h1
  go_enter Tryz.func144, Tryz.ntmps144
  go_wp2_with (go_at_call 102; (first | (with_reducible refine (KL.out _).mono ?_) | (with_reducible refine (KH.out _).mono ?_)); rintro e w9 ⟨rfl, rfl⟩)
  refine bodyPost_ret (v := .tuple #[.agg #[.int .i64 lo, .int .i64 hi], .int .i64 0]) (by simp [results, Tryz.results144, go_sem, *]; done) rfl ⟨rfl, ?_⟩
  repeat (first | exact Below.refl _ _ | assumption | refine bl_drew ?_ | refine bl_drewN ?_ _ | refine Below.setCell ?_ (by first | assumption | omega | (simp; done) | (simp; omega)) _ | refine Below.alloc ?_ (by first | assumption | omega | (simp; done) | (simp; omega)) _)
set_option maxHeartbeats 1000000 in
set_option maxRecDepth 100000 in
theorem angAdd_yes (x y : Int × Int) (hx : ArcS x) (hy : ArcS y) (w : World) : Calls Tryz.prog 81 #[.agg #[.int .i64 x.1, .int .i64 x.2], .agg #[.int .i64 y.1, .int .i64 y.2]] w fun e w' => e = .returned (.tuple #[.agg #[.int .i64 (Trig.addP x y).1, .int .i64 (Trig.addP x y).2], .int .i64 0]) ∧ Below w.heap.size w w' := by
  obtain ⟨x0, x1⟩ := x
  obtain ⟨y0, y1⟩ := y
  obtain ⟨a0, a1, a2⟩ := hx
  obtain ⟨b0, b1, b2⟩ := hy
  simp only [] at a0 a1 a2 b0 b1 b2
  simp only [Trig.addP]
  have KX := Lib.hid (fun W => aVal_any x0 x1 W)
  have KY := Lib.hid (fun W => aVal_any y0 y1 W)
  rw [avB_true.2 (by omega)] at KX KY
  have KR := Lib.hid (fun W => result_yes (x0 + y0) (x1 + y1) W (by unfold rchB; exact decide_eq_true (by omega)) (by unfold rchB; exact decide_eq_true (by omega)))
  have n0 : wrap64 (x0 + y0) = x0 + y0 := IntWalk.wrap64_in _ (by omega)
  have n1 : wrap64 (x1 + y1) = x1 + y1 := IntWalk.wrap64_in _ (by omega)
  have X0 := Lib.hid (((D2.new w x0 x1 29).alloc (.cells #[.int .i64 y0, .int .i64 y1] 29)).alloc (.cells #[.int .i64 0, .int .i64 0] 29))
  have yy := (D2.new (w.alloc (.cells #[.int .i64 x0, .int .i64 x1] 29)) y0 y1 29).alloc (.cells #[.int .i64 0, .int .i64 0] 29)
  have zz := D2.new ((w.alloc (.cells #[.int .i64 x0, .int .i64 x1] 29)).alloc (.cells #[.int .i64 y0, .int .i64 y1] 29)) 0 0 29
  rw [World.size_alloc] at yy
  rw [World.size_alloc, World.size_alloc] at zz
  have Y0 := Lib.hid yy
  have Z0 := Lib.hid zz
  have B0 := Lib.hid (((bl_alloc w (.cells #[.int .i64 x0, .int .i64 x1] 29)).alloc (by simp) (.cells #[.int .i64 y0, .int .i64 y1] 29)).alloc (by simp; omega) (.cells #[.int .i64 0, .int .i64 0] 29))
  clear yy zz a0 a1 a2 b0 b1 b2
  go_enter Tryz.func81, Tryz.ntmps81
  go_wp2_with fail
  (with_reducible refine (KX.out _).mono ?_)
  rintro e w1 ⟨rfl, hb1⟩
  have X1 := Lib.hid (X0.out.below hb1 X0.out.lt)
  have Y1 := Lib.hid (Y0.out.below hb1 Y0.out.lt)
  have Z1 := Lib.hid (Z0.out.below hb1 Z0.out.lt)
  have B1 := Lib.hid (B0.out.trans (hb1.mono B0.out.size))
  clear hb1 X0 Y0 Z0 B0
  obtain ⟨yt, y2, y3, -, -⟩ := Y1.out
  go_wp2_with fail
  (with_reducible refine (KY.out _).mono ?_)
  rintro e w2 ⟨rfl, hb2⟩
  clear yt y2 y3
  obtain ⟨xt, x2, x3, -, -⟩ := X1.out.below hb2 X1.out.lt
  obtain ⟨yt, y2, y3, -, -⟩ := Y1.out.below hb2 Y1.out.lt
  have Z2 := Lib.hid (Z1.out.below hb2 Z1.out.lt)
  have B2 := Lib.hid (B1.out.trans (hb2.mono B1.out.size))
  clear hb2 X1 Y1 Z1 B1
  go_wp2_with fail
  (with_reducible refine (KR.out _).mono ?_)
  rintro e w3 ⟨rfl, hb3⟩
  have B3 := Lib.hid (B2.out.trans (hb3.mono B2.out.size))
  obtain ⟨zt, z0, z1, zf0, zf1⟩ := Z2.out.below hb3 Z2.out.lt
  clear hb3 Z2 B2 xt x2 x3 yt y2 y3
  go_wp2
  refine bodyPost_ret (v := .tuple #[.agg #[.int .i64 (x0 + y0), .int .i64 (x1 + y1)], .int .i64 0]) (by simp [results, Tryz.results81, go_sem, *]; done) rfl ⟨rfl, ?_⟩
  exact (B3.out.setCell (by simp only []; omega) _).setCell (by simp only []; omega) _
set_option maxHeartbeats 1000000 in
set_option maxRecDepth 100000 in
theorem keptA_any (g : Nat) (lo hi : Int) (w : World) (h : Blk w g 96 #[.int .i64 0]) :
    Calls Tryz.prog 90 #[.pointer (some ⟨g, 0, none⟩), .agg #[.int .i64 lo, .int .i64 hi], .int .i64 0] w fun e w' => e = .returned (.agg #[.int .i64 lo, .int .i64 hi]) ∧ Below w.heap.size w w' := by
  have hg := h.lt
  have h1 := (h.alloc (.cells #[.int .i64 lo, .int .i64 hi] 29)).alloc (.cells #[.int .i64 0, .int .i64 0] 29)
  have c0 : w.cell? ⟨g, 0, none⟩ = some (.int .i64 0) := by rw [h.cell 0]; rfl
  have f0 := h.frozen 0
  have H := Lib.hid h
  have HB := Lib.hid (bl_same (Below.refl w.heap.size w) h)
  clear h h1
  go_enter Tryz.func90, Tryz.ntmps90
  go_wp2
  refine bodyPost_ret (v := .agg #[.int .i64 lo, .int .i64 hi]) (by simp [results, Tryz.results90, go_sem, *]; done) rfl ⟨rfl, ?_⟩
  exact (HB.out.alloc HB.out.size _).alloc (by have := HB.out.size; first | (simp; done) | (simp; omega)) _
end Go.Proofs.YtifdgdgfmjfbdaaGreat
namespace Go.Proofs.YtifdgdgfmjfbdaaGreat
open Go.RowKit
/-- a valid circle -/
structure VC (a0 a1 o0 o1 r0 r1 : Int) : Prop where
  p : VP (a0, a1, o0, o1)
  h0 : 0 ≤ r0
  h1 : r0 ≤ r1
  h2 : r1 ≤ 10800000
set_option maxHeartbeats 2000000 in
set_option maxRecDepth 100000 in
theorem cirValid_yes (a0 a1 o0 o1 r0 r1 : Int) (w : World) (h : VC a0 a1 o0 o1 r0 r1) :
    Calls Tryz.prog 13 #[.agg #[.int .i64 a0, .int .i64 a1, .int .i64 o0, .int .i64 o1, .int .i64 r0, .int .i64 r1]] w fun e w' => e = .returned (.bool true) ∧ Below w.heap.size w w' := by
  obtain ⟨hp, h0, h1, h2⟩ := h
  have KV := Lib.hid (fun W => placeValid_vp a0 a1 o0 o1 W hp)
  have KA := fun W => aVal_any r0 r1 W
  rw [show avB r0 r1 = true from avB_true.2 (by omega)] at KA
  have KA := Lib.hid KA
  have C0 := Lib.hid (Blk.new w 39 #[.int .i64 a0, .int .i64 a1, .int .i64 o0, .int .i64 o1, .int .i64 r0, .int .i64 r1])
  have B0 := Lib.hid (bl_alloc w (.cells #[.int .i64 a0, .int .i64 a1, .int .i64 o0, .int .i64 o1, .int .i64 r0, .int .i64 r1] 39))
  have d0 : decide (0 ≤ r0) = true := decide_eq_true h0
  have d1 : decide (r1 ≤ 10800000) = true := decide_eq_true h2
  clear hp h0 h1 h2
  go_enter Tryz.func13, Tryz.ntmps13
  go_wp2_with fail
  (with_reducible refine (KV.out _).mono ?_)
  rintro e w1 ⟨rfl, hb1⟩
  have C1 := Lib.hid (C0.out.below hb1 C0.out.lt)
  have B1 := Lib.hid (B0.out.trans (hb1.mono B0.out.size))
  have k4 : w1.cell? ⟨w.heap.size, 4, none⟩ = some (.int .i64 r0) := C1.out.cell 4
  have k5 : w1.cell? ⟨w.heap.size, 5, none⟩ = some (.int .i64 r1) := C1.out.cell 5
  clear hb1 C0 B0
  go_wp2_with fail
  (with_reducible refine (KA.out _).mono ?_)
  rintro e w2 ⟨rfl, hb2⟩
  have C2 := Lib.hid (C1.out.below hb2 C1.out.lt)
  have B2 := Lib.hid (B1.out.trans (hb2.mono B1.out.size))
  clear k4 k5
  have k4 : w2.cell? ⟨w.heap.size, 4, none⟩ = some (.int .i64 r0) := C2.out.cell 4
  have k5 : w2.cell? ⟨w.heap.size, 5, none⟩ = some (.int .i64 r1) := C2.out.cell 5
  clear hb2 C1 B1
  go_wp2
  go_ret
  exact ⟨rfl, B2.out⟩
set_option maxHeartbeats 2000000 in
set_option maxRecDepth 100000 in
theorem ctri_any (a0 a1 o0 o1 r0 r1 q0 q1 q2 q3 : Int) (w : World) (h4 : -20000000 ≤ o0 ∧ o0 ≤ 20000000 ∧ -20000000 ≤ o1 ∧ o1 ≤ 40000000 ∧ -20000000 ≤ q2 ∧ q2 ≤ 20000000 ∧ -20000000 ≤ q3 ∧ q3 ≤ 40000000) :
    Calls Tryz.prog 44 #[.agg #[.int .i64 a0, .int .i64 a1, .int .i64 o0, .int .i64 o1, .int .i64 r0, .int .i64 r1], .agg #[.int .i64 q0, .int .i64 q1, .int .i64 q2, .int .i64 q3]] w fun e w' => e = .returned (.agg #[.int .i64 q0, .int .i64 q1, .int .i64 a0, .int .i64 a1, .int .i64 (q2 - o1), .int .i64 (q3 - o0)]) ∧ Below w.heap.size w w' := by
  have e0 : wrap64 (q2 - o1) = q2 - o1 := IntWalk.wrap64_in _ (by omega)
  have e1 : wrap64 (q3 - o0) = q3 - o0 := IntWalk.wrap64_in _ (by omega)
  clear h4
  go_enter Tryz.func44, Tryz.ntmps44
  go_wp2
  refine bodyPost_ret (v := .agg #[.int .i64 q0, .int .i64 q1, .int .i64 a0, .int .i64 a1, .int .i64 (q2 - o1), .int .i64 (q3 - o0)]) (by simp [results, Tryz.results44, go_sem, *]; done) rfl ⟨rfl, ?_⟩
  repeat (first | exact Below.refl _ _ | assumption | refine bl_drew ?_ | refine bl_drewN ?_ _ | refine Below.setCell ?_ (by first | assumption | omega | (simp; done) | (simp; omega)) _ | refine Below.alloc ?_ (by first | assumption | omega | (simp; done) | (simp; omega)) _)
theorem vp_bd {q0 q1 q2 q3 : Int} (h : VP (q0, q1, q2, q3)) : -5400000 ≤ q0 ∧ q0 ≤ q1 ∧ q1 ≤ 5400000 ∧ -10800000 ≤ q2 ∧ q2 ≤ q3 ∧ q2 < 10800000 ∧ q3 ≤ q2 + 21600000 := by
  obtain ⟨h1, h2, h3, h4⟩ := h
  unfold VL at h4
  simp only [] at h1 h2 h3 h4
  omega
end Go.Proofs.YtifdgdgfmjfbdaaGreat
namespace Go.Proofs.YtifdgdgfmjfbdaaGreat
open Go.RowKit
/-- a circle: its place, and its radius -/
abbrev Ci := Bx × Int × Int
structure VCi (k : Ci) : Prop where
  p : VP k.1
  h0 : 0 ≤ k.2.1
  h1 : k.2.1 ≤ k.2.2
  h2 : k.2.2 ≤ 10800000
def sinC (k : Ci) (q : Bx) : Int × Int := Trig.sinT (q.1, q.2.1) (k.1.1, k.1.2.1) (q.2.2.1 - k.1.2.2.2, q.2.2.2 - k.1.2.2.1)
end Go.Proofs.YtifdgdgfmjfbdaaGreat
namespace Go.Proofs.YtifdgdgfmjfbdaaGreat
open Canon
/-- the sine of the altitude at a point, seen from the centre of a circle -/
def sinPt (k : Ci) (a b : Int) : Int × Int := Trig.sinT (a, a) (k.1.1, k.1.2.1) (b - k.1.2.2.2, b - k.1.2.2.1)
theorem sin_pt {k : Ci} (hk : VCi k) {x : Cl} (hx : Vl x) {a b : Int} (hp : ptB x a b = true) : Trig.Wi (sinPt k a b) (sinC k (bxI x)) := by
  have hkb := vp_bd (q0 := k.1.1) (q1 := k.1.2.1) (q2 := k.1.2.2.1) (q3 := k.1.2.2.2) hk.p
  have hb := bx_facts hx
  have hp' : (decide ((bxI x).1 ≤ a ∧ a ≤ (bxI x).2.1) && (decide (a = 5400000) || decide (a = -5400000) || lonIn (bxI x).2.2.1 (bxI x).2.2.2 b)) = true := hp
  unfold sinPt sinC
  generalize bxI x = q at *
  rw [Bool.and_eq_true, decide_eq_true_eq, Bool.or_eq_true, Bool.or_eq_true, decide_eq_true_eq, decide_eq_true_eq] at hp'
  obtain ⟨h1, h2⟩ := hp'
  have hw : Trig.Wi (a, a) (q.1, q.2.1) := ⟨h1.1, h1.2⟩
  by_cases hpole : a = 5400000 ∨ a = -5400000
  · rw [Trig.sinT_pole hpole _ _ (q.2.2.1 - k.1.2.2.2, q.2.2.1 - k.1.2.2.1)]
    exact Trig.sinT_mono hw (Int.le_refl _) ⟨Int.le_refl _, by simp only []; omega⟩ (by simp only []; omega)
  · have hl : lonIn q.2.2.1 q.2.2.2 b = true := h2.resolve_left hpole
    unfold lonIn at hl
    rw [decide_eq_true_eq] at hl
    obtain ⟨j, hj⟩ : ∃ j, (b - q.2.2.1) / 21600000 = j := ⟨_, rfl⟩
    have e := Trig.sinT_turn (a, a) (k.1.1, k.1.2.1) (b - k.1.2.2.2, b - k.1.2.2.1) (-j)
    rw [← e]
    exact Trig.sinT_mono hw (Int.le_refl _) ⟨by simp only []; omega, by simp only []; omega⟩ (by simp only []; omega)
end Go.Proofs.YtifdgdgfmjfbdaaGreat
namespace Go.Proofs.YtifdgdgfmjfbdaaGreat.Trig
theorem ex_angle {a : Int} (h0 : -5400000 ≤ a) (h1 : a ≤ 5400000) (he : loB a = hiB a) : a = -5400000 ∨ a = -1800000 ∨ a = 0 ∨ a = 1800000 ∨ a = 5400000 := by
  have key : ∀ n : Int, sF n = upF n → exN n = true := by
    intro n h
    unfold upF at h
    cases e : exN n with
    | true => rfl
    | false => rw [e] at h; simp at h; omega
  have exq : ∀ n : Int, 0 ≤ n → n ≤ 5400000 → exN n = true → n = 0 ∨ n = 1800000 ∨ n = 5400000 := by
    intro n n0 n1 h
    unfold exN at h
    simp at h
    omega
  by_cases c : 0 ≤ a
  · have e : sth a = false := by unfold sth; rw [decide_eq_false_iff_not]; omega
    have q : qrt a = a := by unfold qrt; omega
    unfold loB hiB at he
    rw [e, q] at he
    have := exq a c h1 (key a (by simpa using he))
    omega
  · have e : sth a = true := by unfold sth; rw [decide_eq_true_eq]; omega
    have q : qrt a = -a := by unfold qrt; omega
    unfold loB hiB at he
    rw [e, q] at he
    have := exq (-a) (by omega) (by omega) (key (-a) (by simp at he; omega))
    omega
theorem lo_ex : loB (-5400000) = -1073741824 ∧ loB (-1800000) = -536870912 ∧ loB 0 = 0 ∧ loB 1800000 = 536870912 ∧ loB 5400000 = 1073741824 := by decide +kernel
theorem asn_order {v u : Int} (h : v ≤ u) (h0 : -1073741824 ≤ v) (h1 : u ≤ 1073741824) : asnV v ≤ -asnV (-u) := by
  have a := asnV_is (v := v) h0
  have b := asnV_is (v := -u) (by omega)
  generalize asnV v = r at *
  generalize asnV (-u) = t at *
  rcases Int.lt_or_le (-t) r with c | c
  · have a0 := a.lo
    have a1 := a.hi
    have b0 := b.lo
    have b1 := b.hi
    have e1 := hiB_neg (n := -t) (by omega) (by omega)
    rw [Int.neg_neg] at e1
    have e2 := loB_mono (a := -t) (b := r) (by omega) (by omega) (by omega)
    have e3 := hiB_mono (a := -t) (b := r) (by omega) (by omega) (by omega)
    have e4 := (hi_le r).2.2.2.2
    have e5 := (hi_le (-t)).2.2.2.2
    have a2 := a.le
    have b2 := b.le
    have x1 := ex_angle (a := r) (by omega) (by omega) (by omega)
    have x2 := ex_angle (a := -t) (by omega) (by omega) (by omega)
    have hv : loB r = loB (-t) := by omega
    obtain ⟨v1, v2, v3, v4, v5⟩ := lo_ex
    rcases x1 with g | g | g | g | g <;> rcases x2 with k | k | k | k | k
    all_goals (rw [g, k] at hv; omega)
  · exact c
/-- the ends of the altitude: an arc -/
theorem asn_arc {s : Int × Int} (hs : s.1 ≤ s.2) (h1 : s.1 ≤ 1073741824) (h2 : -1073741824 ≤ s.2) : asnV (max s.1 (-1073741824)) ≤ -asnV (-(min s.2 1073741824)) :=
  asn_order (by omega) (by omega) (by omega)
end Go.Proofs.YtifdgdgfmjfbdaaGreat.Trig
namespace Go.Proofs.YtifdgdgfmjfbdaaGreat
open Go.RowKit
/-- a world that left what was there alone -/
structure BW (w0 : World) where
  w : World
  hb : Below w0.heap.size w0 w
instance bwSome (w0 : World) : Nonempty (BW w0) := ⟨⟨w0, Below.refl _ _⟩⟩
end Go.Proofs.YtifdgdgfmjfbdaaGreat
namespace Go.Proofs.YtifdgdgfmjfbdaaGreat
open Go.RowKit
def t39 : List Cl := [(1, 0, 1), (1, 1, 1), (1, 0, 2), (1, 1, 2)]
end Go.Proofs.YtifdgdgfmjfbdaaGreat
namespace Go.Proofs.YtifdgdgfmjfbdaaGreat
open Go.RowKit
theorem vr_parts {L : List Cl} (h : vrB L = true) : L.length ≤ 4000 ∧ (∀ x ∈ L, vldB x.1 x.2.1 x.2.2 = true) ∧ AllV L := by
  obtain ⟨h1, h2, _⟩ := (vrB_iff L).1 h
  exact ⟨h1, fun x hx => (vl_iff x).2 (h2 x hx), h2⟩
theorem vr_yes (A : Option Addr) (n c : Nat) (L : List Cl) (b : Bool) (hb : vrB L = b) (w : World) (hr : Reads w w.heap.size 3 A n (cvs L)) (hn : n ≤ maxLen) :
    Calls Tryz.prog 55 #[.slice A n c] w fun e w' => e = .returned (.bool b) ∧ Below w.heap.size w w' := by
  rw [← hb]; exact ValidRegion_any A n c L w hr hn
section
variable (A B : Option Addr) (n m ca cb : Nat) (L M : List Cl) (w : World) (ha : Reads w w.heap.size 3 A n (cvs L)) (hb : Reads w w.heap.size 3 B m (cvs M)) (hn : n ≤ maxLen) (hm : m ≤ maxLen)
include ha hb hn hm
end
end Go.Proofs.YtifdgdgfmjfbdaaGreat
namespace Go.Proofs.YtifdgdgfmjfbdaaGreat
open Go.RowKit
theorem boxOk_of {x : Cl} (hx : Vl x) : BoxOk (edg x.2.1 x.1 - 5400000) (edg (x.2.1 + 1) x.1 - 5400000) (edg x.2.2 x.1 - 10800000) (edg (x.2.2 + 1) x.1 - 10800000) := by
  obtain ⟨h1, h2, h3, h4, h5, h6, h7, h8⟩ := box_nums hx
  constructor <;> omega
theorem cellContains (x : Cl) (a b : Int) (W : World) (hx : Vl x) (hp : vptB a b = true) :
    Calls Tryz.prog 31 #[boxV x.1 x.2.1 x.2.2, .agg #[.int .i64 a, .int .i64 b]] W fun e w' => e = .returned (.tuple #[.bool (ptB x a b), .int .i64 0]) ∧ Below W.heap.size W w' :=
  placeContains_any _ _ _ _ a b W (boxOk_of hx) hp
theorem con_take (L : List Cl) (a b : Int) (k : Nat) (hk : k < L.length) (h : ((L.take k).any fun x => ptB x a b) = false) : ((L.take (k + 1)).any fun x => ptB x a b) = ptB (gt L k) a b := by
  rw [List.take_succ_eq_append_getElem hk, List.any_append, h]
  simp [gt, hk]
theorem con_of (L : List Cl) (a b : Int) (k : Nat) (hk : k < L.length) (h : ptB (gt L k) a b = true) : conB L a b = true := by
  unfold conB
  rw [List.any_eq_true]
  simp [gt, hk] at h
  exact ⟨L[k], List.getElem_mem hk, h⟩
set_option maxHeartbeats 1000000 in
set_option maxRecDepth 100000 in
theorem Contains_any (A : Option Addr) (n c : Nat) (L : List Cl) (a b : Int) (w : World) (hr : Reads w w.heap.size 3 A n (cvs L)) (hn : n ≤ maxLen) (hv : vrB L = true) (hp : vptB a b = true) :
    Calls Tryz.prog 18 #[.slice A n c, .agg #[.int .i64 a, .int .i64 b]] w fun e w' => e = .returned (.tuple #[.bool (conB L a b), .int .i64 0]) ∧ Below w.heap.size w w' := by
  obtain ⟨R, hR⟩ : ∃ R, R = conB L a b := ⟨_, rfl⟩
  rw [← hR]
  have HR := Lib.hid hR
  have HL := Lib.hid hr.len
  have RD : Hid (∀ W, Below w.heap.size w W → Reads W W.heap.size 3 A n (cvs L)) := Lib.hid (fun W hW => (hr.below hW).more hW.size)
  have K1 := Lib.hid (fun W hW => vr_yes A n c L true hv W (RD.out W hW) hn)
  have K2 := Lib.hid (vpt_yes a b hp)
  have AV := Lib.hid (vr_parts hv).2.2
  have HP := Lib.hid hp
  have hlen := (vr_parts hv).1
  rw [hr.len] at hlen
  clear hR hr hv hp hn
  go_enter Tryz.func18, Tryz.ntmps18
  go_wp2_with fail
  have b0 := bl_alloc w (.cells #[.int .i64 a, .int .i64 b] 24)
  (with_reducible refine (K1.out _ b0).mono ?_)
  rintro e w1 ⟨rfl, hb1⟩
  have hb1' := b0.trans (hb1.mono (by simp))
  have hz1 := one_lt hb1
  have y0 := (hb1.cell (p := ⟨w.heap.size, 0, none⟩) (by simp)).trans (show _ = some (.int .i64 a) by simp)
  have y1 := (hb1.cell (p := ⟨w.heap.size, 1, none⟩) (by simp)).trans (show _ = some (.int .i64 b) by simp)
  clear hb1 b0
  go_wp2_with fail
  (with_reducible refine (K2.out _).mono ?_)
  rintro e w2 ⟨rfl, hb2⟩
  have hb2' := hb1'.trans (hb2.mono hb1'.size)
  have y0 := (hb2.cell (p := ⟨w.heap.size, 0, none⟩) hz1).trans y0
  have y1 := (hb2.cell (p := ⟨w.heap.size, 1, none⟩) hz1).trans y1
  have hz2 : w.heap.size < w2.heap.size := Nat.lt_of_lt_of_le hz1 hb2.size
  clear hb2 hb1' K1 K2 hz1
  go_wp2_with fail
  go_loopw [20] (fun i wr => ∃ k : Nat, k ≤ n ∧ i = .int .i64 k ∧ ((L.take k).any fun x => ptB x a b) = false ∧ Below w2.heap.size w2 wr) (fun i _ => n - (intOf i).toNat)
  case atStart => exact ⟨0, Nat.zero_le _, rfl, rfl, Below.refl _ _⟩
  case round =>
    obtain ⟨k, hk, rfl, hno, hbr⟩ := hrel
    have hzr := hbr.size
    by_cases hlt : k < n
    · have hbw := hb2'.trans (hbr.mono hb2'.size)
      obtain ⟨bk, off, rfl, hbk, x1, x2, x3⟩ := (RD.out wr hbw).elem hlt
      have hkl : k < L.length := by rw [HL.out]; exact hlt
      have hx := AV.out (gt L k) (by simp [gt, hkl])
      have KB := Lib.hid (fun W => box_any (gt L k).1 (gt L k).2.1 (gt L k).2.2 W ((vl_iff _).2 hx))
      have KC := Lib.hid (fun W => cellContains (gt L k) a b W hx HP.out)
      have h1 := Lib.hid (con_take L a b k hkl hno)
      have h2 := Lib.hid (con_of L a b k hkl)
      generalize gt L k = x at x1 x2 x3 KB KC h1 h2
      obtain ⟨xl, xr, xc⟩ := x
      simp only [] at x1 x2 x3 KB KC
      generalize ptB (xl, xr, xc) a b = z at KC h1 h2
      clear hx hno
      go_upto_region 6 with fail
      generalize hW5 : wr.alloc (.cells #[.int .i64 xl, .int .i64 xr, .int .i64 xc] 102) = w5
      have hz5 : wr.heap.size < w5.heap.size := by rw [← hW5]; simp
      have hb5 : Below w2.heap.size w2 w5 := by rw [← hW5]; exact hbr.alloc hzr _
      have c0 : ∀ s : BV w5, s.w.cell? ⟨wr.heap.size, 0, none⟩ = some (.int .i64 xl) := fun s => (s.hb.cell (p := ⟨wr.heap.size, 0, none⟩) hz5).trans (by rw [← hW5]; simp)
      have c1 : ∀ s : BV w5, s.w.cell? ⟨wr.heap.size, 1, none⟩ = some (.int .i64 xr) := fun s => (s.hb.cell (p := ⟨wr.heap.size, 1, none⟩) hz5).trans (by rw [← hW5]; simp)
      have c2 : ∀ s : BV w5, s.w.cell? ⟨wr.heap.size, 2, none⟩ = some (.int .i64 xc) := fun s => (s.hb.cell (p := ⟨wr.heap.size, 2, none⟩) hz5).trans (by rw [← hW5]; simp)
      have c3 : ∀ s : BV w5, s.w.cell? ⟨w.heap.size, 0, none⟩ = some (.int .i64 a) := fun s => (s.hb.cell (p := ⟨w.heap.size, 0, none⟩) (by simp only []; omega)).trans ((hb5.cell (p := ⟨w.heap.size, 0, none⟩) hz2).trans y0)
      have c4 : ∀ s : BV w5, s.w.cell? ⟨w.heap.size, 1, none⟩ = some (.int .i64 b) := fun s => (s.hb.cell (p := ⟨w.heap.size, 1, none⟩) (by simp only []; omega)).trans ((hb5.cell (p := ⟨w.heap.size, 1, none⟩) hz2).trans y1)
      clear hW5 x1 x2 x3
      refine wp_region_bv w5 (by kernel_rfl) (by kernel_rfl) (Below.refl _ _) ?_
      (repeat (go_big_quiet_step (first | (go_at_call 56; with_reducible exact quiet_bv (KB.out _)) | (go_at_call 31; with_reducible exact quiet_bv (KC.out _)) | fail)))
      refine wpQuiet_nil ?_
      intro w9 hb9
      have hb9' : Below w2.heap.size w2 w9 := hb5.trans (hb9.mono hb5.size)
      clear c0 c1 c2 c3 c4 KB KC
      cases z with
      | true =>
        have hE : Hid (R = true) := Lib.hid (by rw [HR.out]; exact h2.out rfl)
        go_wp2
        go_ret2
        exact ⟨by rw [hE.out]; rfl, hb2'.trans (hb9'.mono hb2'.size)⟩
      | false =>
        go_wp2
        go_roundw
        case rel => exact ⟨k + 1, by omega, by go_num, h1.out, hb9'⟩
        case measure => simp [intOf]; omega
    · have hkn : k = n := by omega
      have hE : Hid (R = false) := Lib.hid (by rw [HR.out]; unfold conB; rw [List.take_of_length_le (by rw [HL.out]; omega)] at hno; exact hno)
      clear hno
      go_wp2
      go_ret2
      exact ⟨by rw [hE.out]; rfl, hb2'.trans (hbr.mono hb2'.size)⟩
end Go.Proofs.YtifdgdgfmjfbdaaGreat
namespace Go.Proofs.YtifdgdgfmjfbdaaGreat
open Go.RowKit
set_option maxHeartbeats 1000000 in
set_option maxRecDepth 100000 in
theorem has_vp (x y n : Int) (w : World) (h : VL (x, y)) (h0 : -100000000 ≤ n) (h1 : n ≤ 100000000) : Calls Tryz.prog 70 #[.agg #[.int .i64 x, .int .i64 y], .int .i64 n] w fun e w' => e = .returned (.bool (lonIn x y n)) ∧ Below w.heap.size w w' := by
  have h' : (x = -10800000 ∧ y = 10800000) ∨ (-10800000 ≤ x ∧ x < 10800000 ∧ x ≤ y ∧ y - x < 21600000) := h
  rcases h' with ⟨rfl, rfl⟩ | ⟨q1, q2, q3, q4⟩
  · have K := fun W => all_any (-10800000) 10800000 W
    rw [show aeq (-10800000) 10800000 (-10800000) 10800000 = true by decide] at K
    have K := Lib.hid K
    have hl : lonIn (-10800000) 10800000 n = true := by unfold lonIn; rw [decide_eq_true_eq]; omega
    rw [hl]
    have b0 := bl_alloc w (.cells #[.int .i64 (-10800000), .int .i64 10800000] 29)
    have D0 := Lib.hid (D2.new w (-10800000) 10800000 29)
    have B0 := Lib.hid b0
    clear b0 h hl
    go_enter Tryz.func70, Tryz.ntmps70
    go_upto_region 1 with (fail)
    generalize w.alloc (.cells #[.int .i64 (-10800000), .int .i64 10800000] 29) = w1 at B0 D0 ⊢
    have c0 : ∀ s : BV w1, s.w.cell? ⟨w.heap.size, 0, none⟩ = some (.int .i64 (-10800000)) := fun s => (s.hb.cell (p := ⟨w.heap.size, 0, none⟩) D0.out.lt).trans D0.out.c0
    have c1 : ∀ s : BV w1, s.w.cell? ⟨w.heap.size, 1, none⟩ = some (.int .i64 10800000) := fun s => (s.hb.cell (p := ⟨w.heap.size, 1, none⟩) D0.out.lt).trans D0.out.c1
    refine wp_region_bv w1 (by kernel_rfl) (by kernel_rfl) (Below.refl _ _) ?_
    (repeat (go_big_quiet_step (first | (go_at_call 134; with_reducible exact quiet_bv (K.out _)) | fail)))
    refine wpQuiet_nil ?_
    intro w9 hb9
    clear c0 c1
    go_wp2
    go_ret
    exact ⟨ret_bool (by simp), B0.out.trans (hb9.mono B0.out.size)⟩
  · exact has_place x y n w h0 h1 (by omega) (by omega) q3 q4
set_option maxHeartbeats 1000000 in
theorem placeContains_vp (b0 b1 b2 b3 a b : Int) (w : World) (hb : VP (b0, b1, b2, b3)) (hp : vptB a b = true) :
    Calls Tryz.prog 31 #[.agg #[.int .i64 b0, .int .i64 b1, .int .i64 b2, .int .i64 b3], .agg #[.int .i64 a, .int .i64 b]] w fun e w' => e = .returned (.tuple #[.bool (inBox b0 b1 b2 b3 a b), .int .i64 0]) ∧ Below w.heap.size w w' := by
  have K1 := Lib.hid (fun W => placeValid_vp b0 b1 b2 b3 W hb)
  have K2 := Lib.hid (vpt_yes a b hp)
  obtain ⟨p1, p2, p3, p4⟩ := vptB_true.1 hp
  have K3 := Lib.hid (fun W => has_vp b2 b3 b W hb.o (by omega) (by omega))
  clear hb hp
  obtain ⟨R, hR⟩ : ∃ R, R = inBox b0 b1 b2 b3 a b := ⟨_, rfl⟩
  rw [← hR]
  have HR := Lib.hid hR
  clear hR
  go_enter Tryz.func31, Tryz.ntmps31
  go_wp2_with fail
  (with_reducible refine (K1.out _).mono ?_)
  rintro e w1 ⟨rfl, hb1⟩
  have hb1' := two_bl hb1
  have hz1 := two_lt hb1
  have x0 := (hb1.cell (p := ⟨w.heap.size, 0, none⟩) (by simp; omega)).trans (show _ = some (.int .i64 b0) by simp)
  have x1 := (hb1.cell (p := ⟨w.heap.size, 1, none⟩) (by simp; omega)).trans (show _ = some (.int .i64 b1) by simp)
  have x2 := (hb1.cell (p := ⟨w.heap.size, 2, none⟩) (by simp; omega)).trans (show _ = some (.int .i64 b2) by simp)
  have x3 := (hb1.cell (p := ⟨w.heap.size, 3, none⟩) (by simp; omega)).trans (show _ = some (.int .i64 b3) by simp)
  have y0 := (hb1.cell (p := ⟨w.heap.size + 1, 0, none⟩) (by simp)).trans (show _ = some (.int .i64 a) by simp)
  have y1 := (hb1.cell (p := ⟨w.heap.size + 1, 1, none⟩) (by simp)).trans (show _ = some (.int .i64 b) by simp)
  clear hb1
  go_wp2_with fail
  (with_reducible refine (K2.out _).mono ?_)
  rintro e w2 ⟨rfl, hb2⟩
  have hb2' := hb1'.trans (hb2.mono hb1'.size)
  have x0 := (hb2.cell (p := ⟨w.heap.size, 0, none⟩) hz1.1).trans x0
  have x1 := (hb2.cell (p := ⟨w.heap.size, 1, none⟩) hz1.1).trans x1
  have x2 := (hb2.cell (p := ⟨w.heap.size, 2, none⟩) hz1.1).trans x2
  have x3 := (hb2.cell (p := ⟨w.heap.size, 3, none⟩) hz1.1).trans x3
  have y0 := (hb2.cell (p := ⟨w.heap.size + 1, 0, none⟩) hz1.2).trans y0
  have y1 := (hb2.cell (p := ⟨w.heap.size + 1, 1, none⟩) hz1.2).trans y1
  clear hb2 hb1' K1 K2
  by_cases h0 : a < b0
  · have hE : Hid (R = false) := Lib.hid (by rw [HR.out]; simp [inBox]; omega)
    go_wp2
    go_ret2
    exact ⟨by rw [hE.out]; rfl, hb2'⟩
  · have d0 : decide (a < b0) = false := decide_eq_false h0
    by_cases h1 : b1 < a
    · have hE : Hid (R = false) := Lib.hid (by rw [HR.out]; simp [inBox]; omega)
      go_wp2
      go_ret2
      exact ⟨by rw [hE.out]; rfl, hb2'⟩
    · have d1 : decide (b1 < a) = false := decide_eq_false h1
      have hin : decide (b0 ≤ a ∧ a ≤ b1) = true := decide_eq_true (by omega)
      by_cases h2 : a = 5400000
      · have hE : Hid (R = true) := Lib.hid (by rw [HR.out, inBox, hin]; simp [h2])
        subst h2
        clear hin
        go_wp2
        go_ret2
        exact ⟨by rw [hE.out]; rfl, hb2'⟩
      · have e2 : (a == 5400000) = false := by simp [h2]
        by_cases h3 : a = -5400000
        · have hE : Hid (R = true) := Lib.hid (by rw [HR.out, inBox, hin]; simp [h3])
          subst h3
          clear hin
          go_wp2
          go_ret2
          exact ⟨by rw [hE.out]; rfl, hb2'⟩
        · have e3 : (a == -5400000) = false := by simp [h3]
          have hE : Hid (R = lonIn b2 b3 b) := Lib.hid (by rw [HR.out, inBox, hin]; simp [h2, h3])
          generalize lonIn b2 b3 b = z at K3 hE
          clear hin
          go_wp2_with (go_at_call 70; (with_reducible refine (K3.out _).mono ?_); rintro e w3 ⟨rfl, hb3⟩)
          go_ret2
          exact ⟨by rw [hE.out]; rfl, hb2'.trans (hb3.mono hb2'.size)⟩
end Go.Proofs.YtifdgdgfmjfbdaaGreat
