/- The walk of fixed.Quotient where the dividend is the unit. -/
import Derived.Deep.RegionHeld3
import Derived.Laws.StructEq
import Derived.Test.YtifdgdgfmjfbdaaGreatHTf
import Derived.Test.YtifdgdgfmjfbdaaGreatHUo
import Derived.Test.YtifdgdgfmjfbdaaGreatHVj
import Derived.Test.YtifdgdgfmjfbdaaGreatHUk
import Derived.Test.YtifdgdgfmjfbdaaGreatHWb
set_option linter.unusedVariables false
set_option linter.unusedSimpArgs false
namespace Go.Proofs.YtifdgdgfmjfbdaaGreat
open Go.RowKit
/-- six cells that are known -/
structure C6 (W : World) (g : Nat) (a0 a1 b0 b1 c0 c1 : Int) : Prop where
  lt : g < W.heap.size
  x0 : W.cell? ⟨g, 0, none⟩ = some (.int .i64 a0)
  x1 : W.cell? ⟨g, 1, none⟩ = some (.int .i64 a1)
  x2 : W.cell? ⟨g, 2, none⟩ = some (.int .i64 b0)
  x3 : W.cell? ⟨g, 3, none⟩ = some (.int .i64 b1)
  x4 : W.cell? ⟨g, 4, none⟩ = some (.int .i64 c0)
  x5 : W.cell? ⟨g, 5, none⟩ = some (.int .i64 c1)
theorem C6.below {W W' : World} {g B : Nat} {a0 a1 b0 b1 c0 c1 : Int} (h : C6 W g a0 a1 b0 b1 c0 c1) (hb : Below B W W') (hB : g < B) : C6 W' g a0 a1 b0 b1 c0 c1 :=
  ⟨Nat.lt_of_lt_of_le h.lt hb.size, (hb.cell (p := ⟨g, 0, none⟩) hB).trans h.x0, (hb.cell (p := ⟨g, 1, none⟩) hB).trans h.x1, (hb.cell (p := ⟨g, 2, none⟩) hB).trans h.x2, (hb.cell (p := ⟨g, 3, none⟩) hB).trans h.x3, (hb.cell (p := ⟨g, 4, none⟩) hB).trans h.x4, (hb.cell (p := ⟨g, 5, none⟩) hB).trans h.x5⟩
theorem C6.new (w : World) (a0 a1 b0 b1 c0 c1 : Int) (t : TypeId) : C6 (w.alloc (.cells #[.int .i64 a0, .int .i64 a1, .int .i64 b0, .int .i64 b1, .int .i64 c0, .int .i64 c1] t)) w.heap.size a0 a1 b0 b1 c0 c1 := ⟨by simp, by simp, by simp, by simp, by simp, by simp, by simp⟩
theorem small_fv {x : Int × Int} (h : Trig.Small x) : fvB x.1 x.2 = true := by
  rw [fv_iff]; have := h.lo; have := h.le; have := h.hi; omega
theorem fit_small {x : Int × Int} (h : Trig.Small x) : fitV x.1 x.2 = .tuple #[.agg #[.int .i64 x.1, .int .i64 x.2], .int .i64 0] := by
  unfold fitV; rw [if_pos (small_fv h)]
set_option maxHeartbeats 1000000 in
set_option maxRecDepth 100000 in
theorem times25_any (x y : Int × Int) (hx : Trig.Small x) (hy : Trig.Small y) (w : World) : Calls Tryz.prog 123 #[.agg #[.int .i64 x.1, .int .i64 x.2], .agg #[.int .i64 y.1, .int .i64 y.2]] w fun e w' => e = .returned (.agg #[.int .i64 (Trig.mulP x y).1, .int .i64 (Trig.mulP x y).2]) ∧ Below w.heap.size w w' := by
  have km := fun W => rMul_any x.1 x.2 y.1 y.2 W (small_fv hx) (small_fv hy)
  have hm := fit_small (Trig.mulP_small hx hy)
  have km : ∀ W, Calls Tryz.prog 184 #[.agg #[.int .i64 x.1, .int .i64 x.2], .agg #[.int .i64 y.1, .int .i64 y.2]] W fun e w' => e = .returned (.tuple #[.agg #[.int .i64 (Trig.mulP x y).1, .int .i64 (Trig.mulP x y).2], .int .i64 0]) ∧ Below W.heap.size W w' := fun W => by rw [← hm]; exact km W
  have KM := Lib.hid km
  clear hm hx hy
  obtain ⟨x0, x1⟩ := x
  obtain ⟨y0, y1⟩ := y
  obtain ⟨⟨r0, r1⟩, hr⟩ : ∃ r, Trig.mulP (x0, x1) (y0, y1) = r := ⟨_, rfl⟩
  rw [hr] at KM ⊢
  simp only [] at KM ⊢
  clear hr km
  have T2 : Hid (D2 (((w.alloc (.cells #[.int .i64 x0, .int .i64 x1] 97)).alloc (.cells #[.int .i64 y0, .int .i64 y1] 97)).alloc (.cells #[.int .i64 0, .int .i64 0] 97)) (w.heap.size + 1 + 1) 0 0) := Lib.hid (by
    have := D2.new ((w.alloc (.cells #[.int .i64 x0, .int .i64 x1] 97)).alloc (.cells #[.int .i64 y0, .int .i64 y1] 97)) 0 0 97
    rwa [World.size_alloc, World.size_alloc] at this)
  have B0 := Lib.hid (((bl_alloc w (.cells #[.int .i64 x0, .int .i64 x1] 97)).alloc (by simp) (.cells #[.int .i64 y0, .int .i64 y1] 97)).alloc (by simp; omega) (.cells #[.int .i64 0, .int .i64 0] 97))
  go_enter Tryz.func123, Tryz.ntmps123
  go_wp2_with fail
  (with_reducible refine (KM.out _).mono ?_)
  rintro e w1 ⟨rfl, hb1⟩
  have T2 := Lib.hid ((T2.out.below hb1 T2.out.lt).alloc (.cells #[.int .i64 r0, .int .i64 r1] 97))
  have B0 := Lib.hid ((B0.out.trans (hb1.mono B0.out.size)).alloc (by have := B0.out.size; have := hb1.size; omega) (.cells #[.int .i64 r0, .int .i64 r1] 97))
  obtain ⟨zt, z0, z1, zf0, zf1⟩ := T2.out
  go_wp2
  refine bodyPost_ret (v := .agg #[.int .i64 r0, .int .i64 r1]) (by simp [results, Tryz.results123, go_sem, *]; done) rfl ⟨rfl, ?_⟩
  exact (B0.out.setCell (by simp only []; omega) _).setCell (by simp only []; omega) _
theorem fit_add {x y : Int × Int} (hx : Trig.Small x) (hy : Trig.Small y) : fitV (Trig.addP x y).1 (Trig.addP x y).2 = .tuple #[.agg #[.int .i64 (Trig.addP x y).1, .int .i64 (Trig.addP x y).2], .int .i64 0] := by
  have h : fvB (Trig.addP x y).1 (Trig.addP x y).2 = true := by
    rw [fv_iff]
    have := hx.lo; have := hx.le; have := hx.hi; have := hy.lo; have := hy.le; have := hy.hi
    unfold Trig.addP
    simp only []
    omega
  unfold fitV; rw [if_pos h]
set_option maxHeartbeats 1000000 in
set_option maxRecDepth 100000 in
theorem plus25_any (x y : Int × Int) (hx : Trig.Small x) (hy : Trig.Small y) (w : World) : Calls Tryz.prog 122 #[.agg #[.int .i64 x.1, .int .i64 x.2], .agg #[.int .i64 y.1, .int .i64 y.2]] w fun e w' => e = .returned (.agg #[.int .i64 (Trig.addP x y).1, .int .i64 (Trig.addP x y).2]) ∧ Below w.heap.size w w' := by
  have km := fun W => rAdd_any x.1 x.2 y.1 y.2 W (small_fv hx) (small_fv hy)
  have hm := fit_add hx hy
  have km : ∀ W, Calls Tryz.prog 183 #[.agg #[.int .i64 x.1, .int .i64 x.2], .agg #[.int .i64 y.1, .int .i64 y.2]] W fun e w' => e = .returned (.tuple #[.agg #[.int .i64 (Trig.addP x y).1, .int .i64 (Trig.addP x y).2], .int .i64 0]) ∧ Below W.heap.size W w' := fun W => by rw [← hm]; exact km W
  have KM := Lib.hid km
  clear hm hx hy
  obtain ⟨x0, x1⟩ := x
  obtain ⟨y0, y1⟩ := y
  obtain ⟨⟨r0, r1⟩, hr⟩ : ∃ r, Trig.addP (x0, x1) (y0, y1) = r := ⟨_, rfl⟩
  rw [hr] at KM ⊢
  simp only [] at KM ⊢
  clear hr km
  have T2 : Hid (D2 (((w.alloc (.cells #[.int .i64 x0, .int .i64 x1] 97)).alloc (.cells #[.int .i64 y0, .int .i64 y1] 97)).alloc (.cells #[.int .i64 0, .int .i64 0] 97)) (w.heap.size + 1 + 1) 0 0) := Lib.hid (by
    have := D2.new ((w.alloc (.cells #[.int .i64 x0, .int .i64 x1] 97)).alloc (.cells #[.int .i64 y0, .int .i64 y1] 97)) 0 0 97
    rwa [World.size_alloc, World.size_alloc] at this)
  have B0 := Lib.hid (((bl_alloc w (.cells #[.int .i64 x0, .int .i64 x1] 97)).alloc (by simp) (.cells #[.int .i64 y0, .int .i64 y1] 97)).alloc (by simp; omega) (.cells #[.int .i64 0, .int .i64 0] 97))
  go_enter Tryz.func122, Tryz.ntmps122
  go_wp2_with fail
  (with_reducible refine (KM.out _).mono ?_)
  rintro e w1 ⟨rfl, hb1⟩
  have T2 := Lib.hid ((T2.out.below hb1 T2.out.lt).alloc (.cells #[.int .i64 r0, .int .i64 r1] 97))
  have B0 := Lib.hid ((B0.out.trans (hb1.mono B0.out.size)).alloc (by have := B0.out.size; have := hb1.size; omega) (.cells #[.int .i64 r0, .int .i64 r1] 97))
  obtain ⟨zt, z0, z1, zf0, zf1⟩ := T2.out
  go_wp2
  refine bodyPost_ret (v := .agg #[.int .i64 r0, .int .i64 r1]) (by simp [results, Tryz.results122, go_sem, *]; done) rfl ⟨rfl, ?_⟩
  exact (B0.out.setCell (by simp only []; omega) _).setCell (by simp only []; omega) _
set_option maxHeartbeats 4000000 in
set_option maxRecDepth 100000 in
/-- the reference's sine of an altitude -/
theorem Sine25_any (a b c : Int × Int) (w : World) (ha : -10800000 ≤ a.1 ∧ a.1 ≤ 10800000 ∧ -10800000 ≤ a.2 ∧ a.2 ≤ 10800000) (hb : -10800000 ≤ b.1 ∧ b.1 ≤ 10800000 ∧ -10800000 ≤ b.2 ∧ b.2 ≤ 10800000) (hc : -1000000000000 ≤ c.1 ∧ c.1 ≤ 1000000000000 ∧ -1000000000000 ≤ c.2 ∧ c.2 ≤ 1000000000000) :
    Calls Tryz.prog 246 #[.agg #[.int .i64 a.1, .int .i64 a.2, .int .i64 b.1, .int .i64 b.2, .int .i64 c.1, .int .i64 c.2]] w fun e w' => e = .returned (.agg #[.int .i64 (Trig.sinT a b c).1, .int .i64 (Trig.sinT a b c).2]) ∧ Below w.heap.size w w' := by
  have K1 := fun W => SinR_any a.1 a.2 W (by omega) (by omega)
  have K2 := fun W => SinR_any b.1 b.2 W (by omega) (by omega)
  have K3 := fun W => CosR_any a.1 a.2 W (by omega) (by omega) (by omega) (by omega)
  have K4' := fun W => CosR_any b.1 b.2 W (by omega) (by omega) (by omega) (by omega)
  have K5 := fun W => CosR_any c.1 c.2 W (by omega) (by omega) (by omega) (by omega)
  have M1 := fun W => times25_any (Trig.snP a) (Trig.snP b) (Trig.snP_small a) (Trig.snP_small b) W
  have M2 := fun W => times25_any (Trig.csP a) (Trig.csP b) (Trig.csP_small a) (Trig.csP_small b) W
  have M3 := fun W => times25_any (Trig.mulP (Trig.csP a) (Trig.csP b)) (Trig.csP c) (Trig.mulP_small (Trig.csP_small a) (Trig.csP_small b)) (Trig.csP_small c) W
  have M4 := fun W => plus25_any (Trig.mulP (Trig.snP a) (Trig.snP b)) (Trig.mulP (Trig.mulP (Trig.csP a) (Trig.csP b)) (Trig.csP c)) (Trig.mulP_small (Trig.snP_small a) (Trig.snP_small b)) (Trig.mulP_small (Trig.mulP_small (Trig.csP_small a) (Trig.csP_small b)) (Trig.csP_small c)) W
  have e0 : Trig.sinT a b c = Trig.addP (Trig.mulP (Trig.snP a) (Trig.snP b)) (Trig.mulP (Trig.mulP (Trig.csP a) (Trig.csP b)) (Trig.csP c)) := rfl
  rw [e0]
  have e1 : ∀ x : Int × Int, Trig.snP x = (Trig.enLo x.1 x.2, Trig.enHi x.1 x.2) := fun _ => rfl
  have e2 : ∀ x : Int × Int, Trig.csP x = (Trig.enLo (x.1 + 5400000) (x.2 + 5400000), Trig.enHi (x.1 + 5400000) (x.2 + 5400000)) := fun _ => rfl
  obtain ⟨⟨s0, s1⟩, hs⟩ : ∃ x, Trig.addP (Trig.mulP (Trig.snP a) (Trig.snP b)) (Trig.mulP (Trig.mulP (Trig.csP a) (Trig.csP b)) (Trig.csP c)) = x := ⟨_, rfl⟩
  rw [hs] at M4 ⊢
  obtain ⟨⟨u0, u1⟩, hu⟩ : ∃ x, Trig.mulP (Trig.mulP (Trig.csP a) (Trig.csP b)) (Trig.csP c) = x := ⟨_, rfl⟩
  rw [hu] at M3 M4
  obtain ⟨⟨v0, v1⟩, hv⟩ : ∃ x, Trig.mulP (Trig.csP a) (Trig.csP b) = x := ⟨_, rfl⟩
  rw [hv] at M2 M3
  obtain ⟨⟨t0, t1⟩, ht⟩ : ∃ x, Trig.mulP (Trig.snP a) (Trig.snP b) = x := ⟨_, rfl⟩
  rw [ht] at M1 M4
  rw [e1, e1] at M1
  rw [e2, e2] at M2
  rw [e2] at M3
  clear e0 e1 e2 hs hu hv ht
  simp only [] at M1 M2 M3 M4 ⊢
  generalize Trig.enLo a.1 a.2 = n0 at *
  generalize Trig.enHi a.1 a.2 = n1 at *
  generalize Trig.enLo b.1 b.2 = n2 at *
  generalize Trig.enHi b.1 b.2 = n3 at *
  generalize Trig.enLo (a.1 + 5400000) (a.2 + 5400000) = p0 at *
  generalize Trig.enHi (a.1 + 5400000) (a.2 + 5400000) = p1 at *
  generalize Trig.enLo (b.1 + 5400000) (b.2 + 5400000) = p2 at *
  generalize Trig.enHi (b.1 + 5400000) (b.2 + 5400000) = p3 at *
  generalize Trig.enLo (c.1 + 5400000) (c.2 + 5400000) = p4 at *
  generalize Trig.enHi (c.1 + 5400000) (c.2 + 5400000) = p5 at *
  have K1 := Lib.hid K1
  have K2 := Lib.hid K2
  have K3 := Lib.hid K3
  have K4' := Lib.hid K4'
  have K5 := Lib.hid K5
  have M1 := Lib.hid M1
  have M2 := Lib.hid M2
  have M3 := Lib.hid M3
  have M4 := Lib.hid M4
  obtain ⟨a0, a1⟩ := a
  obtain ⟨b0, b1⟩ := b
  obtain ⟨c0, c1⟩ := c
  simp only [] at K1 K2 K3 K4' K5 ⊢
  clear ha hb hc
  go_enter Tryz.func246, Tryz.ntmps246
  go_upto_region 1 with (fail)
  have T1 := Lib.hid ((C6.new w a0 a1 b0 b1 c0 c1 92).below (bl_alloc _ (.cells #[.int .i64 0, .int .i64 0] 97)) (by simp))
  have T2 : Hid (D2 ((w.alloc (.cells #[.int .i64 a0, .int .i64 a1, .int .i64 b0, .int .i64 b1, .int .i64 c0, .int .i64 c1] 92)).alloc (.cells #[.int .i64 0, .int .i64 0] 97)) (w.heap.size + 1) 0 0) := Lib.hid (by
    have := D2.new (w.alloc (.cells #[.int .i64 a0, .int .i64 a1, .int .i64 b0, .int .i64 b1, .int .i64 c0, .int .i64 c1] 92)) 0 0 97
    rwa [World.size_alloc] at this)
  have B0 := Lib.hid ((bl_alloc w (.cells #[.int .i64 a0, .int .i64 a1, .int .i64 b0, .int .i64 b1, .int .i64 c0, .int .i64 c1] 92)).alloc (by simp) (.cells #[.int .i64 0, .int .i64 0] 97))
  generalize (w.alloc (.cells #[.int .i64 a0, .int .i64 a1, .int .i64 b0, .int .i64 b1, .int .i64 c0, .int .i64 c1] 92)).alloc (.cells #[.int .i64 0, .int .i64 0] 97) = W0 at *
  have hn1 : ¬ w.heap.size + 1 = w.heap.size := by omega
  obtain ⟨tl, x0, x1, x2, x3, x4, x5⟩ := T1.out
  go_region_held3 (fun w' => w'.cell? ⟨w.heap.size, 0, none⟩ = some (.int .i64 a0) ∧ w'.cell? ⟨w.heap.size, 1, none⟩ = some (.int .i64 a1) ∧ w'.cell? ⟨w.heap.size, 2, none⟩ = some (.int .i64 b0) ∧ w'.cell? ⟨w.heap.size, 3, none⟩ = some (.int .i64 b1) ∧ w'.cell? ⟨w.heap.size, 4, none⟩ = some (.int .i64 c0) ∧ w'.cell? ⟨w.heap.size, 5, none⟩ = some (.int .i64 c1)) (simp [*]) (first
    | ((first | go_at_call 120 | go_at_call 121 | go_at_call 123 | go_at_call 122); (first | (with_reducible refine (K1.out _).mono ?_) | (with_reducible refine (K2.out _).mono ?_) | (with_reducible refine (K3.out _).mono ?_) | (with_reducible refine (K4'.out _).mono ?_) | (with_reducible refine (K5.out _).mono ?_) | (with_reducible refine (M1.out _).mono ?_) | (with_reducible refine (M2.out _).mono ?_) | (with_reducible refine (M3.out _).mono ?_) | (with_reducible refine (M4.out _).mono ?_)); rintro e w9 ⟨rfl, hb9⟩; (first | (replace hb9 := first_b hb9) | skip); have B0 := Lib.hid (B0.out.trans (hb9.mono B0.out.size)); have T1 := Lib.hid (T1.out.below hb9 T1.out.lt); have T2 := Lib.hid (T2.out.below hb9 T2.out.lt); clear hb9; clear x0 x1 x2 x3 x4 x5 tl; obtain ⟨tl, x0, x1, x2, x3, x4, x5⟩ := T1.out; obtain ⟨bt9, b09, b19, bf09, bf19⟩ := T2.out; have e9 := fun (i : Nat) (u v : Value) => (World.cell?_setCell_other (w9.setCell ⟨w.heap.size + 1, 0, none⟩ u) ⟨w.heap.size + 1, 1, none⟩ ⟨w.heap.size, i, none⟩ v (fun e => hn1 (by injection e))).trans (World.cell?_setCell_other w9 ⟨w.heap.size + 1, 0, none⟩ ⟨w.heap.size, i, none⟩ u (fun e => hn1 (by injection e))))
    | fail)
  all_goals
    go_wp2
    refine bodyPost_ret (v := .agg #[.int .i64 s0, .int .i64 s1]) (by simp [results, Tryz.results246, go_sem, *]; done) rfl ⟨rfl, ?_⟩
    exact (B0.out.setCell (by simp only []; omega) _).setCell (by simp only []; omega) _
end Go.Proofs.YtifdgdgfmjfbdaaGreat
namespace Go.Proofs.YtifdgdgfmjfbdaaGreat
open Go.RowKit
/-- what stands in a block of one cell may be written again -/
theorem bl_same {B : Nat} {a w : World} {g : Nat} {t : TypeId} {u : Value} (hb : Below B a w) (h : Blk w g t #[u]) : Below B a (w.setCell ⟨g, 0, none⟩ u) := by
  have e : (w.setCell ⟨g, 0, none⟩ u).heap = w.heap := by
    unfold Blk at h
    have hlt : g < w.heap.size := by
      rcases Nat.lt_or_ge g w.heap.size with q | q
      · exact q
      · rw [Array.getElem?_eq_none q] at h; cases h
    apply Array.ext_getElem?
    intro i
    show (w.heap.modify g _)[i]? = w.heap[i]?
    by_cases hi : i = g
    · subst hi
      simp [Array.getElem?_modify, h]
    · simp [Array.getElem?_modify, show ¬ g = i from fun e => hi e.symm]
  exact ⟨hb.os, hb.tape, hb.output, by rw [e]; exact hb.size, fun k hk => by rw [e]; exact hb.block k hk⟩
set_option maxHeartbeats 1000000 in
set_option maxRecDepth 100000 in
theorem keep_any (g : Nat) (lo hi : Int) (w : World) (h : Blk w g 214 #[.int .i64 0]) :
    Calls Tryz.prog 242 #[.pointer (some ⟨g, 0, none⟩), .agg #[.int .i64 lo, .int .i64 hi], .int .i64 0] w fun e w' => e = .returned (.agg #[.int .i64 lo, .int .i64 hi]) ∧ Below w.heap.size w w' := by
  have hg := h.lt
  have h1 := (h.alloc (.cells #[.int .i64 lo, .int .i64 hi] 97)).alloc (.cells #[.int .i64 0, .int .i64 0] 97)
  have c0 : w.cell? ⟨g, 0, none⟩ = some (.int .i64 0) := by rw [h.cell 0]; rfl
  have f0 := h.frozen 0
  have H := Lib.hid h
  have HB := Lib.hid (bl_same (Below.refl w.heap.size w) h)
  clear h h1
  go_enter Tryz.func242, Tryz.ntmps242
  go_wp2
  refine bodyPost_ret (v := .agg #[.int .i64 lo, .int .i64 hi]) (by simp [results, Tryz.results242, go_sem, *]; done) rfl ⟨rfl, ?_⟩
  exact (HB.out.alloc HB.out.size _).alloc (by have := HB.out.size; first | (simp; done) | (simp; omega)) _
theorem mul_yes (x y : Int × Int) (hx : Trig.Small x) (hy : Trig.Small y) (W : World) : Calls Tryz.prog 99 #[.agg #[.int .i64 x.1, .int .i64 x.2], .agg #[.int .i64 y.1, .int .i64 y.2]] W fun e w' => e = .returned (.tuple #[.agg #[.int .i64 (Trig.mulP x y).1, .int .i64 (Trig.mulP x y).2], .int .i64 0]) ∧ Below W.heap.size W w' := by
  rw [← fit_small (Trig.mulP_small hx hy)]; exact fMul_any x.1 x.2 y.1 y.2 W (small_fv hx) (small_fv hy)
theorem add_yes (x y : Int × Int) (hx : Trig.Small x) (hy : Trig.Small y) (W : World) : Calls Tryz.prog 97 #[.agg #[.int .i64 x.1, .int .i64 x.2], .agg #[.int .i64 y.1, .int .i64 y.2]] W fun e w' => e = .returned (.tuple #[.agg #[.int .i64 (Trig.addP x y).1, .int .i64 (Trig.addP x y).2], .int .i64 0]) ∧ Below W.heap.size W w' := by
  rw [← fit_add hx hy]; exact fAdd_any x.1 x.2 y.1 y.2 W (small_fv hx) (small_fv hy)
theorem sin_yes (a : Int × Int) (h : avB a.1 a.2 = true) (W : World) : Calls Tryz.prog 100 #[.agg #[.int .i64 a.1, .int .i64 a.2]] W fun e w' => e = .returned (.tuple #[.agg #[.int .i64 (Trig.snP a).1, .int .i64 (Trig.snP a).2], .int .i64 0]) ∧ Below W.heap.size W w' := Sin_yes a.1 a.2 W h
theorem cos_yes (a : Int × Int) (h : avB a.1 a.2 = true) (W : World) : Calls Tryz.prog 101 #[.agg #[.int .i64 a.1, .int .i64 a.2]] W fun e w' => e = .returned (.tuple #[.agg #[.int .i64 (Trig.csP a).1, .int .i64 (Trig.csP a).2], .int .i64 0]) ∧ Below W.heap.size W w' := Cos_yes a.1 a.2 W h
set_option maxHeartbeats 1000000 in
set_option maxRecDepth 100000 in
theorem csin_any (g : Nat) (a : Int × Int) (w : World) (ha : avB a.1 a.2 = true) (h : Blk w g 214 #[.int .i64 0]) :
    Calls Tryz.prog 240 #[.pointer (some ⟨g, 0, none⟩), .agg #[.int .i64 a.1, .int .i64 a.2]] w fun e w' => e = .returned (.agg #[.int .i64 (Trig.snP a).1, .int .i64 (Trig.snP a).2]) ∧ Below w.heap.size w w' := by
  have KS := Lib.hid (fun W => sin_yes a ha W)
  have KK := Lib.hid (fun (lo hi : Int) (W : World) (h : Blk W g 214 #[.int .i64 0]) => keep_any g lo hi W h)
  obtain ⟨⟨s0, s1⟩, hs⟩ : ∃ z, (Trig.snP a) = z := ⟨_, rfl⟩
  rw [hs] at KS ⊢
  simp only [] at KS ⊢
  clear hs
  have hg := h.lt
  have H0 := Lib.hid ((h.alloc (.cells #[.int .i64 a.1, .int .i64 a.2] 29)).alloc (.cells #[.int .i64 0, .int .i64 0] 97))
  have T0 : Hid (D2 ((w.alloc (.cells #[.int .i64 a.1, .int .i64 a.2] 29)).alloc (.cells #[.int .i64 0, .int .i64 0] 97)) (w.heap.size + 1) 0 0) := Lib.hid (by
    have := D2.new (w.alloc (.cells #[.int .i64 a.1, .int .i64 a.2] 29)) 0 0 97
    rwa [World.size_alloc] at this)
  have B0 := Lib.hid ((bl_alloc w (.cells #[.int .i64 a.1, .int .i64 a.2] 29)).alloc (by simp) (.cells #[.int .i64 0, .int .i64 0] 97))
  clear h
  go_enter Tryz.func240, Tryz.ntmps240
  go_wp2_with fail
  (with_reducible refine (KS.out _).mono ?_)
  rintro e w1 ⟨rfl, hb1⟩
  have H1 := Lib.hid (H0.out.below hb1 H0.out.lt)
  have T1 := Lib.hid (T0.out.below hb1 T0.out.lt)
  have B1 := Lib.hid (B0.out.trans (hb1.mono B0.out.size))
  clear hb1 H0 T0 B0
  go_wp2_with fail
  (with_reducible refine (KK.out _ _ _ H1.out).mono ?_)
  rintro e w2 ⟨rfl, hb2⟩
  have T2 := Lib.hid (T1.out.below hb2 T1.out.lt)
  have B2 := Lib.hid (B1.out.trans (hb2.mono B1.out.size))
  obtain ⟨zt, z0, z1, zf0, zf1⟩ := T2.out
  go_wp2
  refine bodyPost_ret (v := .agg #[.int .i64 s0, .int .i64 s1]) (by simp [results, Tryz.results240, go_sem, *]; done) rfl ⟨rfl, ?_⟩
  exact (B2.out.setCell (by simp only []; omega) _).setCell (by simp only []; omega) _
set_option maxHeartbeats 1000000 in
set_option maxRecDepth 100000 in
theorem ccos_any (g : Nat) (a : Int × Int) (w : World) (ha : avB a.1 a.2 = true) (h : Blk w g 214 #[.int .i64 0]) :
    Calls Tryz.prog 241 #[.pointer (some ⟨g, 0, none⟩), .agg #[.int .i64 a.1, .int .i64 a.2]] w fun e w' => e = .returned (.agg #[.int .i64 (Trig.csP a).1, .int .i64 (Trig.csP a).2]) ∧ Below w.heap.size w w' := by
  have KS := Lib.hid (fun W => cos_yes a ha W)
  have KK := Lib.hid (fun (lo hi : Int) (W : World) (h : Blk W g 214 #[.int .i64 0]) => keep_any g lo hi W h)
  obtain ⟨⟨s0, s1⟩, hs⟩ : ∃ z, (Trig.csP a) = z := ⟨_, rfl⟩
  rw [hs] at KS ⊢
  simp only [] at KS ⊢
  clear hs
  have hg := h.lt
  have H0 := Lib.hid ((h.alloc (.cells #[.int .i64 a.1, .int .i64 a.2] 29)).alloc (.cells #[.int .i64 0, .int .i64 0] 97))
  have T0 : Hid (D2 ((w.alloc (.cells #[.int .i64 a.1, .int .i64 a.2] 29)).alloc (.cells #[.int .i64 0, .int .i64 0] 97)) (w.heap.size + 1) 0 0) := Lib.hid (by
    have := D2.new (w.alloc (.cells #[.int .i64 a.1, .int .i64 a.2] 29)) 0 0 97
    rwa [World.size_alloc] at this)
  have B0 := Lib.hid ((bl_alloc w (.cells #[.int .i64 a.1, .int .i64 a.2] 29)).alloc (by simp) (.cells #[.int .i64 0, .int .i64 0] 97))
  clear h
  go_enter Tryz.func241, Tryz.ntmps241
  go_wp2_with fail
  (with_reducible refine (KS.out _).mono ?_)
  rintro e w1 ⟨rfl, hb1⟩
  have H1 := Lib.hid (H0.out.below hb1 H0.out.lt)
  have T1 := Lib.hid (T0.out.below hb1 T0.out.lt)
  have B1 := Lib.hid (B0.out.trans (hb1.mono B0.out.size))
  clear hb1 H0 T0 B0
  go_wp2_with fail
  (with_reducible refine (KK.out _ _ _ H1.out).mono ?_)
  rintro e w2 ⟨rfl, hb2⟩
  have T2 := Lib.hid (T1.out.below hb2 T1.out.lt)
  have B2 := Lib.hid (B1.out.trans (hb2.mono B1.out.size))
  obtain ⟨zt, z0, z1, zf0, zf1⟩ := T2.out
  go_wp2
  refine bodyPost_ret (v := .agg #[.int .i64 s0, .int .i64 s1]) (by simp [results, Tryz.results241, go_sem, *]; done) rfl ⟨rfl, ?_⟩
  exact (B2.out.setCell (by simp only []; omega) _).setCell (by simp only []; omega) _
set_option maxHeartbeats 1000000 in
set_option maxRecDepth 100000 in
theorem cmul_any (g : Nat) (x y : Int × Int) (w : World) (hx : Trig.Small x) (hy : Trig.Small y) (h : Blk w g 214 #[.int .i64 0]) :
    Calls Tryz.prog 202 #[.pointer (some ⟨g, 0, none⟩), .agg #[.int .i64 x.1, .int .i64 x.2], .agg #[.int .i64 y.1, .int .i64 y.2]] w fun e w' => e = .returned (.agg #[.int .i64 (Trig.mulP x y).1, .int .i64 (Trig.mulP x y).2]) ∧ Below w.heap.size w w' := by
  have KS := Lib.hid (fun W => mul_yes x y hx hy W)
  have KK := Lib.hid (fun (lo hi : Int) (W : World) (h : Blk W g 214 #[.int .i64 0]) => keep_any g lo hi W h)
  obtain ⟨⟨s0, s1⟩, hs⟩ : ∃ z, (Trig.mulP x y) = z := ⟨_, rfl⟩
  rw [hs] at KS ⊢
  simp only [] at KS ⊢
  clear hs
  have hg := h.lt
  have H0 := Lib.hid (((h.alloc (.cells #[.int .i64 x.1, .int .i64 x.2] 97)).alloc (.cells #[.int .i64 y.1, .int .i64 y.2] 97)).alloc (.cells #[.int .i64 0, .int .i64 0] 97))
  have T0 : Hid (D2 (((w.alloc (.cells #[.int .i64 x.1, .int .i64 x.2] 97)).alloc (.cells #[.int .i64 y.1, .int .i64 y.2] 97)).alloc (.cells #[.int .i64 0, .int .i64 0] 97)) (w.heap.size + 1 + 1) 0 0) := Lib.hid (by
    have := D2.new ((w.alloc (.cells #[.int .i64 x.1, .int .i64 x.2] 97)).alloc (.cells #[.int .i64 y.1, .int .i64 y.2] 97)) 0 0 97
    rwa [World.size_alloc, World.size_alloc] at this)
  have B0 := Lib.hid (((bl_alloc w (.cells #[.int .i64 x.1, .int .i64 x.2] 97)).alloc (by simp) (.cells #[.int .i64 y.1, .int .i64 y.2] 97)).alloc (by simp; omega) (.cells #[.int .i64 0, .int .i64 0] 97))
  clear h
  go_enter Tryz.func202, Tryz.ntmps202
  go_wp2_with fail
  (with_reducible refine (KS.out _).mono ?_)
  rintro e w1 ⟨rfl, hb1⟩
  have H1 := Lib.hid (H0.out.below hb1 H0.out.lt)
  have T1 := Lib.hid (T0.out.below hb1 T0.out.lt)
  have B1 := Lib.hid (B0.out.trans (hb1.mono B0.out.size))
  clear hb1 H0 T0 B0
  go_wp2_with fail
  (with_reducible refine (KK.out _ _ _ H1.out).mono ?_)
  rintro e w2 ⟨rfl, hb2⟩
  have T2 := Lib.hid (T1.out.below hb2 T1.out.lt)
  have B2 := Lib.hid (B1.out.trans (hb2.mono B1.out.size))
  obtain ⟨zt, z0, z1, zf0, zf1⟩ := T2.out
  go_wp2
  refine bodyPost_ret (v := .agg #[.int .i64 s0, .int .i64 s1]) (by simp [results, Tryz.results202, go_sem, *]; done) rfl ⟨rfl, ?_⟩
  exact (B2.out.setCell (by simp only []; omega) _).setCell (by simp only []; omega) _
set_option maxHeartbeats 1000000 in
set_option maxRecDepth 100000 in
theorem cadd_any (g : Nat) (x y : Int × Int) (w : World) (hx : Trig.Small x) (hy : Trig.Small y) (h : Blk w g 214 #[.int .i64 0]) :
    Calls Tryz.prog 201 #[.pointer (some ⟨g, 0, none⟩), .agg #[.int .i64 x.1, .int .i64 x.2], .agg #[.int .i64 y.1, .int .i64 y.2]] w fun e w' => e = .returned (.agg #[.int .i64 (Trig.addP x y).1, .int .i64 (Trig.addP x y).2]) ∧ Below w.heap.size w w' := by
  have KS := Lib.hid (fun W => add_yes x y hx hy W)
  have KK := Lib.hid (fun (lo hi : Int) (W : World) (h : Blk W g 214 #[.int .i64 0]) => keep_any g lo hi W h)
  obtain ⟨⟨s0, s1⟩, hs⟩ : ∃ z, (Trig.addP x y) = z := ⟨_, rfl⟩
  rw [hs] at KS ⊢
  simp only [] at KS ⊢
  clear hs
  have hg := h.lt
  have H0 := Lib.hid (((h.alloc (.cells #[.int .i64 x.1, .int .i64 x.2] 97)).alloc (.cells #[.int .i64 y.1, .int .i64 y.2] 97)).alloc (.cells #[.int .i64 0, .int .i64 0] 97))
  have T0 : Hid (D2 (((w.alloc (.cells #[.int .i64 x.1, .int .i64 x.2] 97)).alloc (.cells #[.int .i64 y.1, .int .i64 y.2] 97)).alloc (.cells #[.int .i64 0, .int .i64 0] 97)) (w.heap.size + 1 + 1) 0 0) := Lib.hid (by
    have := D2.new ((w.alloc (.cells #[.int .i64 x.1, .int .i64 x.2] 97)).alloc (.cells #[.int .i64 y.1, .int .i64 y.2] 97)) 0 0 97
    rwa [World.size_alloc, World.size_alloc] at this)
  have B0 := Lib.hid (((bl_alloc w (.cells #[.int .i64 x.1, .int .i64 x.2] 97)).alloc (by simp) (.cells #[.int .i64 y.1, .int .i64 y.2] 97)).alloc (by simp; omega) (.cells #[.int .i64 0, .int .i64 0] 97))
  clear h
  go_enter Tryz.func201, Tryz.ntmps201
  go_wp2_with fail
  (with_reducible refine (KS.out _).mono ?_)
  rintro e w1 ⟨rfl, hb1⟩
  have H1 := Lib.hid (H0.out.below hb1 H0.out.lt)
  have T1 := Lib.hid (T0.out.below hb1 T0.out.lt)
  have B1 := Lib.hid (B0.out.trans (hb1.mono B0.out.size))
  clear hb1 H0 T0 B0
  go_wp2_with fail
  (with_reducible refine (KK.out _ _ _ H1.out).mono ?_)
  rintro e w2 ⟨rfl, hb2⟩
  have T2 := Lib.hid (T1.out.below hb2 T1.out.lt)
  have B2 := Lib.hid (B1.out.trans (hb2.mono B1.out.size))
  obtain ⟨zt, z0, z1, zf0, zf1⟩ := T2.out
  go_wp2
  refine bodyPost_ret (v := .agg #[.int .i64 s0, .int .i64 s1]) (by simp [results, Tryz.results201, go_sem, *]; done) rfl ⟨rfl, ?_⟩
  exact (B2.out.setCell (by simp only []; omega) _).setCell (by simp only []; omega) _
end Go.Proofs.YtifdgdgfmjfbdaaGreat
namespace Go.Proofs.YtifdgdgfmjfbdaaGreat
open Go.RowKit
theorem ret_bool {a b : Bool} (h : a = b) : Ending.returned (.bool a) = .returned (.bool b) := by rw [h]
def ceq (x y : Cl) : Bool := decide (x = y)
theorem ceq_true {x y : Cl} : ceq x y = true ↔ x = y := by simp [ceq]
theorem ceq_false {x y : Cl} : ceq x y = false ↔ x ≠ y := by simp [ceq]
abbrev cva (x : Cl) : Value := .agg #[.int .i64 x.1, .int .i64 x.2.1, .int .i64 x.2.2]
theorem equalInCell (a b c a' b' c' : Int) (w : World) : (Op.equalIn 10000 102 (.agg #[.int .i64 a, .int .i64 b, .int .i64 c]) (.agg #[.int .i64 a', .int .i64 b', .int .i64 c'])).run Tryz.prog w = .ok (ceq (a, b, c) (a', b', c')) w := by
  have u3 := Tryz.underlying3
  have a3 := Tryz.isAgg3
  have z3 := Tryz.sizeOf3
  have hS : Tryz.prog.underlying 102 = some (.struct (Tryz.prog.fieldsOf 102)) := by kernel_rfl
  have hp : Tryz.prog.stoodInHeld 102 = false := by kernel_rfl
  rw [show (10000 : Nat) = 9999 + 1 from rfl, run_equalIn_agg w 9999 102 _ _ hS hp]
  simp only [Program.fieldsOf, Tryz.underlying102]
  go_simp
  by_cases h1 : a = a' <;> by_cases h2 : b = b' <;> by_cases h3 : c = c' <;> simp [ceq, h1, h2, h3]
theorem neqCell (a b c a' b' c' : Int) (w : World) : (binOp .neq 102 (.agg #[.int .i64 a, .int .i64 b, .int .i64 c]) (.agg #[.int .i64 a', .int .i64 b', .int .i64 c'])).run Tryz.prog w = .ok (.bool (!(ceq (a, b, c) (a', b', c')))) w := by
  rw [run_neq_struct, equalInCell]; rfl
theorem eqlCell (a b c a' b' c' : Int) (w : World) : (binOp .eql 102 (.agg #[.int .i64 a, .int .i64 b, .int .i64 c]) (.agg #[.int .i64 a', .int .i64 b', .int .i64 c'])).run Tryz.prog w = .ok (.bool (ceq (a, b, c) (a', b', c'))) w := by
  rw [run_eql_struct, equalInCell]; rfl

def gt (L : List Cl) (k : Nat) : Cl := L.getD k (0, 0, 0)
theorem cvs_at (L : List Cl) (k : Nat) (hk : k < L.length) : (cvs L)[k * 3]? = some (.int .i64 (gt L k).1) ∧ (cvs L)[k * 3 + 1]? = some (.int .i64 (gt L k).2.1) ∧ (cvs L)[k * 3 + 2]? = some (.int .i64 (gt L k).2.2) := by
  induction L generalizing k with
  | nil => simp at hk
  | cons x r ih =>
    have hc : cvs (x :: r) = .int .i64 x.1 :: .int .i64 x.2.1 :: .int .i64 x.2.2 :: cvs r := rfl
    rw [hc]
    match k with
    | 0 => simp [gt]
    | k + 1 =>
      have := ih k (by simpa using hk)
      have e1 : (k + 1) * 3 = k * 3 + 3 := by omega
      have e2 : (k + 1) * 3 + 1 = (k * 3 + 1) + 3 := by omega
      have e3 : (k + 1) * 3 + 2 = (k * 3 + 2) + 3 := by omega
      rw [e3, e2, e1]
      simpa [gt] using this
theorem Reads.len {w : World} {B n : Nat} {A : Option Addr} {L : List Cl} (h : Reads w B 3 A n (cvs L)) : L.length = n := by
  have := h.1
  rw [cvs_length] at this
  omega
/-- the cells of one element -/
theorem Reads.elem {w : World} {B n : Nat} {A : Option Addr} {L : List Cl} (h : Reads w B 3 A n (cvs L)) {k : Nat} (hk : k < n) :
    ∃ b off, A = some ⟨b, off, none⟩ ∧ b < B ∧ w.cell? ⟨b, off + k * 3, none⟩ = some (.int .i64 (gt L k).1) ∧ w.cell? ⟨b, off + k * 3 + 1, none⟩ = some (.int .i64 (gt L k).2.1) ∧ w.cell? ⟨b, off + k * 3 + 2, none⟩ = some (.int .i64 (gt L k).2.2) := by
  have hl := h.len
  obtain ⟨ad, rfl, hb, hc⟩ := h.2 (by omega)
  obtain ⟨b, off, spot⟩ := ad
  obtain ⟨z1, _, _⟩ := cvs_at L 0 (by omega)
  have hspot : spot = none := by simpa [Addr.add] using World.cell?_spot (hc 0 _ (by simpa using z1))
  subst hspot
  obtain ⟨y1, y2, y3⟩ := cvs_at L k (by omega)
  refine ⟨b, off, rfl, hb, ?_, ?_, ?_⟩
  · have := hc _ _ y1; rw [Go.WideShapes.add_plain] at this; exact this
  · have := hc _ _ y2; rw [Go.WideShapes.add_plain] at this; exact this
  · have := hc _ _ y3; rw [Go.WideShapes.add_plain] at this; exact this

theorem take_eq_succ {L M : List Cl} {k : Nat} (h : L.take k = M.take k) (h1 : k < L.length) (h2 : k < M.length) (he : gt L k = gt M k) : L.take (k + 1) = M.take (k + 1) := by
  rw [List.take_succ_eq_append_getElem h1, List.take_succ_eq_append_getElem h2, h]
  simp [gt, h1, h2] at he
  rw [he]
theorem ne_of_gt {L M : List Cl} {k : Nat} (he : gt L k ≠ gt M k) : L ≠ M := fun h => he (by rw [h])

end Go.Proofs.YtifdgdgfmjfbdaaGreat
namespace Go.Proofs.YtifdgdgfmjfbdaaGreat
open Go.RowKit
/-- whether a number may be the end of a range -/
def rchB (n : Int) : Bool := decide (-1099511627776 ≤ n ∧ n ≤ 1099511627776)
end Go.Proofs.YtifdgdgfmjfbdaaGreat
