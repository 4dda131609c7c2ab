/- The walks of fix.Bounds and fix.Center at the awake's cell. -/
import Derived.Deep.RegionHeld3
import Derived.Deep.DeepCutAuto
import Derived.Test.YtopfnffabaiceaaGHj
import Derived.Test.YtopfnffabaiceaaGGn
import Derived.Test.YtopfnffabaiceaaGJf
set_option linter.unusedVariables false
set_option linter.unusedSimpArgs false
/- The walks of fix.bounds, fix.Bounds and fix.Center. -/
namespace Go.Proofs.Ytopfnffabaiceaa
open Go.RowKit
theorem K4.two {W : World} {g : Nat} {a b c d : Int} (h : K4 W g a b c d) (x y : Int) : K4 ((W.setCell ⟨g, 0, none⟩ (.int .i64 x)).setCell ⟨g, 1, none⟩ (.int .i64 y)) g x y c d := by
  have o : ∀ (V : World) (i j : Nat) (v : Value), i ≠ j → (V.setCell ⟨g, i, none⟩ v).cell? ⟨g, j, none⟩ = V.cell? ⟨g, j, none⟩ := fun V i j v hij => World.cell?_setCell_other _ _ _ _ (fun e => hij (by injection e))
  refine ⟨by simpa using h.lt, ?_, ?_, ?_, ?_, ?_, ?_, ?_, ?_⟩
  · rw [o _ 1 0 _ (by decide)]; exact World.cell?_setCell_same _ _ _ h.c0
  · exact World.cell?_setCell_same _ _ _ (by rw [o _ 0 1 _ (by decide)]; exact h.c1)
  · rw [o _ 1 2 _ (by decide), o _ 0 2 _ (by decide)]; exact h.c2
  · rw [o _ 1 3 _ (by decide), o _ 0 3 _ (by decide)]; exact h.c3
  · rw [World.frozen?_setCell, World.frozen?_setCell]; exact h.f0
  · rw [World.frozen?_setCell, World.frozen?_setCell]; exact h.f1
  · rw [World.frozen?_setCell, World.frozen?_setCell]; exact h.f2
  · rw [World.frozen?_setCell, World.frozen?_setCell]; exact h.f3
theorem K4.two' {W : World} {g : Nat} {a b c d : Int} (h : K4 W g a b c d) (x y : Int) : K4 ((W.setCell ⟨g, 2, none⟩ (.int .i64 x)).setCell ⟨g, 3, none⟩ (.int .i64 y)) g a b x y := by
  have o : ∀ (V : World) (i j : Nat) (v : Value), i ≠ j → (V.setCell ⟨g, i, none⟩ v).cell? ⟨g, j, none⟩ = V.cell? ⟨g, j, none⟩ := fun V i j v hij => World.cell?_setCell_other _ _ _ _ (fun e => hij (by injection e))
  refine ⟨by simpa using h.lt, ?_, ?_, ?_, ?_, ?_, ?_, ?_, ?_⟩
  · rw [o _ 3 0 _ (by decide), o _ 2 0 _ (by decide)]; exact h.c0
  · rw [o _ 3 1 _ (by decide), o _ 2 1 _ (by decide)]; exact h.c1
  · rw [o _ 3 2 _ (by decide)]; exact World.cell?_setCell_same _ _ _ h.c2
  · exact World.cell?_setCell_same _ _ _ (by rw [o _ 2 3 _ (by decide)]; exact h.c3)
  · rw [World.frozen?_setCell, World.frozen?_setCell]; exact h.f0
  · rw [World.frozen?_setCell, World.frozen?_setCell]; exact h.f1
  · rw [World.frozen?_setCell, World.frozen?_setCell]; exact h.f2
  · rw [World.frozen?_setCell, World.frozen?_setCell]; exact h.f3
theorem K4.farB {W : World} {g : Nat} {a b c d : Int} (h : K4 W g a b c d) {p : Addr} (hp : g ≠ p.block) (u : Value) : K4 (W.setCell p u) g a b c d := by
  have hne : ∀ i, p ≠ (⟨g, i, none⟩ : Addr) := fun i e => hp (by rw [e])
  refine ⟨by simpa using h.lt, ?_, ?_, ?_, ?_, ?_, ?_, ?_, ?_⟩
  · rw [World.cell?_setCell_other _ _ _ _ (hne 0)]; exact h.c0
  · rw [World.cell?_setCell_other _ _ _ _ (hne 1)]; exact h.c1
  · rw [World.cell?_setCell_other _ _ _ _ (hne 2)]; exact h.c2
  · rw [World.cell?_setCell_other _ _ _ _ (hne 3)]; exact h.c3
  · rw [World.frozen?_setCell]; exact h.f0
  · rw [World.frozen?_setCell]; exact h.f1
  · rw [World.frozen?_setCell]; exact h.f2
  · rw [World.frozen?_setCell]; exact h.f3
theorem cell_put_same {W : World} {p : Addr} {v : Value} (h : W.cell? p = some v) (q : Addr) : (W.setCell p v).cell? q = W.cell? q := by
  by_cases e : p = q
  · subst e; rw [World.cell?_setCell_same _ _ _ h, h]
  · exact World.cell?_setCell_other _ _ _ _ e
set_option maxHeartbeats 4000000 in
set_option maxRecDepth 100000 in
/-- the bounds of one box -/
theorem fbounds_one (A : Option Addr) (c : Nat) (q0 q1 q2 q3 : Int) (w : World) (hr : Reads w w.heap.size 4 A 1 (bv (q0, q1, q2, q3))) (hD : OkA [(q2, q3)]) :
    Calls Try.prog 44 #[.slice A 1 c] w fun e w' => e = .returned (.agg #[.int .i64 q0, .int .i64 q1, .int .i64 (fS [(q2, q3)] 1).1.1, .int .i64 (fS [(q2, q3)] 1).1.2]) ∧ Below w.heap.size w w' := by
  have HD := Lib.hid hD
  obtain ⟨b, off, rfl, hb, x0, x1, x2, x3⟩ := BReads.elem (D := [(q0, q1, q2, q3)]) (by simpa [bvs, bv] using hr) (Nat.zero_lt_one)
  simp only [Nat.zero_mul, Nat.add_zero] at x0 x1 x2 x3
  replace x0 : w.cell? ⟨b, off, none⟩ = some (.int .i64 q0) := x0
  replace x1 : w.cell? ⟨b, off + 1, none⟩ = some (.int .i64 q1) := x1
  replace x2 : w.cell? ⟨b, off + 2, none⟩ = some (.int .i64 q2) := x2
  replace x3 : w.cell? ⟨b, off + 3, none⟩ = some (.int .i64 q3) := x3
  clear hr hD
  obtain ⟨iA, hiA, hzA, hz1A, hzbA⟩ : ∃ i0, Try.prog.info? 42 = some i0 ∧ i0.zero = some (.agg #[.int .i64 0, .int .i64 0]) ∧ i0.size = 2 ∧ i0.bytes = 16 := by
    have h : (Try.prog.info? 42).map (fun i => (i.zero, i.size, i.bytes)) = some (some (.agg #[.int .i64 0, .int .i64 0]), 2, 16) := by kernel_rfl
    obtain ⟨i0, a, b, c, d⟩ := info_parts h
    exact ⟨i0, a, b, c, d⟩
  obtain ⟨⟨r0, r1⟩, hRR⟩ : ∃ R, (fS [(q2, q3)] 1).1 = R := ⟨_, rfl⟩
  have HRR := Lib.hid hRR
  simp only [hRR]
  clear hRR
  have Z0 := Lib.hid ((K4.new w 0 0 0 0 52).alloc (.cells #[.int .i64 q0, .int .i64 q1, .int .i64 0, .int .i64 0] 52))
  have P0 := Lib.hid (K4.new (w.alloc (.cells #[.int .i64 0, .int .i64 0, .int .i64 0, .int .i64 0] 52)) q0 q1 0 0 52)
  have B0 := Lib.hid ((bl_alloc w (.cells #[.int .i64 0, .int .i64 0, .int .i64 0, .int .i64 0] 52)).alloc (by simp) (.cells #[.int .i64 q0, .int .i64 q1, .int .i64 0, .int .i64 0] 52))
  have X := Lib.hid (And.intro x0 (And.intro x1 (And.intro x2 x3)))
  go_enter Try.func44, Try.ntmps44
  go_wp2
  clear x0 x1 x2 x3
  go_loopw [4, 14] (fun s4 i wr => ∃ k : Nat, k ≤ 1 ∧ i = .int .i64 k ∧ wr.ownsRow (w.heap.size + 2) 42 2 s4 k (spvs ([(q2, q3)].take k)) ∧ K4 wr w.heap.size 0 0 0 0 ∧ K4 wr (w.heap.size + 1) q0 q1 0 0 ∧ Below w.heap.size w wr) (fun _ i _ => 1 - (intOf i).toNat)
  case atStart => exact ⟨0, Nat.zero_le _, rfl, own_nil _ _ _ _, Z0.out, by have := P0.out; rwa [show (w.alloc (.cells #[.int .i64 0, .int .i64 0, .int .i64 0, .int .i64 0] 52)).heap.size = w.heap.size + 1 from World.size_alloc _ _] at this, B0.out⟩
  case round =>
    obtain ⟨k, hk, rfl, hown, hZ, hP, hbl⟩ := hrel
    clear Z0 P0 B0
    have HOW := Lib.hid hown
    have HZ := Lib.hid hZ
    have HP := Lib.hid hP
    have HB := Lib.hid hbl
    clear hown hZ hP hbl
    by_cases hlt : k < 1
    · obtain rfl : k = 0 := by omega
      have y0 := (HB.out.cell (p := ⟨b, off, none⟩) hb).trans X.out.1
      have y1 := (HB.out.cell (p := ⟨b, off + 1, none⟩) hb).trans X.out.2.1
      have y2 := (HB.out.cell (p := ⟨b, off + 2, none⟩) hb).trans X.out.2.2.1
      have y3 := (HB.out.cell (p := ⟨b, off + 3, none⟩) hb).trans X.out.2.2.2
      have PW := Lib.hid (HP.out.alloc (.cells #[.int .i64 q0, .int .i64 q1, .int .i64 q2, .int .i64 q3] 52))
      have ZW := Lib.hid (HZ.out.alloc (.cells #[.int .i64 q0, .int .i64 q1, .int .i64 q2, .int .i64 q3] 52))
      have OW := Lib.hid (HOW.out.alloc (.cells #[.int .i64 q0, .int .i64 q1, .int .i64 q2, .int .i64 q3] 52))
      have hzw := HB.out.size
      have BW := Lib.hid (HB.out.alloc hzw (.cells #[.int .i64 q0, .int .i64 q1, .int .i64 q2, .int .i64 q3] 52))
      have NW := Lib.hid (K4.new wr q0 q1 q2 q3 52)
      have hlp := HP.out.lt
      go_upto_region 6 with (fail)
      clear y0 y1 y2 y3
      obtain ⟨WA, hWA⟩ : ∃ WA, wr.alloc (.cells #[.int .i64 q0, .int .i64 q1, .int .i64 q2, .int .i64 q3] 52) = WA := ⟨_, rfl⟩
      rw [hWA] at PW ZW OW BW NW ⊢
      have hzA : WA.heap.size = wr.heap.size + 1 := by rw [← hWA]; simp
      clear hWA HOW HZ HP HB
      have HZA := Lib.hid hzA
      generalize wr.heap.size = ga at *
      clear hzA
      have hn1 : ¬ ga = w.heap.size + 1 := by omega
      have hn2 : ¬ w.heap.size + 1 = ga := by omega
      obtain ⟨pt2, p0, p1, p2, p3, pf0, pf1, -, -⟩ := PW.out
      obtain ⟨nt2, a0, a1, a2, a3, -, -, -, -⟩ := NW.out
      have e1 := fun q => cell_put_same p0 q
      have e2 := fun q => (cell_put_same ((e1 _).trans p1) q).trans (e1 q)
      go_cut [14] from 14 to 41 (fun s14 wy => s14 = .int .i64 ((0 : Nat) : Int) ∧ wy = ((WA.setCell ⟨w.heap.size + 1, 0, none⟩ (.int .i64 q0)).setCell ⟨w.heap.size + 1, 1, none⟩ (.int .i64 q1)).drew)
      case first =>
        go_region_held3 (fun w' => w'.cell? ⟨ga, 0, none⟩ = some (.int .i64 q0) ∧ w'.cell? ⟨ga, 1, none⟩ = some (.int .i64 q1) ∧ w'.cell? ⟨w.heap.size + 1, 0, none⟩ = some (.int .i64 q0) ∧ w'.cell? ⟨w.heap.size + 1, 1, none⟩ = some (.int .i64 q1)) (simp [e1, e2, a0, a1, p0, p1]) (fail)
        all_goals
          try go_wp2_with fail
          go_meet
          case rel => exact ⟨rfl, rfl⟩
      case rest =>
        obtain ⟨rfl, rfl⟩ := hcut
        clear e1 e2 p0 p1 p2 p3 pf0 pf1 a0 a1 a2 a3 pt2 nt2
        have PX := Lib.hid ((PW.out.two q0 q1).below (bl_drew (Below.refl _ _)) (by simpa using PW.out.lt))
        have ZX := Lib.hid (((ZW.out.farB (p := ⟨w.heap.size + 1, 0, none⟩) (by simp only []; omega) (.int .i64 q0)).farB (p := ⟨w.heap.size + 1, 1, none⟩) (by simp only []; omega) (.int .i64 q1)).below (bl_drew (Below.refl _ _)) (by simpa using ZW.out.lt))
        have NX := Lib.hid (((NW.out.farB (p := ⟨w.heap.size + 1, 0, none⟩) hn1 (.int .i64 q0)).farB (p := ⟨w.heap.size + 1, 1, none⟩) hn1 (.int .i64 q1)).below (bl_drew (Below.refl _ _)) (by simpa using NW.out.lt))
        have BX := Lib.hid (bl_drew ((BW.out.setCell (p := ⟨w.heap.size + 1, 0, none⟩) (by simp) (.int .i64 q0)).setCell (p := ⟨w.heap.size + 1, 1, none⟩) (by simp) (.int .i64 q1)))
        have hzX : (((WA.setCell ⟨w.heap.size + 1, 0, none⟩ (.int .i64 q0)).setCell ⟨w.heap.size + 1, 1, none⟩ (.int .i64 q1)).drew).heap.size = ga + 1 := by simp; exact HZA.out
        have HZX := Lib.hid hzX
        have OX := Lib.hid (own_grown' OW.out (grown_bl (grown_set2 (o := 1) (v := .int .i64 q1) (grown_set2 (o := 0) (v := .int .i64 q0) (World.grownBy.refl WA (some (w.heap.size + 1))))) (bl_drew (Below.refl WA.heap.size _)) (Nat.le_refl _)) (fun q hq e => by have := own_base OW.out q hq; cases e; omega))
        clear hzX HZA PW ZW NW BW OW
        generalize ((WA.setCell ⟨w.heap.size + 1, 0, none⟩ (.int .i64 q0)).setCell ⟨w.heap.size + 1, 1, none⟩ (.int .i64 q1)).drew = WX at *
        obtain ⟨nt2, a0, a1, a2, a3, -, -, -, -⟩ := NX.out
        go_wp2_with (at_builtin; first
          | (refine wpList_append_any _ rfl (.tmp 36) (.tmp 39) _ rfl (w.heap.size + 2) 42 iA _ 2 16 Try.underlying39 hiA hzA hz1A hzbA rfl (by decide) _ 0 [] rfl (OX.out.alloc _) (WX.heap.size + 1) (some ⟨WX.heap.size, 0, none⟩) 1 1 [.int .i64 q2, .int .i64 q3] rfl ⟨rfl, fun _ => ⟨_, rfl, by simp, arc_cells WX (q2, q3) _⟩⟩ (by simp [Value.oneCell']) (by simp [maxLen]) (by omega) (by have := HZX.out; simp; omega) ?_; intro v7 w7 hown7 hg7 hat7)
          | fail)
        have hzz := HZX.out
        have b7 := ((bl_alloc WX (.cells #[.int .i64 q2, .int .i64 q3] 42)).mono (show w.heap.size + 2 ≤ WX.heap.size by omega)).grown hg7 (by simp; omega) (own_base OX.out)
        go_roundw
        case rel => exact ⟨1, Nat.le_refl _, by go_num, by simpa [spvs, spv] using hown7, ZX.out.below b7 (by omega), PX.out.below b7 (by omega), BX.out.trans (b7.mono (by omega))⟩
        case measure => simp [intOf]
    · obtain rfl : k = 1 := by omega
      obtain ⟨g, cap, hv, hg, hgl⟩ := own_some HOW.out (by decide)
      subst hv
      have HS : Hid (∀ j, j < [(q2, q3)].length → wr.cell? ⟨g, 0 + j * 2, none⟩ = some (.int .i64 (gs [(q2, q3)] j).1) ∧ wr.cell? ⟨g, 0 + j * 2 + 1, none⟩ = some (.int .i64 (gs [(q2, q3)] j).2)) := Lib.hid (fun j hj => by
        have hr := Reads.of_own HOW.out
        obtain ⟨b', off', e, -, z0, z1⟩ := SReads.elem (D := [(q2, q3)]) hr (k := j) (by simpa using hj)
        cases e
        exact ⟨z0, z1⟩)
      have KA := Lib.hid ((fAround_any g 0 1 cap [(q2, q3)] wr hgl HS.out rfl (by decide) (by decide) HD.out).mono (R' := fun e w' => e = .returned (.agg #[.int .i64 r0, .int .i64 r1]) ∧ Below wr.heap.size wr w') fun e w' ⟨D', hp, _, he, hb⟩ => by
        obtain rfl := List.perm_singleton.1 hp
        rw [HRR.out] at he
        exact ⟨he, hb⟩)
      clear HS
      go_wp2_with fail
      (with_reducible refine KA.out.mono ?_)
      rintro e w4 ⟨rfl, hb4⟩
      have P4 := Lib.hid (HP.out.below hb4 HP.out.lt)
      have Z4 := Lib.hid (HZ.out.below hb4 HZ.out.lt)
      have B4 := Lib.hid (HB.out.trans (hb4.mono HB.out.size))
      clear KA HP HZ HB HOW hb4
      obtain ⟨pt, p0, p1, p2, p3, pf0, pf1, pf2, pf3⟩ := P4.out
      have hn1 : ¬ w.heap.size = w.heap.size + 1 := by omega
      have hn2 : ¬ w.heap.size + 1 = w.heap.size := by omega
      obtain ⟨zt, z0, z1, z2, z3, zf0, zf1, zf2, zf3⟩ := Z4.out
      go_wp2
      refine bodyPost_ret (v := .agg #[.int .i64 q0, .int .i64 q1, .int .i64 r0, .int .i64 r1]) (by simp [results, Try.results44, go_sem, *]; done) rfl ⟨rfl, ?_⟩
      exact bl_put4 ((B4.out.setCell (by simp) _).setCell (by simp) _) (Nat.le_refl _)
end Go.Proofs.Ytopfnffabaiceaa
namespace Go.Proofs.Ytopfnffabaiceaa
open Go.RowKit
theorem ex_vl : Vl ((0 : Int), (0 : Int), (1 : Int)) := (vl_iff _).1 (by decide)
theorem ex_box : bxI ((0 : Int), (0 : Int), (1 : Int)) = (-5400000, 5400000, 0, 10800000) := by decide
theorem ex_fS : (fS [((0 : Int), (10800000 : Int))] 1).1 = (0, 10800000) := by decide
set_option maxHeartbeats 1000000 in
set_option maxRecDepth 100000 in
theorem Bounds_ex (A : Option Addr) (c : Nat) (w : World) (hr : Reads w w.heap.size 3 A 1 (cvs [((0 : Int), (0 : Int), (1 : Int))])) :
    Calls Try.prog 21 #[.slice A 1 c] w fun e w' => e = .returned (.tuple #[.agg #[.int .i64 (-5400000), .int .i64 5400000, .int .i64 0, .int .i64 10800000], .int .i64 0]) ∧ Below w.heap.size w w' := by
  have KB := Lib.hid (fun W (hW : Below w.heap.size w W) => boxes_any A 1 c [((0 : Int), (0 : Int), (1 : Int))] W ((hr.below hW).more hW.size) (by decide))
  rw [one_vr ex_vl] at KB
  simp only [if_true, List.map_cons, List.map_nil, ex_box] at KB
  have KF := Lib.hid (fun (W : World) (A : Option Addr) (c : Nat) (h : Reads W W.heap.size 4 A 1 (bv (-5400000, 5400000, 0, 10800000))) => fbounds_one A c (-5400000) 5400000 0 10800000 W h (by intro x hx; obtain rfl := List.mem_singleton.1 hx; decide))
  rw [ex_fS] at KF
  clear hr
  have B0 := Lib.hid (bl_alloc w (.cells #[.int .i64 0, .int .i64 0, .int .i64 0, .int .i64 0] 52))
  have Z0 := Lib.hid (K4.new w 0 0 0 0 52)
  go_enter Try.func21, Try.ntmps21
  go_wp2_with fail
  (with_reducible refine (KB.out _ B0.out).mono ?_)
  rintro e w1 ⟨v, rfl, hown, hb1⟩
  obtain ⟨A1, c1, rfl, ra, -, -⟩ := own_form hown
  have RA : Hid (Reads w1 w1.heap.size 4 A1 1 (bv (-5400000, 5400000, 0, 10800000))) := Lib.hid (by simpa [bvs, bv] using ra)
  have Z1 := Lib.hid (Z0.out.below hb1 Z0.out.lt)
  have B1 := Lib.hid (B0.out.trans (hb1.mono B0.out.size))
  clear hown hb1 ra Z0 B0 KB
  simp only [List.length_cons, List.length_nil]
  go_wp2_with fail
  (with_reducible refine (KF.out _ _ _ RA.out).mono ?_)
  rintro e w2 ⟨rfl, hb2⟩
  have B2 := Lib.hid (B1.out.trans (hb2.mono B1.out.size))
  obtain ⟨zt, z0, z1, z2, z3, zf0, zf1, zf2, zf3⟩ := Z1.out.below hb2 Z1.out.lt
  go_wp2
  refine bodyPost_ret (v := .tuple #[.agg #[.int .i64 (-5400000), .int .i64 5400000, .int .i64 0, .int .i64 10800000], .int .i64 0]) (by simp [results, Try.results21, go_sem, *]; done) rfl ⟨rfl, ?_⟩
  exact bl_put4 B2.out (Nat.le_refl _)
set_option maxHeartbeats 1000000 in
set_option maxRecDepth 100000 in
theorem Center_ex (A : Option Addr) (c : Nat) (w : World) (hr : Reads w w.heap.size 3 A 1 (cvs [((0 : Int), (0 : Int), (1 : Int))])) :
    Calls Try.prog 22 #[.slice A 1 c] w fun e w' => e = .returned (.tuple #[.agg #[.int .i64 0, .int .i64 5400000], .int .i64 0]) ∧ Below w.heap.size w w' := by
  have KB := Lib.hid (fun W (hW : Below w.heap.size w W) => Bounds_ex A c W ((hr.below hW).more hW.size))
  have ks := fun W => SignedA_any 5400000 W (by decide) (by decide)
  rw [show sgA 5400000 = 5400000 by decide] at ks
  have KS := Lib.hid ks
  clear ks
  clear hr
  have B0 := Lib.hid (bl_alloc w (.cells #[.int .i64 0, .int .i64 0] 56))
  have Z0 := Lib.hid (K2.new w 0 0 56)
  go_enter Try.func22, Try.ntmps22
  go_wp2_with fail
  (with_reducible refine (KB.out _ B0.out).mono ?_)
  rintro e w1 ⟨rfl, hb1⟩
  have Z1 := Lib.hid ((Z0.out.below hb1 Z0.out.lt).alloc (.cells #[.int .i64 (-5400000), .int .i64 5400000, .int .i64 0, .int .i64 10800000] 52))
  have hz1 := hb1.size
  have B1 := Lib.hid ((B0.out.trans (hb1.mono B0.out.size)).alloc (by have := B0.out.size; omega) (.cells #[.int .i64 (-5400000), .int .i64 5400000, .int .i64 0, .int .i64 10800000] 52))
  have P1 := Lib.hid (K4.new w1 (-5400000) 5400000 0 10800000 52)
  go_upto_region 4 with (fail)
  obtain ⟨W1, hW1⟩ : ∃ W1, w1.alloc (.cells #[.int .i64 (-5400000), .int .i64 5400000, .int .i64 0, .int .i64 10800000] 52) = W1 := ⟨_, rfl⟩
  rw [hW1] at Z1 B1 P1 ⊢
  have hlt0 : w.heap.size < w1.heap.size := by have := B0.out.size; have := Z0.out.lt; omega
  clear hW1 Z0 B0 KB hb1 hz1
  generalize w1.heap.size = ga at *
  have hn1 : ¬ w.heap.size = ga := by omega
  have hn2 : ¬ ga = w.heap.size := by omega
  obtain ⟨pt, p0, p1, p2, p3, -, -, -, -⟩ := P1.out
  have hw : IntKind.i64.wrap 10800000 = 10800000 := by decide
  have hw0 : IntKind.i64.wrap 0 = 0 := by decide
  go_region_held3 (fun w' => w'.cell? ⟨ga, 0, none⟩ = some (.int .i64 (-5400000)) ∧ w'.cell? ⟨ga, 1, none⟩ = some (.int .i64 5400000) ∧ w'.cell? ⟨ga, 2, none⟩ = some (.int .i64 0) ∧ w'.cell? ⟨ga, 3, none⟩ = some (.int .i64 10800000)) (simp [*]) (first
    | (go_at_call 45; (with_reducible refine (KS.out _).mono ?_); rintro e w9 ⟨rfl, hb9⟩; have P9 := P1.out.drew.below hb9 (by simpa using P1.out.lt); have Z9 := Z1.out.below ((bl_drew (Below.refl _ _)).trans hb9) (by simpa using Z1.out.lt); have B9 := Lib.hid (B1.out.trans (((bl_drew (Below.refl _ _)).trans hb9).mono (by simpa using B1.out.size))); obtain ⟨pt9, p09, p19, p29, p39, -, -, -, -⟩ := P9; obtain ⟨zt9, z09, z19, zf09, zf19⟩ := Z9; have e9 := fun (i : Nat) (u v : Value) => (World.cell?_setCell_other (w9.setCell ⟨w.heap.size, 0, none⟩ u) ⟨w.heap.size, 1, none⟩ ⟨ga, i, none⟩ v (fun e => hn1 (by injection e))).trans (World.cell?_setCell_other w9 ⟨w.heap.size, 0, none⟩ ⟨ga, i, none⟩ u (fun e => hn1 (by injection e))))
    | fail)
  go_wp2
  refine bodyPost_ret (v := .tuple #[.agg #[.int .i64 0, .int .i64 5400000], .int .i64 0]) (by simp [results, Try.results22, go_sem, *]; done) rfl ⟨rfl, ?_⟩
  exact (B9.out.setCell (by simp) _).setCell (by simp) _
theorem equalInPt (a b a' b' : Int) (w : World) : (Op.equalIn 10000 56 (.agg #[.int .i64 a, .int .i64 b]) (.agg #[.int .i64 a', .int .i64 b'])).run Try.prog w = .ok (aeq a b a' b') w := by
  have u3 := Try.underlying3
  have a3 := Try.isAgg3
  have z3 := Try.sizeOf3
  have hS : Try.prog.underlying 56 = some (.struct (Try.prog.fieldsOf 56)) := by kernel_rfl
  have hp : Try.prog.stoodInHeld 56 = false := by kernel_rfl
  rw [show (10000 : Nat) = 9999 + 1 from rfl, run_equalIn_agg w 9999 56 _ _ hS hp]
  simp only [Program.fieldsOf, Try.underlying56]
  go_simp
  by_cases h1 : a = a' <;> by_cases h2 : b = b' <;> simp [aeq, h1, h2]
theorem eqlPt (a b a' b' : Int) (w : World) : (binOp .eql 56 (.agg #[.int .i64 a, .int .i64 b]) (.agg #[.int .i64 a', .int .i64 b'])).run Try.prog w = .ok (.bool (aeq a b a' b')) w := by
  rw [run_eql_struct, equalInPt]; rfl
set_option maxHeartbeats 1000000 in
set_option maxRecDepth 100000 in
theorem awake40 (w : World) : Calls Try.prog 5 #[] w fun e w' => e = .returned (.bool true) ∧ Below w.heap.size w w' := by
  have hq := eqlPlace
  have hq2 := eqlPt
  have k1 : peq (-5400000) 5400000 0 10800000 (-5400000) 5400000 0 10800000 = true := by decide
  have k2 : aeq 0 5400000 0 5400000 = true := by decide
  have B0 := Lib.hid (bl_alloc w (.cells #[.int .i64 0, .int .i64 0, .int .i64 1] 33))
  have R0 := Lib.hid (reads_new3 w 0 0 1 33 (w.heap.size + 1) (by omega))
  have KB := Lib.hid (fun (W : World) (hW : Below (w.heap.size + 1) (w.alloc (.cells #[.int .i64 0, .int .i64 0, .int .i64 1] 33)) W) => Bounds_ex (some ⟨w.heap.size, 0, none⟩) 1 W ((R0.out.below hW).more (by have := hW.size; simpa using this)))
  have KC := Lib.hid (fun (W : World) (hW : Below (w.heap.size + 1) (w.alloc (.cells #[.int .i64 0, .int .i64 0, .int .i64 1] 33)) W) => Center_ex (some ⟨w.heap.size, 0, none⟩) 1 W ((R0.out.below hW).more (by have := hW.size; simpa using this)))
  have hs0 : (w.alloc (.cells #[.int .i64 0, .int .i64 0, .int .i64 1] 33)).heap.size = w.heap.size + 1 := by simp
  have HS0 := Lib.hid hs0
  clear hs0
  go_enter Try.func5, Try.ntmps5
  go_wp2_with fail
  (with_reducible refine (KB.out _ (Below.refl _ _)).mono ?_)
  rintro e w1 ⟨rfl, hb1⟩
  have P1 := Lib.hid (K4.new w1 (-5400000) 5400000 0 10800000 52)
  have hb1' := hb1.mono (show w.heap.size + 1 ≤ _ from Nat.le_of_eq HS0.out.symm)
  have hz1 := hb1'.size
  have C1 := Lib.hid (hb1'.alloc (by rw [HS0.out] at hz1; exact hz1) (.cells #[.int .i64 (-5400000), .int .i64 5400000, .int .i64 0, .int .i64 10800000] 52))
  clear hb1 hb1' hz1 KB
  go_wp2_with fail
  (with_reducible refine (KC.out _ C1.out).mono ?_)
  rintro e w2 ⟨rfl, hb2⟩
  have P2 := P1.out.below hb2 (by simp)
  have C2 := Lib.hid (B0.out.trans ((C1.out.trans (hb2.mono (by have := C1.out.size; rw [HS0.out] at this; exact this))).mono (Nat.le_succ _)))
  obtain ⟨pt, p0, p1, p2, p3, -, -, -, -⟩ := P2.alloc (.cells #[.int .i64 0, .int .i64 5400000] 56)
  clear KC hb2 P1 C1 R0 P2
  go_wp2
  go_ret
  exact ⟨ret_bool (by simp), C2.out.alloc C2.out.size _⟩
end Go.Proofs.Ytopfnffabaiceaa
