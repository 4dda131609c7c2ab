/- The walks of fixed.Neg, and of cosine's chain: neg and sub, where nothing fails. -/
import Derived.Test.YtifdgdgfmjfbdaaGreatIAl
import Derived.Test.YtifdgdgfmjfbdaaGreatIBi
set_option linter.unusedVariables false
set_option linter.unusedSimpArgs false
namespace Go.Proofs.YtifdgdgfmjfbdaaGreat
theorem vp_pt2 {a b : Int} (h : vptB a b = true) : VP (a, a, b, b) := by
  have := vptB_true.1 h
  exact ⟨Int.le_refl _, by simp only []; omega, by simp only []; omega, .inr ⟨by simp only []; omega, by simp only []; omega, Int.le_refl _, by simp only []; omega⟩⟩
theorem latF_in (D : List Bx) : ∀ (k : Nat), k ≤ D.length → ∀ i, i < k → (latF D k).1 ≤ (gb D i).1 ∧ (gb D i).2.1 ≤ (latF D k).2 := by
  intro k
  induction k with
  | zero => intro _ i hi; omega
  | succ k ih =>
    intro hk i hi
    rw [latF_succ D k (by omega)]
    simp only []
    by_cases h : i < k
    · have := ih (by omega) i h
      omega
    · have : i = k := by omega
      subst this
      omega
theorem mem_gb {L : List Cl} {x : Cl} (hx : x ∈ L) : ∃ i, i < L.length ∧ gb (L.map bxI) i = bxI x := by
  obtain ⟨i, hi, he⟩ := List.getElem_of_mem hx
  exact ⟨i, hi, by simp [gb, hi, he]⟩
theorem bst_rarn {L : List Cl} (hv : ∀ x ∈ L, Vl x) : Bst (Beg (lons (L.map bxI)) (lons (L.map bxI)).length) (fun x => wdt (lons (L.map bxI)) x (lons (L.map bxI)).length) (rarn (lons (L.map bxI))) :=
  rarn_bst (okC_bx hv) _ (Nat.le_refl _)
theorem rarn_vl {L : List Cl} (hv : ∀ x ∈ L, Vl x) : VL (rarn (lons (L.map bxI))) := by
  have h := bst_rarn hv
  have hC := okC_bx hv
  generalize lons (L.map bxI) = D at *
  generalize rarn D = s at *
  rcases h with ⟨-, h2⟩ | ⟨⟨i, hi, h1⟩, h2, h3, -⟩
  · subst h2; exact .inl ⟨rfl, rfl⟩
  · have := hC _ (gs_mem hi)
    have hw := ((wdt_all D s.1 (wdt D s.1 D.length)).1 (Int.le_refl _)).1
    simp only [] at h2 h3
    exact .inr ⟨by omega, by omega, by omega, by omega⟩
theorem bnd_vp {L : List Cl} (hv : ∀ x ∈ L, Vl x) (h0 : 0 < L.length) : VP (bndV L) := by
  have hb := bnd_bd hv h0
  have h1 := latF_in (L.map bxI) L.length (by simp) 0 h0
  have h2 := okB_gb hv (k := 0) (by simpa using h0)
  obtain ⟨a0, a1, a2, -, -, -⟩ := h2
  have hle : (bndV L).1 ≤ (bndV L).2.1 := by
    unfold bndV
    simp only []
    omega
  exact ⟨hle, hb.1, hb.2.2.2.1, rarn_vl hv⟩
theorem lonIn_mod (lo hi n : Int) (h : lonIn lo hi n = true) (s : Int × Int) (hs : ((lo - s.1) % 21600000 + hi - lo ≤ s.2 - s.1)) : lonIn s.1 s.2 n = true := by
  unfold lonIn at *
  rw [decide_eq_true_eq] at *
  omega
theorem sgA_lon (m : Int) (lo : Int) : (sgA m - lo) % 21600000 = (m - lo) % 21600000 := by
  unfold sgA
  split <;> omega
theorem cen_in {L : List Cl} (hv : ∀ x ∈ L, Vl x) (h0 : 0 < L.length) : vptB (cenV L).1 (cenV L).2 = true ∧ inBox (bndV L).1 (bndV L).2.1 (bndV L).2.2.1 (bndV L).2.2.2 (cenV L).1 (cenV L).2 = true := by
  obtain ⟨h1, h2, h3, h4⟩ := bnd_vp hv h0
  have hs := sgA_bd (((bndV L).2.2.1 + (bndV L).2.2.2) / 2)
  have hm := sgA_lon (((bndV L).2.2.1 + (bndV L).2.2.2) / 2) (bndV L).2.2.1
  unfold cenV
  unfold VL at h4
  generalize bndV L = q at *
  obtain ⟨q0, q1, q2, q3⟩ := q
  simp only [] at h1 h2 h3 h4 hs hm ⊢
  refine ⟨vptB_true.2 (by omega), ?_⟩
  unfold inBox
  rw [Bool.and_eq_true, decide_eq_true_eq, Bool.or_eq_true]
  refine ⟨by omega, .inr ?_⟩
  unfold lonIn
  rw [decide_eq_true_eq, hm]
  omega
theorem bnd_in {L : List Cl} (hv : ∀ x ∈ L, Vl x) {a b : Int} (h : conB L a b = true) : inBox (bndV L).1 (bndV L).2.1 (bndV L).2.2.1 (bndV L).2.2.2 a b = true := by
  unfold conB at h
  rw [List.any_eq_true] at h
  obtain ⟨x, hx, hp⟩ := h
  obtain ⟨i, hi, he⟩ := mem_gb hx
  have h1 := latF_in (L.map bxI) L.length (by simp) i hi
  rw [he] at h1
  have hp' : (decide ((bxI x).1 ≤ a ∧ a ≤ (bxI x).2.1) && (decide (a = 5400000) || decide (a = -5400000) || lonIn (bxI x).2.2.1 (bxI x).2.2.2 b)) = true := hp
  rw [Bool.and_eq_true, decide_eq_true_eq, Bool.or_eq_true] at hp'
  unfold inBox
  rw [Bool.and_eq_true, decide_eq_true_eq, Bool.or_eq_true]
  refine ⟨by unfold bndV; simp only []; omega, hp'.2.imp id fun hl => ?_⟩
  have hB := bst_rarn hv
  have hmem : (bxI x).2.2 ∈ lons (L.map bxI) := List.mem_map.2 ⟨bxI x, List.mem_map.2 ⟨x, hx, rfl⟩, rfl⟩
  refine lonIn_mod _ _ _ hl (rarn (lons (L.map bxI))) ?_
  generalize lons (L.map bxI) = D at *
  generalize rarn D = s at *
  have hC := bx_facts (hv x hx)
  generalize bxI x = q at *
  rcases hB with ⟨-, h2⟩ | ⟨-, h2, h3, -⟩
  · subst h2
    have hb := hC
    simp only []
    have hd : (q.2.2.1 - -10800000) % 21600000 + q.2.2.2 - q.2.2.1 ≤ 21600000 := by omega
    omega
  · have hw := ((wdt_all D s.1 (wdt D s.1 D.length)).1 (Int.le_refl _)).2 q.2.2 hmem
    simp only [] at h2
    omega
theorem dst_le (q : Bx) (p : Int × Int) : (dstV q p).1 ≤ (dstV q p).2 := by
  have h1 := Trig.sinT_fv (q.1, q.2.1) (p.1, p.1) (q.2.2.1 - p.2, q.2.2.2 - p.2)
  have h2 := Trig.sinT_meets (q.1, q.2.1) (p.1, p.1) (q.2.2.1 - p.2, q.2.2.2 - p.2)
  have := Trig.asn_arc h1.2.1 h2.1 h2.2
  unfold dstV altP
  simp only []
  omega
theorem rad_le (D : List Bx) (p : Int × Int) : ∀ (k : Nat), k ≤ D.length → (radF D p k).1 ≤ (radF D p k).2 ∧ ∀ i, i < k → (dstV (gb D i) p).2 ≤ (radF D p k).2 := by
  intro k
  induction k with
  | zero => intro _; rw [radF_zero]; exact ⟨Int.le_refl _, fun i hi => by omega⟩
  | succ k ih =>
    intro hk
    have ih := ih (by omega)
    rw [radF_succ D p k (by omega)]
    have hd := dst_le (gb D k) p
    refine ⟨by simp only []; omega, fun i hi => ?_⟩
    simp only []
    by_cases h : i < k
    · have := ih.2 i h
      omega
    · have : i = k := by omega
      subst this
      omega
theorem tan_rad {L : List Cl} (hv : ∀ x ∈ L, Vl x) {a b p0 p1 : Int} (hp : vptB p0 p1 = true) (h : conB L a b = true) :
    5400000 + Trig.asnV (-(min (Trig.sinT (a, a) (p0, p0) (b - p1, b - p1)).2 1073741824)) - 0 ≤ (radF (L.map bxI) (p0, p1) L.length).2 := by
  unfold conB at h
  rw [List.any_eq_true] at h
  obtain ⟨x, hx, hpt⟩ := h
  obtain ⟨i, hi, he⟩ := mem_gb hx
  have hr := (rad_le (L.map bxI) (p0, p1) L.length (by simp)).2 i hi
  rw [he] at hr
  have hk : VCi ((p0, p0, p1, p1), 0, 0) := ⟨vp_pt2 hp, by simp, by simp, by simp⟩
  have hw := sin_pt hk (hv x hx) hpt
  have hw2 : Trig.Wi (Trig.sinT (a, a) (p0, p0) (b - p1, b - p1)) (Trig.sinT ((bxI x).1, (bxI x).2.1) (p0, p0) ((bxI x).2.2.1 - p1, (bxI x).2.2.2 - p1)) := hw
  have e : (dstV (bxI x) (p0, p1)).2 = 5400000 - Trig.asnV (max (Trig.sinT ((bxI x).1, (bxI x).2.1) (p0, p0) ((bxI x).2.2.1 - p1, (bxI x).2.2.2 - p1)).1 (-1073741824)) := rfl
  have m1 := Trig.sinT_meets (a, a) (p0, p0) (b - p1, b - p1)
  have f1 := Trig.sinT_fv (a, a) (p0, p0) (b - p1, b - p1)
  have m2 := Trig.sinT_meets ((bxI x).1, (bxI x).2.1) (p0, p0) ((bxI x).2.2.1 - p1, (bxI x).2.2.2 - p1)
  rw [e] at hr
  clear e hw
  generalize Trig.sinT (a, a) (p0, p0) (b - p1, b - p1) = s at *
  generalize Trig.sinT ((bxI x).1, (bxI x).2.1) (p0, p0) ((bxI x).2.2.1 - p1, (bxI x).2.2.2 - p1) = t at *
  obtain ⟨w1, w2⟩ := hw2
  have := Trig.asn_order (v := max t.1 (-1073741824)) (u := min s.2 1073741824) (by have := f1.2.1; omega) (by omega) (by omega)
  omega
end Go.Proofs.YtifdgdgfmjfbdaaGreat
namespace Go.Proofs.YtifdgdgfmjfbdaaGreat
open Go.RowKit
def negP (x : Int × Int) : Int × Int := (-x.2, -x.1)
theorem negP_small {x : Int × Int} (h : Trig.Small x) : Trig.Small (negP x) := by
  have := h.lo
  have := h.le
  have := h.hi
  constructor <;> (simp only [negP]; omega)
theorem subP_fv {x y : Int × Int} (hx : Trig.Small x) (hy : Trig.Small y) : fvB (subP x y).1 (subP x y).2 = true := by
  rw [fv_iff]
  have := hx.lo
  have := hx.le
  have := hx.hi
  have := hy.lo
  have := hy.le
  have := hy.hi
  simp only [subP]
  omega
set_option maxHeartbeats 1000000 in
set_option maxRecDepth 100000 in
theorem neg_yes (a : Int × Int) (ha : Trig.Small a) (w : World) : Calls Tryz.prog 272 #[.agg #[.int .i64 a.1, .int .i64 a.2]] w fun e w' => e = .returned (.tuple #[.agg #[.int .i64 (negP a).1, .int .i64 (negP a).2], .int .i64 0]) ∧ Below w.heap.size w w' := by
  have KV := fun W => fValid_any a.1 a.2 W
  rw [small_fv ha] at KV
  have KV := Lib.hid KV
  have h0 := ha.lo
  have h1 := ha.le
  have h2 := ha.hi
  unfold negP
  obtain ⟨x, y⟩ := a
  simp only [] at KV h0 h1 h2 ⊢
  have n0 : wrap64 (-x) = -x := IntWalk.wrap64_in _ (by omega)
  have n1 : wrap64 (-y) = -y := IntWalk.wrap64_in _ (by omega)
  have T1 := Lib.hid ((D2.new w x y 97).below (bl_alloc _ (.cells #[.int .i64 0, .int .i64 0] 97)) (by simp))
  have TR : Hid (D2 ((w.alloc (.cells #[.int .i64 x, .int .i64 y] 97)).alloc (.cells #[.int .i64 0, .int .i64 0] 97)) (w.heap.size + 1) 0 0) := Lib.hid (by
    have := D2.new (w.alloc (.cells #[.int .i64 x, .int .i64 y] 97)) 0 0 97
    rwa [World.size_alloc] at this)
  have B0 := Lib.hid ((bl_alloc w (.cells #[.int .i64 x, .int .i64 y] 97)).alloc (by simp) (.cells #[.int .i64 0, .int .i64 0] 97))
  clear ha
  go_enter Tryz.func272, Tryz.ntmps272
  go_wp2_with fail
  (with_reducible refine (KV.out _).mono ?_)
  rintro e w1 ⟨rfl, hb1⟩
  have B1 := Lib.hid (B0.out.trans (hb1.mono B0.out.size))
  obtain ⟨tl, x0, x1, xf0, xf1⟩ := T1.out.below hb1 T1.out.lt
  obtain ⟨rt, ra, rb, rf0, rf1⟩ := TR.out.below hb1 TR.out.lt
  clear hb1 T1 TR B0
  go_wp2
  refine bodyPost_ret (v := .tuple #[.agg #[.int .i64 (-y), .int .i64 (-x)], .int .i64 0]) (by simp [results, Tryz.results272, go_sem, ra, rb]; done) rfl ⟨rfl, ?_⟩
  exact (B1.out.setCell (by simp only []; omega) _).setCell (by simp only []; omega) _
set_option maxHeartbeats 1000000 in
set_option maxRecDepth 100000 in
theorem cneg_any (g : Nat) (a : Int × Int) (w : World) (ha : Trig.Small a) (h : Blk w g 214 #[.int .i64 0]) :
    Calls Tryz.prog 243 #[.pointer (some ⟨g, 0, none⟩), .agg #[.int .i64 a.1, .int .i64 a.2]] w fun e w' => e = .returned (.agg #[.int .i64 (negP a).1, .int .i64 (negP a).2]) ∧ Below w.heap.size w w' := by
  have KS := Lib.hid (fun W => neg_yes a ha W)
  have KK := Lib.hid (fun (lo hi : Int) (W : World) (h : Blk W g 214 #[.int .i64 0]) => keep_any g lo hi W h)
  obtain ⟨⟨s0, s1⟩, hs⟩ : ∃ z, (negP a) = z := ⟨_, rfl⟩
  rw [hs] at KS ⊢
  simp only [] at KS ⊢
  clear hs
  have hg := h.lt
  have H0 := Lib.hid ((h.alloc (.cells #[.int .i64 a.1, .int .i64 a.2] 97)).alloc (.cells #[.int .i64 0, .int .i64 0] 97))
  have T0 : Hid (D2 ((w.alloc (.cells #[.int .i64 a.1, .int .i64 a.2] 97)).alloc (.cells #[.int .i64 0, .int .i64 0] 97)) (w.heap.size + 1) 0 0) := Lib.hid (by
    have := D2.new (w.alloc (.cells #[.int .i64 a.1, .int .i64 a.2] 97)) 0 0 97
    rwa [World.size_alloc] at this)
  have B0 := Lib.hid ((bl_alloc w (.cells #[.int .i64 a.1, .int .i64 a.2] 97)).alloc (by simp) (.cells #[.int .i64 0, .int .i64 0] 97))
  clear h
  go_enter Tryz.func243, Tryz.ntmps243
  go_wp2_with fail
  (with_reducible refine (KS.out _).mono ?_)
  rintro e w1 ⟨rfl, hb1⟩
  have H1 := Lib.hid (H0.out.below hb1 H0.out.lt)
  have T1 := Lib.hid (T0.out.below hb1 T0.out.lt)
  have B1 := Lib.hid (B0.out.trans (hb1.mono B0.out.size))
  clear hb1 H0 T0 B0
  go_wp2_with fail
  (with_reducible refine (KK.out _ _ _ H1.out).mono ?_)
  rintro e w2 ⟨rfl, hb2⟩
  have T2 := Lib.hid (T1.out.below hb2 T1.out.lt)
  have B2 := Lib.hid (B1.out.trans (hb2.mono B1.out.size))
  obtain ⟨zt, z0, z1, zf0, zf1⟩ := T2.out
  go_wp2
  refine bodyPost_ret (v := .agg #[.int .i64 s0, .int .i64 s1]) (by simp [results, Tryz.results243, go_sem, *]; done) rfl ⟨rfl, ?_⟩
  exact (B2.out.setCell (by simp only []; omega) _).setCell (by simp only []; omega) _
set_option maxHeartbeats 1000000 in
set_option maxRecDepth 100000 in
theorem csub_any (g : Nat) (x y : Int × Int) (w : World) (hx : Trig.Small x) (hy : Trig.Small y) (h : Blk w g 214 #[.int .i64 0]) :
    Calls Tryz.prog 244 #[.pointer (some ⟨g, 0, none⟩), .agg #[.int .i64 x.1, .int .i64 x.2], .agg #[.int .i64 y.1, .int .i64 y.2]] w fun e w' => e = .returned (.agg #[.int .i64 (subP x y).1, .int .i64 (subP x y).2]) ∧ Below w.heap.size w w' := by
  have KS := Lib.hid (fun W => sub_yes x y hx hy W)
  have KK := Lib.hid (fun (lo hi : Int) (W : World) (h : Blk W g 214 #[.int .i64 0]) => keep_any g lo hi W h)
  obtain ⟨⟨s0, s1⟩, hs⟩ : ∃ z, (subP x y) = z := ⟨_, rfl⟩
  rw [hs] at KS ⊢
  simp only [] at KS ⊢
  clear hs
  have hg := h.lt
  have H0 := Lib.hid (((h.alloc (.cells #[.int .i64 x.1, .int .i64 x.2] 97)).alloc (.cells #[.int .i64 y.1, .int .i64 y.2] 97)).alloc (.cells #[.int .i64 0, .int .i64 0] 97))
  have T0 : Hid (D2 (((w.alloc (.cells #[.int .i64 x.1, .int .i64 x.2] 97)).alloc (.cells #[.int .i64 y.1, .int .i64 y.2] 97)).alloc (.cells #[.int .i64 0, .int .i64 0] 97)) (w.heap.size + 1 + 1) 0 0) := Lib.hid (by
    have := D2.new ((w.alloc (.cells #[.int .i64 x.1, .int .i64 x.2] 97)).alloc (.cells #[.int .i64 y.1, .int .i64 y.2] 97)) 0 0 97
    rwa [World.size_alloc, World.size_alloc] at this)
  have B0 := Lib.hid (((bl_alloc w (.cells #[.int .i64 x.1, .int .i64 x.2] 97)).alloc (by simp) (.cells #[.int .i64 y.1, .int .i64 y.2] 97)).alloc (by simp; omega) (.cells #[.int .i64 0, .int .i64 0] 97))
  clear h
  go_enter Tryz.func244, Tryz.ntmps244
  go_wp2_with fail
  (with_reducible refine (KS.out _).mono ?_)
  rintro e w1 ⟨rfl, hb1⟩
  have H1 := Lib.hid (H0.out.below hb1 H0.out.lt)
  have T1 := Lib.hid (T0.out.below hb1 T0.out.lt)
  have B1 := Lib.hid (B0.out.trans (hb1.mono B0.out.size))
  clear hb1 H0 T0 B0
  go_wp2_with fail
  (with_reducible refine (KK.out _ _ _ H1.out).mono ?_)
  rintro e w2 ⟨rfl, hb2⟩
  have T2 := Lib.hid (T1.out.below hb2 T1.out.lt)
  have B2 := Lib.hid (B1.out.trans (hb2.mono B1.out.size))
  obtain ⟨zt, z0, z1, zf0, zf1⟩ := T2.out
  go_wp2
  refine bodyPost_ret (v := .agg #[.int .i64 s0, .int .i64 s1]) (by simp [results, Tryz.results244, go_sem, *]; done) rfl ⟨rfl, ?_⟩
  exact (B2.out.setCell (by simp only []; omega) _).setCell (by simp only []; omega) _
end Go.Proofs.YtifdgdgfmjfbdaaGreat
