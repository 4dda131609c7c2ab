/- The walks of advance.Region, advance.Back and of the opposite of a movement. -/
import Derived.Test.YtnbbemlchchmoaaGreatHKo
import Derived.Test.YtnbbemlchchmoaaGreatHKs
import Derived.Test.YtnbbemlchchmoaaGreatHSg
import Derived.Test.YtnbbemlchchmoaaGreatHZe
set_option linter.unusedVariables false
set_option linter.unusedSimpArgs false
namespace Go.Proofs.YtnbbemlchchmoaaGreat
open Go.RowKit
def BkI (R : List Cl) (E : Int) (W2 : World) (x0 x1 x2 x3 x4 x5 : Value) (a : Act) (M : Nat → Bool) (a' : Act) (w' : World) : Prop :=
  ∃ (v19 v20 v21 v22 v23 v24 v25 v26 v27 v8 v9 : Value) (u9 : Value), a' = (((((((((((a.put (some 19) v19).put (some 20) v20).put (some 21) v21).put (some 22) v22).put (some 23) v23).put (some 24) v24).put (some 25) v25).put (some 26) v26).put (some 27) v27).put (some 8) v8).put (some 9) v9) ∧ Below W2.heap.size W2 w' ∧
    (M 6 = true → v25 = .tuple #[u9, .int .i64 E] ∧ w'.ownsRow W2.heap.size 58 3 u9 R.length (cvs R)) ∧
    (M 7 = true → M 6 = true ∧ v26 = u9) ∧
    (M 8 = true → M 6 = true ∧ v27 = .int .i64 E) ∧
    (M 9 = true → M 6 = true ∧ v8 = u9) ∧
    (M 10 = true → M 6 = true ∧ v9 = .int .i64 E) ∧
    (M 0 = true → v19 = x0) ∧
    (M 1 = true → v20 = x1) ∧
    (M 2 = true → v21 = x2) ∧
    (M 3 = true → v22 = x3) ∧
    (M 4 = true → v23 = x4) ∧
    (M 5 = true → v24 = x5)
theorem BkI.start {R : List Cl} {E : Int} {W2 : World} {x0 x1 x2 x3 x4 x5 : Value} (a : Act) : BkI R E W2 x0 x1 x2 x3 x4 x5 a (fun _ => false) a W2.drew :=
  ⟨_, _, _, _, _, _, _, _, _, _, _, undef, by rw [putQ_self a 19, putQ_self a 20, putQ_self a 21, putQ_self a 22, putQ_self a 23, putQ_self a 24, putQ_self a 25, putQ_self a 26, putQ_self a 27, putQ_self a 8, putQ_self a 9], bl_drew (Below.refl _ _), fun h => (by cases h), fun h => (by cases h), fun h => (by cases h), fun h => (by cases h), fun h => (by cases h), fun h => (by cases h), fun h => (by cases h), fun h => (by cases h), fun h => (by cases h), fun h => (by cases h), fun h => (by cases h)⟩
theorem gvE_one {L : List Cl} {a b x y lev : Int} : gvE L a b x y lev = 1 ↔ (vrB L && (smB a b && smB x y)) = false := by
  unfold gvE
  cases h : (vrB L && (smB a b && smB x y))
  · simp
  · simp only [if_true]
    split <;> simp
theorem gvE_two {L : List Cl} {a b x y lev : Int} (h : gvE L a b x y lev ≠ 0) (h1 : gvE L a b x y lev ≠ 1) : vrB L = true ∧ (smB a b && smB x y) = true ∧ gvE L a b x y lev = 2 ∧ (lev < 0 ∨ 16 < lev) := by
  unfold gvE at h h1 ⊢
  split at h
  · rename_i h2
    rw [if_pos h2] at h1 ⊢
    rw [Bool.and_eq_true] at h2
    split at h
    · exact absurd rfl h
    · rename_i h3
      rw [if_neg h3]
      exact ⟨h2.1, h2.2, rfl, by omega⟩
  · rename_i h2
    rw [if_neg h2] at h1
    exact absurd rfl h1
set_option maxHeartbeats 4000000 in
set_option maxRecDepth 100000 in
theorem aRegion_bad (A : Option Addr) (n ca : Nat) (L : List Cl) (a b x y lev : Int) (w : World) (hr : Reads w w.heap.size 3 A n (cvs L)) (hn : n ≤ ca) (hca : ca ≤ maxLen) (hg : gvE L a b x y lev ≠ 0) :
    Calls Tryz.prog 37 #[.slice A n ca, .agg #[.int .i64 a, .int .i64 b], .agg #[.int .i64 x, .int .i64 y], .int .i64 lev] w (RetCells w [] (gvE L a b x y lev)) := by
  have RD := Lib.hid hr
  have B0 := (bl_alloc w (.cells #[.int .i64 a, .int .i64 b] 32)).alloc (by simp) (.cells #[.int .i64 x, .int .i64 y] 32)
  have KV := fun (W : World) (hW : Below w.heap.size w W) => ValidRegion_any A n ca L W ((RD.out.below hW).more hW.size) (Nat.le_trans hn hca)
  have KM := fun W => movement_any a b x y W
  have DA := Lib.hid ((D2.new w a b 32).alloc (.cells #[.int .i64 x, .int .i64 y] 32))
  have dx := D2.new (w.alloc (.cells #[.int .i64 a, .int .i64 b] 32)) x y 32
  rw [World.size_alloc] at dx
  have DX := Lib.hid dx
  have B0 := Lib.hid B0
  clear hr dx
  by_cases hg1 : gvE L a b x y lev = 1
  · rw [hg1]
    rw [gvE_one] at hg1
    clear hg
    cases hv : vrB L with
    | false =>
      rw [hv] at KV
      have KV := Lib.hid KV
      clear hg1 hv KM
      go_enter Tryz.func37, Tryz.ntmps37
      go_wp2_with fail
      (with_reducible refine (KV.out _ B0.out).mono ?_)
      rintro e w1 ⟨rfl, hb1⟩
      have B1 := Lib.hid (B0.out.trans (hb1.mono B0.out.size))
      clear hb1 DA DX
      go_wp2
      go_ret2
      exact ⟨_, rfl, own_nil _ _ _ _, B1.out⟩
    | true =>
      rw [hv, Bool.true_and] at hg1
      rw [hv] at KV
      rw [hg1] at KM
      have KV := Lib.hid KV
      have KM := Lib.hid KM
      clear hg1 hv
      go_enter Tryz.func37, Tryz.ntmps37
      go_wp2_with fail
      (with_reducible refine (KV.out _ B0.out).mono ?_)
      rintro e w1 ⟨rfl, hb1⟩
      have B1 := Lib.hid (B0.out.trans (hb1.mono B0.out.size))
      obtain ⟨-, p0, p1, -, -⟩ := DA.out.below hb1 DA.out.lt
      obtain ⟨-, p2, p3, -, -⟩ := DX.out.below hb1 DX.out.lt
      clear hb1
      go_wp2_with fail
      (with_reducible refine (KM.out _).mono ?_)
      rintro e w2 ⟨rfl, hb2⟩
      have B2 := Lib.hid (B1.out.trans (hb2.mono B1.out.size))
      clear hb2
      go_wp2
      go_ret2
      exact ⟨_, rfl, own_nil _ _ _ _, B2.out⟩
  · obtain ⟨hv, hm, h2, hl⟩ := gvE_two hg hg1
    rw [h2]
    rw [hv] at KV
    rw [hm] at KM
    have KV := Lib.hid KV
    have KM := Lib.hid KM
    clear hg hg1 hv hm h2
    rcases hl with hl | hl
    · have d0 : decide (lev < 0) = true := decide_eq_true hl
      go_enter Tryz.func37, Tryz.ntmps37
      go_wp2_with fail
      (with_reducible refine (KV.out _ B0.out).mono ?_)
      rintro e w1 ⟨rfl, hb1⟩
      have B1 := Lib.hid (B0.out.trans (hb1.mono B0.out.size))
      obtain ⟨-, p0, p1, -, -⟩ := DA.out.below hb1 DA.out.lt
      obtain ⟨-, p2, p3, -, -⟩ := DX.out.below hb1 DX.out.lt
      clear hb1
      go_wp2_with fail
      (with_reducible refine (KM.out _).mono ?_)
      rintro e w2 ⟨rfl, hb2⟩
      have B2 := Lib.hid (B1.out.trans (hb2.mono B1.out.size))
      clear hb2
      go_wp2
      go_ret2
      exact ⟨_, rfl, own_nil _ _ _ _, B2.out⟩
    · have d0 : decide (lev < 0) = false := decide_eq_false (by omega)
      have d1 : decide (16 < lev) = true := decide_eq_true hl
      go_enter Tryz.func37, Tryz.ntmps37
      go_wp2_with fail
      (with_reducible refine (KV.out _ B0.out).mono ?_)
      rintro e w1 ⟨rfl, hb1⟩
      have B1 := Lib.hid (B0.out.trans (hb1.mono B0.out.size))
      obtain ⟨-, p0, p1, -, -⟩ := DA.out.below hb1 DA.out.lt
      obtain ⟨-, p2, p3, -, -⟩ := DX.out.below hb1 DX.out.lt
      clear hb1
      go_wp2_with fail
      (with_reducible refine (KM.out _).mono ?_)
      rintro e w2 ⟨rfl, hb2⟩
      have B2 := Lib.hid (B1.out.trans (hb2.mono B1.out.size))
      clear hb2
      go_wp2
      go_ret2
      exact ⟨_, rfl, own_nil _ _ _ _, B2.out⟩
set_option maxHeartbeats 8000000 in
set_option maxRecDepth 100000 in
theorem aRegion_yes (A : Option Addr) (n ca : Nat) (L : List Cl) (a b x y lev E : Int) (w : World) (hr : Reads w w.heap.size 3 A n (cvs L)) (hn : n ≤ ca) (hca : ca ≤ maxLen) (hn20 : n ≤ 20) (hg : gvE L a b x y lev = 0) (hR : RegOk a b x y lev 60 L E) :
    Calls Tryz.prog 37 #[.slice A n ca, .agg #[.int .i64 a, .int .i64 b], .agg #[.int .i64 x, .int .i64 y], .int .i64 lev] w (RetCells w (regV a b x y lev L E) E) := by
  obtain ⟨hvr, ha, hx, h0, h16⟩ := gvE_zero hg
  have RD := Lib.hid hr
  have HN := Lib.hid hr.len
  have B0 := (bl_alloc w (.cells #[.int .i64 a, .int .i64 b] 32)).alloc (by simp) (.cells #[.int .i64 x, .int .i64 y] 32)
  have KV := Lib.hid (fun (W : World) (hW : Below w.heap.size w W) => vr_yes A n ca L true hvr W ((RD.out.below hW).more hW.size) (Nat.le_trans hn hca))
  have KM := fun W => movement_any a b x y W
  rw [ha, hx] at KM
  simp only [Bool.and_self] at KM
  have KM := Lib.hid KM
  have DA := Lib.hid ((D2.new w a b 32).alloc (.cells #[.int .i64 x, .int .i64 y] 32))
  have dx := D2.new (w.alloc (.cells #[.int .i64 a, .int .i64 b] 32)) x y 32
  rw [World.size_alloc] at dx
  have DX := Lib.hid dx
  have B0 := Lib.hid B0
  have hAV := ((vrB_iff L).1 hvr).2.1
  have HAV := Lib.hid hAV
  have hsa := sm_iff.1 ha
  have HSA := Lib.hid ha
  have HSX := Lib.hid hx
  have H0 := Lib.hid h0
  have H16 := Lib.hid h16
  have HXV : Hid (∀ k, AllV (regX a b x y lev L k)) := Lib.hid (fun k => regX_v h0 h16 L k)
  have HYV : Hid (∀ c, AllV (arnM a b x y lev c)) := Lib.hid (fun c => arnM_v h0 h16 c)
  have d0 : decide (lev < 0) = false := decide_eq_false (by omega)
  have d1 : decide (16 < lev) = false := decide_eq_false (by omega)
  obtain ⟨R, hRV⟩ : ∃ R, regV a b x y lev L E = R := ⟨_, rfl⟩
  have HRV := Lib.hid hRV
  rw [hRV]
  obtain ⟨k0, hk0, hok, hend⟩ := hR
  have OK := Lib.hid hok
  have EN := Lib.hid hend
  have HK0 : Hid (k0 ≤ n) := Lib.hid (by rw [← HN.out]; exact hk0)
  have hnc : Hid (n ≤ maxLen) := Lib.hid (Nat.le_trans hn hca)
  clear hr hg hvr ha hx hAV hRV hok hend hk0 dx h0 h16
  go_enter Tryz.func37, Tryz.ntmps37
  go_wp2_with fail
  (with_reducible refine (KV.out _ B0.out).mono ?_)
  rintro e w1 ⟨rfl, hb1⟩
  have B1 := Lib.hid (B0.out.trans (hb1.mono B0.out.size))
  have DA1 := Lib.hid (DA.out.below hb1 DA.out.lt)
  have DX1 := Lib.hid (DX.out.below hb1 DX.out.lt)
  obtain ⟨-, p0, p1, -, -⟩ := DA1.out
  obtain ⟨-, p2, p3, -, -⟩ := DX1.out
  clear hb1 KV DA DX B0
  go_wp2_with fail
  (with_reducible refine (KM.out _).mono ?_)
  rintro e w2 ⟨rfl, hb2⟩
  have B2 := Lib.hid (B1.out.trans (hb2.mono B1.out.size))
  have DA2 := Lib.hid (DA1.out.below hb2 DA1.out.lt)
  have DX2 := Lib.hid (DX1.out.below hb2 DX1.out.lt)
  have hs2 := B2.out.size
  clear hb2 KM DA1 DX1 B1 p0 p1 p2 p3
  go_wp2
  go_loopg [10, 11, 36] n (fun gz s10 s11 s36 wr => ∃ (k : Nat) (u : Value), k + gz = n ∧ k ≤ k0 ∧ s36 = .int .i64 k ∧ s11 = .bool false ∧ s10 = u ∧ wr.ownsRow w2.heap.size 58 3 u (canonC (covL (regX a b x y lev L k))).length (cvs (canonC (covL (regX a b x y lev L k)))) ∧ Below w2.heap.size w2 wr)
  case atStart =>
    refine ⟨0, _, by omega, Nat.zero_le _, rfl, rfl, rfl, ?_, Below.refl _ _⟩
    have e : canonC (covL (regX a b x y lev L 0)) = [] := by
      have e2 : regX a b x y lev L 0 = [] := by simp [regX]
      rw [e2]
      exact can_nil
    rw [e]
    exact own_nil _ _ _ _
  case round =>
    obtain ⟨k, u, hk, hkk, rfl, rfl, rfl, hown, hbr⟩ := hrel
    have BR := Lib.hid hbr
    have BX := Lib.hid (B2.out.trans (hbr.mono hs2))
    have DA3 := Lib.hid (DA2.out.below hbr DA2.out.lt)
    have DX3 := Lib.hid (DX2.out.below hbr DX2.out.lt)
    have hxl := regX_len (a := a) (b := b) (x := x) (y := y) (lev := lev) (most := 60) L (by omega) k (by rw [HN.out]; exact Nat.le_trans hkk HK0.out) (fun i hi => OK.out i (Nat.lt_of_lt_of_le hi hkk))
    have hcl := canonC_len _ (HXV.out k)
    obtain ⟨X, hX⟩ : ∃ X, canonC (covL (regX a b x y lev L k)) = X := ⟨_, rfl⟩
    rw [hX] at hown hcl
    have HX := Lib.hid hX
    have hXl : X.length ≤ 1200 := by omega
    have OW := Lib.hid hown
    have hXV : vrB X = true := by rw [← hX]; exact can_vr (HXV.out k) (by omega)
    have hrl : (regX a b x y lev L k).length ≤ 1200 := by omega
    clear hown hX hbr hcl hxl
    by_cases hlt : k < n
    · obtain ⟨bb, off, rfl, hbb, x0, x1, x2⟩ := RD.out.elem hlt
      have z0 := (BX.out.cell (p := ⟨bb, off + k * 3, none⟩) hbb).trans x0
      have z1 := (BX.out.cell (p := ⟨bb, off + k * 3 + 1, none⟩) hbb).trans x1
      have z2 := (BX.out.cell (p := ⟨bb, off + k * 3 + 2, none⟩) hbb).trans x2
      have hcm : gt L k ∈ L := by simp [gt, show k < L.length by rw [HN.out]; exact hlt]
      have hcv := HAV.out _ hcm
      have KC := fun W => moved_any (gt L k).1 (gt L k).2.1 (gt L k).2.2 a b x y W ((vl_iff _).2 hcv) HSA.out HSX.out
      have hmv := mvV_eq (bxI (gt L k)) a b x y
      rw [show mvV (edg (gt L k).2.1 (gt L k).1 - 5400000) (edg ((gt L k).2.1 + 1) (gt L k).1 - 5400000) (edg (gt L k).2.2 (gt L k).1 - 10800000) (edg ((gt L k).2.2 + 1) (gt L k).1 - 10800000) a b x y = _ from hmv] at KC
      have hfx := bx_facts hcv
      have hvp := fun h => mvBox_vp (q := bxI (gt L k)) (a := a) (b := b) (x := x) (y := y) (bx_vp hcv) hfx.2.2.2.2.1 hsa.2.1 h
      obtain ⟨at1, a0, a1, -, -⟩ := DA3.out
      obtain ⟨at2, a2, a3, -, -⟩ := DX3.out
      have hz := BR.out.size
      by_cases hlk : k < k0
      · obtain ⟨hE0, hmost⟩ := OK.out k hlk
        have hvp0 := hvp hE0
        rw [hE0] at KC
        have hxs := regX_succ a b x y lev L k (by rw [HN.out]; exact hlt)
        have hmk := mk_can (HXV.out k) (HYV.out (gt L k)) (by omega)
        rw [← hxs, HX.out] at hmk
        have hYl := canonC_len _ (HYV.out (gt L k))
        have KA0 := fun (p0 p1 p2 p3 : Int) (hp : mvBox (bxI (gt L k)) a b x y = (p0, p1, p2, p3)) W => Around_yes p0 p1 p2 p3 lev W (by rw [← hp]; exact hvp0) H0.out H16.out (by rw [← hp]; have : (arnA (mtP (mvBox (bxI (gt L k)) a b x y)) lev).length = (arnM a b x y lev (gt L k)).length := rfl; omega)
        have KA : ∀ W, Calls Tryz.prog 28 #[.agg #[.int .i64 (mvBox (bxI (gt L k)) a b x y).1, .int .i64 (mvBox (bxI (gt L k)) a b x y).2.1, .int .i64 (mvBox (bxI (gt L k)) a b x y).2.2.1, .int .i64 (mvBox (bxI (gt L k)) a b x y).2.2.2], .int .i64 lev] W (RetCells W (canonC (covL (arnM a b x y lev (gt L k)))) 0) := fun W => KA0 _ _ _ _ rfl W
        obtain ⟨Y, hY⟩ : ∃ Y, canonC (covL (arnM a b x y lev (gt L k))) = Y := ⟨_, rfl⟩
        obtain ⟨Z, hZ⟩ : ∃ Z, canonC (covL (regX a b x y lev L (k + 1))) = Z := ⟨_, rfl⟩
        rw [hY] at KA hmk hYl
        rw [hZ] at hmk
        have hYl2 : Y.length ≤ 60 := by omega
        have HZ := Lib.hid hZ
        have HMK := Lib.hid hmk
        generalize mvBox (bxI (gt L k)) a b x y = pb at KC KA
        obtain ⟨c, hc⟩ : ∃ c, gt L k = c := ⟨_, rfl⟩
        rw [hc] at z0 z1 z2 KC
        clear x0 x1 x2 hcm hcv hmv hfx hvp hE0 hmost hvp0 hxs hmk hYl KA0 hY hZ hc
        obtain ⟨l, r, c⟩ := c
        obtain ⟨p0, p1, p2, p3⟩ := pb
        simp only [] at z0 z1 z2 KC KA
        have KC := Lib.hid KC
        have KA := Lib.hid KA
        go_wp2_with fail
        (with_reducible refine (KC.out _).mono ?_)
        rintro e w3 ⟨rfl, hb3⟩
        have bl3 := one_bl hb3
        have BR3 := Lib.hid (BR.out.trans (bl3.mono hz))
        have OW3 := Lib.hid (own_bl OW.out bl3 (Nat.le_refl _))
        have hz3 := BR3.out.size
        have q0 := bl_alloc w3 (.cells #[.int .i64 p0, .int .i64 p1, .int .i64 p2, .int .i64 p3] 43)
        have BR4 := Lib.hid (BR3.out.alloc hz3 (.cells #[.int .i64 p0, .int .i64 p1, .int .i64 p2, .int .i64 p3] 43))
        have OW4 := Lib.hid (own_bl OW3.out q0 (Nat.le_refl _))
        clear bl3 hb3 q0 z0 z1 z2 a0 a1 a2 a3 OW OW3 BR3
        go_wp2_with fail
        (with_reducible refine (KA.out _).mono ?_)
        rintro e w4 ⟨v4, rfl, hown4, hb4⟩
        have BR5 := Lib.hid (BR4.out.trans (hb4.mono BR4.out.size))
        have OW5 := Lib.hid (own_bl OW4.out hb4 (Nat.le_refl _))
        obtain ⟨A4, c4, rfl, hr4, -, -⟩ := own_form hown4
        obtain ⟨A5, c5, hu5, hr5, -, -⟩ := own_form OW5.out
        have KU := Union_any A5 A4 X.length Y.length c5 c4 X Y w4 hr5 hr4 (by simp only [maxLen]; omega) (by simp only [maxLen]; omega)
        rw [HMK.out.1, HMK.out.2] at KU
        have KU := Lib.hid KU
        have hz5 := BR5.out.size
        subst hu5
        clear hown4 hb4 hr4 hr5 OW4 BR4 OW5
        go_wp2_with fail
        (with_reducible refine (KU.out).mono ?_)
        rintro e w6 ⟨v6, rfl, hown6, hb6⟩
        have BR6 := Lib.hid (BR5.out.trans (hb6.mono hz5))
        have OW6 := Lib.hid (own_mono hown6 hz5)
        clear hown6 hb6 BR5
        go_wp2
        go_roundg (n - (k + 1))
        case measure => omega
        case rel => exact ⟨k + 1, v6, by omega, hlk, by go_num, rfl, rfl, by rw [HZ.out]; exact OW6.out, BR6.out⟩
      · obtain rfl : k = k0 := by omega
        have hE : E ≠ 0 ∧ mvErr (bxI (gt L k)) a b x y = E := by
          rcases EN.out with ⟨e1, -⟩ | ⟨-, e2, e3⟩
          · rw [HN.out] at e1; omega
          · exact ⟨e2, e3⟩
        have hbn : (E != (0 : Int)) = true := by simpa using hE.1
        have hRn : R = [] := by rw [← HRV.out]; unfold regV; rw [if_neg hE.1]
        have HE := Lib.hid hE.1
        rw [hE.2] at KC
        subst hRn
        generalize mvBox (bxI (gt L k)) a b x y = pb at KC
        obtain ⟨c, hc⟩ : ∃ c, gt L k = c := ⟨_, rfl⟩
        rw [hc] at z0 z1 z2 KC
        clear x0 x1 x2 hcm hcv hmv hfx hvp hE hc HRV
        obtain ⟨l, r, c⟩ := c
        obtain ⟨p0, p1, p2, p3⟩ := pb
        simp only [] at z0 z1 z2 KC
        have KC := Lib.hid KC
        go_wp2_with fail
        (with_reducible refine (KC.out _).mono ?_)
        rintro e w3 ⟨rfl, hb3⟩
        have BX3 := Lib.hid ((BX.out.trans ((one_bl hb3).mono BX.out.size)).alloc (by have := BX.out.size; have := (one_bl hb3).size; omega) (.cells #[.int .i64 p0, .int .i64 p1, .int .i64 p2, .int .i64 p3] 43))
        clear hb3 z0 z1 z2 a0 a1 a2 a3 OW
        go_wp2
        go_ret2
        exact ⟨_, rfl, own_nil _ _ _ _, BX3.out⟩
    · have hk2 : k = n := by omega
      have hk3 : k = k0 := by have := HK0.out; omega
      have hE0 : E = 0 := by
        rcases EN.out with ⟨-, e⟩ | ⟨e1, -, -⟩
        · exact e
        · rw [HN.out] at e1; omega
      subst hE0
      have hRX : R = X := by rw [← HRV.out, ← HX.out]; unfold regV; rw [if_pos rfl, HN.out, hk2]
      subst hRX
      obtain ⟨A9, c9, rfl, -, -, -⟩ := own_form OW.out
      have OW9 := Lib.hid (own_mono OW.out hs2)
      clear OW
      go_wp2
      go_ret2
      exact ⟨_, rfl, OW9.out, BX.out⟩
set_option maxHeartbeats 2000000 in
theorem opposite_any (a b : Int) (w : World) (h : smB a b = true) : Calls Tryz.prog 85 #[.agg #[.int .i64 a, .int .i64 b]] w fun e w' => e = .returned (.agg #[.int .i64 (-b), .int .i64 (-a)]) ∧ Below w.heap.size w w' := by
  rw [sm_iff] at h
  have e0 : wrap64 (-a) = -a := IntWalk.wrap64_in _ (by omega)
  have e1 : wrap64 (-b) = -b := IntWalk.wrap64_in _ (by omega)
  go_enter Tryz.func85, Tryz.ntmps85
  go_wp2
  refine bodyPost_ret (v := .agg #[.int .i64 (-b), .int .i64 (-a)]) (by simp [results, Tryz.results85, go_sem, *]; done) rfl ⟨rfl, ?_⟩
  repeat (first | exact Below.refl _ _ | assumption | refine bl_drew ?_ | refine bl_drewN ?_ _ | refine Below.setCell ?_ (by first | assumption | omega | (simp; done) | (simp; omega)) _ | refine Below.alloc ?_ (by first | assumption | omega | (simp; done) | (simp; omega)) _)
set_option maxHeartbeats 4000000 in
set_option maxRecDepth 100000 in
theorem Back_bad (A : Option Addr) (n ca : Nat) (L : List Cl) (a b x y lev : Int) (w : World) (hr : Reads w w.heap.size 3 A n (cvs L)) (hn : n ≤ ca) (hca : ca ≤ maxLen) (hg : gvE L a b x y lev = 1) :
    Calls Tryz.prog 40 #[.slice A n ca, .agg #[.int .i64 a, .int .i64 b], .agg #[.int .i64 x, .int .i64 y], .int .i64 lev] w (RetCells w [] 1) := by
  have RD := Lib.hid hr
  have B0 := (bl_alloc w (.cells #[.int .i64 a, .int .i64 b] 32)).alloc (by simp) (.cells #[.int .i64 x, .int .i64 y] 32)
  have KV := fun (W : World) (hW : Below w.heap.size w W) => ValidRegion_any A n ca L W ((RD.out.below hW).more hW.size) (Nat.le_trans hn hca)
  have KM := fun W => movement_any a b x y W
  have DA := Lib.hid ((D2.new w a b 32).alloc (.cells #[.int .i64 x, .int .i64 y] 32))
  have dx := D2.new (w.alloc (.cells #[.int .i64 a, .int .i64 b] 32)) x y 32
  rw [World.size_alloc] at dx
  have DX := Lib.hid dx
  have B0 := Lib.hid B0
  clear hr dx
  rw [gvE_one] at hg
  cases hv : vrB L with
  | false =>
    rw [hv] at KV
    have KV := Lib.hid KV
    clear hg hv KM
    go_enter Tryz.func40, Tryz.ntmps40
    go_wp2_with fail
    (with_reducible refine (KV.out _ B0.out).mono ?_)
    rintro e w1 ⟨rfl, hb1⟩
    have B1 := Lib.hid (B0.out.trans (hb1.mono B0.out.size))
    clear hb1 DA DX
    go_wp2
    go_ret2
    exact ⟨_, rfl, own_nil _ _ _ _, B1.out⟩
  | true =>
    rw [hv, Bool.true_and] at hg
    rw [hv] at KV
    rw [hg] at KM
    have KV := Lib.hid KV
    have KM := Lib.hid KM
    clear hg hv
    go_enter Tryz.func40, Tryz.ntmps40
    go_wp2_with fail
    (with_reducible refine (KV.out _ B0.out).mono ?_)
    rintro e w1 ⟨rfl, hb1⟩
    have B1 := Lib.hid (B0.out.trans (hb1.mono B0.out.size))
    obtain ⟨-, p0, p1, -, -⟩ := DA.out.below hb1 DA.out.lt
    obtain ⟨-, p2, p3, -, -⟩ := DX.out.below hb1 DX.out.lt
    clear hb1
    go_wp2_with fail
    (with_reducible refine (KM.out _).mono ?_)
    rintro e w2 ⟨rfl, hb2⟩
    have B2 := Lib.hid (B1.out.trans (hb2.mono B1.out.size))
    clear hb2
    go_wp2
    go_ret2
    exact ⟨_, rfl, own_nil _ _ _ _, B2.out⟩
set_option maxHeartbeats 4000000 in
set_option maxRecDepth 100000 in
theorem Back_yes (A : Option Addr) (n ca : Nat) (L : List Cl) (a b x y lev E : Int) (R : List Cl) (w : World) (hr : Reads w w.heap.size 3 A n (cvs L)) (hn : n ≤ ca) (hca : ca ≤ maxLen) (hv : vrB L = true) (ha : smB a b = true) (hx : smB x y = true)
    (hreg : ∀ W, Below w.heap.size w W → Calls Tryz.prog 37 #[.slice A n ca, .agg #[.int .i64 (-b), .int .i64 (-a)], .agg #[.int .i64 (-y), .int .i64 (-x)], .int .i64 lev] W (RetCells W R E)) :
    Calls Tryz.prog 40 #[.slice A n ca, .agg #[.int .i64 a, .int .i64 b], .agg #[.int .i64 x, .int .i64 y], .int .i64 lev] w (RetCells w R E) := by
  have RD := Lib.hid hr
  have B0 := (bl_alloc w (.cells #[.int .i64 a, .int .i64 b] 32)).alloc (by simp) (.cells #[.int .i64 x, .int .i64 y] 32)
  have KV := Lib.hid (fun (W : World) (hW : Below w.heap.size w W) => vr_yes A n ca L true hv W ((RD.out.below hW).more hW.size) (Nat.le_trans hn hca))
  have KM := fun W => movement_any a b x y W
  rw [ha, hx] at KM
  simp only [Bool.and_self] at KM
  have KM := Lib.hid KM
  have KO1 := Lib.hid (fun W => opposite_any a b W ha)
  have KO2 := Lib.hid (fun W => opposite_any x y W hx)
  have KR := Lib.hid hreg
  have DA := Lib.hid ((D2.new w a b 32).alloc (.cells #[.int .i64 x, .int .i64 y] 32))
  have dx := D2.new (w.alloc (.cells #[.int .i64 a, .int .i64 b] 32)) x y 32
  rw [World.size_alloc] at dx
  have DX := Lib.hid dx
  have B0 := Lib.hid B0
  clear hr dx hv ha hx hreg
  go_enter Tryz.func40, Tryz.ntmps40
  go_wp2_with fail
  (with_reducible refine (KV.out _ B0.out).mono ?_)
  rintro e w1 ⟨rfl, hb1⟩
  have B1 := Lib.hid (B0.out.trans (hb1.mono B0.out.size))
  have DA1 := Lib.hid (DA.out.below hb1 DA.out.lt)
  have DX1 := Lib.hid (DX.out.below hb1 DX.out.lt)
  obtain ⟨-, p0, p1, -, -⟩ := DA1.out
  obtain ⟨-, p2, p3, -, -⟩ := DX1.out
  clear hb1 DA DX
  go_wp2_with fail
  (with_reducible refine (KM.out _).mono ?_)
  rintro e w2 ⟨rfl, hb2⟩
  have B2 := Lib.hid (B1.out.trans (hb2.mono B1.out.size))
  have DA2 := Lib.hid (DA1.out.below hb2 DA1.out.lt)
  have DX2 := Lib.hid (DX1.out.below hb2 DX1.out.lt)
  clear hb2 DA1 DX1 B1 B0 KV KM p0 p1 p2 p3
  go_upto_region 3 with (fail)
  refine wp_region_inv3 (by kernel_rfl) (BkI (R) (E) w2 (.slice A n ca) (.agg #[.int .i64 a, .int .i64 b]) (.agg #[.int .i64 (-b), .int .i64 (-a)]) (.agg #[.int .i64 x, .int .i64 y]) (.agg #[.int .i64 (-y), .int .i64 (-x)]) (.int .i64 lev)) (waits_bind (by kernel_rfl)) ?start ?step ?fin
  case start => exact BkI.start _
  case step =>
    rintro M i o a1' w' ho hL haf ⟨v19, v20, v21, v22, v23, v24, v25, v26, v27, v8, v9, u9, rfl, hT, e6, e7, e8, e9, e10, e0, e1, e2, e3, e4, e5⟩
    have HT := Lib.hid hT
    have E6 := Lib.hid e6
    have E7 := Lib.hid e7
    have E8 := Lib.hid e8
    have E9 := Lib.hid e9
    have E10 := Lib.hid e10
    have E0 := Lib.hid e0
    have E1 := Lib.hid e1
    have E2 := Lib.hid e2
    have E3 := Lib.hid e3
    have E4 := Lib.hid e4
    have E5 := Lib.hid e5
    clear hT e6 e7 e8 e9 e10 e0 e1 e2 e3 e4 e5
    rcases i with _ | _ | _ | _ | _ | _ | _ | _ | _ | _ | _ | i
    all_goals (simp at ho; try subst ho)
    all_goals (try simp [Region.binds] at haf)
    · go_wp2
      unfold BkI
      exact ⟨(.slice A n ca), v20, v21, v22, v23, v24, v25, v26, v27, v8, v9, u9, by simp only [Act.put, List.setIfInBounds_toArray, List.set_cons_zero, List.set_cons_succ], HT.out, fun h => (by have q := E6.out (by simpa [mkd] using h); exact ⟨q.1, q.2⟩), fun h => (by have q := E7.out (by simpa [mkd] using h); exact ⟨by simpa [mkd] using q.1, q.2⟩), fun h => (by have q := E8.out (by simpa [mkd] using h); exact ⟨by simpa [mkd] using q.1, q.2⟩), fun h => (by have q := E9.out (by simpa [mkd] using h); exact ⟨by simpa [mkd] using q.1, q.2⟩), fun h => (by have q := E10.out (by simpa [mkd] using h); exact ⟨by simpa [mkd] using q.1, q.2⟩), fun _ => rfl, fun h => E1.out (by simpa [mkd] using h), fun h => E2.out (by simpa [mkd] using h), fun h => E3.out (by simpa [mkd] using h), fun h => E4.out (by simpa [mkd] using h), fun h => E5.out (by simpa [mkd] using h)⟩
    · obtain ⟨-, f0, f1, -, -⟩ := DA2.out.below HT.out DA2.out.lt
      go_wp2
      unfold BkI
      exact ⟨v19, (.agg #[.int .i64 a, .int .i64 b]), v21, v22, v23, v24, v25, v26, v27, v8, v9, u9, by simp only [Act.put, List.setIfInBounds_toArray, List.set_cons_zero, List.set_cons_succ], HT.out, fun h => (by have q := E6.out (by simpa [mkd] using h); exact ⟨q.1, q.2⟩), fun h => (by have q := E7.out (by simpa [mkd] using h); exact ⟨by simpa [mkd] using q.1, q.2⟩), fun h => (by have q := E8.out (by simpa [mkd] using h); exact ⟨by simpa [mkd] using q.1, q.2⟩), fun h => (by have q := E9.out (by simpa [mkd] using h); exact ⟨by simpa [mkd] using q.1, q.2⟩), fun h => (by have q := E10.out (by simpa [mkd] using h); exact ⟨by simpa [mkd] using q.1, q.2⟩), fun h => E0.out (by simpa [mkd] using h), fun _ => rfl, fun h => E2.out (by simpa [mkd] using h), fun h => E3.out (by simpa [mkd] using h), fun h => E4.out (by simpa [mkd] using h), fun h => E5.out (by simpa [mkd] using h)⟩
    · obtain rfl := (E1.out (by simp [haf])).symm
      go_wp2_with fail
      (with_reducible refine (KO1.out _).mono ?_)
      rintro e w9 ⟨rfl, hb9⟩
      go_wp2
      unfold BkI
      exact ⟨v19, (.agg #[.int .i64 a, .int .i64 b]), (.agg #[.int .i64 (-b), .int .i64 (-a)]), v22, v23, v24, v25, v26, v27, v8, v9, u9, by simp only [Act.put, List.setIfInBounds_toArray, List.set_cons_zero, List.set_cons_succ], HT.out.trans ((hb9).mono HT.out.size), fun h => (by have q := E6.out (by simpa [mkd] using h); exact ⟨q.1, own_bl q.2 (hb9) (Nat.le_refl _)⟩), fun h => (by have q := E7.out (by simpa [mkd] using h); exact ⟨by simpa [mkd] using q.1, q.2⟩), fun h => (by have q := E8.out (by simpa [mkd] using h); exact ⟨by simpa [mkd] using q.1, q.2⟩), fun h => (by have q := E9.out (by simpa [mkd] using h); exact ⟨by simpa [mkd] using q.1, q.2⟩), fun h => (by have q := E10.out (by simpa [mkd] using h); exact ⟨by simpa [mkd] using q.1, q.2⟩), fun h => E0.out (by simpa [mkd] using h), fun _ => rfl, fun _ => rfl, fun h => E3.out (by simpa [mkd] using h), fun h => E4.out (by simpa [mkd] using h), fun h => E5.out (by simpa [mkd] using h)⟩
    · obtain ⟨-, f0, f1, -, -⟩ := DX2.out.below HT.out DX2.out.lt
      go_wp2
      unfold BkI
      exact ⟨v19, v20, v21, (.agg #[.int .i64 x, .int .i64 y]), v23, v24, v25, v26, v27, v8, v9, u9, by simp only [Act.put, List.setIfInBounds_toArray, List.set_cons_zero, List.set_cons_succ], HT.out, fun h => (by have q := E6.out (by simpa [mkd] using h); exact ⟨q.1, q.2⟩), fun h => (by have q := E7.out (by simpa [mkd] using h); exact ⟨by simpa [mkd] using q.1, q.2⟩), fun h => (by have q := E8.out (by simpa [mkd] using h); exact ⟨by simpa [mkd] using q.1, q.2⟩), fun h => (by have q := E9.out (by simpa [mkd] using h); exact ⟨by simpa [mkd] using q.1, q.2⟩), fun h => (by have q := E10.out (by simpa [mkd] using h); exact ⟨by simpa [mkd] using q.1, q.2⟩), fun h => E0.out (by simpa [mkd] using h), fun h => E1.out (by simpa [mkd] using h), fun h => E2.out (by simpa [mkd] using h), fun _ => rfl, fun h => E4.out (by simpa [mkd] using h), fun h => E5.out (by simpa [mkd] using h)⟩
    · obtain rfl := (E3.out (by simp [haf])).symm
      go_wp2_with fail
      (with_reducible refine (KO2.out _).mono ?_)
      rintro e w9 ⟨rfl, hb9⟩
      go_wp2
      unfold BkI
      exact ⟨v19, v20, v21, (.agg #[.int .i64 x, .int .i64 y]), (.agg #[.int .i64 (-y), .int .i64 (-x)]), v24, v25, v26, v27, v8, v9, u9, by simp only [Act.put, List.setIfInBounds_toArray, List.set_cons_zero, List.set_cons_succ], HT.out.trans ((hb9).mono HT.out.size), fun h => (by have q := E6.out (by simpa [mkd] using h); exact ⟨q.1, own_bl q.2 (hb9) (Nat.le_refl _)⟩), fun h => (by have q := E7.out (by simpa [mkd] using h); exact ⟨by simpa [mkd] using q.1, q.2⟩), fun h => (by have q := E8.out (by simpa [mkd] using h); exact ⟨by simpa [mkd] using q.1, q.2⟩), fun h => (by have q := E9.out (by simpa [mkd] using h); exact ⟨by simpa [mkd] using q.1, q.2⟩), fun h => (by have q := E10.out (by simpa [mkd] using h); exact ⟨by simpa [mkd] using q.1, q.2⟩), fun h => E0.out (by simpa [mkd] using h), fun h => E1.out (by simpa [mkd] using h), fun h => E2.out (by simpa [mkd] using h), fun _ => rfl, fun _ => rfl, fun h => E5.out (by simpa [mkd] using h)⟩
    · go_wp2
      unfold BkI
      exact ⟨v19, v20, v21, v22, v23, (.int .i64 lev), v25, v26, v27, v8, v9, u9, by simp only [Act.put, List.setIfInBounds_toArray, List.set_cons_zero, List.set_cons_succ], HT.out, fun h => (by have q := E6.out (by simpa [mkd] using h); exact ⟨q.1, q.2⟩), fun h => (by have q := E7.out (by simpa [mkd] using h); exact ⟨by simpa [mkd] using q.1, q.2⟩), fun h => (by have q := E8.out (by simpa [mkd] using h); exact ⟨by simpa [mkd] using q.1, q.2⟩), fun h => (by have q := E9.out (by simpa [mkd] using h); exact ⟨by simpa [mkd] using q.1, q.2⟩), fun h => (by have q := E10.out (by simpa [mkd] using h); exact ⟨by simpa [mkd] using q.1, q.2⟩), fun h => E0.out (by simpa [mkd] using h), fun h => E1.out (by simpa [mkd] using h), fun h => E2.out (by simpa [mkd] using h), fun h => E3.out (by simpa [mkd] using h), fun h => E4.out (by simpa [mkd] using h), fun _ => rfl⟩
    · obtain rfl := (E0.out (by simp [haf])).symm
      obtain rfl := (E2.out (by simp [haf])).symm
      obtain rfl := (E4.out (by simp [haf])).symm
      obtain rfl := (E5.out (by simp [haf])).symm
      go_wp2_with fail
      (with_reducible refine (KR.out _ (B2.out.trans (HT.out.mono B2.out.size))).mono ?_)
      rintro e w9 ⟨vv9, rfl, hown9, hb9⟩
      have HO9 := Lib.hid hown9
      clear hown9
      go_wp2
      unfold BkI
      exact ⟨(.slice A n ca), v20, (.agg #[.int .i64 (-b), .int .i64 (-a)]), v22, (.agg #[.int .i64 (-y), .int .i64 (-x)]), (.int .i64 lev), (.tuple #[vv9, .int .i64 E]), v26, v27, v8, v9, vv9, by simp only [Act.put, List.setIfInBounds_toArray, List.set_cons_zero, List.set_cons_succ], HT.out.trans ((hb9).mono HT.out.size), fun _ => ⟨rfl, own_mono HO9.out HT.out.size⟩, fun h => (by have q := (E7.out (by simpa [mkd] using h)).1; rw [hL] at q; cases q), fun h => (by have q := (E8.out (by simpa [mkd] using h)).1; rw [hL] at q; cases q), fun h => (by have q := (E9.out (by simpa [mkd] using h)).1; rw [hL] at q; cases q), fun h => (by have q := (E10.out (by simpa [mkd] using h)).1; rw [hL] at q; cases q), fun _ => rfl, fun h => E1.out (by simpa [mkd] using h), fun _ => rfl, fun h => E3.out (by simpa [mkd] using h), fun _ => rfl, fun _ => rfl⟩
    · obtain ⟨rfl, hpost⟩ := E6.out (by simp [haf])
      clear hpost
      have hE : M 6 = true := by have q : M 6 = true := (by simp [haf]); first | exact q | exact (E6.out q).1
      go_wp2
      unfold BkI
      exact ⟨v19, v20, v21, v22, v23, v24, (.tuple #[u9, .int .i64 E]), (u9), v27, v8, v9, u9, by simp only [Act.put, List.setIfInBounds_toArray, List.set_cons_zero, List.set_cons_succ], HT.out, fun h => (by have q := E6.out (by simpa [mkd] using h); exact ⟨rfl, q.2⟩), fun _ => ⟨by simpa [mkd] using hE, rfl⟩, fun h => (by have q := E8.out (by simpa [mkd] using h); exact ⟨by simpa [mkd] using q.1, q.2⟩), fun h => (by have q := E9.out (by simpa [mkd] using h); exact ⟨by simpa [mkd] using q.1, q.2⟩), fun h => (by have q := E10.out (by simpa [mkd] using h); exact ⟨by simpa [mkd] using q.1, q.2⟩), fun h => E0.out (by simpa [mkd] using h), fun h => E1.out (by simpa [mkd] using h), fun h => E2.out (by simpa [mkd] using h), fun h => E3.out (by simpa [mkd] using h), fun h => E4.out (by simpa [mkd] using h), fun h => E5.out (by simpa [mkd] using h)⟩
    · obtain ⟨rfl, hpost⟩ := E6.out (by simp [haf])
      clear hpost
      have hE : M 6 = true := by have q : M 6 = true := (by simp [haf]); first | exact q | exact (E6.out q).1
      go_wp2
      unfold BkI
      exact ⟨v19, v20, v21, v22, v23, v24, (.tuple #[u9, .int .i64 E]), v26, (.int .i64 E), v8, v9, u9, by simp only [Act.put, List.setIfInBounds_toArray, List.set_cons_zero, List.set_cons_succ], HT.out, fun h => (by have q := E6.out (by simpa [mkd] using h); exact ⟨rfl, q.2⟩), fun h => (by have q := E7.out (by simpa [mkd] using h); exact ⟨by simpa [mkd] using q.1, q.2⟩), fun _ => ⟨by simpa [mkd] using hE, rfl⟩, fun h => (by have q := E9.out (by simpa [mkd] using h); exact ⟨by simpa [mkd] using q.1, q.2⟩), fun h => (by have q := E10.out (by simpa [mkd] using h); exact ⟨by simpa [mkd] using q.1, q.2⟩), fun h => E0.out (by simpa [mkd] using h), fun h => E1.out (by simpa [mkd] using h), fun h => E2.out (by simpa [mkd] using h), fun h => E3.out (by simpa [mkd] using h), fun h => E4.out (by simpa [mkd] using h), fun h => E5.out (by simpa [mkd] using h)⟩
    · obtain rfl := (E7.out (by simp [haf])).2.symm
      have hE : M 6 = true := by have q : M 7 = true := (by simp [haf]); first | exact q | exact (E7.out q).1
      go_wp2
      unfold BkI
      exact ⟨v19, v20, v21, v22, v23, v24, v25, (u9), v27, (u9), v9, u9, by simp only [Act.put, List.setIfInBounds_toArray, List.set_cons_zero, List.set_cons_succ], HT.out, fun h => (by have q := E6.out (by simpa [mkd] using h); exact ⟨q.1, q.2⟩), fun h => (by have q := E7.out (by simpa [mkd] using h); exact ⟨by simpa [mkd] using q.1, rfl⟩), fun h => (by have q := E8.out (by simpa [mkd] using h); exact ⟨by simpa [mkd] using q.1, q.2⟩), fun _ => ⟨by simpa [mkd] using hE, rfl⟩, fun h => (by have q := E10.out (by simpa [mkd] using h); exact ⟨by simpa [mkd] using q.1, q.2⟩), fun h => E0.out (by simpa [mkd] using h), fun h => E1.out (by simpa [mkd] using h), fun h => E2.out (by simpa [mkd] using h), fun h => E3.out (by simpa [mkd] using h), fun h => E4.out (by simpa [mkd] using h), fun h => E5.out (by simpa [mkd] using h)⟩
    · obtain rfl := (E8.out (by simp [haf])).2.symm
      have hE : M 6 = true := by have q : M 8 = true := (by simp [haf]); first | exact q | exact (E8.out q).1
      go_wp2
      unfold BkI
      exact ⟨v19, v20, v21, v22, v23, v24, v25, v26, (.int .i64 E), v8, (.int .i64 E), u9, by simp only [Act.put, List.setIfInBounds_toArray, List.set_cons_zero, List.set_cons_succ], HT.out, fun h => (by have q := E6.out (by simpa [mkd] using h); exact ⟨q.1, q.2⟩), fun h => (by have q := E7.out (by simpa [mkd] using h); exact ⟨by simpa [mkd] using q.1, q.2⟩), fun h => (by have q := E8.out (by simpa [mkd] using h); exact ⟨by simpa [mkd] using q.1, rfl⟩), fun h => (by have q := E9.out (by simpa [mkd] using h); exact ⟨by simpa [mkd] using q.1, q.2⟩), fun _ => ⟨by simpa [mkd] using hE, rfl⟩, fun h => E0.out (by simpa [mkd] using h), fun h => E1.out (by simpa [mkd] using h), fun h => E2.out (by simpa [mkd] using h), fun h => E3.out (by simpa [mkd] using h), fun h => E4.out (by simpa [mkd] using h), fun h => E5.out (by simpa [mkd] using h)⟩
  case fin =>
    rintro M a1' w8 hall ⟨v19, v20, v21, v22, v23, v24, v25, v26, v27, v8, v9, u9, rfl, hT, e6, e7, e8, e9, e10, e0, e1, e2, e3, e4, e5⟩
    obtain rfl := (e0 (hall 0 (by decide))).symm
    obtain rfl := (e1 (hall 1 (by decide))).symm
    obtain rfl := (e2 (hall 2 (by decide))).symm
    obtain rfl := (e3 (hall 3 (by decide))).symm
    obtain rfl := (e4 (hall 4 (by decide))).symm
    obtain rfl := (e5 (hall 5 (by decide))).symm
    obtain ⟨rfl, hpost⟩ := e6 (hall 6 (by decide))
    obtain rfl := (e7 (hall 7 (by decide))).2.symm
    obtain rfl := (e8 (hall 8 (by decide))).2.symm
    obtain rfl := (e9 (hall 9 (by decide))).2.symm
    obtain rfl := (e10 (hall 10 (by decide))).2.symm
    have B3 := Lib.hid (B2.out.trans (hT.mono B2.out.size))
    have OW := Lib.hid (own_mono hpost B2.out.size)
    clear hT hpost
    go_wp2
    go_ret2
    exact ⟨_, rfl, OW.out, B3.out⟩
end Go.Proofs.YtnbbemlchchmoaaGreat
