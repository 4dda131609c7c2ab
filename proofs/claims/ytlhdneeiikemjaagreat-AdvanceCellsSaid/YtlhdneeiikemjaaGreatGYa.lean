/- The walk of the reference's Part. -/
import Derived.Test.YtlhdneeiikemjaaGreatGVj
import Derived.Test.YtlhdneeiikemjaaGreatGBase
set_option linter.unusedVariables false
set_option linter.unusedSimpArgs false
/- The walk of cells.part. -/
namespace Go.Proofs.YtlhdneeiikemjaaGreat
open Go.RowKit
/-- four cells that are known -/
structure D4 (W : World) (g : Nat) (a b c d : Int) : Prop where
  lt : g < W.heap.size
  c0 : W.cell? ⟨g, 0, none⟩ = some (.int .i64 a)
  c1 : W.cell? ⟨g, 1, none⟩ = some (.int .i64 b)
  c2 : W.cell? ⟨g, 2, none⟩ = some (.int .i64 c)
  c3 : W.cell? ⟨g, 3, none⟩ = some (.int .i64 d)
  f0 : W.frozen? ⟨g, 0, none⟩ = false
  f1 : W.frozen? ⟨g, 1, none⟩ = false
  f2 : W.frozen? ⟨g, 2, none⟩ = false
  f3 : W.frozen? ⟨g, 3, none⟩ = false
section
variable {W W' : World} {g : Nat} {a b c d : Int}
theorem D4.below {B : Nat} (h : D4 W g a b c d) (hb : Below B W W') (hB : g < B) : D4 W' g a b c d :=
  ⟨Nat.lt_of_lt_of_le h.lt hb.size, (hb.cell (p := ⟨g, 0, none⟩) hB).trans h.c0, (hb.cell (p := ⟨g, 1, none⟩) hB).trans h.c1, (hb.cell (p := ⟨g, 2, none⟩) hB).trans h.c2, (hb.cell (p := ⟨g, 3, none⟩) hB).trans h.c3,
   (hb.frozen (p := ⟨g, 0, none⟩) hB).trans h.f0, (hb.frozen (p := ⟨g, 1, none⟩) hB).trans h.f1, (hb.frozen (p := ⟨g, 2, none⟩) hB).trans h.f2, (hb.frozen (p := ⟨g, 3, none⟩) hB).trans h.f3⟩
theorem D4.alloc (h : D4 W g a b c d) (o : Obj) : D4 (W.alloc o) g a b c d := h.below (bl_alloc W o) h.lt
theorem D4.new (W : World) (a b c d : Int) (t : TypeId) : D4 (W.alloc (.cells #[.int .i64 a, .int .i64 b, .int .i64 c, .int .i64 d] t)) W.heap.size a b c d := ⟨by simp, by simp, by simp, by simp, by simp, by simp, by simp, by simp, by simp⟩
end
/-- the height and the width of a cell, as intervals -/
def htL (r l : Int) : Int := Trig.enLo (edg (r + 1) l - 5400000) (edg (r + 1) l - 5400000) - Trig.enHi (edg r l - 5400000) (edg r l - 5400000)
def htH (r l : Int) : Int := Trig.enHi (edg (r + 1) l - 5400000) (edg (r + 1) l - 5400000) - Trig.enLo (edg r l - 5400000) (edg r l - 5400000)
def wdL (c l : Int) : Int := (edg (c + 1) l - edg c l) * 1073741824 / 43200000
def wdH (c l : Int) : Int := -(-((edg (c + 1) l - edg c l) * 1073741824) / 43200000)
def mulL (a b c d : Int) : Int := min (a * c) (min (a * d) (min (b * c) (b * d))) / 1073741824
def mulH (a b c d : Int) : Int := -(-(max (a * c) (max (a * d) (max (b * c) (b * d)))) / 1073741824)
def partL (l r c : Int) : Int := mulL (htL r l) (htH r l) (wdL c l) (wdH c l)
def partH (l r c : Int) : Int := mulH (htL r l) (htH r l) (wdL c l) (wdH c l)
theorem ht_ok (r l : Int) : fvB (htL r l) (htH r l) = true := by
  have h1 := Trig.en_bd (edg (r + 1) l - 5400000)
  have h2 := Trig.en_bd (edg r l - 5400000)
  rw [fv_iff]; unfold htL htH; omega
theorem en_fv (n : Int) : fvB (Trig.enLo n n) (Trig.enHi n n) = true := by
  have h1 := Trig.en_bd n
  rw [fv_iff]; omega
theorem edg_next {i l : Int} (h1 : l ≤ 16) : edg i l ≤ edg (i + 1) l := by
  have hp := pw_bd h1
  unfold edg
  exact Int.ediv_le_ediv (by omega) (by omega)
theorem wd_ok {c l : Int} (h1 : l ≤ 16) (h2 : 0 ≤ c) (h3 : c + 1 ≤ 2 * pw l) : fvB (wdL c l) (wdH c l) = true ∧ 0 ≤ edg (c + 1) l - edg c l ∧ edg (c + 1) l - edg c l ≤ 21600000 := by
  have b1 := edg_bd (i := c) h1 h2 (by omega)
  have b2 := edg_bd (i := c + 1) h1 (by omega) h3
  have b3 := edg_next (i := c) h1
  rw [fv_iff]; unfold wdL wdH
  omega
theorem fitV_ok {a b : Int} (h : fvB a b = true) : fitV a b = .tuple #[.agg #[.int .i64 a, .int .i64 b], .int .i64 0] := by unfold fitV; rw [if_pos h]
set_option maxHeartbeats 4000000 in
theorem part_any (l r c : Int) (w : World) (hv : vldB l r c = true) :
    Calls Tryz.prog 39 #[.agg #[.int .i64 l, .int .i64 r, .int .i64 c]] w fun e w' => e = .returned (fitV (partL l r c) (partH l r c)) ∧ Below w.heap.size w w' := by
  have KB := Lib.hid (fun W => box_any l r c W hv)
  obtain ⟨h0, h1, h2, h3, h4, h5⟩ := vldB_true.1 hv
  clear hv
  have hp := pw_bd h1
  have b1 := edg_bd (i := r) h1 (by omega) (by omega)
  have b2 := edg_bd (i := r + 1) h1 (by omega) (by omega)
  obtain ⟨wo, w0, w1⟩ := wd_ok (c := c) h1 h4 (by omega)
  have KS := Lib.hid (fun W => Sin_yes (edg (r + 1) l - 5400000) (edg (r + 1) l - 5400000) W (avB_true.2 (by omega)))
  have KT := Lib.hid (fun W => Sin_yes (edg r l - 5400000) (edg r l - 5400000) W (avB_true.2 (by omega)))
  have KU := Lib.hid (fun W => fSub_any _ _ _ _ W (en_fv (edg (r + 1) l - 5400000)) (en_fv (edg r l - 5400000)))
  have KM := Lib.hid (fun W => fMake_any (edg (c + 1) l - edg c l) 43200000 W (by omega) (by omega) (by omega) (by omega))
  have KX := Lib.hid (fun W => fMul_any _ _ _ _ W (ht_ok r l) wo)
  have sN : wrap64 ((edg (c + 1) l - 10800000) - (edg c l - 10800000)) = edg (c + 1) l - edg c l := by
    rw [show (edg (c + 1) l - 10800000) - (edg c l - 10800000) = edg (c + 1) l - edg c l by omega]
    exact IntWalk.wrap64_in _ (by omega)
  have U1 : ∀ W, _ := KU.out
  rw [show Trig.enLo (edg (r + 1) l - 5400000) (edg (r + 1) l - 5400000) - Trig.enHi (edg r l - 5400000) (edg r l - 5400000) = htL r l from rfl, show Trig.enHi (edg (r + 1) l - 5400000) (edg (r + 1) l - 5400000) - Trig.enLo (edg r l - 5400000) (edg r l - 5400000) = htH r l from rfl, fitV_ok (ht_ok r l)] at KU
  rw [show (edg (c + 1) l - edg c l) * 1073741824 / 43200000 = wdL c l from rfl, show -(-((edg (c + 1) l - edg c l) * 1073741824) / 43200000) = wdH c l from rfl, fitV_ok wo] at KM
  have hm : mulL (htL r l) (htH r l) (wdL c l) (wdH c l) = partL l r c := rfl
  have hM : mulH (htL r l) (htH r l) (wdL c l) (wdH c l) = partH l r c := rfl
  unfold mulL at hm
  unfold mulH at hM
  rw [hm, hM] at KX
  unfold boxV at KB
  clear hm hM U1 h0 h1 h2 h3 h4 h5 hp b1 b2 wo w0 w1
  generalize partL l r c = pl at *
  generalize partH l r c = ph at *
  generalize htL r l = hl at *
  generalize htH r l = hh at *
  generalize wdL c l = wl at *
  generalize wdH c l = wh at *
  generalize edg (c + 1) l - edg c l = N at *
  generalize edg (c + 1) l - 10800000 = x3 at *
  generalize edg c l - 10800000 = x2 at *
  generalize edg (r + 1) l - 5400000 = x1 at *
  generalize edg r l - 5400000 = x0 at *
  generalize Trig.enLo x1 x1 = s1 at *
  generalize Trig.enHi x1 x1 = s2 at *
  generalize Trig.enLo x0 x0 = t1 at *
  generalize Trig.enHi x0 x0 = t2 at *
  unfold fitV at *
  generalize fvB pl ph = s at *
  cases s
  all_goals
    simp only [Bool.false_eq_true, if_false, if_true] at *
    go_enter Tryz.func39, Tryz.ntmps39
    go_wp2_with fail
    (with_reducible refine (KB.out _).mono ?_)
    rintro e w1 ⟨rfl, hb1⟩
    have hbl1 := two_bl hb1
    have R1 := Lib.hid ((D2.new (w.alloc (.cells #[.int .i64 l, .int .i64 r, .int .i64 c] 39)) 0 0 31).below hb1 (by simp))
    clear hb1
    go_wp2_with fail
    (with_reducible refine (KS.out _).mono ?_)
    rintro e w2 ⟨rfl, hb2⟩
    simp only [World.size_alloc] at R1
    have hbl2 := hbl1.trans ((one_bl hb2).mono hbl1.size)
    have R2 := Lib.hid (R1.out.below (one_bl hb2) R1.out.lt)
    have X2 := Lib.hid ((D4.new w1 x0 x1 x2 x3 48).below hb2 (by simp))
    clear hb2 R1
    obtain ⟨xt, xa, xb, xc, xd, xe, xf, xg, xh⟩ := X2.out
    go_wp2_with fail
    (with_reducible refine (KT.out _).mono ?_)
    rintro e w3 ⟨rfl, hb3⟩
    clear xt xa xb xc xd xe xf xg xh
    have hbl3 := hbl2.trans ((one_bl hb3).mono hbl2.size)
    have R3 := Lib.hid (R2.out.below (one_bl hb3) R2.out.lt)
    have X3 := Lib.hid (X2.out.below (one_bl hb3) X2.out.lt)
    have A3 := Lib.hid ((D2.new w2 s1 s2 31).below hb3 (by simp))
    clear hb3 R2 X2
    obtain ⟨at1, aa, ab, ac, ad⟩ := A3.out
    go_wp2_with fail
    (with_reducible refine (KU.out _).mono ?_)
    rintro e w4 ⟨rfl, hb4⟩
    clear at1 aa ab ac ad A3
    have hbl4 := hbl3.trans ((one_bl hb4).mono hbl3.size)
    have R4 := Lib.hid (R3.out.below (one_bl hb4) R3.out.lt)
    have X4 := Lib.hid (X3.out.below (one_bl hb4) X3.out.lt)
    clear hb4 R3 X3
    obtain ⟨xt, xa, xb, xc, xd, xe, xf, xg, xh⟩ := X4.out
    go_wp2_with fail
    (with_reducible refine (KM.out _).mono ?_)
    rintro e w5 ⟨rfl, hb5⟩
    clear xt xa xb xc xd xe xf xg xh X4
    have hbl5 := hbl4.trans ((one_bl hb5).mono hbl4.size)
    have R5 := Lib.hid (R4.out.below (one_bl hb5) R4.out.lt)
    have H5 := Lib.hid ((D2.new w4 hl hh 31).below hb5 (by simp))
    clear hb5 R4
    obtain ⟨at1, aa, ab, ac, ad⟩ := H5.out
    go_wp2_with fail
    (with_reducible refine (KX.out _).mono ?_)
    rintro e w6 ⟨rfl, hb6⟩
    clear at1 aa ab ac ad H5
    have hbl6 := hbl5.trans ((one_bl hb6).mono hbl5.size)
    have R6 := Lib.hid (R5.out.below (one_bl hb6) R5.out.lt)
    clear hb6 R5
    obtain ⟨rt, ra, rb, rf0, rf1⟩ := R6.out
    go_wp2
    first
      | refine bodyPost_ret (v := .tuple #[.agg #[.int .i64 pl, .int .i64 ph], .int .i64 0]) (by simp [results, Tryz.results39, go_sem, *]; done) rfl ⟨rfl, ?_⟩
      | refine bodyPost_ret (v := .tuple #[.agg #[.int .i64 0, .int .i64 0], .int .i64 5]) (by simp [results, Tryz.results39, go_sem, *]; done) rfl ⟨rfl, ?_⟩
    exact (hbl6.setCell (by simp) _).setCell (by simp) _
end Go.Proofs.YtlhdneeiikemjaaGreat
namespace Go.Proofs.YtlhdneeiikemjaaGreat
open Go.RowKit
theorem D2.drew {W : World} {g : Nat} {a b : Int} (h : D2 W g a b) : D2 W.drew g a b := ⟨h.lt, h.c0, h.c1, h.f0, h.f1⟩
theorem D4.far {W : World} {g : Nat} {a b c d : Int} (h : D4 W g a b c d) {p : Addr} (hp : g ≠ p.block) (u : Value) : D4 (W.setCell p u) g a b c d := by
  have hne : ∀ i, p ≠ (⟨g, i, none⟩ : Addr) := fun i e => hp (by rw [e])
  refine ⟨by simpa using h.lt, ?_, ?_, ?_, ?_, by simpa using h.f0, by simpa using h.f1, by simpa using h.f2, by simpa using h.f3⟩
  · rw [World.cell?_setCell_other _ _ _ _ (hne 0)]; exact h.c0
  · rw [World.cell?_setCell_other _ _ _ _ (hne 1)]; exact h.c1
  · rw [World.cell?_setCell_other _ _ _ _ (hne 2)]; exact h.c2
  · rw [World.cell?_setCell_other _ _ _ _ (hne 3)]; exact h.c3
theorem partS {w2 W : World} {g : Nat} {a b c d : Int} (h : D4 w2 g a b c d) (hb : Below w2.heap.size w2 W) : W.cell? ⟨g, 0, none⟩ = some (.int .i64 a) ∧ W.cell? ⟨g, 1, none⟩ = some (.int .i64 b) ∧ Below w2.heap.size w2 W :=
  ⟨(hb.cell (p := ⟨g, 0, none⟩) h.lt).trans h.c0, (hb.cell (p := ⟨g, 1, none⟩) h.lt).trans h.c1, hb⟩
set_option maxHeartbeats 4000000 in
theorem rPart_any (l r c : Int) (w : World) (hv : vldB l r c = true) :
    Calls Tryz.prog 45 #[.agg #[.int .i64 l, .int .i64 r, .int .i64 c]] w fun e w' => e = .returned (if fvB (partL l r c) (partH l r c) = true then .agg #[.int .i64 (partL l r c), .int .i64 (partH l r c)] else .agg #[.int .i64 0, .int .i64 0]) ∧ Below w.heap.size w w' := by
  have KB := Lib.hid (fun W => refBox_any l r c W hv)
  obtain ⟨h0, h1, h2, h3, h4, h5⟩ := vldB_true.1 hv
  clear hv
  have hp := pw_bd h1
  have b1 := edg_bd (i := r) h1 (by omega) (by omega)
  have b2 := edg_bd (i := r + 1) h1 (by omega) (by omega)
  obtain ⟨wo, w0, w1⟩ := wd_ok (c := c) h1 h4 (by omega)
  have KS := Lib.hid (fun W => SinR_any (edg (r + 1) l - 5400000) (edg (r + 1) l - 5400000) W (by omega) (by omega))
  have KT := Lib.hid (fun W => SinR_any (edg r l - 5400000) (edg r l - 5400000) W (by omega) (by omega))
  have KU := Lib.hid (fun W => rSub_any _ _ _ _ W (en_fv (edg (r + 1) l - 5400000)) (en_fv (edg r l - 5400000)))
  have KM := Lib.hid (fun W => rMake_any (edg (c + 1) l - edg c l) 43200000 W (by omega) (by omega) (by omega) (by omega))
  have KX := Lib.hid (fun W => rMul_any _ _ _ _ W (ht_ok r l) wo)
  have sN : wrap64 ((edg (c + 1) l - 10800000) - (edg c l - 10800000)) = edg (c + 1) l - edg c l := by
    rw [show (edg (c + 1) l - 10800000) - (edg c l - 10800000) = edg (c + 1) l - edg c l by omega]
    exact IntWalk.wrap64_in _ (by omega)
  have U1 : ∀ W, _ := KU.out
  rw [show Trig.enLo (edg (r + 1) l - 5400000) (edg (r + 1) l - 5400000) - Trig.enHi (edg r l - 5400000) (edg r l - 5400000) = htL r l from rfl, show Trig.enHi (edg (r + 1) l - 5400000) (edg (r + 1) l - 5400000) - Trig.enLo (edg r l - 5400000) (edg r l - 5400000) = htH r l from rfl, fitV_ok (ht_ok r l)] at KU
  rw [show (edg (c + 1) l - edg c l) * 1073741824 / 43200000 = wdL c l from rfl, show -(-((edg (c + 1) l - edg c l) * 1073741824) / 43200000) = wdH c l from rfl, fitV_ok wo] at KM
  have hm : mulL (htL r l) (htH r l) (wdL c l) (wdH c l) = partL l r c := rfl
  have hM : mulH (htL r l) (htH r l) (wdL c l) (wdH c l) = partH l r c := rfl
  unfold mulL at hm
  unfold mulH at hM
  rw [hm, hM] at KX
  unfold boxV at KB
  clear hm hM U1 h0 h1 h2 h3 h4 h5 hp b1 b2 wo w0 w1
  generalize partL l r c = pl at *
  generalize partH l r c = ph at *
  generalize htL r l = hl at *
  generalize htH r l = hh at *
  generalize wdL c l = wl at *
  generalize wdH c l = wh at *
  generalize edg (c + 1) l - edg c l = N at *
  generalize edg (c + 1) l - 10800000 = x3 at *
  generalize edg c l - 10800000 = x2 at *
  generalize edg (r + 1) l - 5400000 = x1 at *
  generalize edg r l - 5400000 = x0 at *
  generalize Trig.enLo x1 x1 = s1 at *
  generalize Trig.enHi x1 x1 = s2 at *
  generalize Trig.enLo x0 x0 = t1 at *
  generalize Trig.enHi x0 x0 = t2 at *
  unfold fitV at *
  generalize fvB pl ph = s at *
  cases s
  all_goals
    simp only [Bool.false_eq_true, if_false, if_true] at *
    go_enter Tryz.func45, Tryz.ntmps45
    go_wp2_with fail
    (with_reducible refine (KB.out _).mono ?_)
    rintro e w1 ⟨rfl, hb1⟩
    have hbl1 := two_bl hb1
    have R1 := Lib.hid ((D2.new (w.alloc (.cells #[.int .i64 l, .int .i64 r, .int .i64 c] 39)) 0 0 31).below hb1 (by simp))
    clear hb1
    simp only [World.size_alloc] at R1
    go_upto_region 2 with (fail)
    have X1 := Lib.hid (D4.new w1 x0 x1 x2 x3 48)
    have R2 := Lib.hid (R1.out.alloc (.cells #[.int .i64 x0, .int .i64 x1, .int .i64 x2, .int .i64 x3] 48))
    have hbl2 := Lib.hid (hbl1.alloc hbl1.size (.cells #[.int .i64 x0, .int .i64 x1, .int .i64 x2, .int .i64 x3] 48))
    have hg : w.heap.size < w1.heap.size := by have := R1.out.lt; omega
    generalize w1.alloc (.cells #[.int .i64 x0, .int .i64 x1, .int .i64 x2, .int .i64 x3] 48) = w2 at *
    generalize w1.heap.size = g at *
    go_cut [4, 5] (fun s4 s5 wy => ∃ q : Nat, s4 = .pointer (some ⟨q, 0, none⟩) ∧ D2 wy q hl hh ∧ D4 wy g x0 x1 x2 x3 ∧ D2 wy (w.heap.size + 1) 0 0 ∧ Below w.heap.size w wy)
    case first =>
      obtain ⟨xt, xa, xb, xc, xd, xe, xf, xg, xh⟩ := X1.out
      have lx := X1.out.lt
      go_region_held3 (fun w' => w'.cell? ⟨g, 0, none⟩ = some (.int .i64 x0) ∧ w'.cell? ⟨g, 1, none⟩ = some (.int .i64 x1) ∧ Below w2.heap.size w2 w') (exact partS X1.out (by repeat (first | exact Below.refl _ _ | assumption | refine bl_drew ?_ | refine bl_drewN ?_ _ | refine Below.setCell ?_ (by first | assumption | omega | (simp; done) | (simp; omega)) _ | refine Below.alloc ?_ (by first | assumption | omega | (simp; done) | (simp; omega)) _))) (first
        | (go_at_call 95; (first | (with_reducible refine (KS.out _).mono ?_) | (with_reducible refine (KT.out _).mono ?_)); rintro e w9 ⟨rfl, hb9⟩; have Z9 := (show Below w2.heap.size w2 _ by repeat (first | exact Below.refl _ _ | assumption | refine bl_drew ?_ | refine bl_drewN ?_ _ | refine Below.setCell ?_ (by first | assumption | omega | (simp; done) | (simp; omega)) _ | refine Below.alloc ?_ (by first | assumption | omega | (simp; done) | (simp; omega)) _)).trans (hb9.mono (by first | exact Nat.le_refl _ | (simp; done) | (simp; omega) | omega)); have z9 := Z9.size; obtain ⟨yt, ya, yb, yc, yd, ye, yf, yg, yh⟩ := X1.out.below Z9 lx; (first | (have NN := Lib.hid ((D2.new w2 0 0 31).drew.below hb9 (by simp)); have nn := NN.out; (try simp only [World.size_alloc, World.size_drew] at nn); obtain ⟨nt, n0, n1, nf0, nf1⟩ := nn) | (have NN := Lib.hid ((D2.new _ 0 0 31).below hb9 (by simp)); have nn := NN.out; (try simp only [World.size_alloc, World.size_drew] at nn); obtain ⟨nt, n0, n1, nf0, nf1⟩ := nn) | (have NN := Lib.hid (NN.out.below hb9 NN.out.lt); have nn := NN.out; (try simp only [World.size_alloc, World.size_drew] at nn); obtain ⟨nt, n0, n1, nf0, nf1⟩ := nn) | skip))
        | (go_at_call 94; (with_reducible refine (KU.out _).mono ?_); rintro e w9 ⟨rfl, hb9⟩; have Z9 := (show Below w2.heap.size w2 _ by repeat (first | exact Below.refl _ _ | assumption | refine bl_drew ?_ | refine bl_drewN ?_ _ | refine Below.setCell ?_ (by first | assumption | omega | (simp; done) | (simp; omega)) _ | refine Below.alloc ?_ (by first | assumption | omega | (simp; done) | (simp; omega)) _)).trans (hb9.mono (by first | exact Nat.le_refl _ | (simp; done) | (simp; omega) | omega)); have z9 := Z9.size; (first | (have NN := Lib.hid ((D2.new w2 0 0 31).drew.below hb9 (by simp)); have nn := NN.out; (try simp only [World.size_alloc, World.size_drew] at nn); obtain ⟨nt, n0, n1, nf0, nf1⟩ := nn) | (have NN := Lib.hid ((D2.new _ 0 0 31).below hb9 (by simp)); have nn := NN.out; (try simp only [World.size_alloc, World.size_drew] at nn); obtain ⟨nt, n0, n1, nf0, nf1⟩ := nn) | (have NN := Lib.hid (NN.out.below hb9 NN.out.lt); have nn := NN.out; (try simp only [World.size_alloc, World.size_drew] at nn); obtain ⟨nt, n0, n1, nf0, nf1⟩ := nn) | skip))
        | fail)
      all_goals
        try go_wp2_with fail
        go_meet
        case rel =>
          have hZ := hbl2.out.trans (Z9.mono hbl2.out.size)
          first
            | exact ⟨_, rfl, D2.new w9 hl hh _, (X1.out.below Z9 lx).alloc _, (R2.out.below Z9 R2.out.lt).alloc _, hZ.alloc hZ.size _⟩
            | exact ⟨_, rfl, (NN.out.set0 hl).set1 hh, ((X1.out.below Z9 lx).far (by simp only []; omega) _).far (by simp only []; omega) _, ((R2.out.below Z9 R2.out.lt).far (by simp only []; omega) _).far (by simp only []; omega) _, (hZ.setCell (by simp only []; omega) _).setCell (by simp only []; omega) _⟩
            | fail
    case rest =>
      obtain ⟨q, rfl, hD, hX, hR, hB⟩ := hcut
      rename World => w3
      have D3 := Lib.hid hD
      have R3 := Lib.hid hR
      clear hD hR X1 R2 hbl2
      obtain ⟨xt, xa, xb, xc, xd, xe, xf, xg, xh⟩ := hX
      go_wp2_with fail
      (with_reducible refine (KM.out _).mono ?_)
      rintro e w5 ⟨rfl, hb5⟩
      clear xt xa xb xc xd xe xf xg xh
      have hbl5 := hB.trans (hb5.mono hB.size)
      have D5 := Lib.hid (D3.out.below hb5 D3.out.lt)
      have R5 := Lib.hid (R3.out.below hb5 R3.out.lt)
      clear hb5 D3 R3
      obtain ⟨at1, aa, ab, ac, ad⟩ := D5.out
      go_wp2_with fail
      (with_reducible refine (KX.out _).mono ?_)
      rintro e w6 ⟨rfl, hb6⟩
      clear at1 aa ab ac ad
      have hbl6 := hbl5.trans ((one_bl hb6).mono hbl5.size)
      have R6 := Lib.hid (R5.out.below (one_bl hb6) R5.out.lt)
      clear hb6 R5
      obtain ⟨rt, ra, rb, rf0, rf1⟩ := R6.out
      go_wp2
      first
        | refine bodyPost_ret (v := .agg #[.int .i64 pl, .int .i64 ph]) (by simp [results, Tryz.results45, go_sem, *]; done) rfl ⟨rfl, ?_⟩
        | refine bodyPost_ret (v := .agg #[.int .i64 0, .int .i64 0]) (by simp [results, Tryz.results45, go_sem, *]; done) rfl ⟨rfl, ?_⟩
      repeat (first | exact Below.refl _ _ | assumption | refine bl_drew ?_ | refine bl_drewN ?_ _ | refine Below.setCell ?_ (by first | assumption | omega | (simp; done) | (simp; omega)) _ | refine Below.alloc ?_ (by first | assumption | omega | (simp; done) | (simp; omega)) _)
end Go.Proofs.YtlhdneeiikemjaaGreat
