/- Slices of bodies (api.Geo: four arcs). -/
import Derived.Test.YtifdgdgfmjfbdaaGreatRows
import Derived.Below
import Derived.ProofKit
import Derived.Lib.SmallJoins
import Derived.Deep.Slices
import Derived.Deep.Strs
import Derived.Deep.Fields
import Derived.ChangeSame
import Derived.Carry
import Derived.Test.YtifdgdgfmjfbdaaGreatHTl
import Derived.Test.YtifdgdgfmjfbdaaGreatHWb
import Derived.Test.YtifdgdgfmjfbdaaGreatHNf
set_option linter.unusedVariables false
set_option linter.unusedSimpArgs false
namespace Go.Proofs.YtifdgdgfmjfbdaaGreat
open Go.RowKit
def ShR (a b : Int) (w : World) (e : Ending) (w' : World) : Prop := (∃ (k : Ci) (ok : Bool), e = .returned (.tuple #[civ k, .bool ok]) ∧ (ok = true → VCi k ∧ sdV (sinPt k a b) (Trig.csP k.2) = 0)) ∧ Below w.heap.size w w'
set_option maxHeartbeats 8000000 in
set_option maxRecDepth 100000 in
theorem sharp_any (g0 g1 d0 d1 s0 s1 p0 p1 a b wide : Int) (w : World) (hv : vptB a b = true) (w0 : 0 ≤ wide) (w1 : wide ≤ 65535) :
    Calls Tryz.prog 37 #[.agg #[.int .i64 g0, .int .i64 g1, .int .i64 d0, .int .i64 d1, .int .i64 s0, .int .i64 s1, .int .i64 p0, .int .i64 p1], .agg #[.int .i64 a, .int .i64 b], .int .i64 wide] w (ShR a b w) := by
  have hvp := vptB_true.1 hv
  have KA := Lib.hid (fun W => angAdd_any g0 g1 b b W)
  have gg := ((Blk.new w 80 #[.int .i64 g0, .int .i64 g1, .int .i64 d0, .int .i64 d1, .int .i64 s0, .int .i64 s1, .int .i64 p0, .int .i64 p1]).alloc (.cells #[.int .i64 a, .int .i64 b] 24)).alloc (.cells #[.int .i64 0, .int .i64 0, .int .i64 0, .int .i64 0, .int .i64 0, .int .i64 0] 39)
  have pp := (Blk.new (w.alloc (.cells #[.int .i64 g0, .int .i64 g1, .int .i64 d0, .int .i64 d1, .int .i64 s0, .int .i64 s1, .int .i64 p0, .int .i64 p1] 80)) 24 #[.int .i64 a, .int .i64 b]).alloc (.cells #[.int .i64 0, .int .i64 0, .int .i64 0, .int .i64 0, .int .i64 0, .int .i64 0] 39)
  have rr := Blk.new ((w.alloc (.cells #[.int .i64 g0, .int .i64 g1, .int .i64 d0, .int .i64 d1, .int .i64 s0, .int .i64 s1, .int .i64 p0, .int .i64 p1] 80)).alloc (.cells #[.int .i64 a, .int .i64 b] 24)) 39 #[.int .i64 0, .int .i64 0, .int .i64 0, .int .i64 0, .int .i64 0, .int .i64 0]
  simp only [World.size_alloc] at pp rr
  have bb := ((bl_alloc w (.cells #[.int .i64 g0, .int .i64 g1, .int .i64 d0, .int .i64 d1, .int .i64 s0, .int .i64 s1, .int .i64 p0, .int .i64 p1] 80)).alloc (by simp) (.cells #[.int .i64 a, .int .i64 b] 24)).alloc (by simp; omega) (.cells #[.int .i64 0, .int .i64 0, .int .i64 0, .int .i64 0, .int .i64 0, .int .i64 0] 39)
  clear hv
  go_enter Tryz.func37, Tryz.ntmps37
  go_upto_region 1 with (fail)
  generalize ((w.alloc (.cells #[.int .i64 g0, .int .i64 g1, .int .i64 d0, .int .i64 d1, .int .i64 s0, .int .i64 s1, .int .i64 p0, .int .i64 p1] 80)).alloc (.cells #[.int .i64 a, .int .i64 b] 24)).alloc (.cells #[.int .i64 0, .int .i64 0, .int .i64 0, .int .i64 0, .int .i64 0, .int .i64 0] 39) = wa at gg pp rr bb ⊢
  have GG := Lib.hid gg
  have PP := Lib.hid pp
  have RR := Lib.hid rr
  have BA := Lib.hid bb
  have x0 : wa.cell? ⟨w.heap.size, 0, none⟩ = some (.int .i64 g0) := gg.cell 0
  have x1 : wa.cell? ⟨w.heap.size, 1, none⟩ = some (.int .i64 g1) := gg.cell 1
  have y1 : wa.cell? ⟨w.heap.size + 1, 1, none⟩ = some (.int .i64 b) := pp.cell 1
  clear gg pp rr bb
  go_wp2_with fail
  (with_reducible refine (KA.out _).mono ?_)
  rintro e wb ⟨⟨x, y, E, rfl, hE⟩, hb1⟩
  have hba := hb1.alloc hb1.size (.cells #[.int .i64 x, .int .i64 y] 29)
  have LB := Lib.hid (Blk.new wb 29 #[.int .i64 x, .int .i64 y])
  have GB := Lib.hid (GG.out.below hba GG.out.lt)
  have PB := Lib.hid (PP.out.below hba PP.out.lt)
  have RB := Lib.hid (RR.out.below hba RR.out.lt)
  have BB := Lib.hid (BA.out.trans (hba.mono BA.out.size))
  have HE := Lib.hid hE
  have hszb : w.heap.size + 2 < wb.heap.size := (RR.out.below hb1 RR.out.lt).lt
  clear hb1 hba x0 x1 y1 KA GG PP RR BA hE
  go_upto_region 2 with (fail)
  generalize hwc : wb.alloc (.cells #[.int .i64 x, .int .i64 y] 29) = wc at GB PB RB BB LB ⊢
  generalize wb.heap.size = gl at LB hszb ⊢
  clear hwc
  by_cases hE0 : E = 0
  · subst hE0
    obtain ⟨rfl, rfl, hav, hbv, hx, hy⟩ := HE.out rfl
    have q1 := avB_true.1 hav
    have hxy : avB (g0 + b) (g1 + b) = true := by
      unfold rchB at hx hy
      rw [decide_eq_true_eq] at hx hy
      exact avB_true.2 (by omega)
    have hlat : latB (a, a) = true := by
      unfold latB
      rw [Bool.and_eq_true, Bool.and_eq_true, decide_eq_true_eq, decide_eq_true_eq, decide_eq_true_eq]
      exact ⟨by simp only []; omega, by simp only []; omega, by simp only []; omega⟩
    have x2 : wc.cell? ⟨w.heap.size, 2, none⟩ = some (.int .i64 d0) := GB.out.cell 2
    have x3 : wc.cell? ⟨w.heap.size, 3, none⟩ = some (.int .i64 d1) := GB.out.cell 3
    have y0 : wc.cell? ⟨w.heap.size + 1, 0, none⟩ = some (.int .i64 a) := PB.out.cell 0
    have z0 : wc.cell? ⟨gl, 0, none⟩ = some (.int .i64 (g0 + b)) := LB.out.cell 0
    have z1 : wc.cell? ⟨gl, 1, none⟩ = some (.int .i64 (g1 + b)) := LB.out.cell 1
    cases hd : latB (d0, d1) with
    | false =>
      have KN := Lib.hid (fun W => Altitude_no (a, a) (d0, d1) (g0 + b, g1 + b) W hlat hd)
      simp only [] at KN
      clear hd hav hbv hx hy hxy hlat q1
      go_wp2_with fail
      (with_reducible refine (KN.out _).mono ?_)
      rintro e wd ⟨rfl, hb2⟩
      have hb2a := hb2.alloc hb2.size (.cells #[.int .i64 0, .int .i64 0] 29)
      have BD := Lib.hid (BB.out.trans (hb2a.mono BB.out.size))
      have RD := Lib.hid (RB.out.below hb2a RB.out.lt)
      have hdl : w.heap.size + 2 < wd.heap.size := (RB.out.below hb2 RB.out.lt).lt
      clear hb2 hb2a x2 x3 y0 z0 z1 KN BB RB GB PB LB
      go_upto_region 5 with (fail)
      generalize hwe : wd.alloc (.cells #[.int .i64 0, .int .i64 0] 29) = we at BD RD ⊢
      clear hwe
      have v0 : we.cell? ⟨w.heap.size + 2, 0, none⟩ = some (.int .i64 0) := RD.out.cell 0
      have v1 : we.cell? ⟨w.heap.size + 2, 1, none⟩ = some (.int .i64 0) := RD.out.cell 1
      have v2 : we.cell? ⟨w.heap.size + 2, 2, none⟩ = some (.int .i64 0) := RD.out.cell 2
      have v3 : we.cell? ⟨w.heap.size + 2, 3, none⟩ = some (.int .i64 0) := RD.out.cell 3
      have v4 : we.cell? ⟨w.heap.size + 2, 4, none⟩ = some (.int .i64 0) := RD.out.cell 4
      have v5 : we.cell? ⟨w.heap.size + 2, 5, none⟩ = some (.int .i64 0) := RD.out.cell 5
      have fz : ∀ j, we.frozen? ⟨w.heap.size + 2, j, none⟩ = false := fun j => RD.out.frozen j
      have rl := RD.out.lt
      go_wp2
      refine bodyPost_ret (v := .tuple #[civ ((0, 0, 0, 0), 0, 0), .bool false]) (by simp [results, Tryz.results37, go_sem, civ, v0, v1, v2, v3, v4, v5]; done) rfl ⟨⟨_, _, rfl, fun h => by cases h⟩, ?_⟩
      exact (((((BD.out.setCell (by simp only []; omega) _).setCell (by simp only []; omega) _).setCell (by simp only []; omega) _).setCell (by simp only []; omega) _).setCell (by simp only []; omega) _).setCell (by simp only []; omega) _
    | true =>
      have hd2 := hd
      unfold latB at hd2
      rw [Bool.and_eq_true, Bool.and_eq_true, decide_eq_true_eq, decide_eq_true_eq, decide_eq_true_eq] at hd2
      simp only [] at hd2
      have KN := Lib.hid (fun W => Altitude_yes (a, a) (d0, d1) (g0 + b, g1 + b) W ⟨hvp.1, by simp only []; omega, hvp.2.1⟩ (by simp only []; omega) hxy (Trig.sinT_meets _ _ _).1 (Trig.sinT_meets _ _ _).2)
      have KO := Lib.hid (shC_ok (a := a) (b := b) (g0 := g0) (g1 := g1) (d0 := d0) (d1 := d1) (wide := wide) q1.2.1 hd w0)
      clear hbv hx hy hxy hlat q1
      unfold shC at KO
      simp only [] at KN KO
      have hA1 : -5400000 ≤ Trig.asnV (max (Trig.sinT (a, a) (d0, d1) (g0 + b, g1 + b)).1 (-1073741824)) := (Trig.asn_bd _).1
      have hA2 : -5400000 ≤ Trig.asnV (-(min (Trig.sinT (a, a) (d0, d1) (g0 + b, g1 + b)).2 1073741824)) := (Trig.asn_bd _).1
      have hA3 : Trig.asnV (max (Trig.sinT (a, a) (d0, d1) (g0 + b, g1 + b)).1 (-1073741824)) ≤ 5400000 := (Trig.asn_bd _).2
      have hA4 : Trig.asnV (-(min (Trig.sinT (a, a) (d0, d1) (g0 + b, g1 + b)).2 1073741824)) ≤ 5400000 := (Trig.asn_bd _).2
      generalize Trig.asnV (max (Trig.sinT (a, a) (d0, d1) (g0 + b, g1 + b)).1 (-1073741824)) = A0 at KN KO hA1 hA3 ⊢
      generalize Trig.asnV (-(min (Trig.sinT (a, a) (d0, d1) (g0 + b, g1 + b)).2 1073741824)) = A1 at KN KO hA2 hA4 ⊢
      go_wp2_with fail
      (with_reducible refine (KN.out _).mono ?_)
      rintro e wd ⟨rfl, hb2⟩
      have hb2a := hb2.alloc hb2.size (.cells #[.int .i64 A0, .int .i64 (-A1)] 29)
      have AB := Lib.hid (Blk.new wd 29 #[.int .i64 A0, .int .i64 (-A1)])
      have GD := Lib.hid (GB.out.below hb2a GB.out.lt)
      have RD := Lib.hid (RB.out.below hb2a RB.out.lt)
      have BD := Lib.hid (BB.out.trans (hb2a.mono BB.out.size))
      have hdl : w.heap.size + 2 < wd.heap.size := (RB.out.below hb2 RB.out.lt).lt
      clear hb2 hb2a x2 x3 y0 z0 z1 KN BB RB GB PB LB
      go_upto_region 7 with (fail)
      generalize hwe : wd.alloc (.cells #[.int .i64 A0, .int .i64 (-A1)] 29) = we at AB GD RD BD ⊢
      generalize wd.heap.size = gm at AB hdl ⊢
      clear hwe
      have u0 : we.cell? ⟨w.heap.size, 0, none⟩ = some (.int .i64 g0) := GD.out.cell 0
      have u1 : we.cell? ⟨w.heap.size, 1, none⟩ = some (.int .i64 g1) := GD.out.cell 1
      have u2 : we.cell? ⟨w.heap.size, 2, none⟩ = some (.int .i64 d0) := GD.out.cell 2
      have u3 : we.cell? ⟨w.heap.size, 3, none⟩ = some (.int .i64 d1) := GD.out.cell 3
      have u4 : we.cell? ⟨w.heap.size, 4, none⟩ = some (.int .i64 s0) := GD.out.cell 4
      have u5 : we.cell? ⟨w.heap.size, 5, none⟩ = some (.int .i64 s1) := GD.out.cell 5
      have u6 : we.cell? ⟨w.heap.size, 6, none⟩ = some (.int .i64 p0) := GD.out.cell 6
      have u7 : we.cell? ⟨w.heap.size, 7, none⟩ = some (.int .i64 p1) := GD.out.cell 7
      have z0 : we.cell? ⟨gm, 0, none⟩ = some (.int .i64 A0) := AB.out.cell 0
      have z1 : we.cell? ⟨gm, 1, none⟩ = some (.int .i64 (-A1)) := AB.out.cell 1
      go_wp2_with fail
      cases hA : avB (max (-5400000) (A0 - wide)) (min 5400000 (-A1 + wide)) with
      | true =>
        (with_reducible refine (circOf_yes _ _ g0 g1 d0 d1 s0 s1 p0 p1 we hA hav hd (by omega) (by omega)).mono ?_)
        rintro e wf ⟨rfl, hb3⟩
        have hb3a := hb3.alloc hb3.size (.cells #[.int .i64 d0, .int .i64 d1, .int .i64 (lgLo (-g1) (-g0)), .int .i64 (lgHi (-g1) (-g0)), .int .i64 (5400000 - min 5400000 (-A1 + wide)), .int .i64 (5400000 - max (-5400000) (A0 - wide))] 39)
        have CB := Lib.hid (Blk.new wf 39 #[.int .i64 d0, .int .i64 d1, .int .i64 (lgLo (-g1) (-g0)), .int .i64 (lgHi (-g1) (-g0)), .int .i64 (5400000 - min 5400000 (-A1 + wide)), .int .i64 (5400000 - max (-5400000) (A0 - wide))])
        have RF := Lib.hid (RD.out.below hb3a RD.out.lt)
        have BF := Lib.hid (BD.out.trans (hb3a.mono BD.out.size))
        have hdf : w.heap.size + 2 < wf.heap.size := (RD.out.below hb3 RD.out.lt).lt
        clear hb3 hb3a u0 u1 u2 u3 u4 u5 u6 u7 z0 z1 BD RD GD AB
        go_upto_region 8 with (fail)
        generalize hwg : wf.alloc (.cells #[.int .i64 d0, .int .i64 d1, .int .i64 (lgLo (-g1) (-g0)), .int .i64 (lgHi (-g1) (-g0)), .int .i64 (5400000 - min 5400000 (-A1 + wide)), .int .i64 (5400000 - max (-5400000) (A0 - wide))] 39) = wg at CB RF BF ⊢
        generalize wf.heap.size = gn at CB hdf ⊢
        clear hwg
        have k0 : wg.cell? ⟨gn, 0, none⟩ = some (.int .i64 d0) := CB.out.cell 0
        have k1 : wg.cell? ⟨gn, 1, none⟩ = some (.int .i64 d1) := CB.out.cell 1
        have k2 : wg.cell? ⟨gn, 2, none⟩ = some (.int .i64 (lgLo (-g1) (-g0))) := CB.out.cell 2
        have k3 : wg.cell? ⟨gn, 3, none⟩ = some (.int .i64 (lgHi (-g1) (-g0))) := CB.out.cell 3
        have k4 : wg.cell? ⟨gn, 4, none⟩ = some (.int .i64 (5400000 - min 5400000 (-A1 + wide))) := CB.out.cell 4
        have k5 : wg.cell? ⟨gn, 5, none⟩ = some (.int .i64 (5400000 - max (-5400000) (A0 - wide))) := CB.out.cell 5
        have v0 : wg.cell? ⟨w.heap.size + 2, 0, none⟩ = some (.int .i64 0) := RF.out.cell 0
        have v1 : wg.cell? ⟨w.heap.size + 2, 1, none⟩ = some (.int .i64 0) := RF.out.cell 1
        have v2 : wg.cell? ⟨w.heap.size + 2, 2, none⟩ = some (.int .i64 0) := RF.out.cell 2
        have v3 : wg.cell? ⟨w.heap.size + 2, 3, none⟩ = some (.int .i64 0) := RF.out.cell 3
        have v4 : wg.cell? ⟨w.heap.size + 2, 4, none⟩ = some (.int .i64 0) := RF.out.cell 4
        have v5 : wg.cell? ⟨w.heap.size + 2, 5, none⟩ = some (.int .i64 0) := RF.out.cell 5
        have fz : ∀ j, wg.frozen? ⟨w.heap.size + 2, j, none⟩ = false := fun j => RF.out.frozen j
        have rl := RF.out.lt
        go_wp2
        refine bodyPost_ret (v := .tuple #[civ ((d0, d1, lgLo (-g1) (-g0), lgHi (-g1) (-g0)), 5400000 - min 5400000 (-A1 + wide), 5400000 - max (-5400000) (A0 - wide)), .bool true]) (by simp [results, Tryz.results37, go_sem, civ, v0, v1, v2, v3, v4, v5]; done) rfl ⟨⟨_, _, rfl, fun _ => KO.out (avB_true.1 hA).2.1⟩, ?_⟩
        exact (((((BF.out.setCell (by simp only []; omega) _).setCell (by simp only []; omega) _).setCell (by simp only []; omega) _).setCell (by simp only []; omega) _).setCell (by simp only []; omega) _).setCell (by simp only []; omega) _
      | false =>
        (with_reducible refine (circOf_no _ _ g0 g1 d0 d1 s0 s1 p0 p1 we hA).mono ?_)
        rintro e wf ⟨rfl, hb3⟩
        have hb3a := hb3.alloc hb3.size (.cells #[.int .i64 0, .int .i64 0, .int .i64 0, .int .i64 0, .int .i64 0, .int .i64 0] 39)
        have CB := Lib.hid (Blk.new wf 39 #[.int .i64 0, .int .i64 0, .int .i64 0, .int .i64 0, .int .i64 0, .int .i64 0])
        have RF := Lib.hid (RD.out.below hb3a RD.out.lt)
        have BF := Lib.hid (BD.out.trans (hb3a.mono BD.out.size))
        have hdf : w.heap.size + 2 < wf.heap.size := (RD.out.below hb3 RD.out.lt).lt
        clear hb3 hb3a u0 u1 u2 u3 u4 u5 u6 u7 z0 z1 BD RD GD AB
        go_upto_region 8 with (fail)
        generalize hwg : wf.alloc (.cells #[.int .i64 0, .int .i64 0, .int .i64 0, .int .i64 0, .int .i64 0, .int .i64 0] 39) = wg at CB RF BF ⊢
        generalize wf.heap.size = gn at CB hdf ⊢
        clear hwg
        have k0 : wg.cell? ⟨gn, 0, none⟩ = some (.int .i64 0) := CB.out.cell 0
        have k1 : wg.cell? ⟨gn, 1, none⟩ = some (.int .i64 0) := CB.out.cell 1
        have k2 : wg.cell? ⟨gn, 2, none⟩ = some (.int .i64 0) := CB.out.cell 2
        have k3 : wg.cell? ⟨gn, 3, none⟩ = some (.int .i64 0) := CB.out.cell 3
        have k4 : wg.cell? ⟨gn, 4, none⟩ = some (.int .i64 0) := CB.out.cell 4
        have k5 : wg.cell? ⟨gn, 5, none⟩ = some (.int .i64 0) := CB.out.cell 5
        have v0 : wg.cell? ⟨w.heap.size + 2, 0, none⟩ = some (.int .i64 0) := RF.out.cell 0
        have v1 : wg.cell? ⟨w.heap.size + 2, 1, none⟩ = some (.int .i64 0) := RF.out.cell 1
        have v2 : wg.cell? ⟨w.heap.size + 2, 2, none⟩ = some (.int .i64 0) := RF.out.cell 2
        have v3 : wg.cell? ⟨w.heap.size + 2, 3, none⟩ = some (.int .i64 0) := RF.out.cell 3
        have v4 : wg.cell? ⟨w.heap.size + 2, 4, none⟩ = some (.int .i64 0) := RF.out.cell 4
        have v5 : wg.cell? ⟨w.heap.size + 2, 5, none⟩ = some (.int .i64 0) := RF.out.cell 5
        have fz : ∀ j, wg.frozen? ⟨w.heap.size + 2, j, none⟩ = false := fun j => RF.out.frozen j
        have rl := RF.out.lt
        go_wp2
        refine bodyPost_ret (v := .tuple #[civ ((0, 0, 0, 0), 0, 0), .bool false]) (by simp [results, Tryz.results37, go_sem, civ, v0, v1, v2, v3, v4, v5]; done) rfl ⟨⟨_, _, rfl, fun h => by cases h⟩, ?_⟩
        exact (((((BF.out.setCell (by simp only []; omega) _).setCell (by simp only []; omega) _).setCell (by simp only []; omega) _).setCell (by simp only []; omega) _).setCell (by simp only []; omega) _).setCell (by simp only []; omega) _
  · have hbe : (E != 0) = true := by simpa using hE0
    have v0 : wc.cell? ⟨w.heap.size + 2, 0, none⟩ = some (.int .i64 0) := RB.out.cell 0
    have v1 : wc.cell? ⟨w.heap.size + 2, 1, none⟩ = some (.int .i64 0) := RB.out.cell 1
    have v2 : wc.cell? ⟨w.heap.size + 2, 2, none⟩ = some (.int .i64 0) := RB.out.cell 2
    have v3 : wc.cell? ⟨w.heap.size + 2, 3, none⟩ = some (.int .i64 0) := RB.out.cell 3
    have v4 : wc.cell? ⟨w.heap.size + 2, 4, none⟩ = some (.int .i64 0) := RB.out.cell 4
    have v5 : wc.cell? ⟨w.heap.size + 2, 5, none⟩ = some (.int .i64 0) := RB.out.cell 5
    have fz : ∀ j, wc.frozen? ⟨w.heap.size + 2, j, none⟩ = false := fun j => RB.out.frozen j
    have rl := RB.out.lt
    clear hE0 HE
    go_wp2
    refine bodyPost_ret (v := .tuple #[civ ((0, 0, 0, 0), 0, 0), .bool false]) (by simp [results, Tryz.results37, go_sem, civ, v0, v1, v2, v3, v4, v5]; done) rfl ⟨⟨_, _, rfl, fun h => by cases h⟩, ?_⟩
    exact (((((BB.out.setCell (by simp only []; omega) _).setCell (by simp only []; omega) _).setCell (by simp only []; omega) _).setCell (by simp only []; omega) _).setCell (by simp only []; omega) _).setCell (by simp only []; omega) _
end Go.Proofs.YtifdgdgfmjfbdaaGreat
namespace Go.Proofs.YtifdgdgfmjfbdaaGreat
open Go.ChangeShapes Go.WideShapes Go.ChangeAt Go.RowKit
theorem Tryz.own : ownKnob Tryz.prog.godebug = none := by kernel_rfl
section
variable {H : Type} {enc : TypeId × Value → H} {P : Program}
theorem post_of_below {f : Func} {s : ChangeSpec} {apart fresh handsOn again : Bool} {W W' : World} {args : Array Value} {v : Value} {ds gs : List (DataW H)} {before pa pv : List MemPlace}
    (hW : DataW.Whole enc P f.params.toList s.vars apart W args.toList ds gs before)
    (hres : ∀ (b : Nat) (sp : Nat → Bool) (hd : Bool), DataW.TrodAll enc P W' b sp hd f.resultTypes.toList (v.resultList f.resultTypes.size) (s.fn H (ds ++ gs)).results [])
    (hargs : ∀ sp : Nat → Bool, (∀ p ∈ before, sp p.block = true) → DataW.TrodAll enc P W' 0 sp true f.params.toList args.toList (s.fn H (ds ++ gs)).args pa)
    (hvars : ∀ sp : Nat → Bool, (∀ p ∈ before, sp p.block = true) → DataW.TrodVars enc P W' sp s.vars (s.fn H (ds ++ gs)).vars pv)
    (hps : before = pa ++ pv) (hb : Below W.heap.size W W')
    (hok : ∀ (j : Nat) (t : TypeId) (r : Value), f.resultTypes[j]? = some t → (v.resultList f.resultTypes.size)[j]? = some r → Value.okWide P W' .any 0 t r) :
    s.post enc P f apart fresh handsOn again W args v W' := by
  have hlt : ∀ p ∈ before, p.block < W.heap.size := fun p hp => hW.lt p hp
  have hold : ∀ p ∈ before, (fun b => decide (b < W.heap.size)) p.block = true := fun p hp => by simpa using hlt p hp
  refine ⟨ds, gs, before, [], pa, pv, hW, hres _ _ _, hargs _ hold, hvars _ hold, World.keptBut_mono (fun p hp => ⟨hp, ?_⟩) (hb.frame (· ∈ before)), fun _ => ?_⟩
  · rw [hps, List.mem_append] at hp
    exact Or.inr hp
  · obtain ⟨_, _, _, _, _, hz, hn⟩ := hW
    refine ⟨hok, _, _, ([] ++ pa) ++ pv, ⟨[] ++ pa, pv, trodAll_append (hargs _ (fun _ _ => rfl)) (hres _ _ _), hvars _ (fun _ _ => rfl), rfl, ?_, ?_⟩, ?_⟩
    · intro b off hp
      have hin : MemPlace.cell b off ∈ before := by rw [hps]; simpa using hp
      rw [hb.frozen (hlt _ hin)]
      exact hz b off hin
    · intro ha
      have := hn ha
      rw [hps] at this
      simpa using this
    · intro p hp _
      rw [hps]
      simpa using hp
end
end Go.Proofs.YtifdgdgfmjfbdaaGreat
namespace Go.Proofs.YtifdgdgfmjfbdaaGreat
open Go.ChangeShapes Go.WideShapes Go.ChangeAt Go.RowKit Go.Deep
section
variable {H : Type} {enc : TypeId × Value → H} {P : Program} {w : World} {base : Nat} {spare : Nat → Bool} {held : Bool}
theorem open_three {t : TypeId} {f0 f1 f2 : Field} {cs : List Value} {x : DataW H × List MemPlace} {fuel : Nat} (hs : P.underlying t = some (.struct #[f0, f1, f2])) (hone : oneCellFields P #[f0, f1, f2] = true)
    (h : DataW.trod enc P w base spare held fuel t cs = some x) (hl : cs.length = 3) :
    ∃ c0 c1 c2 y0 y1 y2 n, cs = [c0, c1, c2] ∧ DataW.trod enc P w base spare held n f0.type [c0] = some y0 ∧ DataW.trod enc P w base spare held n f1.type [c1] = some y1 ∧ DataW.trod enc P w base spare held n f2.type [c2] = some y2 := by
  obtain ⟨y0, y1, y2, n, _, _, h0, h1, h2⟩ := trod_struct3 hs h
  obtain ⟨o0, k0⟩ := hone_of hone 0 f0 rfl
  obtain ⟨o1, k1⟩ := hone_of hone 1 f1 rfl
  obtain ⟨o2, k2⟩ := hone_of hone 2 f2 rfl
  match cs, hl with
  | [c0, c1, c2], _ => exact ⟨c0, c1, c2, y0, y1, y2, n, rfl, by simpa [o0, k0] using h0, by simpa [o1, k1] using h1, by simpa [o2, k2] using h2⟩
end
theorem Tryz.cells3 : Tryz.prog.cellsOf 102 = 3 := by kernel_rfl
theorem cvs_map (f : Nat → Cl) : ∀ (n j : Nat), (cvs ((List.range n).map f))[j]? = if j < n * 3 then (cv (f (j / 3)))[j % 3]? else none := by
  intro n
  induction n with
  | zero => intro j; simp [cvs]
  | succ n ih =>
    intro j
    rw [List.range_succ, List.map_append, cvs_append, List.getElem?_append, cvs_length, List.length_map, List.length_range]
    by_cases h : j < n * 3
    · rw [if_pos h, ih, if_pos h, if_pos (by omega)]
    · rw [if_neg h]
      by_cases h2 : j < (n + 1) * 3
      · rw [if_pos h2]
        have e1 : j / 3 = n := by omega
        have e2 : j - n * 3 = j % 3 := by omega
        rw [e1, e2]
        simp [cvs]
      · rw [if_neg h2]
        simp [cvs, cv]
        omega
set_option maxRecDepth 100000 in
theorem open_cells {H : Type} {enc : TypeId × Value → H} {W : World} {v : Value} {d : DataW H} {ps : List MemPlace} {r : Reach} {b0 : Nat} (hv : Value.okWide Tryz.prog W r b0 48 v)
    (h : DataW.Trod enc Tryz.prog W 0 (fun _ => true) true 48 v d ps) :
    ∃ A n ca L, v = .slice A n ca ∧ Reads W W.heap.size 3 A n (cvs L) ∧ n ≤ ca ∧ ca ≤ maxLen := by
  obtain ⟨a, len, cap, rfl⟩ := okWide_slice Tryz.underlying48 hv
  obtain ⟨fu, hf⟩ := h
  have hf' : DataW.trod enc Tryz.prog W 0 (fun _ => true) true fu 48 [.slice a len cap] = some (d, ps) := by simpa [Value.cells] using hf
  rcases open_slice Tryz.underlying48 hf' with ⟨h0, -⟩ | ⟨a', len', cap', m, n, D, Pl, hcs, hb, hl, hm, hmm, hx, hi⟩
  · cases h0
    exact ⟨none, 0, 0, [], rfl, Reads.none_, Nat.le_refl _, by simp [maxLen]⟩
  · cases hcs
    simp only [if_true] at hmm
    subst hmm
    have one : ∀ i, i < len → ∃ x : Cl, ∀ j, j < 3 → W.cell? (a'.add (i * 3 + j)) = (cv x)[j]? := by
      intro i hil
      obtain ⟨cs, hc, ht⟩ := hi i (by omega)
      rw [Tryz.cells3] at hc
      obtain ⟨_, hcl, hat⟩ := World.cells?_some hc
      obtain ⟨c0, c1, c2, y0, y1, y2, n', rfl, h0, h1, h2⟩ := open_three Tryz.underlying102 (by kernel_rfl) ht hcl
      obtain ⟨l, e0, -, -⟩ := DataW.trod_int Tryz.underlying3 h0
      obtain ⟨r, e1, -, -⟩ := DataW.trod_int Tryz.underlying3 h1
      obtain ⟨c, e2, -, -⟩ := DataW.trod_int Tryz.underlying3 h2
      cases e0
      cases e1
      cases e2
      refine ⟨(l, r, c), fun j hj => ?_⟩
      rw [← Go.Deep.add_add, hat j hj]
      rfl
    obtain ⟨f, hf2⟩ := choose_lt one
    refine ⟨some a', len, _, (List.range len).map f, rfl, ⟨by simp [cvs_length], fun h0 => ⟨a', rfl, ?_, ?_⟩⟩, hl, hm⟩
    · have h1 := hf2 0 h0 0 (by omega)
      have h2 := World.block_lt_of_cell? W _ h1
      exact h2
    · intro j u hu
      rw [cvs_map] at hu
      by_cases hj : j < len * 3
      · rw [if_pos hj] at hu
        have h1 := hf2 (j / 3) (by omega) (j % 3) (Nat.mod_lt _ (by omega))
        rw [show j / 3 * 3 + j % 3 = j by omega] at h1
        rw [h1, hu]
      · rw [if_neg hj] at hu
        cases hu
theorem Tryz.laidOutB : laidOutB Tryz.prog = true := by kernel_rfl
theorem Tryz.readCells : Tryz.prog.readableRec 48 = true := by kernel_rfl
theorem Tryz.rowCells : 48 < Tryz.prog.types.size := of_decide_eq_true (by kernel_rfl)
theorem cells_stay {H : Type} {enc : TypeId × Value → H} {W W' : World} {sp : Nat → Bool} {v : Value} {d : DataW H} {ps : List MemPlace} (h : DataW.Trod enc Tryz.prog W 0 (fun _ => true) true 48 v d ps)
    (hb : Below W.heap.size W W') (hlt : ∀ x ∈ ps, x.block < W.heap.size) (hsp : ∀ p ∈ ps, sp p.block = true) : DataW.Trod enc Tryz.prog W' 0 sp true 48 v d ps :=
  WideElems.Trod_stays Tryz.laidOutB Tryz.readCells Tryz.rowCells h (fun x hx => hb.same (hlt x hx)) hsp
end Go.Proofs.YtifdgdgfmjfbdaaGreat
namespace Go.Proofs.YtifdgdgfmjfbdaaGreat
open Go.ChangeShapes Go.WideShapes Go.ChangeAt Go.RowKit Go.Joins Go.Deep
section
variable {H : Type} {enc : TypeId × Value → H} {P : Program} {w : World} {base : Nat} {spare : Nat → Bool} {held : Bool}
theorem open_pair {t : TypeId} {f0 f1 : Field} {c0 c1 : Value} {x : DataW H × List MemPlace} {fuel : Nat} (hs : P.underlying t = some (.struct #[f0, f1])) (hone : oneCellFields P #[f0, f1] = true)
    (h : DataW.trod enc P w base spare held fuel t [c0, c1] = some x) :
    ∃ y0 y1 n, DataW.trod enc P w base spare held n f0.type [c0] = some y0 ∧ DataW.trod enc P w base spare held n f1.type [c1] = some y1 := by
  obtain ⟨y0, y1, n, _, _, h0, h1⟩ := trod_struct2 hs h
  obtain ⟨o0, k0⟩ := hone_of hone 0 f0 rfl
  obtain ⟨o1, k1⟩ := hone_of hone 1 f1 rfl
  exact ⟨y0, y1, n, by simpa [o0, k0] using h0, by simpa [o1, k1] using h1⟩
end
theorem Tryz.cellsArc9 : Tryz.prog.cellsOf 29 = 2 := by kernel_rfl
section
variable {H : Type} {enc : TypeId × Value → H} {w : World} {base : Nat} {spare : Nat → Bool} {held : Bool}
set_option maxRecDepth 100000 in
theorem arc_ints {n : Nat} {c0 c1 : Value} {y : DataW H × List MemPlace} (h : DataW.trod enc Tryz.prog w base spare held n 29 [c0, c1] = some y) : ∃ a b : Int, c0 = .int .i64 a ∧ c1 = .int .i64 b := by
  obtain ⟨y0, y1, m, h0, h1⟩ := open_pair Tryz.underlying29 (by kernel_rfl) h
  obtain ⟨a, e0, -, -⟩ := DataW.trod_int Tryz.underlying3 h0
  obtain ⟨b, e1, -, -⟩ := DataW.trod_int Tryz.underlying3 h1
  cases e0
  cases e1
  exact ⟨a, b, rfl, rfl⟩
end
theorem Tryz.readPoint : Tryz.prog.readableRec 24 = true := by kernel_rfl
theorem Tryz.rowPoint : 24 < Tryz.prog.types.size := of_decide_eq_true (by kernel_rfl)
section
variable {H : Type} {enc : TypeId × Value → H} {W W' : World} {sp : Nat → Bool} {v : Value} {d : DataW H} {ps : List MemPlace}
theorem point_stay (h : DataW.Trod enc Tryz.prog W 0 (fun _ => true) true 24 v d ps) (hb : Below W.heap.size W W') (hlt : ∀ x ∈ ps, x.block < W.heap.size) (hsp : ∀ p ∈ ps, sp p.block = true) : DataW.Trod enc Tryz.prog W' 0 sp true 24 v d ps :=
  WideElems.Trod_stays Tryz.laidOutB Tryz.readPoint Tryz.rowPoint h (fun x hx => hb.same (hlt x hx)) hsp
end
end Go.Proofs.YtifdgdgfmjfbdaaGreat
namespace Go.Proofs.YtifdgdgfmjfbdaaGreat
open Go.ChangeShapes Go.WideShapes Go.ChangeAt Go.RowKit Go.Joins Go.Deep
abbrev Ge := Ci × Int × Int
def gel (k : Ge) : List Value := [.int .i64 k.1.1.1, .int .i64 k.1.1.2.1, .int .i64 k.1.1.2.2.1, .int .i64 k.1.1.2.2.2, .int .i64 k.1.2.1, .int .i64 k.1.2.2, .int .i64 k.2.1, .int .i64 k.2.2]
def gels (L : List Ge) : List Value := L.flatMap gel
def gge (L : List Ge) (k : Nat) : Ge := L.getD k (((0, 0, 0, 0), 0, 0), 0, 0)
theorem gels_length (L : List Ge) : (gels L).length = L.length * 8 := by
  induction L with
  | nil => rfl
  | cons x r ih => simp [gels, gel] at ih ⊢; omega
theorem gels_at : ∀ (L : List Ge) (k : Nat), k < L.length → ∀ j, j < 8 → (gels L)[k * 8 + j]? = (gel (gge L k))[j]?
  | [], k, hk => by simp at hk
  | x :: r, 0, hk => fun j hj => by
    have hc : gels (x :: r) = gel x ++ gels r := rfl
    rw [hc, Nat.zero_mul, Nat.zero_add, List.getElem?_append_left (by simp [gel]; omega)]
    rfl
  | x :: r, k + 1, hk => fun j hj => by
    have hc : gels (x :: r) = gel x ++ gels r := rfl
    have hl : (gel x).length = 8 := rfl
    have e1 : (k + 1) * 8 + j - 8 = k * 8 + j := by omega
    rw [hc, List.getElem?_append_right (by rw [hl]; omega), hl, e1, gels_at r k (by simpa using hk) j hj]
    rfl
theorem Reads.lenG {w : World} {B n : Nat} {A : Option Addr} {L : List Ge} (h : Reads w B 8 A n (gels L)) : L.length = n := by
  have := h.1
  rw [gels_length] at this
  omega
/-- the numbers of one body of a slice -/
structure GAt (w : World) (b o : Nat) (x : Ge) : Prop where
  c0 : w.cell? ⟨b, o, none⟩ = some (.int .i64 x.1.1.1)
  c1 : w.cell? ⟨b, o + 1, none⟩ = some (.int .i64 x.1.1.2.1)
  c2 : w.cell? ⟨b, o + 2, none⟩ = some (.int .i64 x.1.1.2.2.1)
  c3 : w.cell? ⟨b, o + 3, none⟩ = some (.int .i64 x.1.1.2.2.2)
  c4 : w.cell? ⟨b, o + 4, none⟩ = some (.int .i64 x.1.2.1)
  c5 : w.cell? ⟨b, o + 5, none⟩ = some (.int .i64 x.1.2.2)
  c6 : w.cell? ⟨b, o + 6, none⟩ = some (.int .i64 x.2.1)
  c7 : w.cell? ⟨b, o + 7, none⟩ = some (.int .i64 x.2.2)
theorem Reads.elemG {w : World} {B n : Nat} {A : Option Addr} {L : List Ge} (h : Reads w B 8 A n (gels L)) {k : Nat} (hk : k < n) :
    ∃ b off, A = some ⟨b, off, none⟩ ∧ b < B ∧ GAt w b (off + k * 8) (gge L k) := by
  have hl := h.lenG
  obtain ⟨ad, rfl, hb, hc⟩ := h.2 (by omega)
  obtain ⟨b, off, spot⟩ := ad
  have z1 := gels_at L 0 (by omega) 0 (by omega)
  have hspot : spot = none := by simpa [Addr.add] using World.cell?_spot (hc 0 _ (by simpa [gel] using z1))
  subst hspot
  have y := gels_at L k (by omega)
  have c : ∀ j u, j < 8 → (gel (gge L k))[j]? = some u → w.cell? ⟨b, off + (k * 8 + j), none⟩ = some u := by
    intro j u hj hu
    have := hc (k * 8 + j) u ((y j hj).trans hu)
    rw [Go.WideShapes.add_plain] at this
    exact this
  exact ⟨b, off, rfl, hb, c 0 _ (by omega) rfl, c 1 _ (by omega) rfl, c 2 _ (by omega) rfl, c 3 _ (by omega) rfl, c 4 _ (by omega) rfl, c 5 _ (by omega) rfl, c 6 _ (by omega) rfl, c 7 _ (by omega) rfl⟩
theorem list8 {α : Type} {l : List α} (h : l.length = 8) : ∃ a b c d e f g i, l = [a, b, c, d, e, f, g, i] := by
  match l, h with
  | [a, b, c, d, e, f, g, i], _ => exact ⟨a, b, c, d, e, f, g, i, rfl⟩
theorem Tryz.cellsGe9 : Tryz.prog.cellsOf 80 = 8 := by kernel_rfl
section
variable {H : Type} {enc : TypeId × Value → H} {P : Program} {w : World} {base : Nat} {spare : Nat → Bool} {held : Bool}
set_option maxRecDepth 100000 in
theorem geo_ints {enc : TypeId × Value → H} {n : Nat} {c0 c1 c2 c3 c4 c5 c6 c7 : Value} {y : DataW H × List MemPlace} (h : DataW.trod enc Tryz.prog w base spare held n 80 [c0, c1, c2, c3, c4, c5, c6, c7] = some y) : ∃ k : Ge, [c0, c1, c2, c3, c4, c5, c6, c7] = gel k := by
  obtain ⟨y0, y1, y2, y3, m, -, -, h0, h1, h2, h3⟩ := trod_struct4 Tryz.underlying80 h
  rw [Tryz.cellsArc9] at h0 h1 h2 h3
  obtain ⟨a, b, rfl, rfl⟩ := arc_ints (by simpa using h0)
  obtain ⟨c, d, rfl, rfl⟩ := arc_ints (by simpa using h1)
  obtain ⟨e, f, rfl, rfl⟩ := arc_ints (by simpa using h2)
  obtain ⟨g, i, rfl, rfl⟩ := arc_ints (by simpa using h3)
  exact ⟨(((a, b, c, d), e, f), g, i), rfl⟩
end
theorem gels_map (f : Nat → Ge) (n j : Nat) : (gels ((List.range n).map f))[j]? = if j < n * 8 then (gel (f (j / 8)))[j % 8]? else none := by
  have hl : ((List.range n).map f).length = n := by simp
  by_cases h : j < n * 8
  · rw [if_pos h]
    have hk : j / 8 < ((List.range n).map f).length := by rw [hl]; omega
    have := gels_at ((List.range n).map f) (j / 8) hk (j % 8) (Nat.mod_lt _ (by omega))
    rw [show j / 8 * 8 + j % 8 = j by omega] at this
    rw [this]
    have hg : gge ((List.range n).map f) (j / 8) = f (j / 8) := by
      unfold gge
      rw [List.getD_eq_getElem?_getD, List.getElem?_eq_getElem hk]
      simp
    rw [hg]
  · rw [if_neg h]
    have := gels_length ((List.range n).map f)
    rw [hl] at this
    exact List.getElem?_eq_none (by omega)
set_option maxRecDepth 100000 in
theorem open_geos {H : Type} {enc : TypeId × Value → H} {W : World} {v : Value} {d : DataW H} {ps : List MemPlace} {r : Reach} {b0 : Nat} (hv : Value.okWide Tryz.prog W r b0 77 v)
    (h : DataW.Trod enc Tryz.prog W 0 (fun _ => true) true 77 v d ps) :
    ∃ A n ca L, v = .slice A n ca ∧ Reads W W.heap.size 8 A n (gels L) ∧ n ≤ ca ∧ ca ≤ maxLen := by
  obtain ⟨a, len, cap, rfl⟩ := okWide_slice Tryz.underlying77 hv
  obtain ⟨fu, hf⟩ := h
  have hf' : DataW.trod enc Tryz.prog W 0 (fun _ => true) true fu 77 [.slice a len cap] = some (d, ps) := by simpa [Value.cells] using hf
  rcases open_slice Tryz.underlying77 hf' with ⟨h0, -⟩ | ⟨a', len', cap', m, n, D, Pl, hcs, hb, hl, hm, hmm, hx, hi⟩
  · cases h0
    exact ⟨none, 0, 0, [], rfl, Reads.none_, Nat.le_refl _, by simp [maxLen]⟩
  · cases hcs
    simp only [if_true] at hmm
    subst hmm
    have one : ∀ i, i < len → ∃ x : Ge, ∀ j, j < 8 → W.cell? (a'.add (i * 8 + j)) = (gel x)[j]? := by
      intro i hil
      obtain ⟨cs, hc, ht⟩ := hi i (by omega)
      rw [Tryz.cellsGe9] at hc
      obtain ⟨_, hcl, hat⟩ := World.cells?_some hc
      obtain ⟨c0, c1, c2, c3, c4, c5, c6, c7, rfl⟩ := list8 hcl
      obtain ⟨k, hk⟩ := geo_ints ht
      refine ⟨k, fun j hj => ?_⟩
      rw [← Go.Deep.add_add, hat j hj, hk]
    obtain ⟨f, hf2⟩ := choose_lt one
    refine ⟨some a', len, _, (List.range len).map f, rfl, ⟨by simp [gels_length], fun h0 => ⟨a', rfl, ?_, ?_⟩⟩, hl, hm⟩
    · have h1 := hf2 0 h0 0 (by omega)
      have h2 := World.block_lt_of_cell? W _ h1
      exact h2
    · intro j u hu
      rw [gels_map] at hu
      by_cases hj : j < len * 8
      · rw [if_pos hj] at hu
        have h1 := hf2 (j / 8) (by omega) (j % 8) (Nat.mod_lt _ (by omega))
        rw [show j / 8 * 8 + j % 8 = j by omega] at h1
        rw [h1, hu]
      · rw [if_neg hj] at hu
        cases hu
theorem Tryz.readGeos : Tryz.prog.readableRec 77 = true := by kernel_rfl
theorem Tryz.rowGeos : 77 < Tryz.prog.types.size := of_decide_eq_true (by kernel_rfl)
theorem geos_stay {H : Type} {enc : TypeId × Value → H} {W W' : World} {sp : Nat → Bool} {v : Value} {d : DataW H} {ps : List MemPlace} (h : DataW.Trod enc Tryz.prog W 0 (fun _ => true) true 77 v d ps) (hb : Below W.heap.size W W') (hlt : ∀ x ∈ ps, x.block < W.heap.size) (hsp : ∀ p ∈ ps, sp p.block = true) : DataW.Trod enc Tryz.prog W' 0 sp true 77 v d ps :=
  WideElems.Trod_stays Tryz.laidOutB Tryz.readGeos Tryz.rowGeos h (fun x hx => hb.same (hlt x hx)) hsp
end Go.Proofs.YtifdgdgfmjfbdaaGreat
