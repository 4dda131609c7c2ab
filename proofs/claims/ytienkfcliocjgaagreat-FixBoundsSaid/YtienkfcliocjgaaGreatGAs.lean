/- The walk of the reference's Made. -/
import Derived.Test.YtienkfcliocjgaaGreatGAn
import Derived.Test.YtienkfcliocjgaaGreatGGl
import Derived.Test.YtienkfcliocjgaaGreatGJf
import Derived.Test.YtienkfcliocjgaaGreatGJa
import Derived.Test.YtienkfcliocjgaaGreatGJb
set_option linter.unusedVariables false
set_option linter.unusedSimpArgs false
/- The walks of the reference's Bounds and Center. -/
namespace Go.Proofs.YtienkfcliocjgaaGreat
open Go.RowKit
theorem tdiv2 (a : Int) : (0 ≤ Int.tmod a 2 ∧ Int.tdiv a 2 = a / 2) ∨ (Int.tmod a 2 < 0 ∧ Int.tdiv a 2 - 1 = a / 2) := by
  have h1 := Int.mul_tdiv_add_tmod a 2
  have h3 := Int.tmod_lt_of_pos a (show (0 : Int) < 2 by decide)
  have h4 := Int.tmod_lt_of_pos (-a) (show (0 : Int) < 2 by decide)
  rw [Int.neg_tmod] at h4
  omega
set_option maxHeartbeats 400000 in
theorem floor05_any (a : Int) (w : World) (h0 : -4611686018427387904 ≤ a) (h1 : a ≤ 4611686018427387904) : Calls Tryz.prog 25 #[.int .i64 a, .int .i64 2] w fun e w' => e = .returned (.int .i64 (a / 2)) ∧ w' = w := by
  have hf := tdiv2 a
  have hq : -4611686018427387904 ≤ a / 2 ∧ a / 2 ≤ 4611686018427387904 := by omega
  generalize a / 2 = q at *
  rcases hf with ⟨t0, t1⟩ | ⟨t0, t1⟩
  · have d : decide (Int.tmod a 2 < 0) = false := decide_eq_false (by omega)
    have s2 : wrap64 (Int.tdiv a 2) = Int.tdiv a 2 := IntWalk.wrap64_in _ (by omega)
    have T := Lib.hid t1
    clear t0 t1 hq h0 h1
    go_enter Tryz.func25, Tryz.ntmps25
    go_wp2
    go_ret
    exact ⟨ret_int (by first | exact T.out | (rw [s2]; exact T.out)), rfl⟩
  · have d : decide (Int.tmod a 2 < 0) = true := decide_eq_true (by omega)
    have s2 : wrap64 (Int.tdiv a 2) = Int.tdiv a 2 := IntWalk.wrap64_in _ (by omega)
    have s1 : wrap64 (Int.tdiv a 2 - 1) = Int.tdiv a 2 - 1 := IntWalk.wrap64_in _ (by omega)
    have T := Lib.hid t1
    clear t0 t1 hq h0 h1
    go_enter Tryz.func25, Tryz.ntmps25
    go_wp2
    go_ret
    exact ⟨ret_int (by first | exact T.out | (rw [s1]; exact T.out)), rfl⟩
set_option maxHeartbeats 4000000 in
set_option maxRecDepth 100000 in
theorem rBounds_any (A : Option Addr) (n c : Nat) (L : List Cl) (w : World) (hr : Reads w w.heap.size 3 A n (cvs L)) (hv : vrB L = true) (h0 : 0 < n) :
    Calls Tryz.prog 10 #[.slice A n c] w fun e w' => e = .returned (.agg #[.int .i64 (bndV L).1, .int .i64 (bndV L).2.1, .int .i64 (bndV L).2.2.1, .int .i64 (bndV L).2.2.2]) ∧ Below w.heap.size w w' := by
  have hll : L.length = n := hr.len
  have hvl := ((vrB_iff L).1 hv).2.1
  have hfew : n ≤ 4000 := by rw [← hll]; exact ((vrB_iff L).1 hv).1
  have HL : Hid ((L.map bxI).length = n) := Lib.hid (by rw [List.length_map]; exact hll)
  have hbx : ∀ k, k < n → gb (L.map bxI) k = bxI (gt L k) := fun k hk => by
    have : k < L.length := by rw [hll]; exact hk
    simp [gb, gt, this]
  have KB : Hid (∀ k, k < n → ∀ W, Calls Tryz.prog 22 #[.agg #[.int .i64 (gt L k).1, .int .i64 (gt L k).2.1, .int .i64 (gt L k).2.2]] W fun e w' => e = .returned (.agg #[.int .i64 (gb (L.map bxI) k).1, .int .i64 (gb (L.map bxI) k).2.1, .int .i64 (gb (L.map bxI) k).2.2.1, .int .i64 (gb (L.map bxI) k).2.2.2]) ∧ Below W.heap.size W w') := Lib.hid fun k hk W => by
    have hk' : k < L.length := by rw [hll]; exact hk
    have := refBox_any (gt L k).1 (gt L k).2.1 (gt L k).2.2 W ((vl_iff _).2 (hvl _ (by simp [gt, hk'])))
    rw [boxV_bx] at this
    rw [hbx k hk]
    exact this
  have HC := Lib.hid (okC_bx hvl)
  obtain ⟨b, off, rfl, hb, x0, x1, x2⟩ := hr.elem h0
  have X : Hid (∀ W, Below w.heap.size w W → ∀ k, k < n → W.cell? ⟨b, off + k * 3, none⟩ = some (.int .i64 (gt L k).1) ∧ W.cell? ⟨b, off + k * 3 + 1, none⟩ = some (.int .i64 (gt L k).2.1) ∧ W.cell? ⟨b, off + k * 3 + 2, none⟩ = some (.int .i64 (gt L k).2.2)) := Lib.hid (fun W hW k hk => by
    obtain ⟨b', off', e, hb', x0, x1, x2⟩ := hr.elem hk
    cases e
    exact ⟨(hW.cell (p := ⟨b, off + k * 3, none⟩) hb).trans x0, (hW.cell (p := ⟨b, off + k * 3 + 1, none⟩) hb).trans x1, (hW.cell (p := ⟨b, off + k * 3 + 2, none⟩) hb).trans x2⟩)
  clear x0 x1 x2 hr hbx hvl hv
  unfold bndV
  rw [hll]
  clear hll
  generalize L.map bxI = D at *
  have z0 := latF_zero D
  have kb0 := Lib.hid (KB.out 0 h0)
  obtain ⟨⟨f0, f1, f2, f3⟩, hf⟩ : ∃ q, gb D 0 = q := ⟨_, rfl⟩
  rw [hf] at z0 kb0
  simp only [] at z0 kb0
  have HL0 := Lib.hid z0
  obtain ⟨y0, y1, y2⟩ := X.out _ (bl_alloc w (.cells #[.int .i64 0, .int .i64 0, .int .i64 0, .int .i64 0] 29)) 0 h0
  simp only [Nat.zero_mul, Nat.add_zero] at y0 y1 y2
  generalize gt L 0 = x at y0 y1 y2 kb0
  obtain ⟨xl, xr, xc⟩ := x
  simp only [] at y0 y1 y2 kb0
  clear z0 hf
  obtain ⟨iA, hiA, hzA, hz1A, hzbA⟩ : ∃ i0, Tryz.prog.info? 27 = some i0 ∧ i0.zero = some (.agg #[.int .i64 0, .int .i64 0]) ∧ i0.size = 2 ∧ i0.bytes = 16 := by
    have h : (Tryz.prog.info? 27).map (fun i => (i.zero, i.size, i.bytes)) = some (some (.agg #[.int .i64 0, .int .i64 0]), 2, 16) := by kernel_rfl
    obtain ⟨i0, a, b, c, d⟩ := info_parts h
    exact ⟨i0, a, b, c, d⟩
  have Z0 := Lib.hid (K4.new w 0 0 0 0 29)
  have B0 := Lib.hid (bl_alloc w (.cells #[.int .i64 0, .int .i64 0, .int .i64 0, .int .i64 0] 29))
  go_enter Tryz.func10, Tryz.ntmps10
  go_wp2_with fail
  (with_reducible refine (kb0.out _).mono ?_)
  rintro e w1 ⟨rfl, hb1⟩
  have P1 := Lib.hid (K4.new w1 f0 f1 f2 f3 29)
  have Z1 := Lib.hid ((Z0.out.below hb1 Z0.out.lt).alloc (.cells #[.int .i64 f0, .int .i64 f1, .int .i64 f2, .int .i64 f3] 29))
  have B1 := Lib.hid ((B0.out.trans (hb1.mono B0.out.size)).alloc (by have := B0.out.size; have := hb1.size; omega) (.cells #[.int .i64 f0, .int .i64 f1, .int .i64 f2, .int .i64 f3] 29))
  have hg4 : w.heap.size < w1.heap.size := by have := Z0.out.lt; have := hb1.size; omega
  clear y0 y1 y2 hb1 Z0 B0 kb0
  generalize hg : w1.heap.size = g4 at *
  go_wp2
  go_loopw [3, 5] (fun s3 i wr => ∃ k : Nat, k ≤ n ∧ i = .int .i64 k ∧ wr.ownsRow (g4 + 1) 27 2 s3 k (spvs ((lons D).take k)) ∧ K4 wr w.heap.size 0 0 0 0 ∧ K4 wr g4 (latF D k).1 (latF D k).2 f2 f3 ∧ Below w.heap.size w wr) (fun _ i _ => n - (intOf i).toNat)
  case atStart => exact ⟨0, Nat.zero_le _, rfl, own_nil _ _ _ _, Z1.out, by rw [HL0.out]; exact P1.out, B1.out⟩
  case round =>
    obtain ⟨k, hk, rfl, hown, hZ, hP, hbl⟩ := hrel
    clear Z1 P1 B1
    have HOW := Lib.hid hown
    have HZ := Lib.hid hZ
    have HP := Lib.hid hP
    have HB := Lib.hid hbl
    clear hown hZ hP hbl
    by_cases hlt : k < n
    · obtain ⟨y0, y1, y2⟩ := X.out wr HB.out k hlt
      have hLS := Lib.hid (latF_succ D k (by rw [HL.out]; exact hlt))
      have hTK := Lib.hid (lons_take D k (by rw [HL.out]; exact hlt))
      have kb := Lib.hid (KB.out k hlt)
      generalize gb D k = q at *
      generalize latF D k = s at *
      generalize gt L k = x at y0 y1 y2 kb
      obtain ⟨xl, xr, xc⟩ := x
      obtain ⟨q0, q1, q2, q3⟩ := q
      obtain ⟨s0, s1⟩ := s
      simp only [] at y0 y1 y2 kb hLS hTK HP
      have KH := Lib.hid (fun W => Hull_any s0 s1 q0 q1 W)
      go_wp2_with fail
      (with_reducible refine (kb.out _).mono ?_)
      rintro e w2 ⟨rfl, hb2⟩
      have hz2 := hb2.size
      have hzr := HB.out.size
      have hlp := HP.out.lt
      have PW := Lib.hid ((HP.out.below hb2 hlp).alloc (.cells #[.int .i64 q0, .int .i64 q1, .int .i64 q2, .int .i64 q3] 29))
      have ZW := Lib.hid ((HZ.out.below hb2 HZ.out.lt).alloc (.cells #[.int .i64 q0, .int .i64 q1, .int .i64 q2, .int .i64 q3] 29))
      have OW := Lib.hid ((own_bl HOW.out hb2 (Nat.le_refl _)).alloc (.cells #[.int .i64 q0, .int .i64 q1, .int .i64 q2, .int .i64 q3] 29))
      have BW := Lib.hid ((HB.out.trans (hb2.mono hzr)).alloc (by omega) (.cells #[.int .i64 q0, .int .i64 q1, .int .i64 q2, .int .i64 q3] 29))
      have NW := Lib.hid (K4.new w2 q0 q1 q2 q3 29)
      have hga : g4 < w2.heap.size := by omega
      clear y0 y1 y2 hb2 HOW HZ HP HB kb
      obtain ⟨pt, p0, p1, p2, p3, -, -, -, -⟩ := PW.out
      go_wp2_with fail
      (with_reducible refine (KH.out _).mono ?_)
      rintro e w3 ⟨rfl, hb3⟩
      clear pt p0 p1 p2 p3
      have hz3 := hb3.size
      rw [World.size_alloc] at hz3
      have PX := Lib.hid (PW.out.below hb3 PW.out.lt)
      have ZX := Lib.hid (ZW.out.below hb3 ZW.out.lt)
      have NX := Lib.hid (NW.out.below hb3 NW.out.lt)
      have OX := Lib.hid (own_bl OW.out hb3 (Nat.le_refl _))
      have BX := Lib.hid (BW.out.trans (hb3.mono BW.out.size))
      clear hb3 PW ZW NW OW BW KH
      generalize w2.heap.size = ga at *
      obtain ⟨pt, p0, p1, p2, p3, pf0, pf1, -, -⟩ := PX.out
      go_upto_region 8 with (fail)
      clear pt p0 p1 p2 p3 pf0 pf1
      have PY := Lib.hid (PX.out.two (min s0 q0) (max s1 q1))
      have ZY := Lib.hid ((ZX.out.farB (p := ⟨g4, 0, none⟩) (by simp only []; omega) (.int .i64 (min s0 q0))).farB (p := ⟨g4, 1, none⟩) (by simp only []; omega) (.int .i64 (max s1 q1)))
      have NY := Lib.hid ((NX.out.farB (p := ⟨g4, 0, none⟩) (by simp only []; omega) (.int .i64 (min s0 q0))).farB (p := ⟨g4, 1, none⟩) (by simp only []; omega) (.int .i64 (max s1 q1)))
      have BY := Lib.hid ((BX.out.setCell (p := ⟨g4, 0, none⟩) (by simp only []; omega) (.int .i64 (min s0 q0))).setCell (p := ⟨g4, 1, none⟩) (by simp only []; omega) (.int .i64 (max s1 q1)))
      have OY := Lib.hid (own_grown' OX.out (grown_set2 (o := 1) (v := .int .i64 (max s1 q1)) (grown_set2 (o := 0) (v := .int .i64 (min s0 q0)) (World.grownBy.refl w3 (some g4)))) (fun q hq e => by have := own_base OX.out q hq; cases e; omega))
      clear PX ZX NX BX OX
      generalize (w3.setCell ⟨g4, 0, none⟩ (.int .i64 (min s0 q0))).setCell ⟨g4, 1, none⟩ (.int .i64 (max s1 q1)) = WX at *
      obtain ⟨nt2, a0, a1, a2, a3, -, -, -, -⟩ := NY.out
      go_wp2_with (at_builtin; first
        | (refine wpList_append_any _ rfl (.tmp 28) (.tmp 31) _ rfl (g4 + 1) 27 iA _ 2 16 Tryz.underlying56 hiA hzA hz1A hzbA rfl (by decide) _ k (spvs ((lons D).take k)) rfl (OY.out.alloc _) (WX.heap.size + 1) (some ⟨WX.heap.size, 0, none⟩) 1 1 [.int .i64 q2, .int .i64 q3] rfl ⟨rfl, fun _ => ⟨_, rfl, by simp, arc_cells WX (q2, q3) _⟩⟩ (by simp [Value.oneCell']) (by simp only [maxLen]; omega) (by omega) (by simp; omega) ?_; intro v7 w7 hown7 hg7 hat7)
        | fail)
      have b7 := ((bl_alloc WX (.cells #[.int .i64 q2, .int .i64 q3] 27)).mono (show g4 + 1 ≤ WX.heap.size by omega)).grown hg7 (by simp; omega) (own_base OY.out)
      go_roundw
      case rel => exact ⟨k + 1, by omega, by go_num, by rw [hTK.out]; exact hown7, ZY.out.below b7 (by omega), by rw [hLS.out]; exact PY.out.below b7 (by omega), BY.out.trans (b7.mono (by omega))⟩
      case measure => simp [intOf]; omega
    · obtain rfl : k = n := by omega
      have hll : (lons D).length = k := by rw [show (lons D).length = D.length from List.length_map _, HL.out]
      rw [List.take_of_length_le (by omega)] at HOW
      obtain ⟨A3, c3, rfl, ra, -, -⟩ := own_form HOW.out
      have KA := Lib.hid (around08_any A3 k c3 (lons D) wr ra (by omega) (okR_of HC.out))
      obtain ⟨⟨r0, r1⟩, hr⟩ : ∃ r, rarn (lons D) = r := ⟨_, rfl⟩
      obtain ⟨⟨s0, s1⟩, hs⟩ : ∃ s, latF D k = s := ⟨_, rfl⟩
      rw [hr] at KA
      rw [hs] at HP
      simp only [] at KA HP
      have HRS := Lib.hid (And.intro hr hs)
      clear hr hs
      clear ra HOW
      go_wp2_with fail
      (with_reducible refine KA.out.mono ?_)
      rintro e w4 ⟨rfl, hb4⟩
      have P4 := Lib.hid (HP.out.below hb4 HP.out.lt)
      have Z4 := Lib.hid (HZ.out.below hb4 HZ.out.lt)
      have B4 := Lib.hid (HB.out.trans (hb4.mono HB.out.size))
      clear KA HP HZ HB hb4
      obtain ⟨pt, p0, p1, p2, p3, pf0, pf1, pf2, pf3⟩ := P4.out
      have hn1 : ¬ w.heap.size = g4 := by omega
      have hn2 : ¬ g4 = w.heap.size := by omega
      obtain ⟨zt, z0, z1, z2, z3, zf0, zf1, zf2, zf3⟩ := Z4.out
      go_wp2
      refine bodyPost_ret (v := .agg #[.int .i64 s0, .int .i64 s1, .int .i64 r0, .int .i64 r1]) (by simp [results, Tryz.results10, go_sem, *]; done) rfl ⟨by rw [HRS.out.1, HRS.out.2], ?_⟩
      exact bl_put4 ((B4.out.setCell (by simp only []; omega) _).setCell (by simp only []; omega) _) (Nat.le_refl _)
set_option maxHeartbeats 2000000 in
set_option maxRecDepth 100000 in
theorem rCenter_any (A : Option Addr) (n c : Nat) (L : List Cl) (w : World) (hr : Reads w w.heap.size 3 A n (cvs L)) (hv : vrB L = true) (h0 : 0 < n) :
    Calls Tryz.prog 11 #[.slice A n c] w fun e w' => e = .returned (.agg #[.int .i64 (cenV L).1, .int .i64 (cenV L).2]) ∧ Below w.heap.size w w' := by
  have KB := Lib.hid (fun W (hW : Below w.heap.size w W) => rBounds_any A n c L W ((hr.below hW).more hW.size) hv h0)
  have hbd := bnd_bd ((vrB_iff L).1 hv).2.1 (by rw [hr.len]; exact h0)
  unfold cenV
  generalize bndV L = q at *
  obtain ⟨l0, l1, r0, r1⟩ := q
  simp only [] at KB hbd ⊢
  have KS := Lib.hid (fun W => sgn05_any ((r0 + r1) / 2) W)
  have KF1 := Lib.hid (fun W => floor05_any (l0 + l1) W (by omega) (by omega))
  have KF2 := Lib.hid (fun W => floor05_any (r0 + r1) W (by omega) (by omega))
  generalize sgA ((r0 + r1) / 2) = sg at *
  have n0 : wrap64 (l0 + l1) = l0 + l1 := IntWalk.wrap64_in _ (by omega)
  have n1 : wrap64 (r0 + r1) = r0 + r1 := IntWalk.wrap64_in _ (by omega)
  have m0 : IntKind.i64.wrap (l0 + l1) = l0 + l1 := by rw [IntKind.wrap_i64]; omega
  have m1 : IntKind.i64.wrap (r0 + r1) = r0 + r1 := by rw [IntKind.wrap_i64]; omega
  generalize (l0 + l1) / 2 = f1 at *
  generalize (r0 + r1) / 2 = f2 at *
  clear hr hv hbd
  have B0 := Lib.hid (bl_alloc w (.cells #[.int .i64 0, .int .i64 0] 24))
  have Z0 := Lib.hid (K2.new w 0 0 24)
  go_enter Tryz.func11, Tryz.ntmps11
  go_wp2_with fail
  (with_reducible refine (KB.out _ B0.out).mono ?_)
  rintro e w1 ⟨rfl, hb1⟩
  have Z1 := Lib.hid ((Z0.out.below hb1 Z0.out.lt).alloc (.cells #[.int .i64 l0, .int .i64 l1, .int .i64 r0, .int .i64 r1] 29))
  have hz1 := hb1.size
  have B1 := Lib.hid ((B0.out.trans (hb1.mono B0.out.size)).alloc (by have := B0.out.size; omega) (.cells #[.int .i64 l0, .int .i64 l1, .int .i64 r0, .int .i64 r1] 29))
  have P1 := Lib.hid (K4.new w1 l0 l1 r0 r1 29)
  go_upto_region 2 with (fail)
  obtain ⟨W1, hW1⟩ : ∃ W1, w1.alloc (.cells #[.int .i64 l0, .int .i64 l1, .int .i64 r0, .int .i64 r1] 29) = W1 := ⟨_, rfl⟩
  rw [hW1] at Z1 B1 P1 ⊢
  have hlt0 : w.heap.size < w1.heap.size := by have := B0.out.size; have := Z0.out.lt; omega
  clear hW1 Z0 B0 KB hb1 hz1
  generalize w1.heap.size = ga at *
  have hn1 : ¬ w.heap.size = ga := by omega
  have hn2 : ¬ ga = w.heap.size := by omega
  obtain ⟨pt, p0, p1, p2, p3, -, -, -, -⟩ := P1.out
  go_region_held3 (fun w' => w'.cell? ⟨ga, 0, none⟩ = some (.int .i64 l0) ∧ w'.cell? ⟨ga, 1, none⟩ = some (.int .i64 l1) ∧ w'.cell? ⟨ga, 2, none⟩ = some (.int .i64 r0) ∧ w'.cell? ⟨ga, 3, none⟩ = some (.int .i64 r1)) (simp [*]) (first
    | (go_at_call 25; (first | rw [m0] | rw [m1] | skip); (first | (with_reducible refine (KF1.out _).mono ?_) | (with_reducible refine (KF2.out _).mono ?_)); rintro e w9 ⟨rfl, rfl⟩)
    | (go_at_call 26; (with_reducible refine (KS.out _).mono ?_); rintro e w9 ⟨rfl, hb9⟩; have P9 := P1.out.drew.below hb9 (by simpa using P1.out.lt); have Z9 := Z1.out.below ((bl_drew (Below.refl _ _)).trans hb9) (by simpa using Z1.out.lt); have B9 := Lib.hid (B1.out.trans (((bl_drew (Below.refl _ _)).trans hb9).mono (by simpa using B1.out.size))); obtain ⟨pt9, p09, p19, p29, p39, -, -, -, -⟩ := P9; obtain ⟨zt9, z09, z19, zf09, zf19⟩ := Z9; have e9 := fun (i : Nat) (u v : Value) => (World.cell?_setCell_other (w9.setCell ⟨w.heap.size, 0, none⟩ u) ⟨w.heap.size, 1, none⟩ ⟨ga, i, none⟩ v (fun e => hn1 (by injection e))).trans (World.cell?_setCell_other w9 ⟨w.heap.size, 0, none⟩ ⟨ga, i, none⟩ u (fun e => hn1 (by injection e))))
    | fail)
  all_goals
    go_wp2
    refine bodyPost_ret (v := .agg #[.int .i64 f1, .int .i64 sg]) (by simp [results, Tryz.results11, go_sem, *]; done) rfl ⟨rfl, ?_⟩
    exact (B9.out.setCell (by simp) _).setCell (by simp) _
end Go.Proofs.YtienkfcliocjgaaGreat
/- The walks of fix.Bounds and fix.Center at the awake's cell. -/
namespace Go.Proofs.YtienkfcliocjgaaGreat
open Go.RowKit
theorem ex_vl : Vl ((0 : Int), (0 : Int), (1 : Int)) := (vl_iff _).1 (by decide)
theorem ex_box : bxI ((0 : Int), (0 : Int), (1 : Int)) = (-5400000, 5400000, 0, 10800000) := by decide
theorem ex_fS : (fS [((0 : Int), (10800000 : Int))] 1).1 = (0, 10800000) := by decide
set_option maxHeartbeats 1000000 in
set_option maxRecDepth 100000 in
theorem Bounds_ex (A : Option Addr) (c : Nat) (w : World) (hr : Reads w w.heap.size 3 A 1 (cvs [((0 : Int), (0 : Int), (1 : Int))])) :
    Calls Tryz.prog 5 #[.slice A 1 c] w fun e w' => e = .returned (.tuple #[.agg #[.int .i64 (-5400000), .int .i64 5400000, .int .i64 0, .int .i64 10800000], .int .i64 0]) ∧ Below w.heap.size w w' := by
  have KB := Lib.hid (fun W (hW : Below w.heap.size w W) => boxes_any A 1 c [((0 : Int), (0 : Int), (1 : Int))] W ((hr.below hW).more hW.size) (by decide))
  rw [one_vr ex_vl] at KB
  simp only [if_true, List.map_cons, List.map_nil, ex_box] at KB
  have KF := Lib.hid (fun (W : World) (A : Option Addr) (c : Nat) (h : Reads W W.heap.size 4 A 1 (bv (-5400000, 5400000, 0, 10800000))) => fbounds_one A c (-5400000) 5400000 0 10800000 W h (by intro x hx; obtain rfl := List.mem_singleton.1 hx; decide))
  rw [ex_fS] at KF
  clear hr
  have B0 := Lib.hid (bl_alloc w (.cells #[.int .i64 0, .int .i64 0, .int .i64 0, .int .i64 0] 29))
  have Z0 := Lib.hid (K4.new w 0 0 0 0 29)
  go_enter Tryz.func5, Tryz.ntmps5
  go_wp2_with fail
  (with_reducible refine (KB.out _ B0.out).mono ?_)
  rintro e w1 ⟨v, rfl, hown, hb1⟩
  obtain ⟨A1, c1, rfl, ra, -, -⟩ := own_form hown
  have RA : Hid (Reads w1 w1.heap.size 4 A1 1 (bv (-5400000, 5400000, 0, 10800000))) := Lib.hid (by simpa [bvs, bv] using ra)
  have Z1 := Lib.hid (Z0.out.below hb1 Z0.out.lt)
  have B1 := Lib.hid (B0.out.trans (hb1.mono B0.out.size))
  clear hown hb1 ra Z0 B0 KB
  simp only [List.length_cons, List.length_nil]
  go_wp2_with fail
  (with_reducible refine (KF.out _ _ _ RA.out).mono ?_)
  rintro e w2 ⟨rfl, hb2⟩
  have B2 := Lib.hid (B1.out.trans (hb2.mono B1.out.size))
  obtain ⟨zt, z0, z1, z2, z3, zf0, zf1, zf2, zf3⟩ := Z1.out.below hb2 Z1.out.lt
  go_wp2
  refine bodyPost_ret (v := .tuple #[.agg #[.int .i64 (-5400000), .int .i64 5400000, .int .i64 0, .int .i64 10800000], .int .i64 0]) (by simp [results, Tryz.results5, go_sem, *]; done) rfl ⟨rfl, ?_⟩
  exact bl_put4 B2.out (Nat.le_refl _)
set_option maxHeartbeats 1000000 in
set_option maxRecDepth 100000 in
theorem Center_ex (A : Option Addr) (c : Nat) (w : World) (hr : Reads w w.heap.size 3 A 1 (cvs [((0 : Int), (0 : Int), (1 : Int))])) :
    Calls Tryz.prog 6 #[.slice A 1 c] w fun e w' => e = .returned (.tuple #[.agg #[.int .i64 0, .int .i64 5400000], .int .i64 0]) ∧ Below w.heap.size w w' := by
  have KB := Lib.hid (fun W (hW : Below w.heap.size w W) => Bounds_ex A c W ((hr.below hW).more hW.size))
  have ks := fun W => SignedA_any 5400000 W (by decide) (by decide)
  rw [show sgA 5400000 = 5400000 by decide] at ks
  have KS := Lib.hid ks
  clear ks
  clear hr
  have B0 := Lib.hid (bl_alloc w (.cells #[.int .i64 0, .int .i64 0] 24))
  have Z0 := Lib.hid (K2.new w 0 0 24)
  go_enter Tryz.func6, Tryz.ntmps6
  go_wp2_with fail
  (with_reducible refine (KB.out _ B0.out).mono ?_)
  rintro e w1 ⟨rfl, hb1⟩
  have Z1 := Lib.hid ((Z0.out.below hb1 Z0.out.lt).alloc (.cells #[.int .i64 (-5400000), .int .i64 5400000, .int .i64 0, .int .i64 10800000] 29))
  have hz1 := hb1.size
  have B1 := Lib.hid ((B0.out.trans (hb1.mono B0.out.size)).alloc (by have := B0.out.size; omega) (.cells #[.int .i64 (-5400000), .int .i64 5400000, .int .i64 0, .int .i64 10800000] 29))
  have P1 := Lib.hid (K4.new w1 (-5400000) 5400000 0 10800000 29)
  go_upto_region 4 with (fail)
  obtain ⟨W1, hW1⟩ : ∃ W1, w1.alloc (.cells #[.int .i64 (-5400000), .int .i64 5400000, .int .i64 0, .int .i64 10800000] 29) = W1 := ⟨_, rfl⟩
  rw [hW1] at Z1 B1 P1 ⊢
  have hlt0 : w.heap.size < w1.heap.size := by have := B0.out.size; have := Z0.out.lt; omega
  clear hW1 Z0 B0 KB hb1 hz1
  generalize w1.heap.size = ga at *
  have hn1 : ¬ w.heap.size = ga := by omega
  have hn2 : ¬ ga = w.heap.size := by omega
  obtain ⟨pt, p0, p1, p2, p3, -, -, -, -⟩ := P1.out
  have hw : IntKind.i64.wrap 10800000 = 10800000 := by decide
  have hw0 : IntKind.i64.wrap 0 = 0 := by decide
  go_region_held3 (fun w' => w'.cell? ⟨ga, 0, none⟩ = some (.int .i64 (-5400000)) ∧ w'.cell? ⟨ga, 1, none⟩ = some (.int .i64 5400000) ∧ w'.cell? ⟨ga, 2, none⟩ = some (.int .i64 0) ∧ w'.cell? ⟨ga, 3, none⟩ = some (.int .i64 10800000)) (simp [*]) (first
    | (go_at_call 15; (with_reducible refine (KS.out _).mono ?_); rintro e w9 ⟨rfl, hb9⟩; have P9 := P1.out.drew.below hb9 (by simpa using P1.out.lt); have Z9 := Z1.out.below ((bl_drew (Below.refl _ _)).trans hb9) (by simpa using Z1.out.lt); have B9 := Lib.hid (B1.out.trans (((bl_drew (Below.refl _ _)).trans hb9).mono (by simpa using B1.out.size))); obtain ⟨pt9, p09, p19, p29, p39, -, -, -, -⟩ := P9; obtain ⟨zt9, z09, z19, zf09, zf19⟩ := Z9; have e9 := fun (i : Nat) (u v : Value) => (World.cell?_setCell_other (w9.setCell ⟨w.heap.size, 0, none⟩ u) ⟨w.heap.size, 1, none⟩ ⟨ga, i, none⟩ v (fun e => hn1 (by injection e))).trans (World.cell?_setCell_other w9 ⟨w.heap.size, 0, none⟩ ⟨ga, i, none⟩ u (fun e => hn1 (by injection e))))
    | fail)
  go_wp2
  refine bodyPost_ret (v := .tuple #[.agg #[.int .i64 0, .int .i64 5400000], .int .i64 0]) (by simp [results, Tryz.results6, go_sem, *]; done) rfl ⟨rfl, ?_⟩
  exact (B9.out.setCell (by simp) _).setCell (by simp) _
theorem equalInPt (a b a' b' : Int) (w : World) : (Op.equalIn 10000 24 (.agg #[.int .i64 a, .int .i64 b]) (.agg #[.int .i64 a', .int .i64 b'])).run Tryz.prog w = .ok (aeq a b a' b') w := by
  have u3 := Tryz.underlying3
  have a3 := Tryz.isAgg3
  have z3 := Tryz.sizeOf3
  have hS : Tryz.prog.underlying 24 = some (.struct (Tryz.prog.fieldsOf 24)) := by kernel_rfl
  have hp : Tryz.prog.stoodInHeld 24 = false := by kernel_rfl
  rw [show (10000 : Nat) = 9999 + 1 from rfl, run_equalIn_agg w 9999 24 _ _ hS hp]
  simp only [Program.fieldsOf, Tryz.underlying24]
  go_simp
  by_cases h1 : a = a' <;> by_cases h2 : b = b' <;> simp [aeq, h1, h2]
theorem eqlPt (a b a' b' : Int) (w : World) : (binOp .eql 24 (.agg #[.int .i64 a, .int .i64 b]) (.agg #[.int .i64 a', .int .i64 b'])).run Tryz.prog w = .ok (.bool (aeq a b a' b')) w := by
  rw [run_eql_struct, equalInPt]; rfl
set_option maxHeartbeats 1000000 in
set_option maxRecDepth 100000 in
theorem awake40 (w : World) : Calls Tryz.prog 4 #[] w fun e w' => e = .returned (.bool true) ∧ Below w.heap.size w w' := by
  have hq := eqlPlace
  have hq2 := eqlPt
  have k1 : peq (-5400000) 5400000 0 10800000 (-5400000) 5400000 0 10800000 = true := by decide
  have k2 : aeq 0 5400000 0 5400000 = true := by decide
  have B0 := Lib.hid (bl_alloc w (.cells #[.int .i64 0, .int .i64 0, .int .i64 1] 44))
  have R0 := Lib.hid (reads_new3 w 0 0 1 44 (w.heap.size + 1) (by omega))
  have KB := Lib.hid (fun (W : World) (hW : Below (w.heap.size + 1) (w.alloc (.cells #[.int .i64 0, .int .i64 0, .int .i64 1] 44)) W) => Bounds_ex (some ⟨w.heap.size, 0, none⟩) 1 W ((R0.out.below hW).more (by have := hW.size; simpa using this)))
  have KC := Lib.hid (fun (W : World) (hW : Below (w.heap.size + 1) (w.alloc (.cells #[.int .i64 0, .int .i64 0, .int .i64 1] 44)) W) => Center_ex (some ⟨w.heap.size, 0, none⟩) 1 W ((R0.out.below hW).more (by have := hW.size; simpa using this)))
  have hs0 : (w.alloc (.cells #[.int .i64 0, .int .i64 0, .int .i64 1] 44)).heap.size = w.heap.size + 1 := by simp
  have HS0 := Lib.hid hs0
  clear hs0
  go_enter Tryz.func4, Tryz.ntmps4
  go_wp2_with fail
  (with_reducible refine (KB.out _ (Below.refl _ _)).mono ?_)
  rintro e w1 ⟨rfl, hb1⟩
  have P1 := Lib.hid (K4.new w1 (-5400000) 5400000 0 10800000 29)
  have hb1' := hb1.mono (show w.heap.size + 1 ≤ _ from Nat.le_of_eq HS0.out.symm)
  have hz1 := hb1'.size
  have C1 := Lib.hid (hb1'.alloc (by rw [HS0.out] at hz1; exact hz1) (.cells #[.int .i64 (-5400000), .int .i64 5400000, .int .i64 0, .int .i64 10800000] 29))
  clear hb1 hb1' hz1 KB
  go_wp2_with fail
  (with_reducible refine (KC.out _ C1.out).mono ?_)
  rintro e w2 ⟨rfl, hb2⟩
  have P2 := P1.out.below hb2 (by simp)
  have C2 := Lib.hid (B0.out.trans ((C1.out.trans (hb2.mono (by have := C1.out.size; rw [HS0.out] at this; exact this))).mono (Nat.le_succ _)))
  obtain ⟨pt, p0, p1, p2, p3, -, -, -, -⟩ := P2.alloc (.cells #[.int .i64 0, .int .i64 5400000] 24)
  clear KC hb2 P1 C1 R0 P2
  go_wp2
  go_ret
  exact ⟨ret_bool (by simp), C2.out.alloc C2.out.size _⟩
end Go.Proofs.YtienkfcliocjgaaGreat
/- The walk of the reference's within. -/
namespace Go.Proofs.YtienkfcliocjgaaGreat
open Go.RowKit
def lvOk (L : List Cl) : Prop := ∀ y ∈ L, 0 ≤ y.1 ∧ y.1 ≤ 16
theorem lvOk_if {L : List Cl} (h : lvOk L) (x : Bool) : lvOk (if x = true then [] else L) := by cases x <;> simp [lvOk] at h ⊢; exact h
theorem belL_16 (L : List Cl) (r c : Int) (h : lvOk L) : belL L (16, r, c) = [] := by
  unfold belL
  rw [List.filter_eq_nil_iff]
  intro y hy hh
  obtain ⟨y1, y2, y3⟩ := y
  have := (h _ hy).2
  simp only [Bool.and_eq_true, Bool.not_eq_true', ceq_false, wiB, decide_eq_true_eq] at hh this
  obtain ⟨h1, h2, h3, h4⟩ := hh
  have e : y1 = 16 := by omega
  subst e
  simp at h3 h4
  exact h1 (by rw [h3, h4])
theorem lvOk_belL {L : List Cl} (x : Cl) (h : lvOk L) : lvOk (belL L x) := fun y hy => h y (List.mem_filter.1 hy).1
theorem if_len {L : List Cl} {n : Nat} (x : Bool) (c : Cl) (h : L.length ≤ n) : (belL (if x = true then [] else L) c).length ≤ n := by
  have := List.length_filter_le (fun y => !ceq y c && wiB y c) (if x = true then [] else L)
  unfold belL
  cases x
  · simp only [Bool.false_eq_true, if_false] at this ⊢; omega
  · simp
theorem kid_at (l r c : Int) {k : Nat} (hk : k < 4) : gt (kids l r c) k = (l + 1, 2 * r + (k : Int) / 2, 2 * c + (k : Int) % 2) := by
  match k, hk with
  | 0, _ => simp [kids, gt]
  | 1, _ => simp [kids, gt]
  | 2, _ => simp [kids, gt]
  | 3, _ => simp [kids, gt]
theorem kid_vld {l r c : Int} (hv : vldB l r c = true) (hl : l < 16) {k : Nat} (hk : k < 4) : vldB (l + 1) (2 * r + (k : Int) / 2) (2 * c + (k : Int) % 2) = true := by
  obtain ⟨h0, h1, h2, h3, h4, h5⟩ := vldB_true.1 hv
  have e : pw (l + 1) = 2 * pw l := by
    unfold pw
    rw [show (l + 1).toNat = l.toNat + 1 by omega, Int.pow_succ]
    omega
  rw [vldB_true, e]
  omega
def flatTo (L : List Cl) (g : Cl → List Cl) (k : Nat) : List Cl := (L.take k).flatMap g
theorem flatTo_succ (L : List Cl) (g : Cl → List Cl) (k : Nat) (hk : k < L.length) : flatTo L g (k + 1) = flatTo L g k ++ g (gt L k) := by
  unfold flatTo
  rw [take_gt L k hk, List.flatMap_append]
  simp
theorem flatTo_len (L : List Cl) (g : Cl → List Cl) (k N : Nat) (hg : ∀ x, (g x).length ≤ N) : (flatTo L g k).length ≤ k * N := by
  unfold flatTo
  have : ∀ M : List Cl, (M.flatMap g).length ≤ M.length * N := by
    intro M
    induction M with
    | nil => simp
    | cons x M ih =>
      have := hg x
      simp only [List.flatMap_cons, List.length_append, List.length_cons, Nat.add_mul]
      omega
  have h1 := this (L.take k)
  have h2 := Nat.mul_le_mul_right N (List.length_take_le k L)
  omega
theorem four_of {L : List Cl} (h : L.length = 4) : L = [gt L 0, gt L 1, gt L 2, gt L 3] := by
  match L, h with
  | [a, b, c, d], _ => rfl
end Go.Proofs.YtienkfcliocjgaaGreat
namespace Go.Proofs.YtienkfcliocjgaaGreat
open Go.RowKit
end Go.Proofs.YtienkfcliocjgaaGreat
