/- Walks of the reference's small functions on arcs. -/
import Derived.Test.YtienkfcliocjgaaGreatGAl
import Derived.Test.YtienkfcliocjgaaGreatGGh
import Derived.Test.YtienkfcliocjgaaGreatGAo
import Derived.Test.YtienkfcliocjgaaGreatGAi
import Derived.Test.YtienkfcliocjgaaGreatGUn
import Derived.Test.YtienkfcliocjgaaGreatGVi
set_option linter.unusedVariables false
set_option linter.unusedSimpArgs false
/- The walk of fix.Radius. -/
namespace Go.Proofs.YtienkfcliocjgaaGreat
open Go.RowKit
/-- the reach of the first boxes from a point -/
noncomputable def radF (D : List Bx) (p : Int × Int) (k : Nat) : Int × Int := (D.take k).foldl (fun s q => (max s.1 (dstV q p).1, max s.2 (dstV q p).2)) (0, 0)
theorem radF_succ (D : List Bx) (p : Int × Int) (k : Nat) (hk : k < D.length) : radF D p (k + 1) = (max (radF D p k).1 (dstV (gb D k) p).1, max (radF D p k).2 (dstV (gb D k) p).2) := by
  unfold radF
  rw [List.take_succ_eq_append_getElem hk, List.foldl_append]
  simp [gb, hk]
theorem radF_zero (D : List Bx) (p : Int × Int) : radF D p 0 = (0, 0) := by simp [radF]
theorem radF_one (D : List Bx) (p : Int × Int) (h : 0 < D.length) : radF D p 1 = dstV (gb D 0) p := by
  have hd := dst_bd (gb D 0) p
  rw [radF_succ D p 0 h, radF_zero]
  simp only []
  rw [show max 0 (dstV (gb D 0) p).1 = (dstV (gb D 0) p).1 by omega, show max 0 (dstV (gb D 0) p).2 = (dstV (gb D 0) p).2 by omega]
theorem okB_bx (x : Cl) (hv : Vl x) : OkB (bxI x) := by
  obtain ⟨h1, h2, h3, h4, h5, h6, h7, h8⟩ := box_nums hv
  constructor <;> (simp only [bxI]; omega)
theorem okB_gb {L : List Cl} (hv : ∀ x ∈ L, Vl x) {k : Nat} (hk : k < (L.map bxI).length) : OkB (gb (L.map bxI) k) := by
  have : gb (L.map bxI) k = bxI (gt L k) := by
    rw [List.length_map] at hk
    simp [gb, gt, hk]
  rw [this]
  rw [List.length_map] at hk
  exact okB_bx _ (hv _ (by simp [gt, hk]))
set_option maxHeartbeats 4000000 in
set_option maxRecDepth 100000 in
theorem Radius_yes (A : Option Addr) (n c : Nat) (L : List Cl) (p0 p1 : Int) (w : World) (hr : Reads w w.heap.size 3 A n (cvs L)) (hn : n ≤ maxLen) (hv : vrB L = true) (hp : okP (p0, p1) = true) (h0 : 0 < n) :
    Calls Tryz.prog 7 #[.slice A n c, .agg #[.int .i64 p0, .int .i64 p1]] w fun e w' => e = .returned (.tuple #[.agg #[.int .i64 (radF (L.map bxI) (p0, p1) n).1, .int .i64 (radF (L.map bxI) (p0, p1) n).2], .int .i64 0]) ∧ Below w.heap.size w w' := by
  have HL : Hid ((L.map bxI).length = n) := Lib.hid (by rw [List.length_map]; exact hr.len)
  have KB := Lib.hid (fun W (hW : Below w.heap.size w W) => boxes_any A n c L W ((hr.below hW).more hW.size) hn)
  rw [hv] at KB
  simp only [if_true] at KB
  have kp := fun W => vpt_any p0 p1 W
  rw [show vptB p0 p1 = true from hp] at kp
  have KP := Lib.hid kp
  clear kp
  have hvl := ((vrB_iff L).1 hv).2.1
  have hfew : n ≤ 4000 := by have := ((vrB_iff L).1 hv).1; rw [hr.len] at this; exact this
  have KA := Lib.hid (fun k (hk : k < n) W => alt_box (gb (L.map bxI) k) (p0, p1) W (okB_gb hvl (by rw [HL.out]; exact hk)) hp)
  have KO := Lib.hid (fun k (hk : k < n) => okB_gb hvl (k := k) (by rw [HL.out]; exact hk))
  have HP := Lib.hid (okP_iff.1 hp)
  clear hp hv hn hr hvl
  generalize L.map bxI = D at *
  have T0 := Lib.hid ((K2.new w p0 p1 24).alloc (.cells #[.int .i64 0, .int .i64 0] 27))
  have z0 := K2.new (w.alloc (.cells #[.int .i64 p0, .int .i64 p1] 24)) 0 0 27
  rw [World.size_alloc] at z0
  have Z0 := Lib.hid z0
  clear z0
  have B0 := Lib.hid ((bl_alloc w (.cells #[.int .i64 p0, .int .i64 p1] 24)).alloc (by simp) (.cells #[.int .i64 0, .int .i64 0] 27))
  go_enter Tryz.func7, Tryz.ntmps7
  go_wp2_with fail
  (with_reducible refine (KB.out _ B0.out).mono ?_)
  rintro e w1 ⟨v, rfl, hown, hb1⟩
  rw [HL.out] at hown
  obtain ⟨A1, c1, rfl, ra, -, -⟩ := own_form hown
  have RA := Lib.hid ra
  have T1 := Lib.hid (T0.out.below hb1 T0.out.lt)
  have Z1 := Lib.hid (Z0.out.below hb1 Z0.out.lt)
  have B1 := Lib.hid (B0.out.trans (hb1.mono B0.out.size))
  clear hown hb1 ra T0 Z0 B0 KB
  obtain ⟨tt, t0, t1, -, -⟩ := T1.out
  go_wp2_with fail
  clear t0 t1 tt
  (with_reducible refine (KP.out _).mono ?_)
  rintro e w2 ⟨rfl, hb2⟩
  have T2 := Lib.hid ((T1.out.below hb2 T1.out.lt).alloc (.cells #[.int .i64 0, .int .i64 0] 27))
  have Z2 := Lib.hid ((Z1.out.below hb2 Z1.out.lt).alloc (.cells #[.int .i64 0, .int .i64 0] 27))
  have hz1 := hb2.size
  have B2 := Lib.hid ((B1.out.trans (hb2.mono B1.out.size)).alloc (by have := B1.out.size; omega) (.cells #[.int .i64 0, .int .i64 0] 27))
  have C2 := Lib.hid (hb2.alloc (by omega) (.cells #[.int .i64 0, .int .i64 0] 27))
  have N2 := Lib.hid (K2.new w2 0 0 27)
  have hgt : w.heap.size + 1 < w2.heap.size := by have := Z1.out.lt; omega
  clear T1 Z1 hb2 KP
  have hn0 : ((n : Int) == 0) = false := by simp; omega
  generalize hg8 : w2.heap.size = g8 at *
  go_wp2
  go_loopw [37] (fun i wr => ∃ k : Nat, k ≤ n ∧ i = .int .i64 k ∧ K2 wr g8 (radF D (p0, p1) k).1 (radF D (p0, p1) k).2 ∧ K2 wr w.heap.size p0 p1 ∧ K2 wr (w.heap.size + 1) 0 0 ∧ Below w.heap.size w wr ∧ Below w1.heap.size w1 wr) (fun i _ => n - (intOf i).toNat)
  case atStart => exact ⟨0, Nat.zero_le _, rfl, by rw [radF_zero]; exact N2.out, T2.out, Z2.out, B2.out, C2.out⟩
  case round =>
    obtain ⟨k, hk, rfl, hN, hT, hZ, hB, hC⟩ := hrel
    clear N2 T2 Z2 B2 C2
    by_cases hlt : k < n
    · obtain ⟨b, off, rfl, hb, x0, x1, x2, x3⟩ := BReads.elem RA.out hlt
      have y0 := (hC.cell (p := ⟨b, off + k * 4, none⟩) hb).trans x0
      have y1 := (hC.cell (p := ⟨b, off + k * 4 + 1, none⟩) hb).trans x1
      have y2 := (hC.cell (p := ⟨b, off + k * 4 + 2, none⟩) hb).trans x2
      have y3 := (hC.cell (p := ⟨b, off + k * 4 + 3, none⟩) hb).trans x3
      have HF := Lib.hid (radF_succ D (p0, p1) k (by rw [HL.out]; exact hlt))
      have ka := Lib.hid (KA.out k hlt)
      have ko := KO.out k hlt
      have hdb := dst_bd (gb D k) (p0, p1)
      have hs0 : k = 0 → (radF D (p0, p1) k).1 = 0 ∧ (radF D (p0, p1) k).2 = 0 := fun e => by subst e; rw [radF_zero]; exact ⟨rfl, rfl⟩
      generalize dstV (gb D k) (p0, p1) = d at *
      generalize gb D k = q at *
      generalize radF D (p0, p1) k = s at *
      obtain ⟨q0, q1, q2, q3⟩ := q
      obtain ⟨d0, d1⟩ := d
      obtain ⟨s0, s1⟩ := s
      simp only [] at y0 y1 y2 y3 HF ka hdb hN hs0
      obtain ⟨-, -, -, o3, o4, o5⟩ := ko
      replace o3 : -10800000 ≤ q2 := o3
      replace o4 : q2 ≤ q3 := o4
      replace o5 : q3 ≤ 10800000 := o5
      have hpp := HP.out
      have n0 : wrap64 (q2 - p1) = q2 - p1 := IntWalk.wrap64_in _ (by omega)
      have n1 : wrap64 (q3 - p1) = q3 - p1 := IntWalk.wrap64_in _ (by omega)
      clear x0 x1 x2 x3 o3 o4 o5 hpp KA KO
      have HN := Lib.hid hN
      have HT := Lib.hid hT
      have HZ := Lib.hid hZ
      have HB := Lib.hid hB
      have HC := Lib.hid hC
      obtain ⟨tt, t0, t1, -, -⟩ := hT
      clear hN hZ hB hC
      go_wp2_with fail
      (with_reducible refine (ka.out _).mono ?_)
      rintro e w5 ⟨rfl, hb5⟩
      have hb6 := two_bl hb5
      clear hb5 y0 y1 y2 y3 t0 t1 tt n0 n1
      have HN5 := Lib.hid (((HN.out.below hb6 HN.out.lt).alloc (.cells #[.int .i64 (5400000 - d1), .int .i64 (5400000 - d0)] 27)).alloc (.cells #[.int .i64 d0, .int .i64 d1] 27))
      have HT5 := Lib.hid (((HT.out.below hb6 HT.out.lt).alloc (.cells #[.int .i64 (5400000 - d1), .int .i64 (5400000 - d0)] 27)).alloc (.cells #[.int .i64 d0, .int .i64 d1] 27))
      have HZ5 := Lib.hid (((HZ.out.below hb6 HZ.out.lt).alloc (.cells #[.int .i64 (5400000 - d1), .int .i64 (5400000 - d0)] 27)).alloc (.cells #[.int .i64 d0, .int .i64 d1] 27))
      have hs5 := hb6.size
      have hsB := HB.out.size
      have hsC := HC.out.size
      have HB5 := Lib.hid (((HB.out.trans (hb6.mono hsB)).alloc (by omega) (.cells #[.int .i64 (5400000 - d1), .int .i64 (5400000 - d0)] 27)).alloc (by simp; omega) (.cells #[.int .i64 d0, .int .i64 d1] 27))
      have HC5 := Lib.hid (((HC.out.trans (hb6.mono hsC)).alloc (by omega) (.cells #[.int .i64 (5400000 - d1), .int .i64 (5400000 - d0)] 27)).alloc (by simp; omega) (.cells #[.int .i64 d0, .int .i64 d1] 27))
      have hlt8 := HN.out.lt
      clear HN HT HZ HB HC hb6 ka
      have e0 : 5400000 - (5400000 - d0) = d0 := by omega
      have e1 : 5400000 - (5400000 - d1) = d1 := by omega
      have hx1 : ¬ w5.heap.size + 1 = g8 := by omega
      have hx2 : ¬ g8 = w5.heap.size + 1 := by omega
      have hg1 : w.heap.size ≠ g8 := by omega
      have hg2 : w.heap.size + 1 ≠ g8 := by omega
      obtain ⟨nt, n0, n1, nf0, nf1⟩ := HN5.out
      by_cases hk0 : k = 0
      · obtain ⟨rfl, rfl⟩ := hs0 hk0
        have hd : ((k : Int) == 0) = true := by simp [hk0]
        clear hs0 hk0
        go_wp2
        go_roundw
        case rel =>
          exact ⟨k + 1, by omega, by go_num, by
            rw [HF.out, show max 0 d0 = d0 by omega, show max 0 d1 = d1 by omega]
            exact (((HN5.out.set0 _).set1 _).set0 _).set1 _, (((HT5.out.far hg1 _).far hg1 _).far hg1 _).far hg1 _, (((HZ5.out.far hg2 _).far hg2 _).far hg2 _).far hg2 _, (((HB5.out.setCell (by simp only []; omega) _).setCell (by simp only []; omega) _).setCell (by simp only []; omega) _).setCell (by simp only []; omega) _, (((HC5.out.setCell (by simp only []; omega) _).setCell (by simp only []; omega) _).setCell (by simp only []; omega) _).setCell (by simp only []; omega) _⟩
        case measure => simp [intOf]; omega
      · have hkk : ¬ (k : Int) = 0 := by omega
        clear hs0
        go_wp2
        go_roundw
        case rel =>
          exact ⟨k + 1, by omega, by go_num, by rw [HF.out]; exact (HN5.out.set0 _).set1 _, (HT5.out.far hg1 _).far hg1 _, (HZ5.out.far hg2 _).far hg2 _, (HB5.out.setCell (by simp only []; omega) _).setCell (by simp only []; omega) _, (HC5.out.setCell (by simp only []; omega) _).setCell (by simp only []; omega) _⟩
        case measure => simp [intOf]; omega
    · obtain rfl : k = n := by omega
      obtain ⟨⟨s0, s1⟩, hs⟩ : ∃ s, radF D (p0, p1) k = s := ⟨_, rfl⟩
      rw [hs] at hN
      simp only [] at hN
      have HS := Lib.hid hs
      clear hs
      obtain ⟨zt, z0, z1, zf0, zf1⟩ := hZ
      obtain ⟨nt, n0, n1, -, -⟩ := hN
      have HB := Lib.hid hB
      clear hB hC hT
      go_wp2
      refine bodyPost_ret (v := .tuple #[.agg #[.int .i64 s0, .int .i64 s1], .int .i64 0]) (by simp [results, Tryz.results7, go_sem, *]; done) rfl ⟨by rw [HS.out], ?_⟩
      exact (HB.out.setCell (by simp) _).setCell (by simp) _
end Go.Proofs.YtienkfcliocjgaaGreat
/- The walks of fix.Bounds and fix.Center, any cells. -/
namespace Go.Proofs.YtienkfcliocjgaaGreat
open Go.RowKit
theorem latF_bd {D : List Bx} (hD : ∀ k, k < D.length → OkB (gb D k)) (h0 : 0 < D.length) (k : Nat) (hk : k ≤ D.length) : -5400000 ≤ (latF D k).1 ∧ (latF D k).1 ≤ 5400000 ∧ -5400000 ≤ (latF D k).2 ∧ (latF D k).2 ≤ 5400000 := by
  induction k with
  | zero =>
    obtain ⟨a0, a1, a2, -, -, -⟩ := hD 0 h0
    rw [latF_zero]
    simp only []
    omega
  | succ k ih =>
    have ih := ih (by omega)
    obtain ⟨a0, a1, a2, -, -, -⟩ := hD k (by omega)
    rw [latF_succ D k (by omega)]
    simp only []
    omega
/-- the bounds of a region, and its centre -/
noncomputable def bndV (L : List Cl) : Bx := ((latF (L.map bxI) L.length).1, (latF (L.map bxI) L.length).2, (rarn (lons (L.map bxI))).1, (rarn (lons (L.map bxI))).2)
noncomputable def cenV (L : List Cl) : Int × Int := (((bndV L).1 + (bndV L).2.1) / 2, sgA (((bndV L).2.2.1 + (bndV L).2.2.2) / 2))
theorem bnd_bd {L : List Cl} (hv : ∀ x ∈ L, Vl x) (h0 : 0 < L.length) : -5400000 ≤ (bndV L).1 ∧ (bndV L).1 ≤ 5400000 ∧ -5400000 ≤ (bndV L).2.1 ∧ (bndV L).2.1 ≤ 5400000 ∧ -10800000 ≤ (bndV L).2.2.1 ∧ (bndV L).2.2.1 ≤ 10800000 ∧ (bndV L).2.2.1 ≤ (bndV L).2.2.2 ∧ (bndV L).2.2.2 ≤ (bndV L).2.2.1 + 43200000 := by
  have h1 := latF_bd (D := L.map bxI) (fun k hk => okB_gb hv hk) (by rw [List.length_map]; exact h0) L.length (by rw [List.length_map]; exact Nat.le_refl _)
  have h2 := foldR_bd (lons (L.map bxI)) (okR_of (okC_bx hv)) (lons (L.map bxI)).length (Nat.le_refl _)
  unfold bndV rarn
  simp only []
  omega
set_option maxHeartbeats 1000000 in
set_option maxRecDepth 100000 in
theorem fBounds_yes (A : Option Addr) (n c : Nat) (L : List Cl) (w : World) (hr : Reads w w.heap.size 3 A n (cvs L)) (hn : n ≤ maxLen) (hv : vrB L = true) (h0 : 0 < n) :
    Calls Tryz.prog 5 #[.slice A n c] w fun e w' => e = .returned (.tuple #[.agg #[.int .i64 (bndV L).1, .int .i64 (bndV L).2.1, .int .i64 (bndV L).2.2.1, .int .i64 (bndV L).2.2.2], .int .i64 0]) ∧ Below w.heap.size w w' := by
  have hlen : (L.map bxI).length = n := by rw [List.length_map]; exact hr.len
  have hll : L.length = n := hr.len
  have hfew : n ≤ 4000 := by rw [← hll]; exact ((vrB_iff L).1 hv).1
  have KB := Lib.hid (fun W (hW : Below w.heap.size w W) => boxes_any A n c L W ((hr.below hW).more hW.size) hn)
  rw [hv] at KB
  simp only [if_true] at KB
  have KF := Lib.hid (fun (W : World) (A : Option Addr) (c : Nat) (h : Reads W W.heap.size 4 A n (bvs (L.map bxI))) => fbounds_any A n c (L.map bxI) W h h0 hfew (okC_bx ((vrB_iff L).1 hv).2.1))
  have HLN := Lib.hid hlen
  unfold bndV
  rw [hll]
  clear hr hn hv hfew hlen hll
  generalize rarn (lons (L.map bxI)) = r at *
  generalize latF (L.map bxI) n = s at *
  obtain ⟨r0, r1⟩ := r
  obtain ⟨s0, s1⟩ := s
  simp only [] at KF ⊢
  generalize L.map bxI = D at *
  have B0 := Lib.hid (bl_alloc w (.cells #[.int .i64 0, .int .i64 0, .int .i64 0, .int .i64 0] 29))
  have Z0 := Lib.hid (K4.new w 0 0 0 0 29)
  go_enter Tryz.func5, Tryz.ntmps5
  go_wp2_with fail
  (with_reducible refine (KB.out _ B0.out).mono ?_)
  rintro e w1 ⟨v, rfl, hown, hb1⟩
  rw [HLN.out] at hown
  obtain ⟨A1, c1, rfl, ra, -, -⟩ := own_form hown
  have RA := Lib.hid ra
  have Z1 := Lib.hid (Z0.out.below hb1 Z0.out.lt)
  have B1 := Lib.hid (B0.out.trans (hb1.mono B0.out.size))
  clear hown hb1 ra Z0 B0 KB
  have hn0 : ¬ (n : Int) = 0 := by omega
  go_wp2_with fail
  (with_reducible refine (KF.out _ _ _ RA.out).mono ?_)
  rintro e w2 ⟨rfl, hb2⟩
  have B2 := Lib.hid (B1.out.trans (hb2.mono B1.out.size))
  obtain ⟨zt, z0, z1, z2, z3, zf0, zf1, zf2, zf3⟩ := Z1.out.below hb2 Z1.out.lt
  go_wp2
  refine bodyPost_ret (v := .tuple #[.agg #[.int .i64 s0, .int .i64 s1, .int .i64 r0, .int .i64 r1], .int .i64 0]) (by simp [results, Tryz.results5, go_sem, *]; done) rfl ⟨rfl, ?_⟩
  exact bl_put4 B2.out (Nat.le_refl _)
set_option maxHeartbeats 1000000 in
set_option maxRecDepth 100000 in
theorem fBounds_no (A : Option Addr) (n c : Nat) (L : List Cl) (E : Int) (w : World) (hr : Reads w w.heap.size 3 A n (cvs L)) (hn : n ≤ maxLen) (hE : (vrB L = false ∧ E = 1) ∨ (vrB L = true ∧ n = 0 ∧ E = 14)) :
    Calls Tryz.prog 5 #[.slice A n c] w fun e w' => e = .returned (.tuple #[.agg #[.int .i64 0, .int .i64 0, .int .i64 0, .int .i64 0], .int .i64 E]) ∧ Below w.heap.size w w' := by
  have KB := Lib.hid (fun W (hW : Below w.heap.size w W) => boxes_any A n c L W ((hr.below hW).more hW.size) hn)
  have B0 := Lib.hid (bl_alloc w (.cells #[.int .i64 0, .int .i64 0, .int .i64 0, .int .i64 0] 29))
  have Z0 := Lib.hid (K4.new w 0 0 0 0 29)
  have hlen : L.length = n := hr.len
  rcases hE with ⟨hv, rfl⟩ | ⟨hv, rfl, rfl⟩
  · rw [hv] at KB
    simp only [Bool.false_eq_true, if_false] at KB
    clear hr hn
    go_enter Tryz.func5, Tryz.ntmps5
    go_wp2_with fail
    (with_reducible refine (KB.out _ B0.out).mono ?_)
    rintro e w1 ⟨v, rfl, hown, hb1⟩
    obtain ⟨A1, c1, rfl, -, -, -⟩ := own_form hown
    have B1 := Lib.hid (B0.out.trans (hb1.mono B0.out.size))
    obtain ⟨zt, z0, z1, z2, z3, zf0, zf1, zf2, zf3⟩ := Z0.out.below hb1 Z0.out.lt
    clear hown hb1 Z0 B0 KB
    go_wp2
    refine bodyPost_ret (v := .tuple #[.agg #[.int .i64 0, .int .i64 0, .int .i64 0, .int .i64 0], .int .i64 1]) (by simp [results, Tryz.results5, go_sem, *]; done) rfl ⟨rfl, ?_⟩
    exact bl_put4 B1.out (Nat.le_refl _)
  · obtain rfl := List.eq_nil_of_length_eq_zero hlen
    rw [hv] at KB
    simp only [if_true, List.map_nil] at KB
    clear hr hn
    go_enter Tryz.func5, Tryz.ntmps5
    go_wp2_with fail
    (with_reducible refine (KB.out _ B0.out).mono ?_)
    rintro e w1 ⟨v, rfl, hown, hb1⟩
    obtain ⟨A1, c1, rfl, -, -, -⟩ := own_form hown
    have B1 := Lib.hid (B0.out.trans (hb1.mono B0.out.size))
    obtain ⟨zt, z0, z1, z2, z3, zf0, zf1, zf2, zf3⟩ := Z0.out.below hb1 Z0.out.lt
    clear hown hb1 Z0 B0 KB
    go_wp2
    refine bodyPost_ret (v := .tuple #[.agg #[.int .i64 0, .int .i64 0, .int .i64 0, .int .i64 0], .int .i64 14]) (by simp [results, Tryz.results5, go_sem, *]; done) rfl ⟨rfl, ?_⟩
    exact bl_put4 B1.out (Nat.le_refl _)
set_option maxHeartbeats 1000000 in
set_option maxRecDepth 100000 in
theorem fCenter_no (A : Option Addr) (n c : Nat) (L : List Cl) (E : Int) (w : World) (hr : Reads w w.heap.size 3 A n (cvs L)) (hn : n ≤ maxLen) (hE : (vrB L = false ∧ E = 1) ∨ (vrB L = true ∧ n = 0 ∧ E = 14)) :
    Calls Tryz.prog 6 #[.slice A n c] w fun e w' => e = .returned (.tuple #[.agg #[.int .i64 0, .int .i64 0], .int .i64 E]) ∧ Below w.heap.size w w' := by
  have KB := Lib.hid (fun W (hW : Below w.heap.size w W) => fBounds_no A n c L E W ((hr.below hW).more hW.size) hn hE)
  have hE0 : ¬ E = 0 := by omega
  have hd : (E == 0) = false := by simpa using hE0
  clear hr hE hn
  have B0 := Lib.hid (bl_alloc w (.cells #[.int .i64 0, .int .i64 0] 24))
  have Z0 := Lib.hid (K2.new w 0 0 24)
  go_enter Tryz.func6, Tryz.ntmps6
  go_wp2_with fail
  (with_reducible refine (KB.out _ B0.out).mono ?_)
  rintro e w1 ⟨rfl, hb1⟩
  have hz1 := hb1.size
  have Z1 := Lib.hid ((Z0.out.below hb1 Z0.out.lt).alloc (.cells #[.int .i64 0, .int .i64 0, .int .i64 0, .int .i64 0] 29))
  have B1 := Lib.hid ((B0.out.trans (hb1.mono B0.out.size)).alloc (by have := B0.out.size; omega) (.cells #[.int .i64 0, .int .i64 0, .int .i64 0, .int .i64 0] 29))
  clear hb1 hz1 Z0 B0 KB
  obtain ⟨zt, z0, z1, zf0, zf1⟩ := Z1.out
  go_wp2
  refine bodyPost_ret (v := .tuple #[.agg #[.int .i64 0, .int .i64 0], .int .i64 E]) (by simp [results, Tryz.results6, go_sem, *]; done) rfl ⟨rfl, ?_⟩
  exact (B1.out.setCell (by simp) _).setCell (by simp) _
set_option maxHeartbeats 1000000 in
set_option maxRecDepth 100000 in
theorem fCenter_yes (A : Option Addr) (n c : Nat) (L : List Cl) (w : World) (hr : Reads w w.heap.size 3 A n (cvs L)) (hn : n ≤ maxLen) (hv : vrB L = true) (h0 : 0 < n) :
    Calls Tryz.prog 6 #[.slice A n c] w fun e w' => e = .returned (.tuple #[.agg #[.int .i64 (cenV L).1, .int .i64 (cenV L).2], .int .i64 0]) ∧ Below w.heap.size w w' := by
  have KB := Lib.hid (fun W (hW : Below w.heap.size w W) => fBounds_yes A n c L W ((hr.below hW).more hW.size) hn hv h0)
  have hbd := bnd_bd ((vrB_iff L).1 hv).2.1 (by rw [hr.len]; exact h0)
  unfold cenV
  generalize bndV L = q at *
  obtain ⟨l0, l1, r0, r1⟩ := q
  simp only [] at KB hbd ⊢
  have KS := Lib.hid (fun W => SignedA_any ((r0 + r1) / 2) W (by omega) (by omega))
  generalize sgA ((r0 + r1) / 2) = sg at *
  have n0 : wrap64 (l0 + l1) = l0 + l1 := IntWalk.wrap64_in _ (by omega)
  have n1 : wrap64 (r0 + r1) = r0 + r1 := IntWalk.wrap64_in _ (by omega)
  have m0 : IntKind.i64.wrap (l0 + l1) = l0 + l1 := by rw [IntKind.wrap_i64]; omega
  have m1 : IntKind.i64.wrap (r0 + r1) = r0 + r1 := by rw [IntKind.wrap_i64]; omega
  have n2 : wrap64 ((l0 + l1) / 2) = (l0 + l1) / 2 := IntWalk.wrap64_in _ (by omega)
  have n3 : wrap64 ((r0 + r1) / 2) = (r0 + r1) / 2 := IntWalk.wrap64_in _ (by omega)
  clear hr hn hv hbd
  have B0 := Lib.hid (bl_alloc w (.cells #[.int .i64 0, .int .i64 0] 24))
  have Z0 := Lib.hid (K2.new w 0 0 24)
  go_enter Tryz.func6, Tryz.ntmps6
  go_wp2_with fail
  (with_reducible refine (KB.out _ B0.out).mono ?_)
  rintro e w1 ⟨rfl, hb1⟩
  have Z1 := Lib.hid ((Z0.out.below hb1 Z0.out.lt).alloc (.cells #[.int .i64 l0, .int .i64 l1, .int .i64 r0, .int .i64 r1] 29))
  have hz1 := hb1.size
  have B1 := Lib.hid ((B0.out.trans (hb1.mono B0.out.size)).alloc (by have := B0.out.size; omega) (.cells #[.int .i64 l0, .int .i64 l1, .int .i64 r0, .int .i64 r1] 29))
  have P1 := Lib.hid (K4.new w1 l0 l1 r0 r1 29)
  go_upto_region 4 with (fail)
  obtain ⟨W1, hW1⟩ : ∃ W1, w1.alloc (.cells #[.int .i64 l0, .int .i64 l1, .int .i64 r0, .int .i64 r1] 29) = W1 := ⟨_, rfl⟩
  rw [hW1] at Z1 B1 P1 ⊢
  have hlt0 : w.heap.size < w1.heap.size := by have := B0.out.size; have := Z0.out.lt; omega
  clear hW1 Z0 B0 KB hb1 hz1
  generalize w1.heap.size = ga at *
  have hn1 : ¬ w.heap.size = ga := by omega
  have hn2 : ¬ ga = w.heap.size := by omega
  obtain ⟨pt, p0, p1, p2, p3, -, -, -, -⟩ := P1.out
  go_region_held3 (fun w' => w'.cell? ⟨ga, 0, none⟩ = some (.int .i64 l0) ∧ w'.cell? ⟨ga, 1, none⟩ = some (.int .i64 l1) ∧ w'.cell? ⟨ga, 2, none⟩ = some (.int .i64 r0) ∧ w'.cell? ⟨ga, 3, none⟩ = some (.int .i64 r1)) (simp [*]) (first
    | (go_at_call 15; (with_reducible refine (KS.out _).mono ?_); rintro e w9 ⟨rfl, hb9⟩; have P9 := P1.out.drew.below hb9 (by simpa using P1.out.lt); have Z9 := Z1.out.below ((bl_drew (Below.refl _ _)).trans hb9) (by simpa using Z1.out.lt); have B9 := Lib.hid (B1.out.trans (((bl_drew (Below.refl _ _)).trans hb9).mono (by simpa using B1.out.size))); obtain ⟨pt9, p09, p19, p29, p39, -, -, -, -⟩ := P9; obtain ⟨zt9, z09, z19, zf09, zf19⟩ := Z9; have e9 := fun (i : Nat) (u v : Value) => (World.cell?_setCell_other (w9.setCell ⟨w.heap.size, 0, none⟩ u) ⟨w.heap.size, 1, none⟩ ⟨ga, i, none⟩ v (fun e => hn1 (by injection e))).trans (World.cell?_setCell_other w9 ⟨w.heap.size, 0, none⟩ ⟨ga, i, none⟩ u (fun e => hn1 (by injection e))))
    | fail)
  go_wp2
  refine bodyPost_ret (v := .tuple #[.agg #[.int .i64 ((l0 + l1) / 2), .int .i64 sg], .int .i64 0]) (by simp [results, Tryz.results6, go_sem, *]; done) rfl ⟨rfl, ?_⟩
  exact (B9.out.setCell (by simp) _).setCell (by simp) _
end Go.Proofs.YtienkfcliocjgaaGreat
namespace Go.Proofs.YtienkfcliocjgaaGreat
open Go.RowKit
set_option maxHeartbeats 1000000 in
theorem Hull_any (a b c d : Int) (w : World) : Calls Tryz.prog 23 #[.agg #[.int .i64 a, .int .i64 b], .agg #[.int .i64 c, .int .i64 d]] w fun e w' => e = .returned (.agg #[.int .i64 (min a c), .int .i64 (max b d)]) ∧ Below w.heap.size w w' := by
  by_cases h1 : c < a <;> by_cases h2 : b < d
  · have e1 : min a c = c := by omega
    have e2 : max b d = d := by omega
    rw [e1, e2]
    go_enter Tryz.func23, Tryz.ntmps23
    go_wp2
    refine bodyPost_ret (v := .agg #[.int .i64 c, .int .i64 d]) (by simp [results, Tryz.results23, go_sem, *]; done) rfl ⟨rfl, ?_⟩
    repeat (first | exact Below.refl _ _ | assumption | refine bl_drew ?_ | refine bl_drewN ?_ _ | refine Below.setCell ?_ (by first | assumption | omega | (simp; done) | (simp; omega)) _ | refine Below.alloc ?_ (by first | assumption | omega | (simp; done) | (simp; omega)) _)
  · have e1 : min a c = c := by omega
    have e2 : max b d = b := by omega
    rw [e1, e2]
    go_enter Tryz.func23, Tryz.ntmps23
    go_wp2
    refine bodyPost_ret (v := .agg #[.int .i64 c, .int .i64 b]) (by simp [results, Tryz.results23, go_sem, *]; done) rfl ⟨rfl, ?_⟩
    repeat (first | exact Below.refl _ _ | assumption | refine bl_drew ?_ | refine bl_drewN ?_ _ | refine Below.setCell ?_ (by first | assumption | omega | (simp; done) | (simp; omega)) _ | refine Below.alloc ?_ (by first | assumption | omega | (simp; done) | (simp; omega)) _)
  · have e1 : min a c = a := by omega
    have e2 : max b d = d := by omega
    rw [e1, e2]
    go_enter Tryz.func23, Tryz.ntmps23
    go_wp2
    refine bodyPost_ret (v := .agg #[.int .i64 a, .int .i64 d]) (by simp [results, Tryz.results23, go_sem, *]; done) rfl ⟨rfl, ?_⟩
    repeat (first | exact Below.refl _ _ | assumption | refine bl_drew ?_ | refine bl_drewN ?_ _ | refine Below.setCell ?_ (by first | assumption | omega | (simp; done) | (simp; omega)) _ | refine Below.alloc ?_ (by first | assumption | omega | (simp; done) | (simp; omega)) _)
  · have e1 : min a c = a := by omega
    have e2 : max b d = b := by omega
    rw [e1, e2]
    go_enter Tryz.func23, Tryz.ntmps23
    go_wp2
    refine bodyPost_ret (v := .agg #[.int .i64 a, .int .i64 b]) (by simp [results, Tryz.results23, go_sem, *]; done) rfl ⟨rfl, ?_⟩
    repeat (first | exact Below.refl _ _ | assumption | refine bl_drew ?_ | refine bl_drewN ?_ _ | refine Below.setCell ?_ (by first | assumption | omega | (simp; done) | (simp; omega)) _ | refine Below.alloc ?_ (by first | assumption | omega | (simp; done) | (simp; omega)) _)
theorem r5Wrap_any (n : Int) (w : World) : Calls Tryz.prog 39 #[.int .i64 n] w fun e w' => e = .returned (.int .i64 (n % 21600000)) ∧ Below w.heap.size w w' := by
  have ht := tmodT_val n
  generalize n % 21600000 = m at *
  rcases ht with ⟨t0, t1⟩ | ⟨t0, t1⟩
  all_goals
    go_enter Tryz.func39, Tryz.ntmps39
    go_wp2
    go_ret
    exact ⟨ret_int (by first | exact t1 | rfl), Below.refl _ _⟩
theorem r5Signed_any (n : Int) (w : World) : Calls Tryz.prog 26 #[.int .i64 n] w fun e w' => e = .returned (.int .i64 (sgT n)) ∧ Below w.heap.size w w' := by
  have K := Lib.hid (fun W => r5Wrap_any n W)
  have hm : 0 ≤ n % 21600000 ∧ n % 21600000 < 21600000 := by omega
  unfold sgT
  generalize n % 21600000 = m at *
  by_cases h : 10800000 ≤ m
  all_goals
    first | rw [if_pos h] | rw [if_neg h]
    go_enter Tryz.func26, Tryz.ntmps26
    go_wp2_with fail
    (with_reducible refine (K.out _).mono ?_)
    rintro e w1 ⟨rfl, hb1⟩
    go_wp2
    go_ret
    exact ⟨rfl, hb1⟩
theorem rAll_any (w : World) : Calls Tryz.prog 37 #[] w fun e w' => e = .returned (.agg #[.int .i64 (-10800000), .int .i64 10800000]) ∧ Below w.heap.size w w' := by
  go_enter Tryz.func37, Tryz.ntmps37
  go_wp2
  refine bodyPost_ret (v := .agg #[.int .i64 (-10800000), .int .i64 10800000]) (by simp [results, Tryz.results37, go_sem]) rfl ⟨rfl, ?_⟩
  repeat (first | exact Below.refl _ _ | assumption | refine bl_drew ?_ | refine bl_drewN ?_ _ | refine Below.setCell ?_ (by first | assumption | omega | (simp; done) | (simp; omega)) _ | refine Below.alloc ?_ (by first | assumption | omega | (simp; done) | (simp; omega)) _)
end Go.Proofs.YtienkfcliocjgaaGreat
