/- Lists of lists of cells: rows of slices that are the call's own. -/
import Derived.LoopN
import Derived.Test.YtifdgdgfmjfbdaaGreatIShelf
import Derived.Test.YtifdgdgfmjfbdaaGreatIJc
import Derived.Test.YtifdgdgfmjfbdaaGreatIJa
import Derived.Test.YtifdgdgfmjfbdaaGreatIBase
set_option linter.unusedVariables false
set_option linter.unusedSimpArgs false
namespace Go.Proofs.YtifdgdgfmjfbdaaGreat
open Go.RowKit
/-- how far the first arcs reach -/
def fR (D : List Sp) (k : Nat) : Int := (D.take k).foldl (fun r a => max r a.2) (gs D 0).2
/-- the arc that the greatest gap leaves, the gap, how far the arcs have reached: one arc more -/
def fS1 (s : Sp × Int × Int) (a : Sp) : Sp × Int × Int := if s.2.1 < a.1 - s.2.2 then ((a.1, a.1 + 21600000 - (a.1 - s.2.2)), a.1 - s.2.2, max s.2.2 a.2) else (s.1, s.2.1, max s.2.2 a.2)
def fS (D : List Sp) (k : Nat) : Sp × Int × Int := (D.take k).foldl fS1 (((-10800000 : Int), (10800000 : Int)), (0 : Int), fR D D.length - 21600000)
theorem fR_succ (D : List Sp) (k : Nat) (hk : k < D.length) : fR D (k + 1) = max (fR D k) (gs D k).2 := by
  unfold fR
  rw [List.take_succ_eq_append_getElem hk, List.foldl_append]
  simp [gs, hk]
theorem fS_succ (D : List Sp) (k : Nat) (hk : k < D.length) : fS D (k + 1) = fS1 (fS D k) (gs D k) := by
  unfold fS
  rw [List.take_succ_eq_append_getElem hk, List.foldl_append]
  simp [gs, hk]
theorem okA_gs {D : List Sp} (hD : OkA D) {k : Nat} (hk : k < D.length) : -10800000 ≤ (gs D k).1 ∧ (gs D k).1 ≤ 10800000 ∧ (gs D k).1 ≤ (gs D k).2 ∧ (gs D k).2 ≤ (gs D k).1 + 21600000 := hD _ (by simp [gs, hk])
theorem fR_bd {D : List Sp} (hD : OkA D) (h0 : 0 < D.length) (k : Nat) (hk : k ≤ D.length) : -10800000 ≤ fR D k ∧ fR D k ≤ 32400000 := by
  induction k with
  | zero => have := okA_gs hD h0; simp [fR]; omega
  | succ k ih =>
    have h := ih (by omega)
    have := okA_gs hD (k := k) (by omega)
    rw [fR_succ D k (by omega)]
    omega
theorem fS_bd {D : List Sp} (hD : OkA D) (h0 : 0 < D.length) (k : Nat) (hk : k ≤ D.length) : -32400000 ≤ (fS D k).2.2 ∧ (fS D k).2.2 ≤ 32400000 ∧ 0 ≤ (fS D k).2.1 ∧ (fS D k).2.1 ≤ 43200000 := by
  induction k with
  | zero => have := fR_bd hD h0 D.length (Nat.le_refl _); simp [fS]; omega
  | succ k ih =>
    have h := ih (by omega)
    have := okA_gs hD (k := k) (by omega)
    rw [fS_succ D k (by omega)]
    unfold fS1
    split
    · simp only []; omega
    · simp only []; omega
set_option maxHeartbeats 4000000 in
set_option maxRecDepth 100000 in
theorem fAround_any (b0 off0 n c : Nat) (D : List Sp) (w : World) (hb0 : b0 < w.heap.size) (hI : ∀ j, j < D.length → w.cell? ⟨b0, off0 + j * 2, none⟩ = some (.int .i64 (gs D j).1) ∧ w.cell? ⟨b0, off0 + j * 2 + 1, none⟩ = some (.int .i64 (gs D j).2)) (hl : D.length = n) (hn : n ≤ 100000) (h0 : 0 < n) (hD : OkA D) :
    Calls Tryz.prog 133 #[.slice (some ⟨b0, off0, none⟩) n c] w fun e w' => ∃ D' : List Sp, D'.Perm D ∧ (∀ i j, i < j → j < D'.length → (gs D' i).1 ≤ (gs D' j).1) ∧ e = .returned (.agg #[.int .i64 (fS D' n).1.1, .int .i64 (fS D' n).1.2]) ∧ Below w.heap.size w w' := by
  have KV := Lib.hid (fun W => callsIn_wide.1 (values_in Fence.wide 4 trivial rfl (some ⟨b0, off0, none⟩) n c W))
  have KS : Hid (∀ W : World, Below w.heap.size w W → Calls Tryz.prog 195 #[.func (.func 239) #[] #[.pointer (some ⟨W.heap.size, 0, none⟩)], .func (.func 197) #[] #[]] (W.alloc (.cells #[.slice (some ⟨b0, off0, none⟩) n c] 57)) fun e w' => ∃ (v : Value) (D' : List Sp), e = .returned v ∧ D'.Perm D ∧ (∀ i j, i < j → j < D'.length → (gs D' i).1 ≤ (gs D' j).1) ∧ w'.ownsRow (W.alloc (.cells #[.slice (some ⟨b0, off0, none⟩) n c] 57)).heap.size 29 2 v D.length (spvs D') ∧ Below (W.alloc (.cells #[.slice (some ⟨b0, off0, none⟩) n c] 57)).heap.size (W.alloc (.cells #[.slice (some ⟨b0, off0, none⟩) n c] 57)) w') := Lib.hid (fun W hW => by
    have hb2 := hW.alloc (by have := hW.size; omega) (.cells #[.slice (some ⟨b0, off0, none⟩) n c] 57)
    refine sorted_any W.heap.size b0 off0 c D _ (by omega) (by omega) (by simp) (by rw [hl]; simp) (by have := hb2.size; omega) (fun j hj => ⟨(hb2.cell (p := ⟨b0, off0 + j * 2, none⟩) hb0).trans (hI j hj).1, (hb2.cell (p := ⟨b0, off0 + j * 2 + 1, none⟩) hb0).trans (hI j hj).2⟩))
  rw [hl] at KS
  have HD := Lib.hid hD
  have HL := Lib.hid hl
  clear hI hD hl
  go_enter Tryz.func133, Tryz.ntmps133
  go_wp2_with fail
  (with_reducible refine (KV.out _).mono ?_)
  rintro e w1 ⟨rfl, rfl⟩
  have B0 : Hid (Below w.heap.size w (w.alloc (.cells #[.int .i64 0, .int .i64 0] 29))) := Lib.hid (bl_alloc _ _)
  have Z0 := Lib.hid (K2.new w 0 0 29)
  have ks1 := KS.out _ B0.out
  rw [show (w.alloc (.cells #[.int .i64 0, .int .i64 0] 29)).heap.size = w.heap.size + 1 from World.size_alloc _ _] at ks1
  have KS1 := Lib.hid ks1
  clear ks1
  have B1 := Lib.hid (B0.out.alloc (by have := B0.out.size; omega) (.cells #[.slice (some ⟨b0, off0, none⟩) n c] 57))
  have Z1 := Lib.hid (Z0.out.alloc (.cells #[.slice (some ⟨b0, off0, none⟩) n c] 57))
  clear KS KV B0 Z0
  generalize (w.alloc (.cells #[.int .i64 0, .int .i64 0] 29)).alloc (.cells #[.slice (some ⟨b0, off0, none⟩) n c] 57) = W1 at *
  go_wp2_with fail
  (with_reducible refine KS1.out.mono ?_)
  rintro e w2 ⟨v, D', rfl, hp, hs, hrow, hb2⟩
  have HP := Lib.hid hp
  have HSO := Lib.hid hs
  obtain ⟨A2, c2, rfl, ra, -, -⟩ := own_form hrow
  have HR := Lib.hid ra
  have B2 := Lib.hid (B1.out.trans (hb2.mono B1.out.size))
  have Z2 := Lib.hid (Z1.out.below hb2 Z1.out.lt)
  have HD' : Hid (OkA D') := Lib.hid (fun x hx => HD.out x (HP.out.mem_iff.1 hx))
  have HL' : Hid (D'.length = n) := Lib.hid (by rw [HP.out.length_eq, HL.out])
  clear hp hs hrow hb2 ra B1 Z1 KS1 HD HL
  obtain ⟨⟨r0, r1⟩, hRR⟩ : ∃ R, (fS D' n).1 = R := ⟨_, rfl⟩
  have HRR := Lib.hid hRR
  clear hRR
  obtain ⟨b, off, rfl, hb, x0, x1⟩ := SReads.elem HR.out h0
  obtain ⟨f0, hf0⟩ : ∃ f, (gs D' 0).2 = f := ⟨_, rfl⟩
  rw [hf0] at x1
  have HF0 : Hid (fR D' 0 = f0) := Lib.hid (by rw [← hf0]; rfl)
  clear x0 hf0
  go_wp2
  clear x1
  go_loopw [3, 20] (fun v i wr => ∃ k : Nat, k ≤ n ∧ i = .int .i64 k ∧ v = .int .i64 (fR D' k) ∧ Below w2.heap.size w2 wr) (fun _ i _ => n - (intOf i).toNat)
  case atStart => exact ⟨0, Nat.zero_le _, rfl, by rw [HF0.out], Below.refl _ _⟩
  case round =>
    obtain ⟨k, hk, rfl, rfl, hbr⟩ := hrel
    by_cases hlt : k < n
    · obtain ⟨b', off', e, hb', x0, x1⟩ := SReads.elem HR.out hlt
      cases e
      have y0 := (hbr.cell (p := ⟨b, off + k * 2, none⟩) hb).trans x0
      have y1 := (hbr.cell (p := ⟨b, off + k * 2 + 1, none⟩) hb).trans x1
      have HF := Lib.hid (fR_succ D' k (by rw [HL'.out]; exact hlt))
      obtain ⟨p, hp⟩ : ∃ p, (gs D' k).1 = p := ⟨_, rfl⟩
      obtain ⟨q, hq⟩ : ∃ q, (gs D' k).2 = q := ⟨_, rfl⟩
      rw [hp] at y0
      rw [hq] at y1 HF
      obtain ⟨R, hR⟩ : ∃ R, fR D' k = R := ⟨_, rfl⟩
      rw [hR] at HF
      rw [hR]
      clear x0 x1 hp hq hR
      go_wp2
      go_roundw
      case rel => exact ⟨k + 1, by omega, by go_num, by rw [HF.out], hbr.alloc hbr.size _⟩
      case measure => simp [intOf]; omega
    · obtain rfl : k = n := by omega
      have hfb := fR_bd HD'.out (by rw [HL'.out]; exact h0) k (by rw [HL'.out]; exact Nat.le_refl _)
      have HFS : Hid (fS D' 0 = (((-10800000 : Int), (10800000 : Int)), (0 : Int), fR D' k - 21600000)) := Lib.hid (by rw [← HL'.out]; rfl)
      obtain ⟨R, hR⟩ : ∃ R, fR D' k = R := ⟨_, rfl⟩
      rw [hR] at HFS hfb
      rw [hR]
      clear hR
      have B3 := Lib.hid (B2.out.trans (hbr.mono B2.out.size))
      have Z3 := Lib.hid (Z2.out.below hbr Z2.out.lt)
      have hz3 := hbr.size
      have HBR := Lib.hid hbr
      clear hbr
      have N3 := Lib.hid (K2.new wr (-10800000) 10800000 29)
      have Z4 := Lib.hid (Z3.out.alloc (.cells #[.int .i64 (-10800000), .int .i64 10800000] 29))
      have B4 := Lib.hid (B3.out.alloc B3.out.size (.cells #[.int .i64 (-10800000), .int .i64 10800000] 29))
      have BR4 := Lib.hid (HBR.out.alloc HBR.out.size (.cells #[.int .i64 (-10800000), .int .i64 10800000] 29))
      clear B3 Z3 HBR
      generalize hg6 : wr.heap.size = g6 at *
      go_wp2
      go_loopw [3, 7, 34] (fun v bst i wq => ∃ j : Nat, j ≤ k ∧ i = .int .i64 j ∧ v = .int .i64 (fS D' j).2.2 ∧ bst = .int .i64 (fS D' j).2.1 ∧ K2 wq w.heap.size 0 0 ∧ K2 wq g6 (fS D' j).1.1 (fS D' j).1.2 ∧ Below w.heap.size w wq ∧ Below w2.heap.size w2 wq) (fun _ _ i _ => k - (intOf i).toNat)
      case atStart => exact ⟨0, Nat.zero_le _, rfl, by rw [HFS.out], by rw [HFS.out], Z4.out, by rw [HFS.out]; exact N3.out, B4.out, BR4.out⟩
      case round =>
        obtain ⟨j, hj, rfl, rfl, rfl, hZ, hN, hbq, hbr⟩ := hrel
        clear Z4 N3 B4 BR4
        have HZ := Lib.hid hZ
        have HN := Lib.hid hN
        have HBQ := Lib.hid hbq
        clear hZ hN hbq
        by_cases hjt : j < k
        · obtain ⟨b', off', e, hb', x0, x1⟩ := SReads.elem HR.out hjt
          cases e
          have y0 := (hbr.cell (p := ⟨b, off + j * 2, none⟩) hb).trans x0
          have y1 := (hbr.cell (p := ⟨b, off + j * 2 + 1, none⟩) hb).trans x1
          have HF := Lib.hid (fS_succ D' j (by rw [HL'.out]; exact hjt))
          have hfs := fS_bd HD'.out (by rw [HL'.out]; exact h0) j (by rw [HL'.out]; omega)
          have hok := okA_gs HD'.out (k := j) (by rw [HL'.out]; exact hjt)
          obtain ⟨⟨p, q⟩, hp⟩ : ∃ p, gs D' j = p := ⟨_, rfl⟩
          rw [hp] at y0 y1 HF hok
          obtain ⟨⟨⟨s0, s1⟩, s2, s3⟩, hs⟩ : ∃ s, fS D' j = s := ⟨_, rfl⟩
          rw [hs] at HF HN hfs
          simp only [hs]
          simp only [] at y0 y1 hok HN hfs
          clear x0 x1 hp hs
          have HA := Lib.hid (K2.new wr p q 29)
          have HZ2 := Lib.hid (HZ.out.alloc (.cells #[.int .i64 p, .int .i64 q] 29))
          have HN2 := Lib.hid (HN.out.alloc (.cells #[.int .i64 p, .int .i64 q] 29))
          have HBQ2 := Lib.hid (HBQ.out.alloc HBQ.out.size (.cells #[.int .i64 p, .int .i64 q] 29))
          have HBR2 := Lib.hid (hbr.alloc hbr.size (.cells #[.int .i64 p, .int .i64 q] 29))
          obtain ⟨nt, n0, n1, nf0, nf1⟩ := HN.out
          have hgw : w.heap.size ≤ g6 := by have := B2.out.size; omega
          have hne : w.heap.size ≠ g6 := by have := Z2.out.lt; omega
          have hlt6 := HN.out.lt
          have hn1 : ¬ g6 = wr.heap.size := by omega
          have hn2 : ¬ wr.heap.size = g6 := by omega
          by_cases hgap : s2 < p - s3
          · have HF2 : Hid (fS D' (j + 1) = ((p, p + 21600000 - (p - s3)), p - s3, max s3 q)) := Lib.hid (by rw [HF.out]; unfold fS1; rw [if_pos hgap])
            clear HF
            go_wp2
            go_roundw
            case rel =>
              refine ⟨j + 1, by omega, by go_num, by rw [HF2.out], by rw [HF2.out], ((HZ.out.far hne _).far hne _).alloc _, ?_, ((HBQ.out.setCell hgw _).setCell hgw _).alloc (by have := HBQ.out.size; simp; omega) _, ((hbr.setCell hz3 _).setCell hz3 _).alloc (by have := hbr.size; simp; omega) _⟩
              rw [HF2.out]
              exact ((HN.out.set0 _).set1 _).alloc _
            case measure => simp [intOf]; omega
          · have HF2 : Hid (fS D' (j + 1) = ((s0, s1), s2, max s3 q)) := Lib.hid (by rw [HF.out]; unfold fS1; rw [if_neg hgap])
            have hgap' : p - s3 ≤ s2 := by omega
            clear HF hgap
            go_wp2
            go_roundw
            case rel => exact ⟨j + 1, by omega, by go_num, by rw [HF2.out], by rw [HF2.out], HZ2.out, by rw [HF2.out]; exact HN2.out, HBQ2.out, HBR2.out⟩
            case measure => simp [intOf]; omega
        · obtain rfl : j = k := by omega
          have hres := HRR.out
          obtain ⟨⟨⟨s0, s1⟩, s2, s3⟩, hs⟩ : ∃ s, fS D' j = s := ⟨_, rfl⟩
          rw [hs] at HN hres
          obtain ⟨rfl, rfl⟩ := Prod.mk.inj hres
          simp only [hs]
          simp only [] at HN
          obtain ⟨zt, z0, z1, zf0, zf1⟩ := HZ.out
          obtain ⟨nt, n0, n1, -, -⟩ := HN.out
          have HS := Lib.hid hs
          clear hs hres HRR
          go_wp2
          refine bodyPost_ret (v := .agg #[.int .i64 s0, .int .i64 s1]) (by simp [results, Tryz.results133, go_sem, *]; done) rfl ⟨D', HP.out, HSO.out, ?_, ?_⟩
          · rw [HS.out]
          · exact (HBQ.out.setCell (by simp) _).setCell (by simp) _
end Go.Proofs.YtifdgdgfmjfbdaaGreat
namespace Go.Proofs.YtifdgdgfmjfbdaaGreat
open Go.RowKit
def sgA (n : Int) : Int := if 10800000 ≤ n % 21600000 then n % 21600000 - 21600000 else n % 21600000
theorem sgA_bd (n : Int) : -10800000 ≤ sgA n ∧ sgA n < 10800000 := by unfold sgA; omega
set_option maxHeartbeats 400000 in
theorem SignedA_any (n : Int) (w : World) (h0 : -1000000000000 ≤ n) (h1 : n ≤ 1000000000000) : Calls Tryz.prog 69 #[.int .i64 n] w fun e w' => e = .returned (.int .i64 (sgA n)) ∧ Below w.heap.size w w' := by
  have K := Lib.hid (fun W => Wrap_any n W h0 h1)
  have hm : 0 ≤ n % 21600000 ∧ n % 21600000 < 21600000 := by omega
  unfold sgA
  generalize n % 21600000 = m at *
  by_cases hc : 10800000 ≤ m
  all_goals
    simp only [hc, if_true, if_false]
    go_enter Tryz.func69, Tryz.ntmps69
    go_wp2_with fail
    (with_reducible refine (K.out _).mono ?_)
    rintro e w1 ⟨rfl, hb1⟩
    go_wp2
    go_ret
    exact ⟨ret_int (by first | rfl | omega), hb1⟩
end Go.Proofs.YtifdgdgfmjfbdaaGreat
namespace Go.Proofs.YtifdgdgfmjfbdaaGreat
open Go.RowKit
/-- a box: least and greatest latitude, least and greatest longitude -/
abbrev Bx := Int × Int × Int × Int
def bv (x : Bx) : List Value := [.int .i64 x.1, .int .i64 x.2.1, .int .i64 x.2.2.1, .int .i64 x.2.2.2]
def bvs (L : List Bx) : List Value := L.flatMap bv
theorem bvs_length (L : List Bx) : (bvs L).length = L.length * 4 := by
  induction L with
  | nil => rfl
  | cons x r ih => simp [bvs, bv] at ih ⊢; omega
theorem bvs_append (L M : List Bx) : bvs (L ++ M) = bvs L ++ bvs M := by simp [bvs]
theorem bv_one (x : Bx) : ∀ u ∈ bv x, u.oneCell' = true := by
  intro u hu
  simp [bv] at hu
  rcases hu with rfl | rfl | rfl | rfl <;> rfl
theorem Tryz.infoPlace : (Tryz.prog.info? 31).map (fun i => (i.zero, i.size, i.bytes)) = some (some (.agg #[.int .i64 0, .int .i64 0, .int .i64 0, .int .i64 0]), 4, 32) := by kernel_rfl
/-- the box of a cell -/
def bxI (x : Cl) : Bx := (edg x.2.1 x.1 - 5400000, edg (x.2.1 + 1) x.1 - 5400000, edg x.2.2 x.1 - 10800000, edg (x.2.2 + 1) x.1 - 10800000)
theorem boxV_bx (x : Cl) : boxV x.1 x.2.1 x.2.2 = .agg #[.int .i64 (bxI x).1, .int .i64 (bxI x).2.1, .int .i64 (bxI x).2.2.1, .int .i64 (bxI x).2.2.2] := rfl
theorem breads_new (w : World) (a b c d : Int) (t : TypeId) : Reads (w.alloc (.cells #[.int .i64 a, .int .i64 b, .int .i64 c, .int .i64 d] t)) (w.heap.size + 1) 4 (some ⟨w.heap.size, 0, none⟩) 1 (bv (a, b, c, d)) := by
  refine ⟨rfl, fun _ => ⟨_, rfl, by simp, fun j u hu => ?_⟩⟩
  match j, hu with
  | 0, hu => simp [bv] at hu; subst hu; simp [Addr.add]
  | 1, hu => simp [bv] at hu; subst hu; simp [Addr.add]
  | 2, hu => simp [bv] at hu; subst hu; simp [Addr.add]
  | 3, hu => simp [bv] at hu; subst hu; simp [Addr.add]
  | j + 4, hu => simp [bv] at hu
theorem bx_take (L : List Cl) (k : Nat) (hk : k < L.length) : bvs ((L.take (k + 1)).map bxI) = bvs ((L.take k).map bxI) ++ bv (bxI (gt L k)) := by
  rw [List.take_succ_eq_append_getElem hk, List.map_append, bvs_append]
  simp [gt, hk, bvs]
/-- the ending of a function that returns a list of boxes of its own, and an error number -/
def RetBoxes (w : World) (L : List Bx) (n : Int) (e : Ending) (w' : World) : Prop :=
  ∃ v, e = .returned (.tuple #[v, .int .i64 n]) ∧ w'.ownsRow w.heap.size 31 4 v L.length (bvs L) ∧ Below w.heap.size w w'
set_option maxHeartbeats 4000000 in
set_option maxRecDepth 100000 in
theorem boxes_any (A : Option Addr) (n c : Nat) (L : List Cl) (w : World) (hr : Reads w w.heap.size 3 A n (cvs L)) (hn : n ≤ maxLen) :
    Calls Tryz.prog 67 #[.slice A n c] w (RetBoxes w (if vrB L = true then L.map bxI else []) (if vrB L = true then 0 else 1)) := by
  have HL := Lib.hid hr.len
  have HR := Lib.hid hr
  have KV := Lib.hid (ValidRegion_any A n c L w hr hn)
  clear hr
  obtain ⟨i0, hi0, hz0, hz1, hzb⟩ := info_parts Tryz.infoPlace
  cases hv : vrB L with
  | false =>
    rw [hv] at KV
    simp only [Bool.false_eq_true, if_false]
    go_enter Tryz.func67, Tryz.ntmps67
    go_wp2_with fail
    (with_reducible refine KV.out.mono ?_)
    rintro e w1 ⟨rfl, hb1⟩
    go_wp2
    exact bodyPost_ret (v := .tuple #[.slice none 0 0, .int .i64 1]) (by simp [results, Tryz.results67, go_sem]) rfl ⟨_, rfl, own_nil _ _ _ _, hb1⟩
  | true =>
    rw [hv] at KV
    have hfew : n ≤ 4000 := by rw [← HL.out]; exact ((vrB_iff L).1 hv).1
    have HB : Hid (∀ k, k < n → ∀ W, Calls Tryz.prog 132 #[.agg #[.int .i64 (gt L k).1, .int .i64 (gt L k).2.1, .int .i64 (gt L k).2.2]] W fun e w' => e = .returned (.tuple #[.agg #[.int .i64 (bxI (gt L k)).1, .int .i64 (bxI (gt L k)).2.1, .int .i64 (bxI (gt L k)).2.2.1, .int .i64 (bxI (gt L k)).2.2.2], .int .i64 0]) ∧ Below W.heap.size W w') := Lib.hid fun k hk W => by
      have hk' : k < L.length := by rw [HL.out]; exact hk
      have := Box_yes (gt L k).1 (gt L k).2.1 (gt L k).2.2 W ((vl_iff _).2 (((vrB_iff L).1 hv).2.1 _ (by simp [gt, hk'])))
      rw [boxV_bx] at this
      exact this
    clear hn hv
    simp only [if_true]
    go_enter Tryz.func67, Tryz.ntmps67
    go_wp2_with fail
    (with_reducible refine KV.out.mono ?_)
    rintro e w1 ⟨rfl, hb1⟩
    clear KV
    go_wp2
    go_loopw [4, 14] (fun v i wr => ∃ k : Nat, k ≤ n ∧ i = .int .i64 k ∧ wr.ownsRow w.heap.size 31 4 v k (bvs ((L.take k).map bxI)) ∧ Below w.heap.size w wr) (fun _ i _ => n - (intOf i).toNat)
    case atStart => exact ⟨0, Nat.zero_le _, rfl, own_nil _ _ _ _, hb1⟩
    case round =>
      obtain ⟨k, hk, rfl, hown, hbr⟩ := hrel
      clear hb1
      by_cases hlt : k < n
      · obtain ⟨b, off, rfl, hb, x1, x2, x3⟩ := HR.out.elem hlt
        have y1 := (hbr.cell (p := ⟨b, off + k * 3, none⟩) hb).trans x1
        have y2 := (hbr.cell (p := ⟨b, off + k * 3 + 1, none⟩) hb).trans x2
        have y3 := (hbr.cell (p := ⟨b, off + k * 3 + 2, none⟩) hb).trans x3
        clear x1 x2 x3
        have hms := Lib.hid (bx_take L k (by rw [HL.out]; exact hlt))
        have hs := Lib.hid (HB.out k hlt)
        generalize bxI (gt L k) = q at hms hs
        generalize gt L k = x at y1 y2 y3 hs
        obtain ⟨xl, xr, xc⟩ := x
        obtain ⟨q0, q1, q2, q3⟩ := q
        simp only [] at y1 y2 y3 hms hs
        have hz := hbr.size
        have HO := Lib.hid hown
        clear hown
        go_wp2_with fail
        (with_reducible refine (hs.out _).mono ?_)
        rintro e w2 ⟨rfl, hb2⟩
        have hw2 := one_lt hb2
        have hbl2 := one_bl hb2
        have HO2 := Lib.hid (own_bl HO.out hbl2 (Nat.le_refl _))
        have b2 := hbr.trans (hbl2.mono hz)
        have hz2 := b2.size
        clear y1 y2 y3 hb2 HO hbr
        go_wp2_with (at_builtin; (refine wpList_append_any _ rfl (.tmp 26) (.tmp 28) _ rfl w.heap.size 31 i0 _ 4 32 Tryz.underlying114 hi0 hz0 hz1 hzb rfl (by decide) u4 k (bvs ((L.take k).map bxI)) rfl ((HO2.out.alloc _).alloc _) (w2.heap.size + 1 + 1) (some ⟨w2.heap.size + 1, 0, none⟩) 1 1 (bv (q0, q1, q2, q3)) rfl (by simpa using breads_new (w2.alloc (.cells #[.int .i64 q0, .int .i64 q1, .int .i64 q2, .int .i64 q3] 31)) q0 q1 q2 q3 31) (bv_one _) (by simp only [maxLen]; omega) (by omega) (by simp; omega) ?_); intro v3 w3 hown3 hg3 hat3)
        go_roundw
        case rel => exact ⟨k + 1, by omega, by go_num, by rw [hms.out]; exact hown3, ((b2.alloc hz2 _).alloc (by simp; omega) _).grown hg3 (by simp; omega) (own_base HO2.out)⟩
        case measure => simp [intOf]; omega
      · obtain rfl : k = n := by omega
        rw [List.take_of_length_le (by rw [HL.out]; omega)] at hown
        have hlen : (L.map bxI).length = k := by rw [List.length_map, HL.out]
        have HO := Lib.hid hown
        obtain ⟨A3, c3, hu3, -, -⟩ := own_form hown
        subst hu3
        clear hown
        go_wp2
        exact bodyPost_ret (v := .tuple #[.slice A3 k c3, .int .i64 0]) (by simp [results, Tryz.results67, go_sem]) rfl ⟨_, rfl, by rw [hlen]; exact HO.out, hbr⟩
end Go.Proofs.YtifdgdgfmjfbdaaGreat
namespace Go.Proofs.YtifdgdgfmjfbdaaGreat
open Go.RowKit
theorem validLat_yes (x y : Int) (w : World) (h1 : x ≤ y) (h2 : -5400000 ≤ x) (h3 : y ≤ 5400000) : Calls Tryz.prog 95 #[.agg #[.int .i64 x, .int .i64 y]] w fun e w' => e = .returned (.bool true) ∧ Below w.heap.size w w' := by
  have d3 : decide (y ≤ 5400000) = true := decide_eq_true h3
  go_enter Tryz.func95, Tryz.ntmps95
  go_wp2
  all_goals
    go_ret
    refine ⟨ret_bool (by first | rfl | (simp_all; done) | (simp_all; omega)), ?_⟩
    repeat (first | exact Below.refl _ _ | assumption | refine bl_drew ?_ | refine bl_drewN ?_ _ | refine Below.setCell ?_ (by first | assumption | omega | (simp; done) | (simp; omega)) _ | refine Below.alloc ?_ (by first | assumption | omega | (simp; done) | (simp; omega)) _)
set_option maxHeartbeats 400000 in
theorem validLon_yes (x y : Int) (w : World) (h1 : x ≤ y) (h2 : -10800000 ≤ x) (h3 : x < 10800000) (h4 : y - x < 21600000) : Calls Tryz.prog 96 #[.agg #[.int .i64 x, .int .i64 y]] w fun e w' => e = .returned (.bool true) ∧ Below w.heap.size w w' := by
  have ha : aeq x y (-10800000) 10800000 = false := by simp [aeq]; omega
  have K := Lib.hid (fun W => all_any x y W)
  rw [ha] at K
  have sy : IntKind.i64.wrap (y - x) = y - x := IntWalk.i64_in _ (by omega)
  clear ha
  go_enter Tryz.func96, Tryz.ntmps96
  go_wp2_with (go_at_call 134; (with_reducible refine (K.out _).mono ?_); rintro e w1 ⟨rfl, hb⟩; have hz := one_lt hb; have hb1 := one_bl hb; have y1 := (hb.cell (p := ⟨w.heap.size, 0, none⟩) (by simp)).trans (show _ = some (.int .i64 x) by simp); have y2 := (hb.cell (p := ⟨w.heap.size, 1, none⟩) (by simp)).trans (show _ = some (.int .i64 y) by simp))
  all_goals
    go_ret
    exact ⟨ret_bool (by first | rfl | (simp_all; done) | (simp_all; omega)), hb1⟩
/-- the numbers of a box -/
structure BoxOk (b0 b1 b2 b3 : Int) : Prop where
  l1 : b0 ≤ b1
  l2 : -5400000 ≤ b0
  l3 : b1 ≤ 5400000
  o1 : b2 ≤ b3
  o2 : -10800000 ≤ b2
  o3 : b2 < 10800000
  o4 : b3 - b2 < 21600000
set_option maxHeartbeats 400000 in
theorem placeValid_yes (b0 b1 b2 b3 : Int) (w : World) (hb : BoxOk b0 b1 b2 b3) : Calls Tryz.prog 43 #[.agg #[.int .i64 b0, .int .i64 b1, .int .i64 b2, .int .i64 b3]] w fun e w' => e = .returned (.bool true) ∧ Below w.heap.size w w' := by
  have K1 := Lib.hid (fun W => validLat_yes b0 b1 W hb.l1 hb.l2 hb.l3)
  have K2 := Lib.hid (fun W => validLon_yes b2 b3 W hb.o1 hb.o2 hb.o3 hb.o4)
  clear hb
  go_enter Tryz.func43, Tryz.ntmps43
  go_wp2_with (first | (go_at_call 95; (with_reducible refine (K1.out _).mono ?_); rintro e w1 ⟨rfl, hb⟩; have hz := one_lt hb; have hb1 := one_bl hb; have y1 := (hb.cell (p := ⟨w.heap.size, 2, none⟩) (by simp)).trans (show _ = some (.int .i64 b2) by simp); have y2 := (hb.cell (p := ⟨w.heap.size, 3, none⟩) (by simp)).trans (show _ = some (.int .i64 b3) by simp)) | (go_at_call 96; (with_reducible refine (K2.out _).mono ?_); rintro e w2 ⟨rfl, hb2⟩))
  go_ret
  exact ⟨rfl, hb1.trans (hb2.mono hb1.size)⟩
/-- whether a point is in a box -/
def inBox (b0 b1 b2 b3 a b : Int) : Bool := decide (b0 ≤ a ∧ a ≤ b1) && (decide (a = 5400000) || decide (a = -5400000) || lonIn b2 b3 b)
set_option maxHeartbeats 1000000 in
theorem placeContains_any (b0 b1 b2 b3 a b : Int) (w : World) (hb : BoxOk b0 b1 b2 b3) (hp : vptB a b = true) :
    Calls Tryz.prog 31 #[.agg #[.int .i64 b0, .int .i64 b1, .int .i64 b2, .int .i64 b3], .agg #[.int .i64 a, .int .i64 b]] w fun e w' => e = .returned (.tuple #[.bool (inBox b0 b1 b2 b3 a b), .int .i64 0]) ∧ Below w.heap.size w w' := by
  have K1 := Lib.hid (fun W => placeValid_yes b0 b1 b2 b3 W hb)
  have K2 := Lib.hid (vpt_yes a b hp)
  obtain ⟨p1, p2, p3, p4⟩ := vptB_true.1 hp
  have q1 := hb.o1
  have q2 := hb.o2
  have q3 := hb.o3
  have q4 := hb.o4
  have K3 := Lib.hid (fun W => has_place b2 b3 b W (by omega) (by omega) (by omega) (by omega) q1 q4)
  clear q1 q2 q3 q4 hb hp
  obtain ⟨R, hR⟩ : ∃ R, R = inBox b0 b1 b2 b3 a b := ⟨_, rfl⟩
  rw [← hR]
  have HR := Lib.hid hR
  clear hR
  go_enter Tryz.func31, Tryz.ntmps31
  go_wp2_with fail
  (with_reducible refine (K1.out _).mono ?_)
  rintro e w1 ⟨rfl, hb1⟩
  have hb1' := two_bl hb1
  have hz1 := two_lt hb1
  have x0 := (hb1.cell (p := ⟨w.heap.size, 0, none⟩) (by simp; omega)).trans (show _ = some (.int .i64 b0) by simp)
  have x1 := (hb1.cell (p := ⟨w.heap.size, 1, none⟩) (by simp; omega)).trans (show _ = some (.int .i64 b1) by simp)
  have x2 := (hb1.cell (p := ⟨w.heap.size, 2, none⟩) (by simp; omega)).trans (show _ = some (.int .i64 b2) by simp)
  have x3 := (hb1.cell (p := ⟨w.heap.size, 3, none⟩) (by simp; omega)).trans (show _ = some (.int .i64 b3) by simp)
  have y0 := (hb1.cell (p := ⟨w.heap.size + 1, 0, none⟩) (by simp)).trans (show _ = some (.int .i64 a) by simp)
  have y1 := (hb1.cell (p := ⟨w.heap.size + 1, 1, none⟩) (by simp)).trans (show _ = some (.int .i64 b) by simp)
  clear hb1
  go_wp2_with fail
  (with_reducible refine (K2.out _).mono ?_)
  rintro e w2 ⟨rfl, hb2⟩
  have hb2' := hb1'.trans (hb2.mono hb1'.size)
  have x0 := (hb2.cell (p := ⟨w.heap.size, 0, none⟩) hz1.1).trans x0
  have x1 := (hb2.cell (p := ⟨w.heap.size, 1, none⟩) hz1.1).trans x1
  have x2 := (hb2.cell (p := ⟨w.heap.size, 2, none⟩) hz1.1).trans x2
  have x3 := (hb2.cell (p := ⟨w.heap.size, 3, none⟩) hz1.1).trans x3
  have y0 := (hb2.cell (p := ⟨w.heap.size + 1, 0, none⟩) hz1.2).trans y0
  have y1 := (hb2.cell (p := ⟨w.heap.size + 1, 1, none⟩) hz1.2).trans y1
  clear hb2 hb1' K1 K2
  by_cases h0 : a < b0
  · have hE : Hid (R = false) := Lib.hid (by rw [HR.out]; simp [inBox]; omega)
    go_wp2
    go_ret2
    exact ⟨by rw [hE.out]; rfl, hb2'⟩
  · have d0 : decide (a < b0) = false := decide_eq_false h0
    by_cases h1 : b1 < a
    · have hE : Hid (R = false) := Lib.hid (by rw [HR.out]; simp [inBox]; omega)
      go_wp2
      go_ret2
      exact ⟨by rw [hE.out]; rfl, hb2'⟩
    · have d1 : decide (b1 < a) = false := decide_eq_false h1
      have hin : decide (b0 ≤ a ∧ a ≤ b1) = true := decide_eq_true (by omega)
      by_cases h2 : a = 5400000
      · have hE : Hid (R = true) := Lib.hid (by rw [HR.out, inBox, hin]; simp [h2])
        subst h2
        clear hin
        go_wp2
        go_ret2
        exact ⟨by rw [hE.out]; rfl, hb2'⟩
      · have e2 : (a == 5400000) = false := by simp [h2]
        by_cases h3 : a = -5400000
        · have hE : Hid (R = true) := Lib.hid (by rw [HR.out, inBox, hin]; simp [h3])
          subst h3
          clear hin
          go_wp2
          go_ret2
          exact ⟨by rw [hE.out]; rfl, hb2'⟩
        · have e3 : (a == -5400000) = false := by simp [h3]
          have hE : Hid (R = lonIn b2 b3 b) := Lib.hid (by rw [HR.out, inBox, hin]; simp [h2, h3])
          generalize lonIn b2 b3 b = z at K3 hE
          clear hin
          go_wp2_with (go_at_call 70; (with_reducible refine (K3.out _).mono ?_); rintro e w3 ⟨rfl, hb3⟩)
          go_ret2
          exact ⟨by rw [hE.out]; rfl, hb2'.trans (hb3.mono hb2'.size)⟩
end Go.Proofs.YtifdgdgfmjfbdaaGreat
namespace Go.Proofs.YtifdgdgfmjfbdaaGreat
open Go.RowKit
/-- arcs of longitudes -/
def VL (a : Sp) : Prop := (a.1 = -10800000 ∧ a.2 = 10800000) ∨ (-10800000 ≤ a.1 ∧ a.1 < 10800000 ∧ a.1 ≤ a.2 ∧ a.2 - a.1 < 21600000)
/-- the numbers of a valid place -/
structure VP (a : Bx) : Prop where
  l1 : a.1 ≤ a.2.1
  l2 : -5400000 ≤ a.1
  l3 : a.2.1 ≤ 5400000
  o : VL (a.2.2.1, a.2.2.2)
/-- four cells that are known -/
structure K4 (W : World) (g : Nat) (a b c d : Int) : Prop where
  lt : g < W.heap.size
  c0 : W.cell? ⟨g, 0, none⟩ = some (.int .i64 a)
  c1 : W.cell? ⟨g, 1, none⟩ = some (.int .i64 b)
  c2 : W.cell? ⟨g, 2, none⟩ = some (.int .i64 c)
  c3 : W.cell? ⟨g, 3, none⟩ = some (.int .i64 d)
  f0 : W.frozen? ⟨g, 0, none⟩ = false
  f1 : W.frozen? ⟨g, 1, none⟩ = false
  f2 : W.frozen? ⟨g, 2, none⟩ = false
  f3 : W.frozen? ⟨g, 3, none⟩ = false
section
variable {W W' : World} {g : Nat} {a b c d : Int}
theorem K4.below {B : Nat} (h : K4 W g a b c d) (hb : Below B W W') (hB : g < B) : K4 W' g a b c d :=
  ⟨Nat.lt_of_lt_of_le h.lt hb.size, (hb.cell (p := ⟨g, 0, none⟩) hB).trans h.c0, (hb.cell (p := ⟨g, 1, none⟩) hB).trans h.c1, (hb.cell (p := ⟨g, 2, none⟩) hB).trans h.c2, (hb.cell (p := ⟨g, 3, none⟩) hB).trans h.c3,
   (hb.frozen (p := ⟨g, 0, none⟩) hB).trans h.f0, (hb.frozen (p := ⟨g, 1, none⟩) hB).trans h.f1, (hb.frozen (p := ⟨g, 2, none⟩) hB).trans h.f2, (hb.frozen (p := ⟨g, 3, none⟩) hB).trans h.f3⟩
theorem K4.alloc (h : K4 W g a b c d) (o : Obj) : K4 (W.alloc o) g a b c d := h.below (bl_alloc W o) h.lt
theorem K4.new (W : World) (a b c d : Int) (t : TypeId) : K4 (W.alloc (.cells #[.int .i64 a, .int .i64 b, .int .i64 c, .int .i64 d] t)) W.heap.size a b c d := ⟨by simp, by simp, by simp, by simp, by simp, by simp, by simp, by simp, by simp⟩
end
theorem validLon_vl (x y : Int) (w : World) (h : VL (x, y)) : Calls Tryz.prog 96 #[.agg #[.int .i64 x, .int .i64 y]] w fun e w' => e = .returned (.bool true) ∧ Below w.heap.size w w' := by
  have h' : (x = -10800000 ∧ y = 10800000) ∨ (-10800000 ≤ x ∧ x < 10800000 ∧ x ≤ y ∧ y - x < 21600000) := h
  by_cases hc : x = -10800000 ∧ y = 10800000
  · obtain ⟨rfl, rfl⟩ := hc
    have K := Lib.hid (fun W => all_any (-10800000) 10800000 W)
    rw [show aeq (-10800000) 10800000 (-10800000) 10800000 = true by decide] at K
    clear h h'
    go_enter Tryz.func96, Tryz.ntmps96
    go_wp2_with (go_at_call 134; (with_reducible refine (K.out _).mono ?_); rintro e w1 ⟨rfl, hb⟩; have hz := one_lt hb; have hb1 := one_bl hb)
    all_goals
      go_ret
      exact ⟨ret_bool (by first | rfl | (simp_all; done) | (simp_all; omega)), hb1⟩
  · have h2 : -10800000 ≤ x ∧ x < 10800000 ∧ x ≤ y ∧ y - x < 21600000 := h'.resolve_left hc
    exact validLon_yes x y w h2.2.2.1 h2.1 h2.2.1 h2.2.2.2
set_option maxHeartbeats 400000 in
theorem placeValid_vp (b0 b1 b2 b3 : Int) (w : World) (hb : VP (b0, b1, b2, b3)) : Calls Tryz.prog 43 #[.agg #[.int .i64 b0, .int .i64 b1, .int .i64 b2, .int .i64 b3]] w fun e w' => e = .returned (.bool true) ∧ Below w.heap.size w w' := by
  have K1 := Lib.hid (fun W => validLat_yes b0 b1 W hb.l1 hb.l2 hb.l3)
  have K2 := Lib.hid (fun W => validLon_vl b2 b3 W hb.o)
  clear hb
  go_enter Tryz.func43, Tryz.ntmps43
  go_wp2_with (first | (go_at_call 95; (with_reducible refine (K1.out _).mono ?_); rintro e w1 ⟨rfl, hb⟩; have hz := one_lt hb; have hb1 := one_bl hb; have y1 := (hb.cell (p := ⟨w.heap.size, 2, none⟩) (by simp)).trans (show _ = some (.int .i64 b2) by simp); have y2 := (hb.cell (p := ⟨w.heap.size, 3, none⟩) (by simp)).trans (show _ = some (.int .i64 b3) by simp)) | (go_at_call 96; (with_reducible refine (K2.out _).mono ?_); rintro e w2 ⟨rfl, hb2⟩))
  go_ret
  exact ⟨rfl, hb1.trans (hb2.mono hb1.size)⟩
end Go.Proofs.YtifdgdgfmjfbdaaGreat
namespace Go.Proofs.YtifdgdgfmjfbdaaGreat.PQ
/-- least members, one pair of things that touch put together -/
def mrg (c : Nat → Nat) (i k : Nat) : Nat → Nat := fun j => if c j = max (c i) (c k) then min (c i) (c k) else c j
/-- one pair looked at -/
def stp (t : Nat → Nat → Bool) (c : Nat → Nat) (i k : Nat) : Nat → Nat := if t i k = true then mrg c i k else c
/-- the pairs of one thing with those before it -/
def row (t : Nat → Nat → Bool) (c : Nat → Nat) (i : Nat) : Nat → (Nat → Nat)
  | 0 => c
  | k + 1 => stp t (row t c i k) i k
/-- all pairs of the first things -/
def cl (t : Nat → Nat → Bool) : Nat → (Nat → Nat)
  | 0 => fun j => j
  | i + 1 => row t (cl t i) i i
end Go.Proofs.YtifdgdgfmjfbdaaGreat.PQ
namespace Go.Proofs.YtifdgdgfmjfbdaaGreat.PQ
end Go.Proofs.YtifdgdgfmjfbdaaGreat.PQ
namespace Go.Proofs.YtifdgdgfmjfbdaaGreat.PQ
def upd (pt : Nat → Nat) (m v : Nat) : Nat → Nat := fun x => if x = m then v else pt x
section
variable {c : Nat → Nat} {t : Nat → Nat → Bool} {n i : Nat} {pt : Nat → Nat} {T : List Nat} {k m : Nat}
end
/-- how many have no number yet -/
def unm (pt : Nat → Nat) (n : Nat) : Nat := ((List.range n).filter (fun x => pt x = 0)).length
theorem unm_upd {pt : Nat → Nat} {n m v : Nat} (hm : m < n) (h0 : pt m = 0) (hv : v ≠ 0) : unm (upd pt m v) n + 1 = unm pt n := by
  induction n with
  | zero => omega
  | succ n ih =>
    unfold unm at *
    rw [List.range_succ, List.filter_append, List.filter_append, List.length_append, List.length_append]
    by_cases e : m = n
    · subst e
      have : (List.range m).filter (fun x => decide (upd pt m v x = 0)) = (List.range m).filter (fun x => decide (pt x = 0)) := by
        apply List.filter_congr
        intro x hx
        have : x < m := by simpa using hx
        simp [upd, show x ≠ m by omega]
      rw [this]
      simp [upd, h0, hv]
    · have := ih (by omega)
      have hn : upd pt m v n = pt n := by unfold upd; rw [if_neg (by omega)]
      have : (List.filter (fun x => decide (upd pt m v x = 0)) [n]) = List.filter (fun x => decide (pt x = 0)) [n] := by
        simp [List.filter_cons, hn]
      rw [this]
      omega
end Go.Proofs.YtifdgdgfmjfbdaaGreat.PQ
namespace Go.Proofs.YtifdgdgfmjfbdaaGreat.PQ
end Go.Proofs.YtifdgdgfmjfbdaaGreat.PQ
namespace Go.Proofs.YtifdgdgfmjfbdaaGreat
open Go.RowKit
def gl (LL : List (List Cl)) (k : Nat) : List Cl := LL.getD k []
theorem own_lt' {w : World} {base : Nat} {e : TypeId} {size n : Nat} {v : Value} {xs : List Value} (h : w.ownsRow base e size v n xs) {q : Nat} (hq : v.ownBlock = some q) : q < w.heap.size := by
  rcases h.2 with ⟨rfl, _⟩ | ⟨g, cap, cur, rfl, _, hh, _⟩
  · simp [Value.ownBlock] at hq
  · have : g = q := by simpa [Value.ownBlock] using hq
    subst this
    rcases Nat.lt_or_ge g w.heap.size with hlt | hge
    · exact hlt
    · rw [Array.getElem?_eq_none hge] at hh; cases hh
theorem own_grown' {w w' : World} {base : Nat} {e : TypeId} {size n : Nat} {v : Value} {xs : List Value} {row : Option Nat} (h : w.ownsRow base e size v n xs) (hg : w.grownBy w' row) (hne : ∀ q, v.ownBlock = some q → row ≠ some q) : w'.ownsRow base e size v n xs := by
  refine ⟨h.1, ?_⟩
  have hlt := @own_lt' w base e size n v xs h
  rcases h.2 with h1 | ⟨g, cap, cur, rfl, hb, hh, hr⟩
  · exact .inl h1
  · have hq : (Value.slice (some ⟨g, 0, none⟩) n cap).ownBlock = some g := by simp [Value.ownBlock]
    exact .inr ⟨g, cap, cur, rfl, hb, (hg.block g (hlt hq) (fun e => hne g hq e.symm)).trans hh, hr⟩
section
variable {W W' : World} {B : Nat} {v : Value} {LL : List (List Cl)} {vs : List Value}
end
end Go.Proofs.YtifdgdgfmjfbdaaGreat
