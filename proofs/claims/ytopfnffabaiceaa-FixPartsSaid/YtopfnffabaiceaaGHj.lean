/- The walk of fix.around. -/
import Derived.Test.YtopfnffabaiceaaGHs
import Derived.Test.YtopfnffabaiceaaGShelf
import Derived.Test.YtopfnffabaiceaaGGb
set_option linter.unusedVariables false
set_option linter.unusedSimpArgs false
/- slices.SortFunc and slices.SortedFunc at arcs, by their beginnings. -/
namespace Go.Proofs.Ytopfnffabaiceaa
open Go.RowKit Go.Sort Go.Shelf
def cmpA (x y : Sp) : Int := Lib.compareInt x.1 y.1
set_option maxHeartbeats 1000000 in
set_option maxRecDepth 100000 in
theorem arcCmp_any (x y : Sp) (W : World) : Calls Try.prog 95 #[.agg #[.int .i64 x.1, .int .i64 x.2], .agg #[.int .i64 y.1, .int .i64 y.2]] W fun e w' => e = .returned (.int .i64 (cmpA x y)) ∧ ∃ q os', w' = grow (W.drewN q) os' := by
  have C1 := fun W => compare_any x.1 y.1 W
  unfold cmpA
  generalize Lib.compareInt x.1 y.1 = u at C1 ⊢
  have C1 := Lib.hid C1
  go_enter Try.func95, Try.ntmps95
  go_wp2_with (go_at_call 62; refine (C1.out _).mono ?_; rintro e w' ⟨rfl, rfl⟩)
  go_ret
  refine ⟨rfl, 0, #[.cells #[.int .i64 x.1, .int .i64 x.2] 42, .cells #[.int .i64 y.1, .int .i64 y.2] 42], ?_⟩
  rw [alloc_eq_grow, alloc_eq_grow, grow_grow]
  rfl
theorem ltOf_cmpA (x y : Sp) : ltOf cmpA x y = decide (x.1 < y.1) := by
  unfold ltOf cmpA Lib.compareInt
  by_cases h1 : x.1 < y.1
  · simp [h1]
  · by_cases h2 : y.1 < x.1 <;> simp [h1, h2]
theorem swo_cmpA : SWO (ltOf cmpA) where
  irrefl x := by rw [ltOf_cmpA]; simp
  trans x y z h1 h2 := by rw [ltOf_cmpA] at *; simp only [decide_eq_true_eq] at *; omega
  ntrans x y z h1 h2 := by rw [ltOf_cmpA] at *; simp only [decide_eq_false_iff_not] at *; omega
theorem sortArc_any (base : Nat) (v : Value) (D : List Sp) (w : World) (h : w.ownsRow base 42 2 v D.length (spvs D)) (hn : D.length < 4611686018427387904) (h0 : 0 < D.length) :
    Calls Try.prog 127 #[v, .func (.func 95) #[] #[]] w fun e w' => e = .returned (.tuple #[]) ∧ (∃ D' : List Sp, D'.Perm D ∧ (∀ i j, i < j → j < D'.length → (gs D' i).1 ≤ (gs D' j).1) ∧ w'.ownsRow base 42 2 v D.length (spvs D')) ∧ w.grownBy w' v.ownBlock := by
  obtain ⟨g, cap, rfl, hg, hlt⟩ := h.form h0
  have eg : ∀ args w, (callFunc 95 args).run Try.prog w = .ok (.enter 95 args) w := enters_of Try.func95 (by kernel_rfl) rfl
  have hH : HoldsK spv 2 w g 0 D.toArray := by
    intro j hj
    rw [flat2] at hj ⊢
    rcases h.2 with ⟨h1, _⟩ | ⟨g', cap', cur, hv, _, hh, hnc, hcm, hcs, htk⟩
    · cases h1
    · injection hv with e1 e2 e3
      injection e1 with e1
      injection e1 with e1
      subst e1
      have hj' : j < (spvs D).length := by simpa using hj
      have hc : cur[j]? = some ((spvs D)[j]) := by
        have := congrArg (·[j]?) htk
        simp only [List.getElem?_take] at this
        rw [spvs_length] at hj'
        rw [if_pos hj'] at this
        rw [spvs_length] at *
        rw [Array.getElem?_toList] at this
        rw [this, List.getElem?_eq_getElem]
      refine ⟨?_, ?_⟩
      · simp [World.cell?, hh, hc, hj']
      · simp [World.frozen?, hh]
  have hcon := AnyQ.slices_SortFunc Try.sortArc 2 Try.isAgg42 Try.sizeOf42 spv (fun _ => rfl) (fun x v hv => spv_one x v hv) cmpA swo_cmpA 95 #[] g 0 cap D.toArray w eg (fun _ _ _ _ x y => arcCmp_any x y _) hH hlt (by simpa using hn)
  change Calls Try.prog 127 _ _ _ at hcon
  simp only [List.size_toArray] at hcon
  refine hcon.mono ?_
  rintro e w' ⟨rfl, d', m, os, ⟨hsz, -, hperm⟩, hso, rfl⟩
  have hsz' : d'.size = D.length := by simpa using hsz
  have hp : d'.toList.Perm D := by
    have e1 : d'.extract 0 D.length = d' := by rw [← hsz']; exact Array.extract_size
    have e2 : D.toArray.extract 0 D.length = D.toArray := by
      have : D.length = D.toArray.size := by simp
      rw [this]; exact Array.extract_size
    rw [e1, e2] at hperm
    simpa using hperm
  have hF := flat2 d'.toList
  rw [Array.toArray_toList] at hF
  have hl : d'.toList.length = D.length := by simpa using hsz'
  have hr := own_row w base _ 2 D.length cap g m _ (flatK spv 2 d') os h (by rw [hF]; simp [spvs_length, hl])
  refine ⟨rfl, ⟨d'.toList, hp, fun i j hij hj => ?_, ?_⟩, hr.2⟩
  · have hj' : j < d'.size := by simpa using hj
    have := hso i j (Nat.zero_le _) hij (by omega)
    rw [ltOf_cmpA, decide_eq_false_iff_not] at this
    have g1 : gs d'.toList i = d'[i]! := by simp [gs, show i < d'.size by omega]
    have g2 : gs d'.toList j = d'[j]! := by simp [gs, hj']
    rw [g1, g2]; omega
  · have e : spvs d'.toList = (flatK spv 2 d').toList := by rw [hF]
    rw [e]
    exact hr.1
set_option maxHeartbeats 1000000 in
set_option maxRecDepth 100000 in
/-- slices.SortedFunc at what slices.Values has handed back -/
theorem sorted_any (Bs b off cap : Nat) (D : List Sp) (w : World) (h0 : 0 < D.length) (hlen : D.length ≤ 100000) (hBs : Bs < w.heap.size) (hc : w.cell? ⟨Bs, 0, none⟩ = some (.slice (some ⟨b, off, none⟩) D.length cap)) (hb : b < w.heap.size)
    (hI : ∀ j, j < D.length → w.cell? ⟨b, off + j * 2, none⟩ = some (.int .i64 (gs D j).1) ∧ w.cell? ⟨b, off + j * 2 + 1, none⟩ = some (.int .i64 (gs D j).2)) :
    Calls Try.prog 93 #[.func (.func 128) #[] #[.pointer (some ⟨Bs, 0, none⟩)], .func (.func 95) #[] #[]] w fun e w' => ∃ (v : Value) (D' : List Sp), e = .returned v ∧ D'.Perm D ∧ (∀ i j, i < j → j < D'.length → (gs D' i).1 ≤ (gs D' j).1) ∧ w'.ownsRow w.heap.size 42 2 v D.length (spvs D') ∧ Below w.heap.size w w' := by
  have hseq := values_stops Fence.wide 4 trivial rfl (by omega) Bs w.heap.size b off cap D (by omega) w hBs (Nat.le_refl _) hc hb hI
  have KC := Lib.hid (callsIn_wide.1 (collect_in Fence.wide 6 trivial trivial rfl (by omega) _ _ trivial (enters_of Try.func128 (by kernel_rfl) rfl) D w.heap.size w w hseq (Below.refl _ _) (Nat.le_refl _) hlen))
  have KS := Lib.hid (fun v W h => sortArc_any w.heap.size v D W h (by omega) h0)
  obtain ⟨N, hN⟩ : ∃ N, N = D.length := ⟨_, rfl⟩
  have HN := Lib.hid hN
  rw [← hN]
  rw [← hN] at KC KS
  clear hseq hI hc hlen h0 hN
  go_enter Try.func93, Try.ntmps93
  go_wp2_with fail
  (with_reducible refine KC.out.mono ?_)
  rintro e w1 ⟨v, rfl, hrow, hb1⟩
  obtain ⟨A1, c1, rfl, -, -, -⟩ := own_form hrow
  have HROW := Lib.hid hrow
  have HB1 := Lib.hid hb1
  clear hrow hb1
  go_wp2_with fail
  (with_reducible refine (KS.out _ _ HROW.out).mono ?_)
  rintro e w2 ⟨rfl, ⟨D', hp, hs, hrow2⟩, hg⟩
  go_wp2
  go_ret
  exact ⟨_, D', rfl, hp, hs, hrow2, HB1.out.grown hg HB1.out.size (own_base HROW.out)⟩
end Go.Proofs.Ytopfnffabaiceaa
namespace Go.Proofs.Ytopfnffabaiceaa
open Go.RowKit
/-- how far the first arcs reach -/
def fR (D : List Sp) (k : Nat) : Int := (D.take k).foldl (fun r a => max r a.2) (gs D 0).2
/-- the arc that the greatest gap leaves, the gap, how far the arcs have reached: one arc more -/
def fS1 (s : Sp × Int × Int) (a : Sp) : Sp × Int × Int := if s.2.1 < a.1 - s.2.2 then ((a.1, a.1 + 21600000 - (a.1 - s.2.2)), a.1 - s.2.2, max s.2.2 a.2) else (s.1, s.2.1, max s.2.2 a.2)
def fS (D : List Sp) (k : Nat) : Sp × Int × Int := (D.take k).foldl fS1 (((-10800000 : Int), (10800000 : Int)), (0 : Int), fR D D.length - 21600000)
theorem fR_succ (D : List Sp) (k : Nat) (hk : k < D.length) : fR D (k + 1) = max (fR D k) (gs D k).2 := by
  unfold fR
  rw [List.take_succ_eq_append_getElem hk, List.foldl_append]
  simp [gs, hk]
theorem fS_succ (D : List Sp) (k : Nat) (hk : k < D.length) : fS D (k + 1) = fS1 (fS D k) (gs D k) := by
  unfold fS
  rw [List.take_succ_eq_append_getElem hk, List.foldl_append]
  simp [gs, hk]
theorem okA_gs {D : List Sp} (hD : OkA D) {k : Nat} (hk : k < D.length) : -10800000 ≤ (gs D k).1 ∧ (gs D k).1 ≤ 10800000 ∧ (gs D k).1 ≤ (gs D k).2 ∧ (gs D k).2 ≤ (gs D k).1 + 21600000 := hD _ (by simp [gs, hk])
theorem fR_bd {D : List Sp} (hD : OkA D) (h0 : 0 < D.length) (k : Nat) (hk : k ≤ D.length) : -10800000 ≤ fR D k ∧ fR D k ≤ 32400000 := by
  induction k with
  | zero => have := okA_gs hD h0; simp [fR]; omega
  | succ k ih =>
    have h := ih (by omega)
    have := okA_gs hD (k := k) (by omega)
    rw [fR_succ D k (by omega)]
    omega
theorem fS_bd {D : List Sp} (hD : OkA D) (h0 : 0 < D.length) (k : Nat) (hk : k ≤ D.length) : -32400000 ≤ (fS D k).2.2 ∧ (fS D k).2.2 ≤ 32400000 ∧ 0 ≤ (fS D k).2.1 ∧ (fS D k).2.1 ≤ 43200000 := by
  induction k with
  | zero => have := fR_bd hD h0 D.length (Nat.le_refl _); simp [fS]; omega
  | succ k ih =>
    have h := ih (by omega)
    have := okA_gs hD (k := k) (by omega)
    rw [fS_succ D k (by omega)]
    unfold fS1
    split
    · simp only []; omega
    · simp only []; omega
set_option maxHeartbeats 4000000 in
set_option maxRecDepth 100000 in
theorem fAround_any (b0 off0 n c : Nat) (D : List Sp) (w : World) (hb0 : b0 < w.heap.size) (hI : ∀ j, j < D.length → w.cell? ⟨b0, off0 + j * 2, none⟩ = some (.int .i64 (gs D j).1) ∧ w.cell? ⟨b0, off0 + j * 2 + 1, none⟩ = some (.int .i64 (gs D j).2)) (hl : D.length = n) (hn : n ≤ 100000) (h0 : 0 < n) (hD : OkA D) :
    Calls Try.prog 67 #[.slice (some ⟨b0, off0, none⟩) n c] w fun e w' => ∃ D' : List Sp, D'.Perm D ∧ (∀ i j, i < j → j < D'.length → (gs D' i).1 ≤ (gs D' j).1) ∧ e = .returned (.agg #[.int .i64 (fS D' n).1.1, .int .i64 (fS D' n).1.2]) ∧ Below w.heap.size w w' := by
  have KV := Lib.hid (fun W => callsIn_wide.1 (values_in Fence.wide 4 trivial rfl (some ⟨b0, off0, none⟩) n c W))
  have KS : Hid (∀ W : World, Below w.heap.size w W → Calls Try.prog 93 #[.func (.func 128) #[] #[.pointer (some ⟨W.heap.size, 0, none⟩)], .func (.func 95) #[] #[]] (W.alloc (.cells #[.slice (some ⟨b0, off0, none⟩) n c] 39)) fun e w' => ∃ (v : Value) (D' : List Sp), e = .returned v ∧ D'.Perm D ∧ (∀ i j, i < j → j < D'.length → (gs D' i).1 ≤ (gs D' j).1) ∧ w'.ownsRow (W.alloc (.cells #[.slice (some ⟨b0, off0, none⟩) n c] 39)).heap.size 42 2 v D.length (spvs D') ∧ Below (W.alloc (.cells #[.slice (some ⟨b0, off0, none⟩) n c] 39)).heap.size (W.alloc (.cells #[.slice (some ⟨b0, off0, none⟩) n c] 39)) w') := Lib.hid (fun W hW => by
    have hb2 := hW.alloc (by have := hW.size; omega) (.cells #[.slice (some ⟨b0, off0, none⟩) n c] 39)
    refine sorted_any W.heap.size b0 off0 c D _ (by omega) (by omega) (by simp) (by rw [hl]; simp) (by have := hb2.size; omega) (fun j hj => ⟨(hb2.cell (p := ⟨b0, off0 + j * 2, none⟩) hb0).trans (hI j hj).1, (hb2.cell (p := ⟨b0, off0 + j * 2 + 1, none⟩) hb0).trans (hI j hj).2⟩))
  rw [hl] at KS
  have HD := Lib.hid hD
  have HL := Lib.hid hl
  clear hI hD hl
  go_enter Try.func67, Try.ntmps67
  go_wp2_with fail
  (with_reducible refine (KV.out _).mono ?_)
  rintro e w1 ⟨rfl, rfl⟩
  have B0 : Hid (Below w.heap.size w (w.alloc (.cells #[.int .i64 0, .int .i64 0] 42))) := Lib.hid (bl_alloc _ _)
  have Z0 := Lib.hid (K2.new w 0 0 42)
  have ks1 := KS.out _ B0.out
  rw [show (w.alloc (.cells #[.int .i64 0, .int .i64 0] 42)).heap.size = w.heap.size + 1 from World.size_alloc _ _] at ks1
  have KS1 := Lib.hid ks1
  clear ks1
  have B1 := Lib.hid (B0.out.alloc (by have := B0.out.size; omega) (.cells #[.slice (some ⟨b0, off0, none⟩) n c] 39))
  have Z1 := Lib.hid (Z0.out.alloc (.cells #[.slice (some ⟨b0, off0, none⟩) n c] 39))
  clear KS KV B0 Z0
  generalize (w.alloc (.cells #[.int .i64 0, .int .i64 0] 42)).alloc (.cells #[.slice (some ⟨b0, off0, none⟩) n c] 39) = W1 at *
  go_wp2_with fail
  (with_reducible refine KS1.out.mono ?_)
  rintro e w2 ⟨v, D', rfl, hp, hs, hrow, hb2⟩
  have HP := Lib.hid hp
  have HSO := Lib.hid hs
  obtain ⟨A2, c2, rfl, ra, -, -⟩ := own_form hrow
  have HR := Lib.hid ra
  have B2 := Lib.hid (B1.out.trans (hb2.mono B1.out.size))
  have Z2 := Lib.hid (Z1.out.below hb2 Z1.out.lt)
  have HD' : Hid (OkA D') := Lib.hid (fun x hx => HD.out x (HP.out.mem_iff.1 hx))
  have HL' : Hid (D'.length = n) := Lib.hid (by rw [HP.out.length_eq, HL.out])
  clear hp hs hrow hb2 ra B1 Z1 KS1 HD HL
  obtain ⟨⟨r0, r1⟩, hRR⟩ : ∃ R, (fS D' n).1 = R := ⟨_, rfl⟩
  have HRR := Lib.hid hRR
  clear hRR
  obtain ⟨b, off, rfl, hb, x0, x1⟩ := SReads.elem HR.out h0
  obtain ⟨f0, hf0⟩ : ∃ f, (gs D' 0).2 = f := ⟨_, rfl⟩
  rw [hf0] at x1
  have HF0 : Hid (fR D' 0 = f0) := Lib.hid (by rw [← hf0]; rfl)
  clear x0 hf0
  go_wp2
  clear x1
  go_loopw [3, 20] (fun v i wr => ∃ k : Nat, k ≤ n ∧ i = .int .i64 k ∧ v = .int .i64 (fR D' k) ∧ Below w2.heap.size w2 wr) (fun _ i _ => n - (intOf i).toNat)
  case atStart => exact ⟨0, Nat.zero_le _, rfl, by rw [HF0.out], Below.refl _ _⟩
  case round =>
    obtain ⟨k, hk, rfl, rfl, hbr⟩ := hrel
    by_cases hlt : k < n
    · obtain ⟨b', off', e, hb', x0, x1⟩ := SReads.elem HR.out hlt
      cases e
      have y0 := (hbr.cell (p := ⟨b, off + k * 2, none⟩) hb).trans x0
      have y1 := (hbr.cell (p := ⟨b, off + k * 2 + 1, none⟩) hb).trans x1
      have HF := Lib.hid (fR_succ D' k (by rw [HL'.out]; exact hlt))
      obtain ⟨p, hp⟩ : ∃ p, (gs D' k).1 = p := ⟨_, rfl⟩
      obtain ⟨q, hq⟩ : ∃ q, (gs D' k).2 = q := ⟨_, rfl⟩
      rw [hp] at y0
      rw [hq] at y1 HF
      obtain ⟨R, hR⟩ : ∃ R, fR D' k = R := ⟨_, rfl⟩
      rw [hR] at HF
      rw [hR]
      clear x0 x1 hp hq hR
      go_wp2
      go_roundw
      case rel => exact ⟨k + 1, by omega, by go_num, by rw [HF.out], hbr.alloc hbr.size _⟩
      case measure => simp [intOf]; omega
    · obtain rfl : k = n := by omega
      have hfb := fR_bd HD'.out (by rw [HL'.out]; exact h0) k (by rw [HL'.out]; exact Nat.le_refl _)
      have HFS : Hid (fS D' 0 = (((-10800000 : Int), (10800000 : Int)), (0 : Int), fR D' k - 21600000)) := Lib.hid (by rw [← HL'.out]; rfl)
      obtain ⟨R, hR⟩ : ∃ R, fR D' k = R := ⟨_, rfl⟩
      rw [hR] at HFS hfb
      rw [hR]
      clear hR
      have B3 := Lib.hid (B2.out.trans (hbr.mono B2.out.size))
      have Z3 := Lib.hid (Z2.out.below hbr Z2.out.lt)
      have hz3 := hbr.size
      have HBR := Lib.hid hbr
      clear hbr
      have N3 := Lib.hid (K2.new wr (-10800000) 10800000 42)
      have Z4 := Lib.hid (Z3.out.alloc (.cells #[.int .i64 (-10800000), .int .i64 10800000] 42))
      have B4 := Lib.hid (B3.out.alloc B3.out.size (.cells #[.int .i64 (-10800000), .int .i64 10800000] 42))
      have BR4 := Lib.hid (HBR.out.alloc HBR.out.size (.cells #[.int .i64 (-10800000), .int .i64 10800000] 42))
      clear B3 Z3 HBR
      generalize hg6 : wr.heap.size = g6 at *
      go_wp2
      go_loopw [3, 7, 34] (fun v bst i wq => ∃ j : Nat, j ≤ k ∧ i = .int .i64 j ∧ v = .int .i64 (fS D' j).2.2 ∧ bst = .int .i64 (fS D' j).2.1 ∧ K2 wq w.heap.size 0 0 ∧ K2 wq g6 (fS D' j).1.1 (fS D' j).1.2 ∧ Below w.heap.size w wq ∧ Below w2.heap.size w2 wq) (fun _ _ i _ => k - (intOf i).toNat)
      case atStart => exact ⟨0, Nat.zero_le _, rfl, by rw [HFS.out], by rw [HFS.out], Z4.out, by rw [HFS.out]; exact N3.out, B4.out, BR4.out⟩
      case round =>
        obtain ⟨j, hj, rfl, rfl, rfl, hZ, hN, hbq, hbr⟩ := hrel
        clear Z4 N3 B4 BR4
        have HZ := Lib.hid hZ
        have HN := Lib.hid hN
        have HBQ := Lib.hid hbq
        clear hZ hN hbq
        by_cases hjt : j < k
        · obtain ⟨b', off', e, hb', x0, x1⟩ := SReads.elem HR.out hjt
          cases e
          have y0 := (hbr.cell (p := ⟨b, off + j * 2, none⟩) hb).trans x0
          have y1 := (hbr.cell (p := ⟨b, off + j * 2 + 1, none⟩) hb).trans x1
          have HF := Lib.hid (fS_succ D' j (by rw [HL'.out]; exact hjt))
          have hfs := fS_bd HD'.out (by rw [HL'.out]; exact h0) j (by rw [HL'.out]; omega)
          have hok := okA_gs HD'.out (k := j) (by rw [HL'.out]; exact hjt)
          obtain ⟨⟨p, q⟩, hp⟩ : ∃ p, gs D' j = p := ⟨_, rfl⟩
          rw [hp] at y0 y1 HF hok
          obtain ⟨⟨⟨s0, s1⟩, s2, s3⟩, hs⟩ : ∃ s, fS D' j = s := ⟨_, rfl⟩
          rw [hs] at HF HN hfs
          simp only [hs]
          simp only [] at y0 y1 hok HN hfs
          clear x0 x1 hp hs
          have HA := Lib.hid (K2.new wr p q 42)
          have HZ2 := Lib.hid (HZ.out.alloc (.cells #[.int .i64 p, .int .i64 q] 42))
          have HN2 := Lib.hid (HN.out.alloc (.cells #[.int .i64 p, .int .i64 q] 42))
          have HBQ2 := Lib.hid (HBQ.out.alloc HBQ.out.size (.cells #[.int .i64 p, .int .i64 q] 42))
          have HBR2 := Lib.hid (hbr.alloc hbr.size (.cells #[.int .i64 p, .int .i64 q] 42))
          obtain ⟨nt, n0, n1, nf0, nf1⟩ := HN.out
          have hgw : w.heap.size ≤ g6 := by have := B2.out.size; omega
          have hne : w.heap.size ≠ g6 := by have := Z2.out.lt; omega
          have hlt6 := HN.out.lt
          have hn1 : ¬ g6 = wr.heap.size := by omega
          have hn2 : ¬ wr.heap.size = g6 := by omega
          by_cases hgap : s2 < p - s3
          · have HF2 : Hid (fS D' (j + 1) = ((p, p + 21600000 - (p - s3)), p - s3, max s3 q)) := Lib.hid (by rw [HF.out]; unfold fS1; rw [if_pos hgap])
            clear HF
            go_wp2
            go_roundw
            case rel =>
              refine ⟨j + 1, by omega, by go_num, by rw [HF2.out], by rw [HF2.out], ((HZ.out.far hne _).far hne _).alloc _, ?_, ((HBQ.out.setCell hgw _).setCell hgw _).alloc (by have := HBQ.out.size; simp; omega) _, ((hbr.setCell hz3 _).setCell hz3 _).alloc (by have := hbr.size; simp; omega) _⟩
              rw [HF2.out]
              exact ((HN.out.set0 _).set1 _).alloc _
            case measure => simp [intOf]; omega
          · have HF2 : Hid (fS D' (j + 1) = ((s0, s1), s2, max s3 q)) := Lib.hid (by rw [HF.out]; unfold fS1; rw [if_neg hgap])
            have hgap' : p - s3 ≤ s2 := by omega
            clear HF hgap
            go_wp2
            go_roundw
            case rel => exact ⟨j + 1, by omega, by go_num, by rw [HF2.out], by rw [HF2.out], HZ2.out, by rw [HF2.out]; exact HN2.out, HBQ2.out, HBR2.out⟩
            case measure => simp [intOf]; omega
        · obtain rfl : j = k := by omega
          have hres := HRR.out
          obtain ⟨⟨⟨s0, s1⟩, s2, s3⟩, hs⟩ : ∃ s, fS D' j = s := ⟨_, rfl⟩
          rw [hs] at HN hres
          obtain ⟨rfl, rfl⟩ := Prod.mk.inj hres
          simp only [hs]
          simp only [] at HN
          obtain ⟨zt, z0, z1, zf0, zf1⟩ := HZ.out
          obtain ⟨nt, n0, n1, -, -⟩ := HN.out
          have HS := Lib.hid hs
          clear hs hres HRR
          go_wp2
          refine bodyPost_ret (v := .agg #[.int .i64 s0, .int .i64 s1]) (by simp [results, Try.results67, go_sem, *]; done) rfl ⟨D', HP.out, HSO.out, ?_, ?_⟩
          · rw [HS.out]
          · exact (HBQ.out.setCell (by simp) _).setCell (by simp) _
end Go.Proofs.Ytopfnffabaiceaa
