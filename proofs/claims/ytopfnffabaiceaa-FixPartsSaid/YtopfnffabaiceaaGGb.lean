/- The walk of place.around. -/
import Derived.Test.YtopfnffabaiceaaGWm
import Derived.Test.YtopfnffabaiceaaGAwake
set_option linter.unusedVariables false
set_option linter.unusedSimpArgs false
namespace Go.Proofs.Ytopfnffabaiceaa
open Go.RowKit
/-- two cells that are known -/
structure K2 (W : World) (g : Nat) (a b : Int) : Prop where
  lt : g < W.heap.size
  c0 : W.cell? ⟨g, 0, none⟩ = some (.int .i64 a)
  c1 : W.cell? ⟨g, 1, none⟩ = some (.int .i64 b)
  f0 : W.frozen? ⟨g, 0, none⟩ = false
  f1 : W.frozen? ⟨g, 1, none⟩ = false
section
variable {W W' : World} {g : Nat} {a b : Int}
theorem K2.below {B : Nat} (h : K2 W g a b) (hb : Below B W W') (hB : g < B) : K2 W' g a b :=
  ⟨Nat.lt_of_lt_of_le h.lt hb.size, (hb.cell (p := ⟨g, 0, none⟩) hB).trans h.c0, (hb.cell (p := ⟨g, 1, none⟩) hB).trans h.c1, (hb.frozen (p := ⟨g, 0, none⟩) hB).trans h.f0, (hb.frozen (p := ⟨g, 1, none⟩) hB).trans h.f1⟩
theorem K2.alloc (h : K2 W g a b) (o : Obj) : K2 (W.alloc o) g a b := h.below (bl_alloc W o) h.lt
theorem K2.new (W : World) (a b : Int) (t : TypeId) : K2 (W.alloc (.cells #[.int .i64 a, .int .i64 b] t)) W.heap.size a b := ⟨by simp, by simp, by simp, by simp, by simp⟩
theorem K2.far (h : K2 W g a b) {p : Addr} (hp : g ≠ p.block) (u : Value) : K2 (W.setCell p u) g a b := by
  have hne : ∀ i, p ≠ (⟨g, i, none⟩ : Addr) := fun i e => hp (by rw [e])
  refine ⟨by simpa using h.lt, ?_, ?_, ?_, ?_⟩
  · rw [World.cell?_setCell_other _ _ _ _ (hne 0)]; exact h.c0
  · rw [World.cell?_setCell_other _ _ _ _ (hne 1)]; exact h.c1
  · simpa using h.f0
  · simpa using h.f1
theorem K2.set0 (h : K2 W g a b) (v : Int) : K2 (W.setCell ⟨g, 0, none⟩ (.int .i64 v)) g v b := by
  refine ⟨by simpa using h.lt, World.cell?_setCell_same _ _ _ h.c0, ?_, by simpa using h.f0, by simpa using h.f1⟩
  rw [World.cell?_setCell_other _ _ _ _ (by simp)]
  exact h.c1
theorem K2.set1 (h : K2 W g a b) (v : Int) : K2 (W.setCell ⟨g, 1, none⟩ (.int .i64 v)) g a v := by
  refine ⟨by simpa using h.lt, ?_, World.cell?_setCell_same _ _ _ h.c1, by simpa using h.f0, by simpa using h.f1⟩
  rw [World.cell?_setCell_other _ _ _ _ (by simp)]
  exact h.c0
end
/-- the width that arcs need from a beginning on -/
def wdt (D : List Sp) (a : Int) (k : Nat) : Int := (D.take k).foldl (fun w b => max w ((b.1 - a) % 21600000 + b.2 - b.1)) 0
def OkA (D : List Sp) : Prop := ∀ x ∈ D, -10800000 ≤ x.1 ∧ x.1 ≤ 10800000 ∧ x.1 ≤ x.2 ∧ x.2 ≤ x.1 + 21600000
theorem wdt_succ (D : List Sp) (a : Int) (k : Nat) (hk : k < D.length) : wdt D a (k + 1) = max (wdt D a k) (((gs D k).1 - a) % 21600000 + (gs D k).2 - (gs D k).1) := by
  unfold wdt
  rw [List.take_succ_eq_append_getElem hk, List.foldl_append]
  simp [gs, hk]
theorem wdt_bd (D : List Sp) (a : Int) (hD : OkA D) (k : Nat) (hk : k ≤ D.length) : 0 ≤ wdt D a k ∧ wdt D a k < 43200000 := by
  induction k with
  | zero => simp [wdt]
  | succ k ih =>
    have h := ih (by omega)
    rw [wdt_succ D a k (by omega)]
    have := hD (gs D k) (by have : k < D.length := by omega
                            simp [gs, this])
    omega
def isAll (x : Sp) : Bool := aeq x.1 x.2 (-10800000) 10800000
/-- the best arc and its width, one arc more looked at -/
def stepA (D : List Sp) (s : Sp × Int) (a : Sp) : Sp × Int := if wdt D a.1 D.length < s.2 ∨ (wdt D a.1 D.length = s.2 ∧ wdt D a.1 D.length < 21600000 ∧ a.1 < s.1.1) then ((a.1, a.1 + wdt D a.1 D.length), wdt D a.1 D.length) else s
def foldA (D : List Sp) (k : Nat) : Sp × Int := (D.take k).foldl (stepA D) (((-10800000 : Int), (10800000 : Int)), (21600000 : Int))
/-- what place.around returns -/
def arnd (D : List Sp) : Sp := (foldA D (D.findIdx isAll)).1
theorem foldA_succ (D : List Sp) (k : Nat) (hk : k < D.length) : foldA D (k + 1) = stepA D (foldA D k) (gs D k) := by
  unfold foldA
  rw [List.take_succ_eq_append_getElem hk, List.foldl_append]
  simp [gs, hk]
theorem foldA_bd (D : List Sp) (hD : OkA D) (k : Nat) (hk : k ≤ D.length) : -10800000 ≤ (foldA D k).1.1 ∧ (foldA D k).1.1 ≤ 10800000 ∧ 0 ≤ (foldA D k).2 ∧ (foldA D k).2 ≤ 21600000 := by
  induction k with
  | zero => simp [foldA]
  | succ k ih =>
    have h := ih (by omega)
    rw [foldA_succ D k (by omega)]
    have h1 := hD (gs D k) (by have : k < D.length := by omega
                               simp [gs, this])
    have h2 := wdt_bd D (gs D k).1 hD D.length (Nat.le_refl _)
    unfold stepA
    split
    · simp only []
      omega
    · exact h
set_option maxHeartbeats 4000000 in
set_option maxRecDepth 100000 in
theorem around_any (A : Option Addr) (n c : Nat) (D : List Sp) (w : World) (hr : Reads w w.heap.size 2 A n (spvs D)) (hn : n ≤ 100000) (hD : OkA D) :
    Calls Try.prog 71 #[.slice A n c] w fun e w' => e = .returned (.agg #[.int .i64 (arnd D).1, .int .i64 (arnd D).2]) ∧ Below w.heap.size w w' := by
  have HL : Hid (D.length = n) := Lib.hid (by have := hr.1; rw [spvs_length] at this; omega)
  have HR := Lib.hid hr
  have HD := Lib.hid hD
  have KE := Lib.hid everywhere_any
  have KA := Lib.hid all_any
  obtain ⟨⟨r0, r1⟩, hR⟩ : ∃ R, R = arnd D := ⟨_, rfl⟩
  rw [← hR]
  have HRR := Lib.hid hR
  clear hr hD hR
  go_enter Try.func71, Try.ntmps71
  go_wp2_with fail
  (with_reducible refine (KE.out _).mono ?_)
  rintro e w1 ⟨rfl, hb1⟩
  have Z1 := Lib.hid ((K2.new w 0 0 42).below hb1 (by simp))
  have B1 := Lib.hid ((((Below.refl w.heap.size w).alloc (Nat.le_refl _) (.cells #[.int .i64 0, .int .i64 0] 42)).trans (hb1.mono (by simp))))
  have hlt1 := (Z1.out).lt
  have N1 := Lib.hid (K2.new w1 (-10800000) 10800000 42)
  have Z2 := Lib.hid (Z1.out.alloc (.cells #[.int .i64 (-10800000), .int .i64 10800000] 42))
  have B2 := Lib.hid (B1.out.alloc (by have := B1.out.size; omega) (.cells #[.int .i64 (-10800000), .int .i64 10800000] 42))
  clear Z1 B1 hb1 KE
  go_wp2
  go_loopw [4, 13] (fun v i wr => ∃ k : Nat, k ≤ n ∧ i = .int .i64 k ∧ v = .int .i64 (foldA D k).2 ∧ (∀ j, j < k → isAll (gs D j) = false) ∧ K2 wr w.heap.size 0 0 ∧ K2 wr w1.heap.size (foldA D k).1.1 (foldA D k).1.2 ∧ Below w.heap.size w wr) (fun _ i _ => n - (intOf i).toNat)
  case atStart => exact ⟨0, Nat.zero_le _, rfl, rfl, fun j hj => by omega, Z2.out, N1.out, B2.out⟩
  case round =>
    obtain ⟨k, hk, rfl, rfl, hno, hZ, hN, hbr⟩ := hrel
    clear Z2 N1 B2
    have HZ := Lib.hid hZ
    have HN := Lib.hid hN
    have HNO := Lib.hid hno
    clear hZ hN hno
    by_cases hlt : k < n
    · obtain ⟨b, off, rfl, hb, x0, x1⟩ := SReads.elem HR.out hlt
      have y0 := (hbr.cell (p := ⟨b, off + k * 2, none⟩) hb).trans x0
      have y1 := (hbr.cell (p := ⟨b, off + k * 2 + 1, none⟩) hb).trans x1
      clear x0 x1
      have hdk := HD.out (gs D k) (by have hkl : k < D.length := by rw [HL.out]; exact hlt
                                      simp [gs, hkl])
      have HF := Lib.hid (foldA_succ D k (by rw [HL.out]; exact hlt))
      have HFB := Lib.hid (foldA_bd D HD.out k (by rw [HL.out]; omega))
      obtain ⟨x, hx⟩ : ∃ x, x = gs D k := ⟨_, rfl⟩
      rw [← hx] at y0 y1 hdk HF
      have HX := Lib.hid hx
      clear hx
      obtain ⟨p, q⟩ := x
      simp only [] at y0 y1 hdk HF
      obtain ⟨⟨⟨s0, s1⟩, s2⟩, hs⟩ : ∃ s, s = foldA D k := ⟨_, rfl⟩
      rw [← hs] at HF HN HFB
      simp only [← hs]
      have HS := Lib.hid hs
      clear hs
      simp only [] at HF HN HFB
      have hz := hbr.size
      go_wp2_with fail
      (with_reducible refine (KA.out p q _).mono ?_)
      rintro e w2 ⟨rfl, hb2⟩
      have HA2 := Lib.hid ((K2.new wr p q 42).below hb2 (by simp))
      have HZ2 := Lib.hid ((HZ.out.alloc (.cells #[.int .i64 p, .int .i64 q] 42)).below hb2 (by have := HZ.out.lt; simp; omega))
      have HN2 := Lib.hid ((HN.out.alloc (.cells #[.int .i64 p, .int .i64 q] 42)).below hb2 (by have := HN.out.lt; simp; omega))
      have b2 := (hbr.alloc hz (.cells #[.int .i64 p, .int .i64 q] 42)).trans (hb2.mono (by simp; omega))
      have ln := HN.out.lt
      have lz := HZ.out.lt
      clear hb2 HZ HN hbr y0 y1
      generalize wr.heap.size = g6 at *
      cases hall : aeq p q (-10800000) 10800000 with
      | true =>
        have hfi : D.findIdx isAll = k := by
          have hkl : k < D.length := by rw [HL.out]; exact hlt
          rw [List.findIdx_eq hkl]
          refine ⟨?_, fun j hj => ?_⟩
          · have : D[k] = gs D k := by simp [gs, hkl]
            rw [this, ← HX.out]
            exact hall
          · have hjl : j < D.length := by omega
            have : D[j] = gs D j := by simp [gs, hjl]
            rw [this]
            exact HNO.out j hj
        have hres : arnd D = (s0, s1) := by unfold arnd; rw [hfi, ← HS.out]
        obtain ⟨rfl, rfl⟩ := Prod.mk.inj (HRR.out.trans hres)
        obtain ⟨zt, z0, z1, zf0, zf1⟩ := HZ2.out
        obtain ⟨nt, n0, n1, -, -⟩ := HN2.out
        go_wp2
        refine bodyPost_ret (v := .agg #[.int .i64 r0, .int .i64 r1]) (by simp [results, Try.results71, go_sem, *]; done) rfl ⟨rfl, ?_⟩
        exact (b2.setCell (by simp) _).setCell (by simp) _
      | false =>
        have HNO2 : Hid (∀ j, j < k + 1 → isAll (gs D j) = false) := Lib.hid (fun j hj => by
          by_cases hjk : j < k
          · exact HNO.out j hjk
          · obtain rfl : j = k := by omega
            rw [← HX.out]
            exact hall)
        go_wp2
        go_loopw [7, 22] (fun v i wq => ∃ j : Nat, j ≤ n ∧ i = .int .i64 j ∧ v = .int .i64 (wdt D p j) ∧ K2 wq w.heap.size 0 0 ∧ K2 wq w1.heap.size s0 s1 ∧ K2 wq g6 p q ∧ Below w.heap.size w wq) (fun _ i _ => n - (intOf i).toNat)
        case atStart => exact ⟨0, Nat.zero_le _, rfl, rfl, HZ2.out, HN2.out, HA2.out, b2⟩
        case round =>
          obtain ⟨j, hj, rfl, rfl, hZ, hN, hA, hbq⟩ := hrel
          clear HZ2 HN2 HA2 b2
          have HZ := Lib.hid hZ
          have HN := Lib.hid hN
          have HA := Lib.hid hA
          clear hZ hN hA
          by_cases hjt : j < n
          · obtain ⟨b', off', e, hb', x0, x1⟩ := SReads.elem HR.out hjt
            cases e
            have y0 := (hbq.cell (p := ⟨b, off + j * 2, none⟩) hb).trans x0
            have y1 := (hbq.cell (p := ⟨b, off + j * 2 + 1, none⟩) hb).trans x1
            clear x0 x1
            have hdj := HD.out (gs D j) (by have hkl : j < D.length := by rw [HL.out]; exact hjt
                                            simp [gs, hkl])
            have HW := Lib.hid (wdt_succ D p j (by rw [HL.out]; exact hjt))
            have HWB := wdt_bd D p HD.out j (by rw [HL.out]; omega)
            generalize gs D j = x at y0 y1 hdj HW
            obtain ⟨u, v⟩ := x
            simp only [] at y0 y1 hdj HW
            have KB := Lib.hid (fun W => beyond_any p q u W (by omega) (by omega) (by omega) (by omega))
            have hm : 0 ≤ (u - p) % 21600000 ∧ (u - p) % 21600000 < 21600000 := by omega
            generalize (u - p) % 21600000 = m at *
            generalize wdt D p j = t at *
            have n1 : wrap64 (m + v) = m + v := IntWalk.wrap64_in _ (by omega)
            have n2 : wrap64 (m + v - u) = m + v - u := IntWalk.wrap64_in _ (by omega)
            have hz2 := hbq.size
            go_upto_region 12 with (fail)
            obtain ⟨WW, hWW⟩ : ∃ W, W = wr.alloc (.cells #[.int .i64 u, .int .i64 v] 42) := ⟨_, rfl⟩
            have HU := K2.new wr u v 42
            have HA3 := HA.out.alloc (.cells #[.int .i64 u, .int .i64 v] 42)
            have HZ3 := Lib.hid (HZ.out.alloc (.cells #[.int .i64 u, .int .i64 v] 42))
            have HN3 := Lib.hid (HN.out.alloc (.cells #[.int .i64 u, .int .i64 v] 42))
            have b3 := hbq.alloc hz2 (.cells #[.int .i64 u, .int .i64 v] 42)
            rw [← hWW] at HU HA3 HZ3 HN3 b3 ⊢
            have c0 : ∀ s : BV WW, s.w.cell? ⟨g6, 0, none⟩ = some (.int .i64 p) := fun s => (HA3.below s.hb HA3.lt).c0
            have c1 : ∀ s : BV WW, s.w.cell? ⟨g6, 1, none⟩ = some (.int .i64 q) := fun s => (HA3.below s.hb HA3.lt).c1
            have c2 : ∀ s : BV WW, s.w.cell? ⟨wr.heap.size, 0, none⟩ = some (.int .i64 u) := fun s => (HU.below s.hb HU.lt).c0
            have c3 : ∀ s : BV WW, s.w.cell? ⟨wr.heap.size, 1, none⟩ = some (.int .i64 v) := fun s => (HU.below s.hb HU.lt).c1
            have HA4 := Lib.hid HA3
            clear HU HA3 hWW y0 y1 HA HZ HN hbq
            refine wp_region_bv WW (by kernel_rfl) (by kernel_rfl) (Below.refl _ _) ?_
            (repeat (go_big_quiet_step (first | (go_at_call 100; with_reducible exact quiet_bv (KB.out _)) | fail)))
            refine wpQuiet_nil ?_
            intro w9 hb9
            clear c0 c1 c2 c3
            go_wp2
            go_roundw
            case rel => exact ⟨j + 1, by omega, by go_num, by rw [HW.out], HZ3.out.below hb9 HZ3.out.lt, HN3.out.below hb9 HN3.out.lt, HA4.out.below hb9 HA4.out.lt, b3.trans (hb9.mono b3.size)⟩
            case measure => simp [intOf]; omega
          · obtain rfl : j = n := by omega
            have hwb := wdt_bd D p HD.out j (by rw [HL.out]; exact Nat.le_refl _)
            have HF2 : Hid (foldA D (k + 1) = if wdt D p j < s2 ∨ (wdt D p j = s2 ∧ wdt D p j < 21600000 ∧ p < s0) then ((p, p + wdt D p j), wdt D p j) else ((s0, s1), s2)) := Lib.hid (by rw [HF.out]; unfold stepA; rw [HL.out])
            generalize wdt D p j = t at *
            have hfb := HFB.out
            have n3 : wrap64 (p + t) = p + t := IntWalk.wrap64_in _ (by omega)
            have hzq := hbq.size
            obtain ⟨nt, e0, e1, ef0, ef1⟩ := HN.out
            obtain ⟨gt1, a0, a1, -, -⟩ := HA.out
            by_cases hc : t < s2 ∨ (t = s2 ∧ t < 21600000 ∧ p < s0)
            · rw [if_pos hc] at HF2
              rcases hc with c1 | ⟨c1, c2, c3⟩
              · go_wp2
                go_roundw
                case rel => exact ⟨k + 1, by omega, by go_num, by rw [HF2.out], HNO2.out, (HZ.out.far (by simp only []; omega) _).far (by simp only []; omega) _, by rw [HF2.out]; exact (HN.out.set0 p).set1 (p + t), (hbq.setCell (by simp only []; omega) _).setCell (by simp only []; omega) _⟩
                case measure => simp [intOf]; omega
              · subst c1
                go_wp2
                go_roundw
                case rel => exact ⟨k + 1, by omega, by go_num, by rw [HF2.out], HNO2.out, (HZ.out.far (by simp only []; omega) _).far (by simp only []; omega) _, by rw [HF2.out]; exact (HN.out.set0 p).set1 (p + t), (hbq.setCell (by simp only []; omega) _).setCell (by simp only []; omega) _⟩
                case measure => simp [intOf]; omega
            · rw [if_neg hc] at HF2
              have c1 : ¬ t < s2 := fun h => hc (.inl h)
              by_cases c2 : t = s2
              · subst c2
                by_cases c3 : t < 21600000
                · have c4 : ¬ p < s0 := fun h => hc (.inr ⟨rfl, c3, h⟩)
                  clear hc
                  go_wp2
                  go_roundw
                  case rel => exact ⟨k + 1, by omega, by go_num, by rw [HF2.out], HNO2.out, HZ.out, by rw [HF2.out]; exact HN.out, hbq⟩
                  case measure => simp [intOf]; omega
                · clear hc
                  go_wp2
                  go_roundw
                  case rel => exact ⟨k + 1, by omega, by go_num, by rw [HF2.out], HNO2.out, HZ.out, by rw [HF2.out]; exact HN.out, hbq⟩
                  case measure => simp [intOf]; omega
              · clear hc
                go_wp2
                go_roundw
                case rel => exact ⟨k + 1, by omega, by go_num, by rw [HF2.out], HNO2.out, HZ.out, by rw [HF2.out]; exact HN.out, hbq⟩
                case measure => simp [intOf]; omega
    · obtain rfl : k = n := by omega
      have hres : arnd D = (foldA D k).1 := by
        unfold arnd
        rw [List.findIdx_eq_length.2 (fun x hx => ?_), HL.out]
        obtain ⟨j, hj, rfl⟩ := List.getElem_of_mem hx
        have : D[j] = gs D j := by simp [gs, hj]
        rw [this]
        exact HNO.out j (by rw [← HL.out]; exact hj)
      have hres2 := HRR.out.trans hres
      generalize foldA D k = s at *
      obtain ⟨⟨s0, s1⟩, s2⟩ := s
      simp only [] at HN hres2
      obtain ⟨rfl, rfl⟩ := Prod.mk.inj hres2
      obtain ⟨zt, z0, z1, zf0, zf1⟩ := HZ.out
      obtain ⟨nt, n0, n1, -, -⟩ := HN.out
      go_wp2
      refine bodyPost_ret (v := .agg #[.int .i64 r0, .int .i64 r1]) (by simp [results, Try.results71, go_sem, *]; done) rfl ⟨rfl, ?_⟩
      exact (hbr.setCell (by simp) _).setCell (by simp) _
end Go.Proofs.Ytopfnffabaiceaa
