/- Lists of boxes; the walk of fix.boxes. -/
import Derived.LoopN
import Derived.Test.YtleigbbgilcckaaGreatHWm
import Derived.Test.YtleigbbgilcckaaGreatHJe
import Derived.Test.YtleigbbgilcckaaGreatHJb
import Derived.Test.YtleigbbgilcckaaGreatHShelfT
import Derived.Test.YtleigbbgilcckaaGreatHJc
set_option linter.unusedVariables false
set_option linter.unusedSimpArgs false
namespace Go.Proofs.YtleigbbgilcckaaGreat
open Go.RowKit
/-- two cells that are known -/
structure K2 (W : World) (g : Nat) (a b : Int) : Prop where
  lt : g < W.heap.size
  c0 : W.cell? ⟨g, 0, none⟩ = some (.int .i64 a)
  c1 : W.cell? ⟨g, 1, none⟩ = some (.int .i64 b)
  f0 : W.frozen? ⟨g, 0, none⟩ = false
  f1 : W.frozen? ⟨g, 1, none⟩ = false
section
variable {W W' : World} {g : Nat} {a b : Int}
theorem K2.below {B : Nat} (h : K2 W g a b) (hb : Below B W W') (hB : g < B) : K2 W' g a b :=
  ⟨Nat.lt_of_lt_of_le h.lt hb.size, (hb.cell (p := ⟨g, 0, none⟩) hB).trans h.c0, (hb.cell (p := ⟨g, 1, none⟩) hB).trans h.c1, (hb.frozen (p := ⟨g, 0, none⟩) hB).trans h.f0, (hb.frozen (p := ⟨g, 1, none⟩) hB).trans h.f1⟩
theorem K2.alloc (h : K2 W g a b) (o : Obj) : K2 (W.alloc o) g a b := h.below (bl_alloc W o) h.lt
theorem K2.new (W : World) (a b : Int) (t : TypeId) : K2 (W.alloc (.cells #[.int .i64 a, .int .i64 b] t)) W.heap.size a b := ⟨by simp, by simp, by simp, by simp, by simp⟩
theorem K2.far (h : K2 W g a b) {p : Addr} (hp : g ≠ p.block) (u : Value) : K2 (W.setCell p u) g a b := by
  have hne : ∀ i, p ≠ (⟨g, i, none⟩ : Addr) := fun i e => hp (by rw [e])
  refine ⟨by simpa using h.lt, ?_, ?_, ?_, ?_⟩
  · rw [World.cell?_setCell_other _ _ _ _ (hne 0)]; exact h.c0
  · rw [World.cell?_setCell_other _ _ _ _ (hne 1)]; exact h.c1
  · simpa using h.f0
  · simpa using h.f1
theorem K2.set0 (h : K2 W g a b) (v : Int) : K2 (W.setCell ⟨g, 0, none⟩ (.int .i64 v)) g v b := by
  refine ⟨by simpa using h.lt, World.cell?_setCell_same _ _ _ h.c0, ?_, by simpa using h.f0, by simpa using h.f1⟩
  rw [World.cell?_setCell_other _ _ _ _ (by simp)]
  exact h.c1
theorem K2.set1 (h : K2 W g a b) (v : Int) : K2 (W.setCell ⟨g, 1, none⟩ (.int .i64 v)) g a v := by
  refine ⟨by simpa using h.lt, ?_, World.cell?_setCell_same _ _ _ h.c1, by simpa using h.f0, by simpa using h.f1⟩
  rw [World.cell?_setCell_other _ _ _ _ (by simp)]
  exact h.c0
end
/-- the width that arcs need from a beginning on -/
def wdt (D : List Sp) (a : Int) (k : Nat) : Int := (D.take k).foldl (fun w b => max w ((b.1 - a) % 21600000 + b.2 - b.1)) 0
def OkA (D : List Sp) : Prop := ∀ x ∈ D, -10800000 ≤ x.1 ∧ x.1 ≤ 10800000 ∧ x.1 ≤ x.2 ∧ x.2 ≤ x.1 + 21600000
theorem wdt_succ (D : List Sp) (a : Int) (k : Nat) (hk : k < D.length) : wdt D a (k + 1) = max (wdt D a k) (((gs D k).1 - a) % 21600000 + (gs D k).2 - (gs D k).1) := by
  unfold wdt
  rw [List.take_succ_eq_append_getElem hk, List.foldl_append]
  simp [gs, hk]
theorem wdt_bd (D : List Sp) (a : Int) (hD : OkA D) (k : Nat) (hk : k ≤ D.length) : 0 ≤ wdt D a k ∧ wdt D a k < 43200000 := by
  induction k with
  | zero => simp [wdt]
  | succ k ih =>
    have h := ih (by omega)
    rw [wdt_succ D a k (by omega)]
    have := hD (gs D k) (by have : k < D.length := by omega
                            simp [gs, this])
    omega
def isAll (x : Sp) : Bool := aeq x.1 x.2 (-10800000) 10800000
/-- the best arc and its width, one arc more looked at -/
def stepA (D : List Sp) (s : Sp × Int) (a : Sp) : Sp × Int := if wdt D a.1 D.length < s.2 ∨ (wdt D a.1 D.length = s.2 ∧ wdt D a.1 D.length < 21600000 ∧ a.1 < s.1.1) then ((a.1, a.1 + wdt D a.1 D.length), wdt D a.1 D.length) else s
def foldA (D : List Sp) (k : Nat) : Sp × Int := (D.take k).foldl (stepA D) (((-10800000 : Int), (10800000 : Int)), (21600000 : Int))
/-- what place.around returns -/
def arnd (D : List Sp) : Sp := (foldA D (D.findIdx isAll)).1
theorem foldA_succ (D : List Sp) (k : Nat) (hk : k < D.length) : foldA D (k + 1) = stepA D (foldA D k) (gs D k) := by
  unfold foldA
  rw [List.take_succ_eq_append_getElem hk, List.foldl_append]
  simp [gs, hk]
theorem foldA_bd (D : List Sp) (hD : OkA D) (k : Nat) (hk : k ≤ D.length) : -10800000 ≤ (foldA D k).1.1 ∧ (foldA D k).1.1 ≤ 10800000 ∧ 0 ≤ (foldA D k).2 ∧ (foldA D k).2 ≤ 21600000 := by
  induction k with
  | zero => simp [foldA]
  | succ k ih =>
    have h := ih (by omega)
    rw [foldA_succ D k (by omega)]
    have h1 := hD (gs D k) (by have : k < D.length := by omega
                               simp [gs, this])
    have h2 := wdt_bd D (gs D k).1 hD D.length (Nat.le_refl _)
    unfold stepA
    split
    · simp only []
      omega
    · exact h
set_option maxHeartbeats 4000000 in
set_option maxRecDepth 100000 in
theorem fixArnd_any (A : Option Addr) (n c : Nat) (D : List Sp) (w : World) (hr : Reads w w.heap.size 2 A n (spvs D)) (hn : n ≤ 100000) (hD : OkA D) :
    Calls Tryz.prog 160 #[.slice A n c] w fun e w' => e = .returned (.agg #[.int .i64 (arnd D).1, .int .i64 (arnd D).2]) ∧ Below w.heap.size w w' := by
  have HL : Hid (D.length = n) := Lib.hid (by have := hr.1; rw [spvs_length] at this; omega)
  have HR := Lib.hid hr
  have HD := Lib.hid hD
  have KE := Lib.hid everywhere_any
  have KA := Lib.hid all_any
  obtain ⟨⟨r0, r1⟩, hR⟩ : ∃ R, R = arnd D := ⟨_, rfl⟩
  rw [← hR]
  have HRR := Lib.hid hR
  clear hr hD hR
  go_enter Tryz.func160, Tryz.ntmps160
  go_wp2_with fail
  (with_reducible refine (KE.out _).mono ?_)
  rintro e w1 ⟨rfl, hb1⟩
  have Z1 := Lib.hid ((K2.new w 0 0 26).below hb1 (by simp))
  have B1 := Lib.hid ((((Below.refl w.heap.size w).alloc (Nat.le_refl _) (.cells #[.int .i64 0, .int .i64 0] 26)).trans (hb1.mono (by simp))))
  have hlt1 := (Z1.out).lt
  have N1 := Lib.hid (K2.new w1 (-10800000) 10800000 26)
  have Z2 := Lib.hid (Z1.out.alloc (.cells #[.int .i64 (-10800000), .int .i64 10800000] 26))
  have B2 := Lib.hid (B1.out.alloc (by have := B1.out.size; omega) (.cells #[.int .i64 (-10800000), .int .i64 10800000] 26))
  clear Z1 B1 hb1 KE
  go_wp2
  go_loopw [4, 13] (fun v i wr => ∃ k : Nat, k ≤ n ∧ i = .int .i64 k ∧ v = .int .i64 (foldA D k).2 ∧ (∀ j, j < k → isAll (gs D j) = false) ∧ K2 wr w.heap.size 0 0 ∧ K2 wr w1.heap.size (foldA D k).1.1 (foldA D k).1.2 ∧ Below w.heap.size w wr) (fun _ i _ => n - (intOf i).toNat)
  case atStart => exact ⟨0, Nat.zero_le _, rfl, rfl, fun j hj => by omega, Z2.out, N1.out, B2.out⟩
  case round =>
    obtain ⟨k, hk, rfl, rfl, hno, hZ, hN, hbr⟩ := hrel
    clear Z2 N1 B2
    have HZ := Lib.hid hZ
    have HN := Lib.hid hN
    have HNO := Lib.hid hno
    clear hZ hN hno
    by_cases hlt : k < n
    · obtain ⟨b, off, rfl, hb, x0, x1⟩ := SReads.elem HR.out hlt
      have y0 := (hbr.cell (p := ⟨b, off + k * 2, none⟩) hb).trans x0
      have y1 := (hbr.cell (p := ⟨b, off + k * 2 + 1, none⟩) hb).trans x1
      clear x0 x1
      have hdk := HD.out (gs D k) (by have hkl : k < D.length := by rw [HL.out]; exact hlt
                                      simp [gs, hkl])
      have HF := Lib.hid (foldA_succ D k (by rw [HL.out]; exact hlt))
      have HFB := Lib.hid (foldA_bd D HD.out k (by rw [HL.out]; omega))
      obtain ⟨x, hx⟩ : ∃ x, x = gs D k := ⟨_, rfl⟩
      rw [← hx] at y0 y1 hdk HF
      have HX := Lib.hid hx
      clear hx
      obtain ⟨p, q⟩ := x
      simp only [] at y0 y1 hdk HF
      obtain ⟨⟨⟨s0, s1⟩, s2⟩, hs⟩ : ∃ s, s = foldA D k := ⟨_, rfl⟩
      rw [← hs] at HF HN HFB
      simp only [← hs]
      have HS := Lib.hid hs
      clear hs
      simp only [] at HF HN HFB
      have hz := hbr.size
      go_wp2_with fail
      (with_reducible refine (KA.out p q _).mono ?_)
      rintro e w2 ⟨rfl, hb2⟩
      have HA2 := Lib.hid ((K2.new wr p q 26).below hb2 (by simp))
      have HZ2 := Lib.hid ((HZ.out.alloc (.cells #[.int .i64 p, .int .i64 q] 26)).below hb2 (by have := HZ.out.lt; simp; omega))
      have HN2 := Lib.hid ((HN.out.alloc (.cells #[.int .i64 p, .int .i64 q] 26)).below hb2 (by have := HN.out.lt; simp; omega))
      have b2 := (hbr.alloc hz (.cells #[.int .i64 p, .int .i64 q] 26)).trans (hb2.mono (by simp; omega))
      have ln := HN.out.lt
      have lz := HZ.out.lt
      clear hb2 HZ HN hbr y0 y1
      generalize wr.heap.size = g6 at *
      cases hall : aeq p q (-10800000) 10800000 with
      | true =>
        have hfi : D.findIdx isAll = k := by
          have hkl : k < D.length := by rw [HL.out]; exact hlt
          rw [List.findIdx_eq hkl]
          refine ⟨?_, fun j hj => ?_⟩
          · have : D[k] = gs D k := by simp [gs, hkl]
            rw [this, ← HX.out]
            exact hall
          · have hjl : j < D.length := by omega
            have : D[j] = gs D j := by simp [gs, hjl]
            rw [this]
            exact HNO.out j hj
        have hres : arnd D = (s0, s1) := by unfold arnd; rw [hfi, ← HS.out]
        obtain ⟨rfl, rfl⟩ := Prod.mk.inj (HRR.out.trans hres)
        obtain ⟨zt, z0, z1, zf0, zf1⟩ := HZ2.out
        obtain ⟨nt, n0, n1, -, -⟩ := HN2.out
        go_wp2
        refine bodyPost_ret (v := .agg #[.int .i64 r0, .int .i64 r1]) (by simp [results, Tryz.results160, go_sem, *]; done) rfl ⟨rfl, ?_⟩
        exact (b2.setCell (by simp) _).setCell (by simp) _
      | false =>
        have HNO2 : Hid (∀ j, j < k + 1 → isAll (gs D j) = false) := Lib.hid (fun j hj => by
          by_cases hjk : j < k
          · exact HNO.out j hjk
          · obtain rfl : j = k := by omega
            rw [← HX.out]
            exact hall)
        go_wp2
        go_loopw [7, 22] (fun v i wq => ∃ j : Nat, j ≤ n ∧ i = .int .i64 j ∧ v = .int .i64 (wdt D p j) ∧ K2 wq w.heap.size 0 0 ∧ K2 wq w1.heap.size s0 s1 ∧ K2 wq g6 p q ∧ Below w.heap.size w wq) (fun _ i _ => n - (intOf i).toNat)
        case atStart => exact ⟨0, Nat.zero_le _, rfl, rfl, HZ2.out, HN2.out, HA2.out, b2⟩
        case round =>
          obtain ⟨j, hj, rfl, rfl, hZ, hN, hA, hbq⟩ := hrel
          clear HZ2 HN2 HA2 b2
          have HZ := Lib.hid hZ
          have HN := Lib.hid hN
          have HA := Lib.hid hA
          clear hZ hN hA
          by_cases hjt : j < n
          · obtain ⟨b', off', e, hb', x0, x1⟩ := SReads.elem HR.out hjt
            cases e
            have y0 := (hbq.cell (p := ⟨b, off + j * 2, none⟩) hb).trans x0
            have y1 := (hbq.cell (p := ⟨b, off + j * 2 + 1, none⟩) hb).trans x1
            clear x0 x1
            have hdj := HD.out (gs D j) (by have hkl : j < D.length := by rw [HL.out]; exact hjt
                                            simp [gs, hkl])
            have HW := Lib.hid (wdt_succ D p j (by rw [HL.out]; exact hjt))
            have HWB := wdt_bd D p HD.out j (by rw [HL.out]; omega)
            generalize gs D j = x at y0 y1 hdj HW
            obtain ⟨u, v⟩ := x
            simp only [] at y0 y1 hdj HW
            have KB := Lib.hid (fun W => beyond_any p q u W (by omega) (by omega) (by omega) (by omega))
            have hm : 0 ≤ (u - p) % 21600000 ∧ (u - p) % 21600000 < 21600000 := by omega
            generalize (u - p) % 21600000 = m at *
            generalize wdt D p j = t at *
            have n1 : wrap64 (m + v) = m + v := IntWalk.wrap64_in _ (by omega)
            have n2 : wrap64 (m + v - u) = m + v - u := IntWalk.wrap64_in _ (by omega)
            have hz2 := hbq.size
            go_upto_region 12 with (fail)
            obtain ⟨WW, hWW⟩ : ∃ W, W = wr.alloc (.cells #[.int .i64 u, .int .i64 v] 26) := ⟨_, rfl⟩
            have HU := K2.new wr u v 26
            have HA3 := HA.out.alloc (.cells #[.int .i64 u, .int .i64 v] 26)
            have HZ3 := Lib.hid (HZ.out.alloc (.cells #[.int .i64 u, .int .i64 v] 26))
            have HN3 := Lib.hid (HN.out.alloc (.cells #[.int .i64 u, .int .i64 v] 26))
            have b3 := hbq.alloc hz2 (.cells #[.int .i64 u, .int .i64 v] 26)
            rw [← hWW] at HU HA3 HZ3 HN3 b3 ⊢
            have c0 : ∀ s : BV WW, s.w.cell? ⟨g6, 0, none⟩ = some (.int .i64 p) := fun s => (HA3.below s.hb HA3.lt).c0
            have c1 : ∀ s : BV WW, s.w.cell? ⟨g6, 1, none⟩ = some (.int .i64 q) := fun s => (HA3.below s.hb HA3.lt).c1
            have c2 : ∀ s : BV WW, s.w.cell? ⟨wr.heap.size, 0, none⟩ = some (.int .i64 u) := fun s => (HU.below s.hb HU.lt).c0
            have c3 : ∀ s : BV WW, s.w.cell? ⟨wr.heap.size, 1, none⟩ = some (.int .i64 v) := fun s => (HU.below s.hb HU.lt).c1
            have HA4 := Lib.hid HA3
            clear HU HA3 hWW y0 y1 HA HZ HN hbq
            refine wp_region_bv WW (by kernel_rfl) (by kernel_rfl) (Below.refl _ _) ?_
            (repeat (go_big_quiet_step (first | (go_at_call 99; with_reducible exact quiet_bv (KB.out _)) | fail)))
            refine wpQuiet_nil ?_
            intro w9 hb9
            clear c0 c1 c2 c3
            go_wp2
            go_roundw
            case rel => exact ⟨j + 1, by omega, by go_num, by rw [HW.out], HZ3.out.below hb9 HZ3.out.lt, HN3.out.below hb9 HN3.out.lt, HA4.out.below hb9 HA4.out.lt, b3.trans (hb9.mono b3.size)⟩
            case measure => simp [intOf]; omega
          · obtain rfl : j = n := by omega
            have hwb := wdt_bd D p HD.out j (by rw [HL.out]; exact Nat.le_refl _)
            have HF2 : Hid (foldA D (k + 1) = if wdt D p j < s2 ∨ (wdt D p j = s2 ∧ wdt D p j < 21600000 ∧ p < s0) then ((p, p + wdt D p j), wdt D p j) else ((s0, s1), s2)) := Lib.hid (by rw [HF.out]; unfold stepA; rw [HL.out])
            generalize wdt D p j = t at *
            have hfb := HFB.out
            have n3 : wrap64 (p + t) = p + t := IntWalk.wrap64_in _ (by omega)
            have hzq := hbq.size
            obtain ⟨nt, e0, e1, ef0, ef1⟩ := HN.out
            obtain ⟨gt1, a0, a1, -, -⟩ := HA.out
            by_cases hc : t < s2 ∨ (t = s2 ∧ t < 21600000 ∧ p < s0)
            · rw [if_pos hc] at HF2
              rcases hc with c1 | ⟨c1, c2, c3⟩
              · go_wp2
                go_roundw
                case rel => exact ⟨k + 1, by omega, by go_num, by rw [HF2.out], HNO2.out, (HZ.out.far (by simp only []; omega) _).far (by simp only []; omega) _, by rw [HF2.out]; exact (HN.out.set0 p).set1 (p + t), (hbq.setCell (by simp only []; omega) _).setCell (by simp only []; omega) _⟩
                case measure => simp [intOf]; omega
              · subst c1
                go_wp2
                go_roundw
                case rel => exact ⟨k + 1, by omega, by go_num, by rw [HF2.out], HNO2.out, (HZ.out.far (by simp only []; omega) _).far (by simp only []; omega) _, by rw [HF2.out]; exact (HN.out.set0 p).set1 (p + t), (hbq.setCell (by simp only []; omega) _).setCell (by simp only []; omega) _⟩
                case measure => simp [intOf]; omega
            · rw [if_neg hc] at HF2
              have c1 : ¬ t < s2 := fun h => hc (.inl h)
              by_cases c2 : t = s2
              · subst c2
                by_cases c3 : t < 21600000
                · have c4 : ¬ p < s0 := fun h => hc (.inr ⟨rfl, c3, h⟩)
                  clear hc
                  go_wp2
                  go_roundw
                  case rel => exact ⟨k + 1, by omega, by go_num, by rw [HF2.out], HNO2.out, HZ.out, by rw [HF2.out]; exact HN.out, hbq⟩
                  case measure => simp [intOf]; omega
                · clear hc
                  go_wp2
                  go_roundw
                  case rel => exact ⟨k + 1, by omega, by go_num, by rw [HF2.out], HNO2.out, HZ.out, by rw [HF2.out]; exact HN.out, hbq⟩
                  case measure => simp [intOf]; omega
              · clear hc
                go_wp2
                go_roundw
                case rel => exact ⟨k + 1, by omega, by go_num, by rw [HF2.out], HNO2.out, HZ.out, by rw [HF2.out]; exact HN.out, hbq⟩
                case measure => simp [intOf]; omega
    · obtain rfl : k = n := by omega
      have hres : arnd D = (foldA D k).1 := by
        unfold arnd
        rw [List.findIdx_eq_length.2 (fun x hx => ?_), HL.out]
        obtain ⟨j, hj, rfl⟩ := List.getElem_of_mem hx
        have : D[j] = gs D j := by simp [gs, hj]
        rw [this]
        exact HNO.out j (by rw [← HL.out]; exact hj)
      have hres2 := HRR.out.trans hres
      generalize foldA D k = s at *
      obtain ⟨⟨s0, s1⟩, s2⟩ := s
      simp only [] at HN hres2
      obtain ⟨rfl, rfl⟩ := Prod.mk.inj hres2
      obtain ⟨zt, z0, z1, zf0, zf1⟩ := HZ.out
      obtain ⟨nt, n0, n1, -, -⟩ := HN.out
      go_wp2
      refine bodyPost_ret (v := .agg #[.int .i64 r0, .int .i64 r1]) (by simp [results, Tryz.results160, go_sem, *]; done) rfl ⟨rfl, ?_⟩
      exact (hbr.setCell (by simp) _).setCell (by simp) _
end Go.Proofs.YtleigbbgilcckaaGreat
namespace Go.Proofs.YtleigbbgilcckaaGreat
open Go.RowKit
def sgA (n : Int) : Int := if 10800000 ≤ n % 21600000 then n % 21600000 - 21600000 else n % 21600000
theorem sgA_bd (n : Int) : -10800000 ≤ sgA n ∧ sgA n < 10800000 := by unfold sgA; omega
set_option maxHeartbeats 400000 in
theorem SignedA_any (n : Int) (w : World) (h0 : -1000000000000 ≤ n) (h1 : n ≤ 1000000000000) : Calls Tryz.prog 100 #[.int .i64 n] w fun e w' => e = .returned (.int .i64 (sgA n)) ∧ Below w.heap.size w w' := by
  have K := Lib.hid (fun W => Wrap_any n W h0 h1)
  have hm : 0 ≤ n % 21600000 ∧ n % 21600000 < 21600000 := by omega
  unfold sgA
  generalize n % 21600000 = m at *
  by_cases hc : 10800000 ≤ m
  all_goals
    simp only [hc, if_true, if_false]
    go_enter Tryz.func100, Tryz.ntmps100
    go_wp2_with fail
    (with_reducible refine (K.out _).mono ?_)
    rintro e w1 ⟨rfl, hb1⟩
    go_wp2
    go_ret
    exact ⟨ret_int (by first | rfl | omega), hb1⟩
theorem Tryz.infoArcG : (Tryz.prog.info? 26).map (fun i => (i.zero, i.size, i.bytes)) = some (some (.agg #[.int .i64 0, .int .i64 0]), 2, 16) := by kernel_rfl
/-- what two arcs have in common, the second one beginning this much behind the first -/
def comP (a b : Sp) (f : Int) : List Sp := if max 0 f ≤ min (a.2 - a.1) (f + b.2 - b.1) then [(sgA (a.1 + max 0 f), sgA (a.1 + max 0 f) + min (a.2 - a.1) (f + b.2 - b.1) - max 0 f)] else []
/-- what place.common returns -/
def comL (a b : Sp) : List Sp := if isAll a = true then [b] else if isAll b = true then [a] else comP a b ((b.1 - a.1) % 21600000) ++ comP a b ((b.1 - a.1) % 21600000 - 21600000)
theorem index20 (x y : Int) (W : World) : (Instr.index 99 (.agg #[.int .i64 x, .int .i64 y]) (.int .i64 0)).run Tryz.prog W = .ok (.int .i64 x) W := by kernel_rfl
theorem index21 (x y : Int) (W : World) : (Instr.index 99 (.agg #[.int .i64 x, .int .i64 y]) (.int .i64 1)).run Tryz.prog W = .ok (.int .i64 y) W := by kernel_rfl
theorem comP_len (a b : Sp) (f : Int) : (comP a b f).length ≤ 1 := by unfold comP; split <;> simp
/-- after j rounds -/
def comF (a b : Sp) (f : Int) : Nat → List Sp
  | 0 => []
  | 1 => comP a b f
  | _ => comP a b f ++ comP a b (f - 21600000)
set_option maxHeartbeats 4000000 in
set_option maxRecDepth 100000 in
theorem common_any (a0 a1 b0 b1 : Int) (w : World) (ha : -10800000 ≤ a0 ∧ a0 ≤ 10800000 ∧ a0 ≤ a1 ∧ a1 ≤ a0 + 21600000) (hb : -10800000 ≤ b0 ∧ b0 ≤ 10800000 ∧ b0 ≤ b1 ∧ b1 ≤ b0 + 21600000) :
    Calls Tryz.prog 159 #[.agg #[.int .i64 a0, .int .i64 a1], .agg #[.int .i64 b0, .int .i64 b1]] w fun e w' => ∃ v, e = .returned v ∧ w'.ownsRow w.heap.size 26 2 v (comL (a0, a1) (b0, b1)).length (spvs (comL (a0, a1) (b0, b1))) ∧ Below w.heap.size w w' := by
  have KA := Lib.hid all_any
  have HA := Lib.hid ((K2.new w a0 a1 26).alloc (.cells #[.int .i64 b0, .int .i64 b1] 26))
  have HB : Hid (K2 ((w.alloc (.cells #[.int .i64 a0, .int .i64 a1] 26)).alloc (.cells #[.int .i64 b0, .int .i64 b1] 26)) (w.heap.size + 1) b0 b1) := Lib.hid (by
    have := K2.new (w.alloc (.cells #[.int .i64 a0, .int .i64 a1] 26)) b0 b1 26
    simpa using this)
  have b0' : Below w.heap.size w ((w.alloc (.cells #[.int .i64 a0, .int .i64 a1] 26)).alloc (.cells #[.int .i64 b0, .int .i64 b1] 26)) := ((Below.refl _ _).alloc (Nat.le_refl _) _).alloc (by simp) _
  cases h1 : aeq a0 a1 (-10800000) 10800000 with
  | true =>
    have hres : comL (a0, a1) (b0, b1) = [(b0, b1)] := by unfold comL isAll; rw [if_pos h1]
    rw [hres]
    go_enter Tryz.func159, Tryz.ntmps159
    go_wp2_with fail
    (with_reducible refine (KA.out _ _ _).mono ?_)
    rintro e w1 ⟨rfl, hb1⟩
    have B1 := b0'.trans (hb1.mono b0'.size)
    obtain ⟨bt, c0, c1, -, -⟩ := HB.out.below hb1 HB.out.lt
    rw [h1]
    go_wp2
    go_ret
    exact ⟨_, rfl, by simpa [spvs, spv] using own_new w1 w.heap.size 26 2 1 w1.heap.size #[.int .i64 b0, .int .i64 b1] rfl B1.size (by simp) (by simp [maxLen]), B1.alloc B1.size _⟩
  | false =>
    cases h2 : aeq b0 b1 (-10800000) 10800000 with
    | true =>
      have hres : comL (a0, a1) (b0, b1) = [(a0, a1)] := by unfold comL isAll; rw [if_neg (by simp [h1]), if_pos h2]
      rw [hres]
      go_enter Tryz.func159, Tryz.ntmps159
      go_wp2_with fail
      (with_reducible refine (KA.out _ _ _).mono ?_)
      rintro e w1 ⟨rfl, hb1⟩
      have B1 := b0'.trans (hb1.mono b0'.size)
      have HA1 := Lib.hid (HA.out.below hb1 HA.out.lt)
      obtain ⟨bt, c0, c1, -, -⟩ := HB.out.below hb1 HB.out.lt
      rw [h1]
      clear hb1
      go_wp2_with fail
      (with_reducible refine (KA.out _ _ _).mono ?_)
      rintro e w2 ⟨rfl, hb2⟩
      have B2 := B1.trans (hb2.mono B1.size)
      clear bt c0 c1
      obtain ⟨bt, c0, c1, -, -⟩ := HA1.out.below hb2 HA1.out.lt
      rw [h2]
      go_wp2
      go_ret
      exact ⟨_, rfl, by simpa [spvs, spv] using own_new w2 w.heap.size 26 2 1 w2.heap.size #[.int .i64 a0, .int .i64 a1] rfl B2.size (by simp) (by simp [maxLen]), B2.alloc B2.size _⟩
    | false =>
      obtain ⟨f, hf⟩ : ∃ f, f = (b0 - a0) % 21600000 := ⟨_, rfl⟩
      obtain ⟨R, hR⟩ : ∃ R, R = comL (a0, a1) (b0, b1) := ⟨_, rfl⟩
      rw [← hR]
      have HRE : Hid (R = comP (a0, a1) (b0, b1) f ++ comP (a0, a1) (b0, b1) (f - 21600000)) := Lib.hid (by rw [hR]; unfold comL isAll; rw [if_neg (by simp [h1]), if_neg (by simp [h2]), hf])
      have KB := fun W => beyond_any a0 a1 b0 W (by omega) (by omega) (by omega) (by omega)
      rw [← hf] at KB
      have HKB := Lib.hid KB
      have hfb : 0 ≤ f ∧ f < 21600000 := by omega
      clear hR hf KB
      obtain ⟨i0, hi0, hz0, hz1, hzb⟩ := info_parts Tryz.infoArcG
      have e0 : wrap64 (f - 21600000) = f - 21600000 := IntWalk.wrap64_in _ (by omega)
      go_enter Tryz.func159, Tryz.ntmps159
      go_wp2_with fail
      (with_reducible refine (KA.out _ _ _).mono ?_)
      rintro e w1 ⟨rfl, hb1⟩
      have B1 := b0'.trans (hb1.mono b0'.size)
      have HA1 := Lib.hid (HA.out.below hb1 HA.out.lt)
      have HB1 := Lib.hid (HB.out.below hb1 HB.out.lt)
      rw [h1]
      clear hb1 b0' HA HB
      obtain ⟨bt, c0, c1, -, -⟩ := HB1.out
      go_wp2_with fail
      (with_reducible refine (KA.out _ _ _).mono ?_)
      rintro e w2 ⟨rfl, hb2⟩
      have B2 := B1.trans (hb2.mono B1.size)
      have HA2 := Lib.hid (HA1.out.below hb2 HA1.out.lt)
      have HB2 := Lib.hid (HB1.out.below hb2 HB1.out.lt)
      rw [h2]
      clear hb2 B1 HA1 HB1 bt c0 c1
      go_upto_region 6 with (fail)
      have d0 : ∀ s : BV w2, s.w.cell? ⟨w.heap.size, 0, none⟩ = some (.int .i64 a0) := fun s => (HA2.out.below s.hb HA2.out.lt).c0
      have d1 : ∀ s : BV w2, s.w.cell? ⟨w.heap.size, 1, none⟩ = some (.int .i64 a1) := fun s => (HA2.out.below s.hb HA2.out.lt).c1
      have d2 : ∀ s : BV w2, s.w.cell? ⟨w.heap.size + 1, 0, none⟩ = some (.int .i64 b0) := fun s => (HB2.out.below s.hb HB2.out.lt).c0
      refine wp_region_bv w2 (by kernel_rfl) (by kernel_rfl) (Below.refl _ _) ?_
      (repeat (go_big_quiet_step (first | (go_at_call 99; with_reducible exact quiet_bv (HKB.out _)) | fail)))
      refine wpQuiet_nil ?_
      intro w9 hb9
      have B9 := B2.trans (hb9.mono B2.size)
      have HA9 := Lib.hid (HA2.out.below hb9 HA2.out.lt)
      have HB9 := Lib.hid (HB2.out.below hb9 HB2.out.lt)
      clear d0 d1 d2 hb9 B2 HA2 HB2
      go_wp2
      go_loopw [5, 31] (fun v i wq => ∃ j : Nat, j ≤ 2 ∧ i = .int .i64 j ∧ wq.ownsRow (w.heap.size + 2) 26 2 v (comF (a0, a1) (b0, b1) f j).length (spvs (comF (a0, a1) (b0, b1) f j)) ∧ K2 wq w.heap.size a0 a1 ∧ K2 wq (w.heap.size + 1) b0 b1 ∧ Below w.heap.size w wq) (fun _ i _ => 2 - (intOf i).toNat)
      case atStart => exact ⟨0, by omega, rfl, own_nil _ _ _ _, HA9.out, HB9.out, B9⟩
      case round =>
        obtain ⟨j, hj, rfl, hown, hA, hB, hbr⟩ := hrel
        clear HA9 HB9 B9
        have HA := Lib.hid hA
        have HB := Lib.hid hB
        have HO := Lib.hid hown
        clear hA hB hown
        by_cases hj2 : j = 2
        · subst hj2
          have hc2 : comF (a0, a1) (b0, b1) f 2 = R := by rw [HRE.out]; rfl
          rw [hc2] at HO
          obtain ⟨A3, c3, hv3, -, -⟩ := own_form HO.out
          subst hv3
          go_wp2
          go_ret
          exact ⟨_, rfl, own_mono HO.out (by omega), hbr⟩
        · obtain ⟨g, hg⟩ : ∃ g, g = f - 21600000 * (j : Int) := ⟨_, rfl⟩
          have hgb : -21600000 ≤ g ∧ g < 21600000 := by omega
          have hz := hbr.size
          have HC : Hid (comF (a0, a1) (b0, b1) f (j + 1) = comF (a0, a1) (b0, b1) f j ++ comP (a0, a1) (b0, b1) g) := Lib.hid (by
            have : j = 0 ∨ j = 1 := by omega
            rcases this with rfl | rfl
            · simp [comF, hg]
            · simp [comF, hg])
          have hfl : (comF (a0, a1) (b0, b1) f j).length ≤ 2 := by
            have : j = 0 ∨ j = 1 := by omega
            have hp := comP_len (a0, a1) (b0, b1) f
            rcases this with rfl | rfl <;> simp [comF]; omega
          have HG := Lib.hid hg
          clear hg
          have e1 : wrap64 (a1 - a0) = a1 - a0 := IntWalk.wrap64_in _ (by omega)
          have e2 : wrap64 (g + b1) = g + b1 := IntWalk.wrap64_in _ (by omega)
          have e3 : wrap64 (g + b1 - b0) = g + b1 - b0 := IntWalk.wrap64_in _ (by omega)
          have HP : Hid (comP (a0, a1) (b0, b1) g = if max 0 g ≤ min (a1 - a0) (g + b1 - b0) then [(sgA (a0 + max 0 g), sgA (a0 + max 0 g) + min (a1 - a0) (g + b1 - b0) - max 0 g)] else []) := Lib.hid rfl
          obtain ⟨L, hL⟩ : ∃ L, max 0 g = L := ⟨_, rfl⟩
          obtain ⟨M, hM⟩ : ∃ M, min (a1 - a0) (g + b1 - b0) = M := ⟨_, rfl⟩
          have hLb : 0 ≤ L ∧ L < 21600000 := by omega
          have hMb : -43200000 ≤ M ∧ M ≤ 21600000 := by omega
          rw [hL, hM] at HP
          have KS := Lib.hid (fun W => SignedA_any (a0 + L) W (by omega) (by omega))
          have hsb := sgA_bd (a0 + L)
          generalize sgA (a0 + L) = sg at *
          have e4 : wrap64 (a0 + L) = a0 + L := IntWalk.wrap64_in _ (by omega)
          have e5 : wrap64 (sg + M) = sg + M := IntWalk.wrap64_in _ (by omega)
          have e6 : wrap64 (sg + M - L) = sg + M - L := IntWalk.wrap64_in _ (by omega)
          obtain ⟨at1, c0, c1, -, -⟩ := HA.out
          obtain ⟨bt1, d0, d1, -, -⟩ := HB.out
          have hz2 : w.heap.size + 2 ≤ wr.heap.size := by have := HB.out.lt; omega
          have hq0 := index20
          have hq1 := index21
          have hj01 : j = 0 ∨ j = 1 := by omega
          rcases hj01 with rfl | rfl
          · have hge : f = g := by have := HG.out; omega
            subst hge
            by_cases hc : L ≤ M
            · rw [if_pos hc] at HP
              go_wp2_with (go_region)
              (with_reducible refine (KS.out _).mono ?_)
              rintro e w5 ⟨rfl, hb5⟩
              have hbX : Below wr.heap.size wr w5 := (bl_drew (Below.refl _ _)).trans hb5
              have HO5 := Lib.hid (own_bl HO.out hbX (Nat.le_refl _))
              have b5 : Below (w.heap.size + 2) wr w5 := hbX.mono hz2
              have hz5 := b5.size
              clear hb5 hbX at1 c0 c1 bt1 d0 d1
              go_wp2_with (at_builtin; (refine wpList_append_any _ rfl (.tmp 57) (.tmp 65) _ rfl (w.heap.size + 2) 26 i0 _ 2 16 Tryz.underlying139 hi0 hz0 hz1 hzb rfl (by decide) u5 _ _ rfl (HO5.out.alloc _) (w5.heap.size + 1) (some ⟨w5.heap.size, 0, none⟩) 1 1 (spv (sg, sg + M - L)) rfl (sreads_new w5 _ _ _) (spv_one _) (by simp only [maxLen]; omega) (by omega) (by simp; omega) ?_); intro v6 w6 hown6 hg6 hat6)
              have b6 := (b5.alloc (by omega) (.cells #[.int .i64 sg, .int .i64 (sg + M - L)] 26)).grown hg6 (by simp; omega) (own_base HO5.out)
              go_roundw
              case rel => exact ⟨0 + 1, by omega, by go_num, by rw [HC.out, HP.out, spvs_append, List.length_append]; exact hown6, HA.out.below b6 (by omega), HB.out.below b6 (by omega), hbr.trans (b6.mono (by omega))⟩
              case measure => simp [intOf]
            · rw [if_neg hc] at HP
              go_wp2_with (go_region)
              go_roundw
              case rel => exact ⟨0 + 1, by omega, by go_num, by rw [HC.out, HP.out, List.append_nil]; exact HO.out, HA.out.below (B := w.heap.size + 2) (bl_drew (Below.refl _ _)) (by omega), HB.out.below (B := w.heap.size + 2) (bl_drew (Below.refl _ _)) (by omega), bl_drew hbr⟩
              case measure => simp [intOf]
          · have hge : f - 21600000 = g := by have := HG.out; omega
            subst hge
            by_cases hc : L ≤ M
            · rw [if_pos hc] at HP
              go_wp2_with (go_region)
              (with_reducible refine (KS.out _).mono ?_)
              rintro e w5 ⟨rfl, hb5⟩
              have hbX : Below wr.heap.size wr w5 := (bl_drew (Below.refl _ _)).trans hb5
              have HO5 := Lib.hid (own_bl HO.out hbX (Nat.le_refl _))
              have b5 : Below (w.heap.size + 2) wr w5 := hbX.mono hz2
              have hz5 := b5.size
              clear hb5 hbX at1 c0 c1 bt1 d0 d1
              go_wp2_with (at_builtin; (refine wpList_append_any _ rfl (.tmp 57) (.tmp 65) _ rfl (w.heap.size + 2) 26 i0 _ 2 16 Tryz.underlying139 hi0 hz0 hz1 hzb rfl (by decide) u5 _ _ rfl (HO5.out.alloc _) (w5.heap.size + 1) (some ⟨w5.heap.size, 0, none⟩) 1 1 (spv (sg, sg + M - L)) rfl (sreads_new w5 _ _ _) (spv_one _) (by simp only [maxLen]; omega) (by omega) (by simp; omega) ?_); intro v6 w6 hown6 hg6 hat6)
              have b6 := (b5.alloc (by omega) (.cells #[.int .i64 sg, .int .i64 (sg + M - L)] 26)).grown hg6 (by simp; omega) (own_base HO5.out)
              go_roundw
              case rel => exact ⟨1 + 1, by omega, by go_num, by rw [HC.out, HP.out, spvs_append, List.length_append]; exact hown6, HA.out.below b6 (by omega), HB.out.below b6 (by omega), hbr.trans (b6.mono (by omega))⟩
              case measure => simp [intOf]
            · rw [if_neg hc] at HP
              go_wp2_with (go_region)
              go_roundw
              case rel => exact ⟨1 + 1, by omega, by go_num, by rw [HC.out, HP.out, List.append_nil]; exact HO.out, HA.out.below (B := w.heap.size + 2) (bl_drew (Below.refl _ _)) (by omega), HB.out.below (B := w.heap.size + 2) (bl_drew (Below.refl _ _)) (by omega), bl_drew hbr⟩
              case measure => simp [intOf]
end Go.Proofs.YtleigbbgilcckaaGreat
namespace Go.Proofs.YtleigbbgilcckaaGreat
open Go.RowKit
/-- a box: least and greatest latitude, least and greatest longitude -/
abbrev Bx := Int × Int × Int × Int
def bv (x : Bx) : List Value := [.int .i64 x.1, .int .i64 x.2.1, .int .i64 x.2.2.1, .int .i64 x.2.2.2]
def bvs (L : List Bx) : List Value := L.flatMap bv
theorem bvs_length (L : List Bx) : (bvs L).length = L.length * 4 := by
  induction L with
  | nil => rfl
  | cons x r ih => simp [bvs, bv] at ih ⊢; omega
/-- the box of a cell -/
def bxI (x : Cl) : Bx := (edg x.2.1 x.1 - 5400000, edg (x.2.1 + 1) x.1 - 5400000, edg x.2.2 x.1 - 10800000, edg (x.2.2 + 1) x.1 - 10800000)
end Go.Proofs.YtleigbbgilcckaaGreat
