/- angle.fits, angle.Parse. -/
import Derived.Lib.ConvBytes
import Derived.Deep.Cut
import Derived.Deep.CutRange
import Derived.Test.YtbpnacacnncopaaGreatDoorHTo
import Derived.Test.YtbpnacacnncopaaGreatDoorHIc
set_option linter.unusedVariables false
set_option linter.unusedSimpArgs false
namespace Go.Proofs.YtbpnacacnncopaaGreatDoor
open Go.RowKit Go.Shelf Frm
open Lib (decDigits)
/-- what calendar.Parse returns -/
def CpR (s : Bs) (e : Ending) : Prop := (∃ x, CA.vld x ∧ dateT x = s ∧ e = .returned (.tuple #[.agg (dav x), .int .i64 0])) ∨ ((¬ ∃ x, CA.vld x ∧ dateT x = s) ∧ e = .returned (.tuple #[.agg (dtv 0 0 0), .int .i64 7]))
theorem vd_of {y m d : Int} (h : vdB y m d = true) : CA.vld ⟨y, m.toNat, d⟩ ∧ ((m.toNat : Nat) : Int) = m := by
  unfold vdB at h
  simp only [Bool.and_eq_true, decide_eq_true_eq] at h
  exact ⟨⟨by show 1 ≤ y; omega, by show y ≤ 9999; omega, by show 1 ≤ m.toNat; omega, by show m.toNat ≤ 12; omega, by show 1 ≤ d; omega, by show d ≤ CA.dm y m.toNat; omega⟩, by omega⟩
theorem splitc_any (s : Bs) (w : World) (hl : s.length ≤ 1000000) (he : En w) :
    Calls Tryz.prog 36 #[tx s, .string ⟨#[45]⟩] w fun e w' => e = .returned (.slice (some ⟨w.heap.size, 0, none⟩) (SW.wrd 45 s).length (SW.wrd 45 s).length) ∧ w' = w.alloc (.cells ((SW.wrd 45 s).map tx).toArray 9) := split_any s 45 w hl he
theorem bs_ne {a b : Bs} (h : ¬ a = b) : ((⟨a.toArray⟩ : ByteArray) == ⟨b.toArray⟩) = false ∧ (a == b) = false ∧ (a != b) = true := by
  exact ⟨by show (a.toArray == b.toArray) = false; simpa using h, by simpa using h, by simpa using h⟩
set_option maxHeartbeats 4000000 in
set_option maxRecDepth 100000 in
theorem calParse_any (s : Bs) (w : World) (hl : s.length ≤ 1000) (he : En w) :
    Calls Tryz.prog 123 #[tx s] w fun e w' => CpR s e ∧ Below w.heap.size w w' := by
  have b00 := bl_alloc w (.cells #[.int .i64 0, .int .i64 0, .int .i64 0] 100)
  have G0 := Lib.hid (Blk.new w 100 #[.int .i64 0, .int .i64 0, .int .i64 0])
  have he0 := he.bl b00
  have KS := Lib.hid (splitc_any s (w.alloc (.cells #[.int .i64 0, .int .i64 0, .int .i64 0] 100)) (by omega) he0)
  have hsz := tx_size s
  have hx10 : (∃ x, CA.vld x ∧ dateT x = s) → s.length = 10 := fun ⟨x, h1, h2⟩ => h2 ▸ dateT_len h1
  obtain ⟨n, hn⟩ : ∃ n, s.length = n := ⟨_, rfl⟩
  rw [hn] at hx10 hsz hl
  obtain ⟨L, hL⟩ : ∃ L, SW.wrd 45 s = L := ⟨_, rfl⟩
  have hx3 : (∃ x, CA.vld x ∧ dateT x = s) → L.length = 3 := fun ⟨x, h1, h2⟩ => by rw [← hL, ← h2, dateT_wrd]; rfl
  have HL := Lib.hid hL
  have HE := Lib.hid he0
  rw [hL] at KS
  have B0 := Lib.hid b00
  clear he hn hL he0 b00
  by_cases h10 : n = 10
  case neg =>
    have d0 : ((n : Int) != 10) = true := by simp; omega
    have hno : ¬ ∃ x, CA.vld x ∧ dateT x = s := fun h => h10 (hx10 h)
    have HNO := Lib.hid hno
    clear hx10 hx3 hno h10
    go_enter Tryz.func123, Tryz.ntmps123
    go_upto_region 1 with fail
    generalize w.alloc (.cells #[.int .i64 0, .int .i64 0, .int .i64 0] 100) = w0 at *
    have C0 := Lib.hid (B0.out.trans ((bl_alloc w0 (.cells (L.map tx).toArray 9)).mono B0.out.size))
    have G1 := Lib.hid (G0.out.alloc (.cells (L.map tx).toArray 9))
    go_wp2_with fail
    (with_reducible refine (KS.out).mono ?_)
    rintro e w1 ⟨rfl, rfl⟩
    generalize w0.alloc (.cells (L.map tx).toArray 9) = w1 at *
    have y0 : w1.cell? ⟨w.heap.size, 0, none⟩ = some (.int .i64 0) := G1.out.cell 0
    have y1 : w1.cell? ⟨w.heap.size, 1, none⟩ = some (.int .i64 0) := G1.out.cell 1
    have y2 : w1.cell? ⟨w.heap.size, 2, none⟩ = some (.int .i64 0) := G1.out.cell 2
    have z0 := G1.out.frozen 0
    have z1 := G1.out.frozen 1
    have z2 := G1.out.frozen 2
    go_wp2
    refine bodyPost_ret (v := .tuple #[.agg (dtv 0 0 0), .int .i64 7]) (by simp [results, Tryz.results123, go_sem, dtv, *]; done) rfl ⟨.inr ⟨HNO.out, rfl⟩, ?_⟩
    exact ((C0.out.setCell (Nat.le_refl _) _).setCell (Nat.le_refl _) _).setCell (Nat.le_refl _) _
  case pos =>
    subst h10
    obtain ⟨m, hm⟩ : ∃ m, L.length = m := ⟨_, rfl⟩
    rw [hm] at KS hx3
    by_cases h3 : m = 3
    case neg =>
      have d0 : ((m : Int) != 3) = true := by simp; omega
      have hno : ¬ ∃ x, CA.vld x ∧ dateT x = s := fun h => h3 (hx3 h)
      have HNO := Lib.hid hno
      clear hx10 hx3 hno h3 hm
      go_enter Tryz.func123, Tryz.ntmps123
      go_upto_region 1 with fail
      generalize w.alloc (.cells #[.int .i64 0, .int .i64 0, .int .i64 0] 100) = w0 at *
      have C0 := Lib.hid (B0.out.trans ((bl_alloc w0 (.cells (L.map tx).toArray 9)).mono B0.out.size))
      have G1 := Lib.hid (G0.out.alloc (.cells (L.map tx).toArray 9))
      go_wp2_with fail
      (with_reducible refine (KS.out).mono ?_)
      rintro e w1 ⟨rfl, rfl⟩
      generalize w0.alloc (.cells (L.map tx).toArray 9) = w1 at *
      have y0 : w1.cell? ⟨w.heap.size, 0, none⟩ = some (.int .i64 0) := G1.out.cell 0
      have y1 : w1.cell? ⟨w.heap.size, 1, none⟩ = some (.int .i64 0) := G1.out.cell 1
      have y2 : w1.cell? ⟨w.heap.size, 2, none⟩ = some (.int .i64 0) := G1.out.cell 2
      have z0 := G1.out.frozen 0
      have z1 := G1.out.frozen 1
      have z2 := G1.out.frozen 2
      go_wp2
      refine bodyPost_ret (v := .tuple #[.agg (dtv 0 0 0), .int .i64 7]) (by simp [results, Tryz.results123, go_sem, dtv, *]; done) rfl ⟨.inr ⟨HNO.out, rfl⟩, ?_⟩
      exact ((C0.out.setCell (Nat.le_refl _) _).setCell (Nat.le_refl _) _).setCell (Nat.le_refl _) _
    case pos =>
      subst h3
      obtain ⟨p, q, r, rfl⟩ : ∃ p q r, L = [p, q, r] := by
        match L, hm with
        | [p, q, r], _ => exact ⟨p, q, r, rfl⟩
      have hlp : ∀ z, z ∈ [p, q, r] → z.length ≤ 1000 := fun z hz => by
        have hj := SW.jn_wrd 45 s
        rw [HL.out] at hj
        have e : s = p ++ 45 :: (q ++ 45 :: r) := hj.symm
        have e2 := congrArg List.length e
        simp at e2
        have : s.length ≤ 1000 := by have := tx_size s; omega
        simp only [List.mem_cons, List.not_mem_nil, or_false] at hz
        rcases hz with rfl | rfl | rfl <;> omega
      have lp := hlp p (by simp)
      have lq := hlp q (by simp)
      have lr := hlp r (by simp)
      clear hx10 hx3 hlp hm
      have hyes : ∀ x, CA.vld x → dateT x = s → (atR p = (x.y, true) ∧ atR q = ((x.m : Int), true) ∧ atR r = (x.d, true)) := fun x h1 h2 => by
        have h3 := HL.out
        rw [← h2, dateT_wrd] at h3
        simp only [List.cons.injEq, and_true] at h3
        obtain ⟨rfl, rfl, rfl⟩ := h3
        obtain ⟨a1, a2, a3, a4, a5, a6⟩ := h1
        have := dm_le x.y x.m
        have q1 := atR_dgs (n := x.y.toNat) (k := 4) (by omega) (by omega)
        have q2 := atR_dgs (n := x.m) (k := 2) (by omega) (by omega)
        have q3 := atR_dgs (n := x.d.toNat) (k := 2) (by omega) (by omega)
        rw [show ((x.y.toNat : Nat) : Int) = x.y by omega] at q1
        rw [show ((x.d.toNat : Nat) : Int) = x.d by omega] at q3
        exact ⟨q1, q2, q3⟩
      have K1 := Lib.hid (fun (W : World) (h : En W) => atoi_any p W (by omega) h)
      have K2 := Lib.hid (fun (W : World) (h : En W) => atoi_any q W (by omega) h)
      have K3 := Lib.hid (fun (W : World) (h : En W) => atoi_any r W (by omega) h)
      obtain ⟨⟨yy, ok1⟩, e1⟩ : ∃ z, atR p = z := ⟨_, rfl⟩
      obtain ⟨⟨mm, ok2⟩, e2⟩ : ∃ z, atR q = z := ⟨_, rfl⟩
      obtain ⟨⟨dd, ok3⟩, e3⟩ : ∃ z, atR r = z := ⟨_, rfl⟩
      rw [e1] at K1 hyes
      rw [e2] at K2 hyes
      rw [e3] at K3 hyes
      simp only [] at K1 K2 K3
      have HY := Lib.hid hyes
      have KV := Lib.hid (fun W => dValid_any yy mm dd W)
      have KT : Hid (∀ W, En W → vdB yy mm dd = true → Calls Tryz.prog 107 #[.agg (dtv yy mm dd)] W fun e w' => e = .returned (tx (dateT ⟨yy, mm.toNat, dd⟩)) ∧ Below W.heap.size W w') := Lib.hid (fun W h hv => by
        obtain ⟨h1, h2⟩ := vd_of hv
        have := dtext_any ⟨yy, mm.toNat, dd⟩ W h1 h
        unfold dav at this
        simp only [h2] at this
        exact this)
      clear hyes e1 e2 e3 lp lq lr
      have hq : Hid ((w.alloc (.cells #[.int .i64 0, .int .i64 0, .int .i64 0] 100)).heap.size = w.heap.size + 1) := Lib.hid (by simp)
      go_enter Tryz.func123, Tryz.ntmps123
      go_upto_region 1 with fail
      generalize w.alloc (.cells #[.int .i64 0, .int .i64 0, .int .i64 0] 100) = w0 at *
      have C0 := Lib.hid (B0.out.trans ((bl_alloc w0 (.cells #[tx p, tx q, tx r] 9)).mono B0.out.size))
      have G1 := Lib.hid (G0.out.alloc (.cells #[tx p, tx q, tx r] 9))
      have S1 := Lib.hid (Blk.new w0 9 #[tx p, tx q, tx r])
      have E1 := Lib.hid (HE.out.bl (bl_alloc w0 (.cells #[tx p, tx q, tx r] 9)))
      go_wp2_with fail
      (with_reducible refine (KS.out).mono ?_)
      rintro e w1 ⟨rfl, rfl⟩
      simp only [List.map_cons, List.map_nil]
      generalize w0.alloc (.cells #[tx p, tx q, tx r] 9) = w1 at *
      clear G0 B0 HE KS
      have y0 : w1.cell? ⟨w0.heap.size, 0, none⟩ = some (tx p) := S1.out.cell 0
      go_wp2_with fail
      (with_reducible refine (K1.out _ E1.out).mono ?_)
      rintro e w2 ⟨⟨v1, rfl, hv1⟩, hb⟩
      have C2 := Lib.hid (C0.out.trans (hb.mono C0.out.size))
      have G2 := Lib.hid (G1.out.below hb G1.out.lt)
      have S2 := Lib.hid (S1.out.below hb S1.out.lt)
      have E2 := Lib.hid (E1.out.bl hb)
      clear hb C0 G1 S1 E1 y0 K1
      have y0 : w2.cell? ⟨w0.heap.size, 1, none⟩ = some (tx q) := S2.out.cell 1
      go_wp2_with fail
      (with_reducible refine (K2.out _ E2.out).mono ?_)
      rintro e w3 ⟨⟨v2, rfl, hv2⟩, hb⟩
      have C3 := Lib.hid (C2.out.trans (hb.mono C2.out.size))
      have G3 := Lib.hid (G2.out.below hb G2.out.lt)
      have S3 := Lib.hid (S2.out.below hb S2.out.lt)
      have E3 := Lib.hid (E2.out.bl hb)
      clear hb C2 G2 S2 E2 y0 K2
      have y0 : w3.cell? ⟨w0.heap.size, 2, none⟩ = some (tx r) := S3.out.cell 2
      go_wp2_with fail
      (with_reducible refine (K3.out _ E3.out).mono ?_)
      rintro e w4 ⟨⟨v3, rfl, hv3⟩, hb⟩
      have C4 := Lib.hid (C3.out.trans (hb.mono C3.out.size))
      have G4 := Lib.hid (G3.out.below hb G3.out.lt)
      have E4 := Lib.hid (E3.out.bl hb)
      clear hb C3 G3 S3 E3 y0 K3 hq
      have G5 := Lib.hid (G4.out.alloc (.cells #[.int .i64 yy, .int .i64 mm, .int .i64 dd] 100))
      have D5 := Lib.hid (Blk.new w4 100 #[.int .i64 yy, .int .i64 mm, .int .i64 dd])
      have C5 := Lib.hid (C4.out.trans ((bl_alloc w4 (.cells #[.int .i64 yy, .int .i64 mm, .int .i64 dd] 100)).mono C4.out.size))
      have E5 := Lib.hid (E4.out.bl (bl_alloc w4 (.cells #[.int .i64 yy, .int .i64 mm, .int .i64 dd] 100)))
      go_upto_region 8 with fail
      generalize w4.alloc (.cells #[.int .i64 yy, .int .i64 mm, .int .i64 dd] 100) = w5 at *
      clear C4 G4 E4
      cases ok1 with
      | false =>
        have HNO : Hid (¬ ∃ x, CA.vld x ∧ dateT x = s) := Lib.hid fun ⟨x, h1, h2⟩ => by have := (HY.out x h1 h2).1; simp at this
        obtain ⟨N, rfl⟩ := hv1
        have y0 : w5.cell? ⟨w.heap.size, 0, none⟩ = some (.int .i64 0) := G5.out.cell 0
        have y1 : w5.cell? ⟨w.heap.size, 1, none⟩ = some (.int .i64 0) := G5.out.cell 1
        have y2 : w5.cell? ⟨w.heap.size, 2, none⟩ = some (.int .i64 0) := G5.out.cell 2
        have z0 := G5.out.frozen 0
        have z1 := G5.out.frozen 1
        have z2 := G5.out.frozen 2
        go_wp2
        refine bodyPost_ret (v := .tuple #[.agg (dtv 0 0 0), .int .i64 7]) (by simp [results, Tryz.results123, go_sem, dtv, *]; done) rfl ⟨.inr ⟨HNO.out, rfl⟩, ?_⟩
        exact ((C5.out.setCell (Nat.le_refl _) _).setCell (Nat.le_refl _) _).setCell (Nat.le_refl _) _
      | true =>
        obtain rfl : v1 = .nilIface := by simpa [ErrIs] using hv1
        clear hv1
        cases ok2 with
        | false =>
          have HNO : Hid (¬ ∃ x, CA.vld x ∧ dateT x = s) := Lib.hid fun ⟨x, h1, h2⟩ => by have := (HY.out x h1 h2).2.1; simp at this
          obtain ⟨N, rfl⟩ := hv2
          have y0 : w5.cell? ⟨w.heap.size, 0, none⟩ = some (.int .i64 0) := G5.out.cell 0
          have y1 : w5.cell? ⟨w.heap.size, 1, none⟩ = some (.int .i64 0) := G5.out.cell 1
          have y2 : w5.cell? ⟨w.heap.size, 2, none⟩ = some (.int .i64 0) := G5.out.cell 2
          have z0 := G5.out.frozen 0
          have z1 := G5.out.frozen 1
          have z2 := G5.out.frozen 2
          go_wp2
          refine bodyPost_ret (v := .tuple #[.agg (dtv 0 0 0), .int .i64 7]) (by simp [results, Tryz.results123, go_sem, dtv, *]; done) rfl ⟨.inr ⟨HNO.out, rfl⟩, ?_⟩
          exact ((C5.out.setCell (Nat.le_refl _) _).setCell (Nat.le_refl _) _).setCell (Nat.le_refl _) _
        | true =>
          obtain rfl : v2 = .nilIface := by simpa [ErrIs] using hv2
          clear hv2
          cases ok3 with
          | false =>
            have HNO : Hid (¬ ∃ x, CA.vld x ∧ dateT x = s) := Lib.hid fun ⟨x, h1, h2⟩ => by have := (HY.out x h1 h2).2.2; simp at this
            obtain ⟨N, rfl⟩ := hv3
            have y0 : w5.cell? ⟨w.heap.size, 0, none⟩ = some (.int .i64 0) := G5.out.cell 0
            have y1 : w5.cell? ⟨w.heap.size, 1, none⟩ = some (.int .i64 0) := G5.out.cell 1
            have y2 : w5.cell? ⟨w.heap.size, 2, none⟩ = some (.int .i64 0) := G5.out.cell 2
            have z0 := G5.out.frozen 0
            have z1 := G5.out.frozen 1
            have z2 := G5.out.frozen 2
            go_wp2
            refine bodyPost_ret (v := .tuple #[.agg (dtv 0 0 0), .int .i64 7]) (by simp [results, Tryz.results123, go_sem, dtv, *]; done) rfl ⟨.inr ⟨HNO.out, rfl⟩, ?_⟩
            exact ((C5.out.setCell (Nat.le_refl _) _).setCell (Nat.le_refl _) _).setCell (Nat.le_refl _) _
          | true =>
            obtain rfl : v3 = .nilIface := by simpa [ErrIs] using hv3
            clear hv3
            have y0 : w5.cell? ⟨w4.heap.size, 0, none⟩ = some (.int .i64 yy) := D5.out.cell 0
            have y1 : w5.cell? ⟨w4.heap.size, 1, none⟩ = some (.int .i64 mm) := D5.out.cell 1
            have y2 : w5.cell? ⟨w4.heap.size, 2, none⟩ = some (.int .i64 dd) := D5.out.cell 2
            cases hvd : vdB yy mm dd with
            | false =>
              rw [hvd] at KV
              have HNO : Hid (¬ ∃ x, CA.vld x ∧ dateT x = s) := Lib.hid fun ⟨x, h1, h2⟩ => by
                obtain ⟨e1, e2, e3⟩ := HY.out x h1 h2
                simp only [Prod.mk.injEq, and_true] at e1 e2 e3
                rw [e1, e2, e3, vdB_of h1] at hvd
                cases hvd
              clear hvd
              go_wp2_with fail
              (refine (KV.out _).mono ?_)
              rintro e w6 ⟨rfl, hb⟩
              have G6 := Lib.hid (G5.out.below hb G5.out.lt)
              have C6 := Lib.hid (C5.out.trans (hb.mono C5.out.size))
              clear hb y0 y1 y2 G5 C5
              have y0 : w6.cell? ⟨w.heap.size, 0, none⟩ = some (.int .i64 0) := G6.out.cell 0
              have y1 : w6.cell? ⟨w.heap.size, 1, none⟩ = some (.int .i64 0) := G6.out.cell 1
              have y2 : w6.cell? ⟨w.heap.size, 2, none⟩ = some (.int .i64 0) := G6.out.cell 2
              have z0 := G6.out.frozen 0
              have z1 := G6.out.frozen 1
              have z2 := G6.out.frozen 2
              go_wp2
              refine bodyPost_ret (v := .tuple #[.agg (dtv 0 0 0), .int .i64 7]) (by simp [results, Tryz.results123, go_sem, dtv, *]; done) rfl ⟨.inr ⟨HNO.out, rfl⟩, ?_⟩
              exact ((C6.out.setCell (Nat.le_refl _) _).setCell (Nat.le_refl _) _).setCell (Nat.le_refl _) _
            | true =>
              rw [hvd] at KV
              obtain ⟨hvl, hmm⟩ := vd_of hvd
              have KT2 := Lib.hid (fun W (h : En W) => KT.out W h hvd)
              have HVL := Lib.hid hvl
              have HMM := Lib.hid hmm
              clear KT hvd hvl hmm
              go_wp2_with fail
              (refine (KV.out _).mono ?_)
              rintro e w6 ⟨rfl, hb⟩
              have G6 := Lib.hid (G5.out.below hb G5.out.lt)
              have D6 := Lib.hid (D5.out.below hb D5.out.lt)
              have C6 := Lib.hid (C5.out.trans (hb.mono C5.out.size))
              have E6 := Lib.hid (E5.out.bl hb)
              clear hb y0 y1 y2 G5 C5 D5 E5
              have y0 : w6.cell? ⟨w4.heap.size, 0, none⟩ = some (.int .i64 yy) := D6.out.cell 0
              have y1 : w6.cell? ⟨w4.heap.size, 1, none⟩ = some (.int .i64 mm) := D6.out.cell 1
              have y2 : w6.cell? ⟨w4.heap.size, 2, none⟩ = some (.int .i64 dd) := D6.out.cell 2
              have KT3 := Lib.hid (KT2.out w6 E6.out)
              clear KT2
              obtain ⟨T, hT⟩ : ∃ T, dateT ⟨yy, mm.toNat, dd⟩ = T := ⟨_, rfl⟩
              rw [hT] at KT3
              have HT := Lib.hid hT
              clear hT
              go_wp2_with fail
              (refine (KT3.out).mono ?_)
              rintro e w7 ⟨rfl, hb⟩
              have G7 := Lib.hid (G6.out.below hb G6.out.lt)
              have D7 := Lib.hid (D6.out.below hb D6.out.lt)
              have C7 := Lib.hid (C6.out.trans (hb.mono C6.out.size))
              clear hb y0 y1 y2 G6 C6 D6 E6
              by_cases hTs : T = s
              · subst hTs
                have y0 : w7.cell? ⟨w.heap.size, 0, none⟩ = some (.int .i64 0) := G7.out.cell 0
                have y1 : w7.cell? ⟨w.heap.size, 1, none⟩ = some (.int .i64 0) := G7.out.cell 1
                have y2 : w7.cell? ⟨w.heap.size, 2, none⟩ = some (.int .i64 0) := G7.out.cell 2
                have x0 : w7.cell? ⟨w4.heap.size, 0, none⟩ = some (.int .i64 yy) := D7.out.cell 0
                have x1 : w7.cell? ⟨w4.heap.size, 1, none⟩ = some (.int .i64 mm) := D7.out.cell 1
                have x2 : w7.cell? ⟨w4.heap.size, 2, none⟩ = some (.int .i64 dd) := D7.out.cell 2
                have z0 := G7.out.frozen 0
                have z1 := G7.out.frozen 1
                have z2 := G7.out.frozen 2
                go_wp2
                refine bodyPost_ret (v := .tuple #[.agg (dtv yy mm dd), .int .i64 0]) (by simp [results, Tryz.results123, go_sem, dtv, *]; done) rfl ⟨.inl ⟨⟨yy, mm.toNat, dd⟩, HVL.out, HT.out, by unfold dav; simp only [HMM.out]⟩, ?_⟩
                exact ((C7.out.setCell (Nat.le_refl _) _).setCell (Nat.le_refl _) _).setCell (Nat.le_refl _) _
              · obtain ⟨n1, n2, n3⟩ := bs_ne hTs
                have HNO : Hid (¬ ∃ x, CA.vld x ∧ dateT x = s) := Lib.hid fun ⟨x, h1, h2⟩ => by
                  obtain ⟨e1, e2, e3⟩ := HY.out x h1 h2
                  simp only [Prod.mk.injEq, and_true] at e1 e2 e3
                  refine hTs (HT.out.symm.trans (Eq.trans (congrArg dateT ?_) h2))
                  rw [e1, e2, e3, Int.toNat_natCast]
                clear hTs
                have y0 : w7.cell? ⟨w.heap.size, 0, none⟩ = some (.int .i64 0) := G7.out.cell 0
                have y1 : w7.cell? ⟨w.heap.size, 1, none⟩ = some (.int .i64 0) := G7.out.cell 1
                have y2 : w7.cell? ⟨w.heap.size, 2, none⟩ = some (.int .i64 0) := G7.out.cell 2
                have z0 := G7.out.frozen 0
                have z1 := G7.out.frozen 1
                have z2 := G7.out.frozen 2
                go_wp2
                refine bodyPost_ret (v := .tuple #[.agg (dtv 0 0 0), .int .i64 7]) (by simp [results, Tryz.results123, go_sem, dtv, *]; done) rfl ⟨.inr ⟨HNO.out, rfl⟩, ?_⟩
                exact ((C7.out.setCell (Nat.le_refl _) _).setCell (Nat.le_refl _) _).setCell (Nat.le_refl _) _
end Go.Proofs.YtbpnacacnncopaaGreatDoor
namespace Go.Proofs.YtbpnacacnncopaaGreatDoor
open Go.RowKit Go.Shelf Frm
open Lib (decDigits)
theorem getD_take (l : Bs) {k : Nat} (h : k < l.length) : l.take (k + 1) = l.take k ++ [l.getD k 0] := by
  rw [List.take_succ_eq_append_getElem h]
  congr 2
  rw [List.getD_eq_getElem?_getD, List.getElem?_eq_getElem h]
  rfl
theorem dig_bad {l : Bs} {k : Nat} (h : k < l.length) (hb : isD (l.getD k 0) = false) : digP l = (0, false) := by
  unfold digP
  rw [if_neg]
  intro ha
  rw [List.all_eq_true] at ha
  have hm : l.getD k 0 ∈ l := by rw [List.getD_eq_getElem?_getD, List.getElem?_eq_getElem h]; exact List.getElem_mem h
  rw [ha _ hm] at hb
  cases hb
theorem bytes_below (w : World) (e : TypeId) (s : ByteArray) : Below w.heap.size w (Lib.bytesWorld w e s) :=
  ⟨rfl, rfl, rfl, by rw [Lib.bytesWorld_size]; omega, fun k hk => Lib.bytesWorld_at_old w e s k hk⟩
set_option maxHeartbeats 2000000 in
set_option maxRecDepth 100000 in
theorem digits_any (l : Bs) (w : World) (hl : l.length ≤ 1000) :
    Calls Tryz.prog 127 #[tx l] w fun e w' => e = .returned (.tuple #[.int .i64 ((digP l).1 : Int), .bool (digP l).2]) ∧ Below w.heap.size w w' := by
  have hcv := Lib.run_convert_string_bytes (P := Tryz.prog) w 9 106 5 ⟨l.toArray⟩ (u := .string) Tryz.underlying9 Tryz.underlying106 Tryz.underlying5
  have hb := bytes_below w 5 ⟨l.toArray⟩
  have hc : ∀ j, j < l.length → (Lib.bytesWorld w 5 ⟨l.toArray⟩).cell? ⟨w.heap.size, j, none⟩ = some (.int .u8 (l.getD j 0).toNat) := fun j hj => Lib.bytesWorld_cell w _ ⟨l.toArray⟩ j (by rw [tx_size]; exact hj)
  have hsz := tx_size l
  rw [hsz] at hcv
  have hcap : l.length ≤ grownCap w l.length 0 5 := by
    exact grownCap_ge _ _ _ _
  generalize Lib.bytesWorld w 5 ⟨l.toArray⟩ = w1 at hcv hb hc
  generalize grownCap w l.length 0 5 = cp at hcv hcap
  obtain ⟨n, hn⟩ : ∃ n, l.length = n := ⟨_, rfl⟩
  have HC := Lib.hid hc
  have HN := Lib.hid hn
  rw [hn] at hcv hcap hl
  clear hc hn hsz
  go_enter Tryz.func127, Tryz.ntmps127
  go_wp2
  go_loopg [4, 10] n (fun gz s4 s10 wr => ∃ k : Nat, k ≤ n ∧ n - k ≤ gz ∧ s10 = .int .i64 (k : Int) ∧ s4 = .int .i64 ((numV (l.take k) : Nat) : Int) ∧ (∀ c ∈ l.take k, isD c = true) ∧ wr = w1)
  case atStart => exact ⟨0, Nat.zero_le _, by omega, rfl, rfl, fun c hc => by simp at hc, rfl⟩
  case round =>
    obtain ⟨k, hk, hg, rfl, rfl, hall, rfl⟩ := hrel
    have HA := Lib.hid hall
    have hv := numV_le (l.take k)
    clear hall
    by_cases hlt : k < n
    · have x := HC.out k (by rw [HN.out]; exact hlt)
      have ht := getD_take l (k := k) (by rw [HN.out]; exact hlt)
      have hbad := dig_bad (l := l) (k := k) (by rw [HN.out]; exact hlt)
      have hnx := numV_app (l.take k) (l.getD k 0)
      rw [← ht] at hnx
      have HT := Lib.hid ht
      obtain ⟨c, hc⟩ : ∃ c, l.getD k 0 = c := ⟨_, rfl⟩
      rw [hc] at x hbad hnx HT
      have hc2 : c.toNat < 256 := c.toNat_lt
      obtain ⟨z, hz⟩ : ∃ z, c.toNat = z := ⟨_, rfl⟩
      rw [hz] at x hnx hc2
      generalize numV (l.take k) = v at hv hnx ⊢
      have HX := Lib.hid hnx
      clear ht hnx
      by_cases hd : 48 ≤ z ∧ z ≤ 57
      · have hdc : isD c = true := by unfold isD; rw [hz]; simp; omega
        have d0 : decide ((z : Int) < 48) = false := decide_eq_false (by omega)
        have d1 : decide ((57 : Int) < (z : Int)) = false := decide_eq_false (by omega)
        have HD := Lib.hid hdc
        clear hbad hdc
        go_wp2
        go_roundg (n - (k + 1))
        case measure => omega
        case rel =>
          refine ⟨k + 1, by omega, by omega, by go_num, congrArg (Value.int .i64) (by rw [HX.out]; omega), fun x hx => ?_, rfl⟩
          rw [HT.out] at hx
          rcases List.mem_append.1 hx with h | h
          · exact HA.out x h
          · simp at h; subst h; exact HD.out
      · have hdc : isD c = false := by unfold isD; rw [hz]; simp; omega
        have hr := hbad hdc
        rcases Nat.lt_or_ge z 48 with h1 | h1
        · have d0 : decide ((z : Int) < 48) = true := decide_eq_true (by omega)
          clear hbad hdc hd
          go_wp2
          go_ret2
          exact ⟨by rw [hr]; rfl, hb⟩
        · have d0 : decide ((z : Int) < 48) = false := decide_eq_false (by omega)
          have d1 : decide ((57 : Int) < (z : Int)) = true := decide_eq_true (by omega)
          clear hbad hdc hd
          go_wp2
          go_ret2
          exact ⟨by rw [hr]; rfl, hb⟩
    · obtain rfl : k = n := by omega
      have hall : l.all isD = true := by
        have := HA.out
        rw [List.take_of_length_le (by rw [HN.out]; exact Nat.le_refl _)] at this
        exact List.all_eq_true.2 this
      have hr : digP l = (numV l, !l.isEmpty) := by unfold digP; rw [if_pos hall]
      have HR := Lib.hid hr
      clear hr hall
      have hlk : l.take k = l := List.take_of_length_le (by rw [HN.out]; exact Nat.le_refl _)
      rw [hlk]
      go_wp2
      go_ret2
      exact ⟨by simp [HR.out], hb⟩
theorem cutPrefix_tx (s p : Bs) (w : World) :
    Calls Tryz.prog 126 #[tx s, tx p] w fun e w' => e = .returned (.tuple #[tx (Lib.trimPrefix s p), .bool (Lib.hasPrefix s p)]) ∧ w' = w := cutPrefix_any ⟨s.toArray⟩ ⟨p.toArray⟩ w
theorem cut_tx (s p : Bs) (w : World) (hs : s.length < 4294967281) (hm : Mx w) :
    Calls Tryz.prog 122 #[tx s, tx p] w fun e w' => e = .returned (.tuple #[tx (Lib.cut s p).1, tx (Lib.cut s p).2.1, .bool (Lib.cut s p).2.2]) ∧ Below w.heap.size w w' := cut_any ⟨s.toArray⟩ ⟨p.toArray⟩ w (by rw [tx_size]; exact hs) hm
theorem trim_len (s p : Bs) : (Lib.trimPrefix s p).length ≤ s.length := by
  unfold Lib.trimPrefix
  split
  · rw [List.length_drop]; omega
  · exact Nat.le_refl _
theorem cut_len (s p : Bs) : (Lib.cut s p).1.length ≤ s.length ∧ (Lib.cut s p).2.1.length ≤ s.length := by
  unfold Lib.cut
  split
  · exact ⟨by rw [List.length_take]; omega, by rw [List.length_drop]; omega⟩
  · simp
theorem Mx.stays {w w' : World} (h : Mx w) (hb : Below w.heap.size w w') : Mx w' := by
  obtain ⟨m, hm⟩ := h
  have hlt := World.block_lt_of_cell? w _ hm
  exact ⟨m, (hb.cell (p := ⟨1, 0, none⟩) hlt).trans hm⟩
theorem getB {s : Bs} {k : Nat} {c : UInt8} (h : s[k]? = some c) : ∀ (hh : k < (⟨s.toArray⟩ : ByteArray).size), (⟨s.toArray⟩ : ByteArray)[k]'hh = c := by
  obtain ⟨hk, rfl⟩ := List.getElem?_eq_some_iff.1 h
  intro hh
  rfl
end Go.Proofs.YtbpnacacnncopaaGreatDoor
namespace Go.Proofs.YtbpnacacnncopaaGreatDoor
open Go.RowKit Go.Shelf Frm
open Lib (decDigits)
def fitB (n : Int) : Bool := decide (-1099511627776 ≤ n ∧ n ≤ 1099511627776)
set_option maxHeartbeats 400000 in
theorem fitsI_any (n : Int) (w : World) : Calls Tryz.prog 67 #[.int .i64 n] w fun e w' => e = .returned (.bool (fitB n)) ∧ w' = w := by
  unfold fitB
  by_cases h0 : -1099511627776 ≤ n
  · have d0 : decide (-1099511627776 ≤ n) = true := decide_eq_true h0
    go_enter Tryz.func67, Tryz.ntmps67
    go_wp2
    go_ret
    exact ⟨by simp [h0], rfl⟩
  · have d0 : decide (-1099511627776 ≤ n) = false := decide_eq_false h0
    go_enter Tryz.func67, Tryz.ntmps67
    go_wp2
    go_ret
    exact ⟨by simp, rfl⟩
/-- what Parse returns behind its checks -/
theorem endP_eq (neg : Bool) (d m t : Nat) (hd : d ≤ 1099511627776) : endP neg d m t = if fitB ((d * 60000 + m * 1000 + t : Nat) : Int) = true then (if neg = true then -((d * 60000 + m * 1000 + t : Nat) : Int) else ((d * 60000 + m * 1000 + t : Nat) : Int), 0) else (0, 5) := by
  unfold endP fitB
  rw [if_neg (by omega)]
  generalize d * 60000 + m * 1000 + t = z
  by_cases h : 1099511627776 < z
  · have hd2 : ¬ decide (-1099511627776 ≤ (z : Int) ∧ (z : Int) ≤ 1099511627776) = true := by rw [decide_eq_true_eq]; omega
    rw [if_pos h, if_neg hd2]
  · have hd2 : decide (-1099511627776 ≤ (z : Int) ∧ (z : Int) ≤ 1099511627776) = true := decide_eq_true (by omega)
    rw [if_neg h, if_pos hd2]
/-- what is known of a line's parts -/
structure PrsOk (s D M P : Bs) (ok pt : Bool) (neg : Bool) : Prop where
  lD : D.length ≤ 1000
  lM : M.length ≤ 1000
  lP : P.length ≤ 1000
  val : parseP s = if pt = true ∧ ((digP P).2 = false ∨ 3 < P.length) then (0, 7)
    else if ok = false ∨ (digP D).2 = false ∨ (digP M).2 = false ∨ (1 < D.length ∧ D.head? = some 48) ∨ M.length ≠ 2 ∨ 60 ≤ (digP M).1 then (0, 7)
    else endP neg (digP D).1 (digP M).1 (if pt = true then (digP P).1 * 10 ^ (3 - P.length) else 0)
set_option maxHeartbeats 4000000 in
set_option maxRecDepth 100000 in
theorem parse_any (s : Bs) (w : World) (hl : s.length ≤ 1000) (hm : Mx w) :
    Calls Tryz.prog 85 #[tx s] w fun e w' => e = .returned (.tuple #[.int .i64 (parseP s).1, .int .i64 (parseP s).2]) ∧ Below w.heap.size w w' := by
  have K0 := cutPrefix_tx s [45] w
  have h0 := trim_len s [45]
  have hPO : ∀ D R M P ok pt, Lib.cut (Lib.trimPrefix s [45]) [45] = (D, R, ok) → Lib.cut R [46] = (M, P, pt) → PrsOk s D M P ok pt (Lib.hasPrefix s [45]) := fun D R M P ok pt e1 e2 => by
    have a1 := cut_len (Lib.trimPrefix s [45]) [45]
    have a2 := cut_len R [46]
    rw [e1] at a1
    rw [e2] at a2
    simp only [] at a1 a2
    refine ⟨by omega, by omega, by omega, ?_⟩
    unfold parseP
    simp only [e1, e2]
  generalize Lib.trimPrefix s [45] = b at K0 h0 hPO
  generalize Lib.hasPrefix s [45] = neg at K0 hPO
  have hlb : b.length ≤ 1000 := by omega
  have K1 := cut_tx b [45] w (by omega) hm
  have a1 := cut_len b [45]
  obtain ⟨⟨D, R, ok⟩, hc1⟩ : ∃ x, Lib.cut b [45] = x := ⟨_, rfl⟩
  rw [hc1] at K1 a1
  simp only [] at K1 a1
  have K2 := Lib.hid (fun (W : World) (h : Below w.heap.size w W) => cut_tx R [46] W (by omega) (hm.stays h))
  obtain ⟨⟨M, P, pt⟩, hc2⟩ : ∃ x, Lib.cut R [46] = x := ⟨_, rfl⟩
  rw [hc2] at K2
  simp only [] at K2
  have PO := Lib.hid (hPO D R M P ok pt hc1 hc2)
  replace K0 := Lib.hid K0
  replace K1 := Lib.hid K1
  have KD := Lib.hid (fun W => digits_any D W PO.out.lD)
  have KM := Lib.hid (fun W => digits_any M W PO.out.lM)
  have KP := Lib.hid (fun W => digits_any P W PO.out.lP)
  have lD := PO.out.lD
  have lM := PO.out.lM
  have lP := PO.out.lP
  have VV := Lib.hid PO.out.val
  have bD := digP_le D
  have bM := digP_le M
  have bP := digP_le P
  have sD := tx_size D
  have sM := tx_size M
  have sP := tx_size P
  clear hPO hc1 hc2 hm a1 h0 hlb hl PO
  obtain ⟨⟨d, da⟩, hd⟩ : ∃ x, digP D = x := ⟨_, rfl⟩
  obtain ⟨⟨m, mb⟩, hmm⟩ : ∃ x, digP M = x := ⟨_, rfl⟩
  obtain ⟨⟨t, tc⟩, ht⟩ : ∃ x, digP P = x := ⟨_, rfl⟩
  rw [hd] at KD VV bD
  rw [hmm] at KM VV bM
  rw [ht] at KP VV bP
  simp only [] at KD KM KP bD bM bP VV
  clear hd hmm ht
  generalize parseP s = res at VV ⊢
  go_enter Tryz.func85, Tryz.ntmps85
  clear bD bM sD sM sP
  go_wp2_with fail
  (with_reducible refine (K0.out).mono ?_)
  rintro e w1 ⟨rfl, rfl⟩
  go_wp2_with fail
  (with_reducible refine (K1.out).mono ?_)
  rintro e w2 ⟨rfl, hb2⟩
  have B2 := Lib.hid hb2
  have K3 := Lib.hid (K2.out w2 hb2)
  clear hb2 K0 K1 K2
  go_wp2_with fail
  (with_reducible refine (K3.out).mono ?_)
  rintro e w3 ⟨rfl, hb3⟩
  have B3 := Lib.hid (B2.out.trans (hb3.mono B2.out.size))
  clear hb3 K3 B2
  go_wp2_with fail
  (with_reducible refine (KD.out _).mono ?_)
  rintro e w4 ⟨rfl, hb4⟩
  have B4 := Lib.hid (B3.out.trans (hb4.mono B3.out.size))
  clear hb4 KD B3
  go_wp2_with fail
  (with_reducible refine (KM.out _).mono ?_)
  rintro e w5 ⟨rfl, hb5⟩
  have B5 := Lib.hid (B4.out.trans (hb5.mono B4.out.size))
  clear hb5 KM B4
  obtain ⟨T, hT⟩ : ∃ T : Nat, (if pt = true then t * 10 ^ (3 - P.length) else 0) = T := ⟨_, rfl⟩
  have VT := VV.out
  rw [hT] at VT
  have VV := Lib.hid VT
  clear VT
  go_upto_if 46 with (fail)
  go_cut [16] from 46 to 111 (fun s16 wx => s16 = .int .i64 (T : Int) ∧ Below w1.heap.size w1 wx ∧ ¬ (pt = true ∧ (tc = false ∨ 3 < P.length)))
  case first =>
    cases pt with
    | true =>
      go_wp2_with fail
      (with_reducible refine (KP.out _).mono ?_)
      rintro e w6 ⟨rfl, hb6⟩
      have B6 := Lib.hid (B5.out.trans (hb6.mono B5.out.size))
      clear hb6 KP B5
      cases tc with
      | false =>
        obtain rfl : res = (0, 7) := by have := VV.out; simpa using this
        clear VV hT
        go_wp2
        go_ret2
        exact ⟨rfl, B6.out⟩
      | true =>
      by_cases h3 : 3 < P.length
      · obtain rfl : res = (0, 7) := by have := VV.out; simpa [h3] using this
        have d3 : decide ((3 : Int) < (P.length : Int)) = true := decide_eq_true (by omega)
        clear VV hT
        go_wp2
        go_ret2
        exact ⟨rfl, B6.out⟩
      have d3 : decide ((3 : Int) < (P.length : Int)) = false := decide_eq_false (by omega)
      obtain ⟨r, hr⟩ : ∃ r : Nat, 3 - P.length = r := ⟨_, rfl⟩
      have hr2 : (3 : Int) - (P.length : Int) = (r : Int) := by omega
      have r3 : r ≤ 3 := by omega
      have hT2 : t * 10 ^ r = T := by rw [← hT]; simp [hr]
      have HT2 := Lib.hid hT2
      have H3 := Lib.hid h3
      clear hT hT2 hr h3
      go_wp2
      go_loopg [16, 62] r (fun gz s16 s62 wr => ∃ j : Nat, j ≤ r ∧ r - j ≤ gz ∧ s62 = .int .i64 (j : Int) ∧ s16 = .int .i64 ((t * 10 ^ j : Nat) : Int) ∧ wr = w6)
      case atStart => exact ⟨0, Nat.zero_le _, by omega, rfl, by simp, rfl⟩
      case round =>
        obtain ⟨j, hj, hg, rfl, rfl, rfl⟩ := hrel
        have hpw : 10 ^ j ≤ 10 ^ 3 := Nat.pow_le_pow_right (by decide) (by omega)
        have hub : t * 10 ^ j ≤ 1125899906842624 * 1000 := Nat.mul_le_mul bP hpw
        obtain ⟨u, hu⟩ : ∃ u, t * 10 ^ j = u := ⟨_, rfl⟩
        rw [hu] at hub ⊢
        by_cases hlt : j < r
        · have dj : decide ((j : Int) < (r : Int)) = true := decide_eq_true (by omega)
          have hnx : ((u : Int)) * 10 = ((t * 10 ^ (j + 1) : Nat) : Int) := by rw [Nat.pow_succ, ← Nat.mul_assoc, hu]; omega
          have HNX := Lib.hid hnx
          have hpw2 : 10 ^ j ≤ 10 ^ 2 := Nat.pow_le_pow_right (by decide) (by omega)
          have hub2 : t * 10 ^ j ≤ 1125899906842624 * 100 := Nat.mul_le_mul bP hpw2
          rw [hu] at hub2
          have hw9 : wrap64 ((u : Int) * 10) = (u : Int) * 10 := IntWalk.wrap64_in _ (by omega)
          clear hnx
          go_wp2
          go_roundg (r - (j + 1))
          case measure => omega
          case rel => exact ⟨j + 1, by omega, by omega, by go_num, congrArg (Value.int .i64) HNX.out, rfl⟩
        · obtain rfl : j = r := by omega
          have dj : decide ((j : Int) < (j : Int)) = false := decide_eq_false (by omega)
          have HU := Lib.hid hu
          clear hu hpw
          go_wp2_with fail
          go_meet
          case rel => exact ⟨congrArg (fun n : Nat => Value.int .i64 (n : Int)) (HU.out.symm.trans HT2.out), B6.out, fun h => h.2.elim (fun q => by cases q) (fun q => H3.out q)⟩
    | false =>
      go_wp2_with fail
      go_meet
      case rel => exact ⟨by rw [← hT]; rfl, B5.out, fun h => by cases h.1⟩
  case rest =>
  obtain ⟨rfl, hbc, hnp⟩ := hcut
  have BC := Lib.hid hbc
  have VT := VV.out
  rw [if_neg hnp] at VT
  have tT : T ≤ 1125899906842624 * 1000 := by
    rw [← hT]
    split
    · exact Nat.mul_le_mul bP (Nat.pow_le_pow_right (by decide) (by omega) : 10 ^ (3 - P.length) ≤ 10 ^ 3)
    · omega
  have bD := digP_le D
  have VV := Lib.hid VT
  clear hbc hnp hT VT KP B5 lP bP
  obtain ⟨bad, hbad⟩ : ∃ bad : Bool, (bad = true ↔ (ok = false ∨ da = false ∨ mb = false ∨ (1 < D.length ∧ D.head? = some 48) ∨ M.length ≠ 2 ∨ 60 ≤ m)) := ⟨decide (ok = false ∨ da = false ∨ mb = false ∨ (1 < D.length ∧ D.head? = some 48) ∨ M.length ≠ 2 ∨ 60 ≤ m), decide_eq_true_iff⟩
  have HB := Lib.hid hbad
  clear hbad
  go_upto_region 16 with (fail)
  go_cut [95] from 67 to 111 (fun c wx => c = .bool bad ∧ wx = wc)
  case first =>
    clear VV BC
    cases ok with
    | false =>
      obtain rfl : bad = true := HB.out.2 (by simp)
      clear HB
      go_wp2_with fail
      go_meet
      case rel => exact ⟨rfl, rfl⟩
    | true =>
    cases da with
    | false =>
      obtain rfl : bad = true := HB.out.2 (by simp)
      clear HB
      go_wp2_with fail
      go_meet
      case rel => exact ⟨rfl, rfl⟩
    | true =>
    cases mb with
    | false =>
      obtain rfl : bad = true := HB.out.2 (by simp)
      clear HB
      go_wp2_with fail
      go_meet
      case rel => exact ⟨rfl, rfl⟩
    | true =>
    cases D with
    | nil =>
      have dl : decide ((1 : Int) < 0) = false := by decide
      by_cases hM : M.length = 2
      · have hM1 : ((M.length : Int) != 2) = false := by rw [hM]; rfl
        by_cases h60 : 60 ≤ m
        · have d6 : decide ((60 : Int) ≤ (m : Int)) = true := decide_eq_true (by omega)
          obtain rfl : bad = true := HB.out.2 (by simp [h60])
          clear HB hM h60
          go_wp2_with fail
          go_meet
          case rel => exact ⟨rfl, rfl⟩
        · have d6 : decide ((60 : Int) ≤ (m : Int)) = false := decide_eq_false (by omega)
          obtain rfl : bad = false := by cases bad with | false => rfl | true => (have := HB.out.1 rfl; simp at this; omega)
          clear HB hM h60
          go_wp2_with fail
          go_meet
          case rel => exact ⟨rfl, rfl⟩
      · have hM1 : ((M.length : Int) != 2) = true := by simp; omega
        obtain rfl : bad = true := HB.out.2 (by simp [hM])
        clear HB hM
        go_wp2_with fail
        go_meet
        case rel => exact ⟨rfl, rfl⟩
    | cons x D' =>
      have hl2 : (x :: D').length = D'.length + 1 := rfl
      have g0 := getB (s := x :: D') (k := 0) (c := x) rfl
      by_cases hl1 : 1 < (x :: D').length
      · have dl : decide ((1 : Int) < (D'.length : Int) + 1) = true := decide_eq_true (by omega)
        by_cases hc : x = 48
        · subst hc
          clear hl2
          obtain rfl : bad = true := HB.out.2 (.inr (.inr (.inr (.inl ⟨hl1, rfl⟩))))
          clear HB hl1
          go_wp2_with fail
          go_meet
          case rel => exact ⟨rfl, rfl⟩
        · have hcn : x.toNat ≠ 48 := fun h => hc (UInt8.toNat_inj.1 h)
          have hc2 : ((x.toNat : Int) == 48) = false := by simp; omega
          by_cases hM : M.length = 2
          · have hM1 : ((M.length : Int) != 2) = false := by rw [hM]; rfl
            by_cases h60 : 60 ≤ m
            · have d6 : decide ((60 : Int) ≤ (m : Int)) = true := decide_eq_true (by omega)
              obtain rfl : bad = true := HB.out.2 (by simp [h60])
              clear HB hM h60 hl1 hl2 hc hcn
              go_wp2_with fail
              go_meet
              case rel => exact ⟨rfl, rfl⟩
            · have d6 : decide ((60 : Int) ≤ (m : Int)) = false := decide_eq_false (by omega)
              obtain rfl : bad = false := by cases bad with | false => rfl | true => (have := HB.out.1 rfl; simp [hc] at this; omega)
              clear HB hM h60 hl1 hl2 hc hcn
              go_wp2_with fail
              go_meet
              case rel => exact ⟨rfl, rfl⟩
          · have hM1 : ((M.length : Int) != 2) = true := by simp; omega
            obtain rfl : bad = true := HB.out.2 (by simp [hM])
            clear HB hM hl1 hl2 hc hcn
            go_wp2_with fail
            go_meet
            case rel => exact ⟨rfl, rfl⟩
      · have dl : decide ((1 : Int) < (D'.length : Int) + 1) = false := decide_eq_false (by omega)
        by_cases hM : M.length = 2
        · have hM1 : ((M.length : Int) != 2) = false := by rw [hM]; rfl
          by_cases h60 : 60 ≤ m
          · have d6 : decide ((60 : Int) ≤ (m : Int)) = true := decide_eq_true (by omega)
            obtain rfl : bad = true := HB.out.2 (by simp [h60])
            clear HB hM h60 hl1 hl2
            go_wp2_with fail
            go_meet
            case rel => exact ⟨rfl, rfl⟩
          · have d6 : decide ((60 : Int) ≤ (m : Int)) = false := decide_eq_false (by omega)
            obtain rfl : bad = false := by cases bad with | false => rfl | true => (rcases HB.out.1 rfl with h | h | h | ⟨h, _⟩ | h | h; cases h; cases h; cases h; exact absurd h hl1; exact absurd hM h; omega)
            clear HB hM h60 hl1 hl2
            go_wp2_with fail
            go_meet
            case rel => exact ⟨rfl, rfl⟩
        · have hM1 : ((M.length : Int) != 2) = true := by simp; omega
          obtain rfl : bad = true := HB.out.2 (by simp [hM])
          clear HB hM hl1 hl2
          go_wp2_with fail
          go_meet
          case rel => exact ⟨rfl, rfl⟩
  case rest =>
  obtain ⟨rfl, rfl⟩ := hcut
  have hcond : (ok = false ∨ da = false ∨ mb = false ∨ (1 < D.length ∧ D.head? = some 48) ∨ M.length ≠ 2 ∨ 60 ≤ m) ↔ bad = true := HB.out.symm
  have VT := VV.out
  clear VV HB
  cases bad with
  | true =>
    rw [if_pos (hcond.2 rfl)] at VT
    subst VT
    clear hcond
    go_wp2
    go_ret2
    exact ⟨rfl, BC.out⟩
  | false =>
  have hm60 : m < 60 := by
    rcases Nat.lt_or_ge m 60 with h | h
    · exact h
    · exact absurd (hcond.1 (.inr (.inr (.inr (.inr (.inr h)))))) (by simp)
  rw [if_neg (fun h => by simpa using hcond.1 h)] at VT
  clear hcond
  by_cases hd : d ≤ 1099511627776
  · have d7 : decide ((1099511627776 : Int) < (d : Int)) = false := decide_eq_false (by omega)
    rw [endP_eq _ _ _ _ hd] at VT
    have hz1 : wrap64 ((d : Int) * 60000) = (d : Int) * 60000 := IntWalk.wrap64_in _ (by omega)
    have hz2 : wrap64 ((m : Int) * 1000) = (m : Int) * 1000 := IntWalk.wrap64_in _ (by omega)
    have hz3 : wrap64 ((d : Int) * 60000 + (m : Int) * 1000) = (d : Int) * 60000 + (m : Int) * 1000 := IntWalk.wrap64_in _ (by omega)
    have hz4 : wrap64 ((d : Int) * 60000 + (m : Int) * 1000 + (T : Int)) = (d : Int) * 60000 + (m : Int) * 1000 + (T : Int) := IntWalk.wrap64_in _ (by omega)
    have hzc : ((d * 60000 + m * 1000 + T : Nat) : Int) = (d : Int) * 60000 + (m : Int) * 1000 + (T : Int) := by omega
    rw [hzc] at VT
    have hzb : 0 ≤ (d : Int) * 60000 + (m : Int) * 1000 + (T : Int) ∧ (d : Int) * 60000 + (m : Int) * 1000 + (T : Int) ≤ 9000000000000000000 := by omega
    have w2' : wrap64 (-((d : Int) * 60000 + (m : Int) * 1000 + (T : Int))) = -((d : Int) * 60000 + (m : Int) * 1000 + (T : Int)) := IntWalk.wrap64_in _ (by omega)
    have KZ := fun W => fitsI_any ((d : Int) * 60000 + (m : Int) * 1000 + (T : Int)) W
    clear hzc
    cases hf : fitB ((d : Int) * 60000 + (m : Int) * 1000 + (T : Int)) with
    | false =>
      rw [hf] at KZ VT
      simp only [Bool.false_eq_true, if_false] at VT
      subst VT
      replace KZ := Lib.hid KZ
      clear hf
      go_wp2_with fail
      (with_reducible refine (KZ.out _).mono ?_)
      rintro e w9 ⟨rfl, rfl⟩
      go_wp2
      go_ret2
      exact ⟨rfl, BC.out⟩
    | true =>
      rw [hf] at KZ VT
      simp only [if_true] at VT
      replace KZ := Lib.hid KZ
      clear hf
      cases neg with
      | true =>
        simp only [if_true] at VT
        subst VT
        go_wp2_with fail
        (with_reducible refine (KZ.out _).mono ?_)
        rintro e w9 ⟨rfl, rfl⟩
        go_wp2
        go_ret2
        exact ⟨rfl, BC.out⟩
      | false =>
        simp only [Bool.false_eq_true, if_false] at VT
        subst VT
        go_wp2_with fail
        (with_reducible refine (KZ.out _).mono ?_)
        rintro e w9 ⟨rfl, rfl⟩
        go_wp2
        go_ret2
        exact ⟨rfl, BC.out⟩
  · have d7 : decide ((1099511627776 : Int) < (d : Int)) = true := decide_eq_true (by omega)
    have VU : (0, 5) = res := by rw [VT]; unfold endP; rw [if_pos (by omega)]
    clear VT
    subst VU
    go_wp2
    go_ret2
    exact ⟨rfl, BC.out⟩
end Go.Proofs.YtbpnacacnncopaaGreatDoor
