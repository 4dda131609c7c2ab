/- The walk of layer 52's example. -/
import Derived.Test.YtfeianjdedgdoaaGBl
import Derived.Test.YtfeianjdedgdoaaGBp
set_option linter.unusedVariables false
set_option linter.unusedSimpArgs false
/- The walk of choose.Spread. -/
namespace Go.Proofs.Ytfeianjdedgdoaa
open Go.RowKit Spd
theorem prV_wide {a b : Sp} (h : 21600000 ≤ a.2 - a.1 + b.2 - b.1) : prV a b = 0 := by unfold prV; rw [if_pos h]
theorem prV_fold {a b : Sp} {m wd : Int} (h : ¬ 21600000 ≤ a.2 - a.1 + b.2 - b.1) (hw : a.2 - a.1 + b.2 - b.1 = wd) (hm : (b.1 - a.2) % 21600000 = m) : prV a b = foldV m (m + wd) := by unfold prV; rw [if_neg h, hw, hm]
set_option maxHeartbeats 8000000 in
set_option maxRecDepth 100000 in
theorem Spread_yes (A : Option Addr) (n c : Nat) (L : List Sp) (w : World) (hr : Reads w w.heap.size 2 A n (aqvs L)) (hc : n ≤ c) (hcm : c ≤ maxLen) (h2 : 2 ≤ n) (h40 : n ≤ 40) (hv : ∀ x ∈ L, avB x.1 x.2 = true) :
    Calls Try.prog 7 #[.slice A n c] w fun e w' => e = .returned (.tuple #[.int .i64 (spd L n), .int .i64 0]) ∧ Below w.heap.size w w' := by
  have hl := aq_len hr
  have hany : (L.any fun x => !(avB x.1 x.2)) = false := by
    rw [List.any_eq_false]
    intro x hx
    rw [hv x hx]
    simp
  have KN := noBad_any A n c L w hr (by unfold maxLen; omega)
  rw [hany] at KN
  have KN := Lib.hid KN
  have HV : Hid (∀ k, k < n → -1099511627776 ≤ (gs L k).1 ∧ (gs L k).1 ≤ (gs L k).2 ∧ (gs L k).2 ≤ 1099511627776) := Lib.hid (fun k hk => by
    have hm : gs L k ∈ L := by simp [gs, show k < L.length by omega]
    exact avB_true.1 (hv _ hm))
  obtain ⟨b, off, rfl, hb, -, -⟩ := aq_elem hr (k := 0) (by omega)
  have X : Hid (∀ W, Below w.heap.size w W → ∀ k, k < n → W.cell? ⟨b, off + k * 2, none⟩ = some (.int .i64 (gs L k).1) ∧ W.cell? ⟨b, off + k * 2 + 1, none⟩ = some (.int .i64 (gs L k).2)) := Lib.hid (fun W hW k hk => by
    obtain ⟨b', off', e, hb', x0, x1⟩ := aq_elem hr hk
    cases e
    exact ⟨(hW.cell (p := ⟨b, off + k * 2, none⟩) hb).trans x0, (hW.cell (p := ⟨b, off + k * 2 + 1, none⟩) hb).trans x1⟩)
  have hn2 : decide ((n : Int) < 2) = false := decide_eq_false (by omega)
  have hn40 : decide (40 < (n : Int)) = false := decide_eq_false (by omega)
  clear hr hl hany hv
  unfold maxLen at hcm
  go_enter Try.func7, Try.ntmps7
  go_wp2_with fail
  (with_reducible refine (KN.out).mono ?_)
  rintro e w1 ⟨rfl, hb1⟩
  have B1 := Lib.hid hb1
  clear hb1 KN
  go_wp2
  go_loopw [4, 24] (fun v4 v24 wr => ∃ i : Nat, i ≤ n ∧ v24 = .int .i64 i ∧ v4 = .int .i64 (spd L i) ∧ Below w.heap.size w wr) (fun _ v24 _ => n - (intOf v24).toNat)
  case atStart => exact ⟨0, Nat.zero_le _, rfl, rfl, B1.out⟩
  case round =>
    obtain ⟨i, hi, rfl, rfl, hB⟩ := hrel
    clear B1
    have HB := Lib.hid hB
    clear hB
    by_cases hlt : i < n
    · obtain ⟨y0, y1⟩ := X.out wr HB.out i hlt
      have hva := HV.out i hlt
      have HSP : Hid (spd L (i + 1) = inn L i (spd L i) i) := Lib.hid rfl
      have hsb := spd_bd L i
      obtain ⟨a, ha⟩ : ∃ a, gs L i = a := ⟨_, rfl⟩
      have HA := Lib.hid ha
      rw [ha] at y0 y1 hva
      obtain ⟨a0, a1⟩ := a
      simp only [] at y0 y1 hva
      obtain ⟨s, hs⟩ : ∃ s, spd L i = s := ⟨_, rfl⟩
      rw [hs] at HSP hsb
      rw [hs]
      clear ha hs
      have DA := Lib.hid (D2.new wr a0 a1 26)
      have B2 := Lib.hid (HB.out.alloc HB.out.size (.cells #[.int .i64 a0, .int .i64 a1] 26))
      have hga : w.heap.size ≤ wr.heap.size := HB.out.size
      have hic : i ≤ c := by omega
      have nwa : wrap64 (a1 - a0) = a1 - a0 := IntWalk.wrap64_in _ (by omega)
      generalize hgg : wr.heap.size = ga at *
      go_wp2
      clear y0 y1
      go_loopw [4, 33] (fun v4 v33 wq => ∃ k : Nat, k ≤ i ∧ v33 = .int .i64 k ∧ v4 = .int .i64 (inn L i s k) ∧ D2 wq ga a0 a1 ∧ Below w.heap.size w wq) (fun _ v33 _ => i - (intOf v33).toNat)
      case atStart => exact ⟨0, Nat.zero_le _, rfl, rfl, DA.out, B2.out⟩
      case round =>
        obtain ⟨k, hk, rfl, rfl, hD, hB⟩ := hrel
        clear DA B2
        have HD := Lib.hid hD
        have HB := Lib.hid hB
        clear hD hB
        by_cases hkt : k < i
        · obtain ⟨y0, y1⟩ := X.out wr HB.out k (by omega)
          have hvb := HV.out k (by omega)
          have HIN : Hid (inn L i s (k + 1) = min (inn L i s k) (prV (gs L i) (gs L k))) := Lib.hid rfl
          have hib := inn_bd L i s k hsb.1 hsb.2
          have HZ := Lib.hid (fun (h : prV (gs L i) (gs L k) = 0) => spd_zero L hlt hkt h)
          rw [HA.out] at HIN HZ
          obtain ⟨⟨b0, b1⟩, hbq⟩ : ∃ x, gs L k = x := ⟨_, rfl⟩
          rw [hbq] at y0 y1 hvb HIN HZ
          simp only [] at y0 y1 hvb
          obtain ⟨q, hq⟩ : ∃ q, inn L i s k = q := ⟨_, rfl⟩
          rw [hq] at HIN hib
          rw [hq]
          clear hbq hq
          have nwb : wrap64 (b1 - b0) = b1 - b0 := IntWalk.wrap64_in _ (by omega)
          have n1 : wrap64 (a1 - a0 + b1) = a1 - a0 + b1 := IntWalk.wrap64_in _ (by omega)
          have n2 : wrap64 (a1 - a0 + b1 - b0) = a1 - a0 + b1 - b0 := IntWalk.wrap64_in _ (by omega)
          have DB := Lib.hid (D2.new wr b0 b1 26)
          have HD2 := Lib.hid (HD.out.alloc (.cells #[.int .i64 b0, .int .i64 b1] 26))
          have HB2 := Lib.hid (HB.out.alloc HB.out.size (.cells #[.int .i64 b0, .int .i64 b1] 26))
          have hlg := HD.out.lt
          obtain ⟨-, d0, d1, -, -⟩ := HD2.out
          by_cases c1 : 21600000 ≤ a1 - a0
          · have e1 : decide (21600000 ≤ a1 - a0) = true := decide_eq_true c1
            have hz := HZ.out (prV_wide (by simp only []; omega))
            have HZ := Lib.hid hz
            clear hz c1
            go_wp2
            exact bodyPost_ret (v := .tuple #[.int .i64 0, .int .i64 0]) (by simp [results, Try.results7, go_sem]) rfl ⟨by rw [HZ.out], HB2.out⟩
          · have e1 : decide (21600000 ≤ a1 - a0) = false := decide_eq_false c1
            by_cases c2 : 21600000 ≤ b1 - b0
            · have e2 : decide (21600000 ≤ b1 - b0) = true := decide_eq_true c2
              have hz := HZ.out (prV_wide (by simp only []; omega))
              have HZ := Lib.hid hz
              clear hz c1 c2
              go_wp2
              exact bodyPost_ret (v := .tuple #[.int .i64 0, .int .i64 0]) (by simp [results, Try.results7, go_sem]) rfl ⟨by rw [HZ.out], HB2.out⟩
            · have e2 : decide (21600000 ≤ b1 - b0) = false := decide_eq_false c2
              by_cases c3 : 21600000 ≤ a1 - a0 + b1 - b0
              · have e3 : decide (21600000 ≤ a1 - a0 + b1 - b0) = true := decide_eq_true c3
                have hz := HZ.out (prV_wide c3)
                have HZ := Lib.hid hz
                clear hz c1 c2 c3
                go_wp2
                exact bodyPost_ret (v := .tuple #[.int .i64 0, .int .i64 0]) (by simp [results, Try.results7, go_sem]) rfl ⟨by rw [HZ.out], HB2.out⟩
              · have e3 : decide (21600000 ≤ a1 - a0 + b1 - b0) = false := decide_eq_false c3
                obtain ⟨m, hm⟩ : ∃ m, (b0 - a1) % 21600000 = m := ⟨_, rfl⟩
                obtain ⟨wd, hwd⟩ : ∃ wd, a1 - a0 + b1 - b0 = wd := ⟨_, rfl⟩
                have HPV := Lib.hid (prV_fold (a := (a0, a1)) (b := (b0, b1)) c3 hwd hm)
                have hm0 : 0 ≤ m ∧ m < 21600000 := by omega
                have hw0 : 0 ≤ wd ∧ wd < 21600000 := by omega
                have K1 := Lib.hid (fun W => WrapQ_any b0 W)
                have K2 := Lib.hid (fun W => WrapQ_any a1 W)
                have k3 := fun W => WrapQ_any (b0 % 21600000 - a1 % 21600000) W
                rw [show (b0 % 21600000 - a1 % 21600000) % 21600000 = m by omega] at k3
                have K3 := Lib.hid k3
                have n3 : wrap64 (b0 % 21600000 - a1 % 21600000) = b0 % 21600000 - a1 % 21600000 := IntWalk.wrap64_in _ (by omega)
                have n4 : wrap64 (m + wd) = m + wd := IntWalk.wrap64_in _ (by omega)
                have KF := Lib.hid (fun W => fold_any m (m + wd) W (by omega) (by omega) (by omega))
                have hfb := foldV_bd m (m + wd)
                generalize foldV m (m + wd) = fv at *
                rw [hwd] at n2 e3
                have e4 : decide (21600000 ≤ wd) = false := e3
                clear k3 hm c1 c2 c3 HZ
                generalize b0 % 21600000 = r0 at *
                generalize a1 % 21600000 = r1 at *
                go_upto_region 19 with (fail)
                obtain ⟨WB, hWB⟩ : ∃ WB, wr.alloc (.cells #[.int .i64 b0, .int .i64 b1] 26) = WB := ⟨_, rfl⟩
                rw [hWB] at DB HD2 HB2 ⊢
                clear hWB d0 d1 y0 y1
                generalize wr.heap.size = gb at *
                have c0 : ∀ s : BVq WB, s.w.cell? ⟨gb, 0, none⟩ = some (.int .i64 b0) := fun s => (DB.out.below s.hb DB.out.lt).c0
                have c1 : ∀ s : BVq WB, s.w.cell? ⟨ga, 1, none⟩ = some (.int .i64 a1) := fun s => (HD2.out.below s.hb HD2.out.lt).c1
                refine wp_region_bvq WB (by kernel_rfl) (by kernel_rfl) (Below.refl _ _) ?_
                (repeat (go_big_quiet_step (first | (go_at_call 15; with_reducible exact quiet_bvq (K1.out _)) | (go_at_call 15; with_reducible exact quiet_bvq (K2.out _)) | (go_at_call 15; with_reducible exact quiet_bvq (K3.out _)) | fail)))
                refine wpQuiet_nil ?_
                intro w5 hb5
                clear c0 c1
                have HD5 := Lib.hid (HD2.out.below hb5 HD2.out.lt)
                have HB5 := Lib.hid (HB2.out.trans (hb5.mono HB2.out.size))
                clear hb5 HD2 HB2 DB HD HB
                go_wp2_with fail
                (with_reducible refine (KF.out _).mono ?_)
                rintro e w6 ⟨rfl, hb6⟩
                go_wp2
                go_roundw
                case rel => exact ⟨k + 1, by omega, by go_num, by rw [HIN.out, HPV.out], HD5.out.below hb6 HD5.out.lt, HB5.out.trans (hb6.mono HB5.out.size)⟩
                case measure => simp [intOf]; omega
        · obtain rfl : k = i := by omega
          have HIS := Lib.hid HSP.out
          obtain ⟨q, hq⟩ : ∃ q, inn L k s k = q := ⟨_, rfl⟩
          rw [hq] at HIS
          rw [hq]
          clear hq HSP
          go_wp2
          go_roundw
          case rel => exact ⟨k + 1, by omega, by go_num, by rw [HIS.out], HB.out⟩
          case measure => simp [intOf]; omega
    · obtain rfl : i = n := by omega
      obtain ⟨s, hs⟩ : ∃ s, spd L i = s := ⟨_, rfl⟩
      rw [hs]
      have HS := Lib.hid hs
      clear hs
      go_wp2
      exact bodyPost_ret (v := .tuple #[.int .i64 s, .int .i64 0]) (by simp [results, Try.results7, go_sem]) rfl ⟨by rw [HS.out], HB.out⟩
end Go.Proofs.Ytfeianjdedgdoaa
/- The walk of choose.Spread where there is an error. -/
namespace Go.Proofs.Ytfeianjdedgdoaa
open Go.RowKit Spd
set_option maxHeartbeats 1000000 in
set_option maxRecDepth 100000 in
theorem Spread_no (A : Option Addr) (n c : Nat) (L : List Sp) (E : Int) (w : World) (hr : Reads w w.heap.size 2 A n (aqvs L)) (h40 : n ≤ 40) (hE : ((L.any fun x => !(avB x.1 x.2)) = true ∧ E = 1) ∨ ((L.any fun x => !(avB x.1 x.2)) = false ∧ n < 2 ∧ E = 3)) :
    Calls Try.prog 7 #[.slice A n c] w fun e w' => e = .returned (.tuple #[.int .i64 0, .int .i64 E]) ∧ Below w.heap.size w w' := by
  have KN := noBad_any A n c L w hr (by unfold maxLen; omega)
  clear hr
  rcases hE with ⟨h, rfl⟩ | ⟨h, h2, rfl⟩
  · rw [h] at KN
    have KN := Lib.hid KN
    go_enter Try.func7, Try.ntmps7
    go_wp2_with fail
    (with_reducible refine (KN.out).mono ?_)
    rintro e w1 ⟨rfl, hb1⟩
    go_wp2
    exact bodyPost_ret (v := .tuple #[.int .i64 0, .int .i64 1]) (by simp [results, Try.results7, go_sem]) rfl ⟨rfl, hb1⟩
  · rw [h] at KN
    have KN := Lib.hid KN
    have hn2 : decide ((n : Int) < 2) = true := decide_eq_true (by omega)
    go_enter Try.func7, Try.ntmps7
    go_wp2_with fail
    (with_reducible refine (KN.out).mono ?_)
    rintro e w1 ⟨rfl, hb1⟩
    go_wp2
    exact bodyPost_ret (v := .tuple #[.int .i64 0, .int .i64 3]) (by simp [results, Try.results7, go_sem]) rfl ⟨rfl, hb1⟩
end Go.Proofs.Ytfeianjdedgdoaa
namespace Go.Proofs.Ytfeianjdedgdoaa
open Go.RowKit Spd
set_option maxHeartbeats 1000000 in
theorem seen_any (h z : Int) (w : World) (h0 : 0 ≤ h) (h1 : h ≤ 360) (z0 : 0 ≤ z) (z1 : z ≤ 360) : Calls Try.prog 10 #[.int .i64 h, .int .i64 z] w fun e w' => e = .returned (.agg #[.string ⟨#[]⟩, .int .i64 (h * 60000), .int .i64 (h * 60000), .int .i64 (z * 60000), .int .i64 (z * 60000)]) ∧ Below w.heap.size w w' := by
  have n0 : wrap64 (h * 60000) = h * 60000 := IntWalk.wrap64_in _ (by omega)
  have n1 : wrap64 (z * 60000) = z * 60000 := IntWalk.wrap64_in _ (by omega)
  go_enter Try.func10, Try.ntmps10
  go_wp2
  refine bodyPost_ret (v := .agg #[.string ⟨#[]⟩, .int .i64 (h * 60000), .int .i64 (h * 60000), .int .i64 (z * 60000), .int .i64 (z * 60000)]) (by simp [results, Try.results10, go_sem, *]) rfl ⟨rfl, ?_⟩
  repeat (first | exact Below.refl _ _ | assumption | refine bl_drew ?_ | refine bl_drewN ?_ _ | refine Below.setCell ?_ (by first | assumption | omega | (simp; done) | (simp; omega)) _ | refine Below.alloc ?_ (by first | assumption | omega | (simp; done) | (simp; omega)) _)
theorem retQ_bool {a b : Bool} (h : a = b) : Ending.returned (.bool a) = .returned (.bool b) := by rw [h]
theorem spread_ex : spd [((0 : Int), (0 : Int)), (600000, 600000), (5400000, 5400000)] 3 = 600000 := by decide
theorem reads_ex (w : World) (t : TypeId) : Reads (w.alloc (.cells #[.int .i64 0, .int .i64 0, .int .i64 600000, .int .i64 600000, .int .i64 5400000, .int .i64 5400000] t)) (w.heap.size + 1) 2 (some ⟨w.heap.size, 0, none⟩) 3 (aqvs [((0 : Int), (0 : Int)), (600000, 600000), (5400000, 5400000)]) := by
  refine ⟨rfl, fun _ => ⟨_, rfl, by simp, fun j u hu => ?_⟩⟩
  have h := (Blk.new w t #[.int .i64 0, .int .i64 0, .int .i64 600000, .int .i64 600000, .int .i64 5400000, .int .i64 5400000]).cell j
  rw [show ((⟨w.heap.size, 0, none⟩ : Addr).add j) = ⟨w.heap.size, j, none⟩ by simpa using Go.WideShapes.add_plain w.heap.size 0 j, h]
  simpa [aqvs, aqv] using hu
theorem seen00 (W : World) : Calls Try.prog 10 #[.int .i64 0, .int .i64 0] W fun e w' => e = .returned (.agg #[.string ⟨#[]⟩, .int .i64 0, .int .i64 0, .int .i64 0, .int .i64 0]) ∧ Below W.heap.size W w' := seen_any 0 0 W (by decide) (by decide) (by decide) (by decide)
theorem seen10 (W : World) : Calls Try.prog 10 #[.int .i64 0, .int .i64 10] W fun e w' => e = .returned (.agg #[.string ⟨#[]⟩, .int .i64 0, .int .i64 0, .int .i64 600000, .int .i64 600000]) ∧ Below W.heap.size W w' := seen_any 0 10 W (by decide) (by decide) (by decide) (by decide)
theorem seen90 (W : World) : Calls Try.prog 10 #[.int .i64 0, .int .i64 90] W fun e w' => e = .returned (.agg #[.string ⟨#[]⟩, .int .i64 0, .int .i64 0, .int .i64 5400000, .int .i64 5400000]) ∧ Below W.heap.size W w' := seen_any 0 90 W (by decide) (by decide) (by decide) (by decide)
theorem seenUp (W : World) : Calls Try.prog 10 #[.int .i64 90, .int .i64 0] W fun e w' => e = .returned (.agg #[.string ⟨#[]⟩, .int .i64 5400000, .int .i64 5400000, .int .i64 0, .int .i64 0]) ∧ Below W.heap.size W w' := seen_any 90 0 W (by decide) (by decide) (by decide) (by decide)
theorem ex_valid : ∀ x ∈ [((0 : Int), (0 : Int)), (600000, 600000), (5400000, 5400000)], avB x.1 x.2 = true := by decide
theorem field_z (nm : ByteArray) (h0 h1 z0 z1 : Int) (W : World) : (Instr.field 37 (.agg #[.string nm, .int .i64 h0, .int .i64 h1, .int .i64 z0, .int .i64 z1]) 2).run Try.prog W = .ok (.agg #[.int .i64 z0, .int .i64 z1]) W := by kernel_rfl
set_option maxHeartbeats 4000000 in
set_option maxRecDepth 100000 in
theorem awake52 (w : World) : Calls Try.prog 4 #[] w fun e w' => e = .returned (.bool true) ∧ Below w.heap.size w w' := by
  have K0 := Lib.hid seen00
  have K1 := Lib.hid seen10
  have K2 := Lib.hid seen90
  have K3 := Lib.hid seenUp
  have ksp := fun (W : World) => Spread_yes (some ⟨W.heap.size, 0, none⟩) 3 3 [((0 : Int), (0 : Int)), (600000, 600000), (5400000, 5400000)] (W.alloc (.cells #[.int .i64 0, .int .i64 0, .int .i64 600000, .int .i64 600000, .int .i64 5400000, .int .i64 5400000] 26)) (by have := reads_ex W 26; rwa [← World.size_alloc W (.cells #[.int .i64 0, .int .i64 0, .int .i64 600000, .int .i64 600000, .int .i64 5400000, .int .i64 5400000] 26)] at this) (Nat.le_refl _) (by decide) (by decide) (by decide) ex_valid
  rw [spread_ex] at ksp
  have KSP := Lib.hid ksp
  have KCI := Lib.hid (fun W => Circle_num ⟨#[]⟩ W At_ex)
  have hq := eqlArcQ
  have hfz := field_z
  have hk : aeqQ 0 5 0 5 = true := by decide
  clear ksp
  go_enter Try.func4, Try.ntmps4
  go_wp2_with fail
  (with_reducible refine (K0.out _).mono ?_)
  rintro e w1 ⟨rfl, hb1⟩
  have B1 := Lib.hid hb1
  clear hb1
  go_wp2_with fail
  (with_reducible refine (K1.out _).mono ?_)
  rintro e w2 ⟨rfl, hb2⟩
  have B2 := Lib.hid (B1.out.trans (hb2.mono B1.out.size))
  clear hb2 B1
  go_wp2_with fail
  (with_reducible refine (K2.out _).mono ?_)
  rintro e w3 ⟨rfl, hb3⟩
  have B3 := Lib.hid (B2.out.trans (hb3.mono B2.out.size))
  have B3a := Lib.hid (B3.out.alloc B3.out.size (.cells #[.int .i64 0, .int .i64 0, .int .i64 600000, .int .i64 600000, .int .i64 5400000, .int .i64 5400000] 26))
  clear hb3 B2 B3
  go_wp2_with fail
  (with_reducible refine (KSP.out _).mono ?_)
  rintro e w4 ⟨rfl, hb4⟩
  have B4 := Lib.hid (B3a.out.trans (hb4.mono B3a.out.size))
  clear hb4 B3a
  go_wp2_with fail
  (with_reducible refine (K3.out _).mono ?_)
  rintro e w5 ⟨rfl, hb5⟩
  have B5 := Lib.hid (B4.out.trans (hb5.mono B4.out.size))
  clear hb5 B4
  go_wp2_with fail
  (with_reducible refine (KCI.out _).mono ?_)
  rintro e w6 ⟨⟨a, b, rfl⟩, hb6⟩
  have B6 := Lib.hid ((B5.out.trans (hb6.mono B5.out.size)).alloc (by have := B5.out.size; have := hb6.size; omega) (.cells #[.int .i64 6, .int .i64 8, .int .i64 a, .int .i64 b, .int .i64 0, .int .i64 5] 40))
  clear hb6 B5
  go_wp2
  go_ret
  exact ⟨retQ_bool (by simp), B6.out⟩
end Go.Proofs.Ytfeianjdedgdoaa
