/- Words for the walks that callreg.py and qst.py print. -/
import Derived.Laws.BytesArg
import Derived.Deep.RegionHeld3
import Derived.Orders
import Derived.Test.YtbpnacacnncopaaGreatDoorHTm
import Derived.Test.YtbpnacacnncopaaGreatDoorHIa
set_option linter.unusedVariables false
set_option linter.unusedSimpArgs false
namespace Go.Proofs.YtbpnacacnncopaaGreatDoor
open Go.RowKit Go.Shelf Frm
theorem strOf (l : Bs) : strOfNums (l.map fun c => (c.toNat : Int)) = ⟨l.toArray⟩ := by
  unfold strOfNums
  congr 2
  rw [List.map_map]
  refine (List.map_congr_left fun c _ => ?_).trans (List.map_id l)
  show UInt8.ofNat ((c.toNat : Int)).toNat = id c
  simp
theorem conv_at {w : World} {b n : Nat} {l : Bs} (hc : ∀ (j : Nat) (x : UInt8), l[j]? = some x → w.cell? ⟨b, 0 + j, none⟩ = some (.int .u8 (x.toNat : Int))) (hn : l.length = n) (c : Nat) : (convert 106 9 (.slice (some ⟨b, 0, none⟩) n c)).run Tryz.prog w = .ok (tx l) w := by
  have := run_convert_bytes_arg (P := Tryz.prog) w 106 5 Tryz.underlying106 Tryz.underlying5 b 0 n c (l.map fun c => (c.toNat : Int)) (by simpa using hn) (fun i hi => by
    have hi' : i < l.length := by omega
    rw [hc i l[i] (List.getElem?_eq_getElem hi')]
    simp [List.getD_eq_getElem?_getD, List.getElem?_eq_getElem hi']) 9 Tryz.underlying9
  rw [this, strOf]
theorem infoU8c : (Tryz.prog.info? 5).map (fun i => (i.zero, i.size, i.bytes)) = some (some (.int .u8 0), 1, 1) := by kernel_rfl
theorem make_bytes (n : Nat) (hn : n ≤ 1000) (W : World) : (Instr.makeSlice 106 (.int .i64 (n : Int)) (.int .i64 (n : Int))).run Tryz.prog W = .ok (.slice (some ⟨W.heap.size, 0, none⟩) n n) (W.alloc (.cells (madeCells #[.int .u8 0] n) 5)) := by
  obtain ⟨iI, hiI, hzI, hz1I, hzbI⟩ := info_parts infoU8c
  have h := run_make (P := Tryz.prog) W 106 5 iI _ Tryz.underlying106 hiI hzI .i64 .i64 n n (by omega) (Int.le_refl _) (by rw [hzbI]; omega) (by omega)
  rw [hz1I, Int.toNat_natCast, Nat.mul_one] at h
  exact h
theorem dB_val {n : Nat} (h : n < 10) : (dB n).toNat = 48 + n := by
  have := isD_dB h
  unfold dB
  simp
  omega
set_option maxHeartbeats 2000000 in
set_option maxRecDepth 100000 in
theorem dig2_any (n : Nat) (w : World) (h : n < 100) : Calls Tryz.prog 66 #[.int .i64 n, .int .i64 2] w fun e w' => e = .returned (tx (dgs n 2)) ∧ Below w.heap.size w w' := by
  obtain ⟨d0, hd0⟩ : ∃ d, n % 10 = d := ⟨_, rfl⟩
  obtain ⟨d1, hd1⟩ : ∃ d, n / 10 % 10 = d := ⟨_, rfl⟩
  obtain ⟨q1, hq1⟩ : ∃ q, n / 10 = q := ⟨_, rfl⟩
  obtain ⟨q2, hq2⟩ : ∃ q, n / 100 = q := ⟨_, rfl⟩
  have l0 : d0 < 10 := by omega
  have l1 : d1 < 10 := by omega
  have hL : dgs n 2 = [dB d1, dB d0] := by
    rw [dgs_step (.inr (by omega)), dgs_step (.inr (by omega))]
    rw [show n / 10 / 10 = 0 by omega, show 2 - 1 - 1 = 0 from rfl, dgs_zero, show n % 10 = d0 by omega, show n / 10 % 10 = d1 by omega]
    rfl
  rw [hL]
  clear hL
  have tq0 : ((n : Nat) : Int).tdiv 10 = (q1 : Int) := by rw [Int.tdiv_eq_ediv_of_nonneg (by omega)]; omega
  have tr0 : ((n : Nat) : Int).tmod 10 = (d0 : Int) := by rw [Int.tmod_eq_emod_of_nonneg (by omega)]; omega
  have bq1 : q1 < 1000 := by omega
  have u0 : some (Value.int .u8 (48 + (d0 : Int))) = some (.int .u8 ((dB d0).toNat : Int)) := by rw [dB_val l0]; rfl
  have tq1 : ((q1 : Nat) : Int).tdiv 10 = (q2 : Int) := by rw [Int.tdiv_eq_ediv_of_nonneg (by omega)]; omega
  have tr1 : ((q1 : Nat) : Int).tmod 10 = (d1 : Int) := by rw [Int.tmod_eq_emod_of_nonneg (by omega)]; omega
  have bq2 : q2 < 1000 := by omega
  have u1 : some (Value.int .u8 (48 + (d1 : Int))) = some (.int .u8 ((dB d1).toNat : Int)) := by rw [dB_val l1]; rfl
  clear hd0 hd1 hq1 hq2
  have hmk : ∀ W, (Instr.makeSlice 106 (.int .i64 2) (.int .i64 2)).run Tryz.prog W = .ok (.slice (some ⟨W.heap.size, 0, none⟩) 2 2) (W.alloc (.cells #[.int .u8 0, .int .u8 0] 5)) := fun W => by
    have h := make_bytes 2 (by omega) W
    rw [show ((2 : Nat) : Int) = 2 from rfl, show madeCells #[Value.int .u8 0] 2 = #[.int .u8 0, .int .u8 0] from Array.ext' (by rw [toList_madeCells_one]; rfl)] at h
    exact h
  have b0 := Lib.hid (bl_alloc w (.cells #[.int .u8 0, .int .u8 0] 5))
  have G0 := Lib.hid (Blk.new w 5 #[.int .u8 0, .int .u8 0])
  go_enter Tryz.func66, Tryz.ntmps66
  go_wp2_with fail
  go_loopw [0, 6] (fun s0 s6 wr => Below w.heap.size w wr ∧ ((s6 = .int .i64 (1) ∧ s0 = .int .i64 (n : Nat) ∧ Blk wr w.heap.size 5 #[.int .u8 0, .int .u8 0]) ∨ (s6 = .int .i64 (0) ∧ s0 = .int .i64 (q1 : Nat) ∧ Blk wr w.heap.size 5 #[.int .u8 0, .int .u8 (48 + (d0 : Int))]) ∨ (s6 = .int .i64 (-1) ∧ s0 = .int .i64 (q2 : Nat) ∧ Blk wr w.heap.size 5 #[.int .u8 (48 + (d1 : Int)), .int .u8 (48 + (d0 : Int))]))) (fun _ s6 _ => (intOf s6 + 1).toNat)
  case atStart => exact ⟨b0.out, .inl ⟨rfl, rfl, G0.out⟩⟩
  case round =>
    obtain ⟨hB, hC⟩ := hrel
    have BB := Lib.hid hB
    clear hB b0 G0
    rcases hC with ⟨rfl, rfl, hG⟩ | ⟨rfl, rfl, hG⟩ | ⟨rfl, rfl, hG⟩
    · have f0 := hG.frozen 1
      have y0 : wr.cell? ⟨w.heap.size, 1, none⟩ = some (.int .u8 0) := hG.cell 1
      have GG := Lib.hid hG
      clear hG
      go_wp2
      go_roundw
      case rel => exact ⟨BB.out.setCell (p := ⟨w.heap.size, 1, none⟩) (Nat.le_refl _) _, .inr (.inl ⟨by go_num, by go_num, GG.out.set_ 1 _⟩)⟩
      case measure => simp [intOf]
    · have f0 := hG.frozen 0
      have y0 : wr.cell? ⟨w.heap.size, 0, none⟩ = some (.int .u8 0) := hG.cell 0
      have GG := Lib.hid hG
      clear hG
      go_wp2
      go_roundw
      case rel => exact ⟨BB.out.setCell (p := ⟨w.heap.size, 0, none⟩) (Nat.le_refl _) _, .inr (.inr (⟨by go_num, by go_num, GG.out.set_ 0 _⟩))⟩
      case measure => simp [intOf]
    · have hcv := conv_at (w := wr) (b := w.heap.size) (n := 2) (l := [dB d1, dB d0]) (fun j x hx => by
        match j, hx with
        | 0, hx => simp at hx; subst hx; exact (hG.cell 0).trans u1
        | 1, hx => simp at hx; subst hx; exact (hG.cell 1).trans u0
        | j + 2, hx => simp at hx) rfl 2
      clear hG
      go_wp2
      go_ret
      exact ⟨rfl, BB.out⟩
set_option maxHeartbeats 2000000 in
set_option maxRecDepth 100000 in
theorem dig3_any (n : Nat) (w : World) (h : n < 1000) : Calls Tryz.prog 66 #[.int .i64 n, .int .i64 3] w fun e w' => e = .returned (tx (dgs n 3)) ∧ Below w.heap.size w w' := by
  obtain ⟨d0, hd0⟩ : ∃ d, n % 10 = d := ⟨_, rfl⟩
  obtain ⟨d1, hd1⟩ : ∃ d, n / 10 % 10 = d := ⟨_, rfl⟩
  obtain ⟨d2, hd2⟩ : ∃ d, n / 100 % 10 = d := ⟨_, rfl⟩
  obtain ⟨q1, hq1⟩ : ∃ q, n / 10 = q := ⟨_, rfl⟩
  obtain ⟨q2, hq2⟩ : ∃ q, n / 100 = q := ⟨_, rfl⟩
  obtain ⟨q3, hq3⟩ : ∃ q, n / 1000 = q := ⟨_, rfl⟩
  have l0 : d0 < 10 := by omega
  have l1 : d1 < 10 := by omega
  have l2 : d2 < 10 := by omega
  have hL : dgs n 3 = [dB d2, dB d1, dB d0] := by
    rw [dgs_step (.inr (by omega)), dgs_step (.inr (by omega)), dgs_step (.inr (by omega))]
    rw [show n / 10 / 10 / 10 = 0 by omega, show 3 - 1 - 1 - 1 = 0 from rfl, dgs_zero, show n % 10 = d0 by omega, show n / 10 % 10 = d1 by omega, show n / 10 / 10 % 10 = d2 by omega]
    rfl
  rw [hL]
  clear hL
  have tq0 : ((n : Nat) : Int).tdiv 10 = (q1 : Int) := by rw [Int.tdiv_eq_ediv_of_nonneg (by omega)]; omega
  have tr0 : ((n : Nat) : Int).tmod 10 = (d0 : Int) := by rw [Int.tmod_eq_emod_of_nonneg (by omega)]; omega
  have bq1 : q1 < 1000 := by omega
  have u0 : some (Value.int .u8 (48 + (d0 : Int))) = some (.int .u8 ((dB d0).toNat : Int)) := by rw [dB_val l0]; rfl
  have tq1 : ((q1 : Nat) : Int).tdiv 10 = (q2 : Int) := by rw [Int.tdiv_eq_ediv_of_nonneg (by omega)]; omega
  have tr1 : ((q1 : Nat) : Int).tmod 10 = (d1 : Int) := by rw [Int.tmod_eq_emod_of_nonneg (by omega)]; omega
  have bq2 : q2 < 1000 := by omega
  have u1 : some (Value.int .u8 (48 + (d1 : Int))) = some (.int .u8 ((dB d1).toNat : Int)) := by rw [dB_val l1]; rfl
  have tq2 : ((q2 : Nat) : Int).tdiv 10 = (q3 : Int) := by rw [Int.tdiv_eq_ediv_of_nonneg (by omega)]; omega
  have tr2 : ((q2 : Nat) : Int).tmod 10 = (d2 : Int) := by rw [Int.tmod_eq_emod_of_nonneg (by omega)]; omega
  have bq3 : q3 < 1000 := by omega
  have u2 : some (Value.int .u8 (48 + (d2 : Int))) = some (.int .u8 ((dB d2).toNat : Int)) := by rw [dB_val l2]; rfl
  clear hd0 hd1 hd2 hq1 hq2 hq3
  have hmk : ∀ W, (Instr.makeSlice 106 (.int .i64 3) (.int .i64 3)).run Tryz.prog W = .ok (.slice (some ⟨W.heap.size, 0, none⟩) 3 3) (W.alloc (.cells #[.int .u8 0, .int .u8 0, .int .u8 0] 5)) := fun W => by
    have h := make_bytes 3 (by omega) W
    rw [show ((3 : Nat) : Int) = 3 from rfl, show madeCells #[Value.int .u8 0] 3 = #[.int .u8 0, .int .u8 0, .int .u8 0] from Array.ext' (by rw [toList_madeCells_one]; rfl)] at h
    exact h
  have b0 := Lib.hid (bl_alloc w (.cells #[.int .u8 0, .int .u8 0, .int .u8 0] 5))
  have G0 := Lib.hid (Blk.new w 5 #[.int .u8 0, .int .u8 0, .int .u8 0])
  go_enter Tryz.func66, Tryz.ntmps66
  go_wp2_with fail
  go_loopw [0, 6] (fun s0 s6 wr => Below w.heap.size w wr ∧ ((s6 = .int .i64 (2) ∧ s0 = .int .i64 (n : Nat) ∧ Blk wr w.heap.size 5 #[.int .u8 0, .int .u8 0, .int .u8 0]) ∨ (s6 = .int .i64 (1) ∧ s0 = .int .i64 (q1 : Nat) ∧ Blk wr w.heap.size 5 #[.int .u8 0, .int .u8 0, .int .u8 (48 + (d0 : Int))]) ∨ (s6 = .int .i64 (0) ∧ s0 = .int .i64 (q2 : Nat) ∧ Blk wr w.heap.size 5 #[.int .u8 0, .int .u8 (48 + (d1 : Int)), .int .u8 (48 + (d0 : Int))]) ∨ (s6 = .int .i64 (-1) ∧ s0 = .int .i64 (q3 : Nat) ∧ Blk wr w.heap.size 5 #[.int .u8 (48 + (d2 : Int)), .int .u8 (48 + (d1 : Int)), .int .u8 (48 + (d0 : Int))]))) (fun _ s6 _ => (intOf s6 + 1).toNat)
  case atStart => exact ⟨b0.out, .inl ⟨rfl, rfl, G0.out⟩⟩
  case round =>
    obtain ⟨hB, hC⟩ := hrel
    have BB := Lib.hid hB
    clear hB b0 G0
    rcases hC with ⟨rfl, rfl, hG⟩ | ⟨rfl, rfl, hG⟩ | ⟨rfl, rfl, hG⟩ | ⟨rfl, rfl, hG⟩
    · have f0 := hG.frozen 2
      have y0 : wr.cell? ⟨w.heap.size, 2, none⟩ = some (.int .u8 0) := hG.cell 2
      have GG := Lib.hid hG
      clear hG
      go_wp2
      go_roundw
      case rel => exact ⟨BB.out.setCell (p := ⟨w.heap.size, 2, none⟩) (Nat.le_refl _) _, .inr (.inl ⟨by go_num, by go_num, GG.out.set_ 2 _⟩)⟩
      case measure => simp [intOf]
    · have f0 := hG.frozen 1
      have y0 : wr.cell? ⟨w.heap.size, 1, none⟩ = some (.int .u8 0) := hG.cell 1
      have GG := Lib.hid hG
      clear hG
      go_wp2
      go_roundw
      case rel => exact ⟨BB.out.setCell (p := ⟨w.heap.size, 1, none⟩) (Nat.le_refl _) _, .inr (.inr (.inl ⟨by go_num, by go_num, GG.out.set_ 1 _⟩))⟩
      case measure => simp [intOf]
    · have f0 := hG.frozen 0
      have y0 : wr.cell? ⟨w.heap.size, 0, none⟩ = some (.int .u8 0) := hG.cell 0
      have GG := Lib.hid hG
      clear hG
      go_wp2
      go_roundw
      case rel => exact ⟨BB.out.setCell (p := ⟨w.heap.size, 0, none⟩) (Nat.le_refl _) _, .inr (.inr (.inr (⟨by go_num, by go_num, GG.out.set_ 0 _⟩)))⟩
      case measure => simp [intOf]
    · have hcv := conv_at (w := wr) (b := w.heap.size) (n := 3) (l := [dB d2, dB d1, dB d0]) (fun j x hx => by
        match j, hx with
        | 0, hx => simp at hx; subst hx; exact (hG.cell 0).trans u2
        | 1, hx => simp at hx; subst hx; exact (hG.cell 1).trans u1
        | 2, hx => simp at hx; subst hx; exact (hG.cell 2).trans u0
        | j + 3, hx => simp at hx) rfl 3
      clear hG
      go_wp2
      go_ret
      exact ⟨rfl, BB.out⟩
end Go.Proofs.YtbpnacacnncopaaGreatDoor
namespace Go.Proofs.YtbpnacacnncopaaGreatDoor
open Go.RowKit
set_option maxHeartbeats 1000000 in
set_option maxRecDepth 100000 in
theorem DateOf1_any (i g : Nat) (n : Int) (w : World) (hi : i ≤ 9998) (hG : Blk w g 3 #[.int .i64 n]) : Calls Tryz.prog 157 #[.int .i64 (i : Int), .pointer (some ⟨g, 0, none⟩)] w fun e w' => e = .returned (.bool (decide (n < CA.bef (2 + i)))) ∧ Below w.heap.size w w' := by
  have KB := Lib.hid (fun W => before_any (2 + i) W (by omega) (by omega))
  generalize CA.bef (2 + i) = B at *
  have y : ∀ s : BQ w, s.w.cell? ⟨g, 0, none⟩ = some (.int .i64 n) := fun s => (hG.below s.hb hG.lt).cell 0
  clear hG
  go_enter Tryz.func157, Tryz.ntmps157
  go_upto_region 1 with fail
  refine wp_region_bq w (by kernel_rfl) (by kernel_rfl) (Below.refl _ _) ?_
  repeat (go_big_quiet_step (first | (go_at_call 155; exact quiet_bq0 (KB.out _)) | fail))
  refine wpQuiet_nil ?_
  intro w9 hb9
  go_wp2
  go_ret
  exact ⟨ret_bo (by first | rfl | (simp; done)), hb9⟩
set_option maxHeartbeats 1000000 in
set_option maxRecDepth 100000 in
theorem Search_year (g : Nat) (n : Int) (w : World) (hG : Blk w g 3 #[.int .i64 n]) (h0 : 0 ≤ n) (h1 : n < 3652059) :
    Calls Tryz.prog 156 #[.int .i64 9998, .func (.func 157) #[] #[.pointer (some ⟨g, 0, none⟩)]] w fun e w' => (∃ r : Nat, r ≤ 9998 ∧ e = .returned (.int .i64 (r : Int)) ∧ CA.bef (1 + r) ≤ n ∧ n < CA.bef (1 + r + 1)) ∧ Below w.heap.size w w' := by
  have KD := Lib.hid (fun (i : Nat) (W : World) (hi : i ≤ 9998) (hb : Below w.heap.size w W) => DateOf1_any i g n W hi (hG.below hb hG.lt))
  clear hG
  go_enter Tryz.func156, Tryz.ntmps156
  go_wp2_with fail
  go_loopw [5, 6] (fun s5 s6 wr => ∃ i j : Nat, i ≤ j ∧ j ≤ 9998 ∧ s5 = .int .i64 i ∧ s6 = .int .i64 j ∧ CA.bef (1 + i) ≤ n ∧ n < CA.bef (1 + j + 1) ∧ Below w.heap.size w wr) (fun s5 s6 _ => (intOf s6).toNat - (intOf s5).toNat)
  case atStart => exact ⟨0, 9998, by omega, by omega, rfl, rfl, by rw [show (1 : Int) + (0 : Nat) = 1 by omega, CA.bef_1]; exact h0, by rw [show (1 : Int) + (9998 : Nat) + 1 = 10000 - 1 + 1 by omega, show (10000 : Int) - 1 + 1 = 10000 by omega, CA.bef_10000]; exact h1, Below.refl _ _⟩
  case round =>
    obtain ⟨i, j, hij, hj, rfl, rfl, ha, hb, hB⟩ := hrel
    have BB := Lib.hid hB
    clear hB
    by_cases hlt : i < j
    · have dl : decide ((i : Int) < (j : Int)) = true := decide_eq_true (by omega)
      go_wp2_with fail
      have hm : ((i : Int) + (j : Int)) / 2 = (((i + j) / 2 : Nat) : Int) := by omega
      rw [hm]
      have K := Lib.hid (KD.out ((i + j) / 2) wr (by omega) BB.out)
      have hmi : i ≤ (i + j) / 2 := by omega
      have hmj : (i + j) / 2 < j := by omega
      generalize (i + j) / 2 = m at *
      clear hm
      by_cases hc : n < CA.bef (2 + m)
      · rw [decide_eq_true hc] at K
        (with_reducible refine (K.out).mono ?_)
        rintro e w1 ⟨rfl, hb1⟩
        have B1 := Lib.hid (BB.out.trans (hb1.mono BB.out.size))
        have hc' : n < CA.bef (1 + m + 1) := by rw [show (1 : Int) + m + 1 = 2 + m by omega]; exact hc
        clear hb1 BB hc
        go_wp2
        go_roundw
        case rel => exact ⟨i, m, hmi, by omega, rfl, rfl, ha, hc', B1.out⟩
        case measure => simp [intOf]; omega
      · rw [decide_eq_false hc] at K
        (with_reducible refine (K.out).mono ?_)
        rintro e w1 ⟨rfl, hb1⟩
        have B1 := Lib.hid (BB.out.trans (hb1.mono BB.out.size))
        have hc' : CA.bef (1 + ((m + 1 : Nat) : Int)) ≤ n := by rw [show (1 : Int) + ((m + 1 : Nat) : Int) = 2 + m by omega]; omega
        clear hb1 BB hc
        go_wp2
        go_roundw
        case rel => exact ⟨m + 1, j, by omega, hj, by go_num, rfl, hc', hb, B1.out⟩
        case measure => simp [intOf]; omega
    · have dl : decide ((i : Int) < (j : Int)) = false := decide_eq_false (by omega)
      obtain rfl : i = j := by omega
      go_wp2
      go_ret
      exact ⟨⟨i, hj, rfl, ha, hb⟩, BB.out⟩
end Go.Proofs.YtbpnacacnncopaaGreatDoor
namespace Go.Proofs.YtbpnacacnncopaaGreatDoor
open Go.RowKit
set_option maxHeartbeats 4000000 in
set_option maxRecDepth 100000 in
theorem DateOf_no (n : Int) (w : World) (hn : n < -730119 ∨ 2921940 ≤ n) : Calls Tryz.prog 105 #[.int .i64 n] w fun e w' => e = .returned (.tuple #[.agg (dtv 0 0 0), .int .i64 2]) ∧ Below w.heap.size w w' := by
  have KZ := Lib.hid (fun W => before_any 2000 W (by omega) (by omega))
  rw [CA.bef_2000] at KZ
  have KX := Lib.hid (fun W => before_any 10000 W (by omega) (by omega))
  rw [CA.bef_10000] at KX
  have A0 := Lib.hid ((Blk.new w 3 #[.int .i64 n]).alloc (.cells (dtv 0 0 0) 100))
  have A1 := Lib.hid (Blk.new (w.alloc (.cells #[.int .i64 n] 3)) 100 (dtv 0 0 0))
  have a0 := Lib.hid (((Below.refl w.heap.size w).alloc (Nat.le_refl _) (.cells #[.int .i64 n] 3)).alloc (by simp) (.cells (dtv 0 0 0) 100))
  simp only [World.size_alloc] at A1
  by_cases h1 : n < -730119
  all_goals
    first | (have d1 : decide (n < -730119) = true := decide_eq_true h1) | (have d1 : decide (n < -730119) = false := decide_eq_false h1; have d2 : decide (2921940 ≤ n) = true := decide_eq_true (by omega))
    clear h1 hn
    go_enter Tryz.func105, Tryz.ntmps105
    go_upto_region 2 with (go_at_call 155; (refine (KZ.out _).mono ?_); rintro e w1 ⟨rfl, rfl⟩)
    have e0 : ((w.alloc (.cells #[.int .i64 n] 3)).alloc (.cells #[.int .i64 0, .int .i64 0, .int .i64 0] 100)) = ((w.alloc (.cells #[.int .i64 n] 3)).alloc (.cells (dtv 0 0 0) 100)) := rfl
    rw [e0]
    clear e0
    generalize (w.alloc (.cells #[.int .i64 n] 3)).alloc (.cells (dtv 0 0 0) 100) = w0 at *
    have y0 : ∀ s : BQ w0, s.w.cell? ⟨w.heap.size, 0, none⟩ = some (.int .i64 n) := fun s => (A0.out.below s.hb A0.out.lt).cell 0
    refine wp_region_bq w0 (by kernel_rfl) (by kernel_rfl) (Below.refl _ _) ?_
    repeat (go_big_quiet_step (first | (go_at_call 155; exact quiet_bq0 (KX.out _)) | fail))
    refine wpQuiet_nil ?_
    intro w9 hb9
    have B1 := A1.out.below hb9 A1.out.lt
    have b1 := a0.out.trans (hb9.mono a0.out.size)
    have z0 : ∀ i, w9.cell? ⟨w.heap.size + 1, i, none⟩ = (dtv 0 0 0)[i]? := fun i => B1.cell i
    have f0 : ∀ i, w9.frozen? ⟨w.heap.size + 1, i, none⟩ = false := fun i => B1.frozen i
    unfold dtv at z0
    go_wp2
    refine bodyPost_ret (v := .tuple #[.agg (dtv 0 0 0), .int .i64 2]) (by simp [results, Tryz.results105, go_sem, dtv, *]; done) rfl ⟨rfl, ?_⟩
    exact ((b1.setCell (by simp) _).setCell (by simp) _).setCell (by simp) _
end Go.Proofs.YtbpnacacnncopaaGreatDoor
namespace Go.Proofs.YtbpnacacnncopaaGreatDoor.PQ
/-- least members, one pair of things that touch put together -/
def mrg (c : Nat → Nat) (i k : Nat) : Nat → Nat := fun j => if c j = max (c i) (c k) then min (c i) (c k) else c j
/-- one pair looked at -/
def stp (t : Nat → Nat → Bool) (c : Nat → Nat) (i k : Nat) : Nat → Nat := if t i k = true then mrg c i k else c
/-- the pairs of one thing with those before it -/
def row (t : Nat → Nat → Bool) (c : Nat → Nat) (i : Nat) : Nat → (Nat → Nat)
  | 0 => c
  | k + 1 => stp t (row t c i k) i k
end Go.Proofs.YtbpnacacnncopaaGreatDoor.PQ
namespace Go.Proofs.YtbpnacacnncopaaGreatDoor.PQ
end Go.Proofs.YtbpnacacnncopaaGreatDoor.PQ
namespace Go.Proofs.YtbpnacacnncopaaGreatDoor.PQ
def upd (pt : Nat → Nat) (m v : Nat) : Nat → Nat := fun x => if x = m then v else pt x
section
variable {c : Nat → Nat} {t : Nat → Nat → Bool} {n i : Nat} {pt : Nat → Nat} {T : List Nat} {k m : Nat}
end
/-- how many have no number yet -/
def unm (pt : Nat → Nat) (n : Nat) : Nat := ((List.range n).filter (fun x => pt x = 0)).length
theorem unm_upd {pt : Nat → Nat} {n m v : Nat} (hm : m < n) (h0 : pt m = 0) (hv : v ≠ 0) : unm (upd pt m v) n + 1 = unm pt n := by
  induction n with
  | zero => omega
  | succ n ih =>
    unfold unm at *
    rw [List.range_succ, List.filter_append, List.filter_append, List.length_append, List.length_append]
    by_cases e : m = n
    · subst e
      have : (List.range m).filter (fun x => decide (upd pt m v x = 0)) = (List.range m).filter (fun x => decide (pt x = 0)) := by
        apply List.filter_congr
        intro x hx
        have : x < m := by simpa using hx
        simp [upd, show x ≠ m by omega]
      rw [this]
      simp [upd, h0, hv]
    · have := ih (by omega)
      have hn : upd pt m v n = pt n := by unfold upd; rw [if_neg (by omega)]
      have : (List.filter (fun x => decide (upd pt m v x = 0)) [n]) = List.filter (fun x => decide (pt x = 0)) [n] := by
        simp [List.filter_cons, hn]
      rw [this]
      omega
end Go.Proofs.YtbpnacacnncopaaGreatDoor.PQ
namespace Go.Proofs.YtbpnacacnncopaaGreatDoor.PQ
end Go.Proofs.YtbpnacacnncopaaGreatDoor.PQ
namespace Go.Proofs.YtbpnacacnncopaaGreatDoor
open Go.RowKit
/-- one operation more has been done -/
def mkd (L : Nat → Bool) (i : Nat) : Nat → Bool := fun j => if j = i then true else L j
theorem mkd_ne {L : Nat → Bool} {i j : Nat} (h : ¬ j = i) : mkd L i j = L j := if_neg h
theorem wpOp_of_list {P : Program} {ops : Array Oper} {Q : Exit → Act → World → Prop} {i : Nat} {o : Oper} {K : Act → World → Prop} {a : Act} {w : World} (hi : ops[i]? = some o) (h : wpList P ops (Exit.then K Q) [o] a w) : wpOp P ops Q i K a w := by
  unfold wpOp
  rw [hi]
  simp only [wpList] at h
  simp only []
  split
  · rename_i hw
    rw [if_pos hw] at h
    refine h.imp (fun h1 => ?_) id
    unfold Oper.wp at *
    generalize (execOp a.eval o).run P w = r at *
    cases r with
    | ok n w' => cases n <;> exact h1
    | halt x w' => cases x <;> exact h1
  · rename_i hw
    rw [if_neg hw] at h
    exact h
end Go.Proofs.YtbpnacacnncopaaGreatDoor
namespace Go.Proofs.YtbpnacacnncopaaGreatDoor
open Go.RowKit
theorem putQ_self (a : Act) (i : Nat) : a.put (some i) (a.tmps.getD i undef) = a := by
  cases a with
  | mk t d =>
    have : t.setIfInBounds i (t.getD i undef) = t := by
      apply Array.ext
      · simp
      · intro j h1 h2
        rw [Array.getElem_setIfInBounds]
        split
        · rename_i e
          subst e
          simp [Array.getD, h2]
        · rfl
    show Act.mk (t.setIfInBounds i (t.getD i undef)) d = _
    rw [this]
theorem wp_region_invB {P : Program} {id : Nat} {ops : Array Oper} {Q : Exit → Act → World → Prop} {a : Act} {w : World} (hm : P.follows .mixedOrders = true) (Inv : (Nat → Bool) → Act → World → Prop)
    (hwf : ∀ (i : Nat) (o : Oper), ops[i]? = some o → ∀ e ∈ o.after, Region.binds .any e = true → e.on < i)
    (h0 : Inv (fun _ => false) a w.drew)
    (hstep : ∀ (L : Nat → Bool) (i : Nat) (o : Oper) (a : Act) (w : World), ops[i]? = some o → L i = false → (∀ e ∈ o.after, Region.binds .any e = true → L e.on = true) → Inv L a w → wpList P ops (Exit.then (fun a' w' => Inv (fun j => if j = i then true else L j) a' w') Q) [o] a w)
    (hend : ∀ (L : Nat → Bool) (a : Act) (w : World), (∀ i, i < ops.size → L i = true) → Inv L a w → Q .normal a w) : (Code.region id ops true).wp P Q a w := by
  have key : ∀ (fuel : Nat) (listed : Array Bool) (L : Nat → Bool) (a : Act) (w : World), listed.size = ops.size → (∀ i, i < ops.size → listed.getD i true = L i ∧ listed.getD i false = L i) → PQ.unm (fun j => if L j = true then 1 else 0) ops.size ≤ fuel → Inv L a w → wpAny P .any ops Q fuel listed a w := by
    intro fuel
    have all : ∀ (listed : Array Bool) (L : Nat → Bool), (∀ i, i < ops.size → listed.getD i true = L i ∧ listed.getD i false = L i) → Region.ready .any ops listed = [] → ∀ n i, i < n → i < ops.size → L i = true := by
      intro listed L hL hr n
      induction n with
      | zero => intro i h; omega
      | succ n ih =>
        intro i hi his
        by_cases e : i < n
        · exact ih i e his
        · obtain rfl : i = n := by omega
          cases hl : L i with
          | true => rfl
          | false =>
            exfalso
            have : i ∈ Region.ready .any ops listed := by
              rw [mem_ready]
              refine ⟨by rw [(hL i his).1, hl], ops[i], by rw [Array.getElem?_eq_getElem his], fun e he hbd => ?_⟩
              have := hwf i _ (by rw [Array.getElem?_eq_getElem his]) e he hbd
              rw [(hL e.on (by omega)).2]
              exact ih e.on this (by omega)
            rw [hr] at this
            cases this
    induction fuel with
    | zero =>
      intro listed L a w hs hL hu hI
      have hall : ∀ i, i < ops.size → L i = true := by
        intro i hi
        cases hl : L i with
        | true => rfl
        | false =>
          exfalso
          have := PQ.unm_upd (pt := fun j => if L j = true then 1 else 0) (v := 1) hi (by simp [hl]) (by omega)
          omega
      refine ⟨?_, hend L a w hall hI⟩
      cases hr : Region.ready .any ops listed with
      | nil => rfl
      | cons i rs =>
        have hi : i ∈ Region.ready .any ops listed := by rw [hr]; exact List.mem_cons_self ..
        obtain ⟨h1, o, ho, -⟩ := mem_ready.1 hi
        have his : i < ops.size := by
          rcases Nat.lt_or_ge i ops.size with g | g
          · exact g
          · rw [Array.getElem?_eq_none g] at ho; cases ho
        rw [(hL i his).1, hall i his] at h1
        cases h1
    | succ fuel ih =>
      intro listed L a w hs hL hu hI
      refine ⟨fun hr => hend L a w (fun i hi => all listed L hL hr ops.size i hi hi) hI, fun i hi => ?_⟩
      obtain ⟨h1, o, ho, haf⟩ := mem_ready.1 hi
      have his : i < ops.size := by
        rcases Nat.lt_or_ge i ops.size with g | g
        · exact g
        · rw [Array.getElem?_eq_none g] at ho; cases ho
      rw [(hL i his).1] at h1
      have hst := hstep L i o a w ho h1 (fun e he hb => by
        have := haf e he hb
        rwa [(hL e.on (by have := hwf i o ho e he hb; omega)).2] at this) hI
      refine wpOp_mono (fun a' w' h => ?_) (wpOp_of_list ho hst)
      refine ih _ _ a' w' (by simpa using hs) (fun j hj => ?_) ?_ h
      · by_cases e : j = i
        · subst e
          simp [hs, his]
        · have := hL j hj
          have e' : ¬ i = j := fun h => e h.symm
          simp only [if_neg e]
          simp only [Array.getD_eq_getD_getElem?, Array.getElem?_setIfInBounds, if_neg e'] at this ⊢
          exact this
      · have := PQ.unm_upd (pt := fun j => if L j = true then 1 else 0) (v := 1) his (by simp [h1]) (by omega)
        have e2 : (fun j => if (if j = i then true else L j) = true then 1 else 0) = PQ.upd (fun j => if L j = true then 1 else 0) i 1 := by
          funext j
          unfold PQ.upd
          by_cases e : j = i
          · simp [e]
          · simp [e]
        rw [e2]
        omega
  refine wp_region_any hm (key ops.size _ (fun _ => false) a _ (by simp) (fun i hi => by simp [hi]) ?_ h0)
  exact Nat.le_trans (by unfold PQ.unm; exact List.length_filter_le _ _) (by simp)
theorem wp_region_inv3 {P : Program} {id : Nat} {ops : Array Oper} {Q : Exit → Act → World → Prop} {a : Act} {w : World} (hm : P.follows .mixedOrders = true) (Inv : Act → (Nat → Bool) → Act → World → Prop)
    (hwf : ∀ (i : Nat) (o : Oper), ops[i]? = some o → ∀ e ∈ o.after, Region.binds .any e = true → e.on < i)
    (h0 : Inv a (fun _ => false) a w.drew)
    (hstep : ∀ (L : Nat → Bool) (i : Nat) (o : Oper) (a1 : Act) (w : World), ops[i]? = some o → L i = false → (∀ e ∈ o.after, Region.binds .any e = true → L e.on = true) → Inv a L a1 w → wpList P ops (Exit.then (fun a' w' => Inv a (mkd L i) a' w') Q) [o] a1 w)
    (hend : ∀ (L : Nat → Bool) (a1 : Act) (w : World), (∀ i, i < ops.size → L i = true) → Inv a L a1 w → Q .normal a1 w) : (Code.region id ops true).wp P Q a w :=
  wp_region_invB hm (Inv a) hwf h0 hstep hend
/-- every operation waits for earlier ones alone, as far as it must, as a Bool -/
def waitsBind (ops : Array Oper) : Bool := (List.range ops.size).all fun i => (ops[i]?.map fun o => o.after.all fun e => !(Region.binds .any e) || decide (e.on < i)).getD true
theorem waits_bind {ops : Array Oper} (h : waitsBind ops = true) : ∀ (i : Nat) (o : Oper), ops[i]? = some o → ∀ e ∈ o.after, Region.binds .any e = true → e.on < i := by
  intro i o ho e he hb
  have his : i < ops.size := by
    rcases Nat.lt_or_ge i ops.size with g | g
    · exact g
    · rw [Array.getElem?_eq_none g] at ho; cases ho
  have h1 := (List.all_eq_true.1 h) i (List.mem_range.2 his)
  rw [ho] at h1
  simp only [Option.map_some, Option.getD_some] at h1
  have := Array.all_eq_true'.1 h1 e he
  rw [hb] at this
  simpa using this
end Go.Proofs.YtbpnacacnncopaaGreatDoor
namespace Go.Proofs.YtbpnacacnncopaaGreatDoor.Cw
open Go.RowKit
theorem kn {M : Nat → Bool} {i j : Nat} {p : Prop} (H : Hid (M j = false → p)) (h8 : (j == i) = false := by decide) : mkd M i j = false → p := fun h => H.out (by rwa [mkd_ne (by simpa using h8)] at h)
theorem kp {M : Nat → Bool} {i j : Nat} {p : Prop} (H : Hid (M j = true → p)) (h8 : (j == i) = false := by decide) : mkd M i j = true → p := fun h => H.out (by rwa [mkd_ne (by simpa using h8)] at h)
theorem kq {L : Nat → Bool} {i j : Nat} {p : Prop} (E : Hid (L j = true → p)) (hne : (j == i) = false := by decide) : mkd L i j = true → p := fun h => E.out (by rwa [mkd_ne (by simpa using hne)] at h)
theorem km {M : Nat → Bool} {i j k : Nat} {p : Prop} (H : Hid (M j = true → M k = false → p)) (h8 : (j == i) = false := by decide) (h9 : (k == i) = false := by decide) : mkd M i j = true → mkd M i k = false → p := fun h h' => H.out (by rwa [mkd_ne (by simpa using h8)] at h) (by rwa [mkd_ne (by simpa using h9)] at h')
theorem pu_ {p : Prop} (h : p := by simp only [Act.put, List.setIfInBounds_toArray, List.set_cons_zero, List.set_cons_succ]) : p := h
theorem mkd_of {M : Nat → Bool} {i j : Nat} (h : M j = true) : mkd M i j = true := by
  unfold mkd
  split
  · rfl
  · exact h
theorem dk1 {M : Nat → Bool} {i j a : Nat} (D : Hid (M j = true → M a = true)) (hne : (j == i) = false) : mkd M i j = true → mkd M i a = true := fun h => mkd_of (kq D hne h)
theorem dk2 {M : Nat → Bool} {i j a b : Nat} (D : Hid (M j = true → M a = true ∧ M b = true)) (hne : (j == i) = false) : mkd M i j = true → mkd M i a = true ∧ mkd M i b = true := fun h => ⟨mkd_of (kq D hne h).1, mkd_of (kq D hne h).2⟩
end Go.Proofs.YtbpnacacnncopaaGreatDoor.Cw
