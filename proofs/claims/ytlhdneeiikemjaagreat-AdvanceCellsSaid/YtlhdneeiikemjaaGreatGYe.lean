/- The walks of law38's valid, few. -/
import Derived.Test.YtlhdneeiikemjaaGreatGYa
import Derived.Test.YtlhdneeiikemjaaGreatGYc
import Derived.Test.YtlhdneeiikemjaaGreatGSg
import Derived.Test.YtlhdneeiikemjaaGreatGRe
set_option linter.unusedVariables false
set_option linter.unusedSimpArgs false
/- The walks of cells.Area and of the reference's Area. -/
namespace Go.Proofs.YtlhdneeiikemjaaGreat
open Go.RowKit
set_option maxHeartbeats 4000000 in
set_option maxRecDepth 100000 in
theorem Area_any (A : Option Addr) (n c : Nat) (L : List Cl) (w : World) (hr : Reads w w.heap.size 3 A n (cvs L)) (hn : n ≤ maxLen) (hv : vrB L = true) :
    Calls Tryz.prog 10 #[.slice A n c] w fun e w' => e = .returned (.tuple #[.agg #[.int .i64 (arL L), .int .i64 (arH L)], .int .i64 0]) ∧ Below w.heap.size w w' := by
  have HL := Lib.hid hr.len
  have RD : Hid (∀ W, Below w.heap.size w W → Reads W W.heap.size 3 A n (cvs L)) := Lib.hid (fun W hW => (hr.below hW).more hW.size)
  have K1 := Lib.hid (fun W hW => vr_yes A n c L true hv W (RD.out W hW) hn)
  have AV := Lib.hid (vr_parts hv).2.2
  have FV := Lib.hid (fun k => ar_fv hv k)
  have hlen := (vr_parts hv).1
  rw [hr.len] at hlen
  clear hr hv hn
  go_enter Tryz.func10, Tryz.ntmps10
  go_wp2_with fail
  have b0 := bl_alloc w (.cells #[.int .i64 0, .int .i64 0] 31)
  (with_reducible refine (K1.out _ b0).mono ?_)
  rintro e w1 ⟨rfl, hb1⟩
  have hb1' := b0.trans (hb1.mono (by simp))
  have R1 := Lib.hid ((D2.new w 0 0 31).below hb1 (by simp))
  clear hb1 b0 K1
  go_wp2_with fail
  go_loopw [15] (fun i wr => ∃ k : Nat, k ≤ n ∧ i = .int .i64 k ∧ D2 wr w1.heap.size (arL (L.take k)) (arH (L.take k)) ∧ D2 wr w.heap.size 0 0 ∧ Below w.heap.size w wr) (fun i _ => n - (intOf i).toNat)
  case atStart => exact ⟨0, Nat.zero_le _, rfl, by simpa [arL, arH] using D2.new w1 0 0 31, R1.out.alloc _, hb1'.alloc hb1'.size _⟩
  case round =>
    obtain ⟨k, hk, rfl, hS, hR, hbr⟩ := hrel
    have hg : w.heap.size < w1.heap.size := R1.out.lt
    by_cases hlt : k < n
    · obtain ⟨bk, off, rfl, hbk, x1, x2, x3⟩ := (RD.out wr hbr).elem hlt
      have hkl : k < L.length := by rw [HL.out]; exact hlt
      have hx := AV.out (gt L k) (by simp [gt, hkl])
      have KP := Lib.hid (fun W => part_any (gt L k).1 (gt L k).2.1 (gt L k).2.2 W ((vl_iff _).2 hx))
      rw [fitV_ok (part_fv hx)] at KP
      have KA := Lib.hid (fun W => fAdd_any _ _ _ _ W (FV.out k) (part_fv hx))
      have hs := ar_succ L k hkl
      rw [← hs.1, ← hs.2, fitV_ok (FV.out (k + 1))] at KA
      obtain ⟨ta, hta⟩ : ∃ ta, arL (L.take (k + 1)) = ta := ⟨_, rfl⟩
      obtain ⟨tb, htb⟩ : ∃ tb, arH (L.take (k + 1)) = tb := ⟨_, rfl⟩
      rw [hta, htb] at KA
      have HTA := Lib.hid hta
      have HTB := Lib.hid htb
      clear hs hta htb hx
      generalize arL (L.take k) = sa at hS KA
      generalize arH (L.take k) = sb at hS KA
      generalize gt L k = x at x1 x2 x3 KP KA
      obtain ⟨xl, xr, xc⟩ := x
      simp only [] at x1 x2 x3 KP KA
      generalize partL xl xr xc = pl at KP KA
      generalize partH xl xr xc = ph at KP KA
      have HS := Lib.hid hS
      have HR := Lib.hid hR
      clear hS hR
      go_wp2_with fail
      (with_reducible refine (KP.out _).mono ?_)
      rintro e w6 ⟨rfl, hb6⟩
      have hbl6 := hbr.trans ((one_bl hb6).mono hbr.size)
      have S6 := Lib.hid (HS.out.below (one_bl hb6) HS.out.lt)
      have R6 := Lib.hid (HR.out.below (one_bl hb6) HR.out.lt)
      clear hb6 HS HR x1 x2 x3 hbr
      obtain ⟨st, s0, s1, sf0, sf1⟩ := S6.out
      go_wp2_with fail
      (with_reducible refine (KA.out _).mono ?_)
      rintro e w7 ⟨rfl, hb7⟩
      clear st s0 s1 sf0 sf1
      have hbl7 := hbl6.trans ((one_bl hb7).mono hbl6.size)
      have S7 := Lib.hid (S6.out.below (one_bl hb7) S6.out.lt)
      have R7 := Lib.hid (R6.out.below (one_bl hb7) R6.out.lt)
      clear hb7 S6 R6
      obtain ⟨st, s0, s1, sf0, sf1⟩ := S7.out
      go_wp2
      go_roundw
      case rel => exact ⟨k + 1, by omega, by go_num, by rw [HTA.out, HTB.out]; exact (S7.out.set0 ta).set1 tb, (R7.out.far (by simp only []; omega) _).far (by simp only []; omega) _, (hbl7.setCell (by simp only []; omega) _).setCell (by simp only []; omega) _⟩
      case measure => simp [intOf]; omega
    · have hkn : k = n := by omega
      rw [List.take_of_length_le (by rw [HL.out]; omega)] at hS
      obtain ⟨st, s0, s1, sf0, sf1⟩ := hS
      obtain ⟨rt, r0, r1, rf0, rf1⟩ := hR
      go_wp2
      refine bodyPost_ret (v := .tuple #[.agg #[.int .i64 (arL L), .int .i64 (arH L)], .int .i64 0]) (by simp [results, Tryz.results10, go_sem, *]; done) rfl ⟨rfl, ?_⟩
      exact (hbr.setCell (by simp) _).setCell (by simp) _
set_option maxHeartbeats 400000 in
theorem Area_no (A : Option Addr) (n c : Nat) (L : List Cl) (w : World) (hr : Reads w w.heap.size 3 A n (cvs L)) (hn : n ≤ maxLen) (hv : vrB L = false) :
    Calls Tryz.prog 10 #[.slice A n c] w fun e w' => e = .returned (.tuple #[.agg #[.int .i64 0, .int .i64 0], .int .i64 1]) ∧ Below w.heap.size w w' := by
  have RD : Hid (∀ W, Below w.heap.size w W → Reads W W.heap.size 3 A n (cvs L)) := Lib.hid (fun W hW => (hr.below hW).more hW.size)
  have K1 := Lib.hid (fun W hW => vr_yes A n c L false hv W (RD.out W hW) hn)
  clear hr hv hn
  go_enter Tryz.func10, Tryz.ntmps10
  go_wp2_with fail
  have b0 := bl_alloc w (.cells #[.int .i64 0, .int .i64 0] 31)
  (with_reducible refine (K1.out _ b0).mono ?_)
  rintro e w1 ⟨rfl, hb1⟩
  have hb1' := b0.trans (hb1.mono (by simp))
  have R1 := Lib.hid ((D2.new w 0 0 31).below hb1 (by simp))
  obtain ⟨rt, r0, r1, rf0, rf1⟩ := R1.out
  clear hb1 b0 K1
  go_wp2
  refine bodyPost_ret (v := .tuple #[.agg #[.int .i64 0, .int .i64 0], .int .i64 1]) (by simp [results, Tryz.results10, go_sem, *]; done) rfl ⟨rfl, ?_⟩
  exact (hb1'.setCell (by simp) _).setCell (by simp) _
theorem areaS {wr W : World} {b o g : Nat} {x y z u v : Int} (hb : b < wr.heap.size) (h0 : wr.cell? ⟨b, o, none⟩ = some (.int .i64 x)) (h1 : wr.cell? ⟨b, o + 1, none⟩ = some (.int .i64 y)) (h2 : wr.cell? ⟨b, o + 2, none⟩ = some (.int .i64 z)) (hS : D2 wr g u v) (hB : Below wr.heap.size wr W) :
    W.cell? ⟨b, o, none⟩ = some (.int .i64 x) ∧ W.cell? ⟨b, o + 1, none⟩ = some (.int .i64 y) ∧ W.cell? ⟨b, o + 2, none⟩ = some (.int .i64 z) ∧ W.cell? ⟨g, 0, none⟩ = some (.int .i64 u) ∧ W.cell? ⟨g, 1, none⟩ = some (.int .i64 v) ∧ Below wr.heap.size wr W :=
  ⟨(hB.cell (p := ⟨b, o, none⟩) hb).trans h0, (hB.cell (p := ⟨b, o + 1, none⟩) hb).trans h1, (hB.cell (p := ⟨b, o + 2, none⟩) hb).trans h2, (hS.below hB hS.lt).c0, (hS.below hB hS.lt).c1, hB⟩
set_option maxHeartbeats 4000000 in
set_option maxRecDepth 100000 in
theorem rArea_any (A : Option Addr) (n c : Nat) (L : List Cl) (w : World) (hr : Reads w w.heap.size 3 A n (cvs L)) (hv : vrB L = true) :
    Calls Tryz.prog 12 #[.slice A n c] w fun e w' => e = .returned (.agg #[.int .i64 (arL L), .int .i64 (arH L)]) ∧ Below w.heap.size w w' := by
  have HL := Lib.hid hr.len
  have RD : Hid (∀ W, Below w.heap.size w W → Reads W W.heap.size 3 A n (cvs L)) := Lib.hid (fun W hW => (hr.below hW).more hW.size)
  have AV := Lib.hid (vr_parts hv).2.2
  have FV := Lib.hid (fun k => ar_fv hv k)
  have hlen := (vr_parts hv).1
  rw [hr.len] at hlen
  clear hr hv
  go_enter Tryz.func12, Tryz.ntmps12
  go_wp2_with fail
  go_loopw [4] (fun i wr => ∃ k : Nat, k ≤ n ∧ i = .int .i64 k ∧ D2 wr (w.heap.size + 1) (arL (L.take k)) (arH (L.take k)) ∧ D2 wr w.heap.size 0 0 ∧ Below w.heap.size w wr) (fun i _ => n - (intOf i).toNat)
  case atStart =>
    refine ⟨0, Nat.zero_le _, rfl, ?_, (D2.new w 0 0 31).alloc _, by repeat (first | exact Below.refl _ _ | assumption | refine bl_drew ?_ | refine bl_drewN ?_ _ | refine Below.setCell ?_ (by first | assumption | omega | (simp; done) | (simp; omega)) _ | refine Below.alloc ?_ (by first | assumption | omega | (simp; done) | (simp; omega)) _)⟩
    have := D2.new (w.alloc (.cells #[.int .i64 0, .int .i64 0] 31)) 0 0 31
    simpa [arL, arH] using this
  case round =>
    obtain ⟨k, hk, rfl, hS, hR, hbr⟩ := hrel
    by_cases hlt : k < n
    · obtain ⟨bk, off, rfl, hbk, x1, x2, x3⟩ := (RD.out wr hbr).elem hlt
      have hkl : k < L.length := by rw [HL.out]; exact hlt
      have hx := AV.out (gt L k) (by simp [gt, hkl])
      have KP := Lib.hid (fun W => rPart_any (gt L k).1 (gt L k).2.1 (gt L k).2.2 W ((vl_iff _).2 hx))
      rw [if_pos (part_fv hx)] at KP
      have KA := Lib.hid (fun W => rAdd_any _ _ _ _ W (FV.out k) (part_fv hx))
      have hs := ar_succ L k hkl
      rw [← hs.1, ← hs.2, fitV_ok (FV.out (k + 1))] at KA
      obtain ⟨ta, hta⟩ : ∃ ta, arL (L.take (k + 1)) = ta := ⟨_, rfl⟩
      obtain ⟨tb, htb⟩ : ∃ tb, arH (L.take (k + 1)) = tb := ⟨_, rfl⟩
      rw [hta, htb] at KA
      have HTA := Lib.hid hta
      have HTB := Lib.hid htb
      clear hs hta htb hx
      generalize arL (L.take k) = sa at hS KA
      generalize arH (L.take k) = sb at hS KA
      generalize gt L k = x at x1 x2 x3 KP KA
      obtain ⟨xl, xr, xc⟩ := x
      simp only [] at x1 x2 x3 KP KA
      generalize partL xl xr xc = pl at KP KA
      generalize partH xl xr xc = ph at KP KA
      have HS := Lib.hid hS
      have HR := Lib.hid hR
      obtain ⟨st, s0, s1, sf0, sf1⟩ := HS.out
      clear hS hR
      go_upto_region 5 with fail
      go_region_law (first
        | (go_simp; go_at_call 45; (with_reducible refine (KP.out _).mono ?_); rintro e w9 ⟨rfl, hb9⟩; have Z9 := (show Below wr.heap.size wr _ by repeat (first | exact Below.refl _ _ | assumption | refine bl_drew ?_ | refine bl_drewN ?_ _ | refine Below.setCell ?_ (by first | assumption | omega | (simp; done) | (simp; omega)) _ | refine Below.alloc ?_ (by first | assumption | omega | (simp; done) | (simp; omega)) _)).trans (hb9.mono (by first | exact Nat.le_refl _ | (simp; done) | (simp; omega) | omega)); have z9 := Z9.size; obtain ⟨yt, y0, y1, yf0, yf1⟩ := HS.out.below Z9 HS.out.lt)
        | (go_simp; go_at_call 44; (with_reducible refine (KA.out _).mono ?_); rintro e w9 ⟨rfl, hb9⟩; have Z9 := (show Below wr.heap.size wr _ by repeat (first | exact Below.refl _ _ | assumption | refine bl_drew ?_ | refine bl_drewN ?_ _ | refine Below.setCell ?_ (by first | assumption | omega | (simp; done) | (simp; omega)) _ | refine Below.alloc ?_ (by first | assumption | omega | (simp; done) | (simp; omega)) _)).trans (hb9.mono (by first | exact Nat.le_refl _ | (simp; done) | (simp; omega) | omega)); have z9 := Z9.size; obtain ⟨yt, y0, y1, yf0, yf1⟩ := HS.out.below Z9 HS.out.lt)
        | fail)
      all_goals
        go_wp2
        go_roundw
        case rel => exact ⟨k + 1, by omega, by go_num, by rw [HTA.out, HTB.out]; exact ((HS.out.below Z9 HS.out.lt).set0 ta).set1 tb, ((HR.out.below Z9 HR.out.lt).far (by simp) _).far (by simp) _, ((hbr.trans (Z9.mono hbr.size)).setCell (by simp) _).setCell (by simp) _⟩
        case measure => simp [intOf]; omega
    · have hkn : k = n := by omega
      rw [List.take_of_length_le (by rw [HL.out]; omega)] at hS
      obtain ⟨st, s0, s1, sf0, sf1⟩ := hS
      obtain ⟨rt, r0, r1, rf0, rf1⟩ := hR
      go_wp2
      refine bodyPost_ret (v := .agg #[.int .i64 (arL L), .int .i64 (arH L)]) (by simp [results, Tryz.results12, go_sem, *]; done) rfl ⟨rfl, ?_⟩
      exact (hbr.setCell (by simp) _).setCell (by simp) _
end Go.Proofs.YtlhdneeiikemjaaGreat
namespace Go.Proofs.YtlhdneeiikemjaaGreat
open Go.RowKit
set_option maxHeartbeats 1000000 in
theorem few_one (g n ca : Nat) (A : Option Addr) (w : World) (h0 : w.cell? ⟨g, 0, none⟩ = some (.slice A n ca)) (hn : n ≤ maxLen) :
    Calls Tryz.prog 8 #[.slice (some ⟨g, 0, none⟩) 1 1] w fun e w' => e = .returned (.bool (decide (n ≤ 150))) ∧ w' = w := by
  unfold maxLen at hn
  go_enter Tryz.func8, Tryz.ntmps8
  go_wp2
  go_loopw [3, 8] (fun s i wr => wr = w ∧ ((s = .int .i64 0 ∧ i = .int .i64 0) ∨ (s = .int .i64 n ∧ i = .int .i64 1))) (fun _ i _ => 1 - (intOf i).toNat)
  case atStart => exact ⟨rfl, .inl ⟨rfl, rfl⟩⟩
  case round =>
    obtain ⟨rfl, ⟨rfl, rfl⟩ | ⟨rfl, rfl⟩⟩ := hrel
    · go_wp2
      go_roundw
      case rel => simp
      case measure => simp [intOf]
    · go_wp2
      go_ret
      exact ⟨ret_bool (by simp; omega), rfl⟩
end Go.Proofs.YtlhdneeiikemjaaGreat
