/- The walk of the law RegionCovers. -/
import Derived.Test.YtpemohoibeipfaaGreatHJy
import Derived.Test.YtpemohoibeipfaaGreatHSf
set_option linter.unusedVariables false
set_option linter.unusedSimpArgs false
namespace Go.Proofs.YtpemohoibeipfaaGreat
open Go.RowKit
set_option maxHeartbeats 1000000 in
theorem rvpt_any (a b : Int) (w : World) : Calls Tryz.prog 8 #[.agg #[.int .i64 a, .int .i64 b]] w fun e w' => e = .returned (.bool (vptB a b)) ∧ Below w.heap.size w w' := by
  have e : vptB a b = (decide (-5400000 ≤ a) && (decide (a ≤ 5400000) && (decide (-10800000 ≤ b) && decide (b < 10800000)))) := by
    rw [Bool.eq_iff_iff, vptB_true]
    simp only [Bool.and_eq_true, decide_eq_true_eq]
  rw [e]
  cases d0 : decide (-5400000 ≤ a) <;> cases d1 : decide (a ≤ 5400000) <;> cases d2 : decide (-10800000 ≤ b) <;> cases d3 : decide (b < 10800000)
  all_goals
    go_enter Tryz.func8, Tryz.ntmps8
    go_wp2
    go_ret
    refine ⟨rfl, ?_⟩
    repeat (first | exact Below.refl _ _ | assumption | refine bl_drew ?_ | refine bl_drewN ?_ _ | refine Below.setCell ?_ (by first | assumption | omega | (simp; done) | (simp; omega)) _ | refine Below.alloc ?_ (by first | assumption | omega | (simp; done) | (simp; omega)) _)
set_option maxHeartbeats 8000000 in
set_option maxRecDepth 100000 in
theorem regionCovers_any (p : Bx) (a b lv : Int) (w : World) (l0 : 0 ≤ lv) (l1 : lv ≤ 255) :
    Calls Tryz.prog 6 #[.agg #[.int .i64 p.1, .int .i64 p.2.1, .int .i64 p.2.2.1, .int .i64 p.2.2.2], .agg #[.int .i64 a, .int .i64 b], .int .u8 lv] w fun e w' => e = .returned (.bool true) ∧ Below w.heap.size w w' := by
  have KA := Lib.hid awake39
  obtain ⟨lev, hlev⟩ : ∃ k : Int, lv % 16 = k := ⟨_, rfl⟩
  have b0 : 0 ≤ lev ∧ lev ≤ 15 := by omega
  have t0 : lv.tmod 16 = lev := by rw [Int.tmod_eq_emod_of_nonneg l0]; exact hlev
  have u0 : wrap64 lv = lv := IntWalk.wrap64_in _ (by omega)
  have u2 : wrap64 lev = lev := IntWalk.wrap64_in _ (by omega)
  have u4 : wrap64 (lev + 1) = lev + 1 := IntWalk.wrap64_in _ (by omega)
  clear hlev
  have KP := fun W => rValid08_all p W
  have KQ := fun W => rvpt_any a b W
  obtain ⟨p0, p1, p2, p3⟩ := p
  simp only [] at KP ⊢
  have PB := Lib.hid ((Blk.new w 43 #[.int .i64 p0, .int .i64 p1, .int .i64 p2, .int .i64 p3]).alloc (.cells #[.int .i64 a, .int .i64 b] 23))
  have qb := Blk.new (w.alloc (.cells #[.int .i64 p0, .int .i64 p1, .int .i64 p2, .int .i64 p3] 43)) 23 #[.int .i64 a, .int .i64 b]
  rw [World.size_alloc] at qb
  have QB := Lib.hid qb
  have B0 := Lib.hid ((bl_alloc w (.cells #[.int .i64 p0, .int .i64 p1, .int .i64 p2, .int .i64 p3] 43)).alloc (by simp) (.cells #[.int .i64 a, .int .i64 b] 23))
  clear qb
  cases hvp : vpB (p0, p1, p2, p3) with
  | false =>
    rw [hvp] at KP
    have KP := Lib.hid KP
    clear KQ hvp
    go_enter Tryz.func6, Tryz.ntmps6
    go_upto_region 1 with (fail)
    generalize (w.alloc (.cells #[.int .i64 p0, .int .i64 p1, .int .i64 p2, .int .i64 p3] 43)).alloc (.cells #[.int .i64 a, .int .i64 b] 23) = w0 at PB QB B0 ⊢
    go_wp2_with fail
    (with_reducible refine (KA.out _).mono ?_)
    rintro e w1 ⟨rfl, hb1⟩
    have P1 := Lib.hid (PB.out.below hb1 PB.out.lt)
    have B1 := Lib.hid (B0.out.trans (hb1.mono B0.out.size))
    have x0 : w1.cell? ⟨w.heap.size, 0, none⟩ = some (.int .i64 p0) := P1.out.cell 0
    have x1 : w1.cell? ⟨w.heap.size, 1, none⟩ = some (.int .i64 p1) := P1.out.cell 1
    have x2 : w1.cell? ⟨w.heap.size, 2, none⟩ = some (.int .i64 p2) := P1.out.cell 2
    have x3 : w1.cell? ⟨w.heap.size, 3, none⟩ = some (.int .i64 p3) := P1.out.cell 3
    clear hb1 KA PB B0
    go_wp2_with fail
    (with_reducible refine (KP.out _).mono ?_)
    rintro e w2 ⟨rfl, hb2⟩
    have B2 := Lib.hid (B1.out.trans (hb2.mono B1.out.size))
    clear hb2
    go_wp2
    go_ret
    exact ⟨rfl, B2.out⟩
  | true =>
  rw [hvp] at KP
  have KP := Lib.hid KP
  have hp : VP (p0, p1, p2, p3) := (vpB_iff _).1 hvp
  clear hvp
  cases hvq : vptB a b with
  | false =>
    rw [hvq] at KQ
    have KQ := Lib.hid KQ
    clear hvq
    go_enter Tryz.func6, Tryz.ntmps6
    go_upto_region 1 with (fail)
    generalize (w.alloc (.cells #[.int .i64 p0, .int .i64 p1, .int .i64 p2, .int .i64 p3] 43)).alloc (.cells #[.int .i64 a, .int .i64 b] 23) = w0 at PB QB B0 ⊢
    go_wp2_with fail
    (with_reducible refine (KA.out _).mono ?_)
    rintro e w1 ⟨rfl, hb1⟩
    have P1 := Lib.hid (PB.out.below hb1 PB.out.lt)
    have Q1 := Lib.hid (QB.out.below hb1 QB.out.lt)
    have B1 := Lib.hid (B0.out.trans (hb1.mono B0.out.size))
    have x0 : w1.cell? ⟨w.heap.size, 0, none⟩ = some (.int .i64 p0) := P1.out.cell 0
    have x1 : w1.cell? ⟨w.heap.size, 1, none⟩ = some (.int .i64 p1) := P1.out.cell 1
    have x2 : w1.cell? ⟨w.heap.size, 2, none⟩ = some (.int .i64 p2) := P1.out.cell 2
    have x3 : w1.cell? ⟨w.heap.size, 3, none⟩ = some (.int .i64 p3) := P1.out.cell 3
    clear hb1 KA PB B0 QB
    go_wp2_with fail
    (with_reducible refine (KP.out _).mono ?_)
    rintro e w2 ⟨rfl, hb2⟩
    have Q2 := Lib.hid (Q1.out.below hb2 Q1.out.lt)
    have B2 := Lib.hid (B1.out.trans (hb2.mono B1.out.size))
    have y0 : w2.cell? ⟨w.heap.size + 1, 0, none⟩ = some (.int .i64 a) := Q2.out.cell 0
    have y1 : w2.cell? ⟨w.heap.size + 1, 1, none⟩ = some (.int .i64 b) := Q2.out.cell 1
    clear hb2 KP x0 x1 x2 x3
    go_wp2_with fail
    (with_reducible refine (KQ.out _).mono ?_)
    rintro e w3 ⟨rfl, hb3⟩
    have B3 := Lib.hid (B2.out.trans (hb3.mono B2.out.size))
    clear hb3
    go_wp2
    go_ret
    exact ⟨rfl, B3.out⟩
  | true =>
  rw [hvq] at KQ
  have KQ := Lib.hid KQ
  have KR := Lib.hid (fun W => rAround_any p0 p1 p2 p3 (lev + 1) 300 W hp (by omega) (by omega) (by decide) (by decide))
  have HP := Lib.hid hp
  have HVQ := Lib.hid hvq
  clear hp hvq
  go_enter Tryz.func6, Tryz.ntmps6
  go_upto_region 1 with (fail)
  generalize (w.alloc (.cells #[.int .i64 p0, .int .i64 p1, .int .i64 p2, .int .i64 p3] 43)).alloc (.cells #[.int .i64 a, .int .i64 b] 23) = w0 at PB QB B0 ⊢
  go_wp2_with fail
  (with_reducible refine (KA.out _).mono ?_)
  rintro e w1 ⟨rfl, hb1⟩
  have P1 := Lib.hid (PB.out.below hb1 PB.out.lt)
  have Q1 := Lib.hid (QB.out.below hb1 QB.out.lt)
  have B1 := Lib.hid (B0.out.trans (hb1.mono B0.out.size))
  have x0 : w1.cell? ⟨w.heap.size, 0, none⟩ = some (.int .i64 p0) := P1.out.cell 0
  have x1 : w1.cell? ⟨w.heap.size, 1, none⟩ = some (.int .i64 p1) := P1.out.cell 1
  have x2 : w1.cell? ⟨w.heap.size, 2, none⟩ = some (.int .i64 p2) := P1.out.cell 2
  have x3 : w1.cell? ⟨w.heap.size, 3, none⟩ = some (.int .i64 p3) := P1.out.cell 3
  clear hb1 KA PB B0 QB
  go_wp2_with fail
  (with_reducible refine (KP.out _).mono ?_)
  rintro e w2 ⟨rfl, hb2⟩
  have P2 := Lib.hid (P1.out.below hb2 P1.out.lt)
  have Q2 := Lib.hid (Q1.out.below hb2 Q1.out.lt)
  have B2 := Lib.hid (B1.out.trans (hb2.mono B1.out.size))
  have y0 : w2.cell? ⟨w.heap.size + 1, 0, none⟩ = some (.int .i64 a) := Q2.out.cell 0
  have y1 : w2.cell? ⟨w.heap.size + 1, 1, none⟩ = some (.int .i64 b) := Q2.out.cell 1
  clear hb2 KP x0 x1 x2 x3 P1 Q1 B1
  go_wp2_with fail
  (with_reducible refine (KQ.out _).mono ?_)
  rintro e w3 ⟨rfl, hb3⟩
  have P3 := Lib.hid (P2.out.below hb3 P2.out.lt)
  have Q3 := Lib.hid (Q2.out.below hb3 Q2.out.lt)
  have B3 := Lib.hid (B2.out.trans (hb3.mono B2.out.size))
  have x0 : w3.cell? ⟨w.heap.size, 0, none⟩ = some (.int .i64 p0) := P3.out.cell 0
  have x1 : w3.cell? ⟨w.heap.size, 1, none⟩ = some (.int .i64 p1) := P3.out.cell 1
  have x2 : w3.cell? ⟨w.heap.size, 2, none⟩ = some (.int .i64 p2) := P3.out.cell 2
  have x3 : w3.cell? ⟨w.heap.size, 3, none⟩ = some (.int .i64 p3) := P3.out.cell 3
  clear hb3 KQ y0 y1 P2 Q2 B2
  go_wp2_with fail
  (with_reducible refine (KR.out _).mono ?_)
  rintro e w4 ⟨v4, L4, E, rfl, ho4, hb4, hE⟩
  have P4 := Lib.hid (P3.out.below hb4 P3.out.lt)
  have Q4 := Lib.hid (Q3.out.below hb4 Q3.out.lt)
  have B4 := Lib.hid (B3.out.trans (hb4.mono B3.out.size))
  clear hb4 KR x0 x1 x2 x3 P3 Q3 B3 ho4
  rcases hE with ⟨rfl, -, hfew⟩ | rfl
  · have hp := HP.out
    have h1 : (arnA (mtP (p0, p1, p2, p3)) (lev + 1)).length ≤ 300 := by omega
    have h2 : (arnA (mtP (p0, p1, p2, p3)) lev).length ≤ 300 := Nat.le_trans (arnA_len hp b0.1 (by omega)) h1
    have hva := arnA_v (mt := mtP (p0, p1, p2, p3)) b0.1 (by omega : lev ≤ 16)
    have hvb := arnA_v (mt := mtP (p0, p1, p2, p3)) (by omega : 0 ≤ lev + 1) (by omega : lev + 1 ≤ 16)
    have K1 := fun W => Around_yes p0 p1 p2 p3 lev W hp b0.1 (by omega) (by omega)
    have K2 := fun W => Around_yes p0 p1 p2 p3 (lev + 1) W hp (by omega) (by omega) (by omega)
    have hins := (ins_can hvb hva).2 (fun q hq => arnA_finer b0.1 (by omega) q hq)
    have hmt := arn_meets hp b0.1 (by omega : lev ≤ 16)
    have hcon := fun (hi : inX (p0, p1, p2, p3) a b) (ha : a ≠ 5400000) (hb : a ≠ -5400000) => arn_con hp (by omega : 0 ≤ lev + 1) (by omega : lev + 1 ≤ 16) HVQ.out hi ha hb
    have hra := can_vr hva (by omega)
    have hrb := can_vr hvb (by omega)
    have hla := canonC_len _ hva
    have hlb := canonC_len _ hvb
    have hca := can_v _ hva
    obtain ⟨LA, hLA⟩ : ∃ X, canonC (covL (arnA (mtP (p0, p1, p2, p3)) lev)) = X := ⟨_, rfl⟩
    obtain ⟨LB, hLB⟩ : ∃ X, canonC (covL (arnA (mtP (p0, p1, p2, p3)) (lev + 1))) = X := ⟨_, rfl⟩
    rw [hLA] at K1 hins hmt hra hla hca
    rw [hLB] at K2 hins hcon hrb hlb
    have K1 := Lib.hid K1
    have K2 := Lib.hid K2
    have HINS := Lib.hid hins
    have HMT := Lib.hid hmt
    have HCON := Lib.hid hcon
    have HRA := Lib.hid hra
    have HRB := Lib.hid hrb
    have HCA := Lib.hid hca
    have hla3 : LA.length ≤ 300 := by omega
    have hlb3 : LB.length ≤ 300 := by omega
    clear hp h1 h2 hva hvb hins hmt hcon hra hrb hla hlb hca hLA hLB hfew
    have x0 : w4.cell? ⟨w.heap.size, 0, none⟩ = some (.int .i64 p0) := P4.out.cell 0
    have x1 : w4.cell? ⟨w.heap.size, 1, none⟩ = some (.int .i64 p1) := P4.out.cell 1
    have x2 : w4.cell? ⟨w.heap.size, 2, none⟩ = some (.int .i64 p2) := P4.out.cell 2
    have x3 : w4.cell? ⟨w.heap.size, 3, none⟩ = some (.int .i64 p3) := P4.out.cell 3
    go_wp2_with fail
    (with_reducible refine (K1.out _).mono ?_)
    rintro e w5 ⟨v5, rfl, ho5, hb5⟩
    have P5 := Lib.hid (P4.out.below hb5 P4.out.lt)
    have Q5 := Lib.hid (Q4.out.below hb5 Q4.out.lt)
    have B5 := Lib.hid (B4.out.trans (hb5.mono B4.out.size))
    obtain ⟨Aa, ca, rfl, hraa, hna, hma⟩ := own_form ho5
    have RA5 := Lib.hid hraa
    clear hb5 K1 x0 x1 x2 x3 P4 Q4 B4 ho5 hraa
    have x0 : w5.cell? ⟨w.heap.size, 0, none⟩ = some (.int .i64 p0) := P5.out.cell 0
    have x1 : w5.cell? ⟨w.heap.size, 1, none⟩ = some (.int .i64 p1) := P5.out.cell 1
    have x2 : w5.cell? ⟨w.heap.size, 2, none⟩ = some (.int .i64 p2) := P5.out.cell 2
    have x3 : w5.cell? ⟨w.heap.size, 3, none⟩ = some (.int .i64 p3) := P5.out.cell 3
    go_wp2_with fail
    (with_reducible refine (K2.out _).mono ?_)
    rintro e w6 ⟨v6, rfl, ho6, hb6⟩
    have P6 := Lib.hid (P5.out.below hb6 P5.out.lt)
    have Q6 := Lib.hid (Q5.out.below hb6 Q5.out.lt)
    have B6 := Lib.hid (B5.out.trans (hb6.mono B5.out.size))
    have RA6 := Lib.hid ((RA5.out.below hb6).more hb6.size)
    obtain ⟨Ab, cb, rfl, hrbb, hnb, hmb⟩ := own_form ho6
    have RB6 := Lib.hid hrbb
    clear hb6 K2 x0 x1 x2 x3 P5 Q5 B5 ho6 hrbb RA5
    have KV1 := refVR_any Aa LA.length ca LA w6 RA6.out hna hma
    rw [rvrB_eq, HRA.out] at KV1
    have KV1 := Lib.hid KV1
    go_wp2_with fail
    (with_reducible refine (KV1.out).mono ?_)
    rintro e w7 ⟨rfl, hb7⟩
    have P7 := Lib.hid (P6.out.below hb7 P6.out.lt)
    have Q7 := Lib.hid (Q6.out.below hb7 Q6.out.lt)
    have B7 := Lib.hid (B6.out.trans (hb7.mono B6.out.size))
    have RA7 := Lib.hid ((RA6.out.below hb7).more hb7.size)
    have RB7 := Lib.hid ((RB6.out.below hb7).more hb7.size)
    clear hb7 KV1 P6 Q6 B6 RA6 RB6
    have KV2 := refVR_any Ab LB.length cb LB w7 RB7.out hnb hmb
    rw [rvrB_eq, HRB.out] at KV2
    have KV2 := Lib.hid KV2
    go_wp2_with fail
    (with_reducible refine (KV2.out).mono ?_)
    rintro e w8 ⟨rfl, hb8⟩
    have P8 := Lib.hid (P7.out.below hb8 P7.out.lt)
    have Q8 := Lib.hid (Q7.out.below hb8 Q7.out.lt)
    have B8 := Lib.hid (B7.out.trans (hb8.mono B7.out.size))
    have RA8 := Lib.hid ((RA7.out.below hb8).more hb8.size)
    have RB8 := Lib.hid ((RB7.out.below hb8).more hb8.size)
    clear hb8 KV2 P7 Q7 B7 RA7 RB7
    have KI := Inside_any Ab Aa LB.length LA.length cb ca LB LA w8 RB8.out RA8.out (by simp only [maxLen]; omega) (by simp only [maxLen]; omega) HRB.out HRA.out
    rw [HINS.out] at KI
    have KI := Lib.hid KI
    go_wp2_with fail
    (with_reducible refine (KI.out).mono ?_)
    rintro e w9 ⟨rfl, hb9⟩
    have P9 := Lib.hid (P8.out.below hb9 P8.out.lt)
    have Q9 := Lib.hid (Q8.out.below hb9 Q8.out.lt)
    have B9 := Lib.hid (B8.out.trans (hb9.mono B8.out.size))
    have RA9 := Lib.hid ((RA8.out.below hb9).more hb9.size)
    have RB9 := Lib.hid ((RB8.out.below hb9).more hb9.size)
    clear hb9 KI P8 Q8 B8 RA8 RB8
    have hlw9 : w.heap.size + 1 < w9.heap.size := Q9.out.lt
    go_wp2
    go_loopg [91] LA.length (fun gz s91 wr => ∃ k : Nat, k ≤ LA.length ∧ LA.length - k ≤ gz ∧ s91 = .int .i64 k ∧ Below w9.heap.size w9 wr)
    case atStart => exact ⟨0, Nat.zero_le _, by omega, rfl, Below.refl _ _⟩
    case round =>
      obtain ⟨k, hk, hg, rfl, hbr⟩ := hrel
      have HBR := Lib.hid hbr
      have BR := Lib.hid (B9.out.trans (hbr.mono B9.out.size))
      have PR := Lib.hid (P9.out.below hbr P9.out.lt)
      have QR := Lib.hid (Q9.out.below hbr Q9.out.lt)
      have hsr := hbr.size
      by_cases hlt : k < LA.length
      · obtain ⟨bb, off, rfl, hbb, z0, z1, z2⟩ := RA9.out.elem hlt
        have z0 := (hbr.cell (p := ⟨bb, off + k * 3, none⟩) hbb).trans z0
        have z1 := (hbr.cell (p := ⟨bb, off + k * 3 + 1, none⟩) hbb).trans z1
        have z2 := (hbr.cell (p := ⟨bb, off + k * 3 + 2, none⟩) hbb).trans z2
        have hmem : gt LA k ∈ LA := by simp [gt, hlt]
        have hxv := HCA.out _ hmem
        have hxm := HMT.out _ hmem
        have hbp := bx_vp hxv
        have KB := fun W => Box_yes (gt LA k).1 (gt LA k).2.1 (gt LA k).2.2 W ((vl_iff _).2 hxv)
        rw [boxV_bx] at KB
        have KM := fun W => Meet_any (bxI (gt LA k)).1 (bxI (gt LA k)).2.1 (bxI (gt LA k)).2.2.1 (bxI (gt LA k)).2.2.2 p0 p1 p2 p3 W hbp HP.out
        rw [show ((bxI (gt LA k)).1, (bxI (gt LA k)).2.1, (bxI (gt LA k)).2.2.1, (bxI (gt LA k)).2.2.2) = bxI (gt LA k) from rfl, hxm] at KM
        clear hmem hxv hxm hbp hbr
        generalize bxI (gt LA k) = q at KB KM
        generalize gt LA k = x at z0 z1 z2 KB
        obtain ⟨x0, x1, x2⟩ := x
        obtain ⟨q0, q1, q2, q3⟩ := q
        simp only [] at z0 z1 z2 KB KM
        simp only [if_true] at KM
        have KB := Lib.hid KB
        have KM := Lib.hid KM
        have hbc := bl_alloc wr (.cells #[.int .i64 x0, .int .i64 x1, .int .i64 x2] 58)
        have HBC := Lib.hid hbc
        clear hbc
        go_wp2_with fail
        (with_reducible refine (KB.out _).mono ?_)
        rintro e wa ⟨rfl, hba⟩
        have ba := HBC.out.trans (hba.mono HBC.out.size)
        have PA := Lib.hid ((PR.out.below ba PR.out.lt).alloc (.cells #[.int .i64 q0, .int .i64 q1, .int .i64 q2, .int .i64 q3] 43))
        have NQ := Lib.hid (Blk.new wa 43 #[.int .i64 q0, .int .i64 q1, .int .i64 q2, .int .i64 q3])
        have baa := ba.alloc ba.size (.cells #[.int .i64 q0, .int .i64 q1, .int .i64 q2, .int .i64 q3] 43)
        have BA := Lib.hid baa
        have m0 : wa.cell? ⟨w.heap.size, 0, none⟩ = some (.int .i64 p0) := (PR.out.below ba PR.out.lt).cell 0
        have m1 : wa.cell? ⟨w.heap.size, 1, none⟩ = some (.int .i64 p1) := (PR.out.below ba PR.out.lt).cell 1
        have m2 : wa.cell? ⟨w.heap.size, 2, none⟩ = some (.int .i64 p2) := (PR.out.below ba PR.out.lt).cell 2
        have m3 : wa.cell? ⟨w.heap.size, 3, none⟩ = some (.int .i64 p3) := (PR.out.below ba PR.out.lt).cell 3
        have hlwa : w.heap.size < wa.heap.size := by have := ba.size; omega
        clear hba ba baa KB HBC z0 z1 z2
        go_wp2_with fail
        (with_reducible refine (KM.out _).mono ?_)
        rintro e wb ⟨t0, t1, t2, t3, rfl, hbb2⟩
        have BB := Lib.hid ((HBR.out.trans ((BA.out.trans (hbb2.mono BA.out.size)).mono hsr)))
        have BB2 := Lib.hid (BB.out.alloc BB.out.size (.cells #[.int .i64 t0, .int .i64 t1, .int .i64 t2, .int .i64 t3] 43))
        clear hbb2 KM m0 m1 m2 m3
        go_wp2
        go_roundg (LA.length - (k + 1))
        case measure => omega
        case rel => exact ⟨k + 1, by omega, by omega, by go_num, BB2.out⟩
      · have x0 : wr.cell? ⟨w.heap.size, 0, none⟩ = some (.int .i64 p0) := PR.out.cell 0
        have x1 : wr.cell? ⟨w.heap.size, 1, none⟩ = some (.int .i64 p1) := PR.out.cell 1
        have x2 : wr.cell? ⟨w.heap.size, 2, none⟩ = some (.int .i64 p2) := PR.out.cell 2
        have x3 : wr.cell? ⟨w.heap.size, 3, none⟩ = some (.int .i64 p3) := PR.out.cell 3
        have y0 : wr.cell? ⟨w.heap.size + 1, 0, none⟩ = some (.int .i64 a) := QR.out.cell 0
        have y1 : wr.cell? ⟨w.heap.size + 1, 1, none⟩ = some (.int .i64 b) := QR.out.cell 1
        have KC := Lib.hid (fun W => placeContains_vp p0 p1 p2 p3 a b W HP.out HVQ.out)
        have RBR := Lib.hid ((RB9.out.below hbr).more hbr.size)
        have hkk : k = LA.length := by omega
        clear hbr HMT HCA RA9 RB9
        go_wp2_with fail
        (with_reducible refine (KC.out _).mono ?_)
        rintro e wc ⟨rfl, hbc⟩
        have QC := Lib.hid (QR.out.below hbc QR.out.lt)
        have BC := Lib.hid (BR.out.trans (hbc.mono BR.out.size))
        have KCC := Lib.hid (Contains_any Ab LB.length cb LB a b wc ((RBR.out.below hbc).more hbc.size) (by simp only [maxLen]; omega) HRB.out HVQ.out)
        clear x0 x1 x2 x3 y0 y1 hbc KC
        have y0 : wc.cell? ⟨w.heap.size + 1, 0, none⟩ = some (.int .i64 a) := QC.out.cell 0
        have y1 : wc.cell? ⟨w.heap.size + 1, 1, none⟩ = some (.int .i64 b) := QC.out.cell 1
        go_wp2_with fail
        (with_reducible refine (KCC.out).mono ?_)
        rintro e wd ⟨rfl, hbd⟩
        have QD := Lib.hid (QC.out.below hbd QC.out.lt)
        have BD := Lib.hid (BC.out.trans (hbd.mono BC.out.size))
        clear y0 y1 hbd KCC
        have y0 : wd.cell? ⟨w.heap.size + 1, 0, none⟩ = some (.int .i64 a) := QD.out.cell 0
        have y1 : wd.cell? ⟨w.heap.size + 1, 1, none⟩ = some (.int .i64 b) := QD.out.cell 1
        have hfin : inBox p0 p1 p2 p3 a b = false ∨ (inBox p0 p1 p2 p3 a b = true ∧ conB LB a b = true) ∨ (inBox p0 p1 p2 p3 a b = true ∧ conB LB a b = false ∧ (a == 5400000) = true) ∨ (inBox p0 p1 p2 p3 a b = true ∧ conB LB a b = false ∧ (a == 5400000) = false ∧ (a == -5400000) = true) := by
          cases h1 : inBox p0 p1 p2 p3 a b with
          | false => exact .inl rfl
          | true =>
            cases h2 : conB LB a b with
            | true => exact .inr (.inl ⟨rfl, rfl⟩)
            | false =>
              by_cases e1 : a = 5400000
              · exact .inr (.inr (.inl ⟨rfl, rfl, by simpa using e1⟩))
              · by_cases e2 : a = -5400000
                · exact .inr (.inr (.inr ⟨rfl, rfl, by simpa using e1, by simpa using e2⟩))
                · exfalso
                  unfold inBox at h1
                  simp only [decide_eq_false e1, decide_eq_false e2, Bool.false_or, Bool.and_eq_true, decide_eq_true_eq] at h1
                  obtain ⟨h3, h4⟩ := h1
                  unfold lonIn at h4
                  rw [decide_eq_true_eq] at h4
                  have := HCON.out ⟨h3.1, h3.2, h4⟩ e1 e2
                  rw [this] at h2
                  cases h2
        generalize inBox p0 p1 p2 p3 a b = c1 at hfin ⊢
        generalize conB LB a b = c2 at hfin ⊢
        clear HCON KQ
        rcases hfin with rfl | ⟨rfl, rfl⟩ | ⟨rfl, rfl, e1⟩ | ⟨rfl, rfl, e1, e2⟩
        all_goals
          go_wp2
          go_ret
          exact ⟨rfl, BD.out⟩
  · have hbe : ((-1 : Int) != 0) = true := by decide
    go_wp2
    go_ret
    exact ⟨rfl, B4.out⟩
end Go.Proofs.YtpemohoibeipfaaGreat
