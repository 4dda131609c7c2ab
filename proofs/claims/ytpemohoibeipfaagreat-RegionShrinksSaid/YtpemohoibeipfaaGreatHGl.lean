/- The walks of the reference's Meet and Touch. -/
import Derived.Test.YtpemohoibeipfaaGreatHGj
import Derived.Test.YtpemohoibeipfaaGreatHBi
set_option linter.unusedVariables false
set_option linter.unusedSimpArgs false
namespace Go.Proofs.YtpemohoibeipfaaGreat
open Go.RowKit
set_option maxHeartbeats 4000000 in
set_option maxRecDepth 100000 in
theorem meet08_any (a0 a1 a2 a3 b0 b1 b2 b3 : Int) (w : World) (ha : VP (a0, a1, a2, a3)) (hb : VP (b0, b1, b2, b3)) :
    Calls Tryz.prog 100 #[.agg #[.int .i64 a0, .int .i64 a1, .int .i64 a2, .int .i64 a3], .agg #[.int .i64 b0, .int .i64 b1, .int .i64 b2, .int .i64 b3]] w fun e w' => ∃ r0 r1 r2 r3 : Int, e = .returned (.tuple #[.agg #[.int .i64 r0, .int .i64 r1, .int .i64 r2, .int .i64 r3], .int .i64 (if meetB (a0, a1, a2, a3) (b0, b1, b2, b3) = true then 0 else 23)]) ∧ Below w.heap.size w w' := by
  have oa : (a2 = -10800000 ∧ a3 = 10800000) ∨ (-10800000 ≤ a2 ∧ a2 < 10800000 ∧ a2 ≤ a3 ∧ a3 - a2 < 21600000) := ha.o
  have ob : (b2 = -10800000 ∧ b3 = 10800000) ∨ (-10800000 ≤ b2 ∧ b2 < 10800000 ∧ b2 ≤ b3 ∧ b3 - b2 < 21600000) := hb.o
  have KC' := fun W => parts08_any a2 a3 b2 b3 W (by omega) (by omega)
  have hlen := pr_lonM (a2, a3) (b2, b3) (by simp only []; omega) (by simp only []; omega)
  have hok : OkR (prF (a2, a3) (b2, b3) 3) := prF_mem (a2, a3) (b2, b3) (by simp only []; omega) 3
  have hl3 := prF_len (a2, a3) (b2, b3) 3
  obtain ⟨L, hL⟩ : ∃ L, L = prF (a2, a3) (b2, b3) 3 := ⟨_, rfl⟩
  rw [← hL] at KC' hlen hok hl3
  have KC := Lib.hid KC'
  have HOK := Lib.hid hok
  obtain ⟨N, hN⟩ : ∃ N, N = L.length := ⟨_, rfl⟩
  rw [← hN] at hl3
  have HLN := Lib.hid hN
  have KM := Lib.hid (fun W => meets05_any a0 a1 b0 b1 W)
  have KI := Lib.hid (fun W => meet05_any a0 a1 b0 b1 W)
  obtain ⟨R, hR⟩ : ∃ R : Int, R = if meetB (a0, a1, a2, a3) (b0, b1, b2, b3) = true then 0 else 23 := ⟨_, rfl⟩
  rw [← hR]
  obtain ⟨T, hT⟩ : ∃ T, T = decide (a0 ≤ b1 ∧ b0 ≤ a1) := ⟨_, rfl⟩
  rw [← hT] at KM
  have hRR : Hid (R = if T = true ∧ N ≠ 0 then 0 else 23) := Lib.hid (by
    rw [hR, hN]
    unfold meetB
    simp only []
    rw [← hT]
    cases hm : lonM (a2, a3) (b2, b3) with
    | false =>
      have := hlen.2 hm
      simp [this]
    | true =>
      have h0 : L.length ≠ 0 := fun e => by rw [hlen.1 e] at hm; cases hm
      simp [h0])
  clear hR hN hlen hok hL KC' oa ob ha hb hT
  have HA := Lib.hid (((K4.new w a0 a1 a2 a3 43).alloc (.cells #[.int .i64 b0, .int .i64 b1, .int .i64 b2, .int .i64 b3] 43)).alloc (.cells #[.int .i64 0, .int .i64 0, .int .i64 0, .int .i64 0] 43))
  have HB : Hid (K4 (((w.alloc (.cells #[.int .i64 a0, .int .i64 a1, .int .i64 a2, .int .i64 a3] 43)).alloc (.cells #[.int .i64 b0, .int .i64 b1, .int .i64 b2, .int .i64 b3] 43)).alloc (.cells #[.int .i64 0, .int .i64 0, .int .i64 0, .int .i64 0] 43)) (w.heap.size + 1) b0 b1 b2 b3) := Lib.hid (by
    have := (K4.new (w.alloc (.cells #[.int .i64 a0, .int .i64 a1, .int .i64 a2, .int .i64 a3] 43)) b0 b1 b2 b3 43).alloc (.cells #[.int .i64 0, .int .i64 0, .int .i64 0, .int .i64 0] 43)
    simpa using this)
  have HZ : Hid (K4 (((w.alloc (.cells #[.int .i64 a0, .int .i64 a1, .int .i64 a2, .int .i64 a3] 43)).alloc (.cells #[.int .i64 b0, .int .i64 b1, .int .i64 b2, .int .i64 b3] 43)).alloc (.cells #[.int .i64 0, .int .i64 0, .int .i64 0, .int .i64 0] 43)) (w.heap.size + 1 + 1) 0 0 0 0) := Lib.hid (by
    have := K4.new ((w.alloc (.cells #[.int .i64 a0, .int .i64 a1, .int .i64 a2, .int .i64 a3] 43)).alloc (.cells #[.int .i64 b0, .int .i64 b1, .int .i64 b2, .int .i64 b3] 43)) 0 0 0 0 43
    simpa using this)
  have b0' : Below w.heap.size w (((w.alloc (.cells #[.int .i64 a0, .int .i64 a1, .int .i64 a2, .int .i64 a3] 43)).alloc (.cells #[.int .i64 b0, .int .i64 b1, .int .i64 b2, .int .i64 b3] 43)).alloc (.cells #[.int .i64 0, .int .i64 0, .int .i64 0, .int .i64 0] 43)) := (((Below.refl _ _).alloc (Nat.le_refl _) _).alloc (by simp) _).alloc (by simp; omega) _
  go_enter Tryz.func100, Tryz.ntmps100
  go_wp2_with fail
  (with_reducible refine (KC.out _).mono ?_)
  rintro e w3 ⟨v, rfl, hown, hb3⟩
  have HA3 := Lib.hid (HA.out.below hb3 HA.out.lt)
  have HB3 := Lib.hid (HB.out.below hb3 HB.out.lt)
  have HZ3 := Lib.hid (HZ.out.below hb3 HZ.out.lt)
  have B3 := Lib.hid (b0'.trans (hb3.mono b0'.size))
  rw [← HLN.out] at hown
  obtain ⟨A4, k4, rfl, ra, -, -⟩ := own_form hown
  have RA := Lib.hid ra
  clear HA HB HZ b0' hb3 hown ra
  obtain ⟨at2, a0', a1', a2', a3', -, -, -, -⟩ := HA3.out
  obtain ⟨bt2, c0, c1, c2, c3, -, -, -, -⟩ := HB3.out
  by_cases hN0 : N = 0
  · subst hN0
    obtain rfl := hRR.out.trans (if_neg (fun h => h.2 rfl))
    obtain ⟨zt, z0, z1, z2, z3, zf0, zf1, zf2, zf3⟩ := HZ3.out
    go_wp2
    refine bodyPost_ret (v := .tuple #[.agg #[.int .i64 0, .int .i64 0, .int .i64 0, .int .i64 0], .int .i64 23]) (by simp [results, Tryz.results100, go_sem, *]; done) rfl ⟨_, _, _, _, rfl, ?_⟩
    exact (((B3.out.setCell (by simp only []; omega) _).setCell (by simp only []; omega) _).setCell (by simp only []; omega) _).setCell (by simp only []; omega) _
  · have d2 : ((N : Int) == 0) = false := by simp; exact hN0
    go_wp2_with fail
    (with_reducible refine (KM.out _).mono ?_)
    rintro e w4 ⟨rfl, hb4⟩
    have HA4 := Lib.hid (HA3.out.below hb4 HA3.out.lt)
    have HB4 := Lib.hid (HB3.out.below hb4 HB3.out.lt)
    have HZ4 := Lib.hid (HZ3.out.below hb4 HZ3.out.lt)
    have B4 := Lib.hid (B3.out.trans (hb4.mono B3.out.size))
    have RA4 := Lib.hid ((RA.out.below hb4).more hb4.size)
    clear HA3 HB3 HZ3 B3 RA hb4 at2 a0' a1' a2' a3' bt2 c0 c1 c2 c3
    obtain ⟨at2, a0', a1', a2', a3', -, -, -, -⟩ := HA4.out
    obtain ⟨bt2, c0, c1, c2, c3, -, -, -, -⟩ := HB4.out
    cases T with
    | false =>
      obtain rfl := hRR.out.trans (if_neg (fun h => by cases h.1))
      obtain ⟨zt, z0, z1, z2, z3, zf0, zf1, zf2, zf3⟩ := HZ4.out
      go_wp2
      refine bodyPost_ret (v := .tuple #[.agg #[.int .i64 0, .int .i64 0, .int .i64 0, .int .i64 0], .int .i64 23]) (by simp [results, Tryz.results100, go_sem, *]; done) rfl ⟨_, _, _, _, rfl, ?_⟩
      exact (((B4.out.setCell (by simp only []; omega) _).setCell (by simp only []; omega) _).setCell (by simp only []; omega) _).setCell (by simp only []; omega) _
    | true =>
      obtain rfl := hRR.out.trans (if_pos ⟨rfl, hN0⟩)
      obtain ⟨P1, hP1⟩ : ∃ P, max a0 b0 = P := ⟨_, rfl⟩
      obtain ⟨P2, hP2⟩ : ∃ P, min a1 b1 = P := ⟨_, rfl⟩
      rw [hP1, hP2] at KI
      obtain ⟨⟨r0, r1⟩, hr⟩ : ∃ r, rarn L = r := ⟨_, rfl⟩
      have KA := fun (W : World) (h : Reads W W.heap.size 2 A4 N (spvs L)) => around08_any A4 N k4 L W h (by omega) HOK.out
      rw [hr] at KA
      have KA := Lib.hid KA
      clear hP1 hP2 hr
      go_wp2_with fail
      (with_reducible refine (KI.out _).mono ?_)
      rintro e w5 ⟨rfl, hb5⟩
      have HZ5 := Lib.hid (HZ4.out.below hb5 HZ4.out.lt)
      have B5 := Lib.hid (B4.out.trans (hb5.mono B4.out.size))
      have RA5 := Lib.hid ((RA4.out.below hb5).more hb5.size)
      clear HA4 HB4 HZ4 B4 RA4 hb5 at2 a0' a1' a2' a3' bt2 c0 c1 c2 c3
      go_wp2_with fail
      (with_reducible refine (KA.out _ RA5.out).mono ?_)
      rintro e w6 ⟨rfl, hb6⟩
      have B6 := Lib.hid (B5.out.trans (hb6.mono B5.out.size))
      obtain ⟨zt, z0, z1, z2, z3, zf0, zf1, zf2, zf3⟩ := HZ5.out.below hb6 HZ5.out.lt
      go_wp2
      refine bodyPost_ret (v := .tuple #[.agg #[.int .i64 P1, .int .i64 P2, .int .i64 r0, .int .i64 r1], .int .i64 0]) (by simp [results, Tryz.results100, go_sem, *]; done) rfl ⟨_, _, _, _, rfl, ?_⟩
      exact (((B6.out.setCell (by simp only []; omega) _).setCell (by simp only []; omega) _).setCell (by simp only []; omega) _).setCell (by simp only []; omega) _
section
variable {W2 w w' : World} {L : Nat → Bool} {g5 g6 : Nat} {a0 a1 a2 a3 b0 b1 b2 b3 : Int}
end
end Go.Proofs.YtpemohoibeipfaaGreat
