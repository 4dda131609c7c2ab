/- Plain: the enclosures of the sine over any arc, and over less of it. No program in sight. -/
import Derived.Test.YtifdgdgfmjfbdaaGreatHNf
import Derived.Test.YtifdgdgfmjfbdaaGreatHJw
import Derived.Test.YtifdgdgfmjfbdaaGreatHVj
set_option linter.unusedVariables false
set_option linter.unusedSimpArgs false
namespace Go.Proofs.YtifdgdgfmjfbdaaGreat
open Go.RowKit
theorem kqt {L : Nat → Bool} {i j : Nat} {p : Prop} (E : Hid (L j = true → p)) (hne : (j == i) = false := by decide) : mkd L i j = true → p := fun h => E.out (by rwa [mkd_ne (by simpa using hne)] at h)
theorem kqf {L : Nat → Bool} {i j : Nat} {p : Prop} (E : Hid (L j = false → p)) : mkd L i j = false → p := fun h => E.out (by
  unfold mkd at h
  split at h
  · cases h
  · exact h)
def CoI (gr : Nat) (cc : Array Value) (W2 : World) (x0 x1 x2 x3 x4 x5 x6 x7 x8 x9 x10 x11 x12 x13 x14 x15 x16 x17 x18 x19 x21 : Value) (a : Act) (L : Nat → Bool) (a' : Act) (w' : World) : Prop :=
  ∃ v33 v34 v35 v36 v37 v38 v39 v40 v41 v42 v43 v44 v45 v46 v47 v48 v49 v50 v51 v52 v5 : Value, a' = (((((((((((((((((((((a.put (some 33) v33).put (some 34) v34).put (some 35) v35).put (some 36) v36).put (some 37) v37).put (some 38) v38).put (some 39) v39).put (some 40) v40).put (some 41) v41).put (some 42) v42).put (some 43) v43).put (some 44) v44).put (some 45) v45).put (some 46) v46).put (some 47) v47).put (some 48) v48).put (some 49) v49).put (some 50) v50).put (some 51) v51).put (some 52) v52).put (some 5) v5) ∧ XK gr (.slice none 0 0) W2 w' ∧
    (L 20 = false → Blk w' gr 39 #[.int .i64 0, .int .i64 0, .int .i64 0, .int .i64 0, .int .i64 0, .int .i64 0]) ∧
    (L 20 = true → Blk w' gr 39 cc) ∧
    (L 0 = true → v33 = x0) ∧
    (L 1 = true → v34 = x1) ∧
    (L 2 = true → v35 = x2) ∧
    (L 3 = true → v36 = x3) ∧
    (L 4 = true → v37 = x4) ∧
    (L 5 = true → v38 = x5) ∧
    (L 6 = true → v39 = x6) ∧
    (L 7 = true → v40 = x7) ∧
    (L 8 = true → v41 = x8) ∧
    (L 9 = true → v42 = x9) ∧
    (L 10 = true → v43 = x10) ∧
    (L 11 = true → v44 = x11) ∧
    (L 12 = true → v45 = x12) ∧
    (L 13 = true → v46 = x13) ∧
    (L 14 = true → v47 = x14) ∧
    (L 15 = true → v48 = x15) ∧
    (L 16 = true → v49 = x16) ∧
    (L 17 = true → v50 = x17) ∧
    (L 18 = true → v51 = x18) ∧
    (L 19 = true → v52 = x19) ∧
    (L 21 = true → v5 = x21)
theorem CoI.start {gr : Nat} {cc : Array Value} {W2 : World} {x0 x1 x2 x3 x4 x5 x6 x7 x8 x9 x10 x11 x12 x13 x14 x15 x16 x17 x18 x19 x21 : Value} (a : Act) (h : Blk W2 gr 39 #[.int .i64 0, .int .i64 0, .int .i64 0, .int .i64 0, .int .i64 0, .int .i64 0]) : CoI gr cc W2 x0 x1 x2 x3 x4 x5 x6 x7 x8 x9 x10 x11 x12 x13 x14 x15 x16 x17 x18 x19 x21 a (fun _ => false) a W2.drew :=
  ⟨_, _, _, _, _, _, _, _, _, _, _, _, _, _, _, _, _, _, _, _, _, by rw [putQ_self a 33, putQ_self a 34, putQ_self a 35, putQ_self a 36, putQ_self a 37, putQ_self a 38, putQ_self a 39, putQ_self a 40, putQ_self a 41, putQ_self a 42, putQ_self a 43, putQ_self a 44, putQ_self a 45, putQ_self a 46, putQ_self a 47, putQ_self a 48, putQ_self a 49, putQ_self a 50, putQ_self a 51, putQ_self a 52, putQ_self a 5], XK.of_below (bl_drew (Below.refl _ _)), fun _ => h.drew, fun h => (by cases h), fun h => (by cases h), fun h => (by cases h), fun h => (by cases h), fun h => (by cases h), fun h => (by cases h), fun h => (by cases h), fun h => (by cases h), fun h => (by cases h), fun h => (by cases h), fun h => (by cases h), fun h => (by cases h), fun h => (by cases h), fun h => (by cases h), fun h => (by cases h), fun h => (by cases h), fun h => (by cases h), fun h => (by cases h), fun h => (by cases h), fun h => (by cases h), fun h => (by cases h), fun h => (by cases h)⟩
set_option maxHeartbeats 1000000 in
set_option maxRecDepth 100000 in
theorem circLat_yes (lo hi : Int) (w : World) (h : latB (lo, hi) = true) : Calls Tryz.prog 145 #[.agg #[.int .i64 lo, .int .i64 hi]] w fun e w' => e = .returned (.bool true) ∧ Below w.heap.size w w' := by
  have hp : VP (lo, hi, 0, 0) := (vpB_iff _).1 (by unfold vpB; rw [show latB (lo, hi) = true from h]; show (true && vlB (0, 0)) = true; decide)
  have KV := Lib.hid (fun W => placeValid_vp lo hi 0 0 W hp)
  have B0 := Lib.hid (bl_alloc w (.cells #[.int .i64 lo, .int .i64 hi] 29))
  clear hp h
  go_enter Tryz.func145, Tryz.ntmps145
  go_wp2_with fail
  (with_reducible refine (KV.out _).mono ?_)
  rintro e w1 ⟨rfl, hb1⟩
  have B1 := Lib.hid (B0.out.trans (hb1.mono B0.out.size))
  clear hb1
  go_wp2
  go_ret
  exact ⟨rfl, B1.out⟩
set_option maxHeartbeats 8000000 in
set_option maxRecDepth 100000 in
theorem circOf_yes (h0 h1 g0 g1 d0 d1 s0 s1 p0 p1 : Int) (w : World) (hh : avB h0 h1 = true) (hg : avB g0 g1 = true) (hd : latB (d0, d1) = true) (b0 : -5400000 ≤ h0) (b1 : h1 ≤ 5400000) :
    Calls Tryz.prog 82 #[.agg #[.int .i64 h0, .int .i64 h1], .agg #[.int .i64 g0, .int .i64 g1, .int .i64 d0, .int .i64 d1, .int .i64 s0, .int .i64 s1, .int .i64 p0, .int .i64 p1]] w fun e w' => e = .returned (.tuple #[.agg #[.int .i64 d0, .int .i64 d1, .int .i64 (lgLo (-g1) (-g0)), .int .i64 (lgHi (-g1) (-g0)), .int .i64 (5400000 - h1), .int .i64 (5400000 - h0)], .int .i64 0]) ∧ Below w.heap.size w w' := by
  have q1 := avB_true.1 hh
  have q2 := avB_true.1 hg
  have K1 := fun W => aVal_any h0 h1 W
  rw [hh] at K1
  have K2 := fun W => aVal_any g0 g1 W
  rw [hg] at K2
  have K3 := Lib.hid (fun W => circLat_yes d0 d1 W hd)
  have KL := fun W => clong_any (-g1) (-g0) W (avB_true.2 (by omega))
  have n1 : wrap64 (-g1) = -g1 := IntWalk.wrap64_in _ (by omega)
  have n0 : wrap64 (-g0) = -g0 := IntWalk.wrap64_in _ (by omega)
  have r0 : wrap64 (5400000 - h1) = 5400000 - h1 := IntWalk.wrap64_in _ (by omega)
  have r1 : wrap64 (5400000 - h0) = 5400000 - h0 := IntWalk.wrap64_in _ (by omega)
  have c0 : decide (h0 < -5400000) = false := decide_eq_false (by omega)
  have c1 : decide (5400000 < h1) = false := decide_eq_false (by omega)
  obtain ⟨L0, hL0⟩ : ∃ x, lgLo (-g1) (-g0) = x := ⟨_, rfl⟩
  obtain ⟨L1, hL1⟩ : ∃ x, lgHi (-g1) (-g0) = x := ⟨_, rfl⟩
  obtain ⟨N1, hN1⟩ : ∃ x, -g1 = x := ⟨_, rfl⟩
  obtain ⟨N0, hN0⟩ : ∃ x, -g0 = x := ⟨_, rfl⟩
  obtain ⟨R0, hR0⟩ : ∃ x, 5400000 - h1 = x := ⟨_, rfl⟩
  obtain ⟨R1, hR1⟩ : ∃ x, 5400000 - h0 = x := ⟨_, rfl⟩
  rw [hL0, hL1] at KL ⊢
  rw [hN1, hN0] at KL
  rw [hR0, hR1]
  rw [hN1] at n1
  rw [hN0] at n0
  rw [hR0] at r0
  rw [hR1] at r1
  have K1 := Lib.hid K1
  have K2 := Lib.hid K2
  have KL := Lib.hid KL
  have hh0 := ((Blk.new w 29 #[.int .i64 h0, .int .i64 h1]).alloc (.cells #[.int .i64 g0, .int .i64 g1, .int .i64 d0, .int .i64 d1, .int .i64 s0, .int .i64 s1, .int .i64 p0, .int .i64 p1] 80)).alloc (.cells #[.int .i64 0, .int .i64 0, .int .i64 0, .int .i64 0, .int .i64 0, .int .i64 0] 39)
  have gg0 := (Blk.new (w.alloc (.cells #[.int .i64 h0, .int .i64 h1] 29)) 80 #[.int .i64 g0, .int .i64 g1, .int .i64 d0, .int .i64 d1, .int .i64 s0, .int .i64 s1, .int .i64 p0, .int .i64 p1]).alloc (.cells #[.int .i64 0, .int .i64 0, .int .i64 0, .int .i64 0, .int .i64 0, .int .i64 0] 39)
  have rr0 := Blk.new ((w.alloc (.cells #[.int .i64 h0, .int .i64 h1] 29)).alloc (.cells #[.int .i64 g0, .int .i64 g1, .int .i64 d0, .int .i64 d1, .int .i64 s0, .int .i64 s1, .int .i64 p0, .int .i64 p1] 80)) 39 #[.int .i64 0, .int .i64 0, .int .i64 0, .int .i64 0, .int .i64 0, .int .i64 0]
  simp only [World.size_alloc] at gg0 rr0
  have bb := ((bl_alloc w (.cells #[.int .i64 h0, .int .i64 h1] 29)).alloc (by simp) (.cells #[.int .i64 g0, .int .i64 g1, .int .i64 d0, .int .i64 d1, .int .i64 s0, .int .i64 s1, .int .i64 p0, .int .i64 p1] 80)).alloc (by simp; omega) (.cells #[.int .i64 0, .int .i64 0, .int .i64 0, .int .i64 0, .int .i64 0, .int .i64 0] 39)
  clear hh hg hd b0 b1 q1 q2 hL0 hL1
  go_enter Tryz.func82, Tryz.ntmps82
  go_upto_region 1 with (fail)
  generalize ((w.alloc (.cells #[.int .i64 h0, .int .i64 h1] 29)).alloc (.cells #[.int .i64 g0, .int .i64 g1, .int .i64 d0, .int .i64 d1, .int .i64 s0, .int .i64 s1, .int .i64 p0, .int .i64 p1] 80)).alloc (.cells #[.int .i64 0, .int .i64 0, .int .i64 0, .int .i64 0, .int .i64 0, .int .i64 0] 39) = wa at hh0 gg0 rr0 bb ⊢
  have HA := Lib.hid hh0
  have GA := Lib.hid gg0
  have RA := Lib.hid rr0
  have BA := Lib.hid bb
  clear hh0 gg0 rr0 bb
  have x0 : wa.cell? ⟨w.heap.size, 0, none⟩ = some (.int .i64 h0) := HA.out.cell 0
  have x1 : wa.cell? ⟨w.heap.size, 1, none⟩ = some (.int .i64 h1) := HA.out.cell 1
  go_wp2_with fail
  (with_reducible refine (K1.out _).mono ?_)
  rintro e w1 ⟨rfl, hb1⟩
  have H1' := Lib.hid (HA.out.below hb1 HA.out.lt)
  have G1' := Lib.hid (GA.out.below hb1 GA.out.lt)
  have R1' := Lib.hid (RA.out.below hb1 RA.out.lt)
  have B1 := Lib.hid (BA.out.trans (hb1.mono BA.out.size))
  clear hb1 x0 x1 HA GA RA BA
  have x0 : w1.cell? ⟨w.heap.size + 1, 0, none⟩ = some (.int .i64 g0) := G1'.out.cell 0
  have x1 : w1.cell? ⟨w.heap.size + 1, 1, none⟩ = some (.int .i64 g1) := G1'.out.cell 1
  go_wp2_with fail
  (with_reducible refine (K2.out _).mono ?_)
  rintro e w1b ⟨rfl, hb2⟩
  have H2' := Lib.hid (H1'.out.below hb2 H1'.out.lt)
  have G2' := Lib.hid (G1'.out.below hb2 G1'.out.lt)
  have R2' := Lib.hid (R1'.out.below hb2 R1'.out.lt)
  have B2 := Lib.hid (B1.out.trans (hb2.mono B1.out.size))
  clear hb2 x0 x1 H1' G1' R1' B1
  have x2 : w1b.cell? ⟨w.heap.size + 1, 2, none⟩ = some (.int .i64 d0) := G2'.out.cell 2
  have x3 : w1b.cell? ⟨w.heap.size + 1, 3, none⟩ = some (.int .i64 d1) := G2'.out.cell 3
  go_wp2_with fail
  (with_reducible refine (K3.out _).mono ?_)
  rintro e w2 ⟨rfl, hb3⟩
  have HH := Lib.hid (H2'.out.below hb3 H2'.out.lt)
  have GG := Lib.hid (G2'.out.below hb3 G2'.out.lt)
  have RR := Lib.hid (R2'.out.below hb3 R2'.out.lt)
  have B3 := Lib.hid (B2.out.trans (hb3.mono B2.out.size))
  clear hb3 x2 x3 H2' G2' R2' B2
  have x0 : w2.cell? ⟨w.heap.size, 0, none⟩ = some (.int .i64 h0) := HH.out.cell 0
  have x1 : w2.cell? ⟨w.heap.size, 1, none⟩ = some (.int .i64 h1) := HH.out.cell 1
  go_upto_region 5 with (fail)
  clear x0 x1
  refine wp_region_inv3 (by kernel_rfl) (CoI (w.heap.size + 2) #[.int .i64 d0, .int .i64 d1, .int .i64 L0, .int .i64 L1, .int .i64 R0, .int .i64 R1] w2 (.pointer (some ⟨w.heap.size + 1, 2, none⟩)) (.agg #[.int .i64 d0, .int .i64 d1]) (.pointer (some ⟨w.heap.size + 1, 0, none⟩)) (.pointer (some ⟨w.heap.size + 1, 1, none⟩)) (.int .i64 g1) (.int .i64 N1) (.pointer (some ⟨w.heap.size + 1, 0, none⟩)) (.pointer (some ⟨w.heap.size + 1, 0, none⟩)) (.int .i64 g0) (.int .i64 N0) (.agg #[.int .i64 N1, .int .i64 N0]) (.agg #[.int .i64 L0, .int .i64 L1]) (.pointer (some ⟨w.heap.size, 1, none⟩)) (.int .i64 h1) (.int .i64 R0) (.pointer (some ⟨w.heap.size, 0, none⟩)) (.int .i64 h0) (.int .i64 R1) (.agg #[.int .i64 R0, .int .i64 R1]) (.agg #[.int .i64 d0, .int .i64 d1, .int .i64 L0, .int .i64 L1, .int .i64 R0, .int .i64 R1]) (.int .i64 0)) (waits_bind (by kernel_rfl)) ?start ?step ?fin
  case start => exact CoI.start _ RR.out
  case step =>
    rintro L io o a1' w' ho hL haf ⟨v33, v34, v35, v36, v37, v38, v39, v40, v41, v42, v43, v44, v45, v46, v47, v48, v49, v50, v51, v52, v5, rfl, hk, h1, h2, e0, e1, e2, e3, e4, e5, e6, e7, e8, e9, e10, e11, e12, e13, e14, e15, e16, e17, e18, e19, e21⟩
    have HK := Lib.hid hk
    have H1 := Lib.hid h1
    have H2 := Lib.hid h2
    have E0 := Lib.hid e0
    have E1 := Lib.hid e1
    have E2 := Lib.hid e2
    have E3 := Lib.hid e3
    have E4 := Lib.hid e4
    have E5 := Lib.hid e5
    have E6 := Lib.hid e6
    have E7 := Lib.hid e7
    have E8 := Lib.hid e8
    have E9 := Lib.hid e9
    have E10 := Lib.hid e10
    have E11 := Lib.hid e11
    have E12 := Lib.hid e12
    have E13 := Lib.hid e13
    have E14 := Lib.hid e14
    have E15 := Lib.hid e15
    have E16 := Lib.hid e16
    have E17 := Lib.hid e17
    have E18 := Lib.hid e18
    have E19 := Lib.hid e19
    have E21 := Lib.hid e21
    clear hk h1 h2 e0 e1 e2 e3 e4 e5 e6 e7 e8 e9 e10 e11 e12 e13 e14 e15 e16 e17 e18 e19 e21
    rcases io with _ | _ | _ | _ | _ | _ | _ | _ | _ | _ | _ | _ | _ | _ | _ | _ | _ | _ | _ | _ | _ | _ | io
    all_goals (simp at ho; try subst ho)
    all_goals (try simp [Region.binds] at haf)
    · go_wp2
      unfold CoI
      exact ⟨(.pointer (some ⟨w.heap.size + 1, 2, none⟩)), v34, v35, v36, v37, v38, v39, v40, v41, v42, v43, v44, v45, v46, v47, v48, v49, v50, v51, v52, v5, by simp only [Act.put, List.setIfInBounds_toArray, List.set_cons_zero, List.set_cons_succ], HK.out, kqf H1, kqt H2, fun _ => rfl, kqt E1, kqt E2, kqt E3, kqt E4, kqt E5, kqt E6, kqt E7, kqt E8, kqt E9, kqt E10, kqt E11, kqt E12, kqt E13, kqt E14, kqt E15, kqt E16, kqt E17, kqt E18, kqt E19, kqt E21⟩
    · have z9 := HK.out.blk GG.out (by omega) (by simp [Value.ownBlock])
      have k2 : w'.cell? ⟨w.heap.size + 1, 2, none⟩ = some (.int .i64 d0) := z9.cell 2
      have k3 : w'.cell? ⟨w.heap.size + 1, 3, none⟩ = some (.int .i64 d1) := z9.cell 3
      clear z9
      obtain rfl := (E0.out (by simp [haf])).symm
      go_wp2
      unfold CoI
      exact ⟨(.pointer (some ⟨w.heap.size + 1, 2, none⟩)), (.agg #[.int .i64 d0, .int .i64 d1]), v35, v36, v37, v38, v39, v40, v41, v42, v43, v44, v45, v46, v47, v48, v49, v50, v51, v52, v5, by simp only [Act.put, List.setIfInBounds_toArray, List.set_cons_zero, List.set_cons_succ], HK.out, kqf H1, kqt H2, fun _ => rfl, fun _ => rfl, kqt E2, kqt E3, kqt E4, kqt E5, kqt E6, kqt E7, kqt E8, kqt E9, kqt E10, kqt E11, kqt E12, kqt E13, kqt E14, kqt E15, kqt E16, kqt E17, kqt E18, kqt E19, kqt E21⟩
    · go_wp2
      unfold CoI
      exact ⟨v33, v34, (.pointer (some ⟨w.heap.size + 1, 0, none⟩)), v36, v37, v38, v39, v40, v41, v42, v43, v44, v45, v46, v47, v48, v49, v50, v51, v52, v5, by simp only [Act.put, List.setIfInBounds_toArray, List.set_cons_zero, List.set_cons_succ], HK.out, kqf H1, kqt H2, kqt E0, kqt E1, fun _ => rfl, kqt E3, kqt E4, kqt E5, kqt E6, kqt E7, kqt E8, kqt E9, kqt E10, kqt E11, kqt E12, kqt E13, kqt E14, kqt E15, kqt E16, kqt E17, kqt E18, kqt E19, kqt E21⟩
    · obtain rfl := (E2.out (by simp [haf])).symm
      go_wp2
      unfold CoI
      exact ⟨v33, v34, (.pointer (some ⟨w.heap.size + 1, 0, none⟩)), (.pointer (some ⟨w.heap.size + 1, 1, none⟩)), v37, v38, v39, v40, v41, v42, v43, v44, v45, v46, v47, v48, v49, v50, v51, v52, v5, by simp only [Act.put, List.setIfInBounds_toArray, List.set_cons_zero, List.set_cons_succ], HK.out, kqf H1, kqt H2, kqt E0, kqt E1, fun _ => rfl, fun _ => rfl, kqt E4, kqt E5, kqt E6, kqt E7, kqt E8, kqt E9, kqt E10, kqt E11, kqt E12, kqt E13, kqt E14, kqt E15, kqt E16, kqt E17, kqt E18, kqt E19, kqt E21⟩
    · have z9 := HK.out.blk GG.out (by omega) (by simp [Value.ownBlock])
      have k1 : w'.cell? ⟨w.heap.size + 1, 1, none⟩ = some (.int .i64 g1) := z9.cell 1
      clear z9
      obtain rfl := (E3.out (by simp [haf])).symm
      go_wp2
      unfold CoI
      exact ⟨v33, v34, v35, (.pointer (some ⟨w.heap.size + 1, 1, none⟩)), (.int .i64 g1), v38, v39, v40, v41, v42, v43, v44, v45, v46, v47, v48, v49, v50, v51, v52, v5, by simp only [Act.put, List.setIfInBounds_toArray, List.set_cons_zero, List.set_cons_succ], HK.out, kqf H1, kqt H2, kqt E0, kqt E1, kqt E2, fun _ => rfl, fun _ => rfl, kqt E5, kqt E6, kqt E7, kqt E8, kqt E9, kqt E10, kqt E11, kqt E12, kqt E13, kqt E14, kqt E15, kqt E16, kqt E17, kqt E18, kqt E19, kqt E21⟩
    · obtain rfl := (E4.out (by simp [haf])).symm
      go_wp2
      unfold CoI
      exact ⟨v33, v34, v35, v36, (.int .i64 g1), (.int .i64 N1), v39, v40, v41, v42, v43, v44, v45, v46, v47, v48, v49, v50, v51, v52, v5, by simp only [Act.put, List.setIfInBounds_toArray, List.set_cons_zero, List.set_cons_succ], HK.out, kqf H1, kqt H2, kqt E0, kqt E1, kqt E2, kqt E3, fun _ => rfl, fun _ => rfl, kqt E6, kqt E7, kqt E8, kqt E9, kqt E10, kqt E11, kqt E12, kqt E13, kqt E14, kqt E15, kqt E16, kqt E17, kqt E18, kqt E19, kqt E21⟩
    · go_wp2
      unfold CoI
      exact ⟨v33, v34, v35, v36, v37, v38, (.pointer (some ⟨w.heap.size + 1, 0, none⟩)), v40, v41, v42, v43, v44, v45, v46, v47, v48, v49, v50, v51, v52, v5, by simp only [Act.put, List.setIfInBounds_toArray, List.set_cons_zero, List.set_cons_succ], HK.out, kqf H1, kqt H2, kqt E0, kqt E1, kqt E2, kqt E3, kqt E4, kqt E5, fun _ => rfl, kqt E7, kqt E8, kqt E9, kqt E10, kqt E11, kqt E12, kqt E13, kqt E14, kqt E15, kqt E16, kqt E17, kqt E18, kqt E19, kqt E21⟩
    · obtain rfl := (E6.out (by simp [haf])).symm
      go_wp2
      unfold CoI
      exact ⟨v33, v34, v35, v36, v37, v38, (.pointer (some ⟨w.heap.size + 1, 0, none⟩)), (.pointer (some ⟨w.heap.size + 1, 0, none⟩)), v41, v42, v43, v44, v45, v46, v47, v48, v49, v50, v51, v52, v5, by simp only [Act.put, List.setIfInBounds_toArray, List.set_cons_zero, List.set_cons_succ], HK.out, kqf H1, kqt H2, kqt E0, kqt E1, kqt E2, kqt E3, kqt E4, kqt E5, fun _ => rfl, fun _ => rfl, kqt E8, kqt E9, kqt E10, kqt E11, kqt E12, kqt E13, kqt E14, kqt E15, kqt E16, kqt E17, kqt E18, kqt E19, kqt E21⟩
    · have z9 := HK.out.blk GG.out (by omega) (by simp [Value.ownBlock])
      have k0 : w'.cell? ⟨w.heap.size + 1, 0, none⟩ = some (.int .i64 g0) := z9.cell 0
      clear z9
      obtain rfl := (E7.out (by simp [haf])).symm
      go_wp2
      unfold CoI
      exact ⟨v33, v34, v35, v36, v37, v38, v39, (.pointer (some ⟨w.heap.size + 1, 0, none⟩)), (.int .i64 g0), v42, v43, v44, v45, v46, v47, v48, v49, v50, v51, v52, v5, by simp only [Act.put, List.setIfInBounds_toArray, List.set_cons_zero, List.set_cons_succ], HK.out, kqf H1, kqt H2, kqt E0, kqt E1, kqt E2, kqt E3, kqt E4, kqt E5, kqt E6, fun _ => rfl, fun _ => rfl, kqt E9, kqt E10, kqt E11, kqt E12, kqt E13, kqt E14, kqt E15, kqt E16, kqt E17, kqt E18, kqt E19, kqt E21⟩
    · obtain rfl := (E8.out (by simp [haf])).symm
      go_wp2
      unfold CoI
      exact ⟨v33, v34, v35, v36, v37, v38, v39, v40, (.int .i64 g0), (.int .i64 N0), v43, v44, v45, v46, v47, v48, v49, v50, v51, v52, v5, by simp only [Act.put, List.setIfInBounds_toArray, List.set_cons_zero, List.set_cons_succ], HK.out, kqf H1, kqt H2, kqt E0, kqt E1, kqt E2, kqt E3, kqt E4, kqt E5, kqt E6, kqt E7, fun _ => rfl, fun _ => rfl, kqt E10, kqt E11, kqt E12, kqt E13, kqt E14, kqt E15, kqt E16, kqt E17, kqt E18, kqt E19, kqt E21⟩
    · obtain rfl := (E5.out (by simp [haf])).symm
      obtain rfl := (E9.out (by simp [haf])).symm
      go_wp2
      unfold CoI
      exact ⟨v33, v34, v35, v36, v37, (.int .i64 N1), v39, v40, v41, (.int .i64 N0), (.agg #[.int .i64 N1, .int .i64 N0]), v44, v45, v46, v47, v48, v49, v50, v51, v52, v5, by simp only [Act.put, List.setIfInBounds_toArray, List.set_cons_zero, List.set_cons_succ], HK.out, kqf H1, kqt H2, kqt E0, kqt E1, kqt E2, kqt E3, kqt E4, fun _ => rfl, kqt E6, kqt E7, kqt E8, fun _ => rfl, fun _ => rfl, kqt E11, kqt E12, kqt E13, kqt E14, kqt E15, kqt E16, kqt E17, kqt E18, kqt E19, kqt E21⟩
    · obtain rfl := (E10.out (by simp [haf])).symm
      go_wp2_with fail
      (with_reducible refine (KL.out _).mono ?_)
      rintro e w9 ⟨rfl, hb9⟩
      have HB9 := Lib.hid hb9
      clear hb9
      go_wp2
      unfold CoI
      exact ⟨v33, v34, v35, v36, v37, v38, v39, v40, v41, v42, (.agg #[.int .i64 N1, .int .i64 N0]), (.agg #[.int .i64 L0, .int .i64 L1]), v45, v46, v47, v48, v49, v50, v51, v52, v5, by simp only [Act.put, List.setIfInBounds_toArray, List.set_cons_zero, List.set_cons_succ], HK.out.trans (Nx.refl _ _) (XK.of_below HB9.out), fun h => (kqf H1 h).below HB9.out (kqf H1 h).lt, fun h => (kqt H2 (by decide) h).below HB9.out (kqt H2 (by decide) h).lt, kqt E0, kqt E1, kqt E2, kqt E3, kqt E4, kqt E5, kqt E6, kqt E7, kqt E8, kqt E9, fun _ => rfl, fun _ => rfl, kqt E12, kqt E13, kqt E14, kqt E15, kqt E16, kqt E17, kqt E18, kqt E19, kqt E21⟩
    · go_wp2
      unfold CoI
      exact ⟨v33, v34, v35, v36, v37, v38, v39, v40, v41, v42, v43, v44, (.pointer (some ⟨w.heap.size, 1, none⟩)), v46, v47, v48, v49, v50, v51, v52, v5, by simp only [Act.put, List.setIfInBounds_toArray, List.set_cons_zero, List.set_cons_succ], HK.out, kqf H1, kqt H2, kqt E0, kqt E1, kqt E2, kqt E3, kqt E4, kqt E5, kqt E6, kqt E7, kqt E8, kqt E9, kqt E10, kqt E11, fun _ => rfl, kqt E13, kqt E14, kqt E15, kqt E16, kqt E17, kqt E18, kqt E19, kqt E21⟩
    · have z9 := HK.out.blk HH.out (by omega) (by simp [Value.ownBlock])
      have k1 : w'.cell? ⟨w.heap.size, 1, none⟩ = some (.int .i64 h1) := z9.cell 1
      clear z9
      obtain rfl := (E12.out (by simp [haf])).symm
      go_wp2
      unfold CoI
      exact ⟨v33, v34, v35, v36, v37, v38, v39, v40, v41, v42, v43, v44, (.pointer (some ⟨w.heap.size, 1, none⟩)), (.int .i64 h1), v47, v48, v49, v50, v51, v52, v5, by simp only [Act.put, List.setIfInBounds_toArray, List.set_cons_zero, List.set_cons_succ], HK.out, kqf H1, kqt H2, kqt E0, kqt E1, kqt E2, kqt E3, kqt E4, kqt E5, kqt E6, kqt E7, kqt E8, kqt E9, kqt E10, kqt E11, fun _ => rfl, fun _ => rfl, kqt E14, kqt E15, kqt E16, kqt E17, kqt E18, kqt E19, kqt E21⟩
    · obtain rfl := (E13.out (by simp [haf])).symm
      go_wp2
      unfold CoI
      exact ⟨v33, v34, v35, v36, v37, v38, v39, v40, v41, v42, v43, v44, v45, (.int .i64 h1), (.int .i64 R0), v48, v49, v50, v51, v52, v5, by simp only [Act.put, List.setIfInBounds_toArray, List.set_cons_zero, List.set_cons_succ], HK.out, kqf H1, kqt H2, kqt E0, kqt E1, kqt E2, kqt E3, kqt E4, kqt E5, kqt E6, kqt E7, kqt E8, kqt E9, kqt E10, kqt E11, kqt E12, fun _ => rfl, fun _ => rfl, kqt E15, kqt E16, kqt E17, kqt E18, kqt E19, kqt E21⟩
    · go_wp2
      unfold CoI
      exact ⟨v33, v34, v35, v36, v37, v38, v39, v40, v41, v42, v43, v44, v45, v46, v47, (.pointer (some ⟨w.heap.size, 0, none⟩)), v49, v50, v51, v52, v5, by simp only [Act.put, List.setIfInBounds_toArray, List.set_cons_zero, List.set_cons_succ], HK.out, kqf H1, kqt H2, kqt E0, kqt E1, kqt E2, kqt E3, kqt E4, kqt E5, kqt E6, kqt E7, kqt E8, kqt E9, kqt E10, kqt E11, kqt E12, kqt E13, kqt E14, fun _ => rfl, kqt E16, kqt E17, kqt E18, kqt E19, kqt E21⟩
    · have z9 := HK.out.blk HH.out (by omega) (by simp [Value.ownBlock])
      have k0 : w'.cell? ⟨w.heap.size, 0, none⟩ = some (.int .i64 h0) := z9.cell 0
      clear z9
      obtain rfl := (E15.out (by simp [haf])).symm
      go_wp2
      unfold CoI
      exact ⟨v33, v34, v35, v36, v37, v38, v39, v40, v41, v42, v43, v44, v45, v46, v47, (.pointer (some ⟨w.heap.size, 0, none⟩)), (.int .i64 h0), v50, v51, v52, v5, by simp only [Act.put, List.setIfInBounds_toArray, List.set_cons_zero, List.set_cons_succ], HK.out, kqf H1, kqt H2, kqt E0, kqt E1, kqt E2, kqt E3, kqt E4, kqt E5, kqt E6, kqt E7, kqt E8, kqt E9, kqt E10, kqt E11, kqt E12, kqt E13, kqt E14, fun _ => rfl, fun _ => rfl, kqt E17, kqt E18, kqt E19, kqt E21⟩
    · obtain rfl := (E16.out (by simp [haf])).symm
      go_wp2
      unfold CoI
      exact ⟨v33, v34, v35, v36, v37, v38, v39, v40, v41, v42, v43, v44, v45, v46, v47, v48, (.int .i64 h0), (.int .i64 R1), v51, v52, v5, by simp only [Act.put, List.setIfInBounds_toArray, List.set_cons_zero, List.set_cons_succ], HK.out, kqf H1, kqt H2, kqt E0, kqt E1, kqt E2, kqt E3, kqt E4, kqt E5, kqt E6, kqt E7, kqt E8, kqt E9, kqt E10, kqt E11, kqt E12, kqt E13, kqt E14, kqt E15, fun _ => rfl, fun _ => rfl, kqt E18, kqt E19, kqt E21⟩
    · obtain rfl := (E14.out (by simp [haf])).symm
      obtain rfl := (E17.out (by simp [haf])).symm
      go_wp2
      unfold CoI
      exact ⟨v33, v34, v35, v36, v37, v38, v39, v40, v41, v42, v43, v44, v45, v46, (.int .i64 R0), v48, v49, (.int .i64 R1), (.agg #[.int .i64 R0, .int .i64 R1]), v52, v5, by simp only [Act.put, List.setIfInBounds_toArray, List.set_cons_zero, List.set_cons_succ], HK.out, kqf H1, kqt H2, kqt E0, kqt E1, kqt E2, kqt E3, kqt E4, kqt E5, kqt E6, kqt E7, kqt E8, kqt E9, kqt E10, kqt E11, kqt E12, kqt E13, fun _ => rfl, kqt E15, kqt E16, fun _ => rfl, fun _ => rfl, kqt E19, kqt E21⟩
    · obtain rfl := (E1.out (by simp [haf])).symm
      obtain rfl := (E11.out (by simp [haf])).symm
      obtain rfl := (E18.out (by simp [haf])).symm
      go_wp2
      unfold CoI
      exact ⟨v33, (.agg #[.int .i64 d0, .int .i64 d1]), v35, v36, v37, v38, v39, v40, v41, v42, v43, (.agg #[.int .i64 L0, .int .i64 L1]), v45, v46, v47, v48, v49, v50, (.agg #[.int .i64 R0, .int .i64 R1]), (.agg #[.int .i64 d0, .int .i64 d1, .int .i64 L0, .int .i64 L1, .int .i64 R0, .int .i64 R1]), v5, by simp only [Act.put, List.setIfInBounds_toArray, List.set_cons_zero, List.set_cons_succ], HK.out, kqf H1, kqt H2, kqt E0, fun _ => rfl, kqt E2, kqt E3, kqt E4, kqt E5, kqt E6, kqt E7, kqt E8, kqt E9, kqt E10, fun _ => rfl, kqt E12, kqt E13, kqt E14, kqt E15, kqt E16, kqt E17, fun _ => rfl, fun _ => rfl, kqt E21⟩
    · obtain rfl := (E19.out (by simp [haf])).symm
      have RB := H1.out hL
      have fz : ∀ j, w'.frozen? ⟨w.heap.size + 2, j, none⟩ = false := fun j => RB.frozen j
      have z0 : w'.cell? ⟨w.heap.size + 2, 0, none⟩ = some (.int .i64 0) := RB.cell 0
      have z1 : w'.cell? ⟨w.heap.size + 2, 1, none⟩ = some (.int .i64 0) := RB.cell 1
      have z2 : w'.cell? ⟨w.heap.size + 2, 2, none⟩ = some (.int .i64 0) := RB.cell 2
      have z3 : w'.cell? ⟨w.heap.size + 2, 3, none⟩ = some (.int .i64 0) := RB.cell 3
      have z4 : w'.cell? ⟨w.heap.size + 2, 4, none⟩ = some (.int .i64 0) := RB.cell 4
      have z5 : w'.cell? ⟨w.heap.size + 2, 5, none⟩ = some (.int .i64 0) := RB.cell 5
      have HX := Lib.hid ((((((HK.out.setAt 0 (.int .i64 d0)).setAt 1 (.int .i64 d1)).setAt 2 (.int .i64 L0)).setAt 3 (.int .i64 L1)).setAt 4 (.int .i64 R0)).setAt 5 (.int .i64 R1))
      have HB := Lib.hid ((((((RB.set_ 0 (.int .i64 d0)).set_ 1 (.int .i64 d1)).set_ 2 (.int .i64 L0)).set_ 3 (.int .i64 L1)).set_ 4 (.int .i64 R0)).set_ 5 (.int .i64 R1))
      clear RB
      go_wp2
      unfold CoI
      exact ⟨v33, v34, v35, v36, v37, v38, v39, v40, v41, v42, v43, v44, v45, v46, v47, v48, v49, v50, v51, (.agg #[.int .i64 d0, .int .i64 d1, .int .i64 L0, .int .i64 L1, .int .i64 R0, .int .i64 R1]), v5, by simp only [Act.put, List.setIfInBounds_toArray, List.set_cons_zero, List.set_cons_succ], HX.out, fun h => (by simp [mkd] at h), fun _ => HB.out, kqt E0, kqt E1, kqt E2, kqt E3, kqt E4, kqt E5, kqt E6, kqt E7, kqt E8, kqt E9, kqt E10, kqt E11, kqt E12, kqt E13, kqt E14, kqt E15, kqt E16, kqt E17, kqt E18, fun _ => rfl, kqt E21⟩
    · go_wp2
      unfold CoI
      exact ⟨v33, v34, v35, v36, v37, v38, v39, v40, v41, v42, v43, v44, v45, v46, v47, v48, v49, v50, v51, v52, (.int .i64 0), by simp only [Act.put, List.setIfInBounds_toArray, List.set_cons_zero, List.set_cons_succ], HK.out, kqf H1, kqt H2, kqt E0, kqt E1, kqt E2, kqt E3, kqt E4, kqt E5, kqt E6, kqt E7, kqt E8, kqt E9, kqt E10, kqt E11, kqt E12, kqt E13, kqt E14, kqt E15, kqt E16, kqt E17, kqt E18, kqt E19, fun _ => rfl⟩
  case fin =>
    rintro L a1' w3 hall ⟨v33, v34, v35, v36, v37, v38, v39, v40, v41, v42, v43, v44, v45, v46, v47, v48, v49, v50, v51, v52, v5, rfl, hk, h1, h2, e0, e1, e2, e3, e4, e5, e6, e7, e8, e9, e10, e11, e12, e13, e14, e15, e16, e17, e18, e19, e21⟩
    obtain rfl := (e0 (hall 0 (by decide))).symm
    obtain rfl := (e1 (hall 1 (by decide))).symm
    obtain rfl := (e2 (hall 2 (by decide))).symm
    obtain rfl := (e3 (hall 3 (by decide))).symm
    obtain rfl := (e4 (hall 4 (by decide))).symm
    obtain rfl := (e5 (hall 5 (by decide))).symm
    obtain rfl := (e6 (hall 6 (by decide))).symm
    obtain rfl := (e7 (hall 7 (by decide))).symm
    obtain rfl := (e8 (hall 8 (by decide))).symm
    obtain rfl := (e9 (hall 9 (by decide))).symm
    obtain rfl := (e10 (hall 10 (by decide))).symm
    obtain rfl := (e11 (hall 11 (by decide))).symm
    obtain rfl := (e12 (hall 12 (by decide))).symm
    obtain rfl := (e13 (hall 13 (by decide))).symm
    obtain rfl := (e14 (hall 14 (by decide))).symm
    obtain rfl := (e15 (hall 15 (by decide))).symm
    obtain rfl := (e16 (hall 16 (by decide))).symm
    obtain rfl := (e17 (hall 17 (by decide))).symm
    obtain rfl := (e18 (hall 18 (by decide))).symm
    obtain rfl := (e19 (hall 19 (by decide))).symm
    obtain rfl := (e21 (hall 21 (by decide))).symm
    have RF := Lib.hid (h2 (hall 20 (by decide)))
    have BF := Lib.hid (B3.out.trans (hk.below (n₀ := w.heap.size) (by omega) (by simp [Value.ownBlock]) (by have := B3.out.size; omega)))
    clear hk h1 h2 hall
    have z0 : w3.cell? ⟨w.heap.size + 2, 0, none⟩ = some (.int .i64 d0) := RF.out.cell 0
    have z1 : w3.cell? ⟨w.heap.size + 2, 1, none⟩ = some (.int .i64 d1) := RF.out.cell 1
    have z2 : w3.cell? ⟨w.heap.size + 2, 2, none⟩ = some (.int .i64 L0) := RF.out.cell 2
    have z3 : w3.cell? ⟨w.heap.size + 2, 3, none⟩ = some (.int .i64 L1) := RF.out.cell 3
    have z4 : w3.cell? ⟨w.heap.size + 2, 4, none⟩ = some (.int .i64 R0) := RF.out.cell 4
    have z5 : w3.cell? ⟨w.heap.size + 2, 5, none⟩ = some (.int .i64 R1) := RF.out.cell 5
    go_wp2
    refine bodyPost_ret (v := .tuple #[.agg #[.int .i64 d0, .int .i64 d1, .int .i64 L0, .int .i64 L1, .int .i64 R0, .int .i64 R1], .int .i64 0]) (by simp [results, Tryz.results82, go_sem, *]; done) rfl ⟨rfl, BF.out⟩
end Go.Proofs.YtifdgdgfmjfbdaaGreat
namespace Go.Proofs.YtifdgdgfmjfbdaaGreat.Trig
theorem sth_turn (n k : Int) : sth (n + 21600000 * k) = sth n := by unfold sth; rw [show (n + 21600000 * k) % 21600000 = n % 21600000 by omega]
theorem qrt_turn (n k : Int) : qrt (n + 21600000 * k) = qrt n := by unfold qrt; rw [show (n + 21600000 * k) % 21600000 = n % 21600000 by omega]
theorem lo_turn (n k : Int) : loB (n + 21600000 * k) = loB n := by unfold loB; rw [sth_turn, qrt_turn]
theorem hi_turn (n k : Int) : hiB (n + 21600000 * k) = hiB n := by unfold hiB; rw [sth_turn, qrt_turn]
theorem sth_mirror (n : Int) : sth (10800000 - n) = sth n := by
  unfold sth
  rw [decide_eq_decide]
  omega
theorem qrt_mirror (n : Int) : qrt (10800000 - n) = qrt n := by
  unfold qrt
  omega
theorem lo_mirror (n : Int) : loB (10800000 - n) = loB n := by unfold loB; rw [sth_mirror, qrt_mirror]
theorem hi_mirror (n : Int) : hiB (10800000 - n) = hiB n := by unfold hiB; rw [sth_mirror, qrt_mirror]
/-- the enclosure of the sine over an arc has the sine at each of its angles -/
theorem en_has {lo n hi : Int} (h1 : lo ≤ n) (h2 : n ≤ hi) : enLo lo hi ≤ loB n ∧ hiB n ≤ enHi lo hi := by
  have hb := hi_le n
  constructor
  · unfold enLo
    split
    · exact hb.1
    · rename_i hm
      unfold metB at hm
      rw [decide_eq_true_eq] at hm
      obtain ⟨k, hk⟩ : ∃ k, (lo + 5400000) / 21600000 = k := ⟨_, rfl⟩
      have e : ∀ x, loB x = loB (x - 21600000 * k) := fun x => by
        have := lo_turn (x - 21600000 * k) k
        rw [show x - 21600000 * k + 21600000 * k = x by omega] at this
        exact this
      have a1 : -5400000 < lo - 21600000 * k := by omega
      have a2 : hi - 21600000 * k < 16200000 := by omega
      rw [e n, e lo, e hi]
      by_cases c : n - 21600000 * k ≤ 5400000
      · have := loB_mono (a := lo - 21600000 * k) (b := n - 21600000 * k) (by omega) (by omega) c
        omega
      · have := loB_mono (a := 10800000 - (hi - 21600000 * k)) (b := 10800000 - (n - 21600000 * k)) (by omega) (by omega) (by omega)
        rw [lo_mirror, lo_mirror] at this
        omega
  · unfold enHi
    split
    · exact hb.2.2.2.1
    · rename_i hm
      unfold metB at hm
      rw [decide_eq_true_eq] at hm
      obtain ⟨k, hk⟩ : ∃ k, (lo + 16200000) / 21600000 = k := ⟨_, rfl⟩
      have e : ∀ x, hiB x = hiB (x - 21600000 * k) := fun x => by
        have := hi_turn (x - 21600000 * k) k
        rw [show x - 21600000 * k + 21600000 * k = x by omega] at this
        exact this
      have e2 : ∀ x, hiB x = hiB (-10800000 - x) := fun x => by
        have h3 := hi_mirror x
        have h4 := hi_turn (-10800000 - x) 1
        rw [show -10800000 - x + 21600000 * 1 = 10800000 - x by omega] at h4
        rw [← h3, h4]
      have a1 : -16200000 < lo - 21600000 * k := by omega
      have a2 : hi - 21600000 * k < 5400000 := by omega
      rw [e n, e lo, e hi]
      by_cases c : -5400000 ≤ n - 21600000 * k
      · have := hiB_mono (a := n - 21600000 * k) (b := hi - 21600000 * k) c (by omega) (by omega)
        omega
      · have := hiB_mono (a := -10800000 - (n - 21600000 * k)) (b := -10800000 - (lo - 21600000 * k)) (by omega) (by omega) (by omega)
        rw [← e2, ← e2] at this
        omega
/-- less of an arc: a narrower enclosure -/
theorem en_sub {lo lo' hi' hi : Int} (h1 : lo ≤ lo') (h2 : lo' ≤ hi') (h3 : hi' ≤ hi) : enLo lo hi ≤ enLo lo' hi' ∧ enHi lo' hi' ≤ enHi lo hi := by
  constructor
  · by_cases hm : metB lo' hi' 16200000 = true
    · have hm2 : metB lo hi 16200000 = true := by unfold metB at *; rw [decide_eq_true_eq] at *; omega
      unfold enLo
      rw [if_pos hm, if_pos hm2]
      exact Int.le_refl _
    · have a := (en_has (lo := lo) (n := lo') (hi := hi) h1 (by omega)).1
      have b := (en_has (lo := lo) (n := hi') (hi := hi) (by omega) h3).1
      conv => rhs; unfold enLo
      rw [if_neg hm]
      omega
  · by_cases hm : metB lo' hi' 5400000 = true
    · have hm2 : metB lo hi 5400000 = true := by unfold metB at *; rw [decide_eq_true_eq] at *; omega
      unfold enHi
      rw [if_pos hm, if_pos hm2]
      exact Int.le_refl _
    · have a := (en_has (lo := lo) (n := lo') (hi := hi) h1 (by omega)).2
      have b := (en_has (lo := lo) (n := hi') (hi := hi) (by omega) h3).2
      conv => lhs; unfold enHi
      rw [if_neg hm]
      omega
end Go.Proofs.YtifdgdgfmjfbdaaGreat.Trig
