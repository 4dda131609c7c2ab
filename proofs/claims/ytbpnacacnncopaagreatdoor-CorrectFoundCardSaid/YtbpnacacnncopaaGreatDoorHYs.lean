/- parallax.Augmented. -/
import Derived.Test.YtbpnacacnncopaaGreatDoorHYq
import Derived.Test.YtbpnacacnncopaaGreatDoorHXd
set_option linter.unusedVariables false
set_option linter.unusedSimpArgs false
namespace Go.Proofs.YtbpnacacnncopaaGreatDoor
open Go.RowKit Cw
def AgI (W : World) (G : Nat) (c d lo hi p1 q1 p2 q2 x y : Int) (a : Act) (M : Nat → Bool) (a' : Act) (w' : World) : Prop :=
  ∃ (v29 v30 v31 v32 v33 v34 v35 v28 v36 v37 v9 v10 : Value), a' = ((((((((((((a.put (some 29) v29).put (some 30) v30).put (some 31) v31).put (some 32) v32).put (some 33) v33).put (some 34) v34).put (some 35) v35).put (some 28) v28).put (some 36) v36).put (some 37) v37).put (some 9) v9).put (some 10) v10) ∧ Below W.heap.size W w' ∧ (M 10 = true → M 11 = false → ∃ q, v9 = .pointer (some ⟨q, 0, none⟩) ∧ W.heap.size ≤ q ∧ Blk w' q 166 #[.int .i64 0, .int .i64 0]) ∧ (M 11 = true → ∃ q, v9 = .pointer (some ⟨q, 0, none⟩) ∧ W.heap.size ≤ q ∧ Blk w' q 166 #[.int .i64 x, .int .i64 y]) ∧ (M 2 = true → M 0 = true ∧ M 1 = true) ∧ (M 5 = true → M 3 = true ∧ M 4 = true) ∧ (M 6 = true → M 2 = true ∧ M 5 = true) ∧ (M 7 = true → M 6 = true) ∧ (M 8 = true → M 7 = true) ∧ (M 9 = true → M 7 = true) ∧ (M 11 = true → M 8 = true ∧ M 10 = true) ∧ (M 12 = true → M 9 = true) ∧ (M 0 = true → v29 = .pointer (some ⟨G, 0, none⟩)) ∧ (M 1 = true → v30 = .agg #[.int .i64 c, .int .i64 d]) ∧ (M 2 = true → v31 = .agg #[.int .i64 p1, .int .i64 q1]) ∧ (M 3 = true → v32 = .pointer (some ⟨G, 0, none⟩)) ∧ (M 4 = true → v33 = .agg #[.int .i64 lo, .int .i64 hi]) ∧ (M 5 = true → v34 = .agg #[.int .i64 p2, .int .i64 q2]) ∧ (M 6 = true → v35 = .tuple #[.agg #[.int .i64 x, .int .i64 y], .int .i64 0]) ∧ (M 7 = true → v28 = .tuple #[.agg #[.int .i64 x, .int .i64 y], .int .i64 0]) ∧ (M 8 = true → v36 = .agg #[.int .i64 x, .int .i64 y]) ∧ (M 9 = true → v37 = .int .i64 0) ∧ (M 12 = true → v10 = .int .i64 0)
theorem AgI.start (W : World) (G : Nat) (c d lo hi p1 q1 p2 q2 x y : Int) (a : Act) : AgI W G c d lo hi p1 q1 p2 q2 x y a (fun _ => false) a W :=
  ⟨_, _, _, _, _, _, _, _, _, _, _, _, by rw [putQ_self a 29, putQ_self a 30, putQ_self a 31, putQ_self a 32, putQ_self a 33, putQ_self a 34, putQ_self a 35, putQ_self a 28, putQ_self a 36, putQ_self a 37, putQ_self a 9, putQ_self a 10], Below.refl _ _, nofun, nofun, nofun, nofun, nofun, nofun, nofun, nofun, nofun, nofun, nofun, nofun, nofun, nofun, nofun, nofun, nofun, nofun, nofun, nofun, nofun⟩
set_option maxHeartbeats 8000000 in
set_option maxRecDepth 100000 in
theorem Aug_any (a b c d lo hi : Int) (w : World) (hs : smP a b = true) (hp : smP c d = true) (h0 : -5400000 ≤ lo) (h1 : lo ≤ hi) (h2 : hi ≤ 5400000) :
    Calls Tryz.prog 101 #[.agg #[.int .i64 a, .int .i64 b], .agg #[.int .i64 c, .int .i64 d], .agg #[.int .i64 lo, .int .i64 hi]] w fun e w' => e = .returned (.tuple #[.agg #[.int .i64 (auA a b c d lo hi), .int .i64 (auB a b c d lo hi)], .int .i64 0]) ∧ Below w.heap.size w w' := by
  have hs' := hs
  have hp' := hp
  unfold smP at hs' hp'
  rw [decide_eq_true_eq] at hs' hp'
  have K1 := Lib.hid (fun W => smallP_any a b W hs)
  have K2 := Lib.hid (fun W => smallP_any c d W hp)
  have K3 := Lib.hid (fun W => altP_any lo hi W h0 h1 h2)
  have K4 := Lib.hid (fun g W h => sinP_any g c d W h (by rw [avB_true]; omega))
  have K5 := Lib.hid (fun g W h => sinP_any g lo hi W h (by rw [avB_true]; omega))
  have KM := Lib.hid (fun W => fmul_yes c d lo hi W)
  have ag := ag_bd c d lo hi
  have hL : max 0 (min (mlA c d lo hi) 1073741824) = agL c d lo hi := rfl
  have hH : max 0 (min (mlB c d lo hi) 1073741824) = agH c d lo hi := rfl
  have KP1 := Lib.hid (fun W => part_any (mlA c d lo hi) W)
  have KP2 := Lib.hid (fun W => part_any (mlB c d lo hi) W)
  rw [hL] at KP1
  rw [hH] at KP2
  have tm := tm_bd (a := a) (b := b) hs'.1 hs'.2.1 ag.1 ag.2.1 ag.2.2
  have KT := Lib.hid (fun g W h => timesP_any g a b (agL c d lo hi) (agH c d lo hi) W h hs'.1 hs'.2.1 (by omega) (by rw [fv_iff]; omega))
  have KA := Lib.hid (fun g W h => addP_any g a b (tmA a b (agL c d lo hi) (agH c d lo hi)) (tmB a b (agL c d lo hi) (agH c d lo hi)) W h (by rw [avB_true]; omega) (by rw [avB_true]; omega) (rch_iff.2 (by omega)) (rch_iff.2 (by omega)))
  have KR := Lib.hid (fun g W h => resP_any g (auA a b c d lo hi) (auB a b c d lo hi) W h)
  have hA : auA a b c d lo hi = a + tmA a b (agL c d lo hi) (agH c d lo hi) := rfl
  have hB : auB a b c d lo hi = b + tmB a b (agL c d lo hi) (agH c d lo hi) := rfl
  rw [← hA, ← hB] at KA
  generalize auA a b c d lo hi = ra at *
  generalize auB a b c d lo hi = rb at *
  generalize tmA a b (agL c d lo hi) (agH c d lo hi) = ta at *
  generalize tmB a b (agL c d lo hi) (agH c d lo hi) = tb at *
  generalize agL c d lo hi = gl at *
  generalize agH c d lo hi = gh at *
  generalize mlA c d lo hi = x at *
  generalize mlB c d lo hi = y at *
  generalize Trig.enLo c d = p1 at *
  generalize Trig.enHi c d = q1 at *
  generalize Trig.enLo lo hi = p2 at *
  generalize Trig.enHi lo hi = q2 at *
  clear hs hp hs' hp' h0 h1 h2 ag hL hH tm hA hB
  have S0 := Lib.hid ((((Blk.new w 41 #[.int .i64 a, .int .i64 b]).alloc (.cells #[.int .i64 c, .int .i64 d] 41)).alloc (.cells #[.int .i64 lo, .int .i64 hi] 41)).alloc (.cells #[.int .i64 0, .int .i64 0] 41))
  have P0 := Lib.hid (((Blk.new (w.alloc (.cells #[.int .i64 a, .int .i64 b] 41)) 41 #[.int .i64 c, .int .i64 d]).alloc (.cells #[.int .i64 lo, .int .i64 hi] 41)).alloc (.cells #[.int .i64 0, .int .i64 0] 41))
  simp only [World.size_alloc] at P0
  have H0 := Lib.hid ((Blk.new ((w.alloc (.cells #[.int .i64 a, .int .i64 b] 41)).alloc (.cells #[.int .i64 c, .int .i64 d] 41)) 41 #[.int .i64 lo, .int .i64 hi]).alloc (.cells #[.int .i64 0, .int .i64 0] 41))
  simp only [World.size_alloc] at H0
  have R0 := Lib.hid (Blk.new (((w.alloc (.cells #[.int .i64 a, .int .i64 b] 41)).alloc (.cells #[.int .i64 c, .int .i64 d] 41)).alloc (.cells #[.int .i64 lo, .int .i64 hi] 41)) 41 #[.int .i64 0, .int .i64 0])
  simp only [World.size_alloc] at R0
  have b0 := Lib.hid (((((Below.refl w.heap.size w).alloc (Nat.le_refl _) (.cells #[.int .i64 a, .int .i64 b] 41)).alloc (by simp) (.cells #[.int .i64 c, .int .i64 d] 41)).alloc (by simp; omega) (.cells #[.int .i64 lo, .int .i64 hi] 41)).alloc (by simp; omega) (.cells #[.int .i64 0, .int .i64 0] 41))
  go_enter Tryz.func101, Tryz.ntmps101
  go_upto_region 1 with fail
  generalize ((((w.alloc (.cells #[.int .i64 a, .int .i64 b] 41)).alloc (.cells #[.int .i64 c, .int .i64 d] 41)).alloc (.cells #[.int .i64 lo, .int .i64 hi] 41)).alloc (.cells #[.int .i64 0, .int .i64 0] 41)) = w1 at *
  have yS : ∀ i, w1.cell? ⟨w.heap.size, i, none⟩ = (#[.int .i64 a, .int .i64 b] : Array Value)[i]? := fun i => S0.out.cell i
  go_wp2_with fail
  (with_reducible refine (K1.out _).mono ?_)
  rintro e w2 ⟨rfl, hb⟩
  have S2 := Lib.hid (S0.out.below hb S0.out.lt)
  have P2 := Lib.hid (P0.out.below hb P0.out.lt)
  have H2 := Lib.hid (H0.out.below hb H0.out.lt)
  have R2 := Lib.hid (R0.out.below hb R0.out.lt)
  have b2 := Lib.hid (b0.out.trans (hb.mono b0.out.size))
  clear hb S0 P0 H0 R0 b0 yS
  have yP : ∀ i, w2.cell? ⟨w.heap.size + 1, i, none⟩ = (#[.int .i64 c, .int .i64 d] : Array Value)[i]? := fun i => P2.out.cell i
  go_wp2_with fail
  (with_reducible refine (K2.out _).mono ?_)
  rintro e w3 ⟨rfl, hb⟩
  have S3 := Lib.hid (S2.out.below hb S2.out.lt)
  have P3 := Lib.hid (P2.out.below hb P2.out.lt)
  have H3 := Lib.hid (H2.out.below hb H2.out.lt)
  have R3 := Lib.hid (R2.out.below hb R2.out.lt)
  have b3 := Lib.hid (b2.out.trans (hb.mono b2.out.size))
  clear hb S2 P2 H2 R2 b2 yP
  have yH : ∀ i, w3.cell? ⟨w.heap.size + 1 + 1, i, none⟩ = (#[.int .i64 lo, .int .i64 hi] : Array Value)[i]? := fun i => H3.out.cell i
  go_wp2_with fail
  (with_reducible refine (K3.out _).mono ?_)
  rintro e w4 ⟨rfl, hb⟩
  have S4 := Lib.hid (S3.out.below hb S3.out.lt)
  have P4 := Lib.hid (P3.out.below hb P3.out.lt)
  have H4 := Lib.hid (H3.out.below hb H3.out.lt)
  have R4 := Lib.hid (R3.out.below hb R3.out.lt)
  have b4 := Lib.hid (b3.out.trans (hb.mono b3.out.size))
  clear hb S3 P3 H3 R3 b3 yH
  have S5 := Lib.hid (S4.out.alloc (.cells #[.int .i64 0] 164))
  have P5 := Lib.hid (P4.out.alloc (.cells #[.int .i64 0] 164))
  have H5 := Lib.hid (H4.out.alloc (.cells #[.int .i64 0] 164))
  have R5 := Lib.hid (R4.out.alloc (.cells #[.int .i64 0] 164))
  have G5 := Lib.hid (Blk.new w4 164 #[.int .i64 0])
  have b5 := Lib.hid (b4.out.trans ((bl_alloc w4 (.cells #[.int .i64 0] 164)).mono b4.out.size))
  clear S4 P4 H4 R4 b4
  go_upto_region 4 with fail
  generalize w4.alloc (.cells #[.int .i64 0] 164) = w6 at *
  have AS := Lib.hid S5.out.drew
  have AP := Lib.hid P5.out.drew
  have AH := Lib.hid H5.out.drew
  have AR := Lib.hid R5.out.drew
  have AG := Lib.hid G5.out.drew
  have AB := Lib.hid (bl_drew b5.out)
  clear S5 P5 H5 R5 G5 b5
  obtain ⟨P, hP⟩ : ∃ P, w.heap.size + 1 = P := ⟨_, rfl⟩
  obtain ⟨H, hH⟩ : ∃ H, w.heap.size + 1 + 1 = H := ⟨_, rfl⟩
  obtain ⟨G, hG⟩ : ∃ G, w4.heap.size = G := ⟨_, rfl⟩
  obtain ⟨RR, hRR⟩ : ∃ R, w.heap.size + 1 + 1 + 1 = R := ⟨_, rfl⟩
  rw [hRR] at AR ⊢
  rw [hH] at AH ⊢
  rw [hP] at AP ⊢
  rw [hG] at AG ⊢
  have HR := Lib.hid (show w.heap.size ≤ RR by omega)
  clear hP hH hG hRR
  obtain ⟨W, hW⟩ : ∃ W, w6.drew = W := ⟨_, rfl⟩
  rw [hW] at AS AP AH AR AG AB
  have HW := Lib.hid hW
  clear hW
  have KS1 := Lib.hid (K4.out G)
  have KS2 := Lib.hid (K5.out G)
  have KT1 := Lib.hid (KT.out G)
  have KA1 := Lib.hid (KA.out G)
  have KR1 := Lib.hid (KR.out G)
  clear K1 K2 K3 K4 K5 KT KA KR
  refine wp_region_inv3 (by kernel_rfl) (AgI W G c d lo hi p1 q1 p2 q2 x y) (waits_bind (by kernel_rfl)) ?start ?step ?fin
  case start => rw [HW.out]; exact AgI.start _ _ _ _ _ _ _ _ _ _ _ _ _
  case step =>
    rintro M i o a1' w' ho hL haf ⟨v29, v30, v31, v32, v33, v34, v35, v28, v36, v37, v9, v10, rfl, hB, hZ, hY, d2, d5, d6, d7, d8, d9, d11, d12, e0, e1, e2, e3, e4, e5, e6, e7, e8, e9, e12⟩
    have HB := Lib.hid hB
    have HZ := Lib.hid hZ
    have HY := Lib.hid hY
    have D2 := Lib.hid d2
    have D5 := Lib.hid d5
    have D6 := Lib.hid d6
    have D7 := Lib.hid d7
    have D8 := Lib.hid d8
    have D9 := Lib.hid d9
    have D11 := Lib.hid d11
    have D12 := Lib.hid d12
    have E0 := Lib.hid e0
    have E1 := Lib.hid e1
    have E2 := Lib.hid e2
    have E3 := Lib.hid e3
    have E4 := Lib.hid e4
    have E5 := Lib.hid e5
    have E6 := Lib.hid e6
    have E7 := Lib.hid e7
    have E8 := Lib.hid e8
    have E9 := Lib.hid e9
    have E12 := Lib.hid e12
    clear hB hZ hY d2 d5 d6 d7 d8 d9 d11 d12 e0 e1 e2 e3 e4 e5 e6 e7 e8 e9 e12
    rcases i with _ | _ | _ | _ | _ | _ | _ | _ | _ | _ | _ | _ | _ | i
    all_goals (simp at ho; try subst ho)
    all_goals (try simp [Region.binds] at haf)
    · go_wp2
      unfold AgI
      exact ⟨(.pointer (some ⟨G, 0, none⟩)), v30, v31, v32, v33, v34, v35, v28, v36, v37, v9, v10, pu_, HB.out, km HZ, kp HY, dk2 D2 (by decide), dk2 D5 (by decide), dk2 D6 (by decide), dk1 D7 (by decide), dk1 D8 (by decide), dk1 D9 (by decide), dk2 D11 (by decide), dk1 D12 (by decide), fun _ => rfl, kq E1, kq E2, kq E3, kq E4, kq E5, kq E6, kq E7, kq E8, kq E9, kq E12⟩
    · have y0 : w'.cell? ⟨P, 0, none⟩ = some (.int .i64 c) := (AP.out.below HB.out AP.out.lt).cell 0
      have y1 : w'.cell? ⟨P, 1, none⟩ = some (.int .i64 d) := (AP.out.below HB.out AP.out.lt).cell 1
      go_wp2
      unfold AgI
      exact ⟨v29, (.agg #[.int .i64 c, .int .i64 d]), v31, v32, v33, v34, v35, v28, v36, v37, v9, v10, pu_, HB.out, km HZ, kp HY, dk2 D2 (by decide), dk2 D5 (by decide), dk2 D6 (by decide), dk1 D7 (by decide), dk1 D8 (by decide), dk1 D9 (by decide), dk2 D11 (by decide), dk1 D12 (by decide), kq E0, fun _ => rfl, kq E2, kq E3, kq E4, kq E5, kq E6, kq E7, kq E8, kq E9, kq E12⟩
    · obtain rfl := (E0.out (by simp [haf])).symm
      obtain rfl := (E1.out (by simp [haf])).symm
      have n11 : M 11 = false := by cases h8 : M 11 with | false => rfl | true => exact absurd ((D6.out (D7.out (D8.out (D11.out h8).1))).1) (by simp [hL])
      have hG := AG.out.below HB.out AG.out.lt
      go_wp2_with fail
      (refine (KS1.out _ hG).mono ?_)
      rintro e9 w9 ⟨rfl, hb9⟩
      go_wp2
      unfold AgI
      exact ⟨(.pointer (some ⟨G, 0, none⟩)), (.agg #[.int .i64 c, .int .i64 d]), (.agg #[.int .i64 p1, .int .i64 q1]), v32, v33, v34, v35, v28, v36, v37, v9, v10, pu_, HB.out.trans (hb9.mono HB.out.size), fun h h' => by obtain ⟨q9, e9, l9, B9⟩ := HZ.out (by simpa [mkd] using h) n11; exact ⟨q9, e9, l9, B9.below hb9 B9.lt⟩, fun h => absurd h (by simp [mkd, n11]), fun _ => by simp [mkd, haf], dk2 D5 (by decide), dk2 D6 (by decide), dk1 D7 (by decide), dk1 D8 (by decide), dk1 D9 (by decide), dk2 D11 (by decide), dk1 D12 (by decide), fun _ => rfl, fun _ => rfl, fun _ => rfl, kq E3, kq E4, kq E5, kq E6, kq E7, kq E8, kq E9, kq E12⟩
    · go_wp2
      unfold AgI
      exact ⟨v29, v30, v31, (.pointer (some ⟨G, 0, none⟩)), v33, v34, v35, v28, v36, v37, v9, v10, pu_, HB.out, km HZ, kp HY, dk2 D2 (by decide), dk2 D5 (by decide), dk2 D6 (by decide), dk1 D7 (by decide), dk1 D8 (by decide), dk1 D9 (by decide), dk2 D11 (by decide), dk1 D12 (by decide), kq E0, kq E1, kq E2, fun _ => rfl, kq E4, kq E5, kq E6, kq E7, kq E8, kq E9, kq E12⟩
    · have y0 : w'.cell? ⟨H, 0, none⟩ = some (.int .i64 lo) := (AH.out.below HB.out AH.out.lt).cell 0
      have y1 : w'.cell? ⟨H, 1, none⟩ = some (.int .i64 hi) := (AH.out.below HB.out AH.out.lt).cell 1
      go_wp2
      unfold AgI
      exact ⟨v29, v30, v31, v32, (.agg #[.int .i64 lo, .int .i64 hi]), v34, v35, v28, v36, v37, v9, v10, pu_, HB.out, km HZ, kp HY, dk2 D2 (by decide), dk2 D5 (by decide), dk2 D6 (by decide), dk1 D7 (by decide), dk1 D8 (by decide), dk1 D9 (by decide), dk2 D11 (by decide), dk1 D12 (by decide), kq E0, kq E1, kq E2, kq E3, fun _ => rfl, kq E5, kq E6, kq E7, kq E8, kq E9, kq E12⟩
    · obtain rfl := (E3.out (by simp [haf])).symm
      obtain rfl := (E4.out (by simp [haf])).symm
      have n11 : M 11 = false := by cases h8 : M 11 with | false => rfl | true => exact absurd ((D6.out (D7.out (D8.out (D11.out h8).1))).2) (by simp [hL])
      have hG := AG.out.below HB.out AG.out.lt
      go_wp2_with fail
      (refine (KS2.out _ hG).mono ?_)
      rintro e9 w9 ⟨rfl, hb9⟩
      go_wp2
      unfold AgI
      exact ⟨v29, v30, v31, (.pointer (some ⟨G, 0, none⟩)), (.agg #[.int .i64 lo, .int .i64 hi]), (.agg #[.int .i64 p2, .int .i64 q2]), v35, v28, v36, v37, v9, v10, pu_, HB.out.trans (hb9.mono HB.out.size), fun h h' => by obtain ⟨q9, e9, l9, B9⟩ := HZ.out (by simpa [mkd] using h) n11; exact ⟨q9, e9, l9, B9.below hb9 B9.lt⟩, fun h => absurd h (by simp [mkd, n11]), dk2 D2 (by decide), fun _ => by simp [mkd, haf], dk2 D6 (by decide), dk1 D7 (by decide), dk1 D8 (by decide), dk1 D9 (by decide), dk2 D11 (by decide), dk1 D12 (by decide), kq E0, kq E1, kq E2, fun _ => rfl, fun _ => rfl, fun _ => rfl, kq E6, kq E7, kq E8, kq E9, kq E12⟩
    · obtain rfl := (E2.out (by simp [haf])).symm
      obtain rfl := (E5.out (by simp [haf])).symm
      have n11 : M 11 = false := by cases h8 : M 11 with | false => rfl | true => exact absurd ((D7.out (D8.out (D11.out h8).1))) (by simp [hL])
      go_wp2_with fail
      (refine (KM.out _).mono ?_)
      rintro e9 w9 ⟨rfl, hb9⟩
      go_wp2
      unfold AgI
      exact ⟨v29, v30, (.agg #[.int .i64 p1, .int .i64 q1]), v32, v33, (.agg #[.int .i64 p2, .int .i64 q2]), (.tuple #[.agg #[.int .i64 x, .int .i64 y], .int .i64 0]), v28, v36, v37, v9, v10, pu_, HB.out.trans (hb9.mono HB.out.size), fun h h' => by obtain ⟨q9, e9, l9, B9⟩ := HZ.out (by simpa [mkd] using h) n11; exact ⟨q9, e9, l9, B9.below hb9 B9.lt⟩, fun h => absurd h (by simp [mkd, n11]), dk2 D2 (by decide), dk2 D5 (by decide), fun _ => by simp [mkd, haf], dk1 D7 (by decide), dk1 D8 (by decide), dk1 D9 (by decide), dk2 D11 (by decide), dk1 D12 (by decide), kq E0, kq E1, fun _ => rfl, kq E3, kq E4, fun _ => rfl, fun _ => rfl, kq E7, kq E8, kq E9, kq E12⟩
    · obtain rfl := (E6.out (by simp [haf])).symm
      go_wp2
      unfold AgI
      exact ⟨v29, v30, v31, v32, v33, v34, (.tuple #[.agg #[.int .i64 x, .int .i64 y], .int .i64 0]), (.tuple #[.agg #[.int .i64 x, .int .i64 y], .int .i64 0]), v36, v37, v9, v10, pu_, HB.out, km HZ, kp HY, dk2 D2 (by decide), dk2 D5 (by decide), dk2 D6 (by decide), fun _ => by simp [mkd, haf], dk1 D8 (by decide), dk1 D9 (by decide), dk2 D11 (by decide), dk1 D12 (by decide), kq E0, kq E1, kq E2, kq E3, kq E4, kq E5, fun _ => rfl, fun _ => rfl, kq E8, kq E9, kq E12⟩
    · obtain rfl := (E7.out (by simp [haf])).symm
      go_wp2
      unfold AgI
      exact ⟨v29, v30, v31, v32, v33, v34, v35, (.tuple #[.agg #[.int .i64 x, .int .i64 y], .int .i64 0]), (.agg #[.int .i64 x, .int .i64 y]), v37, v9, v10, pu_, HB.out, km HZ, kp HY, dk2 D2 (by decide), dk2 D5 (by decide), dk2 D6 (by decide), dk1 D7 (by decide), fun _ => by simp [mkd, haf], dk1 D9 (by decide), dk2 D11 (by decide), dk1 D12 (by decide), kq E0, kq E1, kq E2, kq E3, kq E4, kq E5, kq E6, fun _ => rfl, fun _ => rfl, kq E9, kq E12⟩
    · obtain rfl := (E7.out (by simp [haf])).symm
      go_wp2
      unfold AgI
      exact ⟨v29, v30, v31, v32, v33, v34, v35, (.tuple #[.agg #[.int .i64 x, .int .i64 y], .int .i64 0]), v36, (.int .i64 0), v9, v10, pu_, HB.out, km HZ, kp HY, dk2 D2 (by decide), dk2 D5 (by decide), dk2 D6 (by decide), dk1 D7 (by decide), dk1 D8 (by decide), fun _ => by simp [mkd, haf], dk2 D11 (by decide), dk1 D12 (by decide), kq E0, kq E1, kq E2, kq E3, kq E4, kq E5, kq E6, fun _ => rfl, kq E8, fun _ => rfl, kq E12⟩
    · have n11 : M 11 = false := by cases h8 : M 11 with | false => rfl | true => exact absurd ((D11.out h8).2) (by simp [hL])
      go_wp2
      unfold AgI
      exact ⟨v29, v30, v31, v32, v33, v34, v35, v28, v36, v37, (.pointer (some ⟨w'.heap.size, 0, none⟩)), v10, pu_, HB.out.trans ((bl_alloc w' _).mono HB.out.size), fun _ _ => ⟨_, rfl, HB.out.size, Blk.new w' _ _⟩, fun h => absurd h (by simp [mkd, n11]), dk2 D2 (by decide), dk2 D5 (by decide), dk2 D6 (by decide), dk1 D7 (by decide), dk1 D8 (by decide), dk1 D9 (by decide), dk2 D11 (by decide), dk1 D12 (by decide), kq E0, kq E1, kq E2, kq E3, kq E4, kq E5, kq E6, kq E7, kq E8, kq E9, kq E12⟩
    · obtain rfl := (E8.out (by simp [haf])).symm
      have m10 : M 10 = true := by simp [haf]
      obtain ⟨q9, rfl, l9, B9⟩ := HZ.out m10 hL
      have y0 := B9.cell 0
      have y1 := B9.cell 1
      have f0 := B9.frozen 0
      have f1 := B9.frozen 1
      simp only [List.getElem?_toArray, List.getElem?_cons_succ, List.getElem?_cons_zero] at y0 y1
      go_wp2
      unfold AgI
      exact ⟨v29, v30, v31, v32, v33, v34, v35, v28, (.agg #[.int .i64 x, .int .i64 y]), v37, (.pointer (some ⟨q9, 0, none⟩)), v10, pu_, (HB.out.setCell (p := ⟨q9, 0, none⟩) l9 _).setCell (p := ⟨q9, 1, none⟩) l9 _, fun _ h => absurd h (by simp [mkd]), fun _ => ⟨_, rfl, l9, (B9.set_ 0 (.int .i64 x)).set_ 1 (.int .i64 y)⟩, dk2 D2 (by decide), dk2 D5 (by decide), dk2 D6 (by decide), dk1 D7 (by decide), dk1 D8 (by decide), dk1 D9 (by decide), fun _ => by simp [mkd, haf], dk1 D12 (by decide), kq E0, kq E1, kq E2, kq E3, kq E4, kq E5, kq E6, kq E7, fun _ => rfl, kq E9, kq E12⟩
    · obtain rfl := (E9.out (by simp [haf])).symm
      go_wp2
      unfold AgI
      exact ⟨v29, v30, v31, v32, v33, v34, v35, v28, v36, (.int .i64 0), v9, (.int .i64 0), pu_, HB.out, km HZ, kp HY, dk2 D2 (by decide), dk2 D5 (by decide), dk2 D6 (by decide), dk1 D7 (by decide), dk1 D8 (by decide), dk1 D9 (by decide), dk2 D11 (by decide), fun _ => by simp [mkd, haf], kq E0, kq E1, kq E2, kq E3, kq E4, kq E5, kq E6, kq E7, kq E8, fun _ => rfl, fun _ => rfl⟩
  case fin =>
    rintro M a1' w' hall ⟨v29, v30, v31, v32, v33, v34, v35, v28, v36, v37, v9, v10, rfl, hB, hZ, hY, d2, d5, d6, d7, d8, d9, d11, d12, e0, e1, e2, e3, e4, e5, e6, e7, e8, e9, e12⟩
    obtain ⟨q, rfl, lq, Bq⟩ := hY (hall 11 (by simp))
    have S5 := Lib.hid (AS.out.below hB AS.out.lt)
    have R5 := Lib.hid (AR.out.below hB AR.out.lt)
    have G5 := Lib.hid (AG.out.below hB AG.out.lt)
    have Q5 := Lib.hid Bq
    have b5 := Lib.hid (AB.out.trans (hB.mono AB.out.size))
    obtain rfl := e12 (hall 12 (by simp))
    clear hB hZ hY d2 d5 d6 d7 d8 d9 d11 d12 e0 e1 e2 e3 e4 e5 e6 e7 e8 e9 e12 hall Bq AS AP AH AR AG AB
    simp only [Act.put, List.setIfInBounds_toArray, List.set_cons_zero, List.set_cons_succ]
    have KKP := Lib.hid (fun W h => keepP_any G W h)
    go_wp2_with fail
    (with_reducible refine (KKP.out _ G5.out).mono ?_)
    rintro e w61 ⟨⟨v, rfl⟩, hb⟩
    have S61 := Lib.hid (S5.out.below hb S5.out.lt)
    have R61 := Lib.hid (R5.out.below hb R5.out.lt)
    have G61 := Lib.hid (G5.out.below hb G5.out.lt)
    have Q61 := Lib.hid (Q5.out.below hb Q5.out.lt)
    have b61 := Lib.hid (b5.out.trans (hb.mono b5.out.size))
    clear hb S5 R5 G5 Q5 b5
    go_upto_region 7 with fail
    have yS : ∀ (s : BQ w61) i, s.w.cell? ⟨w.heap.size, i, none⟩ = (#[.int .i64 a, .int .i64 b] : Array Value)[i]? := fun s i => (S61.out.below s.hb S61.out.lt).cell i
    have yQ : ∀ (s : BQ w61) i, s.w.cell? ⟨q, i, none⟩ = (#[.int .i64 x, .int .i64 y] : Array Value)[i]? := fun s i => (Q61.out.below s.hb Q61.out.lt).cell i
    have KTq := Lib.hid (fun (s : BQ w61) => KT1.out s.w (G61.out.below s.hb G61.out.lt))
    have KAq := Lib.hid (fun (s : BQ w61) => KA1.out s.w (G61.out.below s.hb G61.out.lt))
    have KRq := Lib.hid (fun (s : BQ w61) => KR1.out s.w (G61.out.below s.hb G61.out.lt))
    refine wp_region_bqt 19 w61 (by kernel_rfl) (by kernel_rfl) (by kernel_rfl) (by kernel_rfl) (Below.refl _ _) ?_
    simp only [List.take_succ_cons, List.take_zero, List.drop_succ_cons, List.drop_zero]
    repeat (go_big_quiet_step (first | (go_at_call 153; first | exact quiet_bq0 (KP1.out _) | exact quiet_bq0 (KP2.out _)) | (go_at_call 148; exact quiet_bq (KTq.out _)) | (go_at_call 154; exact quiet_bq (KAq.out _)) | (go_at_call 147; exact quiet_bq (KRq.out _)) | fail))
    refine wpQuiet_nil ?_
    intro w62 hb
    have S62 := Lib.hid (S61.out.below hb S61.out.lt)
    have R62 := Lib.hid (R61.out.below hb R61.out.lt)
    have G62 := Lib.hid (G61.out.below hb G61.out.lt)
    have Q62 := Lib.hid (Q61.out.below hb Q61.out.lt)
    have b62 := Lib.hid (b61.out.trans (hb.mono b61.out.size))
    clear hb S61 R61 G61 Q61 b61 yS yQ
    have yR : ∀ i, w62.cell? ⟨RR, i, none⟩ = (#[.int .i64 0, .int .i64 0] : Array Value)[i]? := fun i => R62.out.cell i
    have zR : ∀ i, w62.frozen? ⟨RR, i, none⟩ = false := fun i => R62.out.frozen i
    go_wp2
    refine bodyPost_ret (v := .tuple #[.agg #[.int .i64 ra, .int .i64 rb], .int .i64 0]) (by simp [results, Tryz.results101, go_sem, *]; done) rfl ⟨rfl, ?_⟩
    exact (b62.out.setCell HR.out _).setCell HR.out _
end Go.Proofs.YtbpnacacnncopaaGreatDoor
