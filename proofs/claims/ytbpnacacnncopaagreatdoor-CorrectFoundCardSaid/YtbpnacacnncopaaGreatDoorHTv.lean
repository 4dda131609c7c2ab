/- The clock: At, Parse, floor, Split, Text. -/
import Derived.Test.YtbpnacacnncopaaGreatDoorHXd
import Derived.Test.YtbpnacacnncopaaGreatDoorHIh
set_option linter.unusedVariables false
set_option linter.unusedSimpArgs false
namespace Go.Proofs.YtbpnacacnncopaaGreatDoor
open Go.RowKit Cw
def DoI (W : World) (Q : Nat) (y D mm : Int) (k : Nat) (a : Act) (M : Nat → Bool) (a' : Act) (w' : World) : Prop :=
  ∃ (v41 v42 v43 v44 v45 v46 v47 v48 v49 : Value), a' = (((((((((a.put (some 41) v41).put (some 42) v42).put (some 43) v43).put (some 44) v44).put (some 45) v45).put (some 46) v46).put (some 47) v47).put (some 48) v48).put (some 49) v49) ∧ (M 9 = false → Below W.heap.size W w') ∧ (M 9 = true → ∃ w9, Below W.heap.size W w9 ∧ w' = w9.setCell ⟨Q, 2, none⟩ (.int .i64 (D - mm))) ∧ (M 1 = true → M 0 = true) ∧ (M 3 = true → M 2 = true) ∧ (M 5 = true → M 4 = true) ∧ (M 6 = true → M 3 = true ∧ M 5 = true) ∧ (M 7 = true → M 1 = true ∧ M 6 = true) ∧ (M 9 = true → M 7 = true ∧ M 8 = true) ∧ (M 0 = true → v41 = .pointer (some ⟨Q, 2, none⟩)) ∧ (M 1 = true → v42 = .int .i64 D) ∧ (M 2 = true → v43 = .pointer (some ⟨Q, 0, none⟩)) ∧ (M 3 = true → v44 = .int .i64 y) ∧ (M 4 = true → v45 = .pointer (some ⟨Q, 1, none⟩)) ∧ (M 5 = true → v46 = .int .i64 (k : Int)) ∧ (M 6 = true → v47 = .int .i64 mm) ∧ (M 7 = true → v48 = .int .i64 (D - mm)) ∧ (M 8 = true → v49 = .pointer (some ⟨Q, 2, none⟩))
theorem DoI.start (W : World) (Q : Nat) (y D mm : Int) (k : Nat) (a : Act) : DoI W Q y D mm k a (fun _ => false) a W :=
  ⟨_, _, _, _, _, _, _, _, _, by rw [putQ_self a 41, putQ_self a 42, putQ_self a 43, putQ_self a 44, putQ_self a 45, putQ_self a 46, putQ_self a 47, putQ_self a 48, putQ_self a 49], fun _ => Below.refl _ _, nofun, nofun, nofun, nofun, nofun, nofun, nofun, nofun, nofun, nofun, nofun, nofun, nofun, nofun, nofun, nofun⟩
set_option maxHeartbeats 4000000 in
set_option maxRecDepth 100000 in
theorem DateOf_yes (n : Int) (w : World) (h0 : -730119 ≤ n) (h1 : n < 2921940) : Calls Tryz.prog 105 #[.int .i64 n] w fun e w' => (∃ (y d : Int) (m : Nat), CA.vld ⟨y, m, d⟩ ∧ CA.num ⟨y, m, d⟩ = n ∧ e = .returned (.tuple #[.agg (dtv y m d), .int .i64 0])) ∧ Below w.heap.size w w' := by
  have KZ := Lib.hid (fun W => before_any 2000 W (by omega) (by omega))
  rw [CA.bef_2000] at KZ
  have KX := Lib.hid (fun W => before_any 10000 W (by omega) (by omega))
  rw [CA.bef_10000] at KX
  have A0 := Lib.hid ((Blk.new w 3 #[.int .i64 n]).alloc (.cells (dtv 0 0 0) 100))
  have A1 := Lib.hid (Blk.new (w.alloc (.cells #[.int .i64 n] 3)) 100 (dtv 0 0 0))
  have a0 := Lib.hid (((Below.refl w.heap.size w).alloc (Nat.le_refl _) (.cells #[.int .i64 n] 3)).alloc (by simp) (.cells (dtv 0 0 0) 100))
  simp only [World.size_alloc] at A1
  have d1 : decide (n < -730119) = false := decide_eq_false (by omega)
  have d2 : decide (2921940 ≤ n) = false := decide_eq_false (by omega)
  go_enter Tryz.func105, Tryz.ntmps105
  go_upto_region 2 with (go_at_call 155; (refine (KZ.out _).mono ?_); rintro e w1 ⟨rfl, rfl⟩)
  have e0 : ((w.alloc (.cells #[.int .i64 n] 3)).alloc (.cells #[.int .i64 0, .int .i64 0, .int .i64 0] 100)) = ((w.alloc (.cells #[.int .i64 n] 3)).alloc (.cells (dtv 0 0 0) 100)) := rfl
  rw [e0]
  clear e0
  generalize (w.alloc (.cells #[.int .i64 n] 3)).alloc (.cells (dtv 0 0 0) 100) = w0 at *
  have y0 : ∀ s : BQ w0, s.w.cell? ⟨w.heap.size, 0, none⟩ = some (.int .i64 n) := fun s => (A0.out.below s.hb A0.out.lt).cell 0
  refine wp_region_bq w0 (by kernel_rfl) (by kernel_rfl) (Below.refl _ _) ?_
  repeat (go_big_quiet_step (first | (go_at_call 155; exact quiet_bq0 (KX.out _)) | fail))
  refine wpQuiet_nil ?_
  intro w9 hb9
  have B0 := Lib.hid (A0.out.below hb9 A0.out.lt)
  have B1 := Lib.hid (A1.out.below hb9 A1.out.lt)
  have b1 := Lib.hid (a0.out.trans (hb9.mono a0.out.size))
  clear A0 A1 a0 hb9 y0 d1 d2
  have y0 : w9.cell? ⟨w.heap.size, 0, none⟩ = some (.int .i64 n) := B0.out.cell 0
  have f0 := B0.out.frozen 0
  go_upto_region 5 with fail
  have C0 := Lib.hid (show Blk (w9.setCell ⟨w.heap.size, 0, none⟩ (.int .i64 (n + 730119))) w.heap.size 3 #[.int .i64 (n + 730119)] from B0.out.set_ 0 (.int .i64 (n + 730119)))
  have C1 := Lib.hid (B1.out.far (p := ⟨w.heap.size, 0, none⟩) (show w.heap.size + 1 ≠ w.heap.size by omega) (.int .i64 (n + 730119)))
  have c1 := Lib.hid (b1.out.setCell (p := ⟨w.heap.size, 0, none⟩) (Nat.le_refl _) (.int .i64 (n + 730119)))
  clear B0 B1 b1 y0 f0
  generalize w9.setCell ⟨w.heap.size, 0, none⟩ (.int .i64 (n + 730119)) = v0 at *
  have KS := Lib.hid (Search_year w.heap.size (n + 730119) v0 C0.out (by omega) (by omega))
  go_wp2_with fail
  (refine (KS.out).mono ?_)
  rintro e v1 ⟨⟨r, hr, rfl, hA, hB⟩, hb⟩
  have D0 := Lib.hid (C0.out.below hb C0.out.lt)
  have D1 := Lib.hid (C1.out.below hb C1.out.lt)
  have d1 := Lib.hid (c1.out.trans (hb.mono c1.out.size))
  clear hb C0 C1 c1 KS
  go_upto_region 6 with fail
  obtain ⟨y, hy⟩ : ∃ y : Int, 1 + (r : Int) = y := ⟨_, rfl⟩
  rw [hy] at hA hB ⊢
  have hy1 : 1 ≤ y := by omega
  have hy2 : y ≤ 9999 := by omega
  have KB := Lib.hid (fun W => before_any y W hy1 (by omega))
  have hbd := bef_bd hy1 (show y ≤ 10000 by omega)
  have hsu := CA.bef_succ y
  have h13 := CA.cum13 y
  have KD := Lib.hid (fun (k : Nat) (W : World) (k1 : 1 ≤ k) (k2 : k ≤ 12) => days_any y k W (by omega) k1 k2)
  have HV := Lib.hid (fun (k : Nat) (D : Int) (a : 1 ≤ k) (b : k ≤ 12) (c : 1 ≤ D) (d : D ≤ CA.dm y k) (e : CA.cum y k + D = n + 730119 - CA.bef y + 1) => (show CA.vld ⟨y, k, D⟩ ∧ CA.num ⟨y, k, D⟩ = n from ⟨⟨hy1, hy2, a, b, c, d⟩, by unfold CA.num; simp only []; omega⟩))
  have hc13 : n + 730119 - CA.bef y + 1 ≤ CA.cum y 13 := by omega
  have hD1 : 1 ≤ n + 730119 - CA.bef y + 1 := by omega
  have hD2 : n + 730119 - CA.bef y + 1 ≤ 366 := by
    have : CA.cum y 13 ≤ 366 := by rw [h13]; split <;> omega
    omega
  clear hsu h13 hA hB hy hr
  generalize CA.bef y = B at *
  obtain ⟨hbd0, hbd1⟩ := hbd
  have E0 := Lib.hid (D0.out.alloc (.cells (dtv y 1 0) 100))
  have E1 := Lib.hid (D1.out.alloc (.cells (dtv y 1 0) 100))
  have E5 := Lib.hid (Blk.new v1 100 (dtv y 1 0))
  have e1 := Lib.hid (d1.out.trans ((bl_alloc v1 (.cells (dtv y 1 0) 100)).mono d1.out.size))
  have hq : w.heap.size + 1 < v1.heap.size := D1.out.lt
  have e0 : v1.alloc (.cells #[.int .i64 y, .int .i64 1, .int .i64 0] 100) = v1.alloc (.cells (dtv y 1 0) 100) := rfl
  rw [e0]
  clear e0 D0 D1 d1
  generalize v1.alloc (.cells (dtv y 1 0) 100) = v2 at *
  obtain ⟨Q, hQ⟩ : ∃ Q, v1.heap.size = Q := ⟨_, rfl⟩
  rw [hQ] at E5 hq ⊢
  clear hQ
  have y0 : v2.cell? ⟨w.heap.size, 0, none⟩ = some (.int .i64 (n + 730119)) := E0.out.cell 0
  have y5 : v2.cell? ⟨Q, 0, none⟩ = some (.int .i64 y) := E5.out.cell 0
  have y6 : v2.cell? ⟨Q, 2, none⟩ = some (.int .i64 0) := E5.out.cell 2
  have f6 := E5.out.frozen 2
  have n1 : (⟨Q, 2, none⟩ : Addr) ≠ ⟨w.heap.size, 0, none⟩ := fun e => by injection e; omega
  have n2 : (⟨Q, 2, none⟩ : Addr) ≠ ⟨Q, 0, none⟩ := fun e => by injection e with _ e2; cases e2
  go_region_held3 (fun w' => w'.cell? ⟨w.heap.size, 0, none⟩ = some (.int .i64 (n + 730119)) ∧ w'.cell? ⟨Q, 0, none⟩ = some (.int .i64 y)) (simp [*, World.cell?_setCell_other]) (first | (go_at_call 155; (refine (KB.out _).mono ?_); rintro e w8 ⟨rfl, rfl⟩) | fail)
  rw [IntWalk.i64_in (n + 730119 - B) (by omega), IntWalk.i64_in (n + 730119 - B + 1) (by omega)]
  have F1 := Lib.hid (E1.out.far (p := ⟨Q, 2, none⟩) (show w.heap.size + 1 ≠ Q by omega) (.int .i64 (n + 730119 - B + 1))).drew
  have F5 := Lib.hid (show Blk (v2.setCell ⟨Q, 2, none⟩ (.int .i64 (n + 730119 - B + 1))) Q 100 (dtv y 1 (n + 730119 - B + 1)) from E5.out.set_ 2 (.int .i64 (n + 730119 - B + 1))).drew
  have fb := Lib.hid (bl_drew (e1.out.setCell (p := ⟨Q, 2, none⟩) (show w.heap.size ≤ Q by omega) (.int .i64 (n + 730119 - B + 1))))
  clear E0 E1 E5 e1 y0 y5 y6 f6 n1
  generalize (v2.setCell ⟨Q, 2, none⟩ (.int .i64 (n + 730119 - B + 1))).drew = v3 at *
  generalize n + 730119 - B + 1 = DD at *
  go_wp2_with fail
  go_loopg [] 12 (fun gz wr => ∃ (k : Nat) (D : Int), 1 ≤ k ∧ k ≤ 12 ∧ 12 - k ≤ gz ∧ 1 ≤ D ∧ D ≤ 366 ∧ CA.cum y k + D = DD ∧ Blk wr (w.heap.size + 1) 100 (dtv 0 0 0) ∧ Blk wr Q 100 (dtv y k D) ∧ Below w.heap.size w wr)
  case atStart => exact ⟨1, DD, by omega, by omega, by omega, hD1, hD2, by show 0 + DD = DD; omega, F1.out, F5.out, fb.out⟩
  case round =>
    obtain ⟨k, D, k1, k2, kg, hd1, hd2, hcd, g1, g5, gb⟩ := hrel
    have G1 := Lib.hid g1
    have G5 := Lib.hid g5
    have GB := Lib.hid gb
    clear F1 F5 fb g1 g5 gb
    have K := Lib.hid (fun W => KD.out k W k1 k2)
    have hdm := CA.dm_pos y k
    have y0 : ∀ s : BQ wr, s.w.cell? ⟨Q, 0, none⟩ = some (.int .i64 y) := fun s => (G5.out.below s.hb G5.out.lt).cell 0
    have y1 : ∀ s : BQ wr, s.w.cell? ⟨Q, 1, none⟩ = some (.int .i64 (k : Int)) := fun s => (G5.out.below s.hb G5.out.lt).cell 1
    have y2 : ∀ s : BQ wr, s.w.cell? ⟨Q, 2, none⟩ = some (.int .i64 D) := fun s => (G5.out.below s.hb G5.out.lt).cell 2
    go_upto_region 7 with fail
    by_cases hlt : CA.dm y k < D
    · have hk : k + 1 ≤ 12 := by
        rcases Nat.lt_or_ge k 12 with h | h
        · exact h
        · obtain rfl : k = 12 := by omega
          have : CA.cum y 13 = CA.cum y 12 + CA.dm y 12 := rfl
          omega
      have hcs := CA.cum_succ y k1
      have dl : decide (CA.dm y k < D) = true := decide_eq_true hlt
      generalize CA.dm y k = mm at *
      refine wp_region_bq wr (by kernel_rfl) (by kernel_rfl) (Below.refl _ _) ?_
      repeat (go_big_quiet_step (first | (go_at_call 158; exact quiet_bq (K.out _)) | fail))
      refine wpQuiet_nil ?_
      intro w7 hb7
      have I1 := Lib.hid (G1.out.below hb7 G1.out.lt)
      have I5 := Lib.hid (G5.out.below hb7 G5.out.lt)
      have IB := Lib.hid (GB.out.trans (hb7.mono GB.out.size))
      clear hb7 G1 G5 GB y0 y1 y2
      have y0 : w7.cell? ⟨Q, 0, none⟩ = some (.int .i64 y) := I5.out.cell 0
      have y1 : w7.cell? ⟨Q, 1, none⟩ = some (.int .i64 (k : Int)) := I5.out.cell 1
      have y2 : w7.cell? ⟨Q, 2, none⟩ = some (.int .i64 D) := I5.out.cell 2
      go_upto_region 8 with fail
      have J1 := Lib.hid I1.out.drew
      have J5 := Lib.hid I5.out.drew
      have JB := Lib.hid (bl_drew IB.out)
      obtain ⟨W, hW⟩ : ∃ W, w7.drew = W := ⟨_, rfl⟩
      rw [hW] at J1 J5 JB
      have HW := Lib.hid hW
      clear hW I1 I5 IB y0 y1 y2
      refine wp_region_inv3 (by kernel_rfl) (DoI W Q y D mm k) (waits_bind (by kernel_rfl)) ?start ?step ?fin
      case start => rw [HW.out]; exact DoI.start _ _ _ _ _ _ _
      case step =>
        rintro M i o a1' w' ho hL haf ⟨v41, v42, v43, v44, v45, v46, v47, v48, v49, rfl, hB, hS, d1, d3, d5, d6, d7, d9, e0, e1, e2, e3, e4, e5, e6, e7, e8⟩
        have HB := Lib.hid hB
        have HS := Lib.hid hS
        have D1 := Lib.hid d1
        have D3 := Lib.hid d3
        have D5 := Lib.hid d5
        have D6 := Lib.hid d6
        have D7 := Lib.hid d7
        have D9 := Lib.hid d9
        have E0 := Lib.hid e0
        have E1 := Lib.hid e1
        have E2 := Lib.hid e2
        have E3 := Lib.hid e3
        have E4 := Lib.hid e4
        have E5 := Lib.hid e5
        have E6 := Lib.hid e6
        have E7 := Lib.hid e7
        have E8 := Lib.hid e8
        clear hB hS d1 d3 d5 d6 d7 d9 e0 e1 e2 e3 e4 e5 e6 e7 e8
        rcases i with _ | _ | _ | _ | _ | _ | _ | _ | _ | _ | i
        all_goals (simp at ho; try subst ho)
        all_goals (try simp [Region.binds] at haf)
        · go_wp2
          unfold DoI
          exact ⟨(.pointer (some ⟨Q, 2, none⟩)), v42, v43, v44, v45, v46, v47, v48, v49, pu_, kn HB, kp HS, dk1 D1 (by decide), dk1 D3 (by decide), dk1 D5 (by decide), dk2 D6 (by decide), dk2 D7 (by decide), dk2 D9 (by decide), fun _ => rfl, kq E1, kq E2, kq E3, kq E4, kq E5, kq E6, kq E7, kq E8⟩
        · obtain rfl := (E0.out (by simp [haf])).symm
          have n9 : M 9 = false := by cases h8 : M 9 with | false => rfl | true => exact absurd ((D7.out (D9.out h8).1).1) (by simp [hL])
          have hB := HB.out n9
          have z2 : w'.cell? ⟨Q, 2, none⟩ = some (.int .i64 D) := (J5.out.below hB J5.out.lt).cell 2
          go_wp2
          unfold DoI
          exact ⟨(.pointer (some ⟨Q, 2, none⟩)), (.int .i64 D), v43, v44, v45, v46, v47, v48, v49, pu_, kn HB, kp HS, fun _ => by simp [mkd, haf], dk1 D3 (by decide), dk1 D5 (by decide), dk2 D6 (by decide), dk2 D7 (by decide), dk2 D9 (by decide), fun _ => rfl, fun _ => rfl, kq E2, kq E3, kq E4, kq E5, kq E6, kq E7, kq E8⟩
        · go_wp2
          unfold DoI
          exact ⟨v41, v42, (.pointer (some ⟨Q, 0, none⟩)), v44, v45, v46, v47, v48, v49, pu_, kn HB, kp HS, dk1 D1 (by decide), dk1 D3 (by decide), dk1 D5 (by decide), dk2 D6 (by decide), dk2 D7 (by decide), dk2 D9 (by decide), kq E0, kq E1, fun _ => rfl, kq E3, kq E4, kq E5, kq E6, kq E7, kq E8⟩
        · obtain rfl := (E2.out (by simp [haf])).symm
          have n9 : M 9 = false := by cases h8 : M 9 with | false => rfl | true => exact absurd ((D6.out (D7.out (D9.out h8).1).2).1) (by simp [hL])
          have hB := HB.out n9
          have z0 : w'.cell? ⟨Q, 0, none⟩ = some (.int .i64 y) := (J5.out.below hB J5.out.lt).cell 0
          go_wp2
          unfold DoI
          exact ⟨v41, v42, (.pointer (some ⟨Q, 0, none⟩)), (.int .i64 y), v45, v46, v47, v48, v49, pu_, kn HB, kp HS, dk1 D1 (by decide), fun _ => by simp [mkd, haf], dk1 D5 (by decide), dk2 D6 (by decide), dk2 D7 (by decide), dk2 D9 (by decide), kq E0, kq E1, fun _ => rfl, fun _ => rfl, kq E4, kq E5, kq E6, kq E7, kq E8⟩
        · go_wp2
          unfold DoI
          exact ⟨v41, v42, v43, v44, (.pointer (some ⟨Q, 1, none⟩)), v46, v47, v48, v49, pu_, kn HB, kp HS, dk1 D1 (by decide), dk1 D3 (by decide), dk1 D5 (by decide), dk2 D6 (by decide), dk2 D7 (by decide), dk2 D9 (by decide), kq E0, kq E1, kq E2, kq E3, fun _ => rfl, kq E5, kq E6, kq E7, kq E8⟩
        · obtain rfl := (E4.out (by simp [haf])).symm
          have n9 : M 9 = false := by cases h8 : M 9 with | false => rfl | true => exact absurd ((D6.out (D7.out (D9.out h8).1).2).2) (by simp [hL])
          have hB := HB.out n9
          have z1 : w'.cell? ⟨Q, 1, none⟩ = some (.int .i64 (k : Int)) := (J5.out.below hB J5.out.lt).cell 1
          go_wp2
          unfold DoI
          exact ⟨v41, v42, v43, v44, (.pointer (some ⟨Q, 1, none⟩)), (.int .i64 (k : Int)), v47, v48, v49, pu_, kn HB, kp HS, dk1 D1 (by decide), dk1 D3 (by decide), fun _ => by simp [mkd, haf], dk2 D6 (by decide), dk2 D7 (by decide), dk2 D9 (by decide), kq E0, kq E1, kq E2, kq E3, fun _ => rfl, fun _ => rfl, kq E6, kq E7, kq E8⟩
        · obtain rfl := (E3.out (by simp [haf])).symm
          obtain rfl := (E5.out (by simp [haf])).symm
          have n9 : M 9 = false := by cases h8 : M 9 with | false => rfl | true => exact absurd ((D7.out (D9.out h8).1).2) (by simp [hL])
          have hB := HB.out n9
          go_wp2_with fail
          (with_reducible refine (K.out _).mono ?_)
          rintro e9 w9 ⟨rfl, hb9⟩
          go_wp2
          unfold DoI
          exact ⟨v41, v42, v43, (.int .i64 y), v45, (.int .i64 (k : Int)), (.int .i64 mm), v48, v49, pu_, fun _ => hB.trans (hb9.mono hB.size), fun h => absurd h (by simp [mkd, n9]), dk1 D1 (by decide), dk1 D3 (by decide), dk1 D5 (by decide), fun _ => by simp [mkd, haf], dk2 D7 (by decide), dk2 D9 (by decide), kq E0, kq E1, kq E2, fun _ => rfl, kq E4, fun _ => rfl, fun _ => rfl, kq E7, kq E8⟩
        · obtain rfl := (E1.out (by simp [haf])).symm
          obtain rfl := (E6.out (by simp [haf])).symm
          go_wp2
          unfold DoI
          exact ⟨v41, (.int .i64 D), v43, v44, v45, v46, (.int .i64 mm), (.int .i64 (D - mm)), v49, pu_, kn HB, kp HS, dk1 D1 (by decide), dk1 D3 (by decide), dk1 D5 (by decide), dk2 D6 (by decide), fun _ => by simp [mkd, haf], dk2 D9 (by decide), kq E0, fun _ => rfl, kq E2, kq E3, kq E4, kq E5, fun _ => rfl, fun _ => rfl, kq E8⟩
        · go_wp2
          unfold DoI
          exact ⟨v41, v42, v43, v44, v45, v46, v47, v48, (.pointer (some ⟨Q, 2, none⟩)), pu_, kn HB, kp HS, dk1 D1 (by decide), dk1 D3 (by decide), dk1 D5 (by decide), dk2 D6 (by decide), dk2 D7 (by decide), dk2 D9 (by decide), kq E0, kq E1, kq E2, kq E3, kq E4, kq E5, kq E6, kq E7, fun _ => rfl⟩
        · obtain rfl := (E7.out (by simp [haf])).symm
          obtain rfl := (E8.out (by simp [haf])).symm
          have hB := HB.out hL
          have z2 : w'.cell? ⟨Q, 2, none⟩ = some (.int .i64 D) := (J5.out.below hB J5.out.lt).cell 2
          have f2 := (J5.out.below hB J5.out.lt).frozen 2
          go_wp2
          unfold DoI
          exact ⟨v41, v42, v43, v44, v45, v46, v47, (.int .i64 (D - mm)), (.pointer (some ⟨Q, 2, none⟩)), pu_, fun h => absurd h (by simp [mkd]), fun _ => ⟨_, hB, rfl⟩, dk1 D1 (by decide), dk1 D3 (by decide), dk1 D5 (by decide), dk2 D6 (by decide), dk2 D7 (by decide), fun _ => by simp [mkd, haf], kq E0, kq E1, kq E2, kq E3, kq E4, kq E5, kq E6, fun _ => rfl, fun _ => rfl⟩
      case fin =>
        rintro M a1' w' hall ⟨v41, v42, v43, v44, v45, v46, v47, v48, v49, rfl, hB, hS, d1, d3, d5, d6, d7, d9, e0, e1, e2, e3, e4, e5, e6, e7, e8⟩
        obtain ⟨w9, hB9, rfl⟩ := hS (hall 9 (by simp))
        clear d1 d3 d5 d6 d7 d9 e0 e1 e2 e3 e4 e5 e6 e7 e8 hall hB hS
        simp only [Act.put, List.setIfInBounds_toArray, List.set_cons_zero, List.set_cons_succ]
        have L1 := Lib.hid ((J1.out.below hB9 J1.out.lt).far (p := ⟨Q, 2, none⟩) (show w.heap.size + 1 ≠ Q by omega) (.int .i64 (D - mm)))
        have L5 := Lib.hid (show Blk (w9.setCell ⟨Q, 2, none⟩ (.int .i64 (D - mm))) Q 100 (dtv y k (D - mm)) from (J5.out.below hB9 J5.out.lt).set_ 2 (.int .i64 (D - mm)))
        have LB := Lib.hid ((JB.out.trans (hB9.mono JB.out.size)).setCell (p := ⟨Q, 2, none⟩) (show w.heap.size ≤ Q by omega) (.int .i64 (D - mm)))
        clear hB9 J1 J5 JB HW
        generalize w9.setCell ⟨Q, 2, none⟩ (.int .i64 (D - mm)) = v9 at *
        have y1 : v9.cell? ⟨Q, 1, none⟩ = some (.int .i64 (k : Int)) := L5.out.cell 1
        have f1 := L5.out.frozen 1
        go_wp2
        go_roundg (gk - 1)
        case measure => omega
        case rel => exact ⟨k + 1, D - mm, by omega, hk, by omega, by omega, by omega, by omega, L1.out.far (p := ⟨Q, 1, none⟩) (show w.heap.size + 1 ≠ Q by omega) _, (show Blk (v9.setCell ⟨Q, 1, none⟩ (.int .i64 ((k + 1 : Nat) : Int))) Q 100 (dtv y ((k + 1 : Nat) : Int) (D - mm)) from L5.out.set_ 1 (.int .i64 ((k + 1 : Nat) : Int))), LB.out.setCell (p := ⟨Q, 1, none⟩) (show w.heap.size ≤ Q by omega) _⟩
    · have dl : decide (CA.dm y k < D) = false := decide_eq_false hlt
      have hv := Lib.hid (HV.out k D k1 k2 hd1 (by omega) hcd)
      generalize CA.dm y k = mm at *
      refine wp_region_bq wr (by kernel_rfl) (by kernel_rfl) (Below.refl _ _) ?_
      repeat (go_big_quiet_step (first | (go_at_call 158; exact quiet_bq (K.out _)) | fail))
      refine wpQuiet_nil ?_
      intro w7 hb7
      have I1 := Lib.hid (G1.out.below hb7 G1.out.lt)
      have I5 := Lib.hid (G5.out.below hb7 G5.out.lt)
      have IB := Lib.hid (GB.out.trans (hb7.mono GB.out.size))
      clear hb7 G1 G5 GB y0 y1 y2
      have y0 : w7.cell? ⟨Q, 0, none⟩ = some (.int .i64 y) := I5.out.cell 0
      have y1 : w7.cell? ⟨Q, 1, none⟩ = some (.int .i64 (k : Int)) := I5.out.cell 1
      have y2 : w7.cell? ⟨Q, 2, none⟩ = some (.int .i64 D) := I5.out.cell 2
      have z0 : ∀ i, w7.cell? ⟨w.heap.size + 1, i, none⟩ = (dtv 0 0 0)[i]? := fun i => I1.out.cell i
      have f0 : ∀ i, w7.frozen? ⟨w.heap.size + 1, i, none⟩ = false := fun i => I1.out.frozen i
      unfold dtv at z0
      go_wp2
      refine bodyPost_ret (v := .tuple #[.agg (dtv y k D), .int .i64 0]) (by simp [results, Tryz.results105, go_sem, dtv, *]; done) rfl ⟨⟨y, D, k, hv.out.1, hv.out.2, rfl⟩, ?_⟩
      exact ((IB.out.setCell (by simp) _).setCell (by simp) _).setCell (by simp) _
end Go.Proofs.YtbpnacacnncopaaGreatDoor
namespace Go.Proofs.YtbpnacacnncopaaGreatDoor
open Go.RowKit Go.Shelf Frm
open Lib (decDigits)
theorem num_range {x : CA.Date} (h : CA.vld x) : -730119 ≤ CA.num x ∧ CA.num x < 2921940 := by
  have a := CA.in_year h
  obtain ⟨h1, h2, h3, h4, h5, h6⟩ := h
  have b := bef_bd h1 (show x.y ≤ 10000 by omega)
  have c := CA.bef_succ x.y
  have d := bef_bd (y := x.y + 1) (by omega) (by omega)
  unfold CA.num
  omega
set_option maxHeartbeats 1000000 in
set_option maxRecDepth 100000 in
theorem At_any (x : CA.Date) (ms : Nat) (w : World) (hv : CA.vld x) (hm : ms < 86400000) :
    Calls Tryz.prog 125 #[.agg (dav x), .int .i64 (ms : Int)] w fun e w' => e = .returned (if insB (CA.num x * 86400000 + ms) = true then .tuple #[.int .i64 (CA.num x * 86400000 + ms), .int .i64 0] else .tuple #[.int .i64 0, .int .i64 5]) ∧ Below w.heap.size w w' := by
  have KN := Lib.hid (fun W => Number_any x.y x.m x.d W)
  rw [vdB_of hv, if_pos rfl, Int.toNat_natCast] at KN
  have hr := num_range hv
  have KI := Lib.hid (fun W => instant_any (CA.num x * 86400000 + ms) W)
  obtain ⟨y, m, d⟩ := x
  simp only [] at KN KI hr ⊢
  generalize CA.num ⟨y, m, d⟩ = n at *
  show Calls Tryz.prog 125 #[.agg (dtv y m d), .int .i64 (ms : Int)] w _
  unfold dtv at KN ⊢
  have d0 : decide ((ms : Int) < 0) = false := decide_eq_false (by omega)
  have d1 : decide (86400000 ≤ (ms : Int)) = false := decide_eq_false (by omega)
  have d2 : decide (86400000 ≤ ms) = false := decide_eq_false (by omega)
  have hr0 := hr.1
  have hr1 := hr.2
  generalize insB (n * 86400000 + ms) = b at *
  clear hv hr
  cases b with
  | false =>
    rw [if_neg (by simp)]
    have D0 := Lib.hid (Blk.new w 100 #[.int .i64 y, .int .i64 m, .int .i64 d])
    have b0 := Lib.hid ((Below.refl w.heap.size w).alloc (Nat.le_refl _) (.cells #[.int .i64 y, .int .i64 m, .int .i64 d] 100))
    go_enter Tryz.func125, Tryz.ntmps125
    go_upto_region 1 with fail
    generalize (w.alloc (.cells #[.int .i64 y, .int .i64 m, .int .i64 d] 100)) = w1 at *
    have yD : ∀ i, w1.cell? ⟨w.heap.size, i, none⟩ = (#[.int .i64 y, .int .i64 m, .int .i64 d] : Array Value)[i]? := fun i => D0.out.cell i
    go_wp2_with fail
    (with_reducible refine (KN.out _).mono ?_)
    rintro e w2 ⟨rfl, hb⟩
    have D2 := Lib.hid (D0.out.below hb D0.out.lt)
    have b2 := Lib.hid (b0.out.trans (hb.mono b0.out.size))
    clear hb D0 b0 yD
    go_wp2_with fail
    (with_reducible refine (KI.out _).mono ?_)
    rintro e w3 ⟨rfl, rfl⟩
    go_wp2
    go_ret2
    exact ⟨rfl, b2.out⟩
  | true =>
    rw [if_pos rfl]
    have D0 := Lib.hid (Blk.new w 100 #[.int .i64 y, .int .i64 m, .int .i64 d])
    have b0 := Lib.hid ((Below.refl w.heap.size w).alloc (Nat.le_refl _) (.cells #[.int .i64 y, .int .i64 m, .int .i64 d] 100))
    go_enter Tryz.func125, Tryz.ntmps125
    go_upto_region 1 with fail
    generalize (w.alloc (.cells #[.int .i64 y, .int .i64 m, .int .i64 d] 100)) = w1 at *
    have yD : ∀ i, w1.cell? ⟨w.heap.size, i, none⟩ = (#[.int .i64 y, .int .i64 m, .int .i64 d] : Array Value)[i]? := fun i => D0.out.cell i
    go_wp2_with fail
    (with_reducible refine (KN.out _).mono ?_)
    rintro e w2 ⟨rfl, hb⟩
    have D2 := Lib.hid (D0.out.below hb D0.out.lt)
    have b2 := Lib.hid (b0.out.trans (hb.mono b0.out.size))
    clear hb D0 b0 yD
    go_wp2_with fail
    (with_reducible refine (KI.out _).mono ?_)
    rintro e w3 ⟨rfl, rfl⟩
    go_wp2
    go_ret2
    exact ⟨rfl, b2.out⟩
/-- what clock.Parse returns -/
def CkR (s : Bs) (e : Ending) : Prop := (∃ t, IsInst t s ∧ insB t = true ∧ e = .returned (.tuple #[.int .i64 t, .int .i64 0])) ∨ ((¬ ∃ t, IsInst t s ∧ insB t = true) ∧ ∃ E : Int, E ≠ 0 ∧ e = .returned (.tuple #[.int .i64 0, .int .i64 E]))
theorem inst_cut {t : Int} {s : Bs} (h : IsInst t s) : ∃ x, CA.vld x ∧ CA.num x = t / 86400000 ∧ Lib.cut s [32] = (dateT x, CT.clockT (t % 86400000).toNat, true) := by
  obtain ⟨x, h1, h2, rfl⟩ := h
  exact ⟨x, h1, h2, cut_date x _⟩
theorem cutb_any (s : Bs) (w : World) (hl : s.length ≤ 1000000) (he : En w) :
    Calls Tryz.prog 122 #[tx s, .string ⟨#[32]⟩] w fun e w' => e = .returned (.tuple #[tx (Lib.cut s [32]).1, tx (Lib.cut s [32]).2.1, .bool (Lib.cut s [32]).2.2]) ∧ Below w.heap.size w w' := cutx_any s 32 w hl he
set_option maxHeartbeats 4000000 in
set_option maxRecDepth 100000 in
theorem ckParse_any (s : Bs) (w : World) (hl : s.length ≤ 1000) (he : En w) :
    Calls Tryz.prog 84 #[tx s] w fun e w' => CkR s e ∧ Below w.heap.size w w' := by
  have K0 := cutb_any s w (by omega) he
  have hcl := cut_len s [32]
  have hic := fun t (h : IsInst t s) => inst_cut h
  have hct := fun a r (h : Lib.cut s [32] = (a, r, true)) => cut_true h
  obtain ⟨⟨a, r, ok⟩, hc⟩ : ∃ z, Lib.cut s [32] = z := ⟨_, rfl⟩
  rw [hc] at K0 hcl
  simp only [hc] at hic hct
  simp only [] at K0 hcl
  have KC := Lib.hid K0
  have KP := Lib.hid (fun (W : World) (h : En W) => calParse_any a W (by omega) h)
  have KK := Lib.hid (fun (W : World) (h : En W) => clockC_any r W (by omega) h)
  have HE := Lib.hid he
  have HI := Lib.hid hic
  have HT := Lib.hid hct
  obtain ⟨⟨ms, is⟩, hk⟩ : ∃ z, CT.clockP r = z := ⟨_, rfl⟩
  rw [hk] at KK
  simp only [] at KK
  have HK := Lib.hid hk
  clear K0 he hic hct hc hk hcl
  go_enter Tryz.func84, Tryz.ntmps84
  go_wp2_with fail
  (with_reducible refine (KC.out).mono ?_)
  rintro e w1 ⟨rfl, hb⟩
  have E1 := Lib.hid (HE.out.bl hb)
  have b1 := Lib.hid hb
  clear hb HE KC
  go_wp2_with fail
  (with_reducible refine (KP.out _ E1.out).mono ?_)
  rintro e w2 ⟨hcp, hb⟩
  have E2 := Lib.hid (E1.out.bl hb)
  have b2 := Lib.hid (b1.out.trans (hb.mono b1.out.size))
  clear hb E1 b1 KP
  rcases hcp with ⟨x, hx1, hx2, rfl⟩ | ⟨hno, rfl⟩
  · have HX := Lib.hid hx1
    have HX2 := Lib.hid hx2
    have KA := Lib.hid (fun (m : Nat) (W : World) (h : m < 86400000) => At_any x m W hx1 h)
    clear hx1 hx2
    obtain ⟨y, m, d⟩ := x
    change Hid (∀ (k : Nat) (W : World), k < 86400000 → Calls Tryz.prog 125 #[.agg #[.int .i64 y, .int .i64 m, .int .i64 d], .int .i64 (k : Int)] W _) at KA
    simp only [dav, dtv]
    have D3 := Lib.hid (Blk.new w2 100 #[.int .i64 y, .int .i64 ((m : Int)), .int .i64 d])
    have E3 := Lib.hid (E2.out.bl (bl_alloc w2 (.cells #[.int .i64 y, .int .i64 ((m : Int)), .int .i64 d] 100)))
    have b3 := Lib.hid (b2.out.trans ((bl_alloc w2 (.cells #[.int .i64 y, .int .i64 ((m : Int)), .int .i64 d] 100)).mono b2.out.size))
    clear E2 b2
    go_upto_region 3 with fail
    generalize w2.alloc (.cells #[.int .i64 y, .int .i64 ((m : Int)), .int .i64 d] 100) = w4 at *
    go_wp2_with fail
    (with_reducible refine (KK.out _ E3.out).mono ?_)
    rintro e w5 ⟨rfl, hb⟩
    have D5 := Lib.hid (D3.out.below hb D3.out.lt)
    have E5 := Lib.hid (E3.out.bl hb)
    have b5 := Lib.hid (b3.out.trans (hb.mono b3.out.size))
    clear hb D3 E3 b3
    cases ok with
    | false =>
      have HNO : Hid (¬ ∃ t, IsInst t s ∧ insB t = true) := Lib.hid fun ⟨t, ht, _⟩ => by
        obtain ⟨x, h1, h2, h3⟩ := HI.out t ht
        simp at h3
      go_wp2
      go_ret2
      exact ⟨(.inr ⟨HNO.out, 7, by omega, rfl⟩), b5.out⟩
    | true =>
      cases is with
      | false =>
        have HNO : Hid (¬ ∃ t, IsInst t s ∧ insB t = true) := Lib.hid fun ⟨t, ht, _⟩ => by
          obtain ⟨x, h1, h2, h3⟩ := HI.out t ht
          simp only [Prod.mk.injEq, and_true] at h3
          have h4 := CT.clockP_T (ms := (t % 86400000).toNat) (by omega)
          rw [← h3.2, HK.out] at h4
          cases h4
        go_wp2
        go_ret2
        exact ⟨(.inr ⟨HNO.out, 7, by omega, rfl⟩), b5.out⟩
      | true =>
        obtain ⟨hm1, hm2⟩ := CT.clockT_P HK.out
        have hs : s = dateT ⟨y, m, d⟩ ++ 32 :: CT.clockT ms := by rw [HX2.out, hm2]; exact HT.out _ _ rfl
        have hin : IsInst (CA.num ⟨y, m, d⟩ * 86400000 + ms) s := ⟨⟨y, m, d⟩, HX.out, by omega, by rw [hs, show ((CA.num ⟨y, m, d⟩ * 86400000 + (ms : Int)) % 86400000).toNat = ms by omega]⟩
        have HIN := Lib.hid hin
        have KA2 := Lib.hid (KA.out ms w5 hm1)
        clear hin hs hm1 hm2 KA
        generalize hnum : CA.num ⟨y, m, d⟩ * 86400000 + (ms : Int) = N at *
        have HIU := Lib.hid (fun t (h : IsInst t s) => inst_num h HIN.out)
        clear hnum
        have yD : ∀ i, w5.cell? ⟨w2.heap.size, i, none⟩ = (#[.int .i64 y, .int .i64 ((m : Int)), .int .i64 d] : Array Value)[i]? := fun i => D5.out.cell i
        cases hb8 : insB N with
        | false =>
          rw [hb8, if_neg (by simp)] at KA2
          have HNO : Hid (¬ ∃ t, IsInst t s ∧ insB t = true) := Lib.hid fun ⟨t, ht, h5⟩ => by
            rw [HIU.out t ht, hb8] at h5
            cases h5
          clear hb8
          go_wp2_with fail
          (with_reducible refine (KA2.out).mono ?_)
          rintro e w6 ⟨rfl, hb⟩
          have D6 := Lib.hid (D5.out.below hb D5.out.lt)
          have b6 := Lib.hid (b5.out.trans (hb.mono b5.out.size))
          clear hb D5 b5
          go_wp2
          go_ret2
          exact ⟨.inr ⟨HNO.out, 5, by omega, rfl⟩, b6.out⟩
        | true =>
          rw [hb8, if_pos rfl] at KA2
          have HB8 := Lib.hid hb8
          clear hb8
          go_wp2_with fail
          (with_reducible refine (KA2.out).mono ?_)
          rintro e w6 ⟨rfl, hb⟩
          have D6 := Lib.hid (D5.out.below hb D5.out.lt)
          have b6 := Lib.hid (b5.out.trans (hb.mono b5.out.size))
          clear hb D5 b5
          go_wp2
          go_ret2
          exact ⟨.inl ⟨_, HIN.out, HB8.out, rfl⟩, b6.out⟩
  · have HNO := Lib.hid hno
    clear hno
    simp only [dav, dtv]
    have HN1 : Hid (¬ ∃ t, IsInst t s ∧ insB t = true) := Lib.hid fun ⟨t, ht, _⟩ => by
      obtain ⟨x, h1, h2, h3⟩ := HI.out t ht
      simp only [Prod.mk.injEq] at h3
      exact HNO.out ⟨x, h1, h3.1.symm⟩
    clear HNO
    have HNO := HN1
    have D3 := Lib.hid (Blk.new w2 100 #[.int .i64 0, .int .i64 0, .int .i64 0])
    have E3 := Lib.hid (E2.out.bl (bl_alloc w2 (.cells #[.int .i64 0, .int .i64 0, .int .i64 0] 100)))
    have b3 := Lib.hid (b2.out.trans ((bl_alloc w2 (.cells #[.int .i64 0, .int .i64 0, .int .i64 0] 100)).mono b2.out.size))
    clear E2 b2
    go_upto_region 3 with fail
    generalize w2.alloc (.cells #[.int .i64 0, .int .i64 0, .int .i64 0] 100) = w4 at *
    go_wp2_with fail
    (with_reducible refine (KK.out _ E3.out).mono ?_)
    rintro e w5 ⟨rfl, hb⟩
    have D5 := Lib.hid (D3.out.below hb D3.out.lt)
    have E5 := Lib.hid (E3.out.bl hb)
    have b5 := Lib.hid (b3.out.trans (hb.mono b3.out.size))
    clear hb D3 E3 b3
    cases ok
    all_goals
      go_wp2
      go_ret2
      exact ⟨(.inr ⟨HNO.out, 7, by omega, rfl⟩), b5.out⟩
end Go.Proofs.YtbpnacacnncopaaGreatDoor
