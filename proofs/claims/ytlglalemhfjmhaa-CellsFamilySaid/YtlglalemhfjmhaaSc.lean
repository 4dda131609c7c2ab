/- The walk of slices.Compact at int. -/
import Derived.Test.YtlglalemhfjmhaaSb
namespace Go.Proofs.Ytlglalemhfjmhaa
open Go.RowKit
theorem takeY (Y : List Int) (k : Nat) (a : Int) (hk : k < Y.length) : (Y.set k a).take (k + 1) = Y.take k ++ [a] := by
  rw [takeI _ k (by simpa using hk), List.take_set_of_le (Nat.le_refl _)]
  simp [ge, hk]
set_option maxHeartbeats 2000000 in
set_option maxRecDepth 100000 in
theorem Compact_any (base : Nat) (v : Value) (X : List Int) (w : World) (h : w.ownsRow base 3 1 v X.length (ivs X)) (hn : X.length ≤ 1000000) :
    Calls Try.prog 106 #[v] w fun e w' => ∃ v', e = .returned v' ∧ w'.ownsRow base 3 1 v' (cpt X).length (ivs (cpt X)) ∧ Below base w w' := by
  by_cases hs : X.length < 2
  · have hC := Lib.hid (cpt_few X hs)
    have HO := Lib.hid h
    obtain ⟨A, c, rfl, -⟩ := own_form h
    clear h
    generalize hXn : X.length = n at HO hn hs
    have HX := Lib.hid hXn
    clear hXn
    go_enter Try.func106, Try.ntmps106
    go_wp2
    go_ret
    exact ⟨_, rfl, by rw [hC.out, HX.out]; exact HO.out, Below.refl _ _⟩
  · obtain ⟨g, cap, rfl, hg, hlt⟩ := h.form (by omega)
    obtain ⟨n, hXn⟩ : ∃ n, n = X.length := ⟨_, rfl⟩
    rw [← hXn] at h hn hs ⊢
    obtain ⟨_, _, e, _, hnc, hcm⟩ := own_form h
    cases e
    have HX := Lib.hid hXn
    have HO := Lib.hid h
    have HG := Lib.hid hg
    unfold maxLen at hcm
    clear h hXn hg
    go_enter Try.func106, Try.ntmps106
    go_wp2
    go_loopw [3] (fun i wr => ∃ k j q : Nat, k = j + 1 ∧ k ≤ n ∧ i = .int .i64 k ∧ wr = w.drewN q ∧ cpt (X.take k) = X.take k) (fun i _ => n - (intOf i).toNat)
    case atStart => exact ⟨1, 0, 0, rfl, by omega, rfl, rfl, cpt_one X (by rw [← HX.out]; omega)⟩
    case round =>
      obtain ⟨k, j, q, hkj, hk, rfl, rfl, hcp⟩ := hrel
      by_cases hlt2 : k < n
      · have hj : j < n := by omega
        obtain ⟨y1, -⟩ := own_cell HO.out k _ (ivs_at X k (by rw [← HX.out]; omega))
        obtain ⟨y2, -⟩ := own_cell HO.out j _ (ivs_at X j (by rw [← HX.out]; omega))
        have SJ : Hid (IntKind.i64.wrap ((k : Int) - 1) = (j : Int)) := Lib.hid ((IntWalk.i64_in _ (by omega)).trans (by omega))
        have c1 : Hid (ge X k = ge X j → cpt (X.take (k + 1)) = X.take k) := Lib.hid (by rw [← hcp]; subst hkj; exact cpt_same X j (by rw [← HX.out]; omega))
        have c2 : Hid (¬ ge X k = ge X j → cpt (X.take (k + 1)) = X.take (k + 1)) := Lib.hid (fun hne => by rw [takeI X k (by rw [← HX.out]; omega), ← takeI X k (by rw [← HX.out]; omega)]; have h2 : cpt (X.take (k + 1)) = cpt (X.take k) ++ [ge X k] := (by subst hkj; exact cpt_new X j (by rw [← HX.out]; omega) hne); rw [h2, hcp, takeI X k (by rw [← HX.out]; omega)])
        have HKJ := Lib.hid hkj
        clear hkj hcp
        generalize hxk : ge X k = xk at y1 c1 c2
        generalize ge X j = xj at y2 c1 c2
        clear hxk
        go_upto_region 6 with (fail)
        have sj := SJ.out
        by_cases he : xk = xj
        · have hC1 := Lib.hid (c1.out he)
          subst he
          clear c1 c2
          go_quiet (fail)
          clear sj y1 y2
          go_wp2
          go_loopw [3, 5] (fun i3 i5 wr => ∃ (kk k2 p : Nat) (Y : List Int), k2 = p + 1 ∧ k + k2 ≤ n ∧ i3 = .int .i64 kk ∧ i5 = .int .i64 k2 ∧ kk < k + k2 ∧ Y.length = n ∧ Y.take kk = cpt (X.take (k + k2)) ∧ (∀ t, k + p ≤ t → ge Y t = ge X t) ∧ wr.ownsRow base 3 1 (.slice (some ⟨g, 0, none⟩) n cap) n (ivs Y) ∧ Below base w wr) (fun _ i5 _ => n - (intOf i5).toNat)
          case atStart => exact ⟨k, 1, 0, X, rfl, by omega, rfl, rfl, by omega, HX.out.symm, hC1.out.symm, fun _ _ => rfl, own_bl HO.out (bl_drewN (Below.refl _ _) _) (Nat.le_refl _), bl_drewN (Below.refl _ _) _⟩
          case round =>
            obtain ⟨kk, k2, p, Y, hkp, hle, rfl, rfl, hkk, hYl, hYt, hYx, hown, hbr⟩ := hrel
            have hg2 := HG.out
            by_cases hlt3 : k2 < n - k
            · have e1 := hYx (k + k2) (by omega)
              have e2 := hYx (k + p) (by omega)
              obtain ⟨z1, -⟩ := own_cell hown (k + k2) _ (ivs_at Y (k + k2) (by omega))
              obtain ⟨z2, -⟩ := own_cell hown (k + p) _ (ivs_at Y (k + p) (by omega))
              obtain ⟨z3, z4⟩ := own_cell hown kk _ (ivs_at Y kk (by omega))
              rw [e1] at z1
              rw [e2] at z2
              have SP : Hid (IntKind.i64.wrap ((k2 : Int) - 1) = (p : Int)) := Lib.hid ((IntWalk.i64_in _ (by omega)).trans (by omega))
              have hp2 : p < n - k := by omega
              have d1 : Hid (ge X (k + k2) = ge X (k + p) → cpt (X.take (k + (k2 + 1))) = cpt (X.take (k + k2))) := Lib.hid (by subst hkp; exact cpt_same X (k + p) (by rw [← HX.out]; omega))
              have d2 : Hid (¬ ge X (k + k2) = ge X (k + p) → cpt (X.take (k + (k2 + 1))) = cpt (X.take (k + k2)) ++ [ge X (k + k2)]) := Lib.hid (by subst hkp; exact cpt_new X (k + p) (by rw [← HX.out]; omega))
              have HKP := Lib.hid hkp
              have hkkn : kk < n := by omega
              clear hkp e1 e2
              generalize ge X (k + k2) = a at z1 d1 d2
              generalize ge X (k + p) = b at z2 d1 d2
              have HYX := Lib.hid hYx
              have HYT := Lib.hid hYt
              clear hYx hYt
              go_upto_region 11 with (fail)
              have sp := SP.out
              by_cases he : a = b
              · have hd := Lib.hid (d1.out he)
                subst he
                clear d1 d2 z3 z4
                go_quiet (fail)
                clear sp z1 z2
                go_wp2
                go_roundw
                case rel => exact ⟨kk, k2 + 1, p + 1, Y, by have := HKP.out; omega, by omega, rfl, by go_num, by omega, hYl, by rw [hd.out]; exact HYT.out, fun t ht => HYX.out t (by omega), own_bl hown (bl_drewN (Below.refl _ _) _) (Nat.le_refl _), bl_drewN hbr _⟩
                case measure => simp [intOf]; omega
              · have hd := Lib.hid (d2.out he)
                have hbne : (a != b) = true := by simp [he]
                clear d1 d2 he
                go_quiet (fail)
                clear sp
                go_wp2
                go_roundw
                case rel => exact ⟨kk + 1, k2 + 1, p + 1, Y.set kk a, by have := HKP.out; omega, by omega, by go_num, by go_num, by omega, by simpa using hYl, by rw [takeY Y kk a (by omega), HYT.out, hd.out], fun t ht => by rw [ge_set_ne _ _ _ _ (by have := HKP.out; omega)]; exact HYX.out t (by omega), by rw [← ivs_set]; exact own_set (own_bl hown (bl_drewN (Below.refl _ _) _) (Nat.le_refl _)) kk _ (by omega), (bl_drewN hbr _).setCell (p := ⟨g, kk, none⟩) hg2 _⟩
                case measure => simp [intOf]; omega
            · have hm : k + k2 = n := by omega
              have hcl : ∀ (ty : TypeId) (c : Nat), (Builtin.clear_ #[115] ty #[.slice (some ⟨g, kk, none⟩) (n - kk) c]).run Try.prog wr = .ok (.tuple #[]) (wr.setCells g kk (List.replicate (n - kk) (.int .i64 0))) := fun ty c =>
                Go.Lib.run_clear_slice wr 115 3 ty (.int .i64 0) Try.underlying115 Try.zeroInt rfl rfl g kk (n - kk) c (by omega)
                  (fun t ht => by rw [(own_cell hown (kk + t) _ (ivs_at Y (kk + t) (by omega))).1]; rfl) (fun t ht => (own_cell hown (kk + t) _ (ivs_at Y (kk + t) (by omega))).2)
              have HYT := Lib.hid hYt
              obtain ⟨ys, o1, o2⟩ := own_setCells (List.replicate (n - kk) (.int .i64 0)) kk wr (ivs Y) hown (by simp; omega)
              have o3 := own_take o1 (k := kk) (by omega)
              rw [Nat.mul_one, o2, ivs_take, hYt, hm, List.take_of_length_le (by rw [← HX.out]; omega)] at o3
              have hb3 := bl_setCells hg2 (List.replicate (n - kk) (.int .i64 0)) kk wr hbr
              have hkl : kk = (cpt X).length := by
                have := congrArg List.length HYT.out
                rw [List.length_take, hm, List.take_of_length_le (l := X) (by rw [← HX.out]; omega)] at this
                omega
              have hkkn : kk ≤ n := by omega
              have HK := Lib.hid hkl
              have O3 := Lib.hid o3
              clear hYx hYt hown hkl o1 o2 o3
              go_wp2
              go_ret
              exact ⟨_, rfl, by rw [← HK.out]; exact O3.out, hb3⟩
        · have hC2 := Lib.hid (c2.out he)
          have hbne : (xk == xj) = false := by simp [he]
          clear c1 c2 he
          go_quiet (fail)
          clear sj
          go_wp2
          go_roundw
          case rel => exact ⟨k + 1, k, q + nq, rfl, by omega, by go_num, rfl, hC2.out⟩
          case measure => simp [intOf]; omega
      · have hkn : k = n := by omega
        have hX : X.take k = X := List.take_of_length_le (by rw [← HX.out]; omega)
        rw [hX] at hcp
        have HCP := Lib.hid hcp
        clear hcp hX hkj hkn
        go_wp2
        go_ret
        exact ⟨_, rfl, by rw [HCP.out, ← HX.out]; exact own_bl HO.out (bl_drewN (Below.refl _ _) _) (Nat.le_refl _), bl_drewN (Below.refl _ _) _⟩
end Go.Proofs.Ytlglalemhfjmhaa
