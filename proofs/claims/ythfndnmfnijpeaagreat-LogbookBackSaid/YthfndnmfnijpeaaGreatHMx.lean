/- The closure of (*Log).Reckoned. -/
import Derived.Test.YthfndnmfnijpeaaGreatHMv
import Derived.Test.YthfndnmfnijpeaaGreatHRin
set_option linter.unusedVariables false
set_option linter.unusedSimpArgs false
namespace Go.Proofs.YthfndnmfnijpeaaGreat
open Go.RowKit Go.Shelf
theorem bl_set4 {B : Nat} {a w : World} {q : Nat} {u0 u1 u2 u3 : Value} (h : Below B a w) (hq : B ≤ q) : Below B a ((((w.setCell ⟨q, 0, none⟩ u0).setCell ⟨q, 1, none⟩ u1).setCell ⟨q, 2, none⟩ u2).setCell ⟨q, 3, none⟩ u3) := (((h.setCell hq _).setCell hq _).setCell hq _).setCell hq _
theorem dk3 {M : Nat → Bool} {i j a b c : Nat} (D : Hid (M j = true → M a = true ∧ M b = true ∧ M c = true)) (hne : (j == i) = false) : mkd M i j = true → mkd M i a = true ∧ mkd M i b = true ∧ mkd M i c = true := fun h => ⟨mkd_of (kq D hne h).1, mkd_of (kq D hne h).2.1, mkd_of (kq D hne h).2.2⟩
theorem sailNil (a b : Int) (n f g : Nat) (w : World) (hN : Blk w n 110 #[.pointer none]) : Calls Tryz.prog 43 #[.agg #[.int .i64 a, .int .i64 b], .pointer (some ⟨n, 0, none⟩), .pointer (some ⟨f, 0, none⟩), .pointer (some ⟨g, 0, none⟩)] w fun e w' => e = .returned (.int .i64 0) ∧ Below w.heap.size w w' := by
  have y : (w.alloc (.cells #[.int .i64 a, .int .i64 b] 23)).cell? ⟨n, 0, none⟩ = some (.pointer none) := (hN.alloc _).cell 0
  go_enter Tryz.func43, Tryz.ntmps43
  go_wp2
  go_ret
  refine ⟨rfl, ?_⟩
  repeat (first | exact Below.refl _ _ | assumption | refine bl_drew ?_ | refine bl_drewN ?_ _ | refine Below.setCell ?_ (by first | assumption | omega | (simp; done) | (simp; omega)) _ | refine Below.alloc ?_ (by first | assumption | omega | (simp; done) | (simp; omega)) _)
def ClI (W : World) (m : Nat) (a : Act) (M : Nat → Bool) (a' : Act) (w' : World) : Prop :=
  ∃ (v11 v12 v13 v14 v15 v16 v10 v17 v18 v6 v7 : Value), a' = (((((((((((a.put (some 11) v11).put (some 12) v12).put (some 13) v13).put (some 14) v14).put (some 15) v15).put (some 16) v16).put (some 10) v10).put (some 17) v17).put (some 18) v18).put (some 6) v6).put (some 7) v7) ∧ Below W.heap.size W w' ∧ (M 9 = true → M 10 = false → ∃ q, v6 = .pointer (some ⟨q, 0, none⟩) ∧ W.heap.size ≤ q ∧ Blk w' q 112 #[.int .i64 0, .int .i64 0, .int .i64 0, .int .i64 0]) ∧ (M 10 = true → ∃ q, v6 = .pointer (some ⟨q, 0, none⟩) ∧ W.heap.size ≤ q ∧ Blk w' q 112 #[.int .i64 0, .int .i64 0, .int .i64 10000, .int .i64 10000]) ∧ (M 1 = true → M 0 = true) ∧ (M 2 = true → M 1 = true) ∧ (M 5 = true → M 2 = true ∧ M 3 = true ∧ M 4 = true) ∧ (M 6 = true → M 5 = true) ∧ (M 7 = true → M 6 = true) ∧ (M 8 = true → M 6 = true) ∧ (M 10 = true → M 7 = true ∧ M 9 = true) ∧ (M 11 = true → M 8 = true) ∧ (M 0 = true → v11 = .pointer (some ⟨m, 0, none⟩)) ∧ (M 1 = true → v12 = .pointer (some ⟨m, 0, none⟩)) ∧ (M 2 = true → v13 = .agg #[.int .i64 0, .int .i64 0, .int .i64 10000, .int .i64 10000]) ∧ (M 3 = true → v14 = .agg #[.int .i64 0, .int .i64 0]) ∧ (M 4 = true → v15 = .agg #[.int .i64 3600000, .int .i64 3600000]) ∧ (M 5 = true → v16 = .tuple #[.agg #[.int .i64 0, .int .i64 0, .int .i64 10000, .int .i64 10000], .int .i64 0]) ∧ (M 6 = true → v10 = .tuple #[.agg #[.int .i64 0, .int .i64 0, .int .i64 10000, .int .i64 10000], .int .i64 0]) ∧ (M 7 = true → v17 = .agg #[.int .i64 0, .int .i64 0, .int .i64 10000, .int .i64 10000]) ∧ (M 8 = true → v18 = .int .i64 0) ∧ (M 11 = true → v7 = .int .i64 0)
theorem ClI.start (W : World) (m : Nat) (a : Act) : ClI W m a (fun _ => false) a W :=
  ⟨_, _, _, _, _, _, _, _, _, _, _, by rw [putQ_self a 11, putQ_self a 12, putQ_self a 13, putQ_self a 14, putQ_self a 15, putQ_self a 16, putQ_self a 10, putQ_self a 17, putQ_self a 18, putQ_self a 6, putQ_self a 7], Below.refl _ _, nofun, nofun, nofun, nofun, nofun, nofun, nofun, nofun, nofun, nofun, nofun, nofun, nofun, nofun, nofun, nofun, nofun, nofun, nofun, nofun⟩
theorem Tryz.infoLeg : (Tryz.prog.info? 112).map (fun i => (i.zero.map fun z => z.cells.size, i.size, decide (i.bytes ≤ 1000))) = some (some 4, 4, true) := by kernel_rfl
theorem leg_parts : ∃ iR z, Tryz.prog.info? 112 = some iR ∧ iR.zero = some z ∧ z.cells.size = 4 ∧ iR.size = 4 ∧ iR.bytes ≤ 1000 := by
  have h := Tryz.infoLeg
  cases hi : Tryz.prog.info? 112 with
  | none => rw [hi] at h; cases h
  | some i =>
    rw [hi] at h
    simp only [Option.map_some, Option.some.injEq, Prod.mk.injEq, decide_eq_true_eq] at h
    obtain ⟨h1, h2, h3⟩ := h
    cases hz : i.zero with
    | none => rw [hz] at h1; cases h1
    | some z =>
      rw [hz] at h1
      simp only [Option.map_some, Option.some.injEq] at h1
      exact ⟨i, z, rfl, hz, h1, h2, h3⟩
theorem leg_news (w : World) : ∀ j u, (#[.int .i64 0, .int .i64 0, .int .i64 10000, .int .i64 10000] : Array Value).toList[j]? = some u → (w.alloc (.cells #[.int .i64 0, .int .i64 0, .int .i64 10000, .int .i64 10000] 112)).cell? ((⟨w.heap.size, 0, none⟩ : Addr).add j) = some u := fun j u hu => by
  rw [Go.WideShapes.add_plain, Nat.zero_add, (Blk.new w 112 #[.int .i64 0, .int .i64 0, .int .i64 10000, .int .i64 10000]).cell j]
  simpa using hu
theorem own_leg1 {w : World} {base : Nat} {t : TypeId} {v : Value} (h : w.ownsRow base t 4 v 1 (#[.int .i64 0, .int .i64 0, .int .i64 10000, .int .i64 10000] : Array Value).toList) : ∃ g c, v = .slice (some ⟨g, 0, none⟩) 1 c ∧ base ≤ g ∧ g < w.heap.size ∧ ∀ j : Nat, j < 4 → w.cell? ⟨g, j, none⟩ = (#[.int .i64 0, .int .i64 0, .int .i64 10000, .int .i64 10000] : Array Value)[j]? := by
  rcases h.2 with ⟨-, h0⟩ | ⟨g, cap, cur, hv, hg, hh, h1, h2, h3, h4⟩
  · cases h0
  · have hlt : g < w.heap.size := by
      rcases Nat.lt_or_ge g w.heap.size with hlt | hge
      · exact hlt
      · rw [Array.getElem?_eq_none hge] at hh; cases hh
    subst hv
    refine ⟨g, cap, rfl, hg, hlt, fun j hj => ?_⟩
    have := h.cells (g := g) rfl j (#[.int .i64 0, .int .i64 0, .int .i64 10000, .int .i64 10000] : Array Value)[j] (by simp)
    rw [Go.WideShapes.add_plain, Nat.zero_add] at this
    rw [this]
    simp [hj]
theorem cell_far (w : World) {g h j : Nat} {u : Value} (hne : g ≠ h) : (w.setCell ⟨g, 0, none⟩ u).cell? ⟨h, j, none⟩ = w.cell? ⟨h, j, none⟩ := World.cell?_setCell_other _ _ _ _ (fun e => hne (by injection e))
set_option maxHeartbeats 8000000 in
set_option maxRecDepth 100000 in
theorem sailOne (n f g m : Nat) (w : World) (hN : Blk w n 110 #[.pointer (some ⟨m, 0, none⟩)]) (hM : Blk w m 28 #[.int .i64 0, .int .i64 0, .int .i64 10000, .int .i64 10000]) (hF : Blk w f 23 #[.int .i64 0, .int .i64 0]) (hG : Blk w g 109 #[.slice none 0 0]) :
    Calls Tryz.prog 43 #[.agg #[.int .i64 3600000, .int .i64 3600000], .pointer (some ⟨n, 0, none⟩), .pointer (some ⟨f, 0, none⟩), .pointer (some ⟨g, 0, none⟩)] w fun e w' => e = .returned (.int .i64 0) ∧ AdK g (.slice none 0 0) w w' ∧ ∃ h c, Blk w' g 109 #[.slice (some ⟨h, 0, none⟩) 1 c] ∧ w.heap.size ≤ h ∧ h < w'.heap.size ∧ ∀ j : Nat, j < 4 → w'.cell? ⟨h, j, none⟩ = (#[.int .i64 0, .int .i64 0, .int .i64 10000, .int .i64 10000] : Array Value)[j]? := by
  have KL := Lib.hid Leg_hour
  have AN := Lib.hid (hN.alloc (.cells #[.int .i64 3600000, .int .i64 3600000] 23))
  have AM := Lib.hid (hM.alloc (.cells #[.int .i64 3600000, .int .i64 3600000] 23))
  have AF := Lib.hid (hF.alloc (.cells #[.int .i64 3600000, .int .i64 3600000] 23))
  have AG := Lib.hid (hG.alloc (.cells #[.int .i64 3600000, .int .i64 3600000] 23))
  have AT := Lib.hid (Blk.new w 23 #[.int .i64 3600000, .int .i64 3600000])
  have k0 := Lib.hid ((AdK.refl g (.slice none 0 0) w).bl (bl_alloc w (.cells #[.int .i64 3600000, .int .i64 3600000] 23)))
  have y : (w.alloc (.cells #[.int .i64 3600000, .int .i64 3600000] 23)).cell? ⟨n, 0, none⟩ = some (.pointer (some ⟨m, 0, none⟩)) := AN.out.cell 0
  have hg : g < w.heap.size := hG.lt
  clear hN hM hF hG
  go_enter Tryz.func43, Tryz.ntmps43
  go_upto_region 3 with fail
  clear y
  generalize w.alloc (.cells #[.int .i64 3600000, .int .i64 3600000] 23) = w0 at *
  obtain ⟨t, ht⟩ : ∃ t, w.heap.size = t := ⟨_, rfl⟩
  rw [ht] at AT ⊢
  have hgt : g < t := by omega
  replace AN := Lib.hid AN.out.drew
  replace AM := Lib.hid AM.out.drew
  replace AF := Lib.hid AF.out.drew
  replace AG := Lib.hid AG.out.drew
  replace AT := Lib.hid AT.out.drew
  replace k0 := Lib.hid (k0.out.bl (bl_drew (Below.refl _ _)))
  obtain ⟨W, hW⟩ : ∃ W, w0.drew = W := ⟨_, rfl⟩
  rw [hW] at AN AM AF AG AT k0
  have HW := Lib.hid hW
  clear hW
  refine wp_region_inv3 (by kernel_rfl) (ClI W m) (waits_bind (by kernel_rfl)) ?start ?step ?fin
  case start => rw [HW.out]; exact ClI.start _ _ _
  case step =>
    rintro M i o a1' w' ho hL haf ⟨v11, v12, v13, v14, v15, v16, v10, v17, v18, v6, v7, rfl, hB, hZ, hY, d1, d2, d5, d6, d7, d8, d10, d11, e0, e1, e2, e3, e4, e5, e6, e7, e8, e11⟩
    have HB := Lib.hid hB
    have HZ := Lib.hid hZ
    have HY := Lib.hid hY
    have D1 := Lib.hid d1
    have D2 := Lib.hid d2
    have D5 := Lib.hid d5
    have D6 := Lib.hid d6
    have D7 := Lib.hid d7
    have D8 := Lib.hid d8
    have D10 := Lib.hid d10
    have D11 := Lib.hid d11
    have E0 := Lib.hid e0
    have E1 := Lib.hid e1
    have E2 := Lib.hid e2
    have E3 := Lib.hid e3
    have E4 := Lib.hid e4
    have E5 := Lib.hid e5
    have E6 := Lib.hid e6
    have E7 := Lib.hid e7
    have E8 := Lib.hid e8
    have E11 := Lib.hid e11
    clear hB hZ hY d1 d2 d5 d6 d7 d8 d10 d11 e0 e1 e2 e3 e4 e5 e6 e7 e8 e11
    rcases i with _ | _ | _ | _ | _ | _ | _ | _ | _ | _ | _ | _ | i
    all_goals (simp at ho; try subst ho)
    all_goals (try simp [Region.binds] at haf)
    · have y0 : w'.cell? ⟨n, 0, none⟩ = some (.pointer (some ⟨m, 0, none⟩)) := (HB.out.cell (p := ⟨n, 0, none⟩) AN.out.lt).trans (AN.out.cell 0)
      go_wp2
      unfold ClI
      exact ⟨(.pointer (some ⟨m, 0, none⟩)), v12, v13, v14, v15, v16, v10, v17, v18, v6, v7, pu_, HB.out, km HZ, kp HY, dk1 D1 (by decide), dk1 D2 (by decide), dk3 D5 (by decide), dk1 D6 (by decide), dk1 D7 (by decide), dk1 D8 (by decide), dk2 D10 (by decide), dk1 D11 (by decide), fun _ => rfl, kq E1, kq E2, kq E3, kq E4, kq E5, kq E6, kq E7, kq E8, kq E11⟩
    · obtain rfl := (E0.out (by simp [haf])).symm
      go_wp2
      unfold ClI
      exact ⟨(.pointer (some ⟨m, 0, none⟩)), (.pointer (some ⟨m, 0, none⟩)), v13, v14, v15, v16, v10, v17, v18, v6, v7, pu_, HB.out, km HZ, kp HY, fun _ => by simp [mkd, haf], dk1 D2 (by decide), dk3 D5 (by decide), dk1 D6 (by decide), dk1 D7 (by decide), dk1 D8 (by decide), dk2 D10 (by decide), dk1 D11 (by decide), fun _ => rfl, fun _ => rfl, kq E2, kq E3, kq E4, kq E5, kq E6, kq E7, kq E8, kq E11⟩
    · obtain rfl := (E1.out (by simp [haf])).symm
      have y0 : w'.cell? ⟨m, 0, none⟩ = some (.int .i64 0) := (HB.out.cell (p := ⟨m, 0, none⟩) AM.out.lt).trans (AM.out.cell 0)
      have y1 : w'.cell? ⟨m, 1, none⟩ = some (.int .i64 0) := (HB.out.cell (p := ⟨m, 1, none⟩) AM.out.lt).trans (AM.out.cell 1)
      have y2 : w'.cell? ⟨m, 2, none⟩ = some (.int .i64 10000) := (HB.out.cell (p := ⟨m, 2, none⟩) AM.out.lt).trans (AM.out.cell 2)
      have y3 : w'.cell? ⟨m, 3, none⟩ = some (.int .i64 10000) := (HB.out.cell (p := ⟨m, 3, none⟩) AM.out.lt).trans (AM.out.cell 3)
      go_wp2
      unfold ClI
      exact ⟨v11, (.pointer (some ⟨m, 0, none⟩)), (.agg #[.int .i64 0, .int .i64 0, .int .i64 10000, .int .i64 10000]), v14, v15, v16, v10, v17, v18, v6, v7, pu_, HB.out, km HZ, kp HY, dk1 D1 (by decide), fun _ => by simp [mkd, haf], dk3 D5 (by decide), dk1 D6 (by decide), dk1 D7 (by decide), dk1 D8 (by decide), dk2 D10 (by decide), dk1 D11 (by decide), kq E0, fun _ => rfl, fun _ => rfl, kq E3, kq E4, kq E5, kq E6, kq E7, kq E8, kq E11⟩
    · have y0 : w'.cell? ⟨f, 0, none⟩ = some (.int .i64 0) := (HB.out.cell (p := ⟨f, 0, none⟩) AF.out.lt).trans (AF.out.cell 0)
      have y1 : w'.cell? ⟨f, 1, none⟩ = some (.int .i64 0) := (HB.out.cell (p := ⟨f, 1, none⟩) AF.out.lt).trans (AF.out.cell 1)
      go_wp2
      unfold ClI
      exact ⟨v11, v12, v13, (.agg #[.int .i64 0, .int .i64 0]), v15, v16, v10, v17, v18, v6, v7, pu_, HB.out, km HZ, kp HY, dk1 D1 (by decide), dk1 D2 (by decide), dk3 D5 (by decide), dk1 D6 (by decide), dk1 D7 (by decide), dk1 D8 (by decide), dk2 D10 (by decide), dk1 D11 (by decide), kq E0, kq E1, kq E2, fun _ => rfl, kq E4, kq E5, kq E6, kq E7, kq E8, kq E11⟩
    · have y0 : w'.cell? ⟨t, 0, none⟩ = some (.int .i64 3600000) := (HB.out.cell (p := ⟨t, 0, none⟩) AT.out.lt).trans (AT.out.cell 0)
      have y1 : w'.cell? ⟨t, 1, none⟩ = some (.int .i64 3600000) := (HB.out.cell (p := ⟨t, 1, none⟩) AT.out.lt).trans (AT.out.cell 1)
      go_wp2
      unfold ClI
      exact ⟨v11, v12, v13, v14, (.agg #[.int .i64 3600000, .int .i64 3600000]), v16, v10, v17, v18, v6, v7, pu_, HB.out, km HZ, kp HY, dk1 D1 (by decide), dk1 D2 (by decide), dk3 D5 (by decide), dk1 D6 (by decide), dk1 D7 (by decide), dk1 D8 (by decide), dk2 D10 (by decide), dk1 D11 (by decide), kq E0, kq E1, kq E2, kq E3, fun _ => rfl, kq E5, kq E6, kq E7, kq E8, kq E11⟩
    · obtain rfl := (E2.out (by simp [haf])).symm
      obtain rfl := (E3.out (by simp [haf])).symm
      obtain rfl := (E4.out (by simp [haf])).symm
      have n10 : M 10 = false := by cases h8 : M 10 with | false => rfl | true => exact absurd ((D6.out (D7.out (D10.out h8).1))) (by simp [hL])
      go_wp2_with fail
      (with_reducible refine (KL.out _).mono ?_)
      rintro e9 w9 ⟨rfl, hb9⟩
      go_wp2
      unfold ClI
      exact ⟨v11, v12, (.agg #[.int .i64 0, .int .i64 0, .int .i64 10000, .int .i64 10000]), (.agg #[.int .i64 0, .int .i64 0]), (.agg #[.int .i64 3600000, .int .i64 3600000]), (.tuple #[.agg #[.int .i64 0, .int .i64 0, .int .i64 10000, .int .i64 10000], .int .i64 0]), v10, v17, v18, v6, v7, pu_, HB.out.trans (hb9.mono HB.out.size), fun h h' => by obtain ⟨q9, e9, l9, B9⟩ := HZ.out (by simpa [mkd] using h) n10; exact ⟨q9, e9, l9, B9.below hb9 B9.lt⟩, fun h => absurd h (by simp [mkd, n10]), dk1 D1 (by decide), dk1 D2 (by decide), fun _ => by simp [mkd, haf], dk1 D6 (by decide), dk1 D7 (by decide), dk1 D8 (by decide), dk2 D10 (by decide), dk1 D11 (by decide), kq E0, kq E1, fun _ => rfl, fun _ => rfl, fun _ => rfl, fun _ => rfl, kq E6, kq E7, kq E8, kq E11⟩
    · obtain rfl := (E5.out (by simp [haf])).symm
      go_wp2
      unfold ClI
      exact ⟨v11, v12, v13, v14, v15, (.tuple #[.agg #[.int .i64 0, .int .i64 0, .int .i64 10000, .int .i64 10000], .int .i64 0]), (.tuple #[.agg #[.int .i64 0, .int .i64 0, .int .i64 10000, .int .i64 10000], .int .i64 0]), v17, v18, v6, v7, pu_, HB.out, km HZ, kp HY, dk1 D1 (by decide), dk1 D2 (by decide), dk3 D5 (by decide), fun _ => by simp [mkd, haf], dk1 D7 (by decide), dk1 D8 (by decide), dk2 D10 (by decide), dk1 D11 (by decide), kq E0, kq E1, kq E2, kq E3, kq E4, fun _ => rfl, fun _ => rfl, kq E7, kq E8, kq E11⟩
    · obtain rfl := (E6.out (by simp [haf])).symm
      go_wp2
      unfold ClI
      exact ⟨v11, v12, v13, v14, v15, v16, (.tuple #[.agg #[.int .i64 0, .int .i64 0, .int .i64 10000, .int .i64 10000], .int .i64 0]), (.agg #[.int .i64 0, .int .i64 0, .int .i64 10000, .int .i64 10000]), v18, v6, v7, pu_, HB.out, km HZ, kp HY, dk1 D1 (by decide), dk1 D2 (by decide), dk3 D5 (by decide), dk1 D6 (by decide), fun _ => by simp [mkd, haf], dk1 D8 (by decide), dk2 D10 (by decide), dk1 D11 (by decide), kq E0, kq E1, kq E2, kq E3, kq E4, kq E5, fun _ => rfl, fun _ => rfl, kq E8, kq E11⟩
    · obtain rfl := (E6.out (by simp [haf])).symm
      go_wp2
      unfold ClI
      exact ⟨v11, v12, v13, v14, v15, v16, (.tuple #[.agg #[.int .i64 0, .int .i64 0, .int .i64 10000, .int .i64 10000], .int .i64 0]), v17, (.int .i64 0), v6, v7, pu_, HB.out, km HZ, kp HY, dk1 D1 (by decide), dk1 D2 (by decide), dk3 D5 (by decide), dk1 D6 (by decide), dk1 D7 (by decide), fun _ => by simp [mkd, haf], dk2 D10 (by decide), dk1 D11 (by decide), kq E0, kq E1, kq E2, kq E3, kq E4, kq E5, fun _ => rfl, kq E7, fun _ => rfl, kq E11⟩
    · have n10 : M 10 = false := by cases h8 : M 10 with | false => rfl | true => exact absurd ((D10.out h8).2) (by simp [hL])
      go_wp2
      unfold ClI
      exact ⟨v11, v12, v13, v14, v15, v16, v10, v17, v18, (.pointer (some ⟨w'.heap.size, 0, none⟩)), v7, pu_, HB.out.trans ((bl_alloc w' _).mono HB.out.size), fun _ _ => ⟨_, rfl, HB.out.size, Blk.new w' _ _⟩, fun h => absurd h (by simp [mkd, n10]), dk1 D1 (by decide), dk1 D2 (by decide), dk3 D5 (by decide), dk1 D6 (by decide), dk1 D7 (by decide), dk1 D8 (by decide), dk2 D10 (by decide), dk1 D11 (by decide), kq E0, kq E1, kq E2, kq E3, kq E4, kq E5, kq E6, kq E7, kq E8, kq E11⟩
    · obtain rfl := (E7.out (by simp [haf])).symm
      have m9 : M 9 = true := by simp [haf]
      obtain ⟨q9, rfl, l9, B9⟩ := HZ.out m9 hL
      have y0 := B9.cell 0
      have y1 := B9.cell 1
      have y2 := B9.cell 2
      have y3 := B9.cell 3
      have f0 := B9.frozen 0
      have f1 := B9.frozen 1
      have f2 := B9.frozen 2
      have f3 := B9.frozen 3
      simp only [List.getElem?_toArray, List.getElem?_cons_succ, List.getElem?_cons_zero] at y0 y1 y2 y3
      go_wp2
      unfold ClI
      exact ⟨v11, v12, v13, v14, v15, v16, v10, (.agg #[.int .i64 0, .int .i64 0, .int .i64 10000, .int .i64 10000]), v18, (.pointer (some ⟨q9, 0, none⟩)), v7, pu_, bl_set4 HB.out l9, fun _ h => absurd h (by simp [mkd]), fun _ => ⟨_, rfl, l9, (((B9.set_ 0 (.int .i64 0)).set_ 1 (.int .i64 0)).set_ 2 (.int .i64 10000)).set_ 3 (.int .i64 10000)⟩, dk1 D1 (by decide), dk1 D2 (by decide), dk3 D5 (by decide), dk1 D6 (by decide), dk1 D7 (by decide), dk1 D8 (by decide), fun _ => by simp [mkd, haf], dk1 D11 (by decide), kq E0, kq E1, kq E2, kq E3, kq E4, kq E5, kq E6, fun _ => rfl, kq E8, kq E11⟩
    · obtain rfl := (E8.out (by simp [haf])).symm
      go_wp2
      unfold ClI
      exact ⟨v11, v12, v13, v14, v15, v16, v10, v17, (.int .i64 0), v6, (.int .i64 0), pu_, HB.out, km HZ, kp HY, dk1 D1 (by decide), dk1 D2 (by decide), dk3 D5 (by decide), dk1 D6 (by decide), dk1 D7 (by decide), dk1 D8 (by decide), dk2 D10 (by decide), fun _ => by simp [mkd, haf], kq E0, kq E1, kq E2, kq E3, kq E4, kq E5, kq E6, kq E7, fun _ => rfl, fun _ => rfl⟩
  case fin =>
    rintro M a1' w' hall ⟨v11, v12, v13, v14, v15, v16, v10, v17, v18, v6, v7, rfl, hB, hZ, hY, d1, d2, d5, d6, d7, d8, d10, d11, e0, e1, e2, e3, e4, e5, e6, e7, e8, e11⟩
    obtain ⟨q, rfl, lq, Bq⟩ := hY (hall 10 (by simp))
    have G9 := Lib.hid (AG.out.below hB AG.out.lt)
    have k9 := Lib.hid (k0.out.bl hB)
    obtain rfl := e11 (hall 11 (by simp))
    clear hB hZ hY d1 d2 d5 d6 d7 d8 d10 d11 e0 e1 e2 e3 e4 e5 e6 e7 e8 e11 hall
    simp only [Act.put, List.setIfInBounds_toArray, List.set_cons_zero, List.set_cons_succ]
    have yq : ∀ i, w'.cell? ⟨q, i, none⟩ = (#[.int .i64 0, .int .i64 0, .int .i64 10000, .int .i64 10000] : Array Value)[i]? := fun i => Bq.cell i
    have y0 : w'.cell? ⟨g, 0, none⟩ = some (.slice none 0 0) := G9.out.cell 0
    go_upto_region 4 with fail
    obtain ⟨iL, zL, hiL, hzL, hsL, hszL, hbL⟩ := leg_parts
    have hbase : t ≤ (w'.alloc (.cells #[.int .i64 0, .int .i64 0, .int .i64 10000, .int .i64 10000] 112)).heap.size := by have := k9.out.size; simp; omega
    repeat ((fail_if_success (refine wpList_append_own_at _ rfl (.tmp 19) (.tmp 21) _ rfl t 112 iL zL 4 iL.bytes Tryz.underlying109 hiL hzL hszL rfl hsL (by decide) (.slice none 0 0) 0 [] rfl (own_nil _ _ _ _) ⟨w'.heap.size, 0, none⟩ 1 1 #[.int .i64 0, .int .i64 0, .int .i64 10000, .int .i64 10000].toList rfl rfl (leg_news w') (by simp [Value.oneCell']) (by simp only [maxLen]; omega) (by omega) hbase ?_)); (first | go_values | go_skip | go_guarded | go_step))
    refine wpList_append_own_at _ rfl (.tmp 19) (.tmp 21) _ rfl t 112 iL zL 4 iL.bytes Tryz.underlying109 hiL hzL hszL rfl hsL (by decide) (.slice none 0 0) 0 [] rfl (own_nil _ _ _ _) ⟨w'.heap.size, 0, none⟩ 1 1 #[.int .i64 0, .int .i64 0, .int .i64 10000, .int .i64 10000].toList rfl rfl (leg_news w') (by simp [Value.oneCell']) (by simp only [maxLen]; omega) (by omega) hbase ?_
    intro u9 w9 hown9 hg9 hnil9 hob9
    obtain ⟨h9, c9, rfl, hb9, hl9, hr9⟩ := own_leg1 hown9
    have GG := Lib.hid ((G9.out.alloc (.cells #[.int .i64 0, .int .i64 0, .int .i64 10000, .int .i64 10000] 112)).grown hg9 (by simp [Value.ownBlock]))
    have kk := Lib.hid ((k9.out.bl (bl_alloc w' (.cells #[.int .i64 0, .int .i64 0, .int .i64 10000, .int .i64 10000] 112))).gr hg9)
    clear hown9 hg9 hnil9 hob9 G9 k9 yq y0
    have y0 : w9.cell? ⟨g, 0, none⟩ = some (.slice none 0 0) := GG.out.cell 0
    have f0 := GG.out.frozen 0
    go_wp2
    go_ret
    exact ⟨rfl, kk.out.set _ _, h9, c9, GG.out.set_ 0 _, by omega, by simpa using hl9, fun j hj => (cell_far w9 (by omega)).trans (hr9 j hj)⟩
end Go.Proofs.YthfndnmfnijpeaaGreat
