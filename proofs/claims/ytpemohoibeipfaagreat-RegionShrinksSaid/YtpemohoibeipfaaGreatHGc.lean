/- Walks of place.Valid, place.Contains at boxes of cells, and of cells.Contains. -/
import Derived.LoopN
import Derived.Test.YtpemohoibeipfaaGreatHAm
import Derived.Test.YtpemohoibeipfaaGreatHJe
set_option linter.unusedVariables false
set_option linter.unusedSimpArgs false
namespace Go.Proofs.YtpemohoibeipfaaGreat
open Go.RowKit
def sgA (n : Int) : Int := if 10800000 ≤ n % 21600000 then n % 21600000 - 21600000 else n % 21600000
theorem sgA_bd (n : Int) : -10800000 ≤ sgA n ∧ sgA n < 10800000 := by unfold sgA; omega
set_option maxHeartbeats 400000 in
theorem SignedA_any (n : Int) (w : World) (h0 : -1000000000000 ≤ n) (h1 : n ≤ 1000000000000) : Calls Tryz.prog 110 #[.int .i64 n] w fun e w' => e = .returned (.int .i64 (sgA n)) ∧ Below w.heap.size w w' := by
  have K := Lib.hid (fun W => Wrap_any n W h0 h1)
  have hm : 0 ≤ n % 21600000 ∧ n % 21600000 < 21600000 := by omega
  unfold sgA
  generalize n % 21600000 = m at *
  by_cases hc : 10800000 ≤ m
  all_goals
    simp only [hc, if_true, if_false]
    go_enter Tryz.func110, Tryz.ntmps110
    go_wp2_with fail
    (with_reducible refine (K.out _).mono ?_)
    rintro e w1 ⟨rfl, hb1⟩
    go_wp2
    go_ret
    exact ⟨ret_int (by first | rfl | omega), hb1⟩
theorem Tryz.infoArcG : (Tryz.prog.info? 32).map (fun i => (i.zero, i.size, i.bytes)) = some (some (.agg #[.int .i64 0, .int .i64 0]), 2, 16) := by kernel_rfl
/-- what two arcs have in common, the second one beginning this much behind the first -/
def comP (a b : Sp) (f : Int) : List Sp := if max 0 f ≤ min (a.2 - a.1) (f + b.2 - b.1) then [(sgA (a.1 + max 0 f), sgA (a.1 + max 0 f) + min (a.2 - a.1) (f + b.2 - b.1) - max 0 f)] else []
/-- what place.common returns -/
def comL (a b : Sp) : List Sp := if isAll a = true then [b] else if isAll b = true then [a] else comP a b ((b.1 - a.1) % 21600000) ++ comP a b ((b.1 - a.1) % 21600000 - 21600000)
theorem index20 (x y : Int) (W : World) : (Instr.index 145 (.agg #[.int .i64 x, .int .i64 y]) (.int .i64 0)).run Tryz.prog W = .ok (.int .i64 x) W := by kernel_rfl
theorem index21 (x y : Int) (W : World) : (Instr.index 145 (.agg #[.int .i64 x, .int .i64 y]) (.int .i64 1)).run Tryz.prog W = .ok (.int .i64 y) W := by kernel_rfl
theorem comP_len (a b : Sp) (f : Int) : (comP a b f).length ≤ 1 := by unfold comP; split <;> simp
/-- after j rounds -/
def comF (a b : Sp) (f : Int) : Nat → List Sp
  | 0 => []
  | 1 => comP a b f
  | _ => comP a b f ++ comP a b (f - 21600000)
set_option maxHeartbeats 4000000 in
set_option maxRecDepth 100000 in
theorem common_any (a0 a1 b0 b1 : Int) (w : World) (ha : -10800000 ≤ a0 ∧ a0 ≤ 10800000 ∧ a0 ≤ a1 ∧ a1 ≤ a0 + 21600000) (hb : -10800000 ≤ b0 ∧ b0 ≤ 10800000 ∧ b0 ≤ b1 ∧ b1 ≤ b0 + 21600000) :
    Calls Tryz.prog 61 #[.agg #[.int .i64 a0, .int .i64 a1], .agg #[.int .i64 b0, .int .i64 b1]] w fun e w' => ∃ v, e = .returned v ∧ w'.ownsRow w.heap.size 32 2 v (comL (a0, a1) (b0, b1)).length (spvs (comL (a0, a1) (b0, b1))) ∧ Below w.heap.size w w' := by
  have KA := Lib.hid all_any
  have HA := Lib.hid ((K2.new w a0 a1 32).alloc (.cells #[.int .i64 b0, .int .i64 b1] 32))
  have HB : Hid (K2 ((w.alloc (.cells #[.int .i64 a0, .int .i64 a1] 32)).alloc (.cells #[.int .i64 b0, .int .i64 b1] 32)) (w.heap.size + 1) b0 b1) := Lib.hid (by
    have := K2.new (w.alloc (.cells #[.int .i64 a0, .int .i64 a1] 32)) b0 b1 32
    simpa using this)
  have b0' : Below w.heap.size w ((w.alloc (.cells #[.int .i64 a0, .int .i64 a1] 32)).alloc (.cells #[.int .i64 b0, .int .i64 b1] 32)) := ((Below.refl _ _).alloc (Nat.le_refl _) _).alloc (by simp) _
  cases h1 : aeq a0 a1 (-10800000) 10800000 with
  | true =>
    have hres : comL (a0, a1) (b0, b1) = [(b0, b1)] := by unfold comL isAll; rw [if_pos h1]
    rw [hres]
    go_enter Tryz.func61, Tryz.ntmps61
    go_wp2_with fail
    (with_reducible refine (KA.out _ _ _).mono ?_)
    rintro e w1 ⟨rfl, hb1⟩
    have B1 := b0'.trans (hb1.mono b0'.size)
    obtain ⟨bt, c0, c1, -, -⟩ := HB.out.below hb1 HB.out.lt
    rw [h1]
    go_wp2
    go_ret
    exact ⟨_, rfl, by simpa [spvs, spv] using own_new w1 w.heap.size 32 2 1 w1.heap.size #[.int .i64 b0, .int .i64 b1] rfl B1.size (by simp) (by simp [maxLen]), B1.alloc B1.size _⟩
  | false =>
    cases h2 : aeq b0 b1 (-10800000) 10800000 with
    | true =>
      have hres : comL (a0, a1) (b0, b1) = [(a0, a1)] := by unfold comL isAll; rw [if_neg (by simp [h1]), if_pos h2]
      rw [hres]
      go_enter Tryz.func61, Tryz.ntmps61
      go_wp2_with fail
      (with_reducible refine (KA.out _ _ _).mono ?_)
      rintro e w1 ⟨rfl, hb1⟩
      have B1 := b0'.trans (hb1.mono b0'.size)
      have HA1 := Lib.hid (HA.out.below hb1 HA.out.lt)
      obtain ⟨bt, c0, c1, -, -⟩ := HB.out.below hb1 HB.out.lt
      rw [h1]
      clear hb1
      go_wp2_with fail
      (with_reducible refine (KA.out _ _ _).mono ?_)
      rintro e w2 ⟨rfl, hb2⟩
      have B2 := B1.trans (hb2.mono B1.size)
      clear bt c0 c1
      obtain ⟨bt, c0, c1, -, -⟩ := HA1.out.below hb2 HA1.out.lt
      rw [h2]
      go_wp2
      go_ret
      exact ⟨_, rfl, by simpa [spvs, spv] using own_new w2 w.heap.size 32 2 1 w2.heap.size #[.int .i64 a0, .int .i64 a1] rfl B2.size (by simp) (by simp [maxLen]), B2.alloc B2.size _⟩
    | false =>
      obtain ⟨f, hf⟩ : ∃ f, f = (b0 - a0) % 21600000 := ⟨_, rfl⟩
      obtain ⟨R, hR⟩ : ∃ R, R = comL (a0, a1) (b0, b1) := ⟨_, rfl⟩
      rw [← hR]
      have HRE : Hid (R = comP (a0, a1) (b0, b1) f ++ comP (a0, a1) (b0, b1) (f - 21600000)) := Lib.hid (by rw [hR]; unfold comL isAll; rw [if_neg (by simp [h1]), if_neg (by simp [h2]), hf])
      have KB := fun W => beyond_any a0 a1 b0 W (by omega) (by omega) (by omega) (by omega)
      rw [← hf] at KB
      have HKB := Lib.hid KB
      have hfb : 0 ≤ f ∧ f < 21600000 := by omega
      clear hR hf KB
      obtain ⟨i0, hi0, hz0, hz1, hzb⟩ := info_parts Tryz.infoArcG
      have e0 : wrap64 (f - 21600000) = f - 21600000 := IntWalk.wrap64_in _ (by omega)
      go_enter Tryz.func61, Tryz.ntmps61
      go_wp2_with fail
      (with_reducible refine (KA.out _ _ _).mono ?_)
      rintro e w1 ⟨rfl, hb1⟩
      have B1 := b0'.trans (hb1.mono b0'.size)
      have HA1 := Lib.hid (HA.out.below hb1 HA.out.lt)
      have HB1 := Lib.hid (HB.out.below hb1 HB.out.lt)
      rw [h1]
      clear hb1 b0' HA HB
      obtain ⟨bt, c0, c1, -, -⟩ := HB1.out
      go_wp2_with fail
      (with_reducible refine (KA.out _ _ _).mono ?_)
      rintro e w2 ⟨rfl, hb2⟩
      have B2 := B1.trans (hb2.mono B1.size)
      have HA2 := Lib.hid (HA1.out.below hb2 HA1.out.lt)
      have HB2 := Lib.hid (HB1.out.below hb2 HB1.out.lt)
      rw [h2]
      clear hb2 B1 HA1 HB1 bt c0 c1
      go_upto_region 6 with (fail)
      have d0 : ∀ s : BV w2, s.w.cell? ⟨w.heap.size, 0, none⟩ = some (.int .i64 a0) := fun s => (HA2.out.below s.hb HA2.out.lt).c0
      have d1 : ∀ s : BV w2, s.w.cell? ⟨w.heap.size, 1, none⟩ = some (.int .i64 a1) := fun s => (HA2.out.below s.hb HA2.out.lt).c1
      have d2 : ∀ s : BV w2, s.w.cell? ⟨w.heap.size + 1, 0, none⟩ = some (.int .i64 b0) := fun s => (HB2.out.below s.hb HB2.out.lt).c0
      refine wp_region_bv w2 (by kernel_rfl) (by kernel_rfl) (Below.refl _ _) ?_
      (repeat (go_big_quiet_step (first | (go_at_call 109; with_reducible exact quiet_bv (HKB.out _)) | fail)))
      refine wpQuiet_nil ?_
      intro w9 hb9
      have B9 := B2.trans (hb9.mono B2.size)
      have HA9 := Lib.hid (HA2.out.below hb9 HA2.out.lt)
      have HB9 := Lib.hid (HB2.out.below hb9 HB2.out.lt)
      clear d0 d1 d2 hb9 B2 HA2 HB2
      go_wp2
      go_loopw [5, 31] (fun v i wq => ∃ j : Nat, j ≤ 2 ∧ i = .int .i64 j ∧ wq.ownsRow (w.heap.size + 2) 32 2 v (comF (a0, a1) (b0, b1) f j).length (spvs (comF (a0, a1) (b0, b1) f j)) ∧ K2 wq w.heap.size a0 a1 ∧ K2 wq (w.heap.size + 1) b0 b1 ∧ Below w.heap.size w wq) (fun _ i _ => 2 - (intOf i).toNat)
      case atStart => exact ⟨0, by omega, rfl, own_nil _ _ _ _, HA9.out, HB9.out, B9⟩
      case round =>
        obtain ⟨j, hj, rfl, hown, hA, hB, hbr⟩ := hrel
        clear HA9 HB9 B9
        have HA := Lib.hid hA
        have HB := Lib.hid hB
        have HO := Lib.hid hown
        clear hA hB hown
        by_cases hj2 : j = 2
        · subst hj2
          have hc2 : comF (a0, a1) (b0, b1) f 2 = R := by rw [HRE.out]; rfl
          rw [hc2] at HO
          obtain ⟨A3, c3, hv3, -, -⟩ := own_form HO.out
          subst hv3
          go_wp2
          go_ret
          exact ⟨_, rfl, own_mono HO.out (by omega), hbr⟩
        · obtain ⟨g, hg⟩ : ∃ g, g = f - 21600000 * (j : Int) := ⟨_, rfl⟩
          have hgb : -21600000 ≤ g ∧ g < 21600000 := by omega
          have hz := hbr.size
          have HC : Hid (comF (a0, a1) (b0, b1) f (j + 1) = comF (a0, a1) (b0, b1) f j ++ comP (a0, a1) (b0, b1) g) := Lib.hid (by
            have : j = 0 ∨ j = 1 := by omega
            rcases this with rfl | rfl
            · simp [comF, hg]
            · simp [comF, hg])
          have hfl : (comF (a0, a1) (b0, b1) f j).length ≤ 2 := by
            have : j = 0 ∨ j = 1 := by omega
            have hp := comP_len (a0, a1) (b0, b1) f
            rcases this with rfl | rfl <;> simp [comF]; omega
          have HG := Lib.hid hg
          clear hg
          have e1 : wrap64 (a1 - a0) = a1 - a0 := IntWalk.wrap64_in _ (by omega)
          have e2 : wrap64 (g + b1) = g + b1 := IntWalk.wrap64_in _ (by omega)
          have e3 : wrap64 (g + b1 - b0) = g + b1 - b0 := IntWalk.wrap64_in _ (by omega)
          have HP : Hid (comP (a0, a1) (b0, b1) g = if max 0 g ≤ min (a1 - a0) (g + b1 - b0) then [(sgA (a0 + max 0 g), sgA (a0 + max 0 g) + min (a1 - a0) (g + b1 - b0) - max 0 g)] else []) := Lib.hid rfl
          obtain ⟨L, hL⟩ : ∃ L, max 0 g = L := ⟨_, rfl⟩
          obtain ⟨M, hM⟩ : ∃ M, min (a1 - a0) (g + b1 - b0) = M := ⟨_, rfl⟩
          have hLb : 0 ≤ L ∧ L < 21600000 := by omega
          have hMb : -43200000 ≤ M ∧ M ≤ 21600000 := by omega
          rw [hL, hM] at HP
          have KS := Lib.hid (fun W => SignedA_any (a0 + L) W (by omega) (by omega))
          have hsb := sgA_bd (a0 + L)
          generalize sgA (a0 + L) = sg at *
          have e4 : wrap64 (a0 + L) = a0 + L := IntWalk.wrap64_in _ (by omega)
          have e5 : wrap64 (sg + M) = sg + M := IntWalk.wrap64_in _ (by omega)
          have e6 : wrap64 (sg + M - L) = sg + M - L := IntWalk.wrap64_in _ (by omega)
          obtain ⟨at1, c0, c1, -, -⟩ := HA.out
          obtain ⟨bt1, d0, d1, -, -⟩ := HB.out
          have hz2 : w.heap.size + 2 ≤ wr.heap.size := by have := HB.out.lt; omega
          have hq0 := index20
          have hq1 := index21
          have hj01 : j = 0 ∨ j = 1 := by omega
          rcases hj01 with rfl | rfl
          · have hge : f = g := by have := HG.out; omega
            subst hge
            by_cases hc : L ≤ M
            · rw [if_pos hc] at HP
              go_wp2_with (go_region)
              (with_reducible refine (KS.out _).mono ?_)
              rintro e w5 ⟨rfl, hb5⟩
              have hbX : Below wr.heap.size wr w5 := (bl_drew (Below.refl _ _)).trans hb5
              have HO5 := Lib.hid (own_bl HO.out hbX (Nat.le_refl _))
              have b5 : Below (w.heap.size + 2) wr w5 := hbX.mono hz2
              have hz5 := b5.size
              clear hb5 hbX at1 c0 c1 bt1 d0 d1
              go_wp2_with (at_builtin; (refine wpList_append_any _ rfl (.tmp 57) (.tmp 65) _ rfl (w.heap.size + 2) 32 i0 _ 2 16 Tryz.underlying101 hi0 hz0 hz1 hzb rfl (by decide) u5 _ _ rfl (HO5.out.alloc _) (w5.heap.size + 1) (some ⟨w5.heap.size, 0, none⟩) 1 1 (spv (sg, sg + M - L)) rfl (sreads_new w5 _ _ _) (spv_one _) (by simp only [maxLen]; omega) (by omega) (by simp; omega) ?_); intro v6 w6 hown6 hg6 hat6)
              have b6 := (b5.alloc (by omega) (.cells #[.int .i64 sg, .int .i64 (sg + M - L)] 32)).grown hg6 (by simp; omega) (own_base HO5.out)
              go_roundw
              case rel => exact ⟨0 + 1, by omega, by go_num, by rw [HC.out, HP.out, spvs_append, List.length_append]; exact hown6, HA.out.below b6 (by omega), HB.out.below b6 (by omega), hbr.trans (b6.mono (by omega))⟩
              case measure => simp [intOf]
            · rw [if_neg hc] at HP
              go_wp2_with (go_region)
              go_roundw
              case rel => exact ⟨0 + 1, by omega, by go_num, by rw [HC.out, HP.out, List.append_nil]; exact HO.out, HA.out.below (B := w.heap.size + 2) (bl_drew (Below.refl _ _)) (by omega), HB.out.below (B := w.heap.size + 2) (bl_drew (Below.refl _ _)) (by omega), bl_drew hbr⟩
              case measure => simp [intOf]
          · have hge : f - 21600000 = g := by have := HG.out; omega
            subst hge
            by_cases hc : L ≤ M
            · rw [if_pos hc] at HP
              go_wp2_with (go_region)
              (with_reducible refine (KS.out _).mono ?_)
              rintro e w5 ⟨rfl, hb5⟩
              have hbX : Below wr.heap.size wr w5 := (bl_drew (Below.refl _ _)).trans hb5
              have HO5 := Lib.hid (own_bl HO.out hbX (Nat.le_refl _))
              have b5 : Below (w.heap.size + 2) wr w5 := hbX.mono hz2
              have hz5 := b5.size
              clear hb5 hbX at1 c0 c1 bt1 d0 d1
              go_wp2_with (at_builtin; (refine wpList_append_any _ rfl (.tmp 57) (.tmp 65) _ rfl (w.heap.size + 2) 32 i0 _ 2 16 Tryz.underlying101 hi0 hz0 hz1 hzb rfl (by decide) u5 _ _ rfl (HO5.out.alloc _) (w5.heap.size + 1) (some ⟨w5.heap.size, 0, none⟩) 1 1 (spv (sg, sg + M - L)) rfl (sreads_new w5 _ _ _) (spv_one _) (by simp only [maxLen]; omega) (by omega) (by simp; omega) ?_); intro v6 w6 hown6 hg6 hat6)
              have b6 := (b5.alloc (by omega) (.cells #[.int .i64 sg, .int .i64 (sg + M - L)] 32)).grown hg6 (by simp; omega) (own_base HO5.out)
              go_roundw
              case rel => exact ⟨1 + 1, by omega, by go_num, by rw [HC.out, HP.out, spvs_append, List.length_append]; exact hown6, HA.out.below b6 (by omega), HB.out.below b6 (by omega), hbr.trans (b6.mono (by omega))⟩
              case measure => simp [intOf]
            · rw [if_neg hc] at HP
              go_wp2_with (go_region)
              go_roundw
              case rel => exact ⟨1 + 1, by omega, by go_num, by rw [HC.out, HP.out, List.append_nil]; exact HO.out, HA.out.below (B := w.heap.size + 2) (bl_drew (Below.refl _ _)) (by omega), HB.out.below (B := w.heap.size + 2) (bl_drew (Below.refl _ _)) (by omega), bl_drew hbr⟩
              case measure => simp [intOf]
end Go.Proofs.YtpemohoibeipfaaGreat
namespace Go.Proofs.YtpemohoibeipfaaGreat
open Go.RowKit
theorem validLat_yes (x y : Int) (w : World) (h1 : x ≤ y) (h2 : -5400000 ≤ x) (h3 : y ≤ 5400000) : Calls Tryz.prog 73 #[.agg #[.int .i64 x, .int .i64 y]] w fun e w' => e = .returned (.bool true) ∧ Below w.heap.size w w' := by
  have d3 : decide (y ≤ 5400000) = true := decide_eq_true h3
  go_enter Tryz.func73, Tryz.ntmps73
  go_wp2
  all_goals
    go_ret
    refine ⟨ret_bool (by first | rfl | (simp_all; done) | (simp_all; omega)), ?_⟩
    repeat (first | exact Below.refl _ _ | assumption | refine bl_drew ?_ | refine bl_drewN ?_ _ | refine Below.setCell ?_ (by first | assumption | omega | (simp; done) | (simp; omega)) _ | refine Below.alloc ?_ (by first | assumption | omega | (simp; done) | (simp; omega)) _)
set_option maxHeartbeats 400000 in
theorem validLon_yes (x y : Int) (w : World) (h1 : x ≤ y) (h2 : -10800000 ≤ x) (h3 : x < 10800000) (h4 : y - x < 21600000) : Calls Tryz.prog 74 #[.agg #[.int .i64 x, .int .i64 y]] w fun e w' => e = .returned (.bool true) ∧ Below w.heap.size w w' := by
  have ha : aeq x y (-10800000) 10800000 = false := by simp [aeq]; omega
  have K := Lib.hid (fun W => all_any x y W)
  rw [ha] at K
  have sy : IntKind.i64.wrap (y - x) = y - x := IntWalk.i64_in _ (by omega)
  clear ha
  go_enter Tryz.func74, Tryz.ntmps74
  go_wp2_with (go_at_call 108; (with_reducible refine (K.out _).mono ?_); rintro e w1 ⟨rfl, hb⟩; have hz := one_lt hb; have hb1 := one_bl hb; have y1 := (hb.cell (p := ⟨w.heap.size, 0, none⟩) (by simp)).trans (show _ = some (.int .i64 x) by simp); have y2 := (hb.cell (p := ⟨w.heap.size, 1, none⟩) (by simp)).trans (show _ = some (.int .i64 y) by simp))
  all_goals
    go_ret
    exact ⟨ret_bool (by first | rfl | (simp_all; done) | (simp_all; omega)), hb1⟩
/-- the numbers of a box -/
structure BoxOk (b0 b1 b2 b3 : Int) : Prop where
  l1 : b0 ≤ b1
  l2 : -5400000 ≤ b0
  l3 : b1 ≤ 5400000
  o1 : b2 ≤ b3
  o2 : -10800000 ≤ b2
  o3 : b2 < 10800000
  o4 : b3 - b2 < 21600000
set_option maxHeartbeats 400000 in
theorem placeValid_yes (b0 b1 b2 b3 : Int) (w : World) (hb : BoxOk b0 b1 b2 b3) : Calls Tryz.prog 38 #[.agg #[.int .i64 b0, .int .i64 b1, .int .i64 b2, .int .i64 b3]] w fun e w' => e = .returned (.bool true) ∧ Below w.heap.size w w' := by
  have K1 := Lib.hid (fun W => validLat_yes b0 b1 W hb.l1 hb.l2 hb.l3)
  have K2 := Lib.hid (fun W => validLon_yes b2 b3 W hb.o1 hb.o2 hb.o3 hb.o4)
  clear hb
  go_enter Tryz.func38, Tryz.ntmps38
  go_wp2_with (first | (go_at_call 73; (with_reducible refine (K1.out _).mono ?_); rintro e w1 ⟨rfl, hb⟩; have hz := one_lt hb; have hb1 := one_bl hb; have y1 := (hb.cell (p := ⟨w.heap.size, 2, none⟩) (by simp)).trans (show _ = some (.int .i64 b2) by simp); have y2 := (hb.cell (p := ⟨w.heap.size, 3, none⟩) (by simp)).trans (show _ = some (.int .i64 b3) by simp)) | (go_at_call 74; (with_reducible refine (K2.out _).mono ?_); rintro e w2 ⟨rfl, hb2⟩))
  go_ret
  exact ⟨rfl, hb1.trans (hb2.mono hb1.size)⟩
/-- whether a point is in a box -/
def inBox (b0 b1 b2 b3 a b : Int) : Bool := decide (b0 ≤ a ∧ a ≤ b1) && (decide (a = 5400000) || decide (a = -5400000) || lonIn b2 b3 b)
set_option maxHeartbeats 1000000 in
theorem placeContains_any (b0 b1 b2 b3 a b : Int) (w : World) (hb : BoxOk b0 b1 b2 b3) (hp : vptB a b = true) :
    Calls Tryz.prog 28 #[.agg #[.int .i64 b0, .int .i64 b1, .int .i64 b2, .int .i64 b3], .agg #[.int .i64 a, .int .i64 b]] w fun e w' => e = .returned (.tuple #[.bool (inBox b0 b1 b2 b3 a b), .int .i64 0]) ∧ Below w.heap.size w w' := by
  have K1 := Lib.hid (fun W => placeValid_yes b0 b1 b2 b3 W hb)
  have K2 := Lib.hid (vpt_yes a b hp)
  obtain ⟨p1, p2, p3, p4⟩ := vptB_true.1 hp
  have q1 := hb.o1
  have q2 := hb.o2
  have q3 := hb.o3
  have q4 := hb.o4
  have K3 := Lib.hid (fun W => has_place b2 b3 b W (by omega) (by omega) (by omega) (by omega) q1 q4)
  clear q1 q2 q3 q4 hb hp
  obtain ⟨R, hR⟩ : ∃ R, R = inBox b0 b1 b2 b3 a b := ⟨_, rfl⟩
  rw [← hR]
  have HR := Lib.hid hR
  clear hR
  go_enter Tryz.func28, Tryz.ntmps28
  go_wp2_with fail
  (with_reducible refine (K1.out _).mono ?_)
  rintro e w1 ⟨rfl, hb1⟩
  have hb1' := two_bl hb1
  have hz1 := two_lt hb1
  have x0 := (hb1.cell (p := ⟨w.heap.size, 0, none⟩) (by simp; omega)).trans (show _ = some (.int .i64 b0) by simp)
  have x1 := (hb1.cell (p := ⟨w.heap.size, 1, none⟩) (by simp; omega)).trans (show _ = some (.int .i64 b1) by simp)
  have x2 := (hb1.cell (p := ⟨w.heap.size, 2, none⟩) (by simp; omega)).trans (show _ = some (.int .i64 b2) by simp)
  have x3 := (hb1.cell (p := ⟨w.heap.size, 3, none⟩) (by simp; omega)).trans (show _ = some (.int .i64 b3) by simp)
  have y0 := (hb1.cell (p := ⟨w.heap.size + 1, 0, none⟩) (by simp)).trans (show _ = some (.int .i64 a) by simp)
  have y1 := (hb1.cell (p := ⟨w.heap.size + 1, 1, none⟩) (by simp)).trans (show _ = some (.int .i64 b) by simp)
  clear hb1
  go_wp2_with fail
  (with_reducible refine (K2.out _).mono ?_)
  rintro e w2 ⟨rfl, hb2⟩
  have hb2' := hb1'.trans (hb2.mono hb1'.size)
  have x0 := (hb2.cell (p := ⟨w.heap.size, 0, none⟩) hz1.1).trans x0
  have x1 := (hb2.cell (p := ⟨w.heap.size, 1, none⟩) hz1.1).trans x1
  have x2 := (hb2.cell (p := ⟨w.heap.size, 2, none⟩) hz1.1).trans x2
  have x3 := (hb2.cell (p := ⟨w.heap.size, 3, none⟩) hz1.1).trans x3
  have y0 := (hb2.cell (p := ⟨w.heap.size + 1, 0, none⟩) hz1.2).trans y0
  have y1 := (hb2.cell (p := ⟨w.heap.size + 1, 1, none⟩) hz1.2).trans y1
  clear hb2 hb1' K1 K2
  by_cases h0 : a < b0
  · have hE : Hid (R = false) := Lib.hid (by rw [HR.out]; simp [inBox]; omega)
    go_wp2
    go_ret2
    exact ⟨by rw [hE.out]; rfl, hb2'⟩
  · have d0 : decide (a < b0) = false := decide_eq_false h0
    by_cases h1 : b1 < a
    · have hE : Hid (R = false) := Lib.hid (by rw [HR.out]; simp [inBox]; omega)
      go_wp2
      go_ret2
      exact ⟨by rw [hE.out]; rfl, hb2'⟩
    · have d1 : decide (b1 < a) = false := decide_eq_false h1
      have hin : decide (b0 ≤ a ∧ a ≤ b1) = true := decide_eq_true (by omega)
      by_cases h2 : a = 5400000
      · have hE : Hid (R = true) := Lib.hid (by rw [HR.out, inBox, hin]; simp [h2])
        subst h2
        clear hin
        go_wp2
        go_ret2
        exact ⟨by rw [hE.out]; rfl, hb2'⟩
      · have e2 : (a == 5400000) = false := by simp [h2]
        by_cases h3 : a = -5400000
        · have hE : Hid (R = true) := Lib.hid (by rw [HR.out, inBox, hin]; simp [h3])
          subst h3
          clear hin
          go_wp2
          go_ret2
          exact ⟨by rw [hE.out]; rfl, hb2'⟩
        · have e3 : (a == -5400000) = false := by simp [h3]
          have hE : Hid (R = lonIn b2 b3 b) := Lib.hid (by rw [HR.out, inBox, hin]; simp [h2, h3])
          generalize lonIn b2 b3 b = z at K3 hE
          clear hin
          go_wp2_with (go_at_call 63; (with_reducible refine (K3.out _).mono ?_); rintro e w3 ⟨rfl, hb3⟩)
          go_ret2
          exact ⟨by rw [hE.out]; rfl, hb2'.trans (hb3.mono hb2'.size)⟩
end Go.Proofs.YtpemohoibeipfaaGreat
