/- Lists of boxes; the walk of fix.boxes. -/
import Derived.LoopN
import Derived.Test.YtopfnffabaiceaaGGb
import Derived.Test.YtopfnffabaiceaaGRe
import Derived.Test.YtopfnffabaiceaaGBase
import Derived.Test.YtopfnffabaiceaaGJc
set_option linter.unusedVariables false
set_option linter.unusedSimpArgs false
/- The walk of place.common. -/
namespace Go.Proofs.Ytopfnffabaiceaa
open Go.RowKit
def sgA (n : Int) : Int := if 10800000 ≤ n % 21600000 then n % 21600000 - 21600000 else n % 21600000
theorem sgA_bd (n : Int) : -10800000 ≤ sgA n ∧ sgA n < 10800000 := by unfold sgA; omega
set_option maxHeartbeats 400000 in
theorem SignedA_any (n : Int) (w : World) (h0 : -1000000000000 ≤ n) (h1 : n ≤ 1000000000000) : Calls Try.prog 45 #[.int .i64 n] w fun e w' => e = .returned (.int .i64 (sgA n)) ∧ Below w.heap.size w w' := by
  have K := Lib.hid (fun W => Wrap_any n W h0 h1)
  have hm : 0 ≤ n % 21600000 ∧ n % 21600000 < 21600000 := by omega
  unfold sgA
  generalize n % 21600000 = m at *
  by_cases hc : 10800000 ≤ m
  all_goals
    simp only [hc, if_true, if_false]
    go_enter Try.func45, Try.ntmps45
    go_wp2_with fail
    (with_reducible refine (K.out _).mono ?_)
    rintro e w1 ⟨rfl, hb1⟩
    go_wp2
    go_ret
    exact ⟨ret_int (by first | rfl | omega), hb1⟩
theorem Try.infoArcG : (Try.prog.info? 42).map (fun i => (i.zero, i.size, i.bytes)) = some (some (.agg #[.int .i64 0, .int .i64 0]), 2, 16) := by kernel_rfl
/-- what two arcs have in common, the second one beginning this much behind the first -/
def comP (a b : Sp) (f : Int) : List Sp := if max 0 f ≤ min (a.2 - a.1) (f + b.2 - b.1) then [(sgA (a.1 + max 0 f), sgA (a.1 + max 0 f) + min (a.2 - a.1) (f + b.2 - b.1) - max 0 f)] else []
/-- what place.common returns -/
def comL (a b : Sp) : List Sp := if isAll a = true then [b] else if isAll b = true then [a] else comP a b ((b.1 - a.1) % 21600000) ++ comP a b ((b.1 - a.1) % 21600000 - 21600000)
theorem index20 (x y : Int) (W : World) : (Instr.index 131 (.agg #[.int .i64 x, .int .i64 y]) (.int .i64 0)).run Try.prog W = .ok (.int .i64 x) W := by kernel_rfl
theorem index21 (x y : Int) (W : World) : (Instr.index 131 (.agg #[.int .i64 x, .int .i64 y]) (.int .i64 1)).run Try.prog W = .ok (.int .i64 y) W := by kernel_rfl
theorem comP_len (a b : Sp) (f : Int) : (comP a b f).length ≤ 1 := by unfold comP; split <;> simp
/-- after j rounds -/
def comF (a b : Sp) (f : Int) : Nat → List Sp
  | 0 => []
  | 1 => comP a b f
  | _ => comP a b f ++ comP a b (f - 21600000)
set_option maxHeartbeats 4000000 in
set_option maxRecDepth 100000 in
theorem common_any (a0 a1 b0 b1 : Int) (w : World) (ha : -10800000 ≤ a0 ∧ a0 ≤ 10800000 ∧ a0 ≤ a1 ∧ a1 ≤ a0 + 21600000) (hb : -10800000 ≤ b0 ∧ b0 ≤ 10800000 ∧ b0 ≤ b1 ∧ b1 ≤ b0 + 21600000) :
    Calls Try.prog 70 #[.agg #[.int .i64 a0, .int .i64 a1], .agg #[.int .i64 b0, .int .i64 b1]] w fun e w' => ∃ v, e = .returned v ∧ w'.ownsRow w.heap.size 42 2 v (comL (a0, a1) (b0, b1)).length (spvs (comL (a0, a1) (b0, b1))) ∧ Below w.heap.size w w' := by
  have KA := Lib.hid all_any
  have HA := Lib.hid ((K2.new w a0 a1 42).alloc (.cells #[.int .i64 b0, .int .i64 b1] 42))
  have HB : Hid (K2 ((w.alloc (.cells #[.int .i64 a0, .int .i64 a1] 42)).alloc (.cells #[.int .i64 b0, .int .i64 b1] 42)) (w.heap.size + 1) b0 b1) := Lib.hid (by
    have := K2.new (w.alloc (.cells #[.int .i64 a0, .int .i64 a1] 42)) b0 b1 42
    simpa using this)
  have b0' : Below w.heap.size w ((w.alloc (.cells #[.int .i64 a0, .int .i64 a1] 42)).alloc (.cells #[.int .i64 b0, .int .i64 b1] 42)) := ((Below.refl _ _).alloc (Nat.le_refl _) _).alloc (by simp) _
  cases h1 : aeq a0 a1 (-10800000) 10800000 with
  | true =>
    have hres : comL (a0, a1) (b0, b1) = [(b0, b1)] := by unfold comL isAll; rw [if_pos h1]
    rw [hres]
    go_enter Try.func70, Try.ntmps70
    go_wp2_with fail
    (with_reducible refine (KA.out _ _ _).mono ?_)
    rintro e w1 ⟨rfl, hb1⟩
    have B1 := b0'.trans (hb1.mono b0'.size)
    obtain ⟨bt, c0, c1, -, -⟩ := HB.out.below hb1 HB.out.lt
    rw [h1]
    go_wp2
    go_ret
    exact ⟨_, rfl, by simpa [spvs, spv] using own_new w1 w.heap.size 42 2 1 w1.heap.size #[.int .i64 b0, .int .i64 b1] rfl B1.size (by simp) (by simp [maxLen]), B1.alloc B1.size _⟩
  | false =>
    cases h2 : aeq b0 b1 (-10800000) 10800000 with
    | true =>
      have hres : comL (a0, a1) (b0, b1) = [(a0, a1)] := by unfold comL isAll; rw [if_neg (by simp [h1]), if_pos h2]
      rw [hres]
      go_enter Try.func70, Try.ntmps70
      go_wp2_with fail
      (with_reducible refine (KA.out _ _ _).mono ?_)
      rintro e w1 ⟨rfl, hb1⟩
      have B1 := b0'.trans (hb1.mono b0'.size)
      have HA1 := Lib.hid (HA.out.below hb1 HA.out.lt)
      obtain ⟨bt, c0, c1, -, -⟩ := HB.out.below hb1 HB.out.lt
      rw [h1]
      clear hb1
      go_wp2_with fail
      (with_reducible refine (KA.out _ _ _).mono ?_)
      rintro e w2 ⟨rfl, hb2⟩
      have B2 := B1.trans (hb2.mono B1.size)
      clear bt c0 c1
      obtain ⟨bt, c0, c1, -, -⟩ := HA1.out.below hb2 HA1.out.lt
      rw [h2]
      go_wp2
      go_ret
      exact ⟨_, rfl, by simpa [spvs, spv] using own_new w2 w.heap.size 42 2 1 w2.heap.size #[.int .i64 a0, .int .i64 a1] rfl B2.size (by simp) (by simp [maxLen]), B2.alloc B2.size _⟩
    | false =>
      obtain ⟨f, hf⟩ : ∃ f, f = (b0 - a0) % 21600000 := ⟨_, rfl⟩
      obtain ⟨R, hR⟩ : ∃ R, R = comL (a0, a1) (b0, b1) := ⟨_, rfl⟩
      rw [← hR]
      have HRE : Hid (R = comP (a0, a1) (b0, b1) f ++ comP (a0, a1) (b0, b1) (f - 21600000)) := Lib.hid (by rw [hR]; unfold comL isAll; rw [if_neg (by simp [h1]), if_neg (by simp [h2]), hf])
      have KB := fun W => beyond_any a0 a1 b0 W (by omega) (by omega) (by omega) (by omega)
      rw [← hf] at KB
      have HKB := Lib.hid KB
      have hfb : 0 ≤ f ∧ f < 21600000 := by omega
      clear hR hf KB
      obtain ⟨i0, hi0, hz0, hz1, hzb⟩ := info_parts Try.infoArcG
      have e0 : wrap64 (f - 21600000) = f - 21600000 := IntWalk.wrap64_in _ (by omega)
      go_enter Try.func70, Try.ntmps70
      go_wp2_with fail
      (with_reducible refine (KA.out _ _ _).mono ?_)
      rintro e w1 ⟨rfl, hb1⟩
      have B1 := b0'.trans (hb1.mono b0'.size)
      have HA1 := Lib.hid (HA.out.below hb1 HA.out.lt)
      have HB1 := Lib.hid (HB.out.below hb1 HB.out.lt)
      rw [h1]
      clear hb1 b0' HA HB
      obtain ⟨bt, c0, c1, -, -⟩ := HB1.out
      go_wp2_with fail
      (with_reducible refine (KA.out _ _ _).mono ?_)
      rintro e w2 ⟨rfl, hb2⟩
      have B2 := B1.trans (hb2.mono B1.size)
      have HA2 := Lib.hid (HA1.out.below hb2 HA1.out.lt)
      have HB2 := Lib.hid (HB1.out.below hb2 HB1.out.lt)
      rw [h2]
      clear hb2 B1 HA1 HB1 bt c0 c1
      go_upto_region 6 with (fail)
      have d0 : ∀ s : BV w2, s.w.cell? ⟨w.heap.size, 0, none⟩ = some (.int .i64 a0) := fun s => (HA2.out.below s.hb HA2.out.lt).c0
      have d1 : ∀ s : BV w2, s.w.cell? ⟨w.heap.size, 1, none⟩ = some (.int .i64 a1) := fun s => (HA2.out.below s.hb HA2.out.lt).c1
      have d2 : ∀ s : BV w2, s.w.cell? ⟨w.heap.size + 1, 0, none⟩ = some (.int .i64 b0) := fun s => (HB2.out.below s.hb HB2.out.lt).c0
      refine wp_region_bv w2 (by kernel_rfl) (by kernel_rfl) (Below.refl _ _) ?_
      (repeat (go_big_quiet_step (first | (go_at_call 100; with_reducible exact quiet_bv (HKB.out _)) | fail)))
      refine wpQuiet_nil ?_
      intro w9 hb9
      have B9 := B2.trans (hb9.mono B2.size)
      have HA9 := Lib.hid (HA2.out.below hb9 HA2.out.lt)
      have HB9 := Lib.hid (HB2.out.below hb9 HB2.out.lt)
      clear d0 d1 d2 hb9 B2 HA2 HB2
      go_wp2
      go_loopw [5, 31] (fun v i wq => ∃ j : Nat, j ≤ 2 ∧ i = .int .i64 j ∧ wq.ownsRow (w.heap.size + 2) 42 2 v (comF (a0, a1) (b0, b1) f j).length (spvs (comF (a0, a1) (b0, b1) f j)) ∧ K2 wq w.heap.size a0 a1 ∧ K2 wq (w.heap.size + 1) b0 b1 ∧ Below w.heap.size w wq) (fun _ i _ => 2 - (intOf i).toNat)
      case atStart => exact ⟨0, by omega, rfl, own_nil _ _ _ _, HA9.out, HB9.out, B9⟩
      case round =>
        obtain ⟨j, hj, rfl, hown, hA, hB, hbr⟩ := hrel
        clear HA9 HB9 B9
        have HA := Lib.hid hA
        have HB := Lib.hid hB
        have HO := Lib.hid hown
        clear hA hB hown
        by_cases hj2 : j = 2
        · subst hj2
          have hc2 : comF (a0, a1) (b0, b1) f 2 = R := by rw [HRE.out]; rfl
          rw [hc2] at HO
          obtain ⟨A3, c3, hv3, -, -⟩ := own_form HO.out
          subst hv3
          go_wp2
          go_ret
          exact ⟨_, rfl, own_mono HO.out (by omega), hbr⟩
        · obtain ⟨g, hg⟩ : ∃ g, g = f - 21600000 * (j : Int) := ⟨_, rfl⟩
          have hgb : -21600000 ≤ g ∧ g < 21600000 := by omega
          have hz := hbr.size
          have HC : Hid (comF (a0, a1) (b0, b1) f (j + 1) = comF (a0, a1) (b0, b1) f j ++ comP (a0, a1) (b0, b1) g) := Lib.hid (by
            have : j = 0 ∨ j = 1 := by omega
            rcases this with rfl | rfl
            · simp [comF, hg]
            · simp [comF, hg])
          have hfl : (comF (a0, a1) (b0, b1) f j).length ≤ 2 := by
            have : j = 0 ∨ j = 1 := by omega
            have hp := comP_len (a0, a1) (b0, b1) f
            rcases this with rfl | rfl <;> simp [comF]; omega
          have HG := Lib.hid hg
          clear hg
          have e1 : wrap64 (a1 - a0) = a1 - a0 := IntWalk.wrap64_in _ (by omega)
          have e2 : wrap64 (g + b1) = g + b1 := IntWalk.wrap64_in _ (by omega)
          have e3 : wrap64 (g + b1 - b0) = g + b1 - b0 := IntWalk.wrap64_in _ (by omega)
          have HP : Hid (comP (a0, a1) (b0, b1) g = if max 0 g ≤ min (a1 - a0) (g + b1 - b0) then [(sgA (a0 + max 0 g), sgA (a0 + max 0 g) + min (a1 - a0) (g + b1 - b0) - max 0 g)] else []) := Lib.hid rfl
          obtain ⟨L, hL⟩ : ∃ L, max 0 g = L := ⟨_, rfl⟩
          obtain ⟨M, hM⟩ : ∃ M, min (a1 - a0) (g + b1 - b0) = M := ⟨_, rfl⟩
          have hLb : 0 ≤ L ∧ L < 21600000 := by omega
          have hMb : -43200000 ≤ M ∧ M ≤ 21600000 := by omega
          rw [hL, hM] at HP
          have KS := Lib.hid (fun W => SignedA_any (a0 + L) W (by omega) (by omega))
          have hsb := sgA_bd (a0 + L)
          generalize sgA (a0 + L) = sg at *
          have e4 : wrap64 (a0 + L) = a0 + L := IntWalk.wrap64_in _ (by omega)
          have e5 : wrap64 (sg + M) = sg + M := IntWalk.wrap64_in _ (by omega)
          have e6 : wrap64 (sg + M - L) = sg + M - L := IntWalk.wrap64_in _ (by omega)
          obtain ⟨at1, c0, c1, -, -⟩ := HA.out
          obtain ⟨bt1, d0, d1, -, -⟩ := HB.out
          have hz2 : w.heap.size + 2 ≤ wr.heap.size := by have := HB.out.lt; omega
          have hq0 := index20
          have hq1 := index21
          have hj01 : j = 0 ∨ j = 1 := by omega
          rcases hj01 with rfl | rfl
          · have hge : f = g := by have := HG.out; omega
            subst hge
            by_cases hc : L ≤ M
            · rw [if_pos hc] at HP
              go_wp2_with (go_region)
              (with_reducible refine (KS.out _).mono ?_)
              rintro e w5 ⟨rfl, hb5⟩
              have hbX : Below wr.heap.size wr w5 := (bl_drew (Below.refl _ _)).trans hb5
              have HO5 := Lib.hid (own_bl HO.out hbX (Nat.le_refl _))
              have b5 : Below (w.heap.size + 2) wr w5 := hbX.mono hz2
              have hz5 := b5.size
              clear hb5 hbX at1 c0 c1 bt1 d0 d1
              go_wp2_with (at_builtin; (refine wpList_append_any _ rfl (.tmp 57) (.tmp 65) _ rfl (w.heap.size + 2) 42 i0 _ 2 16 Try.underlying39 hi0 hz0 hz1 hzb rfl (by decide) u5 _ _ rfl (HO5.out.alloc _) (w5.heap.size + 1) (some ⟨w5.heap.size, 0, none⟩) 1 1 (spv (sg, sg + M - L)) rfl (sreads_new w5 _ _ _) (spv_one _) (by simp only [maxLen]; omega) (by omega) (by simp; omega) ?_); intro v6 w6 hown6 hg6 hat6)
              have b6 := (b5.alloc (by omega) (.cells #[.int .i64 sg, .int .i64 (sg + M - L)] 42)).grown hg6 (by simp; omega) (own_base HO5.out)
              go_roundw
              case rel => exact ⟨0 + 1, by omega, by go_num, by rw [HC.out, HP.out, spvs_append, List.length_append]; exact hown6, HA.out.below b6 (by omega), HB.out.below b6 (by omega), hbr.trans (b6.mono (by omega))⟩
              case measure => simp [intOf]
            · rw [if_neg hc] at HP
              go_wp2_with (go_region)
              go_roundw
              case rel => exact ⟨0 + 1, by omega, by go_num, by rw [HC.out, HP.out, List.append_nil]; exact HO.out, HA.out.below (B := w.heap.size + 2) (bl_drew (Below.refl _ _)) (by omega), HB.out.below (B := w.heap.size + 2) (bl_drew (Below.refl _ _)) (by omega), bl_drew hbr⟩
              case measure => simp [intOf]
          · have hge : f - 21600000 = g := by have := HG.out; omega
            subst hge
            by_cases hc : L ≤ M
            · rw [if_pos hc] at HP
              go_wp2_with (go_region)
              (with_reducible refine (KS.out _).mono ?_)
              rintro e w5 ⟨rfl, hb5⟩
              have hbX : Below wr.heap.size wr w5 := (bl_drew (Below.refl _ _)).trans hb5
              have HO5 := Lib.hid (own_bl HO.out hbX (Nat.le_refl _))
              have b5 : Below (w.heap.size + 2) wr w5 := hbX.mono hz2
              have hz5 := b5.size
              clear hb5 hbX at1 c0 c1 bt1 d0 d1
              go_wp2_with (at_builtin; (refine wpList_append_any _ rfl (.tmp 57) (.tmp 65) _ rfl (w.heap.size + 2) 42 i0 _ 2 16 Try.underlying39 hi0 hz0 hz1 hzb rfl (by decide) u5 _ _ rfl (HO5.out.alloc _) (w5.heap.size + 1) (some ⟨w5.heap.size, 0, none⟩) 1 1 (spv (sg, sg + M - L)) rfl (sreads_new w5 _ _ _) (spv_one _) (by simp only [maxLen]; omega) (by omega) (by simp; omega) ?_); intro v6 w6 hown6 hg6 hat6)
              have b6 := (b5.alloc (by omega) (.cells #[.int .i64 sg, .int .i64 (sg + M - L)] 42)).grown hg6 (by simp; omega) (own_base HO5.out)
              go_roundw
              case rel => exact ⟨1 + 1, by omega, by go_num, by rw [HC.out, HP.out, spvs_append, List.length_append]; exact hown6, HA.out.below b6 (by omega), HB.out.below b6 (by omega), hbr.trans (b6.mono (by omega))⟩
              case measure => simp [intOf]
            · rw [if_neg hc] at HP
              go_wp2_with (go_region)
              go_roundw
              case rel => exact ⟨1 + 1, by omega, by go_num, by rw [HC.out, HP.out, List.append_nil]; exact HO.out, HA.out.below (B := w.heap.size + 2) (bl_drew (Below.refl _ _)) (by omega), HB.out.below (B := w.heap.size + 2) (bl_drew (Below.refl _ _)) (by omega), bl_drew hbr⟩
              case measure => simp [intOf]
end Go.Proofs.Ytopfnffabaiceaa
namespace Go.Proofs.Ytopfnffabaiceaa
open Go.RowKit
/-- a box: least and greatest latitude, least and greatest longitude -/
abbrev Bx := Int × Int × Int × Int
def bv (x : Bx) : List Value := [.int .i64 x.1, .int .i64 x.2.1, .int .i64 x.2.2.1, .int .i64 x.2.2.2]
def bvs (L : List Bx) : List Value := L.flatMap bv
theorem bvs_length (L : List Bx) : (bvs L).length = L.length * 4 := by
  induction L with
  | nil => rfl
  | cons x r ih => simp [bvs, bv] at ih ⊢; omega
theorem bvs_append (L M : List Bx) : bvs (L ++ M) = bvs L ++ bvs M := by simp [bvs]
theorem bv_one (x : Bx) : ∀ u ∈ bv x, u.oneCell' = true := by
  intro u hu
  simp [bv] at hu
  rcases hu with rfl | rfl | rfl | rfl <;> rfl
theorem Try.infoPlace : (Try.prog.info? 52).map (fun i => (i.zero, i.size, i.bytes)) = some (some (.agg #[.int .i64 0, .int .i64 0, .int .i64 0, .int .i64 0]), 4, 32) := by kernel_rfl
/-- the box of a cell -/
def bxI (x : Cl) : Bx := (edg x.2.1 x.1 - 5400000, edg (x.2.1 + 1) x.1 - 5400000, edg x.2.2 x.1 - 10800000, edg (x.2.2 + 1) x.1 - 10800000)
theorem boxV_bx (x : Cl) : boxV x.1 x.2.1 x.2.2 = .agg #[.int .i64 (bxI x).1, .int .i64 (bxI x).2.1, .int .i64 (bxI x).2.2.1, .int .i64 (bxI x).2.2.2] := rfl
theorem breads_new (w : World) (a b c d : Int) (t : TypeId) : Reads (w.alloc (.cells #[.int .i64 a, .int .i64 b, .int .i64 c, .int .i64 d] t)) (w.heap.size + 1) 4 (some ⟨w.heap.size, 0, none⟩) 1 (bv (a, b, c, d)) := by
  refine ⟨rfl, fun _ => ⟨_, rfl, by simp, fun j u hu => ?_⟩⟩
  match j, hu with
  | 0, hu => simp [bv] at hu; subst hu; simp [Addr.add]
  | 1, hu => simp [bv] at hu; subst hu; simp [Addr.add]
  | 2, hu => simp [bv] at hu; subst hu; simp [Addr.add]
  | 3, hu => simp [bv] at hu; subst hu; simp [Addr.add]
  | j + 4, hu => simp [bv] at hu
theorem bx_take (L : List Cl) (k : Nat) (hk : k < L.length) : bvs ((L.take (k + 1)).map bxI) = bvs ((L.take k).map bxI) ++ bv (bxI (gt L k)) := by
  rw [List.take_succ_eq_append_getElem hk, List.map_append, bvs_append]
  simp [gt, hk, bvs]
/-- the ending of a function that returns a list of boxes of its own, and an error number -/
def RetBoxes (w : World) (L : List Bx) (n : Int) (e : Ending) (w' : World) : Prop :=
  ∃ v, e = .returned (.tuple #[v, .int .i64 n]) ∧ w'.ownsRow w.heap.size 52 4 v L.length (bvs L) ∧ Below w.heap.size w w'
set_option maxHeartbeats 4000000 in
set_option maxRecDepth 100000 in
theorem boxes_any (A : Option Addr) (n c : Nat) (L : List Cl) (w : World) (hr : Reads w w.heap.size 3 A n (cvs L)) (hn : n ≤ maxLen) :
    Calls Try.prog 23 #[.slice A n c] w (RetBoxes w (if vrB L = true then L.map bxI else []) (if vrB L = true then 0 else 1)) := by
  have HL := Lib.hid hr.len
  have HR := Lib.hid hr
  have KV := Lib.hid (ValidRegion_any A n c L w hr hn)
  clear hr
  obtain ⟨i0, hi0, hz0, hz1, hzb⟩ := info_parts Try.infoPlace
  cases hv : vrB L with
  | false =>
    rw [hv] at KV
    simp only [Bool.false_eq_true, if_false]
    go_enter Try.func23, Try.ntmps23
    go_wp2_with fail
    (with_reducible refine KV.out.mono ?_)
    rintro e w1 ⟨rfl, hb1⟩
    go_wp2
    exact bodyPost_ret (v := .tuple #[.slice none 0 0, .int .i64 1]) (by simp [results, Try.results23, go_sem]) rfl ⟨_, rfl, own_nil _ _ _ _, hb1⟩
  | true =>
    rw [hv] at KV
    have hfew : n ≤ 4000 := by rw [← HL.out]; exact ((vrB_iff L).1 hv).1
    have HB : Hid (∀ k, k < n → ∀ W, Calls Try.prog 47 #[.agg #[.int .i64 (gt L k).1, .int .i64 (gt L k).2.1, .int .i64 (gt L k).2.2]] W fun e w' => e = .returned (.tuple #[.agg #[.int .i64 (bxI (gt L k)).1, .int .i64 (bxI (gt L k)).2.1, .int .i64 (bxI (gt L k)).2.2.1, .int .i64 (bxI (gt L k)).2.2.2], .int .i64 0]) ∧ Below W.heap.size W w') := Lib.hid fun k hk W => by
      have hk' : k < L.length := by rw [HL.out]; exact hk
      have := Box_yes (gt L k).1 (gt L k).2.1 (gt L k).2.2 W ((vl_iff _).2 (((vrB_iff L).1 hv).2.1 _ (by simp [gt, hk'])))
      rw [boxV_bx] at this
      exact this
    clear hn hv
    simp only [if_true]
    go_enter Try.func23, Try.ntmps23
    go_wp2_with fail
    (with_reducible refine KV.out.mono ?_)
    rintro e w1 ⟨rfl, hb1⟩
    clear KV
    go_wp2
    go_loopw [4, 14] (fun v i wr => ∃ k : Nat, k ≤ n ∧ i = .int .i64 k ∧ wr.ownsRow w.heap.size 52 4 v k (bvs ((L.take k).map bxI)) ∧ Below w.heap.size w wr) (fun _ i _ => n - (intOf i).toNat)
    case atStart => exact ⟨0, Nat.zero_le _, rfl, own_nil _ _ _ _, hb1⟩
    case round =>
      obtain ⟨k, hk, rfl, hown, hbr⟩ := hrel
      clear hb1
      by_cases hlt : k < n
      · obtain ⟨b, off, rfl, hb, x1, x2, x3⟩ := HR.out.elem hlt
        have y1 := (hbr.cell (p := ⟨b, off + k * 3, none⟩) hb).trans x1
        have y2 := (hbr.cell (p := ⟨b, off + k * 3 + 1, none⟩) hb).trans x2
        have y3 := (hbr.cell (p := ⟨b, off + k * 3 + 2, none⟩) hb).trans x3
        clear x1 x2 x3
        have hms := Lib.hid (bx_take L k (by rw [HL.out]; exact hlt))
        have hs := Lib.hid (HB.out k hlt)
        generalize bxI (gt L k) = q at hms hs
        generalize gt L k = x at y1 y2 y3 hs
        obtain ⟨xl, xr, xc⟩ := x
        obtain ⟨q0, q1, q2, q3⟩ := q
        simp only [] at y1 y2 y3 hms hs
        have hz := hbr.size
        have HO := Lib.hid hown
        clear hown
        go_wp2_with fail
        (with_reducible refine (hs.out _).mono ?_)
        rintro e w2 ⟨rfl, hb2⟩
        have hw2 := one_lt hb2
        have hbl2 := one_bl hb2
        have HO2 := Lib.hid (own_bl HO.out hbl2 (Nat.le_refl _))
        have b2 := hbr.trans (hbl2.mono hz)
        have hz2 := b2.size
        clear y1 y2 y3 hb2 HO hbr
        go_wp2_with (at_builtin; (refine wpList_append_any _ rfl (.tmp 26) (.tmp 28) _ rfl w.heap.size 52 i0 _ 4 32 Try.underlying59 hi0 hz0 hz1 hzb rfl (by decide) u4 k (bvs ((L.take k).map bxI)) rfl ((HO2.out.alloc _).alloc _) (w2.heap.size + 1 + 1) (some ⟨w2.heap.size + 1, 0, none⟩) 1 1 (bv (q0, q1, q2, q3)) rfl (by simpa using breads_new (w2.alloc (.cells #[.int .i64 q0, .int .i64 q1, .int .i64 q2, .int .i64 q3] 52)) q0 q1 q2 q3 52) (bv_one _) (by simp only [maxLen]; omega) (by omega) (by simp; omega) ?_); intro v3 w3 hown3 hg3 hat3)
        go_roundw
        case rel => exact ⟨k + 1, by omega, by go_num, by rw [hms.out]; exact hown3, ((b2.alloc hz2 _).alloc (by simp; omega) _).grown hg3 (by simp; omega) (own_base HO2.out)⟩
        case measure => simp [intOf]; omega
      · obtain rfl : k = n := by omega
        rw [List.take_of_length_le (by rw [HL.out]; omega)] at hown
        have hlen : (L.map bxI).length = k := by rw [List.length_map, HL.out]
        have HO := Lib.hid hown
        obtain ⟨A3, c3, hu3, -, -⟩ := own_form hown
        subst hu3
        clear hown
        go_wp2
        exact bodyPost_ret (v := .tuple #[.slice A3 k c3, .int .i64 0]) (by simp [results, Try.results23, go_sem]) rfl ⟨_, rfl, by rw [hlen]; exact HO.out, hbr⟩
end Go.Proofs.Ytopfnffabaiceaa
