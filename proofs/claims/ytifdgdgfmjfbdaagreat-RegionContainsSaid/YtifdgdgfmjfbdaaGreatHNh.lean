/- Plain: points of places and of cells; the cells around a place. No program in sight. -/
import Derived.Test.YtifdgdgfmjfbdaaGreatHNe
import Derived.Test.YtifdgdgfmjfbdaaGreatHNf
import Derived.Test.YtifdgdgfmjfbdaaGreatHJm
import Derived.Test.YtifdgdgfmjfbdaaGreatHKz
set_option linter.unusedVariables false
set_option linter.unusedSimpArgs false
namespace Go.Proofs.YtifdgdgfmjfbdaaGreat
open Go.RowKit
def SrI (W2 : World) (x0 x1 x2 x3 x4 x5 x6 x9 : Value) (v : Nat → Int × Int) (a : Act) (L : Nat → Bool) (a' : Act) (w' : World) : Prop :=
  ∃ (v10 v11 v12 v13 v9 v14 v15 v5 v6 : Value) (g : Nat → Nat), a' = (((((((((a.put (some 10) v10).put (some 11) v11).put (some 12) v12).put (some 13) v13).put (some 9) v9).put (some 14) v14).put (some 15) v15).put (some 5) v5).put (some 6) v6) ∧ MJ W2 w' L 1 7 8 g v ∧
    (L 0 = true → v10 = x0) ∧ (L 1 = true → v11 = x1) ∧ (L 2 = true → v12 = x2) ∧ (L 3 = true → v13 = x3) ∧ (L 4 = true → v9 = x4) ∧ (L 5 = true → v14 = x5) ∧ (L 6 = true → v15 = x6) ∧ (L 7 = true → v5 = .pointer (some ⟨g 0, 0, none⟩)) ∧ (L 9 = true → v6 = x9)
theorem SrI.start (W2 : World) (x0 x1 x2 x3 x4 x5 x6 x9 : Value) (v : Nat → Int × Int) (a : Act) : SrI W2 x0 x1 x2 x3 x4 x5 x6 x9 v a (fun _ => false) a W2.drew :=
  ⟨_, _, _, _, _, _, _, _, _, fun _ => 0, by rw [putQ_self a 10, putQ_self a 11, putQ_self a 12, putQ_self a 13, putQ_self a 9, putQ_self a 14, putQ_self a 15, putQ_self a 5, putQ_self a 6], MJ.start W2 1 7 8 _ v, fun h => (by cases h), fun h => (by cases h), fun h => (by cases h), fun h => (by cases h), fun h => (by cases h), fun h => (by cases h), fun h => (by cases h), fun h => (by cases h), fun h => (by cases h)⟩
theorem sinT_fvB (lat dec lha : Int × Int) : fvB (Trig.sinT lat dec lha).1 (Trig.sinT lat dec lha).2 = true := by
  have h := Trig.sinT_fv lat dec lha
  unfold fvB
  rw [decide_eq_true_eq]
  exact ⟨h.1, h.2.1, h.2.2⟩
set_option maxHeartbeats 4000000 in
set_option maxRecDepth 100000 in
theorem sureP_any (k : Ci) (x : Cl) (w : World) (hk : VCi k) (hx : Vl x) : Calls Tryz.prog 223 #[.agg #[.int .i64 x.1, .int .i64 x.2.1, .int .i64 x.2.2], civ k] w fun e w' => e = .returned (.bool (suC k x)) ∧ Below w.heap.size w w' := by
  have KB := fun W => rbox_any x.1 x.2.1 x.2.2 W ((vl_iff x).2 hx)
  rw [show boxV x.1 x.2.1 x.2.2 = .agg #[.int .i64 (bxI x).1, .int .i64 (bxI x).2.1, .int .i64 (bxI x).2.2.1, .int .i64 (bxI x).2.2.2] from rfl] at KB
  have hq := bx_vp hx
  unfold suC sinC civ
  generalize bxI x = q at *
  obtain ⟨⟨a0, a1, o0, o1⟩, r0, r1⟩ := k
  obtain ⟨l, r, c⟩ := x
  obtain ⟨q0, q1, q2, q3⟩ := q
  have hc := hk.vc
  simp only [] at KB hc ⊢
  have br := hc.h0
  have br1 := hc.h1
  have br2 := hc.h2
  have KS := fun W => sine39_any a0 a1 o0 o1 r0 r1 q0 q1 q2 q3 W hc hq
  have KC := fun W => cos_yes (r0, r1) (avB_true.2 (by simp only []; omega)) W
  have fs := sinT_fvB (q0, q1) (a0, a1) (q2 - o1, q3 - o0)
  have ft := small_fv (Trig.csP_small (r0, r1))
  clear hc hq br br1 br2 hk hx
  generalize Trig.sinT (q0, q1) (a0, a1) (q2 - o1, q3 - o0) = s at *
  generalize Trig.csP (r0, r1) = tr at *
  have KI := fun W => fInside_any s tr W fs ft
  obtain ⟨t0, t1⟩ := tr
  obtain ⟨s0, s1⟩ := s
  simp only [] at KS KC KI ⊢
  generalize (decide (t0 ≤ s0) && decide (s1 ≤ t1)) = b at KI ⊢
  clear fs ft
  have KB := Lib.hid KB
  have KS := Lib.hid KS
  have KC := Lib.hid KC
  have KI := Lib.hid KI
  have XX := Lib.hid ((Blk.new w 102 #[.int .i64 l, .int .i64 r, .int .i64 c]).alloc (.cells #[.int .i64 a0, .int .i64 a1, .int .i64 o0, .int .i64 o1, .int .i64 r0, .int .i64 r1] 39))
  have cc := Blk.new (w.alloc (.cells #[.int .i64 l, .int .i64 r, .int .i64 c] 102)) 39 #[.int .i64 a0, .int .i64 a1, .int .i64 o0, .int .i64 o1, .int .i64 r0, .int .i64 r1]
  rw [World.size_alloc] at cc
  have CC := Lib.hid cc
  have B0 := Lib.hid ((bl_alloc w (.cells #[.int .i64 l, .int .i64 r, .int .i64 c] 102)).alloc (by simp) (.cells #[.int .i64 a0, .int .i64 a1, .int .i64 o0, .int .i64 o1, .int .i64 r0, .int .i64 r1] 39))
  clear cc
  go_enter Tryz.func223, Tryz.ntmps223
  go_upto_region 1 with (fail)
  generalize (w.alloc (.cells #[.int .i64 l, .int .i64 r, .int .i64 c] 102)).alloc (.cells #[.int .i64 a0, .int .i64 a1, .int .i64 o0, .int .i64 o1, .int .i64 r0, .int .i64 r1] 39) = w2 at XX CC B0 ⊢
  refine wp_region_inv3 (by kernel_rfl) (SrI w2 (.agg #[.int .i64 a0, .int .i64 a1, .int .i64 o0, .int .i64 o1, .int .i64 r0, .int .i64 r1]) (.agg #[.int .i64 l, .int .i64 r, .int .i64 c]) (.agg #[.int .i64 q0, .int .i64 q1, .int .i64 q2, .int .i64 q3]) (.tuple #[.agg #[.int .i64 s0, .int .i64 s1], .int .i64 0]) (.tuple #[.agg #[.int .i64 s0, .int .i64 s1], .int .i64 0]) (.agg #[.int .i64 s0, .int .i64 s1]) (.int .i64 0) (.int .i64 0) (fun _ => ((s0 : Int), (s1 : Int)))) (waits_bind (by kernel_rfl)) ?start ?step ?fin
  case start => exact SrI.start w2 _ _ _ _ _ _ _ _ _ _
  case step =>
    rintro L i o a1' w' ho hL haf ⟨v10, v11, v12, v13, v9, v14, v15, v5, v6, g, rfl, hT, e0, e1, e2, e3, e4, e5, e6, e7, e9⟩
    have HT := Lib.hid hT
    clear hT
    have E0 := Lib.hid e0
    have E1 := Lib.hid e1
    have E2 := Lib.hid e2
    have E3 := Lib.hid e3
    have E4 := Lib.hid e4
    have E5 := Lib.hid e5
    have E6 := Lib.hid e6
    have E7 := Lib.hid e7
    have E9 := Lib.hid e9
    clear e0 e1 e2 e3 e4 e5 e6 e7 e9
    rcases i with _ | _ | _ | _ | _ | _ | _ | _ | _ | _ | i
    all_goals (simp at ho; try subst ho)
    all_goals (try simp [Region.binds] at haf)
    · have z9 := CC.out.below HT.out.bl CC.out.lt
      have k0 : w'.cell? ⟨w.heap.size + 1, 0, none⟩ = some (.int .i64 a0) := z9.cell 0
      have k1 : w'.cell? ⟨w.heap.size + 1, 1, none⟩ = some (.int .i64 a1) := z9.cell 1
      have k2 : w'.cell? ⟨w.heap.size + 1, 2, none⟩ = some (.int .i64 o0) := z9.cell 2
      have k3 : w'.cell? ⟨w.heap.size + 1, 3, none⟩ = some (.int .i64 o1) := z9.cell 3
      have k4 : w'.cell? ⟨w.heap.size + 1, 4, none⟩ = some (.int .i64 r0) := z9.cell 4
      have k5 : w'.cell? ⟨w.heap.size + 1, 5, none⟩ = some (.int .i64 r1) := z9.cell 5
      clear z9
      go_wp2
      unfold SrI
      exact ⟨(.agg #[.int .i64 a0, .int .i64 a1, .int .i64 o0, .int .i64 o1, .int .i64 r0, .int .i64 r1]), v11, v12, v13, v9, v14, v15, v5, v6, g, by simp only [Act.put, List.setIfInBounds_toArray, List.set_cons_zero, List.set_cons_succ], HT.out.mark 0 (by decide), fun _ => rfl, kq E1, kq E2, kq E3, kq E4, kq E5, kq E6, kq E7, kq E9⟩
    · have z9 := XX.out.below HT.out.bl XX.out.lt
      have k0 : w'.cell? ⟨w.heap.size, 0, none⟩ = some (.int .i64 l) := z9.cell 0
      have k1 : w'.cell? ⟨w.heap.size, 1, none⟩ = some (.int .i64 r) := z9.cell 1
      have k2 : w'.cell? ⟨w.heap.size, 2, none⟩ = some (.int .i64 c) := z9.cell 2
      clear z9
      go_wp2
      unfold SrI
      exact ⟨v10, (.agg #[.int .i64 l, .int .i64 r, .int .i64 c]), v12, v13, v9, v14, v15, v5, v6, g, by simp only [Act.put, List.setIfInBounds_toArray, List.set_cons_zero, List.set_cons_succ], HT.out.mark 1 (by decide), kq E0, fun _ => rfl, kq E2, kq E3, kq E4, kq E5, kq E6, kq E7, kq E9⟩
    · obtain rfl := E1.out (by simp [haf])
      go_wp2_with fail
      (with_reducible refine (KB.out _).mono ?_)
      rintro e w9 ⟨rfl, hb9⟩
      go_wp2
      unfold SrI
      exact ⟨v10, (.agg #[.int .i64 l, .int .i64 r, .int .i64 c]), (.agg #[.int .i64 q0, .int .i64 q1, .int .i64 q2, .int .i64 q3]), v13, v9, v14, v15, v5, v6, g, by simp only [Act.put, List.setIfInBounds_toArray, List.set_cons_zero, List.set_cons_succ], (HT.out.call hb9).mark 2 (by decide), kq E0, fun _ => rfl, fun _ => rfl, kq E3, kq E4, kq E5, kq E6, kq E7, kq E9⟩
    · obtain rfl := E0.out (by simp [haf])
      obtain rfl := E2.out (by simp [haf])
      go_wp2_with fail
      (with_reducible refine (KS.out _).mono ?_)
      rintro e w9 ⟨rfl, hb9⟩
      go_wp2
      unfold SrI
      exact ⟨(.agg #[.int .i64 a0, .int .i64 a1, .int .i64 o0, .int .i64 o1, .int .i64 r0, .int .i64 r1]), v11, (.agg #[.int .i64 q0, .int .i64 q1, .int .i64 q2, .int .i64 q3]), (.tuple #[.agg #[.int .i64 s0, .int .i64 s1], .int .i64 0]), v9, v14, v15, v5, v6, g, by simp only [Act.put, List.setIfInBounds_toArray, List.set_cons_zero, List.set_cons_succ], (HT.out.call hb9).mark 3 (by decide), fun _ => rfl, kq E1, fun _ => rfl, fun _ => rfl, kq E4, kq E5, kq E6, kq E7, kq E9⟩
    · obtain rfl := E3.out (by simp [haf])
      go_wp2
      unfold SrI
      exact ⟨v10, v11, v12, (.tuple #[.agg #[.int .i64 s0, .int .i64 s1], .int .i64 0]), (.tuple #[.agg #[.int .i64 s0, .int .i64 s1], .int .i64 0]), v14, v15, v5, v6, g, by simp only [Act.put, List.setIfInBounds_toArray, List.set_cons_zero, List.set_cons_succ], HT.out.mark 4 (by decide), kq E0, kq E1, kq E2, fun _ => rfl, fun _ => rfl, kq E5, kq E6, kq E7, kq E9⟩
    · obtain rfl := E4.out (by simp [haf])
      go_wp2
      unfold SrI
      exact ⟨v10, v11, v12, v13, (.tuple #[.agg #[.int .i64 s0, .int .i64 s1], .int .i64 0]), (.agg #[.int .i64 s0, .int .i64 s1]), v15, v5, v6, g, by simp only [Act.put, List.setIfInBounds_toArray, List.set_cons_zero, List.set_cons_succ], HT.out.mark 5 (by decide), kq E0, kq E1, kq E2, kq E3, fun _ => rfl, fun _ => rfl, kq E6, kq E7, kq E9⟩
    · obtain rfl := E4.out (by simp [haf])
      go_wp2
      unfold SrI
      exact ⟨v10, v11, v12, v13, (.tuple #[.agg #[.int .i64 s0, .int .i64 s1], .int .i64 0]), v14, (.int .i64 0), v5, v6, g, by simp only [Act.put, List.setIfInBounds_toArray, List.set_cons_zero, List.set_cons_succ], HT.out.mark 6 (by decide), kq E0, kq E1, kq E2, kq E3, fun _ => rfl, kq E5, fun _ => rfl, kq E7, kq E9⟩
    · go_wp2
      unfold SrI
      exact ⟨v10, v11, v12, v13, v9, v14, v15, (.pointer (some ⟨w'.heap.size, 0, none⟩)), v6, (fun j => if j = 0 then w'.heap.size else g j), by simp only [Act.put, List.setIfInBounds_toArray, List.set_cons_zero, List.set_cons_succ], HT.out.al 0 (by decide) (by decide) hL _, kq E0, kq E1, kq E2, kq E3, kq E4, kq E5, kq E6, fun _ => rfl, kq E9⟩
    · obtain rfl := E7.out (by simp [haf])
      obtain rfl := E5.out (by simp [haf])
      have hA : L 7 = true := by simp [haf]
      obtain ⟨zt, z0, z1, zf0, zf1⟩ := HT.out.z 0 (by decide) hA hL
      have HS := Lib.hid (HT.out.st 0 (by decide) (by decide) hA hL rfl)
      go_wp2
      unfold SrI
      exact ⟨v10, v11, v12, v13, v9, (.agg #[.int .i64 s0, .int .i64 s1]), v15, (.pointer (some ⟨g 0, 0, none⟩)), v6, g, by simp only [Act.put, List.setIfInBounds_toArray, List.set_cons_zero, List.set_cons_succ], HS.out, kq E0, kq E1, kq E2, kq E3, kq E4, fun _ => rfl, kq E6, fun _ => rfl, kq E9⟩
    · obtain rfl := E6.out (by simp [haf])
      go_wp2
      unfold SrI
      exact ⟨v10, v11, v12, v13, v9, v14, (.int .i64 0), v5, (.int .i64 0), g, by simp only [Act.put, List.setIfInBounds_toArray, List.set_cons_zero, List.set_cons_succ], HT.out.mark 9 (by decide), kq E0, kq E1, kq E2, kq E3, kq E4, kq E5, fun _ => rfl, kq E7, fun _ => rfl⟩
  case fin =>
    rintro L a1' w3 hall ⟨v10, v11, v12, v13, v9, v14, v15, v5, v6, g, rfl, hT, e0, e1, e2, e3, e4, e5, e6, e7, e9⟩
    obtain rfl := e0 (hall 0 (by decide))
    obtain rfl := e1 (hall 1 (by decide))
    obtain rfl := e2 (hall 2 (by decide))
    obtain rfl := e3 (hall 3 (by decide))
    obtain rfl := e4 (hall 4 (by decide))
    obtain rfl := e5 (hall 5 (by decide))
    obtain rfl := e6 (hall 6 (by decide))
    obtain rfl := e7 (hall 7 (by decide))
    obtain rfl := e9 (hall 9 (by decide))
    have D5 : Hid (D2 w3 (g 0) s0 s1) := Lib.hid (hT.k 0 (by decide) (hall 8 (by decide)))
    have C3 := Lib.hid (CC.out.below hT.bl CC.out.lt)
    have B3 := Lib.hid (B0.out.trans (hT.bl.mono B0.out.size))
    clear hT hall XX CC B0 KB KS
    generalize g 0 = g5 at *
    clear g
    have k4 : w3.cell? ⟨w.heap.size + 1, 4, none⟩ = some (.int .i64 r0) := C3.out.cell 4
    have k5 : w3.cell? ⟨w.heap.size + 1, 5, none⟩ = some (.int .i64 r1) := C3.out.cell 5
    go_wp2_with fail
    (with_reducible refine (KC.out _).mono ?_)
    rintro e w4 ⟨rfl, hb4⟩
    have D5' := Lib.hid ((D5.out.below hb4 D5.out.lt).alloc (.cells #[.int .i64 t0, .int .i64 t1] 97))
    have b4 := B3.out.trans (hb4.mono B3.out.size)
    have B4 := Lib.hid (b4.alloc b4.size (.cells #[.int .i64 t0, .int .i64 t1] 97))
    clear hb4 b4 C3 B3 D5 k4 k5 KC
    obtain ⟨-, u0, u1, -, -⟩ := D5'.out
    go_wp2_with fail
    (with_reducible refine (KI.out _).mono ?_)
    rintro e w5 ⟨rfl, hb5⟩
    have B5 := Lib.hid (B4.out.trans (hb5.mono B4.out.size))
    clear hb5
    go_wp2
    go_ret
    exact ⟨rfl, B5.out⟩
set_option maxHeartbeats 1000000 in
set_option maxRecDepth 100000 in
theorem givenClos_any (k : Ci) (W : World) (hk : VCi k) : Calls Tryz.prog 172 #[civ k] W fun e w' => e = .returned (.bool false) ∧ Below W.heap.size W w' := by
  obtain ⟨⟨a0, a1, o0, o1⟩, r0, r1⟩ := k
  have KV := Lib.hid (fun W => cirValid_yes a0 a1 o0 o1 r0 r1 W hk.vc)
  have B0 := Lib.hid (bl_alloc W (.cells #[.int .i64 a0, .int .i64 a1, .int .i64 o0, .int .i64 o1, .int .i64 r0, .int .i64 r1] 39))
  clear hk
  unfold civ
  simp only []
  go_enter Tryz.func172, Tryz.ntmps172
  go_wp2_with fail
  (with_reducible refine (KV.out _).mono ?_)
  rintro e w1 ⟨rfl, hb1⟩
  have B1 := Lib.hid (B0.out.trans (hb1.mono B0.out.size))
  clear hb1
  go_wp2
  go_ret
  exact ⟨rfl, B1.out⟩
set_option maxHeartbeats 1000000 in
set_option maxRecDepth 100000 in
theorem allClos_any (k : Ci) (x : Cl) (g : Nat) (W : World) (hk : VCi k) (hx : Vl x) (hg : Blk W g 102 #[.int .i64 x.1, .int .i64 x.2.1, .int .i64 x.2.2]) :
    Calls Tryz.prog 222 #[civ k, .pointer (some ⟨g, 0, none⟩)] W fun e w' => e = .returned (.bool (!suC k x)) ∧ Below W.heap.size W w' := by
  have KS := fun W => sureP_any k x W hk hx
  generalize suC k x = b at KS ⊢
  unfold civ at KS ⊢
  obtain ⟨⟨a0, a1, o0, o1⟩, r0, r1⟩ := k
  obtain ⟨l, r, c⟩ := x
  simp only [] at KS hg ⊢
  have c0 := hg.cell 0
  have c1 := hg.cell 1
  have c2 := hg.cell 2
  simp only [List.getElem?_toArray, List.getElem?_cons_zero, List.getElem?_cons_succ] at c0 c1 c2
  have hl := hg.lt
  have KS := Lib.hid KS
  have B0 := Lib.hid (bl_alloc W (.cells #[.int .i64 a0, .int .i64 a1, .int .i64 o0, .int .i64 o1, .int .i64 r0, .int .i64 r1] 39))
  have hne : ¬ g = W.heap.size := by omega
  clear hg hk hx
  go_enter Tryz.func222, Tryz.ntmps222
  go_wp2_with fail
  (with_reducible refine (KS.out _).mono ?_)
  rintro e w1 ⟨rfl, hb1⟩
  have B1 := Lib.hid (B0.out.trans (hb1.mono B0.out.size))
  clear hb1
  go_wp2
  go_ret
  exact ⟨rfl, B1.out⟩
set_option maxHeartbeats 1000000 in
set_option maxRecDepth 100000 in
theorem lookClos_any (k : Ci) (x : Cl) (g : Nat) (W : World) (hk : VCi k) (hx : Vl x) (hg : Blk W g 102 #[.int .i64 x.1, .int .i64 x.2.1, .int .i64 x.2.2]) :
    Calls Tryz.prog 173 #[civ k, .pointer (some ⟨g, 0, none⟩)] W fun e w' => e = .returned (.bool (!agC k x)) ∧ Below W.heap.size W w' := by
  have KS := fun W => agrees_any k x W hk hx
  generalize agC k x = b at KS ⊢
  unfold civ at KS ⊢
  obtain ⟨⟨a0, a1, o0, o1⟩, r0, r1⟩ := k
  obtain ⟨l, r, c⟩ := x
  simp only [] at KS hg ⊢
  have c0 := hg.cell 0
  have c1 := hg.cell 1
  have c2 := hg.cell 2
  simp only [List.getElem?_toArray, List.getElem?_cons_zero, List.getElem?_cons_succ] at c0 c1 c2
  have hl := hg.lt
  have KS := Lib.hid KS
  have B0 := Lib.hid (bl_alloc W (.cells #[.int .i64 a0, .int .i64 a1, .int .i64 o0, .int .i64 o1, .int .i64 r0, .int .i64 r1] 39))
  have hne : ¬ g = W.heap.size := by omega
  clear hg hk hx
  go_enter Tryz.func173, Tryz.ntmps173
  go_wp2_with fail
  (with_reducible refine (KS.out _).mono ?_)
  rintro e w1 ⟨rfl, hb1⟩
  have B1 := Lib.hid (B0.out.trans (hb1.mono B0.out.size))
  clear hb1
  go_wp2
  go_ret
  exact ⟨rfl, B1.out⟩
/-- region.all: whether a cell surely agrees with all circles -/
theorem any_not {α : Type} (L : List α) (p : α → Bool) : (!(L.any fun k => !p k)) = L.all p := by
  induction L with
  | nil => rfl
  | cons x L ih => rw [List.any_cons, List.all_cons, ← ih, Bool.not_or, Bool.not_not]
set_option maxHeartbeats 1000000 in
set_option maxRecDepth 100000 in
theorem allP_any (A : Option Addr) (n c : Nat) (L : List Ci) (x : Cl) (w : World) (hr : Reads w w.heap.size 6 A n (civs L)) (hn : n ≤ maxLen) (hL : ∀ k ∈ L, VCi k) (hx : Vl x) :
    Calls Tryz.prog 174 #[.slice A n c, .agg #[.int .i64 x.1, .int .i64 x.2.1, .int .i64 x.2.2]] w fun e w' => e = .returned (.bool (L.all fun k => suC k x)) ∧ Below w.heap.size w w' := by
  have XX := Blk.new w 102 #[.int .i64 x.1, .int .i64 x.2.1, .int .i64 x.2.2]
  have HB0 := Lib.hid (bl_alloc w (.cells #[.int .i64 x.1, .int .i64 x.2.1, .int .i64 x.2.2] 102))
  have HR := (hr.alloc (Nat.le_refl _) (.cells #[.int .i64 x.1, .int .i64 x.2.1, .int .i64 x.2.2] 102)).more (B' := (w.alloc (.cells #[.int .i64 x.1, .int .i64 x.2.1, .int .i64 x.2.2] 102)).heap.size) (by simp)
  have KC := contC_any 222 #[.pointer (some ⟨w.heap.size, 0, none⟩)] (fun k => !suC k x) (enters_of Tryz.func222 (by kernel_rfl) rfl) A n c L _ HR hn (fun W k hk hW => allClos_any k x w.heap.size W (hL k hk) hx (XX.below hW XX.lt))
  have KC := Lib.hid KC
  rw [← any_not]
  generalize (L.any fun k => !suC k x) = b at KC ⊢
  clear XX HR hr hL hx
  obtain ⟨l, r, cc⟩ := x
  simp only [] at KC HB0 ⊢
  go_enter Tryz.func174, Tryz.ntmps174
  go_wp2_with fail
  (with_reducible refine (KC.out).mono ?_)
  rintro e w1 ⟨rfl, hb1⟩
  have B1 := Lib.hid (HB0.out.trans (hb1.mono HB0.out.size))
  clear hb1
  go_wp2
  go_ret
  exact ⟨rfl, B1.out⟩
end Go.Proofs.YtifdgdgfmjfbdaaGreat
namespace Go.Proofs.YtifdgdgfmjfbdaaGreat
open Canon
/-! ### unions of tidy regions -/
theorem cov_blk {X : List Cl} (q : Nat) : covB (X.map blkOf) q = true ↔ covL X q := covB_map X q
theorem can_vr {X : List Cl} (hX : AllV X) (hl : X.length ≤ 4000) : vrB (canonC (covL X)) = true :=
  (vrB_iff _).2 ⟨Nat.le_trans (canonC_len X hX) hl, can_v X hX, canonC_congr (can_cov hX)⟩
end Go.Proofs.YtifdgdgfmjfbdaaGreat
namespace Go.Proofs.YtifdgdgfmjfbdaaGreat
open Canon
/-- one box in another one, both not across the end of longitudes -/
def nst (a b : Bx) : Prop := b.1 ≤ a.1 ∧ a.2.1 ≤ b.2.1 ∧ b.2.2.1 ≤ a.2.2.1 ∧ a.2.2.2 ≤ b.2.2.2
theorem nst.refl (a : Bx) : nst a a := ⟨Int.le_refl _, Int.le_refl _, Int.le_refl _, Int.le_refl _⟩
theorem nst.trans {a b c : Bx} (h : nst a b) (k : nst b c) : nst a c := ⟨Int.le_trans k.1 h.1, Int.le_trans h.2.1 k.2.1, Int.le_trans k.2.2.1 h.2.2.1, Int.le_trans h.2.2.2 k.2.2.2⟩
theorem fin_nst : ∀ (f : Nat) (c : Cl), Vl c → c.1 + (f : Int) = 16 → ∀ q, covL [c] q → nst (bxI (cellB (0, q))) (bxI c) := by
  intro f
  induction f with
  | zero =>
    intro c hc hl q hq
    have h1 := (cov_one c q).1 hq
    have e : blkOf c = (0, q) := by
      have e1 : (blkOf c).1 = 0 := by show 16 - c.1.toNat = 0; omega
      rw [spF_blk, spT_blk, e1] at h1
      refine Prod.ext e1 ?_
      simp only [Nat.pow_zero, Nat.mul_one] at h1
      show (blkOf c).2 = q
      omega
    have := cellB_blkOf c hc
    rw [e] at this
    rw [this]
    exact nst.refl _
  | succ f ih =>
    intro c hc hl q hq
    have h16 : c.1 < 16 := by omega
    obtain ⟨d, hd, h1⟩ := (cov_kids hc h16 q).2 hq
    have hn := kid_nest hc h16 hd
    have hdl : d.1 + (f : Int) = 16 := by
      simp only [kidsC, kids, List.mem_cons, List.not_mem_nil, or_false] at hd
      rcases hd with rfl | rfl | rfl | rfl <;> (simp only []; omega)
    exact (ih d (kids_vl hc h16 d hd) hdl q ((cov_one d q).2 h1)).trans ⟨hn.1, hn.2.1, hn.2.2.1, hn.2.2.2⟩
theorem fin_in {c : Cl} (hc : Vl c) {q : Nat} (h : covL [c] q) : nst (bxI (cellB (0, q))) (bxI c) := by
  have h0 := hc.l0
  have h1 := hc.l1
  exact fin_nst (16 - c.1).toNat c hc (by omega) q h
end Go.Proofs.YtifdgdgfmjfbdaaGreat
