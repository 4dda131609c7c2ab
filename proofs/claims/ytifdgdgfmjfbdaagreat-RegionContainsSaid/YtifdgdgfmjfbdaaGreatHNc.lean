/- The walks of region.agrees and of the reference's Agrees of layer 39, at valid circles and cells. -/
import Derived.Test.YtifdgdgfmjfbdaaGreatHJm
set_option linter.unusedVariables false
set_option linter.unusedSimpArgs false
namespace Go.Proofs.YtifdgdgfmjfbdaaGreat
open Go.RowKit
/-- a circle: its place, and its radius -/
abbrev Ci := Bx × Int × Int
structure VCi (k : Ci) : Prop where
  p : VP k.1
  h0 : 0 ≤ k.2.1
  h1 : k.2.1 ≤ k.2.2
  h2 : k.2.2 ≤ 10800000
theorem VCi.vc {k : Ci} (h : VCi k) : VC k.1.1 k.1.2.1 k.1.2.2.1 k.1.2.2.2 k.2.1 k.2.2 := ⟨h.p, h.h0, h.h1, h.h2⟩
def sinC (k : Ci) (q : Bx) : Int × Int := Trig.sinT (q.1, q.2.1) (k.1.1, k.1.2.1) (q.2.2.1 - k.1.2.2.2, q.2.2.2 - k.1.2.2.1)
def sideC (k : Ci) (q : Bx) : Int := sdV (sinC k q) (Trig.csP k.2)
/-- whether a cell agrees with a circle -/
def agC (k : Ci) (x : Cl) : Bool := sideC k (bxI x) == 0
def civ (k : Ci) : Value := .agg #[.int .i64 k.1.1, .int .i64 k.1.2.1, .int .i64 k.1.2.2.1, .int .i64 k.1.2.2.2, .int .i64 k.2.1, .int .i64 k.2.2]
def AgI (W2 : World) (x0 x1 x2 x3 x4 x5 x6 x7 x8 : Value) (v : Nat → Int × Int) (a : Act) (L : Nat → Bool) (a' : Act) (w' : World) : Prop :=
  ∃ (v8 v9 v10 v11 v7 v12 v13 v5 v6 : Value) (g : Nat → Nat), a' = (((((((((a.put (some 8) v8).put (some 9) v9).put (some 10) v10).put (some 11) v11).put (some 7) v7).put (some 12) v12).put (some 13) v13).put (some 5) v5).put (some 6) v6) ∧ MJ W2 w' L 0 100 200 g v ∧
    (L 0 = true → v8 = x0) ∧ (L 1 = true → v9 = x1) ∧ (L 2 = true → v10 = x2) ∧ (L 3 = true → v11 = x3) ∧ (L 4 = true → v7 = x4) ∧ (L 5 = true → v12 = x5) ∧ (L 6 = true → v13 = x6) ∧ (L 7 = true → v5 = x7) ∧ (L 8 = true → v6 = x8)
theorem AgI.start (W2 : World) (x0 x1 x2 x3 x4 x5 x6 x7 x8 : Value) (v : Nat → Int × Int) (a : Act) : AgI W2 x0 x1 x2 x3 x4 x5 x6 x7 x8 v a (fun _ => false) a W2.drew :=
  ⟨_, _, _, _, _, _, _, _, _, fun _ => 0, by rw [putQ_self a 8, putQ_self a 9, putQ_self a 10, putQ_self a 11, putQ_self a 7, putQ_self a 12, putQ_self a 13, putQ_self a 5, putQ_self a 6], MJ.start W2 0 100 200 _ v, fun h => (by cases h), fun h => (by cases h), fun h => (by cases h), fun h => (by cases h), fun h => (by cases h), fun h => (by cases h), fun h => (by cases h), fun h => (by cases h), fun h => (by cases h)⟩
def AgJ (W2 : World) (x0 x1 x2 x3 x4 x5 : Value) (v : Nat → Int × Int) (a : Act) (L : Nat → Bool) (a' : Act) (w' : World) : Prop :=
  ∃ (v5 v6 v7 v8 v9 v4 : Value) (g : Nat → Nat), a' = ((((((a.put (some 5) v5).put (some 6) v6).put (some 7) v7).put (some 8) v8).put (some 9) v9).put (some 4) v4) ∧ MJ W2 w' L 0 100 200 g v ∧
    (L 0 = true → v5 = x0) ∧ (L 1 = true → v6 = x1) ∧ (L 2 = true → v7 = x2) ∧ (L 3 = true → v8 = x3) ∧ (L 4 = true → v9 = x4) ∧ (L 5 = true → v4 = x5)
theorem AgJ.start (W2 : World) (x0 x1 x2 x3 x4 x5 : Value) (v : Nat → Int × Int) (a : Act) : AgJ W2 x0 x1 x2 x3 x4 x5 v a (fun _ => false) a W2.drew :=
  ⟨_, _, _, _, _, _, fun _ => 0, by rw [putQ_self a 5, putQ_self a 6, putQ_self a 7, putQ_self a 8, putQ_self a 9, putQ_self a 4], MJ.start W2 0 100 200 _ v, fun h => (by cases h), fun h => (by cases h), fun h => (by cases h), fun h => (by cases h), fun h => (by cases h), fun h => (by cases h)⟩
set_option maxHeartbeats 4000000 in
set_option maxRecDepth 100000 in
theorem agrees_any (k : Ci) (x : Cl) (w : World) (hk : VCi k) (hx : Vl x) : Calls Tryz.prog 141 #[.agg #[.int .i64 x.1, .int .i64 x.2.1, .int .i64 x.2.2], civ k] w fun e w' => e = .returned (.bool (agC k x)) ∧ Below w.heap.size w w' := by
  have KB := fun W => rbox_any x.1 x.2.1 x.2.2 W ((vl_iff x).2 hx)
  rw [show boxV x.1 x.2.1 x.2.2 = .agg #[.int .i64 (bxI x).1, .int .i64 (bxI x).2.1, .int .i64 (bxI x).2.2.1, .int .i64 (bxI x).2.2.2] from rfl] at KB
  have KS : ∀ W, Calls Tryz.prog 12 #[civ k, .agg #[.int .i64 (bxI x).1, .int .i64 (bxI x).2.1, .int .i64 (bxI x).2.2.1, .int .i64 (bxI x).2.2.2]] W fun e w' => e = .returned (.tuple #[.int .i64 (sideC k (bxI x)), .int .i64 0]) ∧ Below W.heap.size W w' := fun W => Side_yes _ _ _ _ _ _ _ _ _ _ W hk.vc (bx_vp hx)
  unfold agC
  obtain ⟨V, hV⟩ : ∃ V, sideC k (bxI x) = V := ⟨_, rfl⟩
  rw [hV] at KS ⊢
  unfold civ at KS ⊢
  clear hV hk hx
  generalize bxI x = q at *
  obtain ⟨⟨a0, a1, o0, o1⟩, r0, r1⟩ := k
  obtain ⟨l, r, c⟩ := x
  obtain ⟨q0, q1, q2, q3⟩ := q
  simp only [] at KB KS ⊢
  have KB := Lib.hid KB
  have KS := Lib.hid KS
  have XX := Lib.hid ((Blk.new w 102 #[.int .i64 l, .int .i64 r, .int .i64 c]).alloc (.cells #[.int .i64 a0, .int .i64 a1, .int .i64 o0, .int .i64 o1, .int .i64 r0, .int .i64 r1] 39))
  have cc := Blk.new (w.alloc (.cells #[.int .i64 l, .int .i64 r, .int .i64 c] 102)) 39 #[.int .i64 a0, .int .i64 a1, .int .i64 o0, .int .i64 o1, .int .i64 r0, .int .i64 r1]
  rw [World.size_alloc] at cc
  have CC := Lib.hid cc
  have B0 := Lib.hid ((bl_alloc w (.cells #[.int .i64 l, .int .i64 r, .int .i64 c] 102)).alloc (by simp) (.cells #[.int .i64 a0, .int .i64 a1, .int .i64 o0, .int .i64 o1, .int .i64 r0, .int .i64 r1] 39))
  clear cc
  go_enter Tryz.func141, Tryz.ntmps141
  go_upto_region 1 with (fail)
  generalize (w.alloc (.cells #[.int .i64 l, .int .i64 r, .int .i64 c] 102)).alloc (.cells #[.int .i64 a0, .int .i64 a1, .int .i64 o0, .int .i64 o1, .int .i64 r0, .int .i64 r1] 39) = w2 at XX CC B0 ⊢
  refine wp_region_inv3 (by kernel_rfl) (AgI w2 (.agg #[.int .i64 a0, .int .i64 a1, .int .i64 o0, .int .i64 o1, .int .i64 r0, .int .i64 r1]) (.agg #[.int .i64 l, .int .i64 r, .int .i64 c]) (.agg #[.int .i64 q0, .int .i64 q1, .int .i64 q2, .int .i64 q3]) (.tuple #[.int .i64 V, .int .i64 0]) (.tuple #[.int .i64 V, .int .i64 0]) (.int .i64 V) (.int .i64 0) (.int .i64 V) (.int .i64 0) (fun _ => ((0 : Int), (0 : Int)))) (waits_bind (by kernel_rfl)) ?start ?step ?fin
  case start => exact AgI.start w2 _ _ _ _ _ _ _ _ _ _ _
  case step =>
    rintro L i o a1' w' ho hL haf ⟨v8, v9, v10, v11, v7, v12, v13, v5, v6, g, rfl, hT, e0, e1, e2, e3, e4, e5, e6, e7, e8⟩
    have HT := Lib.hid hT
    clear hT
    have E0 := Lib.hid e0
    have E1 := Lib.hid e1
    have E2 := Lib.hid e2
    have E3 := Lib.hid e3
    have E4 := Lib.hid e4
    have E5 := Lib.hid e5
    have E6 := Lib.hid e6
    have E7 := Lib.hid e7
    have E8 := Lib.hid e8
    clear e0 e1 e2 e3 e4 e5 e6 e7 e8
    rcases i with _ | _ | _ | _ | _ | _ | _ | _ | _ | i
    all_goals (simp at ho; try subst ho)
    all_goals (try simp [Region.binds] at haf)
    · have z9 := CC.out.below HT.out.bl CC.out.lt
      have k0 : w'.cell? ⟨w.heap.size + 1, 0, none⟩ = some (.int .i64 a0) := z9.cell 0
      have k1 : w'.cell? ⟨w.heap.size + 1, 1, none⟩ = some (.int .i64 a1) := z9.cell 1
      have k2 : w'.cell? ⟨w.heap.size + 1, 2, none⟩ = some (.int .i64 o0) := z9.cell 2
      have k3 : w'.cell? ⟨w.heap.size + 1, 3, none⟩ = some (.int .i64 o1) := z9.cell 3
      have k4 : w'.cell? ⟨w.heap.size + 1, 4, none⟩ = some (.int .i64 r0) := z9.cell 4
      have k5 : w'.cell? ⟨w.heap.size + 1, 5, none⟩ = some (.int .i64 r1) := z9.cell 5
      clear z9
      go_wp2
      unfold AgI
      exact ⟨(.agg #[.int .i64 a0, .int .i64 a1, .int .i64 o0, .int .i64 o1, .int .i64 r0, .int .i64 r1]), v9, v10, v11, v7, v12, v13, v5, v6, g, by simp only [Act.put, List.setIfInBounds_toArray, List.set_cons_zero, List.set_cons_succ], HT.out.mark 0 (by decide), fun _ => rfl, kq E1, kq E2, kq E3, kq E4, kq E5, kq E6, kq E7, kq E8⟩
    · have z9 := XX.out.below HT.out.bl XX.out.lt
      have k0 : w'.cell? ⟨w.heap.size, 0, none⟩ = some (.int .i64 l) := z9.cell 0
      have k1 : w'.cell? ⟨w.heap.size, 1, none⟩ = some (.int .i64 r) := z9.cell 1
      have k2 : w'.cell? ⟨w.heap.size, 2, none⟩ = some (.int .i64 c) := z9.cell 2
      clear z9
      go_wp2
      unfold AgI
      exact ⟨v8, (.agg #[.int .i64 l, .int .i64 r, .int .i64 c]), v10, v11, v7, v12, v13, v5, v6, g, by simp only [Act.put, List.setIfInBounds_toArray, List.set_cons_zero, List.set_cons_succ], HT.out.mark 1 (by decide), kq E0, fun _ => rfl, kq E2, kq E3, kq E4, kq E5, kq E6, kq E7, kq E8⟩
    · obtain rfl := E1.out (by simp [haf])
      go_wp2_with fail
      (with_reducible refine (KB.out _).mono ?_)
      rintro e w9 ⟨rfl, hb9⟩
      go_wp2
      unfold AgI
      exact ⟨v8, (.agg #[.int .i64 l, .int .i64 r, .int .i64 c]), (.agg #[.int .i64 q0, .int .i64 q1, .int .i64 q2, .int .i64 q3]), v11, v7, v12, v13, v5, v6, g, by simp only [Act.put, List.setIfInBounds_toArray, List.set_cons_zero, List.set_cons_succ], (HT.out.call hb9).mark 2 (by decide), kq E0, fun _ => rfl, fun _ => rfl, kq E3, kq E4, kq E5, kq E6, kq E7, kq E8⟩
    · obtain rfl := E0.out (by simp [haf])
      obtain rfl := E2.out (by simp [haf])
      go_wp2_with fail
      (with_reducible refine (KS.out _).mono ?_)
      rintro e w9 ⟨rfl, hb9⟩
      go_wp2
      unfold AgI
      exact ⟨(.agg #[.int .i64 a0, .int .i64 a1, .int .i64 o0, .int .i64 o1, .int .i64 r0, .int .i64 r1]), v9, (.agg #[.int .i64 q0, .int .i64 q1, .int .i64 q2, .int .i64 q3]), (.tuple #[.int .i64 V, .int .i64 0]), v7, v12, v13, v5, v6, g, by simp only [Act.put, List.setIfInBounds_toArray, List.set_cons_zero, List.set_cons_succ], (HT.out.call hb9).mark 3 (by decide), fun _ => rfl, kq E1, fun _ => rfl, fun _ => rfl, kq E4, kq E5, kq E6, kq E7, kq E8⟩
    · obtain rfl := E3.out (by simp [haf])
      go_wp2
      unfold AgI
      exact ⟨v8, v9, v10, (.tuple #[.int .i64 V, .int .i64 0]), (.tuple #[.int .i64 V, .int .i64 0]), v12, v13, v5, v6, g, by simp only [Act.put, List.setIfInBounds_toArray, List.set_cons_zero, List.set_cons_succ], HT.out.mark 4 (by decide), kq E0, kq E1, kq E2, fun _ => rfl, fun _ => rfl, kq E5, kq E6, kq E7, kq E8⟩
    · obtain rfl := E4.out (by simp [haf])
      go_wp2
      unfold AgI
      exact ⟨v8, v9, v10, v11, (.tuple #[.int .i64 V, .int .i64 0]), (.int .i64 V), v13, v5, v6, g, by simp only [Act.put, List.setIfInBounds_toArray, List.set_cons_zero, List.set_cons_succ], HT.out.mark 5 (by decide), kq E0, kq E1, kq E2, kq E3, fun _ => rfl, fun _ => rfl, kq E6, kq E7, kq E8⟩
    · obtain rfl := E4.out (by simp [haf])
      go_wp2
      unfold AgI
      exact ⟨v8, v9, v10, v11, (.tuple #[.int .i64 V, .int .i64 0]), v12, (.int .i64 0), v5, v6, g, by simp only [Act.put, List.setIfInBounds_toArray, List.set_cons_zero, List.set_cons_succ], HT.out.mark 6 (by decide), kq E0, kq E1, kq E2, kq E3, fun _ => rfl, kq E5, fun _ => rfl, kq E7, kq E8⟩
    · obtain rfl := E5.out (by simp [haf])
      go_wp2
      unfold AgI
      exact ⟨v8, v9, v10, v11, v7, (.int .i64 V), v13, (.int .i64 V), v6, g, by simp only [Act.put, List.setIfInBounds_toArray, List.set_cons_zero, List.set_cons_succ], HT.out.mark 7 (by decide), kq E0, kq E1, kq E2, kq E3, kq E4, fun _ => rfl, kq E6, fun _ => rfl, kq E8⟩
    · obtain rfl := E6.out (by simp [haf])
      go_wp2
      unfold AgI
      exact ⟨v8, v9, v10, v11, v7, v12, (.int .i64 0), v5, (.int .i64 0), g, by simp only [Act.put, List.setIfInBounds_toArray, List.set_cons_zero, List.set_cons_succ], HT.out.mark 8 (by decide), kq E0, kq E1, kq E2, kq E3, kq E4, kq E5, fun _ => rfl, kq E7, fun _ => rfl⟩
  case fin =>
    rintro L a1' w3 hall ⟨v8, v9, v10, v11, v7, v12, v13, v5, v6, g, rfl, hT, e0, e1, e2, e3, e4, e5, e6, e7, e8⟩
    obtain rfl := e0 (hall 0 (by decide))
    obtain rfl := e1 (hall 1 (by decide))
    obtain rfl := e2 (hall 2 (by decide))
    obtain rfl := e3 (hall 3 (by decide))
    obtain rfl := e4 (hall 4 (by decide))
    obtain rfl := e5 (hall 5 (by decide))
    obtain rfl := e6 (hall 6 (by decide))
    obtain rfl := e7 (hall 7 (by decide))
    obtain rfl := e8 (hall 8 (by decide))
    have B3 := Lib.hid (B0.out.trans (hT.bl.mono B0.out.size))
    clear hT hall XX CC B0 KB KS
    go_wp2
    go_ret
    exact ⟨rfl, B3.out⟩
set_option maxHeartbeats 4000000 in
set_option maxRecDepth 100000 in
theorem rAgrees_any (k : Ci) (x : Cl) (w : World) (hk : VCi k) (hx : Vl x) : Calls Tryz.prog 205 #[.agg #[.int .i64 x.1, .int .i64 x.2.1, .int .i64 x.2.2], civ k] w fun e w' => e = .returned (.bool (agC k x)) ∧ Below w.heap.size w w' := by
  have KB := fun W => refBox_any x.1 x.2.1 x.2.2 W ((vl_iff x).2 hx)
  rw [show boxV x.1 x.2.1 x.2.2 = .agg #[.int .i64 (bxI x).1, .int .i64 (bxI x).2.1, .int .i64 (bxI x).2.2.1, .int .i64 (bxI x).2.2.2] from rfl] at KB
  have KS : ∀ W, Calls Tryz.prog 245 #[civ k, .agg #[.int .i64 (bxI x).1, .int .i64 (bxI x).2.1, .int .i64 (bxI x).2.2.1, .int .i64 (bxI x).2.2.2]] W fun e w' => e = .returned (.int .i64 (sideC k (bxI x))) ∧ Below W.heap.size W w' := fun W => rSide_yes _ _ _ _ _ _ _ _ _ _ W hk.vc (bx_vp hx)
  unfold agC
  obtain ⟨V, hV⟩ : ∃ V, sideC k (bxI x) = V := ⟨_, rfl⟩
  rw [hV] at KS ⊢
  unfold civ at KS ⊢
  clear hV hk hx
  generalize bxI x = q at *
  obtain ⟨⟨a0, a1, o0, o1⟩, r0, r1⟩ := k
  obtain ⟨l, r, c⟩ := x
  obtain ⟨q0, q1, q2, q3⟩ := q
  simp only [] at KB KS ⊢
  have KB := Lib.hid KB
  have KS := Lib.hid KS
  have XX := Lib.hid ((Blk.new w 102 #[.int .i64 l, .int .i64 r, .int .i64 c]).alloc (.cells #[.int .i64 a0, .int .i64 a1, .int .i64 o0, .int .i64 o1, .int .i64 r0, .int .i64 r1] 39))
  have cc := Blk.new (w.alloc (.cells #[.int .i64 l, .int .i64 r, .int .i64 c] 102)) 39 #[.int .i64 a0, .int .i64 a1, .int .i64 o0, .int .i64 o1, .int .i64 r0, .int .i64 r1]
  rw [World.size_alloc] at cc
  have CC := Lib.hid cc
  have B0 := Lib.hid ((bl_alloc w (.cells #[.int .i64 l, .int .i64 r, .int .i64 c] 102)).alloc (by simp) (.cells #[.int .i64 a0, .int .i64 a1, .int .i64 o0, .int .i64 o1, .int .i64 r0, .int .i64 r1] 39))
  clear cc
  go_enter Tryz.func205, Tryz.ntmps205
  go_upto_region 1 with (fail)
  generalize (w.alloc (.cells #[.int .i64 l, .int .i64 r, .int .i64 c] 102)).alloc (.cells #[.int .i64 a0, .int .i64 a1, .int .i64 o0, .int .i64 o1, .int .i64 r0, .int .i64 r1] 39) = w2 at XX CC B0 ⊢
  refine wp_region_inv3 (by kernel_rfl) (AgJ w2 (.agg #[.int .i64 a0, .int .i64 a1, .int .i64 o0, .int .i64 o1, .int .i64 r0, .int .i64 r1]) (.agg #[.int .i64 l, .int .i64 r, .int .i64 c]) (.agg #[.int .i64 q0, .int .i64 q1, .int .i64 q2, .int .i64 q3]) (.int .i64 V) (.bool (V == 0)) (.bool (V == 0)) (fun _ => ((0 : Int), (0 : Int)))) (waits_bind (by kernel_rfl)) ?start ?step ?fin
  case start => exact AgJ.start w2 _ _ _ _ _ _ _ _
  case step =>
    rintro L i o a1' w' ho hL haf ⟨v5, v6, v7, v8, v9, v4, g, rfl, hT, e0, e1, e2, e3, e4, e5⟩
    have HT := Lib.hid hT
    clear hT
    have E0 := Lib.hid e0
    have E1 := Lib.hid e1
    have E2 := Lib.hid e2
    have E3 := Lib.hid e3
    have E4 := Lib.hid e4
    have E5 := Lib.hid e5
    clear e0 e1 e2 e3 e4 e5
    rcases i with _ | _ | _ | _ | _ | _ | i
    all_goals (simp at ho; try subst ho)
    all_goals (try simp [Region.binds] at haf)
    · have z9 := CC.out.below HT.out.bl CC.out.lt
      have k0 : w'.cell? ⟨w.heap.size + 1, 0, none⟩ = some (.int .i64 a0) := z9.cell 0
      have k1 : w'.cell? ⟨w.heap.size + 1, 1, none⟩ = some (.int .i64 a1) := z9.cell 1
      have k2 : w'.cell? ⟨w.heap.size + 1, 2, none⟩ = some (.int .i64 o0) := z9.cell 2
      have k3 : w'.cell? ⟨w.heap.size + 1, 3, none⟩ = some (.int .i64 o1) := z9.cell 3
      have k4 : w'.cell? ⟨w.heap.size + 1, 4, none⟩ = some (.int .i64 r0) := z9.cell 4
      have k5 : w'.cell? ⟨w.heap.size + 1, 5, none⟩ = some (.int .i64 r1) := z9.cell 5
      clear z9
      go_wp2
      unfold AgJ
      exact ⟨(.agg #[.int .i64 a0, .int .i64 a1, .int .i64 o0, .int .i64 o1, .int .i64 r0, .int .i64 r1]), v6, v7, v8, v9, v4, g, by simp only [Act.put, List.setIfInBounds_toArray, List.set_cons_zero, List.set_cons_succ], HT.out.mark 0 (by decide), fun _ => rfl, kq E1, kq E2, kq E3, kq E4, kq E5⟩
    · have z9 := XX.out.below HT.out.bl XX.out.lt
      have k0 : w'.cell? ⟨w.heap.size, 0, none⟩ = some (.int .i64 l) := z9.cell 0
      have k1 : w'.cell? ⟨w.heap.size, 1, none⟩ = some (.int .i64 r) := z9.cell 1
      have k2 : w'.cell? ⟨w.heap.size, 2, none⟩ = some (.int .i64 c) := z9.cell 2
      clear z9
      go_wp2
      unfold AgJ
      exact ⟨v5, (.agg #[.int .i64 l, .int .i64 r, .int .i64 c]), v7, v8, v9, v4, g, by simp only [Act.put, List.setIfInBounds_toArray, List.set_cons_zero, List.set_cons_succ], HT.out.mark 1 (by decide), kq E0, fun _ => rfl, kq E2, kq E3, kq E4, kq E5⟩
    · obtain rfl := E1.out (by simp [haf])
      go_wp2_with fail
      (with_reducible refine (KB.out _).mono ?_)
      rintro e w9 ⟨rfl, hb9⟩
      go_wp2
      unfold AgJ
      exact ⟨v5, (.agg #[.int .i64 l, .int .i64 r, .int .i64 c]), (.agg #[.int .i64 q0, .int .i64 q1, .int .i64 q2, .int .i64 q3]), v8, v9, v4, g, by simp only [Act.put, List.setIfInBounds_toArray, List.set_cons_zero, List.set_cons_succ], (HT.out.call hb9).mark 2 (by decide), kq E0, fun _ => rfl, fun _ => rfl, kq E3, kq E4, kq E5⟩
    · obtain rfl := E0.out (by simp [haf])
      obtain rfl := E2.out (by simp [haf])
      go_wp2_with fail
      (with_reducible refine (KS.out _).mono ?_)
      rintro e w9 ⟨rfl, hb9⟩
      go_wp2
      unfold AgJ
      exact ⟨(.agg #[.int .i64 a0, .int .i64 a1, .int .i64 o0, .int .i64 o1, .int .i64 r0, .int .i64 r1]), v6, (.agg #[.int .i64 q0, .int .i64 q1, .int .i64 q2, .int .i64 q3]), (.int .i64 V), v9, v4, g, by simp only [Act.put, List.setIfInBounds_toArray, List.set_cons_zero, List.set_cons_succ], (HT.out.call hb9).mark 3 (by decide), fun _ => rfl, kq E1, fun _ => rfl, fun _ => rfl, kq E4, kq E5⟩
    · obtain rfl := E3.out (by simp [haf])
      go_wp2
      unfold AgJ
      exact ⟨v5, v6, v7, (.int .i64 V), (.bool (V == 0)), v4, g, by simp only [Act.put, List.setIfInBounds_toArray, List.set_cons_zero, List.set_cons_succ], HT.out.mark 4 (by decide), kq E0, kq E1, kq E2, fun _ => rfl, fun _ => rfl, kq E5⟩
    · obtain rfl := E4.out (by simp [haf])
      go_wp2
      unfold AgJ
      exact ⟨v5, v6, v7, v8, (.bool (V == 0)), (.bool (V == 0)), g, by simp only [Act.put, List.setIfInBounds_toArray, List.set_cons_zero, List.set_cons_succ], HT.out.mark 5 (by decide), kq E0, kq E1, kq E2, kq E3, fun _ => rfl, fun _ => rfl⟩
  case fin =>
    rintro L a1' w3 hall ⟨v5, v6, v7, v8, v9, v4, g, rfl, hT, e0, e1, e2, e3, e4, e5⟩
    obtain rfl := e0 (hall 0 (by decide))
    obtain rfl := e1 (hall 1 (by decide))
    obtain rfl := e2 (hall 2 (by decide))
    obtain rfl := e3 (hall 3 (by decide))
    obtain rfl := e4 (hall 4 (by decide))
    obtain rfl := e5 (hall 5 (by decide))
    have B3 := Lib.hid (B0.out.trans (hT.bl.mono B0.out.size))
    clear hT hall XX CC B0 KB KS
    go_wp2
    go_ret
    exact ⟨rfl, B3.out⟩
end Go.Proofs.YtifdgdgfmjfbdaaGreat
