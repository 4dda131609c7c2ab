/- The walks of the reference's Meet and Touch. -/
import Derived.RangeFuncBox
import Derived.Deep.LoopGhost
import Derived.Test.YtifdgdgfmjfbdaaGreatHNc
import Derived.Test.YtifdgdgfmjfbdaaGreatHWb
import Derived.Test.YtifdgdgfmjfbdaaGreatHAg
import Derived.Test.YtifdgdgfmjfbdaaGreatHJm
import Derived.Test.YtifdgdgfmjfbdaaGreatHBi
import Derived.Test.YtifdgdgfmjfbdaaGreatHAm
set_option linter.unusedVariables false
set_option linter.unusedSimpArgs false
namespace Go.Proofs.YtifdgdgfmjfbdaaGreat
open Go.RowKit
/-- whether a cell surely agrees with a circle -/
def suC (k : Ci) (x : Cl) : Bool := decide ((Trig.csP k.2).1 ≤ (sinC k (bxI x)).1) && decide ((sinC k (bxI x)).2 ≤ (Trig.csP k.2).2)
def SuI (W2 : World) (x0 x1 x2 x3 x4 : Value) (v : Nat → Int × Int) (a : Act) (L : Nat → Bool) (a' : Act) (w' : World) : Prop :=
  ∃ (v7 v8 v9 v10 v11 v5 : Value) (g : Nat → Nat), a' = ((((((a.put (some 7) v7).put (some 8) v8).put (some 9) v9).put (some 10) v10).put (some 11) v11).put (some 5) v5) ∧ MJ W2 w' L 1 5 6 g v ∧
    (L 0 = true → v7 = x0) ∧ (L 1 = true → v8 = x1) ∧ (L 2 = true → v9 = x2) ∧ (L 3 = true → v10 = x3) ∧ (L 4 = true → v11 = x4) ∧ (L 5 = true → v5 = .pointer (some ⟨g 0, 0, none⟩))
theorem SuI.start (W2 : World) (x0 x1 x2 x3 x4 : Value) (v : Nat → Int × Int) (a : Act) : SuI W2 x0 x1 x2 x3 x4 v a (fun _ => false) a W2.drew :=
  ⟨_, _, _, _, _, _, fun _ => 0, by rw [putQ_self a 7, putQ_self a 8, putQ_self a 9, putQ_self a 10, putQ_self a 11, putQ_self a 5], MJ.start W2 1 5 6 _ v, fun h => (by cases h), fun h => (by cases h), fun h => (by cases h), fun h => (by cases h), fun h => (by cases h), fun h => (by cases h)⟩
set_option maxHeartbeats 4000000 in
set_option maxRecDepth 100000 in
theorem rsure_any (k : Ci) (x : Cl) (w : World) (hk : VCi k) (hx : Vl x) : Calls Tryz.prog 206 #[.agg #[.int .i64 x.1, .int .i64 x.2.1, .int .i64 x.2.2], civ k] w fun e w' => e = .returned (.bool (suC k x)) ∧ Below w.heap.size w w' := by
  have KB := fun W => refBox_any x.1 x.2.1 x.2.2 W ((vl_iff x).2 hx)
  rw [show boxV x.1 x.2.1 x.2.2 = .agg #[.int .i64 (bxI x).1, .int .i64 (bxI x).2.1, .int .i64 (bxI x).2.2.1, .int .i64 (bxI x).2.2.2] from rfl] at KB
  have hq := bx_vp hx
  unfold suC sinC civ
  generalize bxI x = q at *
  obtain ⟨⟨a0, a1, o0, o1⟩, r0, r1⟩ := k
  obtain ⟨l, r, c⟩ := x
  obtain ⟨q0, q1, q2, q3⟩ := q
  have hc := hk.vc
  simp only [] at KB hc ⊢
  have bq := vp_bd hq
  have bp := vp_bd hc.p
  have br := hc.h0
  have br1 := hc.h1
  have br2 := hc.h2
  have KT := fun W => Triangle2_any a0 a1 o0 o1 r0 r1 q0 q1 q2 q3 W (by omega)
  have KS := fun W => Sine25_any (q0, q1) (a0, a1) (q2 - o1, q3 - o0) W (by simp only []; omega) (by simp only []; omega) (by simp only []; omega)
  have KC := fun W => CosR_any r0 r1 W (by omega) (by omega) (by omega) (by omega)
  rw [show Trig.enLo (r0 + 5400000) (r1 + 5400000) = (Trig.csP (r0, r1)).1 from rfl, show Trig.enHi (r0 + 5400000) (r1 + 5400000) = (Trig.csP (r0, r1)).2 from rfl] at KC
  clear hc hq bq bp br br1 br2 hk hx
  generalize Trig.sinT (q0, q1) (a0, a1) (q2 - o1, q3 - o0) = s at *
  generalize Trig.csP (r0, r1) = tr at *
  obtain ⟨t0, t1⟩ := tr
  obtain ⟨s0, s1⟩ := s
  simp only [] at KS KC ⊢
  have KB := Lib.hid KB
  have KT := Lib.hid KT
  have KS := Lib.hid KS
  have KC := Lib.hid KC
  have XX := Lib.hid ((Blk.new w 102 #[.int .i64 l, .int .i64 r, .int .i64 c]).alloc (.cells #[.int .i64 a0, .int .i64 a1, .int .i64 o0, .int .i64 o1, .int .i64 r0, .int .i64 r1] 39))
  have cc := Blk.new (w.alloc (.cells #[.int .i64 l, .int .i64 r, .int .i64 c] 102)) 39 #[.int .i64 a0, .int .i64 a1, .int .i64 o0, .int .i64 o1, .int .i64 r0, .int .i64 r1]
  rw [World.size_alloc] at cc
  have CC := Lib.hid cc
  have B0 := Lib.hid ((bl_alloc w (.cells #[.int .i64 l, .int .i64 r, .int .i64 c] 102)).alloc (by simp) (.cells #[.int .i64 a0, .int .i64 a1, .int .i64 o0, .int .i64 o1, .int .i64 r0, .int .i64 r1] 39))
  clear cc
  obtain ⟨b0, hb0⟩ : ∃ v, decide (t0 ≤ s0) = v := ⟨_, rfl⟩
  obtain ⟨b1, hb1⟩ : ∃ v, decide (s1 ≤ t1) = v := ⟨_, rfl⟩
  rw [hb0, hb1]
  have HB0 := Lib.hid hb0
  have HB1 := Lib.hid hb1
  clear hb0 hb1
  go_enter Tryz.func206, Tryz.ntmps206
  go_upto_region 1 with (fail)
  generalize (w.alloc (.cells #[.int .i64 l, .int .i64 r, .int .i64 c] 102)).alloc (.cells #[.int .i64 a0, .int .i64 a1, .int .i64 o0, .int .i64 o1, .int .i64 r0, .int .i64 r1] 39) = w2 at XX CC B0 ⊢
  refine wp_region_inv3 (by kernel_rfl) (SuI w2 (.agg #[.int .i64 a0, .int .i64 a1, .int .i64 o0, .int .i64 o1, .int .i64 r0, .int .i64 r1]) (.agg #[.int .i64 l, .int .i64 r, .int .i64 c]) (.agg #[.int .i64 q0, .int .i64 q1, .int .i64 q2, .int .i64 q3]) (.agg #[.int .i64 q0, .int .i64 q1, .int .i64 a0, .int .i64 a1, .int .i64 (q2 - o1), .int .i64 (q3 - o0)]) (.agg #[.int .i64 s0, .int .i64 s1]) (fun _ => ((s0 : Int), (s1 : Int)))) (waits_bind (by kernel_rfl)) ?start ?step ?fin
  case start => exact SuI.start w2 _ _ _ _ _ _ _
  case step =>
    rintro L i o a1' w' ho hL haf ⟨v7, v8, v9, v10, v11, v5, g, rfl, hT, e0, e1, e2, e3, e4, e5⟩
    have HT := Lib.hid hT
    clear hT
    have E0 := Lib.hid e0
    have E1 := Lib.hid e1
    have E2 := Lib.hid e2
    have E3 := Lib.hid e3
    have E4 := Lib.hid e4
    have E5 := Lib.hid e5
    clear e0 e1 e2 e3 e4 e5
    rcases i with _ | _ | _ | _ | _ | _ | _ | i
    all_goals (simp at ho; try subst ho)
    all_goals (try simp [Region.binds] at haf)
    · have z9 := CC.out.below HT.out.bl CC.out.lt
      have k0 : w'.cell? ⟨w.heap.size + 1, 0, none⟩ = some (.int .i64 a0) := z9.cell 0
      have k1 : w'.cell? ⟨w.heap.size + 1, 1, none⟩ = some (.int .i64 a1) := z9.cell 1
      have k2 : w'.cell? ⟨w.heap.size + 1, 2, none⟩ = some (.int .i64 o0) := z9.cell 2
      have k3 : w'.cell? ⟨w.heap.size + 1, 3, none⟩ = some (.int .i64 o1) := z9.cell 3
      have k4 : w'.cell? ⟨w.heap.size + 1, 4, none⟩ = some (.int .i64 r0) := z9.cell 4
      have k5 : w'.cell? ⟨w.heap.size + 1, 5, none⟩ = some (.int .i64 r1) := z9.cell 5
      clear z9
      go_wp2
      unfold SuI
      exact ⟨(.agg #[.int .i64 a0, .int .i64 a1, .int .i64 o0, .int .i64 o1, .int .i64 r0, .int .i64 r1]), v8, v9, v10, v11, v5, g, by simp only [Act.put, List.setIfInBounds_toArray, List.set_cons_zero, List.set_cons_succ], HT.out.mark 0 (by decide), fun _ => rfl, kq E1, kq E2, kq E3, kq E4, kq E5⟩
    · have z9 := XX.out.below HT.out.bl XX.out.lt
      have k0 : w'.cell? ⟨w.heap.size, 0, none⟩ = some (.int .i64 l) := z9.cell 0
      have k1 : w'.cell? ⟨w.heap.size, 1, none⟩ = some (.int .i64 r) := z9.cell 1
      have k2 : w'.cell? ⟨w.heap.size, 2, none⟩ = some (.int .i64 c) := z9.cell 2
      clear z9
      go_wp2
      unfold SuI
      exact ⟨v7, (.agg #[.int .i64 l, .int .i64 r, .int .i64 c]), v9, v10, v11, v5, g, by simp only [Act.put, List.setIfInBounds_toArray, List.set_cons_zero, List.set_cons_succ], HT.out.mark 1 (by decide), kq E0, fun _ => rfl, kq E2, kq E3, kq E4, kq E5⟩
    · obtain rfl := E1.out (by simp [haf])
      go_wp2_with fail
      (with_reducible refine (KB.out _).mono ?_)
      rintro e w9 ⟨rfl, hb9⟩
      go_wp2
      unfold SuI
      exact ⟨v7, (.agg #[.int .i64 l, .int .i64 r, .int .i64 c]), (.agg #[.int .i64 q0, .int .i64 q1, .int .i64 q2, .int .i64 q3]), v10, v11, v5, g, by simp only [Act.put, List.setIfInBounds_toArray, List.set_cons_zero, List.set_cons_succ], (HT.out.call hb9).mark 2 (by decide), kq E0, fun _ => rfl, fun _ => rfl, kq E3, kq E4, kq E5⟩
    · obtain rfl := E0.out (by simp [haf])
      obtain rfl := E2.out (by simp [haf])
      go_wp2_with fail
      (with_reducible refine (KT.out _).mono ?_)
      rintro e w9 ⟨rfl, hb9⟩
      go_wp2
      unfold SuI
      exact ⟨(.agg #[.int .i64 a0, .int .i64 a1, .int .i64 o0, .int .i64 o1, .int .i64 r0, .int .i64 r1]), v8, (.agg #[.int .i64 q0, .int .i64 q1, .int .i64 q2, .int .i64 q3]), (.agg #[.int .i64 q0, .int .i64 q1, .int .i64 a0, .int .i64 a1, .int .i64 (q2 - o1), .int .i64 (q3 - o0)]), v11, v5, g, by simp only [Act.put, List.setIfInBounds_toArray, List.set_cons_zero, List.set_cons_succ], (HT.out.call hb9).mark 3 (by decide), fun _ => rfl, kq E1, fun _ => rfl, fun _ => rfl, kq E4, kq E5⟩
    · obtain rfl := E3.out (by simp [haf])
      go_wp2_with fail
      (with_reducible refine (KS.out _).mono ?_)
      rintro e w9 ⟨rfl, hb9⟩
      go_wp2
      unfold SuI
      exact ⟨v7, v8, v9, (.agg #[.int .i64 q0, .int .i64 q1, .int .i64 a0, .int .i64 a1, .int .i64 (q2 - o1), .int .i64 (q3 - o0)]), (.agg #[.int .i64 s0, .int .i64 s1]), v5, g, by simp only [Act.put, List.setIfInBounds_toArray, List.set_cons_zero, List.set_cons_succ], (HT.out.call hb9).mark 4 (by decide), kq E0, kq E1, kq E2, fun _ => rfl, fun _ => rfl, kq E5⟩
    · go_wp2
      unfold SuI
      exact ⟨v7, v8, v9, v10, v11, (.pointer (some ⟨w'.heap.size, 0, none⟩)), (fun j => if j = 0 then w'.heap.size else g j), by simp only [Act.put, List.setIfInBounds_toArray, List.set_cons_zero, List.set_cons_succ], HT.out.al 0 (by decide) (by decide) hL _, kq E0, kq E1, kq E2, kq E3, kq E4, fun _ => rfl⟩
    · obtain rfl := E5.out (by simp [haf])
      obtain rfl := E4.out (by simp [haf])
      have hA : L 5 = true := by simp [haf]
      obtain ⟨zt, z0, z1, zf0, zf1⟩ := HT.out.z 0 (by decide) hA hL
      have HS := Lib.hid (HT.out.st 0 (by decide) (by decide) hA hL rfl)
      go_wp2
      unfold SuI
      exact ⟨v7, v8, v9, v10, (.agg #[.int .i64 s0, .int .i64 s1]), (.pointer (some ⟨g 0, 0, none⟩)), g, by simp only [Act.put, List.setIfInBounds_toArray, List.set_cons_zero, List.set_cons_succ], HS.out, kq E0, kq E1, kq E2, kq E3, fun _ => rfl, fun _ => rfl⟩
  case fin =>
    rintro L a1' w3 hall ⟨v7, v8, v9, v10, v11, v5, g, rfl, hT, e0, e1, e2, e3, e4, e5⟩
    obtain rfl := e0 (hall 0 (by decide))
    obtain rfl := e1 (hall 1 (by decide))
    obtain rfl := e2 (hall 2 (by decide))
    obtain rfl := e3 (hall 3 (by decide))
    obtain rfl := e4 (hall 4 (by decide))
    obtain rfl := e5 (hall 5 (by decide))
    have D5 : Hid (D2 w3 (g 0) s0 s1) := Lib.hid (hT.k 0 (by decide) (hall 6 (by decide)))
    have C3 := Lib.hid (CC.out.below hT.bl CC.out.lt)
    have B3 := Lib.hid (B0.out.trans (hT.bl.mono B0.out.size))
    clear hT hall XX CC B0 KB KT KS
    generalize g 0 = g5 at *
    clear g
    have k4 : w3.cell? ⟨w.heap.size + 1, 4, none⟩ = some (.int .i64 r0) := C3.out.cell 4
    have k5 : w3.cell? ⟨w.heap.size + 1, 5, none⟩ = some (.int .i64 r1) := C3.out.cell 5
    go_wp2_with fail
    (with_reducible refine (KC.out _).mono ?_)
    rintro e w4 ⟨rfl, hb4⟩
    have D4' := Lib.hid ((D5.out.below hb4 D5.out.lt).alloc (.cells #[.int .i64 t0, .int .i64 t1] 97))
    have b4 := B3.out.trans (hb4.mono B3.out.size)
    have B4 := Lib.hid (b4.alloc b4.size (.cells #[.int .i64 t0, .int .i64 t1] 97))
    clear hb4 b4 C3 B3 D5 k4 k5 KC
    obtain ⟨-, u0, u1, -, -⟩ := D4'.out
    have hb0 := HB0.out
    have hb1 := HB1.out
    cases b0 with
    | false =>
      clear hb1
      go_wp2
      go_ret
      exact ⟨rfl, B4.out⟩
    | true =>
      cases b1 with
      | false =>
        go_wp2
        go_ret
        exact ⟨rfl, B4.out⟩
      | true =>
        go_wp2
        go_ret
        exact ⟨rfl, B4.out⟩
set_option maxHeartbeats 2000000 in
set_option maxRecDepth 100000 in
theorem fInside_any (x y : Int × Int) (w : World) (hx : fvB x.1 x.2 = true) (hy : fvB y.1 y.2 = true) : Calls Tryz.prog 255 #[.agg #[.int .i64 x.1, .int .i64 x.2], .agg #[.int .i64 y.1, .int .i64 y.2]] w fun e w' => e = .returned (.bool (decide (y.1 ≤ x.1) && decide (x.2 ≤ y.2))) ∧ Below w.heap.size w w' := by
  obtain ⟨x0, x1⟩ := x
  obtain ⟨y0, y1⟩ := y
  simp only [] at hx hy ⊢
  have KB := Lib.hid (fun W => both_any x0 x1 y0 y1 W hx hy)
  have B0 := Lib.hid ((bl_alloc w (.cells #[.int .i64 x0, .int .i64 x1] 97)).alloc (by simp) (.cells #[.int .i64 y0, .int .i64 y1] 97))
  have X0 := Lib.hid ((D2.new w x0 x1 97).alloc (.cells #[.int .i64 y0, .int .i64 y1] 97))
  have dy := D2.new (w.alloc (.cells #[.int .i64 x0, .int .i64 x1] 97)) y0 y1 97
  rw [World.size_alloc] at dy
  have Y0 := Lib.hid dy
  obtain ⟨b0, hb0⟩ : ∃ v, decide (y0 ≤ x0) = v := ⟨_, rfl⟩
  obtain ⟨b1, hb1⟩ : ∃ v, decide (x1 ≤ y1) = v := ⟨_, rfl⟩
  rw [hb0, hb1]
  have HB0 := Lib.hid hb0
  have HB1 := Lib.hid hb1
  clear hb0 hb1 hx hy dy
  go_enter Tryz.func255, Tryz.ntmps255
  go_wp2_with fail
  (with_reducible refine (KB.out _).mono ?_)
  rintro e w1 ⟨rfl, hb1⟩
  have B1 := Lib.hid (B0.out.trans (hb1.mono B0.out.size))
  obtain ⟨-, u0, u1, -, -⟩ := X0.out.below hb1 X0.out.lt
  obtain ⟨-, u2, u3, -, -⟩ := Y0.out.below hb1 Y0.out.lt
  clear hb1
  have hb0 := HB0.out
  have hb1 := HB1.out
  cases b0 with
  | false =>
    clear hb1
    go_wp2
    go_ret
    exact ⟨rfl, B1.out⟩
  | true =>
    cases b1 with
    | false =>
      go_wp2
      go_ret
      exact ⟨rfl, B1.out⟩
    | true =>
      go_wp2
      go_ret
      exact ⟨rfl, B1.out⟩
set_option maxHeartbeats 2000000 in
set_option maxRecDepth 100000 in
theorem keepS_any (g : Nat) (lo hi : Int) (w : World) (h : Blk w g 32 #[.int .i64 0]) :
    Calls Tryz.prog 283 #[.agg #[.int .i64 lo, .int .i64 hi], .int .i64 0, .pointer (some ⟨g, 0, none⟩)] w fun e w' => e = .returned (.agg #[.int .i64 lo, .int .i64 hi]) ∧ Below w.heap.size w w' := by
  have hg := h.lt
  have c0 : w.cell? ⟨g, 0, none⟩ = some (.int .i64 0) := by rw [h.cell 0]; rfl
  have f0 := h.frozen 0
  have HB := Lib.hid (bl_same (Below.refl w.heap.size w) h)
  clear h
  go_enter Tryz.func283, Tryz.ntmps283
  go_wp2
  refine bodyPost_ret (v := .agg #[.int .i64 lo, .int .i64 hi]) (by simp [results, Tryz.results283, go_sem, *]; done) rfl ⟨rfl, ?_⟩
  exact (HB.out.alloc HB.out.size _).alloc (by have := HB.out.size; first | (simp; done) | (simp; omega)) _
end Go.Proofs.YtifdgdgfmjfbdaaGreat
namespace Go.Proofs.YtifdgdgfmjfbdaaGreat
open Go.RowKit
/-- all but the variable and its old row stays as it was -/
structure XK (B : Nat) (v : Value) (W W' : World) : Prop where
  os : W'.os = W.os
  tape : W'.tape = W.tape
  output : W'.output = W.output
  size : W.heap.size ≤ W'.heap.size
  block : ∀ k, k < W.heap.size → k ≠ B → v.ownBlock ≠ some k → W'.heap[k]? = W.heap[k]?
/-- the new row is the old one, or a new block -/
def Nx (W : World) (v v' : Value) : Prop := v'.ownBlock = v.ownBlock ∨ ∀ k, v'.ownBlock = some k → W.heap.size ≤ k
theorem Nx.refl (W : World) (v : Value) : Nx W v v := .inl rfl
theorem XK.refl (B : Nat) (v : Value) (W : World) : XK B v W W := ⟨rfl, rfl, rfl, Nat.le_refl _, fun _ _ _ _ => rfl⟩
theorem Nx.trans {W W1 : World} {v v1 v2 : Value} (h : Nx W v v1) (hs : W.heap.size ≤ W1.heap.size) (k : Nx W1 v1 v2) : Nx W v v2 := by
  rcases k with k | k
  · rcases h with h | h
    · exact .inl (k.trans h)
    · exact .inr fun j hj => h j (by rw [← k]; exact hj)
  · exact .inr fun j hj => Nat.le_trans hs (k j hj)
theorem XK.trans {B : Nat} {v v1 : Value} {W W1 W2 : World} (h : XK B v W W1) (n : Nx W v v1) (k : XK B v1 W1 W2) : XK B v W W2 :=
  ⟨k.os.trans h.os, k.tape.trans h.tape, k.output.trans h.output, Nat.le_trans h.size k.size, fun j hj hB hv => by
    refine (k.block j (Nat.lt_of_lt_of_le hj h.size) hB ?_).trans (h.block j hj hB hv)
    rcases n with n | n
    · rw [n]; exact hv
    · intro e; have := n j e; omega⟩
theorem XK.of_below {B : Nat} {v : Value} {W W' : World} (h : Below W.heap.size W W') : XK B v W W' := ⟨h.os, h.tape, h.output, h.size, fun k hk _ _ => h.block k hk⟩
theorem XK.below {B n₀ : Nat} {v : Value} {W W' : World} (h : XK B v W W') (hB : n₀ ≤ B) (hv : ∀ k, v.ownBlock = some k → n₀ ≤ k) (h0 : n₀ ≤ W.heap.size) : Below n₀ W W' :=
  ⟨h.os, h.tape, h.output, h.size, fun k hk => h.block k (by omega) (by omega) (fun e => by have := hv k e; omega)⟩
theorem XK.grown {B : Nat} {v : Value} {W W1 W2 : World} (h : XK B v W W1) (hg : W1.grownBy W2 v.ownBlock) : XK B v W W2 :=
  ⟨hg.os.trans h.os, hg.tape.trans h.tape, hg.output.trans h.output, Nat.le_trans h.size hg.size, fun k hk hB hv => (hg.block k (Nat.lt_of_lt_of_le hk h.size) (fun e => hv e.symm)).trans (h.block k hk hB hv)⟩
theorem XK.set {B : Nat} {v : Value} {W W1 : World} (h : XK B v W W1) (u : Value) : XK B v W (W1.setCell ⟨B, 0, none⟩ u) :=
  ⟨h.os, h.tape, h.output, by simpa [World.setCell] using h.size, fun k hk hB hv => (Below.heap_setCell W1 _ _ k (fun e => hB (by rw [e]))).trans (h.block k hk hB hv)⟩
theorem XK.blk {B : Nat} {v : Value} {W W' : World} (h : XK B v W W') {g : Nat} {t : TypeId} {cs : Array Value} (hg : Blk W g t cs) (hB : g ≠ B) (hv : v.ownBlock ≠ some g) : Blk W' g t cs := (h.block g hg.lt hB hv).trans hg
theorem own_ltK {W : World} {base : Nat} {e : TypeId} {size n : Nat} {v : Value} {xs : List Value} (h : W.ownsRow base e size v n xs) (k : Nat) (hk : v.ownBlock = some k) : k < W.heap.size := by
  rcases h.2 with ⟨rfl, _⟩ | ⟨g, cap, cur, rfl, hg, hh, _⟩
  · simp [Value.ownBlock] at hk
  · simp [Value.ownBlock] at hk
    subst hk
    exact (Array.getElem?_eq_some_iff.1 hh).1
theorem own_xk {B : Nat} {v u : Value} {W W' : World} {base : Nat} {e : TypeId} {size n : Nat} {xs : List Value} (h : W.ownsRow base e size u n xs) (hx : XK B v W W') (hu : ∀ k, u.ownBlock = some k → k ≠ B ∧ v.ownBlock ≠ some k) : W'.ownsRow base e size u n xs := by
  refine ⟨h.1, ?_⟩
  rcases h.2 with h1 | ⟨g, cap, cur, rfl, hg, hh, hr⟩
  · exact .inl h1
  · obtain ⟨u1, u2⟩ := hu g (by simp [Value.ownBlock])
    exact .inr ⟨g, cap, cur, rfl, hg, (hx.block g (Array.getElem?_eq_some_iff.1 hh).1 u1 u2).trans hh, hr⟩
/-- the variable in block B holds a slice that owns the cells L -/
structure St (n₀ B : Nat) (W : World) (v : Value) (L : List Cl) : Prop where
  box : Boxed W B 48 v
  row : W.ownsRow n₀ 102 3 v L.length (cvs L)
theorem St.below {n₀ B : Nat} {W W' : World} {v : Value} {L : List Cl} (h : St n₀ B W v L) (hb : Below W.heap.size W W') : St n₀ B W' v L :=
  ⟨(hb.block B h.box.lt).trans h.box, own_bl h.row hb (Nat.le_refl _)⟩
/-- from a state to another one -/
def Goes (n₀ B : Nat) (v : Value) (W : World) (L : List Cl) (W' : World) : Prop := ∃ v', St n₀ B W' v' L ∧ XK B v W W' ∧ Nx W v v'
theorem Goes.after {n₀ B : Nat} {v : Value} {W W1 W2 : World} {L : List Cl} (hb : Below W.heap.size W W1) (h : Goes n₀ B v W1 L W2) : Goes n₀ B v W L W2 := by
  obtain ⟨v', st, xk, nx⟩ := h
  exact ⟨v', st, (XK.of_below hb).trans (Nx.refl _ _) xk, (Nx.refl _ _).trans hb.size nx⟩
/-- a slice that owns a row owns its first part, too -/
theorem own_take3 {W : World} {base : Nat} {e : TypeId} {size n g cap : Nat} {xs : List Value} (h : W.ownsRow base e size (.slice (some ⟨g, 0, none⟩) n cap) n xs) (k : Nat) (hk : k ≤ n) : W.ownsRow base e size (.slice (some ⟨g, 0, none⟩) k cap) k (xs.take (k * size)) := by
  have h1 := h.1
  have hm : k * size ≤ n * size := Nat.mul_le_mul_right _ hk
  refine ⟨by rw [List.length_take]; omega, ?_⟩
  rcases h.2 with ⟨e', _⟩ | ⟨g', cap', cur, e', hg, hh, h2, h3, h4, h5⟩
  · cases e'
  · cases e'
    refine .inr ⟨g, cap, cur, rfl, hg, hh, by omega, h3, h4, ?_⟩
    rw [← h5, List.take_take, Nat.min_eq_left hm]
theorem cvs_take (L : List Cl) (k : Nat) : (cvs L).take (k * 3) = cvs (L.take k) := by
  induction L generalizing k with
  | nil => simp [cvs]
  | cons x r ih =>
    cases k with
    | zero => simp [cvs]
    | succ k =>
      have e : (k + 1) * 3 = k * 3 + 3 := by omega
      have hc : cvs (x :: r) = .int .i64 x.1 :: .int .i64 x.2.1 :: .int .i64 x.2.2 :: cvs r := rfl
      have hd : cvs ((x :: r).take (k + 1)) = .int .i64 x.1 :: .int .i64 x.2.1 :: .int .i64 x.2.2 :: cvs (r.take k) := rfl
      rw [hc, hd, e]
      simp only [List.take_succ_cons]
      rw [ih]
/-- reading the last part of a slice of cells -/
theorem Reads.drop {W : World} {B n b off : Nat} {L : List Cl} (h : Reads W B 3 (some ⟨b, off, none⟩) n (cvs L)) (k : Nat) (hk : k < n) : Reads W B 3 (some ⟨b, off + k * 3, none⟩) (n - k) (cvs (L.drop k)) := by
  have hl : L.length = n := by have := h.1; rw [cvs_length] at this; omega
  refine ⟨by rw [cvs_length, List.length_drop, hl], fun _ => ⟨_, rfl, ?_, ?_⟩⟩
  · obtain ⟨ad, e, hb, _⟩ := h.2 (by omega)
    cases e
    exact hb
  · obtain ⟨ad, e, hb, hc⟩ := h.2 (by omega)
    cases e
    intro j u hu
    have hs : (cvs L).drop (k * 3) = cvs (L.drop k) := by
      have h1 := List.take_append_drop (k * 3) (cvs L)
      rw [cvs_take] at h1
      have h2 : cvs L = cvs (L.take k) ++ cvs (L.drop k) := by rw [← cvs_append, List.take_append_drop]
      have h3 : (cvs (L.take k)).length = k * 3 := by rw [cvs_length, List.length_take]; omega
      rw [h2, ← h3, List.drop_left]
    have := hc (k * 3 + j) u (by rw [← List.getElem?_drop, hs]; exact hu)
    rw [Go.WideShapes.add_plain] at this ⊢
    rw [← Nat.add_assoc] at this
    exact this
end Go.Proofs.YtifdgdgfmjfbdaaGreat
namespace Go.Proofs.YtifdgdgfmjfbdaaGreat
open Canon
/-! ### lengths and validity of what is put together -/
theorem mg1_v {L : List Cl} (hL : AllV L) (h : four4 L = true) : AllV (mg1 L) := by
  unfold four4 at h
  rw [Bool.and_eq_true, Bool.and_eq_true, decide_eq_true_eq, decide_eq_true_eq] at h
  intro x hx
  rcases List.mem_append.1 hx with hx | hx
  · exact hL x (List.mem_of_mem_take hx)
  · simp at hx
    subst hx
    exact par_vl (gt_v hL (by omega)) h.2.1
theorem mg1_short {L : List Cl} (h : four4 L = true) : (mg1 L).length + 3 = L.length := by
  unfold four4 at h
  rw [Bool.and_eq_true, decide_eq_true_eq] at h
  unfold mg1
  simp
  omega
theorem one_app {O : List Cl} {c : Cl} (hO : AllV O) (hc : Vl c) : AllV (O ++ [c]) := by
  intro x hx
  rcases List.mem_append.1 hx with hx | hx
  · exact hO x hx
  · simp at hx; subst hx; exact hc
end Go.Proofs.YtifdgdgfmjfbdaaGreat
namespace Go.Proofs.YtifdgdgfmjfbdaaGreat
open Go.RowKit
def gl (LL : List (List Cl)) (k : Nat) : List Cl := LL.getD k []
section
variable {W W' : World} {B : Nat} {v : Value} {LL : List (List Cl)} {vs : List Value}
end
end Go.Proofs.YtifdgdgfmjfbdaaGreat
namespace Go.Proofs.YtifdgdgfmjfbdaaGreat
open Go.RowKit
def gb (D : List Bx) (k : Nat) : Bx := D.getD k (0, 0, 0, 0)
section
variable {w1 W W' : World} {i : Nat} {C f f' : Nat → Nat} {v13 v14 : Value} {LL : List (List Cl)} {vs : List Value} {D : List Nat}
end
end Go.Proofs.YtifdgdgfmjfbdaaGreat
