/- The walk of the reference's Radius. -/
import Derived.Test.YtienkfcliocjgaaGreatGAn
import Derived.Test.YtienkfcliocjgaaGreatGRin
import Derived.Test.YtienkfcliocjgaaGreatGBase
set_option linter.unusedVariables false
set_option linter.unusedSimpArgs false
namespace Go.Proofs.YtienkfcliocjgaaGreat
open Go.RowKit
/-- what a region leaves that makes an arc of two known numbers in a block of its own, among its operations an alloc and a store -/
structure RI (W2 w : World) (L : Nat → Bool) (i6 i7 g : Nat) (d0 d1 : Int) : Prop where
  bl : Below W2.heap.size W2 w
  d7 : L i7 = true → L i6 = true
  lo : L i6 = true → W2.heap.size ≤ g
  z : L i6 = true → L i7 = false → K2 w g 0 0
  k : L i7 = true → K2 w g d0 d1
section
variable {W2 w w' : World} {L : Nat → Bool} {i6 i7 g : Nat} {d0 d1 : Int}
theorem RI.start (W2 : World) (i6 i7 : Nat) (d0 d1 : Int) : RI W2 W2.drew (fun _ => false) i6 i7 0 d0 d1 :=
  ⟨bl_drew (Below.refl _ _), fun h => (by cases h), fun h => (by cases h), fun h => (by cases h), fun h => (by cases h)⟩
theorem RI.call (h : RI W2 w L i6 i7 g d0 d1) (hb : Below w.heap.size w w') : RI W2 w' L i6 i7 g d0 d1 :=
  ⟨h.bl.trans (hb.mono h.bl.size), h.d7, h.lo, fun p q => (h.z p q).below hb (h.z p q).lt, fun p => (h.k p).below hb (h.k p).lt⟩
theorem RI.mark (h : RI W2 w L i6 i7 g d0 d1) (i : Nat) (h6 : ¬ i6 = i) (h7 : ¬ i7 = i) : RI W2 w (mkd L i) i6 i7 g d0 d1 := by
  constructor
  · exact h.bl
  all_goals simp only [mkd_ne h6, mkd_ne h7]
  · exact h.d7
  · exact h.lo
  · exact h.z
  · exact h.k
theorem RI.al (h : RI W2 w L i6 i7 g d0 d1) (h6 : L i6 = false) (hne : ¬ i7 = i6) (t : TypeId) : RI W2 (w.alloc (.cells #[.int .i64 0, .int .i64 0] t)) (mkd L i6) i6 i7 w.heap.size d0 d1 := by
  have n7 : L i7 = false := by
    cases e : L i7 with
    | false => rfl
    | true => rw [h.d7 e] at h6; cases h6
  constructor
  · exact h.bl.alloc h.bl.size _
  all_goals simp only [mkd_same, mkd_ne hne]
  · exact fun _ => trivial
  · exact fun _ => h.bl.size
  · exact fun _ _ => K2.new w 0 0 t
  · intro p; rw [n7] at p; cases p
theorem RI.st (h : RI W2 w L i6 i7 g d0 d1) (h6 : L i6 = true) (h7 : L i7 = false) (hne : ¬ i6 = i7) : RI W2 ((w.setCell ⟨g, 0, none⟩ (.int .i64 d0)).setCell ⟨g, 1, none⟩ (.int .i64 d1)) (mkd L i7) i6 i7 g d0 d1 := by
  have hg := h.lo h6
  have z := h.z h6 h7
  constructor
  · exact (h.bl.setCell hg _).setCell hg _
  all_goals simp only [mkd_same, mkd_ne hne]
  · exact fun _ => h6
  · exact h.lo
  · intro _ p; cases p
  · exact fun _ => (z.set0 d0).set1 d1
end
theorem put_self (a : Act) (i : Nat) : a.put (some i) (a.tmps.getD i undef) = a := by
  cases a with
  | mk t d =>
    have : t.setIfInBounds i (t.getD i undef) = t := by
      apply Array.ext
      · simp
      · intro j h1 h2
        rw [Array.getElem_setIfInBounds]
        split
        · rename_i e
          subst e
          simp [Array.getD, h2]
        · rfl
    show Act.mk (t.setIfInBounds i (t.getD i undef)) d = _
    rw [this]
/-- the state of the region that takes a later box's distance -/
def RInv5 (W2 : World) (A iv : Value) (q : Addr) (x0 x1 x2 q0 q1 q2 q3 p0 p1 d0 d1 : Int) (a : Act) (L : Nat → Bool) (a' : Act) (w' : World) : Prop :=
  ∃ (v20 v21 v22 v23 v24 v25 v26 v7 : Value) (g : Nat), a' = (((((((a.put (some 20) v20).put (some 21) v21).put (some 22) v22).put (some 23) v23).put (some 24) v24).put (some 25) v25).put (some 26) v26).put (some 7) v7 ∧ RI W2 w' L 7 8 g d0 d1 ∧
    (L 0 = true → v20 = A) ∧ (L 1 = true → v21 = iv) ∧ (L 2 = true → v22 = .pointer (some q)) ∧ (L 3 = true → v23 = .agg #[.int .i64 x0, .int .i64 x1, .int .i64 x2]) ∧ (L 4 = true → v24 = .agg #[.int .i64 q0, .int .i64 q1, .int .i64 q2, .int .i64 q3]) ∧ (L 5 = true → v25 = .agg #[.int .i64 p0, .int .i64 p1]) ∧ (L 6 = true → v26 = .agg #[.int .i64 d0, .int .i64 d1]) ∧ (L 7 = true → v7 = .pointer (some ⟨g, 0, none⟩))
theorem RInv5.start (W2 : World) (A iv : Value) (q : Addr) (x0 x1 x2 q0 q1 q2 q3 p0 p1 d0 d1 : Int) (a : Act) : RInv5 W2 A iv q x0 x1 x2 q0 q1 q2 q3 p0 p1 d0 d1 a (fun _ => false) a W2.drew :=
  ⟨_, _, _, _, _, _, _, _, 0, by rw [put_self a 20, put_self a 21, put_self a 22, put_self a 23, put_self a 24, put_self a 25, put_self a 26, put_self a 7], RI.start W2 7 8 d0 d1, fun h => (by cases h), fun h => (by cases h), fun h => (by cases h), fun h => (by cases h), fun h => (by cases h), fun h => (by cases h), fun h => (by cases h), fun h => (by cases h)⟩
/-- the state of the region that takes the first box's distance -/
def RInv (W2 : World) (A : Value) (q : Addr) (x0 x1 x2 q0 q1 q2 q3 p0 p1 d0 d1 : Int) (a : Act) (L : Nat → Bool) (a' : Act) (w' : World) : Prop :=
  ∃ (v8 v9 v10 v11 v12 v13 v5 : Value) (g : Nat), a' = ((((((a.put (some 8) v8).put (some 9) v9).put (some 10) v10).put (some 11) v11).put (some 12) v12).put (some 13) v13).put (some 5) v5 ∧ RI W2 w' L 6 7 g d0 d1 ∧
    (L 0 = true → v8 = A) ∧ (L 1 = true → v9 = .pointer (some q)) ∧ (L 2 = true → v10 = .agg #[.int .i64 x0, .int .i64 x1, .int .i64 x2]) ∧ (L 3 = true → v11 = .agg #[.int .i64 q0, .int .i64 q1, .int .i64 q2, .int .i64 q3]) ∧ (L 4 = true → v12 = .agg #[.int .i64 p0, .int .i64 p1]) ∧ (L 5 = true → v13 = .agg #[.int .i64 d0, .int .i64 d1]) ∧ (L 6 = true → v5 = .pointer (some ⟨g, 0, none⟩))
theorem RInv.start (W2 : World) (A : Value) (q : Addr) (x0 x1 x2 q0 q1 q2 q3 p0 p1 d0 d1 : Int) (a : Act) : RInv W2 A q x0 x1 x2 q0 q1 q2 q3 p0 p1 d0 d1 a (fun _ => false) a W2.drew :=
  ⟨_, _, _, _, _, _, _, 0, by rw [put_self a 8, put_self a 9, put_self a 10, put_self a 11, put_self a 12, put_self a 13, put_self a 5], RI.start W2 6 7 d0 d1, fun h => (by cases h), fun h => (by cases h), fun h => (by cases h), fun h => (by cases h), fun h => (by cases h), fun h => (by cases h), fun h => (by cases h)⟩
set_option maxHeartbeats 8000000 in
set_option maxRecDepth 100000 in
theorem rRadius_any (A : Option Addr) (n c : Nat) (L0 : List Cl) (p0 p1 : Int) (w : World) (hr : Reads w w.heap.size 3 A n (cvs L0)) (hn : n ≤ maxLen) (hv : vrB L0 = true) (hp : okP (p0, p1) = true) (h0 : 0 < n) :
    Calls Tryz.prog 12 #[.slice A n c, .agg #[.int .i64 p0, .int .i64 p1]] w fun e w' => e = .returned (.agg #[.int .i64 (radF (L0.map bxI) (p0, p1) n).1, .int .i64 (radF (L0.map bxI) (p0, p1) n).2]) ∧ Below w.heap.size w w' := by
  have HL : Hid ((L0.map bxI).length = n) := Lib.hid (by rw [List.length_map]; exact hr.len)
  have HR := Lib.hid hr
  have hvl := ((vrB_iff L0).1 hv).2.1
  have hfew : n ≤ 4000 := by have := ((vrB_iff L0).1 hv).1; rw [hr.len] at this; exact this
  have hbx : ∀ k, k < n → gb (L0.map bxI) k = bxI (gt L0 k) := fun k hk => by
    have : k < L0.length := by rw [hr.len]; exact hk
    simp [gb, gt, this]
  have KB : Hid (∀ k, k < n → ∀ W, Calls Tryz.prog 22 #[.agg #[.int .i64 (gt L0 k).1, .int .i64 (gt L0 k).2.1, .int .i64 (gt L0 k).2.2]] W fun e w' => e = .returned (.agg #[.int .i64 (gb (L0.map bxI) k).1, .int .i64 (gb (L0.map bxI) k).2.1, .int .i64 (gb (L0.map bxI) k).2.2.1, .int .i64 (gb (L0.map bxI) k).2.2.2]) ∧ Below W.heap.size W w') := Lib.hid fun k hk W => by
    have hk' : k < L0.length := by rw [hr.len]; exact hk
    have := refBox_any (gt L0 k).1 (gt L0 k).2.1 (gt L0 k).2.2 W ((vl_iff _).2 (hvl _ (by simp [gt, hk'])))
    rw [boxV_bx] at this
    rw [hbx k hk]
    exact this
  have KD := Lib.hid (fun k (hk : k < n) W => Distance_any (gb (L0.map bxI) k) (p0, p1) W (okB_gb hvl (by rw [HL.out]; exact hk)) hp)
  clear hp hv hr hvl hbx
  generalize L0.map bxI = D at *
  have T0 := Lib.hid ((K2.new w p0 p1 24).alloc (.cells #[.int .i64 0, .int .i64 0] 27))
  have z0 := K2.new (w.alloc (.cells #[.int .i64 p0, .int .i64 p1] 24)) 0 0 27
  rw [World.size_alloc] at z0
  have Z0 := Lib.hid z0
  clear z0
  have B0 := Lib.hid ((bl_alloc w (.cells #[.int .i64 p0, .int .i64 p1] 24)).alloc (by simp) (.cells #[.int .i64 0, .int .i64 0] 27))
  obtain ⟨b, off, rfl, hb, x0, x1, x2⟩ := HR.out.elem h0
  have Y0 : Hid (∀ W, Below w.heap.size w W → ∀ k, k < n → W.cell? ⟨b, off + k * 3, none⟩ = some (.int .i64 (gt L0 k).1) ∧ W.cell? ⟨b, off + k * 3 + 1, none⟩ = some (.int .i64 (gt L0 k).2.1) ∧ W.cell? ⟨b, off + k * 3 + 2, none⟩ = some (.int .i64 (gt L0 k).2.2)) := Lib.hid (fun W hW k hk => by
    obtain ⟨b', off', e, hb', x0, x1, x2⟩ := HR.out.elem hk
    cases e
    exact ⟨(hW.cell (p := ⟨b, off + k * 3, none⟩) hb).trans x0, (hW.cell (p := ⟨b, off + k * 3 + 1, none⟩) hb).trans x1, (hW.cell (p := ⟨b, off + k * 3 + 2, none⟩) hb).trans x2⟩)
  clear x0 x1 x2 HR
  go_enter Tryz.func12, Tryz.ntmps12
  go_upto_region 1 with (fail)
  have hz2 : ((w.alloc (.cells #[.int .i64 p0, .int .i64 p1] 24)).alloc (.cells #[.int .i64 0, .int .i64 0] 27)).heap.size = w.heap.size + 2 := by simp
  generalize (w.alloc (.cells #[.int .i64 p0, .int .i64 p1] 24)).alloc (.cells #[.int .i64 0, .int .i64 0] 27) = W2 at *
  have HRAD := Lib.hid (radF_one D (p0, p1) (by rw [HL.out]; exact h0))
  obtain ⟨d0', hd0'⟩ : ∃ d, d = dstV (gb D 0) (p0, p1) := ⟨_, rfl⟩
  have kb := KB.out 0 h0
  have kd := KD.out 0 h0
  rw [← hd0'] at kd HRAD
  obtain ⟨x, hx⟩ : ∃ x, x = gt L0 0 := ⟨_, rfl⟩
  obtain ⟨q, hq⟩ : ∃ q, q = gb D 0 := ⟨_, rfl⟩
  rw [← hx, ← hq] at kb
  rw [← hq] at kd
  have hy0 := Y0.out W2 B0.out 0 h0
  rw [← hx] at hy0
  clear hx hq hd0'
  obtain ⟨xl, xr, xc⟩ := x
  obtain ⟨q0, q1, q2, q3⟩ := q
  obtain ⟨d0, d1⟩ := d0'
  simp only [Nat.zero_mul, Nat.add_zero] at kb kd hy0 HRAD
  have kb := Lib.hid kb
  have kd := Lib.hid kd
  obtain ⟨x0, x1, x2⟩ := hy0
  have hb2 : b < W2.heap.size := by omega
  refine wp_region_inv2 (by kernel_rfl) (RInv W2 (.slice (some ⟨b, off, none⟩) n c) ⟨b, off, none⟩ xl xr xc q0 q1 q2 q3 p0 p1 d0 d1) (waits_of (by kernel_rfl)) ?start ?step ?fin
  case start => exact RInv.start W2 _ _ _ _ _ _ _ _ _ _ _ _ _ _
  case step =>
    rintro L i o a1' w' ho hL haf ⟨v8, v9, v10, v11, v12, v13, v5, g, rfl, hT, e0, e1, e2, e3, e4, e5, e6⟩
    have HT := Lib.hid hT
    have X0 := (hT.bl.cell (p := ⟨b, off, none⟩) hb2).trans x0
    have X1 := (hT.bl.cell (p := ⟨b, off + 1, none⟩) hb2).trans x1
    have X2 := (hT.bl.cell (p := ⟨b, off + 2, none⟩) hb2).trans x2
    obtain ⟨tt, t0, t1, -, -⟩ := T0.out.below hT.bl T0.out.lt
    clear hT x0 x1 x2
    have E0 := Lib.hid e0
    have E1 := Lib.hid e1
    have E2 := Lib.hid e2
    have E3 := Lib.hid e3
    have E4 := Lib.hid e4
    have E5 := Lib.hid e5
    have E6 := Lib.hid e6
    clear e0 e1 e2 e3 e4 e5 e6
    rcases i with _ | _ | _ | _ | _ | _ | _ | _ | i
    all_goals (simp at ho; try subst ho)
    all_goals (try simp [Region.binds] at haf)
    · go_wp2
      unfold RInv
      exact ⟨(.slice (some ⟨b, off, none⟩) n c), v9, v10, v11, v12, v13, v5, g, by simp only [Act.put, List.setIfInBounds_toArray, List.set_cons_zero, List.set_cons_succ], HT.out.mark 0 (by decide) (by decide), fun _ => rfl, fun h => E1.out (by simpa [mkd] using h), fun h => E2.out (by simpa [mkd] using h), fun h => E3.out (by simpa [mkd] using h), fun h => E4.out (by simpa [mkd] using h), fun h => E5.out (by simpa [mkd] using h), fun h => E6.out (by simpa [mkd] using h)⟩
    · obtain rfl := E0.out haf
      go_wp2
      unfold RInv
      exact ⟨(.slice (some ⟨b, off, none⟩) n c), (.pointer (some ⟨b, off, none⟩)), v10, v11, v12, v13, v5, g, by simp only [Act.put, List.setIfInBounds_toArray, List.set_cons_zero, List.set_cons_succ], HT.out.mark 1 (by decide) (by decide), fun _ => rfl, fun _ => rfl, fun h => E2.out (by simpa [mkd] using h), fun h => E3.out (by simpa [mkd] using h), fun h => E4.out (by simpa [mkd] using h), fun h => E5.out (by simpa [mkd] using h), fun h => E6.out (by simpa [mkd] using h)⟩
    · obtain rfl := E1.out haf
      go_wp2
      unfold RInv
      exact ⟨v8, (.pointer (some ⟨b, off, none⟩)), (.agg #[.int .i64 xl, .int .i64 xr, .int .i64 xc]), v11, v12, v13, v5, g, by simp only [Act.put, List.setIfInBounds_toArray, List.set_cons_zero, List.set_cons_succ], HT.out.mark 2 (by decide) (by decide), fun h => E0.out (by simpa [mkd] using h), fun _ => rfl, fun _ => rfl, fun h => E3.out (by simpa [mkd] using h), fun h => E4.out (by simpa [mkd] using h), fun h => E5.out (by simpa [mkd] using h), fun h => E6.out (by simpa [mkd] using h)⟩
    · obtain rfl := E2.out haf
      go_wp2_with fail
      (with_reducible refine (kb.out _).mono ?_)
      rintro e w9 ⟨rfl, hb9⟩
      go_wp2
      unfold RInv
      exact ⟨v8, v9, (.agg #[.int .i64 xl, .int .i64 xr, .int .i64 xc]), (.agg #[.int .i64 q0, .int .i64 q1, .int .i64 q2, .int .i64 q3]), v12, v13, v5, g, by simp only [Act.put, List.setIfInBounds_toArray, List.set_cons_zero, List.set_cons_succ], (HT.out.call hb9).mark 3 (by decide) (by decide), fun h => E0.out (by simpa [mkd] using h), fun h => E1.out (by simpa [mkd] using h), fun _ => rfl, fun _ => rfl, fun h => E4.out (by simpa [mkd] using h), fun h => E5.out (by simpa [mkd] using h), fun h => E6.out (by simpa [mkd] using h)⟩
    · go_wp2
      unfold RInv
      exact ⟨v8, v9, v10, v11, (.agg #[.int .i64 p0, .int .i64 p1]), v13, v5, g, by simp only [Act.put, List.setIfInBounds_toArray, List.set_cons_zero, List.set_cons_succ], HT.out.mark 4 (by decide) (by decide), fun h => E0.out (by simpa [mkd] using h), fun h => E1.out (by simpa [mkd] using h), fun h => E2.out (by simpa [mkd] using h), fun h => E3.out (by simpa [mkd] using h), fun _ => rfl, fun h => E5.out (by simpa [mkd] using h), fun h => E6.out (by simpa [mkd] using h)⟩
    · obtain rfl := E3.out haf.1
      obtain rfl := E4.out haf.2.1
      go_wp2_with fail
      (with_reducible refine (kd.out _).mono ?_)
      rintro e w9 ⟨rfl, hb9⟩
      go_wp2
      unfold RInv
      exact ⟨v8, v9, v10, (.agg #[.int .i64 q0, .int .i64 q1, .int .i64 q2, .int .i64 q3]), (.agg #[.int .i64 p0, .int .i64 p1]), (.agg #[.int .i64 d0, .int .i64 d1]), v5, g, by simp only [Act.put, List.setIfInBounds_toArray, List.set_cons_zero, List.set_cons_succ], (HT.out.call hb9).mark 5 (by decide) (by decide), fun h => E0.out (by simpa [mkd] using h), fun h => E1.out (by simpa [mkd] using h), fun h => E2.out (by simpa [mkd] using h), fun _ => rfl, fun _ => rfl, fun _ => rfl, fun h => E6.out (by simpa [mkd] using h)⟩
    · go_wp2
      unfold RInv
      exact ⟨v8, v9, v10, v11, v12, v13, (.pointer (some ⟨w'.heap.size, 0, none⟩)), w'.heap.size, by simp only [Act.put, List.setIfInBounds_toArray, List.set_cons_zero, List.set_cons_succ], HT.out.al hL (by decide) _, fun h => E0.out (by simpa [mkd] using h), fun h => E1.out (by simpa [mkd] using h), fun h => E2.out (by simpa [mkd] using h), fun h => E3.out (by simpa [mkd] using h), fun h => E4.out (by simpa [mkd] using h), fun h => E5.out (by simpa [mkd] using h), fun _ => rfl⟩
    · obtain rfl := E6.out haf.1
      obtain rfl := E5.out haf.2.1
      obtain ⟨zt, z0, z1, zf0, zf1⟩ := HT.out.z haf.1 hL
      have HS := Lib.hid (HT.out.st haf.1 hL (by decide))
      go_wp2
      unfold RInv
      exact ⟨v8, v9, v10, v11, v12, (.agg #[.int .i64 d0, .int .i64 d1]), (.pointer (some ⟨g, 0, none⟩)), g, by simp only [Act.put, List.setIfInBounds_toArray, List.set_cons_zero, List.set_cons_succ], HS.out, fun h => E0.out (by simpa [mkd] using h), fun h => E1.out (by simpa [mkd] using h), fun h => E2.out (by simpa [mkd] using h), fun h => E3.out (by simpa [mkd] using h), fun h => E4.out (by simpa [mkd] using h), fun _ => rfl, fun _ => rfl⟩
  case fin =>
    rintro L a1' w3 hall ⟨v8, v9, v10, v11, v12, v13, v5, g, rfl, hT, e0, e1, e2, e3, e4, e5, e6⟩
    obtain rfl := e0 (hall 0 (by decide))
    obtain rfl := e1 (hall 1 (by decide))
    obtain rfl := e2 (hall 2 (by decide))
    obtain rfl := e3 (hall 3 (by decide))
    obtain rfl := e4 (hall 4 (by decide))
    obtain rfl := e5 (hall 5 (by decide))
    obtain rfl := e6 (hall 6 (by decide))
    have HN := Lib.hid (hT.k (hall 7 (by decide)))
    have hg := hT.lo (hall 6 (by decide))
    have hgw : w.heap.size + 1 < g := by omega
    have HB := Lib.hid (B0.out.trans (hT.bl.mono (by omega)))
    have HT3 := Lib.hid (T0.out.below hT.bl T0.out.lt)
    have HZ3 := Lib.hid (Z0.out.below hT.bl Z0.out.lt)
    clear hT e0 e1 e2 e3 e4 e5 e6 hall x0 x1 x2 B0 T0 Z0 kb kd hb2
    clear hz2
    go_wp2
    go_loopw [6] (fun i wr => ∃ k : Nat, 1 ≤ k ∧ k ≤ n ∧ i = .int .i64 k ∧ K2 wr g (radF D (p0, p1) k).1 (radF D (p0, p1) k).2 ∧ K2 wr w.heap.size p0 p1 ∧ K2 wr (w.heap.size + 1) 0 0 ∧ Below w.heap.size w wr) (fun i _ => n - (intOf i).toNat)
    case atStart => exact ⟨1, Nat.le_refl _, h0, rfl, by rw [HRAD.out]; exact HN.out, HT3.out, HZ3.out, HB.out⟩
    case round =>
      obtain ⟨k, hk1, hk, rfl, hN, hT, hZ, hB⟩ := hrel
      clear HN HT3 HZ3 HB HRAD
      have HN := Lib.hid hN
      have HT3 := Lib.hid hT
      have HZ3 := Lib.hid hZ
      have HB := Lib.hid hB
      clear hN hT hZ hB
      by_cases hlt : k < n
      · have HF := Lib.hid (radF_succ D (p0, p1) k (by rw [HL.out]; exact hlt))
        obtain ⟨d0', hd0'⟩ : ∃ d, d = dstV (gb D k) (p0, p1) := ⟨_, rfl⟩
        have kb := KB.out k hlt
        have kd := KD.out k hlt
        rw [← hd0'] at kd HF
        obtain ⟨x, hx⟩ : ∃ x, x = gt L0 k := ⟨_, rfl⟩
        obtain ⟨q, hq⟩ : ∃ q, q = gb D k := ⟨_, rfl⟩
        rw [← hx, ← hq] at kb
        rw [← hq] at kd
        have hy0 := Y0.out wr HB.out k hlt
        rw [← hx] at hy0
        obtain ⟨s, hs⟩ : ∃ s, s = radF D (p0, p1) k := ⟨_, rfl⟩
        rw [← hs] at HF HN
        clear hx hq hd0' hs
        obtain ⟨xl, xr, xc⟩ := x
        obtain ⟨q0, q1, q2, q3⟩ := q
        obtain ⟨d0, d1⟩ := d0'
        obtain ⟨s0, s1⟩ := s
        simp only [] at kb kd hy0 HF HN
        have kb := Lib.hid kb
        have kd := Lib.hid kd
        obtain ⟨x0, x1, x2⟩ := hy0
        have hb2 : b < wr.heap.size := by have := HB.out.size; omega
        go_upto_region 5 with (fail)
        refine wp_region_inv2 (by kernel_rfl) (RInv5 wr (.slice (some ⟨b, off, none⟩) n c) (.int .i64 k) ⟨b, off + k * 3, none⟩ xl xr xc q0 q1 q2 q3 p0 p1 d0 d1) (waits_of (by kernel_rfl)) ?start ?step ?fin
        case start => exact RInv5.start wr _ _ _ _ _ _ _ _ _ _ _ _ _ _ _
        case step =>
          rintro L i o a1' w' ho hL haf ⟨v20, v21, v22, v23, v24, v25, v26, v7, g, rfl, hT, e0, e1, e2, e3, e4, e5, e6, e7⟩
          have HT := Lib.hid hT
          have X0 := (hT.bl.cell (p := ⟨b, off + k * 3, none⟩) hb2).trans x0
          have X1 := (hT.bl.cell (p := ⟨b, off + k * 3 + 1, none⟩) hb2).trans x1
          have X2 := (hT.bl.cell (p := ⟨b, off + k * 3 + 2, none⟩) hb2).trans x2
          obtain ⟨tt, t0, t1, -, -⟩ := HT3.out.below hT.bl HT3.out.lt
          clear hT x0 x1 x2
          have E0 := Lib.hid e0
          have E1 := Lib.hid e1
          have E2 := Lib.hid e2
          have E3 := Lib.hid e3
          have E4 := Lib.hid e4
          have E5 := Lib.hid e5
          have E6 := Lib.hid e6
          have E7 := Lib.hid e7
          clear e0 e1 e2 e3 e4 e5 e6 e7
          rcases i with _ | _ | _ | _ | _ | _ | _ | _ | _ | i
          all_goals (simp at ho; try subst ho)
          all_goals (try simp [Region.binds] at haf)
          · go_wp2
            unfold RInv5
            exact ⟨(.slice (some ⟨b, off, none⟩) n c), v21, v22, v23, v24, v25, v26, v7, g, by simp only [Act.put, List.setIfInBounds_toArray, List.set_cons_zero, List.set_cons_succ], HT.out.mark 0 (by decide) (by decide), fun _ => rfl, fun h => E1.out (by simpa [mkd] using h), fun h => E2.out (by simpa [mkd] using h), fun h => E3.out (by simpa [mkd] using h), fun h => E4.out (by simpa [mkd] using h), fun h => E5.out (by simpa [mkd] using h), fun h => E6.out (by simpa [mkd] using h), fun h => E7.out (by simpa [mkd] using h)⟩
          · go_wp2
            unfold RInv5
            exact ⟨v20, (.int .i64 k), v22, v23, v24, v25, v26, v7, g, by simp only [Act.put, List.setIfInBounds_toArray, List.set_cons_zero, List.set_cons_succ], HT.out.mark 1 (by decide) (by decide), fun h => E0.out (by simpa [mkd] using h), fun _ => rfl, fun h => E2.out (by simpa [mkd] using h), fun h => E3.out (by simpa [mkd] using h), fun h => E4.out (by simpa [mkd] using h), fun h => E5.out (by simpa [mkd] using h), fun h => E6.out (by simpa [mkd] using h), fun h => E7.out (by simpa [mkd] using h)⟩
          · obtain rfl := E0.out haf.1
            obtain rfl := E1.out haf.2
            go_wp2
            unfold RInv5
            exact ⟨(.slice (some ⟨b, off, none⟩) n c), (.int .i64 k), (.pointer (some ⟨b, off + k * 3, none⟩)), v23, v24, v25, v26, v7, g, by simp only [Act.put, List.setIfInBounds_toArray, List.set_cons_zero, List.set_cons_succ], HT.out.mark 2 (by decide) (by decide), fun _ => rfl, fun _ => rfl, fun _ => rfl, fun h => E3.out (by simpa [mkd] using h), fun h => E4.out (by simpa [mkd] using h), fun h => E5.out (by simpa [mkd] using h), fun h => E6.out (by simpa [mkd] using h), fun h => E7.out (by simpa [mkd] using h)⟩
          · obtain rfl := E2.out haf
            go_wp2
            unfold RInv5
            exact ⟨v20, v21, (.pointer (some ⟨b, off + k * 3, none⟩)), (.agg #[.int .i64 xl, .int .i64 xr, .int .i64 xc]), v24, v25, v26, v7, g, by simp only [Act.put, List.setIfInBounds_toArray, List.set_cons_zero, List.set_cons_succ], HT.out.mark 3 (by decide) (by decide), fun h => E0.out (by simpa [mkd] using h), fun h => E1.out (by simpa [mkd] using h), fun _ => rfl, fun _ => rfl, fun h => E4.out (by simpa [mkd] using h), fun h => E5.out (by simpa [mkd] using h), fun h => E6.out (by simpa [mkd] using h), fun h => E7.out (by simpa [mkd] using h)⟩
          · obtain rfl := E3.out haf
            go_wp2_with fail
            (with_reducible refine (kb.out _).mono ?_)
            rintro e w9 ⟨rfl, hb9⟩
            go_wp2
            unfold RInv5
            exact ⟨v20, v21, v22, (.agg #[.int .i64 xl, .int .i64 xr, .int .i64 xc]), (.agg #[.int .i64 q0, .int .i64 q1, .int .i64 q2, .int .i64 q3]), v25, v26, v7, g, by simp only [Act.put, List.setIfInBounds_toArray, List.set_cons_zero, List.set_cons_succ], (HT.out.call hb9).mark 4 (by decide) (by decide), fun h => E0.out (by simpa [mkd] using h), fun h => E1.out (by simpa [mkd] using h), fun h => E2.out (by simpa [mkd] using h), fun _ => rfl, fun _ => rfl, fun h => E5.out (by simpa [mkd] using h), fun h => E6.out (by simpa [mkd] using h), fun h => E7.out (by simpa [mkd] using h)⟩
          · go_wp2
            unfold RInv5
            exact ⟨v20, v21, v22, v23, v24, (.agg #[.int .i64 p0, .int .i64 p1]), v26, v7, g, by simp only [Act.put, List.setIfInBounds_toArray, List.set_cons_zero, List.set_cons_succ], HT.out.mark 5 (by decide) (by decide), fun h => E0.out (by simpa [mkd] using h), fun h => E1.out (by simpa [mkd] using h), fun h => E2.out (by simpa [mkd] using h), fun h => E3.out (by simpa [mkd] using h), fun h => E4.out (by simpa [mkd] using h), fun _ => rfl, fun h => E6.out (by simpa [mkd] using h), fun h => E7.out (by simpa [mkd] using h)⟩
          · obtain rfl := E4.out haf.1
            obtain rfl := E5.out haf.2.1
            go_wp2_with fail
            (with_reducible refine (kd.out _).mono ?_)
            rintro e w9 ⟨rfl, hb9⟩
            go_wp2
            unfold RInv5
            exact ⟨v20, v21, v22, v23, (.agg #[.int .i64 q0, .int .i64 q1, .int .i64 q2, .int .i64 q3]), (.agg #[.int .i64 p0, .int .i64 p1]), (.agg #[.int .i64 d0, .int .i64 d1]), v7, g, by simp only [Act.put, List.setIfInBounds_toArray, List.set_cons_zero, List.set_cons_succ], (HT.out.call hb9).mark 6 (by decide) (by decide), fun h => E0.out (by simpa [mkd] using h), fun h => E1.out (by simpa [mkd] using h), fun h => E2.out (by simpa [mkd] using h), fun h => E3.out (by simpa [mkd] using h), fun _ => rfl, fun _ => rfl, fun _ => rfl, fun h => E7.out (by simpa [mkd] using h)⟩
          · go_wp2
            unfold RInv5
            exact ⟨v20, v21, v22, v23, v24, v25, v26, (.pointer (some ⟨w'.heap.size, 0, none⟩)), w'.heap.size, by simp only [Act.put, List.setIfInBounds_toArray, List.set_cons_zero, List.set_cons_succ], HT.out.al hL (by decide) _, fun h => E0.out (by simpa [mkd] using h), fun h => E1.out (by simpa [mkd] using h), fun h => E2.out (by simpa [mkd] using h), fun h => E3.out (by simpa [mkd] using h), fun h => E4.out (by simpa [mkd] using h), fun h => E5.out (by simpa [mkd] using h), fun h => E6.out (by simpa [mkd] using h), fun _ => rfl⟩
          · obtain rfl := E7.out haf.1
            obtain rfl := E6.out haf.2.1
            obtain ⟨zt, z0, z1, zf0, zf1⟩ := HT.out.z haf.1 hL
            have HS := Lib.hid (HT.out.st haf.1 hL (by decide))
            go_wp2
            unfold RInv5
            exact ⟨v20, v21, v22, v23, v24, v25, (.agg #[.int .i64 d0, .int .i64 d1]), (.pointer (some ⟨g, 0, none⟩)), g, by simp only [Act.put, List.setIfInBounds_toArray, List.set_cons_zero, List.set_cons_succ], HS.out, fun h => E0.out (by simpa [mkd] using h), fun h => E1.out (by simpa [mkd] using h), fun h => E2.out (by simpa [mkd] using h), fun h => E3.out (by simpa [mkd] using h), fun h => E4.out (by simpa [mkd] using h), fun h => E5.out (by simpa [mkd] using h), fun _ => rfl, fun _ => rfl⟩
        case fin =>
          rintro L a1' w3 hall ⟨v20, v21, v22, v23, v24, v25, v26, v7, g', rfl, hT, e0, e1, e2, e3, e4, e5, e6, e7⟩
          obtain rfl := e0 (hall 0 (by decide))
          obtain rfl := e1 (hall 1 (by decide))
          obtain rfl := e2 (hall 2 (by decide))
          obtain rfl := e3 (hall 3 (by decide))
          obtain rfl := e4 (hall 4 (by decide))
          obtain rfl := e5 (hall 5 (by decide))
          obtain rfl := e6 (hall 6 (by decide))
          obtain rfl := e7 (hall 7 (by decide))
          have HD2 := Lib.hid (hT.k (hall 8 (by decide)))
          have hg' := hT.lo (hall 7 (by decide))
          have HB4 := Lib.hid (HB.out.trans (hT.bl.mono HB.out.size))
          have HT4 := Lib.hid (HT3.out.below hT.bl HT3.out.lt)
          have HZ4 := Lib.hid (HZ3.out.below hT.bl HZ3.out.lt)
          have HN4 := Lib.hid (HN.out.below hT.bl HN.out.lt)
          have hlg := HN.out.lt
          clear hT e0 e1 e2 e3 e4 e5 e6 e7 hall x0 x1 x2 kb kd HB HT3 HZ3 HN hb2
          have hx1 : ¬ g' = g := by omega
          have hx2 : ¬ g = g' := by omega
          obtain ⟨nt, n0, n1, nf0, nf1⟩ := HN4.out
          obtain ⟨dt, y0, y1, -, -⟩ := HD2.out
          by_cases c0 : s0 < d0 <;> by_cases c1 : s1 < d1
          · have d2 : decide (s0 < d0) = true := decide_eq_true c0
            have d3 : decide (s1 < d1) = true := decide_eq_true c1
            go_wp2
            go_roundw
            case rel => exact ⟨k + 1, by omega, by omega, by go_num, by rw [HF.out, show max s0 d0 = d0 by omega, show max s1 d1 = d1 by omega]; exact (HN4.out.set0 d0).set1 d1, (HT4.out.far (by simp only []; omega) _).far (by simp only []; omega) _, (HZ4.out.far (by simp only []; omega) _).far (by simp only []; omega) _, (HB4.out.setCell (by simp only []; omega) _).setCell (by simp only []; omega) _⟩
            case measure => simp [intOf]; omega
          · have d2 : decide (s0 < d0) = true := decide_eq_true c0
            have d3 : decide (s1 < d1) = false := decide_eq_false c1
            go_wp2
            go_roundw
            case rel => exact ⟨k + 1, by omega, by omega, by go_num, by rw [HF.out, show max s0 d0 = d0 by omega, show max s1 d1 = s1 by omega]; exact HN4.out.set0 d0, HT4.out.far (by simp only []; omega) _, HZ4.out.far (by simp only []; omega) _, HB4.out.setCell (by simp only []; omega) _⟩
            case measure => simp [intOf]; omega
          · have d2 : decide (s0 < d0) = false := decide_eq_false c0
            have d3 : decide (s1 < d1) = true := decide_eq_true c1
            go_wp2
            go_roundw
            case rel => exact ⟨k + 1, by omega, by omega, by go_num, by rw [HF.out, show max s0 d0 = s0 by omega, show max s1 d1 = d1 by omega]; exact HN4.out.set1 d1, HT4.out.far (by simp only []; omega) _, HZ4.out.far (by simp only []; omega) _, HB4.out.setCell (by simp only []; omega) _⟩
            case measure => simp [intOf]; omega
          · have d2 : decide (s0 < d0) = false := decide_eq_false c0
            have d3 : decide (s1 < d1) = false := decide_eq_false c1
            go_wp2
            go_roundw
            case rel => exact ⟨k + 1, by omega, by omega, by go_num, by rw [HF.out, show max s0 d0 = s0 by omega, show max s1 d1 = s1 by omega]; exact HN4.out, HT4.out, HZ4.out, HB4.out⟩
            case measure => simp [intOf]; omega
      · obtain rfl : k = n := by omega
        obtain ⟨⟨s0, s1⟩, hs⟩ : ∃ s, radF D (p0, p1) k = s := ⟨_, rfl⟩
        rw [hs] at HN
        simp only [] at HN
        have HS := Lib.hid hs
        clear hs
        obtain ⟨zt, z0, z1, zf0, zf1⟩ := HZ3.out
        obtain ⟨nt, n0, n1, -, -⟩ := HN.out
        go_wp2
        refine bodyPost_ret (v := .agg #[.int .i64 s0, .int .i64 s1]) (by simp [results, Tryz.results12, go_sem, *]; done) rfl ⟨by rw [HS.out], ?_⟩
        exact (HB.out.setCell (by simp) _).setCell (by simp) _
end Go.Proofs.YtienkfcliocjgaaGreat
