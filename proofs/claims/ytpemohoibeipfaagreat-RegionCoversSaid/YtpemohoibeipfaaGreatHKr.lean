/- The walk of the reference's around. -/
import Derived.Deep.DeepCutAuto
import Derived.Test.YtpemohoibeipfaaGreatHBi
import Derived.Test.YtpemohoibeipfaaGreatHKw
import Derived.Test.YtpemohoibeipfaaGreatHJm
import Derived.Test.YtpemohoibeipfaaGreatHGl
import Derived.Test.YtpemohoibeipfaaGreatHKz
set_option linter.unusedVariables false
set_option linter.unusedSimpArgs false
namespace Go.Proofs.YtpemohoibeipfaaGreat
open Go.RowKit
def RaI1 (E : Int) (W2 : World) (x0 x1 x2 : Value) (a : Act) (M : Nat → Bool) (a' : Act) (w' : World) : Prop :=
  ∃ (v18 v19 v20 v21 v17 v22 v23 v10 v11 : Value) (r0 : Int) (r1 : Int) (r2 : Int) (r3 : Int), a' = (((((((((a.put (some 18) v18).put (some 19) v19).put (some 20) v20).put (some 21) v21).put (some 17) v17).put (some 22) v22).put (some 23) v23).put (some 10) v10).put (some 11) v11) ∧ Below W2.heap.size W2 w' ∧
    (M 7 = true → ∃ g, v10 = .pointer (some ⟨g, 0, none⟩) ∧ W2.heap.size ≤ g ∧ (M 8 = false → Blk w' g 43 #[.int .i64 0, .int .i64 0, .int .i64 0, .int .i64 0])) ∧
    (M 3 = true → v21 = .tuple #[.agg #[.int .i64 r0, .int .i64 r1, .int .i64 r2, .int .i64 r3], .int .i64 E] ∧ True) ∧
    (M 4 = true → M 3 = true ∧ v17 = .tuple #[.agg #[.int .i64 r0, .int .i64 r1, .int .i64 r2, .int .i64 r3], .int .i64 E]) ∧
    (M 5 = true → M 3 = true ∧ v22 = .agg #[.int .i64 r0, .int .i64 r1, .int .i64 r2, .int .i64 r3]) ∧
    (M 6 = true → M 3 = true ∧ v23 = .int .i64 E) ∧
    (M 9 = true → M 3 = true ∧ v11 = .int .i64 E) ∧
    (M 0 = true → v18 = x0) ∧
    (M 1 = true → v19 = x1) ∧
    (M 2 = true → v20 = x2)
theorem RaI1.start {E : Int} {W2 : World} {x0 x1 x2 : Value} (a : Act) : RaI1 E W2 x0 x1 x2 a (fun _ => false) a W2.drew :=
  ⟨_, _, _, _, _, _, _, _, _, 0, 0, 0, 0, by rw [putQ_self a 18, putQ_self a 19, putQ_self a 20, putQ_self a 21, putQ_self a 17, putQ_self a 22, putQ_self a 23, putQ_self a 10, putQ_self a 11], bl_drew (Below.refl _ _), fun h => (by cases h), fun h => (by cases h), fun h => (by cases h), fun h => (by cases h), fun h => (by cases h), fun h => (by cases h), fun h => (by cases h), fun h => (by cases h), fun h => (by cases h)⟩
def RaI11 (m : Int) (A9 : List Cl) (W2 : World) (x0 x1 x2 x3 x4 x5 x6 : Value) (a : Act) (M : Nat → Bool) (a' : Act) (w' : World) : Prop :=
  ∃ (v46 v47 v48 v49 v50 v51 v52 v53 v45 v54 v55 v15 v16 : Value) (u9 : Value) (n9 : Int) (L9 : List Cl), a' = (((((((((((((a.put (some 46) v46).put (some 47) v47).put (some 48) v48).put (some 49) v49).put (some 50) v50).put (some 51) v51).put (some 52) v52).put (some 53) v53).put (some 45) v45).put (some 54) v54).put (some 55) v55).put (some 15) v15).put (some 16) v16) ∧ Below W2.heap.size W2 w' ∧
    (M 7 = true → v53 = .tuple #[u9, .int .i64 n9] ∧ n9 = m - (L9.length : Int) ∧ w'.ownsRow W2.heap.size 58 3 u9 L9.length (cvs L9) ∧ (0 ≤ m - (L9.length : Int) → L9 = A9) ∧ ((L9.length : Int) ≤ m + 1 ∨ L9.length ≤ 1)) ∧
    (M 8 = true → M 7 = true ∧ v45 = .tuple #[u9, .int .i64 n9]) ∧
    (M 9 = true → M 7 = true ∧ v54 = u9) ∧
    (M 10 = true → M 7 = true ∧ v55 = .int .i64 n9) ∧
    (M 11 = true → M 7 = true ∧ v15 = u9) ∧
    (M 12 = true → M 7 = true ∧ v16 = .int .i64 n9) ∧
    (M 0 = true → v46 = x0) ∧
    (M 1 = true → v47 = x1) ∧
    (M 2 = true → v48 = x2) ∧
    (M 3 = true → v49 = x3) ∧
    (M 4 = true → v50 = x4) ∧
    (M 5 = true → v51 = x5) ∧
    (M 6 = true → v52 = x6)
theorem RaI11.start {m : Int} {A9 : List Cl} {W2 : World} {x0 x1 x2 x3 x4 x5 x6 : Value} (a : Act) : RaI11 m A9 W2 x0 x1 x2 x3 x4 x5 x6 a (fun _ => false) a W2.drew :=
  ⟨_, _, _, _, _, _, _, _, _, _, _, _, _, undef, 0, [], by rw [putQ_self a 46, putQ_self a 47, putQ_self a 48, putQ_self a 49, putQ_self a 50, putQ_self a 51, putQ_self a 52, putQ_self a 53, putQ_self a 45, putQ_self a 54, putQ_self a 55, putQ_self a 15, putQ_self a 16], bl_drew (Below.refl _ _), fun h => (by cases h), fun h => (by cases h), fun h => (by cases h), fun h => (by cases h), fun h => (by cases h), fun h => (by cases h), fun h => (by cases h), fun h => (by cases h), fun h => (by cases h), fun h => (by cases h), fun h => (by cases h), fun h => (by cases h), fun h => (by cases h)⟩
/-- what the reference returns: a list, and how many may still come; all of them, if that is not below 0 -/
def RarR (mt : Cl → Bool) (lev : Int) (f : Nat) (x : Cl) (left : Int) (w : World) (e : Ending) (w' : World) : Prop :=
  ∃ (v : Value) (L : List Cl), e = .returned (.tuple #[v, .int .i64 (left - (L.length : Int))]) ∧ w'.ownsRow w.heap.size 58 3 v L.length (cvs L) ∧ Below w.heap.size w w' ∧ (0 ≤ left - (L.length : Int) → L = arnL mt lev f x) ∧ ((L.length : Int) ≤ left + 1 ∨ L.length ≤ 1)
def RarOk (f : Nat) : Prop := ∀ (p0 p1 p2 p3 l r c lev left : Int) (w : World), VP (p0, p1, p2, p3) → Vl (l, r, c) → l + (f : Int) = lev → lev ≤ 16 → -1000 ≤ left → left ≤ 1000 →
  Calls Tryz.prog 58 #[.agg #[.int .i64 p0, .int .i64 p1, .int .i64 p2, .int .i64 p3], .agg #[.int .i64 l, .int .i64 r, .int .i64 c], .int .i64 lev, .int .i64 left] w (RarR (mtP (p0, p1, p2, p3)) lev f (l, r, c) left w)
set_option maxHeartbeats 8000000 in
set_option maxRecDepth 100000 in
theorem rar_step (f : Nat) (ih : ∀ f', f = f' + 1 → RarOk f') : RarOk f := by
  intro p0 p1 p2 p3 l r c lev left w hp hx hl h16 l0 l1
  have hv := (vl_iff (l, r, c)).2 hx
  have KB := fun W => refBox_any l r c W hv
  rw [show boxV l r c = .agg #[.int .i64 (bxI (l, r, c)).1, .int .i64 (bxI (l, r, c)).2.1, .int .i64 (bxI (l, r, c)).2.2.1, .int .i64 (bxI (l, r, c)).2.2.2] from rfl] at KB
  obtain ⟨q, hq⟩ : ∃ q, bxI (l, r, c) = q := ⟨_, rfl⟩
  have hqv := bx_vp hx
  have hmt : mtP (p0, p1, p2, p3) (l, r, c) = meetB (p0, p1, p2, p3) q := by unfold mtP; rw [hq]
  rw [hq] at KB hqv
  clear hq
  obtain ⟨q0, q1, q2, q3⟩ := q
  simp only [] at KB
  have KM := fun W => meet08_any p0 p1 p2 p3 q0 q1 q2 q3 W hp hqv
  rw [← hmt] at KM
  have g4 := (Blk.new w 43 #[.int .i64 p0, .int .i64 p1, .int .i64 p2, .int .i64 p3]).alloc (.cells #[.int .i64 l, .int .i64 r, .int .i64 c] 58)
  have g5 := Blk.new (w.alloc (.cells #[.int .i64 p0, .int .i64 p1, .int .i64 p2, .int .i64 p3] 43)) 58 #[.int .i64 l, .int .i64 r, .int .i64 c]
  simp only [World.size_alloc] at g5
  have b0 := (bl_alloc w (.cells #[.int .i64 p0, .int .i64 p1, .int .i64 p2, .int .i64 p3] 43)).alloc (by simp) (.cells #[.int .i64 l, .int .i64 r, .int .i64 c] 58)
  have KB := Lib.hid KB
  have IH := Lib.hid ih
  have HX := Lib.hid hx
  have HP := Lib.hid hp
  obtain ⟨E, hE⟩ : ∃ E : Int, (if mtP (p0, p1, p2, p3) (l, r, c) = true then (0 : Int) else 23) = E := ⟨_, rfl⟩
  rw [hE] at KM
  have KM := Lib.hid KM
  clear ih hx hp hmt hqv hv
  go_enter Tryz.func58, Tryz.ntmps58
  go_upto_region 1 with (fail)
  obtain ⟨W2, hW2⟩ : ∃ W2, (w.alloc (.cells #[.int .i64 p0, .int .i64 p1, .int .i64 p2, .int .i64 p3] 43)).alloc (.cells #[.int .i64 l, .int .i64 r, .int .i64 c] 58) = W2 := ⟨_, rfl⟩
  rw [hW2] at g4 g5 b0 ⊢
  clear hW2
  have G4 := Lib.hid g4
  have G5 := Lib.hid g5
  have B0 := Lib.hid b0
  clear g4 g5 b0
  refine wp_region_inv3 (by kernel_rfl) (RaI1 (E) W2 (.agg #[.int .i64 p0, .int .i64 p1, .int .i64 p2, .int .i64 p3]) (.agg #[.int .i64 l, .int .i64 r, .int .i64 c]) (.agg #[.int .i64 q0, .int .i64 q1, .int .i64 q2, .int .i64 q3])) (waits_bind (by kernel_rfl)) ?start ?step ?fin
  case start => exact RaI1.start _
  case step =>
    rintro M i o a1' w' ho hL haf ⟨v18, v19, v20, v21, v17, v22, v23, v10, v11, r0, r1, r2, r3, rfl, hT, eA, e3, e4, e5, e6, e9, e0, e1, e2⟩
    have HT := Lib.hid hT
    have EA := Lib.hid eA
    have E3 := Lib.hid e3
    have E4 := Lib.hid e4
    have E5 := Lib.hid e5
    have E6 := Lib.hid e6
    have E9 := Lib.hid e9
    have E0 := Lib.hid e0
    have E1 := Lib.hid e1
    have E2 := Lib.hid e2
    clear hT eA e3 e4 e5 e6 e9 e0 e1 e2
    rcases i with _ | _ | _ | _ | _ | _ | _ | _ | _ | _ | i
    all_goals (simp at ho; try subst ho)
    all_goals (try simp [Region.binds] at haf)
    · have hq := G4.out.below HT.out G4.out.lt
      have k0 := hq.cell 0
      have k1 := hq.cell 1
      have k2 := hq.cell 2
      have k3 := hq.cell 3
      simp only [List.getElem?_toArray, List.getElem?_cons_zero, List.getElem?_cons_succ] at k0 k1 k2 k3
      clear hq
      go_wp2
      unfold RaI1
      exact ⟨(.agg #[.int .i64 p0, .int .i64 p1, .int .i64 p2, .int .i64 p3]), v19, v20, v21, v17, v22, v23, v10, v11, r0, r1, r2, r3, by simp only [Act.put, List.setIfInBounds_toArray, List.set_cons_zero, List.set_cons_succ], HT.out, fun h => (by obtain ⟨g9, q1, q2, q3⟩ := EA.out (by simpa [mkd] using h); exact ⟨g9, q1, q2, fun h' => q3 (by simpa [mkd] using h')⟩), fun h => (by have q := E3.out (by simpa [mkd] using h); exact ⟨q.1, q.2⟩), fun h => (by have q := E4.out (by simpa [mkd] using h); exact ⟨by simpa [mkd] using q.1, q.2⟩), fun h => (by have q := E5.out (by simpa [mkd] using h); exact ⟨by simpa [mkd] using q.1, q.2⟩), fun h => (by have q := E6.out (by simpa [mkd] using h); exact ⟨by simpa [mkd] using q.1, q.2⟩), fun h => (by have q := E9.out (by simpa [mkd] using h); exact ⟨by simpa [mkd] using q.1, q.2⟩), fun _ => rfl, kq E1, kq E2⟩
    · have hq := G5.out.below HT.out G5.out.lt
      have k0 := hq.cell 0
      have k1 := hq.cell 1
      have k2 := hq.cell 2
      simp only [List.getElem?_toArray, List.getElem?_cons_zero, List.getElem?_cons_succ] at k0 k1 k2
      clear hq
      go_wp2
      unfold RaI1
      exact ⟨v18, (.agg #[.int .i64 l, .int .i64 r, .int .i64 c]), v20, v21, v17, v22, v23, v10, v11, r0, r1, r2, r3, by simp only [Act.put, List.setIfInBounds_toArray, List.set_cons_zero, List.set_cons_succ], HT.out, fun h => (by obtain ⟨g9, q1, q2, q3⟩ := EA.out (by simpa [mkd] using h); exact ⟨g9, q1, q2, fun h' => q3 (by simpa [mkd] using h')⟩), fun h => (by have q := E3.out (by simpa [mkd] using h); exact ⟨q.1, q.2⟩), fun h => (by have q := E4.out (by simpa [mkd] using h); exact ⟨by simpa [mkd] using q.1, q.2⟩), fun h => (by have q := E5.out (by simpa [mkd] using h); exact ⟨by simpa [mkd] using q.1, q.2⟩), fun h => (by have q := E6.out (by simpa [mkd] using h); exact ⟨by simpa [mkd] using q.1, q.2⟩), fun h => (by have q := E9.out (by simpa [mkd] using h); exact ⟨by simpa [mkd] using q.1, q.2⟩), kq E0, fun _ => rfl, kq E2⟩
    · obtain rfl := (E1.out (by simp [haf])).symm
      go_wp2_with fail
      (with_reducible refine (KB.out _).mono ?_)
      rintro e w9 ⟨rfl, hb9⟩
      go_wp2
      unfold RaI1
      exact ⟨v18, (.agg #[.int .i64 l, .int .i64 r, .int .i64 c]), (.agg #[.int .i64 q0, .int .i64 q1, .int .i64 q2, .int .i64 q3]), v21, v17, v22, v23, v10, v11, r0, r1, r2, r3, by simp only [Act.put, List.setIfInBounds_toArray, List.set_cons_zero, List.set_cons_succ], HT.out.trans ((hb9).mono HT.out.size), fun h => (by obtain ⟨g9, q1, q2, q3⟩ := EA.out (by simpa [mkd] using h); exact ⟨g9, q1, q2, fun h' => (q3 (by simpa [mkd] using h')).below (hb9) (q3 (by simpa [mkd] using h')).lt⟩), fun h => (by have q := E3.out (by simpa [mkd] using h); exact ⟨q.1, q.2⟩), fun h => (by have q := E4.out (by simpa [mkd] using h); exact ⟨by simpa [mkd] using q.1, q.2⟩), fun h => (by have q := E5.out (by simpa [mkd] using h); exact ⟨by simpa [mkd] using q.1, q.2⟩), fun h => (by have q := E6.out (by simpa [mkd] using h); exact ⟨by simpa [mkd] using q.1, q.2⟩), fun h => (by have q := E9.out (by simpa [mkd] using h); exact ⟨by simpa [mkd] using q.1, q.2⟩), kq E0, fun _ => rfl, fun _ => rfl⟩
    · obtain rfl := (E0.out (by simp [haf])).symm
      obtain rfl := (E2.out (by simp [haf])).symm
      go_wp2_with fail
      (with_reducible refine (KM.out _).mono ?_)
      rintro e w9 ⟨t0, t1, t2, t3, rfl, hb9⟩
      go_wp2
      unfold RaI1
      exact ⟨(.agg #[.int .i64 p0, .int .i64 p1, .int .i64 p2, .int .i64 p3]), v19, (.agg #[.int .i64 q0, .int .i64 q1, .int .i64 q2, .int .i64 q3]), (.tuple #[.agg #[.int .i64 t0, .int .i64 t1, .int .i64 t2, .int .i64 t3], .int .i64 E]), v17, v22, v23, v10, v11, t0, t1, t2, t3, by simp only [Act.put, List.setIfInBounds_toArray, List.set_cons_zero, List.set_cons_succ], HT.out.trans ((hb9).mono HT.out.size), fun h => (by obtain ⟨g9, q1, q2, q3⟩ := EA.out (by simpa [mkd] using h); exact ⟨g9, q1, q2, fun h' => (q3 (by simpa [mkd] using h')).below (hb9) (q3 (by simpa [mkd] using h')).lt⟩), fun _ => ⟨rfl, trivial⟩, fun h => (by have q := (E4.out (by simpa [mkd] using h)).1; rw [hL] at q; cases q), fun h => (by have q := (E5.out (by simpa [mkd] using h)).1; rw [hL] at q; cases q), fun h => (by have q := (E6.out (by simpa [mkd] using h)).1; rw [hL] at q; cases q), fun h => (by have q := (E9.out (by simpa [mkd] using h)).1; rw [hL] at q; cases q), fun _ => rfl, kq E1, fun _ => rfl⟩
    · obtain ⟨rfl, hpost⟩ := E3.out (by simp [haf])
      clear hpost
      have hE : M 3 = true := by have q : M 3 = true := (by simp [haf]); first | exact q | exact (E3.out q).1
      go_wp2
      unfold RaI1
      exact ⟨v18, v19, v20, (.tuple #[.agg #[.int .i64 r0, .int .i64 r1, .int .i64 r2, .int .i64 r3], .int .i64 E]), (.tuple #[.agg #[.int .i64 r0, .int .i64 r1, .int .i64 r2, .int .i64 r3], .int .i64 E]), v22, v23, v10, v11, r0, r1, r2, r3, by simp only [Act.put, List.setIfInBounds_toArray, List.set_cons_zero, List.set_cons_succ], HT.out, fun h => (by obtain ⟨g9, q1, q2, q3⟩ := EA.out (by simpa [mkd] using h); exact ⟨g9, q1, q2, fun h' => q3 (by simpa [mkd] using h')⟩), fun h => (by have q := E3.out (by simpa [mkd] using h); exact ⟨rfl, q.2⟩), fun _ => ⟨by simpa [mkd] using hE, rfl⟩, fun h => (by have q := E5.out (by simpa [mkd] using h); exact ⟨by simpa [mkd] using q.1, q.2⟩), fun h => (by have q := E6.out (by simpa [mkd] using h); exact ⟨by simpa [mkd] using q.1, q.2⟩), fun h => (by have q := E9.out (by simpa [mkd] using h); exact ⟨by simpa [mkd] using q.1, q.2⟩), kq E0, kq E1, kq E2⟩
    · obtain rfl := (E4.out (by simp [haf])).2.symm
      have hE : M 3 = true := by have q : M 4 = true := (by simp [haf]); first | exact q | exact (E4.out q).1
      go_wp2
      unfold RaI1
      exact ⟨v18, v19, v20, v21, (.tuple #[.agg #[.int .i64 r0, .int .i64 r1, .int .i64 r2, .int .i64 r3], .int .i64 E]), (.agg #[.int .i64 r0, .int .i64 r1, .int .i64 r2, .int .i64 r3]), v23, v10, v11, r0, r1, r2, r3, by simp only [Act.put, List.setIfInBounds_toArray, List.set_cons_zero, List.set_cons_succ], HT.out, fun h => (by obtain ⟨g9, q1, q2, q3⟩ := EA.out (by simpa [mkd] using h); exact ⟨g9, q1, q2, fun h' => q3 (by simpa [mkd] using h')⟩), fun h => (by have q := E3.out (by simpa [mkd] using h); exact ⟨q.1, q.2⟩), fun h => (by have q := E4.out (by simpa [mkd] using h); exact ⟨by simpa [mkd] using q.1, rfl⟩), fun _ => ⟨by simpa [mkd] using hE, rfl⟩, fun h => (by have q := E6.out (by simpa [mkd] using h); exact ⟨by simpa [mkd] using q.1, q.2⟩), fun h => (by have q := E9.out (by simpa [mkd] using h); exact ⟨by simpa [mkd] using q.1, q.2⟩), kq E0, kq E1, kq E2⟩
    · obtain rfl := (E4.out (by simp [haf])).2.symm
      have hE : M 3 = true := by have q : M 4 = true := (by simp [haf]); first | exact q | exact (E4.out q).1
      go_wp2
      unfold RaI1
      exact ⟨v18, v19, v20, v21, (.tuple #[.agg #[.int .i64 r0, .int .i64 r1, .int .i64 r2, .int .i64 r3], .int .i64 E]), v22, (.int .i64 E), v10, v11, r0, r1, r2, r3, by simp only [Act.put, List.setIfInBounds_toArray, List.set_cons_zero, List.set_cons_succ], HT.out, fun h => (by obtain ⟨g9, q1, q2, q3⟩ := EA.out (by simpa [mkd] using h); exact ⟨g9, q1, q2, fun h' => q3 (by simpa [mkd] using h')⟩), fun h => (by have q := E3.out (by simpa [mkd] using h); exact ⟨q.1, q.2⟩), fun h => (by have q := E4.out (by simpa [mkd] using h); exact ⟨by simpa [mkd] using q.1, rfl⟩), fun h => (by have q := E5.out (by simpa [mkd] using h); exact ⟨by simpa [mkd] using q.1, q.2⟩), fun _ => ⟨by simpa [mkd] using hE, rfl⟩, fun h => (by have q := E9.out (by simpa [mkd] using h); exact ⟨by simpa [mkd] using q.1, q.2⟩), kq E0, kq E1, kq E2⟩
    · have NB := Lib.hid (Blk.new w' 43 #[.int .i64 0, .int .i64 0, .int .i64 0, .int .i64 0])
      have HB9 := Lib.hid (bl_alloc w' (.cells #[.int .i64 0, .int .i64 0, .int .i64 0, .int .i64 0] 43))
      go_wp2
      unfold RaI1
      exact ⟨v18, v19, v20, v21, v17, v22, v23, (.pointer (some ⟨w'.heap.size, 0, none⟩)), v11, r0, r1, r2, r3, by simp only [Act.put, List.setIfInBounds_toArray, List.set_cons_zero, List.set_cons_succ], HT.out.trans ((HB9.out).mono HT.out.size), fun _ => ⟨_, rfl, HT.out.size, fun _ => NB.out⟩, fun h => (by have q := E3.out (by simpa [mkd] using h); exact ⟨q.1, q.2⟩), fun h => (by have q := E4.out (by simpa [mkd] using h); exact ⟨by simpa [mkd] using q.1, q.2⟩), fun h => (by have q := E5.out (by simpa [mkd] using h); exact ⟨by simpa [mkd] using q.1, q.2⟩), fun h => (by have q := E6.out (by simpa [mkd] using h); exact ⟨by simpa [mkd] using q.1, q.2⟩), fun h => (by have q := E9.out (by simpa [mkd] using h); exact ⟨by simpa [mkd] using q.1, q.2⟩), kq E0, kq E1, kq E2⟩
    · obtain rfl := (E5.out (by simp [haf])).2.symm
      obtain ⟨g9, rfl, hg9, hb9⟩ := EA.out (by simp [haf])
      have hB9 := hb9 hL
      have k0 := hB9.cell 0
      have f0 := hB9.frozen 0
      have k1 := hB9.cell 1
      have f1 := hB9.frozen 1
      have k2 := hB9.cell 2
      have f2 := hB9.frozen 2
      have k3 := hB9.cell 3
      have f3 := hB9.frozen 3
      simp only [List.getElem?_toArray, List.getElem?_cons_zero, List.getElem?_cons_succ] at k0 k1 k2 k3
      clear hB9 hb9
      go_wp2
      unfold RaI1
      exact ⟨v18, v19, v20, v21, v17, (.agg #[.int .i64 r0, .int .i64 r1, .int .i64 r2, .int .i64 r3]), v23, (.pointer (some ⟨g9, 0, none⟩)), v11, r0, r1, r2, r3, by simp only [Act.put, List.setIfInBounds_toArray, List.set_cons_zero, List.set_cons_succ], (((HT.out.setCell hg9 _).setCell hg9 _).setCell hg9 _).setCell hg9 _, fun _ => ⟨g9, rfl, hg9, fun h => (by simp [mkd] at h)⟩, fun h => (by have q := E3.out (by simpa [mkd] using h); exact ⟨q.1, q.2⟩), fun h => (by have q := E4.out (by simpa [mkd] using h); exact ⟨by simpa [mkd] using q.1, q.2⟩), fun h => (by have q := E5.out (by simpa [mkd] using h); exact ⟨by simpa [mkd] using q.1, rfl⟩), fun h => (by have q := E6.out (by simpa [mkd] using h); exact ⟨by simpa [mkd] using q.1, q.2⟩), fun h => (by have q := E9.out (by simpa [mkd] using h); exact ⟨by simpa [mkd] using q.1, q.2⟩), kq E0, kq E1, kq E2⟩
    · obtain rfl := (E6.out (by simp [haf])).2.symm
      have hE : M 3 = true := by have q : M 6 = true := (by simp [haf]); first | exact q | exact (E6.out q).1
      go_wp2
      unfold RaI1
      exact ⟨v18, v19, v20, v21, v17, v22, (.int .i64 E), v10, (.int .i64 E), r0, r1, r2, r3, by simp only [Act.put, List.setIfInBounds_toArray, List.set_cons_zero, List.set_cons_succ], HT.out, fun h => (by obtain ⟨g9, q1, q2, q3⟩ := EA.out (by simpa [mkd] using h); exact ⟨g9, q1, q2, fun h' => q3 (by simpa [mkd] using h')⟩), fun h => (by have q := E3.out (by simpa [mkd] using h); exact ⟨q.1, q.2⟩), fun h => (by have q := E4.out (by simpa [mkd] using h); exact ⟨by simpa [mkd] using q.1, q.2⟩), fun h => (by have q := E5.out (by simpa [mkd] using h); exact ⟨by simpa [mkd] using q.1, q.2⟩), fun h => (by have q := E6.out (by simpa [mkd] using h); exact ⟨by simpa [mkd] using q.1, rfl⟩), fun _ => ⟨by simpa [mkd] using hE, rfl⟩, kq E0, kq E1, kq E2⟩
  case fin =>
    rintro M a1' w1 hall ⟨v18, v19, v20, v21, v17, v22, v23, v10, v11, r0, r1, r2, r3, rfl, hT, eA, e3, e4, e5, e6, e9, e0, e1, e2⟩
    obtain rfl := (e0 (hall 0 (by decide))).symm
    obtain rfl := (e1 (hall 1 (by decide))).symm
    obtain rfl := (e2 (hall 2 (by decide))).symm
    obtain ⟨rfl, hpost⟩ := e3 (hall 3 (by decide))
    obtain rfl := (e4 (hall 4 (by decide))).2.symm
    obtain rfl := (e5 (hall 5 (by decide))).2.symm
    obtain rfl := (e6 (hall 6 (by decide))).2.symm
    obtain rfl := (e9 (hall 9 (by decide))).2.symm
    obtain ⟨g9, rfl, -, -⟩ := eA (hall 7 (by decide))
    clear hpost
    have B1 := Lib.hid (B0.out.trans (hT.mono B0.out.size))
    have G14 := Lib.hid (G4.out.below hT G4.out.lt)
    have g15 := G5.out.below hT G5.out.lt
    have y0 : w1.cell? ⟨w.heap.size + 1, 0, none⟩ = some (.int .i64 l) := g15.cell 0
    have y1 : w1.cell? ⟨w.heap.size + 1, 1, none⟩ = some (.int .i64 r) := g15.cell 1
    have y2 : w1.cell? ⟨w.heap.size + 1, 2, none⟩ = some (.int .i64 c) := g15.cell 2
    clear hT eA KB KM G4 G5 B0 g15
    cases hm : mtP (p0, p1, p2, p3) (l, r, c) with
    | false =>
      rw [hm] at hE
      simp only [Bool.false_eq_true, if_false] at hE
      subst hE
      have hA : arnL (mtP (p0, p1, p2, p3)) lev f (l, r, c) = [] := by cases f <;> (unfold arnL; rw [hm]; simp)
      have HA := Lib.hid hA
      clear hm hA
      go_wp2
      go_ret2
      exact ⟨_, [], by simp, own_nil _ _ _ _, B1.out, fun _ => HA.out.symm, .inr (by simp)⟩
    | true =>
      rw [hm] at hE
      simp only [if_true] at hE
      subst hE
      have HMT := Lib.hid hm
      clear hm
      by_cases hll : l = lev
      · subst hll
        have hA : arnL (mtP (p0, p1, p2, p3)) l f (l, r, c) = [(l, r, c)] := by cases f <;> (unfold arnL; rw [if_pos HMT.out, if_pos rfl])
        have HA := Lib.hid hA
        have HO := Lib.hid (own_new w1 w.heap.size 58 3 1 _ #[.int .i64 l, .int .i64 r, .int .i64 c] rfl B1.out.size rfl (by decide))
        have BB := Lib.hid (B1.out.alloc B1.out.size (.cells #[.int .i64 l, .int .i64 r, .int .i64 c] 58))
        have hw : wrap64 (left - 1) = left - 1 := IntWalk.wrap64_in _ (by omega)
        clear hA
        go_wp2
        go_ret2
        exact ⟨_, [(l, r, c)], rfl, HO.out, BB.out, fun _ => HA.out.symm, .inr (by simp)⟩
      · have hbe : (l == lev) = false := by simpa using hll
        obtain ⟨f', rfl⟩ : ∃ f', f = f' + 1 := ⟨f - 1, by omega⟩
        have IH2 := Lib.hid (IH.out f' rfl)
        obtain ⟨v0, v1, v2, v3, v4, v5⟩ := vldB_true.1 ((vl_iff (l, r, c)).2 HX.out)
        have hpw := pw_bd v1
        simp only [] at v0 v1 v2 v3 v4 v5 hpw
        have hl16 : l < 16 := by omega
        have KC := Lib.hid (fun W => refChildren_any l r c W v0 v1 v2 (by omega) v4 (by omega))
        rw [show kids l r c = kidsC (l, r, c) from rfl] at KC
        have HA : Hid (arnL (mtP (p0, p1, p2, p3)) lev (f' + 1) (l, r, c) = (kidsC (l, r, c)).flatMap (arnL (mtP (p0, p1, p2, p3)) lev f')) := Lib.hid (by unfold arnL; rw [if_pos HMT.out, if_neg hll])
        have HKV : Hid (AllV (kidsC (l, r, c))) := Lib.hid (kids_vl HX.out hl16)
        have HKL : Hid (∀ x ∈ kidsC (l, r, c), x.1 + (f' : Int) = lev) := Lib.hid (kid_lev (by simpa using hl))
        have hkn : (kidsC (l, r, c)).length = 4 := rfl
        obtain ⟨i0, hi0, hz0, hz1, hzb⟩ := info_parts Tryz.infoCell
        generalize kidsC (l, r, c) = K at KC HA HKV HKL hkn
        clear v0 v1 v2 v3 v4 v5 hpw hl hll IH HMT
        go_wp2_with fail
        (with_reducible refine (KC.out _).mono ?_)
        rintro e w3 ⟨vk, rfl, hownk, hb3⟩
        rw [hkn] at hownk
        obtain ⟨Ak, ck, rfl, hrk, -, -⟩ := own_form hownk
        have RK := Lib.hid hrk
        have B3 := Lib.hid (B1.out.trans (hb3.mono B1.out.size))
        have G34 := Lib.hid (G14.out.below hb3 G14.out.lt)
        clear hownk hrk hb3 B1 G14 y0 y1 y2 KC
        go_wp2
        go_loopg [3, 13, 14, 15, 16] 4 (fun gz s3 s13 s14 s15 s16 wr => ∃ (k : Nat) (L : List Cl) (u : Value), k ≤ 4 ∧ k + gz = 4 ∧ s14 = .int .i64 k ∧ s3 = .int .i64 (left - (L.length : Int)) ∧ s13 = u ∧ wr.ownsRow w3.heap.size 58 3 u L.length (cvs L) ∧ Below w3.heap.size w3 wr ∧ (0 ≤ left - (L.length : Int) → L = (K.take k).flatMap (arnL (mtP (p0, p1, p2, p3)) lev f')) ∧ ((L.length : Int) ≤ left + 1 ∨ L.length ≤ 1))
        case atStart => exact ⟨0, [], _, by omega, by omega, rfl, by simp, rfl, own_nil _ _ _ _, Below.refl _ _, fun _ => by simp, .inr (by simp)⟩
        case round =>
          obtain ⟨k, L, u, hk4, hkg, rfl, rfl, rfl, hown, hbr, hall, hbd⟩ := hrel
          obtain ⟨m, hm⟩ : ∃ m : Int, left - (L.length : Int) = m := ⟨_, rfl⟩
          have hLlen : L.length ≤ 2000 := by omega
          have HOW := Lib.hid hown
          have HAL := Lib.hid hall
          have HBR := Lib.hid hbr
          have HBD := Lib.hid hbd
          rw [hm]
          have hmb : -2000 ≤ m ∧ m ≤ 1000 := by omega
          have HM := Lib.hid hm
          clear hown hall hbr hbd hm
          by_cases hk : k < 4
          · have d0 : decide ((k : Int) < 4) = true := decide_eq_true (by omega)
            by_cases hm0 : 0 ≤ m
            · have d1 : decide (0 ≤ m) = true := decide_eq_true hm0
              obtain ⟨b, off, rfl, hb, x0, x1, x2⟩ := RK.out.elem hk
              have hmem : gt K k ∈ K := by simp [gt, show k < K.length by omega]
              have hxv := HKV.out _ hmem
              have hxl := HKL.out _ hmem
              obtain ⟨x, hx'⟩ : ∃ x, gt K k = x := ⟨_, rfl⟩
              have hgk : Hid (gt K k = x) := Lib.hid hx'
              rw [hx'] at x0 x1 x2 hxv hxl
              clear hx' hmem
              have IH3 := Lib.hid (fun W => IH2.out p0 p1 p2 p3 x.1 x.2.1 x.2.2 lev m W HP.out hxv hxl h16 (by omega) (by omega))
              have X0 := Lib.hid x0
              have X1 := Lib.hid x1
              have X2 := Lib.hid x2
              obtain ⟨x_0, x_1, x_2⟩ := x
              simp only [] at X0 X1 X2 IH3 hxl
              clear x0 x1 x2 hxv hxl
              go_upto_region 11 with (fail)
              refine wp_region_inv3 (by kernel_rfl) (RaI11 (m) (arnL (mtP (p0, p1, p2, p3)) lev f' (x_0, x_1, x_2)) wr (.agg #[.int .i64 p0, .int .i64 p1, .int .i64 p2, .int .i64 p3]) (.slice (some ⟨b, off, none⟩) 4 ck) (.int .i64 (k : Int)) (.pointer (some ⟨b, off + k * 3, none⟩)) (.agg #[.int .i64 x_0, .int .i64 x_1, .int .i64 x_2]) (.int .i64 lev) (.int .i64 m)) (waits_bind (by kernel_rfl)) ?start ?step ?fin
              case start => exact RaI11.start _
              case step =>
                rintro M i o a1' w' ho hL haf ⟨v46, v47, v48, v49, v50, v51, v52, v53, v45, v54, v55, v15, v16, u9, n9, L9, rfl, hT, e7, e8, e9, e10, e11, e12, e0, e1, e2, e3, e4, e5, e6⟩
                have HT := Lib.hid hT
                have E7 := Lib.hid e7
                have E8 := Lib.hid e8
                have E9 := Lib.hid e9
                have E10 := Lib.hid e10
                have E11 := Lib.hid e11
                have E12 := Lib.hid e12
                have E0 := Lib.hid e0
                have E1 := Lib.hid e1
                have E2 := Lib.hid e2
                have E3 := Lib.hid e3
                have E4 := Lib.hid e4
                have E5 := Lib.hid e5
                have E6 := Lib.hid e6
                clear hT e7 e8 e9 e10 e11 e12 e0 e1 e2 e3 e4 e5 e6
                rcases i with _ | _ | _ | _ | _ | _ | _ | _ | _ | _ | _ | _ | _ | i
                all_goals (simp at ho; try subst ho)
                all_goals (try simp [Region.binds] at haf)
                · have hw9 := HBR.out.trans (HT.out.mono HBR.out.size)
                  have hq := G34.out.below hw9 (G34.out.lt)
                  have k0 := hq.cell 0
                  have k1 := hq.cell 1
                  have k2 := hq.cell 2
                  have k3 := hq.cell 3
                  simp only [List.getElem?_toArray, List.getElem?_cons_zero, List.getElem?_cons_succ] at k0 k1 k2 k3
                  clear hq hw9
                  go_wp2
                  unfold RaI11
                  exact ⟨(.agg #[.int .i64 p0, .int .i64 p1, .int .i64 p2, .int .i64 p3]), v47, v48, v49, v50, v51, v52, v53, v45, v54, v55, v15, v16, u9, n9, L9, by simp only [Act.put, List.setIfInBounds_toArray, List.set_cons_zero, List.set_cons_succ], HT.out, fun h => (by have q := E7.out (by simpa [mkd] using h); exact ⟨q.1, q.2⟩), fun h => (by have q := E8.out (by simpa [mkd] using h); exact ⟨by simpa [mkd] using q.1, q.2⟩), fun h => (by have q := E9.out (by simpa [mkd] using h); exact ⟨by simpa [mkd] using q.1, q.2⟩), fun h => (by have q := E10.out (by simpa [mkd] using h); exact ⟨by simpa [mkd] using q.1, q.2⟩), fun h => (by have q := E11.out (by simpa [mkd] using h); exact ⟨by simpa [mkd] using q.1, q.2⟩), fun h => (by have q := E12.out (by simpa [mkd] using h); exact ⟨by simpa [mkd] using q.1, q.2⟩), fun _ => rfl, kq E1, kq E2, kq E3, kq E4, kq E5, kq E6⟩
                · go_wp2
                  unfold RaI11
                  exact ⟨v46, (.slice (some ⟨b, off, none⟩) 4 ck), v48, v49, v50, v51, v52, v53, v45, v54, v55, v15, v16, u9, n9, L9, by simp only [Act.put, List.setIfInBounds_toArray, List.set_cons_zero, List.set_cons_succ], HT.out, fun h => (by have q := E7.out (by simpa [mkd] using h); exact ⟨q.1, q.2⟩), fun h => (by have q := E8.out (by simpa [mkd] using h); exact ⟨by simpa [mkd] using q.1, q.2⟩), fun h => (by have q := E9.out (by simpa [mkd] using h); exact ⟨by simpa [mkd] using q.1, q.2⟩), fun h => (by have q := E10.out (by simpa [mkd] using h); exact ⟨by simpa [mkd] using q.1, q.2⟩), fun h => (by have q := E11.out (by simpa [mkd] using h); exact ⟨by simpa [mkd] using q.1, q.2⟩), fun h => (by have q := E12.out (by simpa [mkd] using h); exact ⟨by simpa [mkd] using q.1, q.2⟩), kq E0, fun _ => rfl, kq E2, kq E3, kq E4, kq E5, kq E6⟩
                · go_wp2
                  unfold RaI11
                  exact ⟨v46, v47, (.int .i64 (k : Int)), v49, v50, v51, v52, v53, v45, v54, v55, v15, v16, u9, n9, L9, by simp only [Act.put, List.setIfInBounds_toArray, List.set_cons_zero, List.set_cons_succ], HT.out, fun h => (by have q := E7.out (by simpa [mkd] using h); exact ⟨q.1, q.2⟩), fun h => (by have q := E8.out (by simpa [mkd] using h); exact ⟨by simpa [mkd] using q.1, q.2⟩), fun h => (by have q := E9.out (by simpa [mkd] using h); exact ⟨by simpa [mkd] using q.1, q.2⟩), fun h => (by have q := E10.out (by simpa [mkd] using h); exact ⟨by simpa [mkd] using q.1, q.2⟩), fun h => (by have q := E11.out (by simpa [mkd] using h); exact ⟨by simpa [mkd] using q.1, q.2⟩), fun h => (by have q := E12.out (by simpa [mkd] using h); exact ⟨by simpa [mkd] using q.1, q.2⟩), kq E0, kq E1, fun _ => rfl, kq E3, kq E4, kq E5, kq E6⟩
                · obtain rfl := (E1.out (by simp [haf])).symm
                  obtain rfl := (E2.out (by simp [haf])).symm
                  go_wp2
                  unfold RaI11
                  exact ⟨v46, (.slice (some ⟨b, off, none⟩) 4 ck), (.int .i64 (k : Int)), (.pointer (some ⟨b, off + k * 3, none⟩)), v50, v51, v52, v53, v45, v54, v55, v15, v16, u9, n9, L9, by simp only [Act.put, List.setIfInBounds_toArray, List.set_cons_zero, List.set_cons_succ], HT.out, fun h => (by have q := E7.out (by simpa [mkd] using h); exact ⟨q.1, q.2⟩), fun h => (by have q := E8.out (by simpa [mkd] using h); exact ⟨by simpa [mkd] using q.1, q.2⟩), fun h => (by have q := E9.out (by simpa [mkd] using h); exact ⟨by simpa [mkd] using q.1, q.2⟩), fun h => (by have q := E10.out (by simpa [mkd] using h); exact ⟨by simpa [mkd] using q.1, q.2⟩), fun h => (by have q := E11.out (by simpa [mkd] using h); exact ⟨by simpa [mkd] using q.1, q.2⟩), fun h => (by have q := E12.out (by simpa [mkd] using h); exact ⟨by simpa [mkd] using q.1, q.2⟩), kq E0, fun _ => rfl, fun _ => rfl, fun _ => rfl, kq E4, kq E5, kq E6⟩
                · obtain rfl := (E3.out (by simp [haf])).symm
                  have hw9 := HBR.out.trans (HT.out.mono HBR.out.size)
                  have k0 := (hw9.cell (p := ⟨b, off + k * 3, none⟩) hb).trans X0.out
                  have k1 := (hw9.cell (p := ⟨b, off + k * 3 + 1, none⟩) hb).trans X1.out
                  have k2 := (hw9.cell (p := ⟨b, off + k * 3 + 2, none⟩) hb).trans X2.out
                  clear hw9
                  go_wp2
                  unfold RaI11
                  exact ⟨v46, v47, v48, (.pointer (some ⟨b, off + k * 3, none⟩)), (.agg #[.int .i64 x_0, .int .i64 x_1, .int .i64 x_2]), v51, v52, v53, v45, v54, v55, v15, v16, u9, n9, L9, by simp only [Act.put, List.setIfInBounds_toArray, List.set_cons_zero, List.set_cons_succ], HT.out, fun h => (by have q := E7.out (by simpa [mkd] using h); exact ⟨q.1, q.2⟩), fun h => (by have q := E8.out (by simpa [mkd] using h); exact ⟨by simpa [mkd] using q.1, q.2⟩), fun h => (by have q := E9.out (by simpa [mkd] using h); exact ⟨by simpa [mkd] using q.1, q.2⟩), fun h => (by have q := E10.out (by simpa [mkd] using h); exact ⟨by simpa [mkd] using q.1, q.2⟩), fun h => (by have q := E11.out (by simpa [mkd] using h); exact ⟨by simpa [mkd] using q.1, q.2⟩), fun h => (by have q := E12.out (by simpa [mkd] using h); exact ⟨by simpa [mkd] using q.1, q.2⟩), kq E0, kq E1, kq E2, fun _ => rfl, fun _ => rfl, kq E5, kq E6⟩
                · go_wp2
                  unfold RaI11
                  exact ⟨v46, v47, v48, v49, v50, (.int .i64 lev), v52, v53, v45, v54, v55, v15, v16, u9, n9, L9, by simp only [Act.put, List.setIfInBounds_toArray, List.set_cons_zero, List.set_cons_succ], HT.out, fun h => (by have q := E7.out (by simpa [mkd] using h); exact ⟨q.1, q.2⟩), fun h => (by have q := E8.out (by simpa [mkd] using h); exact ⟨by simpa [mkd] using q.1, q.2⟩), fun h => (by have q := E9.out (by simpa [mkd] using h); exact ⟨by simpa [mkd] using q.1, q.2⟩), fun h => (by have q := E10.out (by simpa [mkd] using h); exact ⟨by simpa [mkd] using q.1, q.2⟩), fun h => (by have q := E11.out (by simpa [mkd] using h); exact ⟨by simpa [mkd] using q.1, q.2⟩), fun h => (by have q := E12.out (by simpa [mkd] using h); exact ⟨by simpa [mkd] using q.1, q.2⟩), kq E0, kq E1, kq E2, kq E3, kq E4, fun _ => rfl, kq E6⟩
                · go_wp2
                  unfold RaI11
                  exact ⟨v46, v47, v48, v49, v50, v51, (.int .i64 m), v53, v45, v54, v55, v15, v16, u9, n9, L9, by simp only [Act.put, List.setIfInBounds_toArray, List.set_cons_zero, List.set_cons_succ], HT.out, fun h => (by have q := E7.out (by simpa [mkd] using h); exact ⟨q.1, q.2⟩), fun h => (by have q := E8.out (by simpa [mkd] using h); exact ⟨by simpa [mkd] using q.1, q.2⟩), fun h => (by have q := E9.out (by simpa [mkd] using h); exact ⟨by simpa [mkd] using q.1, q.2⟩), fun h => (by have q := E10.out (by simpa [mkd] using h); exact ⟨by simpa [mkd] using q.1, q.2⟩), fun h => (by have q := E11.out (by simpa [mkd] using h); exact ⟨by simpa [mkd] using q.1, q.2⟩), fun h => (by have q := E12.out (by simpa [mkd] using h); exact ⟨by simpa [mkd] using q.1, q.2⟩), kq E0, kq E1, kq E2, kq E3, kq E4, kq E5, fun _ => rfl⟩
                · obtain rfl := (E0.out (by simp [haf])).symm
                  obtain rfl := (E4.out (by simp [haf])).symm
                  obtain rfl := (E5.out (by simp [haf])).symm
                  obtain rfl := (E6.out (by simp [haf])).symm
                  go_wp2_with fail
                  (with_reducible refine (IH3.out _).mono ?_)
                  rintro e w9 ⟨v9, L9, rfl, hown9, hb9, hall9, hbd9⟩
                  have HO9 := Lib.hid hown9
                  have HAL9 := Lib.hid hall9
                  have HBD9 := Lib.hid hbd9
                  clear hown9 hall9 hbd9
                  go_wp2
                  unfold RaI11
                  exact ⟨(.agg #[.int .i64 p0, .int .i64 p1, .int .i64 p2, .int .i64 p3]), v47, v48, v49, (.agg #[.int .i64 x_0, .int .i64 x_1, .int .i64 x_2]), (.int .i64 lev), (.int .i64 m), (.tuple #[v9, .int .i64 (m - (L9.length : Int))]), v45, v54, v55, v15, v16, v9, m - (L9.length : Int), L9, by simp only [Act.put, List.setIfInBounds_toArray, List.set_cons_zero, List.set_cons_succ], HT.out.trans ((hb9).mono HT.out.size), fun _ => ⟨rfl, rfl, own_mono HO9.out HT.out.size, HAL9.out, HBD9.out⟩, fun h => (by have q := (E8.out (by simpa [mkd] using h)).1; rw [hL] at q; cases q), fun h => (by have q := (E9.out (by simpa [mkd] using h)).1; rw [hL] at q; cases q), fun h => (by have q := (E10.out (by simpa [mkd] using h)).1; rw [hL] at q; cases q), fun h => (by have q := (E11.out (by simpa [mkd] using h)).1; rw [hL] at q; cases q), fun h => (by have q := (E12.out (by simpa [mkd] using h)).1; rw [hL] at q; cases q), fun _ => rfl, kq E1, kq E2, kq E3, fun _ => rfl, fun _ => rfl, fun _ => rfl⟩
                · obtain ⟨rfl, hpost⟩ := E7.out (by simp [haf])
                  clear hpost
                  have hE : M 7 = true := by have q : M 7 = true := (by simp [haf]); first | exact q | exact (E7.out q).1
                  go_wp2
                  unfold RaI11
                  exact ⟨v46, v47, v48, v49, v50, v51, v52, (.tuple #[u9, .int .i64 n9]), (.tuple #[u9, .int .i64 n9]), v54, v55, v15, v16, u9, n9, L9, by simp only [Act.put, List.setIfInBounds_toArray, List.set_cons_zero, List.set_cons_succ], HT.out, fun h => (by have q := E7.out (by simpa [mkd] using h); exact ⟨rfl, q.2⟩), fun _ => ⟨by simpa [mkd] using hE, rfl⟩, fun h => (by have q := E9.out (by simpa [mkd] using h); exact ⟨by simpa [mkd] using q.1, q.2⟩), fun h => (by have q := E10.out (by simpa [mkd] using h); exact ⟨by simpa [mkd] using q.1, q.2⟩), fun h => (by have q := E11.out (by simpa [mkd] using h); exact ⟨by simpa [mkd] using q.1, q.2⟩), fun h => (by have q := E12.out (by simpa [mkd] using h); exact ⟨by simpa [mkd] using q.1, q.2⟩), kq E0, kq E1, kq E2, kq E3, kq E4, kq E5, kq E6⟩
                · obtain rfl := (E8.out (by simp [haf])).2.symm
                  have hE : M 7 = true := by have q : M 8 = true := (by simp [haf]); first | exact q | exact (E8.out q).1
                  go_wp2
                  unfold RaI11
                  exact ⟨v46, v47, v48, v49, v50, v51, v52, v53, (.tuple #[u9, .int .i64 n9]), (u9), v55, v15, v16, u9, n9, L9, by simp only [Act.put, List.setIfInBounds_toArray, List.set_cons_zero, List.set_cons_succ], HT.out, fun h => (by have q := E7.out (by simpa [mkd] using h); exact ⟨q.1, q.2⟩), fun h => (by have q := E8.out (by simpa [mkd] using h); exact ⟨by simpa [mkd] using q.1, rfl⟩), fun _ => ⟨by simpa [mkd] using hE, rfl⟩, fun h => (by have q := E10.out (by simpa [mkd] using h); exact ⟨by simpa [mkd] using q.1, q.2⟩), fun h => (by have q := E11.out (by simpa [mkd] using h); exact ⟨by simpa [mkd] using q.1, q.2⟩), fun h => (by have q := E12.out (by simpa [mkd] using h); exact ⟨by simpa [mkd] using q.1, q.2⟩), kq E0, kq E1, kq E2, kq E3, kq E4, kq E5, kq E6⟩
                · obtain rfl := (E8.out (by simp [haf])).2.symm
                  have hE : M 7 = true := by have q : M 8 = true := (by simp [haf]); first | exact q | exact (E8.out q).1
                  go_wp2
                  unfold RaI11
                  exact ⟨v46, v47, v48, v49, v50, v51, v52, v53, (.tuple #[u9, .int .i64 n9]), v54, (.int .i64 n9), v15, v16, u9, n9, L9, by simp only [Act.put, List.setIfInBounds_toArray, List.set_cons_zero, List.set_cons_succ], HT.out, fun h => (by have q := E7.out (by simpa [mkd] using h); exact ⟨q.1, q.2⟩), fun h => (by have q := E8.out (by simpa [mkd] using h); exact ⟨by simpa [mkd] using q.1, rfl⟩), fun h => (by have q := E9.out (by simpa [mkd] using h); exact ⟨by simpa [mkd] using q.1, q.2⟩), fun _ => ⟨by simpa [mkd] using hE, rfl⟩, fun h => (by have q := E11.out (by simpa [mkd] using h); exact ⟨by simpa [mkd] using q.1, q.2⟩), fun h => (by have q := E12.out (by simpa [mkd] using h); exact ⟨by simpa [mkd] using q.1, q.2⟩), kq E0, kq E1, kq E2, kq E3, kq E4, kq E5, kq E6⟩
                · obtain rfl := (E9.out (by simp [haf])).2.symm
                  have hE : M 7 = true := by have q : M 9 = true := (by simp [haf]); first | exact q | exact (E9.out q).1
                  go_wp2
                  unfold RaI11
                  exact ⟨v46, v47, v48, v49, v50, v51, v52, v53, v45, (u9), v55, (u9), v16, u9, n9, L9, by simp only [Act.put, List.setIfInBounds_toArray, List.set_cons_zero, List.set_cons_succ], HT.out, fun h => (by have q := E7.out (by simpa [mkd] using h); exact ⟨q.1, q.2⟩), fun h => (by have q := E8.out (by simpa [mkd] using h); exact ⟨by simpa [mkd] using q.1, q.2⟩), fun h => (by have q := E9.out (by simpa [mkd] using h); exact ⟨by simpa [mkd] using q.1, rfl⟩), fun h => (by have q := E10.out (by simpa [mkd] using h); exact ⟨by simpa [mkd] using q.1, q.2⟩), fun _ => ⟨by simpa [mkd] using hE, rfl⟩, fun h => (by have q := E12.out (by simpa [mkd] using h); exact ⟨by simpa [mkd] using q.1, q.2⟩), kq E0, kq E1, kq E2, kq E3, kq E4, kq E5, kq E6⟩
                · obtain rfl := (E10.out (by simp [haf])).2.symm
                  have hE : M 7 = true := by have q : M 10 = true := (by simp [haf]); first | exact q | exact (E10.out q).1
                  go_wp2
                  unfold RaI11
                  exact ⟨v46, v47, v48, v49, v50, v51, v52, v53, v45, v54, (.int .i64 n9), v15, (.int .i64 n9), u9, n9, L9, by simp only [Act.put, List.setIfInBounds_toArray, List.set_cons_zero, List.set_cons_succ], HT.out, fun h => (by have q := E7.out (by simpa [mkd] using h); exact ⟨q.1, q.2⟩), fun h => (by have q := E8.out (by simpa [mkd] using h); exact ⟨by simpa [mkd] using q.1, q.2⟩), fun h => (by have q := E9.out (by simpa [mkd] using h); exact ⟨by simpa [mkd] using q.1, q.2⟩), fun h => (by have q := E10.out (by simpa [mkd] using h); exact ⟨by simpa [mkd] using q.1, rfl⟩), fun h => (by have q := E11.out (by simpa [mkd] using h); exact ⟨by simpa [mkd] using q.1, q.2⟩), fun _ => ⟨by simpa [mkd] using hE, rfl⟩, kq E0, kq E1, kq E2, kq E3, kq E4, kq E5, kq E6⟩
              case fin =>
                rintro M a1' w9 hall ⟨v46, v47, v48, v49, v50, v51, v52, v53, v45, v54, v55, v15, v16, u9, n9, L9, rfl, hT, e7, e8, e9, e10, e11, e12, e0, e1, e2, e3, e4, e5, e6⟩
                obtain rfl := (e0 (hall 0 (by decide))).symm
                obtain rfl := (e1 (hall 1 (by decide))).symm
                obtain rfl := (e2 (hall 2 (by decide))).symm
                obtain rfl := (e3 (hall 3 (by decide))).symm
                obtain rfl := (e4 (hall 4 (by decide))).symm
                obtain rfl := (e5 (hall 5 (by decide))).symm
                obtain rfl := (e6 (hall 6 (by decide))).symm
                obtain ⟨rfl, hpost⟩ := e7 (hall 7 (by decide))
                obtain rfl := (e8 (hall 8 (by decide))).2.symm
                obtain rfl := (e9 (hall 9 (by decide))).2.symm
                obtain rfl := (e10 (hall 10 (by decide))).2.symm
                obtain rfl := (e11 (hall 11 (by decide))).2.symm
                obtain rfl := (e12 (hall 12 (by decide))).2.symm
                obtain ⟨hn9, ho9, ha9, hd9⟩ := hpost
                have HO9 := Lib.hid ho9
                have B9 := Lib.hid (HBR.out.trans (hT.mono HBR.out.size))
                have hHA : 0 ≤ m - (L9.length : Int) → L ++ L9 = (K.take (k + 1)).flatMap (arnL (mtP (p0, p1, p2, p3)) lev f') := fun h => by
                  rw [take_gt K k (by omega), List.flatMap_append, List.flatMap_cons, List.flatMap_nil, List.append_nil, hgk.out, ← ha9 h, ← HAL.out (by have := HM.out; omega)]
                have HHA := Lib.hid hHA
                have hlen9 : L9.length ≤ 2000 := by omega
                obtain ⟨A9, c9, rfl, hr9, -, -⟩ := own_form ho9
                have R9 := Lib.hid hr9
                have OU := Lib.hid (own_bl HOW.out hT (Nat.le_refl _))
                have hbz : w3.heap.size ≤ w9.heap.size := B9.out.size
                clear hT hHA ha9 ho9 hr9 HOW HAL
                go_wp2_with (at_builtin; (refine wpList_append_any _ rfl (.tmp 56) (.tmp 57) _ rfl w3.heap.size 58 i0 _ 3 24 Tryz.underlying26 hi0 hz0 hz1 hzb rfl (by decide) u13 L.length (cvs L) rfl OU.out w9.heap.size A9 L9.length c9 (cvs L9) rfl R9.out (cvs_one _) (by simp only [maxLen]; omega) (by omega) hbz ?_); intro v2 w2' hown2 hg2 hat2; rw [← cvs_append, ← List.length_append] at hown2)
                go_roundg (4 - (k + 1))
                case measure => omega
                case rel => exact ⟨k + 1, L ++ L9, v2, by omega, by omega, by go_num, congrArg (Value.int IntKind.i64) (by rw [List.length_append]; have := HM.out; omega), rfl, hown2, B9.out.grown hg2 hbz (own_base OU.out), fun h => HHA.out (by have := HM.out; rw [List.length_append] at h; omega), by rw [List.length_append]; have := HM.out; have := HBD.out; omega⟩
            · have d1 : decide (0 ≤ m) = false := decide_eq_false hm0
              have HMN := Lib.hid (show ¬ 0 ≤ left - (L.length : Int) by have := HM.out; omega)
              have B9 := Lib.hid (B3.out.trans (HBR.out.mono B3.out.size))
              have OW := Lib.hid (own_mono HOW.out B3.out.size)
              clear HOW HAL HBR
              go_wp2
              go_ret2
              exact ⟨u13, L, by rw [HM.out]; rfl, OW.out, B9.out, fun h => absurd h (by have := HMN.out; omega), HBD.out⟩
          · have hk4' : k = 4 := by omega
            subst hk4'
            have HAF : Hid (0 ≤ left - (L.length : Int) → L = arnL (mtP (p0, p1, p2, p3)) lev (f' + 1) (l, r, c)) := Lib.hid (fun h => by
              rw [HA.out, HAL.out h, List.take_of_length_le (by omega)])
            have B9 := Lib.hid (B3.out.trans (HBR.out.mono B3.out.size))
            have OW := Lib.hid (own_mono HOW.out B3.out.size)
            clear HOW HAL HBR
            go_wp2
            go_ret2
            exact ⟨u13, L, by rw [HM.out]; rfl, OW.out, B9.out, HAF.out, HBD.out⟩
theorem rar_ok (f : Nat) : RarOk f := by
  induction f with
  | zero => exact rar_step 0 (fun f' h => absurd h (by omega))
  | succ f ih => exact rar_step (f + 1) (fun f' h => by cases h; exact ih)
end Go.Proofs.YtpemohoibeipfaaGreat
