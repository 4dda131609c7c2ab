/- The walk of the reference's Region of layer 47. -/
import Derived.Test.YtleigbbgilcckaaGreatHKn
import Derived.Test.YtleigbbgilcckaaGreatHKt
set_option linter.unusedVariables false
set_option linter.unusedSimpArgs false
namespace Go.Proofs.YtleigbbgilcckaaGreat
open Go.RowKit
def RgI8 (E : Int) (p0 : Int) (p1 : Int) (p2 : Int) (p3 : Int) (W2 : World) (x0 x1 x2 x3 x4 x5 : Value) (a : Act) (M : Nat → Bool) (a' : Act) (w' : World) : Prop :=
  ∃ (v34 v35 v36 v37 v38 v39 v40 v33 v41 v42 v15 v16 : Value) (_z0 : Int), a' = ((((((((((((a.put (some 34) v34).put (some 35) v35).put (some 36) v36).put (some 37) v37).put (some 38) v38).put (some 39) v39).put (some 40) v40).put (some 33) v33).put (some 41) v41).put (some 42) v42).put (some 15) v15).put (some 16) v16) ∧ Below W2.heap.size W2 w' ∧
    (M 10 = true → ∃ g, v15 = .pointer (some ⟨g, 0, none⟩) ∧ W2.heap.size ≤ g ∧ (M 11 = false → Blk w' g 48 #[.int .i64 0, .int .i64 0, .int .i64 0, .int .i64 0]) ∧ (M 11 = true → Blk w' g 48 #[.int .i64 p0, .int .i64 p1, .int .i64 p2, .int .i64 p3])) ∧
    (M 11 = true → M 10 = true) ∧
    (M 6 = true → v40 = .tuple #[.agg #[.int .i64 p0, .int .i64 p1, .int .i64 p2, .int .i64 p3], .int .i64 E] ∧ True) ∧
    (M 7 = true → M 6 = true ∧ v33 = .tuple #[.agg #[.int .i64 p0, .int .i64 p1, .int .i64 p2, .int .i64 p3], .int .i64 E]) ∧
    (M 8 = true → M 6 = true ∧ v41 = .agg #[.int .i64 p0, .int .i64 p1, .int .i64 p2, .int .i64 p3]) ∧
    (M 9 = true → M 6 = true ∧ v42 = .int .i64 E) ∧
    (M 12 = true → M 6 = true ∧ v16 = .int .i64 E) ∧
    (M 0 = true → v34 = x0) ∧
    (M 1 = true → v35 = x1) ∧
    (M 2 = true → v36 = x2) ∧
    (M 3 = true → v37 = x3) ∧
    (M 4 = true → v38 = x4) ∧
    (M 5 = true → v39 = x5)
theorem RgI8.start {E : Int} {p0 : Int} {p1 : Int} {p2 : Int} {p3 : Int} {W2 : World} {x0 x1 x2 x3 x4 x5 : Value} (a : Act) : RgI8 E p0 p1 p2 p3 W2 x0 x1 x2 x3 x4 x5 a (fun _ => false) a W2.drew :=
  ⟨_, _, _, _, _, _, _, _, _, _, _, _, 0, by rw [putQ_self a 34, putQ_self a 35, putQ_self a 36, putQ_self a 37, putQ_self a 38, putQ_self a 39, putQ_self a 40, putQ_self a 33, putQ_self a 41, putQ_self a 42, putQ_self a 15, putQ_self a 16], bl_drew (Below.refl _ _), fun h => (by cases h), fun h => (by cases h), fun h => (by cases h), fun h => (by cases h), fun h => (by cases h), fun h => (by cases h), fun h => (by cases h), fun h => (by cases h), fun h => (by cases h), fun h => (by cases h), fun h => (by cases h), fun h => (by cases h), fun h => (by cases h)⟩
/-- what is wrong with what is given -/
def gvE (L : List Cl) (a b x y lev : Int) : Int := if (vrB L && (smB a b && smB x y)) = true then (if 0 ≤ lev ∧ lev ≤ 16 then 0 else 2) else 1
set_option maxHeartbeats 2000000 in
theorem rGiven_any (A : Option Addr) (n ca : Nat) (L : List Cl) (a b x y lev : Int) (w : World) (hr : Reads w w.heap.size 3 A n (cvs L)) (hn : n ≤ ca) (hca : ca ≤ maxLen) :
    Calls Tryz.prog 6 #[.slice A n ca, .agg #[.int .i64 a, .int .i64 b], .agg #[.int .i64 x, .int .i64 y], .int .i64 lev] w fun e w' => e = .returned (.int .i64 (gvE L a b x y lev)) ∧ Below w.heap.size w w' := by
  have RD := Lib.hid hr
  have B0 := (bl_alloc w (.cells #[.int .i64 a, .int .i64 b] 26)).alloc (by simp) (.cells #[.int .i64 x, .int .i64 y] 26)
  have KV := fun (W : World) (hW : Below w.heap.size w W) => refVR_any A n ca L W ((RD.out.below hW).more hW.size) hn hca
  rw [rvrB_eq] at KV
  have KM := fun W => Movement_any a b x y W
  have DA := Lib.hid ((D2.new w a b 26).alloc (.cells #[.int .i64 x, .int .i64 y] 26))
  have dx := D2.new (w.alloc (.cells #[.int .i64 a, .int .i64 b] 26)) x y 26
  rw [World.size_alloc] at dx
  have DX := Lib.hid dx
  have B0 := Lib.hid B0
  unfold gvE
  cases hv : vrB L with
  | false =>
    rw [hv] at KV
    have KV := Lib.hid KV
    clear hr hv dx
    simp only [Bool.false_and, Bool.false_eq_true, if_false]
    go_enter Tryz.func6, Tryz.ntmps6
    go_wp2_with fail
    (with_reducible refine (KV.out _ B0.out).mono ?_)
    rintro e w1 ⟨rfl, hb1⟩
    have B1 := Lib.hid (B0.out.trans (hb1.mono B0.out.size))
    clear hb1
    go_wp2
    go_ret
    exact ⟨rfl, B1.out⟩
  | true =>
    rw [hv] at KV
    have KV := Lib.hid KV
    clear hr hv dx
    cases hm : (smB a b && smB x y) with
    | false =>
      rw [hm] at KM
      have KM := Lib.hid KM
      clear hm
      simp only [Bool.and_false, Bool.false_eq_true, if_false]
      go_enter Tryz.func6, Tryz.ntmps6
      go_wp2_with fail
      (with_reducible refine (KV.out _ B0.out).mono ?_)
      rintro e w1 ⟨rfl, hb1⟩
      have B1 := Lib.hid (B0.out.trans (hb1.mono B0.out.size))
      obtain ⟨-, p0, p1, -, -⟩ := DA.out.below hb1 DA.out.lt
      obtain ⟨-, p2, p3, -, -⟩ := DX.out.below hb1 DX.out.lt
      clear hb1
      go_wp2_with fail
      (with_reducible refine (KM.out _).mono ?_)
      rintro e w2 ⟨rfl, hb2⟩
      have B2 := Lib.hid (B1.out.trans (hb2.mono B1.out.size))
      clear hb2
      go_wp2
      go_ret
      exact ⟨rfl, B2.out⟩
    | true =>
      rw [hm] at KM
      have KM := Lib.hid KM
      clear hm
      simp only [Bool.and_self, if_true]
      by_cases h0 : 0 ≤ lev
      · have d0 : decide (lev < 0) = false := decide_eq_false (by omega)
        by_cases h1 : lev ≤ 16
        · have d1 : decide (16 < lev) = false := decide_eq_false (by omega)
          rw [if_pos ⟨h0, h1⟩]
          go_enter Tryz.func6, Tryz.ntmps6
          go_wp2_with fail
          (with_reducible refine (KV.out _ B0.out).mono ?_)
          rintro e w1 ⟨rfl, hb1⟩
          have B1 := Lib.hid (B0.out.trans (hb1.mono B0.out.size))
          obtain ⟨-, p0, p1, -, -⟩ := DA.out.below hb1 DA.out.lt
          obtain ⟨-, p2, p3, -, -⟩ := DX.out.below hb1 DX.out.lt
          clear hb1
          go_wp2_with fail
          (with_reducible refine (KM.out _).mono ?_)
          rintro e w2 ⟨rfl, hb2⟩
          have B2 := Lib.hid (B1.out.trans (hb2.mono B1.out.size))
          clear hb2
          go_wp2
          go_ret
          exact ⟨rfl, B2.out⟩
        · have d1 : decide (16 < lev) = true := decide_eq_true (by omega)
          rw [if_neg (by omega)]
          go_enter Tryz.func6, Tryz.ntmps6
          go_wp2_with fail
          (with_reducible refine (KV.out _ B0.out).mono ?_)
          rintro e w1 ⟨rfl, hb1⟩
          have B1 := Lib.hid (B0.out.trans (hb1.mono B0.out.size))
          obtain ⟨-, p0, p1, -, -⟩ := DA.out.below hb1 DA.out.lt
          obtain ⟨-, p2, p3, -, -⟩ := DX.out.below hb1 DX.out.lt
          clear hb1
          go_wp2_with fail
          (with_reducible refine (KM.out _).mono ?_)
          rintro e w2 ⟨rfl, hb2⟩
          have B2 := Lib.hid (B1.out.trans (hb2.mono B1.out.size))
          clear hb2
          go_wp2
          go_ret
          exact ⟨rfl, B2.out⟩
      · have d0 : decide (lev < 0) = true := decide_eq_true (by omega)
        rw [if_neg (by omega)]
        go_enter Tryz.func6, Tryz.ntmps6
        go_wp2_with fail
        (with_reducible refine (KV.out _ B0.out).mono ?_)
        rintro e w1 ⟨rfl, hb1⟩
        have B1 := Lib.hid (B0.out.trans (hb1.mono B0.out.size))
        obtain ⟨-, p0, p1, -, -⟩ := DA.out.below hb1 DA.out.lt
        obtain ⟨-, p2, p3, -, -⟩ := DX.out.below hb1 DX.out.lt
        clear hb1
        go_wp2_with fail
        (with_reducible refine (KM.out _).mono ?_)
        rintro e w2 ⟨rfl, hb2⟩
        have B2 := Lib.hid (B1.out.trans (hb2.mono B1.out.size))
        clear hb2
        go_wp2
        go_ret
        exact ⟨rfl, B2.out⟩
theorem gvE_zero {L : List Cl} {a b x y lev : Int} (h : gvE L a b x y lev = 0) : vrB L = true ∧ smB a b = true ∧ smB x y = true ∧ 0 ≤ lev ∧ lev ≤ 16 := by
  unfold gvE at h
  split at h
  · rename_i h1
    rw [Bool.and_eq_true, Bool.and_eq_true] at h1
    split at h
    · rename_i h2; exact ⟨h1.1, h1.2.1, h1.2.2, h2.1, h2.2⟩
    · cases h
  · cases h
/-- what the reference's Region returns -/
def RRegR (L : List Cl) (a b x y lev most : Int) (w : World) (e : Ending) (w' : World) : Prop :=
  ∃ (v : Value) (M : List Cl) (E : Int), e = .returned (.tuple #[v, .int .i64 E]) ∧ w'.ownsRow w.heap.size 46 3 v M.length (cvs M) ∧ Below w.heap.size w w' ∧
    ((gvE L a b x y lev ≠ 0 ∧ E = gvE L a b x y lev ∧ M = []) ∨ (gvE L a b x y lev = 0 ∧ (E = -1 ∨ (RegOk a b x y lev most L E ∧ M = regV a b x y lev L E))))
set_option maxHeartbeats 8000000 in
set_option maxRecDepth 100000 in
theorem rRegion_any (A : Option Addr) (n ca : Nat) (L : List Cl) (a b x y lev most : Int) (w : World) (hr : Reads w w.heap.size 3 A n (cvs L)) (hn : n ≤ ca) (hca : ca ≤ maxLen) (hn20 : n ≤ 20) (m0 : 0 ≤ most) (m1 : most ≤ 60) :
    Calls Tryz.prog 7 #[.slice A n ca, .agg #[.int .i64 a, .int .i64 b], .agg #[.int .i64 x, .int .i64 y], .int .i64 lev, .int .i64 most] w (RRegR L a b x y lev most w) := by
  have RD := Lib.hid hr
  have HN := Lib.hid hr.len
  have B0 := (bl_alloc w (.cells #[.int .i64 a, .int .i64 b] 26)).alloc (by simp) (.cells #[.int .i64 x, .int .i64 y] 26)
  have KG := fun (W : World) (hW : Below w.heap.size w W) => rGiven_any A n ca L a b x y lev W ((RD.out.below hW).more hW.size) hn hca
  have DA := Lib.hid ((D2.new w a b 26).alloc (.cells #[.int .i64 x, .int .i64 y] 26))
  have dx := D2.new (w.alloc (.cells #[.int .i64 a, .int .i64 b] 26)) x y 26
  rw [World.size_alloc] at dx
  have DX := Lib.hid dx
  have B0 := Lib.hid B0
  clear hr dx
  by_cases hg : gvE L a b x y lev = 0
  · rw [hg] at KG
    have KG := Lib.hid KG
    have HG := Lib.hid hg
    obtain ⟨hvr, ha, hx, h0, h16⟩ := gvE_zero hg
    have HVR := Lib.hid hvr
    have hAV := ((vrB_iff L).1 hvr).2.1
    have HAV := Lib.hid hAV
    have hsa := sm_iff.1 ha
    have HSA := Lib.hid ha
    have HSX := Lib.hid hx
    obtain ⟨i0, hi0, hz0, hz1, hzb⟩ := info_parts Tryz.infoCell
    clear hg hvr ha hx hAV
    go_enter Tryz.func7, Tryz.ntmps7
    go_wp2_with fail
    (with_reducible refine (KG.out _ B0.out).mono ?_)
    rintro e w1 ⟨rfl, hb1⟩
    have B1 := Lib.hid (B0.out.trans (hb1.mono B0.out.size))
    have DA1 := Lib.hid (DA.out.below hb1 DA.out.lt)
    have DX1 := Lib.hid (DX.out.below hb1 DX.out.lt)
    have hs1 := B1.out.size
    clear hb1 KG DA DX B0
    go_wp2
    go_loopg [13, 14] n (fun gz s13 s14 wr => ∃ (k : Nat) (u : Value) (MM : List Cl), k + gz = n ∧ s14 = .int .i64 k ∧ s13 = u ∧ wr.ownsRow w1.heap.size 46 3 u MM.length (cvs MM) ∧ Below w1.heap.size w1 wr ∧ (∀ i, i < k → okM a b x y lev most (gt L i)) ∧ (∀ q, covL MM q ↔ covL (regX a b x y lev L k) q) ∧ AllV MM ∧ MM.length ≤ k * 60)
    case atStart => exact ⟨0, _, [], by omega, rfl, rfl, own_nil _ _ _ _, Below.refl _ _, fun i hi => absurd hi (by omega), fun q => by simp [regX], fun z hz => (by cases hz), by simp⟩
    case round =>
      obtain ⟨k, u, MM, hk, rfl, rfl, hown, hbr, hok, hcov, hMv, hMl⟩ := hrel
      have OW := Lib.hid hown
      have BR := Lib.hid hbr
      have OK := Lib.hid hok
      have CV := Lib.hid hcov
      have MV := Lib.hid hMv
      have BX := Lib.hid (B1.out.trans (hbr.mono hs1))
      have hMl2 : MM.length ≤ 1200 := by omega
      have MLK := Lib.hid hMl
      clear hown hbr hok hcov hMv hMl
      by_cases hlt : k < n
      · obtain ⟨bb, off, rfl, hbb, x0, x1, x2⟩ := RD.out.elem hlt
        have X0 := Lib.hid x0
        have X1 := Lib.hid x1
        have X2 := Lib.hid x2
        have hcm : gt L k ∈ L := by simp [gt, show k < L.length by rw [HN.out]; exact hlt]
        have hcv := HAV.out _ hcm
        have KC := fun W => rcell_any (gt L k).1 (gt L k).2.1 (gt L k).2.2 a b x y W ((vl_iff _).2 hcv) HSA.out HSX.out
        have hmv := mvV_eq (bxI (gt L k)) a b x y
        rw [show mvV (edg (gt L k).2.1 (gt L k).1 - 5400000) (edg ((gt L k).2.1 + 1) (gt L k).1 - 5400000) (edg (gt L k).2.2 (gt L k).1 - 10800000) (edg ((gt L k).2.2 + 1) (gt L k).1 - 10800000) a b x y = _ from hmv] at KC
        have hfx := bx_facts hcv
        have hvp := fun h => mvBox_vp (q := bxI (gt L k)) (a := a) (b := b) (x := x) (y := y) (bx_vp hcv) hfx.2.2.2.2.1 hsa.2.1 h
        have hoM : okM a b x y lev most (gt L k) ↔ mvErr (bxI (gt L k)) a b x y = 0 ∧ ((arnA (mtP (mvBox (bxI (gt L k)) a b x y)) lev).length : Int) ≤ most := Iff.rfl
        have hxs := regX_succ a b x y lev L k (by rw [HN.out]; exact hlt)
        rw [show arnM a b x y lev (gt L k) = arnA (mtP (mvBox (bxI (gt L k)) a b x y)) lev from rfl] at hxs
        obtain ⟨E, hE⟩ : ∃ E, mvErr (bxI (gt L k)) a b x y = E := ⟨_, rfl⟩
        have HE := Lib.hid hE
        have hEn := mvErr_pos (bxI (gt L k)) a b x y
        rw [hE] at KC hvp hoM hEn
        obtain ⟨pb, hpb⟩ : ∃ pb, mvBox (bxI (gt L k)) a b x y = pb := ⟨_, rfl⟩
        rw [hpb] at KC hvp hoM hxs
        have HOM := Lib.hid hoM
        have HXS := Lib.hid hxs
        obtain ⟨c, hc⟩ : ∃ c, gt L k = c := ⟨_, rfl⟩
        rw [hc] at X0 X1 X2 KC
        clear x0 x1 x2 hcm hcv hmv hfx hoM hxs hE hpb hc
        obtain ⟨l, r, c⟩ := c
        obtain ⟨p0, p1, p2, p3⟩ := pb
        simp only [] at X0 X1 X2 KC
        have KC := Lib.hid KC
        have HVP := Lib.hid hvp
        clear hvp
        go_upto_region 8 with (fail)
        refine wp_region_inv3 (by kernel_rfl) (RgI8 (E) (p0) (p1) (p2) (p3) wr (.slice (some ⟨bb, off, none⟩) n ca) (.int .i64 (k : Int)) (.pointer (some ⟨bb, off + k * 3, none⟩)) (.agg #[.int .i64 l, .int .i64 r, .int .i64 c]) (.agg #[.int .i64 a, .int .i64 b]) (.agg #[.int .i64 x, .int .i64 y])) (waits_bind (by kernel_rfl)) ?start ?step ?fin
        case start => exact RgI8.start _
        case step =>
          rintro M i o a1' w' ho hL haf ⟨v34, v35, v36, v37, v38, v39, v40, v33, v41, v42, v15, v16, _z0, rfl, hT, eA, eS, e6, e7, e8, e9, e12, e0, e1, e2, e3, e4, e5⟩
          have HT := Lib.hid hT
          have EA := Lib.hid eA
          have ES := Lib.hid eS
          have E6 := Lib.hid e6
          have E7 := Lib.hid e7
          have E8 := Lib.hid e8
          have E9 := Lib.hid e9
          have E12 := Lib.hid e12
          have E0 := Lib.hid e0
          have E1 := Lib.hid e1
          have E2 := Lib.hid e2
          have E3 := Lib.hid e3
          have E4 := Lib.hid e4
          have E5 := Lib.hid e5
          clear hT eA eS e6 e7 e8 e9 e12 e0 e1 e2 e3 e4 e5
          rcases i with _ | _ | _ | _ | _ | _ | _ | _ | _ | _ | _ | _ | _ | i
          all_goals (simp at ho; try subst ho)
          all_goals (try simp [Region.binds] at haf)
          · go_wp2
            unfold RgI8
            exact ⟨(.slice (some ⟨bb, off, none⟩) n ca), v35, v36, v37, v38, v39, v40, v33, v41, v42, v15, v16, _z0, by simp only [Act.put, List.setIfInBounds_toArray, List.set_cons_zero, List.set_cons_succ], HT.out, fun h => (by obtain ⟨g9, q1, q2, q3, q4⟩ := EA.out (by simpa [mkd] using h); exact ⟨g9, q1, q2, fun h' => q3 (by simpa [mkd] using h'), fun h' => q4 (by simpa [mkd] using h')⟩), fun h => (by have q := ES.out (by simpa [mkd] using h); simpa [mkd] using q), fun h => (by have q := E6.out (by simpa [mkd] using h); exact ⟨q.1, q.2⟩), fun h => (by have q := E7.out (by simpa [mkd] using h); exact ⟨by simpa [mkd] using q.1, q.2⟩), fun h => (by have q := E8.out (by simpa [mkd] using h); exact ⟨by simpa [mkd] using q.1, q.2⟩), fun h => (by have q := E9.out (by simpa [mkd] using h); exact ⟨by simpa [mkd] using q.1, q.2⟩), fun h => (by have q := E12.out (by simpa [mkd] using h); exact ⟨by simpa [mkd] using q.1, q.2⟩), fun _ => rfl, fun h => E1.out (by simpa [mkd] using h), fun h => E2.out (by simpa [mkd] using h), fun h => E3.out (by simpa [mkd] using h), fun h => E4.out (by simpa [mkd] using h), fun h => E5.out (by simpa [mkd] using h)⟩
          · go_wp2
            unfold RgI8
            exact ⟨v34, (.int .i64 (k : Int)), v36, v37, v38, v39, v40, v33, v41, v42, v15, v16, _z0, by simp only [Act.put, List.setIfInBounds_toArray, List.set_cons_zero, List.set_cons_succ], HT.out, fun h => (by obtain ⟨g9, q1, q2, q3, q4⟩ := EA.out (by simpa [mkd] using h); exact ⟨g9, q1, q2, fun h' => q3 (by simpa [mkd] using h'), fun h' => q4 (by simpa [mkd] using h')⟩), fun h => (by have q := ES.out (by simpa [mkd] using h); simpa [mkd] using q), fun h => (by have q := E6.out (by simpa [mkd] using h); exact ⟨q.1, q.2⟩), fun h => (by have q := E7.out (by simpa [mkd] using h); exact ⟨by simpa [mkd] using q.1, q.2⟩), fun h => (by have q := E8.out (by simpa [mkd] using h); exact ⟨by simpa [mkd] using q.1, q.2⟩), fun h => (by have q := E9.out (by simpa [mkd] using h); exact ⟨by simpa [mkd] using q.1, q.2⟩), fun h => (by have q := E12.out (by simpa [mkd] using h); exact ⟨by simpa [mkd] using q.1, q.2⟩), fun h => E0.out (by simpa [mkd] using h), fun _ => rfl, fun h => E2.out (by simpa [mkd] using h), fun h => E3.out (by simpa [mkd] using h), fun h => E4.out (by simpa [mkd] using h), fun h => E5.out (by simpa [mkd] using h)⟩
          · obtain rfl := (E0.out (by simp [haf])).symm
            obtain rfl := (E1.out (by simp [haf])).symm
            go_wp2
            unfold RgI8
            exact ⟨(.slice (some ⟨bb, off, none⟩) n ca), (.int .i64 (k : Int)), (.pointer (some ⟨bb, off + k * 3, none⟩)), v37, v38, v39, v40, v33, v41, v42, v15, v16, _z0, by simp only [Act.put, List.setIfInBounds_toArray, List.set_cons_zero, List.set_cons_succ], HT.out, fun h => (by obtain ⟨g9, q1, q2, q3, q4⟩ := EA.out (by simpa [mkd] using h); exact ⟨g9, q1, q2, fun h' => q3 (by simpa [mkd] using h'), fun h' => q4 (by simpa [mkd] using h')⟩), fun h => (by have q := ES.out (by simpa [mkd] using h); simpa [mkd] using q), fun h => (by have q := E6.out (by simpa [mkd] using h); exact ⟨q.1, q.2⟩), fun h => (by have q := E7.out (by simpa [mkd] using h); exact ⟨by simpa [mkd] using q.1, q.2⟩), fun h => (by have q := E8.out (by simpa [mkd] using h); exact ⟨by simpa [mkd] using q.1, q.2⟩), fun h => (by have q := E9.out (by simpa [mkd] using h); exact ⟨by simpa [mkd] using q.1, q.2⟩), fun h => (by have q := E12.out (by simpa [mkd] using h); exact ⟨by simpa [mkd] using q.1, q.2⟩), fun _ => rfl, fun _ => rfl, fun _ => rfl, fun h => E3.out (by simpa [mkd] using h), fun h => E4.out (by simpa [mkd] using h), fun h => E5.out (by simpa [mkd] using h)⟩
          · obtain rfl := (E2.out (by simp [haf])).symm
            have hw9 := BX.out.trans (HT.out.mono BX.out.size)
            have k0 := (hw9.cell (p := ⟨bb, off + k * 3, none⟩) hbb).trans X0.out
            have k1 := (hw9.cell (p := ⟨bb, off + k * 3 + 1, none⟩) hbb).trans X1.out
            have k2 := (hw9.cell (p := ⟨bb, off + k * 3 + 2, none⟩) hbb).trans X2.out
            clear hw9
            go_wp2
            unfold RgI8
            exact ⟨v34, v35, (.pointer (some ⟨bb, off + k * 3, none⟩)), (.agg #[.int .i64 l, .int .i64 r, .int .i64 c]), v38, v39, v40, v33, v41, v42, v15, v16, _z0, by simp only [Act.put, List.setIfInBounds_toArray, List.set_cons_zero, List.set_cons_succ], HT.out, fun h => (by obtain ⟨g9, q1, q2, q3, q4⟩ := EA.out (by simpa [mkd] using h); exact ⟨g9, q1, q2, fun h' => q3 (by simpa [mkd] using h'), fun h' => q4 (by simpa [mkd] using h')⟩), fun h => (by have q := ES.out (by simpa [mkd] using h); simpa [mkd] using q), fun h => (by have q := E6.out (by simpa [mkd] using h); exact ⟨q.1, q.2⟩), fun h => (by have q := E7.out (by simpa [mkd] using h); exact ⟨by simpa [mkd] using q.1, q.2⟩), fun h => (by have q := E8.out (by simpa [mkd] using h); exact ⟨by simpa [mkd] using q.1, q.2⟩), fun h => (by have q := E9.out (by simpa [mkd] using h); exact ⟨by simpa [mkd] using q.1, q.2⟩), fun h => (by have q := E12.out (by simpa [mkd] using h); exact ⟨by simpa [mkd] using q.1, q.2⟩), fun h => E0.out (by simpa [mkd] using h), fun h => E1.out (by simpa [mkd] using h), fun _ => rfl, fun _ => rfl, fun h => E4.out (by simpa [mkd] using h), fun h => E5.out (by simpa [mkd] using h)⟩
          · obtain ⟨-, f0, f1, -, -⟩ := DA1.out.below (BR.out.trans (HT.out.mono BR.out.size)) DA1.out.lt
            go_wp2
            unfold RgI8
            exact ⟨v34, v35, v36, v37, (.agg #[.int .i64 a, .int .i64 b]), v39, v40, v33, v41, v42, v15, v16, _z0, by simp only [Act.put, List.setIfInBounds_toArray, List.set_cons_zero, List.set_cons_succ], HT.out, fun h => (by obtain ⟨g9, q1, q2, q3, q4⟩ := EA.out (by simpa [mkd] using h); exact ⟨g9, q1, q2, fun h' => q3 (by simpa [mkd] using h'), fun h' => q4 (by simpa [mkd] using h')⟩), fun h => (by have q := ES.out (by simpa [mkd] using h); simpa [mkd] using q), fun h => (by have q := E6.out (by simpa [mkd] using h); exact ⟨q.1, q.2⟩), fun h => (by have q := E7.out (by simpa [mkd] using h); exact ⟨by simpa [mkd] using q.1, q.2⟩), fun h => (by have q := E8.out (by simpa [mkd] using h); exact ⟨by simpa [mkd] using q.1, q.2⟩), fun h => (by have q := E9.out (by simpa [mkd] using h); exact ⟨by simpa [mkd] using q.1, q.2⟩), fun h => (by have q := E12.out (by simpa [mkd] using h); exact ⟨by simpa [mkd] using q.1, q.2⟩), fun h => E0.out (by simpa [mkd] using h), fun h => E1.out (by simpa [mkd] using h), fun h => E2.out (by simpa [mkd] using h), fun h => E3.out (by simpa [mkd] using h), fun _ => rfl, fun h => E5.out (by simpa [mkd] using h)⟩
          · obtain ⟨-, f0, f1, -, -⟩ := DX1.out.below (BR.out.trans (HT.out.mono BR.out.size)) DX1.out.lt
            go_wp2
            unfold RgI8
            exact ⟨v34, v35, v36, v37, v38, (.agg #[.int .i64 x, .int .i64 y]), v40, v33, v41, v42, v15, v16, _z0, by simp only [Act.put, List.setIfInBounds_toArray, List.set_cons_zero, List.set_cons_succ], HT.out, fun h => (by obtain ⟨g9, q1, q2, q3, q4⟩ := EA.out (by simpa [mkd] using h); exact ⟨g9, q1, q2, fun h' => q3 (by simpa [mkd] using h'), fun h' => q4 (by simpa [mkd] using h')⟩), fun h => (by have q := ES.out (by simpa [mkd] using h); simpa [mkd] using q), fun h => (by have q := E6.out (by simpa [mkd] using h); exact ⟨q.1, q.2⟩), fun h => (by have q := E7.out (by simpa [mkd] using h); exact ⟨by simpa [mkd] using q.1, q.2⟩), fun h => (by have q := E8.out (by simpa [mkd] using h); exact ⟨by simpa [mkd] using q.1, q.2⟩), fun h => (by have q := E9.out (by simpa [mkd] using h); exact ⟨by simpa [mkd] using q.1, q.2⟩), fun h => (by have q := E12.out (by simpa [mkd] using h); exact ⟨by simpa [mkd] using q.1, q.2⟩), fun h => E0.out (by simpa [mkd] using h), fun h => E1.out (by simpa [mkd] using h), fun h => E2.out (by simpa [mkd] using h), fun h => E3.out (by simpa [mkd] using h), fun h => E4.out (by simpa [mkd] using h), fun _ => rfl⟩
          · obtain rfl := (E3.out (by simp [haf])).symm
            obtain rfl := (E4.out (by simp [haf])).symm
            obtain rfl := (E5.out (by simp [haf])).symm
            go_wp2_with fail
            (with_reducible refine (KC.out _).mono ?_)
            rintro e w9 ⟨rfl, hb9⟩
            go_wp2
            unfold RgI8
            exact ⟨v34, v35, v36, (.agg #[.int .i64 l, .int .i64 r, .int .i64 c]), (.agg #[.int .i64 a, .int .i64 b]), (.agg #[.int .i64 x, .int .i64 y]), (.tuple #[.agg #[.int .i64 p0, .int .i64 p1, .int .i64 p2, .int .i64 p3], .int .i64 E]), v33, v41, v42, v15, v16, 0, by simp only [Act.put, List.setIfInBounds_toArray, List.set_cons_zero, List.set_cons_succ], HT.out.trans ((hb9).mono HT.out.size), fun h => (by obtain ⟨g9, q1, q2, q3, q4⟩ := EA.out (by simpa [mkd] using h); exact ⟨g9, q1, q2, fun h' => (q3 (by simpa [mkd] using h')).below (hb9) (q3 (by simpa [mkd] using h')).lt, fun h' => (q4 (by simpa [mkd] using h')).below (hb9) (q4 (by simpa [mkd] using h')).lt⟩), fun h => (by have q := ES.out (by simpa [mkd] using h); simpa [mkd] using q), fun _ => ⟨rfl, trivial⟩, fun h => (by have q := (E7.out (by simpa [mkd] using h)).1; rw [hL] at q; cases q), fun h => (by have q := (E8.out (by simpa [mkd] using h)).1; rw [hL] at q; cases q), fun h => (by have q := (E9.out (by simpa [mkd] using h)).1; rw [hL] at q; cases q), fun h => (by have q := (E12.out (by simpa [mkd] using h)).1; rw [hL] at q; cases q), fun h => E0.out (by simpa [mkd] using h), fun h => E1.out (by simpa [mkd] using h), fun h => E2.out (by simpa [mkd] using h), fun _ => rfl, fun _ => rfl, fun _ => rfl⟩
          · obtain ⟨rfl, hpost⟩ := E6.out (by simp [haf])
            clear hpost
            have hE : M 6 = true := by have q : M 6 = true := (by simp [haf]); first | exact q | exact (E6.out q).1
            go_wp2
            unfold RgI8
            exact ⟨v34, v35, v36, v37, v38, v39, (.tuple #[.agg #[.int .i64 p0, .int .i64 p1, .int .i64 p2, .int .i64 p3], .int .i64 E]), (.tuple #[.agg #[.int .i64 p0, .int .i64 p1, .int .i64 p2, .int .i64 p3], .int .i64 E]), v41, v42, v15, v16, _z0, by simp only [Act.put, List.setIfInBounds_toArray, List.set_cons_zero, List.set_cons_succ], HT.out, fun h => (by obtain ⟨g9, q1, q2, q3, q4⟩ := EA.out (by simpa [mkd] using h); exact ⟨g9, q1, q2, fun h' => q3 (by simpa [mkd] using h'), fun h' => q4 (by simpa [mkd] using h')⟩), fun h => (by have q := ES.out (by simpa [mkd] using h); simpa [mkd] using q), fun h => (by have q := E6.out (by simpa [mkd] using h); exact ⟨rfl, q.2⟩), fun _ => ⟨by simpa [mkd] using hE, rfl⟩, fun h => (by have q := E8.out (by simpa [mkd] using h); exact ⟨by simpa [mkd] using q.1, q.2⟩), fun h => (by have q := E9.out (by simpa [mkd] using h); exact ⟨by simpa [mkd] using q.1, q.2⟩), fun h => (by have q := E12.out (by simpa [mkd] using h); exact ⟨by simpa [mkd] using q.1, q.2⟩), fun h => E0.out (by simpa [mkd] using h), fun h => E1.out (by simpa [mkd] using h), fun h => E2.out (by simpa [mkd] using h), fun h => E3.out (by simpa [mkd] using h), fun h => E4.out (by simpa [mkd] using h), fun h => E5.out (by simpa [mkd] using h)⟩
          · obtain rfl := (E7.out (by simp [haf])).2.symm
            have hE : M 6 = true := by have q : M 7 = true := (by simp [haf]); first | exact q | exact (E7.out q).1
            go_wp2
            unfold RgI8
            exact ⟨v34, v35, v36, v37, v38, v39, v40, (.tuple #[.agg #[.int .i64 p0, .int .i64 p1, .int .i64 p2, .int .i64 p3], .int .i64 E]), (.agg #[.int .i64 p0, .int .i64 p1, .int .i64 p2, .int .i64 p3]), v42, v15, v16, _z0, by simp only [Act.put, List.setIfInBounds_toArray, List.set_cons_zero, List.set_cons_succ], HT.out, fun h => (by obtain ⟨g9, q1, q2, q3, q4⟩ := EA.out (by simpa [mkd] using h); exact ⟨g9, q1, q2, fun h' => q3 (by simpa [mkd] using h'), fun h' => q4 (by simpa [mkd] using h')⟩), fun h => (by have q := ES.out (by simpa [mkd] using h); simpa [mkd] using q), fun h => (by have q := E6.out (by simpa [mkd] using h); exact ⟨q.1, q.2⟩), fun h => (by have q := E7.out (by simpa [mkd] using h); exact ⟨by simpa [mkd] using q.1, rfl⟩), fun _ => ⟨by simpa [mkd] using hE, rfl⟩, fun h => (by have q := E9.out (by simpa [mkd] using h); exact ⟨by simpa [mkd] using q.1, q.2⟩), fun h => (by have q := E12.out (by simpa [mkd] using h); exact ⟨by simpa [mkd] using q.1, q.2⟩), fun h => E0.out (by simpa [mkd] using h), fun h => E1.out (by simpa [mkd] using h), fun h => E2.out (by simpa [mkd] using h), fun h => E3.out (by simpa [mkd] using h), fun h => E4.out (by simpa [mkd] using h), fun h => E5.out (by simpa [mkd] using h)⟩
          · obtain rfl := (E7.out (by simp [haf])).2.symm
            have hE : M 6 = true := by have q : M 7 = true := (by simp [haf]); first | exact q | exact (E7.out q).1
            go_wp2
            unfold RgI8
            exact ⟨v34, v35, v36, v37, v38, v39, v40, (.tuple #[.agg #[.int .i64 p0, .int .i64 p1, .int .i64 p2, .int .i64 p3], .int .i64 E]), v41, (.int .i64 E), v15, v16, _z0, by simp only [Act.put, List.setIfInBounds_toArray, List.set_cons_zero, List.set_cons_succ], HT.out, fun h => (by obtain ⟨g9, q1, q2, q3, q4⟩ := EA.out (by simpa [mkd] using h); exact ⟨g9, q1, q2, fun h' => q3 (by simpa [mkd] using h'), fun h' => q4 (by simpa [mkd] using h')⟩), fun h => (by have q := ES.out (by simpa [mkd] using h); simpa [mkd] using q), fun h => (by have q := E6.out (by simpa [mkd] using h); exact ⟨q.1, q.2⟩), fun h => (by have q := E7.out (by simpa [mkd] using h); exact ⟨by simpa [mkd] using q.1, rfl⟩), fun h => (by have q := E8.out (by simpa [mkd] using h); exact ⟨by simpa [mkd] using q.1, q.2⟩), fun _ => ⟨by simpa [mkd] using hE, rfl⟩, fun h => (by have q := E12.out (by simpa [mkd] using h); exact ⟨by simpa [mkd] using q.1, q.2⟩), fun h => E0.out (by simpa [mkd] using h), fun h => E1.out (by simpa [mkd] using h), fun h => E2.out (by simpa [mkd] using h), fun h => E3.out (by simpa [mkd] using h), fun h => E4.out (by simpa [mkd] using h), fun h => E5.out (by simpa [mkd] using h)⟩
          · have NB := Lib.hid (Blk.new w' 48 #[.int .i64 0, .int .i64 0, .int .i64 0, .int .i64 0])
            have HB9 := Lib.hid (bl_alloc w' (.cells #[.int .i64 0, .int .i64 0, .int .i64 0, .int .i64 0] 48))
            go_wp2
            unfold RgI8
            exact ⟨v34, v35, v36, v37, v38, v39, v40, v33, v41, v42, (.pointer (some ⟨w'.heap.size, 0, none⟩)), v16, _z0, by simp only [Act.put, List.setIfInBounds_toArray, List.set_cons_zero, List.set_cons_succ], HT.out.trans ((HB9.out).mono HT.out.size), fun _ => ⟨_, rfl, HT.out.size, fun _ => NB.out, fun h => (by have q : M 11 = true := (by simpa [mkd] using h); have r := ES.out q; rw [hL] at r; cases r)⟩, fun _ => mkd_same _ _, fun h => (by have q := E6.out (by simpa [mkd] using h); exact ⟨q.1, q.2⟩), fun h => (by have q := E7.out (by simpa [mkd] using h); exact ⟨by simpa [mkd] using q.1, q.2⟩), fun h => (by have q := E8.out (by simpa [mkd] using h); exact ⟨by simpa [mkd] using q.1, q.2⟩), fun h => (by have q := E9.out (by simpa [mkd] using h); exact ⟨by simpa [mkd] using q.1, q.2⟩), fun h => (by have q := E12.out (by simpa [mkd] using h); exact ⟨by simpa [mkd] using q.1, q.2⟩), fun h => E0.out (by simpa [mkd] using h), fun h => E1.out (by simpa [mkd] using h), fun h => E2.out (by simpa [mkd] using h), fun h => E3.out (by simpa [mkd] using h), fun h => E4.out (by simpa [mkd] using h), fun h => E5.out (by simpa [mkd] using h)⟩
          · obtain rfl := (E8.out (by simp [haf])).2.symm
            obtain ⟨g9, rfl, hg9, hb9, -⟩ := EA.out (by simp [haf])
            have hB9 := hb9 hL
            have hB8 := (((hB9.set_ 0 (.int .i64 p0)).set_ 1 (.int .i64 p1)).set_ 2 (.int .i64 p2)).set_ 3 (.int .i64 p3)
            simp only [List.setIfInBounds_toArray, List.set_cons_zero, List.set_cons_succ] at hB8
            have HB8 := Lib.hid hB8
            clear hB8
            have k0 := hB9.cell 0
            have f0 := hB9.frozen 0
            have k1 := hB9.cell 1
            have f1 := hB9.frozen 1
            have k2 := hB9.cell 2
            have f2 := hB9.frozen 2
            have k3 := hB9.cell 3
            have f3 := hB9.frozen 3
            simp only [List.getElem?_toArray, List.getElem?_cons_zero, List.getElem?_cons_succ] at k0 k1 k2 k3
            clear hB9 hb9
            go_wp2
            unfold RgI8
            exact ⟨v34, v35, v36, v37, v38, v39, v40, v33, (.agg #[.int .i64 p0, .int .i64 p1, .int .i64 p2, .int .i64 p3]), v42, (.pointer (some ⟨g9, 0, none⟩)), v16, _z0, by simp only [Act.put, List.setIfInBounds_toArray, List.set_cons_zero, List.set_cons_succ], (((HT.out.setCell hg9 _).setCell hg9 _).setCell hg9 _).setCell hg9 _, fun _ => ⟨g9, rfl, hg9, fun h => (by simp [mkd] at h), fun _ => HB8.out⟩, fun _ => (by have r : M 10 = true := (by simp [haf]); simpa [mkd] using r), fun h => (by have q := E6.out (by simpa [mkd] using h); exact ⟨q.1, q.2⟩), fun h => (by have q := E7.out (by simpa [mkd] using h); exact ⟨by simpa [mkd] using q.1, q.2⟩), fun h => (by have q := E8.out (by simpa [mkd] using h); exact ⟨by simpa [mkd] using q.1, rfl⟩), fun h => (by have q := E9.out (by simpa [mkd] using h); exact ⟨by simpa [mkd] using q.1, q.2⟩), fun h => (by have q := E12.out (by simpa [mkd] using h); exact ⟨by simpa [mkd] using q.1, q.2⟩), fun h => E0.out (by simpa [mkd] using h), fun h => E1.out (by simpa [mkd] using h), fun h => E2.out (by simpa [mkd] using h), fun h => E3.out (by simpa [mkd] using h), fun h => E4.out (by simpa [mkd] using h), fun h => E5.out (by simpa [mkd] using h)⟩
          · obtain rfl := (E9.out (by simp [haf])).2.symm
            have hE : M 6 = true := by have q : M 9 = true := (by simp [haf]); first | exact q | exact (E9.out q).1
            go_wp2
            unfold RgI8
            exact ⟨v34, v35, v36, v37, v38, v39, v40, v33, v41, (.int .i64 E), v15, (.int .i64 E), _z0, by simp only [Act.put, List.setIfInBounds_toArray, List.set_cons_zero, List.set_cons_succ], HT.out, fun h => (by obtain ⟨g9, q1, q2, q3, q4⟩ := EA.out (by simpa [mkd] using h); exact ⟨g9, q1, q2, fun h' => q3 (by simpa [mkd] using h'), fun h' => q4 (by simpa [mkd] using h')⟩), fun h => (by have q := ES.out (by simpa [mkd] using h); simpa [mkd] using q), fun h => (by have q := E6.out (by simpa [mkd] using h); exact ⟨q.1, q.2⟩), fun h => (by have q := E7.out (by simpa [mkd] using h); exact ⟨by simpa [mkd] using q.1, q.2⟩), fun h => (by have q := E8.out (by simpa [mkd] using h); exact ⟨by simpa [mkd] using q.1, q.2⟩), fun h => (by have q := E9.out (by simpa [mkd] using h); exact ⟨by simpa [mkd] using q.1, rfl⟩), fun _ => ⟨by simpa [mkd] using hE, rfl⟩, fun h => E0.out (by simpa [mkd] using h), fun h => E1.out (by simpa [mkd] using h), fun h => E2.out (by simpa [mkd] using h), fun h => E3.out (by simpa [mkd] using h), fun h => E4.out (by simpa [mkd] using h), fun h => E5.out (by simpa [mkd] using h)⟩
        case fin =>
          rintro M a1' w4 hall ⟨v34, v35, v36, v37, v38, v39, v40, v33, v41, v42, v15, v16, _z0, rfl, hT, eA, eS, e6, e7, e8, e9, e12, e0, e1, e2, e3, e4, e5⟩
          obtain rfl := (e0 (hall 0 (by decide))).symm
          obtain rfl := (e1 (hall 1 (by decide))).symm
          obtain rfl := (e2 (hall 2 (by decide))).symm
          obtain rfl := (e3 (hall 3 (by decide))).symm
          obtain rfl := (e4 (hall 4 (by decide))).symm
          obtain rfl := (e5 (hall 5 (by decide))).symm
          obtain ⟨rfl, hpost⟩ := e6 (hall 6 (by decide))
          obtain rfl := (e7 (hall 7 (by decide))).2.symm
          obtain rfl := (e8 (hall 8 (by decide))).2.symm
          obtain rfl := (e9 (hall 9 (by decide))).2.symm
          obtain rfl := (e12 (hall 12 (by decide))).2.symm
          obtain ⟨g9, rfl, hg9, -, hk9⟩ := eA (hall 10 (by decide))
          have K9 := Lib.hid (hk9 (hall 11 (by decide)))
          clear hk9
          clear hpost eA eS
          have BX4 := Lib.hid (BX.out.trans (hT.mono BX.out.size))
          have BR4 := Lib.hid (BR.out.trans (hT.mono BR.out.size))
          have OW4 := Lib.hid (own_bl OW.out hT (Nat.le_refl _))
          have y0 : w4.cell? ⟨g9, 0, none⟩ = some (.int .i64 p0) := K9.out.cell 0
          have y1 : w4.cell? ⟨g9, 1, none⟩ = some (.int .i64 p1) := K9.out.cell 1
          have y2 : w4.cell? ⟨g9, 2, none⟩ = some (.int .i64 p2) := K9.out.cell 2
          have y3 : w4.cell? ⟨g9, 3, none⟩ = some (.int .i64 p3) := K9.out.cell 3
          clear hT K9 KC OW BR BX DA1 DX1 X0 X1 X2
          by_cases hE0 : E = 0
          · subst hE0
            have KA := Lib.hid (fun W => rAround_any p0 p1 p2 p3 lev most W (HVP.out rfl) h0 h16 m0 (by omega))
            go_wp2_with fail
            (with_reducible refine (KA.out _).mono ?_)
            rintro e w5 ⟨v9, L9, E9, rfl, hown9, hb9, hd9⟩
            have BX5 := Lib.hid (BX4.out.trans (hb9.mono BX4.out.size))
            rcases hd9 with ⟨rfl, hL9, hlen9⟩ | rfl
            · have OK2 : Hid (∀ i, i < k + 1 → okM a b x y lev most (gt L i)) := Lib.hid (fun i hi => by
                rcases Nat.lt_or_ge i k with h | h
                · exact OK.out i h
                · obtain rfl : i = k := by omega
                  exact HOM.out.2 ⟨trivial, hlen9⟩)
              have hAv : AllV (arnA (mtP (p0, p1, p2, p3)) lev) := arnA_v h0 h16
              have CV2 : Hid (∀ q, covL (MM ++ L9) q ↔ covL (regX a b x y lev L (k + 1)) q) := Lib.hid (fun q => by
                rw [HXS.out, cov_appL, cov_appL, CV.out q, hL9, can_cov hAv])
              have MV2 : Hid (AllV (MM ++ L9)) := Lib.hid (app_v MV.out (by rw [hL9]; exact can_v _ hAv))
              have hl9 : L9.length ≤ 60 := by
                have := canonC_len _ hAv
                rw [hL9]
                omega
              have ML2 : Hid ((MM ++ L9).length ≤ (k + 1) * 60) := Lib.hid (by rw [List.length_append]; have := MLK.out; omega)
              obtain ⟨A9, c9, rfl, hr9, -, -⟩ := own_form hown9
              have R9 := Lib.hid hr9
              have OW5 := Lib.hid (own_bl OW4.out hb9 (Nat.le_refl _))
              have BR5 := Lib.hid (BR4.out.trans (hb9.mono BR4.out.size))
              have hbz : w1.heap.size ≤ w5.heap.size := BR5.out.size
              clear hown9 hr9 hb9 hL9 hlen9 hAv OW4 BR4 OK CV MV HXS HOM
              go_wp2_with (at_builtin; (refine wpList_append_any _ rfl (.tmp 56) (.tmp 57) _ rfl w1.heap.size 46 i0 _ 3 24 Tryz.underlying22 hi0 hz0 hz1 hzb rfl (by decide) u13 MM.length (cvs MM) rfl OW5.out w5.heap.size A9 L9.length c9 (cvs L9) rfl R9.out (cvs_one _) (by simp only [maxLen]; omega) (by omega) hbz ?_); intro v2 w2' hown2 hg2 hat2; rw [← cvs_append, ← List.length_append] at hown2)
              go_roundg (n - (k + 1))
              case measure => omega
              case rel => exact ⟨k + 1, v2, MM ++ L9, by omega, by go_num, rfl, hown2, BR5.out.grown hg2 hbz (own_base OW5.out), OK2.out, CV2.out, MV2.out, ML2.out⟩
            · clear hown9 hb9
              go_wp2
              go_ret2
              exact ⟨_, [], -1, rfl, own_nil _ _ _ _, BX5.out, .inr ⟨HG.out, .inl rfl⟩⟩
          · have hbn : (E != (0 : Int)) = true := by simpa using hE0
            have HR : Hid (RegOk a b x y lev most L E) := Lib.hid ⟨k, by rw [HN.out]; omega, OK.out, .inr ⟨by rw [HN.out]; exact hlt, hE0, HE.out⟩⟩
            have HV0 : Hid ([] = regV a b x y lev L E) := Lib.hid (by unfold regV; rw [if_neg hE0])
            clear hE0
            go_wp2
            go_ret2
            exact ⟨_, [], E, rfl, own_nil _ _ _ _, BX4.out, .inr ⟨HG.out, .inr ⟨HR.out, HV0.out⟩⟩⟩
      · have hk2 : k = n := by omega
        subst hk2
        obtain ⟨A9, c9, hu, hr9, -, -⟩ := own_form OW.out
        have hML : madeL 1 MM [] = regV a b x y lev L 0 := by
          rw [made_or _ MV.out]
          unfold regV
          rw [if_pos rfl, HN.out]
          exact canonC_congr CV.out
        have hvl : (regV a b x y lev L 0).length ≤ 4000 := by
          rw [← hML, made_or _ MV.out]
          exact Nat.le_trans (canonC_len _ MV.out) (by omega)
        have HR : Hid (RegOk a b x y lev most L 0) := Lib.hid ⟨k, by rw [HN.out]; omega, OK.out, .inl ⟨HN.out.symm, rfl⟩⟩
        have KMD := Made_any 1 A9 none MM.length 0 c9 0 MM [] wr hr9 Reads.none_ (by omega) (by omega) (lv_of MV.out) (fun z hz => by cases hz) (.inl rfl)
        rw [hML] at KMD
        obtain ⟨R, hR⟩ : ∃ R, regV a b x y lev L 0 = R := ⟨_, rfl⟩
        rw [hR] at KMD hvl
        have HRV := Lib.hid hR
        have KMD := Lib.hid KMD
        have hs9 : w.heap.size ≤ wr.heap.size := BX.out.size
        subst hu
        clear hr9 hML OW BR OK CV MV MLK DA1 DX1 hR
        go_wp2_with fail
        (with_reducible refine (KMD.out).mono ?_)
        rintro e w6 ⟨v6, rfl, hown6, hb6⟩
        have B6 := Lib.hid (BX.out.trans (hb6.mono BX.out.size))
        have O6 := Lib.hid (own_mono hown6 hs9)
        obtain ⟨A6, c6, rfl, -, -⟩ := own_form hown6
        have hd4 : decide (4000 < (R.length : Int)) = false := decide_eq_false (by omega)
        clear hown6 hb6
        go_wp2
        go_ret2
        exact ⟨_, R, 0, rfl, O6.out, B6.out, .inr ⟨HG.out, .inr ⟨HR.out, HRV.out.symm⟩⟩⟩
  · have KG := Lib.hid KG
    have hne : ((gvE L a b x y lev) != (0 : Int)) = true := by simpa using hg
    obtain ⟨E, hE⟩ : ∃ E, gvE L a b x y lev = E := ⟨_, rfl⟩
    rw [hE] at KG hne
    have HE := Lib.hid hE
    have HG := Lib.hid hg
    clear hE hg
    go_enter Tryz.func7, Tryz.ntmps7
    go_wp2_with fail
    (with_reducible refine (KG.out _ B0.out).mono ?_)
    rintro e w1 ⟨rfl, hb1⟩
    have B1 := Lib.hid (B0.out.trans (hb1.mono B0.out.size))
    clear hb1 DA DX
    go_wp2
    go_ret2
    exact ⟨_, [], E, rfl, own_nil _ _ _ _, B1.out, .inl ⟨HG.out, HE.out.symm, rfl⟩⟩
end Go.Proofs.YtleigbbgilcckaaGreat
