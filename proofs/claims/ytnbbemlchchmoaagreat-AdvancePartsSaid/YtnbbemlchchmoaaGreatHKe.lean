/- The walk of AdvanceParts. -/
import Derived.Test.YtnbbemlchchmoaaGreatHJs
import Derived.Test.YtnbbemlchchmoaaGreatHKg
import Derived.Test.YtnbbemlchchmoaaGreatHBj
set_option linter.unusedVariables false
set_option linter.unusedSimpArgs false
namespace Go.Proofs.YtnbbemlchchmoaaGreat
open Go.RowKit
def ApI10 (W2 : World) (x0 x1 x2 x3 x4 x5 x6 x7 x8 x9 : Value) (v : Nat → Int × Int) (a : Act) (L : Nat → Bool) (a' : Act) (w' : World) : Prop :=
  ∃ (v60 v61 v62 v63 v64 v65 v66 v67 v68 v69 v17 v18 : Value) (g : Nat → Nat), a' = ((((((((((((a.put (some 60) v60).put (some 61) v61).put (some 62) v62).put (some 63) v63).put (some 64) v64).put (some 65) v65).put (some 66) v66).put (some 67) v67).put (some 68) v68).put (some 69) v69).put (some 17) v17).put (some 18) v18) ∧ MJ W2 w' L 2 10 12 g v ∧
    (L 0 = true → v60 = x0) ∧ (L 1 = true → v61 = x1) ∧ (L 2 = true → v62 = x2) ∧ (L 3 = true → v63 = x3) ∧ (L 4 = true → v64 = x4) ∧ (L 5 = true → v65 = x5) ∧ (L 6 = true → v66 = x6) ∧ (L 7 = true → v67 = x7) ∧ (L 8 = true → v68 = x8) ∧ (L 9 = true → v69 = x9) ∧ (L 10 = true → v17 = .pointer (some ⟨g 0, 0, none⟩)) ∧ (L 11 = true → v18 = .pointer (some ⟨g 1, 0, none⟩))
theorem ApI10.start (W2 : World) (x0 x1 x2 x3 x4 x5 x6 x7 x8 x9 : Value) (v : Nat → Int × Int) (a : Act) : ApI10 W2 x0 x1 x2 x3 x4 x5 x6 x7 x8 x9 v a (fun _ => false) a W2.drew :=
  ⟨_, _, _, _, _, _, _, _, _, _, _, _, fun _ => 0, by rw [putQ_self a 60, putQ_self a 61, putQ_self a 62, putQ_self a 63, putQ_self a 64, putQ_self a 65, putQ_self a 66, putQ_self a 67, putQ_self a 68, putQ_self a 69, putQ_self a 17, putQ_self a 18], MJ.start W2 2 10 12 _ v, fun h => (by cases h), fun h => (by cases h), fun h => (by cases h), fun h => (by cases h), fun h => (by cases h), fun h => (by cases h), fun h => (by cases h), fun h => (by cases h), fun h => (by cases h), fun h => (by cases h), fun h => (by cases h), fun h => (by cases h)⟩
def ApI11 (p0 : Int) (p1 : Int) (p2 : Int) (p3 : Int) (W2 : World) (x0 x1 x2 x3 x4 : Value) (a : Act) (M : Nat → Bool) (a' : Act) (w' : World) : Prop :=
  ∃ (v71 v72 v73 v74 v75 v76 v70 v77 v78 v19 v20 : Value) (_z0 : Int), a' = (((((((((((a.put (some 71) v71).put (some 72) v72).put (some 73) v73).put (some 74) v74).put (some 75) v75).put (some 76) v76).put (some 70) v70).put (some 77) v77).put (some 78) v78).put (some 19) v19).put (some 20) v20) ∧ Below W2.heap.size W2 w' ∧
    (M 9 = true → ∃ g, v19 = .pointer (some ⟨g, 0, none⟩) ∧ W2.heap.size ≤ g ∧ (M 10 = false → Blk w' g 43 #[.int .i64 0, .int .i64 0, .int .i64 0, .int .i64 0]) ∧ (M 10 = true → Blk w' g 43 #[.int .i64 p0, .int .i64 p1, .int .i64 p2, .int .i64 p3])) ∧
    (M 10 = true → M 9 = true) ∧
    (M 5 = true → v76 = .tuple #[.agg #[.int .i64 p0, .int .i64 p1, .int .i64 p2, .int .i64 p3], .int .i64 0] ∧ True) ∧
    (M 6 = true → M 5 = true ∧ v70 = .tuple #[.agg #[.int .i64 p0, .int .i64 p1, .int .i64 p2, .int .i64 p3], .int .i64 0]) ∧
    (M 7 = true → M 5 = true ∧ v77 = .agg #[.int .i64 p0, .int .i64 p1, .int .i64 p2, .int .i64 p3]) ∧
    (M 8 = true → M 5 = true ∧ v78 = .int .i64 0) ∧
    (M 11 = true → M 5 = true ∧ v20 = .int .i64 0) ∧
    (M 0 = true → v71 = x0) ∧
    (M 1 = true → v72 = x1) ∧
    (M 2 = true → v73 = x2) ∧
    (M 3 = true → v74 = x3) ∧
    (M 4 = true → v75 = x4)
theorem ApI11.start {p0 : Int} {p1 : Int} {p2 : Int} {p3 : Int} {W2 : World} {x0 x1 x2 x3 x4 : Value} (a : Act) : ApI11 p0 p1 p2 p3 W2 x0 x1 x2 x3 x4 a (fun _ => false) a W2.drew :=
  ⟨_, _, _, _, _, _, _, _, _, _, _, 0, by rw [putQ_self a 71, putQ_self a 72, putQ_self a 73, putQ_self a 74, putQ_self a 75, putQ_self a 76, putQ_self a 70, putQ_self a 77, putQ_self a 78, putQ_self a 19, putQ_self a 20], bl_drew (Below.refl _ _), fun h => (by cases h), fun h => (by cases h), fun h => (by cases h), fun h => (by cases h), fun h => (by cases h), fun h => (by cases h), fun h => (by cases h), fun h => (by cases h), fun h => (by cases h), fun h => (by cases h), fun h => (by cases h), fun h => (by cases h)⟩
def ApI12 (q0 : Int) (q1 : Int) (q2 : Int) (q3 : Int) (W2 : World) (x0 x1 x2 x3 x4 : Value) (a : Act) (M : Nat → Bool) (a' : Act) (w' : World) : Prop :=
  ∃ (v80 v81 v82 v83 v84 v85 v79 v86 v87 v21 v22 : Value) (_z0 : Int), a' = (((((((((((a.put (some 80) v80).put (some 81) v81).put (some 82) v82).put (some 83) v83).put (some 84) v84).put (some 85) v85).put (some 79) v79).put (some 86) v86).put (some 87) v87).put (some 21) v21).put (some 22) v22) ∧ Below W2.heap.size W2 w' ∧
    (M 9 = true → ∃ g, v21 = .pointer (some ⟨g, 0, none⟩) ∧ W2.heap.size ≤ g ∧ (M 10 = false → Blk w' g 43 #[.int .i64 0, .int .i64 0, .int .i64 0, .int .i64 0]) ∧ (M 10 = true → Blk w' g 43 #[.int .i64 q0, .int .i64 q1, .int .i64 q2, .int .i64 q3])) ∧
    (M 10 = true → M 9 = true) ∧
    (M 5 = true → v85 = .tuple #[.agg #[.int .i64 q0, .int .i64 q1, .int .i64 q2, .int .i64 q3], .int .i64 0] ∧ True) ∧
    (M 6 = true → M 5 = true ∧ v79 = .tuple #[.agg #[.int .i64 q0, .int .i64 q1, .int .i64 q2, .int .i64 q3], .int .i64 0]) ∧
    (M 7 = true → M 5 = true ∧ v86 = .agg #[.int .i64 q0, .int .i64 q1, .int .i64 q2, .int .i64 q3]) ∧
    (M 8 = true → M 5 = true ∧ v87 = .int .i64 0) ∧
    (M 11 = true → M 5 = true ∧ v22 = .int .i64 0) ∧
    (M 0 = true → v80 = x0) ∧
    (M 1 = true → v81 = x1) ∧
    (M 2 = true → v82 = x2) ∧
    (M 3 = true → v83 = x3) ∧
    (M 4 = true → v84 = x4)
theorem ApI12.start {q0 : Int} {q1 : Int} {q2 : Int} {q3 : Int} {W2 : World} {x0 x1 x2 x3 x4 : Value} (a : Act) : ApI12 q0 q1 q2 q3 W2 x0 x1 x2 x3 x4 a (fun _ => false) a W2.drew :=
  ⟨_, _, _, _, _, _, _, _, _, _, _, 0, by rw [putQ_self a 80, putQ_self a 81, putQ_self a 82, putQ_self a 83, putQ_self a 84, putQ_self a 85, putQ_self a 79, putQ_self a 86, putQ_self a 87, putQ_self a 21, putQ_self a 22], bl_drew (Below.refl _ _), fun h => (by cases h), fun h => (by cases h), fun h => (by cases h), fun h => (by cases h), fun h => (by cases h), fun h => (by cases h), fun h => (by cases h), fun h => (by cases h), fun h => (by cases h), fun h => (by cases h), fun h => (by cases h), fun h => (by cases h)⟩
def ApI14 (R : List Cl) (W2 : World) (x0 x1 x2 x3 x4 : Value) (a : Act) (M : Nat → Bool) (a' : Act) (w' : World) : Prop :=
  ∃ (v97 v98 v99 v100 v101 v102 v96 v103 v104 v25 v26 : Value) (u9 : Value), a' = (((((((((((a.put (some 97) v97).put (some 98) v98).put (some 99) v99).put (some 100) v100).put (some 101) v101).put (some 102) v102).put (some 96) v96).put (some 103) v103).put (some 104) v104).put (some 25) v25).put (some 26) v26) ∧ Below W2.heap.size W2 w' ∧
    (M 5 = true → v102 = .tuple #[u9, .int .i64 0] ∧ w'.ownsRow W2.heap.size 58 3 u9 R.length (cvs R)) ∧
    (M 6 = true → M 5 = true ∧ v96 = .tuple #[u9, .int .i64 0]) ∧
    (M 7 = true → M 5 = true ∧ v103 = u9) ∧
    (M 8 = true → M 5 = true ∧ v104 = .int .i64 0) ∧
    (M 9 = true → M 5 = true ∧ v25 = u9) ∧
    (M 10 = true → M 5 = true ∧ v26 = .int .i64 0) ∧
    (M 0 = true → v97 = x0) ∧
    (M 1 = true → v98 = x1) ∧
    (M 2 = true → v99 = x2) ∧
    (M 3 = true → v100 = x3) ∧
    (M 4 = true → v101 = x4)
theorem ApI14.start {R : List Cl} {W2 : World} {x0 x1 x2 x3 x4 : Value} (a : Act) : ApI14 R W2 x0 x1 x2 x3 x4 a (fun _ => false) a W2.drew :=
  ⟨_, _, _, _, _, _, _, _, _, _, _, undef, by rw [putQ_self a 97, putQ_self a 98, putQ_self a 99, putQ_self a 100, putQ_self a 101, putQ_self a 102, putQ_self a 96, putQ_self a 103, putQ_self a 104, putQ_self a 25, putQ_self a 26], bl_drew (Below.refl _ _), fun h => (by cases h), fun h => (by cases h), fun h => (by cases h), fun h => (by cases h), fun h => (by cases h), fun h => (by cases h), fun h => (by cases h), fun h => (by cases h), fun h => (by cases h), fun h => (by cases h), fun h => (by cases h)⟩
theorem part_all {L M : List Cl} {c : Cl} {a a' b' b x x' y' y lev : Int} (hv : vrB L = true) (hc : c ∈ L) (h1 : a ≤ a') (h2 : a' ≤ b') (h3 : b' ≤ b) (h4 : x ≤ x') (h5 : x' ≤ y') (h6 : y' ≤ y) (h0 : 0 ≤ lev) (h16 : lev ≤ 16) (hl : L.length ≤ 60) (ha : smB a b = true) (hx : smB x y = true) (hd : RgD L a b x y lev M 0) :
    mvErr (bxI c) a b x y = 0 ∧ mvErr (bxI c) a' b' x' y' = 0 ∧ insX (mvBox (bxI c) a' b' x' y') (mvBox (bxI c) a b x y) = true ∧ VP (mvBox (bxI c) a' b' x' y') ∧ VP (mvBox (bxI c) a b x y) ∧ smB a' b' = true ∧ smB x' y' = true ∧
      RgD [c] a' b' x' y' lev (regV a' b' x' y' lev [c] 0) 0 ∧ vrB (regV a' b' x' y' lev [c] 0) = true ∧ vrB M = true ∧ insL (regV a' b' x' y' lev [c] 0) M = true := by
  obtain ⟨-, r1, rfl⟩ := rgd_zero hd
  have hL := ((vrB_iff L).1 hv).2.1
  obtain ⟨m1, m2, m3, m4, m5⟩ := reg_part hL h1 h2 h3 h4 h5 h6 h0 h16 r1 hc
  rw [sm_iff] at ha hx
  have ha' : smB a' b' = true := sm_iff.2 (by omega)
  have hx' : smB x' y' = true := sm_iff.2 (by omega)
  have hcv := hL c hc
  have hfc := bx_facts hcv
  have hg : gvE [c] a' b' x' y' lev = 0 := by
    unfold gvE
    rw [one_vr hcv, ha', hx', if_pos (by rfl), if_pos ⟨h0, h16⟩]
  refine ⟨m1, m2, m3, mvBox_vp (bx_vp hcv) hfc.2.2.2.2.1 h2 m2, mvBox_vp (bx_vp hcv) hfc.2.2.2.2.1 (by omega) m1, ha', hx', .inr ⟨hg, .inr ⟨m4, rfl⟩⟩, regV_vr h0 h16 m4 (by simp), regV_vr h0 h16 r1 hl, ?_⟩
  rw [regV_zero, regV_zero]
  exact (ins_can (regX_v h0 h16 _ _) (regX_v h0 h16 _ _)).2 m5
theorem reads_head {W : World} {bb off n : Nat} {L : List Cl} (h : Reads W W.heap.size 3 (some ⟨bb, off, none⟩) n (cvs L)) (hn : 0 < n) : Reads W W.heap.size 3 (some ⟨bb, off, none⟩) 1 (cvs [gt L 0]) := by
  obtain ⟨b2, o2, e, hb, x0, x1, x2⟩ := h.elem hn
  cases e
  rw [Nat.zero_mul, Nat.add_zero] at x0 x1 x2
  refine ⟨rfl, fun _ => ⟨_, rfl, hb, fun j u hu => ?_⟩⟩
  match j, hu with
  | 0, hu => simp [cvs, cv] at hu; subst hu; simpa [Addr.add] using x0
  | 1, hu => simp [cvs, cv] at hu; subst hu; simpa [Addr.add] using x1
  | 2, hu => simp [cvs, cv] at hu; subst hu; simpa [Addr.add] using x2
  | j + 3, hu => simp [cvs, cv] at hu
set_option maxHeartbeats 16000000 in
set_option maxRecDepth 100000 in
theorem advParts_any (A : Option Addr) (n ca : Nat) (L : List Cl) (a b x y lv lo hi : Int) (w : World) (hr : Reads w w.heap.size 3 A n (cvs L)) (hn : n ≤ ca) (hca : ca ≤ maxLen) (l0 : 0 ≤ lv) (l1 : lv ≤ 255) (lo0 : 0 ≤ lo) (lo1 : lo ≤ 4294967295) (hi0 : 0 ≤ hi) (hi1 : hi ≤ 4294967295) :
    Calls Tryz.prog 7 #[.slice A n ca, .agg #[.int .i64 a, .int .i64 b], .agg #[.int .i64 x, .int .i64 y], .int .u8 lv, .int .u32 lo, .int .u32 hi] w fun e w' => e = .returned (.bool true) ∧ Below w.heap.size w w' := by
  have RD := Lib.hid (fun (W : World) (hW : Below w.heap.size w W) => (hr.below hW).more hW.size)
  have RD0 := Lib.hid hr
  have HL := Lib.hid hr.len
  have KA := Lib.hid awake47
  have b0 := (bl_alloc w (.cells #[.int .i64 a, .int .i64 b] 32)).alloc (by simp) (.cells #[.int .i64 x, .int .i64 y] 32)
  have DA := Lib.hid ((D2.new w a b 32).alloc (.cells #[.int .i64 x, .int .i64 y] 32))
  have dx := D2.new (w.alloc (.cells #[.int .i64 a, .int .i64 b] 32)) x y 32
  rw [World.size_alloc] at dx
  have DX := Lib.hid dx
  have B0 := Lib.hid b0
  have eg := enters_of Tryz.func34 (by kernel_rfl) rfl
  clear hr b0 dx
  obtain ⟨lev, hk⟩ : ∃ k : Int, lv % 17 = k := ⟨_, rfl⟩
  have v0 : 0 ≤ lev := by omega
  have v16 : lev ≤ 16 := by omega
  have V0 := Lib.hid v0
  have V16 := Lib.hid v16
  have hkt : lv.tmod 17 = lev := by rw [Int.tmod_eq_emod_of_nonneg l0]; exact hk
  by_cases hz : n = 0
  · subst hz
    clear hn hca v0 v16
    go_enter Tryz.func7, Tryz.ntmps7
    go_wp2_with fail
    (with_reducible refine (KA.out _).mono ?_)
    rintro e w1 ⟨rfl, hb1⟩
    have B1 := Lib.hid (B0.out.trans (hb1.mono B0.out.size))
    clear hb1 B0 DA DX KA
    go_wp2
    go_ret
    exact ⟨rfl, B1.out⟩
  have dz : ((n : Int) == 0) = false := by simpa using hz
  have hpos : 0 < n := by omega
  by_cases hs : n ≤ 6
  · have ds : decide (6 < (n : Int)) = false := decide_eq_false (by omega)
    have hn20 : n ≤ 20 := by omega
    have HNC := Lib.hid hn
    have HC := Lib.hid hca
    have HM := Lib.hid hn20
    have HL6 : Hid (L.length ≤ 60) := Lib.hid (by rw [HL.out]; omega)
    have KG := fun (W : World) (hW : Below w.heap.size w W) => rGiven_any A n ca L a b x y lev W (RD.out W hW) hn hca
    by_cases hg : gvE L a b x y lev = 0
    · obtain ⟨hv, ha, hx, -, -⟩ := gvE_zero hg
      rw [hg] at KG
      have KG := Lib.hid KG
      have HV := Lib.hid hv
      have HA := Lib.hid ha
      have HX := Lib.hid hx
      have K1 := Lib.hid (fun (W : World) (hW : Below w.heap.size w W) => rRegion_any A n ca L a b x y lev 60 W (RD.out W hW) hn hca hn20 (by decide) (by decide))
      have KF1 := fun W => partC_any a b lo hi W ha lo0 lo1 hi0 hi1
      have KF2 := fun W => partC_any x y hi lo W hx hi0 hi1 lo0 lo1
      have P1 := Lib.hid (pp_bd (lo := lo) (hi := hi) (sm_iff.1 ha).2.1)
      have P2 := Lib.hid (pp_bd (lo := hi) (hi := lo) (sm_iff.1 hx).2.1)
      obtain ⟨a', hea⟩ : ∃ v, pLo a b lo = v := ⟨_, rfl⟩
      obtain ⟨b', heb⟩ : ∃ v, pHi a b lo hi = v := ⟨_, rfl⟩
      obtain ⟨x', hex⟩ : ∃ v, pLo x y hi = v := ⟨_, rfl⟩
      obtain ⟨y', hey⟩ : ∃ v, pHi x y hi lo = v := ⟨_, rfl⟩
      rw [hea, heb] at P1 KF1
      rw [hex, hey] at P2 KF2
      have KF1 := Lib.hid KF1
      have KF2 := Lib.hid KF2
      clear hg hv ha hx hn hca hn20 v0 v16 hea heb hex hey
      go_enter Tryz.func7, Tryz.ntmps7
      go_wp2_with fail
      (with_reducible refine (KA.out _).mono ?_)
      rintro e w1 ⟨rfl, hb1⟩
      have B1 := Lib.hid (B0.out.trans (hb1.mono B0.out.size))
      have DA1 := Lib.hid (DA.out.below hb1 DA.out.lt)
      have DX1 := Lib.hid (DX.out.below hb1 DX.out.lt)
      clear hb1 B0 DA DX KA
      obtain ⟨-, p0, p1, -, -⟩ := DA1.out
      obtain ⟨-, p2, p3, -, -⟩ := DX1.out
      go_wp2_with fail
      (with_reducible refine (KG.out _ B1.out).mono ?_)
      rintro e w2 ⟨rfl, hb2⟩
      have B2 := Lib.hid (B1.out.trans (hb2.mono B1.out.size))
      have DA2 := Lib.hid (DA1.out.below hb2 DA1.out.lt)
      have DX2 := Lib.hid (DX1.out.below hb2 DX1.out.lt)
      clear hb2 B1 DA1 DX1 KG p0 p1 p2 p3
      obtain ⟨-, p0, p1, -, -⟩ := DA2.out
      obtain ⟨-, p2, p3, -, -⟩ := DX2.out
      go_wp2_with fail
      (with_reducible refine (K1.out _ B2.out).mono ?_)
      rintro e w4 ⟨v4, ML, E, rfl, hown4, hb4, hd⟩
      have HD : Hid (RgD L a b x y lev ML E) := Lib.hid hd
      have B4 := Lib.hid (B2.out.trans (hb4.mono B2.out.size))
      have DA4 := Lib.hid (DA2.out.below hb4 DA2.out.lt)
      have DX4 := Lib.hid (DX2.out.below hb4 DX2.out.lt)
      clear hb4 B2 DA2 DX2 hown4 hd K1 p0 p1 p2 p3
      by_cases hE : E ≠ 0
      · have k2 : (E != (0 : Int)) = true := by simpa using hE
        clear hE HD
        go_wp2
        go_ret
        exact ⟨rfl, B4.out⟩
      obtain rfl : E = 0 := by omega
      clear hE
      -- the first cell
      obtain ⟨bb, off, rfl, hbb, x0, x1, x2⟩ := RD0.out.elem hpos
      rw [Nat.zero_mul, Nat.add_zero] at x0 x1 x2
      have hcm : gt L 0 ∈ L := by simp [gt, show 0 < L.length by rw [HL.out]; exact hpos]
      obtain ⟨m1, m2, m3, m4, m5, m6, m7, m8, m9, m10, m11⟩ := part_all HV.out hcm P1.out.1 P1.out.2.1 P1.out.2.2 P2.out.1 P2.out.2.1 P2.out.2.2 V0.out V16.out HL6.out HA.out HX.out HD.out
      have hcv := (vl_iff _).2 (((vrB_iff L).1 HV.out).2.1 _ hcm)
      have HRH := Lib.hid (fun (W : World) (hW : Below w.heap.size w W) => reads_head (RD.out W hW) hpos)
      generalize hcc : gt L 0 = cc at x0 x1 x2 m1 m2 m3 m4 m5 m8 m9 m11 hcv HRH
      have e1 := mvV_eq (bxI cc) a b x y
      have e2 := mvV_eq (bxI cc) a' b' x' y'
      rw [m1] at e1
      rw [m2] at e2
      have KC1 := fun W => aCell_yes cc.1 cc.2.1 cc.2.2 a b x y _ _ _ _ 0 W hcv HA.out HX.out e1
      have KC2 := fun W => aCell_yes cc.1 cc.2.1 cc.2.2 a' b' x' y' _ _ _ _ 0 W hcv m6 m7 e2
      have KPI := fun (q0 q1 q2 q3 p0 p1 p2 p3 : Int) (W : World) (hq : VP (q0, q1, q2, q3)) (hp : VP (p0, p1, p2, p3)) => placeInside_any q0 q1 q2 q3 p0 p1 p2 p3 W hq hp
      have KR1 := Lib.hid (fun (W : World) (hW : Below w.heap.size w W) => aReg_same (RD.out W hW) HNC.out HC.out HM.out HD.out (by decide))
      have hc1 : 1 ≤ ca := Nat.le_trans hpos HNC.out
      have KR2 := Lib.hid (fun (W : World) (hW : Below w.heap.size w W) => aReg_same (HRH.out W hW) hc1 HC.out (by omega) m8 (by decide))
      obtain ⟨M1, hM1⟩ : ∃ M1, regV a' b' x' y' lev [cc] 0 = M1 := ⟨_, rfl⟩
      rw [hM1] at KR2 m9 m11
      have HV1 := Lib.hid m9
      have HVM := Lib.hid m10
      have HIN := Lib.hid m11
      have hsl : ∀ W : World, (Instr.slice 26 (.slice (some ⟨bb, off, none⟩) n ca) none (some (.int .i64 1)) none).run Tryz.prog W = .ok (.slice (some ⟨bb, off, none⟩) 1 ca) W := fun W => by
        rw [run_slice_h W 26 (some ⟨bb, off, none⟩) n ca Tryz.underlying26 .i64 1 (by omega) (by omega)]
        simp [go_sem, Addr.add]
      generalize mvBox (bxI cc) a b x y = pb at KC1 m3 m5
      generalize mvBox (bxI cc) a' b' x' y' = qb at KC2 m3 m4
      obtain ⟨l, r, c⟩ := cc
      obtain ⟨p0, p1, p2, p3⟩ := pb
      obtain ⟨q0, q1, q2, q3⟩ := qb
      simp only [] at x0 x1 x2 KC1 KC2
      have X0 := Lib.hid x0
      have X1 := Lib.hid x1
      have X2 := Lib.hid x2
      have KC1 := Lib.hid KC1
      have KC2 := Lib.hid KC2
      have KPI2 := fun W => KPI q0 q1 q2 q3 p0 p1 p2 p3 W m4 m5
      rw [m3] at KPI2
      have KPI2 := Lib.hid KPI2
      clear x0 x1 x2 m1 m2 m3 m4 m5 m6 m7 m8 m9 m10 m11 hcm hcv e1 e2 KPI hM1 hcc HRH hc1 RD0 HD
      go_upto_region 10 with (fail)
      refine wp_region_inv3 (by kernel_rfl) (ApI10 w4 (.func (.func 34) #[] #[]) (.agg #[.int .i64 a, .int .i64 b]) (.int .u32 lo) (.int .u32 hi) (.agg #[.int .i64 a', .int .i64 b']) (.func (.func 34) #[] #[]) (.agg #[.int .i64 x, .int .i64 y]) (.int .u32 hi) (.int .u32 lo) (.agg #[.int .i64 x', .int .i64 y']) (fun i => [((a' : Int), (b' : Int)), (x', y')].getD i (0, 0))) (waits_bind (by kernel_rfl)) ?start ?step ?fin
      case start => exact ApI10.start w4 _ _ _ _ _ _ _ _ _ _ _ _
      case step =>
        rintro L i o a1' w' ho hL haf ⟨v60, v61, v62, v63, v64, v65, v66, v67, v68, v69, v17, v18, g, rfl, hT, e0, e1, e2, e3, e4, e5, e6, e7, e8, e9, e10, e11⟩
        have HT := Lib.hid hT
        clear hT
        have E0 := Lib.hid e0
        have E1 := Lib.hid e1
        have E2 := Lib.hid e2
        have E3 := Lib.hid e3
        have E4 := Lib.hid e4
        have E5 := Lib.hid e5
        have E6 := Lib.hid e6
        have E7 := Lib.hid e7
        have E8 := Lib.hid e8
        have E9 := Lib.hid e9
        have E10 := Lib.hid e10
        have E11 := Lib.hid e11
        clear e0 e1 e2 e3 e4 e5 e6 e7 e8 e9 e10 e11
        rcases i with _ | _ | _ | _ | _ | _ | _ | _ | _ | _ | _ | _ | _ | _ | i
        all_goals (simp at ho; try subst ho)
        all_goals (try simp [Region.binds] at haf)
        · go_wp2
          unfold ApI10
          exact ⟨(.func (.func 34) #[] #[]), v61, v62, v63, v64, v65, v66, v67, v68, v69, v17, v18, g, by simp only [Act.put, List.setIfInBounds_toArray, List.set_cons_zero, List.set_cons_succ], HT.out.mark 0 (by decide), fun _ => rfl, fun h => E1.out (by simpa [mkd] using h), fun h => E2.out (by simpa [mkd] using h), fun h => E3.out (by simpa [mkd] using h), fun h => E4.out (by simpa [mkd] using h), fun h => E5.out (by simpa [mkd] using h), fun h => E6.out (by simpa [mkd] using h), fun h => E7.out (by simpa [mkd] using h), fun h => E8.out (by simpa [mkd] using h), fun h => E9.out (by simpa [mkd] using h), fun h => E10.out (by simpa [mkd] using h), fun h => E11.out (by simpa [mkd] using h)⟩
        · obtain ⟨-, f0, f1, -, -⟩ := DA4.out.below HT.out.bl DA4.out.lt
          go_wp2
          unfold ApI10
          exact ⟨v60, (.agg #[.int .i64 a, .int .i64 b]), v62, v63, v64, v65, v66, v67, v68, v69, v17, v18, g, by simp only [Act.put, List.setIfInBounds_toArray, List.set_cons_zero, List.set_cons_succ], HT.out.mark 1 (by decide), fun h => E0.out (by simpa [mkd] using h), fun _ => rfl, fun h => E2.out (by simpa [mkd] using h), fun h => E3.out (by simpa [mkd] using h), fun h => E4.out (by simpa [mkd] using h), fun h => E5.out (by simpa [mkd] using h), fun h => E6.out (by simpa [mkd] using h), fun h => E7.out (by simpa [mkd] using h), fun h => E8.out (by simpa [mkd] using h), fun h => E9.out (by simpa [mkd] using h), fun h => E10.out (by simpa [mkd] using h), fun h => E11.out (by simpa [mkd] using h)⟩
        · go_wp2
          unfold ApI10
          exact ⟨v60, v61, (.int .u32 lo), v63, v64, v65, v66, v67, v68, v69, v17, v18, g, by simp only [Act.put, List.setIfInBounds_toArray, List.set_cons_zero, List.set_cons_succ], HT.out.mark 2 (by decide), fun h => E0.out (by simpa [mkd] using h), fun h => E1.out (by simpa [mkd] using h), fun _ => rfl, fun h => E3.out (by simpa [mkd] using h), fun h => E4.out (by simpa [mkd] using h), fun h => E5.out (by simpa [mkd] using h), fun h => E6.out (by simpa [mkd] using h), fun h => E7.out (by simpa [mkd] using h), fun h => E8.out (by simpa [mkd] using h), fun h => E9.out (by simpa [mkd] using h), fun h => E10.out (by simpa [mkd] using h), fun h => E11.out (by simpa [mkd] using h)⟩
        · go_wp2
          unfold ApI10
          exact ⟨v60, v61, v62, (.int .u32 hi), v64, v65, v66, v67, v68, v69, v17, v18, g, by simp only [Act.put, List.setIfInBounds_toArray, List.set_cons_zero, List.set_cons_succ], HT.out.mark 3 (by decide), fun h => E0.out (by simpa [mkd] using h), fun h => E1.out (by simpa [mkd] using h), fun h => E2.out (by simpa [mkd] using h), fun _ => rfl, fun h => E4.out (by simpa [mkd] using h), fun h => E5.out (by simpa [mkd] using h), fun h => E6.out (by simpa [mkd] using h), fun h => E7.out (by simpa [mkd] using h), fun h => E8.out (by simpa [mkd] using h), fun h => E9.out (by simpa [mkd] using h), fun h => E10.out (by simpa [mkd] using h), fun h => E11.out (by simpa [mkd] using h)⟩
        · obtain rfl := E0.out (by simp [haf])
          obtain rfl := E1.out (by simp [haf])
          obtain rfl := E2.out (by simp [haf])
          obtain rfl := E3.out (by simp [haf])
          go_wp2_with fail
          (with_reducible refine (KF1.out _).mono ?_)
          rintro e w9 ⟨rfl, hb9⟩
          go_wp2
          unfold ApI10
          exact ⟨(.func (.func 34) #[] #[]), (.agg #[.int .i64 a, .int .i64 b]), (.int .u32 lo), (.int .u32 hi), (.agg #[.int .i64 a', .int .i64 b']), v65, v66, v67, v68, v69, v17, v18, g, by simp only [Act.put, List.setIfInBounds_toArray, List.set_cons_zero, List.set_cons_succ], (HT.out.call hb9).mark 4 (by decide), fun _ => rfl, fun _ => rfl, fun _ => rfl, fun _ => rfl, fun _ => rfl, fun h => E5.out (by simpa [mkd] using h), fun h => E6.out (by simpa [mkd] using h), fun h => E7.out (by simpa [mkd] using h), fun h => E8.out (by simpa [mkd] using h), fun h => E9.out (by simpa [mkd] using h), fun h => E10.out (by simpa [mkd] using h), fun h => E11.out (by simpa [mkd] using h)⟩
        · go_wp2
          unfold ApI10
          exact ⟨v60, v61, v62, v63, v64, (.func (.func 34) #[] #[]), v66, v67, v68, v69, v17, v18, g, by simp only [Act.put, List.setIfInBounds_toArray, List.set_cons_zero, List.set_cons_succ], HT.out.mark 5 (by decide), fun h => E0.out (by simpa [mkd] using h), fun h => E1.out (by simpa [mkd] using h), fun h => E2.out (by simpa [mkd] using h), fun h => E3.out (by simpa [mkd] using h), fun h => E4.out (by simpa [mkd] using h), fun _ => rfl, fun h => E6.out (by simpa [mkd] using h), fun h => E7.out (by simpa [mkd] using h), fun h => E8.out (by simpa [mkd] using h), fun h => E9.out (by simpa [mkd] using h), fun h => E10.out (by simpa [mkd] using h), fun h => E11.out (by simpa [mkd] using h)⟩
        · obtain ⟨-, f0, f1, -, -⟩ := DX4.out.below HT.out.bl DX4.out.lt
          go_wp2
          unfold ApI10
          exact ⟨v60, v61, v62, v63, v64, v65, (.agg #[.int .i64 x, .int .i64 y]), v67, v68, v69, v17, v18, g, by simp only [Act.put, List.setIfInBounds_toArray, List.set_cons_zero, List.set_cons_succ], HT.out.mark 6 (by decide), fun h => E0.out (by simpa [mkd] using h), fun h => E1.out (by simpa [mkd] using h), fun h => E2.out (by simpa [mkd] using h), fun h => E3.out (by simpa [mkd] using h), fun h => E4.out (by simpa [mkd] using h), fun h => E5.out (by simpa [mkd] using h), fun _ => rfl, fun h => E7.out (by simpa [mkd] using h), fun h => E8.out (by simpa [mkd] using h), fun h => E9.out (by simpa [mkd] using h), fun h => E10.out (by simpa [mkd] using h), fun h => E11.out (by simpa [mkd] using h)⟩
        · go_wp2
          unfold ApI10
          exact ⟨v60, v61, v62, v63, v64, v65, v66, (.int .u32 hi), v68, v69, v17, v18, g, by simp only [Act.put, List.setIfInBounds_toArray, List.set_cons_zero, List.set_cons_succ], HT.out.mark 7 (by decide), fun h => E0.out (by simpa [mkd] using h), fun h => E1.out (by simpa [mkd] using h), fun h => E2.out (by simpa [mkd] using h), fun h => E3.out (by simpa [mkd] using h), fun h => E4.out (by simpa [mkd] using h), fun h => E5.out (by simpa [mkd] using h), fun h => E6.out (by simpa [mkd] using h), fun _ => rfl, fun h => E8.out (by simpa [mkd] using h), fun h => E9.out (by simpa [mkd] using h), fun h => E10.out (by simpa [mkd] using h), fun h => E11.out (by simpa [mkd] using h)⟩
        · go_wp2
          unfold ApI10
          exact ⟨v60, v61, v62, v63, v64, v65, v66, v67, (.int .u32 lo), v69, v17, v18, g, by simp only [Act.put, List.setIfInBounds_toArray, List.set_cons_zero, List.set_cons_succ], HT.out.mark 8 (by decide), fun h => E0.out (by simpa [mkd] using h), fun h => E1.out (by simpa [mkd] using h), fun h => E2.out (by simpa [mkd] using h), fun h => E3.out (by simpa [mkd] using h), fun h => E4.out (by simpa [mkd] using h), fun h => E5.out (by simpa [mkd] using h), fun h => E6.out (by simpa [mkd] using h), fun h => E7.out (by simpa [mkd] using h), fun _ => rfl, fun h => E9.out (by simpa [mkd] using h), fun h => E10.out (by simpa [mkd] using h), fun h => E11.out (by simpa [mkd] using h)⟩
        · obtain rfl := E5.out (by simp [haf])
          obtain rfl := E6.out (by simp [haf])
          obtain rfl := E7.out (by simp [haf])
          obtain rfl := E8.out (by simp [haf])
          go_wp2_with fail
          (with_reducible refine (KF2.out _).mono ?_)
          rintro e w9 ⟨rfl, hb9⟩
          go_wp2
          unfold ApI10
          exact ⟨v60, v61, v62, v63, v64, (.func (.func 34) #[] #[]), (.agg #[.int .i64 x, .int .i64 y]), (.int .u32 hi), (.int .u32 lo), (.agg #[.int .i64 x', .int .i64 y']), v17, v18, g, by simp only [Act.put, List.setIfInBounds_toArray, List.set_cons_zero, List.set_cons_succ], (HT.out.call hb9).mark 9 (by decide), fun h => E0.out (by simpa [mkd] using h), fun h => E1.out (by simpa [mkd] using h), fun h => E2.out (by simpa [mkd] using h), fun h => E3.out (by simpa [mkd] using h), fun h => E4.out (by simpa [mkd] using h), fun _ => rfl, fun _ => rfl, fun _ => rfl, fun _ => rfl, fun _ => rfl, fun h => E10.out (by simpa [mkd] using h), fun h => E11.out (by simpa [mkd] using h)⟩
        · go_wp2
          unfold ApI10
          exact ⟨v60, v61, v62, v63, v64, v65, v66, v67, v68, v69, (.pointer (some ⟨w'.heap.size, 0, none⟩)), v18, (fun j => if j = 0 then w'.heap.size else g j), by simp only [Act.put, List.setIfInBounds_toArray, List.set_cons_zero, List.set_cons_succ], HT.out.al 0 (by decide) (by decide) hL _, fun h => E0.out (by simpa [mkd] using h), fun h => E1.out (by simpa [mkd] using h), fun h => E2.out (by simpa [mkd] using h), fun h => E3.out (by simpa [mkd] using h), fun h => E4.out (by simpa [mkd] using h), fun h => E5.out (by simpa [mkd] using h), fun h => E6.out (by simpa [mkd] using h), fun h => E7.out (by simpa [mkd] using h), fun h => E8.out (by simpa [mkd] using h), fun h => E9.out (by simpa [mkd] using h), fun _ => rfl, fun h => E11.out (by simpa [mkd] using h)⟩
        · go_wp2
          unfold ApI10
          exact ⟨v60, v61, v62, v63, v64, v65, v66, v67, v68, v69, v17, (.pointer (some ⟨w'.heap.size, 0, none⟩)), (fun j => if j = 1 then w'.heap.size else g j), by simp only [Act.put, List.setIfInBounds_toArray, List.set_cons_zero, List.set_cons_succ], HT.out.al 1 (by decide) (by decide) hL _, fun h => E0.out (by simpa [mkd] using h), fun h => E1.out (by simpa [mkd] using h), fun h => E2.out (by simpa [mkd] using h), fun h => E3.out (by simpa [mkd] using h), fun h => E4.out (by simpa [mkd] using h), fun h => E5.out (by simpa [mkd] using h), fun h => E6.out (by simpa [mkd] using h), fun h => E7.out (by simpa [mkd] using h), fun h => E8.out (by simpa [mkd] using h), fun h => E9.out (by simpa [mkd] using h), fun h => E10.out (by simpa [mkd] using h), fun _ => rfl⟩
        · obtain rfl := E10.out (by simp [haf])
          obtain rfl := E4.out (by simp [haf])
          have hA : L 10 = true := by simp [haf]
          obtain ⟨zt, z0, z1, zf0, zf1⟩ := HT.out.z 0 (by decide) hA hL
          have HS := Lib.hid (HT.out.st 0 (by decide) (by decide) hA hL rfl)
          go_wp2
          unfold ApI10
          exact ⟨v60, v61, v62, v63, (.agg #[.int .i64 a', .int .i64 b']), v65, v66, v67, v68, v69, (.pointer (some ⟨g 0, 0, none⟩)), v18, g, by simp only [Act.put, List.setIfInBounds_toArray, List.set_cons_zero, List.set_cons_succ], HS.out, fun h => E0.out (by simpa [mkd] using h), fun h => E1.out (by simpa [mkd] using h), fun h => E2.out (by simpa [mkd] using h), fun h => E3.out (by simpa [mkd] using h), fun _ => rfl, fun h => E5.out (by simpa [mkd] using h), fun h => E6.out (by simpa [mkd] using h), fun h => E7.out (by simpa [mkd] using h), fun h => E8.out (by simpa [mkd] using h), fun h => E9.out (by simpa [mkd] using h), fun _ => rfl, fun h => E11.out (by simpa [mkd] using h)⟩
        · obtain rfl := E11.out (by simp [haf])
          obtain rfl := E9.out (by simp [haf])
          have hA : L 11 = true := by simp [haf]
          obtain ⟨zt, z0, z1, zf0, zf1⟩ := HT.out.z 1 (by decide) hA hL
          have HS := Lib.hid (HT.out.st 1 (by decide) (by decide) hA hL rfl)
          go_wp2
          unfold ApI10
          exact ⟨v60, v61, v62, v63, v64, v65, v66, v67, v68, (.agg #[.int .i64 x', .int .i64 y']), v17, (.pointer (some ⟨g 1, 0, none⟩)), g, by simp only [Act.put, List.setIfInBounds_toArray, List.set_cons_zero, List.set_cons_succ], HS.out, fun h => E0.out (by simpa [mkd] using h), fun h => E1.out (by simpa [mkd] using h), fun h => E2.out (by simpa [mkd] using h), fun h => E3.out (by simpa [mkd] using h), fun h => E4.out (by simpa [mkd] using h), fun h => E5.out (by simpa [mkd] using h), fun h => E6.out (by simpa [mkd] using h), fun h => E7.out (by simpa [mkd] using h), fun h => E8.out (by simpa [mkd] using h), fun _ => rfl, fun h => E10.out (by simpa [mkd] using h), fun _ => rfl⟩
      case fin =>
        rintro L a1' w5 hall ⟨v60, v61, v62, v63, v64, v65, v66, v67, v68, v69, v17, v18, g, rfl, hT, e0, e1, e2, e3, e4, e5, e6, e7, e8, e9, e10, e11⟩
        obtain rfl := e0 (hall 0 (by decide))
        obtain rfl := e1 (hall 1 (by decide))
        obtain rfl := e2 (hall 2 (by decide))
        obtain rfl := e3 (hall 3 (by decide))
        obtain rfl := e4 (hall 4 (by decide))
        obtain rfl := e5 (hall 5 (by decide))
        obtain rfl := e6 (hall 6 (by decide))
        obtain rfl := e7 (hall 7 (by decide))
        obtain rfl := e8 (hall 8 (by decide))
        obtain rfl := e9 (hall 9 (by decide))
        obtain rfl := e10 (hall 10 (by decide))
        obtain rfl := e11 (hall 11 (by decide))
        have D17 : Hid (D2 w5 (g 0) a' b') := Lib.hid (hT.k 0 (by decide) (hall 12 (by decide)))
        have D18 : Hid (D2 w5 (g 1) x' y') := Lib.hid (hT.k 1 (by decide) (hall 13 (by decide)))
        have B5 := Lib.hid (B4.out.trans (hT.bl.mono B4.out.size))
        have DA5 := Lib.hid (DA4.out.below hT.bl DA4.out.lt)
        have DX5 := Lib.hid (DX4.out.below hT.bl DX4.out.lt)
        clear hT hall B4 DA4 DX4 KF1 KF2
        generalize g 0 = g17 at *
        generalize g 1 = g18 at *
        clear g
        go_upto_region 11 with (fail)
        refine wp_region_inv3 (by kernel_rfl) (ApI11 (p0) (p1) (p2) (p3) w5 (.slice (some ⟨bb, off, none⟩) n ca) (.pointer (some ⟨bb, off, none⟩)) (.agg #[.int .i64 l, .int .i64 r, .int .i64 c]) (.agg #[.int .i64 a, .int .i64 b]) (.agg #[.int .i64 x, .int .i64 y])) (waits_bind (by kernel_rfl)) ?start ?step ?fin
        case start => exact ApI11.start _
        case step =>
          rintro M i o a1' w' ho hL haf ⟨v71, v72, v73, v74, v75, v76, v70, v77, v78, v19, v20, _z0, rfl, hT, eA, eS, e5, e6, e7, e8, e11, e0, e1, e2, e3, e4⟩
          have HT := Lib.hid hT
          have EA := Lib.hid eA
          have ES := Lib.hid eS
          have E5 := Lib.hid e5
          have E6 := Lib.hid e6
          have E7 := Lib.hid e7
          have E8 := Lib.hid e8
          have E11 := Lib.hid e11
          have E0 := Lib.hid e0
          have E1 := Lib.hid e1
          have E2 := Lib.hid e2
          have E3 := Lib.hid e3
          have E4 := Lib.hid e4
          clear hT eA eS e5 e6 e7 e8 e11 e0 e1 e2 e3 e4
          rcases i with _ | _ | _ | _ | _ | _ | _ | _ | _ | _ | _ | _ | i
          all_goals (simp at ho; try subst ho)
          all_goals (try simp [Region.binds] at haf)
          · go_wp2
            unfold ApI11
            exact ⟨(.slice (some ⟨bb, off, none⟩) n ca), v72, v73, v74, v75, v76, v70, v77, v78, v19, v20, _z0, by simp only [Act.put, List.setIfInBounds_toArray, List.set_cons_zero, List.set_cons_succ], HT.out, fun h => (by obtain ⟨g9, q1, q2, q3, q4⟩ := EA.out (by simpa [mkd] using h); exact ⟨g9, q1, q2, fun h' => q3 (by simpa [mkd] using h'), fun h' => q4 (by simpa [mkd] using h')⟩), fun h => (by have q := ES.out (by simpa [mkd] using h); simpa [mkd] using q), fun h => (by have q := E5.out (by simpa [mkd] using h); exact ⟨q.1, q.2⟩), fun h => (by have q := E6.out (by simpa [mkd] using h); exact ⟨by simpa [mkd] using q.1, q.2⟩), fun h => (by have q := E7.out (by simpa [mkd] using h); exact ⟨by simpa [mkd] using q.1, q.2⟩), fun h => (by have q := E8.out (by simpa [mkd] using h); exact ⟨by simpa [mkd] using q.1, q.2⟩), fun h => (by have q := E11.out (by simpa [mkd] using h); exact ⟨by simpa [mkd] using q.1, q.2⟩), fun _ => rfl, fun h => E1.out (by simpa [mkd] using h), fun h => E2.out (by simpa [mkd] using h), fun h => E3.out (by simpa [mkd] using h), fun h => E4.out (by simpa [mkd] using h)⟩
          · obtain rfl := (E0.out (by simp [haf])).symm
            go_wp2
            unfold ApI11
            exact ⟨(.slice (some ⟨bb, off, none⟩) n ca), (.pointer (some ⟨bb, off, none⟩)), v73, v74, v75, v76, v70, v77, v78, v19, v20, _z0, by simp only [Act.put, List.setIfInBounds_toArray, List.set_cons_zero, List.set_cons_succ], HT.out, fun h => (by obtain ⟨g9, q1, q2, q3, q4⟩ := EA.out (by simpa [mkd] using h); exact ⟨g9, q1, q2, fun h' => q3 (by simpa [mkd] using h'), fun h' => q4 (by simpa [mkd] using h')⟩), fun h => (by have q := ES.out (by simpa [mkd] using h); simpa [mkd] using q), fun h => (by have q := E5.out (by simpa [mkd] using h); exact ⟨q.1, q.2⟩), fun h => (by have q := E6.out (by simpa [mkd] using h); exact ⟨by simpa [mkd] using q.1, q.2⟩), fun h => (by have q := E7.out (by simpa [mkd] using h); exact ⟨by simpa [mkd] using q.1, q.2⟩), fun h => (by have q := E8.out (by simpa [mkd] using h); exact ⟨by simpa [mkd] using q.1, q.2⟩), fun h => (by have q := E11.out (by simpa [mkd] using h); exact ⟨by simpa [mkd] using q.1, q.2⟩), fun _ => rfl, fun _ => rfl, fun h => E2.out (by simpa [mkd] using h), fun h => E3.out (by simpa [mkd] using h), fun h => E4.out (by simpa [mkd] using h)⟩
          · obtain rfl := (E1.out (by simp [haf])).symm
            have hw9 := B5.out.trans (HT.out.mono B5.out.size)
            have k0 := (hw9.cell (p := ⟨bb, off, none⟩) hbb).trans X0.out
            have k1 := (hw9.cell (p := ⟨bb, off + 1, none⟩) hbb).trans X1.out
            have k2 := (hw9.cell (p := ⟨bb, off + 2, none⟩) hbb).trans X2.out
            clear hw9
            go_wp2
            unfold ApI11
            exact ⟨v71, (.pointer (some ⟨bb, off, none⟩)), (.agg #[.int .i64 l, .int .i64 r, .int .i64 c]), v74, v75, v76, v70, v77, v78, v19, v20, _z0, by simp only [Act.put, List.setIfInBounds_toArray, List.set_cons_zero, List.set_cons_succ], HT.out, fun h => (by obtain ⟨g9, q1, q2, q3, q4⟩ := EA.out (by simpa [mkd] using h); exact ⟨g9, q1, q2, fun h' => q3 (by simpa [mkd] using h'), fun h' => q4 (by simpa [mkd] using h')⟩), fun h => (by have q := ES.out (by simpa [mkd] using h); simpa [mkd] using q), fun h => (by have q := E5.out (by simpa [mkd] using h); exact ⟨q.1, q.2⟩), fun h => (by have q := E6.out (by simpa [mkd] using h); exact ⟨by simpa [mkd] using q.1, q.2⟩), fun h => (by have q := E7.out (by simpa [mkd] using h); exact ⟨by simpa [mkd] using q.1, q.2⟩), fun h => (by have q := E8.out (by simpa [mkd] using h); exact ⟨by simpa [mkd] using q.1, q.2⟩), fun h => (by have q := E11.out (by simpa [mkd] using h); exact ⟨by simpa [mkd] using q.1, q.2⟩), fun h => E0.out (by simpa [mkd] using h), fun _ => rfl, fun _ => rfl, fun h => E3.out (by simpa [mkd] using h), fun h => E4.out (by simpa [mkd] using h)⟩
          · obtain ⟨-, f0, f1, -, -⟩ := DA5.out.below HT.out DA5.out.lt
            go_wp2
            unfold ApI11
            exact ⟨v71, v72, v73, (.agg #[.int .i64 a, .int .i64 b]), v75, v76, v70, v77, v78, v19, v20, _z0, by simp only [Act.put, List.setIfInBounds_toArray, List.set_cons_zero, List.set_cons_succ], HT.out, fun h => (by obtain ⟨g9, q1, q2, q3, q4⟩ := EA.out (by simpa [mkd] using h); exact ⟨g9, q1, q2, fun h' => q3 (by simpa [mkd] using h'), fun h' => q4 (by simpa [mkd] using h')⟩), fun h => (by have q := ES.out (by simpa [mkd] using h); simpa [mkd] using q), fun h => (by have q := E5.out (by simpa [mkd] using h); exact ⟨q.1, q.2⟩), fun h => (by have q := E6.out (by simpa [mkd] using h); exact ⟨by simpa [mkd] using q.1, q.2⟩), fun h => (by have q := E7.out (by simpa [mkd] using h); exact ⟨by simpa [mkd] using q.1, q.2⟩), fun h => (by have q := E8.out (by simpa [mkd] using h); exact ⟨by simpa [mkd] using q.1, q.2⟩), fun h => (by have q := E11.out (by simpa [mkd] using h); exact ⟨by simpa [mkd] using q.1, q.2⟩), fun h => E0.out (by simpa [mkd] using h), fun h => E1.out (by simpa [mkd] using h), fun h => E2.out (by simpa [mkd] using h), fun _ => rfl, fun h => E4.out (by simpa [mkd] using h)⟩
          · obtain ⟨-, f0, f1, -, -⟩ := DX5.out.below HT.out DX5.out.lt
            go_wp2
            unfold ApI11
            exact ⟨v71, v72, v73, v74, (.agg #[.int .i64 x, .int .i64 y]), v76, v70, v77, v78, v19, v20, _z0, by simp only [Act.put, List.setIfInBounds_toArray, List.set_cons_zero, List.set_cons_succ], HT.out, fun h => (by obtain ⟨g9, q1, q2, q3, q4⟩ := EA.out (by simpa [mkd] using h); exact ⟨g9, q1, q2, fun h' => q3 (by simpa [mkd] using h'), fun h' => q4 (by simpa [mkd] using h')⟩), fun h => (by have q := ES.out (by simpa [mkd] using h); simpa [mkd] using q), fun h => (by have q := E5.out (by simpa [mkd] using h); exact ⟨q.1, q.2⟩), fun h => (by have q := E6.out (by simpa [mkd] using h); exact ⟨by simpa [mkd] using q.1, q.2⟩), fun h => (by have q := E7.out (by simpa [mkd] using h); exact ⟨by simpa [mkd] using q.1, q.2⟩), fun h => (by have q := E8.out (by simpa [mkd] using h); exact ⟨by simpa [mkd] using q.1, q.2⟩), fun h => (by have q := E11.out (by simpa [mkd] using h); exact ⟨by simpa [mkd] using q.1, q.2⟩), fun h => E0.out (by simpa [mkd] using h), fun h => E1.out (by simpa [mkd] using h), fun h => E2.out (by simpa [mkd] using h), fun h => E3.out (by simpa [mkd] using h), fun _ => rfl⟩
          · obtain rfl := (E2.out (by simp [haf])).symm
            obtain rfl := (E3.out (by simp [haf])).symm
            obtain rfl := (E4.out (by simp [haf])).symm
            go_wp2_with fail
            (with_reducible refine (KC1.out _).mono ?_)
            rintro e w9 ⟨rfl, hb9⟩
            go_wp2
            unfold ApI11
            exact ⟨v71, v72, (.agg #[.int .i64 l, .int .i64 r, .int .i64 c]), (.agg #[.int .i64 a, .int .i64 b]), (.agg #[.int .i64 x, .int .i64 y]), (.tuple #[.agg #[.int .i64 p0, .int .i64 p1, .int .i64 p2, .int .i64 p3], .int .i64 0]), v70, v77, v78, v19, v20, 0, by simp only [Act.put, List.setIfInBounds_toArray, List.set_cons_zero, List.set_cons_succ], HT.out.trans ((hb9).mono HT.out.size), fun h => (by obtain ⟨g9, q1, q2, q3, q4⟩ := EA.out (by simpa [mkd] using h); exact ⟨g9, q1, q2, fun h' => (q3 (by simpa [mkd] using h')).below (hb9) (q3 (by simpa [mkd] using h')).lt, fun h' => (q4 (by simpa [mkd] using h')).below (hb9) (q4 (by simpa [mkd] using h')).lt⟩), fun h => (by have q := ES.out (by simpa [mkd] using h); simpa [mkd] using q), fun _ => ⟨rfl, trivial⟩, fun h => (by have q := (E6.out (by simpa [mkd] using h)).1; rw [hL] at q; cases q), fun h => (by have q := (E7.out (by simpa [mkd] using h)).1; rw [hL] at q; cases q), fun h => (by have q := (E8.out (by simpa [mkd] using h)).1; rw [hL] at q; cases q), fun h => (by have q := (E11.out (by simpa [mkd] using h)).1; rw [hL] at q; cases q), fun h => E0.out (by simpa [mkd] using h), fun h => E1.out (by simpa [mkd] using h), fun _ => rfl, fun _ => rfl, fun _ => rfl⟩
          · obtain ⟨rfl, hpost⟩ := E5.out (by simp [haf])
            clear hpost
            have hE : M 5 = true := by have q : M 5 = true := (by simp [haf]); first | exact q | exact (E5.out q).1
            go_wp2
            unfold ApI11
            exact ⟨v71, v72, v73, v74, v75, (.tuple #[.agg #[.int .i64 p0, .int .i64 p1, .int .i64 p2, .int .i64 p3], .int .i64 0]), (.tuple #[.agg #[.int .i64 p0, .int .i64 p1, .int .i64 p2, .int .i64 p3], .int .i64 0]), v77, v78, v19, v20, _z0, by simp only [Act.put, List.setIfInBounds_toArray, List.set_cons_zero, List.set_cons_succ], HT.out, fun h => (by obtain ⟨g9, q1, q2, q3, q4⟩ := EA.out (by simpa [mkd] using h); exact ⟨g9, q1, q2, fun h' => q3 (by simpa [mkd] using h'), fun h' => q4 (by simpa [mkd] using h')⟩), fun h => (by have q := ES.out (by simpa [mkd] using h); simpa [mkd] using q), fun h => (by have q := E5.out (by simpa [mkd] using h); exact ⟨rfl, q.2⟩), fun _ => ⟨by simpa [mkd] using hE, rfl⟩, fun h => (by have q := E7.out (by simpa [mkd] using h); exact ⟨by simpa [mkd] using q.1, q.2⟩), fun h => (by have q := E8.out (by simpa [mkd] using h); exact ⟨by simpa [mkd] using q.1, q.2⟩), fun h => (by have q := E11.out (by simpa [mkd] using h); exact ⟨by simpa [mkd] using q.1, q.2⟩), fun h => E0.out (by simpa [mkd] using h), fun h => E1.out (by simpa [mkd] using h), fun h => E2.out (by simpa [mkd] using h), fun h => E3.out (by simpa [mkd] using h), fun h => E4.out (by simpa [mkd] using h)⟩
          · obtain rfl := (E6.out (by simp [haf])).2.symm
            have hE : M 5 = true := by have q : M 6 = true := (by simp [haf]); first | exact q | exact (E6.out q).1
            go_wp2
            unfold ApI11
            exact ⟨v71, v72, v73, v74, v75, v76, (.tuple #[.agg #[.int .i64 p0, .int .i64 p1, .int .i64 p2, .int .i64 p3], .int .i64 0]), (.agg #[.int .i64 p0, .int .i64 p1, .int .i64 p2, .int .i64 p3]), v78, v19, v20, _z0, by simp only [Act.put, List.setIfInBounds_toArray, List.set_cons_zero, List.set_cons_succ], HT.out, fun h => (by obtain ⟨g9, q1, q2, q3, q4⟩ := EA.out (by simpa [mkd] using h); exact ⟨g9, q1, q2, fun h' => q3 (by simpa [mkd] using h'), fun h' => q4 (by simpa [mkd] using h')⟩), fun h => (by have q := ES.out (by simpa [mkd] using h); simpa [mkd] using q), fun h => (by have q := E5.out (by simpa [mkd] using h); exact ⟨q.1, q.2⟩), fun h => (by have q := E6.out (by simpa [mkd] using h); exact ⟨by simpa [mkd] using q.1, rfl⟩), fun _ => ⟨by simpa [mkd] using hE, rfl⟩, fun h => (by have q := E8.out (by simpa [mkd] using h); exact ⟨by simpa [mkd] using q.1, q.2⟩), fun h => (by have q := E11.out (by simpa [mkd] using h); exact ⟨by simpa [mkd] using q.1, q.2⟩), fun h => E0.out (by simpa [mkd] using h), fun h => E1.out (by simpa [mkd] using h), fun h => E2.out (by simpa [mkd] using h), fun h => E3.out (by simpa [mkd] using h), fun h => E4.out (by simpa [mkd] using h)⟩
          · obtain rfl := (E6.out (by simp [haf])).2.symm
            have hE : M 5 = true := by have q : M 6 = true := (by simp [haf]); first | exact q | exact (E6.out q).1
            go_wp2
            unfold ApI11
            exact ⟨v71, v72, v73, v74, v75, v76, (.tuple #[.agg #[.int .i64 p0, .int .i64 p1, .int .i64 p2, .int .i64 p3], .int .i64 0]), v77, (.int .i64 0), v19, v20, _z0, by simp only [Act.put, List.setIfInBounds_toArray, List.set_cons_zero, List.set_cons_succ], HT.out, fun h => (by obtain ⟨g9, q1, q2, q3, q4⟩ := EA.out (by simpa [mkd] using h); exact ⟨g9, q1, q2, fun h' => q3 (by simpa [mkd] using h'), fun h' => q4 (by simpa [mkd] using h')⟩), fun h => (by have q := ES.out (by simpa [mkd] using h); simpa [mkd] using q), fun h => (by have q := E5.out (by simpa [mkd] using h); exact ⟨q.1, q.2⟩), fun h => (by have q := E6.out (by simpa [mkd] using h); exact ⟨by simpa [mkd] using q.1, rfl⟩), fun h => (by have q := E7.out (by simpa [mkd] using h); exact ⟨by simpa [mkd] using q.1, q.2⟩), fun _ => ⟨by simpa [mkd] using hE, rfl⟩, fun h => (by have q := E11.out (by simpa [mkd] using h); exact ⟨by simpa [mkd] using q.1, q.2⟩), fun h => E0.out (by simpa [mkd] using h), fun h => E1.out (by simpa [mkd] using h), fun h => E2.out (by simpa [mkd] using h), fun h => E3.out (by simpa [mkd] using h), fun h => E4.out (by simpa [mkd] using h)⟩
          · have NB := Lib.hid (Blk.new w' 43 #[.int .i64 0, .int .i64 0, .int .i64 0, .int .i64 0])
            have HB9 := Lib.hid (bl_alloc w' (.cells #[.int .i64 0, .int .i64 0, .int .i64 0, .int .i64 0] 43))
            go_wp2
            unfold ApI11
            exact ⟨v71, v72, v73, v74, v75, v76, v70, v77, v78, (.pointer (some ⟨w'.heap.size, 0, none⟩)), v20, _z0, by simp only [Act.put, List.setIfInBounds_toArray, List.set_cons_zero, List.set_cons_succ], HT.out.trans ((HB9.out).mono HT.out.size), fun _ => ⟨_, rfl, HT.out.size, fun _ => NB.out, fun h => (by have q : M 10 = true := (by simpa [mkd] using h); have r := ES.out q; rw [hL] at r; cases r)⟩, fun _ => mkd_same _ _, fun h => (by have q := E5.out (by simpa [mkd] using h); exact ⟨q.1, q.2⟩), fun h => (by have q := E6.out (by simpa [mkd] using h); exact ⟨by simpa [mkd] using q.1, q.2⟩), fun h => (by have q := E7.out (by simpa [mkd] using h); exact ⟨by simpa [mkd] using q.1, q.2⟩), fun h => (by have q := E8.out (by simpa [mkd] using h); exact ⟨by simpa [mkd] using q.1, q.2⟩), fun h => (by have q := E11.out (by simpa [mkd] using h); exact ⟨by simpa [mkd] using q.1, q.2⟩), fun h => E0.out (by simpa [mkd] using h), fun h => E1.out (by simpa [mkd] using h), fun h => E2.out (by simpa [mkd] using h), fun h => E3.out (by simpa [mkd] using h), fun h => E4.out (by simpa [mkd] using h)⟩
          · obtain rfl := (E7.out (by simp [haf])).2.symm
            obtain ⟨g9, rfl, hg9, hb9, -⟩ := EA.out (by simp [haf])
            have hB9 := hb9 hL
            have hB8 := (((hB9.set_ 0 (.int .i64 p0)).set_ 1 (.int .i64 p1)).set_ 2 (.int .i64 p2)).set_ 3 (.int .i64 p3)
            simp only [List.setIfInBounds_toArray, List.set_cons_zero, List.set_cons_succ] at hB8
            have HB8 := Lib.hid hB8
            clear hB8
            have k0 := hB9.cell 0
            have f0 := hB9.frozen 0
            have k1 := hB9.cell 1
            have f1 := hB9.frozen 1
            have k2 := hB9.cell 2
            have f2 := hB9.frozen 2
            have k3 := hB9.cell 3
            have f3 := hB9.frozen 3
            simp only [List.getElem?_toArray, List.getElem?_cons_zero, List.getElem?_cons_succ] at k0 k1 k2 k3
            clear hB9 hb9
            go_wp2
            unfold ApI11
            exact ⟨v71, v72, v73, v74, v75, v76, v70, (.agg #[.int .i64 p0, .int .i64 p1, .int .i64 p2, .int .i64 p3]), v78, (.pointer (some ⟨g9, 0, none⟩)), v20, _z0, by simp only [Act.put, List.setIfInBounds_toArray, List.set_cons_zero, List.set_cons_succ], (((HT.out.setCell hg9 _).setCell hg9 _).setCell hg9 _).setCell hg9 _, fun _ => ⟨g9, rfl, hg9, fun h => (by simp [mkd] at h), fun _ => HB8.out⟩, fun _ => (by have r : M 9 = true := (by simp [haf]); simpa [mkd] using r), fun h => (by have q := E5.out (by simpa [mkd] using h); exact ⟨q.1, q.2⟩), fun h => (by have q := E6.out (by simpa [mkd] using h); exact ⟨by simpa [mkd] using q.1, q.2⟩), fun h => (by have q := E7.out (by simpa [mkd] using h); exact ⟨by simpa [mkd] using q.1, rfl⟩), fun h => (by have q := E8.out (by simpa [mkd] using h); exact ⟨by simpa [mkd] using q.1, q.2⟩), fun h => (by have q := E11.out (by simpa [mkd] using h); exact ⟨by simpa [mkd] using q.1, q.2⟩), fun h => E0.out (by simpa [mkd] using h), fun h => E1.out (by simpa [mkd] using h), fun h => E2.out (by simpa [mkd] using h), fun h => E3.out (by simpa [mkd] using h), fun h => E4.out (by simpa [mkd] using h)⟩
          · obtain rfl := (E8.out (by simp [haf])).2.symm
            have hE : M 5 = true := by have q : M 8 = true := (by simp [haf]); first | exact q | exact (E8.out q).1
            go_wp2
            unfold ApI11
            exact ⟨v71, v72, v73, v74, v75, v76, v70, v77, (.int .i64 0), v19, (.int .i64 0), _z0, by simp only [Act.put, List.setIfInBounds_toArray, List.set_cons_zero, List.set_cons_succ], HT.out, fun h => (by obtain ⟨g9, q1, q2, q3, q4⟩ := EA.out (by simpa [mkd] using h); exact ⟨g9, q1, q2, fun h' => q3 (by simpa [mkd] using h'), fun h' => q4 (by simpa [mkd] using h')⟩), fun h => (by have q := ES.out (by simpa [mkd] using h); simpa [mkd] using q), fun h => (by have q := E5.out (by simpa [mkd] using h); exact ⟨q.1, q.2⟩), fun h => (by have q := E6.out (by simpa [mkd] using h); exact ⟨by simpa [mkd] using q.1, q.2⟩), fun h => (by have q := E7.out (by simpa [mkd] using h); exact ⟨by simpa [mkd] using q.1, q.2⟩), fun h => (by have q := E8.out (by simpa [mkd] using h); exact ⟨by simpa [mkd] using q.1, rfl⟩), fun _ => ⟨by simpa [mkd] using hE, rfl⟩, fun h => E0.out (by simpa [mkd] using h), fun h => E1.out (by simpa [mkd] using h), fun h => E2.out (by simpa [mkd] using h), fun h => E3.out (by simpa [mkd] using h), fun h => E4.out (by simpa [mkd] using h)⟩
        case fin =>
          rintro M a1' w6 hall ⟨v71, v72, v73, v74, v75, v76, v70, v77, v78, v19, v20, _z0, rfl, hT, eA, eS, e5, e6, e7, e8, e11, e0, e1, e2, e3, e4⟩
          obtain rfl := (e0 (hall 0 (by decide))).symm
          obtain rfl := (e1 (hall 1 (by decide))).symm
          obtain rfl := (e2 (hall 2 (by decide))).symm
          obtain rfl := (e3 (hall 3 (by decide))).symm
          obtain rfl := (e4 (hall 4 (by decide))).symm
          obtain ⟨rfl, hpost⟩ := e5 (hall 5 (by decide))
          obtain rfl := (e6 (hall 6 (by decide))).2.symm
          obtain rfl := (e7 (hall 7 (by decide))).2.symm
          obtain rfl := (e8 (hall 8 (by decide))).2.symm
          obtain rfl := (e11 (hall 11 (by decide))).2.symm
          obtain ⟨g9, rfl, hg9, -, hk9⟩ := eA (hall 9 (by decide))
          have K9 := Lib.hid (hk9 (hall 10 (by decide)))
          clear hk9
          clear hpost eA eS
          have B6 := Lib.hid (B5.out.trans (hT.mono B5.out.size))
          have DA6 := Lib.hid (DA5.out.below hT DA5.out.lt)
          have DX6 := Lib.hid (DX5.out.below hT DX5.out.lt)
          have DN6 := Lib.hid (D17.out.below hT D17.out.lt)
          have DM6 := Lib.hid (D18.out.below hT D18.out.lt)
          have G19 := K9
          clear K9 hg9 hT B5 DA5 DX5 D17 D18 KC1
          generalize g9 = g19 at *
          go_upto_region 12 with (fail)
          refine wp_region_inv3 (by kernel_rfl) (ApI12 (q0) (q1) (q2) (q3) w6 (.slice (some ⟨bb, off, none⟩) n ca) (.pointer (some ⟨bb, off, none⟩)) (.agg #[.int .i64 l, .int .i64 r, .int .i64 c]) (.agg #[.int .i64 a', .int .i64 b']) (.agg #[.int .i64 x', .int .i64 y'])) (waits_bind (by kernel_rfl)) ?start ?step ?fin
          case start => exact ApI12.start _
          case step =>
            rintro M i o a1' w' ho hL haf ⟨v80, v81, v82, v83, v84, v85, v79, v86, v87, v21, v22, _z0, rfl, hT, eA, eS, e5, e6, e7, e8, e11, e0, e1, e2, e3, e4⟩
            have HT := Lib.hid hT
            have EA := Lib.hid eA
            have ES := Lib.hid eS
            have E5 := Lib.hid e5
            have E6 := Lib.hid e6
            have E7 := Lib.hid e7
            have E8 := Lib.hid e8
            have E11 := Lib.hid e11
            have E0 := Lib.hid e0
            have E1 := Lib.hid e1
            have E2 := Lib.hid e2
            have E3 := Lib.hid e3
            have E4 := Lib.hid e4
            clear hT eA eS e5 e6 e7 e8 e11 e0 e1 e2 e3 e4
            rcases i with _ | _ | _ | _ | _ | _ | _ | _ | _ | _ | _ | _ | i
            all_goals (simp at ho; try subst ho)
            all_goals (try simp [Region.binds] at haf)
            · go_wp2
              unfold ApI12
              exact ⟨(.slice (some ⟨bb, off, none⟩) n ca), v81, v82, v83, v84, v85, v79, v86, v87, v21, v22, _z0, by simp only [Act.put, List.setIfInBounds_toArray, List.set_cons_zero, List.set_cons_succ], HT.out, fun h => (by obtain ⟨g9, q1, q2, q3, q4⟩ := EA.out (by simpa [mkd] using h); exact ⟨g9, q1, q2, fun h' => q3 (by simpa [mkd] using h'), fun h' => q4 (by simpa [mkd] using h')⟩), fun h => (by have q := ES.out (by simpa [mkd] using h); simpa [mkd] using q), fun h => (by have q := E5.out (by simpa [mkd] using h); exact ⟨q.1, q.2⟩), fun h => (by have q := E6.out (by simpa [mkd] using h); exact ⟨by simpa [mkd] using q.1, q.2⟩), fun h => (by have q := E7.out (by simpa [mkd] using h); exact ⟨by simpa [mkd] using q.1, q.2⟩), fun h => (by have q := E8.out (by simpa [mkd] using h); exact ⟨by simpa [mkd] using q.1, q.2⟩), fun h => (by have q := E11.out (by simpa [mkd] using h); exact ⟨by simpa [mkd] using q.1, q.2⟩), fun _ => rfl, fun h => E1.out (by simpa [mkd] using h), fun h => E2.out (by simpa [mkd] using h), fun h => E3.out (by simpa [mkd] using h), fun h => E4.out (by simpa [mkd] using h)⟩
            · obtain rfl := (E0.out (by simp [haf])).symm
              go_wp2
              unfold ApI12
              exact ⟨(.slice (some ⟨bb, off, none⟩) n ca), (.pointer (some ⟨bb, off, none⟩)), v82, v83, v84, v85, v79, v86, v87, v21, v22, _z0, by simp only [Act.put, List.setIfInBounds_toArray, List.set_cons_zero, List.set_cons_succ], HT.out, fun h => (by obtain ⟨g9, q1, q2, q3, q4⟩ := EA.out (by simpa [mkd] using h); exact ⟨g9, q1, q2, fun h' => q3 (by simpa [mkd] using h'), fun h' => q4 (by simpa [mkd] using h')⟩), fun h => (by have q := ES.out (by simpa [mkd] using h); simpa [mkd] using q), fun h => (by have q := E5.out (by simpa [mkd] using h); exact ⟨q.1, q.2⟩), fun h => (by have q := E6.out (by simpa [mkd] using h); exact ⟨by simpa [mkd] using q.1, q.2⟩), fun h => (by have q := E7.out (by simpa [mkd] using h); exact ⟨by simpa [mkd] using q.1, q.2⟩), fun h => (by have q := E8.out (by simpa [mkd] using h); exact ⟨by simpa [mkd] using q.1, q.2⟩), fun h => (by have q := E11.out (by simpa [mkd] using h); exact ⟨by simpa [mkd] using q.1, q.2⟩), fun _ => rfl, fun _ => rfl, fun h => E2.out (by simpa [mkd] using h), fun h => E3.out (by simpa [mkd] using h), fun h => E4.out (by simpa [mkd] using h)⟩
            · obtain rfl := (E1.out (by simp [haf])).symm
              have hw9 := B6.out.trans (HT.out.mono B6.out.size)
              have k0 := (hw9.cell (p := ⟨bb, off, none⟩) hbb).trans X0.out
              have k1 := (hw9.cell (p := ⟨bb, off + 1, none⟩) hbb).trans X1.out
              have k2 := (hw9.cell (p := ⟨bb, off + 2, none⟩) hbb).trans X2.out
              clear hw9
              go_wp2
              unfold ApI12
              exact ⟨v80, (.pointer (some ⟨bb, off, none⟩)), (.agg #[.int .i64 l, .int .i64 r, .int .i64 c]), v83, v84, v85, v79, v86, v87, v21, v22, _z0, by simp only [Act.put, List.setIfInBounds_toArray, List.set_cons_zero, List.set_cons_succ], HT.out, fun h => (by obtain ⟨g9, q1, q2, q3, q4⟩ := EA.out (by simpa [mkd] using h); exact ⟨g9, q1, q2, fun h' => q3 (by simpa [mkd] using h'), fun h' => q4 (by simpa [mkd] using h')⟩), fun h => (by have q := ES.out (by simpa [mkd] using h); simpa [mkd] using q), fun h => (by have q := E5.out (by simpa [mkd] using h); exact ⟨q.1, q.2⟩), fun h => (by have q := E6.out (by simpa [mkd] using h); exact ⟨by simpa [mkd] using q.1, q.2⟩), fun h => (by have q := E7.out (by simpa [mkd] using h); exact ⟨by simpa [mkd] using q.1, q.2⟩), fun h => (by have q := E8.out (by simpa [mkd] using h); exact ⟨by simpa [mkd] using q.1, q.2⟩), fun h => (by have q := E11.out (by simpa [mkd] using h); exact ⟨by simpa [mkd] using q.1, q.2⟩), fun h => E0.out (by simpa [mkd] using h), fun _ => rfl, fun _ => rfl, fun h => E3.out (by simpa [mkd] using h), fun h => E4.out (by simpa [mkd] using h)⟩
            · obtain ⟨-, f0, f1, -, -⟩ := DN6.out.below HT.out DN6.out.lt
              go_wp2
              unfold ApI12
              exact ⟨v80, v81, v82, (.agg #[.int .i64 a', .int .i64 b']), v84, v85, v79, v86, v87, v21, v22, _z0, by simp only [Act.put, List.setIfInBounds_toArray, List.set_cons_zero, List.set_cons_succ], HT.out, fun h => (by obtain ⟨g9, q1, q2, q3, q4⟩ := EA.out (by simpa [mkd] using h); exact ⟨g9, q1, q2, fun h' => q3 (by simpa [mkd] using h'), fun h' => q4 (by simpa [mkd] using h')⟩), fun h => (by have q := ES.out (by simpa [mkd] using h); simpa [mkd] using q), fun h => (by have q := E5.out (by simpa [mkd] using h); exact ⟨q.1, q.2⟩), fun h => (by have q := E6.out (by simpa [mkd] using h); exact ⟨by simpa [mkd] using q.1, q.2⟩), fun h => (by have q := E7.out (by simpa [mkd] using h); exact ⟨by simpa [mkd] using q.1, q.2⟩), fun h => (by have q := E8.out (by simpa [mkd] using h); exact ⟨by simpa [mkd] using q.1, q.2⟩), fun h => (by have q := E11.out (by simpa [mkd] using h); exact ⟨by simpa [mkd] using q.1, q.2⟩), fun h => E0.out (by simpa [mkd] using h), fun h => E1.out (by simpa [mkd] using h), fun h => E2.out (by simpa [mkd] using h), fun _ => rfl, fun h => E4.out (by simpa [mkd] using h)⟩
            · obtain ⟨-, f0, f1, -, -⟩ := DM6.out.below HT.out DM6.out.lt
              go_wp2
              unfold ApI12
              exact ⟨v80, v81, v82, v83, (.agg #[.int .i64 x', .int .i64 y']), v85, v79, v86, v87, v21, v22, _z0, by simp only [Act.put, List.setIfInBounds_toArray, List.set_cons_zero, List.set_cons_succ], HT.out, fun h => (by obtain ⟨g9, q1, q2, q3, q4⟩ := EA.out (by simpa [mkd] using h); exact ⟨g9, q1, q2, fun h' => q3 (by simpa [mkd] using h'), fun h' => q4 (by simpa [mkd] using h')⟩), fun h => (by have q := ES.out (by simpa [mkd] using h); simpa [mkd] using q), fun h => (by have q := E5.out (by simpa [mkd] using h); exact ⟨q.1, q.2⟩), fun h => (by have q := E6.out (by simpa [mkd] using h); exact ⟨by simpa [mkd] using q.1, q.2⟩), fun h => (by have q := E7.out (by simpa [mkd] using h); exact ⟨by simpa [mkd] using q.1, q.2⟩), fun h => (by have q := E8.out (by simpa [mkd] using h); exact ⟨by simpa [mkd] using q.1, q.2⟩), fun h => (by have q := E11.out (by simpa [mkd] using h); exact ⟨by simpa [mkd] using q.1, q.2⟩), fun h => E0.out (by simpa [mkd] using h), fun h => E1.out (by simpa [mkd] using h), fun h => E2.out (by simpa [mkd] using h), fun h => E3.out (by simpa [mkd] using h), fun _ => rfl⟩
            · obtain rfl := (E2.out (by simp [haf])).symm
              obtain rfl := (E3.out (by simp [haf])).symm
              obtain rfl := (E4.out (by simp [haf])).symm
              go_wp2_with fail
              (with_reducible refine (KC2.out _).mono ?_)
              rintro e w9 ⟨rfl, hb9⟩
              go_wp2
              unfold ApI12
              exact ⟨v80, v81, (.agg #[.int .i64 l, .int .i64 r, .int .i64 c]), (.agg #[.int .i64 a', .int .i64 b']), (.agg #[.int .i64 x', .int .i64 y']), (.tuple #[.agg #[.int .i64 q0, .int .i64 q1, .int .i64 q2, .int .i64 q3], .int .i64 0]), v79, v86, v87, v21, v22, 0, by simp only [Act.put, List.setIfInBounds_toArray, List.set_cons_zero, List.set_cons_succ], HT.out.trans ((hb9).mono HT.out.size), fun h => (by obtain ⟨g9, q1, q2, q3, q4⟩ := EA.out (by simpa [mkd] using h); exact ⟨g9, q1, q2, fun h' => (q3 (by simpa [mkd] using h')).below (hb9) (q3 (by simpa [mkd] using h')).lt, fun h' => (q4 (by simpa [mkd] using h')).below (hb9) (q4 (by simpa [mkd] using h')).lt⟩), fun h => (by have q := ES.out (by simpa [mkd] using h); simpa [mkd] using q), fun _ => ⟨rfl, trivial⟩, fun h => (by have q := (E6.out (by simpa [mkd] using h)).1; rw [hL] at q; cases q), fun h => (by have q := (E7.out (by simpa [mkd] using h)).1; rw [hL] at q; cases q), fun h => (by have q := (E8.out (by simpa [mkd] using h)).1; rw [hL] at q; cases q), fun h => (by have q := (E11.out (by simpa [mkd] using h)).1; rw [hL] at q; cases q), fun h => E0.out (by simpa [mkd] using h), fun h => E1.out (by simpa [mkd] using h), fun _ => rfl, fun _ => rfl, fun _ => rfl⟩
            · obtain ⟨rfl, hpost⟩ := E5.out (by simp [haf])
              clear hpost
              have hE : M 5 = true := by have q : M 5 = true := (by simp [haf]); first | exact q | exact (E5.out q).1
              go_wp2
              unfold ApI12
              exact ⟨v80, v81, v82, v83, v84, (.tuple #[.agg #[.int .i64 q0, .int .i64 q1, .int .i64 q2, .int .i64 q3], .int .i64 0]), (.tuple #[.agg #[.int .i64 q0, .int .i64 q1, .int .i64 q2, .int .i64 q3], .int .i64 0]), v86, v87, v21, v22, _z0, by simp only [Act.put, List.setIfInBounds_toArray, List.set_cons_zero, List.set_cons_succ], HT.out, fun h => (by obtain ⟨g9, q1, q2, q3, q4⟩ := EA.out (by simpa [mkd] using h); exact ⟨g9, q1, q2, fun h' => q3 (by simpa [mkd] using h'), fun h' => q4 (by simpa [mkd] using h')⟩), fun h => (by have q := ES.out (by simpa [mkd] using h); simpa [mkd] using q), fun h => (by have q := E5.out (by simpa [mkd] using h); exact ⟨rfl, q.2⟩), fun _ => ⟨by simpa [mkd] using hE, rfl⟩, fun h => (by have q := E7.out (by simpa [mkd] using h); exact ⟨by simpa [mkd] using q.1, q.2⟩), fun h => (by have q := E8.out (by simpa [mkd] using h); exact ⟨by simpa [mkd] using q.1, q.2⟩), fun h => (by have q := E11.out (by simpa [mkd] using h); exact ⟨by simpa [mkd] using q.1, q.2⟩), fun h => E0.out (by simpa [mkd] using h), fun h => E1.out (by simpa [mkd] using h), fun h => E2.out (by simpa [mkd] using h), fun h => E3.out (by simpa [mkd] using h), fun h => E4.out (by simpa [mkd] using h)⟩
            · obtain rfl := (E6.out (by simp [haf])).2.symm
              have hE : M 5 = true := by have q : M 6 = true := (by simp [haf]); first | exact q | exact (E6.out q).1
              go_wp2
              unfold ApI12
              exact ⟨v80, v81, v82, v83, v84, v85, (.tuple #[.agg #[.int .i64 q0, .int .i64 q1, .int .i64 q2, .int .i64 q3], .int .i64 0]), (.agg #[.int .i64 q0, .int .i64 q1, .int .i64 q2, .int .i64 q3]), v87, v21, v22, _z0, by simp only [Act.put, List.setIfInBounds_toArray, List.set_cons_zero, List.set_cons_succ], HT.out, fun h => (by obtain ⟨g9, q1, q2, q3, q4⟩ := EA.out (by simpa [mkd] using h); exact ⟨g9, q1, q2, fun h' => q3 (by simpa [mkd] using h'), fun h' => q4 (by simpa [mkd] using h')⟩), fun h => (by have q := ES.out (by simpa [mkd] using h); simpa [mkd] using q), fun h => (by have q := E5.out (by simpa [mkd] using h); exact ⟨q.1, q.2⟩), fun h => (by have q := E6.out (by simpa [mkd] using h); exact ⟨by simpa [mkd] using q.1, rfl⟩), fun _ => ⟨by simpa [mkd] using hE, rfl⟩, fun h => (by have q := E8.out (by simpa [mkd] using h); exact ⟨by simpa [mkd] using q.1, q.2⟩), fun h => (by have q := E11.out (by simpa [mkd] using h); exact ⟨by simpa [mkd] using q.1, q.2⟩), fun h => E0.out (by simpa [mkd] using h), fun h => E1.out (by simpa [mkd] using h), fun h => E2.out (by simpa [mkd] using h), fun h => E3.out (by simpa [mkd] using h), fun h => E4.out (by simpa [mkd] using h)⟩
            · obtain rfl := (E6.out (by simp [haf])).2.symm
              have hE : M 5 = true := by have q : M 6 = true := (by simp [haf]); first | exact q | exact (E6.out q).1
              go_wp2
              unfold ApI12
              exact ⟨v80, v81, v82, v83, v84, v85, (.tuple #[.agg #[.int .i64 q0, .int .i64 q1, .int .i64 q2, .int .i64 q3], .int .i64 0]), v86, (.int .i64 0), v21, v22, _z0, by simp only [Act.put, List.setIfInBounds_toArray, List.set_cons_zero, List.set_cons_succ], HT.out, fun h => (by obtain ⟨g9, q1, q2, q3, q4⟩ := EA.out (by simpa [mkd] using h); exact ⟨g9, q1, q2, fun h' => q3 (by simpa [mkd] using h'), fun h' => q4 (by simpa [mkd] using h')⟩), fun h => (by have q := ES.out (by simpa [mkd] using h); simpa [mkd] using q), fun h => (by have q := E5.out (by simpa [mkd] using h); exact ⟨q.1, q.2⟩), fun h => (by have q := E6.out (by simpa [mkd] using h); exact ⟨by simpa [mkd] using q.1, rfl⟩), fun h => (by have q := E7.out (by simpa [mkd] using h); exact ⟨by simpa [mkd] using q.1, q.2⟩), fun _ => ⟨by simpa [mkd] using hE, rfl⟩, fun h => (by have q := E11.out (by simpa [mkd] using h); exact ⟨by simpa [mkd] using q.1, q.2⟩), fun h => E0.out (by simpa [mkd] using h), fun h => E1.out (by simpa [mkd] using h), fun h => E2.out (by simpa [mkd] using h), fun h => E3.out (by simpa [mkd] using h), fun h => E4.out (by simpa [mkd] using h)⟩
            · have NB := Lib.hid (Blk.new w' 43 #[.int .i64 0, .int .i64 0, .int .i64 0, .int .i64 0])
              have HB9 := Lib.hid (bl_alloc w' (.cells #[.int .i64 0, .int .i64 0, .int .i64 0, .int .i64 0] 43))
              go_wp2
              unfold ApI12
              exact ⟨v80, v81, v82, v83, v84, v85, v79, v86, v87, (.pointer (some ⟨w'.heap.size, 0, none⟩)), v22, _z0, by simp only [Act.put, List.setIfInBounds_toArray, List.set_cons_zero, List.set_cons_succ], HT.out.trans ((HB9.out).mono HT.out.size), fun _ => ⟨_, rfl, HT.out.size, fun _ => NB.out, fun h => (by have q : M 10 = true := (by simpa [mkd] using h); have r := ES.out q; rw [hL] at r; cases r)⟩, fun _ => mkd_same _ _, fun h => (by have q := E5.out (by simpa [mkd] using h); exact ⟨q.1, q.2⟩), fun h => (by have q := E6.out (by simpa [mkd] using h); exact ⟨by simpa [mkd] using q.1, q.2⟩), fun h => (by have q := E7.out (by simpa [mkd] using h); exact ⟨by simpa [mkd] using q.1, q.2⟩), fun h => (by have q := E8.out (by simpa [mkd] using h); exact ⟨by simpa [mkd] using q.1, q.2⟩), fun h => (by have q := E11.out (by simpa [mkd] using h); exact ⟨by simpa [mkd] using q.1, q.2⟩), fun h => E0.out (by simpa [mkd] using h), fun h => E1.out (by simpa [mkd] using h), fun h => E2.out (by simpa [mkd] using h), fun h => E3.out (by simpa [mkd] using h), fun h => E4.out (by simpa [mkd] using h)⟩
            · obtain rfl := (E7.out (by simp [haf])).2.symm
              obtain ⟨g9, rfl, hg9, hb9, -⟩ := EA.out (by simp [haf])
              have hB9 := hb9 hL
              have hB8 := (((hB9.set_ 0 (.int .i64 q0)).set_ 1 (.int .i64 q1)).set_ 2 (.int .i64 q2)).set_ 3 (.int .i64 q3)
              simp only [List.setIfInBounds_toArray, List.set_cons_zero, List.set_cons_succ] at hB8
              have HB8 := Lib.hid hB8
              clear hB8
              have k0 := hB9.cell 0
              have f0 := hB9.frozen 0
              have k1 := hB9.cell 1
              have f1 := hB9.frozen 1
              have k2 := hB9.cell 2
              have f2 := hB9.frozen 2
              have k3 := hB9.cell 3
              have f3 := hB9.frozen 3
              simp only [List.getElem?_toArray, List.getElem?_cons_zero, List.getElem?_cons_succ] at k0 k1 k2 k3
              clear hB9 hb9
              go_wp2
              unfold ApI12
              exact ⟨v80, v81, v82, v83, v84, v85, v79, (.agg #[.int .i64 q0, .int .i64 q1, .int .i64 q2, .int .i64 q3]), v87, (.pointer (some ⟨g9, 0, none⟩)), v22, _z0, by simp only [Act.put, List.setIfInBounds_toArray, List.set_cons_zero, List.set_cons_succ], (((HT.out.setCell hg9 _).setCell hg9 _).setCell hg9 _).setCell hg9 _, fun _ => ⟨g9, rfl, hg9, fun h => (by simp [mkd] at h), fun _ => HB8.out⟩, fun _ => (by have r : M 9 = true := (by simp [haf]); simpa [mkd] using r), fun h => (by have q := E5.out (by simpa [mkd] using h); exact ⟨q.1, q.2⟩), fun h => (by have q := E6.out (by simpa [mkd] using h); exact ⟨by simpa [mkd] using q.1, q.2⟩), fun h => (by have q := E7.out (by simpa [mkd] using h); exact ⟨by simpa [mkd] using q.1, rfl⟩), fun h => (by have q := E8.out (by simpa [mkd] using h); exact ⟨by simpa [mkd] using q.1, q.2⟩), fun h => (by have q := E11.out (by simpa [mkd] using h); exact ⟨by simpa [mkd] using q.1, q.2⟩), fun h => E0.out (by simpa [mkd] using h), fun h => E1.out (by simpa [mkd] using h), fun h => E2.out (by simpa [mkd] using h), fun h => E3.out (by simpa [mkd] using h), fun h => E4.out (by simpa [mkd] using h)⟩
            · obtain rfl := (E8.out (by simp [haf])).2.symm
              have hE : M 5 = true := by have q : M 8 = true := (by simp [haf]); first | exact q | exact (E8.out q).1
              go_wp2
              unfold ApI12
              exact ⟨v80, v81, v82, v83, v84, v85, v79, v86, (.int .i64 0), v21, (.int .i64 0), _z0, by simp only [Act.put, List.setIfInBounds_toArray, List.set_cons_zero, List.set_cons_succ], HT.out, fun h => (by obtain ⟨g9, q1, q2, q3, q4⟩ := EA.out (by simpa [mkd] using h); exact ⟨g9, q1, q2, fun h' => q3 (by simpa [mkd] using h'), fun h' => q4 (by simpa [mkd] using h')⟩), fun h => (by have q := ES.out (by simpa [mkd] using h); simpa [mkd] using q), fun h => (by have q := E5.out (by simpa [mkd] using h); exact ⟨q.1, q.2⟩), fun h => (by have q := E6.out (by simpa [mkd] using h); exact ⟨by simpa [mkd] using q.1, q.2⟩), fun h => (by have q := E7.out (by simpa [mkd] using h); exact ⟨by simpa [mkd] using q.1, q.2⟩), fun h => (by have q := E8.out (by simpa [mkd] using h); exact ⟨by simpa [mkd] using q.1, rfl⟩), fun _ => ⟨by simpa [mkd] using hE, rfl⟩, fun h => E0.out (by simpa [mkd] using h), fun h => E1.out (by simpa [mkd] using h), fun h => E2.out (by simpa [mkd] using h), fun h => E3.out (by simpa [mkd] using h), fun h => E4.out (by simpa [mkd] using h)⟩
          case fin =>
            rintro M a1' w7 hall ⟨v80, v81, v82, v83, v84, v85, v79, v86, v87, v21, v22, _z0, rfl, hT, eA, eS, e5, e6, e7, e8, e11, e0, e1, e2, e3, e4⟩
            obtain rfl := (e0 (hall 0 (by decide))).symm
            obtain rfl := (e1 (hall 1 (by decide))).symm
            obtain rfl := (e2 (hall 2 (by decide))).symm
            obtain rfl := (e3 (hall 3 (by decide))).symm
            obtain rfl := (e4 (hall 4 (by decide))).symm
            obtain ⟨rfl, hpost⟩ := e5 (hall 5 (by decide))
            obtain rfl := (e6 (hall 6 (by decide))).2.symm
            obtain rfl := (e7 (hall 7 (by decide))).2.symm
            obtain rfl := (e8 (hall 8 (by decide))).2.symm
            obtain rfl := (e11 (hall 11 (by decide))).2.symm
            obtain ⟨g9, rfl, hg9, -, hk9⟩ := eA (hall 9 (by decide))
            have K9 := Lib.hid (hk9 (hall 10 (by decide)))
            clear hk9
            clear hpost eA eS
            have B7 := Lib.hid (B6.out.trans (hT.mono B6.out.size))
            have DA7 := Lib.hid (DA6.out.below hT DA6.out.lt)
            have DX7 := Lib.hid (DX6.out.below hT DX6.out.lt)
            have DN7 := Lib.hid (DN6.out.below hT DN6.out.lt)
            have DM7 := Lib.hid (DM6.out.below hT DM6.out.lt)
            have G19' := Lib.hid (G19.out.below hT G19.out.lt)
            have G21 := K9
            clear K9 hg9 hT B6 DA6 DX6 DN6 DM6 KC2 G19
            generalize g9 = g21 at *
            obtain ⟨-, f0, f1, -, -⟩ := DA7.out
            obtain ⟨-, f2, f3, -, -⟩ := DX7.out
            go_wp2_with fail
            (with_reducible refine (KR1.out _ B7.out).mono ?_)
            rintro e w8 ⟨v8, rfl, hown8, hb8⟩
            have B8 := Lib.hid (B7.out.trans (hb8.mono B7.out.size))
            have DN8 := Lib.hid (DN7.out.below hb8 DN7.out.lt)
            have DM8 := Lib.hid (DM7.out.below hb8 DM7.out.lt)
            have G198 := Lib.hid (G19'.out.below hb8 G19'.out.lt)
            have G218 := Lib.hid (G21.out.below hb8 G21.out.lt)
            have OW8 := Lib.hid hown8
            obtain ⟨A8, c8, rfl, -, -, -⟩ := own_form hown8
            clear hb8 B7 DA7 DX7 DN7 DM7 G19' G21 hown8 KR1 f0 f1 f2 f3
            go_upto_region 14 with (fail)
            refine wp_region_inv3 (by kernel_rfl) (ApI14 (M1) w8 (.slice (some ⟨bb, off, none⟩) n ca) (.slice (some ⟨bb, off, none⟩) 1 ca) (.agg #[.int .i64 a', .int .i64 b']) (.agg #[.int .i64 x', .int .i64 y']) (.int .i64 lev)) (waits_bind (by kernel_rfl)) ?start ?step ?fin
            case start => exact ApI14.start _
            case step =>
              rintro M i o a1' w' ho hL haf ⟨v97, v98, v99, v100, v101, v102, v96, v103, v104, v25, v26, u9, rfl, hT, e5, e6, e7, e8, e9, e10, e0, e1, e2, e3, e4⟩
              have HT := Lib.hid hT
              have E5 := Lib.hid e5
              have E6 := Lib.hid e6
              have E7 := Lib.hid e7
              have E8 := Lib.hid e8
              have E9 := Lib.hid e9
              have E10 := Lib.hid e10
              have E0 := Lib.hid e0
              have E1 := Lib.hid e1
              have E2 := Lib.hid e2
              have E3 := Lib.hid e3
              have E4 := Lib.hid e4
              clear hT e5 e6 e7 e8 e9 e10 e0 e1 e2 e3 e4
              rcases i with _ | _ | _ | _ | _ | _ | _ | _ | _ | _ | _ | i
              all_goals (simp at ho; try subst ho)
              all_goals (try simp [Region.binds] at haf)
              · go_wp2
                unfold ApI14
                exact ⟨(.slice (some ⟨bb, off, none⟩) n ca), v98, v99, v100, v101, v102, v96, v103, v104, v25, v26, u9, by simp only [Act.put, List.setIfInBounds_toArray, List.set_cons_zero, List.set_cons_succ], HT.out, fun h => (by have q := E5.out (by simpa [mkd] using h); exact ⟨q.1, q.2⟩), fun h => (by have q := E6.out (by simpa [mkd] using h); exact ⟨by simpa [mkd] using q.1, q.2⟩), fun h => (by have q := E7.out (by simpa [mkd] using h); exact ⟨by simpa [mkd] using q.1, q.2⟩), fun h => (by have q := E8.out (by simpa [mkd] using h); exact ⟨by simpa [mkd] using q.1, q.2⟩), fun h => (by have q := E9.out (by simpa [mkd] using h); exact ⟨by simpa [mkd] using q.1, q.2⟩), fun h => (by have q := E10.out (by simpa [mkd] using h); exact ⟨by simpa [mkd] using q.1, q.2⟩), fun _ => rfl, fun h => E1.out (by simpa [mkd] using h), fun h => E2.out (by simpa [mkd] using h), fun h => E3.out (by simpa [mkd] using h), fun h => E4.out (by simpa [mkd] using h)⟩
              · obtain rfl := (E0.out (by simp [haf])).symm
                go_wp2
                unfold ApI14
                exact ⟨(.slice (some ⟨bb, off, none⟩) n ca), (.slice (some ⟨bb, off, none⟩) 1 ca), v99, v100, v101, v102, v96, v103, v104, v25, v26, u9, by simp only [Act.put, List.setIfInBounds_toArray, List.set_cons_zero, List.set_cons_succ], HT.out, fun h => (by have q := E5.out (by simpa [mkd] using h); exact ⟨q.1, q.2⟩), fun h => (by have q := E6.out (by simpa [mkd] using h); exact ⟨by simpa [mkd] using q.1, q.2⟩), fun h => (by have q := E7.out (by simpa [mkd] using h); exact ⟨by simpa [mkd] using q.1, q.2⟩), fun h => (by have q := E8.out (by simpa [mkd] using h); exact ⟨by simpa [mkd] using q.1, q.2⟩), fun h => (by have q := E9.out (by simpa [mkd] using h); exact ⟨by simpa [mkd] using q.1, q.2⟩), fun h => (by have q := E10.out (by simpa [mkd] using h); exact ⟨by simpa [mkd] using q.1, q.2⟩), fun _ => rfl, fun _ => rfl, fun h => E2.out (by simpa [mkd] using h), fun h => E3.out (by simpa [mkd] using h), fun h => E4.out (by simpa [mkd] using h)⟩
              · obtain ⟨-, f0, f1, -, -⟩ := DN8.out.below HT.out DN8.out.lt
                go_wp2
                unfold ApI14
                exact ⟨v97, v98, (.agg #[.int .i64 a', .int .i64 b']), v100, v101, v102, v96, v103, v104, v25, v26, u9, by simp only [Act.put, List.setIfInBounds_toArray, List.set_cons_zero, List.set_cons_succ], HT.out, fun h => (by have q := E5.out (by simpa [mkd] using h); exact ⟨q.1, q.2⟩), fun h => (by have q := E6.out (by simpa [mkd] using h); exact ⟨by simpa [mkd] using q.1, q.2⟩), fun h => (by have q := E7.out (by simpa [mkd] using h); exact ⟨by simpa [mkd] using q.1, q.2⟩), fun h => (by have q := E8.out (by simpa [mkd] using h); exact ⟨by simpa [mkd] using q.1, q.2⟩), fun h => (by have q := E9.out (by simpa [mkd] using h); exact ⟨by simpa [mkd] using q.1, q.2⟩), fun h => (by have q := E10.out (by simpa [mkd] using h); exact ⟨by simpa [mkd] using q.1, q.2⟩), fun h => E0.out (by simpa [mkd] using h), fun h => E1.out (by simpa [mkd] using h), fun _ => rfl, fun h => E3.out (by simpa [mkd] using h), fun h => E4.out (by simpa [mkd] using h)⟩
              · obtain ⟨-, f0, f1, -, -⟩ := DM8.out.below HT.out DM8.out.lt
                go_wp2
                unfold ApI14
                exact ⟨v97, v98, v99, (.agg #[.int .i64 x', .int .i64 y']), v101, v102, v96, v103, v104, v25, v26, u9, by simp only [Act.put, List.setIfInBounds_toArray, List.set_cons_zero, List.set_cons_succ], HT.out, fun h => (by have q := E5.out (by simpa [mkd] using h); exact ⟨q.1, q.2⟩), fun h => (by have q := E6.out (by simpa [mkd] using h); exact ⟨by simpa [mkd] using q.1, q.2⟩), fun h => (by have q := E7.out (by simpa [mkd] using h); exact ⟨by simpa [mkd] using q.1, q.2⟩), fun h => (by have q := E8.out (by simpa [mkd] using h); exact ⟨by simpa [mkd] using q.1, q.2⟩), fun h => (by have q := E9.out (by simpa [mkd] using h); exact ⟨by simpa [mkd] using q.1, q.2⟩), fun h => (by have q := E10.out (by simpa [mkd] using h); exact ⟨by simpa [mkd] using q.1, q.2⟩), fun h => E0.out (by simpa [mkd] using h), fun h => E1.out (by simpa [mkd] using h), fun h => E2.out (by simpa [mkd] using h), fun _ => rfl, fun h => E4.out (by simpa [mkd] using h)⟩
              · go_wp2
                unfold ApI14
                exact ⟨v97, v98, v99, v100, (.int .i64 lev), v102, v96, v103, v104, v25, v26, u9, by simp only [Act.put, List.setIfInBounds_toArray, List.set_cons_zero, List.set_cons_succ], HT.out, fun h => (by have q := E5.out (by simpa [mkd] using h); exact ⟨q.1, q.2⟩), fun h => (by have q := E6.out (by simpa [mkd] using h); exact ⟨by simpa [mkd] using q.1, q.2⟩), fun h => (by have q := E7.out (by simpa [mkd] using h); exact ⟨by simpa [mkd] using q.1, q.2⟩), fun h => (by have q := E8.out (by simpa [mkd] using h); exact ⟨by simpa [mkd] using q.1, q.2⟩), fun h => (by have q := E9.out (by simpa [mkd] using h); exact ⟨by simpa [mkd] using q.1, q.2⟩), fun h => (by have q := E10.out (by simpa [mkd] using h); exact ⟨by simpa [mkd] using q.1, q.2⟩), fun h => E0.out (by simpa [mkd] using h), fun h => E1.out (by simpa [mkd] using h), fun h => E2.out (by simpa [mkd] using h), fun h => E3.out (by simpa [mkd] using h), fun _ => rfl⟩
              · obtain rfl := (E1.out (by simp [haf])).symm
                obtain rfl := (E2.out (by simp [haf])).symm
                obtain rfl := (E3.out (by simp [haf])).symm
                obtain rfl := (E4.out (by simp [haf])).symm
                go_wp2_with fail
                (with_reducible refine (KR2.out _ (B8.out.trans (HT.out.mono B8.out.size))).mono ?_)
                rintro e w9 ⟨vv9, rfl, hown9, hb9⟩
                have HO9 := Lib.hid hown9
                clear hown9
                go_wp2
                unfold ApI14
                exact ⟨v97, (.slice (some ⟨bb, off, none⟩) 1 ca), (.agg #[.int .i64 a', .int .i64 b']), (.agg #[.int .i64 x', .int .i64 y']), (.int .i64 lev), (.tuple #[vv9, .int .i64 0]), v96, v103, v104, v25, v26, vv9, by simp only [Act.put, List.setIfInBounds_toArray, List.set_cons_zero, List.set_cons_succ], HT.out.trans ((hb9).mono HT.out.size), fun _ => ⟨rfl, own_mono HO9.out HT.out.size⟩, fun h => (by have q := (E6.out (by simpa [mkd] using h)).1; rw [hL] at q; cases q), fun h => (by have q := (E7.out (by simpa [mkd] using h)).1; rw [hL] at q; cases q), fun h => (by have q := (E8.out (by simpa [mkd] using h)).1; rw [hL] at q; cases q), fun h => (by have q := (E9.out (by simpa [mkd] using h)).1; rw [hL] at q; cases q), fun h => (by have q := (E10.out (by simpa [mkd] using h)).1; rw [hL] at q; cases q), fun h => E0.out (by simpa [mkd] using h), fun _ => rfl, fun _ => rfl, fun _ => rfl, fun _ => rfl⟩
              · obtain ⟨rfl, hpost⟩ := E5.out (by simp [haf])
                clear hpost
                have hE : M 5 = true := by have q : M 5 = true := (by simp [haf]); first | exact q | exact (E5.out q).1
                go_wp2
                unfold ApI14
                exact ⟨v97, v98, v99, v100, v101, (.tuple #[u9, .int .i64 0]), (.tuple #[u9, .int .i64 0]), v103, v104, v25, v26, u9, by simp only [Act.put, List.setIfInBounds_toArray, List.set_cons_zero, List.set_cons_succ], HT.out, fun h => (by have q := E5.out (by simpa [mkd] using h); exact ⟨rfl, q.2⟩), fun _ => ⟨by simpa [mkd] using hE, rfl⟩, fun h => (by have q := E7.out (by simpa [mkd] using h); exact ⟨by simpa [mkd] using q.1, q.2⟩), fun h => (by have q := E8.out (by simpa [mkd] using h); exact ⟨by simpa [mkd] using q.1, q.2⟩), fun h => (by have q := E9.out (by simpa [mkd] using h); exact ⟨by simpa [mkd] using q.1, q.2⟩), fun h => (by have q := E10.out (by simpa [mkd] using h); exact ⟨by simpa [mkd] using q.1, q.2⟩), fun h => E0.out (by simpa [mkd] using h), fun h => E1.out (by simpa [mkd] using h), fun h => E2.out (by simpa [mkd] using h), fun h => E3.out (by simpa [mkd] using h), fun h => E4.out (by simpa [mkd] using h)⟩
              · obtain rfl := (E6.out (by simp [haf])).2.symm
                have hE : M 5 = true := by have q : M 6 = true := (by simp [haf]); first | exact q | exact (E6.out q).1
                go_wp2
                unfold ApI14
                exact ⟨v97, v98, v99, v100, v101, v102, (.tuple #[u9, .int .i64 0]), (u9), v104, v25, v26, u9, by simp only [Act.put, List.setIfInBounds_toArray, List.set_cons_zero, List.set_cons_succ], HT.out, fun h => (by have q := E5.out (by simpa [mkd] using h); exact ⟨q.1, q.2⟩), fun h => (by have q := E6.out (by simpa [mkd] using h); exact ⟨by simpa [mkd] using q.1, rfl⟩), fun _ => ⟨by simpa [mkd] using hE, rfl⟩, fun h => (by have q := E8.out (by simpa [mkd] using h); exact ⟨by simpa [mkd] using q.1, q.2⟩), fun h => (by have q := E9.out (by simpa [mkd] using h); exact ⟨by simpa [mkd] using q.1, q.2⟩), fun h => (by have q := E10.out (by simpa [mkd] using h); exact ⟨by simpa [mkd] using q.1, q.2⟩), fun h => E0.out (by simpa [mkd] using h), fun h => E1.out (by simpa [mkd] using h), fun h => E2.out (by simpa [mkd] using h), fun h => E3.out (by simpa [mkd] using h), fun h => E4.out (by simpa [mkd] using h)⟩
              · obtain rfl := (E6.out (by simp [haf])).2.symm
                have hE : M 5 = true := by have q : M 6 = true := (by simp [haf]); first | exact q | exact (E6.out q).1
                go_wp2
                unfold ApI14
                exact ⟨v97, v98, v99, v100, v101, v102, (.tuple #[u9, .int .i64 0]), v103, (.int .i64 0), v25, v26, u9, by simp only [Act.put, List.setIfInBounds_toArray, List.set_cons_zero, List.set_cons_succ], HT.out, fun h => (by have q := E5.out (by simpa [mkd] using h); exact ⟨q.1, q.2⟩), fun h => (by have q := E6.out (by simpa [mkd] using h); exact ⟨by simpa [mkd] using q.1, rfl⟩), fun h => (by have q := E7.out (by simpa [mkd] using h); exact ⟨by simpa [mkd] using q.1, q.2⟩), fun _ => ⟨by simpa [mkd] using hE, rfl⟩, fun h => (by have q := E9.out (by simpa [mkd] using h); exact ⟨by simpa [mkd] using q.1, q.2⟩), fun h => (by have q := E10.out (by simpa [mkd] using h); exact ⟨by simpa [mkd] using q.1, q.2⟩), fun h => E0.out (by simpa [mkd] using h), fun h => E1.out (by simpa [mkd] using h), fun h => E2.out (by simpa [mkd] using h), fun h => E3.out (by simpa [mkd] using h), fun h => E4.out (by simpa [mkd] using h)⟩
              · obtain rfl := (E7.out (by simp [haf])).2.symm
                have hE : M 5 = true := by have q : M 7 = true := (by simp [haf]); first | exact q | exact (E7.out q).1
                go_wp2
                unfold ApI14
                exact ⟨v97, v98, v99, v100, v101, v102, v96, (u9), v104, (u9), v26, u9, by simp only [Act.put, List.setIfInBounds_toArray, List.set_cons_zero, List.set_cons_succ], HT.out, fun h => (by have q := E5.out (by simpa [mkd] using h); exact ⟨q.1, q.2⟩), fun h => (by have q := E6.out (by simpa [mkd] using h); exact ⟨by simpa [mkd] using q.1, q.2⟩), fun h => (by have q := E7.out (by simpa [mkd] using h); exact ⟨by simpa [mkd] using q.1, rfl⟩), fun h => (by have q := E8.out (by simpa [mkd] using h); exact ⟨by simpa [mkd] using q.1, q.2⟩), fun _ => ⟨by simpa [mkd] using hE, rfl⟩, fun h => (by have q := E10.out (by simpa [mkd] using h); exact ⟨by simpa [mkd] using q.1, q.2⟩), fun h => E0.out (by simpa [mkd] using h), fun h => E1.out (by simpa [mkd] using h), fun h => E2.out (by simpa [mkd] using h), fun h => E3.out (by simpa [mkd] using h), fun h => E4.out (by simpa [mkd] using h)⟩
              · obtain rfl := (E8.out (by simp [haf])).2.symm
                have hE : M 5 = true := by have q : M 8 = true := (by simp [haf]); first | exact q | exact (E8.out q).1
                go_wp2
                unfold ApI14
                exact ⟨v97, v98, v99, v100, v101, v102, v96, v103, (.int .i64 0), v25, (.int .i64 0), u9, by simp only [Act.put, List.setIfInBounds_toArray, List.set_cons_zero, List.set_cons_succ], HT.out, fun h => (by have q := E5.out (by simpa [mkd] using h); exact ⟨q.1, q.2⟩), fun h => (by have q := E6.out (by simpa [mkd] using h); exact ⟨by simpa [mkd] using q.1, q.2⟩), fun h => (by have q := E7.out (by simpa [mkd] using h); exact ⟨by simpa [mkd] using q.1, q.2⟩), fun h => (by have q := E8.out (by simpa [mkd] using h); exact ⟨by simpa [mkd] using q.1, rfl⟩), fun h => (by have q := E9.out (by simpa [mkd] using h); exact ⟨by simpa [mkd] using q.1, q.2⟩), fun _ => ⟨by simpa [mkd] using hE, rfl⟩, fun h => E0.out (by simpa [mkd] using h), fun h => E1.out (by simpa [mkd] using h), fun h => E2.out (by simpa [mkd] using h), fun h => E3.out (by simpa [mkd] using h), fun h => E4.out (by simpa [mkd] using h)⟩
            case fin =>
              rintro M a1' w9 hall ⟨v97, v98, v99, v100, v101, v102, v96, v103, v104, v25, v26, u9, rfl, hT, e5, e6, e7, e8, e9, e10, e0, e1, e2, e3, e4⟩
              obtain rfl := (e0 (hall 0 (by decide))).symm
              obtain rfl := (e1 (hall 1 (by decide))).symm
              obtain rfl := (e2 (hall 2 (by decide))).symm
              obtain rfl := (e3 (hall 3 (by decide))).symm
              obtain rfl := (e4 (hall 4 (by decide))).symm
              obtain ⟨rfl, hpost⟩ := e5 (hall 5 (by decide))
              obtain rfl := (e6 (hall 6 (by decide))).2.symm
              obtain rfl := (e7 (hall 7 (by decide))).2.symm
              obtain rfl := (e8 (hall 8 (by decide))).2.symm
              obtain rfl := (e9 (hall 9 (by decide))).2.symm
              obtain rfl := (e10 (hall 10 (by decide))).2.symm
              have B9 := Lib.hid (B8.out.trans (hT.mono B8.out.size))
              have OW9 := Lib.hid (own_bl OW8.out hT (Nat.le_refl _))
              have OW1 := Lib.hid hpost
              have g19 := G198.out.below hT G198.out.lt
              have g21 := G218.out.below hT G218.out.lt
              have y0 := g19.cell 0
              have y1 := g19.cell 1
              have y2 := g19.cell 2
              have y3 := g19.cell 3
              have z0 := g21.cell 0
              have z1 := g21.cell 1
              have z2 := g21.cell 2
              have z3 := g21.cell 3
              simp only [List.getElem?_toArray, List.getElem?_cons_zero, List.getElem?_cons_succ] at y0 y1 y2 y3 z0 z1 z2 z3
              obtain ⟨A1, c1, rfl, -, -, -⟩ := own_form OW1.out
              clear hT hpost B8 DN8 DM8 G198 G218 OW8 g19 g21
              go_wp2_with fail
              (with_reducible refine (KPI2.out _).mono ?_)
              rintro e w10 ⟨rfl, hb10⟩
              have B10 := Lib.hid (B9.out.trans (hb10.mono B9.out.size))
              have o1 := own_bl OW1.out hb10 (Nat.le_refl _)
              have o8 := own_bl OW9.out hb10 (Nat.le_refl _)
              obtain ⟨A1', c1', he1, hr1, h11, h12⟩ := own_form o1
              cases he1
              obtain ⟨A8', c8', he8, hr8, h81, h82⟩ := own_form o8
              cases he8
              have KI := Inside_any A1 A8 M1.length ML.length c1 c8 M1 ML w10 hr1 hr8 (Nat.le_trans h11 h12) (Nat.le_trans h81 h82) HV1.out HVM.out
              rw [HIN.out] at KI
              have KI := Lib.hid KI
              clear hb10 B9 OW1 OW9 o1 o8 hr1 hr8 h11 h12 h81 h82 y0 y1 y2 y3 z0 z1 z2 z3 KPI2
              go_wp2_with fail
              (with_reducible refine (KI.out).mono ?_)
              rintro e w11 ⟨rfl, hb11⟩
              have B11 := Lib.hid (B10.out.trans (hb11.mono B10.out.size))
              clear hb11 KI
              go_wp2
              go_ret
              exact ⟨rfl, B11.out⟩
    · have hne : ((gvE L a b x y lev) != (0 : Int)) = true := by simpa using hg
      obtain ⟨E, hE⟩ : ∃ E, gvE L a b x y lev = E := ⟨_, rfl⟩
      rw [hE] at KG hne
      have KG := Lib.hid KG
      clear hE hg hn hca hn20 v0 v16
      go_enter Tryz.func7, Tryz.ntmps7
      go_wp2_with fail
      (with_reducible refine (KA.out _).mono ?_)
      rintro e w1 ⟨rfl, hb1⟩
      have B1 := Lib.hid (B0.out.trans (hb1.mono B0.out.size))
      have DA1 := Lib.hid (DA.out.below hb1 DA.out.lt)
      have DX1 := Lib.hid (DX.out.below hb1 DX.out.lt)
      clear hb1 B0 DA DX KA
      obtain ⟨-, p0, p1, -, -⟩ := DA1.out
      obtain ⟨-, p2, p3, -, -⟩ := DX1.out
      go_wp2_with fail
      (with_reducible refine (KG.out _ B1.out).mono ?_)
      rintro e w2 ⟨rfl, hb2⟩
      have B2 := Lib.hid (B1.out.trans (hb2.mono B1.out.size))
      clear hb2 KG
      go_wp2
      go_ret
      exact ⟨rfl, B2.out⟩
  · have ds : decide (6 < (n : Int)) = true := decide_eq_true (by omega)
    clear hs hn hca v0 v16
    go_enter Tryz.func7, Tryz.ntmps7
    go_wp2_with fail
    (with_reducible refine (KA.out _).mono ?_)
    rintro e w1 ⟨rfl, hb1⟩
    have B1 := Lib.hid (B0.out.trans (hb1.mono B0.out.size))
    clear hb1 B0 DA DX KA
    go_wp2
    go_ret
    exact ⟨rfl, B1.out⟩
end Go.Proofs.YtnbbemlchchmoaaGreat
