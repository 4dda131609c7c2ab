/- The walk of AdvanceReaches. -/
import Derived.Test.YtleigbbgilcckaaGreatHMa
set_option linter.unusedVariables false
set_option linter.unusedSimpArgs false
namespace Go.Proofs.YtleigbbgilcckaaGreat
open Go.RowKit
def RcI16 (W2 : World) (x0 x1 x2 x3 x4 x5 x6 x7 : Value) (v : Nat → Int × Int) (a : Act) (L : Nat → Bool) (a' : Act) (w' : World) : Prop :=
  ∃ (v88 v89 v90 v91 v92 v93 v94 v95 v27 : Value) (g : Nat → Nat), a' = (((((((((a.put (some 88) v88).put (some 89) v89).put (some 90) v90).put (some 91) v91).put (some 92) v92).put (some 93) v93).put (some 94) v94).put (some 95) v95).put (some 27) v27) ∧ MJ W2 w' L 1 8 9 g v ∧
    (L 0 = true → v88 = x0) ∧ (L 1 = true → v89 = x1) ∧ (L 2 = true → v90 = x2) ∧ (L 3 = true → v91 = x3) ∧ (L 4 = true → v92 = x4) ∧ (L 5 = true → v93 = x5) ∧ (L 6 = true → v94 = x6) ∧ (L 7 = true → v95 = x7) ∧ (L 8 = true → v27 = .pointer (some ⟨g 0, 0, none⟩))
theorem RcI16.start (W2 : World) (x0 x1 x2 x3 x4 x5 x6 x7 : Value) (v : Nat → Int × Int) (a : Act) : RcI16 W2 x0 x1 x2 x3 x4 x5 x6 x7 v a (fun _ => false) a W2.drew :=
  ⟨_, _, _, _, _, _, _, _, _, fun _ => 0, by rw [putQ_self a 88, putQ_self a 89, putQ_self a 90, putQ_self a 91, putQ_self a 92, putQ_self a 93, putQ_self a 94, putQ_self a 95, putQ_self a 27], MJ.start W2 1 8 9 _ v, fun h => (by cases h), fun h => (by cases h), fun h => (by cases h), fun h => (by cases h), fun h => (by cases h), fun h => (by cases h), fun h => (by cases h), fun h => (by cases h), fun h => (by cases h)⟩
def RcI17 (W2 : World) (x0 x1 x2 x3 x4 x5 x6 : Value) (v : Nat → Int × Int) (a : Act) (L : Nat → Bool) (a' : Act) (w' : World) : Prop :=
  ∃ (v96 v97 v98 v99 v100 v101 v102 v28 : Value) (g : Nat → Nat), a' = ((((((((a.put (some 96) v96).put (some 97) v97).put (some 98) v98).put (some 99) v99).put (some 100) v100).put (some 101) v101).put (some 102) v102).put (some 28) v28) ∧ MJ W2 w' L 1 7 8 g v ∧
    (L 0 = true → v96 = x0) ∧ (L 1 = true → v97 = x1) ∧ (L 2 = true → v98 = x2) ∧ (L 3 = true → v99 = x3) ∧ (L 4 = true → v100 = x4) ∧ (L 5 = true → v101 = x5) ∧ (L 6 = true → v102 = x6) ∧ (L 7 = true → v28 = .pointer (some ⟨g 0, 0, none⟩))
theorem RcI17.start (W2 : World) (x0 x1 x2 x3 x4 x5 x6 : Value) (v : Nat → Int × Int) (a : Act) : RcI17 W2 x0 x1 x2 x3 x4 x5 x6 v a (fun _ => false) a W2.drew :=
  ⟨_, _, _, _, _, _, _, _, fun _ => 0, by rw [putQ_self a 96, putQ_self a 97, putQ_self a 98, putQ_self a 99, putQ_self a 100, putQ_self a 101, putQ_self a 102, putQ_self a 28], MJ.start W2 1 7 8 _ v, fun h => (by cases h), fun h => (by cases h), fun h => (by cases h), fun h => (by cases h), fun h => (by cases h), fun h => (by cases h), fun h => (by cases h), fun h => (by cases h)⟩
def RcI18 (W2 : World) (x0 x1 x2 x3 x4 x5 x6 x7 x8 x9 x10 x11 x12 x13 x16 : Value) (v : Nat → Int × Int) (a : Act) (L : Nat → Bool) (a' : Act) (w' : World) : Prop :=
  ∃ (v104 v105 v106 v107 v108 v109 v110 v111 v112 v113 v114 v103 v115 v116 v29 v30 : Value) (g : Nat → Nat), a' = ((((((((((((((((a.put (some 104) v104).put (some 105) v105).put (some 106) v106).put (some 107) v107).put (some 108) v108).put (some 109) v109).put (some 110) v110).put (some 111) v111).put (some 112) v112).put (some 113) v113).put (some 114) v114).put (some 103) v103).put (some 115) v115).put (some 116) v116).put (some 29) v29).put (some 30) v30) ∧ MJ W2 w' L 1 14 15 g v ∧
    (L 0 = true → v104 = x0) ∧ (L 1 = true → v105 = x1) ∧ (L 2 = true → v106 = x2) ∧ (L 3 = true → v107 = x3) ∧ (L 4 = true → v108 = x4) ∧ (L 5 = true → v109 = x5) ∧ (L 6 = true → v110 = x6) ∧ (L 7 = true → v111 = x7) ∧ (L 8 = true → v112 = x8) ∧ (L 9 = true → v113 = x9) ∧ (L 10 = true → v114 = x10) ∧ (L 11 = true → v103 = x11) ∧ (L 12 = true → v115 = x12) ∧ (L 13 = true → v116 = x13) ∧ (L 14 = true → v29 = .pointer (some ⟨g 0, 0, none⟩)) ∧ (L 16 = true → v30 = x16)
theorem RcI18.start (W2 : World) (x0 x1 x2 x3 x4 x5 x6 x7 x8 x9 x10 x11 x12 x13 x16 : Value) (v : Nat → Int × Int) (a : Act) : RcI18 W2 x0 x1 x2 x3 x4 x5 x6 x7 x8 x9 x10 x11 x12 x13 x16 v a (fun _ => false) a W2.drew :=
  ⟨_, _, _, _, _, _, _, _, _, _, _, _, _, _, _, _, fun _ => 0, by rw [putQ_self a 104, putQ_self a 105, putQ_self a 106, putQ_self a 107, putQ_self a 108, putQ_self a 109, putQ_self a 110, putQ_self a 111, putQ_self a 112, putQ_self a 113, putQ_self a 114, putQ_self a 103, putQ_self a 115, putQ_self a 116, putQ_self a 29, putQ_self a 30], MJ.start W2 1 14 15 _ v, fun h => (by cases h), fun h => (by cases h), fun h => (by cases h), fun h => (by cases h), fun h => (by cases h), fun h => (by cases h), fun h => (by cases h), fun h => (by cases h), fun h => (by cases h), fun h => (by cases h), fun h => (by cases h), fun h => (by cases h), fun h => (by cases h), fun h => (by cases h), fun h => (by cases h), fun h => (by cases h)⟩
def RcI21 (gB : Nat) (q0 q1 : Int) (W2 : World) (x0 x1 x2 x3 x4 x5 x6 x7 x8 x9 x10 x11 x12 x13 x14 x15 x16 x17 : Value) (a : Act) (M : Nat → Bool) (a' : Act) (w' : World) : Prop :=
  ∃ (v139 v140 v141 v142 v143 v144 v145 v146 v147 v148 v149 v150 v151 v152 v153 v154 v155 v156 : Value), a' = ((((((((((((((((((a.put (some 139) v139).put (some 140) v140).put (some 141) v141).put (some 142) v142).put (some 143) v143).put (some 144) v144).put (some 145) v145).put (some 146) v146).put (some 147) v147).put (some 148) v148).put (some 149) v149).put (some 150) v150).put (some 151) v151).put (some 152) v152).put (some 153) v153).put (some 154) v154).put (some 155) v155).put (some 156) v156) ∧ XK gB (.int .i64 0) W2 w' ∧
    (M 18 = false → D2 w' gB q0 0) ∧
    (M 18 = true → D2 w' gB q0 q1) ∧
    (M 0 = true → v139 = x0) ∧
    (M 1 = true → v140 = x1) ∧
    (M 2 = true → v141 = x2) ∧
    (M 3 = true → v142 = x3) ∧
    (M 4 = true → v143 = x4) ∧
    (M 5 = true → v144 = x5) ∧
    (M 6 = true → v145 = x6) ∧
    (M 7 = true → v146 = x7) ∧
    (M 8 = true → v147 = x8) ∧
    (M 9 = true → v148 = x9) ∧
    (M 10 = true → v149 = x10) ∧
    (M 11 = true → v150 = x11) ∧
    (M 12 = true → v151 = x12) ∧
    (M 13 = true → v152 = x13) ∧
    (M 14 = true → v153 = x14) ∧
    (M 15 = true → v154 = x15) ∧
    (M 16 = true → v155 = x16) ∧
    (M 17 = true → v156 = x17)
theorem RcI21.start {gB : Nat} {q0 q1 : Int} {W2 : World} {x0 x1 x2 x3 x4 x5 x6 x7 x8 x9 x10 x11 x12 x13 x14 x15 x16 x17 : Value} (a : Act) (h : D2 W2 gB q0 0) : RcI21 gB q0 q1 W2 x0 x1 x2 x3 x4 x5 x6 x7 x8 x9 x10 x11 x12 x13 x14 x15 x16 x17 a (fun _ => false) a W2.drew :=
  ⟨_, _, _, _, _, _, _, _, _, _, _, _, _, _, _, _, _, _, by rw [putQ_self a 139, putQ_self a 140, putQ_self a 141, putQ_self a 142, putQ_self a 143, putQ_self a 144, putQ_self a 145, putQ_self a 146, putQ_self a 147, putQ_self a 148, putQ_self a 149, putQ_self a 150, putQ_self a 151, putQ_self a 152, putQ_self a 153, putQ_self a 154, putQ_self a 155, putQ_self a 156], XK.drw _ _, fun _ => h.below (bl_drew (Below.refl _ _)) h.lt, fun h => (by cases h), fun h => (by cases h), fun h => (by cases h), fun h => (by cases h), fun h => (by cases h), fun h => (by cases h), fun h => (by cases h), fun h => (by cases h), fun h => (by cases h), fun h => (by cases h), fun h => (by cases h), fun h => (by cases h), fun h => (by cases h), fun h => (by cases h), fun h => (by cases h), fun h => (by cases h), fun h => (by cases h), fun h => (by cases h), fun h => (by cases h)⟩
theorem dn_form (t u : Int) : ∃ d0 d1 f : Int, dnV t t u u = .tuple #[.agg #[.int .i64 d0, .int .i64 d1], .int .i64 f] ∧ (f = 0 → d0 = dlA u u (Trig.enLo (t + 5400000) (t + 5400000)) (Trig.enHi (t + 5400000) (t + 5400000)) ∧ d1 = dlB u u (Trig.enLo (t + 5400000) (t + 5400000)) (Trig.enHi (t + 5400000) (t + 5400000)) ∧ d0 ≤ d1 ∧ -1099511627776 ≤ d0 ∧ d1 ≤ 1099511627776) := by
  unfold dnV dlV
  by_cases h : Trig.enLo (t + 5400000) (t + 5400000) ≤ 0
  · rw [if_pos h]
    exact ⟨0, 0, 21, rfl, fun h => absurd h (by decide)⟩
  · rw [if_neg h]
    by_cases g : dlG u u (Trig.enLo (t + 5400000) (t + 5400000)) (Trig.enHi (t + 5400000) (t + 5400000)) = true
    · rw [if_pos g]
      have hb := dl_bd g
      have hq := qt_le u (q := Trig.enHi (t + 5400000) (t + 5400000)) (show 0 < Trig.enLo (t + 5400000) (t + 5400000) by omega)
      refine ⟨_, _, 0, rfl, fun _ => ⟨rfl, rfl, ?_, hb.1, hb.2.2.2⟩⟩
      unfold dlA dlB
      omega
    · rw [if_neg g]
      exact ⟨0, 0, 5, rfl, fun h => absurd h (by decide)⟩
theorem fieldA (a b : Int) (W : World) : (Instr.field 26 (.agg #[.int .i64 a, .int .i64 b]) 0).run Tryz.prog W = .ok (.int .i64 a) W := by
  have u := Tryz.underlying26
  simp [Instr.field, run_underlying u, go_sem, part, asAgg]
theorem lonA_one (z : Int) : lonA z z = sgT z := by unfold lonA; rw [if_neg (by omega)]
set_option maxHeartbeats 16000000 in
set_option maxRecDepth 100000 in
theorem advReach_any (A : Option Addr) (n ca : Nat) (LC : List Cl) (p0 p1 a b x y lv ki kk km kn : Int) (w : World) (hr : Reads w w.heap.size 3 A n (cvs LC)) (hn : n ≤ ca) (hca : ca ≤ maxLen) (l0 : 0 ≤ lv) (l1 : lv ≤ 255)
    (i0 : 0 ≤ ki) (i1 : ki ≤ 4294967295) (j0 : 0 ≤ kk) (j1 : kk ≤ 4294967295) (u0 : 0 ≤ km) (u1 : km ≤ 4294967295) (v0 : 0 ≤ kn) (v1 : kn ≤ 4294967295) :
    Calls Tryz.prog 3 #[.slice A n ca, .agg #[.int .i64 p0, .int .i64 p1], .agg #[.int .i64 a, .int .i64 b], .agg #[.int .i64 x, .int .i64 y], .int .u8 lv, .int .u32 ki, .int .u32 kk, .int .u32 km, .int .u32 kn] w fun e w' => e = .returned (.bool true) ∧ Below w.heap.size w w' := by
  have RD := Lib.hid (fun (W : World) (hW : Below w.heap.size w W) => (hr.below hW).more hW.size)
  have HL := Lib.hid hr.len
  have KA := Lib.hid awake47
  have KPT := Lib.hid (fun (q : Int) W => point_any q W)
  have KV := fun W => refVpt_any p0 p1 W
  have b0 := ((bl_alloc w (.cells #[.int .i64 p0, .int .i64 p1] 24)).alloc (by simp) (.cells #[.int .i64 a, .int .i64 b] 26)).alloc (by simp; omega) (.cells #[.int .i64 x, .int .i64 y] 26)
  have DP := Lib.hid (((D2.new w p0 p1 24).alloc (.cells #[.int .i64 a, .int .i64 b] 26)).alloc (.cells #[.int .i64 x, .int .i64 y] 26))
  have da := (D2.new (w.alloc (.cells #[.int .i64 p0, .int .i64 p1] 24)) a b 26).alloc (.cells #[.int .i64 x, .int .i64 y] 26)
  have dx := D2.new ((w.alloc (.cells #[.int .i64 p0, .int .i64 p1] 24)).alloc (.cells #[.int .i64 a, .int .i64 b] 26)) x y 26
  simp only [World.size_alloc] at da dx
  have DA := Lib.hid da
  have DX := Lib.hid dx
  have B0 := Lib.hid b0
  clear hr b0 da dx
  obtain ⟨lev, hk⟩ : ∃ k : Int, lv % 17 = k := ⟨_, rfl⟩
  have lv0 : 0 ≤ lev := by omega
  have lv16 : lev ≤ 16 := by omega
  have V0 := Lib.hid lv0
  have V16 := Lib.hid lv16
  have hkt : lv.tmod 17 = lev := by rw [Int.tmod_eq_emod_of_nonneg l0]; exact hk
  by_cases hs : n ≤ 10
  · have ds : decide (10 < (n : Int)) = false := decide_eq_false (by omega)
    have hn20 : n ≤ 20 := by omega
    have HNC := Lib.hid hn
    have HC := Lib.hid hca
    have HM := Lib.hid hn20
    have HMX : Hid (n ≤ maxLen) := Lib.hid (Nat.le_trans hn hca)
    have HL6 : Hid (LC.length ≤ 60) := Lib.hid (by rw [HL.out]; omega)
    cases hvp : vptB p0 p1 with
    | false =>
      rw [hvp] at KV
      have KV := Lib.hid KV
      clear hn hca hn20 lv0 lv16 hvp
      go_enter Tryz.func3, Tryz.ntmps3
      go_wp2_with fail
      (with_reducible refine (KA.out _).mono ?_)
      rintro e w1 ⟨rfl, hb1⟩
      have B1 := Lib.hid (B0.out.trans (hb1.mono B0.out.size))
      have DP1 := Lib.hid (DP.out.below hb1 DP.out.lt)
      clear hb1 B0 DA DX DP KA
      obtain ⟨-, f0, f1, -, -⟩ := DP1.out
      go_wp2_with fail
      (with_reducible refine (KV.out _).mono ?_)
      rintro e w2 ⟨rfl, hb2⟩
      have B2 := Lib.hid (B1.out.trans (hb2.mono B1.out.size))
      clear hb2
      go_wp2
      go_ret
      exact ⟨rfl, B2.out⟩
    | true =>
    rw [hvp] at KV
    have KV := Lib.hid KV
    have HVP := Lib.hid hvp
    have KG := fun (W : World) (hW : Below w.heap.size w W) => rGiven_any A n ca LC a b x y lev W (RD.out W hW) hn hca
    by_cases hg : gvE LC a b x y lev = 0
    · obtain ⟨hv, ha, hx, -, -⟩ := gvE_zero hg
      rw [hg] at KG
      have KG := Lib.hid KG
      have HV := Lib.hid hv
      have HA := Lib.hid (sm_iff.1 ha)
      have HX := Lib.hid (sm_iff.1 hx)
      have K1 := Lib.hid (fun (W : World) (hW : Below w.heap.size w W) => rRegion_any A n ca LC a b x y lev 60 W (RD.out W hW) hn hca hn20 (by decide) (by decide))
      have KC := fun (W : World) (hW : Below w.heap.size w W) => Contains_any A n ca LC p0 p1 W (RD.out W hW) (Nat.le_trans hn hca) hv hvp
      have hpv := vptB_true.1 hvp
      have HPV := Lib.hid hpv
      clear hg hv ha hx hn hca hn20 lv0 lv16 hvp hpv
      go_enter Tryz.func3, Tryz.ntmps3
      go_wp2_with fail
      (with_reducible refine (KA.out _).mono ?_)
      rintro e w1 ⟨rfl, hb1⟩
      have B1 := Lib.hid (B0.out.trans (hb1.mono B0.out.size))
      have DP1 := Lib.hid (DP.out.below hb1 DP.out.lt)
      have DA1 := Lib.hid (DA.out.below hb1 DA.out.lt)
      have DX1 := Lib.hid (DX.out.below hb1 DX.out.lt)
      clear hb1 B0 DA DX DP KA
      obtain ⟨-, f0, f1, -, -⟩ := DP1.out
      go_wp2_with fail
      (with_reducible refine (KV.out _).mono ?_)
      rintro e w2 ⟨rfl, hb2⟩
      have B2 := Lib.hid (B1.out.trans (hb2.mono B1.out.size))
      have DP2 := Lib.hid (DP1.out.below hb2 DP1.out.lt)
      have DA2 := Lib.hid (DA1.out.below hb2 DA1.out.lt)
      have DX2 := Lib.hid (DX1.out.below hb2 DX1.out.lt)
      clear hb2 B1 DP1 DA1 DX1 KV f0 f1
      obtain ⟨-, f0, f1, -, -⟩ := DA2.out
      obtain ⟨-, f2, f3, -, -⟩ := DX2.out
      go_wp2_with fail
      (with_reducible refine (KG.out _ B2.out).mono ?_)
      rintro e w3 ⟨rfl, hb3⟩
      have B3 := Lib.hid (B2.out.trans (hb3.mono B2.out.size))
      have DP3 := Lib.hid (DP2.out.below hb3 DP2.out.lt)
      have DA3 := Lib.hid (DA2.out.below hb3 DA2.out.lt)
      have DX3 := Lib.hid (DX2.out.below hb3 DX2.out.lt)
      clear hb3 B2 DP2 DA2 DX2 KG f0 f1 f2 f3
      obtain ⟨-, f0, f1, -, -⟩ := DA3.out
      obtain ⟨-, f2, f3, -, -⟩ := DX3.out
      go_wp2_with fail
      (with_reducible refine (K1.out _ B3.out).mono ?_)
      rintro e w4 ⟨v4, ML, E, rfl, hown4, hb4, hd⟩
      have HD : Hid (RgD LC a b x y lev ML E) := Lib.hid hd
      have B4 := Lib.hid (B3.out.trans (hb4.mono B3.out.size))
      have DP4 := Lib.hid (DP3.out.below hb4 DP3.out.lt)
      have DA4 := Lib.hid (DA3.out.below hb4 DA3.out.lt)
      have DX4 := Lib.hid (DX3.out.below hb4 DX3.out.lt)
      clear hb4 B3 DP3 DA3 DX3 hown4 hd K1 f0 f1 f2 f3
      by_cases hE : E ≠ 0
      · have k2 : (E != (0 : Int)) = true := by simpa using hE
        clear hE HD
        go_wp2
        go_ret
        exact ⟨rfl, B4.out⟩
      obtain rfl : E = 0 := by omega
      clear hE
      cases hcon : conB LC p0 p1 with
      | false =>
        rw [hcon] at KC
        have KC := Lib.hid KC
        obtain ⟨-, f0, f1, -, -⟩ := DP4.out
        go_wp2_with fail
        (with_reducible refine (KC.out _ B4.out).mono ?_)
        rintro e w5 ⟨rfl, hb5⟩
        have B5 := Lib.hid (B4.out.trans (hb5.mono B4.out.size))
        clear hb5
        go_wp2
        go_ret
        exact ⟨rfl, B5.out⟩
      | true =>
        rw [hcon] at KC
        have KC := Lib.hid KC
        have HCON := Lib.hid hcon
        have KR := Lib.hid (fun (W : World) (hW : Below w.heap.size w W) => aReg_same (RD.out W hW) HNC.out HC.out HM.out HD.out (by decide))
        obtain ⟨-, r1, hML⟩ := rgd_zero HD.out
        have hlat := reach_lat r1 hcon
        have R1 := Lib.hid r1
        have HLAT := Lib.hid hlat
        have HML := Lib.hid hML
        have hvM : vrB ML = true := by rw [hML]; exact regV_vr V0.out V16.out r1 HL6.out
        have HVM := Lib.hid hvM
        clear hcon r1 hlat hML hvM
        obtain ⟨-, f0, f1, -, -⟩ := DP4.out
        go_wp2_with fail
        (with_reducible refine (KC.out _ B4.out).mono ?_)
        rintro e w5 ⟨rfl, hb5⟩
        have B5 := Lib.hid (B4.out.trans (hb5.mono B4.out.size))
        have DP5 := Lib.hid (DP4.out.below hb5 DP4.out.lt)
        have DA5 := Lib.hid (DA4.out.below hb5 DA4.out.lt)
        have DX5 := Lib.hid (DX4.out.below hb5 DX4.out.lt)
        clear hb5 B4 DP4 DA4 DX4 KC f0 f1
        obtain ⟨-, f0, f1, -, -⟩ := DA5.out
        obtain ⟨-, f2, f3, -, -⟩ := DX5.out
        go_wp2_with fail
        (with_reducible refine (KR.out _ B5.out).mono ?_)
        rintro e w6 ⟨v6, rfl, hown6, hb6⟩
        have B6 := Lib.hid (B5.out.trans (hb6.mono B5.out.size))
        have DP6 := Lib.hid (DP5.out.below hb6 DP5.out.lt)
        have DA6 := Lib.hid (DA5.out.below hb6 DA5.out.lt)
        have DX6 := Lib.hid (DX5.out.below hb6 DX5.out.lt)
        obtain ⟨A6, c6, rfl, hr6, h61, h62⟩ := own_form hown6
        have RM := Lib.hid (fun (W : World) (hW : Below w6.heap.size w6 W) => (hr6.below hW).more hW.size)
        have HM6 : Hid (ML.length ≤ maxLen) := Lib.hid (Nat.le_trans h61 h62)
        clear hb6 B5 DP5 DA5 DX5 KR hown6 hr6 h61 h62 f0 f1 f2 f3
        -- the numbers
        have hA := HA.out
        have hX := HX.out
        have hPV := HPV.out
        have hLT := HLAT.out
        have hm := sLo_bd ki hA.2.1
        have KS1 := Lib.hid (fun W => someC_any a b ki W (by omega) hA.2.1 (by omega) i0 i1)
        obtain ⟨m, em⟩ : ∃ v, sLo a b ki = v := ⟨_, rfl⟩
        rw [em] at hm KS1
        obtain ⟨q0, eq0⟩ : ∃ v, p0 + m = v := ⟨_, rfl⟩
        have ew0 : wrap64 (p0 + m) = q0 := by rw [IntWalk.wrap64_in _ (by omega)]; exact eq0
        have ew9 : wrap64 q0 = q0 := IntWalk.wrap64_in _ (by omega)
        have KHU0 := fun W => Hull_any p0 p0 q0 q0 W
        obtain ⟨y0, ey0⟩ : ∃ v, min p0 q0 = v := ⟨_, rfl⟩
        obtain ⟨y1, ey1⟩ : ∃ v, max p0 q0 = v := ⟨_, rfl⟩
        rw [ey0, ey1] at KHU0
        have KHU := Lib.hid KHU0
        have hy : y0 ≤ y1 ∧ -5400000 ≤ y0 ∧ y1 ≤ 5400000 := by omega
        have KS2 := Lib.hid (fun W => someC_any y0 y1 kk W (by omega) hy.1 (by omega) j0 j1)
        have ht := sLo_bd kk hy.1
        obtain ⟨t, et⟩ : ∃ v, sLo y0 y1 kk = v := ⟨_, rfl⟩
        rw [et] at ht KS2
        have KS3 := Lib.hid (fun W => someC_any x y km W (by omega) hX.2.1 (by omega) u0 u1)
        have hu := sLo_bd km hX.2.1
        obtain ⟨u, eu⟩ : ∃ v, sLo x y km = v := ⟨_, rfl⟩
        rw [eu] at hu KS3
        obtain ⟨d0, d1, f, hdn, hd0⟩ := dn_form t u
        have KDL := fun W => Dlon_any t t u u W (by omega) (Int.le_refl t) (by omega) (sm_iff.2 (by omega))
        rw [hdn] at KDL
        have KDL := Lib.hid KDL
        have HD0 := Lib.hid hd0
        have HMB := Lib.hid hm
        have HTB := Lib.hid ht
        have HUB := Lib.hid hu
        have HQ0 := Lib.hid eq0
        have HY0 := Lib.hid ey0
        have HY1 := Lib.hid ey1
        clear KHU0 hdn hd0 hm ht hu hy em et eu ey0 ey1 hA hX hPV hLT eq0
        go_upto_region 16 with (fail)
        refine wp_region_inv3 (by kernel_rfl) (RcI16 w6 (.pointer (some ⟨w.heap.size, 0, none⟩)) (.int .i64 p0) (.func (.func 10) #[] #[]) (.agg #[.int .i64 a, .int .i64 b]) (.int .u32 ki) (.int .i64 m) (.int .i64 q0) (.agg #[.int .i64 q0, .int .i64 0]) (fun _ => ((q0 : Int), (0 : Int)))) (waits_bind (by kernel_rfl)) ?start ?step ?fin
        case start => exact RcI16.start w6 _ _ _ _ _ _ _ _ _ _
        case step =>
          rintro L i o a1' w' ho hL haf ⟨v88, v89, v90, v91, v92, v93, v94, v95, v27, g, rfl, hT, e0, e1, e2, e3, e4, e5, e6, e7, e8⟩
          have HT := Lib.hid hT
          clear hT
          have E0 := Lib.hid e0
          have E1 := Lib.hid e1
          have E2 := Lib.hid e2
          have E3 := Lib.hid e3
          have E4 := Lib.hid e4
          have E5 := Lib.hid e5
          have E6 := Lib.hid e6
          have E7 := Lib.hid e7
          have E8 := Lib.hid e8
          clear e0 e1 e2 e3 e4 e5 e6 e7 e8
          rcases i with _ | _ | _ | _ | _ | _ | _ | _ | _ | _ | i
          all_goals (simp at ho; try subst ho)
          all_goals (try simp [Region.binds] at haf)
          · go_wp2
            unfold RcI16
            exact ⟨(.pointer (some ⟨w.heap.size, 0, none⟩)), v89, v90, v91, v92, v93, v94, v95, v27, g, by simp only [Act.put, List.setIfInBounds_toArray, List.set_cons_zero, List.set_cons_succ], HT.out.mark 0 (by decide), fun _ => rfl, fun h => E1.out (by simpa [mkd] using h), fun h => E2.out (by simpa [mkd] using h), fun h => E3.out (by simpa [mkd] using h), fun h => E4.out (by simpa [mkd] using h), fun h => E5.out (by simpa [mkd] using h), fun h => E6.out (by simpa [mkd] using h), fun h => E7.out (by simpa [mkd] using h), fun h => E8.out (by simpa [mkd] using h)⟩
          · obtain ⟨-, f0, f1, -, -⟩ := DP6.out.below HT.out.bl DP6.out.lt
            obtain rfl := E0.out (by simp [haf])
            go_wp2
            unfold RcI16
            exact ⟨(.pointer (some ⟨w.heap.size, 0, none⟩)), (.int .i64 p0), v90, v91, v92, v93, v94, v95, v27, g, by simp only [Act.put, List.setIfInBounds_toArray, List.set_cons_zero, List.set_cons_succ], HT.out.mark 1 (by decide), fun _ => rfl, fun _ => rfl, fun h => E2.out (by simpa [mkd] using h), fun h => E3.out (by simpa [mkd] using h), fun h => E4.out (by simpa [mkd] using h), fun h => E5.out (by simpa [mkd] using h), fun h => E6.out (by simpa [mkd] using h), fun h => E7.out (by simpa [mkd] using h), fun h => E8.out (by simpa [mkd] using h)⟩
          · go_wp2
            unfold RcI16
            exact ⟨v88, v89, (.func (.func 10) #[] #[]), v91, v92, v93, v94, v95, v27, g, by simp only [Act.put, List.setIfInBounds_toArray, List.set_cons_zero, List.set_cons_succ], HT.out.mark 2 (by decide), fun h => E0.out (by simpa [mkd] using h), fun h => E1.out (by simpa [mkd] using h), fun _ => rfl, fun h => E3.out (by simpa [mkd] using h), fun h => E4.out (by simpa [mkd] using h), fun h => E5.out (by simpa [mkd] using h), fun h => E6.out (by simpa [mkd] using h), fun h => E7.out (by simpa [mkd] using h), fun h => E8.out (by simpa [mkd] using h)⟩
          · obtain ⟨-, f0, f1, -, -⟩ := DA6.out.below HT.out.bl DA6.out.lt
            go_wp2
            unfold RcI16
            exact ⟨v88, v89, v90, (.agg #[.int .i64 a, .int .i64 b]), v92, v93, v94, v95, v27, g, by simp only [Act.put, List.setIfInBounds_toArray, List.set_cons_zero, List.set_cons_succ], HT.out.mark 3 (by decide), fun h => E0.out (by simpa [mkd] using h), fun h => E1.out (by simpa [mkd] using h), fun h => E2.out (by simpa [mkd] using h), fun _ => rfl, fun h => E4.out (by simpa [mkd] using h), fun h => E5.out (by simpa [mkd] using h), fun h => E6.out (by simpa [mkd] using h), fun h => E7.out (by simpa [mkd] using h), fun h => E8.out (by simpa [mkd] using h)⟩
          · go_wp2
            unfold RcI16
            exact ⟨v88, v89, v90, v91, (.int .u32 ki), v93, v94, v95, v27, g, by simp only [Act.put, List.setIfInBounds_toArray, List.set_cons_zero, List.set_cons_succ], HT.out.mark 4 (by decide), fun h => E0.out (by simpa [mkd] using h), fun h => E1.out (by simpa [mkd] using h), fun h => E2.out (by simpa [mkd] using h), fun h => E3.out (by simpa [mkd] using h), fun _ => rfl, fun h => E5.out (by simpa [mkd] using h), fun h => E6.out (by simpa [mkd] using h), fun h => E7.out (by simpa [mkd] using h), fun h => E8.out (by simpa [mkd] using h)⟩
          · obtain rfl := E2.out (by simp [haf])
            obtain rfl := E3.out (by simp [haf])
            obtain rfl := E4.out (by simp [haf])
            go_wp2_with fail
            (with_reducible refine (KS1.out _).mono ?_)
            rintro e w9 ⟨rfl, hb9⟩
            go_wp2
            unfold RcI16
            exact ⟨v88, v89, (.func (.func 10) #[] #[]), (.agg #[.int .i64 a, .int .i64 b]), (.int .u32 ki), (.int .i64 m), v94, v95, v27, g, by simp only [Act.put, List.setIfInBounds_toArray, List.set_cons_zero, List.set_cons_succ], (HT.out.call hb9).mark 5 (by decide), fun h => E0.out (by simpa [mkd] using h), fun h => E1.out (by simpa [mkd] using h), fun _ => rfl, fun _ => rfl, fun _ => rfl, fun _ => rfl, fun h => E6.out (by simpa [mkd] using h), fun h => E7.out (by simpa [mkd] using h), fun h => E8.out (by simpa [mkd] using h)⟩
          · obtain rfl := E1.out (by simp [haf])
            obtain rfl := E5.out (by simp [haf])
            go_wp2
            unfold RcI16
            exact ⟨v88, (.int .i64 p0), v90, v91, v92, (.int .i64 m), (.int .i64 q0), v95, v27, g, by simp only [Act.put, List.setIfInBounds_toArray, List.set_cons_zero, List.set_cons_succ], HT.out.mark 6 (by decide), fun h => E0.out (by simpa [mkd] using h), fun _ => rfl, fun h => E2.out (by simpa [mkd] using h), fun h => E3.out (by simpa [mkd] using h), fun h => E4.out (by simpa [mkd] using h), fun _ => rfl, fun _ => rfl, fun h => E7.out (by simpa [mkd] using h), fun h => E8.out (by simpa [mkd] using h)⟩
          · obtain rfl := E6.out (by simp [haf])
            go_wp2
            unfold RcI16
            exact ⟨v88, v89, v90, v91, v92, v93, (.int .i64 q0), (.agg #[.int .i64 q0, .int .i64 0]), v27, g, by simp only [Act.put, List.setIfInBounds_toArray, List.set_cons_zero, List.set_cons_succ], HT.out.mark 7 (by decide), fun h => E0.out (by simpa [mkd] using h), fun h => E1.out (by simpa [mkd] using h), fun h => E2.out (by simpa [mkd] using h), fun h => E3.out (by simpa [mkd] using h), fun h => E4.out (by simpa [mkd] using h), fun h => E5.out (by simpa [mkd] using h), fun _ => rfl, fun _ => rfl, fun h => E8.out (by simpa [mkd] using h)⟩
          · go_wp2
            unfold RcI16
            exact ⟨v88, v89, v90, v91, v92, v93, v94, v95, (.pointer (some ⟨w'.heap.size, 0, none⟩)), (fun j => if j = 0 then w'.heap.size else g j), by simp only [Act.put, List.setIfInBounds_toArray, List.set_cons_zero, List.set_cons_succ], HT.out.al 0 (by decide) (by decide) hL _, fun h => E0.out (by simpa [mkd] using h), fun h => E1.out (by simpa [mkd] using h), fun h => E2.out (by simpa [mkd] using h), fun h => E3.out (by simpa [mkd] using h), fun h => E4.out (by simpa [mkd] using h), fun h => E5.out (by simpa [mkd] using h), fun h => E6.out (by simpa [mkd] using h), fun h => E7.out (by simpa [mkd] using h), fun _ => rfl⟩
          · obtain rfl := E8.out (by simp [haf])
            obtain rfl := E7.out (by simp [haf])
            have hA : L 8 = true := by simp [haf]
            obtain ⟨zt, z0, z1, zf0, zf1⟩ := HT.out.z 0 (by decide) hA hL
            have HS := Lib.hid (HT.out.st 0 (by decide) (by decide) hA hL rfl)
            go_wp2
            unfold RcI16
            exact ⟨v88, v89, v90, v91, v92, v93, v94, (.agg #[.int .i64 q0, .int .i64 0]), (.pointer (some ⟨g 0, 0, none⟩)), g, by simp only [Act.put, List.setIfInBounds_toArray, List.set_cons_zero, List.set_cons_succ], HS.out, fun h => E0.out (by simpa [mkd] using h), fun h => E1.out (by simpa [mkd] using h), fun h => E2.out (by simpa [mkd] using h), fun h => E3.out (by simpa [mkd] using h), fun h => E4.out (by simpa [mkd] using h), fun h => E5.out (by simpa [mkd] using h), fun h => E6.out (by simpa [mkd] using h), fun _ => rfl, fun _ => rfl⟩
        case fin =>
          rintro L a1' w7 hall ⟨v88, v89, v90, v91, v92, v93, v94, v95, v27, g, rfl, hT, e0, e1, e2, e3, e4, e5, e6, e7, e8⟩
          obtain rfl := e0 (hall 0 (by decide))
          obtain rfl := e1 (hall 1 (by decide))
          obtain rfl := e2 (hall 2 (by decide))
          obtain rfl := e3 (hall 3 (by decide))
          obtain rfl := e4 (hall 4 (by decide))
          obtain rfl := e5 (hall 5 (by decide))
          obtain rfl := e6 (hall 6 (by decide))
          obtain rfl := e7 (hall 7 (by decide))
          obtain rfl := e8 (hall 8 (by decide))
          have DQ7 : Hid (D2 w7 (g 0) q0 0) := Lib.hid (hT.k 0 (by decide) (hall 9 (by decide)))
          have DP7 := Lib.hid (DP6.out.below hT.bl DP6.out.lt)
          have DX7 := Lib.hid (DX6.out.below hT.bl DX6.out.lt)
          have B7 := Lib.hid (B6.out.trans (hT.bl.mono B6.out.size))
          have RM7 := Lib.hid (fun (W : World) (hW : Below w6.heap.size w7 W) => RM.out W (hT.bl.trans hW))
          have hg7 := hT.lo 0 (by decide) (hall 8 (by decide))
          have hw6 := DP6.out.lt
          clear hT hall B6 DP6 DA6 DX6 KS1 RM
          generalize g 0 = g27 at *
          clear g
          go_upto_region 17 with (fail)
          refine wp_region_inv3 (by kernel_rfl) (RcI17 w7 (.pointer (some ⟨w.heap.size, 0, none⟩)) (.int .i64 p0) (.agg #[.int .i64 p0, .int .i64 p0]) (.pointer (some ⟨g27, 0, none⟩)) (.int .i64 q0) (.agg #[.int .i64 q0, .int .i64 q0]) (.agg #[.int .i64 y0, .int .i64 y1]) (fun _ => ((y0 : Int), (y1 : Int)))) (waits_bind (by kernel_rfl)) ?start ?step ?fin
          case start => exact RcI17.start w7 _ _ _ _ _ _ _ _ _
          case step =>
            rintro L i o a1' w' ho hL haf ⟨v96, v97, v98, v99, v100, v101, v102, v28, g, rfl, hT, e0, e1, e2, e3, e4, e5, e6, e7⟩
            have HT := Lib.hid hT
            clear hT
            have E0 := Lib.hid e0
            have E1 := Lib.hid e1
            have E2 := Lib.hid e2
            have E3 := Lib.hid e3
            have E4 := Lib.hid e4
            have E5 := Lib.hid e5
            have E6 := Lib.hid e6
            have E7 := Lib.hid e7
            clear e0 e1 e2 e3 e4 e5 e6 e7
            rcases i with _ | _ | _ | _ | _ | _ | _ | _ | _ | i
            all_goals (simp at ho; try subst ho)
            all_goals (try simp [Region.binds] at haf)
            · go_wp2
              unfold RcI17
              exact ⟨(.pointer (some ⟨w.heap.size, 0, none⟩)), v97, v98, v99, v100, v101, v102, v28, g, by simp only [Act.put, List.setIfInBounds_toArray, List.set_cons_zero, List.set_cons_succ], HT.out.mark 0 (by decide), fun _ => rfl, fun h => E1.out (by simpa [mkd] using h), fun h => E2.out (by simpa [mkd] using h), fun h => E3.out (by simpa [mkd] using h), fun h => E4.out (by simpa [mkd] using h), fun h => E5.out (by simpa [mkd] using h), fun h => E6.out (by simpa [mkd] using h), fun h => E7.out (by simpa [mkd] using h)⟩
            · obtain ⟨-, f0, f1, -, -⟩ := DP7.out.below HT.out.bl DP7.out.lt
              obtain rfl := E0.out (by simp [haf])
              go_wp2
              unfold RcI17
              exact ⟨(.pointer (some ⟨w.heap.size, 0, none⟩)), (.int .i64 p0), v98, v99, v100, v101, v102, v28, g, by simp only [Act.put, List.setIfInBounds_toArray, List.set_cons_zero, List.set_cons_succ], HT.out.mark 1 (by decide), fun _ => rfl, fun _ => rfl, fun h => E2.out (by simpa [mkd] using h), fun h => E3.out (by simpa [mkd] using h), fun h => E4.out (by simpa [mkd] using h), fun h => E5.out (by simpa [mkd] using h), fun h => E6.out (by simpa [mkd] using h), fun h => E7.out (by simpa [mkd] using h)⟩
            · obtain rfl := E1.out (by simp [haf])
              go_wp2_with fail
              (with_reducible refine (KPT.out _ _).mono ?_)
              rintro e w9 ⟨rfl, hb9⟩
              go_wp2
              unfold RcI17
              exact ⟨v96, (.int .i64 p0), (.agg #[.int .i64 p0, .int .i64 p0]), v99, v100, v101, v102, v28, g, by simp only [Act.put, List.setIfInBounds_toArray, List.set_cons_zero, List.set_cons_succ], (HT.out.call hb9).mark 2 (by decide), fun h => E0.out (by simpa [mkd] using h), fun _ => rfl, fun _ => rfl, fun h => E3.out (by simpa [mkd] using h), fun h => E4.out (by simpa [mkd] using h), fun h => E5.out (by simpa [mkd] using h), fun h => E6.out (by simpa [mkd] using h), fun h => E7.out (by simpa [mkd] using h)⟩
            · go_wp2
              unfold RcI17
              exact ⟨v96, v97, v98, (.pointer (some ⟨g27, 0, none⟩)), v100, v101, v102, v28, g, by simp only [Act.put, List.setIfInBounds_toArray, List.set_cons_zero, List.set_cons_succ], HT.out.mark 3 (by decide), fun h => E0.out (by simpa [mkd] using h), fun h => E1.out (by simpa [mkd] using h), fun h => E2.out (by simpa [mkd] using h), fun _ => rfl, fun h => E4.out (by simpa [mkd] using h), fun h => E5.out (by simpa [mkd] using h), fun h => E6.out (by simpa [mkd] using h), fun h => E7.out (by simpa [mkd] using h)⟩
            · obtain ⟨-, f0, f1, -, -⟩ := DQ7.out.below HT.out.bl DQ7.out.lt
              obtain rfl := E3.out (by simp [haf])
              go_wp2
              unfold RcI17
              exact ⟨v96, v97, v98, (.pointer (some ⟨g27, 0, none⟩)), (.int .i64 q0), v101, v102, v28, g, by simp only [Act.put, List.setIfInBounds_toArray, List.set_cons_zero, List.set_cons_succ], HT.out.mark 4 (by decide), fun h => E0.out (by simpa [mkd] using h), fun h => E1.out (by simpa [mkd] using h), fun h => E2.out (by simpa [mkd] using h), fun _ => rfl, fun _ => rfl, fun h => E5.out (by simpa [mkd] using h), fun h => E6.out (by simpa [mkd] using h), fun h => E7.out (by simpa [mkd] using h)⟩
            · obtain rfl := E4.out (by simp [haf])
              go_wp2_with fail
              (with_reducible refine (KPT.out _ _).mono ?_)
              rintro e w9 ⟨rfl, hb9⟩
              go_wp2
              unfold RcI17
              exact ⟨v96, v97, v98, v99, (.int .i64 q0), (.agg #[.int .i64 q0, .int .i64 q0]), v102, v28, g, by simp only [Act.put, List.setIfInBounds_toArray, List.set_cons_zero, List.set_cons_succ], (HT.out.call hb9).mark 5 (by decide), fun h => E0.out (by simpa [mkd] using h), fun h => E1.out (by simpa [mkd] using h), fun h => E2.out (by simpa [mkd] using h), fun h => E3.out (by simpa [mkd] using h), fun _ => rfl, fun _ => rfl, fun h => E6.out (by simpa [mkd] using h), fun h => E7.out (by simpa [mkd] using h)⟩
            · obtain rfl := E2.out (by simp [haf])
              obtain rfl := E5.out (by simp [haf])
              go_wp2_with fail
              (with_reducible refine (KHU.out _).mono ?_)
              rintro e w9 ⟨rfl, hb9⟩
              go_wp2
              unfold RcI17
              exact ⟨v96, v97, (.agg #[.int .i64 p0, .int .i64 p0]), v99, v100, (.agg #[.int .i64 q0, .int .i64 q0]), (.agg #[.int .i64 y0, .int .i64 y1]), v28, g, by simp only [Act.put, List.setIfInBounds_toArray, List.set_cons_zero, List.set_cons_succ], (HT.out.call hb9).mark 6 (by decide), fun h => E0.out (by simpa [mkd] using h), fun h => E1.out (by simpa [mkd] using h), fun _ => rfl, fun h => E3.out (by simpa [mkd] using h), fun h => E4.out (by simpa [mkd] using h), fun _ => rfl, fun _ => rfl, fun h => E7.out (by simpa [mkd] using h)⟩
            · go_wp2
              unfold RcI17
              exact ⟨v96, v97, v98, v99, v100, v101, v102, (.pointer (some ⟨w'.heap.size, 0, none⟩)), (fun j => if j = 0 then w'.heap.size else g j), by simp only [Act.put, List.setIfInBounds_toArray, List.set_cons_zero, List.set_cons_succ], HT.out.al 0 (by decide) (by decide) hL _, fun h => E0.out (by simpa [mkd] using h), fun h => E1.out (by simpa [mkd] using h), fun h => E2.out (by simpa [mkd] using h), fun h => E3.out (by simpa [mkd] using h), fun h => E4.out (by simpa [mkd] using h), fun h => E5.out (by simpa [mkd] using h), fun h => E6.out (by simpa [mkd] using h), fun _ => rfl⟩
            · obtain rfl := E7.out (by simp [haf])
              obtain rfl := E6.out (by simp [haf])
              have hA : L 7 = true := by simp [haf]
              obtain ⟨zt, z0, z1, zf0, zf1⟩ := HT.out.z 0 (by decide) hA hL
              have HS := Lib.hid (HT.out.st 0 (by decide) (by decide) hA hL rfl)
              go_wp2
              unfold RcI17
              exact ⟨v96, v97, v98, v99, v100, v101, (.agg #[.int .i64 y0, .int .i64 y1]), (.pointer (some ⟨g 0, 0, none⟩)), g, by simp only [Act.put, List.setIfInBounds_toArray, List.set_cons_zero, List.set_cons_succ], HS.out, fun h => E0.out (by simpa [mkd] using h), fun h => E1.out (by simpa [mkd] using h), fun h => E2.out (by simpa [mkd] using h), fun h => E3.out (by simpa [mkd] using h), fun h => E4.out (by simpa [mkd] using h), fun h => E5.out (by simpa [mkd] using h), fun _ => rfl, fun _ => rfl⟩
          case fin =>
            rintro L a1' w8 hall ⟨v96, v97, v98, v99, v100, v101, v102, v28, g, rfl, hT, e0, e1, e2, e3, e4, e5, e6, e7⟩
            obtain rfl := e0 (hall 0 (by decide))
            obtain rfl := e1 (hall 1 (by decide))
            obtain rfl := e2 (hall 2 (by decide))
            obtain rfl := e3 (hall 3 (by decide))
            obtain rfl := e4 (hall 4 (by decide))
            obtain rfl := e5 (hall 5 (by decide))
            obtain rfl := e6 (hall 6 (by decide))
            obtain rfl := e7 (hall 7 (by decide))
            have DY8 : Hid (D2 w8 (g 0) y0 y1) := Lib.hid (hT.k 0 (by decide) (hall 8 (by decide)))
            have DP8 := Lib.hid (DP7.out.below hT.bl DP7.out.lt)
            have DX8 := Lib.hid (DX7.out.below hT.bl DX7.out.lt)
            have DQ8 := Lib.hid (DQ7.out.below hT.bl DQ7.out.lt)
            have B8 := Lib.hid (B7.out.trans (hT.bl.mono B7.out.size))
            have hs67 := DQ7.out.lt
            have RM8 := Lib.hid (fun (W : World) (hW : Below w6.heap.size w8 W) => RM7.out W ((hT.bl.mono (by omega)).trans hW))
            clear hT hall B7 DP7 DX7 DQ7 KHU RM7
            generalize g 0 = g28 at *
            clear g
            go_upto_region 18 with (fail)
            refine wp_region_inv3 (by kernel_rfl) (RcI18 w8 (.func (.func 10) #[] #[]) (.agg #[.int .i64 y0, .int .i64 y1]) (.int .u32 kk) (.int .i64 t) (.agg #[.int .i64 t, .int .i64 t]) (.func (.func 10) #[] #[]) (.agg #[.int .i64 x, .int .i64 y]) (.int .u32 km) (.int .i64 u) (.agg #[.int .i64 u, .int .i64 u]) (.tuple #[.agg #[.int .i64 d0, .int .i64 d1], .int .i64 f]) (.tuple #[.agg #[.int .i64 d0, .int .i64 d1], .int .i64 f]) (.agg #[.int .i64 d0, .int .i64 d1]) (.int .i64 f) (.int .i64 f) (fun _ => ((d0 : Int), (d1 : Int)))) (waits_bind (by kernel_rfl)) ?start ?step ?fin
            case start => exact RcI18.start w8 _ _ _ _ _ _ _ _ _ _ _ _ _ _ _ _ _
            case step =>
              rintro L i o a1' w' ho hL haf ⟨v104, v105, v106, v107, v108, v109, v110, v111, v112, v113, v114, v103, v115, v116, v29, v30, g, rfl, hT, e0, e1, e2, e3, e4, e5, e6, e7, e8, e9, e10, e11, e12, e13, e14, e16⟩
              have HT := Lib.hid hT
              clear hT
              have E0 := Lib.hid e0
              have E1 := Lib.hid e1
              have E2 := Lib.hid e2
              have E3 := Lib.hid e3
              have E4 := Lib.hid e4
              have E5 := Lib.hid e5
              have E6 := Lib.hid e6
              have E7 := Lib.hid e7
              have E8 := Lib.hid e8
              have E9 := Lib.hid e9
              have E10 := Lib.hid e10
              have E11 := Lib.hid e11
              have E12 := Lib.hid e12
              have E13 := Lib.hid e13
              have E14 := Lib.hid e14
              have E16 := Lib.hid e16
              clear e0 e1 e2 e3 e4 e5 e6 e7 e8 e9 e10 e11 e12 e13 e14 e16
              rcases i with _ | _ | _ | _ | _ | _ | _ | _ | _ | _ | _ | _ | _ | _ | _ | _ | _ | i
              all_goals (simp at ho; try subst ho)
              all_goals (try simp [Region.binds] at haf)
              · go_wp2
                unfold RcI18
                exact ⟨(.func (.func 10) #[] #[]), v105, v106, v107, v108, v109, v110, v111, v112, v113, v114, v103, v115, v116, v29, v30, g, by simp only [Act.put, List.setIfInBounds_toArray, List.set_cons_zero, List.set_cons_succ], HT.out.mark 0 (by decide), fun _ => rfl, fun h => E1.out (by simpa [mkd] using h), fun h => E2.out (by simpa [mkd] using h), fun h => E3.out (by simpa [mkd] using h), fun h => E4.out (by simpa [mkd] using h), fun h => E5.out (by simpa [mkd] using h), fun h => E6.out (by simpa [mkd] using h), fun h => E7.out (by simpa [mkd] using h), fun h => E8.out (by simpa [mkd] using h), fun h => E9.out (by simpa [mkd] using h), fun h => E10.out (by simpa [mkd] using h), fun h => E11.out (by simpa [mkd] using h), fun h => E12.out (by simpa [mkd] using h), fun h => E13.out (by simpa [mkd] using h), fun h => E14.out (by simpa [mkd] using h), fun h => E16.out (by simpa [mkd] using h)⟩
              · obtain ⟨-, f0, f1, -, -⟩ := DY8.out.below HT.out.bl DY8.out.lt
                go_wp2
                unfold RcI18
                exact ⟨v104, (.agg #[.int .i64 y0, .int .i64 y1]), v106, v107, v108, v109, v110, v111, v112, v113, v114, v103, v115, v116, v29, v30, g, by simp only [Act.put, List.setIfInBounds_toArray, List.set_cons_zero, List.set_cons_succ], HT.out.mark 1 (by decide), fun h => E0.out (by simpa [mkd] using h), fun _ => rfl, fun h => E2.out (by simpa [mkd] using h), fun h => E3.out (by simpa [mkd] using h), fun h => E4.out (by simpa [mkd] using h), fun h => E5.out (by simpa [mkd] using h), fun h => E6.out (by simpa [mkd] using h), fun h => E7.out (by simpa [mkd] using h), fun h => E8.out (by simpa [mkd] using h), fun h => E9.out (by simpa [mkd] using h), fun h => E10.out (by simpa [mkd] using h), fun h => E11.out (by simpa [mkd] using h), fun h => E12.out (by simpa [mkd] using h), fun h => E13.out (by simpa [mkd] using h), fun h => E14.out (by simpa [mkd] using h), fun h => E16.out (by simpa [mkd] using h)⟩
              · go_wp2
                unfold RcI18
                exact ⟨v104, v105, (.int .u32 kk), v107, v108, v109, v110, v111, v112, v113, v114, v103, v115, v116, v29, v30, g, by simp only [Act.put, List.setIfInBounds_toArray, List.set_cons_zero, List.set_cons_succ], HT.out.mark 2 (by decide), fun h => E0.out (by simpa [mkd] using h), fun h => E1.out (by simpa [mkd] using h), fun _ => rfl, fun h => E3.out (by simpa [mkd] using h), fun h => E4.out (by simpa [mkd] using h), fun h => E5.out (by simpa [mkd] using h), fun h => E6.out (by simpa [mkd] using h), fun h => E7.out (by simpa [mkd] using h), fun h => E8.out (by simpa [mkd] using h), fun h => E9.out (by simpa [mkd] using h), fun h => E10.out (by simpa [mkd] using h), fun h => E11.out (by simpa [mkd] using h), fun h => E12.out (by simpa [mkd] using h), fun h => E13.out (by simpa [mkd] using h), fun h => E14.out (by simpa [mkd] using h), fun h => E16.out (by simpa [mkd] using h)⟩
              · obtain rfl := E0.out (by simp [haf])
                obtain rfl := E1.out (by simp [haf])
                obtain rfl := E2.out (by simp [haf])
                go_wp2_with fail
                (with_reducible refine (KS2.out _).mono ?_)
                rintro e w9 ⟨rfl, hb9⟩
                go_wp2
                unfold RcI18
                exact ⟨(.func (.func 10) #[] #[]), (.agg #[.int .i64 y0, .int .i64 y1]), (.int .u32 kk), (.int .i64 t), v108, v109, v110, v111, v112, v113, v114, v103, v115, v116, v29, v30, g, by simp only [Act.put, List.setIfInBounds_toArray, List.set_cons_zero, List.set_cons_succ], (HT.out.call hb9).mark 3 (by decide), fun _ => rfl, fun _ => rfl, fun _ => rfl, fun _ => rfl, fun h => E4.out (by simpa [mkd] using h), fun h => E5.out (by simpa [mkd] using h), fun h => E6.out (by simpa [mkd] using h), fun h => E7.out (by simpa [mkd] using h), fun h => E8.out (by simpa [mkd] using h), fun h => E9.out (by simpa [mkd] using h), fun h => E10.out (by simpa [mkd] using h), fun h => E11.out (by simpa [mkd] using h), fun h => E12.out (by simpa [mkd] using h), fun h => E13.out (by simpa [mkd] using h), fun h => E14.out (by simpa [mkd] using h), fun h => E16.out (by simpa [mkd] using h)⟩
              · obtain rfl := E3.out (by simp [haf])
                go_wp2_with fail
                (with_reducible refine (KPT.out _ _).mono ?_)
                rintro e w9 ⟨rfl, hb9⟩
                go_wp2
                unfold RcI18
                exact ⟨v104, v105, v106, (.int .i64 t), (.agg #[.int .i64 t, .int .i64 t]), v109, v110, v111, v112, v113, v114, v103, v115, v116, v29, v30, g, by simp only [Act.put, List.setIfInBounds_toArray, List.set_cons_zero, List.set_cons_succ], (HT.out.call hb9).mark 4 (by decide), fun h => E0.out (by simpa [mkd] using h), fun h => E1.out (by simpa [mkd] using h), fun h => E2.out (by simpa [mkd] using h), fun _ => rfl, fun _ => rfl, fun h => E5.out (by simpa [mkd] using h), fun h => E6.out (by simpa [mkd] using h), fun h => E7.out (by simpa [mkd] using h), fun h => E8.out (by simpa [mkd] using h), fun h => E9.out (by simpa [mkd] using h), fun h => E10.out (by simpa [mkd] using h), fun h => E11.out (by simpa [mkd] using h), fun h => E12.out (by simpa [mkd] using h), fun h => E13.out (by simpa [mkd] using h), fun h => E14.out (by simpa [mkd] using h), fun h => E16.out (by simpa [mkd] using h)⟩
              · go_wp2
                unfold RcI18
                exact ⟨v104, v105, v106, v107, v108, (.func (.func 10) #[] #[]), v110, v111, v112, v113, v114, v103, v115, v116, v29, v30, g, by simp only [Act.put, List.setIfInBounds_toArray, List.set_cons_zero, List.set_cons_succ], HT.out.mark 5 (by decide), fun h => E0.out (by simpa [mkd] using h), fun h => E1.out (by simpa [mkd] using h), fun h => E2.out (by simpa [mkd] using h), fun h => E3.out (by simpa [mkd] using h), fun h => E4.out (by simpa [mkd] using h), fun _ => rfl, fun h => E6.out (by simpa [mkd] using h), fun h => E7.out (by simpa [mkd] using h), fun h => E8.out (by simpa [mkd] using h), fun h => E9.out (by simpa [mkd] using h), fun h => E10.out (by simpa [mkd] using h), fun h => E11.out (by simpa [mkd] using h), fun h => E12.out (by simpa [mkd] using h), fun h => E13.out (by simpa [mkd] using h), fun h => E14.out (by simpa [mkd] using h), fun h => E16.out (by simpa [mkd] using h)⟩
              · obtain ⟨-, f0, f1, -, -⟩ := DX8.out.below HT.out.bl DX8.out.lt
                go_wp2
                unfold RcI18
                exact ⟨v104, v105, v106, v107, v108, v109, (.agg #[.int .i64 x, .int .i64 y]), v111, v112, v113, v114, v103, v115, v116, v29, v30, g, by simp only [Act.put, List.setIfInBounds_toArray, List.set_cons_zero, List.set_cons_succ], HT.out.mark 6 (by decide), fun h => E0.out (by simpa [mkd] using h), fun h => E1.out (by simpa [mkd] using h), fun h => E2.out (by simpa [mkd] using h), fun h => E3.out (by simpa [mkd] using h), fun h => E4.out (by simpa [mkd] using h), fun h => E5.out (by simpa [mkd] using h), fun _ => rfl, fun h => E7.out (by simpa [mkd] using h), fun h => E8.out (by simpa [mkd] using h), fun h => E9.out (by simpa [mkd] using h), fun h => E10.out (by simpa [mkd] using h), fun h => E11.out (by simpa [mkd] using h), fun h => E12.out (by simpa [mkd] using h), fun h => E13.out (by simpa [mkd] using h), fun h => E14.out (by simpa [mkd] using h), fun h => E16.out (by simpa [mkd] using h)⟩
              · go_wp2
                unfold RcI18
                exact ⟨v104, v105, v106, v107, v108, v109, v110, (.int .u32 km), v112, v113, v114, v103, v115, v116, v29, v30, g, by simp only [Act.put, List.setIfInBounds_toArray, List.set_cons_zero, List.set_cons_succ], HT.out.mark 7 (by decide), fun h => E0.out (by simpa [mkd] using h), fun h => E1.out (by simpa [mkd] using h), fun h => E2.out (by simpa [mkd] using h), fun h => E3.out (by simpa [mkd] using h), fun h => E4.out (by simpa [mkd] using h), fun h => E5.out (by simpa [mkd] using h), fun h => E6.out (by simpa [mkd] using h), fun _ => rfl, fun h => E8.out (by simpa [mkd] using h), fun h => E9.out (by simpa [mkd] using h), fun h => E10.out (by simpa [mkd] using h), fun h => E11.out (by simpa [mkd] using h), fun h => E12.out (by simpa [mkd] using h), fun h => E13.out (by simpa [mkd] using h), fun h => E14.out (by simpa [mkd] using h), fun h => E16.out (by simpa [mkd] using h)⟩
              · obtain rfl := E5.out (by simp [haf])
                obtain rfl := E6.out (by simp [haf])
                obtain rfl := E7.out (by simp [haf])
                go_wp2_with fail
                (with_reducible refine (KS3.out _).mono ?_)
                rintro e w9 ⟨rfl, hb9⟩
                go_wp2
                unfold RcI18
                exact ⟨v104, v105, v106, v107, v108, (.func (.func 10) #[] #[]), (.agg #[.int .i64 x, .int .i64 y]), (.int .u32 km), (.int .i64 u), v113, v114, v103, v115, v116, v29, v30, g, by simp only [Act.put, List.setIfInBounds_toArray, List.set_cons_zero, List.set_cons_succ], (HT.out.call hb9).mark 8 (by decide), fun h => E0.out (by simpa [mkd] using h), fun h => E1.out (by simpa [mkd] using h), fun h => E2.out (by simpa [mkd] using h), fun h => E3.out (by simpa [mkd] using h), fun h => E4.out (by simpa [mkd] using h), fun _ => rfl, fun _ => rfl, fun _ => rfl, fun _ => rfl, fun h => E9.out (by simpa [mkd] using h), fun h => E10.out (by simpa [mkd] using h), fun h => E11.out (by simpa [mkd] using h), fun h => E12.out (by simpa [mkd] using h), fun h => E13.out (by simpa [mkd] using h), fun h => E14.out (by simpa [mkd] using h), fun h => E16.out (by simpa [mkd] using h)⟩
              · obtain rfl := E8.out (by simp [haf])
                go_wp2_with fail
                (with_reducible refine (KPT.out _ _).mono ?_)
                rintro e w9 ⟨rfl, hb9⟩
                go_wp2
                unfold RcI18
                exact ⟨v104, v105, v106, v107, v108, v109, v110, v111, (.int .i64 u), (.agg #[.int .i64 u, .int .i64 u]), v114, v103, v115, v116, v29, v30, g, by simp only [Act.put, List.setIfInBounds_toArray, List.set_cons_zero, List.set_cons_succ], (HT.out.call hb9).mark 9 (by decide), fun h => E0.out (by simpa [mkd] using h), fun h => E1.out (by simpa [mkd] using h), fun h => E2.out (by simpa [mkd] using h), fun h => E3.out (by simpa [mkd] using h), fun h => E4.out (by simpa [mkd] using h), fun h => E5.out (by simpa [mkd] using h), fun h => E6.out (by simpa [mkd] using h), fun h => E7.out (by simpa [mkd] using h), fun _ => rfl, fun _ => rfl, fun h => E10.out (by simpa [mkd] using h), fun h => E11.out (by simpa [mkd] using h), fun h => E12.out (by simpa [mkd] using h), fun h => E13.out (by simpa [mkd] using h), fun h => E14.out (by simpa [mkd] using h), fun h => E16.out (by simpa [mkd] using h)⟩
              · obtain rfl := E4.out (by simp [haf])
                obtain rfl := E9.out (by simp [haf])
                go_wp2_with fail
                (with_reducible refine (KDL.out _).mono ?_)
                rintro e w9 ⟨rfl, hb9⟩
                go_wp2
                unfold RcI18
                exact ⟨v104, v105, v106, v107, (.agg #[.int .i64 t, .int .i64 t]), v109, v110, v111, v112, (.agg #[.int .i64 u, .int .i64 u]), (.tuple #[.agg #[.int .i64 d0, .int .i64 d1], .int .i64 f]), v103, v115, v116, v29, v30, g, by simp only [Act.put, List.setIfInBounds_toArray, List.set_cons_zero, List.set_cons_succ], (HT.out.call hb9).mark 10 (by decide), fun h => E0.out (by simpa [mkd] using h), fun h => E1.out (by simpa [mkd] using h), fun h => E2.out (by simpa [mkd] using h), fun h => E3.out (by simpa [mkd] using h), fun _ => rfl, fun h => E5.out (by simpa [mkd] using h), fun h => E6.out (by simpa [mkd] using h), fun h => E7.out (by simpa [mkd] using h), fun h => E8.out (by simpa [mkd] using h), fun _ => rfl, fun _ => rfl, fun h => E11.out (by simpa [mkd] using h), fun h => E12.out (by simpa [mkd] using h), fun h => E13.out (by simpa [mkd] using h), fun h => E14.out (by simpa [mkd] using h), fun h => E16.out (by simpa [mkd] using h)⟩
              · obtain rfl := E10.out (by simp [haf])
                go_wp2
                unfold RcI18
                exact ⟨v104, v105, v106, v107, v108, v109, v110, v111, v112, v113, (.tuple #[.agg #[.int .i64 d0, .int .i64 d1], .int .i64 f]), (.tuple #[.agg #[.int .i64 d0, .int .i64 d1], .int .i64 f]), v115, v116, v29, v30, g, by simp only [Act.put, List.setIfInBounds_toArray, List.set_cons_zero, List.set_cons_succ], HT.out.mark 11 (by decide), fun h => E0.out (by simpa [mkd] using h), fun h => E1.out (by simpa [mkd] using h), fun h => E2.out (by simpa [mkd] using h), fun h => E3.out (by simpa [mkd] using h), fun h => E4.out (by simpa [mkd] using h), fun h => E5.out (by simpa [mkd] using h), fun h => E6.out (by simpa [mkd] using h), fun h => E7.out (by simpa [mkd] using h), fun h => E8.out (by simpa [mkd] using h), fun h => E9.out (by simpa [mkd] using h), fun _ => rfl, fun _ => rfl, fun h => E12.out (by simpa [mkd] using h), fun h => E13.out (by simpa [mkd] using h), fun h => E14.out (by simpa [mkd] using h), fun h => E16.out (by simpa [mkd] using h)⟩
              · obtain rfl := E11.out (by simp [haf])
                go_wp2
                unfold RcI18
                exact ⟨v104, v105, v106, v107, v108, v109, v110, v111, v112, v113, v114, (.tuple #[.agg #[.int .i64 d0, .int .i64 d1], .int .i64 f]), (.agg #[.int .i64 d0, .int .i64 d1]), v116, v29, v30, g, by simp only [Act.put, List.setIfInBounds_toArray, List.set_cons_zero, List.set_cons_succ], HT.out.mark 12 (by decide), fun h => E0.out (by simpa [mkd] using h), fun h => E1.out (by simpa [mkd] using h), fun h => E2.out (by simpa [mkd] using h), fun h => E3.out (by simpa [mkd] using h), fun h => E4.out (by simpa [mkd] using h), fun h => E5.out (by simpa [mkd] using h), fun h => E6.out (by simpa [mkd] using h), fun h => E7.out (by simpa [mkd] using h), fun h => E8.out (by simpa [mkd] using h), fun h => E9.out (by simpa [mkd] using h), fun h => E10.out (by simpa [mkd] using h), fun _ => rfl, fun _ => rfl, fun h => E13.out (by simpa [mkd] using h), fun h => E14.out (by simpa [mkd] using h), fun h => E16.out (by simpa [mkd] using h)⟩
              · obtain rfl := E11.out (by simp [haf])
                go_wp2
                unfold RcI18
                exact ⟨v104, v105, v106, v107, v108, v109, v110, v111, v112, v113, v114, (.tuple #[.agg #[.int .i64 d0, .int .i64 d1], .int .i64 f]), v115, (.int .i64 f), v29, v30, g, by simp only [Act.put, List.setIfInBounds_toArray, List.set_cons_zero, List.set_cons_succ], HT.out.mark 13 (by decide), fun h => E0.out (by simpa [mkd] using h), fun h => E1.out (by simpa [mkd] using h), fun h => E2.out (by simpa [mkd] using h), fun h => E3.out (by simpa [mkd] using h), fun h => E4.out (by simpa [mkd] using h), fun h => E5.out (by simpa [mkd] using h), fun h => E6.out (by simpa [mkd] using h), fun h => E7.out (by simpa [mkd] using h), fun h => E8.out (by simpa [mkd] using h), fun h => E9.out (by simpa [mkd] using h), fun h => E10.out (by simpa [mkd] using h), fun _ => rfl, fun h => E12.out (by simpa [mkd] using h), fun _ => rfl, fun h => E14.out (by simpa [mkd] using h), fun h => E16.out (by simpa [mkd] using h)⟩
              · go_wp2
                unfold RcI18
                exact ⟨v104, v105, v106, v107, v108, v109, v110, v111, v112, v113, v114, v103, v115, v116, (.pointer (some ⟨w'.heap.size, 0, none⟩)), v30, (fun j => if j = 0 then w'.heap.size else g j), by simp only [Act.put, List.setIfInBounds_toArray, List.set_cons_zero, List.set_cons_succ], HT.out.al 0 (by decide) (by decide) hL _, fun h => E0.out (by simpa [mkd] using h), fun h => E1.out (by simpa [mkd] using h), fun h => E2.out (by simpa [mkd] using h), fun h => E3.out (by simpa [mkd] using h), fun h => E4.out (by simpa [mkd] using h), fun h => E5.out (by simpa [mkd] using h), fun h => E6.out (by simpa [mkd] using h), fun h => E7.out (by simpa [mkd] using h), fun h => E8.out (by simpa [mkd] using h), fun h => E9.out (by simpa [mkd] using h), fun h => E10.out (by simpa [mkd] using h), fun h => E11.out (by simpa [mkd] using h), fun h => E12.out (by simpa [mkd] using h), fun h => E13.out (by simpa [mkd] using h), fun _ => rfl, fun h => E16.out (by simpa [mkd] using h)⟩
              · obtain rfl := E14.out (by simp [haf])
                obtain rfl := E12.out (by simp [haf])
                have hA : L 14 = true := by simp [haf]
                obtain ⟨zt, z0, z1, zf0, zf1⟩ := HT.out.z 0 (by decide) hA hL
                have HS := Lib.hid (HT.out.st 0 (by decide) (by decide) hA hL rfl)
                go_wp2
                unfold RcI18
                exact ⟨v104, v105, v106, v107, v108, v109, v110, v111, v112, v113, v114, v103, (.agg #[.int .i64 d0, .int .i64 d1]), v116, (.pointer (some ⟨g 0, 0, none⟩)), v30, g, by simp only [Act.put, List.setIfInBounds_toArray, List.set_cons_zero, List.set_cons_succ], HS.out, fun h => E0.out (by simpa [mkd] using h), fun h => E1.out (by simpa [mkd] using h), fun h => E2.out (by simpa [mkd] using h), fun h => E3.out (by simpa [mkd] using h), fun h => E4.out (by simpa [mkd] using h), fun h => E5.out (by simpa [mkd] using h), fun h => E6.out (by simpa [mkd] using h), fun h => E7.out (by simpa [mkd] using h), fun h => E8.out (by simpa [mkd] using h), fun h => E9.out (by simpa [mkd] using h), fun h => E10.out (by simpa [mkd] using h), fun h => E11.out (by simpa [mkd] using h), fun _ => rfl, fun h => E13.out (by simpa [mkd] using h), fun _ => rfl, fun h => E16.out (by simpa [mkd] using h)⟩
              · obtain rfl := E13.out (by simp [haf])
                go_wp2
                unfold RcI18
                exact ⟨v104, v105, v106, v107, v108, v109, v110, v111, v112, v113, v114, v103, v115, (.int .i64 f), v29, (.int .i64 f), g, by simp only [Act.put, List.setIfInBounds_toArray, List.set_cons_zero, List.set_cons_succ], HT.out.mark 16 (by decide), fun h => E0.out (by simpa [mkd] using h), fun h => E1.out (by simpa [mkd] using h), fun h => E2.out (by simpa [mkd] using h), fun h => E3.out (by simpa [mkd] using h), fun h => E4.out (by simpa [mkd] using h), fun h => E5.out (by simpa [mkd] using h), fun h => E6.out (by simpa [mkd] using h), fun h => E7.out (by simpa [mkd] using h), fun h => E8.out (by simpa [mkd] using h), fun h => E9.out (by simpa [mkd] using h), fun h => E10.out (by simpa [mkd] using h), fun h => E11.out (by simpa [mkd] using h), fun h => E12.out (by simpa [mkd] using h), fun _ => rfl, fun h => E14.out (by simpa [mkd] using h), fun _ => rfl⟩
            case fin =>
              rintro L a1' w9 hall ⟨v104, v105, v106, v107, v108, v109, v110, v111, v112, v113, v114, v103, v115, v116, v29, v30, g, rfl, hT, e0, e1, e2, e3, e4, e5, e6, e7, e8, e9, e10, e11, e12, e13, e14, e16⟩
              obtain rfl := e0 (hall 0 (by decide))
              obtain rfl := e1 (hall 1 (by decide))
              obtain rfl := e2 (hall 2 (by decide))
              obtain rfl := e3 (hall 3 (by decide))
              obtain rfl := e4 (hall 4 (by decide))
              obtain rfl := e5 (hall 5 (by decide))
              obtain rfl := e6 (hall 6 (by decide))
              obtain rfl := e7 (hall 7 (by decide))
              obtain rfl := e8 (hall 8 (by decide))
              obtain rfl := e9 (hall 9 (by decide))
              obtain rfl := e10 (hall 10 (by decide))
              obtain rfl := e11 (hall 11 (by decide))
              obtain rfl := e12 (hall 12 (by decide))
              obtain rfl := e13 (hall 13 (by decide))
              obtain rfl := e14 (hall 14 (by decide))
              obtain rfl := e16 (hall 16 (by decide))
              have DD9 : Hid (D2 w9 (g 0) d0 d1) := Lib.hid (hT.k 0 (by decide) (hall 15 (by decide)))
              have hne9 : g 0 ≠ g27 := by
                have h1 := hT.lo 0 (by decide) (hall 14 (by decide))
                have h2 := DQ8.out.lt
                omega
              have DP9 := Lib.hid (DP8.out.below hT.bl DP8.out.lt)
              have DQ9 := Lib.hid (DQ8.out.below hT.bl DQ8.out.lt)
              have B9 := Lib.hid (B8.out.trans (hT.bl.mono B8.out.size))
              have h68 := DQ8.out.lt
              have RM9 := Lib.hid (fun (W : World) (hW : Below w6.heap.size w9 W) => RM8.out W ((hT.bl.mono (by omega)).trans hW))
              have hs9 := hT.bl.size
              clear hT hall B8 DP8 DX8 DQ8 DY8 KS2 KS3 KDL RM8
              generalize g 0 = g29 at *
              clear g
              obtain ⟨-, f0, f1, -, -⟩ := DQ9.out
              obtain ⟨-, f2, f3, -, -⟩ := DP9.out
              by_cases hf : f ≠ 0
              · have k3 : (f != (0 : Int)) = true := by simpa using hf
                clear hf HD0
                go_wp2
                go_ret
                exact ⟨rfl, B9.out⟩
              obtain rfl : f = 0 := by omega
              clear hf
              by_cases g1 : q0 ≤ -5400000
              · have k3 : decide (q0 ≤ -5400000) = true := decide_eq_true g1
                clear g1
                go_wp2
                go_ret
                exact ⟨rfl, B9.out⟩
              have k3 : decide (q0 ≤ -5400000) = false := decide_eq_false g1
              by_cases g2 : 5400000 ≤ q0
              · have k4 : decide (5400000 ≤ q0) = true := decide_eq_true g2
                clear g1 g2
                go_wp2
                go_ret
                exact ⟨rfl, B9.out⟩
              have k4 : decide (5400000 ≤ q0) = false := decide_eq_false g2
              by_cases g3 : p0 = 5400000
              · have k5 : (p0 == (5400000 : Int)) = true := by simpa using g3
                clear g1 g2 g3
                go_wp2
                go_ret
                exact ⟨rfl, B9.out⟩
              have k5 : (p0 == (5400000 : Int)) = false := by simpa using g3
              by_cases g4 : p0 = -5400000
              · have k6 : (p0 == (-5400000 : Int)) = true := by simpa using g4
                clear g1 g2 g3 g4
                go_wp2
                go_ret
                exact ⟨rfl, B9.out⟩
              have k6 : (p0 == (-5400000 : Int)) = false := by simpa using g4
              obtain ⟨z1, z2, z3, z4, z5⟩ := HD0.out rfl
              have KS4 := Lib.hid (fun W => someC_any d0 d1 kn W (by omega) z3 (by omega) v0 v1)
              have hDb := sLo_bd kn z3
              obtain ⟨D, eD⟩ : ∃ v, sLo d0 d1 kn = v := ⟨_, rfl⟩
              rw [eD] at hDb KS4
              have hPV := HPV.out
              obtain ⟨z, ez⟩ : ∃ v, p1 + D = v := ⟨_, rfl⟩
              have ewz : wrap64 (p1 + D) = z := by rw [IntWalk.wrap64_in _ (by omega)]; exact ez
              have ewz2 : wrap64 z = z := IntWalk.wrap64_in _ (by omega)
              have KLO := fun W => rLongitudes_any z z W (by omega) (by omega) (by omega) (by omega)
              obtain ⟨rr1, rr2⟩ := reach_con ((vrB_iff LC).1 HV.out).2.1 HA.out.2.1 V0.out V16.out R1.out HCON.out g3 g4 HMB.out.1 HMB.out.2 (t := t) (n := u) (D := D) (by have := HTB.out; have := HY0.out; have := HQ0.out; omega) (by have := HTB.out; have := HY1.out; have := HQ0.out; omega) HUB.out.1 HUB.out.2 (by omega) (by omega)
              rw [HQ0.out, ez] at rr1 rr2
              rw [lonA_one] at KLO
              obtain ⟨q1, eq1⟩ : ∃ v, sgT z = v := ⟨_, rfl⟩
              rw [eq1] at rr1 rr2 KLO
              rw [← HML.out] at rr2
              have KLO := Lib.hid KLO
              have KC2 := fun (W : World) (hW : Below w6.heap.size w9 W) => Contains_any A6 ML.length c6 ML q0 q1 W (RM9.out W hW) HM6.out HVM.out rr1
              rw [rr2] at KC2
              have KC2 := Lib.hid KC2
              clear g1 g2 g3 g4 z1 z2 z3 z4 z5 hDb eD hPV ez rr1 rr2 eq1
              go_upto_region 21 with (fail)
              clear f0 f1 f2 f3
              refine wp_region_inv3 (by kernel_rfl) (RcI21 g27 q0 q1 w9 (.pointer (some ⟨w.heap.size, 1, none⟩)) (.int .i64 p1) (.func (.func 10) #[] #[]) (.agg #[.int .i64 d0, .int .i64 d1]) (.int .u32 kn) (.int .i64 D) (.int .i64 z) (.pointer (some ⟨w.heap.size, 1, none⟩)) (.int .i64 p1) (.func (.func 10) #[] #[]) (.agg #[.int .i64 d0, .int .i64 d1]) (.int .u32 kn) (.int .i64 D) (.int .i64 z) (.agg #[.int .i64 z, .int .i64 z]) (.agg #[.int .i64 q1, .int .i64 (lonB z z)]) (.int .i64 q1) (.pointer (some ⟨g27, 1, none⟩))) (waits_bind (by kernel_rfl)) ?start ?step ?fin
              case start => exact RcI21.start _ DQ9.out
              case step =>
                rintro M i o a1' w' ho hL haf ⟨v139, v140, v141, v142, v143, v144, v145, v146, v147, v148, v149, v150, v151, v152, v153, v154, v155, v156, rfl, hT, eF, eW, e0, e1, e2, e3, e4, e5, e6, e7, e8, e9, e10, e11, e12, e13, e14, e15, e16, e17⟩
                have HT := Lib.hid hT
                have EF := Lib.hid eF
                have EW := Lib.hid eW
                have E0 := Lib.hid e0
                have E1 := Lib.hid e1
                have E2 := Lib.hid e2
                have E3 := Lib.hid e3
                have E4 := Lib.hid e4
                have E5 := Lib.hid e5
                have E6 := Lib.hid e6
                have E7 := Lib.hid e7
                have E8 := Lib.hid e8
                have E9 := Lib.hid e9
                have E10 := Lib.hid e10
                have E11 := Lib.hid e11
                have E12 := Lib.hid e12
                have E13 := Lib.hid e13
                have E14 := Lib.hid e14
                have E15 := Lib.hid e15
                have E16 := Lib.hid e16
                have E17 := Lib.hid e17
                clear hT eF eW e0 e1 e2 e3 e4 e5 e6 e7 e8 e9 e10 e11 e12 e13 e14 e15 e16 e17
                rcases i with _ | _ | _ | _ | _ | _ | _ | _ | _ | _ | _ | _ | _ | _ | _ | _ | _ | _ | _ | i
                all_goals (simp at ho; try subst ho)
                all_goals (try simp [Region.binds] at haf)
                · go_wp2
                  unfold RcI21
                  exact ⟨(.pointer (some ⟨w.heap.size, 1, none⟩)), v140, v141, v142, v143, v144, v145, v146, v147, v148, v149, v150, v151, v152, v153, v154, v155, v156, by simp only [Act.put, List.setIfInBounds_toArray, List.set_cons_zero, List.set_cons_succ], HT.out, fun h => EF.out (by simpa [mkd] using h), fun h => EW.out (by simpa [mkd] using h), fun _ => rfl, fun h => E1.out (by simpa [mkd] using h), fun h => E2.out (by simpa [mkd] using h), fun h => E3.out (by simpa [mkd] using h), fun h => E4.out (by simpa [mkd] using h), fun h => E5.out (by simpa [mkd] using h), fun h => E6.out (by simpa [mkd] using h), fun h => E7.out (by simpa [mkd] using h), fun h => E8.out (by simpa [mkd] using h), fun h => E9.out (by simpa [mkd] using h), fun h => E10.out (by simpa [mkd] using h), fun h => E11.out (by simpa [mkd] using h), fun h => E12.out (by simpa [mkd] using h), fun h => E13.out (by simpa [mkd] using h), fun h => E14.out (by simpa [mkd] using h), fun h => E15.out (by simpa [mkd] using h), fun h => E16.out (by simpa [mkd] using h), fun h => E17.out (by simpa [mkd] using h)⟩
                · obtain rfl := (E0.out (by simp [haf])).symm
                  obtain ⟨-, f0, f1, -, -⟩ := DP9.out.xk HT.out (by omega)
                  go_wp2
                  unfold RcI21
                  exact ⟨(.pointer (some ⟨w.heap.size, 1, none⟩)), (.int .i64 p1), v141, v142, v143, v144, v145, v146, v147, v148, v149, v150, v151, v152, v153, v154, v155, v156, by simp only [Act.put, List.setIfInBounds_toArray, List.set_cons_zero, List.set_cons_succ], HT.out, fun h => EF.out (by simpa [mkd] using h), fun h => EW.out (by simpa [mkd] using h), fun _ => rfl, fun _ => rfl, fun h => E2.out (by simpa [mkd] using h), fun h => E3.out (by simpa [mkd] using h), fun h => E4.out (by simpa [mkd] using h), fun h => E5.out (by simpa [mkd] using h), fun h => E6.out (by simpa [mkd] using h), fun h => E7.out (by simpa [mkd] using h), fun h => E8.out (by simpa [mkd] using h), fun h => E9.out (by simpa [mkd] using h), fun h => E10.out (by simpa [mkd] using h), fun h => E11.out (by simpa [mkd] using h), fun h => E12.out (by simpa [mkd] using h), fun h => E13.out (by simpa [mkd] using h), fun h => E14.out (by simpa [mkd] using h), fun h => E15.out (by simpa [mkd] using h), fun h => E16.out (by simpa [mkd] using h), fun h => E17.out (by simpa [mkd] using h)⟩
                · go_wp2
                  unfold RcI21
                  exact ⟨v139, v140, (.func (.func 10) #[] #[]), v142, v143, v144, v145, v146, v147, v148, v149, v150, v151, v152, v153, v154, v155, v156, by simp only [Act.put, List.setIfInBounds_toArray, List.set_cons_zero, List.set_cons_succ], HT.out, fun h => EF.out (by simpa [mkd] using h), fun h => EW.out (by simpa [mkd] using h), fun h => E0.out (by simpa [mkd] using h), fun h => E1.out (by simpa [mkd] using h), fun _ => rfl, fun h => E3.out (by simpa [mkd] using h), fun h => E4.out (by simpa [mkd] using h), fun h => E5.out (by simpa [mkd] using h), fun h => E6.out (by simpa [mkd] using h), fun h => E7.out (by simpa [mkd] using h), fun h => E8.out (by simpa [mkd] using h), fun h => E9.out (by simpa [mkd] using h), fun h => E10.out (by simpa [mkd] using h), fun h => E11.out (by simpa [mkd] using h), fun h => E12.out (by simpa [mkd] using h), fun h => E13.out (by simpa [mkd] using h), fun h => E14.out (by simpa [mkd] using h), fun h => E15.out (by simpa [mkd] using h), fun h => E16.out (by simpa [mkd] using h), fun h => E17.out (by simpa [mkd] using h)⟩
                · obtain ⟨-, f0, f1, -, -⟩ := DD9.out.xk HT.out hne9
                  go_wp2
                  unfold RcI21
                  exact ⟨v139, v140, v141, (.agg #[.int .i64 d0, .int .i64 d1]), v143, v144, v145, v146, v147, v148, v149, v150, v151, v152, v153, v154, v155, v156, by simp only [Act.put, List.setIfInBounds_toArray, List.set_cons_zero, List.set_cons_succ], HT.out, fun h => EF.out (by simpa [mkd] using h), fun h => EW.out (by simpa [mkd] using h), fun h => E0.out (by simpa [mkd] using h), fun h => E1.out (by simpa [mkd] using h), fun h => E2.out (by simpa [mkd] using h), fun _ => rfl, fun h => E4.out (by simpa [mkd] using h), fun h => E5.out (by simpa [mkd] using h), fun h => E6.out (by simpa [mkd] using h), fun h => E7.out (by simpa [mkd] using h), fun h => E8.out (by simpa [mkd] using h), fun h => E9.out (by simpa [mkd] using h), fun h => E10.out (by simpa [mkd] using h), fun h => E11.out (by simpa [mkd] using h), fun h => E12.out (by simpa [mkd] using h), fun h => E13.out (by simpa [mkd] using h), fun h => E14.out (by simpa [mkd] using h), fun h => E15.out (by simpa [mkd] using h), fun h => E16.out (by simpa [mkd] using h), fun h => E17.out (by simpa [mkd] using h)⟩
                · go_wp2
                  unfold RcI21
                  exact ⟨v139, v140, v141, v142, (.int .u32 kn), v144, v145, v146, v147, v148, v149, v150, v151, v152, v153, v154, v155, v156, by simp only [Act.put, List.setIfInBounds_toArray, List.set_cons_zero, List.set_cons_succ], HT.out, fun h => EF.out (by simpa [mkd] using h), fun h => EW.out (by simpa [mkd] using h), fun h => E0.out (by simpa [mkd] using h), fun h => E1.out (by simpa [mkd] using h), fun h => E2.out (by simpa [mkd] using h), fun h => E3.out (by simpa [mkd] using h), fun _ => rfl, fun h => E5.out (by simpa [mkd] using h), fun h => E6.out (by simpa [mkd] using h), fun h => E7.out (by simpa [mkd] using h), fun h => E8.out (by simpa [mkd] using h), fun h => E9.out (by simpa [mkd] using h), fun h => E10.out (by simpa [mkd] using h), fun h => E11.out (by simpa [mkd] using h), fun h => E12.out (by simpa [mkd] using h), fun h => E13.out (by simpa [mkd] using h), fun h => E14.out (by simpa [mkd] using h), fun h => E15.out (by simpa [mkd] using h), fun h => E16.out (by simpa [mkd] using h), fun h => E17.out (by simpa [mkd] using h)⟩
                · obtain rfl := (E2.out (by simp [haf])).symm
                  obtain rfl := (E3.out (by simp [haf])).symm
                  obtain rfl := (E4.out (by simp [haf])).symm
                  go_wp2_with fail
                  (with_reducible refine (KS4.out _).mono ?_)
                  rintro e w9 ⟨rfl, hb9⟩
                  go_wp2
                  unfold RcI21
                  exact ⟨v139, v140, (.func (.func 10) #[] #[]), (.agg #[.int .i64 d0, .int .i64 d1]), (.int .u32 kn), (.int .i64 D), v145, v146, v147, v148, v149, v150, v151, v152, v153, v154, v155, v156, by simp only [Act.put, List.setIfInBounds_toArray, List.set_cons_zero, List.set_cons_succ], HT.out.call hb9, fun h => (EF.out (by simpa [mkd] using h)).below hb9 (EF.out (by simpa [mkd] using h)).lt, fun h => (EW.out (by simpa [mkd] using h)).below hb9 (EW.out (by simpa [mkd] using h)).lt, fun h => E0.out (by simpa [mkd] using h), fun h => E1.out (by simpa [mkd] using h), fun _ => rfl, fun _ => rfl, fun _ => rfl, fun _ => rfl, fun h => E6.out (by simpa [mkd] using h), fun h => E7.out (by simpa [mkd] using h), fun h => E8.out (by simpa [mkd] using h), fun h => E9.out (by simpa [mkd] using h), fun h => E10.out (by simpa [mkd] using h), fun h => E11.out (by simpa [mkd] using h), fun h => E12.out (by simpa [mkd] using h), fun h => E13.out (by simpa [mkd] using h), fun h => E14.out (by simpa [mkd] using h), fun h => E15.out (by simpa [mkd] using h), fun h => E16.out (by simpa [mkd] using h), fun h => E17.out (by simpa [mkd] using h)⟩
                · obtain rfl := (E1.out (by simp [haf])).symm
                  obtain rfl := (E5.out (by simp [haf])).symm
                  go_wp2
                  unfold RcI21
                  exact ⟨v139, (.int .i64 p1), v141, v142, v143, (.int .i64 D), (.int .i64 z), v146, v147, v148, v149, v150, v151, v152, v153, v154, v155, v156, by simp only [Act.put, List.setIfInBounds_toArray, List.set_cons_zero, List.set_cons_succ], HT.out, fun h => EF.out (by simpa [mkd] using h), fun h => EW.out (by simpa [mkd] using h), fun h => E0.out (by simpa [mkd] using h), fun _ => rfl, fun h => E2.out (by simpa [mkd] using h), fun h => E3.out (by simpa [mkd] using h), fun h => E4.out (by simpa [mkd] using h), fun _ => rfl, fun _ => rfl, fun h => E7.out (by simpa [mkd] using h), fun h => E8.out (by simpa [mkd] using h), fun h => E9.out (by simpa [mkd] using h), fun h => E10.out (by simpa [mkd] using h), fun h => E11.out (by simpa [mkd] using h), fun h => E12.out (by simpa [mkd] using h), fun h => E13.out (by simpa [mkd] using h), fun h => E14.out (by simpa [mkd] using h), fun h => E15.out (by simpa [mkd] using h), fun h => E16.out (by simpa [mkd] using h), fun h => E17.out (by simpa [mkd] using h)⟩
                · go_wp2
                  unfold RcI21
                  exact ⟨v139, v140, v141, v142, v143, v144, v145, (.pointer (some ⟨w.heap.size, 1, none⟩)), v147, v148, v149, v150, v151, v152, v153, v154, v155, v156, by simp only [Act.put, List.setIfInBounds_toArray, List.set_cons_zero, List.set_cons_succ], HT.out, fun h => EF.out (by simpa [mkd] using h), fun h => EW.out (by simpa [mkd] using h), fun h => E0.out (by simpa [mkd] using h), fun h => E1.out (by simpa [mkd] using h), fun h => E2.out (by simpa [mkd] using h), fun h => E3.out (by simpa [mkd] using h), fun h => E4.out (by simpa [mkd] using h), fun h => E5.out (by simpa [mkd] using h), fun h => E6.out (by simpa [mkd] using h), fun _ => rfl, fun h => E8.out (by simpa [mkd] using h), fun h => E9.out (by simpa [mkd] using h), fun h => E10.out (by simpa [mkd] using h), fun h => E11.out (by simpa [mkd] using h), fun h => E12.out (by simpa [mkd] using h), fun h => E13.out (by simpa [mkd] using h), fun h => E14.out (by simpa [mkd] using h), fun h => E15.out (by simpa [mkd] using h), fun h => E16.out (by simpa [mkd] using h), fun h => E17.out (by simpa [mkd] using h)⟩
                · obtain rfl := (E7.out (by simp [haf])).symm
                  obtain ⟨-, f0, f1, -, -⟩ := DP9.out.xk HT.out (by omega)
                  go_wp2
                  unfold RcI21
                  exact ⟨v139, v140, v141, v142, v143, v144, v145, (.pointer (some ⟨w.heap.size, 1, none⟩)), (.int .i64 p1), v148, v149, v150, v151, v152, v153, v154, v155, v156, by simp only [Act.put, List.setIfInBounds_toArray, List.set_cons_zero, List.set_cons_succ], HT.out, fun h => EF.out (by simpa [mkd] using h), fun h => EW.out (by simpa [mkd] using h), fun h => E0.out (by simpa [mkd] using h), fun h => E1.out (by simpa [mkd] using h), fun h => E2.out (by simpa [mkd] using h), fun h => E3.out (by simpa [mkd] using h), fun h => E4.out (by simpa [mkd] using h), fun h => E5.out (by simpa [mkd] using h), fun h => E6.out (by simpa [mkd] using h), fun _ => rfl, fun _ => rfl, fun h => E9.out (by simpa [mkd] using h), fun h => E10.out (by simpa [mkd] using h), fun h => E11.out (by simpa [mkd] using h), fun h => E12.out (by simpa [mkd] using h), fun h => E13.out (by simpa [mkd] using h), fun h => E14.out (by simpa [mkd] using h), fun h => E15.out (by simpa [mkd] using h), fun h => E16.out (by simpa [mkd] using h), fun h => E17.out (by simpa [mkd] using h)⟩
                · go_wp2
                  unfold RcI21
                  exact ⟨v139, v140, v141, v142, v143, v144, v145, v146, v147, (.func (.func 10) #[] #[]), v149, v150, v151, v152, v153, v154, v155, v156, by simp only [Act.put, List.setIfInBounds_toArray, List.set_cons_zero, List.set_cons_succ], HT.out, fun h => EF.out (by simpa [mkd] using h), fun h => EW.out (by simpa [mkd] using h), fun h => E0.out (by simpa [mkd] using h), fun h => E1.out (by simpa [mkd] using h), fun h => E2.out (by simpa [mkd] using h), fun h => E3.out (by simpa [mkd] using h), fun h => E4.out (by simpa [mkd] using h), fun h => E5.out (by simpa [mkd] using h), fun h => E6.out (by simpa [mkd] using h), fun h => E7.out (by simpa [mkd] using h), fun h => E8.out (by simpa [mkd] using h), fun _ => rfl, fun h => E10.out (by simpa [mkd] using h), fun h => E11.out (by simpa [mkd] using h), fun h => E12.out (by simpa [mkd] using h), fun h => E13.out (by simpa [mkd] using h), fun h => E14.out (by simpa [mkd] using h), fun h => E15.out (by simpa [mkd] using h), fun h => E16.out (by simpa [mkd] using h), fun h => E17.out (by simpa [mkd] using h)⟩
                · obtain ⟨-, f0, f1, -, -⟩ := DD9.out.xk HT.out hne9
                  go_wp2
                  unfold RcI21
                  exact ⟨v139, v140, v141, v142, v143, v144, v145, v146, v147, v148, (.agg #[.int .i64 d0, .int .i64 d1]), v150, v151, v152, v153, v154, v155, v156, by simp only [Act.put, List.setIfInBounds_toArray, List.set_cons_zero, List.set_cons_succ], HT.out, fun h => EF.out (by simpa [mkd] using h), fun h => EW.out (by simpa [mkd] using h), fun h => E0.out (by simpa [mkd] using h), fun h => E1.out (by simpa [mkd] using h), fun h => E2.out (by simpa [mkd] using h), fun h => E3.out (by simpa [mkd] using h), fun h => E4.out (by simpa [mkd] using h), fun h => E5.out (by simpa [mkd] using h), fun h => E6.out (by simpa [mkd] using h), fun h => E7.out (by simpa [mkd] using h), fun h => E8.out (by simpa [mkd] using h), fun h => E9.out (by simpa [mkd] using h), fun _ => rfl, fun h => E11.out (by simpa [mkd] using h), fun h => E12.out (by simpa [mkd] using h), fun h => E13.out (by simpa [mkd] using h), fun h => E14.out (by simpa [mkd] using h), fun h => E15.out (by simpa [mkd] using h), fun h => E16.out (by simpa [mkd] using h), fun h => E17.out (by simpa [mkd] using h)⟩
                · go_wp2
                  unfold RcI21
                  exact ⟨v139, v140, v141, v142, v143, v144, v145, v146, v147, v148, v149, (.int .u32 kn), v151, v152, v153, v154, v155, v156, by simp only [Act.put, List.setIfInBounds_toArray, List.set_cons_zero, List.set_cons_succ], HT.out, fun h => EF.out (by simpa [mkd] using h), fun h => EW.out (by simpa [mkd] using h), fun h => E0.out (by simpa [mkd] using h), fun h => E1.out (by simpa [mkd] using h), fun h => E2.out (by simpa [mkd] using h), fun h => E3.out (by simpa [mkd] using h), fun h => E4.out (by simpa [mkd] using h), fun h => E5.out (by simpa [mkd] using h), fun h => E6.out (by simpa [mkd] using h), fun h => E7.out (by simpa [mkd] using h), fun h => E8.out (by simpa [mkd] using h), fun h => E9.out (by simpa [mkd] using h), fun h => E10.out (by simpa [mkd] using h), fun _ => rfl, fun h => E12.out (by simpa [mkd] using h), fun h => E13.out (by simpa [mkd] using h), fun h => E14.out (by simpa [mkd] using h), fun h => E15.out (by simpa [mkd] using h), fun h => E16.out (by simpa [mkd] using h), fun h => E17.out (by simpa [mkd] using h)⟩
                · obtain rfl := (E9.out (by simp [haf])).symm
                  obtain rfl := (E10.out (by simp [haf])).symm
                  obtain rfl := (E11.out (by simp [haf])).symm
                  go_wp2_with fail
                  (with_reducible refine (KS4.out _).mono ?_)
                  rintro e w9 ⟨rfl, hb9⟩
                  go_wp2
                  unfold RcI21
                  exact ⟨v139, v140, v141, v142, v143, v144, v145, v146, v147, (.func (.func 10) #[] #[]), (.agg #[.int .i64 d0, .int .i64 d1]), (.int .u32 kn), (.int .i64 D), v152, v153, v154, v155, v156, by simp only [Act.put, List.setIfInBounds_toArray, List.set_cons_zero, List.set_cons_succ], HT.out.call hb9, fun h => (EF.out (by simpa [mkd] using h)).below hb9 (EF.out (by simpa [mkd] using h)).lt, fun h => (EW.out (by simpa [mkd] using h)).below hb9 (EW.out (by simpa [mkd] using h)).lt, fun h => E0.out (by simpa [mkd] using h), fun h => E1.out (by simpa [mkd] using h), fun h => E2.out (by simpa [mkd] using h), fun h => E3.out (by simpa [mkd] using h), fun h => E4.out (by simpa [mkd] using h), fun h => E5.out (by simpa [mkd] using h), fun h => E6.out (by simpa [mkd] using h), fun h => E7.out (by simpa [mkd] using h), fun h => E8.out (by simpa [mkd] using h), fun _ => rfl, fun _ => rfl, fun _ => rfl, fun _ => rfl, fun h => E13.out (by simpa [mkd] using h), fun h => E14.out (by simpa [mkd] using h), fun h => E15.out (by simpa [mkd] using h), fun h => E16.out (by simpa [mkd] using h), fun h => E17.out (by simpa [mkd] using h)⟩
                · obtain rfl := (E8.out (by simp [haf])).symm
                  obtain rfl := (E12.out (by simp [haf])).symm
                  go_wp2
                  unfold RcI21
                  exact ⟨v139, v140, v141, v142, v143, v144, v145, v146, (.int .i64 p1), v148, v149, v150, (.int .i64 D), (.int .i64 z), v153, v154, v155, v156, by simp only [Act.put, List.setIfInBounds_toArray, List.set_cons_zero, List.set_cons_succ], HT.out, fun h => EF.out (by simpa [mkd] using h), fun h => EW.out (by simpa [mkd] using h), fun h => E0.out (by simpa [mkd] using h), fun h => E1.out (by simpa [mkd] using h), fun h => E2.out (by simpa [mkd] using h), fun h => E3.out (by simpa [mkd] using h), fun h => E4.out (by simpa [mkd] using h), fun h => E5.out (by simpa [mkd] using h), fun h => E6.out (by simpa [mkd] using h), fun h => E7.out (by simpa [mkd] using h), fun _ => rfl, fun h => E9.out (by simpa [mkd] using h), fun h => E10.out (by simpa [mkd] using h), fun h => E11.out (by simpa [mkd] using h), fun _ => rfl, fun _ => rfl, fun h => E14.out (by simpa [mkd] using h), fun h => E15.out (by simpa [mkd] using h), fun h => E16.out (by simpa [mkd] using h), fun h => E17.out (by simpa [mkd] using h)⟩
                · obtain rfl := (E6.out (by simp [haf])).symm
                  obtain rfl := (E13.out (by simp [haf])).symm
                  go_wp2
                  unfold RcI21
                  exact ⟨v139, v140, v141, v142, v143, v144, (.int .i64 z), v146, v147, v148, v149, v150, v151, (.int .i64 z), (.agg #[.int .i64 z, .int .i64 z]), v154, v155, v156, by simp only [Act.put, List.setIfInBounds_toArray, List.set_cons_zero, List.set_cons_succ], HT.out, fun h => EF.out (by simpa [mkd] using h), fun h => EW.out (by simpa [mkd] using h), fun h => E0.out (by simpa [mkd] using h), fun h => E1.out (by simpa [mkd] using h), fun h => E2.out (by simpa [mkd] using h), fun h => E3.out (by simpa [mkd] using h), fun h => E4.out (by simpa [mkd] using h), fun h => E5.out (by simpa [mkd] using h), fun _ => rfl, fun h => E7.out (by simpa [mkd] using h), fun h => E8.out (by simpa [mkd] using h), fun h => E9.out (by simpa [mkd] using h), fun h => E10.out (by simpa [mkd] using h), fun h => E11.out (by simpa [mkd] using h), fun h => E12.out (by simpa [mkd] using h), fun _ => rfl, fun _ => rfl, fun h => E15.out (by simpa [mkd] using h), fun h => E16.out (by simpa [mkd] using h), fun h => E17.out (by simpa [mkd] using h)⟩
                · obtain rfl := (E14.out (by simp [haf])).symm
                  go_wp2_with fail
                  (with_reducible refine (KLO.out _).mono ?_)
                  rintro e w9 ⟨rfl, hb9⟩
                  go_wp2
                  unfold RcI21
                  exact ⟨v139, v140, v141, v142, v143, v144, v145, v146, v147, v148, v149, v150, v151, v152, (.agg #[.int .i64 z, .int .i64 z]), (.agg #[.int .i64 q1, .int .i64 (lonB z z)]), v155, v156, by simp only [Act.put, List.setIfInBounds_toArray, List.set_cons_zero, List.set_cons_succ], HT.out.call hb9, fun h => (EF.out (by simpa [mkd] using h)).below hb9 (EF.out (by simpa [mkd] using h)).lt, fun h => (EW.out (by simpa [mkd] using h)).below hb9 (EW.out (by simpa [mkd] using h)).lt, fun h => E0.out (by simpa [mkd] using h), fun h => E1.out (by simpa [mkd] using h), fun h => E2.out (by simpa [mkd] using h), fun h => E3.out (by simpa [mkd] using h), fun h => E4.out (by simpa [mkd] using h), fun h => E5.out (by simpa [mkd] using h), fun h => E6.out (by simpa [mkd] using h), fun h => E7.out (by simpa [mkd] using h), fun h => E8.out (by simpa [mkd] using h), fun h => E9.out (by simpa [mkd] using h), fun h => E10.out (by simpa [mkd] using h), fun h => E11.out (by simpa [mkd] using h), fun h => E12.out (by simpa [mkd] using h), fun h => E13.out (by simpa [mkd] using h), fun _ => rfl, fun _ => rfl, fun h => E16.out (by simpa [mkd] using h), fun h => E17.out (by simpa [mkd] using h)⟩
                · obtain rfl := (E15.out (by simp [haf])).symm
                  have hfd := fun W => fieldA q1 (lonB z z) W
                  go_wp2
                  unfold RcI21
                  exact ⟨v139, v140, v141, v142, v143, v144, v145, v146, v147, v148, v149, v150, v151, v152, v153, (.agg #[.int .i64 q1, .int .i64 (lonB z z)]), (.int .i64 q1), v156, by simp only [Act.put, List.setIfInBounds_toArray, List.set_cons_zero, List.set_cons_succ], HT.out, fun h => EF.out (by simpa [mkd] using h), fun h => EW.out (by simpa [mkd] using h), fun h => E0.out (by simpa [mkd] using h), fun h => E1.out (by simpa [mkd] using h), fun h => E2.out (by simpa [mkd] using h), fun h => E3.out (by simpa [mkd] using h), fun h => E4.out (by simpa [mkd] using h), fun h => E5.out (by simpa [mkd] using h), fun h => E6.out (by simpa [mkd] using h), fun h => E7.out (by simpa [mkd] using h), fun h => E8.out (by simpa [mkd] using h), fun h => E9.out (by simpa [mkd] using h), fun h => E10.out (by simpa [mkd] using h), fun h => E11.out (by simpa [mkd] using h), fun h => E12.out (by simpa [mkd] using h), fun h => E13.out (by simpa [mkd] using h), fun h => E14.out (by simpa [mkd] using h), fun _ => rfl, fun _ => rfl, fun h => E17.out (by simpa [mkd] using h)⟩
                · go_wp2
                  unfold RcI21
                  exact ⟨v139, v140, v141, v142, v143, v144, v145, v146, v147, v148, v149, v150, v151, v152, v153, v154, v155, (.pointer (some ⟨g27, 1, none⟩)), by simp only [Act.put, List.setIfInBounds_toArray, List.set_cons_zero, List.set_cons_succ], HT.out, fun h => EF.out (by simpa [mkd] using h), fun h => EW.out (by simpa [mkd] using h), fun h => E0.out (by simpa [mkd] using h), fun h => E1.out (by simpa [mkd] using h), fun h => E2.out (by simpa [mkd] using h), fun h => E3.out (by simpa [mkd] using h), fun h => E4.out (by simpa [mkd] using h), fun h => E5.out (by simpa [mkd] using h), fun h => E6.out (by simpa [mkd] using h), fun h => E7.out (by simpa [mkd] using h), fun h => E8.out (by simpa [mkd] using h), fun h => E9.out (by simpa [mkd] using h), fun h => E10.out (by simpa [mkd] using h), fun h => E11.out (by simpa [mkd] using h), fun h => E12.out (by simpa [mkd] using h), fun h => E13.out (by simpa [mkd] using h), fun h => E14.out (by simpa [mkd] using h), fun h => E15.out (by simpa [mkd] using h), fun h => E16.out (by simpa [mkd] using h), fun _ => rfl⟩
                · obtain rfl := (E17.out (by simp [haf])).symm
                  obtain rfl := (E16.out (by simp [haf])).symm
                  have hD := EF.out hL
                  have HDD := Lib.hid hD
                  obtain ⟨-, kc0, kc1, kf0, kf1⟩ := hD
                  go_wp2
                  unfold RcI21
                  exact ⟨v139, v140, v141, v142, v143, v144, v145, v146, v147, v148, v149, v150, v151, v152, v153, v154, (.int .i64 q1), (.pointer (some ⟨g27, 1, none⟩)), by simp only [Act.put, List.setIfInBounds_toArray, List.set_cons_zero, List.set_cons_succ], HT.out.set1 _, fun h => (by simp [mkd] at h), fun _ => HDD.out.set1 _, fun h => E0.out (by simpa [mkd] using h), fun h => E1.out (by simpa [mkd] using h), fun h => E2.out (by simpa [mkd] using h), fun h => E3.out (by simpa [mkd] using h), fun h => E4.out (by simpa [mkd] using h), fun h => E5.out (by simpa [mkd] using h), fun h => E6.out (by simpa [mkd] using h), fun h => E7.out (by simpa [mkd] using h), fun h => E8.out (by simpa [mkd] using h), fun h => E9.out (by simpa [mkd] using h), fun h => E10.out (by simpa [mkd] using h), fun h => E11.out (by simpa [mkd] using h), fun h => E12.out (by simpa [mkd] using h), fun h => E13.out (by simpa [mkd] using h), fun h => E14.out (by simpa [mkd] using h), fun h => E15.out (by simpa [mkd] using h), fun _ => rfl, fun _ => rfl⟩
              case fin =>
                rintro M a1' wa hall ⟨v139, v140, v141, v142, v143, v144, v145, v146, v147, v148, v149, v150, v151, v152, v153, v154, v155, v156, rfl, hT, eF, eW, e0, e1, e2, e3, e4, e5, e6, e7, e8, e9, e10, e11, e12, e13, e14, e15, e16, e17⟩
                obtain rfl := (e0 (hall 0 (by decide))).symm
                obtain rfl := (e1 (hall 1 (by decide))).symm
                obtain rfl := (e2 (hall 2 (by decide))).symm
                obtain rfl := (e3 (hall 3 (by decide))).symm
                obtain rfl := (e4 (hall 4 (by decide))).symm
                obtain rfl := (e5 (hall 5 (by decide))).symm
                obtain rfl := (e6 (hall 6 (by decide))).symm
                obtain rfl := (e7 (hall 7 (by decide))).symm
                obtain rfl := (e8 (hall 8 (by decide))).symm
                obtain rfl := (e9 (hall 9 (by decide))).symm
                obtain rfl := (e10 (hall 10 (by decide))).symm
                obtain rfl := (e11 (hall 11 (by decide))).symm
                obtain rfl := (e12 (hall 12 (by decide))).symm
                obtain rfl := (e13 (hall 13 (by decide))).symm
                obtain rfl := (e14 (hall 14 (by decide))).symm
                obtain rfl := (e15 (hall 15 (by decide))).symm
                obtain rfl := (e16 (hall 16 (by decide))).symm
                obtain rfl := (e17 (hall 17 (by decide))).symm
                have hpost := eW (hall 18 (by decide))
                have hT6 := hT.bl (n₀ := w6.heap.size) hg7 (by omega)
                have hTw := hT.bl (n₀ := w.heap.size) (by have := DP9.out.lt; have := B9.out.size; omega) B9.out.size
                have BA := Lib.hid (B9.out.trans hTw)
                have KC3 := Lib.hid (KC2.out wa hT6)
                obtain ⟨-, f0, f1, -, -⟩ := hpost
                clear hT hT6 hTw KC2 B9 DP9 DQ9 DD9
                go_wp2_with fail
                (with_reducible refine (KC3.out).mono ?_)
                rintro e wb ⟨rfl, hbb⟩
                have BB := Lib.hid (BA.out.trans (hbb.mono BA.out.size))
                clear hbb
                go_wp2
                go_ret
                exact ⟨rfl, BB.out⟩
    · have hne : ((gvE LC a b x y lev) != (0 : Int)) = true := by simpa using hg
      obtain ⟨E, hE⟩ : ∃ E, gvE LC a b x y lev = E := ⟨_, rfl⟩
      rw [hE] at KG hne
      have KG := Lib.hid KG
      clear hE hg hn hca hn20 lv0 lv16 hvp
      go_enter Tryz.func3, Tryz.ntmps3
      go_wp2_with fail
      (with_reducible refine (KA.out _).mono ?_)
      rintro e w1 ⟨rfl, hb1⟩
      have B1 := Lib.hid (B0.out.trans (hb1.mono B0.out.size))
      have DP1 := Lib.hid (DP.out.below hb1 DP.out.lt)
      have DA1 := Lib.hid (DA.out.below hb1 DA.out.lt)
      have DX1 := Lib.hid (DX.out.below hb1 DX.out.lt)
      clear hb1 B0 DA DX DP KA
      obtain ⟨-, f0, f1, -, -⟩ := DP1.out
      go_wp2_with fail
      (with_reducible refine (KV.out _).mono ?_)
      rintro e w2 ⟨rfl, hb2⟩
      have B2 := Lib.hid (B1.out.trans (hb2.mono B1.out.size))
      have DA2 := Lib.hid (DA1.out.below hb2 DA1.out.lt)
      have DX2 := Lib.hid (DX1.out.below hb2 DX1.out.lt)
      clear hb2 B1 DP1 DA1 DX1 KV f0 f1
      obtain ⟨-, f0, f1, -, -⟩ := DA2.out
      obtain ⟨-, f2, f3, -, -⟩ := DX2.out
      go_wp2_with fail
      (with_reducible refine (KG.out _ B2.out).mono ?_)
      rintro e w3 ⟨rfl, hb3⟩
      have B3 := Lib.hid (B2.out.trans (hb3.mono B2.out.size))
      clear hb3 KG
      go_wp2
      go_ret
      exact ⟨rfl, B3.out⟩
  · have ds : decide (10 < (n : Int)) = true := decide_eq_true (by omega)
    clear hs hn hca lv0 lv16
    go_enter Tryz.func3, Tryz.ntmps3
    go_wp2_with fail
    (with_reducible refine (KA.out _).mono ?_)
    rintro e w1 ⟨rfl, hb1⟩
    have B1 := Lib.hid (B0.out.trans (hb1.mono B0.out.size))
    clear hb1 B0 DA DX DP KA
    go_wp2
    go_ret
    exact ⟨rfl, B1.out⟩
end Go.Proofs.YtleigbbgilcckaaGreat
