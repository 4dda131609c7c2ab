/- The walk of AdvanceBack. -/
import Derived.Test.YtnbbemlchchmoaaGreatHJs
import Derived.Test.YtnbbemlchchmoaaGreatHKg
set_option linter.unusedVariables false
set_option linter.unusedSimpArgs false
namespace Go.Proofs.YtnbbemlchchmoaaGreat
open Go.RowKit
set_option maxHeartbeats 16000000 in
set_option maxRecDepth 100000 in
theorem advBack_any (A : Option Addr) (n ca : Nat) (L : List Cl) (a b x y lv : Int) (w : World) (hr : Reads w w.heap.size 3 A n (cvs L)) (hn : n ≤ ca) (hca : ca ≤ maxLen) (l0 : 0 ≤ lv) (l1 : lv ≤ 255) :
    Calls Tryz.prog 9 #[.slice A n ca, .agg #[.int .i64 a, .int .i64 b], .agg #[.int .i64 x, .int .i64 y], .int .u8 lv] w fun e w' => e = .returned (.bool true) ∧ Below w.heap.size w w' := by
  have RD := Lib.hid (fun (W : World) (hW : Below w.heap.size w W) => (hr.below hW).more hW.size)
  have HL := Lib.hid hr.len
  have KA := Lib.hid awake47
  have KP := Lib.hid (fun W => point_any 0 W)
  have b0 := (bl_alloc w (.cells #[.int .i64 a, .int .i64 b] 32)).alloc (by simp) (.cells #[.int .i64 x, .int .i64 y] 32)
  have DA := Lib.hid ((D2.new w a b 32).alloc (.cells #[.int .i64 x, .int .i64 y] 32))
  have dx := D2.new (w.alloc (.cells #[.int .i64 a, .int .i64 b] 32)) x y 32
  rw [World.size_alloc] at dx
  have DX := Lib.hid dx
  have B0 := Lib.hid b0
  clear hr b0 dx
  obtain ⟨lev, hk⟩ : ∃ k : Int, lv % 17 = k := ⟨_, rfl⟩
  have v0 : 0 ≤ lev := by omega
  have v16 : lev ≤ 16 := by omega
  have V0 := Lib.hid v0
  have V16 := Lib.hid v16
  have hkt : lv.tmod 17 = lev := by rw [Int.tmod_eq_emod_of_nonneg l0]; exact hk
  by_cases hs : n ≤ 4
  · have ds : decide (4 < (n : Int)) = false := decide_eq_false (by omega)
    have hn20 : n ≤ 20 := by omega
    have HNC := Lib.hid hn
    have HC := Lib.hid hca
    have HM := Lib.hid hn20
    have HMX : Hid (n ≤ maxLen) := Lib.hid (Nat.le_trans hn hca)
    have HL6 : Hid (L.length ≤ 60) := Lib.hid (by rw [HL.out]; omega)
    have KG := fun (W : World) (hW : Below w.heap.size w W) => rGiven_any A n ca L a b x y lev W (RD.out W hW) hn hca
    by_cases hg : gvE L a b x y lev = 0
    · obtain ⟨hv, ha, hx, -, -⟩ := gvE_zero hg
      rw [hg] at KG
      have KG := Lib.hid KG
      have HV := Lib.hid hv
      have HA := Lib.hid ha
      have HX := Lib.hid hx
      have hab := (sm_iff.1 ha).2.1
      have hxy := (sm_iff.1 hx).2.1
      have HAB := Lib.hid hab
      have HXY := Lib.hid hxy
      have K0 := Lib.hid (fun (W : World) (hW : Below w.heap.size w W) => rRegion_any A n ca L 0 0 0 0 lev 60 W (RD.out W hW) hn hca hn20 (by decide) (by decide))
      have K1 := Lib.hid (fun (W : World) (hW : Below w.heap.size w W) => rRegion_any A n ca L a b x y lev 60 W (RD.out W hW) hn hca hn20 (by decide) (by decide))
      have KO := Lib.hid (fun W => rOpp_any a b x y W ha hx)
      clear hg hv ha hx hab hxy hn hca hn20 v0 v16
      go_enter Tryz.func9, Tryz.ntmps9
      go_wp2_with fail
      (with_reducible refine (KA.out _).mono ?_)
      rintro e w1 ⟨rfl, hb1⟩
      have B1 := Lib.hid (B0.out.trans (hb1.mono B0.out.size))
      have DA1 := Lib.hid (DA.out.below hb1 DA.out.lt)
      have DX1 := Lib.hid (DX.out.below hb1 DX.out.lt)
      clear hb1 B0 DA DX KA
      obtain ⟨-, p0, p1, -, -⟩ := DA1.out
      obtain ⟨-, p2, p3, -, -⟩ := DX1.out
      go_wp2_with fail
      (with_reducible refine (KG.out _ B1.out).mono ?_)
      rintro e w2 ⟨rfl, hb2⟩
      have B2 := Lib.hid (B1.out.trans (hb2.mono B1.out.size))
      have DA2 := Lib.hid (DA1.out.below hb2 DA1.out.lt)
      have DX2 := Lib.hid (DX1.out.below hb2 DX1.out.lt)
      clear hb2 B1 DA1 DX1 KG p0 p1 p2 p3
      go_wp2_with fail
      (with_reducible refine (KP.out _).mono ?_)
      rintro e w3 ⟨rfl, hb3⟩
      have B3 := Lib.hid (B2.out.trans (hb3.mono B2.out.size))
      have DA3 := Lib.hid (DA2.out.below hb3 DA2.out.lt)
      have DX3 := Lib.hid (DX2.out.below hb3 DX2.out.lt)
      clear hb3 B2 DA2 DX2
      go_wp2_with fail
      (with_reducible refine (KP.out _).mono ?_)
      rintro e w4 ⟨rfl, hb4⟩
      have B4 := Lib.hid (B3.out.trans (hb4.mono B3.out.size))
      have DA4 := Lib.hid (DA3.out.below hb4 DA3.out.lt)
      have DX4 := Lib.hid (DX3.out.below hb4 DX3.out.lt)
      clear hb4 B3 DA3 DX3
      go_wp2_with fail
      (with_reducible refine (K0.out _ B4.out).mono ?_)
      rintro e w5 ⟨v5, M0, E0, rfl, hown5, hb5, hd0⟩
      have HD0 : Hid (RgD L 0 0 0 0 lev M0 E0) := Lib.hid hd0
      have B5 := Lib.hid (B4.out.trans (hb5.mono B4.out.size))
      have DA5 := Lib.hid (DA4.out.below hb5 DA4.out.lt)
      have DX5 := Lib.hid (DX4.out.below hb5 DX4.out.lt)
      clear hb5 B4 DA4 DX4 hown5 hd0 K0
      by_cases hE0 : E0 = 0
      · subst hE0
        have KR := Lib.hid (fun (W : World) (hW : Below w.heap.size w W) => aReg_same (RD.out W hW) HNC.out HC.out HM.out HD0.out (by decide))
        obtain ⟨hvM, hiM⟩ := none_ins HV.out V0.out V16.out HL6.out HD0.out
        have HVM := Lib.hid hvM
        have HIM := Lib.hid hiM
        clear hvM hiM
        go_wp2_with fail
        (with_reducible refine (KP.out _).mono ?_)
        rintro e w6 ⟨rfl, hb6⟩
        have B6 := Lib.hid (B5.out.trans (hb6.mono B5.out.size))
        have DA6 := Lib.hid (DA5.out.below hb6 DA5.out.lt)
        have DX6 := Lib.hid (DX5.out.below hb6 DX5.out.lt)
        clear hb6 B5 DA5 DX5
        go_wp2_with fail
        (with_reducible refine (KP.out _).mono ?_)
        rintro e w7 ⟨rfl, hb7⟩
        have B7 := Lib.hid (B6.out.trans (hb7.mono B6.out.size))
        have DA7 := Lib.hid (DA6.out.below hb7 DA6.out.lt)
        have DX7 := Lib.hid (DX6.out.below hb7 DX6.out.lt)
        clear hb7 B6 DA6 DX6
        go_wp2_with fail
        (with_reducible refine (KR.out _ B7.out).mono ?_)
        rintro e w8 ⟨v8, rfl, hown8, hb8⟩
        have B8 := Lib.hid (B7.out.trans (hb8.mono B7.out.size))
        have DA8 := Lib.hid (DA7.out.below hb8 DA7.out.lt)
        have DX8 := Lib.hid (DX7.out.below hb8 DX7.out.lt)
        obtain ⟨A8, c8, rfl, hr8, h81, h82⟩ := own_form hown8
        have KI := Inside_any A A8 n M0.length ca c8 L M0 w8 (RD.out _ B8.out) hr8 HMX.out (Nat.le_trans h81 h82) HV.out HVM.out
        rw [HIM.out] at KI
        have KI := Lib.hid KI
        clear hb8 B7 DA7 DX7 hown8 hr8 h81 h82 KR HD0 HVM HIM
        go_wp2_with fail
        (with_reducible refine (KI.out).mono ?_)
        rintro e w10 ⟨rfl, hb10⟩
        have B10 := Lib.hid (B8.out.trans (hb10.mono B8.out.size))
        have DA10 := Lib.hid (DA8.out.below hb10 DA8.out.lt)
        have DX10 := Lib.hid (DX8.out.below hb10 DX8.out.lt)
        clear hb10 B8 DA8 DX8 KI
        obtain ⟨-, p0, p1, -, -⟩ := DA10.out
        obtain ⟨-, p2, p3, -, -⟩ := DX10.out
        go_wp2_with fail
        (with_reducible refine (K1.out _ B10.out).mono ?_)
        rintro e w11 ⟨v11, M, E, rfl, hown11, hb11, hd⟩
        have HD : Hid (RgD L a b x y lev M E) := Lib.hid hd
        have B11 := Lib.hid (B10.out.trans (hb11.mono B10.out.size))
        have DA11 := Lib.hid (DA10.out.below hb11 DA10.out.lt)
        have DX11 := Lib.hid (DX10.out.below hb11 DX10.out.lt)
        have OW11 := Lib.hid hown11
        obtain ⟨A11, c11, rfl, -, -, -⟩ := own_form hown11
        clear hb11 B10 DA10 DX10 hown11 hd K1 p0 p1 p2 p3
        by_cases hE : E = 0
        · subst hE
          by_cases hml : M.length ≤ 20
          · have dm : decide (20 < (M.length : Int)) = false := decide_eq_false (by omega)
            have HML := Lib.hid hml
            have KR := Lib.hid (fun (W : World) (hW : Below w.heap.size w W) => aReg_same (RD.out W hW) HNC.out HC.out HM.out HD.out (by decide))
            obtain ⟨-, p0, p1, -, -⟩ := DA11.out
            obtain ⟨-, p2, p3, -, -⟩ := DX11.out
            go_wp2_with fail
            (with_reducible refine (KO.out _).mono ?_)
            rintro e w12 ⟨rfl, hb12⟩
            have b13 := B11.out.trans (hb12.mono B11.out.size)
            have B13 := Lib.hid ((b13.alloc b13.size (.cells #[.int .i64 (-b), .int .i64 (-a)] 32)).alloc (by have := b13.size; simp; omega) (.cells #[.int .i64 (-y), .int .i64 (-x)] 32))
            have DA13 := Lib.hid (((DA11.out.below hb12 DA11.out.lt).alloc (.cells #[.int .i64 (-b), .int .i64 (-a)] 32)).alloc (.cells #[.int .i64 (-y), .int .i64 (-x)] 32))
            have DX13 := Lib.hid (((DX11.out.below hb12 DX11.out.lt).alloc (.cells #[.int .i64 (-b), .int .i64 (-a)] 32)).alloc (.cells #[.int .i64 (-y), .int .i64 (-x)] 32))
            have OW13 := ((own_bl OW11.out hb12 (Nat.le_refl _)).alloc (.cells #[.int .i64 (-b), .int .i64 (-a)] 32)).alloc (.cells #[.int .i64 (-y), .int .i64 (-x)] 32)
            obtain ⟨A11', c11', he11, hr13, h131, h132⟩ := own_form OW13
            cases he11
            have H131 := Lib.hid h131
            have H132 := Lib.hid h132
            have KB := Lib.hid (rRegion_any A11 M.length c11 M (-b) (-a) (-y) (-x) lev 60 _ hr13 h131 h132 HML.out (by decide) (by decide))
            clear hb12 b13 B11 DA11 DX11 p0 p1 p2 p3 KO OW11 OW13 hr13 h131 h132
            go_wp2_with fail
            (with_reducible refine (KB.out).mono ?_)
            rintro e w14 ⟨v14, M', E', rfl, hown14, hb14, hd'⟩
            have HD' : Hid (RgD M (-b) (-a) (-y) (-x) lev M' E') := Lib.hid hd'
            have B14 := Lib.hid (B13.out.trans (hb14.mono B13.out.size))
            have DA14 := Lib.hid (DA13.out.below hb14 DA13.out.lt)
            have DX14 := Lib.hid (DX13.out.below hb14 DX13.out.lt)
            clear hb14 B13 DA13 DX13 hd' KB hown14 H131 H132
            by_cases hE' : E' = 0
            · subst hE'
              obtain ⟨hvM, hvM', hins⟩ := back_ins HV.out HAB.out HXY.out V0.out V16.out HL6.out (by have := HML.out; omega) HD.out HD'.out
              have HVM := Lib.hid hvM
              have HVM' := Lib.hid hvM'
              have HINS := Lib.hid hins
              clear hvM hvM' hins
              obtain ⟨-, p0, p1, -, -⟩ := DA14.out
              obtain ⟨-, p2, p3, -, -⟩ := DX14.out
              go_wp2_with fail
              (with_reducible refine (KR.out _ B14.out).mono ?_)
              rintro e w15 ⟨v15, rfl, hown15, hb15⟩
              have B15 := Lib.hid (B14.out.trans (hb15.mono B14.out.size))
              have DA15 := Lib.hid (DA14.out.below hb15 DA14.out.lt)
              have DX15 := Lib.hid (DX14.out.below hb15 DX14.out.lt)
              obtain ⟨A15, c15, rfl, hr15, h151, h152⟩ := own_form hown15
              have KB := Lib.hid (Back_yes A15 M.length c15 M a b x y lev 0 M' w15 hr15 h151 h152 HVM.out HA.out HX.out (fun W hW => aReg_same ((hr15.below hW).more hW.size) h151 h152 HML.out HD'.out (by decide)))
              clear hb15 B14 DA14 DX14 hown15 hr15 h151 h152 KR p0 p1 p2 p3
              obtain ⟨-, p0, p1, -, -⟩ := DA15.out
              obtain ⟨-, p2, p3, -, -⟩ := DX15.out
              go_wp2_with fail
              (with_reducible refine (KB.out).mono ?_)
              rintro e w16 ⟨v16', rfl, hown16, hb16⟩
              have B16 := Lib.hid (B15.out.trans (hb16.mono B15.out.size))
              obtain ⟨A16, c16, rfl, hr16, h161, h162⟩ := own_form hown16
              have KI := Inside_any A A16 n M'.length ca c16 L M' w16 (RD.out _ B16.out) hr16 HMX.out (Nat.le_trans h161 h162) HV.out HVM'.out
              rw [HINS.out] at KI
              have KI := Lib.hid KI
              clear hb16 B15 DA15 DX15 hown16 hr16 h161 h162 KB p0 p1 p2 p3
              go_wp2_with fail
              (with_reducible refine (KI.out).mono ?_)
              rintro e w17 ⟨rfl, hb17⟩
              have B17 := Lib.hid (B16.out.trans (hb17.mono B16.out.size))
              clear hb17 KI
              go_wp2
              go_ret
              exact ⟨rfl, B17.out⟩
            · have k3 : (E' != (0 : Int)) = true := by simpa using hE'
              clear hE' HD'
              go_wp2
              go_ret
              exact ⟨rfl, B14.out⟩
          · have dm : decide (20 < (M.length : Int)) = true := decide_eq_true (by omega)
            clear hml
            go_wp2
            go_ret
            exact ⟨rfl, B11.out⟩
        · have k2 : (E != (0 : Int)) = true := by simpa using hE
          clear hE HD
          go_wp2
          go_ret
          exact ⟨rfl, B11.out⟩
      · have k0 : (E0 == (0 : Int)) = false := by simpa using hE0
        clear hE0 HD0
        have B10 := B5
        have DA10 := DA5
        have DX10 := DX5
        clear B5 DA5 DX5
        obtain ⟨-, p0, p1, -, -⟩ := DA10.out
        obtain ⟨-, p2, p3, -, -⟩ := DX10.out
        go_wp2_with fail
        (with_reducible refine (K1.out _ B10.out).mono ?_)
        rintro e w11 ⟨v11, M, E, rfl, hown11, hb11, hd⟩
        have HD : Hid (RgD L a b x y lev M E) := Lib.hid hd
        have B11 := Lib.hid (B10.out.trans (hb11.mono B10.out.size))
        have DA11 := Lib.hid (DA10.out.below hb11 DA10.out.lt)
        have DX11 := Lib.hid (DX10.out.below hb11 DX10.out.lt)
        have OW11 := Lib.hid hown11
        obtain ⟨A11, c11, rfl, -, -, -⟩ := own_form hown11
        clear hb11 B10 DA10 DX10 hown11 hd K1 p0 p1 p2 p3
        by_cases hE : E = 0
        · subst hE
          by_cases hml : M.length ≤ 20
          · have dm : decide (20 < (M.length : Int)) = false := decide_eq_false (by omega)
            have HML := Lib.hid hml
            have KR := Lib.hid (fun (W : World) (hW : Below w.heap.size w W) => aReg_same (RD.out W hW) HNC.out HC.out HM.out HD.out (by decide))
            obtain ⟨-, p0, p1, -, -⟩ := DA11.out
            obtain ⟨-, p2, p3, -, -⟩ := DX11.out
            go_wp2_with fail
            (with_reducible refine (KO.out _).mono ?_)
            rintro e w12 ⟨rfl, hb12⟩
            have b13 := B11.out.trans (hb12.mono B11.out.size)
            have B13 := Lib.hid ((b13.alloc b13.size (.cells #[.int .i64 (-b), .int .i64 (-a)] 32)).alloc (by have := b13.size; simp; omega) (.cells #[.int .i64 (-y), .int .i64 (-x)] 32))
            have DA13 := Lib.hid (((DA11.out.below hb12 DA11.out.lt).alloc (.cells #[.int .i64 (-b), .int .i64 (-a)] 32)).alloc (.cells #[.int .i64 (-y), .int .i64 (-x)] 32))
            have DX13 := Lib.hid (((DX11.out.below hb12 DX11.out.lt).alloc (.cells #[.int .i64 (-b), .int .i64 (-a)] 32)).alloc (.cells #[.int .i64 (-y), .int .i64 (-x)] 32))
            have OW13 := ((own_bl OW11.out hb12 (Nat.le_refl _)).alloc (.cells #[.int .i64 (-b), .int .i64 (-a)] 32)).alloc (.cells #[.int .i64 (-y), .int .i64 (-x)] 32)
            obtain ⟨A11', c11', he11, hr13, h131, h132⟩ := own_form OW13
            cases he11
            have H131 := Lib.hid h131
            have H132 := Lib.hid h132
            have KB := Lib.hid (rRegion_any A11 M.length c11 M (-b) (-a) (-y) (-x) lev 60 _ hr13 h131 h132 HML.out (by decide) (by decide))
            clear hb12 b13 B11 DA11 DX11 p0 p1 p2 p3 KO OW11 OW13 hr13 h131 h132
            go_wp2_with fail
            (with_reducible refine (KB.out).mono ?_)
            rintro e w14 ⟨v14, M', E', rfl, hown14, hb14, hd'⟩
            have HD' : Hid (RgD M (-b) (-a) (-y) (-x) lev M' E') := Lib.hid hd'
            have B14 := Lib.hid (B13.out.trans (hb14.mono B13.out.size))
            have DA14 := Lib.hid (DA13.out.below hb14 DA13.out.lt)
            have DX14 := Lib.hid (DX13.out.below hb14 DX13.out.lt)
            clear hb14 B13 DA13 DX13 hd' KB hown14 H131 H132
            by_cases hE' : E' = 0
            · subst hE'
              obtain ⟨hvM, hvM', hins⟩ := back_ins HV.out HAB.out HXY.out V0.out V16.out HL6.out (by have := HML.out; omega) HD.out HD'.out
              have HVM := Lib.hid hvM
              have HVM' := Lib.hid hvM'
              have HINS := Lib.hid hins
              clear hvM hvM' hins
              obtain ⟨-, p0, p1, -, -⟩ := DA14.out
              obtain ⟨-, p2, p3, -, -⟩ := DX14.out
              go_wp2_with fail
              (with_reducible refine (KR.out _ B14.out).mono ?_)
              rintro e w15 ⟨v15, rfl, hown15, hb15⟩
              have B15 := Lib.hid (B14.out.trans (hb15.mono B14.out.size))
              have DA15 := Lib.hid (DA14.out.below hb15 DA14.out.lt)
              have DX15 := Lib.hid (DX14.out.below hb15 DX14.out.lt)
              obtain ⟨A15, c15, rfl, hr15, h151, h152⟩ := own_form hown15
              have KB := Lib.hid (Back_yes A15 M.length c15 M a b x y lev 0 M' w15 hr15 h151 h152 HVM.out HA.out HX.out (fun W hW => aReg_same ((hr15.below hW).more hW.size) h151 h152 HML.out HD'.out (by decide)))
              clear hb15 B14 DA14 DX14 hown15 hr15 h151 h152 KR p0 p1 p2 p3
              obtain ⟨-, p0, p1, -, -⟩ := DA15.out
              obtain ⟨-, p2, p3, -, -⟩ := DX15.out
              go_wp2_with fail
              (with_reducible refine (KB.out).mono ?_)
              rintro e w16 ⟨v16', rfl, hown16, hb16⟩
              have B16 := Lib.hid (B15.out.trans (hb16.mono B15.out.size))
              obtain ⟨A16, c16, rfl, hr16, h161, h162⟩ := own_form hown16
              have KI := Inside_any A A16 n M'.length ca c16 L M' w16 (RD.out _ B16.out) hr16 HMX.out (Nat.le_trans h161 h162) HV.out HVM'.out
              rw [HINS.out] at KI
              have KI := Lib.hid KI
              clear hb16 B15 DA15 DX15 hown16 hr16 h161 h162 KB p0 p1 p2 p3
              go_wp2_with fail
              (with_reducible refine (KI.out).mono ?_)
              rintro e w17 ⟨rfl, hb17⟩
              have B17 := Lib.hid (B16.out.trans (hb17.mono B16.out.size))
              clear hb17 KI
              go_wp2
              go_ret
              exact ⟨rfl, B17.out⟩
            · have k3 : (E' != (0 : Int)) = true := by simpa using hE'
              clear hE' HD'
              go_wp2
              go_ret
              exact ⟨rfl, B14.out⟩
          · have dm : decide (20 < (M.length : Int)) = true := decide_eq_true (by omega)
            clear hml
            go_wp2
            go_ret
            exact ⟨rfl, B11.out⟩
        · have k2 : (E != (0 : Int)) = true := by simpa using hE
          clear hE HD
          go_wp2
          go_ret
          exact ⟨rfl, B11.out⟩
    · have hne : ((gvE L a b x y lev) != (0 : Int)) = true := by simpa using hg
      obtain ⟨E, hE⟩ : ∃ E, gvE L a b x y lev = E := ⟨_, rfl⟩
      rw [hE] at KG hne
      have KG := Lib.hid KG
      clear hE hg hn hca hn20 v0 v16
      go_enter Tryz.func9, Tryz.ntmps9
      go_wp2_with fail
      (with_reducible refine (KA.out _).mono ?_)
      rintro e w1 ⟨rfl, hb1⟩
      have B1 := Lib.hid (B0.out.trans (hb1.mono B0.out.size))
      have DA1 := Lib.hid (DA.out.below hb1 DA.out.lt)
      have DX1 := Lib.hid (DX.out.below hb1 DX.out.lt)
      clear hb1 B0 DA DX KA
      obtain ⟨-, p0, p1, -, -⟩ := DA1.out
      obtain ⟨-, p2, p3, -, -⟩ := DX1.out
      go_wp2_with fail
      (with_reducible refine (KG.out _ B1.out).mono ?_)
      rintro e w2 ⟨rfl, hb2⟩
      have B2 := Lib.hid (B1.out.trans (hb2.mono B1.out.size))
      clear hb2 KG
      go_wp2
      go_ret
      exact ⟨rfl, B2.out⟩
  · have ds : decide (4 < (n : Int)) = true := decide_eq_true (by omega)
    clear hs hn hca v0 v16
    go_enter Tryz.func9, Tryz.ntmps9
    go_wp2_with fail
    (with_reducible refine (KA.out _).mono ?_)
    rintro e w1 ⟨rfl, hb1⟩
    have B1 := Lib.hid (B0.out.trans (hb1.mono B0.out.size))
    clear hb1 B0 DA DX KA
    go_wp2
    go_ret
    exact ⟨rfl, B1.out⟩
end Go.Proofs.YtnbbemlchchmoaaGreat
