/- Law 22: CorrectBack returns true. -/
import Derived.Test.YtbpnacacnncopaaGreatDoorHYx
import Derived.Test.YtbpnacacnncopaaGreatDoorHXm
set_option linter.unusedVariables false
set_option linter.unusedSimpArgs false
namespace Go.Proofs.YtbpnacacnncopaaGreatDoor
open Go.RowKit Frm
def exS : Sgt := ⟨[83, 116, 97, 114], 1, 0, 0, 2400000, 0, 1, 400, 0, 100, 10100⟩
theorem ex_si : siS exS = true := by decide +kernel
theorem ex_giv : givB 0 [] exS 0 0 0 0 = true := by decide +kernel
theorem ex_dep : depA exS = 3520 ∧ depB exS = 3520 := by
  have h : dpL 400 = 3520 := isq_one (by omega) (by omega) (by omega)
  have h2 : dpH 400 = 3520 := by unfold dpH; rw [h]; rfl
  exact ⟨show ((dpL 400 : Nat) : Int) = 3520 by rw [h]; rfl, show ((dpH 400 : Nat) : Int) = 3520 by rw [h2]; rfl⟩
theorem ex_co : coA 0 [] 2400000 = 0 ∧ coB 0 [] 2400000 = 0 := by decide +kernel
theorem ex_ha : haA 0 [] exS = 2396480 ∧ haB 0 [] exS = 2396480 := by
  have h1 : apA 0 [] exS = 2400000 - 0 + coA 0 [] 2400000 := rfl
  have h2 : apB 0 [] exS = 2400000 + 0 + coB 0 [] 2400000 := rfl
  unfold haA haB
  rw [h1, h2, ex_co.1, ex_co.2, ex_dep.1, ex_dep.2]
  decide
theorem ex_in : inHa 0 [] exS = true := by unfold inHa; rw [ex_ha.1, ex_ha.2]; decide
theorem ex_ho : 2395000 < hoA 0 [] exS 0 0 0 0 ∧ hoB 0 [] exS 0 0 0 0 < 2396000 := by
  unfold hoA hoB
  rw [ex_ha.1, ex_ha.2]
  decide +kernel
theorem inst_zero : ∃ f, IsInst 0 f := ⟨_, ⟨2000, 1, 1⟩, by have := (vd_of (y := 2000) (m := 1) (d := 1) (by decide +kernel)).1; exact this, by decide +kernel, rfl⟩
theorem ex_text : ∃ x, TextOf exS x := by
  obtain ⟨f, hf⟩ := inst_zero
  exact ⟨_, f, f, hf, hf, rfl⟩
/-- texts of sights are short -/
theorem text_short {s : Sgt} {x : Bs} (hv : siS s = true) (h : TextOf s x) : x.length ≤ 300 := by
  obtain ⟨f, l, hf, hl, rfl⟩ := h
  have k := si_ok hv
  have a1 := inst_len hf
  have a2 := inst_len hl
  have b1 := limb_len k.limb.1 k.limb.2
  have b2 := hor_len k.hor.1 k.hor.2
  have c1 := text_len (n := s.hs) (by have := k.hs; omega)
  have c2 := text_len (n := s.by_) (by have := k.by_; omega)
  have d0 := name_len k.na
  have d1 := itoa_short (n := s.eye) (by have := k.eye; omega)
  have d2 := itoa_short (n := s.shore) (by have := k.shore; omega)
  have d3 := itoa_short (n := s.temp) (by have := k.temp; omega)
  have d4 := itoa_short (n := s.press) (by have := k.press; omega)
  simp only [txtW, SW.jn, List.length_append, List.length_cons, List.length_nil]
  omega
theorem ctext_ok {s : Sgt} {x : Bs} (hv : siS s = true) (hx : TextOf s x) (w : World) (he : En w) : Calls Tryz.prog 8 #[sgS s] w fun e w' => e = .returned (.tuple #[tx x, .int .i64 0]) ∧ Below w.heap.size w w' :=
  (ctext_any s w (by have := name_len (si_ok hv).na; omega) he).mono fun e w' ⟨hr, hb⟩ => by
    refine ⟨?_, hb⟩
    rcases hr with ⟨h, _⟩ | ⟨_, y, hy, _, h⟩ | ⟨_, h, _⟩
    · rw [hv] at h; cases h
    · rw [text_one hx hy]; exact h
    · exact absurd ⟨x, hx⟩ h
theorem goodT_one {s t : Sgt} {x : Bs} (h : GoodT s x) (k : GoodT t x) : s = t := by
  obtain ⟨w0, w1, w2, w3, w4, w5, w6, w7, w8, w9, w10, w11, w12, h1, h2⟩ := h
  obtain ⟨v0, v1, v2, v3, v4, v5, v6, v7, v8, v9, v10, v11, v12, k1, k2⟩ := k
  rw [h1] at k1
  simp only [List.cons.injEq, and_true] at k1
  obtain ⟨rfl, rfl, rfl, rfl, rfl, rfl, rfl, rfl, rfl, rfl, rfl, rfl, rfl⟩ := k1
  exact good_one h2 k2
theorem cparse_ok {s : Sgt} {x : Bs} (hv : siS s = true) (hx : TextOf s x) (w : World) (he : En w) : Calls Tryz.prog 11 #[tx x] w fun e w' => e = .returned (.tuple #[sgS s, .int .i64 0]) ∧ Below w.heap.size w w' :=
  (cparse_any x w (text_short hv hx) he).mono fun e w' ⟨hr, hb⟩ => by
    refine ⟨?_, hb⟩
    have hg : GoodT s x := by
      obtain ⟨w0, w1, w2, w3, w4, w5, w6, w7, w8, w9, w10, w11, w12, h1, h2⟩ := text_good hv hx
      exact ⟨w0, w1, w2, w3, w4, w5, w6, w7, w8, w9, w10, w11, w12, h1, h2⟩
    have one : ∀ t, GoodT t x → t = s := fun t ht => goodT_one ht hg
    rcases hr with ⟨t, h, _, h2⟩ | ⟨t, h, h2, _⟩ | ⟨h, _⟩
    · rw [one t h] at h2; exact h2
    · rw [one t h, hv] at h2; cases h2
    · exact absurd ⟨s, hg⟩ h
theorem example_any (n : Int) (w : World) : Calls Tryz.prog 20 #[.int .i64 n] w fun e w' => e = .returned (sgv [83, 116, 97, 114] 1 0 0 n 0 1 400 0 100 10100) ∧ Below w.heap.size w w' := by
  go_enter Tryz.func20, Tryz.ntmps20
  go_wp2
  refine bodyPost_ret (v := sgv [83, 116, 97, 114] 1 0 0 n 0 1 400 0 100 10100) (by simp [results, Tryz.results20, go_sem, *]; done) rfl ⟨rfl, ?_⟩
  repeat (first | exact Below.refl _ _ | assumption | refine bl_drew ?_ | refine bl_drewN ?_ _ | refine Below.setCell ?_ (by first | assumption | omega | (simp; done) | (simp; omega)) _ | refine Below.alloc ?_ (by first | assumption | omega | (simp; done) | (simp; omega)) _)
theorem work_ex : ∃ r0 r1 x0 x1 s0 s1 h0 h1 : Int, 2395000 < h0 ∧ h1 < 2396000 ∧ ∀ w, Calls Tryz.prog 16 #[.agg #[.int .i64 0, .slice none 0 0], sgv [83, 116, 97, 114] 1 0 0 2400000 0 1 400 0 100 10100, .agg #[.int .i64 0, .int .i64 0, .int .i64 0, .int .i64 0, .int .i64 0, .int .i64 0, .int .i64 0, .int .i64 0]] w fun e w' => e = .returned (.tuple #[wkV 0 0 3520 3520 r0 r1 x0 x1 s0 s1 2396480 2396480 h0 h1, .int .i64 0]) ∧ Below w.heap.size w w' := by
  refine ⟨rfL (haB 0 [] exS) 100 10100, rfH (haA 0 [] exS) 100 10100, pxA 0 0 (haA 0 [] exS) (haB 0 [] exS), pxB 0 0 (haA 0 [] exS) (haB 0 [] exS), seA 1 0 0 0 0 (haA 0 [] exS) (haB 0 [] exS), seB 1 0 0 0 0 (haA 0 [] exS) (haB 0 [] exS), _, _, ex_ho.1, ex_ho.2, fun w => (Work_any 0 [] none 0 0 exS 0 0 0 0 0 0 0 0 w (.inl rfl) rfl (by omega) (by decide)).mono fun e w' ⟨hr, hb⟩ => ⟨?_, hb⟩⟩
  rcases hr with ⟨h, _⟩ | ⟨_, h, _⟩ | ⟨_, _, h⟩
  · rw [ex_giv] at h; cases h
  · rw [ex_in] at h; cases h
  · have e1 : coA 0 [] exS.hs = 0 := ex_co.1
    have e2 : coB 0 [] exS.hs = 0 := ex_co.2
    have e3 : wkS 0 [] exS 0 0 0 0 = wkV (coA 0 [] exS.hs) (coB 0 [] exS.hs) (depA exS) (depB exS) (rfL (haB 0 [] exS) 100 10100) (rfH (haA 0 [] exS) 100 10100) (pxA 0 0 (haA 0 [] exS) (haB 0 [] exS)) (pxB 0 0 (haA 0 [] exS) (haB 0 [] exS)) (seA 1 0 0 0 0 (haA 0 [] exS) (haB 0 [] exS)) (seB 1 0 0 0 0 (haA 0 [] exS) (haB 0 [] exS)) (haA 0 [] exS) (haB 0 [] exS) (hoA 0 [] exS 0 0 0 0) (hoB 0 [] exS 0 0 0 0) := rfl
    rw [h, e3, e1, e2, ex_dep.1, ex_dep.2, ex_ha.1, ex_ha.2]
end Go.Proofs.YtbpnacacnncopaaGreatDoor
namespace Go.Proofs.YtbpnacacnncopaaGreatDoor
open Go.RowKit Frm
theorem ex_sg : sgS exS = sgv [83, 116, 97, 114] 1 0 0 2400000 0 1 400 0 100 10100 := rfl
set_option maxHeartbeats 400000 in
set_option maxRecDepth 100000 in
theorem awake22_any (w : World) (he : En w) : Calls Tryz.prog 7 #[] w fun e w' => e = .returned (.bool true) ∧ Below w.heap.size w w' := by
  have KX := Lib.hid example_any
  obtain ⟨r0, r1, x0, x1, s0, s1, h0, h1, hh0, hh1, hW⟩ := work_ex
  have KW := Lib.hid hW
  obtain ⟨x, hx⟩ := ex_text
  have hT : ∀ w, En w → Calls Tryz.prog 8 #[sgv [83, 116, 97, 114] 1 0 0 2400000 0 1 400 0 100 10100] w fun e w' => e = .returned (.tuple #[tx x, .int .i64 0]) ∧ Below w.heap.size w w' := by
    have h := fun w he => ctext_ok ex_si hx w he
    simp only [ex_sg] at h
    exact h
  have KT := Lib.hid hT
  have hP : ∀ w, En w → Calls Tryz.prog 11 #[tx x] w fun e w' => e = .returned (.tuple #[sgv [83, 116, 97, 114] 1 0 0 2400000 0 1 400 0 100 10100, .int .i64 0]) ∧ Below w.heap.size w w' := by
    have h := fun w he => cparse_ok ex_si hx w he
    simp only [ex_sg] at h
    exact h
  have KP := Lib.hid hP
  have d0 : decide (h0 > 2395000) = true := decide_eq_true hh0
  have d1 : decide (h1 < 2396000) = true := decide_eq_true hh1
  have hA : ∀ a b W, (binOp .eql 41 (tiv a b) (tiv a b)).run Tryz.prog W = .ok (.bool true) W := fun a b W => by rw [run_eql_struct, show (10000 : Nat) = 9998 + 1 + 1 from rfl, eqInArc]; simp [Result.andThen]
  have hS : ∀ W, (binOp .eql 25 (sgv [83, 116, 97, 114] 1 0 0 2400000 0 1 400 0 100 10100) (sgv [83, 116, 97, 114] 1 0 0 2400000 0 1 400 0 100 10100)).run Tryz.prog W = .ok (.bool true) W := fun W => by rw [run_eql_struct, eqInSight]; simp [Result.andThen, sgE]
  have N9 := Lib.hid he
  clear hW hx he hT hP
  have N0 := Lib.hid (N9.out)
  have b0 := Lib.hid (Below.refl w.heap.size w)
  go_enter Tryz.func7, Tryz.ntmps7
  go_wp2_with fail
  (with_reducible refine (KX.out 2400000 _).mono ?_)
  rintro e w1 ⟨rfl, hb⟩
  have N1 := Lib.hid (N0.out.bl hb)
  have b1 := Lib.hid (b0.out.trans (hb.mono b0.out.size))
  clear hb N0 b0
  go_wp2_with fail
  (with_reducible refine (KW.out _).mono ?_)
  rintro e w2 ⟨rfl, hb⟩
  have N2 := Lib.hid (N1.out.bl hb)
  have b2 := Lib.hid (b1.out.trans (hb.mono b1.out.size))
  clear hb N1 b1
  have W3 := Lib.hid (Blk.new w2 46 #[.int .i64 0, .int .i64 0, .int .i64 3520, .int .i64 3520, .int .i64 r0, .int .i64 r1, .int .i64 x0, .int .i64 x1, .int .i64 s0, .int .i64 s1, .int .i64 2396480, .int .i64 2396480, .int .i64 h0, .int .i64 h1])
  have N3 := Lib.hid (N2.out.bl (bl_alloc w2 (.cells #[.int .i64 0, .int .i64 0, .int .i64 3520, .int .i64 3520, .int .i64 r0, .int .i64 r1, .int .i64 x0, .int .i64 x1, .int .i64 s0, .int .i64 s1, .int .i64 2396480, .int .i64 2396480, .int .i64 h0, .int .i64 h1] 46)))
  have b3 := Lib.hid (b2.out.trans ((bl_alloc w2 (.cells #[.int .i64 0, .int .i64 0, .int .i64 3520, .int .i64 3520, .int .i64 r0, .int .i64 r1, .int .i64 x0, .int .i64 x1, .int .i64 s0, .int .i64 s1, .int .i64 2396480, .int .i64 2396480, .int .i64 h0, .int .i64 h1] 46)).mono b2.out.size))
  clear N2 b2
  go_upto_region 2 with fail
  generalize w2.alloc (.cells #[.int .i64 0, .int .i64 0, .int .i64 3520, .int .i64 3520, .int .i64 r0, .int .i64 r1, .int .i64 x0, .int .i64 x1, .int .i64 s0, .int .i64 s1, .int .i64 2396480, .int .i64 2396480, .int .i64 h0, .int .i64 h1] 46) = w4 at *
  go_wp2_with fail
  (with_reducible refine (KX.out 2400000 _).mono ?_)
  rintro e w5 ⟨rfl, hb⟩
  have W5 := Lib.hid (W3.out.below hb W3.out.lt)
  have N5 := Lib.hid (N3.out.bl hb)
  have b5 := Lib.hid (b3.out.trans (hb.mono b3.out.size))
  clear hb W3 N3 b3
  go_wp2_with fail
  (with_reducible refine (KT.out _ N5.out).mono ?_)
  rintro e w6 ⟨rfl, hb⟩
  have W6 := Lib.hid (W5.out.below hb W5.out.lt)
  have N6 := Lib.hid (N5.out.bl hb)
  have b6 := Lib.hid (b5.out.trans (hb.mono b5.out.size))
  clear hb W5 N5 b5
  go_upto_region 3 with fail
  go_wp2_with fail
  (with_reducible refine (KP.out _ N6.out).mono ?_)
  rintro e w7 ⟨rfl, hb⟩
  have W7 := Lib.hid (W6.out.below hb W6.out.lt)
  have N7 := Lib.hid (N6.out.bl hb)
  have b7 := Lib.hid (b6.out.trans (hb.mono b6.out.size))
  clear hb W6 N6 b6
  have W8 := Lib.hid (W7.out.alloc (.cells #[txb [83, 116, 97, 114], .int .i64 1, .int .i64 0, .int .i64 0, .int .i64 2400000, .int .i64 0, .int .i64 1, .int .i64 400, .int .i64 0, .int .i64 100, .int .i64 10100] 25))
  have P8 := Lib.hid (Blk.new w7 25 #[txb [83, 116, 97, 114], .int .i64 1, .int .i64 0, .int .i64 0, .int .i64 2400000, .int .i64 0, .int .i64 1, .int .i64 400, .int .i64 0, .int .i64 100, .int .i64 10100])
  have N8 := Lib.hid (N7.out.bl (bl_alloc w7 (.cells #[txb [83, 116, 97, 114], .int .i64 1, .int .i64 0, .int .i64 0, .int .i64 2400000, .int .i64 0, .int .i64 1, .int .i64 400, .int .i64 0, .int .i64 100, .int .i64 10100] 25)))
  have b8 := Lib.hid (b7.out.trans ((bl_alloc w7 (.cells #[txb [83, 116, 97, 114], .int .i64 1, .int .i64 0, .int .i64 0, .int .i64 2400000, .int .i64 0, .int .i64 1, .int .i64 400, .int .i64 0, .int .i64 100, .int .i64 10100] 25)).mono b7.out.size))
  clear W7 N7 b7
  go_upto_region 4 with fail
  generalize w7.alloc (.cells #[txb [83, 116, 97, 114], .int .i64 1, .int .i64 0, .int .i64 0, .int .i64 2400000, .int .i64 0, .int .i64 1, .int .i64 400, .int .i64 0, .int .i64 100, .int .i64 10100] 25) = w9 at *
  have yW : ∀ (s : BQ w9) i, s.w.cell? ⟨w2.heap.size, i, none⟩ = (#[.int .i64 0, .int .i64 0, .int .i64 3520, .int .i64 3520, .int .i64 r0, .int .i64 r1, .int .i64 x0, .int .i64 x1, .int .i64 s0, .int .i64 s1, .int .i64 2396480, .int .i64 2396480, .int .i64 h0, .int .i64 h1] : Array Value)[i]? := fun s i => (W8.out.below s.hb W8.out.lt).cell i
  have yP : ∀ (s : BQ w9) i, s.w.cell? ⟨w7.heap.size, i, none⟩ = (#[txb [83, 116, 97, 114], .int .i64 1, .int .i64 0, .int .i64 0, .int .i64 2400000, .int .i64 0, .int .i64 1, .int .i64 400, .int .i64 0, .int .i64 100, .int .i64 10100] : Array Value)[i]? := fun s i => (P8.out.below s.hb P8.out.lt).cell i
  refine wp_region_bq w9 (by kernel_rfl) (by kernel_rfl) (Below.refl _ _) ?_
  repeat (go_big_quiet_step (first | (go_at_call 20; exact quiet_bq (KX.out _ _)) | fail))
  refine wpQuiet_nil ?_
  intro w10 hb
  have W10 := Lib.hid (W8.out.below hb W8.out.lt)
  have P10 := Lib.hid (P8.out.below hb P8.out.lt)
  have N10 := Lib.hid (N8.out.bl hb)
  have b10 := Lib.hid (b8.out.trans (hb.mono b8.out.size))
  clear hb W8 P8 N8 b8 yW yP
  go_wp2
  go_ret
  exact ⟨rfl, b10.out⟩
end Go.Proofs.YtbpnacacnncopaaGreatDoor
namespace Go.Proofs.YtbpnacacnncopaaGreatDoor
open Go.RowKit Frm
set_option maxHeartbeats 4000000 in
set_option maxRecDepth 100000 in
theorem back_any (s : Sgt) (t : Bs) (w : World) (he : En w) : Calls Tryz.prog 4 #[sgS s, tx t] w fun e w' => e = .returned (.bool true) ∧ Below w.heap.size w w' := by
  have KA := Lib.hid awake22_any
  have N9 := Lib.hid he
  have hs1 := txb_size s.body
  have hs2 := txb_size t
  by_cases hl : s.body.length > 100
  · have d1 : decide ((s.body.length : Int) > 100) = true := decide_eq_true (by omega)
    clear hl
    obtain ⟨body, limb, tlo, thi, hs, by_, hor, eye, shore, temp, press⟩ := s
    simp only [] at *
    have S0 := Lib.hid (Blk.new w 25 #[txb body, .int .i64 limb, .int .i64 tlo, .int .i64 thi, .int .i64 hs, .int .i64 by_, .int .i64 hor, .int .i64 eye, .int .i64 shore, .int .i64 temp, .int .i64 press])
    have N0 := Lib.hid ((N9.out).bl (bl_alloc w (.cells #[txb body, .int .i64 limb, .int .i64 tlo, .int .i64 thi, .int .i64 hs, .int .i64 by_, .int .i64 hor, .int .i64 eye, .int .i64 shore, .int .i64 temp, .int .i64 press] 25)))
    have b0 := Lib.hid ((Below.refl w.heap.size w).alloc (Nat.le_refl _) (.cells #[txb body, .int .i64 limb, .int .i64 tlo, .int .i64 thi, .int .i64 hs, .int .i64 by_, .int .i64 hor, .int .i64 eye, .int .i64 shore, .int .i64 temp, .int .i64 press] 25))
    go_enter Tryz.func4, Tryz.ntmps4
    go_upto_region 1 with fail
    generalize (w.alloc (.cells #[txb body, .int .i64 limb, .int .i64 tlo, .int .i64 thi, .int .i64 hs, .int .i64 by_, .int .i64 hor, .int .i64 eye, .int .i64 shore, .int .i64 temp, .int .i64 press] 25)) = w1 at *
    go_wp2_with fail
    (with_reducible refine (KA.out _ N0.out).mono ?_)
    rintro e w2 ⟨rfl, hb⟩
    have S2 := Lib.hid (S0.out.below hb S0.out.lt)
    have N2 := Lib.hid (N0.out.bl hb)
    have b2 := Lib.hid (b0.out.trans (hb.mono b0.out.size))
    clear hb S0 N0 b0
    go_upto_region 3 with fail
    have yS : ∀ i, w2.cell? ⟨w.heap.size, i, none⟩ = (#[txb body, .int .i64 limb, .int .i64 tlo, .int .i64 thi, .int .i64 hs, .int .i64 by_, .int .i64 hor, .int .i64 eye, .int .i64 shore, .int .i64 temp, .int .i64 press] : Array Value)[i]? := fun i => S2.out.cell i
    go_upto_region 4 with fail
    go_wp2
    go_ret
    exact ⟨rfl, b2.out⟩
  have d1 : decide ((s.body.length : Int) > 100) = false := decide_eq_false (by omega)
  by_cases ht : t.length > 300
  · have d2 : decide ((t.length : Int) > 300) = true := decide_eq_true (by omega)
    clear hl ht
    obtain ⟨body, limb, tlo, thi, hs, by_, hor, eye, shore, temp, press⟩ := s
    simp only [] at *
    have S0 := Lib.hid (Blk.new w 25 #[txb body, .int .i64 limb, .int .i64 tlo, .int .i64 thi, .int .i64 hs, .int .i64 by_, .int .i64 hor, .int .i64 eye, .int .i64 shore, .int .i64 temp, .int .i64 press])
    have N0 := Lib.hid ((N9.out).bl (bl_alloc w (.cells #[txb body, .int .i64 limb, .int .i64 tlo, .int .i64 thi, .int .i64 hs, .int .i64 by_, .int .i64 hor, .int .i64 eye, .int .i64 shore, .int .i64 temp, .int .i64 press] 25)))
    have b0 := Lib.hid ((Below.refl w.heap.size w).alloc (Nat.le_refl _) (.cells #[txb body, .int .i64 limb, .int .i64 tlo, .int .i64 thi, .int .i64 hs, .int .i64 by_, .int .i64 hor, .int .i64 eye, .int .i64 shore, .int .i64 temp, .int .i64 press] 25))
    go_enter Tryz.func4, Tryz.ntmps4
    go_upto_region 1 with fail
    generalize (w.alloc (.cells #[txb body, .int .i64 limb, .int .i64 tlo, .int .i64 thi, .int .i64 hs, .int .i64 by_, .int .i64 hor, .int .i64 eye, .int .i64 shore, .int .i64 temp, .int .i64 press] 25)) = w1 at *
    go_wp2_with fail
    (with_reducible refine (KA.out _ N0.out).mono ?_)
    rintro e w2 ⟨rfl, hb⟩
    have S2 := Lib.hid (S0.out.below hb S0.out.lt)
    have N2 := Lib.hid (N0.out.bl hb)
    have b2 := Lib.hid (b0.out.trans (hb.mono b0.out.size))
    clear hb S0 N0 b0
    go_upto_region 3 with fail
    have yS : ∀ i, w2.cell? ⟨w.heap.size, i, none⟩ = (#[txb body, .int .i64 limb, .int .i64 tlo, .int .i64 thi, .int .i64 hs, .int .i64 by_, .int .i64 hor, .int .i64 eye, .int .i64 shore, .int .i64 temp, .int .i64 press] : Array Value)[i]? := fun i => S2.out.cell i
    go_upto_region 4 with fail
    go_wp2
    go_ret
    exact ⟨rfl, b2.out⟩
  · have d2 : decide ((t.length : Int) > 300) = false := decide_eq_false (by omega)
    have HP : Hid ((∃ E : Int, ¬ E = 0 ∧ ∀ W, En W → Calls Tryz.prog 11 #[tx t] W fun e w' => e = .returned (.tuple #[sg0, .int .i64 E]) ∧ Below W.heap.size W w') ∨
        (∃ (b : Bs) (a1 a2 a3 a4 a5 a6 a7 a8 a9 a10 : Int), (∀ W, En W → Calls Tryz.prog 11 #[tx t] W fun e w' => e = .returned (.tuple #[sgv b a1 a2 a3 a4 a5 a6 a7 a8 a9 a10, .int .i64 0]) ∧ Below W.heap.size W w') ∧
          (∀ W, En W → Calls Tryz.prog 8 #[sgv b a1 a2 a3 a4 a5 a6 a7 a8 a9 a10] W fun e w' => e = .returned (.tuple #[tx t, .int .i64 0]) ∧ Below W.heap.size W w') ∧
          (∀ W, Calls Tryz.prog 13 #[sgv b a1 a2 a3 a4 a5 a6 a7 a8 a9 a10] W fun e w' => e = .returned (.bool true) ∧ Below W.heap.size W w'))) := Lib.hid (by
      by_cases hg : ∃ s, GoodT s t
      · obtain ⟨p, hp⟩ := hg
        cases hv : siS p with
        | true =>
          have hx : TextOf p t := by
            obtain ⟨w0, w1, w2, w3, w4, w5, w6, w7, w8, w9, w10, w11, w12, h1, h2⟩ := hp
            exact good_text h1 h2
          exact .inr ⟨p.body, p.limb, p.lo, p.hi, p.hs, p.by_, p.hor, p.eye, p.shore, p.temp, p.press, fun W hW => cparse_ok hv hx W hW, fun W hW => ctext_ok hv hx W hW, fun W => by
            have h := correctV_any p.body p.limb p.lo p.hi p.hs p.by_ p.hor p.eye p.shore p.temp p.press W (by have := name_len (si_ok hv).na; omega)
            rw [show siB p.body p.limb p.lo p.hi p.hs p.by_ p.hor p.eye p.shore p.temp p.press = true from hv] at h
            exact h⟩
        | false =>
          refine .inl ⟨1, by omega, fun W hW => (cparse_any t W (by omega) hW).mono fun e w' ⟨hr, hb⟩ => ⟨?_, hb⟩⟩
          rcases hr with ⟨q, h, h2, _⟩ | ⟨_, _, _, h⟩ | ⟨h, _⟩
          · rw [goodT_one h hp, hv] at h2; cases h2
          · exact h
          · exact absurd ⟨p, hp⟩ h
      · refine .inl ⟨7, by omega, fun W hW => (cparse_any t W (by omega) hW).mono fun e w' ⟨hr, hb⟩ => ⟨?_, hb⟩⟩
        rcases hr with ⟨q, h, _⟩ | ⟨q, h, _⟩ | ⟨_, h⟩
        · exact absurd ⟨q, h⟩ hg
        · exact absurd ⟨q, h⟩ hg
        · exact h)
    have HC : Hid ((siS s = false ∧ ∀ W, En W → Calls Tryz.prog 8 #[sgS s] W fun e w' => e = .returned (.tuple #[tx [], .int .i64 1]) ∧ Below W.heap.size W w') ∨
        (∃ x : Bs, (∀ W, En W → Calls Tryz.prog 8 #[sgS s] W fun e w' => e = .returned (.tuple #[tx x, .int .i64 0]) ∧ Below W.heap.size W w') ∧ (∀ W, En W → Calls Tryz.prog 11 #[tx x] W fun e w' => e = .returned (.tuple #[sgS s, .int .i64 0]) ∧ Below W.heap.size W w') ∧
          ∀ W, (binOp .eql 25 (sgS s) (sgS s)).run Tryz.prog W = .ok (.bool true) W) ∨
        (siS s = true ∧ ∀ W, En W → Calls Tryz.prog 8 #[sgS s] W fun e w' => e = .returned (.tuple #[tx [], .int .i64 20]) ∧ Below W.heap.size W w')) := Lib.hid (by
      cases hv : siS s with
      | false =>
        refine .inl ⟨rfl, fun W hW => (ctext_any s W (by omega) hW).mono fun e w' ⟨hr, hb⟩ => ⟨?_, hb⟩⟩
        rcases hr with ⟨_, h⟩ | ⟨h, _⟩ | ⟨h, _⟩
        · exact h
        · rw [hv] at h; cases h
        · rw [hv] at h; cases h
      | true =>
        by_cases hx : ∃ x, TextOf s x
        · obtain ⟨x, hx⟩ := hx
          exact .inr (.inl ⟨x, fun W hW => ctext_ok hv hx W hW, fun W hW => cparse_ok hv hx W hW, fun W => by rw [run_eql_struct, eqInSight]; simp [Result.andThen, sgE]⟩)
        · refine .inr (.inr ⟨rfl, fun W hW => (ctext_any s W (by omega) hW).mono fun e w' ⟨hr, hb⟩ => ⟨?_, hb⟩⟩)
          rcases hr with ⟨h, _⟩ | ⟨_, x, h, _⟩ | ⟨_, _, h⟩
          · rw [hv] at h; cases h
          · exact absurd ⟨x, h⟩ hx
          · exact h)
    have KV : Hid (∀ W, Calls Tryz.prog 13 #[sgS s] W fun e w' => e = .returned (.bool (siS s)) ∧ Below W.heap.size W w') := Lib.hid fun W => correctV_any s.body s.limb s.lo s.hi s.hs s.by_ s.hor s.eye s.shore s.temp s.press W (by omega)
    obtain ⟨bv, hbv⟩ : ∃ b, siS s = b := ⟨_, rfl⟩
    rw [hbv] at HC KV
    clear hl ht hbv he
    obtain ⟨body, limb, tlo, thi, hs, by_, hor, eye, shore, temp, press⟩ := s
    simp only [] at *
    have S0 := Lib.hid (Blk.new w 25 #[txb body, .int .i64 limb, .int .i64 tlo, .int .i64 thi, .int .i64 hs, .int .i64 by_, .int .i64 hor, .int .i64 eye, .int .i64 shore, .int .i64 temp, .int .i64 press])
    have N0 := Lib.hid ((N9.out).bl (bl_alloc w (.cells #[txb body, .int .i64 limb, .int .i64 tlo, .int .i64 thi, .int .i64 hs, .int .i64 by_, .int .i64 hor, .int .i64 eye, .int .i64 shore, .int .i64 temp, .int .i64 press] 25)))
    have b0 := Lib.hid ((Below.refl w.heap.size w).alloc (Nat.le_refl _) (.cells #[txb body, .int .i64 limb, .int .i64 tlo, .int .i64 thi, .int .i64 hs, .int .i64 by_, .int .i64 hor, .int .i64 eye, .int .i64 shore, .int .i64 temp, .int .i64 press] 25))
    go_enter Tryz.func4, Tryz.ntmps4
    go_upto_region 1 with fail
    generalize (w.alloc (.cells #[txb body, .int .i64 limb, .int .i64 tlo, .int .i64 thi, .int .i64 hs, .int .i64 by_, .int .i64 hor, .int .i64 eye, .int .i64 shore, .int .i64 temp, .int .i64 press] 25)) = w1 at *
    go_wp2_with fail
    (with_reducible refine (KA.out _ N0.out).mono ?_)
    rintro e w2 ⟨rfl, hb⟩
    have S2 := Lib.hid (S0.out.below hb S0.out.lt)
    have N2 := Lib.hid (N0.out.bl hb)
    have b2 := Lib.hid (b0.out.trans (hb.mono b0.out.size))
    clear hb S0 N0 b0
    go_upto_region 3 with fail
    have yS : ∀ i, w2.cell? ⟨w.heap.size, i, none⟩ = (#[txb body, .int .i64 limb, .int .i64 tlo, .int .i64 thi, .int .i64 hs, .int .i64 by_, .int .i64 hor, .int .i64 eye, .int .i64 shore, .int .i64 temp, .int .i64 press] : Array Value)[i]? := fun i => S2.out.cell i
    go_upto_region 5 with fail
    clear yS
    rcases HP.out with ⟨E, hE, KP0⟩ | ⟨pbody, plimb, ptlo, pthi, phs, pby_, phor, peye, pshore, ptemp, ppress, KP0, KT0, KV0⟩
    ·
      replace KP0 := Lib.hid KP0
      go_wp2_with fail
      (with_reducible refine (KP0.out _ N2.out).mono ?_)
      rintro e w3 ⟨rfl, hb⟩
      have S3 := Lib.hid (S2.out.below hb S2.out.lt)
      have N3 := Lib.hid (N2.out.bl hb)
      have b3 := Lib.hid (b2.out.trans (hb.mono b2.out.size))
      clear hb S2 N2 b2
      have hE2 : (E == 0) = false := by simpa using hE
      have hE3 : ((E : Int) == 0) = false := hE2
      have S4 := Lib.hid (S3.out.alloc (.cells #[txb [], .int .i64 0, .int .i64 0, .int .i64 0, .int .i64 0, .int .i64 0, .int .i64 0, .int .i64 0, .int .i64 0, .int .i64 0, .int .i64 0] 25))
      have P4 := Lib.hid (Blk.new w3 25 #[txb [], .int .i64 0, .int .i64 0, .int .i64 0, .int .i64 0, .int .i64 0, .int .i64 0, .int .i64 0, .int .i64 0, .int .i64 0, .int .i64 0])
      have N4 := Lib.hid (N3.out.bl (bl_alloc w3 (.cells #[txb [], .int .i64 0, .int .i64 0, .int .i64 0, .int .i64 0, .int .i64 0, .int .i64 0, .int .i64 0, .int .i64 0, .int .i64 0, .int .i64 0] 25)))
      have b4 := Lib.hid (b3.out.trans ((bl_alloc w3 (.cells #[txb [], .int .i64 0, .int .i64 0, .int .i64 0, .int .i64 0, .int .i64 0, .int .i64 0, .int .i64 0, .int .i64 0, .int .i64 0, .int .i64 0] 25)).mono b3.out.size))
      clear S3 N3 b3
      go_upto_region 6 with fail
      generalize w3.alloc (.cells #[txb [], .int .i64 0, .int .i64 0, .int .i64 0, .int .i64 0, .int .i64 0, .int .i64 0, .int .i64 0, .int .i64 0, .int .i64 0, .int .i64 0] 25) = w5 at *
      go_upto_region 10 with fail
      have yS : ∀ i, w5.cell? ⟨w.heap.size, i, none⟩ = (#[txb body, .int .i64 limb, .int .i64 tlo, .int .i64 thi, .int .i64 hs, .int .i64 by_, .int .i64 hor, .int .i64 eye, .int .i64 shore, .int .i64 temp, .int .i64 press] : Array Value)[i]? := fun i => S4.out.cell i
      rcases HC.out with ⟨hv, KT⟩ | ⟨x, KT, KP, KQ⟩ | ⟨hv, KT⟩
      ·
        replace KT := Lib.hid KT
        go_wp2_with fail
        (with_reducible refine (KT.out _ N4.out).mono ?_)
        rintro e w6 ⟨rfl, hb⟩
        have S6 := Lib.hid (S4.out.below hb S4.out.lt)
        have P6 := Lib.hid (P4.out.below hb P4.out.lt)
        have N6 := Lib.hid (N4.out.bl hb)
        have b6 := Lib.hid (b4.out.trans (hb.mono b4.out.size))
        clear hb S4 P4 N4 b4 yS
        go_upto_region 11 with fail
        go_upto_region 12 with fail
        have yS : ∀ i, w6.cell? ⟨w.heap.size, i, none⟩ = (#[txb body, .int .i64 limb, .int .i64 tlo, .int .i64 thi, .int .i64 hs, .int .i64 by_, .int .i64 hor, .int .i64 eye, .int .i64 shore, .int .i64 temp, .int .i64 press] : Array Value)[i]? := fun i => S6.out.cell i
        replace KV := Lib.hid (fun W => KV.out W)
        rw [hv] at KV
        skip
        go_wp2_with (go_at_call 13; (with_reducible refine (KV.out _).mono ?_); rintro e w99 ⟨rfl, hb⟩)
        go_ret
        refine ⟨rfl, ?_⟩
        first | exact b6.out | exact b6.out.trans (hb.mono b6.out.size)
      ·
        replace KT := Lib.hid KT
        go_wp2_with fail
        (with_reducible refine (KT.out _ N4.out).mono ?_)
        rintro e w6 ⟨rfl, hb⟩
        have S6 := Lib.hid (S4.out.below hb S4.out.lt)
        have P6 := Lib.hid (P4.out.below hb P4.out.lt)
        have N6 := Lib.hid (N4.out.bl hb)
        have b6 := Lib.hid (b4.out.trans (hb.mono b4.out.size))
        clear hb S4 P4 N4 b4 yS
        go_upto_region 11 with fail
        replace KP := Lib.hid KP
        go_upto_region 13 with fail
        go_wp2_with fail
        (with_reducible refine (KP.out _ N6.out).mono ?_)
        rintro e w7 ⟨rfl, hb⟩
        have S7 := Lib.hid (S6.out.below hb S6.out.lt)
        have P7 := Lib.hid (P6.out.below hb P6.out.lt)
        have N7 := Lib.hid (N6.out.bl hb)
        have b7 := Lib.hid (b6.out.trans (hb.mono b6.out.size))
        clear hb S6 P6 N6 b6
        have S8 := Lib.hid (S7.out.alloc (.cells #[txb body, .int .i64 limb, .int .i64 tlo, .int .i64 thi, .int .i64 hs, .int .i64 by_, .int .i64 hor, .int .i64 eye, .int .i64 shore, .int .i64 temp, .int .i64 press] 25))
        have P8 := Lib.hid (P7.out.alloc (.cells #[txb body, .int .i64 limb, .int .i64 tlo, .int .i64 thi, .int .i64 hs, .int .i64 by_, .int .i64 hor, .int .i64 eye, .int .i64 shore, .int .i64 temp, .int .i64 press] 25))
        have Q8 := Lib.hid (Blk.new w7 25 #[txb body, .int .i64 limb, .int .i64 tlo, .int .i64 thi, .int .i64 hs, .int .i64 by_, .int .i64 hor, .int .i64 eye, .int .i64 shore, .int .i64 temp, .int .i64 press])
        have N8 := Lib.hid (N7.out.bl (bl_alloc w7 (.cells #[txb body, .int .i64 limb, .int .i64 tlo, .int .i64 thi, .int .i64 hs, .int .i64 by_, .int .i64 hor, .int .i64 eye, .int .i64 shore, .int .i64 temp, .int .i64 press] 25)))
        have b8 := Lib.hid (b7.out.trans ((bl_alloc w7 (.cells #[txb body, .int .i64 limb, .int .i64 tlo, .int .i64 thi, .int .i64 hs, .int .i64 by_, .int .i64 hor, .int .i64 eye, .int .i64 shore, .int .i64 temp, .int .i64 press] 25)).mono b7.out.size))
        clear S7 P7 N7 b7
        go_upto_region 14 with fail
        generalize w7.alloc (.cells #[txb body, .int .i64 limb, .int .i64 tlo, .int .i64 thi, .int .i64 hs, .int .i64 by_, .int .i64 hor, .int .i64 eye, .int .i64 shore, .int .i64 temp, .int .i64 press] 25) = w9 at *
        have yS : ∀ i, w9.cell? ⟨w.heap.size, i, none⟩ = (#[txb body, .int .i64 limb, .int .i64 tlo, .int .i64 thi, .int .i64 hs, .int .i64 by_, .int .i64 hor, .int .i64 eye, .int .i64 shore, .int .i64 temp, .int .i64 press] : Array Value)[i]? := fun i => S8.out.cell i
        have yQ : ∀ i, w9.cell? ⟨w7.heap.size, i, none⟩ = (#[txb body, .int .i64 limb, .int .i64 tlo, .int .i64 thi, .int .i64 hs, .int .i64 by_, .int .i64 hor, .int .i64 eye, .int .i64 shore, .int .i64 temp, .int .i64 press] : Array Value)[i]? := fun i => Q8.out.cell i
        have hS := KQ
        go_wp2
        go_ret
        exact ⟨rfl, b8.out⟩
      ·
        replace KT := Lib.hid KT
        go_wp2_with fail
        (with_reducible refine (KT.out _ N4.out).mono ?_)
        rintro e w6 ⟨rfl, hb⟩
        have S6 := Lib.hid (S4.out.below hb S4.out.lt)
        have P6 := Lib.hid (P4.out.below hb P4.out.lt)
        have N6 := Lib.hid (N4.out.bl hb)
        have b6 := Lib.hid (b4.out.trans (hb.mono b4.out.size))
        clear hb S4 P4 N4 b4 yS
        go_upto_region 11 with fail
        go_upto_region 12 with fail
        have yS : ∀ i, w6.cell? ⟨w.heap.size, i, none⟩ = (#[txb body, .int .i64 limb, .int .i64 tlo, .int .i64 thi, .int .i64 hs, .int .i64 by_, .int .i64 hor, .int .i64 eye, .int .i64 shore, .int .i64 temp, .int .i64 press] : Array Value)[i]? := fun i => S6.out.cell i
        go_wp2_with (go_at_call 13; (with_reducible refine (KV.out _).mono ?_); rintro e w99 ⟨rfl, hb⟩)
        go_ret
        refine ⟨rfl, ?_⟩
        first | exact b6.out | exact b6.out.trans (hb.mono b6.out.size)
    ·
      replace KP0 := Lib.hid KP0
      replace KT0 := Lib.hid KT0
      replace KV0 := Lib.hid KV0
      go_wp2_with fail
      (with_reducible refine (KP0.out _ N2.out).mono ?_)
      rintro e w3 ⟨rfl, hb⟩
      have S3 := Lib.hid (S2.out.below hb S2.out.lt)
      have N3 := Lib.hid (N2.out.bl hb)
      have b3 := Lib.hid (b2.out.trans (hb.mono b2.out.size))
      clear hb S2 N2 b2
      have S4 := Lib.hid (S3.out.alloc (.cells #[txb pbody, .int .i64 plimb, .int .i64 ptlo, .int .i64 pthi, .int .i64 phs, .int .i64 pby_, .int .i64 phor, .int .i64 peye, .int .i64 pshore, .int .i64 ptemp, .int .i64 ppress] 25))
      have P4 := Lib.hid (Blk.new w3 25 #[txb pbody, .int .i64 plimb, .int .i64 ptlo, .int .i64 pthi, .int .i64 phs, .int .i64 pby_, .int .i64 phor, .int .i64 peye, .int .i64 pshore, .int .i64 ptemp, .int .i64 ppress])
      have N4 := Lib.hid (N3.out.bl (bl_alloc w3 (.cells #[txb pbody, .int .i64 plimb, .int .i64 ptlo, .int .i64 pthi, .int .i64 phs, .int .i64 pby_, .int .i64 phor, .int .i64 peye, .int .i64 pshore, .int .i64 ptemp, .int .i64 ppress] 25)))
      have b4 := Lib.hid (b3.out.trans ((bl_alloc w3 (.cells #[txb pbody, .int .i64 plimb, .int .i64 ptlo, .int .i64 pthi, .int .i64 phs, .int .i64 pby_, .int .i64 phor, .int .i64 peye, .int .i64 pshore, .int .i64 ptemp, .int .i64 ppress] 25)).mono b3.out.size))
      clear S3 N3 b3
      go_upto_region 6 with fail
      generalize w3.alloc (.cells #[txb pbody, .int .i64 plimb, .int .i64 ptlo, .int .i64 pthi, .int .i64 phs, .int .i64 pby_, .int .i64 phor, .int .i64 peye, .int .i64 pshore, .int .i64 ptemp, .int .i64 ppress] 25) = w5 at *
      go_upto_region 7 with fail
      have yP : ∀ i, w5.cell? ⟨w3.heap.size, i, none⟩ = (#[txb pbody, .int .i64 plimb, .int .i64 ptlo, .int .i64 pthi, .int .i64 phs, .int .i64 pby_, .int .i64 phor, .int .i64 peye, .int .i64 pshore, .int .i64 ptemp, .int .i64 ppress] : Array Value)[i]? := fun i => P4.out.cell i
      go_wp2_with fail
      (with_reducible refine (KT0.out _ N4.out).mono ?_)
      rintro e w6 ⟨rfl, hb⟩
      have S6 := Lib.hid (S4.out.below hb S4.out.lt)
      have P6 := Lib.hid (P4.out.below hb P4.out.lt)
      have N6 := Lib.hid (N4.out.bl hb)
      have b6 := Lib.hid (b4.out.trans (hb.mono b4.out.size))
      clear hb S4 P4 N4 b4 yP
      go_upto_region 8 with fail
      have yP : ∀ i, w6.cell? ⟨w3.heap.size, i, none⟩ = (#[txb pbody, .int .i64 plimb, .int .i64 ptlo, .int .i64 pthi, .int .i64 phs, .int .i64 pby_, .int .i64 phor, .int .i64 peye, .int .i64 pshore, .int .i64 ptemp, .int .i64 ppress] : Array Value)[i]? := fun i => P6.out.cell i
      go_wp2_with fail
      (with_reducible refine (KV0.out _).mono ?_)
      rintro e w7 ⟨rfl, hb⟩
      have S7 := Lib.hid (S6.out.below hb S6.out.lt)
      have P7 := Lib.hid (P6.out.below hb P6.out.lt)
      have N7 := Lib.hid (N6.out.bl hb)
      have b7 := Lib.hid (b6.out.trans (hb.mono b6.out.size))
      clear hb S6 P6 N6 b6 yP
      go_upto_region 10 with fail
      have yS : ∀ i, w7.cell? ⟨w.heap.size, i, none⟩ = (#[txb body, .int .i64 limb, .int .i64 tlo, .int .i64 thi, .int .i64 hs, .int .i64 by_, .int .i64 hor, .int .i64 eye, .int .i64 shore, .int .i64 temp, .int .i64 press] : Array Value)[i]? := fun i => S7.out.cell i
      rcases HC.out with ⟨hv, KT⟩ | ⟨x, KT, KP, KQ⟩ | ⟨hv, KT⟩
      ·
        replace KT := Lib.hid KT
        go_wp2_with fail
        (with_reducible refine (KT.out _ N7.out).mono ?_)
        rintro e w8 ⟨rfl, hb⟩
        have S8 := Lib.hid (S7.out.below hb S7.out.lt)
        have P8 := Lib.hid (P7.out.below hb P7.out.lt)
        have N8 := Lib.hid (N7.out.bl hb)
        have b8 := Lib.hid (b7.out.trans (hb.mono b7.out.size))
        clear hb S7 P7 N7 b7 yS
        go_upto_region 11 with fail
        go_upto_region 12 with fail
        have yS : ∀ i, w8.cell? ⟨w.heap.size, i, none⟩ = (#[txb body, .int .i64 limb, .int .i64 tlo, .int .i64 thi, .int .i64 hs, .int .i64 by_, .int .i64 hor, .int .i64 eye, .int .i64 shore, .int .i64 temp, .int .i64 press] : Array Value)[i]? := fun i => S8.out.cell i
        replace KV := Lib.hid (fun W => KV.out W)
        rw [hv] at KV
        skip
        go_wp2_with (go_at_call 13; (with_reducible refine (KV.out _).mono ?_); rintro e w99 ⟨rfl, hb⟩)
        go_ret
        refine ⟨rfl, ?_⟩
        first | exact b8.out | exact b8.out.trans (hb.mono b8.out.size)
      ·
        replace KT := Lib.hid KT
        go_wp2_with fail
        (with_reducible refine (KT.out _ N7.out).mono ?_)
        rintro e w8 ⟨rfl, hb⟩
        have S8 := Lib.hid (S7.out.below hb S7.out.lt)
        have P8 := Lib.hid (P7.out.below hb P7.out.lt)
        have N8 := Lib.hid (N7.out.bl hb)
        have b8 := Lib.hid (b7.out.trans (hb.mono b7.out.size))
        clear hb S7 P7 N7 b7 yS
        go_upto_region 11 with fail
        replace KP := Lib.hid KP
        go_upto_region 13 with fail
        go_wp2_with fail
        (with_reducible refine (KP.out _ N8.out).mono ?_)
        rintro e w9 ⟨rfl, hb⟩
        have S9 := Lib.hid (S8.out.below hb S8.out.lt)
        have P9 := Lib.hid (P8.out.below hb P8.out.lt)
        have N9 := Lib.hid (N8.out.bl hb)
        have b9 := Lib.hid (b8.out.trans (hb.mono b8.out.size))
        clear hb S8 P8 N8 b8
        have S10 := Lib.hid (S9.out.alloc (.cells #[txb body, .int .i64 limb, .int .i64 tlo, .int .i64 thi, .int .i64 hs, .int .i64 by_, .int .i64 hor, .int .i64 eye, .int .i64 shore, .int .i64 temp, .int .i64 press] 25))
        have P10 := Lib.hid (P9.out.alloc (.cells #[txb body, .int .i64 limb, .int .i64 tlo, .int .i64 thi, .int .i64 hs, .int .i64 by_, .int .i64 hor, .int .i64 eye, .int .i64 shore, .int .i64 temp, .int .i64 press] 25))
        have Q10 := Lib.hid (Blk.new w9 25 #[txb body, .int .i64 limb, .int .i64 tlo, .int .i64 thi, .int .i64 hs, .int .i64 by_, .int .i64 hor, .int .i64 eye, .int .i64 shore, .int .i64 temp, .int .i64 press])
        have N10 := Lib.hid (N9.out.bl (bl_alloc w9 (.cells #[txb body, .int .i64 limb, .int .i64 tlo, .int .i64 thi, .int .i64 hs, .int .i64 by_, .int .i64 hor, .int .i64 eye, .int .i64 shore, .int .i64 temp, .int .i64 press] 25)))
        have b10 := Lib.hid (b9.out.trans ((bl_alloc w9 (.cells #[txb body, .int .i64 limb, .int .i64 tlo, .int .i64 thi, .int .i64 hs, .int .i64 by_, .int .i64 hor, .int .i64 eye, .int .i64 shore, .int .i64 temp, .int .i64 press] 25)).mono b9.out.size))
        clear S9 P9 N9 b9
        go_upto_region 14 with fail
        generalize w9.alloc (.cells #[txb body, .int .i64 limb, .int .i64 tlo, .int .i64 thi, .int .i64 hs, .int .i64 by_, .int .i64 hor, .int .i64 eye, .int .i64 shore, .int .i64 temp, .int .i64 press] 25) = w11 at *
        have yS : ∀ i, w11.cell? ⟨w.heap.size, i, none⟩ = (#[txb body, .int .i64 limb, .int .i64 tlo, .int .i64 thi, .int .i64 hs, .int .i64 by_, .int .i64 hor, .int .i64 eye, .int .i64 shore, .int .i64 temp, .int .i64 press] : Array Value)[i]? := fun i => S10.out.cell i
        have yQ : ∀ i, w11.cell? ⟨w9.heap.size, i, none⟩ = (#[txb body, .int .i64 limb, .int .i64 tlo, .int .i64 thi, .int .i64 hs, .int .i64 by_, .int .i64 hor, .int .i64 eye, .int .i64 shore, .int .i64 temp, .int .i64 press] : Array Value)[i]? := fun i => Q10.out.cell i
        have hS := KQ
        go_wp2
        go_ret
        exact ⟨rfl, b10.out⟩
      ·
        replace KT := Lib.hid KT
        go_wp2_with fail
        (with_reducible refine (KT.out _ N7.out).mono ?_)
        rintro e w8 ⟨rfl, hb⟩
        have S8 := Lib.hid (S7.out.below hb S7.out.lt)
        have P8 := Lib.hid (P7.out.below hb P7.out.lt)
        have N8 := Lib.hid (N7.out.bl hb)
        have b8 := Lib.hid (b7.out.trans (hb.mono b7.out.size))
        clear hb S7 P7 N7 b7 yS
        go_upto_region 11 with fail
        go_upto_region 12 with fail
        have yS : ∀ i, w8.cell? ⟨w.heap.size, i, none⟩ = (#[txb body, .int .i64 limb, .int .i64 tlo, .int .i64 thi, .int .i64 hs, .int .i64 by_, .int .i64 hor, .int .i64 eye, .int .i64 shore, .int .i64 temp, .int .i64 press] : Array Value)[i]? := fun i => S8.out.cell i
        go_wp2_with (go_at_call 13; (with_reducible refine (KV.out _).mono ?_); rintro e w99 ⟨rfl, hb⟩)
        go_ret
        refine ⟨rfl, ?_⟩
        first | exact b8.out | exact b8.out.trans (hb.mono b8.out.size)
end Go.Proofs.YtbpnacacnncopaaGreatDoor
