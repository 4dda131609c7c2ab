/- correct.Reading of what is no altitude; what Work and Reading answer of a sight without Within. -/
import Derived.Test.YtbpnacacnncopaaGreatDoorHYx
import Derived.Test.YtbpnacacnncopaaGreatDoorHXm
import Derived.Test.YtbpnacacnncopaaGreatDoorHPi
set_option linter.unusedVariables false
set_option linter.unusedSimpArgs false
namespace Go.Proofs.YtbpnacacnncopaaGreatDoor
open Go.RowKit Frm
def exS : Sgt := ⟨[83, 116, 97, 114], 1, 0, 0, 2400000, 0, 1, 400, 0, 100, 10100⟩
theorem ex_si : siS exS = true := by decide +kernel
theorem ex_giv : givB 0 [] exS 0 0 0 0 = true := by decide +kernel
theorem ex_dep : depA exS = 3520 ∧ depB exS = 3520 := by
  have h : dpL 400 = 3520 := isq_one (by omega) (by omega) (by omega)
  have h2 : dpH 400 = 3520 := by unfold dpH; rw [h]; rfl
  exact ⟨show ((dpL 400 : Nat) : Int) = 3520 by rw [h]; rfl, show ((dpH 400 : Nat) : Int) = 3520 by rw [h2]; rfl⟩
theorem ex_co : coA 0 [] 2400000 = 0 ∧ coB 0 [] 2400000 = 0 := by decide +kernel
theorem ex_ha : haA 0 [] exS = 2396480 ∧ haB 0 [] exS = 2396480 := by
  have h1 : apA 0 [] exS = 2400000 - 0 + coA 0 [] 2400000 := rfl
  have h2 : apB 0 [] exS = 2400000 + 0 + coB 0 [] 2400000 := rfl
  unfold haA haB
  rw [h1, h2, ex_co.1, ex_co.2, ex_dep.1, ex_dep.2]
  decide
theorem ex_in : inHa 0 [] exS = true := by unfold inHa; rw [ex_ha.1, ex_ha.2]; decide
theorem ex_ho : 2395000 < hoA 0 [] exS 0 0 0 0 ∧ hoB 0 [] exS 0 0 0 0 < 2396000 := by
  unfold hoA hoB
  rw [ex_ha.1, ex_ha.2]
  decide +kernel
theorem inst_zero : ∃ f, IsInst 0 f := ⟨_, ⟨2000, 1, 1⟩, by have := (vd_of (y := 2000) (m := 1) (d := 1) (by decide +kernel)).1; exact this, by decide +kernel, rfl⟩
theorem ex_text : ∃ x, TextOf exS x := by
  obtain ⟨f, hf⟩ := inst_zero
  exact ⟨_, f, f, hf, hf, rfl⟩
/-- texts of sights are short -/
theorem text_short {s : Sgt} {x : Bs} (hv : siS s = true) (h : TextOf s x) : x.length ≤ 300 := by
  obtain ⟨f, l, hf, hl, rfl⟩ := h
  have k := si_ok hv
  have a1 := inst_len hf
  have a2 := inst_len hl
  have b1 := limb_len k.limb.1 k.limb.2
  have b2 := hor_len k.hor.1 k.hor.2
  have c1 := text_len (n := s.hs) (by have := k.hs; omega)
  have c2 := text_len (n := s.by_) (by have := k.by_; omega)
  have d0 := name_len k.na
  have d1 := itoa_short (n := s.eye) (by have := k.eye; omega)
  have d2 := itoa_short (n := s.shore) (by have := k.shore; omega)
  have d3 := itoa_short (n := s.temp) (by have := k.temp; omega)
  have d4 := itoa_short (n := s.press) (by have := k.press; omega)
  simp only [txtW, SW.jn, List.length_append, List.length_cons, List.length_nil]
  omega
theorem ctext_ok {s : Sgt} {x : Bs} (hv : siS s = true) (hx : TextOf s x) (w : World) (he : En w) : Calls Tryz.prog 8 #[sgS s] w fun e w' => e = .returned (.tuple #[tx x, .int .i64 0]) ∧ Below w.heap.size w w' :=
  (ctext_any s w (by have := name_len (si_ok hv).na; omega) he).mono fun e w' ⟨hr, hb⟩ => by
    refine ⟨?_, hb⟩
    rcases hr with ⟨h, _⟩ | ⟨_, y, hy, _, h⟩ | ⟨_, h, _⟩
    · rw [hv] at h; cases h
    · rw [text_one hx hy]; exact h
    · exact absurd ⟨x, hx⟩ h
theorem goodT_one {s t : Sgt} {x : Bs} (h : GoodT s x) (k : GoodT t x) : s = t := by
  obtain ⟨w0, w1, w2, w3, w4, w5, w6, w7, w8, w9, w10, w11, w12, h1, h2⟩ := h
  obtain ⟨v0, v1, v2, v3, v4, v5, v6, v7, v8, v9, v10, v11, v12, k1, k2⟩ := k
  rw [h1] at k1
  simp only [List.cons.injEq, and_true] at k1
  obtain ⟨rfl, rfl, rfl, rfl, rfl, rfl, rfl, rfl, rfl, rfl, rfl, rfl, rfl⟩ := k1
  exact good_one h2 k2
theorem cparse_ok {s : Sgt} {x : Bs} (hv : siS s = true) (hx : TextOf s x) (w : World) (he : En w) : Calls Tryz.prog 11 #[tx x] w fun e w' => e = .returned (.tuple #[sgS s, .int .i64 0]) ∧ Below w.heap.size w w' :=
  (cparse_any x w (text_short hv hx) he).mono fun e w' ⟨hr, hb⟩ => by
    refine ⟨?_, hb⟩
    have hg : GoodT s x := by
      obtain ⟨w0, w1, w2, w3, w4, w5, w6, w7, w8, w9, w10, w11, w12, h1, h2⟩ := text_good hv hx
      exact ⟨w0, w1, w2, w3, w4, w5, w6, w7, w8, w9, w10, w11, w12, h1, h2⟩
    have one : ∀ t, GoodT t x → t = s := fun t ht => goodT_one ht hg
    rcases hr with ⟨t, h, _, h2⟩ | ⟨t, h, h2, _⟩ | ⟨h, _⟩
    · rw [one t h] at h2; exact h2
    · rw [one t h, hv] at h2; cases h2
    · exact absurd ⟨s, hg⟩ h
theorem example_any (n : Int) (w : World) : Calls Tryz.prog 20 #[.int .i64 n] w fun e w' => e = .returned (sgv [83, 116, 97, 114] 1 0 0 n 0 1 400 0 100 10100) ∧ Below w.heap.size w w' := by
  go_enter Tryz.func20, Tryz.ntmps20
  go_wp2
  refine bodyPost_ret (v := sgv [83, 116, 97, 114] 1 0 0 n 0 1 400 0 100 10100) (by simp [results, Tryz.results20, go_sem, *]; done) rfl ⟨rfl, ?_⟩
  repeat (first | exact Below.refl _ _ | assumption | refine bl_drew ?_ | refine bl_drewN ?_ _ | refine Below.setCell ?_ (by first | assumption | omega | (simp; done) | (simp; omega)) _ | refine Below.alloc ?_ (by first | assumption | omega | (simp; done) | (simp; omega)) _)
theorem work_ex : ∃ r0 r1 x0 x1 s0 s1 h0 h1 : Int, 2395000 < h0 ∧ h1 < 2396000 ∧ ∀ w, Calls Tryz.prog 16 #[.agg #[.int .i64 0, .slice none 0 0], sgv [83, 116, 97, 114] 1 0 0 2400000 0 1 400 0 100 10100, .agg #[.int .i64 0, .int .i64 0, .int .i64 0, .int .i64 0, .int .i64 0, .int .i64 0, .int .i64 0, .int .i64 0]] w fun e w' => e = .returned (.tuple #[wkV 0 0 3520 3520 r0 r1 x0 x1 s0 s1 2396480 2396480 h0 h1, .int .i64 0]) ∧ Below w.heap.size w w' := by
  refine ⟨rfL (haB 0 [] exS) 100 10100, rfH (haA 0 [] exS) 100 10100, pxA 0 0 (haA 0 [] exS) (haB 0 [] exS), pxB 0 0 (haA 0 [] exS) (haB 0 [] exS), seA 1 0 0 0 0 (haA 0 [] exS) (haB 0 [] exS), seB 1 0 0 0 0 (haA 0 [] exS) (haB 0 [] exS), _, _, ex_ho.1, ex_ho.2, fun w => (Work_any 0 [] none 0 0 exS 0 0 0 0 0 0 0 0 w (.inl rfl) rfl (by omega) (by decide)).mono fun e w' ⟨hr, hb⟩ => ⟨?_, hb⟩⟩
  rcases hr with ⟨h, _⟩ | ⟨_, h, _⟩ | ⟨_, _, h⟩
  · rw [ex_giv] at h; cases h
  · rw [ex_in] at h; cases h
  · have e1 : coA 0 [] exS.hs = 0 := ex_co.1
    have e2 : coB 0 [] exS.hs = 0 := ex_co.2
    have e3 : wkS 0 [] exS 0 0 0 0 = wkV (coA 0 [] exS.hs) (coB 0 [] exS.hs) (depA exS) (depB exS) (rfL (haB 0 [] exS) 100 10100) (rfH (haA 0 [] exS) 100 10100) (pxA 0 0 (haA 0 [] exS) (haB 0 [] exS)) (pxB 0 0 (haA 0 [] exS) (haB 0 [] exS)) (seA 1 0 0 0 0 (haA 0 [] exS) (haB 0 [] exS)) (seB 1 0 0 0 0 (haA 0 [] exS) (haB 0 [] exS)) (haA 0 [] exS) (haB 0 [] exS) (hoA 0 [] exS 0 0 0 0) (hoB 0 [] exS 0 0 0 0) := rfl
    rw [h, e3, e1, e2, ex_dep.1, ex_dep.2, ex_ha.1, ex_ha.2]
end Go.Proofs.YtbpnacacnncopaaGreatDoor
namespace Go.Proofs.YtbpnacacnncopaaGreatDoor
open Go.RowKit Frm
theorem ex_sg : sgS exS = sgv [83, 116, 97, 114] 1 0 0 2400000 0 1 400 0 100 10100 := rfl
set_option maxHeartbeats 400000 in
set_option maxRecDepth 100000 in
theorem awake22_any (w : World) (he : En w) : Calls Tryz.prog 7 #[] w fun e w' => e = .returned (.bool true) ∧ Below w.heap.size w w' := by
  have KX := Lib.hid example_any
  obtain ⟨r0, r1, x0, x1, s0, s1, h0, h1, hh0, hh1, hW⟩ := work_ex
  have KW := Lib.hid hW
  obtain ⟨x, hx⟩ := ex_text
  have hT : ∀ w, En w → Calls Tryz.prog 8 #[sgv [83, 116, 97, 114] 1 0 0 2400000 0 1 400 0 100 10100] w fun e w' => e = .returned (.tuple #[tx x, .int .i64 0]) ∧ Below w.heap.size w w' := by
    have h := fun w he => ctext_ok ex_si hx w he
    simp only [ex_sg] at h
    exact h
  have KT := Lib.hid hT
  have hP : ∀ w, En w → Calls Tryz.prog 11 #[tx x] w fun e w' => e = .returned (.tuple #[sgv [83, 116, 97, 114] 1 0 0 2400000 0 1 400 0 100 10100, .int .i64 0]) ∧ Below w.heap.size w w' := by
    have h := fun w he => cparse_ok ex_si hx w he
    simp only [ex_sg] at h
    exact h
  have KP := Lib.hid hP
  have d0 : decide (h0 > 2395000) = true := decide_eq_true hh0
  have d1 : decide (h1 < 2396000) = true := decide_eq_true hh1
  have hA : ∀ a b W, (binOp .eql 41 (tiv a b) (tiv a b)).run Tryz.prog W = .ok (.bool true) W := fun a b W => by rw [run_eql_struct, show (10000 : Nat) = 9998 + 1 + 1 from rfl, eqInArc]; simp [Result.andThen]
  have hS : ∀ W, (binOp .eql 25 (sgv [83, 116, 97, 114] 1 0 0 2400000 0 1 400 0 100 10100) (sgv [83, 116, 97, 114] 1 0 0 2400000 0 1 400 0 100 10100)).run Tryz.prog W = .ok (.bool true) W := fun W => by rw [run_eql_struct, eqInSight]; simp [Result.andThen, sgE]
  have N9 := Lib.hid he
  clear hW hx he hT hP
  have N0 := Lib.hid (N9.out)
  have b0 := Lib.hid (Below.refl w.heap.size w)
  go_enter Tryz.func7, Tryz.ntmps7
  go_wp2_with fail
  (with_reducible refine (KX.out 2400000 _).mono ?_)
  rintro e w1 ⟨rfl, hb⟩
  have N1 := Lib.hid (N0.out.bl hb)
  have b1 := Lib.hid (b0.out.trans (hb.mono b0.out.size))
  clear hb N0 b0
  go_wp2_with fail
  (with_reducible refine (KW.out _).mono ?_)
  rintro e w2 ⟨rfl, hb⟩
  have N2 := Lib.hid (N1.out.bl hb)
  have b2 := Lib.hid (b1.out.trans (hb.mono b1.out.size))
  clear hb N1 b1
  have W3 := Lib.hid (Blk.new w2 46 #[.int .i64 0, .int .i64 0, .int .i64 3520, .int .i64 3520, .int .i64 r0, .int .i64 r1, .int .i64 x0, .int .i64 x1, .int .i64 s0, .int .i64 s1, .int .i64 2396480, .int .i64 2396480, .int .i64 h0, .int .i64 h1])
  have N3 := Lib.hid (N2.out.bl (bl_alloc w2 (.cells #[.int .i64 0, .int .i64 0, .int .i64 3520, .int .i64 3520, .int .i64 r0, .int .i64 r1, .int .i64 x0, .int .i64 x1, .int .i64 s0, .int .i64 s1, .int .i64 2396480, .int .i64 2396480, .int .i64 h0, .int .i64 h1] 46)))
  have b3 := Lib.hid (b2.out.trans ((bl_alloc w2 (.cells #[.int .i64 0, .int .i64 0, .int .i64 3520, .int .i64 3520, .int .i64 r0, .int .i64 r1, .int .i64 x0, .int .i64 x1, .int .i64 s0, .int .i64 s1, .int .i64 2396480, .int .i64 2396480, .int .i64 h0, .int .i64 h1] 46)).mono b2.out.size))
  clear N2 b2
  go_upto_region 2 with fail
  generalize w2.alloc (.cells #[.int .i64 0, .int .i64 0, .int .i64 3520, .int .i64 3520, .int .i64 r0, .int .i64 r1, .int .i64 x0, .int .i64 x1, .int .i64 s0, .int .i64 s1, .int .i64 2396480, .int .i64 2396480, .int .i64 h0, .int .i64 h1] 46) = w4 at *
  go_wp2_with fail
  (with_reducible refine (KX.out 2400000 _).mono ?_)
  rintro e w5 ⟨rfl, hb⟩
  have W5 := Lib.hid (W3.out.below hb W3.out.lt)
  have N5 := Lib.hid (N3.out.bl hb)
  have b5 := Lib.hid (b3.out.trans (hb.mono b3.out.size))
  clear hb W3 N3 b3
  go_wp2_with fail
  (with_reducible refine (KT.out _ N5.out).mono ?_)
  rintro e w6 ⟨rfl, hb⟩
  have W6 := Lib.hid (W5.out.below hb W5.out.lt)
  have N6 := Lib.hid (N5.out.bl hb)
  have b6 := Lib.hid (b5.out.trans (hb.mono b5.out.size))
  clear hb W5 N5 b5
  go_upto_region 3 with fail
  go_wp2_with fail
  (with_reducible refine (KP.out _ N6.out).mono ?_)
  rintro e w7 ⟨rfl, hb⟩
  have W7 := Lib.hid (W6.out.below hb W6.out.lt)
  have N7 := Lib.hid (N6.out.bl hb)
  have b7 := Lib.hid (b6.out.trans (hb.mono b6.out.size))
  clear hb W6 N6 b6
  have W8 := Lib.hid (W7.out.alloc (.cells #[txb [83, 116, 97, 114], .int .i64 1, .int .i64 0, .int .i64 0, .int .i64 2400000, .int .i64 0, .int .i64 1, .int .i64 400, .int .i64 0, .int .i64 100, .int .i64 10100] 25))
  have P8 := Lib.hid (Blk.new w7 25 #[txb [83, 116, 97, 114], .int .i64 1, .int .i64 0, .int .i64 0, .int .i64 2400000, .int .i64 0, .int .i64 1, .int .i64 400, .int .i64 0, .int .i64 100, .int .i64 10100])
  have N8 := Lib.hid (N7.out.bl (bl_alloc w7 (.cells #[txb [83, 116, 97, 114], .int .i64 1, .int .i64 0, .int .i64 0, .int .i64 2400000, .int .i64 0, .int .i64 1, .int .i64 400, .int .i64 0, .int .i64 100, .int .i64 10100] 25)))
  have b8 := Lib.hid (b7.out.trans ((bl_alloc w7 (.cells #[txb [83, 116, 97, 114], .int .i64 1, .int .i64 0, .int .i64 0, .int .i64 2400000, .int .i64 0, .int .i64 1, .int .i64 400, .int .i64 0, .int .i64 100, .int .i64 10100] 25)).mono b7.out.size))
  clear W7 N7 b7
  go_upto_region 4 with fail
  generalize w7.alloc (.cells #[txb [83, 116, 97, 114], .int .i64 1, .int .i64 0, .int .i64 0, .int .i64 2400000, .int .i64 0, .int .i64 1, .int .i64 400, .int .i64 0, .int .i64 100, .int .i64 10100] 25) = w9 at *
  have yW : ∀ (s : BQ w9) i, s.w.cell? ⟨w2.heap.size, i, none⟩ = (#[.int .i64 0, .int .i64 0, .int .i64 3520, .int .i64 3520, .int .i64 r0, .int .i64 r1, .int .i64 x0, .int .i64 x1, .int .i64 s0, .int .i64 s1, .int .i64 2396480, .int .i64 2396480, .int .i64 h0, .int .i64 h1] : Array Value)[i]? := fun s i => (W8.out.below s.hb W8.out.lt).cell i
  have yP : ∀ (s : BQ w9) i, s.w.cell? ⟨w7.heap.size, i, none⟩ = (#[txb [83, 116, 97, 114], .int .i64 1, .int .i64 0, .int .i64 0, .int .i64 2400000, .int .i64 0, .int .i64 1, .int .i64 400, .int .i64 0, .int .i64 100, .int .i64 10100] : Array Value)[i]? := fun s i => (P8.out.below s.hb P8.out.lt).cell i
  refine wp_region_bq w9 (by kernel_rfl) (by kernel_rfl) (Below.refl _ _) ?_
  repeat (go_big_quiet_step (first | (go_at_call 20; exact quiet_bq (KX.out _ _)) | fail))
  refine wpQuiet_nil ?_
  intro w10 hb
  have W10 := Lib.hid (W8.out.below hb W8.out.lt)
  have P10 := Lib.hid (P8.out.below hb P8.out.lt)
  have N10 := Lib.hid (N8.out.bl hb)
  have b10 := Lib.hid (b8.out.trans (hb.mono b8.out.size))
  clear hb W8 P8 N8 b8 yW yP
  go_wp2
  go_ret
  exact ⟨rfl, b10.out⟩
end Go.Proofs.YtbpnacacnncopaaGreatDoor
namespace Go.Proofs.YtbpnacacnncopaaGreatDoor
open Go.RowKit Frm
theorem short22_any (i : Int) (A : Option Addr) (n c : Nat) (x : Bs) (a b d e f g h j k l : Int) (w : World) : Calls Tryz.prog 14 #[.agg #[.int .i64 i, .slice A n c], sgv x a b d e f g h j k l] w fun e w' => e = .returned (.bool (decide (n ≤ 60) && decide (x.length ≤ 100))) ∧ Below w.heap.size w w' := by
  have hs := txb_size x
  by_cases h1 : n ≤ 60
  · have d1 : decide ((n : Int) ≤ 60) = true := decide_eq_true (by omega)
    by_cases h2 : x.length ≤ 100
    · have d2 : decide ((x.length : Int) ≤ 100) = true := decide_eq_true (by omega)
      rw [decide_eq_true h1, decide_eq_true h2]
      clear h1 h2
      go_enter Tryz.func14, Tryz.ntmps14
      go_wp2
      go_ret
      refine ⟨rfl, ?_⟩
      repeat (first | exact Below.refl _ _ | assumption | refine bl_drew ?_ | refine bl_drewN ?_ _ | refine Below.setCell ?_ (by first | assumption | omega | (simp; done) | (simp; omega)) _ | refine Below.alloc ?_ (by first | assumption | omega | (simp; done) | (simp; omega)) _)
    · have d2 : decide ((x.length : Int) ≤ 100) = false := decide_eq_false (by omega)
      rw [decide_eq_true h1, decide_eq_false h2]
      clear h1 h2
      go_enter Tryz.func14, Tryz.ntmps14
      go_wp2
      go_ret
      refine ⟨rfl, ?_⟩
      repeat (first | exact Below.refl _ _ | assumption | refine bl_drew ?_ | refine bl_drewN ?_ _ | refine Below.setCell ?_ (by first | assumption | omega | (simp; done) | (simp; omega)) _ | refine Below.alloc ?_ (by first | assumption | omega | (simp; done) | (simp; omega)) _)
  · have d1 : decide ((n : Int) ≤ 60) = false := decide_eq_false (by omega)
    rw [decide_eq_false h1]
    clear h1
    go_enter Tryz.func14, Tryz.ntmps14
    go_wp2
    go_ret
    refine ⟨rfl, ?_⟩
    repeat (first | exact Below.refl _ _ | assumption | refine bl_drew ?_ | refine bl_drewN ?_ _ | refine Below.setCell ?_ (by first | assumption | omega | (simp; done) | (simp; omega)) _ | refine Below.alloc ?_ (by first | assumption | omega | (simp; done) | (simp; omega)) _)
end Go.Proofs.YtbpnacacnncopaaGreatDoor
namespace Go.Proofs.YtbpnacacnncopaaGreatDoor
open Go.RowKit Frm
/-- whether an arc is an altitude whose reading is asked for -/
def altB (lo hi : Int) : Bool := decide (-120000 ≤ lo) && decide (hi ≤ 5520000)
theorem alt_iff {lo hi : Int} : altB lo hi = true ↔ -120000 ≤ lo ∧ hi ≤ 5520000 := by unfold altB; simp
set_option maxHeartbeats 4000000 in
set_option maxRecDepth 100000 in
theorem read_out (ix : Int) (T : List Ent) (A : Option Addr) (n c : Nat) (s : Sgt) (g0 g1 g2 g3 e0 e1 p0 p1 h0 h1 : Int) (w : World) (hT : TabAt w w.heap.size A T) (hn : T.length = n) (hg : givB ix T s e0 e1 p0 p1 = true) (hl : s.body.length ≤ 100000) (hh : h0 ≤ h1) (hA : -1000000000 ≤ h0) (hB : h1 ≤ 1000000000) (ha : altB h0 h1 = false) :
    Calls Tryz.prog 17 #[.agg #[.int .i64 ix, .slice A n c], sgv s.body s.limb s.lo s.hi s.hs s.by_ s.hor s.eye s.shore s.temp s.press, .agg #[.int .i64 g0, .int .i64 g1, .int .i64 g2, .int .i64 g3, .int .i64 e0, .int .i64 e1, .int .i64 p0, .int .i64 p1], .agg #[.int .i64 h0, .int .i64 h1]] w fun e w' => e = .returned (.tuple #[.agg #[.int .i64 0, .int .i64 0], .int .i64 2]) ∧ Below w.heap.size w w' := by
  obtain ⟨hv, hsi, dt⟩ := giv_ok hg
  obtain ⟨-, hlen, hok⟩ := ins_ok hv
  have n40 : n ≤ 40 := by omega
  have KG := Lib.hid (fun W (hW : Below w.heap.size w W) => given_any ix T A n c s g0 g1 g2 g3 e0 e1 p0 p1 W (hT.up hW) hn (by omega) hl)
  rw [hg] at KG
  have KV := Lib.hid (fun W => aValid_any h0 h1 W)
  rw [show avB h0 h1 = true by rw [avB_true]; omega] at KV
  have KN := Lib.hid (fun W => arIn_any h0 h1 (-120000) 5520000 W (by rw [avB_true]; omega) (by rw [avB_true]; omega))
  have ha2 : (decide (-120000 ≤ h0) && decide (h1 ≤ 5520000)) = false := ha
  rw [ha2] at KN
  clear ha ha2 hT hn hg hl hv hsi dt hok hlen
  have I0 := Lib.hid (((((Blk.new w 40 #[.int .i64 ix, .slice A n c]).alloc (.cells #[txb s.body, .int .i64 s.limb, .int .i64 s.lo, .int .i64 s.hi, .int .i64 s.hs, .int .i64 s.by_, .int .i64 s.hor, .int .i64 s.eye, .int .i64 s.shore, .int .i64 s.temp, .int .i64 s.press] 25)).alloc (.cells #[.int .i64 g0, .int .i64 g1, .int .i64 g2, .int .i64 g3, .int .i64 e0, .int .i64 e1, .int .i64 p0, .int .i64 p1] 43)).alloc (.cells #[.int .i64 h0, .int .i64 h1] 41)).alloc (.cells #[.int .i64 0, .int .i64 0] 41))
  have B0 := Lib.hid ((((Blk.new (w.alloc (.cells #[.int .i64 ix, .slice A n c] 40)) 25 #[txb s.body, .int .i64 s.limb, .int .i64 s.lo, .int .i64 s.hi, .int .i64 s.hs, .int .i64 s.by_, .int .i64 s.hor, .int .i64 s.eye, .int .i64 s.shore, .int .i64 s.temp, .int .i64 s.press]).alloc (.cells #[.int .i64 g0, .int .i64 g1, .int .i64 g2, .int .i64 g3, .int .i64 e0, .int .i64 e1, .int .i64 p0, .int .i64 p1] 43)).alloc (.cells #[.int .i64 h0, .int .i64 h1] 41)).alloc (.cells #[.int .i64 0, .int .i64 0] 41))
  simp only [World.size_alloc] at B0
  have E0 := Lib.hid (((Blk.new ((w.alloc (.cells #[.int .i64 ix, .slice A n c] 40)).alloc (.cells #[txb s.body, .int .i64 s.limb, .int .i64 s.lo, .int .i64 s.hi, .int .i64 s.hs, .int .i64 s.by_, .int .i64 s.hor, .int .i64 s.eye, .int .i64 s.shore, .int .i64 s.temp, .int .i64 s.press] 25)) 43 #[.int .i64 g0, .int .i64 g1, .int .i64 g2, .int .i64 g3, .int .i64 e0, .int .i64 e1, .int .i64 p0, .int .i64 p1]).alloc (.cells #[.int .i64 h0, .int .i64 h1] 41)).alloc (.cells #[.int .i64 0, .int .i64 0] 41))
  simp only [World.size_alloc] at E0
  have H0 := Lib.hid ((Blk.new (((w.alloc (.cells #[.int .i64 ix, .slice A n c] 40)).alloc (.cells #[txb s.body, .int .i64 s.limb, .int .i64 s.lo, .int .i64 s.hi, .int .i64 s.hs, .int .i64 s.by_, .int .i64 s.hor, .int .i64 s.eye, .int .i64 s.shore, .int .i64 s.temp, .int .i64 s.press] 25)).alloc (.cells #[.int .i64 g0, .int .i64 g1, .int .i64 g2, .int .i64 g3, .int .i64 e0, .int .i64 e1, .int .i64 p0, .int .i64 p1] 43)) 41 #[.int .i64 h0, .int .i64 h1]).alloc (.cells #[.int .i64 0, .int .i64 0] 41))
  simp only [World.size_alloc] at H0
  have R0 := Lib.hid (Blk.new ((((w.alloc (.cells #[.int .i64 ix, .slice A n c] 40)).alloc (.cells #[txb s.body, .int .i64 s.limb, .int .i64 s.lo, .int .i64 s.hi, .int .i64 s.hs, .int .i64 s.by_, .int .i64 s.hor, .int .i64 s.eye, .int .i64 s.shore, .int .i64 s.temp, .int .i64 s.press] 25)).alloc (.cells #[.int .i64 g0, .int .i64 g1, .int .i64 g2, .int .i64 g3, .int .i64 e0, .int .i64 e1, .int .i64 p0, .int .i64 p1] 43)).alloc (.cells #[.int .i64 h0, .int .i64 h1] 41)) 41 #[.int .i64 0, .int .i64 0])
  simp only [World.size_alloc] at R0
  have b0 := Lib.hid ((((((Below.refl w.heap.size w).alloc (Nat.le_refl _) (.cells #[.int .i64 ix, .slice A n c] 40)).alloc (by simp) (.cells #[txb s.body, .int .i64 s.limb, .int .i64 s.lo, .int .i64 s.hi, .int .i64 s.hs, .int .i64 s.by_, .int .i64 s.hor, .int .i64 s.eye, .int .i64 s.shore, .int .i64 s.temp, .int .i64 s.press] 25)).alloc (by simp; omega) (.cells #[.int .i64 g0, .int .i64 g1, .int .i64 g2, .int .i64 g3, .int .i64 e0, .int .i64 e1, .int .i64 p0, .int .i64 p1] 43)).alloc (by simp; omega) (.cells #[.int .i64 h0, .int .i64 h1] 41)).alloc (by simp; omega) (.cells #[.int .i64 0, .int .i64 0] 41))
  go_enter Tryz.func17, Tryz.ntmps17
  go_upto_region 1 with fail
  generalize (((((w.alloc (.cells #[.int .i64 ix, .slice A n c] 40)).alloc (.cells #[txb s.body, .int .i64 s.limb, .int .i64 s.lo, .int .i64 s.hi, .int .i64 s.hs, .int .i64 s.by_, .int .i64 s.hor, .int .i64 s.eye, .int .i64 s.shore, .int .i64 s.temp, .int .i64 s.press] 25)).alloc (.cells #[.int .i64 g0, .int .i64 g1, .int .i64 g2, .int .i64 g3, .int .i64 e0, .int .i64 e1, .int .i64 p0, .int .i64 p1] 43)).alloc (.cells #[.int .i64 h0, .int .i64 h1] 41)).alloc (.cells #[.int .i64 0, .int .i64 0] 41)) = w1 at *
  have yI : ∀ i, w1.cell? ⟨w.heap.size, i, none⟩ = (#[.int .i64 ix, .slice A n c] : Array Value)[i]? := fun i => I0.out.cell i
  have yB : ∀ i, w1.cell? ⟨w.heap.size + 1, i, none⟩ = (#[txb s.body, .int .i64 s.limb, .int .i64 s.lo, .int .i64 s.hi, .int .i64 s.hs, .int .i64 s.by_, .int .i64 s.hor, .int .i64 s.eye, .int .i64 s.shore, .int .i64 s.temp, .int .i64 s.press] : Array Value)[i]? := fun i => B0.out.cell i
  have yE : ∀ i, w1.cell? ⟨w.heap.size + 1 + 1, i, none⟩ = (#[.int .i64 g0, .int .i64 g1, .int .i64 g2, .int .i64 g3, .int .i64 e0, .int .i64 e1, .int .i64 p0, .int .i64 p1] : Array Value)[i]? := fun i => E0.out.cell i
  go_wp2_with fail
  (with_reducible refine (KG.out _ b0.out).mono ?_)
  rintro e w2 ⟨rfl, hb⟩
  have I2 := Lib.hid (I0.out.below hb I0.out.lt)
  have B2 := Lib.hid (B0.out.below hb B0.out.lt)
  have E2 := Lib.hid (E0.out.below hb E0.out.lt)
  have H2 := Lib.hid (H0.out.below hb H0.out.lt)
  have R2 := Lib.hid (R0.out.below hb R0.out.lt)
  have b2 := Lib.hid (b0.out.trans (hb.mono b0.out.size))
  clear hb I0 B0 E0 H0 R0 b0 yI yB yE
  have yH : ∀ i, w2.cell? ⟨w.heap.size + 1 + 1 + 1, i, none⟩ = (#[.int .i64 h0, .int .i64 h1] : Array Value)[i]? := fun i => H2.out.cell i
  go_wp2_with fail
  (with_reducible refine (KV.out _).mono ?_)
  rintro e w3 ⟨rfl, hb⟩
  have I3 := Lib.hid (I2.out.below hb I2.out.lt)
  have B3 := Lib.hid (B2.out.below hb B2.out.lt)
  have E3 := Lib.hid (E2.out.below hb E2.out.lt)
  have H3 := Lib.hid (H2.out.below hb H2.out.lt)
  have R3 := Lib.hid (R2.out.below hb R2.out.lt)
  have b3 := Lib.hid (b2.out.trans (hb.mono b2.out.size))
  clear hb I2 B2 E2 H2 R2 b2 yH
  have yH : ∀ i, w3.cell? ⟨w.heap.size + 1 + 1 + 1, i, none⟩ = (#[.int .i64 h0, .int .i64 h1] : Array Value)[i]? := fun i => H3.out.cell i
  go_wp2_with fail
  (with_reducible refine (KN.out _).mono ?_)
  rintro e w4 ⟨rfl, hb⟩
  have I4 := Lib.hid (I3.out.below hb I3.out.lt)
  have B4 := Lib.hid (B3.out.below hb B3.out.lt)
  have E4 := Lib.hid (E3.out.below hb E3.out.lt)
  have H4 := Lib.hid (H3.out.below hb H3.out.lt)
  have R4 := Lib.hid (R3.out.below hb R3.out.lt)
  have b4 := Lib.hid (b3.out.trans (hb.mono b3.out.size))
  clear hb I3 B3 E3 H3 R3 b3 yH
  have yR : ∀ i, w4.cell? ⟨w.heap.size + 1 + 1 + 1 + 1, i, none⟩ = (#[.int .i64 0, .int .i64 0] : Array Value)[i]? := fun i => R4.out.cell i
  have zR : ∀ i, w4.frozen? ⟨w.heap.size + 1 + 1 + 1 + 1, i, none⟩ = false := fun i => R4.out.frozen i
  go_wp2
  refine bodyPost_ret (v := .tuple #[.agg #[.int .i64 0, .int .i64 0], .int .i64 2]) (by simp [results, Tryz.results17, go_sem, *]; done) rfl ⟨rfl, ?_⟩
  exact (b4.out.setCell (by first | exact Nat.le_refl _ | (simp; done) | (simp; omega) | (simp only []; omega)) _).setCell (by first | exact Nat.le_refl _ | (simp; done) | (simp; omega) | (simp only []; omega)) _
theorem dnI_in {ix : Int} {T : List Ent} {b0 b1 : Int} : ∀ (k : Nat) (lo hi a b : Int), dnI ix T b0 b1 k lo hi = some (a, b) → lo ≤ a ∧ b ≤ hi
  | 0, lo, hi, a, b, h => by
    unfold dnI at h
    injection h with h
    injection h with h1 h2
    omega
  | k + 1, lo, hi, a, b, h => by
    unfold dnI at h
    split at h
    · have := dnI_in k _ _ a b h
      omega
    · cases h
theorem RdIs.bd {ix : Int} {T : List Ent} {s : Sgt} {e0 e1 p0 p1 h0 h1 a b : Int} (h : RdIs ix T s e0 e1 p0 p1 h0 h1 a b) : -60000 ≤ a ∧ a ≤ b ∧ b ≤ 7800000 := by
  obtain ⟨_, x, y, _, _, _, _, _, hd, hab⟩ := h
  have := dnI_in 4 _ _ a b hd
  omega
theorem ho_bd {ix : Int} {T : List Ent} {s : Sgt} {e0 e1 p0 p1 : Int} (hg : givB ix T s e0 e1 p0 p1 = true) (hb : s.by_ = 0) (hin : inHa ix T s = true) : -1000000 ≤ hoA ix T s e0 e1 p0 p1 ∧ hoA ix T s e0 e1 p0 p1 ≤ hoB ix T s e0 e1 p0 p1 ∧ hoB ix T s e0 e1 p0 p1 ≤ 10000000 := by
  obtain ⟨hv, hs, d⟩ := giv_ok hg
  have hd := dep_le hs
  have hc := co_bd (hs := s.hs) hv
  unfold inHa at hin
  simp only [Bool.and_eq_true, decide_eq_true_eq] at hin
  obtain ⟨x0, y1⟩ := hin
  have hxy : haA ix T s ≤ haB ix T s := by
    unfold haA haB apA apB
    rw [hb]
    split <;> omega
  unfold hoA hoB
  generalize haA ix T s = x at *
  generalize haB ix T s = y at *
  have c2 := rf_bd (lo := x) (hi := y) x0 hxy y1 d.wt.t0 d.wt.t1 d.wt.p0 d.wt.p1
  have c3 := px_bd x y d.px
  have c5 := se_bd s.limb p0 p1 x y d.se
  omega
/-- the answers of Reading for an arc that contains the altitude of a sight -/
theorem read_cases (ix : Int) (T : List Ent) (A : Option Addr) (n c : Nat) (s : Sgt) (g0 g1 g2 g3 e0 e1 p0 p1 h0 h1 : Int) (w : World) (hT : TabAt w w.heap.size A T) (hn : T.length = n) (hg : givB ix T s e0 e1 p0 p1 = true) (hl : s.body.length ≤ 100000) (hb : s.by_ = 0) (hin : inHa ix T s = true)
    (k0 : h0 ≤ hoA ix T s e0 e1 p0 p1) (k1 : hoB ix T s e0 e1 p0 p1 ≤ h1) (hA : -1000000000 ≤ h0) (hB : h1 ≤ 1000000000) :
    (altB h0 h1 = false ∧ ∀ W, Below w.heap.size w W → Calls Tryz.prog 17 #[.agg #[.int .i64 ix, .slice A n c], sgv s.body s.limb s.lo s.hi s.hs s.by_ s.hor s.eye s.shore s.temp s.press, .agg #[.int .i64 g0, .int .i64 g1, .int .i64 g2, .int .i64 g3, .int .i64 e0, .int .i64 e1, .int .i64 p0, .int .i64 p1], .agg #[.int .i64 h0, .int .i64 h1]] W fun e w' => e = .returned (.tuple #[.agg #[.int .i64 0, .int .i64 0], .int .i64 2]) ∧ Below W.heap.size W w') ∨
    (altB h0 h1 = true ∧ ∃ a b, RdIs ix T s e0 e1 p0 p1 h0 h1 a b ∧ a ≤ s.hs ∧ s.hs ≤ b ∧ ∀ W, Below w.heap.size w W → Calls Tryz.prog 17 #[.agg #[.int .i64 ix, .slice A n c], sgv s.body s.limb s.lo s.hi s.hs s.by_ s.hor s.eye s.shore s.temp s.press, .agg #[.int .i64 g0, .int .i64 g1, .int .i64 g2, .int .i64 g3, .int .i64 e0, .int .i64 e1, .int .i64 p0, .int .i64 p1], .agg #[.int .i64 h0, .int .i64 h1]] W fun e w' => e = .returned (.tuple #[.agg #[.int .i64 a, .int .i64 b], .int .i64 0]) ∧ Below W.heap.size W w') := by
  have hh := ho_bd hg hb hin
  cases ha : altB h0 h1 with
  | false => exact .inl ⟨rfl, fun W hW => read_out ix T A n c s g0 g1 g2 g3 e0 e1 p0 p1 h0 h1 W (hT.up hW) hn hg hl (by omega) hA hB ha⟩
  | true =>
    obtain ⟨a1, a2⟩ := alt_iff.1 ha
    obtain ⟨a, b, hr, h1', h2'⟩ := found_has hg hb hin k0 k1
    exact .inr ⟨rfl, a, b, hr, h1', h2', fun W hW => read_yes ix T A n c s g0 g1 g2 g3 e0 e1 p0 p1 h0 h1 a b W (hT.up hW) hn hg hl (by omega) a1 a2 hr⟩
theorem eqWk0 (W : World) : (binOp .eql 46 wk0 wk0).run Tryz.prog W = .ok (.bool true) W := by
  kernel_rfl
end Go.Proofs.YtbpnacacnncopaaGreatDoor
