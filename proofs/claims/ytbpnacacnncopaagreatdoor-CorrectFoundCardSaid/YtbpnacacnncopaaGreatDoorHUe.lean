/- The walk of trig's product of numbers. -/
import Derived.Laws.Cover3
import Derived.Test.YtbpnacacnncopaaGreatDoorHShelfT
import Derived.Test.YtbpnacacnncopaaGreatDoorHTe
set_option linter.unusedVariables false
set_option linter.unusedSimpArgs false
namespace Go.Proofs.YtbpnacacnncopaaGreatDoor
open Go.RowKit
abbrev arr6 (o0 o1 o2 o3 o4 o5 : Int) : Array Value := #[.int .u64 o0, .int .u64 o1, .int .u64 o2, .int .u64 o3, .int .u64 o4, .int .u64 o5]
/-- the value of six words -/
def nv6 (o0 o1 o2 o3 o4 o5 : Int) : Int := o0 * 2135987035920910082395021706169552114602704522356652769947041607822219725780640550022962086936576 + o1 * 115792089237316195423570985008687907853269984665640564039457584007913129639936 + o2 * 6277101735386680763835789423207666416102355444464034512896 + o3 * 340282366920938463463374607431768211456 + o4 * 18446744073709551616 + o5
/-- two numbers, a result, and six words, at the end of the memory that was there -/
structure M6 (w wx : World) (a0 a1 a2 a3 b0 b1 b2 b3 o0 o1 o2 o3 o4 o5 : Int) : Prop where
  bl : Below w.heap.size w wx
  A : Blk wx w.heap.size 254 (arr4 a0 a1 a2 a3)
  B : Blk wx (w.heap.size + 1) 254 (arr4 b0 b1 b2 b3)
  C : Blk wx (w.heap.size + 1 + 1) 254 (arr4 0 0 0 0)
  O : Blk wx (w.heap.size + 1 + 1 + 1) 259 (arr6 o0 o1 o2 o3 o4 o5)
section
variable {w wx : World} {a0 a1 a2 a3 b0 b1 b2 b3 o0 o1 o2 o3 o4 o5 : Int}
theorem M6.drewN (h : M6 w wx a0 a1 a2 a3 b0 b1 b2 b3 o0 o1 o2 o3 o4 o5) (n : Nat) : M6 w (wx.drewN n) a0 a1 a2 a3 b0 b1 b2 b3 o0 o1 o2 o3 o4 o5 := ⟨bl_drewN h.bl n, h.A, h.B, h.C, h.O⟩
theorem M6.start (w : World) (a0 a1 a2 a3 b0 b1 b2 b3 : Int) : M6 w ((((w.alloc (.cells (arr4 a0 a1 a2 a3) 254)).alloc (.cells (arr4 b0 b1 b2 b3) 254)).alloc (.cells (arr4 0 0 0 0) 254)).alloc (.cells (arr6 0 0 0 0 0 0) 259)) a0 a1 a2 a3 b0 b1 b2 b3 0 0 0 0 0 0 := by
  have h := Two4.start w a0 a1 a2 a3 b0 b1 b2 b3
  have hz : (((w.alloc (.cells (arr4 a0 a1 a2 a3) 254)).alloc (.cells (arr4 b0 b1 b2 b3) 254)).alloc (.cells (arr4 0 0 0 0) 254)).heap.size = w.heap.size + 1 + 1 + 1 := by simp
  generalize ((w.alloc (.cells (arr4 a0 a1 a2 a3) 254)).alloc (.cells (arr4 b0 b1 b2 b3) 254)).alloc (.cells (arr4 0 0 0 0) 254) = W at *
  refine ⟨h.bl.alloc (by omega) _, h.A.alloc _, h.B.alloc _, h.C.alloc _, ?_⟩
  have := Blk.new W 259 (arr6 0 0 0 0 0 0)
  rw [hz] at this
  exact this
theorem M6.set_ (h : M6 w wx a0 a1 a2 a3 b0 b1 b2 b3 o0 o1 o2 o3 o4 o5) (i : Nat) (u : Value) :
    Below w.heap.size w (wx.setCell ⟨w.heap.size + 1 + 1 + 1, i, none⟩ u) ∧ Blk (wx.setCell ⟨w.heap.size + 1 + 1 + 1, i, none⟩ u) w.heap.size 254 (arr4 a0 a1 a2 a3) ∧ Blk (wx.setCell ⟨w.heap.size + 1 + 1 + 1, i, none⟩ u) (w.heap.size + 1) 254 (arr4 b0 b1 b2 b3) ∧ Blk (wx.setCell ⟨w.heap.size + 1 + 1 + 1, i, none⟩ u) (w.heap.size + 1 + 1) 254 (arr4 0 0 0 0) ∧
    Blk (wx.setCell ⟨w.heap.size + 1 + 1 + 1, i, none⟩ u) (w.heap.size + 1 + 1 + 1) 259 ((arr6 o0 o1 o2 o3 o4 o5).setIfInBounds i u) :=
  ⟨h.bl.setCell (show w.heap.size ≤ w.heap.size + 1 + 1 + 1 by omega) _, h.A.far (show w.heap.size ≠ w.heap.size + 1 + 1 + 1 by omega) u, h.B.far (show w.heap.size + 1 ≠ w.heap.size + 1 + 1 + 1 by omega) u, h.C.far (show w.heap.size + 1 + 1 ≠ w.heap.size + 1 + 1 + 1 by omega) u, h.O.set_ i u⟩
theorem M6.set0 {d : Int} (h : M6 w wx a0 a1 a2 a3 b0 b1 b2 b3 o0 o1 o2 o3 o4 o5) : M6 w (wx.setCell ⟨w.heap.size + 1 + 1 + 1, 0, none⟩ (.int .u64 d)) a0 a1 a2 a3 b0 b1 b2 b3 d o1 o2 o3 o4 o5 := by
  obtain ⟨h1, h2, h3, h4, h5⟩ := h.set_ 0 (.int .u64 d)
  exact ⟨h1, h2, h3, h4, h5⟩
theorem M6.set1 {d : Int} (h : M6 w wx a0 a1 a2 a3 b0 b1 b2 b3 o0 o1 o2 o3 o4 o5) : M6 w (wx.setCell ⟨w.heap.size + 1 + 1 + 1, 1, none⟩ (.int .u64 d)) a0 a1 a2 a3 b0 b1 b2 b3 o0 d o2 o3 o4 o5 := by
  obtain ⟨h1, h2, h3, h4, h5⟩ := h.set_ 1 (.int .u64 d)
  exact ⟨h1, h2, h3, h4, h5⟩
theorem M6.set2 {d : Int} (h : M6 w wx a0 a1 a2 a3 b0 b1 b2 b3 o0 o1 o2 o3 o4 o5) : M6 w (wx.setCell ⟨w.heap.size + 1 + 1 + 1, 2, none⟩ (.int .u64 d)) a0 a1 a2 a3 b0 b1 b2 b3 o0 o1 d o3 o4 o5 := by
  obtain ⟨h1, h2, h3, h4, h5⟩ := h.set_ 2 (.int .u64 d)
  exact ⟨h1, h2, h3, h4, h5⟩
theorem M6.set3 {d : Int} (h : M6 w wx a0 a1 a2 a3 b0 b1 b2 b3 o0 o1 o2 o3 o4 o5) : M6 w (wx.setCell ⟨w.heap.size + 1 + 1 + 1, 3, none⟩ (.int .u64 d)) a0 a1 a2 a3 b0 b1 b2 b3 o0 o1 o2 d o4 o5 := by
  obtain ⟨h1, h2, h3, h4, h5⟩ := h.set_ 3 (.int .u64 d)
  exact ⟨h1, h2, h3, h4, h5⟩
theorem M6.set4 {d : Int} (h : M6 w wx a0 a1 a2 a3 b0 b1 b2 b3 o0 o1 o2 o3 o4 o5) : M6 w (wx.setCell ⟨w.heap.size + 1 + 1 + 1, 4, none⟩ (.int .u64 d)) a0 a1 a2 a3 b0 b1 b2 b3 o0 o1 o2 o3 d o5 := by
  obtain ⟨h1, h2, h3, h4, h5⟩ := h.set_ 4 (.int .u64 d)
  exact ⟨h1, h2, h3, h4, h5⟩
theorem M6.set5 {d : Int} (h : M6 w wx a0 a1 a2 a3 b0 b1 b2 b3 o0 o1 o2 o3 o4 o5) : M6 w (wx.setCell ⟨w.heap.size + 1 + 1 + 1, 5, none⟩ (.int .u64 d)) a0 a1 a2 a3 b0 b1 b2 b3 o0 o1 o2 o3 o4 d := by
  obtain ⟨h1, h2, h3, h4, h5⟩ := h.set_ 5 (.int .u64 d)
  exact ⟨h1, h2, h3, h4, h5⟩
end
/-- one product, added to a word and a carry -/
theorem mulStep {a b o c : Int} (ha : U64 a) (hb : U64 b) (ho : U64 o) (hc : U64 c) : ∃ H L S C1 S' C2 c' : Int,
    (∀ W, Calls Tryz.prog 228 #[.int .u64 a, .int .u64 b] W fun e w' => e = .returned (.tuple #[.int .u64 H, .int .u64 L]) ∧ w' = W) ∧
    (∀ W, (callFunc 256 #[.int .u64 o, .int .u64 L, .int .u64 0]).run Tryz.prog W = .ok (.value (.tuple #[.int .u64 S, .int .u64 C1])) W) ∧
    (∀ W, (callFunc 256 #[.int .u64 S, .int .u64 c, .int .u64 0]).run Tryz.prog W = .ok (.value (.tuple #[.int .u64 S', .int .u64 C2])) W) ∧
    0 ≤ H ∧ H ≤ 18446744073709551614 ∧ 0 ≤ C1 ∧ C1 ≤ 1 ∧ 0 ≤ C2 ∧ C2 ≤ 1 ∧ H + C1 + C2 = c' ∧ c' ≤ 18446744073709551615 ∧ U64 S' ∧ S' + 18446744073709551616 * c' = o + a * b + c := by
  have hL := muL_u a b
  have hH := muH_bd ha hb
  have e1 := mu_eq a b
  have hm := mul_lt ha hb
  have e2 := ad_eq o (muL a b) 0
  have e3 := ad_eq (adS o (muL a b) 0) c 0
  have b2 := adC_bd ho hL (by omega : (0 : Int) ≤ 0) (by omega)
  have b3 := adC_bd (adS_u o (muL a b) 0) hc (by omega : (0 : Int) ≤ 0) (by omega)
  have u2 := adS_u o (muL a b) 0
  have u3 := adS_u (adS o (muL a b) 0) c 0
  refine ⟨muH a b, muL a b, adS o (muL a b) 0, adC o (muL a b) 0, adS (adS o (muL a b) 0) c 0, adC (adS o (muL a b) 0) c 0, _, fun W => mul64 a b ha hb W, fun W => add64_0 o _ ho hL W, fun W => add64_0 _ c u2 hc W, hH.1, hH.2, b2.1, b2.2, b3.1, b3.2, rfl, ?_, u3, ?_⟩
  · unfold U64 at *
    generalize muL a b = L at *
    generalize muH a b = H at *
    generalize a * b = p at *
    generalize adS o L 0 = S at *
    generalize adC o L 0 = C1 at *
    generalize adS S c 0 = S' at *
    generalize adC S c 0 = C2 at *
    omega
  · omega
theorem addStep {o c : Int} (ho : U64 o) (hc : U64 c) : ∃ S C : Int, (∀ W, (callFunc 256 #[.int .u64 o, .int .u64 c, .int .u64 0]).run Tryz.prog W = .ok (.value (.tuple #[.int .u64 S, .int .u64 C])) W) ∧ U64 S ∧ 0 ≤ C ∧ C ≤ 1 ∧ S + 18446744073709551616 * C = o + c := by
  have b3 := adC_bd ho hc (by omega : (0 : Int) ≤ 0) (by omega)
  have e3 := ad_eq o c 0
  exact ⟨adS o c 0, adC o c 0, fun W => add64_0 o c ho hc W, adS_u o c 0, b3.1, b3.2, by omega⟩

/-- what the product of two numbers is: up to its last digits -/
def MulR (a0 a1 a2 a3 b0 b1 b2 b3 : Int) (e : Ending) : Prop := ∃ v0 v1 v2 v3 v4 v5 : Int, e = .returned (num4 v0 v1 v2 v3) ∧ (U64 v0 ∧ U64 v1 ∧ U64 v2 ∧ U64 v3 ∧ U64 v4 ∧ U64 v5) ∧ nv6 v0 v1 v2 v3 v4 v5 = a3 * b1 + a3 * b0 * 18446744073709551616 + a2 * b2 + a2 * b1 * 18446744073709551616 + a2 * b0 * 340282366920938463463374607431768211456 + a1 * b3 + a1 * b2 * 18446744073709551616 + a1 * b1 * 340282366920938463463374607431768211456 + a1 * b0 * 6277101735386680763835789423207666416102355444464034512896 + a0 * b3 * 18446744073709551616 + a0 * b2 * 340282366920938463463374607431768211456 + a0 * b1 * 6277101735386680763835789423207666416102355444464034512896 + a0 * b0 * 115792089237316195423570985008687907853269984665640564039457584007913129639936
theorem hz : U64 0 := ⟨by omega, by omega⟩
set_option maxHeartbeats 8000000 in
set_option maxRecDepth 100000 in
theorem mulW (a0 a1 a2 a3 b0 b1 b2 b3 : Int) (w : World) (ha0 : U64 a0) (ha1 : U64 a1) (ha2 : U64 a2) (ha3 : U64 a3) (hb0 : U64 b0) (hb1 : U64 b1) (hb2 : U64 b2) (hb3 : U64 b3)
    (hT : a3 * b1 + a3 * b0 * 18446744073709551616 + a2 * b2 + a2 * b1 * 18446744073709551616 + a2 * b0 * 340282366920938463463374607431768211456 + a1 * b3 + a1 * b2 * 18446744073709551616 + a1 * b1 * 340282366920938463463374607431768211456 + a1 * b0 * 6277101735386680763835789423207666416102355444464034512896 + a0 * b3 * 18446744073709551616 + a0 * b2 * 340282366920938463463374607431768211456 + a0 * b1 * 6277101735386680763835789423207666416102355444464034512896 + a0 * b0 * 115792089237316195423570985008687907853269984665640564039457584007913129639936 < 39402006196394479212279040100143613805079739270465446667948293404245721771497210611414266254884915640806627990306816) :
    Calls Tryz.prog 253 #[num4 a0 a1 a2 a3, num4 b0 b1 b2 b3] w fun e w' => MulR a0 a1 a2 a3 b0 b1 b2 b3 e ∧ Below w.heap.size w w' := by
  have G := Lib.hid (And.intro (And.intro (And.intro ha0 ha1) (And.intro ha2 ha3)) (And.intro (And.intro hb0 hb1) (And.intro hb2 hb3)))
  have HT := Lib.hid hT
  have HM00 := Lib.hid (mul_lt ha0 hb0).1
  have HM01 := Lib.hid (mul_lt ha0 hb1).1
  have HM02 := Lib.hid (mul_lt ha0 hb2).1
  have HM03 := Lib.hid (mul_lt ha0 hb3).1
  have HM10 := Lib.hid (mul_lt ha1 hb0).1
  have HM11 := Lib.hid (mul_lt ha1 hb1).1
  have HM12 := Lib.hid (mul_lt ha1 hb2).1
  have HM13 := Lib.hid (mul_lt ha1 hb3).1
  have HM20 := Lib.hid (mul_lt ha2 hb0).1
  have HM21 := Lib.hid (mul_lt ha2 hb1).1
  have HM22 := Lib.hid (mul_lt ha2 hb2).1
  have HM30 := Lib.hid (mul_lt ha3 hb0).1
  have HM31 := Lib.hid (mul_lt ha3 hb1).1
  clear ha0 ha1 ha2 ha3 hb0 hb1 hb2 hb3 hT
  go_enter Tryz.func253, Tryz.ntmps253
  go_wp2
  have T0 := Lib.hid (M6.start w a0 a1 a2 a3 b0 b1 b2 b3)
  unfold arr4 arr6 at T0
  generalize (((w.alloc (.cells #[.int .u64 a0, .int .u64 a1, .int .u64 a2, .int .u64 a3] 254)).alloc (.cells #[.int .u64 b0, .int .u64 b1, .int .u64 b2, .int .u64 b3] 254)).alloc (.cells #[.int .u64 0, .int .u64 0, .int .u64 0, .int .u64 0] 254)).alloc (.cells #[.int .u64 0, .int .u64 0, .int .u64 0, .int .u64 0, .int .u64 0, .int .u64 0] 259) = w0 at *
  refine wp_loop_rounds 5 ?_
  -- row 3
  rw [rounds_succ]
  go_upto_block 1 with (fail)
  go_cut [] (fun wy => ∃ v30 v31 v32 v33 v34 v35 : Int, M6 w wy a0 a1 a2 a3 b0 b1 b2 b3 v30 v31 v32 v33 v34 v35 ∧ (U64 v30 ∧ U64 v31 ∧ U64 v32 ∧ U64 v33 ∧ U64 v34 ∧ U64 v35) ∧ nv6 v30 v31 v32 v33 v34 v35 = nv6 0 0 0 0 0 0 + (a3 * b1 + a3 * b0 * 18446744073709551616))
  case first =>
    go_wp2
    refine wp_loop_rounds 5 ?_
    rw [rounds_succ]
    go_wp2
    rw [rounds_succ]
    go_wp2
    rw [rounds_succ]
    obtain ⟨H1, L1, S1, C1, s1, D1, c1, km, ka, kb, bh0, bh1, bc0, bc1, bd0, bd1, ec, bc, us, es⟩ := mulStep G.out.1.2.2 G.out.2.1.2 hz hz
    have KM := Lib.hid km
    have KA := Lib.hid ka
    have KB := Lib.hid kb
    have US1 := Lib.hid us
    have ES1 := Lib.hid es
    have EC := Lib.hid ec
    have UC1 : Hid (U64 c1) := Lib.hid ⟨by omega, by omega⟩
    have bcl : 0 ≤ c1 := UC1.out.1
    clear km ka kb us es ec
    have x := T0.out.A.cell 3
    have y := T0.out.B.cell 1
    simp at x y
    go_wp2
    go_quiet ((go_at_call 228; exact Calls.quiet_of_same (KM.out _)))
    rename_i nq
    clear x y
    have z := (T0.out.drewN nq).O.cell 5
    have f := (T0.out.drewN nq).O.frozen 5
    simp at z
    have ka := KA.out
    have kb := KB.out
    have ec := EC.out
    go_wp2
    have T1 := Lib.hid ((T0.out.drewN nq).set5 (d := s1))
    generalize ((w0.drewN nq).setCell ⟨w.heap.size + 1 + 1 + 1, 5, none⟩ (.int .u64 s1)) = w1 at *
    clear z f ka kb ec KM KA KB EC bh0 bh1 bc0 bc1 bd0 bd1 bcl bc
    rw [rounds_succ]
    obtain ⟨H2, L2, S2, C2, s2, D2, c2, km, ka, kb, bh0, bh1, bc0, bc1, bd0, bd1, ec, bc, us, es⟩ := mulStep G.out.1.2.2 G.out.2.1.1 hz UC1.out
    have KM := Lib.hid km
    have KA := Lib.hid ka
    have KB := Lib.hid kb
    have US2 := Lib.hid us
    have ES2 := Lib.hid es
    have EC := Lib.hid ec
    have UC2 : Hid (U64 c2) := Lib.hid ⟨by omega, by omega⟩
    have bcl : 0 ≤ c2 := UC2.out.1
    clear km ka kb us es ec
    have x := T1.out.A.cell 3
    have y := T1.out.B.cell 0
    simp at x y
    go_wp2
    go_quiet ((go_at_call 228; exact Calls.quiet_of_same (KM.out _)))
    rename_i nq
    clear x y
    have z := (T1.out.drewN nq).O.cell 4
    have f := (T1.out.drewN nq).O.frozen 4
    simp at z
    have ka := KA.out
    have kb := KB.out
    have ec := EC.out
    go_wp2
    have T2 := Lib.hid ((T1.out.drewN nq).set4 (d := s2))
    generalize ((w1.drewN nq).setCell ⟨w.heap.size + 1 + 1 + 1, 4, none⟩ (.int .u64 s2)) = w2 at *
    clear z f ka kb ec KM KA KB EC bh0 bh1 bc0 bc1 bd0 bd1 bcl bc
    rw [rounds_succ]
    go_wp2
    refine wp_loop_rounds 5 ?_
    rw [rounds_succ]
    by_cases hc : c2 = 0
    · have hd : decide (0 < c2) = false := decide_eq_false (by omega)
      go_wp2
      go_meet
      case rel => exact ⟨0, 0, 0, 0, s2, s1, T2.out, ⟨hz, hz, hz, hz, US2.out, US1.out⟩, by clear hd; have := ES1.out; have := ES2.out; unfold nv6; omega⟩
    · have hd : decide (0 < c2) = true := decide_eq_true (by have := UC2.out.1; omega)
      clear hc
      obtain ⟨S3, C3, ka, us, b0', b1', es⟩ := addStep hz UC2.out
      have KA := Lib.hid ka
      have US3 := Lib.hid us
      have ES3 := Lib.hid es
      have UC3 : Hid (U64 C3) := Lib.hid ⟨b0', by omega⟩
      clear ka us es
      have z := T2.out.O.cell 3
      have f := T2.out.O.frozen 3
      simp at z
      have ka := KA.out
      go_wp2
      have T3 := Lib.hid (T2.out.set3 (d := S3))
      generalize (w2.setCell ⟨w.heap.size + 1 + 1 + 1, 3, none⟩ (.int .u64 S3)) = w3 at *
      clear z f ka KA b0' b1' hd
      rw [rounds_succ]
      by_cases hc : C3 = 0
      · have hd : decide (0 < C3) = false := decide_eq_false (by omega)
        go_wp2
        go_meet
        case rel => exact ⟨0, 0, 0, S3, s2, s1, T3.out, ⟨hz, hz, hz, US3.out, US2.out, US1.out⟩, by clear hd; have := ES1.out; have := ES2.out; have := ES3.out; unfold nv6; omega⟩
      · have hd : decide (0 < C3) = true := decide_eq_true (by have := UC3.out.1; omega)
        clear hc
        obtain ⟨S4, C4, ka, us, b0', b1', es⟩ := addStep hz UC3.out
        have KA := Lib.hid ka
        have US4 := Lib.hid us
        have ES4 := Lib.hid es
        have UC4 : Hid (U64 C4) := Lib.hid ⟨b0', by omega⟩
        clear ka us es
        have z := T3.out.O.cell 2
        have f := T3.out.O.frozen 2
        simp at z
        have ka := KA.out
        go_wp2
        have T4 := Lib.hid (T3.out.set2 (d := S4))
        generalize (w3.setCell ⟨w.heap.size + 1 + 1 + 1, 2, none⟩ (.int .u64 S4)) = w4 at *
        clear z f ka KA b0' b1' hd
        rw [rounds_succ]
        by_cases hc : C4 = 0
        · have hd : decide (0 < C4) = false := decide_eq_false (by omega)
          go_wp2
          go_meet
          case rel => exact ⟨0, 0, S4, S3, s2, s1, T4.out, ⟨hz, hz, US4.out, US3.out, US2.out, US1.out⟩, by clear hd; have := ES1.out; have := ES2.out; have := ES3.out; have := ES4.out; unfold nv6; omega⟩
        · have hd : decide (0 < C4) = true := decide_eq_true (by have := UC4.out.1; omega)
          clear hc
          obtain ⟨S5, C5, ka, us, b0', b1', es⟩ := addStep hz UC4.out
          have KA := Lib.hid ka
          have US5 := Lib.hid us
          have ES5 := Lib.hid es
          have UC5 : Hid (U64 C5) := Lib.hid ⟨b0', by omega⟩
          clear ka us es
          have z := T4.out.O.cell 1
          have f := T4.out.O.frozen 1
          simp at z
          have ka := KA.out
          go_wp2
          have T5 := Lib.hid (T4.out.set1 (d := S5))
          generalize (w4.setCell ⟨w.heap.size + 1 + 1 + 1, 1, none⟩ (.int .u64 S5)) = w5 at *
          clear z f ka KA b0' b1' hd
          rw [rounds_succ]
          by_cases hc : C5 = 0
          · have hd : decide (0 < C5) = false := decide_eq_false (by omega)
            go_wp2
            go_meet
            case rel => exact ⟨0, S5, S4, S3, s2, s1, T5.out, ⟨hz, US5.out, US4.out, US3.out, US2.out, US1.out⟩, by clear hd; have := ES1.out; have := ES2.out; have := ES3.out; have := ES4.out; have := ES5.out; unfold nv6; omega⟩
          · have hd : decide (0 < C5) = true := decide_eq_true (by have := UC5.out.1; omega)
            clear hc
            obtain ⟨S6, C6, ka, us, b0', b1', es⟩ := addStep hz UC5.out
            have KA := Lib.hid ka
            have US6 := Lib.hid us
            have ES6 := Lib.hid es
            have UC6 : Hid (U64 C6) := Lib.hid ⟨b0', by omega⟩
            clear ka us es
            have z := T5.out.O.cell 0
            have f := T5.out.O.frozen 0
            simp at z
            have ka := KA.out
            go_wp2
            have T6 := Lib.hid (T5.out.set0 (d := S6))
            generalize (w5.setCell ⟨w.heap.size + 1 + 1 + 1, 0, none⟩ (.int .u64 S6)) = w6 at *
            clear z f ka KA b0' b1' hd
            rw [rounds_succ]
            go_wp2
            go_meet
            case rel => exact ⟨S6, S5, S4, S3, s2, s1, T6.out, ⟨US6.out, US5.out, US4.out, US3.out, US2.out, US1.out⟩, by have u0 := UC6.out; obtain ⟨u0, -⟩ := u0; have := HT.out; have := HM00.out; have := HM01.out; have := HM02.out; have := HM03.out; have := HM10.out; have := HM11.out; have := HM12.out; have := HM13.out; have := HM20.out; have := HM21.out; have := HM22.out; have := HM30.out; have := HM31.out; have := ES1.out; have := ES2.out; have := ES3.out; have := ES4.out; have := ES5.out; have := ES6.out; have := US6.out; have := US5.out; have := US4.out; have := US3.out; have := US2.out; have := US1.out; unfold nv6 U64 at *; omega⟩
  case rest =>
  obtain ⟨v30, v31, v32, v33, v34, v35, T, ⟨hu0, hu1, hu2, hu3, hu4, hu5⟩, hv⟩ := hcut
  rename World => w7
  have T7 := Lib.hid T
  have UV30 := Lib.hid hu0
  have UV31 := Lib.hid hu1
  have UV32 := Lib.hid hu2
  have UV33 := Lib.hid hu3
  have UV34 := Lib.hid hu4
  have UV35 := Lib.hid hu5
  have HV3 := Lib.hid hv
  clear T hv hu0 hu1 hu2 hu3 hu4 hu5 T0
  go_wp2
  -- row 2
  rw [rounds_succ]
  go_upto_block 1 with (fail)
  go_cut [] (fun wy => ∃ v20 v21 v22 v23 v24 v25 : Int, M6 w wy a0 a1 a2 a3 b0 b1 b2 b3 v20 v21 v22 v23 v24 v25 ∧ (U64 v20 ∧ U64 v21 ∧ U64 v22 ∧ U64 v23 ∧ U64 v24 ∧ U64 v25) ∧ nv6 v20 v21 v22 v23 v24 v25 = nv6 v30 v31 v32 v33 v34 v35 + (a2 * b2 + a2 * b1 * 18446744073709551616 + a2 * b0 * 340282366920938463463374607431768211456))
  case first =>
    go_wp2
    refine wp_loop_rounds 5 ?_
    rw [rounds_succ]
    go_wp2
    rw [rounds_succ]
    obtain ⟨H8, L8, S8, C8, s8, D8, c8, km, ka, kb, bh0, bh1, bc0, bc1, bd0, bd1, ec, bc, us, es⟩ := mulStep G.out.1.2.1 G.out.2.2.1 UV35.out hz
    have KM := Lib.hid km
    have KA := Lib.hid ka
    have KB := Lib.hid kb
    have US8 := Lib.hid us
    have ES8 := Lib.hid es
    have EC := Lib.hid ec
    have UC8 : Hid (U64 c8) := Lib.hid ⟨by omega, by omega⟩
    have bcl : 0 ≤ c8 := UC8.out.1
    clear km ka kb us es ec
    have x := T7.out.A.cell 2
    have y := T7.out.B.cell 2
    simp at x y
    go_wp2
    go_quiet ((go_at_call 228; exact Calls.quiet_of_same (KM.out _)))
    rename_i nq
    clear x y
    have z := (T7.out.drewN nq).O.cell 5
    have f := (T7.out.drewN nq).O.frozen 5
    simp at z
    have ka := KA.out
    have kb := KB.out
    have ec := EC.out
    go_wp2
    have T8 := Lib.hid ((T7.out.drewN nq).set5 (d := s8))
    generalize ((w7.drewN nq).setCell ⟨w.heap.size + 1 + 1 + 1, 5, none⟩ (.int .u64 s8)) = w8 at *
    clear z f ka kb ec KM KA KB EC bh0 bh1 bc0 bc1 bd0 bd1 bcl bc
    rw [rounds_succ]
    obtain ⟨H9, L9, S9, C9, s9, D9, c9, km, ka, kb, bh0, bh1, bc0, bc1, bd0, bd1, ec, bc, us, es⟩ := mulStep G.out.1.2.1 G.out.2.1.2 UV34.out UC8.out
    have KM := Lib.hid km
    have KA := Lib.hid ka
    have KB := Lib.hid kb
    have US9 := Lib.hid us
    have ES9 := Lib.hid es
    have EC := Lib.hid ec
    have UC9 : Hid (U64 c9) := Lib.hid ⟨by omega, by omega⟩
    have bcl : 0 ≤ c9 := UC9.out.1
    clear km ka kb us es ec
    have x := T8.out.A.cell 2
    have y := T8.out.B.cell 1
    simp at x y
    go_wp2
    go_quiet ((go_at_call 228; exact Calls.quiet_of_same (KM.out _)))
    rename_i nq
    clear x y
    have z := (T8.out.drewN nq).O.cell 4
    have f := (T8.out.drewN nq).O.frozen 4
    simp at z
    have ka := KA.out
    have kb := KB.out
    have ec := EC.out
    go_wp2
    have T9 := Lib.hid ((T8.out.drewN nq).set4 (d := s9))
    generalize ((w8.drewN nq).setCell ⟨w.heap.size + 1 + 1 + 1, 4, none⟩ (.int .u64 s9)) = w9 at *
    clear z f ka kb ec KM KA KB EC bh0 bh1 bc0 bc1 bd0 bd1 bcl bc
    rw [rounds_succ]
    obtain ⟨H10, L10, S10, C10, s10, D10, c10, km, ka, kb, bh0, bh1, bc0, bc1, bd0, bd1, ec, bc, us, es⟩ := mulStep G.out.1.2.1 G.out.2.1.1 UV33.out UC9.out
    have KM := Lib.hid km
    have KA := Lib.hid ka
    have KB := Lib.hid kb
    have US10 := Lib.hid us
    have ES10 := Lib.hid es
    have EC := Lib.hid ec
    have UC10 : Hid (U64 c10) := Lib.hid ⟨by omega, by omega⟩
    have bcl : 0 ≤ c10 := UC10.out.1
    clear km ka kb us es ec
    have x := T9.out.A.cell 2
    have y := T9.out.B.cell 0
    simp at x y
    go_wp2
    go_quiet ((go_at_call 228; exact Calls.quiet_of_same (KM.out _)))
    rename_i nq
    clear x y
    have z := (T9.out.drewN nq).O.cell 3
    have f := (T9.out.drewN nq).O.frozen 3
    simp at z
    have ka := KA.out
    have kb := KB.out
    have ec := EC.out
    go_wp2
    have T10 := Lib.hid ((T9.out.drewN nq).set3 (d := s10))
    generalize ((w9.drewN nq).setCell ⟨w.heap.size + 1 + 1 + 1, 3, none⟩ (.int .u64 s10)) = w10 at *
    clear z f ka kb ec KM KA KB EC bh0 bh1 bc0 bc1 bd0 bd1 bcl bc
    rw [rounds_succ]
    go_wp2
    refine wp_loop_rounds 4 ?_
    rw [rounds_succ]
    by_cases hc : c10 = 0
    · have hd : decide (0 < c10) = false := decide_eq_false (by omega)
      go_wp2
      go_meet
      case rel => exact ⟨v30, v31, v32, s10, s9, s8, T10.out, ⟨UV30.out, UV31.out, UV32.out, US10.out, US9.out, US8.out⟩, by clear hd; have := ES8.out; have := ES9.out; have := ES10.out; unfold nv6; omega⟩
    · have hd : decide (0 < c10) = true := decide_eq_true (by have := UC10.out.1; omega)
      clear hc
      obtain ⟨S11, C11, ka, us, b0', b1', es⟩ := addStep UV32.out UC10.out
      have KA := Lib.hid ka
      have US11 := Lib.hid us
      have ES11 := Lib.hid es
      have UC11 : Hid (U64 C11) := Lib.hid ⟨b0', by omega⟩
      clear ka us es
      have z := T10.out.O.cell 2
      have f := T10.out.O.frozen 2
      simp at z
      have ka := KA.out
      go_wp2
      have T11 := Lib.hid (T10.out.set2 (d := S11))
      generalize (w10.setCell ⟨w.heap.size + 1 + 1 + 1, 2, none⟩ (.int .u64 S11)) = w11 at *
      clear z f ka KA b0' b1' hd
      rw [rounds_succ]
      by_cases hc : C11 = 0
      · have hd : decide (0 < C11) = false := decide_eq_false (by omega)
        go_wp2
        go_meet
        case rel => exact ⟨v30, v31, S11, s10, s9, s8, T11.out, ⟨UV30.out, UV31.out, US11.out, US10.out, US9.out, US8.out⟩, by clear hd; have := ES8.out; have := ES9.out; have := ES10.out; have := ES11.out; unfold nv6; omega⟩
      · have hd : decide (0 < C11) = true := decide_eq_true (by have := UC11.out.1; omega)
        clear hc
        obtain ⟨S12, C12, ka, us, b0', b1', es⟩ := addStep UV31.out UC11.out
        have KA := Lib.hid ka
        have US12 := Lib.hid us
        have ES12 := Lib.hid es
        have UC12 : Hid (U64 C12) := Lib.hid ⟨b0', by omega⟩
        clear ka us es
        have z := T11.out.O.cell 1
        have f := T11.out.O.frozen 1
        simp at z
        have ka := KA.out
        go_wp2
        have T12 := Lib.hid (T11.out.set1 (d := S12))
        generalize (w11.setCell ⟨w.heap.size + 1 + 1 + 1, 1, none⟩ (.int .u64 S12)) = w12 at *
        clear z f ka KA b0' b1' hd
        rw [rounds_succ]
        by_cases hc : C12 = 0
        · have hd : decide (0 < C12) = false := decide_eq_false (by omega)
          go_wp2
          go_meet
          case rel => exact ⟨v30, S12, S11, s10, s9, s8, T12.out, ⟨UV30.out, US12.out, US11.out, US10.out, US9.out, US8.out⟩, by clear hd; have := ES8.out; have := ES9.out; have := ES10.out; have := ES11.out; have := ES12.out; unfold nv6; omega⟩
        · have hd : decide (0 < C12) = true := decide_eq_true (by have := UC12.out.1; omega)
          clear hc
          obtain ⟨S13, C13, ka, us, b0', b1', es⟩ := addStep UV30.out UC12.out
          have KA := Lib.hid ka
          have US13 := Lib.hid us
          have ES13 := Lib.hid es
          have UC13 : Hid (U64 C13) := Lib.hid ⟨b0', by omega⟩
          clear ka us es
          have z := T12.out.O.cell 0
          have f := T12.out.O.frozen 0
          simp at z
          have ka := KA.out
          go_wp2
          have T13 := Lib.hid (T12.out.set0 (d := S13))
          generalize (w12.setCell ⟨w.heap.size + 1 + 1 + 1, 0, none⟩ (.int .u64 S13)) = w13 at *
          clear z f ka KA b0' b1' hd
          rw [rounds_succ]
          go_wp2
          go_meet
          case rel => exact ⟨S13, S12, S11, s10, s9, s8, T13.out, ⟨US13.out, US12.out, US11.out, US10.out, US9.out, US8.out⟩, by have u0 := UC13.out; obtain ⟨u0, -⟩ := u0; have := HT.out; have := HM00.out; have := HM01.out; have := HM02.out; have := HM03.out; have := HM10.out; have := HM11.out; have := HM12.out; have := HM13.out; have := HM20.out; have := HM21.out; have := HM22.out; have := HM30.out; have := HM31.out; have := HV3.out; have := ES8.out; have := ES9.out; have := ES10.out; have := ES11.out; have := ES12.out; have := ES13.out; have := US13.out; have := US12.out; have := US11.out; have := US10.out; have := US9.out; have := US8.out; unfold nv6 U64 at *; omega⟩
  case rest =>
  obtain ⟨v20, v21, v22, v23, v24, v25, T, ⟨hu0, hu1, hu2, hu3, hu4, hu5⟩, hv⟩ := hcut
  rename World => w14
  have T14 := Lib.hid T
  have UV20 := Lib.hid hu0
  have UV21 := Lib.hid hu1
  have UV22 := Lib.hid hu2
  have UV23 := Lib.hid hu3
  have UV24 := Lib.hid hu4
  have UV25 := Lib.hid hu5
  have HV2 := Lib.hid hv
  clear T hv hu0 hu1 hu2 hu3 hu4 hu5 T7
  go_wp2
  -- row 1
  rw [rounds_succ]
  go_upto_block 1 with (fail)
  go_cut [] (fun wy => ∃ v10 v11 v12 v13 v14 v15 : Int, M6 w wy a0 a1 a2 a3 b0 b1 b2 b3 v10 v11 v12 v13 v14 v15 ∧ (U64 v10 ∧ U64 v11 ∧ U64 v12 ∧ U64 v13 ∧ U64 v14 ∧ U64 v15) ∧ nv6 v10 v11 v12 v13 v14 v15 = nv6 v20 v21 v22 v23 v24 v25 + (a1 * b3 + a1 * b2 * 18446744073709551616 + a1 * b1 * 340282366920938463463374607431768211456 + a1 * b0 * 6277101735386680763835789423207666416102355444464034512896))
  case first =>
    go_wp2
    refine wp_loop_rounds 5 ?_
    rw [rounds_succ]
    obtain ⟨H15, L15, S15, C15, s15, D15, c15, km, ka, kb, bh0, bh1, bc0, bc1, bd0, bd1, ec, bc, us, es⟩ := mulStep G.out.1.1.2 G.out.2.2.2 UV25.out hz
    have KM := Lib.hid km
    have KA := Lib.hid ka
    have KB := Lib.hid kb
    have US15 := Lib.hid us
    have ES15 := Lib.hid es
    have EC := Lib.hid ec
    have UC15 : Hid (U64 c15) := Lib.hid ⟨by omega, by omega⟩
    have bcl : 0 ≤ c15 := UC15.out.1
    clear km ka kb us es ec
    have x := T14.out.A.cell 1
    have y := T14.out.B.cell 3
    simp at x y
    go_wp2
    go_quiet ((go_at_call 228; exact Calls.quiet_of_same (KM.out _)))
    rename_i nq
    clear x y
    have z := (T14.out.drewN nq).O.cell 5
    have f := (T14.out.drewN nq).O.frozen 5
    simp at z
    have ka := KA.out
    have kb := KB.out
    have ec := EC.out
    go_wp2
    have T15 := Lib.hid ((T14.out.drewN nq).set5 (d := s15))
    generalize ((w14.drewN nq).setCell ⟨w.heap.size + 1 + 1 + 1, 5, none⟩ (.int .u64 s15)) = w15 at *
    clear z f ka kb ec KM KA KB EC bh0 bh1 bc0 bc1 bd0 bd1 bcl bc
    rw [rounds_succ]
    obtain ⟨H16, L16, S16, C16, s16, D16, c16, km, ka, kb, bh0, bh1, bc0, bc1, bd0, bd1, ec, bc, us, es⟩ := mulStep G.out.1.1.2 G.out.2.2.1 UV24.out UC15.out
    have KM := Lib.hid km
    have KA := Lib.hid ka
    have KB := Lib.hid kb
    have US16 := Lib.hid us
    have ES16 := Lib.hid es
    have EC := Lib.hid ec
    have UC16 : Hid (U64 c16) := Lib.hid ⟨by omega, by omega⟩
    have bcl : 0 ≤ c16 := UC16.out.1
    clear km ka kb us es ec
    have x := T15.out.A.cell 1
    have y := T15.out.B.cell 2
    simp at x y
    go_wp2
    go_quiet ((go_at_call 228; exact Calls.quiet_of_same (KM.out _)))
    rename_i nq
    clear x y
    have z := (T15.out.drewN nq).O.cell 4
    have f := (T15.out.drewN nq).O.frozen 4
    simp at z
    have ka := KA.out
    have kb := KB.out
    have ec := EC.out
    go_wp2
    have T16 := Lib.hid ((T15.out.drewN nq).set4 (d := s16))
    generalize ((w15.drewN nq).setCell ⟨w.heap.size + 1 + 1 + 1, 4, none⟩ (.int .u64 s16)) = w16 at *
    clear z f ka kb ec KM KA KB EC bh0 bh1 bc0 bc1 bd0 bd1 bcl bc
    rw [rounds_succ]
    obtain ⟨H17, L17, S17, C17, s17, D17, c17, km, ka, kb, bh0, bh1, bc0, bc1, bd0, bd1, ec, bc, us, es⟩ := mulStep G.out.1.1.2 G.out.2.1.2 UV23.out UC16.out
    have KM := Lib.hid km
    have KA := Lib.hid ka
    have KB := Lib.hid kb
    have US17 := Lib.hid us
    have ES17 := Lib.hid es
    have EC := Lib.hid ec
    have UC17 : Hid (U64 c17) := Lib.hid ⟨by omega, by omega⟩
    have bcl : 0 ≤ c17 := UC17.out.1
    clear km ka kb us es ec
    have x := T16.out.A.cell 1
    have y := T16.out.B.cell 1
    simp at x y
    go_wp2
    go_quiet ((go_at_call 228; exact Calls.quiet_of_same (KM.out _)))
    rename_i nq
    clear x y
    have z := (T16.out.drewN nq).O.cell 3
    have f := (T16.out.drewN nq).O.frozen 3
    simp at z
    have ka := KA.out
    have kb := KB.out
    have ec := EC.out
    go_wp2
    have T17 := Lib.hid ((T16.out.drewN nq).set3 (d := s17))
    generalize ((w16.drewN nq).setCell ⟨w.heap.size + 1 + 1 + 1, 3, none⟩ (.int .u64 s17)) = w17 at *
    clear z f ka kb ec KM KA KB EC bh0 bh1 bc0 bc1 bd0 bd1 bcl bc
    rw [rounds_succ]
    obtain ⟨H18, L18, S18, C18, s18, D18, c18, km, ka, kb, bh0, bh1, bc0, bc1, bd0, bd1, ec, bc, us, es⟩ := mulStep G.out.1.1.2 G.out.2.1.1 UV22.out UC17.out
    have KM := Lib.hid km
    have KA := Lib.hid ka
    have KB := Lib.hid kb
    have US18 := Lib.hid us
    have ES18 := Lib.hid es
    have EC := Lib.hid ec
    have UC18 : Hid (U64 c18) := Lib.hid ⟨by omega, by omega⟩
    have bcl : 0 ≤ c18 := UC18.out.1
    clear km ka kb us es ec
    have x := T17.out.A.cell 1
    have y := T17.out.B.cell 0
    simp at x y
    go_wp2
    go_quiet ((go_at_call 228; exact Calls.quiet_of_same (KM.out _)))
    rename_i nq
    clear x y
    have z := (T17.out.drewN nq).O.cell 2
    have f := (T17.out.drewN nq).O.frozen 2
    simp at z
    have ka := KA.out
    have kb := KB.out
    have ec := EC.out
    go_wp2
    have T18 := Lib.hid ((T17.out.drewN nq).set2 (d := s18))
    generalize ((w17.drewN nq).setCell ⟨w.heap.size + 1 + 1 + 1, 2, none⟩ (.int .u64 s18)) = w18 at *
    clear z f ka kb ec KM KA KB EC bh0 bh1 bc0 bc1 bd0 bd1 bcl bc
    rw [rounds_succ]
    go_wp2
    refine wp_loop_rounds 3 ?_
    rw [rounds_succ]
    by_cases hc : c18 = 0
    · have hd : decide (0 < c18) = false := decide_eq_false (by omega)
      go_wp2
      go_meet
      case rel => exact ⟨v20, v21, s18, s17, s16, s15, T18.out, ⟨UV20.out, UV21.out, US18.out, US17.out, US16.out, US15.out⟩, by clear hd; have := ES15.out; have := ES16.out; have := ES17.out; have := ES18.out; unfold nv6; omega⟩
    · have hd : decide (0 < c18) = true := decide_eq_true (by have := UC18.out.1; omega)
      clear hc
      obtain ⟨S19, C19, ka, us, b0', b1', es⟩ := addStep UV21.out UC18.out
      have KA := Lib.hid ka
      have US19 := Lib.hid us
      have ES19 := Lib.hid es
      have UC19 : Hid (U64 C19) := Lib.hid ⟨b0', by omega⟩
      clear ka us es
      have z := T18.out.O.cell 1
      have f := T18.out.O.frozen 1
      simp at z
      have ka := KA.out
      go_wp2
      have T19 := Lib.hid (T18.out.set1 (d := S19))
      generalize (w18.setCell ⟨w.heap.size + 1 + 1 + 1, 1, none⟩ (.int .u64 S19)) = w19 at *
      clear z f ka KA b0' b1' hd
      rw [rounds_succ]
      by_cases hc : C19 = 0
      · have hd : decide (0 < C19) = false := decide_eq_false (by omega)
        go_wp2
        go_meet
        case rel => exact ⟨v20, S19, s18, s17, s16, s15, T19.out, ⟨UV20.out, US19.out, US18.out, US17.out, US16.out, US15.out⟩, by clear hd; have := ES15.out; have := ES16.out; have := ES17.out; have := ES18.out; have := ES19.out; unfold nv6; omega⟩
      · have hd : decide (0 < C19) = true := decide_eq_true (by have := UC19.out.1; omega)
        clear hc
        obtain ⟨S20, C20, ka, us, b0', b1', es⟩ := addStep UV20.out UC19.out
        have KA := Lib.hid ka
        have US20 := Lib.hid us
        have ES20 := Lib.hid es
        have UC20 : Hid (U64 C20) := Lib.hid ⟨b0', by omega⟩
        clear ka us es
        have z := T19.out.O.cell 0
        have f := T19.out.O.frozen 0
        simp at z
        have ka := KA.out
        go_wp2
        have T20 := Lib.hid (T19.out.set0 (d := S20))
        generalize (w19.setCell ⟨w.heap.size + 1 + 1 + 1, 0, none⟩ (.int .u64 S20)) = w20 at *
        clear z f ka KA b0' b1' hd
        rw [rounds_succ]
        go_wp2
        go_meet
        case rel => exact ⟨S20, S19, s18, s17, s16, s15, T20.out, ⟨US20.out, US19.out, US18.out, US17.out, US16.out, US15.out⟩, by have u0 := UC20.out; obtain ⟨u0, -⟩ := u0; have := HT.out; have := HM00.out; have := HM01.out; have := HM02.out; have := HM03.out; have := HM10.out; have := HM11.out; have := HM12.out; have := HM13.out; have := HM20.out; have := HM21.out; have := HM22.out; have := HM30.out; have := HM31.out; have := HV3.out; have := HV2.out; have := ES15.out; have := ES16.out; have := ES17.out; have := ES18.out; have := ES19.out; have := ES20.out; have := US20.out; have := US19.out; have := US18.out; have := US17.out; have := US16.out; have := US15.out; unfold nv6 U64 at *; omega⟩
  case rest =>
  obtain ⟨v10, v11, v12, v13, v14, v15, T, ⟨hu0, hu1, hu2, hu3, hu4, hu5⟩, hv⟩ := hcut
  rename World => w21
  have T21 := Lib.hid T
  have UV10 := Lib.hid hu0
  have UV11 := Lib.hid hu1
  have UV12 := Lib.hid hu2
  have UV13 := Lib.hid hu3
  have UV14 := Lib.hid hu4
  have UV15 := Lib.hid hu5
  have HV1 := Lib.hid hv
  clear T hv hu0 hu1 hu2 hu3 hu4 hu5 T14
  go_wp2
  -- row 0
  rw [rounds_succ]
  go_upto_block 1 with (fail)
  go_cut [] (fun wy => ∃ v00 v01 v02 v03 v04 v05 : Int, M6 w wy a0 a1 a2 a3 b0 b1 b2 b3 v00 v01 v02 v03 v04 v05 ∧ (U64 v00 ∧ U64 v01 ∧ U64 v02 ∧ U64 v03 ∧ U64 v04 ∧ U64 v05) ∧ nv6 v00 v01 v02 v03 v04 v05 = nv6 v10 v11 v12 v13 v14 v15 + (a0 * b3 * 18446744073709551616 + a0 * b2 * 340282366920938463463374607431768211456 + a0 * b1 * 6277101735386680763835789423207666416102355444464034512896 + a0 * b0 * 115792089237316195423570985008687907853269984665640564039457584007913129639936))
  case first =>
    go_wp2
    refine wp_loop_rounds 5 ?_
    rw [rounds_succ]
    obtain ⟨H22, L22, S22, C22, s22, D22, c22, km, ka, kb, bh0, bh1, bc0, bc1, bd0, bd1, ec, bc, us, es⟩ := mulStep G.out.1.1.1 G.out.2.2.2 UV14.out hz
    have KM := Lib.hid km
    have KA := Lib.hid ka
    have KB := Lib.hid kb
    have US22 := Lib.hid us
    have ES22 := Lib.hid es
    have EC := Lib.hid ec
    have UC22 : Hid (U64 c22) := Lib.hid ⟨by omega, by omega⟩
    have bcl : 0 ≤ c22 := UC22.out.1
    clear km ka kb us es ec
    have x := T21.out.A.cell 0
    have y := T21.out.B.cell 3
    simp at x y
    go_wp2
    go_quiet ((go_at_call 228; exact Calls.quiet_of_same (KM.out _)))
    rename_i nq
    clear x y
    have z := (T21.out.drewN nq).O.cell 4
    have f := (T21.out.drewN nq).O.frozen 4
    simp at z
    have ka := KA.out
    have kb := KB.out
    have ec := EC.out
    go_wp2
    have T22 := Lib.hid ((T21.out.drewN nq).set4 (d := s22))
    generalize ((w21.drewN nq).setCell ⟨w.heap.size + 1 + 1 + 1, 4, none⟩ (.int .u64 s22)) = w22 at *
    clear z f ka kb ec KM KA KB EC bh0 bh1 bc0 bc1 bd0 bd1 bcl bc
    rw [rounds_succ]
    obtain ⟨H23, L23, S23, C23, s23, D23, c23, km, ka, kb, bh0, bh1, bc0, bc1, bd0, bd1, ec, bc, us, es⟩ := mulStep G.out.1.1.1 G.out.2.2.1 UV13.out UC22.out
    have KM := Lib.hid km
    have KA := Lib.hid ka
    have KB := Lib.hid kb
    have US23 := Lib.hid us
    have ES23 := Lib.hid es
    have EC := Lib.hid ec
    have UC23 : Hid (U64 c23) := Lib.hid ⟨by omega, by omega⟩
    have bcl : 0 ≤ c23 := UC23.out.1
    clear km ka kb us es ec
    have x := T22.out.A.cell 0
    have y := T22.out.B.cell 2
    simp at x y
    go_wp2
    go_quiet ((go_at_call 228; exact Calls.quiet_of_same (KM.out _)))
    rename_i nq
    clear x y
    have z := (T22.out.drewN nq).O.cell 3
    have f := (T22.out.drewN nq).O.frozen 3
    simp at z
    have ka := KA.out
    have kb := KB.out
    have ec := EC.out
    go_wp2
    have T23 := Lib.hid ((T22.out.drewN nq).set3 (d := s23))
    generalize ((w22.drewN nq).setCell ⟨w.heap.size + 1 + 1 + 1, 3, none⟩ (.int .u64 s23)) = w23 at *
    clear z f ka kb ec KM KA KB EC bh0 bh1 bc0 bc1 bd0 bd1 bcl bc
    rw [rounds_succ]
    obtain ⟨H24, L24, S24, C24, s24, D24, c24, km, ka, kb, bh0, bh1, bc0, bc1, bd0, bd1, ec, bc, us, es⟩ := mulStep G.out.1.1.1 G.out.2.1.2 UV12.out UC23.out
    have KM := Lib.hid km
    have KA := Lib.hid ka
    have KB := Lib.hid kb
    have US24 := Lib.hid us
    have ES24 := Lib.hid es
    have EC := Lib.hid ec
    have UC24 : Hid (U64 c24) := Lib.hid ⟨by omega, by omega⟩
    have bcl : 0 ≤ c24 := UC24.out.1
    clear km ka kb us es ec
    have x := T23.out.A.cell 0
    have y := T23.out.B.cell 1
    simp at x y
    go_wp2
    go_quiet ((go_at_call 228; exact Calls.quiet_of_same (KM.out _)))
    rename_i nq
    clear x y
    have z := (T23.out.drewN nq).O.cell 2
    have f := (T23.out.drewN nq).O.frozen 2
    simp at z
    have ka := KA.out
    have kb := KB.out
    have ec := EC.out
    go_wp2
    have T24 := Lib.hid ((T23.out.drewN nq).set2 (d := s24))
    generalize ((w23.drewN nq).setCell ⟨w.heap.size + 1 + 1 + 1, 2, none⟩ (.int .u64 s24)) = w24 at *
    clear z f ka kb ec KM KA KB EC bh0 bh1 bc0 bc1 bd0 bd1 bcl bc
    rw [rounds_succ]
    obtain ⟨H25, L25, S25, C25, s25, D25, c25, km, ka, kb, bh0, bh1, bc0, bc1, bd0, bd1, ec, bc, us, es⟩ := mulStep G.out.1.1.1 G.out.2.1.1 UV11.out UC24.out
    have KM := Lib.hid km
    have KA := Lib.hid ka
    have KB := Lib.hid kb
    have US25 := Lib.hid us
    have ES25 := Lib.hid es
    have EC := Lib.hid ec
    have UC25 : Hid (U64 c25) := Lib.hid ⟨by omega, by omega⟩
    have bcl : 0 ≤ c25 := UC25.out.1
    clear km ka kb us es ec
    have x := T24.out.A.cell 0
    have y := T24.out.B.cell 0
    simp at x y
    go_wp2
    go_quiet ((go_at_call 228; exact Calls.quiet_of_same (KM.out _)))
    rename_i nq
    clear x y
    have z := (T24.out.drewN nq).O.cell 1
    have f := (T24.out.drewN nq).O.frozen 1
    simp at z
    have ka := KA.out
    have kb := KB.out
    have ec := EC.out
    go_wp2
    have T25 := Lib.hid ((T24.out.drewN nq).set1 (d := s25))
    generalize ((w24.drewN nq).setCell ⟨w.heap.size + 1 + 1 + 1, 1, none⟩ (.int .u64 s25)) = w25 at *
    clear z f ka kb ec KM KA KB EC bh0 bh1 bc0 bc1 bd0 bd1 bcl bc
    rw [rounds_succ]
    go_wp2
    refine wp_loop_rounds 2 ?_
    rw [rounds_succ]
    by_cases hc : c25 = 0
    · have hd : decide (0 < c25) = false := decide_eq_false (by omega)
      go_wp2
      go_meet
      case rel => exact ⟨v10, s25, s24, s23, s22, v15, T25.out, ⟨UV10.out, US25.out, US24.out, US23.out, US22.out, UV15.out⟩, by clear hd; have := ES22.out; have := ES23.out; have := ES24.out; have := ES25.out; unfold nv6; omega⟩
    · have hd : decide (0 < c25) = true := decide_eq_true (by have := UC25.out.1; omega)
      clear hc
      obtain ⟨S26, C26, ka, us, b0', b1', es⟩ := addStep UV10.out UC25.out
      have KA := Lib.hid ka
      have US26 := Lib.hid us
      have ES26 := Lib.hid es
      have UC26 : Hid (U64 C26) := Lib.hid ⟨b0', by omega⟩
      clear ka us es
      have z := T25.out.O.cell 0
      have f := T25.out.O.frozen 0
      simp at z
      have ka := KA.out
      go_wp2
      have T26 := Lib.hid (T25.out.set0 (d := S26))
      generalize (w25.setCell ⟨w.heap.size + 1 + 1 + 1, 0, none⟩ (.int .u64 S26)) = w26 at *
      clear z f ka KA b0' b1' hd
      rw [rounds_succ]
      go_wp2
      go_meet
      case rel => exact ⟨S26, s25, s24, s23, s22, v15, T26.out, ⟨US26.out, US25.out, US24.out, US23.out, US22.out, UV15.out⟩, by have u0 := UC26.out; obtain ⟨u0, -⟩ := u0; have := HT.out; have := HM00.out; have := HM01.out; have := HM02.out; have := HM03.out; have := HM10.out; have := HM11.out; have := HM12.out; have := HM13.out; have := HM20.out; have := HM21.out; have := HM22.out; have := HM30.out; have := HM31.out; have := HV3.out; have := HV2.out; have := HV1.out; have := ES22.out; have := ES23.out; have := ES24.out; have := ES25.out; have := ES26.out; have := US26.out; have := US25.out; have := US24.out; have := US23.out; have := US22.out; have := UV15.out; unfold nv6 U64 at *; omega⟩
  case rest =>
  obtain ⟨v00, v01, v02, v03, v04, v05, T, ⟨hu0, hu1, hu2, hu3, hu4, hu5⟩, hv⟩ := hcut
  rename World => w27
  have T27 := Lib.hid T
  have UV00 := Lib.hid hu0
  have UV01 := Lib.hid hu1
  have UV02 := Lib.hid hu2
  have UV03 := Lib.hid hu3
  have UV04 := Lib.hid hu4
  have UV05 := Lib.hid hu5
  have HV0 := Lib.hid hv
  clear T hv hu0 hu1 hu2 hu3 hu4 hu5 T21
  go_wp2
  rw [rounds_succ]
  have x0 := T27.out.O.cell 0
  have x1 := T27.out.O.cell 1
  have x2 := T27.out.O.cell 2
  have x3 := T27.out.O.cell 3
  have x4 := T27.out.O.cell 4
  have x5 := T27.out.O.cell 5
  have z0 := T27.out.C.cell 0
  have f0 := T27.out.C.frozen 0
  have z1 := T27.out.C.cell 1
  have f1 := T27.out.C.frozen 1
  have z2 := T27.out.C.cell 2
  have f2 := T27.out.C.frozen 2
  have z3 := T27.out.C.cell 3
  have f3 := T27.out.C.frozen 3
  simp at x0 x1 x2 x3 x4 x5 z0 z1 z2 z3
  have hat : ∀ W, (Instr.arrayAt 254 (.slice (some ⟨w.heap.size + 1 + 1 + 1, 0, none⟩) 4 6)).run Tryz.prog W = .ok (.pointer (some ⟨w.heap.size + 1 + 1 + 1, 0, none⟩)) W := fun W => run_arrayAt W _ _ 4 _ 4 6 Tryz.underlying254 (by omega)
  go_wp2
  refine bodyPost_ret (v := num4 v00 v01 v02 v03) (by simp [results, Tryz.results253, go_sem, *]) rfl ⟨⟨v00, v01, v02, v03, v04, v05, rfl, ⟨UV00.out, UV01.out, UV02.out, UV03.out, UV04.out, UV05.out⟩, ?_⟩, ?_⟩
  · rw [HV0.out, HV1.out, HV2.out, HV3.out]
    clear x0 x1 x2 x3 x4 x5 z0 z1 z2 z3 f0 f1 f2 f3 hat
    unfold nv6
    omega
  · exact (((T27.out.bl.setCell (by simp; omega) _).setCell (by simp; omega) _).setCell (by simp; omega) _).setCell (by simp; omega) _
end Go.Proofs.YtbpnacacnncopaaGreatDoor
