/- The walk of arctrig's product of numbers. -/
import Derived.Laws.Cover3
import Derived.Test.YtifdgdgfmjfbdaaGreatIBb
set_option linter.unusedVariables false
set_option linter.unusedSimpArgs false
namespace Go.Proofs.YtifdgdgfmjfbdaaGreat
open Go.RowKit
abbrev arr8 (o0 o1 o2 o3 o4 o5 o6 o7 : Int) : Array Value := #[.int .u64 o0, .int .u64 o1, .int .u64 o2, .int .u64 o3, .int .u64 o4, .int .u64 o5, .int .u64 o6, .int .u64 o7]
/-- the value of eight words -/
def nv8 (o0 o1 o2 o3 o4 o5 o6 o7 : Int) : Int := o0 * 726838724295606890549323807888004534353641360687318060281490199180639288113397923326191050713763565560762521606266177933534601628614656 + o1 * 39402006196394479212279040100143613805079739270465446667948293404245721771497210611414266254884915640806627990306816 + o2 * 2135987035920910082395021706169552114602704522356652769947041607822219725780640550022962086936576 + o3 * 115792089237316195423570985008687907853269984665640564039457584007913129639936 + o4 * 6277101735386680763835789423207666416102355444464034512896 + o5 * 340282366920938463463374607431768211456 + o6 * 18446744073709551616 + o7
/-- two numbers, a result, and eight words, at the end of the memory that was there -/
structure M8 (w wx : World) (a0 a1 a2 a3 b0 b1 b2 b3 o0 o1 o2 o3 o4 o5 o6 o7 : Int) : Prop where
  bl : Below w.heap.size w wx
  A : Blk wx w.heap.size 238 (arr4 a0 a1 a2 a3)
  B : Blk wx (w.heap.size + 1) 238 (arr4 b0 b1 b2 b3)
  C : Blk wx (w.heap.size + 1 + 1) 238 (arr4 0 0 0 0)
  O : Blk wx (w.heap.size + 1 + 1 + 1) 292 (arr8 o0 o1 o2 o3 o4 o5 o6 o7)
section
variable {w wx : World} {a0 a1 a2 a3 b0 b1 b2 b3 o0 o1 o2 o3 o4 o5 o6 o7 : Int}
theorem M8.drewN (h : M8 w wx a0 a1 a2 a3 b0 b1 b2 b3 o0 o1 o2 o3 o4 o5 o6 o7) (n : Nat) : M8 w (wx.drewN n) a0 a1 a2 a3 b0 b1 b2 b3 o0 o1 o2 o3 o4 o5 o6 o7 := ⟨bl_drewN h.bl n, h.A, h.B, h.C, h.O⟩
theorem M8.start (w : World) (a0 a1 a2 a3 b0 b1 b2 b3 : Int) : M8 w ((((w.alloc (.cells (arr4 a0 a1 a2 a3) 238)).alloc (.cells (arr4 b0 b1 b2 b3) 238)).alloc (.cells (arr4 0 0 0 0) 238)).alloc (.cells (arr8 0 0 0 0 0 0 0 0) 292)) a0 a1 a2 a3 b0 b1 b2 b3 0 0 0 0 0 0 0 0 := by
  have h := Twq.start w a0 a1 a2 a3 b0 b1 b2 b3
  have hz : (((w.alloc (.cells (arr4 a0 a1 a2 a3) 238)).alloc (.cells (arr4 b0 b1 b2 b3) 238)).alloc (.cells (arr4 0 0 0 0) 238)).heap.size = w.heap.size + 1 + 1 + 1 := by simp
  generalize ((w.alloc (.cells (arr4 a0 a1 a2 a3) 238)).alloc (.cells (arr4 b0 b1 b2 b3) 238)).alloc (.cells (arr4 0 0 0 0) 238) = W at *
  refine ⟨h.bl.alloc (by omega) _, h.A.alloc _, h.B.alloc _, h.C.alloc _, ?_⟩
  have := Blk.new W 292 (arr8 0 0 0 0 0 0 0 0)
  rw [hz] at this
  exact this
theorem M8.set_ (h : M8 w wx a0 a1 a2 a3 b0 b1 b2 b3 o0 o1 o2 o3 o4 o5 o6 o7) (i : Nat) (u : Value) :
    Below w.heap.size w (wx.setCell ⟨w.heap.size + 1 + 1 + 1, i, none⟩ u) ∧ Blk (wx.setCell ⟨w.heap.size + 1 + 1 + 1, i, none⟩ u) w.heap.size 238 (arr4 a0 a1 a2 a3) ∧ Blk (wx.setCell ⟨w.heap.size + 1 + 1 + 1, i, none⟩ u) (w.heap.size + 1) 238 (arr4 b0 b1 b2 b3) ∧ Blk (wx.setCell ⟨w.heap.size + 1 + 1 + 1, i, none⟩ u) (w.heap.size + 1 + 1) 238 (arr4 0 0 0 0) ∧
    Blk (wx.setCell ⟨w.heap.size + 1 + 1 + 1, i, none⟩ u) (w.heap.size + 1 + 1 + 1) 292 ((arr8 o0 o1 o2 o3 o4 o5 o6 o7).setIfInBounds i u) :=
  ⟨h.bl.setCell (show w.heap.size ≤ w.heap.size + 1 + 1 + 1 by omega) _, h.A.far (show w.heap.size ≠ w.heap.size + 1 + 1 + 1 by omega) u, h.B.far (show w.heap.size + 1 ≠ w.heap.size + 1 + 1 + 1 by omega) u, h.C.far (show w.heap.size + 1 + 1 ≠ w.heap.size + 1 + 1 + 1 by omega) u, h.O.set_ i u⟩
theorem M8.set0 {d : Int} (h : M8 w wx a0 a1 a2 a3 b0 b1 b2 b3 o0 o1 o2 o3 o4 o5 o6 o7) : M8 w (wx.setCell ⟨w.heap.size + 1 + 1 + 1, 0, none⟩ (.int .u64 d)) a0 a1 a2 a3 b0 b1 b2 b3 d o1 o2 o3 o4 o5 o6 o7 := by
  obtain ⟨h1, h2, h3, h4, h5⟩ := h.set_ 0 (.int .u64 d)
  exact ⟨h1, h2, h3, h4, h5⟩
theorem M8.set1 {d : Int} (h : M8 w wx a0 a1 a2 a3 b0 b1 b2 b3 o0 o1 o2 o3 o4 o5 o6 o7) : M8 w (wx.setCell ⟨w.heap.size + 1 + 1 + 1, 1, none⟩ (.int .u64 d)) a0 a1 a2 a3 b0 b1 b2 b3 o0 d o2 o3 o4 o5 o6 o7 := by
  obtain ⟨h1, h2, h3, h4, h5⟩ := h.set_ 1 (.int .u64 d)
  exact ⟨h1, h2, h3, h4, h5⟩
theorem M8.set2 {d : Int} (h : M8 w wx a0 a1 a2 a3 b0 b1 b2 b3 o0 o1 o2 o3 o4 o5 o6 o7) : M8 w (wx.setCell ⟨w.heap.size + 1 + 1 + 1, 2, none⟩ (.int .u64 d)) a0 a1 a2 a3 b0 b1 b2 b3 o0 o1 d o3 o4 o5 o6 o7 := by
  obtain ⟨h1, h2, h3, h4, h5⟩ := h.set_ 2 (.int .u64 d)
  exact ⟨h1, h2, h3, h4, h5⟩
theorem M8.set3 {d : Int} (h : M8 w wx a0 a1 a2 a3 b0 b1 b2 b3 o0 o1 o2 o3 o4 o5 o6 o7) : M8 w (wx.setCell ⟨w.heap.size + 1 + 1 + 1, 3, none⟩ (.int .u64 d)) a0 a1 a2 a3 b0 b1 b2 b3 o0 o1 o2 d o4 o5 o6 o7 := by
  obtain ⟨h1, h2, h3, h4, h5⟩ := h.set_ 3 (.int .u64 d)
  exact ⟨h1, h2, h3, h4, h5⟩
theorem M8.set4 {d : Int} (h : M8 w wx a0 a1 a2 a3 b0 b1 b2 b3 o0 o1 o2 o3 o4 o5 o6 o7) : M8 w (wx.setCell ⟨w.heap.size + 1 + 1 + 1, 4, none⟩ (.int .u64 d)) a0 a1 a2 a3 b0 b1 b2 b3 o0 o1 o2 o3 d o5 o6 o7 := by
  obtain ⟨h1, h2, h3, h4, h5⟩ := h.set_ 4 (.int .u64 d)
  exact ⟨h1, h2, h3, h4, h5⟩
theorem M8.set5 {d : Int} (h : M8 w wx a0 a1 a2 a3 b0 b1 b2 b3 o0 o1 o2 o3 o4 o5 o6 o7) : M8 w (wx.setCell ⟨w.heap.size + 1 + 1 + 1, 5, none⟩ (.int .u64 d)) a0 a1 a2 a3 b0 b1 b2 b3 o0 o1 o2 o3 o4 d o6 o7 := by
  obtain ⟨h1, h2, h3, h4, h5⟩ := h.set_ 5 (.int .u64 d)
  exact ⟨h1, h2, h3, h4, h5⟩
theorem M8.set6 {d : Int} (h : M8 w wx a0 a1 a2 a3 b0 b1 b2 b3 o0 o1 o2 o3 o4 o5 o6 o7) : M8 w (wx.setCell ⟨w.heap.size + 1 + 1 + 1, 6, none⟩ (.int .u64 d)) a0 a1 a2 a3 b0 b1 b2 b3 o0 o1 o2 o3 o4 o5 d o7 := by
  obtain ⟨h1, h2, h3, h4, h5⟩ := h.set_ 6 (.int .u64 d)
  exact ⟨h1, h2, h3, h4, h5⟩
theorem M8.set7 {d : Int} (h : M8 w wx a0 a1 a2 a3 b0 b1 b2 b3 o0 o1 o2 o3 o4 o5 o6 o7) : M8 w (wx.setCell ⟨w.heap.size + 1 + 1 + 1, 7, none⟩ (.int .u64 d)) a0 a1 a2 a3 b0 b1 b2 b3 o0 o1 o2 o3 o4 o5 o6 d := by
  obtain ⟨h1, h2, h3, h4, h5⟩ := h.set_ 7 (.int .u64 d)
  exact ⟨h1, h2, h3, h4, h5⟩
end
/-- one product, added to a word and a carry -/
theorem mulSt8 {a b o c : Int} (ha : U64 a) (hb : U64 b) (ho : U64 o) (hc : U64 c) : ∃ H L S C1 S' C2 h' c' : Int,
    (∀ W, Calls Tryz.prog 277 #[.int .u64 a, .int .u64 b] W fun e w' => e = .returned (.tuple #[.int .u64 H, .int .u64 L]) ∧ w' = W) ∧
    (∀ W, (callFunc 278 #[.int .u64 L, .int .u64 o, .int .u64 0]).run Tryz.prog W = .ok (.value (.tuple #[.int .u64 S, .int .u64 C1])) W) ∧
    (∀ W, (callFunc 278 #[.int .u64 S, .int .u64 c, .int .u64 0]).run Tryz.prog W = .ok (.value (.tuple #[.int .u64 S', .int .u64 C2])) W) ∧
    IntKind.u64.wrap (H + C1) = h' ∧ IntKind.u64.wrap (h' + C2) = c' ∧ U64 c' ∧ U64 S' ∧ S' + 18446744073709551616 * c' = o + a * b + c := by
  have hL := muL_u a b
  have hH := muH_bd ha hb
  have e1 := mu_eq a b
  have hm := mul_lt ha hb
  have e2 := ad_eq (muL a b) o 0
  have e3 := ad_eq (adS (muL a b) o 0) c 0
  have u2 := adS_u (muL a b) o 0
  have b2 := adC_bd hL ho (by omega : (0 : Int) ≤ 0) (by omega)
  have b3 := adC_bd u2 hc (by omega : (0 : Int) ≤ 0) (by omega)
  have u3 := adS_u (adS (muL a b) o 0) c 0
  have k : muH a b + adC (muL a b) o 0 + adC (adS (muL a b) o 0) c 0 ≤ 18446744073709551615 := by
    unfold U64 at *
    generalize muL a b = L at *
    generalize muH a b = H at *
    generalize a * b = p at *
    generalize adS L o 0 = S at *
    generalize adC L o 0 = C1 at *
    generalize adS S c 0 = S' at *
    generalize adC S c 0 = C2 at *
    omega
  refine ⟨muH a b, muL a b, adS (muL a b) o 0, adC (muL a b) o 0, adS (adS (muL a b) o 0) c 0, adC (adS (muL a b) o 0) c 0, muH a b + adC (muL a b) o 0, muH a b + adC (muL a b) o 0 + adC (adS (muL a b) o 0) c 0, fun W => mul64 a b ha hb W, fun W => add64_0 _ o hL ho W, fun W => add64_0 _ c u2 hc W, ?_, ?_, ⟨by omega, by omega⟩, u3, by omega⟩
  · rw [IntKind.wrap_u64]; omega
  · rw [IntKind.wrap_u64]; omega
theorem hz8 : U64 0 := ⟨by omega, by omega⟩
theorem row_nv (a b0 b1 b2 b3 : Int) : a * nv b0 b1 b2 b3 = a * b0 * 6277101735386680763835789423207666416102355444464034512896 + a * b1 * 340282366920938463463374607431768211456 + a * b2 * 18446744073709551616 + a * b3 := by
  unfold nv
  rw [Int.mul_add, Int.mul_add, Int.mul_add, ← Int.mul_assoc, ← Int.mul_assoc, ← Int.mul_assoc]
theorem nv_mul (a0 a1 a2 a3 B : Int) : nv a0 a1 a2 a3 * B = a0 * B * 6277101735386680763835789423207666416102355444464034512896 + a1 * B * 340282366920938463463374607431768211456 + a2 * B * 18446744073709551616 + a3 * B := by
  unfold nv
  rw [Int.add_mul, Int.add_mul, Int.add_mul, Int.mul_right_comm a0, Int.mul_right_comm a1, Int.mul_right_comm a2]
/-- what the product of two numbers is at most -/
def MulQ (a0 a1 a2 a3 b0 b1 b2 b3 : Int) (e : Ending) : Prop := ∃ r0 r1 r2 r3 : Int, e = .returned (num4 r0 r1 r2 r3) ∧ (U64 r0 ∧ U64 r1 ∧ U64 r2 ∧ U64 r3) ∧ nv r0 r1 r2 r3 * 6277101735386680763835789423207666416102355444464034512896 ≤ nv a0 a1 a2 a3 * nv b0 b1 b2 b3
set_option maxHeartbeats 8000000 in
set_option maxRecDepth 100000 in
theorem mulQ_any (a0 a1 a2 a3 b0 b1 b2 b3 : Int) (w : World) (ha0 : U64 a0) (ha1 : U64 a1) (ha2 : U64 a2) (ha3 : U64 a3) (hb0 : U64 b0) (hb1 : U64 b1) (hb2 : U64 b2) (hb3 : U64 b3) :
    Calls Tryz.prog 275 #[num4 a0 a1 a2 a3, num4 b0 b1 b2 b3] w fun e w' => MulQ a0 a1 a2 a3 b0 b1 b2 b3 e ∧ Below w.heap.size w w' := by
  have G := Lib.hid (And.intro (And.intro (And.intro ha0 ha1) (And.intro ha2 ha3)) (And.intro (And.intro hb0 hb1) (And.intro hb2 hb3)))
  clear ha0 ha1 ha2 ha3 hb0 hb1 hb2 hb3
  go_enter Tryz.func275, Tryz.ntmps275
  go_wp2
  have T0 := Lib.hid (M8.start w a0 a1 a2 a3 b0 b1 b2 b3)
  unfold arr4 arr8 at T0
  generalize (((w.alloc (.cells #[.int .u64 a0, .int .u64 a1, .int .u64 a2, .int .u64 a3] 238)).alloc (.cells #[.int .u64 b0, .int .u64 b1, .int .u64 b2, .int .u64 b3] 238)).alloc (.cells #[.int .u64 0, .int .u64 0, .int .u64 0, .int .u64 0] 238)).alloc (.cells #[.int .u64 0, .int .u64 0, .int .u64 0, .int .u64 0, .int .u64 0, .int .u64 0, .int .u64 0, .int .u64 0] 292) = w0 at *
  refine wp_loop_rounds 5 ?_
  -- row 3
  rw [rounds_succ]
  go_upto_block 1 with (fail)
  go_cut [] (fun wy => ∃ v33 v34 v35 v36 v37 : Int, M8 w wy a0 a1 a2 a3 b0 b1 b2 b3 0 0 0 v33 v34 v35 v36 v37 ∧ (U64 v33 ∧ U64 v34 ∧ U64 v35 ∧ U64 v36 ∧ U64 v37) ∧ nv8 0 0 0 v33 v34 v35 v36 v37 = nv8 0 0 0 0 0 0 0 0 + (a3 * b3 + a3 * b2 * 18446744073709551616 + a3 * b1 * 340282366920938463463374607431768211456 + a3 * b0 * 6277101735386680763835789423207666416102355444464034512896))
  case first =>
    go_wp2
    refine wp_loop_rounds 5 ?_
    rw [rounds_succ]
    obtain ⟨H1, L1, S1, C1, s1, D1, h1, c1, km, ka, kb, eh, ec, uc, us, es⟩ := mulSt8 G.out.1.2.2 G.out.2.2.2 hz8 hz8
    have KM := Lib.hid km
    have KA := Lib.hid ka
    have KB := Lib.hid kb
    have US1 := Lib.hid us
    have ES1 := Lib.hid es
    have EC := Lib.hid (And.intro eh ec)
    have UC1 := Lib.hid uc
    clear km ka kb us es eh ec uc
    have x := T0.out.A.cell 3
    have y := T0.out.B.cell 3
    simp at x y
    go_wp2
    go_quiet ((go_at_call 277; exact Calls.quiet_of_same (KM.out _)))
    rename_i nq
    clear x y
    have z := (T0.out.drewN nq).O.cell 7
    have f := (T0.out.drewN nq).O.frozen 7
    simp at z
    have ka := KA.out
    have kb := KB.out
    have eh := EC.out.1
    have ec := EC.out.2
    go_wp2
    have T1 := Lib.hid ((T0.out.drewN nq).set7 (d := s1))
    generalize ((w0.drewN nq).setCell ⟨w.heap.size + 1 + 1 + 1, 7, none⟩ (.int .u64 s1)) = w1 at *
    clear z f ka kb eh ec KM KA KB EC
    rw [rounds_succ]
    obtain ⟨H2, L2, S2, C2, s2, D2, h2, c2, km, ka, kb, eh, ec, uc, us, es⟩ := mulSt8 G.out.1.2.2 G.out.2.2.1 hz8 UC1.out
    have KM := Lib.hid km
    have KA := Lib.hid ka
    have KB := Lib.hid kb
    have US2 := Lib.hid us
    have ES2 := Lib.hid es
    have EC := Lib.hid (And.intro eh ec)
    have UC2 := Lib.hid uc
    clear km ka kb us es eh ec uc
    have x := T1.out.A.cell 3
    have y := T1.out.B.cell 2
    simp at x y
    go_wp2
    go_quiet ((go_at_call 277; exact Calls.quiet_of_same (KM.out _)))
    rename_i nq
    clear x y
    have z := (T1.out.drewN nq).O.cell 6
    have f := (T1.out.drewN nq).O.frozen 6
    simp at z
    have ka := KA.out
    have kb := KB.out
    have eh := EC.out.1
    have ec := EC.out.2
    go_wp2
    have T2 := Lib.hid ((T1.out.drewN nq).set6 (d := s2))
    generalize ((w1.drewN nq).setCell ⟨w.heap.size + 1 + 1 + 1, 6, none⟩ (.int .u64 s2)) = w2 at *
    clear z f ka kb eh ec KM KA KB EC
    rw [rounds_succ]
    obtain ⟨H3, L3, S3, C3, s3, D3, h3, c3, km, ka, kb, eh, ec, uc, us, es⟩ := mulSt8 G.out.1.2.2 G.out.2.1.2 hz8 UC2.out
    have KM := Lib.hid km
    have KA := Lib.hid ka
    have KB := Lib.hid kb
    have US3 := Lib.hid us
    have ES3 := Lib.hid es
    have EC := Lib.hid (And.intro eh ec)
    have UC3 := Lib.hid uc
    clear km ka kb us es eh ec uc
    have x := T2.out.A.cell 3
    have y := T2.out.B.cell 1
    simp at x y
    go_wp2
    go_quiet ((go_at_call 277; exact Calls.quiet_of_same (KM.out _)))
    rename_i nq
    clear x y
    have z := (T2.out.drewN nq).O.cell 5
    have f := (T2.out.drewN nq).O.frozen 5
    simp at z
    have ka := KA.out
    have kb := KB.out
    have eh := EC.out.1
    have ec := EC.out.2
    go_wp2
    have T3 := Lib.hid ((T2.out.drewN nq).set5 (d := s3))
    generalize ((w2.drewN nq).setCell ⟨w.heap.size + 1 + 1 + 1, 5, none⟩ (.int .u64 s3)) = w3 at *
    clear z f ka kb eh ec KM KA KB EC
    rw [rounds_succ]
    obtain ⟨H4, L4, S4, C4, s4, D4, h4, c4, km, ka, kb, eh, ec, uc, us, es⟩ := mulSt8 G.out.1.2.2 G.out.2.1.1 hz8 UC3.out
    have KM := Lib.hid km
    have KA := Lib.hid ka
    have KB := Lib.hid kb
    have US4 := Lib.hid us
    have ES4 := Lib.hid es
    have EC := Lib.hid (And.intro eh ec)
    have UC4 := Lib.hid uc
    clear km ka kb us es eh ec uc
    have x := T3.out.A.cell 3
    have y := T3.out.B.cell 0
    simp at x y
    go_wp2
    go_quiet ((go_at_call 277; exact Calls.quiet_of_same (KM.out _)))
    rename_i nq
    clear x y
    have z := (T3.out.drewN nq).O.cell 4
    have f := (T3.out.drewN nq).O.frozen 4
    simp at z
    have ka := KA.out
    have kb := KB.out
    have eh := EC.out.1
    have ec := EC.out.2
    go_wp2
    have T4 := Lib.hid ((T3.out.drewN nq).set4 (d := s4))
    generalize ((w3.drewN nq).setCell ⟨w.heap.size + 1 + 1 + 1, 4, none⟩ (.int .u64 s4)) = w4 at *
    clear z f ka kb eh ec KM KA KB EC
    rw [rounds_succ]
    have z := T4.out.O.cell 3
    have f := T4.out.O.frozen 3
    simp at z
    have ec : IntKind.u64.wrap c4 = c4 := by rw [IntKind.wrap_u64]; have := UC4.out.1; have := UC4.out.2; omega
    have ec2 : IntKind.u64.wrap (0 + c4) = c4 := by rw [Int.zero_add]; exact ec
    go_wp2
    have T5 := Lib.hid (T4.out.set3 (d := c4))
    generalize (w4.setCell ⟨w.heap.size + 1 + 1 + 1, 3, none⟩ (.int .u64 c4)) = w5 at *
    clear z f ec ec2
    go_meet
    case rel => exact ⟨c4, s4, s3, s2, s1, T5.out, ⟨UC4.out, US4.out, US3.out, US2.out, US1.out⟩, by have := ES1.out; have := ES2.out; have := ES3.out; have := ES4.out; unfold nv8; omega⟩
  case rest =>
  obtain ⟨v33, v34, v35, v36, v37, T, ⟨hu0, hu1, hu2, hu3, hu4⟩, hv⟩ := hcut
  rename World => w6
  have T6 := Lib.hid T
  have UV33 := Lib.hid hu0
  have UV34 := Lib.hid hu1
  have UV35 := Lib.hid hu2
  have UV36 := Lib.hid hu3
  have UV37 := Lib.hid hu4
  have HV3 := Lib.hid hv
  clear T hv hu0 hu1 hu2 hu3 hu4 T0
  go_wp2
  -- row 2
  rw [rounds_succ]
  go_upto_block 1 with (fail)
  go_cut [] (fun wy => ∃ v22 v23 v24 v25 v26 v27 : Int, M8 w wy a0 a1 a2 a3 b0 b1 b2 b3 0 0 v22 v23 v24 v25 v26 v27 ∧ (U64 v22 ∧ U64 v23 ∧ U64 v24 ∧ U64 v25 ∧ U64 v26 ∧ U64 v27) ∧ nv8 0 0 v22 v23 v24 v25 v26 v27 = nv8 0 0 0 v33 v34 v35 v36 v37 + (a2 * b3 * 18446744073709551616 + a2 * b2 * 340282366920938463463374607431768211456 + a2 * b1 * 6277101735386680763835789423207666416102355444464034512896 + a2 * b0 * 115792089237316195423570985008687907853269984665640564039457584007913129639936))
  case first =>
    go_wp2
    refine wp_loop_rounds 5 ?_
    rw [rounds_succ]
    obtain ⟨H7, L7, S7, C7, s7, D7, h7, c7, km, ka, kb, eh, ec, uc, us, es⟩ := mulSt8 G.out.1.2.1 G.out.2.2.2 UV36.out hz8
    have KM := Lib.hid km
    have KA := Lib.hid ka
    have KB := Lib.hid kb
    have US7 := Lib.hid us
    have ES7 := Lib.hid es
    have EC := Lib.hid (And.intro eh ec)
    have UC7 := Lib.hid uc
    clear km ka kb us es eh ec uc
    have x := T6.out.A.cell 2
    have y := T6.out.B.cell 3
    simp at x y
    go_wp2
    go_quiet ((go_at_call 277; exact Calls.quiet_of_same (KM.out _)))
    rename_i nq
    clear x y
    have z := (T6.out.drewN nq).O.cell 6
    have f := (T6.out.drewN nq).O.frozen 6
    simp at z
    have ka := KA.out
    have kb := KB.out
    have eh := EC.out.1
    have ec := EC.out.2
    go_wp2
    have T7 := Lib.hid ((T6.out.drewN nq).set6 (d := s7))
    generalize ((w6.drewN nq).setCell ⟨w.heap.size + 1 + 1 + 1, 6, none⟩ (.int .u64 s7)) = w7 at *
    clear z f ka kb eh ec KM KA KB EC
    rw [rounds_succ]
    obtain ⟨H8, L8, S8, C8, s8, D8, h8, c8, km, ka, kb, eh, ec, uc, us, es⟩ := mulSt8 G.out.1.2.1 G.out.2.2.1 UV35.out UC7.out
    have KM := Lib.hid km
    have KA := Lib.hid ka
    have KB := Lib.hid kb
    have US8 := Lib.hid us
    have ES8 := Lib.hid es
    have EC := Lib.hid (And.intro eh ec)
    have UC8 := Lib.hid uc
    clear km ka kb us es eh ec uc
    have x := T7.out.A.cell 2
    have y := T7.out.B.cell 2
    simp at x y
    go_wp2
    go_quiet ((go_at_call 277; exact Calls.quiet_of_same (KM.out _)))
    rename_i nq
    clear x y
    have z := (T7.out.drewN nq).O.cell 5
    have f := (T7.out.drewN nq).O.frozen 5
    simp at z
    have ka := KA.out
    have kb := KB.out
    have eh := EC.out.1
    have ec := EC.out.2
    go_wp2
    have T8 := Lib.hid ((T7.out.drewN nq).set5 (d := s8))
    generalize ((w7.drewN nq).setCell ⟨w.heap.size + 1 + 1 + 1, 5, none⟩ (.int .u64 s8)) = w8 at *
    clear z f ka kb eh ec KM KA KB EC
    rw [rounds_succ]
    obtain ⟨H9, L9, S9, C9, s9, D9, h9, c9, km, ka, kb, eh, ec, uc, us, es⟩ := mulSt8 G.out.1.2.1 G.out.2.1.2 UV34.out UC8.out
    have KM := Lib.hid km
    have KA := Lib.hid ka
    have KB := Lib.hid kb
    have US9 := Lib.hid us
    have ES9 := Lib.hid es
    have EC := Lib.hid (And.intro eh ec)
    have UC9 := Lib.hid uc
    clear km ka kb us es eh ec uc
    have x := T8.out.A.cell 2
    have y := T8.out.B.cell 1
    simp at x y
    go_wp2
    go_quiet ((go_at_call 277; exact Calls.quiet_of_same (KM.out _)))
    rename_i nq
    clear x y
    have z := (T8.out.drewN nq).O.cell 4
    have f := (T8.out.drewN nq).O.frozen 4
    simp at z
    have ka := KA.out
    have kb := KB.out
    have eh := EC.out.1
    have ec := EC.out.2
    go_wp2
    have T9 := Lib.hid ((T8.out.drewN nq).set4 (d := s9))
    generalize ((w8.drewN nq).setCell ⟨w.heap.size + 1 + 1 + 1, 4, none⟩ (.int .u64 s9)) = w9 at *
    clear z f ka kb eh ec KM KA KB EC
    rw [rounds_succ]
    obtain ⟨H10, L10, S10, C10, s10, D10, h10, c10, km, ka, kb, eh, ec, uc, us, es⟩ := mulSt8 G.out.1.2.1 G.out.2.1.1 UV33.out UC9.out
    have KM := Lib.hid km
    have KA := Lib.hid ka
    have KB := Lib.hid kb
    have US10 := Lib.hid us
    have ES10 := Lib.hid es
    have EC := Lib.hid (And.intro eh ec)
    have UC10 := Lib.hid uc
    clear km ka kb us es eh ec uc
    have x := T9.out.A.cell 2
    have y := T9.out.B.cell 0
    simp at x y
    go_wp2
    go_quiet ((go_at_call 277; exact Calls.quiet_of_same (KM.out _)))
    rename_i nq
    clear x y
    have z := (T9.out.drewN nq).O.cell 3
    have f := (T9.out.drewN nq).O.frozen 3
    simp at z
    have ka := KA.out
    have kb := KB.out
    have eh := EC.out.1
    have ec := EC.out.2
    go_wp2
    have T10 := Lib.hid ((T9.out.drewN nq).set3 (d := s10))
    generalize ((w9.drewN nq).setCell ⟨w.heap.size + 1 + 1 + 1, 3, none⟩ (.int .u64 s10)) = w10 at *
    clear z f ka kb eh ec KM KA KB EC
    rw [rounds_succ]
    have z := T10.out.O.cell 2
    have f := T10.out.O.frozen 2
    simp at z
    have ec : IntKind.u64.wrap c10 = c10 := by rw [IntKind.wrap_u64]; have := UC10.out.1; have := UC10.out.2; omega
    have ec2 : IntKind.u64.wrap (0 + c10) = c10 := by rw [Int.zero_add]; exact ec
    go_wp2
    have T11 := Lib.hid (T10.out.set2 (d := c10))
    generalize (w10.setCell ⟨w.heap.size + 1 + 1 + 1, 2, none⟩ (.int .u64 c10)) = w11 at *
    clear z f ec ec2
    go_meet
    case rel => exact ⟨c10, s10, s9, s8, s7, v37, T11.out, ⟨UC10.out, US10.out, US9.out, US8.out, US7.out, UV37.out⟩, by have := ES7.out; have := ES8.out; have := ES9.out; have := ES10.out; unfold nv8; omega⟩
  case rest =>
  obtain ⟨v22, v23, v24, v25, v26, v27, T, ⟨hu0, hu1, hu2, hu3, hu4, hu5⟩, hv⟩ := hcut
  rename World => w12
  have T12 := Lib.hid T
  have UV22 := Lib.hid hu0
  have UV23 := Lib.hid hu1
  have UV24 := Lib.hid hu2
  have UV25 := Lib.hid hu3
  have UV26 := Lib.hid hu4
  have UV27 := Lib.hid hu5
  have HV2 := Lib.hid hv
  clear T hv hu0 hu1 hu2 hu3 hu4 hu5 T6
  go_wp2
  -- row 1
  rw [rounds_succ]
  go_upto_block 1 with (fail)
  go_cut [] (fun wy => ∃ v11 v12 v13 v14 v15 v16 v17 : Int, M8 w wy a0 a1 a2 a3 b0 b1 b2 b3 0 v11 v12 v13 v14 v15 v16 v17 ∧ (U64 v11 ∧ U64 v12 ∧ U64 v13 ∧ U64 v14 ∧ U64 v15 ∧ U64 v16 ∧ U64 v17) ∧ nv8 0 v11 v12 v13 v14 v15 v16 v17 = nv8 0 0 v22 v23 v24 v25 v26 v27 + (a1 * b3 * 340282366920938463463374607431768211456 + a1 * b2 * 6277101735386680763835789423207666416102355444464034512896 + a1 * b1 * 115792089237316195423570985008687907853269984665640564039457584007913129639936 + a1 * b0 * 2135987035920910082395021706169552114602704522356652769947041607822219725780640550022962086936576))
  case first =>
    go_wp2
    refine wp_loop_rounds 5 ?_
    rw [rounds_succ]
    obtain ⟨H13, L13, S13, C13, s13, D13, h13, c13, km, ka, kb, eh, ec, uc, us, es⟩ := mulSt8 G.out.1.1.2 G.out.2.2.2 UV25.out hz8
    have KM := Lib.hid km
    have KA := Lib.hid ka
    have KB := Lib.hid kb
    have US13 := Lib.hid us
    have ES13 := Lib.hid es
    have EC := Lib.hid (And.intro eh ec)
    have UC13 := Lib.hid uc
    clear km ka kb us es eh ec uc
    have x := T12.out.A.cell 1
    have y := T12.out.B.cell 3
    simp at x y
    go_wp2
    go_quiet ((go_at_call 277; exact Calls.quiet_of_same (KM.out _)))
    rename_i nq
    clear x y
    have z := (T12.out.drewN nq).O.cell 5
    have f := (T12.out.drewN nq).O.frozen 5
    simp at z
    have ka := KA.out
    have kb := KB.out
    have eh := EC.out.1
    have ec := EC.out.2
    go_wp2
    have T13 := Lib.hid ((T12.out.drewN nq).set5 (d := s13))
    generalize ((w12.drewN nq).setCell ⟨w.heap.size + 1 + 1 + 1, 5, none⟩ (.int .u64 s13)) = w13 at *
    clear z f ka kb eh ec KM KA KB EC
    rw [rounds_succ]
    obtain ⟨H14, L14, S14, C14, s14, D14, h14, c14, km, ka, kb, eh, ec, uc, us, es⟩ := mulSt8 G.out.1.1.2 G.out.2.2.1 UV24.out UC13.out
    have KM := Lib.hid km
    have KA := Lib.hid ka
    have KB := Lib.hid kb
    have US14 := Lib.hid us
    have ES14 := Lib.hid es
    have EC := Lib.hid (And.intro eh ec)
    have UC14 := Lib.hid uc
    clear km ka kb us es eh ec uc
    have x := T13.out.A.cell 1
    have y := T13.out.B.cell 2
    simp at x y
    go_wp2
    go_quiet ((go_at_call 277; exact Calls.quiet_of_same (KM.out _)))
    rename_i nq
    clear x y
    have z := (T13.out.drewN nq).O.cell 4
    have f := (T13.out.drewN nq).O.frozen 4
    simp at z
    have ka := KA.out
    have kb := KB.out
    have eh := EC.out.1
    have ec := EC.out.2
    go_wp2
    have T14 := Lib.hid ((T13.out.drewN nq).set4 (d := s14))
    generalize ((w13.drewN nq).setCell ⟨w.heap.size + 1 + 1 + 1, 4, none⟩ (.int .u64 s14)) = w14 at *
    clear z f ka kb eh ec KM KA KB EC
    rw [rounds_succ]
    obtain ⟨H15, L15, S15, C15, s15, D15, h15, c15, km, ka, kb, eh, ec, uc, us, es⟩ := mulSt8 G.out.1.1.2 G.out.2.1.2 UV23.out UC14.out
    have KM := Lib.hid km
    have KA := Lib.hid ka
    have KB := Lib.hid kb
    have US15 := Lib.hid us
    have ES15 := Lib.hid es
    have EC := Lib.hid (And.intro eh ec)
    have UC15 := Lib.hid uc
    clear km ka kb us es eh ec uc
    have x := T14.out.A.cell 1
    have y := T14.out.B.cell 1
    simp at x y
    go_wp2
    go_quiet ((go_at_call 277; exact Calls.quiet_of_same (KM.out _)))
    rename_i nq
    clear x y
    have z := (T14.out.drewN nq).O.cell 3
    have f := (T14.out.drewN nq).O.frozen 3
    simp at z
    have ka := KA.out
    have kb := KB.out
    have eh := EC.out.1
    have ec := EC.out.2
    go_wp2
    have T15 := Lib.hid ((T14.out.drewN nq).set3 (d := s15))
    generalize ((w14.drewN nq).setCell ⟨w.heap.size + 1 + 1 + 1, 3, none⟩ (.int .u64 s15)) = w15 at *
    clear z f ka kb eh ec KM KA KB EC
    rw [rounds_succ]
    obtain ⟨H16, L16, S16, C16, s16, D16, h16, c16, km, ka, kb, eh, ec, uc, us, es⟩ := mulSt8 G.out.1.1.2 G.out.2.1.1 UV22.out UC15.out
    have KM := Lib.hid km
    have KA := Lib.hid ka
    have KB := Lib.hid kb
    have US16 := Lib.hid us
    have ES16 := Lib.hid es
    have EC := Lib.hid (And.intro eh ec)
    have UC16 := Lib.hid uc
    clear km ka kb us es eh ec uc
    have x := T15.out.A.cell 1
    have y := T15.out.B.cell 0
    simp at x y
    go_wp2
    go_quiet ((go_at_call 277; exact Calls.quiet_of_same (KM.out _)))
    rename_i nq
    clear x y
    have z := (T15.out.drewN nq).O.cell 2
    have f := (T15.out.drewN nq).O.frozen 2
    simp at z
    have ka := KA.out
    have kb := KB.out
    have eh := EC.out.1
    have ec := EC.out.2
    go_wp2
    have T16 := Lib.hid ((T15.out.drewN nq).set2 (d := s16))
    generalize ((w15.drewN nq).setCell ⟨w.heap.size + 1 + 1 + 1, 2, none⟩ (.int .u64 s16)) = w16 at *
    clear z f ka kb eh ec KM KA KB EC
    rw [rounds_succ]
    have z := T16.out.O.cell 1
    have f := T16.out.O.frozen 1
    simp at z
    have ec : IntKind.u64.wrap c16 = c16 := by rw [IntKind.wrap_u64]; have := UC16.out.1; have := UC16.out.2; omega
    have ec2 : IntKind.u64.wrap (0 + c16) = c16 := by rw [Int.zero_add]; exact ec
    go_wp2
    have T17 := Lib.hid (T16.out.set1 (d := c16))
    generalize (w16.setCell ⟨w.heap.size + 1 + 1 + 1, 1, none⟩ (.int .u64 c16)) = w17 at *
    clear z f ec ec2
    go_meet
    case rel => exact ⟨c16, s16, s15, s14, s13, v26, v27, T17.out, ⟨UC16.out, US16.out, US15.out, US14.out, US13.out, UV26.out, UV27.out⟩, by have := ES13.out; have := ES14.out; have := ES15.out; have := ES16.out; unfold nv8; omega⟩
  case rest =>
  obtain ⟨v11, v12, v13, v14, v15, v16, v17, T, ⟨hu0, hu1, hu2, hu3, hu4, hu5, hu6⟩, hv⟩ := hcut
  rename World => w18
  have T18 := Lib.hid T
  have UV11 := Lib.hid hu0
  have UV12 := Lib.hid hu1
  have UV13 := Lib.hid hu2
  have UV14 := Lib.hid hu3
  have UV15 := Lib.hid hu4
  have UV16 := Lib.hid hu5
  have UV17 := Lib.hid hu6
  have HV1 := Lib.hid hv
  clear T hv hu0 hu1 hu2 hu3 hu4 hu5 hu6 T12
  go_wp2
  -- row 0
  rw [rounds_succ]
  go_upto_block 1 with (fail)
  go_cut [] (fun wy => ∃ v00 v01 v02 v03 v04 v05 v06 v07 : Int, M8 w wy a0 a1 a2 a3 b0 b1 b2 b3 v00 v01 v02 v03 v04 v05 v06 v07 ∧ (U64 v00 ∧ U64 v01 ∧ U64 v02 ∧ U64 v03 ∧ U64 v04 ∧ U64 v05 ∧ U64 v06 ∧ U64 v07) ∧ nv8 v00 v01 v02 v03 v04 v05 v06 v07 = nv8 0 v11 v12 v13 v14 v15 v16 v17 + (a0 * b3 * 6277101735386680763835789423207666416102355444464034512896 + a0 * b2 * 115792089237316195423570985008687907853269984665640564039457584007913129639936 + a0 * b1 * 2135987035920910082395021706169552114602704522356652769947041607822219725780640550022962086936576 + a0 * b0 * 39402006196394479212279040100143613805079739270465446667948293404245721771497210611414266254884915640806627990306816))
  case first =>
    go_wp2
    refine wp_loop_rounds 5 ?_
    rw [rounds_succ]
    obtain ⟨H19, L19, S19, C19, s19, D19, h19, c19, km, ka, kb, eh, ec, uc, us, es⟩ := mulSt8 G.out.1.1.1 G.out.2.2.2 UV14.out hz8
    have KM := Lib.hid km
    have KA := Lib.hid ka
    have KB := Lib.hid kb
    have US19 := Lib.hid us
    have ES19 := Lib.hid es
    have EC := Lib.hid (And.intro eh ec)
    have UC19 := Lib.hid uc
    clear km ka kb us es eh ec uc
    have x := T18.out.A.cell 0
    have y := T18.out.B.cell 3
    simp at x y
    go_wp2
    go_quiet ((go_at_call 277; exact Calls.quiet_of_same (KM.out _)))
    rename_i nq
    clear x y
    have z := (T18.out.drewN nq).O.cell 4
    have f := (T18.out.drewN nq).O.frozen 4
    simp at z
    have ka := KA.out
    have kb := KB.out
    have eh := EC.out.1
    have ec := EC.out.2
    go_wp2
    have T19 := Lib.hid ((T18.out.drewN nq).set4 (d := s19))
    generalize ((w18.drewN nq).setCell ⟨w.heap.size + 1 + 1 + 1, 4, none⟩ (.int .u64 s19)) = w19 at *
    clear z f ka kb eh ec KM KA KB EC
    rw [rounds_succ]
    obtain ⟨H20, L20, S20, C20, s20, D20, h20, c20, km, ka, kb, eh, ec, uc, us, es⟩ := mulSt8 G.out.1.1.1 G.out.2.2.1 UV13.out UC19.out
    have KM := Lib.hid km
    have KA := Lib.hid ka
    have KB := Lib.hid kb
    have US20 := Lib.hid us
    have ES20 := Lib.hid es
    have EC := Lib.hid (And.intro eh ec)
    have UC20 := Lib.hid uc
    clear km ka kb us es eh ec uc
    have x := T19.out.A.cell 0
    have y := T19.out.B.cell 2
    simp at x y
    go_wp2
    go_quiet ((go_at_call 277; exact Calls.quiet_of_same (KM.out _)))
    rename_i nq
    clear x y
    have z := (T19.out.drewN nq).O.cell 3
    have f := (T19.out.drewN nq).O.frozen 3
    simp at z
    have ka := KA.out
    have kb := KB.out
    have eh := EC.out.1
    have ec := EC.out.2
    go_wp2
    have T20 := Lib.hid ((T19.out.drewN nq).set3 (d := s20))
    generalize ((w19.drewN nq).setCell ⟨w.heap.size + 1 + 1 + 1, 3, none⟩ (.int .u64 s20)) = w20 at *
    clear z f ka kb eh ec KM KA KB EC
    rw [rounds_succ]
    obtain ⟨H21, L21, S21, C21, s21, D21, h21, c21, km, ka, kb, eh, ec, uc, us, es⟩ := mulSt8 G.out.1.1.1 G.out.2.1.2 UV12.out UC20.out
    have KM := Lib.hid km
    have KA := Lib.hid ka
    have KB := Lib.hid kb
    have US21 := Lib.hid us
    have ES21 := Lib.hid es
    have EC := Lib.hid (And.intro eh ec)
    have UC21 := Lib.hid uc
    clear km ka kb us es eh ec uc
    have x := T20.out.A.cell 0
    have y := T20.out.B.cell 1
    simp at x y
    go_wp2
    go_quiet ((go_at_call 277; exact Calls.quiet_of_same (KM.out _)))
    rename_i nq
    clear x y
    have z := (T20.out.drewN nq).O.cell 2
    have f := (T20.out.drewN nq).O.frozen 2
    simp at z
    have ka := KA.out
    have kb := KB.out
    have eh := EC.out.1
    have ec := EC.out.2
    go_wp2
    have T21 := Lib.hid ((T20.out.drewN nq).set2 (d := s21))
    generalize ((w20.drewN nq).setCell ⟨w.heap.size + 1 + 1 + 1, 2, none⟩ (.int .u64 s21)) = w21 at *
    clear z f ka kb eh ec KM KA KB EC
    rw [rounds_succ]
    obtain ⟨H22, L22, S22, C22, s22, D22, h22, c22, km, ka, kb, eh, ec, uc, us, es⟩ := mulSt8 G.out.1.1.1 G.out.2.1.1 UV11.out UC21.out
    have KM := Lib.hid km
    have KA := Lib.hid ka
    have KB := Lib.hid kb
    have US22 := Lib.hid us
    have ES22 := Lib.hid es
    have EC := Lib.hid (And.intro eh ec)
    have UC22 := Lib.hid uc
    clear km ka kb us es eh ec uc
    have x := T21.out.A.cell 0
    have y := T21.out.B.cell 0
    simp at x y
    go_wp2
    go_quiet ((go_at_call 277; exact Calls.quiet_of_same (KM.out _)))
    rename_i nq
    clear x y
    have z := (T21.out.drewN nq).O.cell 1
    have f := (T21.out.drewN nq).O.frozen 1
    simp at z
    have ka := KA.out
    have kb := KB.out
    have eh := EC.out.1
    have ec := EC.out.2
    go_wp2
    have T22 := Lib.hid ((T21.out.drewN nq).set1 (d := s22))
    generalize ((w21.drewN nq).setCell ⟨w.heap.size + 1 + 1 + 1, 1, none⟩ (.int .u64 s22)) = w22 at *
    clear z f ka kb eh ec KM KA KB EC
    rw [rounds_succ]
    have z := T22.out.O.cell 0
    have f := T22.out.O.frozen 0
    simp at z
    have ec : IntKind.u64.wrap c22 = c22 := by rw [IntKind.wrap_u64]; have := UC22.out.1; have := UC22.out.2; omega
    have ec2 : IntKind.u64.wrap (0 + c22) = c22 := by rw [Int.zero_add]; exact ec
    go_wp2
    have T23 := Lib.hid (T22.out.set0 (d := c22))
    generalize (w22.setCell ⟨w.heap.size + 1 + 1 + 1, 0, none⟩ (.int .u64 c22)) = w23 at *
    clear z f ec ec2
    go_meet
    case rel => exact ⟨c22, s22, s21, s20, s19, v15, v16, v17, T23.out, ⟨UC22.out, US22.out, US21.out, US20.out, US19.out, UV15.out, UV16.out, UV17.out⟩, by have := ES19.out; have := ES20.out; have := ES21.out; have := ES22.out; unfold nv8; omega⟩
  case rest =>
  obtain ⟨v00, v01, v02, v03, v04, v05, v06, v07, T, ⟨hu0, hu1, hu2, hu3, hu4, hu5, hu6, hu7⟩, hv⟩ := hcut
  rename World => w24
  have T24 := Lib.hid T
  have UV00 := Lib.hid hu0
  have UV01 := Lib.hid hu1
  have UV02 := Lib.hid hu2
  have UV03 := Lib.hid hu3
  have UV04 := Lib.hid hu4
  have UV05 := Lib.hid hu5
  have UV06 := Lib.hid hu6
  have UV07 := Lib.hid hu7
  have HV0 := Lib.hid hv
  clear T hv hu0 hu1 hu2 hu3 hu4 hu5 hu6 hu7 T18
  go_wp2
  rw [rounds_succ]
  have x1 := T24.out.O.cell 1
  have x2 := T24.out.O.cell 2
  have x3 := T24.out.O.cell 3
  have x4 := T24.out.O.cell 4
  have z0 := T24.out.C.cell 0
  have f0 := T24.out.C.frozen 0
  have z1 := T24.out.C.cell 1
  have f1 := T24.out.C.frozen 1
  have z2 := T24.out.C.cell 2
  have f2 := T24.out.C.frozen 2
  have z3 := T24.out.C.cell 3
  have f3 := T24.out.C.frozen 3
  simp at x1 x2 x3 x4 z0 z1 z2 z3
  have hat : ∀ W, (Instr.arrayAt 238 (.slice (some ⟨w.heap.size + 1 + 1 + 1, 1, none⟩) 4 7)).run Tryz.prog W = .ok (.pointer (some ⟨w.heap.size + 1 + 1 + 1, 1, none⟩)) W := fun W => run_arrayAt W _ _ 4 _ 4 7 Tryz.underlying238 (by omega)
  go_wp2
  refine bodyPost_ret (v := num4 v01 v02 v03 v04) (by simp [results, Tryz.results275, go_sem, *]) rfl ⟨⟨v01, v02, v03, v04, rfl, ⟨UV01.out, UV02.out, UV03.out, UV04.out⟩, ?_⟩, ?_⟩
  · have hv : nv8 v00 v01 v02 v03 v04 v05 v06 v07 = nv a0 a1 a2 a3 * nv b0 b1 b2 b3 := by
      rw [nv_mul, row_nv, row_nv, row_nv, row_nv, HV0.out, HV1.out, HV2.out, HV3.out]
      clear x1 x2 x3 x4 z0 z1 z2 z3 f0 f1 f2 f3 hat
      unfold nv8
      omega
    rw [← hv]
    have g0 := UV00.out.1
    have g5 := UV05.out.1
    have g6 := UV06.out.1
    have g7 := UV07.out.1
    clear x1 x2 x3 x4 z0 z1 z2 z3 f0 f1 f2 f3 hat hv
    unfold nv8 nv
    omega
  · exact (((T24.out.bl.setCell (by simp; omega) _).setCell (by simp; omega) _).setCell (by simp; omega) _).setCell (by simp; omega) _
end Go.Proofs.YtifdgdgfmjfbdaaGreat
