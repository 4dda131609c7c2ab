/- The walk of the law FixBounds. -/
import Derived.Test.YtienkfcliocjgaaGreatGAs
import Derived.Test.YtienkfcliocjgaaGreatGRl
set_option linter.unusedVariables false
set_option linter.unusedSimpArgs false
namespace Go.Proofs.YtienkfcliocjgaaGreat
open Go.RowKit
theorem neqPt (a b a' b' : Int) (w : World) : (binOp .neq 24 (.agg #[.int .i64 a, .int .i64 b]) (.agg #[.int .i64 a', .int .i64 b'])).run Tryz.prog w = .ok (.bool (!(aeq a b a' b'))) w := by
  rw [run_neq_struct, equalInPt]; rfl
set_option maxHeartbeats 8000000 in
set_option maxRecDepth 100000 in
theorem fixBounds_num (A : Option Addr) (n ca : Nat) (p0 p1 b0 b1 b2 b3 c0 c1 r0 r1 e f g : Int) (vb pb : Bool) (w : World) (hn : n ≤ 60)
    (KB : ∀ W, Below w.heap.size w W → Calls Tryz.prog 5 #[.slice A n ca] W fun e' w' => e' = .returned (.tuple #[.agg #[.int .i64 b0, .int .i64 b1, .int .i64 b2, .int .i64 b3], .int .i64 e]) ∧ Below W.heap.size W w')
    (KC : ∀ W, Below w.heap.size w W → Calls Tryz.prog 6 #[.slice A n ca] W fun e' w' => e' = .returned (.tuple #[.agg #[.int .i64 c0, .int .i64 c1], .int .i64 f]) ∧ Below W.heap.size W w')
    (KR : ∀ W, Below w.heap.size w W → Calls Tryz.prog 7 #[.slice A n ca, .agg #[.int .i64 p0, .int .i64 p1]] W fun e' w' => e' = .returned (.tuple #[.agg #[.int .i64 r0, .int .i64 r1], .int .i64 g]) ∧ Below W.heap.size W w')
    (KV : ∀ W, Below w.heap.size w W → Calls Tryz.prog 8 #[.slice A n ca] W fun e' w' => e' = .returned (.bool vb) ∧ Below W.heap.size W w')
    (KP : ∀ W, Calls Tryz.prog 9 #[.agg #[.int .i64 p0, .int .i64 p1]] W fun e' w' => e' = .returned (.bool pb) ∧ Below W.heap.size W w')
    (H : (vb = false ∧ b0 = 0 ∧ b1 = 0 ∧ b2 = 0 ∧ b3 = 0 ∧ c0 = 0 ∧ c1 = 0 ∧ r0 = 0 ∧ r1 = 0 ∧ e = 1 ∧ f = 1 ∧ g = 1) ∨
      (vb = true ∧ n = 0 ∧ b0 = 0 ∧ b1 = 0 ∧ b2 = 0 ∧ b3 = 0 ∧ c0 = 0 ∧ c1 = 0 ∧ r0 = 0 ∧ r1 = 0 ∧ e = 14 ∧ f = 14 ∧ pb = false ∧ g = 1) ∨
      (vb = true ∧ n = 0 ∧ b0 = 0 ∧ b1 = 0 ∧ b2 = 0 ∧ b3 = 0 ∧ c0 = 0 ∧ c1 = 0 ∧ r0 = 0 ∧ r1 = 0 ∧ e = 14 ∧ f = 14 ∧ pb = true ∧ g = 14) ∨
      (vb = true ∧ 0 < n ∧ e = 0 ∧ f = 0 ∧ pb = false ∧ r0 = 0 ∧ r1 = 0 ∧ g = 1) ∨
      (vb = true ∧ 0 < n ∧ e = 0 ∧ f = 0 ∧ pb = true ∧ g = 0))
    (KB2 : vb = true → 0 < n → ∀ W, Below w.heap.size w W → Calls Tryz.prog 10 #[.slice A n ca] W fun e' w' => e' = .returned (.agg #[.int .i64 b0, .int .i64 b1, .int .i64 b2, .int .i64 b3]) ∧ Below W.heap.size W w')
    (KC2 : vb = true → 0 < n → ∀ W, Below w.heap.size w W → Calls Tryz.prog 11 #[.slice A n ca] W fun e' w' => e' = .returned (.agg #[.int .i64 c0, .int .i64 c1]) ∧ Below W.heap.size W w')
    (KR2 : vb = true → 0 < n → pb = true → ∀ W, Below w.heap.size w W → Calls Tryz.prog 12 #[.slice A n ca, .agg #[.int .i64 p0, .int .i64 p1]] W fun e' w' => e' = .returned (.agg #[.int .i64 r0, .int .i64 r1]) ∧ Below W.heap.size W w') :
    Calls Tryz.prog 3 #[.slice A n ca, .agg #[.int .i64 p0, .int .i64 p1]] w fun e w' => e = .returned (.bool true) ∧ Below w.heap.size w w' := by
  have hq1 := eqlPlace
  have hq2 := neqPlace
  have hq3 := eqlPt
  have hq4 := neqPt
  have hq5 := eqlArc
  have KA := Lib.hid (fun W => awake40 W)
  have KB := Lib.hid KB
  have KC := Lib.hid KC
  have KR := Lib.hid KR
  have KV := Lib.hid KV
  have KP := Lib.hid KP
  have H := Lib.hid H
  have KB2 := Lib.hid KB2
  have KC2 := Lib.hid KC2
  have KR2 := Lib.hid KR2
  have P0 := Lib.hid (K2.new w p0 p1 24)
  have B0 := Lib.hid (bl_alloc w (.cells #[.int .i64 p0, .int .i64 p1] 24))
  have hn60 : (n : Int) ≤ 60 := by omega
  go_enter Tryz.func3, Tryz.ntmps3
  go_wp2_with fail
  (with_reducible refine (KA.out _).mono ?_)
  rintro e1 w1 ⟨rfl, hb1⟩
  have P1 := Lib.hid (P0.out.below hb1 P0.out.lt)
  have B1 := Lib.hid (B0.out.trans (hb1.mono B0.out.size))
  clear hb1 P0 B0 KA
  go_wp2_with fail
  (with_reducible refine (KB.out _ B1.out).mono ?_)
  rintro e2 w2 ⟨rfl, hb2⟩
  have P2 := Lib.hid ((P1.out.below hb2 P1.out.lt).alloc (.cells #[.int .i64 b0, .int .i64 b1, .int .i64 b2, .int .i64 b3] 29))
  have B2 := Lib.hid ((B1.out.trans (hb2.mono B1.out.size)).alloc (by have := B1.out.size; have := hb2.size; omega) (.cells #[.int .i64 b0, .int .i64 b1, .int .i64 b2, .int .i64 b3] 29))
  have N2 := Lib.hid (K4.new w2 b0 b1 b2 b3 29)
  clear hb2 P1 B1 KB
  go_wp2_with fail
  (with_reducible refine (KC.out _ B2.out).mono ?_)
  rintro e3 w3 ⟨rfl, hb3⟩
  have P3 := Lib.hid ((P2.out.below hb3 P2.out.lt).alloc (.cells #[.int .i64 c0, .int .i64 c1] 24))
  have B3 := Lib.hid ((B2.out.trans (hb3.mono B2.out.size)).alloc (by have := B2.out.size; have := hb3.size; omega) (.cells #[.int .i64 c0, .int .i64 c1] 24))
  have N3 := Lib.hid ((N2.out.below hb3 N2.out.lt).alloc (.cells #[.int .i64 c0, .int .i64 c1] 24))
  have M3 := Lib.hid (K2.new w3 c0 c1 24)
  clear hb3 P2 B2 N2 KC
  obtain ⟨tt, t0, t1, -, -⟩ := P3.out
  go_wp2_with fail
  (with_reducible refine (KR.out _ B3.out).mono ?_)
  rintro e4 w4 ⟨rfl, hb4⟩
  have P4 := Lib.hid ((P3.out.below hb4 P3.out.lt).alloc (.cells #[.int .i64 r0, .int .i64 r1] 27))
  have B4 := Lib.hid ((B3.out.trans (hb4.mono B3.out.size)).alloc (by have := B3.out.size; have := hb4.size; omega) (.cells #[.int .i64 r0, .int .i64 r1] 27))
  have N4 := Lib.hid ((N3.out.below hb4 N3.out.lt).alloc (.cells #[.int .i64 r0, .int .i64 r1] 27))
  have M4 := Lib.hid ((M3.out.below hb4 M3.out.lt).alloc (.cells #[.int .i64 r0, .int .i64 r1] 27))
  have R4 := Lib.hid (K2.new w4 r0 r1 27)
  clear hb4 P3 B3 N3 M3 KR tt t0 t1
  go_upto_region 8 with (fail)
  obtain ⟨W4, hW4⟩ : ∃ W4, w4.alloc (.cells #[.int .i64 r0, .int .i64 r1] 27) = W4 := ⟨_, rfl⟩
  rw [hW4] at P4 B4 N4 M4 R4 ⊢
  clear hW4
  generalize w4.heap.size = g9 at *
  generalize w3.heap.size = g7 at *
  generalize w2.heap.size = g5 at *
  have KVq := Lib.hid (fun s : BV W4 => KV.out s.w (B4.out.trans (s.hb.mono B4.out.size)))
  have c0' : ∀ s : BV W4, s.w.cell? ⟨w.heap.size, 0, none⟩ = some (.int .i64 p0) := fun s => (P4.out.below s.hb P4.out.lt).c0
  have c1' : ∀ s : BV W4, s.w.cell? ⟨w.heap.size, 1, none⟩ = some (.int .i64 p1) := fun s => (P4.out.below s.hb P4.out.lt).c1
  refine wp_region_bv W4 (by kernel_rfl) (by kernel_rfl) (Below.refl _ _) ?_
  (repeat (go_big_quiet_step (first | (go_at_call 8; with_reducible exact quiet_bv (KVq.out _)) | (go_at_call 9; with_reducible exact quiet_bv (KP.out _)) | fail)))
  refine wpQuiet_nil ?_
  intro w5 hb5
  have P5 := Lib.hid (P4.out.below hb5 P4.out.lt)
  have N5 := Lib.hid (N4.out.below hb5 N4.out.lt)
  have M5 := Lib.hid (M4.out.below hb5 M4.out.lt)
  have R5 := Lib.hid (R4.out.below hb5 R4.out.lt)
  have B5 := Lib.hid (B4.out.trans (hb5.mono B4.out.size))
  clear c0' c1' hb5 P4 N4 M4 R4 B4 KVq KV KP
  rcases H.out with ⟨rfl, rfl, rfl, rfl, rfl, rfl, rfl, rfl, rfl, rfl, rfl, rfl⟩ | ⟨rfl, rfl, rfl, rfl, rfl, rfl, rfl, rfl, rfl, rfl, rfl, rfl, rfl, rfl⟩ | ⟨rfl, rfl, rfl, rfl, rfl, rfl, rfl, rfl, rfl, rfl, rfl, rfl, rfl, rfl⟩ | ⟨rfl, hpos, rfl, rfl, rfl, rfl, rfl, rfl⟩ | ⟨rfl, hpos, rfl, rfl, rfl, rfl⟩
  · obtain ⟨nt, n0, n1, n2, n3, -, -, -, -⟩ := N5.out
    obtain ⟨mt, m0, m1, -, -⟩ := M5.out
    obtain ⟨rt, s0, s1, -, -⟩ := R5.out
    have k1 : peq 0 0 0 0 0 0 0 0 = true := by decide
    have k2 : aeq 0 0 0 0 = true := by decide
    clear H KB2 KC2 KR2 P5 N5 M5 R5
    go_wp2
    go_ret
    exact ⟨ret_bool (by simp), B5.out⟩
  · obtain ⟨nt, n0, n1, n2, n3, -, -, -, -⟩ := N5.out
    obtain ⟨mt, m0, m1, -, -⟩ := M5.out
    obtain ⟨rt, s0, s1, -, -⟩ := R5.out
    have k1 : peq 0 0 0 0 0 0 0 0 = true := by decide
    have k2 : aeq 0 0 0 0 = true := by decide
    clear H KB2 KC2 KR2 P5 N5 M5 R5
    go_wp2
    go_ret
    exact ⟨ret_bool (by simp), B5.out⟩
  · obtain ⟨nt, n0, n1, n2, n3, -, -, -, -⟩ := N5.out
    obtain ⟨mt, m0, m1, -, -⟩ := M5.out
    obtain ⟨rt, s0, s1, -, -⟩ := R5.out
    have k1 : peq 0 0 0 0 0 0 0 0 = true := by decide
    have k2 : aeq 0 0 0 0 = true := by decide
    clear H KB2 KC2 KR2 P5 N5 M5 R5
    go_wp2
    go_ret
    exact ⟨ret_bool (by simp), B5.out⟩
  · have kb := Lib.hid (fun s : BV w5 => KB2.out rfl hpos s.w (B5.out.trans (s.hb.mono B5.out.size)))
    have kc := Lib.hid (fun s : BV w5 => KC2.out rfl hpos s.w (B5.out.trans (s.hb.mono B5.out.size)))
    have x0 : ∀ s : BV w5, s.w.cell? ⟨g5, 0, none⟩ = some (.int .i64 b0) := fun s => (N5.out.below s.hb N5.out.lt).c0
    have x1 : ∀ s : BV w5, s.w.cell? ⟨g5, 1, none⟩ = some (.int .i64 b1) := fun s => (N5.out.below s.hb N5.out.lt).c1
    have x2 : ∀ s : BV w5, s.w.cell? ⟨g5, 2, none⟩ = some (.int .i64 b2) := fun s => (N5.out.below s.hb N5.out.lt).c2
    have x3 : ∀ s : BV w5, s.w.cell? ⟨g5, 3, none⟩ = some (.int .i64 b3) := fun s => (N5.out.below s.hb N5.out.lt).c3
    have x4 : ∀ s : BV w5, s.w.cell? ⟨g7, 0, none⟩ = some (.int .i64 c0) := fun s => (M5.out.below s.hb M5.out.lt).c0
    have x5 : ∀ s : BV w5, s.w.cell? ⟨g7, 1, none⟩ = some (.int .i64 c1) := fun s => (M5.out.below s.hb M5.out.lt).c1
    have k1 : peq b0 b1 b2 b3 b0 b1 b2 b3 = true := by simp [peq]
    have k2 : aeq c0 c1 c0 c1 = true := by simp [aeq]
    have k3 : aeq 0 0 0 0 = true := by decide
    have hpi : (0 : Int) < n := by omega
    clear H KB2 KC2 KR2
    go_upto_region 10 with (fail)
    refine wp_region_bv w5 (by kernel_rfl) (by kernel_rfl) (Below.refl _ _) ?_
    (repeat (go_big_quiet_step (first | (go_at_call 10; with_reducible exact quiet_bv (kb.out _)) | (go_at_call 11; with_reducible exact quiet_bv (kc.out _)) | fail)))
    refine wpQuiet_nil ?_
    intro w6 hb6
    clear x0 x1 x2 x3 x4 x5 kb kc
    obtain ⟨rt, s0, s1, -, -⟩ := R5.out.below hb6 R5.out.lt
    have B6 := Lib.hid (B5.out.trans (hb6.mono B5.out.size))
    clear hb6
    go_wp2
    go_ret
    exact ⟨ret_bool (by simp), B6.out⟩
  · have kb := Lib.hid (fun s : BV w5 => KB2.out rfl hpos s.w (B5.out.trans (s.hb.mono B5.out.size)))
    have kc := Lib.hid (fun s : BV w5 => KC2.out rfl hpos s.w (B5.out.trans (s.hb.mono B5.out.size)))
    have x0 : ∀ s : BV w5, s.w.cell? ⟨g5, 0, none⟩ = some (.int .i64 b0) := fun s => (N5.out.below s.hb N5.out.lt).c0
    have x1 : ∀ s : BV w5, s.w.cell? ⟨g5, 1, none⟩ = some (.int .i64 b1) := fun s => (N5.out.below s.hb N5.out.lt).c1
    have x2 : ∀ s : BV w5, s.w.cell? ⟨g5, 2, none⟩ = some (.int .i64 b2) := fun s => (N5.out.below s.hb N5.out.lt).c2
    have x3 : ∀ s : BV w5, s.w.cell? ⟨g5, 3, none⟩ = some (.int .i64 b3) := fun s => (N5.out.below s.hb N5.out.lt).c3
    have x4 : ∀ s : BV w5, s.w.cell? ⟨g7, 0, none⟩ = some (.int .i64 c0) := fun s => (M5.out.below s.hb M5.out.lt).c0
    have x5 : ∀ s : BV w5, s.w.cell? ⟨g7, 1, none⟩ = some (.int .i64 c1) := fun s => (M5.out.below s.hb M5.out.lt).c1
    have k1 : peq b0 b1 b2 b3 b0 b1 b2 b3 = true := by simp [peq]
    have k2 : aeq c0 c1 c0 c1 = true := by simp [aeq]
    have k3 : aeq r0 r1 r0 r1 = true := by simp [aeq]
    have hpi : (0 : Int) < n := by omega
    clear H KB2 KC2
    go_upto_region 10 with (fail)
    refine wp_region_bv w5 (by kernel_rfl) (by kernel_rfl) (Below.refl _ _) ?_
    (repeat (go_big_quiet_step (first | (go_at_call 10; with_reducible exact quiet_bv (kb.out _)) | (go_at_call 11; with_reducible exact quiet_bv (kc.out _)) | fail)))
    refine wpQuiet_nil ?_
    intro w6 hb6
    clear x0 x1 x2 x3 x4 x5 kb kc
    have R6 := Lib.hid (R5.out.below hb6 R5.out.lt)
    have P6 := Lib.hid (P5.out.below hb6 P5.out.lt)
    have B6 := Lib.hid (B5.out.trans (hb6.mono B5.out.size))
    clear hb6 R5 P5 B5 N5 M5
    have kr := Lib.hid (fun s : BV w6 => KR2.out rfl hpos rfl s.w (B6.out.trans (s.hb.mono B6.out.size)))
    have y0 : ∀ s : BV w6, s.w.cell? ⟨g9, 0, none⟩ = some (.int .i64 r0) := fun s => (R6.out.below s.hb R6.out.lt).c0
    have y1 : ∀ s : BV w6, s.w.cell? ⟨g9, 1, none⟩ = some (.int .i64 r1) := fun s => (R6.out.below s.hb R6.out.lt).c1
    have y2 : ∀ s : BV w6, s.w.cell? ⟨w.heap.size, 0, none⟩ = some (.int .i64 p0) := fun s => (P6.out.below s.hb P6.out.lt).c0
    have y3 : ∀ s : BV w6, s.w.cell? ⟨w.heap.size, 1, none⟩ = some (.int .i64 p1) := fun s => (P6.out.below s.hb P6.out.lt).c1
    go_upto_region 14 with (fail)
    refine wp_region_bv w6 (by kernel_rfl) (by kernel_rfl) (Below.refl _ _) ?_
    (repeat (go_big_quiet_step (first | (go_at_call 12; with_reducible exact quiet_bv (kr.out _)) | fail)))
    refine wpQuiet_nil ?_
    intro w7 hb7
    have B7 := Lib.hid (B6.out.trans (hb7.mono B6.out.size))
    clear y0 y1 y2 y3 kr hb7
    go_wp2
    go_ret
    exact ⟨ret_bool (by simp), B7.out⟩
end Go.Proofs.YtienkfcliocjgaaGreat
