/- The walk of the law CellsArea. -/
import Derived.Test.YtlhdneeiikemjaaGreatGYh
import Derived.Test.YtlhdneeiikemjaaGreatGYe
set_option linter.unusedVariables false
set_option linter.unusedSimpArgs false
namespace Go.Proofs.YtlhdneeiikemjaaGreat
open Go.RowKit
theorem Tryz.infoFixed : (Tryz.prog.info? 31).map (fun i => (i.zero, i.size, i.bytes)) = some (some (.agg #[.int .i64 0, .int .i64 0]), 2, 16) := by kernel_rfl
theorem reads_all (w : World) (t : TypeId) : Reads (w.alloc (.cells #[.int .i64 0, .int .i64 0, .int .i64 0, .int .i64 0, .int .i64 0, .int .i64 1] t)) (w.heap.size + 1) 3 (some ⟨w.heap.size, 0, none⟩) 2 (cvs allL) := by
  have h : Reads (w.alloc (.cells (cvs allL).toArray t)) (w.heap.size + 1) 3 (some ⟨w.heap.size, 0, none⟩) 2 (cvs allL) := by
    refine ⟨rfl, fun _ => ⟨_, rfl, by simp, fun j u hu => ?_⟩⟩
    rw [Go.WideShapes.add_plain]
    simp [hu]
  exact h
theorem AreaAll (w : World) : Calls Tryz.prog 10 #[.slice (some ⟨w.heap.size, 0, none⟩) 2 2] (w.alloc (.cells #[.int .i64 0, .int .i64 0, .int .i64 0, .int .i64 0, .int .i64 0, .int .i64 1] 39)) fun e w' =>
    e = .returned (.tuple #[.agg #[.int .i64 (arL allL), .int .i64 (arH allL)], .int .i64 0]) ∧ Below (w.alloc (.cells #[.int .i64 0, .int .i64 0, .int .i64 0, .int .i64 0, .int .i64 0, .int .i64 1] 39)).heap.size (w.alloc (.cells #[.int .i64 0, .int .i64 0, .int .i64 0, .int .i64 0, .int .i64 0, .int .i64 1] 39)) w' :=
  Area_any _ 2 2 allL _ ((reads_all w _).more (by simp)) (by simp [maxLen]) all_vr
/-- four slices that lie in a row -/
structure S4 (W : World) (g : Nat) (a b c d : Value) : Prop where
  lt : g < W.heap.size
  c0 : W.cell? ⟨g, 0, none⟩ = some a
  c1 : W.cell? ⟨g, 1, none⟩ = some b
  c2 : W.cell? ⟨g, 2, none⟩ = some c
  c3 : W.cell? ⟨g, 3, none⟩ = some d
theorem S4.below {W W' : World} {g B : Nat} {a b c d : Value} (h : S4 W g a b c d) (hb : Below B W W') (hB : g < B) : S4 W' g a b c d :=
  ⟨Nat.lt_of_lt_of_le h.lt hb.size, (hb.cell (p := ⟨g, 0, none⟩) hB).trans h.c0, (hb.cell (p := ⟨g, 1, none⟩) hB).trans h.c1, (hb.cell (p := ⟨g, 2, none⟩) hB).trans h.c2, (hb.cell (p := ⟨g, 3, none⟩) hB).trans h.c3⟩
theorem S4.new (W : World) (a b c d : Value) (t : TypeId) : S4 (W.alloc (.cells #[a, b, c, d] t)) W.heap.size a b c d := ⟨by simp, by simp, by simp, by simp, by simp⟩
set_option maxHeartbeats 1000000 in
set_option maxRecDepth 100000 in
theorem area_early (A B : Option Addr) (n m ca cb : Nat) (w : World) (bn : n ≤ 140737488355328) (bm : m ≤ 140737488355328) (h : ¬ n + m ≤ 100) :
    Calls Tryz.prog 4 #[.slice A n ca, .slice B m cb] w fun e w' => e = .returned (.bool true) ∧ Below w.heap.size w w' := by
  have KA := Lib.hid (fun W => awake38 W)
  have KW := Lib.hid AreaAll
  obtain ⟨o1, o2, o3, o4⟩ := all_ar
  have hl : (100 : Int) < (n : Int) + (m : Int) := by omega
  clear h
  generalize arL allL = p at *
  generalize arH allL = q at *
  have o5 : q ≤ 1073741828 := by omega
  have d1 : decide (1073741824 < p) = false := decide_eq_false (by omega)
  have d2 : decide (q < 1073741824) = false := decide_eq_false (by omega)
  have d3 : decide (4 < q - p) = false := decide_eq_false (by omega)
  go_enter Tryz.func4, Tryz.ntmps4
  go_wp2_with fail
  (with_reducible refine (KA.out _).mono ?_)
  rintro e w1 ⟨rfl, hb1⟩
  go_wp2_with fail
  (with_reducible refine (KW.out _).mono ?_)
  rintro e w2 ⟨rfl, hb2⟩
  have hb2' := hb1.trans ((one_bl hb2).mono hb1.size)
  clear hb1 hb2 KA KW
  go_wp2
  go_ret
  exact ⟨rfl, hb2'.alloc hb2'.size _⟩
set_option maxHeartbeats 1000000 in
set_option maxRecDepth 100000 in
theorem area_bad (A B : Option Addr) (n m ca cb : Nat) (w : World) (hl : n + m ≤ 100) (X Y : List Cl) (ea eb : Int) (h1 : ea = 0 ∨ ea = 1) (h2 : eb = 0 ∨ eb = 1) (hne : ¬ (ea = 0 ∧ eb = 0))
    (ka : ∀ W, Below w.heap.size w W → Calls Tryz.prog 15 #[.slice A n ca] W (RetCells W X ea)) (kb : ∀ W, Below w.heap.size w W → Calls Tryz.prog 15 #[.slice B m cb] W (RetCells W Y eb)) :
    Calls Tryz.prog 4 #[.slice A n ca, .slice B m cb] w fun e w' => e = .returned (.bool true) ∧ Below w.heap.size w w' := by
  have KA := Lib.hid (fun W => awake38 W)
  have KW := Lib.hid AreaAll
  have K1 := Lib.hid ka
  have K2 := Lib.hid kb
  obtain ⟨o1, o2, o3, o4⟩ := all_ar
  have hl2 : (n : Int) + (m : Int) ≤ 100 := by omega
  clear ka kb
  generalize arL allL = p at *
  generalize arH allL = q at *
  have o5 : q ≤ 1073741828 := by omega
  have d1 : decide (1073741824 < p) = false := decide_eq_false (by omega)
  have d2 : decide (q < 1073741824) = false := decide_eq_false (by omega)
  have d3 : decide (4 < q - p) = false := decide_eq_false (by omega)
  rcases h1 with rfl | rfl <;> rcases h2 with rfl | rfl
  · exact absurd ⟨rfl, rfl⟩ hne
  all_goals
    clear hne
    go_enter Tryz.func4, Tryz.ntmps4
    go_wp2_with fail
    (with_reducible refine (KA.out _).mono ?_)
    rintro e w1 ⟨rfl, hb1⟩
    go_wp2_with fail
    (with_reducible refine (KW.out _).mono ?_)
    rintro e w2 ⟨rfl, hb2⟩
    have hb2' := hb1.trans ((one_bl hb2).mono hb1.size)
    have b3 := hb2'.alloc hb2'.size (.cells #[.int .i64 p, .int .i64 q] 31)
    clear hb1 hb2 KA KW
    go_wp2_with fail
    (with_reducible refine (K1.out _ b3).mono ?_)
    rintro e w3 ⟨v3, rfl, -, hb3⟩
    have hb3' := b3.trans (hb3.mono b3.size)
    go_wp2_with fail
    (with_reducible refine (K2.out _ hb3').mono ?_)
    rintro e w4 ⟨v4, rfl, -, hb4⟩
    have hb4' := hb3'.trans (hb4.mono hb3'.size)
    clear b3 hb2' hb3 hb3' hb4 K1 K2
    go_wp2
    go_ret
    exact ⟨rfl, hb4'⟩
set_option maxHeartbeats 8000000 in
set_option maxRecDepth 100000 in
theorem area_good (A B : Option Addr) (n m ca cb : Nat) (w : World) (hl : n + m ≤ 100) (A0 : List Canon.Blk2) (hA : A0.length ≤ 100) (sa sb : Nat → Bool) (ha : Homog A0 sa) (hb : Homog A0 sb)
    (ka : ∀ W, Below w.heap.size w W → Calls Tryz.prog 15 #[.slice A n ca] W (RetCells W (regB sa) 0)) (kb : ∀ W, Below w.heap.size w W → Calls Tryz.prog 15 #[.slice B m cb] W (RetCells W (regB sb) 0)) :
    Calls Tryz.prog 4 #[.slice A n ca, .slice B m cb] w fun e w' => e = .returned (.bool true) ∧ Below w.heap.size w w' := by
  have KA := Lib.hid (fun W => awake38 W)
  have KW := Lib.hid AreaAll
  have K1 := Lib.hid ka
  have K2 := Lib.hid kb
  have HA := Lib.hid ha
  have HB := Lib.hid hb
  have HA0 := Lib.hid hA
  obtain ⟨o1, o2, o3, o4⟩ := all_ar
  have hl2 : (n : Int) + (m : Int) ≤ 100 := by omega
  have hx := Lib.hid (ar_cross sa sb)
  obtain ⟨i0, hi0, hz0, hz1, hz2⟩ := info_parts Tryz.infoFixed
  clear ka kb ha hb
  generalize arL allL = p at *
  generalize arH allL = q at *
  have o5 : q ≤ 1073741828 := by omega
  have d1 : decide (1073741824 < p) = false := decide_eq_false (by omega)
  have d2 : decide (q < 1073741824) = false := decide_eq_false (by omega)
  have d3 : decide (4 < q - p) = false := decide_eq_false (by omega)
  go_enter Tryz.func4, Tryz.ntmps4
  go_wp2_with fail
  (with_reducible refine (KA.out _).mono ?_)
  rintro e w1 ⟨rfl, hb1⟩
  go_wp2_with fail
  (with_reducible refine (KW.out _).mono ?_)
  rintro e w2 ⟨rfl, hb2⟩
  have hb2' := hb1.trans ((one_bl hb2).mono hb1.size)
  have b3 := hb2'.alloc hb2'.size (.cells #[.int .i64 p, .int .i64 q] 31)
  clear hb1 hb2 KA KW
  go_wp2_with fail
  (with_reducible refine (K1.out _ b3).mono ?_)
  rintro e w3 ⟨va, rfl, o3', hb3⟩
  have hb3' := b3.trans (hb3.mono b3.size)
  have R1 := Lib.hid (RdL.of_own HA.out o3')
  clear o3' hb3 b3 hb2' o1 o2 o3 o4 o5 d1 d2 d3
  go_wp2_with fail
  (with_reducible refine (K2.out _ hb3').mono ?_)
  rintro e w4 ⟨vb, rfl, o4', hb4⟩
  have hb4' := hb3'.trans (hb4.mono hb3'.size)
  have R2 := Lib.hid (RdL.of_own HB.out o4')
  have R1 := Lib.hid (R1.out.below hb4)
  clear o4' hb4 hb3' K1 K2 HA HB
  go_wp2_with fail
  (with_reducible refine (opr HA0.out 1 16 opc1 R1.out R2.out).mono ?_)
  rintro e w5 ⟨vu, rfl, r3, hb5⟩
  have hb5' := hb4'.trans (hb5.mono hb4'.size)
  have R3 := Lib.hid r3
  have R1 := Lib.hid (R1.out.below hb5)
  have R2 := Lib.hid (R2.out.below hb5)
  clear r3 hb5 hb4'
  go_wp2_with fail
  (with_reducible refine (opr HA0.out 2 17 opc2 R1.out R2.out).mono ?_)
  rintro e w6 ⟨vm, rfl, r4, hb6⟩
  have hb6' := hb5'.trans (hb6.mono hb5'.size)
  have R4 := Lib.hid r4
  have R1 := Lib.hid (R1.out.below hb6)
  have R2 := Lib.hid (R2.out.below hb6)
  have R3 := Lib.hid (R3.out.below hb6)
  clear r4 hb6 hb5'
  have q1 := reg_vr _ (reg_few R1.out.hom HA0.out)
  have q2 := reg_vr _ (reg_few R2.out.hom HA0.out)
  have q3 := reg_vr _ (reg_few R3.out.hom HA0.out)
  have q4 := reg_vr _ (reg_few R4.out.hom HA0.out)
  obtain ⟨-, A1, n1, c1, rfl, e1, f1, r1⟩ := R1.out
  obtain ⟨-, A2, n2, c2, rfl, e2, f2, r2⟩ := R2.out
  obtain ⟨-, A3, n3, c3, rfl, e3, f3, r3⟩ := R3.out
  obtain ⟨-, A4, n4, c4, rfl, e4, f4, r4⟩ := R4.out
  clear R1 R2 R3 R4 HA0
  have N1 := Lib.hid (arN_reg q1)
  have N2 := Lib.hid (arN_reg q2)
  have N3 := Lib.hid (arN_reg q3)
  have N4 := Lib.hid (arN_reg q4)
  rw [r1.len] at N1
  rw [r2.len] at N2
  rw [r3.len] at N3
  rw [r4.len] at N4
  have g1 := (vr_parts q1).1
  have g2 := (vr_parts q2).1
  have g3 := (vr_parts q3).1
  have g4 := (vr_parts q4).1
  rw [r1.len] at g1
  rw [r2.len] at g2
  rw [r3.len] at g3
  rw [r4.len] at g4
  have X1 := Lib.hid (fun W (hW : Below w6.heap.size w6 W) => Area_any A1 n1 c1 _ W ((r1.below hW).more hW.size) (Nat.le_trans e1 f1) q1)
  have X2 := Lib.hid (fun W (hW : Below w6.heap.size w6 W) => Area_any A2 n2 c2 _ W ((r2.below hW).more hW.size) (Nat.le_trans e2 f2) q2)
  have X3 := Lib.hid (fun W (hW : Below w6.heap.size w6 W) => Area_any A3 n3 c3 _ W ((r3.below hW).more hW.size) (Nat.le_trans e3 f3) q3)
  have X4 := Lib.hid (fun W (hW : Below w6.heap.size w6 W) => Area_any A4 n4 c4 _ W ((r4.below hW).more hW.size) (Nat.le_trans e4 f4) q4)
  clear r1 r2 r3 r4 q1 q2 q3 q4 e1 e2 e3 e4 f1 f2 f3 f4
  generalize arL (regB sa) = a1 at *
  generalize arH (regB sa) = b1 at *
  generalize arL (regB sb) = a2 at *
  generalize arH (regB sb) = b2 at *
  generalize arL (regB fun q => opB 1 (sa q) (sb q)) = a3 at *
  generalize arH (regB fun q => opB 1 (sa q) (sb q)) = b3 at *
  generalize arL (regB fun q => opB 2 (sa q) (sb q)) = a4 at *
  generalize arH (regB fun q => opB 2 (sa q) (sb q)) = b4 at *
  obtain ⟨F, hF⟩ : ∃ F : List Sp, F = [(a1, b1), (a2, b2), (a3, b3), (a4, b4)] := ⟨_, rfl⟩
  have HF := Lib.hid hF
  clear hF
  go_wp2_with fail
  have hbG := hb6'.alloc hb6'.size (.cells #[.slice A1 n1 c1, .slice A2 n2 c2, .slice A3 n3 c3, .slice A4 n4 c4] 22)
  have SG := Lib.hid (S4.new w6 (.slice A1 n1 c1) (.slice A2 n2 c2) (.slice A3 n3 c3) (.slice A4 n4 c4) 22)
  have h6G := bl_alloc w6 (.cells #[.slice A1 n1 c1, .slice A2 n2 c2, .slice A3 n3 c3, .slice A4 n4 c4] 22)
  generalize w6.alloc (.cells #[.slice A1 n1 c1, .slice A2 n2 c2, .slice A3 n3 c3, .slice A4 n4 c4] 22) = wG at *
  go_loopw [10, 90] (fun s10 s90 wr => ∃ k : Nat, k ≤ 4 ∧ s90 = .int .i64 k ∧ wr.ownsRow wG.heap.size 31 2 s10 k (spvs (F.take k)) ∧ Below wG.heap.size wG wr) (fun _ s90 _ => 4 - (intOf s90).toNat)
  case atStart => exact ⟨0, by omega, rfl, own_nil _ _ _ _, Below.refl _ _⟩
  case round =>
    obtain ⟨k, hk, rfl, hown, hbr⟩ := hrel
    have S := SG.out.below hbr SG.out.lt
    obtain ⟨st, s0, s1, s2, s3⟩ := S
    have hr6 := h6G.trans (hbr.mono h6G.size)
    have hcase : k = 0 ∨ k = 1 ∨ k = 2 ∨ k = 3 ∨ k = 4 := by omega
    clear hk
    rcases hcase with rfl | rfl | rfl | rfl | rfl
    · obtain ⟨l1, l2, l3, l4, l5, l6⟩ := N1.out
      have t1 : decide (b1 < a1) = false := decide_eq_false (by omega)
      have t2 : decide (3 * (n1 : Int) < b1 - a1) = false := decide_eq_false (by omega)
      have t3 : decide (b1 < 0) = false := decide_eq_false (by omega)
      have t4 : decide (1073741824 < a1) = false := decide_eq_false (by omega)
      have E1 : Hid (spvs (F.take 1) = spvs (F.take 0) ++ spv (a1, b1)) := Lib.hid (by rw [HF.out]; simp [spvs])
      go_wp2_with fail
      (with_reducible refine (X1.out _ hr6).mono ?_)
      rintro e w7 ⟨rfl, hb7⟩
      have hb7' := hbr.trans (hb7.mono hbr.size)
      have own7 := own_bl hown hb7 (Nat.le_refl _)
      have rd : Hid (Reads ((w7.alloc (.cells #[.int .i64 a1, .int .i64 b1] 31)).alloc (.cells #[.int .i64 a1, .int .i64 b1] 31)) (w7.heap.size + 2) 2 (some ⟨w7.heap.size + 1, 0, none⟩) 1 (spv (a1, b1))) := Lib.hid (by
        have := sreads_new (w7.alloc (.cells #[.int .i64 a1, .int .i64 b1] 31)) a1 b1 31
        simpa using this)
      have hz7 := hb7'.size
      clear hb7 hown hbr hr6 st s0 s1 s2 s3
      go_wp2_with (at_builtin; (refine wpList_append_any _ rfl (.tmp 129) (.tmp 131) _ rfl wG.heap.size 31 i0 _ 2 16 Tryz.underlying43 hi0 hz0 hz1 hz2 rfl (by decide) u10 _ _ rfl ((own7.alloc _).alloc _) (w7.heap.size + 2) (some ⟨w7.heap.size + 1, 0, none⟩) 1 1 (spv (a1, b1)) rfl rd.out (spv_one _) (by simp only [maxLen]; omega) (by omega) (by simp; omega) ?_); intro v8 w8 hown8 hg8 hat8)
      go_roundw
      case rel => exact ⟨1, by omega, by go_num, by rw [E1.out]; exact hown8, ((hb7'.alloc hz7 _).alloc (by simp; omega) _).grown hg8 (by simp; omega) (own_base own7)⟩
      case measure => simp [intOf]
    · obtain ⟨l1, l2, l3, l4, l5, l6⟩ := N2.out
      have t1 : decide (b2 < a2) = false := decide_eq_false (by omega)
      have t2 : decide (3 * (n2 : Int) < b2 - a2) = false := decide_eq_false (by omega)
      have t3 : decide (b2 < 0) = false := decide_eq_false (by omega)
      have t4 : decide (1073741824 < a2) = false := decide_eq_false (by omega)
      have E1 : Hid (spvs (F.take 2) = spvs (F.take 1) ++ spv (a2, b2)) := Lib.hid (by rw [HF.out]; simp [spvs])
      go_wp2_with fail
      (with_reducible refine (X2.out _ hr6).mono ?_)
      rintro e w7 ⟨rfl, hb7⟩
      have hb7' := hbr.trans (hb7.mono hbr.size)
      have own7 := own_bl hown hb7 (Nat.le_refl _)
      have rd : Hid (Reads ((w7.alloc (.cells #[.int .i64 a2, .int .i64 b2] 31)).alloc (.cells #[.int .i64 a2, .int .i64 b2] 31)) (w7.heap.size + 2) 2 (some ⟨w7.heap.size + 1, 0, none⟩) 1 (spv (a2, b2))) := Lib.hid (by
        have := sreads_new (w7.alloc (.cells #[.int .i64 a2, .int .i64 b2] 31)) a2 b2 31
        simpa using this)
      have hz7 := hb7'.size
      clear hb7 hown hbr hr6 st s0 s1 s2 s3
      go_wp2_with (at_builtin; (refine wpList_append_any _ rfl (.tmp 129) (.tmp 131) _ rfl wG.heap.size 31 i0 _ 2 16 Tryz.underlying43 hi0 hz0 hz1 hz2 rfl (by decide) u10 _ _ rfl ((own7.alloc _).alloc _) (w7.heap.size + 2) (some ⟨w7.heap.size + 1, 0, none⟩) 1 1 (spv (a2, b2)) rfl rd.out (spv_one _) (by simp only [maxLen]; omega) (by omega) (by simp; omega) ?_); intro v8 w8 hown8 hg8 hat8)
      go_roundw
      case rel => exact ⟨2, by omega, by go_num, by rw [E1.out]; exact hown8, ((hb7'.alloc hz7 _).alloc (by simp; omega) _).grown hg8 (by simp; omega) (own_base own7)⟩
      case measure => simp [intOf]
    · obtain ⟨l1, l2, l3, l4, l5, l6⟩ := N3.out
      have t1 : decide (b3 < a3) = false := decide_eq_false (by omega)
      have t2 : decide (3 * (n3 : Int) < b3 - a3) = false := decide_eq_false (by omega)
      have t3 : decide (b3 < 0) = false := decide_eq_false (by omega)
      have t4 : decide (1073741824 < a3) = false := decide_eq_false (by omega)
      have E1 : Hid (spvs (F.take 3) = spvs (F.take 2) ++ spv (a3, b3)) := Lib.hid (by rw [HF.out]; simp [spvs])
      go_wp2_with fail
      (with_reducible refine (X3.out _ hr6).mono ?_)
      rintro e w7 ⟨rfl, hb7⟩
      have hb7' := hbr.trans (hb7.mono hbr.size)
      have own7 := own_bl hown hb7 (Nat.le_refl _)
      have rd : Hid (Reads ((w7.alloc (.cells #[.int .i64 a3, .int .i64 b3] 31)).alloc (.cells #[.int .i64 a3, .int .i64 b3] 31)) (w7.heap.size + 2) 2 (some ⟨w7.heap.size + 1, 0, none⟩) 1 (spv (a3, b3))) := Lib.hid (by
        have := sreads_new (w7.alloc (.cells #[.int .i64 a3, .int .i64 b3] 31)) a3 b3 31
        simpa using this)
      have hz7 := hb7'.size
      clear hb7 hown hbr hr6 st s0 s1 s2 s3
      go_wp2_with (at_builtin; (refine wpList_append_any _ rfl (.tmp 129) (.tmp 131) _ rfl wG.heap.size 31 i0 _ 2 16 Tryz.underlying43 hi0 hz0 hz1 hz2 rfl (by decide) u10 _ _ rfl ((own7.alloc _).alloc _) (w7.heap.size + 2) (some ⟨w7.heap.size + 1, 0, none⟩) 1 1 (spv (a3, b3)) rfl rd.out (spv_one _) (by simp only [maxLen]; omega) (by omega) (by simp; omega) ?_); intro v8 w8 hown8 hg8 hat8)
      go_roundw
      case rel => exact ⟨3, by omega, by go_num, by rw [E1.out]; exact hown8, ((hb7'.alloc hz7 _).alloc (by simp; omega) _).grown hg8 (by simp; omega) (own_base own7)⟩
      case measure => simp [intOf]
    · obtain ⟨l1, l2, l3, l4, l5, l6⟩ := N4.out
      have t1 : decide (b4 < a4) = false := decide_eq_false (by omega)
      have t2 : decide (3 * (n4 : Int) < b4 - a4) = false := decide_eq_false (by omega)
      have t3 : decide (b4 < 0) = false := decide_eq_false (by omega)
      have t4 : decide (1073741824 < a4) = false := decide_eq_false (by omega)
      have E1 : Hid (spvs (F.take 4) = spvs (F.take 3) ++ spv (a4, b4)) := Lib.hid (by rw [HF.out]; simp [spvs])
      go_wp2_with fail
      (with_reducible refine (X4.out _ hr6).mono ?_)
      rintro e w7 ⟨rfl, hb7⟩
      have hb7' := hbr.trans (hb7.mono hbr.size)
      have own7 := own_bl hown hb7 (Nat.le_refl _)
      have rd : Hid (Reads ((w7.alloc (.cells #[.int .i64 a4, .int .i64 b4] 31)).alloc (.cells #[.int .i64 a4, .int .i64 b4] 31)) (w7.heap.size + 2) 2 (some ⟨w7.heap.size + 1, 0, none⟩) 1 (spv (a4, b4))) := Lib.hid (by
        have := sreads_new (w7.alloc (.cells #[.int .i64 a4, .int .i64 b4] 31)) a4 b4 31
        simpa using this)
      have hz7 := hb7'.size
      clear hb7 hown hbr hr6 st s0 s1 s2 s3
      go_wp2_with (at_builtin; (refine wpList_append_any _ rfl (.tmp 129) (.tmp 131) _ rfl wG.heap.size 31 i0 _ 2 16 Tryz.underlying43 hi0 hz0 hz1 hz2 rfl (by decide) u10 _ _ rfl ((own7.alloc _).alloc _) (w7.heap.size + 2) (some ⟨w7.heap.size + 1, 0, none⟩) 1 1 (spv (a4, b4)) rfl rd.out (spv_one _) (by simp only [maxLen]; omega) (by omega) (by simp; omega) ?_); intro v8 w8 hown8 hg8 hat8)
      go_roundw
      case rel => exact ⟨4, by omega, by go_num, by rw [E1.out]; exact hown8, ((hb7'.alloc hz7 _).alloc (by simp; omega) _).grown hg8 (by simp; omega) (own_base own7)⟩
      case measure => simp [intOf]
    · obtain ⟨-, -, l1, l2, l3, l4⟩ := N1.out
      obtain ⟨-, -, m1, m2, m3, m4⟩ := N2.out
      obtain ⟨-, -, u1, u2, u3, u4⟩ := N3.out
      obtain ⟨-, -, v1, v2, v3, v4⟩ := N4.out
      obtain ⟨x1, x2, x3, x4⟩ := hx.out
      obtain ⟨g, cap, rfl, hg, hlt⟩ := hown.form (by decide)
      have k0 := (own_cell hown 0 (.int .i64 a1) (by rw [HF.out]; rfl)).1
      have k1 := (own_cell hown 1 (.int .i64 b1) (by rw [HF.out]; rfl)).1
      have k2 := (own_cell hown 2 (.int .i64 a2) (by rw [HF.out]; rfl)).1
      have k3 := (own_cell hown 3 (.int .i64 b2) (by rw [HF.out]; rfl)).1
      have k4 := (own_cell hown 4 (.int .i64 a3) (by rw [HF.out]; rfl)).1
      have k5 := (own_cell hown 5 (.int .i64 b3) (by rw [HF.out]; rfl)).1
      have k6 := (own_cell hown 6 (.int .i64 a4) (by rw [HF.out]; rfl)).1
      have k7 := (own_cell hown 7 (.int .i64 b4) (by rw [HF.out]; rfl)).1
      have t1 : decide (a1 + a2 ≤ b3 + b4) = true := decide_eq_true x1
      have t2 : decide (a3 + a4 ≤ b1 + b2) = true := decide_eq_true x2
      have t3 : decide (a4 ≤ b1) = true := decide_eq_true x3
      have t4 : decide (a1 ≤ b3) = true := decide_eq_true x4
      have r1 : IntKind.i64.wrap (a1 + a2) = a1 + a2 := IntWalk.i64_in _ (by omega)
      have r2 : IntKind.i64.wrap (b3 + b4) = b3 + b4 := IntWalk.i64_in _ (by omega)
      have r3 : IntKind.i64.wrap (a3 + a4) = a3 + a4 := IntWalk.i64_in _ (by omega)
      have r4 : IntKind.i64.wrap (b1 + b2) = b1 + b2 := IntWalk.i64_in _ (by omega)
      clear st s0 s1 s2 s3 hown hx x1 x2 x3 x4 l1 l2 l3 l4 m1 m2 m3 m4 u1 u2 u3 u4 v1 v2 v3 v4 hg hlt
      go_upto_region 25 with fail
      go_quiet (fail)
      go_wp2
      go_ret
      exact ⟨rfl, bl_drewN (hbG.trans (hbr.mono hbG.size)) _⟩
end Go.Proofs.YtlhdneeiikemjaaGreat
