/- The walk of the law CellsPoints. -/
import Derived.Test.YtlglalemhfjmhaaPc
import Derived.Test.YtlglalemhfjmhaaLa
namespace Go.Proofs.Ytlglalemhfjmhaa
open Go.RowKit
section
variable {A0 : List Canon.Blk2} (hA : A0.length ≤ 100)
include hA
theorem opr (op : Int) (u : FuncId) (hu : OpC op u) {W : World} {v1 v2 : Value} {s t : Nat → Bool} (h1 : RdL A0 W v1 s) (h2 : RdL A0 W v2 t) :
    Calls Try.prog u #[v1, v2] W fun e w' => ∃ v, e = .returned (.tuple #[v, .int .i64 0]) ∧ RdL A0 w' v (fun q => opB op (s q) (t q)) ∧ Below W.heap.size W w' := by
  obtain ⟨hs, A, n, ca, rfl, n1, c1, r1⟩ := h1
  obtain ⟨ht, B, m, cb, rfl, n2, c2, r2⟩ := h2
  have K := hu A B n m ca cb _ _ W r1 r2 (Nat.le_trans n1 c1) (Nat.le_trans n2 c2)
  obtain ⟨k1, k2⟩ := mk_reg op hs ht hA
  rw [k1, k2] at K
  refine K.mono ?_
  rintro e w' ⟨v, rfl, ho, hb⟩
  exact ⟨v, rfl, RdL.of_own (homog_op (opB op) hs ht) ho, hb⟩
theorem conr {W : World} {v : Value} {s : Nat → Bool} (h : RdL A0 W v s) {a b : Int} (hp : vptB a b = true) :
    Calls Try.prog 35 #[v, .agg #[.int .i64 a, .int .i64 b]] W fun e w' => e = .returned (.tuple #[.bool (conB (regB s) a b), .int .i64 0]) ∧ Below W.heap.size W w' := by
  obtain ⟨hs, A, n, ca, rfl, n1, c1, r1⟩ := h
  exact Contains_any A n ca _ a b W r1 (Nat.le_trans n1 c1) (reg_vr s (reg_few hs hA)) hp
theorem insr {W : World} {v : Value} {s : Nat → Bool} (h : RdL A0 W v s) {x : Cl} (hx : Vl x) {g : Nat} (hr : Reads W W.heap.size 3 (some ⟨g, 0, none⟩) 1 (cvs [x])) :
    Calls Try.prog 34 #[.slice (some ⟨g, 0, none⟩) 1 1, v] W fun e w' => e = .returned (.tuple #[.bool (insL [x] (regB s)), .int .i64 0]) ∧ Below W.heap.size W w' := by
  obtain ⟨hs, A, n, ca, rfl, n1, c1, r1⟩ := h
  exact Inside_any _ A 1 n 1 ca [x] _ W hr r1 (by simp [maxLen]) (Nat.le_trans n1 c1) (one_vr hx) (reg_vr s (reg_few hs hA))
end
theorem pcells {w w1 : World} {a b : Int} {t : TypeId} (hb : Below (w.alloc (.cells #[.int .i64 a, .int .i64 b] t)).heap.size (w.alloc (.cells #[.int .i64 a, .int .i64 b] t)) w1) :
    w1.cell? ⟨w.heap.size, 0, none⟩ = some (.int .i64 a) ∧ w1.cell? ⟨w.heap.size, 1, none⟩ = some (.int .i64 b) :=
  ⟨(hb.cell (p := ⟨w.heap.size, 0, none⟩) (by simp)).trans (by simp), (hb.cell (p := ⟨w.heap.size, 1, none⟩) (by simp)).trans (by simp)⟩
set_option maxHeartbeats 1000000 in
set_option maxRecDepth 100000 in
theorem points_early (A B : Option Addr) (n m ca cb : Nat) (a b : Int) (w : World) (bn : n ≤ 140737488355328) (bm : m ≤ 140737488355328) (h : ¬ n + m ≤ 100 ∨ vptB a b = false) :
    Calls Try.prog 6 #[.slice A n ca, .slice B m cb, .agg #[.int .i64 a, .int .i64 b]] w fun e w' => e = .returned (.bool true) ∧ Below w.heap.size w w' := by
  have KA := Lib.hid (fun W => awake38 W)
  by_cases hl : n + m ≤ 100
  · have hp : vptB a b = false := by
      rcases h with h | h
      · exact absurd hl h
      · exact h
    have KV := Lib.hid (fun W => refVpt_any a b W)
    rw [hp] at KV
    have hl2 : (n : Int) + (m : Int) ≤ 100 := by omega
    clear h hp
    go_enter Try.func6, Try.ntmps6
    go_wp2_with fail
    (with_reducible refine (KA.out _).mono ?_)
    rintro e w1 ⟨rfl, hb1⟩
    obtain ⟨y0, y1⟩ := pcells hb1
    have hz := one_lt hb1
    go_wp2_with fail
    (with_reducible refine (KV.out _).mono ?_)
    rintro e w2 ⟨rfl, hb2⟩
    go_wp2
    go_ret
    exact ⟨rfl, (one_bl hb1).trans (hb2.mono (by omega))⟩
  · have hl2 : (100 : Int) < (n : Int) + (m : Int) := by omega
    clear h
    go_enter Try.func6, Try.ntmps6
    go_wp2_with fail
    (with_reducible refine (KA.out _).mono ?_)
    rintro e w1 ⟨rfl, hb1⟩
    go_wp2
    go_ret
    exact ⟨rfl, one_bl hb1⟩
set_option maxHeartbeats 1000000 in
set_option maxRecDepth 100000 in
theorem points_bad (A B : Option Addr) (n m ca cb : Nat) (a b : Int) (w : World) (hl : n + m ≤ 100) (hp : vptB a b = true) (X Y : List Cl) (ea eb : Int) (h1 : ea = 0 ∨ ea = 1) (h2 : eb = 0 ∨ eb = 1) (hne : ¬ (ea = 0 ∧ eb = 0))
    (ka : ∀ W, Below w.heap.size w W → Calls Try.prog 15 #[.slice A n ca] W (RetCells W X ea)) (kb : ∀ W, Below w.heap.size w W → Calls Try.prog 15 #[.slice B m cb] W (RetCells W Y eb)) :
    Calls Try.prog 6 #[.slice A n ca, .slice B m cb, .agg #[.int .i64 a, .int .i64 b]] w fun e w' => e = .returned (.bool true) ∧ Below w.heap.size w w' := by
  have KA := Lib.hid (fun W => awake38 W)
  have KV := Lib.hid (fun W => refVpt_any a b W)
  rw [hp] at KV
  have K1 := Lib.hid ka
  have K2 := Lib.hid kb
  clear ka kb hp
  have hl2 : (n : Int) + (m : Int) ≤ 100 := by omega
  rcases h1 with rfl | rfl <;> rcases h2 with rfl | rfl
  · exact absurd ⟨rfl, rfl⟩ hne
  all_goals
    clear hne
    go_enter Try.func6, Try.ntmps6
    go_wp2_with fail
    (with_reducible refine (KA.out _).mono ?_)
    rintro e w1 ⟨rfl, hb1⟩
    obtain ⟨y0, y1⟩ := pcells hb1
    have hz := one_lt hb1
    have hb1' := one_bl hb1
    go_wp2_with fail
    (with_reducible refine (KV.out _).mono ?_)
    rintro e w2 ⟨rfl, hb2⟩
    have hb2' := hb1'.trans (hb2.mono hb1'.size)
    go_wp2_with fail
    (with_reducible refine (K1.out _ hb2').mono ?_)
    rintro e w3 ⟨v3, rfl, -, hb3⟩
    have hb3' := hb2'.trans (hb3.mono hb2'.size)
    go_wp2_with fail
    (with_reducible refine (K2.out _ hb3').mono ?_)
    rintro e w4 ⟨v4, rfl, -, hb4⟩
    have hb4' := hb3'.trans (hb4.mono hb3'.size)
    clear hb1 hb1' hb2 hb2' hb3 hb3' hb4 K1 K2 KA KV y0 y1
    go_wp2
    go_ret
    exact ⟨rfl, hb4'⟩
set_option maxHeartbeats 2000000 in
set_option maxRecDepth 100000 in
theorem points_good (A B : Option Addr) (n m ca cb : Nat) (a b : Int) (w : World) (hl : n + m ≤ 100) (hp : vptB a b = true) (A0 : List Canon.Blk2) (hA : A0.length ≤ 100) (sa sb : Nat → Bool) (ha : Homog A0 sa) (hb : Homog A0 sb)
    (ka : ∀ W, Below w.heap.size w W → Calls Try.prog 15 #[.slice A n ca] W (RetCells W (regB sa) 0)) (kb : ∀ W, Below w.heap.size w W → Calls Try.prog 15 #[.slice B m cb] W (RetCells W (regB sb) 0)) :
    Calls Try.prog 6 #[.slice A n ca, .slice B m cb, .agg #[.int .i64 a, .int .i64 b]] w fun e w' => e = .returned (.bool true) ∧ Below w.heap.size w w' := by
  have KA := Lib.hid (fun W => awake38 W)
  have KV := Lib.hid (fun W => refVpt_any a b W)
  rw [hp] at KV
  have K1 := Lib.hid ka
  have K2 := Lib.hid kb
  have HA := Lib.hid ha
  have HB := Lib.hid hb
  have HA0 := Lib.hid hA
  have HP := Lib.hid hp
  have hl2 : (n : Int) + (m : Int) ≤ 100 := by omega
  have KC : Hid (∀ (W : World) (v : Value) (s : Nat → Bool), RdL A0 W v s → Calls Try.prog 35 #[v, .agg #[.int .i64 a, .int .i64 b]] W fun e w' => e = .returned (.tuple #[.bool (conB (regB s) a b), .int .i64 0]) ∧ Below W.heap.size W w') := Lib.hid (fun W v s h => conr hA h hp)
  have hV := (of_in hp (by omega) (by omega : (16 : Int) ≤ 16)).1
  have KO : Hid (∀ W, Calls Try.prog 23 #[.agg #[.int .i64 a, .int .i64 b], .int .i64 16] W fun e w' => e = .returned (.tuple #[.agg #[.int .i64 (ofC a b 16).1, .int .i64 (ofC a b 16).2.1, .int .i64 (ofC a b 16).2.2], .int .i64 0]) ∧ Below W.heap.size W w') := Lib.hid (fun W => Of_yes a b 16 W hp (by omega) (by omega))
  have KI : Hid (∀ (W : World) (v : Value) (g : Nat), RdL A0 W v sa → Reads W W.heap.size 3 (some ⟨g, 0, none⟩) 1 (cvs [ofC a b 16]) → Calls Try.prog 34 #[.slice (some ⟨g, 0, none⟩) 1 1, v] W fun e w' => e = .returned (.tuple #[.bool (insL [ofC a b 16] (regB sa)), .int .i64 0]) ∧ Below W.heap.size W w') := Lib.hid (fun W v g h hr => insr hA h hV hr)
  have hx := Lib.hid (con_or sa sb a b hp)
  have hy := Lib.hid (con_and sa sb a b hp)
  have hi := Lib.hid (of_con (s := sa) hp)
  have KX := Lib.hid (fun W v h => KC.out W v sa h)
  have KY := Lib.hid (fun W v h => KC.out W v sb h)
  have KZ := Lib.hid (fun W v h => KC.out W v (fun q => opB 1 (sa q) (sb q)) h)
  have KW := Lib.hid (fun W v h => KC.out W v (fun q => opB 2 (sa q) (sb q)) h)
  rw [hx.out] at KZ
  generalize conB (regB sa) a b = x at KX KZ hy hi
  generalize conB (regB sb) a b = y at KY KZ hy
  generalize conB (regB fun q => opB 2 (sa q) (sb q)) a b = z at KW hy
  generalize insL [ofC a b 16] (regB sa) = i at KI hi
  generalize ofC a b 16 = oc at KO KI
  obtain ⟨o1, o2, o3⟩ := oc
  simp only [] at KO
  clear ka kb ha hb hA hp hV hx KC
  go_enter Try.func6, Try.ntmps6
  go_wp2_with fail
  (with_reducible refine (KA.out _).mono ?_)
  rintro e w1 ⟨rfl, hb1⟩
  have P0 := Lib.hid (pcells hb1)
  obtain ⟨y0, y1⟩ := P0.out
  have hz := one_lt hb1
  have hb1' := one_bl hb1
  clear hb1
  go_wp2_with fail
  (with_reducible refine (KV.out _).mono ?_)
  rintro e w2 ⟨rfl, hb2⟩
  have hb2' := hb1'.trans (hb2.mono hb1'.size)
  have hz2 := Nat.lt_of_lt_of_le hz hb2.size
  have P2 := Lib.hid (And.intro ((hb2.cell (p := ⟨w.heap.size, 0, none⟩) hz).trans y0) ((hb2.cell (p := ⟨w.heap.size, 1, none⟩) hz).trans y1))
  clear hb2 hb1' y0 y1 P0 hz
  go_wp2_with fail
  (with_reducible refine (K1.out _ hb2').mono ?_)
  rintro e w3 ⟨va, rfl, o3', hb3⟩
  have hb3' := hb2'.trans (hb3.mono hb2'.size)
  have R1 := Lib.hid (RdL.of_own HA.out o3')
  have hz3 := Nat.lt_of_lt_of_le hz2 hb3.size
  have P3 := Lib.hid (And.intro ((hb3.cell (p := ⟨w.heap.size, 0, none⟩) hz2).trans P2.out.1) ((hb3.cell (p := ⟨w.heap.size, 1, none⟩) hz2).trans P2.out.2))
  clear o3' hb3 hb2' P2 hz2
  go_wp2_with fail
  (with_reducible refine (K2.out _ hb3').mono ?_)
  rintro e w4 ⟨vb, rfl, o4', hb4⟩
  have hb4' := hb3'.trans (hb4.mono hb3'.size)
  have R2 := Lib.hid (RdL.of_own HB.out o4')
  have R1 := Lib.hid (R1.out.below hb4)
  have hz4 := Nat.lt_of_lt_of_le hz3 hb4.size
  have P4 := Lib.hid (And.intro ((hb4.cell (p := ⟨w.heap.size, 0, none⟩) hz3).trans P3.out.1) ((hb4.cell (p := ⟨w.heap.size, 1, none⟩) hz3).trans P3.out.2))
  clear o4' hb4 hb3' P3 hz3 K1 K2 KA KV HA HB
  go_wp2_with fail
  (with_reducible refine (opr HA0.out 1 31 opc1 R1.out R2.out).mono ?_)
  rintro e w5 ⟨vu, rfl, r3, hb5⟩
  have hb5' := hb4'.trans (hb5.mono hb4'.size)
  have R3 := Lib.hid r3
  have R1 := Lib.hid (R1.out.below hb5)
  have R2 := Lib.hid (R2.out.below hb5)
  have hz5 := Nat.lt_of_lt_of_le hz4 hb5.size
  have P5 := Lib.hid (And.intro ((hb5.cell (p := ⟨w.heap.size, 0, none⟩) hz4).trans P4.out.1) ((hb5.cell (p := ⟨w.heap.size, 1, none⟩) hz4).trans P4.out.2))
  clear r3 hb5 hb4' P4 hz4
  go_wp2_with fail
  (with_reducible refine (opr HA0.out 2 32 opc2 R1.out R2.out).mono ?_)
  rintro e w6 ⟨vm, rfl, r4, hb6⟩
  have hb6' := hb5'.trans (hb6.mono hb5'.size)
  have R4 := Lib.hid r4
  have R1 := Lib.hid (R1.out.below hb6)
  have R2 := Lib.hid (R2.out.below hb6)
  have R3 := Lib.hid (R3.out.below hb6)
  have hz6 := Nat.lt_of_lt_of_le hz5 hb6.size
  have P6 := Lib.hid (And.intro ((hb6.cell (p := ⟨w.heap.size, 0, none⟩) hz5).trans P5.out.1) ((hb6.cell (p := ⟨w.heap.size, 1, none⟩) hz5).trans P5.out.2))
  clear r4 hb6 hb5' P5 hz5
  obtain ⟨y0, y1⟩ := P6.out
  go_wp2_with fail
  (with_reducible refine (KX.out _ _ R1.out).mono ?_)
  rintro e w7 ⟨rfl, hb7⟩
  have hb7' := hb6'.trans (hb7.mono hb6'.size)
  have R1 := Lib.hid (R1.out.below hb7)
  have R2 := Lib.hid (R2.out.below hb7)
  have R3 := Lib.hid (R3.out.below hb7)
  have R4 := Lib.hid (R4.out.below hb7)
  have hz7 := Nat.lt_of_lt_of_le hz6 hb7.size
  have y0 := (hb7.cell (p := ⟨w.heap.size, 0, none⟩) hz6).trans y0
  have y1 := (hb7.cell (p := ⟨w.heap.size, 1, none⟩) hz6).trans y1
  clear hb7 hb6' hz6 P6
  go_wp2_with fail
  (with_reducible refine (KY.out _ _ R2.out).mono ?_)
  rintro e w8 ⟨rfl, hb8⟩
  have hb8' := hb7'.trans (hb8.mono hb7'.size)
  have R1 := Lib.hid (R1.out.below hb8)
  have R3 := Lib.hid (R3.out.below hb8)
  have R4 := Lib.hid (R4.out.below hb8)
  have hz8 := Nat.lt_of_lt_of_le hz7 hb8.size
  have y0 := (hb8.cell (p := ⟨w.heap.size, 0, none⟩) hz7).trans y0
  have y1 := (hb8.cell (p := ⟨w.heap.size, 1, none⟩) hz7).trans y1
  clear hb8 hb7' hz7
  go_wp2_with fail
  (with_reducible refine (KZ.out _ _ R3.out).mono ?_)
  rintro e w9 ⟨rfl, hb9⟩
  have hb9' := hb8'.trans (hb9.mono hb8'.size)
  have R1 := Lib.hid (R1.out.below hb9)
  have R4 := Lib.hid (R4.out.below hb9)
  have hz9 := Nat.lt_of_lt_of_le hz8 hb9.size
  have y0 := (hb9.cell (p := ⟨w.heap.size, 0, none⟩) hz8).trans y0
  have y1 := (hb9.cell (p := ⟨w.heap.size, 1, none⟩) hz8).trans y1
  clear hb9 hb8' hz8
  go_wp2_with fail
  (with_reducible refine (KW.out _ _ R4.out).mono ?_)
  rintro e w10 ⟨rfl, hb10⟩
  have hb10' := hb9'.trans (hb10.mono hb9'.size)
  have R1 := Lib.hid (R1.out.below hb10)
  have hz10 := Nat.lt_of_lt_of_le hz9 hb10.size
  have y0 := (hb10.cell (p := ⟨w.heap.size, 0, none⟩) hz9).trans y0
  have y1 := (hb10.cell (p := ⟨w.heap.size, 1, none⟩) hz9).trans y1
  clear hb10 hb9' hz9 R2 R3 R4 KX KY KZ KW
  have hcase : (z = false ∨ (x = true ∧ y = true)) ∧ (i = false ∨ x = true) := by
    refine ⟨?_, ?_⟩
    · cases z with
      | false => exact .inl rfl
      | true => exact .inr (hy.out rfl)
    · cases i with
      | false => exact .inl rfl
      | true => exact .inr (hi.out rfl)
  clear hy hi
  cases x <;> cases y <;> cases z <;> cases i <;> first
    | (exfalso; revert hcase; decide)
    | (clear hcase
       go_wp2_with fail
       (with_reducible refine (KO.out _).mono ?_)
       rintro e w11 ⟨rfl, hb11⟩
       have hb11' := hb10'.trans (hb11.mono hb10'.size)
       have R5 := Lib.hid (((R1.out.below hb11).below (bl_alloc w11 (.cells #[.int .i64 o1, .int .i64 o2, .int .i64 o3] 32))).below (bl_alloc _ (.cells #[.int .i64 o1, .int .i64 o2, .int .i64 o3] 32)))
       have hbe := (hb11'.alloc hb11'.size (.cells #[.int .i64 o1, .int .i64 o2, .int .i64 o3] 32)).alloc (by have := hb11'.size; simp; omega) (.cells #[.int .i64 o1, .int .i64 o2, .int .i64 o3] 32)
       have RR : Hid (Reads ((w11.alloc (.cells #[.int .i64 o1, .int .i64 o2, .int .i64 o3] 32)).alloc (.cells #[.int .i64 o1, .int .i64 o2, .int .i64 o3] 32)) ((w11.alloc (.cells #[.int .i64 o1, .int .i64 o2, .int .i64 o3] 32)).alloc (.cells #[.int .i64 o1, .int .i64 o2, .int .i64 o3] 32)).heap.size 3 (some ⟨w11.heap.size + 1, 0, none⟩) 1 (cvs [(o1, o2, o3)])) := Lib.hid (by
         have := reads_new (w11.alloc (.cells #[.int .i64 o1, .int .i64 o2, .int .i64 o3] 32)) o1 o2 o3 32
         simpa [cvs] using this)
       clear hb11 y0 y1
       go_wp2_with fail
       (with_reducible refine (KI.out _ _ _ R5.out RR.out).mono ?_)
       rintro e w12 ⟨rfl, hb12⟩
       go_wp2
       go_ret
       exact ⟨rfl, hbe.trans (hb12.mono hbe.size)⟩)
end Go.Proofs.Ytlglalemhfjmhaa
