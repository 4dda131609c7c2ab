/- The walk of the law CellsLaws. -/
import Derived.Test.YtlglalemhfjmhaaLa
namespace Go.Proofs.Ytlglalemhfjmhaa
open Go.RowKit
theorem m0 {α : Type} {a : α} {l : List α} : a ∈ a :: l := List.mem_cons_self
theorem ms {α : Type} {a x : α} {l : List α} (h : a ∈ l) : a ∈ x :: l := List.mem_cons_of_mem _ h
theorem b1 : ∀ x y : Bool, opB 1 x y = opB 1 y x := by decide
theorem b2 : ∀ x y : Bool, opB 2 x y = opB 2 y x := by decide
theorem b3 : ∀ x y : Bool, opB 1 (opB 3 x y) (opB 2 x y) = x := by decide
theorem b4 : ∀ x y z : Bool, opB 1 (opB 1 x y) z = opB 1 x (opB 1 y z) := by decide
theorem b5 : ∀ x y z : Bool, opB 2 (opB 2 x y) z = opB 2 x (opB 2 y z) := by decide
theorem b6 : ∀ x y z : Bool, opB 2 (opB 1 x y) z = opB 1 (opB 2 x z) (opB 2 y z) := by decide
theorem b7 : ∀ x y : Bool, opB 3 (opB 1 x y) y = opB 3 x y := by decide
theorem b8 : ∀ x y : Bool, opB 2 (opB 3 x y) y = false := by decide
theorem len_beq (L : List Cl) (n : Nat) (h : n = L.length) : ((n : Int) == 0) = decide (L = []) := by
  rw [Bool.eq_iff_iff, beq_iff_eq, decide_eq_true_eq, h]
  constructor
  · intro h2; exact List.eq_nil_of_length_eq_zero (by omega)
  · intro h2; rw [h2]; rfl
set_option maxHeartbeats 2000000 in
set_option maxRecDepth 100000 in
theorem laws_bad (A B C : Option Addr) (n m l ca cb cc : Nat) (w : World) (hl : n + m + l ≤ 100) (X Y Z : List Cl) (ea eb ec : Int) (h1 : ea = 0 ∨ ea = 1) (h2 : eb = 0 ∨ eb = 1) (h3 : ec = 0 ∨ ec = 1) (hne : ¬ (ea = 0 ∧ eb = 0 ∧ ec = 0))
    (ka : ∀ W, Below w.heap.size w W → Calls Try.prog 15 #[.slice A n ca] W (RetCells W X ea)) (kb : ∀ W, Below w.heap.size w W → Calls Try.prog 15 #[.slice B m cb] W (RetCells W Y eb)) (kc : ∀ W, Below w.heap.size w W → Calls Try.prog 15 #[.slice C l cc] W (RetCells W Z ec)) :
    Calls Try.prog 5 #[.slice A n ca, .slice B m cb, .slice C l cc] w fun e w' => e = .returned (.bool true) ∧ Below w.heap.size w w' := by
  have KA := Lib.hid (fun W => awake38 W)
  have K1 := Lib.hid ka
  have K2 := Lib.hid kb
  have K3 := Lib.hid kc
  clear ka kb kc
  have hl2 : (n : Int) + (m : Int) + (l : Int) ≤ 100 := by omega
  rcases h1 with rfl | rfl <;> rcases h2 with rfl | rfl <;> rcases h3 with rfl | rfl
  · exact absurd ⟨rfl, rfl, rfl⟩ hne
  all_goals
    clear hne
    go_enter Try.func5, Try.ntmps5
    go_wp2_with fail
    (with_reducible refine (KA.out _).mono ?_)
    rintro e w1 ⟨rfl, hb1⟩
    go_wp2_with fail
    (with_reducible refine (K1.out _ hb1).mono ?_)
    rintro e w2 ⟨v2, rfl, -, hb2⟩
    have hb2' := hb1.trans (hb2.mono hb1.size)
    go_wp2_with fail
    (with_reducible refine (K2.out _ hb2').mono ?_)
    rintro e w3 ⟨v3, rfl, -, hb3⟩
    have hb3' := hb2'.trans (hb3.mono hb2'.size)
    go_wp2_with fail
    (with_reducible refine (K3.out _ hb3').mono ?_)
    rintro e w4 ⟨v4, rfl, -, hb4⟩
    have hb4' := hb3'.trans (hb4.mono hb3'.size)
    clear hb1 hb2 hb2' hb3 hb3' hb4 K1 K2 K3 KA
    go_wp2
    go_ret
    exact ⟨rfl, hb4'⟩
set_option maxHeartbeats 4000000 in
set_option maxRecDepth 100000 in
theorem laws_good (A B C : Option Addr) (n m l ca cb cc : Nat) (w : World) (hl : n + m + l ≤ 100) (A0 : List Canon.Blk2) (hA : A0.length ≤ 100) (sa sb sc : Nat → Bool) (ha : Homog A0 sa) (hb : Homog A0 sb) (hc : Homog A0 sc)
    (ka : ∀ W, Below w.heap.size w W → Calls Try.prog 15 #[.slice A n ca] W (RetCells W (regB sa) 0)) (kb : ∀ W, Below w.heap.size w W → Calls Try.prog 15 #[.slice B m cb] W (RetCells W (regB sb) 0)) (kc : ∀ W, Below w.heap.size w W → Calls Try.prog 15 #[.slice C l cc] W (RetCells W (regB sc) 0)) :
    Calls Try.prog 5 #[.slice A n ca, .slice B m cb, .slice C l cc] w fun e w' => e = .returned (.bool true) ∧ Below w.heap.size w w' := by
  have KA := Lib.hid (fun W => awake38 W)
  have K1 := Lib.hid ka
  have K2 := Lib.hid kb
  have K3 := Lib.hid kc
  have HA := Lib.hid ha
  have HB := Lib.hid hb
  have HC := Lib.hid hc
  have hl2 : (n : Int) + (m : Int) + (l : Int) ≤ 100 := by omega
  have P1 := Lib.hid (fun (W : World) (g : Nat) (ps : List (Value × (Nat → Bool))) (v1 v2 : Value) (s t : Nat → Bool) (h : LSt A0 w W g ps) (m1 : (v1, s) ∈ ps) (m2 : (v2, t) ∈ ps) => op_any 1 31 (enters_of Try.func31 (by kernel_rfl) rfl) opc1 hA h m1 m2)
  have P2 := Lib.hid (fun (W : World) (g : Nat) (ps : List (Value × (Nat → Bool))) (v1 v2 : Value) (s t : Nat → Bool) (h : LSt A0 w W g ps) (m1 : (v1, s) ∈ ps) (m2 : (v2, t) ∈ ps) => op_any 2 32 (enters_of Try.func32 (by kernel_rfl) rfl) opc2 hA h m1 m2)
  have P3 := Lib.hid (fun (W : World) (g : Nat) (ps : List (Value × (Nat → Bool))) (v1 v2 : Value) (s t : Nat → Bool) (h : LSt A0 w W g ps) (m1 : (v1, s) ∈ ps) (m2 : (v2, t) ∈ ps) => op_any 3 33 (enters_of Try.func33 (by kernel_rfl) rfl) opc3 hA h m1 m2)
  have HA0 := Lib.hid hA
  clear ka kb kc ha hb hc hA
  obtain ⟨β, hβ⟩ : ∃ β, β = decide ((regB fun q => opB 3 (sa q) (sb q)) = []) := ⟨_, rfl⟩
  have HB9 := Lib.hid hβ
  clear hβ
  go_enter Try.func5, Try.ntmps5
  go_wp2_with fail
  (with_reducible refine (KA.out _).mono ?_)
  rintro e w1 ⟨rfl, hb1⟩
  go_wp2_with fail
  (with_reducible refine (K1.out _ hb1).mono ?_)
  rintro e w2 ⟨va, rfl, o2, hb2⟩
  have hb2' := hb1.trans (hb2.mono hb1.size)
  have R1 := Lib.hid (RdL.of_own HA.out o2)
  clear o2
  go_wp2_with fail
  (with_reducible refine (K2.out _ hb2').mono ?_)
  rintro e w3 ⟨vb, rfl, o3, hb3⟩
  have hb3' := hb2'.trans (hb3.mono hb2'.size)
  have R2 := Lib.hid (RdL.of_own HB.out o3)
  have R1 := Lib.hid (R1.out.below hb3)
  clear o3
  go_wp2_with fail
  (with_reducible refine (K3.out _ hb3').mono ?_)
  rintro e w4 ⟨vc, rfl, o4, hb4⟩
  have hb4' := hb3'.trans (hb4.mono hb3'.size)
  have R3 := Lib.hid (RdL.of_own HC.out o4)
  have R1 := Lib.hid (R1.out.below hb4)
  have R2 := Lib.hid (R2.out.below hb4)
  clear o4 K1 K2 K3 KA hb1 hb2 hb3 hb2' hb3' hb4 HA HB HC
  have bb := bl_alloc w4 (.cells #[.bool false] 4)
  have Z : Hid (LSt A0 w (w4.alloc (.cells #[.bool false] 4)) w4.heap.size [(va, sa), (vb, sb), (vc, sc)]) := Lib.hid ⟨hb4'.trans (bb.mono hb4'.size), Blk.new w4 _ _, fun p hp => by
    simp only [List.mem_cons, List.not_mem_nil, or_false] at hp
    rcases hp with rfl | rfl | rfl
    · exact R1.out.below bb
    · exact R2.out.below bb
    · exact R3.out.below bb⟩
  clear bb R1 R2 R3 hb4'
  go_wp2_with fail
  (with_reducible refine (P1.out _ _ _ _ _ _ _ Z.out m0 (ms m0)).mono ?_)
  rintro e x1 ⟨vu, rfl, Z1⟩
  have Z := Lib.hid Z1
  clear Z1
  go_wp2_with fail
  (with_reducible refine (P2.out _ _ _ _ _ _ _ Z.out (ms m0) (ms (ms m0))).mono ?_)
  rintro e x2 ⟨vm, rfl, Z2⟩
  have Z := Lib.hid Z2
  clear Z2
  go_wp2_with fail
  (with_reducible refine (P3.out _ _ _ _ _ _ _ Z.out (ms (ms m0)) (ms (ms (ms m0)))).mono ?_)
  rintro e x3 ⟨vd, rfl, Z3⟩
  have Z := Lib.hid Z3
  clear Z3
  obtain ⟨Ad, nd, cd, hvd, hnd, hd1, hd2⟩ := Z.out.len m0
  subst hvd
  have HBE := Lib.hid ((len_beq _ nd hnd).trans HB9.out.symm)
  clear hnd
  go_wp2_with fail
  (with_reducible refine (inside_any HA0.out Z.out (ms (ms (ms m0))) (ms (ms (ms (ms m0)))) β HB9.out).mono ?_)
  rintro e xi ⟨rfl, Zi⟩
  have Z := Lib.hid Zi
  clear Zi
  go_wp2_with fail
  (with_reducible refine (P1.out _ _ _ _ _ _ _ Z.out (ms (ms (ms (ms m0)))) (ms (ms (ms m0)))).mono ?_)
  rintro e x4 ⟨t1, rfl, Z4⟩
  have Z := Lib.hid Z4
  clear Z4
  go_wp2_with fail
  (with_reducible refine (same_any Z.out (ms (ms (ms m0))) m0 (fun q => b1 _ _)).mono ?_)
  rintro e x5 ⟨rfl, Z5⟩
  have Z := Lib.hid Z5
  clear Z5
  go_wp2_with fail
  (with_reducible refine (P2.out _ _ _ _ _ _ _ Z.out (ms (ms (ms (ms (ms m0))))) (ms (ms (ms (ms m0))))).mono ?_)
  rintro e x6 ⟨t2, rfl, Z6⟩
  have Z := Lib.hid Z6
  clear Z6
  go_wp2_with fail
  (with_reducible refine (same_any Z.out (ms (ms (ms m0))) m0 (fun q => b2 _ _)).mono ?_)
  rintro e x7 ⟨rfl, Z7⟩
  have Z := Lib.hid Z7
  clear Z7
  go_wp2_with fail
  (with_reducible refine (P1.out _ _ _ _ _ _ _ Z.out (ms (ms m0)) (ms (ms (ms m0)))).mono ?_)
  rintro e x8 ⟨t3, rfl, Z8⟩
  have Z := Lib.hid Z8
  clear Z8
  go_wp2_with fail
  (with_reducible refine (same_any Z.out m0 (ms (ms (ms (ms (ms (ms m0)))))) (fun q => b3 _ _)).mono ?_)
  rintro e x9 ⟨rfl, Z9⟩
  have Z := Lib.hid Z9
  clear Z9
  have hbe := HBE.out
  go_wp2_with fail
  (with_reducible refine (P1.out _ _ _ _ _ _ _ Z.out (ms (ms (ms (ms (ms m0))))) (ms (ms (ms (ms (ms (ms (ms (ms m0))))))))).mono ?_)
  rintro e x10 ⟨t4, rfl, Z10⟩
  have Z := Lib.hid Z10
  clear Z10
  clear hbe
  go_wp2_with fail
  (with_reducible refine (P1.out _ _ _ _ _ _ _ Z.out (ms (ms (ms (ms (ms (ms (ms (ms m0)))))))) (ms (ms (ms (ms (ms (ms (ms (ms (ms m0)))))))))).mono ?_)
  rintro e x11 ⟨t5, rfl, Z11⟩
  have Z := Lib.hid Z11
  clear Z11
  go_wp2_with fail
  (with_reducible refine (P1.out _ _ _ _ _ _ _ Z.out (ms (ms (ms (ms (ms (ms (ms (ms m0)))))))) m0).mono ?_)
  rintro e x12 ⟨t6, rfl, Z12⟩
  have Z := Lib.hid Z12
  clear Z12
  go_wp2_with fail
  (with_reducible refine (same_any Z.out (ms (ms m0)) m0 (fun q => b4 _ _ _)).mono ?_)
  rintro e x13 ⟨rfl, Z13⟩
  have Z := Lib.hid Z13
  clear Z13
  go_wp2_with fail
  (with_reducible refine (P2.out _ _ _ _ _ _ _ Z.out (ms (ms (ms (ms (ms (ms (ms m0))))))) (ms (ms (ms (ms (ms (ms (ms (ms (ms (ms (ms m0)))))))))))).mono ?_)
  rintro e x14 ⟨t7, rfl, Z14⟩
  have Z := Lib.hid Z14
  clear Z14
  go_wp2_with fail
  (with_reducible refine (P2.out _ _ _ _ _ _ _ Z.out (ms (ms (ms (ms (ms (ms (ms (ms (ms (ms (ms m0))))))))))) (ms (ms (ms (ms (ms (ms (ms (ms (ms (ms (ms (ms m0))))))))))))).mono ?_)
  rintro e x15 ⟨t8, rfl, Z15⟩
  have Z := Lib.hid Z15
  clear Z15
  go_wp2_with fail
  (with_reducible refine (P2.out _ _ _ _ _ _ _ Z.out (ms (ms (ms (ms (ms (ms (ms (ms (ms (ms (ms m0))))))))))) m0).mono ?_)
  rintro e x16 ⟨t9, rfl, Z16⟩
  have Z := Lib.hid Z16
  clear Z16
  go_wp2_with fail
  (with_reducible refine (same_any Z.out (ms (ms m0)) m0 (fun q => b5 _ _ _)).mono ?_)
  rintro e x17 ⟨rfl, Z17⟩
  have Z := Lib.hid Z17
  clear Z17
  go_wp2_with fail
  (with_reducible refine (P2.out _ _ _ _ _ _ _ Z.out (ms (ms (ms (ms (ms (ms (ms (ms (ms (ms (ms m0))))))))))) (ms (ms (ms (ms (ms (ms (ms (ms (ms (ms (ms (ms (ms (ms m0))))))))))))))).mono ?_)
  rintro e x18 ⟨t10, rfl, Z18⟩
  have Z := Lib.hid Z18
  clear Z18
  go_wp2_with fail
  (with_reducible refine (P2.out _ _ _ _ _ _ _ Z.out (ms (ms (ms (ms (ms (ms (ms (ms (ms (ms (ms (ms (ms m0))))))))))))) (ms (ms (ms (ms (ms (ms (ms (ms (ms (ms (ms (ms (ms (ms (ms m0)))))))))))))))).mono ?_)
  rintro e x19 ⟨t11, rfl, Z19⟩
  have Z := Lib.hid Z19
  clear Z19
  go_wp2_with fail
  (with_reducible refine (P2.out _ _ _ _ _ _ _ Z.out (ms (ms (ms (ms (ms (ms (ms (ms (ms (ms (ms (ms (ms (ms (ms m0))))))))))))))) (ms (ms (ms (ms (ms (ms (ms (ms (ms (ms (ms (ms (ms (ms (ms (ms m0))))))))))))))))).mono ?_)
  rintro e x20 ⟨t12, rfl, Z20⟩
  have Z := Lib.hid Z20
  clear Z20
  go_wp2_with fail
  (with_reducible refine (P1.out _ _ _ _ _ _ _ Z.out (ms m0) m0).mono ?_)
  rintro e x21 ⟨t13, rfl, Z21⟩
  have Z := Lib.hid Z21
  clear Z21
  go_wp2_with fail
  (with_reducible refine (same_any Z.out (ms (ms (ms m0))) m0 (fun q => b6 _ _ _)).mono ?_)
  rintro e x22 ⟨rfl, Z22⟩
  have Z := Lib.hid Z22
  clear Z22
  go_wp2_with fail
  (with_reducible refine (P2.out _ _ _ _ _ _ _ Z.out (ms (ms (ms (ms (ms (ms (ms (ms (ms (ms (ms (ms (ms m0))))))))))))) (ms (ms (ms (ms (ms (ms (ms (ms (ms (ms (ms (ms (ms (ms (ms (ms (ms m0)))))))))))))))))).mono ?_)
  rintro e x23 ⟨t14, rfl, Z23⟩
  have Z := Lib.hid Z23
  clear Z23
  obtain ⟨Ae, ne, ce, hve, hne, he1, he2⟩ := Z.out.len m0
  subst hve
  have hne0 : ne = 0 := by rw [hne, reg_nil (fun q _ => b8 _ _)]; rfl
  subst hne0
  clear hne
  go_wp2_with fail
  (with_reducible refine (P3.out _ _ _ _ _ _ _ Z.out (ms (ms (ms (ms (ms (ms (ms (ms (ms (ms (ms (ms (ms (ms (ms (ms m0)))))))))))))))) (ms (ms (ms (ms (ms (ms (ms (ms (ms (ms (ms (ms (ms (ms (ms (ms (ms (ms m0))))))))))))))))))).mono ?_)
  rintro e x24 ⟨t15, rfl, Z24⟩
  have Z := Lib.hid Z24
  clear Z24
  go_wp2_with fail
  (with_reducible refine (same_any Z.out m0 (ms (ms (ms (ms (ms (ms (ms (ms (ms (ms (ms (ms (ms (ms (ms m0))))))))))))))) (fun q => b7 _ _)).mono ?_)
  rintro e x25 ⟨rfl, Z25⟩
  have Z := Lib.hid Z25
  clear Z25
  have yb := Z.out.blk.cell 0
  simp at yb
  go_wp2
  go_ret
  exact ⟨rfl, Z.out.bl⟩
end Go.Proofs.Ytlglalemhfjmhaa
