/- The walk of the law CellsTidies. -/
import Derived.Test.YtlglalemhfjmhaaRl
import Derived.Test.YtlglalemhfjmhaaRh
import Derived.Test.YtlglalemhfjmhaaAwake
namespace Go.Proofs.Ytlglalemhfjmhaa
open Go.RowKit
theorem lvOk_good {L : List Cl} (h : badL L = false) : lvOk L := fun y hy => ⟨(allV_of h y hy).l0, (allV_of h y hy).l1⟩
theorem tidyR_bad {L : List Cl} (h : badL L = true) : tidyR L = [] ∧ tidyE L = 1 := by simp [tidyR, tidyE, h]
set_option maxHeartbeats 2000000 in
set_option maxRecDepth 100000 in
theorem tidies_any (A : Option Addr) (n ca : Nat) (L : List Cl) (w : World) (hr : Reads w w.heap.size 3 A n (cvs L)) (hn : n ≤ ca) (hca : ca ≤ maxLen) :
    Calls Try.prog 3 #[.slice A n ca] w fun e w' => e = .returned (.bool true) ∧ Below w.heap.size w w' := by
  have hl := hr.len
  have hnm : n ≤ maxLen := Nat.le_trans hn hca
  have RD : ∀ W, Below w.heap.size w W → Reads W W.heap.size 3 A n (cvs L) := fun W hW => (hr.below hW).more hW.size
  obtain ⟨vb, hvb⟩ : ∃ vb, vb = vrB L := ⟨_, rfl⟩
  have KV : Hid (∀ W, Below w.heap.size w W → Calls Try.prog 13 #[.slice A n ca] W fun e w' => e = .returned (.bool vb) ∧ Below W.heap.size W w') := Lib.hid (fun W hW => by rw [hvb]; exact ValidRegion_any A n ca L W (RD W hW) hnm)
  have KR : Hid (∀ W, Below w.heap.size w W → Calls Try.prog 14 #[.slice A n ca] W fun e w' => e = .returned (.bool vb) ∧ Below W.heap.size W w') := Lib.hid (fun W hW => by rw [hvb, ← rvrB_eq]; exact refVR_any A n ca L W (RD W hW) hn hca)
  have KA := Lib.hid (fun W => awake38 W)
  by_cases hs : n ≤ 150
  · have KF : Hid (∀ (g : Nat) (W : World), W.cell? ⟨g, 0, none⟩ = some (.slice A n ca) → Calls Try.prog 12 #[.slice (some ⟨g, 0, none⟩) 1 1] W fun e w' => e = .returned (.bool true) ∧ w' = W) := Lib.hid (fun g W h => by have := few_one g n ca A W h hnm; rw [decide_eq_true hs] at this; exact this)
    cases hbad : badL L with
    | true =>
      have KT : Hid (∀ W, Below w.heap.size w W → Calls Try.prog 15 #[.slice A n ca] W (RetCells W [] 1)) := Lib.hid (fun W hW => by
        have := Tidy_any A n ca L W (RD W hW) hnm
        rw [(tidyR_bad hbad).1, (tidyR_bad hbad).2] at this
        exact this)
      have KL : Hid (∀ W, Below w.heap.size w W → Calls Try.prog 16 #[.slice A n ca] W fun e w' => e = .returned (.bool false) ∧ Below W.heap.size W w') := Lib.hid (fun W hW => by
        have := lawValid_any A n ca L W (RD W hW) hnm
        rw [hbad] at this
        exact this)
      clear RD hr hvb hbad hl
      unfold maxLen at hca hnm
      go_enter Try.func3, Try.ntmps3
      go_wp2_with fail
      (with_reducible refine (KA.out _).mono ?_)
      rintro e w1 ⟨rfl, hb1⟩
      go_wp2_with fail
      (with_reducible refine (KF.out _ _ (by simp)).mono ?_)
      rintro e w2 ⟨rfl, hw2⟩
      have hb2 : Below w.heap.size w w2 := by rw [hw2]; exact hb1.alloc hb1.size _
      clear hw2 hb1 KF KA
      go_wp2_with fail
      (with_reducible refine (KV.out _ hb2).mono ?_)
      rintro e w3 ⟨rfl, hb3⟩
      have hb3' := hb2.trans (hb3.mono hb2.size)
      clear hb3 hb2
      go_wp2_with fail
      (with_reducible refine (KR.out _ hb3').mono ?_)
      rintro e w4 ⟨rfl, hb4⟩
      have hb4' := hb3'.trans (hb4.mono hb3'.size)
      clear hb4 hb3' KV KR
      go_wp2_with fail
      (with_reducible refine (KT.out _ hb4').mono ?_)
      rintro e w5 ⟨v5, rfl, hown5, hb5⟩
      obtain ⟨A5, c5, rfl, -, -, -⟩ := own_form hown5
      have hb5' := hb4'.trans (hb5.mono hb4'.size)
      clear hb5 hb4' KT hown5
      go_wp2_with fail
      (with_reducible refine (KL.out _ hb5').mono ?_)
      rintro e w6 ⟨rfl, hb6⟩
      have hb6' := hb5'.trans (hb6.mono hb5'.size)
      clear hb6 hb5' KL
      go_wp2
      go_ret
      exact ⟨rfl, hb6'⟩
    | false =>
      have hmade := tidyR_made hbad (by omega)
      have KM : Hid (∀ W, Below w.heap.size w W → Calls Try.prog 18 #[.int .i64 1, .slice A n ca, .slice none 0 0] W (RetCells1 W (madeL 1 L []))) := Lib.hid (fun W hW => Made_any 1 A none n 0 ca 0 L [] W (RD W hW) Reads.none_ (by omega) (by omega) (lvOk_good hbad) (fun y hy => by cases hy) (.inl rfl))
      have KT : Hid (∀ W, Below w.heap.size w W → Calls Try.prog 15 #[.slice A n ca] W (RetCells W (madeL 1 L []) 0)) := Lib.hid (fun W hW => by
        have := Tidy_any A n ca L W (RD W hW) hnm
        rw [hmade.1, hmade.2] at this
        exact this)
      have KL : Hid (∀ W, Below w.heap.size w W → Calls Try.prog 16 #[.slice A n ca] W fun e w' => e = .returned (.bool true) ∧ Below W.heap.size W w') := Lib.hid (fun W hW => by
        have := lawValid_any A n ca L W (RD W hW) hnm
        rw [hbad] at this
        exact this)
      clear RD hr hvb hbad hl hmade
      generalize madeL 1 L [] = M at KM KT
      have KS : Hid (∀ (A5 A7 : Option Addr) (c5 c7 : Nat) (W : World) (B1 B2 : Nat), Reads W B1 3 A5 M.length (cvs M) → Reads W B2 3 A7 M.length (cvs M) → M.length ≤ maxLen → Calls Try.prog 17 #[.slice A5 M.length c5, .slice A7 M.length c7] W fun e w' => e = .returned (.bool true) ∧ ∃ q, w' = W.drewN q) := Lib.hid (fun A5 A7 c5 c7 W B1 B2 h1 h2 hm => by
        have := Same_any A5 A7 M.length M.length c5 c7 M M W B1 B2 h1 h2 hm hm
        rw [decide_eq_true rfl] at this
        exact this)
      unfold maxLen at hca hnm
      go_enter Try.func3, Try.ntmps3
      go_wp2_with fail
      (with_reducible refine (KA.out _).mono ?_)
      rintro e w1 ⟨rfl, hb1⟩
      go_wp2_with fail
      (with_reducible refine (KF.out _ _ (by simp)).mono ?_)
      rintro e w2 ⟨rfl, hw2⟩
      have hb2 : Below w.heap.size w w2 := by rw [hw2]; exact hb1.alloc hb1.size _
      clear hw2 hb1 KF KA
      go_wp2_with fail
      (with_reducible refine (KV.out _ hb2).mono ?_)
      rintro e w3 ⟨rfl, hb3⟩
      have hb3' := hb2.trans (hb3.mono hb2.size)
      clear hb3 hb2
      go_wp2_with fail
      (with_reducible refine (KR.out _ hb3').mono ?_)
      rintro e w4 ⟨rfl, hb4⟩
      have hb4' := hb3'.trans (hb4.mono hb3'.size)
      clear hb4 hb3' KV KR
      go_wp2_with fail
      (with_reducible refine (KT.out _ hb4').mono ?_)
      rintro e w5 ⟨v5, rfl, hown5, hb5⟩
      have hb5' := hb4'.trans (hb5.mono hb4'.size)
      obtain ⟨A5, c5, rfl, hr5, h5c, h5m⟩ := own_form hown5
      have HM5 := Lib.hid (Nat.le_trans h5c h5m)
      have HR5 := Lib.hid hr5
      clear hb5 hb4' KT hown5 hr5 h5m h5c
      go_wp2_with fail
      (with_reducible refine (KL.out _ hb5').mono ?_)
      rintro e w6 ⟨rfl, hb6⟩
      have hb6' := hb5'.trans (hb6.mono hb5'.size)
      have HR6 := Lib.hid ((HR5.out.below hb6).more hb6.size)
      clear hb6 hb5' KL HR5
      go_wp2_with fail
      (with_reducible refine (KM.out _ hb6').mono ?_)
      rintro e w7 ⟨v7, rfl, hown7, hb7⟩
      have hb7' := hb6'.trans (hb7.mono hb6'.size)
      obtain ⟨A7, c7, rfl, hr7, -, -⟩ := own_form hown7
      have HR7 := Lib.hid hr7
      have HR6' := Lib.hid (HR6.out.below hb7)
      clear hr7 hown7 KM hb6' HR6 hb7
      go_wp2_with fail
      (with_reducible refine (KS.out _ _ _ _ _ _ _ HR6'.out HR7.out HM5.out).mono ?_)
      rintro e w8 ⟨rfl, q, rfl⟩
      go_wp2
      go_ret
      exact ⟨rfl, bl_drewN hb7' _⟩
  · have KF : Hid (∀ (g : Nat) (W : World), W.cell? ⟨g, 0, none⟩ = some (.slice A n ca) → Calls Try.prog 12 #[.slice (some ⟨g, 0, none⟩) 1 1] W fun e w' => e = .returned (.bool false) ∧ w' = W) := Lib.hid (fun g W h => by have := few_one g n ca A W h hnm; rw [decide_eq_false hs] at this; exact this)
    clear RD hr KV KR hvb hl
    unfold maxLen at hca hnm
    go_enter Try.func3, Try.ntmps3
    go_wp2_with fail
    (with_reducible refine (KA.out _).mono ?_)
    rintro e w1 ⟨rfl, hb1⟩
    go_wp2_with fail
    (with_reducible refine (KF.out _ _ (by simp)).mono ?_)
    rintro e w2 ⟨rfl, hw2⟩
    have hb2 : Below w.heap.size w w2 := by rw [hw2]; exact hb1.alloc hb1.size _
    clear hw2 hb1 KF KA
    go_wp2
    go_ret
    exact ⟨rfl, hb2⟩
end Go.Proofs.Ytlglalemhfjmhaa
