/- The walks of made, Union, Meet, Minus, Inside. -/
import Derived.Test.YtnbbemlchchmoaaGreatHSe
import Derived.Test.YtnbbemlchchmoaaGreatHJe
set_option linter.unusedVariables false
set_option linter.unusedSimpArgs false
namespace Go.Proofs.YtnbbemlchchmoaaGreat
open Go.RowKit
theorem vr_parts {L : List Cl} (h : vrB L = true) : L.length ≤ 4000 ∧ (∀ x ∈ L, vldB x.1 x.2.1 x.2.2 = true) ∧ AllV L := by
  obtain ⟨h1, h2, _⟩ := (vrB_iff L).1 h
  exact ⟨h1, fun x hx => (vl_iff x).2 (h2 x hx), h2⟩
theorem vr_yes (A : Option Addr) (n c : Nat) (L : List Cl) (b : Bool) (hb : vrB L = b) (w : World) (hr : Reads w w.heap.size 3 A n (cvs L)) (hn : n ≤ maxLen) :
    Calls Tryz.prog 62 #[.slice A n c] w fun e w' => e = .returned (.bool b) ∧ Below w.heap.size w w' := by
  rw [← hb]; exact ValidRegion_any A n c L w hr hn
/-- what is known of the combined spans -/
theorem comb_all (op : Int) {a b : List Cl} (ha : vrB a = true) (hb : vrB b = true) :
    tidyL (combE (opB op) (edgesOf (coverL a) (coverL b)) (coverL a) (coverL b)) = madeL op a b ∧ SpOk (combE (opB op) (edgesOf (coverL a) (coverL b)) (coverL a) (coverL b)) ∧ (combE (opB op) (edgesOf (coverL a) (coverL b)) (coverL a) (coverL b)).length ≤ 16000 := by
  obtain ⟨a1, a2, a3⟩ := vr_parts ha
  obtain ⟨b1, b2, b3⟩ := vr_parts hb
  have h := comb_made op (edgesOf (coverL a) (coverL b)) a b a3 b3 (edgesOf_sorted _ _) (edgesOf_mem _ _)
  refine ⟨h.1, h.2, ?_⟩
  have h1 := combTo_len (opB op) (edgesOf (coverL a) (coverL b)) (coverL a) (coverL b) ((edgesOf (coverL a) (coverL b)).length - 1)
  have h2 := edgesOf_len (coverL a) (coverL b)
  have h3 := coverL_length a
  have h4 := coverL_length b
  unfold combE
  omega
set_option maxHeartbeats 1000000 in
set_option maxRecDepth 100000 in
theorem made_any (op : Int) (f : FuncId) (eg : ∀ args w, (callFunc f args).run Tryz.prog w = .ok (.enter f args) w) (hf : ∀ x y W, Calls Tryz.prog f #[.bool x, .bool y] W fun e w' => e = .returned (.bool (opB op x y)) ∧ w' = W)
    (A B : Option Addr) (n m ca cb : Nat) (L M : List Cl) (w : World) (ha : Reads w w.heap.size 3 A n (cvs L)) (hb : Reads w w.heap.size 3 B m (cvs M)) (hn : n ≤ maxLen) (hm : m ≤ maxLen) :
    Calls Tryz.prog 144 #[.slice A n ca, .slice B m cb, .func (.func f) #[] #[]] w (RetCells w (mkR op L M) (mkE op L M)) := by
  have ra : ∀ W, Below w.heap.size w W → Reads W W.heap.size 3 A n (cvs L) := fun W hW => (ha.below hW).more hW.size
  have rb : ∀ W, Below w.heap.size w W → Reads W W.heap.size 3 B m (cvs M) := fun W hW => (hb.below hW).more hW.size
  have hla := ha.len
  have hlb := hb.len
  cases va : vrB L with
  | false =>
    have e1 : mkR op L M = [] := by simp [mkR, va]
    have e2 : mkE op L M = 1 := by simp [mkE, va]
    rw [e1, e2]
    have K1 := Lib.hid (fun W hW => vr_yes A n ca L false va W (ra W hW) hn)
    clear e1 e2 ra rb ha hb hla hlb va hf
    go_enter Tryz.func144, Tryz.ntmps144
    go_wp2_with fail
    (with_reducible refine (K1.out _ (Below.refl _ _)).mono ?_)
    rintro e w1 ⟨rfl, hb1⟩
    go_wp2
    go_ret2
    exact ⟨_, rfl, own_nil _ _ _ _, hb1⟩
  | true =>
    have K1 := Lib.hid (fun W hW => vr_yes A n ca L true va W (ra W hW) hn)
    cases vb : vrB M with
    | false =>
      have e1 : mkR op L M = [] := by simp [mkR, va, vb]
      have e2 : mkE op L M = 1 := by simp [mkE, va, vb]
      rw [e1, e2]
      have K2 := Lib.hid (fun W hW => vr_yes B m cb M false vb W (rb W hW) hm)
      clear e1 e2 ra rb ha hb hla hlb va vb hf
      go_enter Tryz.func144, Tryz.ntmps144
      go_wp2_with fail
      (with_reducible refine (K1.out _ (Below.refl _ _)).mono ?_)
      rintro e w1 ⟨rfl, hb1⟩
      go_wp2_with fail
      (with_reducible refine (K2.out _ hb1).mono ?_)
      rintro e w2 ⟨rfl, hb2⟩
      go_wp2
      go_ret2
      exact ⟨_, rfl, own_nil _ _ _ _, hb1.trans (hb2.mono hb1.size)⟩
    | true =>
      have K2 := Lib.hid (fun W hW => vr_yes B m cb M true vb W (rb W hW) hm)
      obtain ⟨a1, a2, a3⟩ := vr_parts va
      obtain ⟨b1, b2, b3⟩ := vr_parts vb
      have c1 := coverL_length L
      have c2 := coverL_length M
      have K3 := Lib.hid (fun W hW => cover_any A n ca L W (ra W hW) (by omega) a2)
      have K4 := Lib.hid (fun W hW => cover_any B m cb M W (rb W hW) (by omega) b2)
      obtain ⟨t1, t2, t3⟩ := comb_all op va vb
      have hR : mkR op L M = if (madeL op L M).length ≤ 4000 then madeL op L M else [] := by simp [mkR, va, vb]
      have hE : mkE op L M = if (madeL op L M).length ≤ 4000 then 0 else 4 := by simp [mkE, va, vb]
      rw [← t1] at hR hE
      have HR := Lib.hid hR
      have HE := Lib.hid hE
      clear hR hE
      generalize mkR op L M = R at HR ⊢
      generalize mkE op L M = Ec at HE ⊢
      have HF := Lib.hid hf
      clear t1 ra rb ha hb hla hlb va vb a2 a3 b2 b3 hf hn hm
      generalize coverL L = D at *
      generalize coverL M = F at *
      generalize hX : combE (opB op) (edgesOf D F) D F = X at *
      have HX := Lib.hid hX
      have HS := Lib.hid t2
      clear hX t2
      go_enter Tryz.func144, Tryz.ntmps144
      go_wp2_with fail
      (with_reducible refine (K1.out _ (Below.refl _ _)).mono ?_)
      rintro e w1 ⟨rfl, hb1⟩
      go_wp2_with fail
      (with_reducible refine (K2.out _ hb1).mono ?_)
      rintro e w2 ⟨rfl, hb2⟩
      have hb2' := hb1.trans (hb2.mono hb1.size)
      clear K1 K2 hb2 hb1
      go_wp2_with fail
      (with_reducible refine (K3.out _ hb2').mono ?_)
      rintro e w3 ⟨v3, rfl, hown3, hb3⟩
      have hb3' := hb2'.trans (hb3.mono hb2'.size)
      obtain ⟨A3, c3, rfl, hr3, hc3, hc3'⟩ := own_form hown3
      clear K3 hown3 hb3 hb2'
      go_wp2_with fail
      (with_reducible refine (K4.out _ hb3').mono ?_)
      rintro e w4 ⟨v4, rfl, hown4, hb4⟩
      have hb4' := hb3'.trans (hb4.mono hb3'.size)
      obtain ⟨A4, c4, rfl, hr4, hc4, hc4'⟩ := own_form hown4
      have hr3' := (hr3.below hb4).more hb4.size
      have KC := Lib.hid (combine_any A3 A4 D.length F.length c3 c4 D F f (opB op) eg w4 hr3' hr4 hc3 hc4 hc3' hc4' (by omega) (by omega) HF.out)
      rw [HX.out] at KC
      clear K4 hown4 hb4 hb3' hr3 hr4 hr3' hc3 hc4 hc3' hc4' HX HF
      go_wp2_with fail
      (with_reducible refine KC.out.mono ?_)
      rintro e w5 ⟨v5, rfl, hown5, hb5⟩
      have hb5' := hb4'.trans (hb5.mono hb4'.size)
      obtain ⟨A5, c5, rfl, hr5, -⟩ := own_form hown5
      clear KC hown5 hb5 hb4'
      go_wp2_with fail
      (with_reducible refine (tidy_any A5 X.length c5 X w5 hr5 (by omega) HS.out).mono ?_)
      rintro e w6 ⟨hb6, hcase⟩
      have hb6' := hb5'.trans (hb6.mono hb5'.size)
      have hz5 := hb5'.size
      clear hb6 hr5 HS
      rcases hcase with ⟨hT, v6, rfl, hown6⟩ | ⟨hT, rfl⟩
      · have HT := Lib.hid hT
        have HO := Lib.hid hown6
        clear hown6 hT
        go_wp2
        go_ret2
        rw [HR.out, HE.out, if_pos HT.out, if_pos HT.out]
        exact ⟨_, rfl, own_mono HO.out hz5, hb6'⟩
      · have HT : Hid (¬ (tidyL X).length ≤ 4000) := Lib.hid (by omega)
        clear hT
        go_wp2
        go_ret2
        rw [HR.out, HE.out, if_neg HT.out, if_neg HT.out]
        exact ⟨_, rfl, own_nil _ _ _ _, hb6'⟩
theorem opB_one (x y : Bool) : opB 1 x y = (x || y) := by simp [opB]
theorem opB_three (x y : Bool) : opB 3 x y = (x && !y) := by simp [opB]
section
variable (A B : Option Addr) (n m ca cb : Nat) (L M : List Cl) (w : World) (ha : Reads w w.heap.size 3 A n (cvs L)) (hb : Reads w w.heap.size 3 B m (cvs M)) (hn : n ≤ maxLen) (hm : m ≤ maxLen)
include ha hb hn hm
theorem Union_any : Calls Tryz.prog 83 #[.slice A n ca, .slice B m cb] w (RetCells w (mkR 1 L M) (mkE 1 L M)) := by
  have K := Lib.hid (made_any 1 145 (enters_of Tryz.func145 (by kernel_rfl) rfl) (fun x y W => by rw [opB_one]; exact rule_or x y W) A B n m ca cb L M w ha hb hn hm)
  clear ha hb hn hm
  go_enter Tryz.func83, Tryz.ntmps83
  go_wp2_with fail
  (with_reducible refine K.out.mono ?_)
  rintro e w1 ⟨v, rfl, h1, h2⟩
  go_wp2
  go_ret2
  exact ⟨_, rfl, h1, h2⟩
end
theorem comb_ins {a b : List Cl} (ha : vrB a = true) (hb : vrB b = true) : insL a b = decide ((combE (opB 3) (edgesOf (coverL a) (coverL b)) (coverL a) (coverL b)).length = 0) := by
  obtain ⟨a1, a2, a3⟩ := vr_parts ha
  obtain ⟨b1, b2, b3⟩ := vr_parts hb
  unfold insL
  rw [decide_eq_decide, List.length_eq_zero_iff]
  exact (comb_empty _ a b a3 b3 (edgesOf_sorted _ _) (edgesOf_mem _ _)).symm
set_option maxHeartbeats 1000000 in
set_option maxRecDepth 100000 in
theorem Inside_any (A B : Option Addr) (n m ca cb : Nat) (L M : List Cl) (w : World) (ha : Reads w w.heap.size 3 A n (cvs L)) (hb : Reads w w.heap.size 3 B m (cvs M)) (hn : n ≤ maxLen) (hm : m ≤ maxLen) (va : vrB L = true) (vb : vrB M = true) :
    Calls Tryz.prog 23 #[.slice A n ca, .slice B m cb] w fun e w' => e = .returned (.tuple #[.bool (insL L M), .int .i64 0]) ∧ Below w.heap.size w w' := by
  have ra : ∀ W, Below w.heap.size w W → Reads W W.heap.size 3 A n (cvs L) := fun W hW => (ha.below hW).more hW.size
  have rb : ∀ W, Below w.heap.size w W → Reads W W.heap.size 3 B m (cvs M) := fun W hW => (hb.below hW).more hW.size
  have hla := ha.len
  have hlb := hb.len
  have K1 := Lib.hid (fun W hW => vr_yes A n ca L true va W (ra W hW) hn)
  have K2 := Lib.hid (fun W hW => vr_yes B m cb M true vb W (rb W hW) hm)
  obtain ⟨a1, a2, a3⟩ := vr_parts va
  obtain ⟨b1, b2, b3⟩ := vr_parts vb
  have c1 := coverL_length L
  have c2 := coverL_length M
  have K3 := Lib.hid (fun W hW => cover_any A n ca L W (ra W hW) (by omega) a2)
  have K4 := Lib.hid (fun W hW => cover_any B m cb M W (rb W hW) (by omega) b2)
  have eg := enters_of Tryz.func69 (by kernel_rfl) rfl
  rw [comb_ins va vb]
  clear ra rb ha hb hla hlb va vb a2 a3 b2 b3 hn hm
  generalize coverL L = D at *
  generalize coverL M = F at *
  have HF : Hid (∀ x y W, Calls Tryz.prog 69 #[.bool x, .bool y] W fun e w' => e = .returned (.bool (opB 3 x y)) ∧ w' = W) := Lib.hid (fun x y W => by rw [opB_three]; exact rule_in x y W)
  generalize hX : combE (opB 3) (edgesOf D F) D F = X at *
  have HX := Lib.hid hX
  clear hX
  go_enter Tryz.func23, Tryz.ntmps23
  go_wp2_with fail
  (with_reducible refine (K1.out _ (Below.refl _ _)).mono ?_)
  rintro e w1 ⟨rfl, hb1⟩
  go_wp2_with fail
  (with_reducible refine (K2.out _ hb1).mono ?_)
  rintro e w2 ⟨rfl, hb2⟩
  have hb2' := hb1.trans (hb2.mono hb1.size)
  clear K1 K2 hb2 hb1
  go_wp2_with fail
  (with_reducible refine (K3.out _ hb2').mono ?_)
  rintro e w3 ⟨v3, rfl, hown3, hb3⟩
  have hb3' := hb2'.trans (hb3.mono hb2'.size)
  obtain ⟨A3, c3, rfl, hr3, hc3, hc3'⟩ := own_form hown3
  clear K3 hown3 hb3 hb2'
  go_wp2_with fail
  (with_reducible refine (K4.out _ hb3').mono ?_)
  rintro e w4 ⟨v4, rfl, hown4, hb4⟩
  have hb4' := hb3'.trans (hb4.mono hb3'.size)
  obtain ⟨A4, c4, rfl, hr4, hc4, hc4'⟩ := own_form hown4
  have hr3' := (hr3.below hb4).more hb4.size
  have KC := Lib.hid (combine_any A3 A4 D.length F.length c3 c4 D F 69 (opB 3) eg w4 hr3' hr4 hc3 hc4 hc3' hc4' (by omega) (by omega) HF.out)
  rw [HX.out] at KC
  clear K4 hown4 hb4 hb3' hr3 hr4 hr3' hc3 hc4 hc3' hc4' HX HF eg
  go_wp2_with fail
  (with_reducible refine KC.out.mono ?_)
  rintro e w5 ⟨v5, rfl, hown5, hb5⟩
  have hb5' := hb4'.trans (hb5.mono hb4'.size)
  obtain ⟨A5, c5, rfl, hr5, -⟩ := own_form hown5
  clear KC hown5 hb5 hb4' hr5
  go_wp2
  go_ret2
  refine ⟨?_, hb5'⟩
  have : ((X.length : Int) == 0) = decide (X.length = 0) := by rw [Bool.eq_iff_iff, beq_iff_eq, decide_eq_true_eq]; omega
  rw [← this]
  rfl
end Go.Proofs.YtnbbemlchchmoaaGreat
