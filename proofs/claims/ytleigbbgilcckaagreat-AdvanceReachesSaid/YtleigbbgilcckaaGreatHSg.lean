/- Plain: points of places and of cells; the cells around a place. No program in sight. -/
import Derived.Test.YtleigbbgilcckaaGreatHSe
import Derived.Test.YtleigbbgilcckaaGreatHJe
import Derived.Test.YtleigbbgilcckaaGreatHKo
import Derived.Test.YtleigbbgilcckaaGreatHKs
import Derived.Test.YtleigbbgilcckaaGreatHZe
import Derived.Test.YtleigbbgilcckaaGreatHGd
import Derived.Test.YtleigbbgilcckaaGreatHKz
set_option linter.unusedVariables false
set_option linter.unusedSimpArgs false
namespace Go.Proofs.YtleigbbgilcckaaGreat
open Go.RowKit
theorem vr_parts {L : List Cl} (h : vrB L = true) : L.length ≤ 4000 ∧ (∀ x ∈ L, vldB x.1 x.2.1 x.2.2 = true) ∧ AllV L := by
  obtain ⟨h1, h2, _⟩ := (vrB_iff L).1 h
  exact ⟨h1, fun x hx => (vl_iff x).2 (h2 x hx), h2⟩
theorem vr_yes (A : Option Addr) (n c : Nat) (L : List Cl) (b : Bool) (hb : vrB L = b) (w : World) (hr : Reads w w.heap.size 3 A n (cvs L)) (hn : n ≤ maxLen) :
    Calls Tryz.prog 23 #[.slice A n c] w fun e w' => e = .returned (.bool b) ∧ Below w.heap.size w w' := by
  rw [← hb]; exact ValidRegion_any A n c L w hr hn
/-- what is known of the combined spans -/
theorem comb_all (op : Int) {a b : List Cl} (ha : vrB a = true) (hb : vrB b = true) :
    tidyL (combE (opB op) (edgesOf (coverL a) (coverL b)) (coverL a) (coverL b)) = madeL op a b ∧ SpOk (combE (opB op) (edgesOf (coverL a) (coverL b)) (coverL a) (coverL b)) ∧ (combE (opB op) (edgesOf (coverL a) (coverL b)) (coverL a) (coverL b)).length ≤ 16000 := by
  obtain ⟨a1, a2, a3⟩ := vr_parts ha
  obtain ⟨b1, b2, b3⟩ := vr_parts hb
  have h := comb_made op (edgesOf (coverL a) (coverL b)) a b a3 b3 (edgesOf_sorted _ _) (edgesOf_mem _ _)
  refine ⟨h.1, h.2, ?_⟩
  have h1 := combTo_len (opB op) (edgesOf (coverL a) (coverL b)) (coverL a) (coverL b) ((edgesOf (coverL a) (coverL b)).length - 1)
  have h2 := edgesOf_len (coverL a) (coverL b)
  have h3 := coverL_length a
  have h4 := coverL_length b
  unfold combE
  omega
set_option maxHeartbeats 1000000 in
set_option maxRecDepth 100000 in
theorem made_any (op : Int) (f : FuncId) (eg : ∀ args w, (callFunc f args).run Tryz.prog w = .ok (.enter f args) w) (hf : ∀ x y W, Calls Tryz.prog f #[.bool x, .bool y] W fun e w' => e = .returned (.bool (opB op x y)) ∧ w' = W)
    (A B : Option Addr) (n m ca cb : Nat) (L M : List Cl) (w : World) (ha : Reads w w.heap.size 3 A n (cvs L)) (hb : Reads w w.heap.size 3 B m (cvs M)) (hn : n ≤ maxLen) (hm : m ≤ maxLen) :
    Calls Tryz.prog 66 #[.slice A n ca, .slice B m cb, .func (.func f) #[] #[]] w (RetCells w (mkR op L M) (mkE op L M)) := by
  have ra : ∀ W, Below w.heap.size w W → Reads W W.heap.size 3 A n (cvs L) := fun W hW => (ha.below hW).more hW.size
  have rb : ∀ W, Below w.heap.size w W → Reads W W.heap.size 3 B m (cvs M) := fun W hW => (hb.below hW).more hW.size
  have hla := ha.len
  have hlb := hb.len
  cases va : vrB L with
  | false =>
    have e1 : mkR op L M = [] := by simp [mkR, va]
    have e2 : mkE op L M = 1 := by simp [mkE, va]
    rw [e1, e2]
    have K1 := Lib.hid (fun W hW => vr_yes A n ca L false va W (ra W hW) hn)
    clear e1 e2 ra rb ha hb hla hlb va hf
    go_enter Tryz.func66, Tryz.ntmps66
    go_wp2_with fail
    (with_reducible refine (K1.out _ (Below.refl _ _)).mono ?_)
    rintro e w1 ⟨rfl, hb1⟩
    go_wp2
    go_ret2
    exact ⟨_, rfl, own_nil _ _ _ _, hb1⟩
  | true =>
    have K1 := Lib.hid (fun W hW => vr_yes A n ca L true va W (ra W hW) hn)
    cases vb : vrB M with
    | false =>
      have e1 : mkR op L M = [] := by simp [mkR, va, vb]
      have e2 : mkE op L M = 1 := by simp [mkE, va, vb]
      rw [e1, e2]
      have K2 := Lib.hid (fun W hW => vr_yes B m cb M false vb W (rb W hW) hm)
      clear e1 e2 ra rb ha hb hla hlb va vb hf
      go_enter Tryz.func66, Tryz.ntmps66
      go_wp2_with fail
      (with_reducible refine (K1.out _ (Below.refl _ _)).mono ?_)
      rintro e w1 ⟨rfl, hb1⟩
      go_wp2_with fail
      (with_reducible refine (K2.out _ hb1).mono ?_)
      rintro e w2 ⟨rfl, hb2⟩
      go_wp2
      go_ret2
      exact ⟨_, rfl, own_nil _ _ _ _, hb1.trans (hb2.mono hb1.size)⟩
    | true =>
      have K2 := Lib.hid (fun W hW => vr_yes B m cb M true vb W (rb W hW) hm)
      obtain ⟨a1, a2, a3⟩ := vr_parts va
      obtain ⟨b1, b2, b3⟩ := vr_parts vb
      have c1 := coverL_length L
      have c2 := coverL_length M
      have K3 := Lib.hid (fun W hW => cover_any A n ca L W (ra W hW) (by omega) a2)
      have K4 := Lib.hid (fun W hW => cover_any B m cb M W (rb W hW) (by omega) b2)
      obtain ⟨t1, t2, t3⟩ := comb_all op va vb
      have hR : mkR op L M = if (madeL op L M).length ≤ 4000 then madeL op L M else [] := by simp [mkR, va, vb]
      have hE : mkE op L M = if (madeL op L M).length ≤ 4000 then 0 else 4 := by simp [mkE, va, vb]
      rw [← t1] at hR hE
      have HR := Lib.hid hR
      have HE := Lib.hid hE
      clear hR hE
      generalize mkR op L M = R at HR ⊢
      generalize mkE op L M = Ec at HE ⊢
      have HF := Lib.hid hf
      clear t1 ra rb ha hb hla hlb va vb a2 a3 b2 b3 hf hn hm
      generalize coverL L = D at *
      generalize coverL M = F at *
      generalize hX : combE (opB op) (edgesOf D F) D F = X at *
      have HX := Lib.hid hX
      have HS := Lib.hid t2
      clear hX t2
      go_enter Tryz.func66, Tryz.ntmps66
      go_wp2_with fail
      (with_reducible refine (K1.out _ (Below.refl _ _)).mono ?_)
      rintro e w1 ⟨rfl, hb1⟩
      go_wp2_with fail
      (with_reducible refine (K2.out _ hb1).mono ?_)
      rintro e w2 ⟨rfl, hb2⟩
      have hb2' := hb1.trans (hb2.mono hb1.size)
      clear K1 K2 hb2 hb1
      go_wp2_with fail
      (with_reducible refine (K3.out _ hb2').mono ?_)
      rintro e w3 ⟨v3, rfl, hown3, hb3⟩
      have hb3' := hb2'.trans (hb3.mono hb2'.size)
      obtain ⟨A3, c3, rfl, hr3, hc3, hc3'⟩ := own_form hown3
      clear K3 hown3 hb3 hb2'
      go_wp2_with fail
      (with_reducible refine (K4.out _ hb3').mono ?_)
      rintro e w4 ⟨v4, rfl, hown4, hb4⟩
      have hb4' := hb3'.trans (hb4.mono hb3'.size)
      obtain ⟨A4, c4, rfl, hr4, hc4, hc4'⟩ := own_form hown4
      have hr3' := (hr3.below hb4).more hb4.size
      have KC := Lib.hid (combine_any A3 A4 D.length F.length c3 c4 D F f (opB op) eg w4 hr3' hr4 hc3 hc4 hc3' hc4' (by omega) (by omega) HF.out)
      rw [HX.out] at KC
      clear K4 hown4 hb4 hb3' hr3 hr4 hr3' hc3 hc4 hc3' hc4' HX HF
      go_wp2_with fail
      (with_reducible refine KC.out.mono ?_)
      rintro e w5 ⟨v5, rfl, hown5, hb5⟩
      have hb5' := hb4'.trans (hb5.mono hb4'.size)
      obtain ⟨A5, c5, rfl, hr5, -⟩ := own_form hown5
      clear KC hown5 hb5 hb4'
      go_wp2_with fail
      (with_reducible refine (tidy_any A5 X.length c5 X w5 hr5 (by omega) HS.out).mono ?_)
      rintro e w6 ⟨hb6, hcase⟩
      have hb6' := hb5'.trans (hb6.mono hb5'.size)
      have hz5 := hb5'.size
      clear hb6 hr5 HS
      rcases hcase with ⟨hT, v6, rfl, hown6⟩ | ⟨hT, rfl⟩
      · have HT := Lib.hid hT
        have HO := Lib.hid hown6
        clear hown6 hT
        go_wp2
        go_ret2
        rw [HR.out, HE.out, if_pos HT.out, if_pos HT.out]
        exact ⟨_, rfl, own_mono HO.out hz5, hb6'⟩
      · have HT : Hid (¬ (tidyL X).length ≤ 4000) := Lib.hid (by omega)
        clear hT
        go_wp2
        go_ret2
        rw [HR.out, HE.out, if_neg HT.out, if_neg HT.out]
        exact ⟨_, rfl, own_nil _ _ _ _, hb6'⟩
theorem opB_one (x y : Bool) : opB 1 x y = (x || y) := by simp [opB]
section
variable (A B : Option Addr) (n m ca cb : Nat) (L M : List Cl) (w : World) (ha : Reads w w.heap.size 3 A n (cvs L)) (hb : Reads w w.heap.size 3 B m (cvs M)) (hn : n ≤ maxLen) (hm : m ≤ maxLen)
include ha hb hn hm
theorem Union_any : Calls Tryz.prog 30 #[.slice A n ca, .slice B m cb] w (RetCells w (mkR 1 L M) (mkE 1 L M)) := by
  have K := Lib.hid (made_any 1 67 (enters_of Tryz.func67 (by kernel_rfl) rfl) (fun x y W => by rw [opB_one]; exact rule_or x y W) A B n m ca cb L M w ha hb hn hm)
  clear ha hb hn hm
  go_enter Tryz.func30, Tryz.ntmps30
  go_wp2_with fail
  (with_reducible refine K.out.mono ?_)
  rintro e w1 ⟨v, rfl, h1, h2⟩
  go_wp2
  go_ret2
  exact ⟨_, rfl, h1, h2⟩
end
end Go.Proofs.YtleigbbgilcckaaGreat
namespace Go.Proofs.YtleigbbgilcckaaGreat
open Go.RowKit
def BkI (R : List Cl) (E : Int) (W2 : World) (x0 x1 x2 x3 x4 x5 : Value) (a : Act) (M : Nat → Bool) (a' : Act) (w' : World) : Prop :=
  ∃ (v19 v20 v21 v22 v23 v24 v25 v26 v27 v8 v9 : Value) (u9 : Value), a' = (((((((((((a.put (some 19) v19).put (some 20) v20).put (some 21) v21).put (some 22) v22).put (some 23) v23).put (some 24) v24).put (some 25) v25).put (some 26) v26).put (some 27) v27).put (some 8) v8).put (some 9) v9) ∧ Below W2.heap.size W2 w' ∧
    (M 6 = true → v25 = .tuple #[u9, .int .i64 E] ∧ w'.ownsRow W2.heap.size 46 3 u9 R.length (cvs R)) ∧
    (M 7 = true → M 6 = true ∧ v26 = u9) ∧
    (M 8 = true → M 6 = true ∧ v27 = .int .i64 E) ∧
    (M 9 = true → M 6 = true ∧ v8 = u9) ∧
    (M 10 = true → M 6 = true ∧ v9 = .int .i64 E) ∧
    (M 0 = true → v19 = x0) ∧
    (M 1 = true → v20 = x1) ∧
    (M 2 = true → v21 = x2) ∧
    (M 3 = true → v22 = x3) ∧
    (M 4 = true → v23 = x4) ∧
    (M 5 = true → v24 = x5)
theorem BkI.start {R : List Cl} {E : Int} {W2 : World} {x0 x1 x2 x3 x4 x5 : Value} (a : Act) : BkI R E W2 x0 x1 x2 x3 x4 x5 a (fun _ => false) a W2.drew :=
  ⟨_, _, _, _, _, _, _, _, _, _, _, undef, by rw [putQ_self a 19, putQ_self a 20, putQ_self a 21, putQ_self a 22, putQ_self a 23, putQ_self a 24, putQ_self a 25, putQ_self a 26, putQ_self a 27, putQ_self a 8, putQ_self a 9], bl_drew (Below.refl _ _), fun h => (by cases h), fun h => (by cases h), fun h => (by cases h), fun h => (by cases h), fun h => (by cases h), fun h => (by cases h), fun h => (by cases h), fun h => (by cases h), fun h => (by cases h), fun h => (by cases h), fun h => (by cases h)⟩
theorem gvE_one {L : List Cl} {a b x y lev : Int} : gvE L a b x y lev = 1 ↔ (vrB L && (smB a b && smB x y)) = false := by
  unfold gvE
  cases h : (vrB L && (smB a b && smB x y))
  · simp
  · simp only [if_true]
    split <;> simp
theorem gvE_two {L : List Cl} {a b x y lev : Int} (h : gvE L a b x y lev ≠ 0) (h1 : gvE L a b x y lev ≠ 1) : vrB L = true ∧ (smB a b && smB x y) = true ∧ gvE L a b x y lev = 2 ∧ (lev < 0 ∨ 16 < lev) := by
  unfold gvE at h h1 ⊢
  split at h
  · rename_i h2
    rw [if_pos h2] at h1 ⊢
    rw [Bool.and_eq_true] at h2
    split at h
    · exact absurd rfl h
    · rename_i h3
      rw [if_neg h3]
      exact ⟨h2.1, h2.2, rfl, by omega⟩
  · rename_i h2
    rw [if_neg h2] at h1
    exact absurd rfl h1
set_option maxHeartbeats 4000000 in
set_option maxRecDepth 100000 in
theorem aRegion_bad (A : Option Addr) (n ca : Nat) (L : List Cl) (a b x y lev : Int) (w : World) (hr : Reads w w.heap.size 3 A n (cvs L)) (hn : n ≤ ca) (hca : ca ≤ maxLen) (hg : gvE L a b x y lev ≠ 0) :
    Calls Tryz.prog 9 #[.slice A n ca, .agg #[.int .i64 a, .int .i64 b], .agg #[.int .i64 x, .int .i64 y], .int .i64 lev] w (RetCells w [] (gvE L a b x y lev)) := by
  have RD := Lib.hid hr
  have B0 := (bl_alloc w (.cells #[.int .i64 a, .int .i64 b] 26)).alloc (by simp) (.cells #[.int .i64 x, .int .i64 y] 26)
  have KV := fun (W : World) (hW : Below w.heap.size w W) => ValidRegion_any A n ca L W ((RD.out.below hW).more hW.size) (Nat.le_trans hn hca)
  have KM := fun W => movement_any a b x y W
  have DA := Lib.hid ((D2.new w a b 26).alloc (.cells #[.int .i64 x, .int .i64 y] 26))
  have dx := D2.new (w.alloc (.cells #[.int .i64 a, .int .i64 b] 26)) x y 26
  rw [World.size_alloc] at dx
  have DX := Lib.hid dx
  have B0 := Lib.hid B0
  clear hr dx
  by_cases hg1 : gvE L a b x y lev = 1
  · rw [hg1]
    rw [gvE_one] at hg1
    clear hg
    cases hv : vrB L with
    | false =>
      rw [hv] at KV
      have KV := Lib.hid KV
      clear hg1 hv KM
      go_enter Tryz.func9, Tryz.ntmps9
      go_wp2_with fail
      (with_reducible refine (KV.out _ B0.out).mono ?_)
      rintro e w1 ⟨rfl, hb1⟩
      have B1 := Lib.hid (B0.out.trans (hb1.mono B0.out.size))
      clear hb1 DA DX
      go_wp2
      go_ret2
      exact ⟨_, rfl, own_nil _ _ _ _, B1.out⟩
    | true =>
      rw [hv, Bool.true_and] at hg1
      rw [hv] at KV
      rw [hg1] at KM
      have KV := Lib.hid KV
      have KM := Lib.hid KM
      clear hg1 hv
      go_enter Tryz.func9, Tryz.ntmps9
      go_wp2_with fail
      (with_reducible refine (KV.out _ B0.out).mono ?_)
      rintro e w1 ⟨rfl, hb1⟩
      have B1 := Lib.hid (B0.out.trans (hb1.mono B0.out.size))
      obtain ⟨-, p0, p1, -, -⟩ := DA.out.below hb1 DA.out.lt
      obtain ⟨-, p2, p3, -, -⟩ := DX.out.below hb1 DX.out.lt
      clear hb1
      go_wp2_with fail
      (with_reducible refine (KM.out _).mono ?_)
      rintro e w2 ⟨rfl, hb2⟩
      have B2 := Lib.hid (B1.out.trans (hb2.mono B1.out.size))
      clear hb2
      go_wp2
      go_ret2
      exact ⟨_, rfl, own_nil _ _ _ _, B2.out⟩
  · obtain ⟨hv, hm, h2, hl⟩ := gvE_two hg hg1
    rw [h2]
    rw [hv] at KV
    rw [hm] at KM
    have KV := Lib.hid KV
    have KM := Lib.hid KM
    clear hg hg1 hv hm h2
    rcases hl with hl | hl
    · have d0 : decide (lev < 0) = true := decide_eq_true hl
      go_enter Tryz.func9, Tryz.ntmps9
      go_wp2_with fail
      (with_reducible refine (KV.out _ B0.out).mono ?_)
      rintro e w1 ⟨rfl, hb1⟩
      have B1 := Lib.hid (B0.out.trans (hb1.mono B0.out.size))
      obtain ⟨-, p0, p1, -, -⟩ := DA.out.below hb1 DA.out.lt
      obtain ⟨-, p2, p3, -, -⟩ := DX.out.below hb1 DX.out.lt
      clear hb1
      go_wp2_with fail
      (with_reducible refine (KM.out _).mono ?_)
      rintro e w2 ⟨rfl, hb2⟩
      have B2 := Lib.hid (B1.out.trans (hb2.mono B1.out.size))
      clear hb2
      go_wp2
      go_ret2
      exact ⟨_, rfl, own_nil _ _ _ _, B2.out⟩
    · have d0 : decide (lev < 0) = false := decide_eq_false (by omega)
      have d1 : decide (16 < lev) = true := decide_eq_true hl
      go_enter Tryz.func9, Tryz.ntmps9
      go_wp2_with fail
      (with_reducible refine (KV.out _ B0.out).mono ?_)
      rintro e w1 ⟨rfl, hb1⟩
      have B1 := Lib.hid (B0.out.trans (hb1.mono B0.out.size))
      obtain ⟨-, p0, p1, -, -⟩ := DA.out.below hb1 DA.out.lt
      obtain ⟨-, p2, p3, -, -⟩ := DX.out.below hb1 DX.out.lt
      clear hb1
      go_wp2_with fail
      (with_reducible refine (KM.out _).mono ?_)
      rintro e w2 ⟨rfl, hb2⟩
      have B2 := Lib.hid (B1.out.trans (hb2.mono B1.out.size))
      clear hb2
      go_wp2
      go_ret2
      exact ⟨_, rfl, own_nil _ _ _ _, B2.out⟩
set_option maxHeartbeats 8000000 in
set_option maxRecDepth 100000 in
theorem aRegion_yes (A : Option Addr) (n ca : Nat) (L : List Cl) (a b x y lev E : Int) (w : World) (hr : Reads w w.heap.size 3 A n (cvs L)) (hn : n ≤ ca) (hca : ca ≤ maxLen) (hn20 : n ≤ 20) (hg : gvE L a b x y lev = 0) (hR : RegOk a b x y lev 60 L E) :
    Calls Tryz.prog 9 #[.slice A n ca, .agg #[.int .i64 a, .int .i64 b], .agg #[.int .i64 x, .int .i64 y], .int .i64 lev] w (RetCells w (regV a b x y lev L E) E) := by
  obtain ⟨hvr, ha, hx, h0, h16⟩ := gvE_zero hg
  have RD := Lib.hid hr
  have HN := Lib.hid hr.len
  have B0 := (bl_alloc w (.cells #[.int .i64 a, .int .i64 b] 26)).alloc (by simp) (.cells #[.int .i64 x, .int .i64 y] 26)
  have KV := Lib.hid (fun (W : World) (hW : Below w.heap.size w W) => vr_yes A n ca L true hvr W ((RD.out.below hW).more hW.size) (Nat.le_trans hn hca))
  have KM := fun W => movement_any a b x y W
  rw [ha, hx] at KM
  simp only [Bool.and_self] at KM
  have KM := Lib.hid KM
  have DA := Lib.hid ((D2.new w a b 26).alloc (.cells #[.int .i64 x, .int .i64 y] 26))
  have dx := D2.new (w.alloc (.cells #[.int .i64 a, .int .i64 b] 26)) x y 26
  rw [World.size_alloc] at dx
  have DX := Lib.hid dx
  have B0 := Lib.hid B0
  have hAV := ((vrB_iff L).1 hvr).2.1
  have HAV := Lib.hid hAV
  have hsa := sm_iff.1 ha
  have HSA := Lib.hid ha
  have HSX := Lib.hid hx
  have H0 := Lib.hid h0
  have H16 := Lib.hid h16
  have HXV : Hid (∀ k, AllV (regX a b x y lev L k)) := Lib.hid (fun k => regX_v h0 h16 L k)
  have HYV : Hid (∀ c, AllV (arnM a b x y lev c)) := Lib.hid (fun c => arnM_v h0 h16 c)
  have d0 : decide (lev < 0) = false := decide_eq_false (by omega)
  have d1 : decide (16 < lev) = false := decide_eq_false (by omega)
  obtain ⟨R, hRV⟩ : ∃ R, regV a b x y lev L E = R := ⟨_, rfl⟩
  have HRV := Lib.hid hRV
  rw [hRV]
  obtain ⟨k0, hk0, hok, hend⟩ := hR
  have OK := Lib.hid hok
  have EN := Lib.hid hend
  have HK0 : Hid (k0 ≤ n) := Lib.hid (by rw [← HN.out]; exact hk0)
  have hnc : Hid (n ≤ maxLen) := Lib.hid (Nat.le_trans hn hca)
  clear hr hg hvr ha hx hAV hRV hok hend hk0 dx h0 h16
  go_enter Tryz.func9, Tryz.ntmps9
  go_wp2_with fail
  (with_reducible refine (KV.out _ B0.out).mono ?_)
  rintro e w1 ⟨rfl, hb1⟩
  have B1 := Lib.hid (B0.out.trans (hb1.mono B0.out.size))
  have DA1 := Lib.hid (DA.out.below hb1 DA.out.lt)
  have DX1 := Lib.hid (DX.out.below hb1 DX.out.lt)
  obtain ⟨-, p0, p1, -, -⟩ := DA1.out
  obtain ⟨-, p2, p3, -, -⟩ := DX1.out
  clear hb1 KV DA DX B0
  go_wp2_with fail
  (with_reducible refine (KM.out _).mono ?_)
  rintro e w2 ⟨rfl, hb2⟩
  have B2 := Lib.hid (B1.out.trans (hb2.mono B1.out.size))
  have DA2 := Lib.hid (DA1.out.below hb2 DA1.out.lt)
  have DX2 := Lib.hid (DX1.out.below hb2 DX1.out.lt)
  have hs2 := B2.out.size
  clear hb2 KM DA1 DX1 B1 p0 p1 p2 p3
  go_wp2
  go_loopg [10, 11, 36] n (fun gz s10 s11 s36 wr => ∃ (k : Nat) (u : Value), k + gz = n ∧ k ≤ k0 ∧ s36 = .int .i64 k ∧ s11 = .bool false ∧ s10 = u ∧ wr.ownsRow w2.heap.size 46 3 u (canonC (covL (regX a b x y lev L k))).length (cvs (canonC (covL (regX a b x y lev L k)))) ∧ Below w2.heap.size w2 wr)
  case atStart =>
    refine ⟨0, _, by omega, Nat.zero_le _, rfl, rfl, rfl, ?_, Below.refl _ _⟩
    have e : canonC (covL (regX a b x y lev L 0)) = [] := by
      have e2 : regX a b x y lev L 0 = [] := by simp [regX]
      rw [e2]
      exact can_nil
    rw [e]
    exact own_nil _ _ _ _
  case round =>
    obtain ⟨k, u, hk, hkk, rfl, rfl, rfl, hown, hbr⟩ := hrel
    have BR := Lib.hid hbr
    have BX := Lib.hid (B2.out.trans (hbr.mono hs2))
    have DA3 := Lib.hid (DA2.out.below hbr DA2.out.lt)
    have DX3 := Lib.hid (DX2.out.below hbr DX2.out.lt)
    have hxl := regX_len (a := a) (b := b) (x := x) (y := y) (lev := lev) (most := 60) L (by omega) k (by rw [HN.out]; exact Nat.le_trans hkk HK0.out) (fun i hi => OK.out i (Nat.lt_of_lt_of_le hi hkk))
    have hcl := canonC_len _ (HXV.out k)
    obtain ⟨X, hX⟩ : ∃ X, canonC (covL (regX a b x y lev L k)) = X := ⟨_, rfl⟩
    rw [hX] at hown hcl
    have HX := Lib.hid hX
    have hXl : X.length ≤ 1200 := by omega
    have OW := Lib.hid hown
    have hXV : vrB X = true := by rw [← hX]; exact can_vr (HXV.out k) (by omega)
    have hrl : (regX a b x y lev L k).length ≤ 1200 := by omega
    clear hown hX hbr hcl hxl
    by_cases hlt : k < n
    · obtain ⟨bb, off, rfl, hbb, x0, x1, x2⟩ := RD.out.elem hlt
      have z0 := (BX.out.cell (p := ⟨bb, off + k * 3, none⟩) hbb).trans x0
      have z1 := (BX.out.cell (p := ⟨bb, off + k * 3 + 1, none⟩) hbb).trans x1
      have z2 := (BX.out.cell (p := ⟨bb, off + k * 3 + 2, none⟩) hbb).trans x2
      have hcm : gt L k ∈ L := by simp [gt, show k < L.length by rw [HN.out]; exact hlt]
      have hcv := HAV.out _ hcm
      have KC := fun W => moved_any (gt L k).1 (gt L k).2.1 (gt L k).2.2 a b x y W ((vl_iff _).2 hcv) HSA.out HSX.out
      have hmv := mvV_eq (bxI (gt L k)) a b x y
      rw [show mvV (edg (gt L k).2.1 (gt L k).1 - 5400000) (edg ((gt L k).2.1 + 1) (gt L k).1 - 5400000) (edg (gt L k).2.2 (gt L k).1 - 10800000) (edg ((gt L k).2.2 + 1) (gt L k).1 - 10800000) a b x y = _ from hmv] at KC
      have hfx := bx_facts hcv
      have hvp := fun h => mvBox_vp (q := bxI (gt L k)) (a := a) (b := b) (x := x) (y := y) (bx_vp hcv) hfx.2.2.2.2.1 hsa.2.1 h
      obtain ⟨at1, a0, a1, -, -⟩ := DA3.out
      obtain ⟨at2, a2, a3, -, -⟩ := DX3.out
      have hz := BR.out.size
      by_cases hlk : k < k0
      · obtain ⟨hE0, hmost⟩ := OK.out k hlk
        have hvp0 := hvp hE0
        rw [hE0] at KC
        have hxs := regX_succ a b x y lev L k (by rw [HN.out]; exact hlt)
        have hmk := mk_can (HXV.out k) (HYV.out (gt L k)) (by omega)
        rw [← hxs, HX.out] at hmk
        have hYl := canonC_len _ (HYV.out (gt L k))
        have KA0 := fun (p0 p1 p2 p3 : Int) (hp : mvBox (bxI (gt L k)) a b x y = (p0, p1, p2, p3)) W => Around_yes p0 p1 p2 p3 lev W (by rw [← hp]; exact hvp0) H0.out H16.out (by rw [← hp]; have : (arnA (mtP (mvBox (bxI (gt L k)) a b x y)) lev).length = (arnM a b x y lev (gt L k)).length := rfl; omega)
        have KA : ∀ W, Calls Tryz.prog 29 #[.agg #[.int .i64 (mvBox (bxI (gt L k)) a b x y).1, .int .i64 (mvBox (bxI (gt L k)) a b x y).2.1, .int .i64 (mvBox (bxI (gt L k)) a b x y).2.2.1, .int .i64 (mvBox (bxI (gt L k)) a b x y).2.2.2], .int .i64 lev] W (RetCells W (canonC (covL (arnM a b x y lev (gt L k)))) 0) := fun W => KA0 _ _ _ _ rfl W
        obtain ⟨Y, hY⟩ : ∃ Y, canonC (covL (arnM a b x y lev (gt L k))) = Y := ⟨_, rfl⟩
        obtain ⟨Z, hZ⟩ : ∃ Z, canonC (covL (regX a b x y lev L (k + 1))) = Z := ⟨_, rfl⟩
        rw [hY] at KA hmk hYl
        rw [hZ] at hmk
        have hYl2 : Y.length ≤ 60 := by omega
        have HZ := Lib.hid hZ
        have HMK := Lib.hid hmk
        generalize mvBox (bxI (gt L k)) a b x y = pb at KC KA
        obtain ⟨c, hc⟩ : ∃ c, gt L k = c := ⟨_, rfl⟩
        rw [hc] at z0 z1 z2 KC
        clear x0 x1 x2 hcm hcv hmv hfx hvp hE0 hmost hvp0 hxs hmk hYl KA0 hY hZ hc
        obtain ⟨l, r, c⟩ := c
        obtain ⟨p0, p1, p2, p3⟩ := pb
        simp only [] at z0 z1 z2 KC KA
        have KC := Lib.hid KC
        have KA := Lib.hid KA
        go_wp2_with fail
        (with_reducible refine (KC.out _).mono ?_)
        rintro e w3 ⟨rfl, hb3⟩
        have bl3 := one_bl hb3
        have BR3 := Lib.hid (BR.out.trans (bl3.mono hz))
        have OW3 := Lib.hid (own_bl OW.out bl3 (Nat.le_refl _))
        have hz3 := BR3.out.size
        have q0 := bl_alloc w3 (.cells #[.int .i64 p0, .int .i64 p1, .int .i64 p2, .int .i64 p3] 48)
        have BR4 := Lib.hid (BR3.out.alloc hz3 (.cells #[.int .i64 p0, .int .i64 p1, .int .i64 p2, .int .i64 p3] 48))
        have OW4 := Lib.hid (own_bl OW3.out q0 (Nat.le_refl _))
        clear bl3 hb3 q0 z0 z1 z2 a0 a1 a2 a3 OW OW3 BR3
        go_wp2_with fail
        (with_reducible refine (KA.out _).mono ?_)
        rintro e w4 ⟨v4, rfl, hown4, hb4⟩
        have BR5 := Lib.hid (BR4.out.trans (hb4.mono BR4.out.size))
        have OW5 := Lib.hid (own_bl OW4.out hb4 (Nat.le_refl _))
        obtain ⟨A4, c4, rfl, hr4, -, -⟩ := own_form hown4
        obtain ⟨A5, c5, hu5, hr5, -, -⟩ := own_form OW5.out
        have KU := Union_any A5 A4 X.length Y.length c5 c4 X Y w4 hr5 hr4 (by simp only [maxLen]; omega) (by simp only [maxLen]; omega)
        rw [HMK.out.1, HMK.out.2] at KU
        have KU := Lib.hid KU
        have hz5 := BR5.out.size
        subst hu5
        clear hown4 hb4 hr4 hr5 OW4 BR4 OW5
        go_wp2_with fail
        (with_reducible refine (KU.out).mono ?_)
        rintro e w6 ⟨v6, rfl, hown6, hb6⟩
        have BR6 := Lib.hid (BR5.out.trans (hb6.mono hz5))
        have OW6 := Lib.hid (own_mono hown6 hz5)
        clear hown6 hb6 BR5
        go_wp2
        go_roundg (n - (k + 1))
        case measure => omega
        case rel => exact ⟨k + 1, v6, by omega, hlk, by go_num, rfl, rfl, by rw [HZ.out]; exact OW6.out, BR6.out⟩
      · obtain rfl : k = k0 := by omega
        have hE : E ≠ 0 ∧ mvErr (bxI (gt L k)) a b x y = E := by
          rcases EN.out with ⟨e1, -⟩ | ⟨-, e2, e3⟩
          · rw [HN.out] at e1; omega
          · exact ⟨e2, e3⟩
        have hbn : (E != (0 : Int)) = true := by simpa using hE.1
        have hRn : R = [] := by rw [← HRV.out]; unfold regV; rw [if_neg hE.1]
        have HE := Lib.hid hE.1
        rw [hE.2] at KC
        subst hRn
        generalize mvBox (bxI (gt L k)) a b x y = pb at KC
        obtain ⟨c, hc⟩ : ∃ c, gt L k = c := ⟨_, rfl⟩
        rw [hc] at z0 z1 z2 KC
        clear x0 x1 x2 hcm hcv hmv hfx hvp hE hc HRV
        obtain ⟨l, r, c⟩ := c
        obtain ⟨p0, p1, p2, p3⟩ := pb
        simp only [] at z0 z1 z2 KC
        have KC := Lib.hid KC
        go_wp2_with fail
        (with_reducible refine (KC.out _).mono ?_)
        rintro e w3 ⟨rfl, hb3⟩
        have BX3 := Lib.hid ((BX.out.trans ((one_bl hb3).mono BX.out.size)).alloc (by have := BX.out.size; have := (one_bl hb3).size; omega) (.cells #[.int .i64 p0, .int .i64 p1, .int .i64 p2, .int .i64 p3] 48))
        clear hb3 z0 z1 z2 a0 a1 a2 a3 OW
        go_wp2
        go_ret2
        exact ⟨_, rfl, own_nil _ _ _ _, BX3.out⟩
    · have hk2 : k = n := by omega
      have hk3 : k = k0 := by have := HK0.out; omega
      have hE0 : E = 0 := by
        rcases EN.out with ⟨-, e⟩ | ⟨e1, -, -⟩
        · exact e
        · rw [HN.out] at e1; omega
      subst hE0
      have hRX : R = X := by rw [← HRV.out, ← HX.out]; unfold regV; rw [if_pos rfl, HN.out, hk2]
      subst hRX
      obtain ⟨A9, c9, rfl, -, -, -⟩ := own_form OW.out
      have OW9 := Lib.hid (own_mono OW.out hs2)
      clear OW
      go_wp2
      go_ret2
      exact ⟨_, rfl, OW9.out, BX.out⟩
end Go.Proofs.YtleigbbgilcckaaGreat
namespace Go.Proofs.YtleigbbgilcckaaGreat
open Go.RowKit
/-- what the reference's Region says, if there are not too many cells -/
def RgD (L : List Cl) (a b x y lev : Int) (M : List Cl) (E : Int) : Prop :=
  (gvE L a b x y lev ≠ 0 ∧ E = gvE L a b x y lev ∧ M = []) ∨ (gvE L a b x y lev = 0 ∧ (E = -1 ∨ (RegOk a b x y lev 60 L E ∧ M = regV a b x y lev L E)))
theorem aReg_same {A : Option Addr} {n ca : Nat} {L : List Cl} {a b x y lev E : Int} {M : List Cl} {W : World} (hr : Reads W W.heap.size 3 A n (cvs L)) (hn : n ≤ ca) (hca : ca ≤ maxLen) (hn20 : n ≤ 20) (hd : RgD L a b x y lev M E) (hE : E ≠ -1) :
    Calls Tryz.prog 9 #[.slice A n ca, .agg #[.int .i64 a, .int .i64 b], .agg #[.int .i64 x, .int .i64 y], .int .i64 lev] W (RetCells W M E) := by
  rcases hd with ⟨h1, rfl, rfl⟩ | ⟨h1, rfl | ⟨h2, rfl⟩⟩
  · exact aRegion_bad A n ca L a b x y lev W hr hn hca h1
  · exact absurd rfl hE
  · exact aRegion_yes A n ca L a b x y lev E W hr hn hca hn20 h1 h2
end Go.Proofs.YtleigbbgilcckaaGreat
namespace Go.Proofs.YtleigbbgilcckaaGreat
open Canon
/-! ### points of places and of cells -/
/-- a longitude, turned by any number of turns, is in an arc -/
def lonP (a : Sp) (x : Int) : Prop := (x - a.1) % 21600000 ≤ a.2 - a.1
/-- a point is in a place -/
def inX (p : Bx) (y x : Int) : Prop := p.1 ≤ y ∧ y ≤ p.2.1 ∧ lonP (p.2.2.1, p.2.2.2) x
theorem pt_meet {p b : Bx} (hp : VP p) (hb : VP b) {y x : Int} (h1 : inX p y x) (h2 : inX b y x) : meetB p b = true := by
  obtain ⟨p0, p1, p2, p3⟩ := p
  obtain ⟨b0, b1, b2, b3⟩ := b
  obtain ⟨q1, q2, q3, q4⟩ := hp
  obtain ⟨r1, r2, r3, r4⟩ := hb
  obtain ⟨u1, u2, u3⟩ := h1
  obtain ⟨v1, v2, v3⟩ := h2
  unfold VL at q4 r4
  unfold lonP at u3 v3
  unfold meetB lonM
  simp only [Bool.and_eq_true, decide_eq_true_eq] at *
  omega
theorem bxI_vp {x : Cl} (hx : Vl x) : VP (bxI x) := by
  have h := bx_facts hx
  exact ⟨h.2.1, h.1, h.2.2.1, .inr ⟨h.2.2.2.1, h.2.2.2.2.2.2.2, h.2.2.2.2.1, h.2.2.2.2.2.2.1⟩⟩
/-- one box in another one, both not across the end of longitudes -/
def nst (a b : Bx) : Prop := b.1 ≤ a.1 ∧ a.2.1 ≤ b.2.1 ∧ b.2.2.1 ≤ a.2.2.1 ∧ a.2.2.2 ≤ b.2.2.2
theorem nst.refl (a : Bx) : nst a a := ⟨Int.le_refl _, Int.le_refl _, Int.le_refl _, Int.le_refl _⟩
theorem nst.trans {a b c : Bx} (h : nst a b) (k : nst b c) : nst a c := ⟨Int.le_trans k.1 h.1, Int.le_trans h.2.1 k.2.1, Int.le_trans k.2.2.1 h.2.2.1, Int.le_trans h.2.2.2 k.2.2.2⟩
theorem nst_pt {a b : Bx} (h : nst a b) (hb : b.2.2.2 - b.2.2.1 < 21600000) {y x : Int} (hx : inX a y x) : inX b y x := by
  obtain ⟨h1, h2, h3, h4⟩ := h
  obtain ⟨u1, u2, u3⟩ := hx
  unfold lonP at u3
  simp only [] at u3
  refine ⟨by omega, by omega, ?_⟩
  unfold lonP
  simp only []
  omega
theorem fin_nst : ∀ (f : Nat) (c : Cl), Vl c → c.1 + (f : Int) = 16 → ∀ q, covL [c] q → nst (bxI (cellB (0, q))) (bxI c) := by
  intro f
  induction f with
  | zero =>
    intro c hc hl q hq
    have h1 := (cov_one c q).1 hq
    have e : blkOf c = (0, q) := by
      have e1 : (blkOf c).1 = 0 := by show 16 - c.1.toNat = 0; omega
      rw [spF_blk, spT_blk, e1] at h1
      refine Prod.ext e1 ?_
      simp only [Nat.pow_zero, Nat.mul_one] at h1
      show (blkOf c).2 = q
      omega
    have := cellB_blkOf c hc
    rw [e] at this
    rw [this]
    exact nst.refl _
  | succ f ih =>
    intro c hc hl q hq
    have h16 : c.1 < 16 := by omega
    obtain ⟨d, hd, h1⟩ := (cov_kids hc h16 q).2 hq
    have hn := kid_nest hc h16 hd
    have hdl : d.1 + (f : Int) = 16 := by
      simp only [kidsC, kids, List.mem_cons, List.not_mem_nil, or_false] at hd
      rcases hd with rfl | rfl | rfl | rfl <;> (simp only []; omega)
    exact (ih d (kids_vl hc h16 d hd) hdl q ((cov_one d q).2 h1)).trans ⟨hn.1, hn.2.1, hn.2.2.1, hn.2.2.2⟩
theorem fin_in {c : Cl} (hc : Vl c) {q : Nat} (h : covL [c] q) : nst (bxI (cellB (0, q))) (bxI c) := by
  have h0 := hc.l0
  have h1 := hc.l1
  exact fin_nst (16 - c.1).toNat c hc (by omega) q h
/-- all cells that have a number meet: then the number is covered -/
theorem arn_full {mt : Cl → Bool} {lev : Int} (h16 : lev ≤ 16) {q : Nat} (hm : ∀ d, Vl d → covL [d] q → mt d = true) : ∀ (f : Nat) (c : Cl), Vl c → c.1 + (f : Int) = lev → covL [c] q → covL (arnL mt lev f c) q := by
  intro f
  induction f with
  | zero =>
    intro c hc hl hq
    unfold arnL
    rw [if_pos (hm c hc hq), if_pos (by omega)]
    exact hq
  | succ f ih =>
    intro c hc hl hq
    unfold arnL
    rw [if_pos (hm c hc hq), if_neg (by omega)]
    have hk : c.1 < 16 := by omega
    obtain ⟨d, hd, h1⟩ := (cov_kids hc hk q).2 hq
    have hdl : d.1 + (f : Int) = lev := by
      simp only [kidsC, kids, List.mem_cons, List.not_mem_nil, or_false] at hd
      rcases hd with rfl | rfl | rfl | rfl <;> (simp only []; omega)
    obtain ⟨z, hz, h2⟩ := ih d (kids_vl hc hk d hd) hdl ((cov_one d q).2 h1)
    exact ⟨z, List.mem_flatMap.2 ⟨d, hd, hz⟩, h2⟩
theorem top_cov {q : Nat} (h : q < 2 * 4 ^ 16) : covL [(0, 0, 0)] q ∨ covL [(0, 0, 1)] q := by
  have e0 : spF (0, 0, 0) = 0 := by decide
  have e1 : spT (0, 0, 0) = 4 ^ 16 := by decide +kernel
  have e2 : spF (0, 0, 1) = 4 ^ 16 := by decide +kernel
  have e3 : spT (0, 0, 1) = 2 * 4 ^ 16 := by decide +kernel
  rw [cov_one, cov_one, e0, e1, e2, e3]
  omega
theorem arnA_full {mt : Cl → Bool} {lev : Int} (h0 : 0 ≤ lev) (h16 : lev ≤ 16) {q : Nat} (hq : q < 2 * 4 ^ 16) (hm : ∀ d, Vl d → covL [d] q → mt d = true) : covL (arnA mt lev) q := by
  unfold arnA
  rw [cov_appL]
  rcases top_cov hq with h | h
  · exact .inl (arn_full h16 hm lev.toNat _ (top_vl 0 (by omega) (by omega)) (by simp only []; omega) h)
  · exact .inr (arn_full h16 hm lev.toNat _ (top_vl 1 (by omega) (by omega)) (by simp only []; omega) h)
/-- a number whose finest cell has a point of a place is covered by the cells around the place -/
theorem arn_pt {p : Bx} (hp : VP p) {lev : Int} (h0 : 0 ≤ lev) (h16 : lev ≤ 16) {q : Nat} (hq : q < 2 * 4 ^ 16) {y x : Int} (h1 : inX p y x) (h2 : inX (bxI (cellB (0, q))) y x) : covL (arnA (mtP p) lev) q := by
  refine arnA_full h0 h16 hq fun d hd hc => ?_
  have hf := bx_facts hd
  exact pt_meet hp (bxI_vp hd) h1 (nst_pt (fin_in hd hc) hf.2.2.2.2.2.2.1 h2)
/-- a point of the sphere: its finest cell -/
theorem pt_fin_ex {y x : Int} (h0 : -5400000 ≤ y) (h1 : y ≤ 5400000) : ∃ q, q < 2 * 4 ^ 16 ∧ inX (bxI (cellB (0, q))) y x := by
  obtain ⟨b, hb, hb0, hb1⟩ : ∃ b : Int, (x - b) % 21600000 = 0 ∧ -10800000 ≤ b ∧ b < 10800000 := ⟨(x + 10800000) % 21600000 - 10800000, by omega, by omega, by omega⟩
  have hv : vptB y b = true := vptB_true.2 ⟨h0, h1, hb0, hb1⟩
  obtain ⟨hV, g1, g2, g3, g4⟩ := of_in hv (l := 16) (by omega) (by omega)
  have hl : (ofC y b 16).1 = 16 := rfl
  generalize ofC y b 16 = c at *
  obtain ⟨b1, b2⟩ := blk_lt c hV
  have e1 : (blkOf c).1 = 0 := by show 16 - c.1.toNat = 0; rw [hl]; rfl
  have e : cellB (0, (blkOf c).2) = c := by
    have := cellB_blkOf c hV
    rw [show blkOf c = ((blkOf c).1, (blkOf c).2) from rfl, e1] at this
    exact this
  rw [e1] at b2
  refine ⟨(blkOf c).2, b2, ?_⟩
  rw [e]
  unfold inX lonP bxI
  rw [hl]
  simp only []
  generalize edg c.2.1 16 = x0 at *
  generalize edg (c.2.1 + 1) 16 = x1 at *
  generalize edg c.2.2 16 = x2 at *
  generalize edg (c.2.2 + 1) 16 = x3 at *
  omega
end Go.Proofs.YtleigbbgilcckaaGreat
