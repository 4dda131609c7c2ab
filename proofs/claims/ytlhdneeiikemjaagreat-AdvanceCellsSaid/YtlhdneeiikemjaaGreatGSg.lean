/- The walk of the reference's Made. -/
import Derived.Test.YtlhdneeiikemjaaGreatGSf
import Derived.Test.YtlhdneeiikemjaaGreatGJg
import Derived.Test.YtlhdneeiikemjaaGreatGPb
import Derived.Test.YtlhdneeiikemjaaGreatGRa
import Derived.Test.YtlhdneeiikemjaaGreatGRe
import Derived.Test.YtlhdneeiikemjaaGreatGJb
set_option linter.unusedVariables false
set_option linter.unusedSimpArgs false
/- The walks of made, Union, Meet, Minus, Inside. -/
namespace Go.Proofs.YtlhdneeiikemjaaGreat
open Go.RowKit
theorem vr_parts {L : List Cl} (h : vrB L = true) : L.length ≤ 4000 ∧ (∀ x ∈ L, vldB x.1 x.2.1 x.2.2 = true) ∧ AllV L := by
  obtain ⟨h1, h2, _⟩ := (vrB_iff L).1 h
  exact ⟨h1, fun x hx => (vl_iff x).2 (h2 x hx), h2⟩
theorem vr_yes (A : Option Addr) (n c : Nat) (L : List Cl) (b : Bool) (hb : vrB L = b) (w : World) (hr : Reads w w.heap.size 3 A n (cvs L)) (hn : n ≤ maxLen) :
    Calls Tryz.prog 35 #[.slice A n c] w fun e w' => e = .returned (.bool b) ∧ Below w.heap.size w w' := by
  rw [← hb]; exact ValidRegion_any A n c L w hr hn
/-- what is known of the combined spans -/
theorem comb_all (op : Int) {a b : List Cl} (ha : vrB a = true) (hb : vrB b = true) :
    tidyL (combE (opB op) (edgesOf (coverL a) (coverL b)) (coverL a) (coverL b)) = madeL op a b ∧ SpOk (combE (opB op) (edgesOf (coverL a) (coverL b)) (coverL a) (coverL b)) ∧ (combE (opB op) (edgesOf (coverL a) (coverL b)) (coverL a) (coverL b)).length ≤ 16000 := by
  obtain ⟨a1, a2, a3⟩ := vr_parts ha
  obtain ⟨b1, b2, b3⟩ := vr_parts hb
  have h := comb_made op (edgesOf (coverL a) (coverL b)) a b a3 b3 (edgesOf_sorted _ _) (edgesOf_mem _ _)
  refine ⟨h.1, h.2, ?_⟩
  have h1 := combTo_len (opB op) (edgesOf (coverL a) (coverL b)) (coverL a) (coverL b) ((edgesOf (coverL a) (coverL b)).length - 1)
  have h2 := edgesOf_len (coverL a) (coverL b)
  have h3 := coverL_length a
  have h4 := coverL_length b
  unfold combE
  omega
set_option maxHeartbeats 1000000 in
set_option maxRecDepth 100000 in
theorem made_any (op : Int) (f : FuncId) (eg : ∀ args w, (callFunc f args).run Tryz.prog w = .ok (.enter f args) w) (hf : ∀ x y W, Calls Tryz.prog f #[.bool x, .bool y] W fun e w' => e = .returned (.bool (opB op x y)) ∧ w' = W)
    (A B : Option Addr) (n m ca cb : Nat) (L M : List Cl) (w : World) (ha : Reads w w.heap.size 3 A n (cvs L)) (hb : Reads w w.heap.size 3 B m (cvs M)) (hn : n ≤ maxLen) (hm : m ≤ maxLen) :
    Calls Tryz.prog 52 #[.slice A n ca, .slice B m cb, .func (.func f) #[] #[]] w (RetCells w (mkR op L M) (mkE op L M)) := by
  have ra : ∀ W, Below w.heap.size w W → Reads W W.heap.size 3 A n (cvs L) := fun W hW => (ha.below hW).more hW.size
  have rb : ∀ W, Below w.heap.size w W → Reads W W.heap.size 3 B m (cvs M) := fun W hW => (hb.below hW).more hW.size
  have hla := ha.len
  have hlb := hb.len
  cases va : vrB L with
  | false =>
    have e1 : mkR op L M = [] := by simp [mkR, va]
    have e2 : mkE op L M = 1 := by simp [mkE, va]
    rw [e1, e2]
    have K1 := Lib.hid (fun W hW => vr_yes A n ca L false va W (ra W hW) hn)
    clear e1 e2 ra rb ha hb hla hlb va hf
    go_enter Tryz.func52, Tryz.ntmps52
    go_wp2_with fail
    (with_reducible refine (K1.out _ (Below.refl _ _)).mono ?_)
    rintro e w1 ⟨rfl, hb1⟩
    go_wp2
    go_ret2
    exact ⟨_, rfl, own_nil _ _ _ _, hb1⟩
  | true =>
    have K1 := Lib.hid (fun W hW => vr_yes A n ca L true va W (ra W hW) hn)
    cases vb : vrB M with
    | false =>
      have e1 : mkR op L M = [] := by simp [mkR, va, vb]
      have e2 : mkE op L M = 1 := by simp [mkE, va, vb]
      rw [e1, e2]
      have K2 := Lib.hid (fun W hW => vr_yes B m cb M false vb W (rb W hW) hm)
      clear e1 e2 ra rb ha hb hla hlb va vb hf
      go_enter Tryz.func52, Tryz.ntmps52
      go_wp2_with fail
      (with_reducible refine (K1.out _ (Below.refl _ _)).mono ?_)
      rintro e w1 ⟨rfl, hb1⟩
      go_wp2_with fail
      (with_reducible refine (K2.out _ hb1).mono ?_)
      rintro e w2 ⟨rfl, hb2⟩
      go_wp2
      go_ret2
      exact ⟨_, rfl, own_nil _ _ _ _, hb1.trans (hb2.mono hb1.size)⟩
    | true =>
      have K2 := Lib.hid (fun W hW => vr_yes B m cb M true vb W (rb W hW) hm)
      obtain ⟨a1, a2, a3⟩ := vr_parts va
      obtain ⟨b1, b2, b3⟩ := vr_parts vb
      have c1 := coverL_length L
      have c2 := coverL_length M
      have K3 := Lib.hid (fun W hW => cover_any A n ca L W (ra W hW) (by omega) a2)
      have K4 := Lib.hid (fun W hW => cover_any B m cb M W (rb W hW) (by omega) b2)
      obtain ⟨t1, t2, t3⟩ := comb_all op va vb
      have hR : mkR op L M = if (madeL op L M).length ≤ 4000 then madeL op L M else [] := by simp [mkR, va, vb]
      have hE : mkE op L M = if (madeL op L M).length ≤ 4000 then 0 else 4 := by simp [mkE, va, vb]
      rw [← t1] at hR hE
      have HR := Lib.hid hR
      have HE := Lib.hid hE
      clear hR hE
      generalize mkR op L M = R at HR ⊢
      generalize mkE op L M = Ec at HE ⊢
      have HF := Lib.hid hf
      clear t1 ra rb ha hb hla hlb va vb a2 a3 b2 b3 hf hn hm
      generalize coverL L = D at *
      generalize coverL M = F at *
      generalize hX : combE (opB op) (edgesOf D F) D F = X at *
      have HX := Lib.hid hX
      have HS := Lib.hid t2
      clear hX t2
      go_enter Tryz.func52, Tryz.ntmps52
      go_wp2_with fail
      (with_reducible refine (K1.out _ (Below.refl _ _)).mono ?_)
      rintro e w1 ⟨rfl, hb1⟩
      go_wp2_with fail
      (with_reducible refine (K2.out _ hb1).mono ?_)
      rintro e w2 ⟨rfl, hb2⟩
      have hb2' := hb1.trans (hb2.mono hb1.size)
      clear K1 K2 hb2 hb1
      go_wp2_with fail
      (with_reducible refine (K3.out _ hb2').mono ?_)
      rintro e w3 ⟨v3, rfl, hown3, hb3⟩
      have hb3' := hb2'.trans (hb3.mono hb2'.size)
      obtain ⟨A3, c3, rfl, hr3, hc3, hc3'⟩ := own_form hown3
      clear K3 hown3 hb3 hb2'
      go_wp2_with fail
      (with_reducible refine (K4.out _ hb3').mono ?_)
      rintro e w4 ⟨v4, rfl, hown4, hb4⟩
      have hb4' := hb3'.trans (hb4.mono hb3'.size)
      obtain ⟨A4, c4, rfl, hr4, hc4, hc4'⟩ := own_form hown4
      have hr3' := (hr3.below hb4).more hb4.size
      have KC := Lib.hid (combine_any A3 A4 D.length F.length c3 c4 D F f (opB op) eg w4 hr3' hr4 hc3 hc4 hc3' hc4' (by omega) (by omega) HF.out)
      rw [HX.out] at KC
      clear K4 hown4 hb4 hb3' hr3 hr4 hr3' hc3 hc4 hc3' hc4' HX HF
      go_wp2_with fail
      (with_reducible refine KC.out.mono ?_)
      rintro e w5 ⟨v5, rfl, hown5, hb5⟩
      have hb5' := hb4'.trans (hb5.mono hb4'.size)
      obtain ⟨A5, c5, rfl, hr5, -⟩ := own_form hown5
      clear KC hown5 hb5 hb4'
      go_wp2_with fail
      (with_reducible refine (tidy_any A5 X.length c5 X w5 hr5 (by omega) HS.out).mono ?_)
      rintro e w6 ⟨hb6, hcase⟩
      have hb6' := hb5'.trans (hb6.mono hb5'.size)
      have hz5 := hb5'.size
      clear hb6 hr5 HS
      rcases hcase with ⟨hT, v6, rfl, hown6⟩ | ⟨hT, rfl⟩
      · have HT := Lib.hid hT
        have HO := Lib.hid hown6
        clear hown6 hT
        go_wp2
        go_ret2
        rw [HR.out, HE.out, if_pos HT.out, if_pos HT.out]
        exact ⟨_, rfl, own_mono HO.out hz5, hb6'⟩
      · have HT : Hid (¬ (tidyL X).length ≤ 4000) := Lib.hid (by omega)
        clear hT
        go_wp2
        go_ret2
        rw [HR.out, HE.out, if_neg HT.out, if_neg HT.out]
        exact ⟨_, rfl, own_nil _ _ _ _, hb6'⟩
theorem opB_one (x y : Bool) : opB 1 x y = (x || y) := by simp [opB]
theorem opB_two (x y : Bool) : opB 2 x y = (x && y) := by simp [opB]
theorem opB_three (x y : Bool) : opB 3 x y = (x && !y) := by simp [opB]
section
variable (A B : Option Addr) (n m ca cb : Nat) (L M : List Cl) (w : World) (ha : Reads w w.heap.size 3 A n (cvs L)) (hb : Reads w w.heap.size 3 B m (cvs M)) (hn : n ≤ maxLen) (hm : m ≤ maxLen)
include ha hb hn hm
theorem Union_any : Calls Tryz.prog 16 #[.slice A n ca, .slice B m cb] w (RetCells w (mkR 1 L M) (mkE 1 L M)) := by
  have K := Lib.hid (made_any 1 53 (enters_of Tryz.func53 (by kernel_rfl) rfl) (fun x y W => by rw [opB_one]; exact rule_or x y W) A B n m ca cb L M w ha hb hn hm)
  clear ha hb hn hm
  go_enter Tryz.func16, Tryz.ntmps16
  go_wp2_with fail
  (with_reducible refine K.out.mono ?_)
  rintro e w1 ⟨v, rfl, h1, h2⟩
  go_wp2
  go_ret2
  exact ⟨_, rfl, h1, h2⟩
theorem Meet_any : Calls Tryz.prog 17 #[.slice A n ca, .slice B m cb] w (RetCells w (mkR 2 L M) (mkE 2 L M)) := by
  have K := Lib.hid (made_any 2 54 (enters_of Tryz.func54 (by kernel_rfl) rfl) (fun x y W => by rw [opB_two]; exact rule_and x y W) A B n m ca cb L M w ha hb hn hm)
  clear ha hb hn hm
  go_enter Tryz.func17, Tryz.ntmps17
  go_wp2_with fail
  (with_reducible refine K.out.mono ?_)
  rintro e w1 ⟨v, rfl, h1, h2⟩
  go_wp2
  go_ret2
  exact ⟨_, rfl, h1, h2⟩
end
theorem comb_ins {a b : List Cl} (ha : vrB a = true) (hb : vrB b = true) : insL a b = decide ((combE (opB 3) (edgesOf (coverL a) (coverL b)) (coverL a) (coverL b)).length = 0) := by
  obtain ⟨a1, a2, a3⟩ := vr_parts ha
  obtain ⟨b1, b2, b3⟩ := vr_parts hb
  unfold insL
  rw [decide_eq_decide, List.length_eq_zero_iff]
  exact (comb_empty _ a b a3 b3 (edgesOf_sorted _ _) (edgesOf_mem _ _)).symm
end Go.Proofs.YtlhdneeiikemjaaGreat
/- The walk of cells.Contains. -/
namespace Go.Proofs.YtlhdneeiikemjaaGreat
open Go.RowKit
theorem boxOk_of {x : Cl} (hx : Vl x) : BoxOk (edg x.2.1 x.1 - 5400000) (edg (x.2.1 + 1) x.1 - 5400000) (edg x.2.2 x.1 - 10800000) (edg (x.2.2 + 1) x.1 - 10800000) := by
  obtain ⟨h1, h2, h3, h4, h5, h6, h7, h8⟩ := box_nums hx
  constructor <;> omega
theorem cellContains (x : Cl) (a b : Int) (W : World) (hx : Vl x) (hp : vptB a b = true) :
    Calls Tryz.prog 37 #[boxV x.1 x.2.1 x.2.2, .agg #[.int .i64 a, .int .i64 b]] W fun e w' => e = .returned (.tuple #[.bool (ptB x a b), .int .i64 0]) ∧ Below W.heap.size W w' :=
  placeContains_any _ _ _ _ a b W (boxOk_of hx) hp
theorem con_take (L : List Cl) (a b : Int) (k : Nat) (hk : k < L.length) (h : ((L.take k).any fun x => ptB x a b) = false) : ((L.take (k + 1)).any fun x => ptB x a b) = ptB (gt L k) a b := by
  rw [List.take_succ_eq_append_getElem hk, List.any_append, h]
  simp [gt, hk]
theorem con_of (L : List Cl) (a b : Int) (k : Nat) (hk : k < L.length) (h : ptB (gt L k) a b = true) : conB L a b = true := by
  unfold conB
  rw [List.any_eq_true]
  simp [gt, hk] at h
  exact ⟨L[k], List.getElem_mem hk, h⟩
set_option maxHeartbeats 1000000 in
set_option maxRecDepth 100000 in
theorem Contains_any (A : Option Addr) (n c : Nat) (L : List Cl) (a b : Int) (w : World) (hr : Reads w w.heap.size 3 A n (cvs L)) (hn : n ≤ maxLen) (hv : vrB L = true) (hp : vptB a b = true) :
    Calls Tryz.prog 9 #[.slice A n c, .agg #[.int .i64 a, .int .i64 b]] w fun e w' => e = .returned (.tuple #[.bool (conB L a b), .int .i64 0]) ∧ Below w.heap.size w w' := by
  obtain ⟨R, hR⟩ : ∃ R, R = conB L a b := ⟨_, rfl⟩
  rw [← hR]
  have HR := Lib.hid hR
  have HL := Lib.hid hr.len
  have RD : Hid (∀ W, Below w.heap.size w W → Reads W W.heap.size 3 A n (cvs L)) := Lib.hid (fun W hW => (hr.below hW).more hW.size)
  have K1 := Lib.hid (fun W hW => vr_yes A n c L true hv W (RD.out W hW) hn)
  have K2 := Lib.hid (vpt_yes a b hp)
  have AV := Lib.hid (vr_parts hv).2.2
  have HP := Lib.hid hp
  have hlen := (vr_parts hv).1
  rw [hr.len] at hlen
  clear hR hr hv hp hn
  go_enter Tryz.func9, Tryz.ntmps9
  go_wp2_with fail
  have b0 := bl_alloc w (.cells #[.int .i64 a, .int .i64 b] 24)
  (with_reducible refine (K1.out _ b0).mono ?_)
  rintro e w1 ⟨rfl, hb1⟩
  have hb1' := b0.trans (hb1.mono (by simp))
  have hz1 := one_lt hb1
  have y0 := (hb1.cell (p := ⟨w.heap.size, 0, none⟩) (by simp)).trans (show _ = some (.int .i64 a) by simp)
  have y1 := (hb1.cell (p := ⟨w.heap.size, 1, none⟩) (by simp)).trans (show _ = some (.int .i64 b) by simp)
  clear hb1 b0
  go_wp2_with fail
  (with_reducible refine (K2.out _).mono ?_)
  rintro e w2 ⟨rfl, hb2⟩
  have hb2' := hb1'.trans (hb2.mono hb1'.size)
  have y0 := (hb2.cell (p := ⟨w.heap.size, 0, none⟩) hz1).trans y0
  have y1 := (hb2.cell (p := ⟨w.heap.size, 1, none⟩) hz1).trans y1
  have hz2 : w.heap.size < w2.heap.size := Nat.lt_of_lt_of_le hz1 hb2.size
  clear hb2 hb1' K1 K2 hz1
  go_wp2_with fail
  go_loopw [20] (fun i wr => ∃ k : Nat, k ≤ n ∧ i = .int .i64 k ∧ ((L.take k).any fun x => ptB x a b) = false ∧ Below w2.heap.size w2 wr) (fun i _ => n - (intOf i).toNat)
  case atStart => exact ⟨0, Nat.zero_le _, rfl, rfl, Below.refl _ _⟩
  case round =>
    obtain ⟨k, hk, rfl, hno, hbr⟩ := hrel
    have hzr := hbr.size
    by_cases hlt : k < n
    · have hbw := hb2'.trans (hbr.mono hb2'.size)
      obtain ⟨bk, off, rfl, hbk, x1, x2, x3⟩ := (RD.out wr hbw).elem hlt
      have hkl : k < L.length := by rw [HL.out]; exact hlt
      have hx := AV.out (gt L k) (by simp [gt, hkl])
      have KB := Lib.hid (fun W => box_any (gt L k).1 (gt L k).2.1 (gt L k).2.2 W ((vl_iff _).2 hx))
      have KC := Lib.hid (fun W => cellContains (gt L k) a b W hx HP.out)
      have h1 := Lib.hid (con_take L a b k hkl hno)
      have h2 := Lib.hid (con_of L a b k hkl)
      generalize gt L k = x at x1 x2 x3 KB KC h1 h2
      obtain ⟨xl, xr, xc⟩ := x
      simp only [] at x1 x2 x3 KB KC
      generalize ptB (xl, xr, xc) a b = z at KC h1 h2
      clear hx hno
      go_upto_region 6 with fail
      generalize hW5 : wr.alloc (.cells #[.int .i64 xl, .int .i64 xr, .int .i64 xc] 39) = w5
      have hz5 : wr.heap.size < w5.heap.size := by rw [← hW5]; simp
      have hb5 : Below w2.heap.size w2 w5 := by rw [← hW5]; exact hbr.alloc hzr _
      have c0 : ∀ s : BV w5, s.w.cell? ⟨wr.heap.size, 0, none⟩ = some (.int .i64 xl) := fun s => (s.hb.cell (p := ⟨wr.heap.size, 0, none⟩) hz5).trans (by rw [← hW5]; simp)
      have c1 : ∀ s : BV w5, s.w.cell? ⟨wr.heap.size, 1, none⟩ = some (.int .i64 xr) := fun s => (s.hb.cell (p := ⟨wr.heap.size, 1, none⟩) hz5).trans (by rw [← hW5]; simp)
      have c2 : ∀ s : BV w5, s.w.cell? ⟨wr.heap.size, 2, none⟩ = some (.int .i64 xc) := fun s => (s.hb.cell (p := ⟨wr.heap.size, 2, none⟩) hz5).trans (by rw [← hW5]; simp)
      have c3 : ∀ s : BV w5, s.w.cell? ⟨w.heap.size, 0, none⟩ = some (.int .i64 a) := fun s => (s.hb.cell (p := ⟨w.heap.size, 0, none⟩) (by simp only []; omega)).trans ((hb5.cell (p := ⟨w.heap.size, 0, none⟩) hz2).trans y0)
      have c4 : ∀ s : BV w5, s.w.cell? ⟨w.heap.size, 1, none⟩ = some (.int .i64 b) := fun s => (s.hb.cell (p := ⟨w.heap.size, 1, none⟩) (by simp only []; omega)).trans ((hb5.cell (p := ⟨w.heap.size, 1, none⟩) hz2).trans y1)
      clear hW5 x1 x2 x3
      refine wp_region_bv w5 (by kernel_rfl) (by kernel_rfl) (Below.refl _ _) ?_
      (repeat (go_big_quiet_step (first | (go_at_call 38; with_reducible exact quiet_bv (KB.out _)) | (go_at_call 37; with_reducible exact quiet_bv (KC.out _)) | fail)))
      refine wpQuiet_nil ?_
      intro w9 hb9
      have hb9' : Below w2.heap.size w2 w9 := hb5.trans (hb9.mono hb5.size)
      clear c0 c1 c2 c3 c4 KB KC
      cases z with
      | true =>
        have hE : Hid (R = true) := Lib.hid (by rw [HR.out]; exact h2.out rfl)
        go_wp2
        go_ret2
        exact ⟨by rw [hE.out]; rfl, hb2'.trans (hb9'.mono hb2'.size)⟩
      | false =>
        go_wp2
        go_roundw
        case rel => exact ⟨k + 1, by omega, by go_num, h1.out, hb9'⟩
        case measure => simp [intOf]; omega
    · have hkn : k = n := by omega
      have hE : Hid (R = false) := Lib.hid (by rw [HR.out]; unfold conB; rw [List.take_of_length_le (by rw [HL.out]; omega)] at hno; exact hno)
      clear hno
      go_wp2
      go_ret2
      exact ⟨by rw [hE.out]; rfl, hb2'.trans (hbr.mono hb2'.size)⟩
end Go.Proofs.YtlhdneeiikemjaaGreat
/- The walk of the reference's within. -/
namespace Go.Proofs.YtlhdneeiikemjaaGreat
open Go.RowKit
def lvOk (L : List Cl) : Prop := ∀ y ∈ L, 0 ≤ y.1 ∧ y.1 ≤ 16
theorem lvOk_if {L : List Cl} (h : lvOk L) (x : Bool) : lvOk (if x = true then [] else L) := by cases x <;> simp [lvOk] at h ⊢; exact h
theorem belL_16 (L : List Cl) (r c : Int) (h : lvOk L) : belL L (16, r, c) = [] := by
  unfold belL
  rw [List.filter_eq_nil_iff]
  intro y hy hh
  obtain ⟨y1, y2, y3⟩ := y
  have := (h _ hy).2
  simp only [Bool.and_eq_true, Bool.not_eq_true', ceq_false, wiB, decide_eq_true_eq] at hh this
  obtain ⟨h1, h2, h3, h4⟩ := hh
  have e : y1 = 16 := by omega
  subst e
  simp at h3 h4
  exact h1 (by rw [h3, h4])
theorem lvOk_belL {L : List Cl} (x : Cl) (h : lvOk L) : lvOk (belL L x) := fun y hy => h y (List.mem_filter.1 hy).1
theorem if_len {L : List Cl} {n : Nat} (x : Bool) (c : Cl) (h : L.length ≤ n) : (belL (if x = true then [] else L) c).length ≤ n := by
  have := List.length_filter_le (fun y => !ceq y c && wiB y c) (if x = true then [] else L)
  unfold belL
  cases x
  · simp only [Bool.false_eq_true, if_false] at this ⊢; omega
  · simp
theorem kid_at (l r c : Int) {k : Nat} (hk : k < 4) : gt (kids l r c) k = (l + 1, 2 * r + (k : Int) / 2, 2 * c + (k : Int) % 2) := by
  match k, hk with
  | 0, _ => simp [kids, gt]
  | 1, _ => simp [kids, gt]
  | 2, _ => simp [kids, gt]
  | 3, _ => simp [kids, gt]
theorem kid_vld {l r c : Int} (hv : vldB l r c = true) (hl : l < 16) {k : Nat} (hk : k < 4) : vldB (l + 1) (2 * r + (k : Int) / 2) (2 * c + (k : Int) % 2) = true := by
  obtain ⟨h0, h1, h2, h3, h4, h5⟩ := vldB_true.1 hv
  have e : pw (l + 1) = 2 * pw l := by
    unfold pw
    rw [show (l + 1).toNat = l.toNat + 1 by omega, Int.pow_succ]
    omega
  rw [vldB_true, e]
  omega
def flatTo (L : List Cl) (g : Cl → List Cl) (k : Nat) : List Cl := (L.take k).flatMap g
theorem flatTo_succ (L : List Cl) (g : Cl → List Cl) (k : Nat) (hk : k < L.length) : flatTo L g (k + 1) = flatTo L g k ++ g (gt L k) := by
  unfold flatTo
  rw [take_gt L k hk, List.flatMap_append]
  simp
theorem flatTo_len (L : List Cl) (g : Cl → List Cl) (k N : Nat) (hg : ∀ x, (g x).length ≤ N) : (flatTo L g k).length ≤ k * N := by
  unfold flatTo
  have : ∀ M : List Cl, (M.flatMap g).length ≤ M.length * N := by
    intro M
    induction M with
    | nil => simp
    | cons x M ih =>
      have := hg x
      simp only [List.flatMap_cons, List.length_append, List.length_cons, Nat.add_mul]
      omega
  have h1 := this (L.take k)
  have h2 := Nat.mul_le_mul_right N (List.length_take_le k L)
  omega
theorem four_of {L : List Cl} (h : L.length = 4) : L = [gt L 0, gt L 1, gt L 2, gt L 3] := by
  match L, h with
  | [a, b, c, d], _ => rfl
end Go.Proofs.YtlhdneeiikemjaaGreat
namespace Go.Proofs.YtlhdneeiikemjaaGreat
open Go.RowKit
end Go.Proofs.YtlhdneeiikemjaaGreat
