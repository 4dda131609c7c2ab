/- The walk of slices.Repeat at cells. -/
import Derived.Test.YtlhdneeiikemjaaProg
import Derived.Shelf.Spec.SlicesGrow
import Derived.Ground.Names8Prog
import Derived.Shelf.Bits.Mul64
import Derived.Ground.NamesProg
import Derived.Laws.CopyRow
import Derived.Deep.RegionLaw
import Derived.Test.YtlhdneeiikemjaaGSf
import Derived.Test.YtlhdneeiikemjaaGJg
import Derived.Test.YtlhdneeiikemjaaGWords
set_option linter.unusedVariables false
set_option linter.unusedSimpArgs false
/- The walks of made, Union, Meet, Minus, Inside. -/
namespace Go.Proofs.Ytlhdneeiikemjaa
open Go.RowKit
theorem vr_parts {L : List Cl} (h : vrB L = true) : L.length ≤ 4000 ∧ (∀ x ∈ L, vldB x.1 x.2.1 x.2.2 = true) ∧ AllV L := by
  obtain ⟨h1, h2, _⟩ := (vrB_iff L).1 h
  exact ⟨h1, fun x hx => (vl_iff x).2 (h2 x hx), h2⟩
theorem vr_yes (A : Option Addr) (n c : Nat) (L : List Cl) (b : Bool) (hb : vrB L = b) (w : World) (hr : Reads w w.heap.size 3 A n (cvs L)) (hn : n ≤ maxLen) :
    Calls Try.prog 8 #[.slice A n c] w fun e w' => e = .returned (.bool b) ∧ Below w.heap.size w w' := by
  rw [← hb]; exact ValidRegion_any A n c L w hr hn
/-- what is known of the combined spans -/
theorem comb_all (op : Int) {a b : List Cl} (ha : vrB a = true) (hb : vrB b = true) :
    tidyL (combE (opB op) (edgesOf (coverL a) (coverL b)) (coverL a) (coverL b)) = madeL op a b ∧ SpOk (combE (opB op) (edgesOf (coverL a) (coverL b)) (coverL a) (coverL b)) ∧ (combE (opB op) (edgesOf (coverL a) (coverL b)) (coverL a) (coverL b)).length ≤ 16000 := by
  obtain ⟨a1, a2, a3⟩ := vr_parts ha
  obtain ⟨b1, b2, b3⟩ := vr_parts hb
  have h := comb_made op (edgesOf (coverL a) (coverL b)) a b a3 b3 (edgesOf_sorted _ _) (edgesOf_mem _ _)
  refine ⟨h.1, h.2, ?_⟩
  have h1 := combTo_len (opB op) (edgesOf (coverL a) (coverL b)) (coverL a) (coverL b) ((edgesOf (coverL a) (coverL b)).length - 1)
  have h2 := edgesOf_len (coverL a) (coverL b)
  have h3 := coverL_length a
  have h4 := coverL_length b
  unfold combE
  omega
set_option maxHeartbeats 1000000 in
set_option maxRecDepth 100000 in
theorem made_any (op : Int) (f : FuncId) (eg : ∀ args w, (callFunc f args).run Try.prog w = .ok (.enter f args) w) (hf : ∀ x y W, Calls Try.prog f #[.bool x, .bool y] W fun e w' => e = .returned (.bool (opB op x y)) ∧ w' = W)
    (A B : Option Addr) (n m ca cb : Nat) (L M : List Cl) (w : World) (ha : Reads w w.heap.size 3 A n (cvs L)) (hb : Reads w w.heap.size 3 B m (cvs M)) (hn : n ≤ maxLen) (hm : m ≤ maxLen) :
    Calls Try.prog 33 #[.slice A n ca, .slice B m cb, .func (.func f) #[] #[]] w (RetCells w (mkR op L M) (mkE op L M)) := by
  have ra : ∀ W, Below w.heap.size w W → Reads W W.heap.size 3 A n (cvs L) := fun W hW => (ha.below hW).more hW.size
  have rb : ∀ W, Below w.heap.size w W → Reads W W.heap.size 3 B m (cvs M) := fun W hW => (hb.below hW).more hW.size
  have hla := ha.len
  have hlb := hb.len
  cases va : vrB L with
  | false =>
    have e1 : mkR op L M = [] := by simp [mkR, va]
    have e2 : mkE op L M = 1 := by simp [mkE, va]
    rw [e1, e2]
    have K1 := Lib.hid (fun W hW => vr_yes A n ca L false va W (ra W hW) hn)
    clear e1 e2 ra rb ha hb hla hlb va hf
    go_enter Try.func33, Try.ntmps33
    go_wp2_with fail
    (with_reducible refine (K1.out _ (Below.refl _ _)).mono ?_)
    rintro e w1 ⟨rfl, hb1⟩
    go_wp2
    go_ret2
    exact ⟨_, rfl, own_nil _ _ _ _, hb1⟩
  | true =>
    have K1 := Lib.hid (fun W hW => vr_yes A n ca L true va W (ra W hW) hn)
    cases vb : vrB M with
    | false =>
      have e1 : mkR op L M = [] := by simp [mkR, va, vb]
      have e2 : mkE op L M = 1 := by simp [mkE, va, vb]
      rw [e1, e2]
      have K2 := Lib.hid (fun W hW => vr_yes B m cb M false vb W (rb W hW) hm)
      clear e1 e2 ra rb ha hb hla hlb va vb hf
      go_enter Try.func33, Try.ntmps33
      go_wp2_with fail
      (with_reducible refine (K1.out _ (Below.refl _ _)).mono ?_)
      rintro e w1 ⟨rfl, hb1⟩
      go_wp2_with fail
      (with_reducible refine (K2.out _ hb1).mono ?_)
      rintro e w2 ⟨rfl, hb2⟩
      go_wp2
      go_ret2
      exact ⟨_, rfl, own_nil _ _ _ _, hb1.trans (hb2.mono hb1.size)⟩
    | true =>
      have K2 := Lib.hid (fun W hW => vr_yes B m cb M true vb W (rb W hW) hm)
      obtain ⟨a1, a2, a3⟩ := vr_parts va
      obtain ⟨b1, b2, b3⟩ := vr_parts vb
      have c1 := coverL_length L
      have c2 := coverL_length M
      have K3 := Lib.hid (fun W hW => cover_any A n ca L W (ra W hW) (by omega) a2)
      have K4 := Lib.hid (fun W hW => cover_any B m cb M W (rb W hW) (by omega) b2)
      obtain ⟨t1, t2, t3⟩ := comb_all op va vb
      have hR : mkR op L M = if (madeL op L M).length ≤ 4000 then madeL op L M else [] := by simp [mkR, va, vb]
      have hE : mkE op L M = if (madeL op L M).length ≤ 4000 then 0 else 4 := by simp [mkE, va, vb]
      rw [← t1] at hR hE
      have HR := Lib.hid hR
      have HE := Lib.hid hE
      clear hR hE
      generalize mkR op L M = R at HR ⊢
      generalize mkE op L M = Ec at HE ⊢
      have HF := Lib.hid hf
      clear t1 ra rb ha hb hla hlb va vb a2 a3 b2 b3 hf hn hm
      generalize coverL L = D at *
      generalize coverL M = F at *
      generalize hX : combE (opB op) (edgesOf D F) D F = X at *
      have HX := Lib.hid hX
      have HS := Lib.hid t2
      clear hX t2
      go_enter Try.func33, Try.ntmps33
      go_wp2_with fail
      (with_reducible refine (K1.out _ (Below.refl _ _)).mono ?_)
      rintro e w1 ⟨rfl, hb1⟩
      go_wp2_with fail
      (with_reducible refine (K2.out _ hb1).mono ?_)
      rintro e w2 ⟨rfl, hb2⟩
      have hb2' := hb1.trans (hb2.mono hb1.size)
      clear K1 K2 hb2 hb1
      go_wp2_with fail
      (with_reducible refine (K3.out _ hb2').mono ?_)
      rintro e w3 ⟨v3, rfl, hown3, hb3⟩
      have hb3' := hb2'.trans (hb3.mono hb2'.size)
      obtain ⟨A3, c3, rfl, hr3, hc3, hc3'⟩ := own_form hown3
      clear K3 hown3 hb3 hb2'
      go_wp2_with fail
      (with_reducible refine (K4.out _ hb3').mono ?_)
      rintro e w4 ⟨v4, rfl, hown4, hb4⟩
      have hb4' := hb3'.trans (hb4.mono hb3'.size)
      obtain ⟨A4, c4, rfl, hr4, hc4, hc4'⟩ := own_form hown4
      have hr3' := (hr3.below hb4).more hb4.size
      have KC := Lib.hid (combine_any A3 A4 D.length F.length c3 c4 D F f (opB op) eg w4 hr3' hr4 hc3 hc4 hc3' hc4' (by omega) (by omega) HF.out)
      rw [HX.out] at KC
      clear K4 hown4 hb4 hb3' hr3 hr4 hr3' hc3 hc4 hc3' hc4' HX HF
      go_wp2_with fail
      (with_reducible refine KC.out.mono ?_)
      rintro e w5 ⟨v5, rfl, hown5, hb5⟩
      have hb5' := hb4'.trans (hb5.mono hb4'.size)
      obtain ⟨A5, c5, rfl, hr5, -⟩ := own_form hown5
      clear KC hown5 hb5 hb4'
      go_wp2_with fail
      (with_reducible refine (tidy_any A5 X.length c5 X w5 hr5 (by omega) HS.out).mono ?_)
      rintro e w6 ⟨hb6, hcase⟩
      have hb6' := hb5'.trans (hb6.mono hb5'.size)
      have hz5 := hb5'.size
      clear hb6 hr5 HS
      rcases hcase with ⟨hT, v6, rfl, hown6⟩ | ⟨hT, rfl⟩
      · have HT := Lib.hid hT
        have HO := Lib.hid hown6
        clear hown6 hT
        go_wp2
        go_ret2
        rw [HR.out, HE.out, if_pos HT.out, if_pos HT.out]
        exact ⟨_, rfl, own_mono HO.out hz5, hb6'⟩
      · have HT : Hid (¬ (tidyL X).length ≤ 4000) := Lib.hid (by omega)
        clear hT
        go_wp2
        go_ret2
        rw [HR.out, HE.out, if_neg HT.out, if_neg HT.out]
        exact ⟨_, rfl, own_nil _ _ _ _, hb6'⟩
theorem opB_one (x y : Bool) : opB 1 x y = (x || y) := by simp [opB]
theorem opB_two (x y : Bool) : opB 2 x y = (x && y) := by simp [opB]
theorem opB_three (x y : Bool) : opB 3 x y = (x && !y) := by simp [opB]
section
variable (A B : Option Addr) (n m ca cb : Nat) (L M : List Cl) (w : World) (ha : Reads w w.heap.size 3 A n (cvs L)) (hb : Reads w w.heap.size 3 B m (cvs M)) (hn : n ≤ maxLen) (hm : m ≤ maxLen)
include ha hb hn hm
theorem Union_any : Calls Try.prog 9 #[.slice A n ca, .slice B m cb] w (RetCells w (mkR 1 L M) (mkE 1 L M)) := by
  have K := Lib.hid (made_any 1 34 (enters_of Try.func34 (by kernel_rfl) rfl) (fun x y W => by rw [opB_one]; exact rule_or x y W) A B n m ca cb L M w ha hb hn hm)
  clear ha hb hn hm
  go_enter Try.func9, Try.ntmps9
  go_wp2_with fail
  (with_reducible refine K.out.mono ?_)
  rintro e w1 ⟨v, rfl, h1, h2⟩
  go_wp2
  go_ret2
  exact ⟨_, rfl, h1, h2⟩
end
theorem comb_ins {a b : List Cl} (ha : vrB a = true) (hb : vrB b = true) : insL a b = decide ((combE (opB 3) (edgesOf (coverL a) (coverL b)) (coverL a) (coverL b)).length = 0) := by
  obtain ⟨a1, a2, a3⟩ := vr_parts ha
  obtain ⟨b1, b2, b3⟩ := vr_parts hb
  unfold insL
  rw [decide_eq_decide, List.length_eq_zero_iff]
  exact (comb_empty _ a b a3 b3 (edgesOf_sorted _ _) (edgesOf_mem _ _)).symm
end Go.Proofs.Ytlhdneeiikemjaa
/- Contracts of Go's library at this seat's numbers, laid by the kit's tools. -/
namespace Go.Proofs
open Go.Shelf
def Try.growCell_ren : Go.Shelf.Ren := ⟨fun | 4 => 35 | n => n, fun | 22 => 23 | 25 => 25 | 3 => 3 | 4 => 4 | 9 => 9 | 20 => 20 | 0 => 0 | n => n, fun | n => n⟩
theorem Try.growCell : Go.Proofs.Lays8.n4 Try.prog Try.growCell_ren := {
  mixed := by kernel_rfl
  f4 := ⟨Try.f35.name, by decide, Try.func35.trans (congrArg some (by kernel_rfl))⟩
  t0 := Try.underlying0
  a0 := Try.isAgg0
  z0 := Try.sizeOf0
  v0 := Try.zeroValue0
  t3 := Try.underlying3
  a3 := Try.isAgg3
  z3 := Try.sizeOf3
  v3 := Try.zeroValue3
  t4 := Try.underlying4
  a4 := Try.isAgg4
  z4 := Try.sizeOf4
  v4 := Try.zeroValue4
  t9 := Try.underlying9
  a9 := Try.isAgg9
  z9 := Try.sizeOf9
  v9 := Try.zeroValue9
  t20 := Try.underlying20
  a20 := Try.isAgg20
  z20 := Try.sizeOf20
  v20 := Try.zeroValue20
  t22 := Try.underlying23
  a22 := Try.isAgg23
  z22 := Try.sizeOf23
  v22 := Try.zeroValue23 }
def Try.mul_ren : Go.Shelf.Ren := ⟨fun | 212 => 36 | 263 => 68 | 264 => 69 | n => n, fun | 46 => 69 | 51 => 106 | 146 => 107 | 53 => 109 | 148 => 110 | n => n, fun | n => n⟩
theorem Try.mul : Go.Proofs.Lays.n212 Try.prog Try.mul_ren := {
  mixed := by kernel_rfl
  f212 := Try.func36.trans (congrArg some (by kernel_rfl))
  f263 := Try.func68.trans (congrArg some (by kernel_rfl))
  f264 := Try.func69.trans (congrArg some (by kernel_rfl))
  t46 := Try.underlying69
  a46 := Try.isAgg69
  z46 := Try.sizeOf69
  v46 := Try.zeroValue69
  t51 := Try.underlying106
  a51 := Try.isAgg106
  z51 := Try.sizeOf106
  v51 := Try.zeroValue106
  t53 := Try.underlying109
  a53 := Try.isAgg109
  z53 := Try.sizeOf109
  v53 := Try.zeroValue109
  t146 := Try.underlying107
  a146 := Try.isAgg107
  z146 := Try.sizeOf107
  v146 := Try.zeroValue107
  t148 := Try.underlying110
  a148 := Try.isAgg110
  z148 := Try.sizeOf110
  v148 := Try.zeroValue110 }
end Go.Proofs
/- slices.Repeat at cells, a list of one cell. -/
namespace Go.Proofs.Ytlhdneeiikemjaa
open Go.RowKit
/-- a row of N cells of which the first k are x -/
def RepRow (w : World) (g : Nat) (t : TypeId) (x : Cl) (k N : Nat) : Prop :=
  ∃ cur, w.heap[g]? = some (.cells cur t (0, 0)) ∧ cur.size = N * 3 ∧ cur.toList.take (k * 3) = cvs (List.replicate k x)
theorem rep_len (k : Nat) (x : Cl) : (cvs (List.replicate k x)).length = k * 3 := by rw [cvs_length, List.length_replicate]
theorem rep_at {w : World} {g : Nat} {t : TypeId} {x : Cl} {k N m : Nat} (h : RepRow w g t x k N) (hm : m ≤ k) :
    ∀ j v, (cvs (List.replicate m x))[j]? = some v → w.cell? ((⟨g, 0, none⟩ : Addr).add j) = some v := by
  intro j v hj
  obtain ⟨cur, hg, hs, ht⟩ := h
  have hl : j < m * 3 := by
    rw [← rep_len m x]
    rcases Nat.lt_or_ge j (cvs (List.replicate m x)).length with h | h
    · exact h
    · rw [List.getElem?_eq_none h] at hj; cases hj
  have e : cvs (List.replicate k x) = cvs (List.replicate m x) ++ cvs (List.replicate (k - m) x) := by
    rw [← cvs_append, List.replicate_append_replicate, show m + (k - m) = k by omega]
  have hk : (cvs (List.replicate k x))[j]? = some v := by
    rw [e, List.getElem?_append_left (by rw [rep_len]; exact hl)]
    exact hj
  rw [← ht, List.getElem?_take] at hk
  rw [if_pos (by omega)] at hk
  rw [Go.WideShapes.add_plain]
  simp only [Nat.zero_add]
  rw [show w.cell? ⟨g, j, none⟩ = cur[j]? by simp [World.cell?, hg]]
  simpa using hk
theorem run_copy_rep {P : Program} (w : World) (dT sT ty elem : TypeId) (g k N m dLen dCap sLen sCap : Nat) (a : Addr) (t : TypeId) (x : Cl)
    (hu : P.underlying dT = some (.slice elem)) (hs : (P.info? elem).map (·.size) = some 3) (h : RepRow w g t x k N) (hm : m = Nat.min sLen dLen) (hfit : k + m ≤ N)
    (hsrc : ∀ j v, (cvs (List.replicate m x))[j]? = some v → w.cell? (a.add j) = some v) :
    ∃ w', (Builtin.copy_ #[dT, sT] ty #[.slice (some ⟨g, k * 3, none⟩) dLen dCap, .slice (some a) sLen sCap]).run P w = .ok (goInt m) w' ∧ RepRow w' g t x (k + m) N ∧ (∀ B w0, Below B w0 w → B ≤ g → Below B w0 w') := by
  obtain ⟨cur, hg, hsz, ht⟩ := h
  have hl := run_loadCells_list (P := P) w a _ hsrc
  rw [rep_len] at hl
  have hst := run_storeCells_at P g (k * 3) t (cvs (List.replicate m x)) 0 cur w hg (by rw [rep_len, hsz]; omega) (cvs_one _)
  obtain ⟨W', hW⟩ : ∃ W', W' = w.setRow g (cur.toList.take (k * 3 + 0) ++ cvs (List.replicate m x) ++ cur.toList.drop (k * 3 + 0 + (cvs (List.replicate m x)).length)).toArray := ⟨_, rfl⟩
  rw [← hW] at hst
  refine ⟨W', ?_, ?_, ?_⟩
  · cases hq : P.info? elem with
    | none => simp [hq] at hs
    | some i =>
      have hi : i.size = 3 := by simpa [hq] using hs
      simp [Builtin.copy_, run_underlying hu, Builtin.lenOf, Builtin.firstCells, sizeOf, typeInfo, hq, hi, ← hm, hl, hst]
  · subst hW
    refine ⟨_, setRow_heap w g _ _ t _ hg, ?_, ?_⟩
    · simp only [List.size_toArray, List.length_append, List.length_take, List.length_drop, rep_len, Array.length_toList, hsz]
      omega
    · simp only [Nat.add_zero, ht]
      rw [List.append_assoc, List.take_append, List.take_append, rep_len, rep_len, Nat.add_mul, show k * 3 + m * 3 - k * 3 = m * 3 by omega, Nat.sub_self, List.take_zero, List.append_nil, List.take_of_length_le (by rw [rep_len]; omega), List.take_of_length_le (by rw [rep_len]; omega), ← cvs_append, List.replicate_append_replicate]
  · subst hW
    intro B w0 hb hB
    exact hb.trans ⟨rfl, rfl, rfl, by simp [World.setRow], fun j hj => setRow_other w g j _ (by omega)⟩
theorem wp_copy_at {P : Program} (w : World) {o : Oper} {a : Act} {K : Act → World → Prop} {Q : Exit → Act → World → Prop} (d s : Operand) (t t' : TypeId)
    (ho : o.op = .call { callee := .builtin .copy, args := #[d, s], argTypes := #[t, t'] }) (v u : Value) (hd : a.eval d = v) (hs : a.eval s = u) {v' : Value} {w' : World}
    (hr : (Builtin.copy_ #[t, t'] o.type #[v, u]).run P w = .ok v' w') (h : K (a.put o.dst v') w') : o.wp P a w K Q := by
  unfold Oper.wp execOp
  simp only [ho, resolve, invoke, builtin, Sem.run_bind, Sem.run_pure, Result.andThen_ok, List.map_toArray, List.map_cons, List.map_nil, hd, hs, hr]
  exact h
theorem wpList_copy_rep {P : Program} (w : World) {ops : Array Oper} {rest : List Oper} {o : Oper} {a : Act} {Q : Exit → Act → World → Prop} (hgd : o.guard = none) (d s : Operand) (dT sT : TypeId)
    (ho : o.op = .call { callee := .builtin .copy, args := #[d, s], argTypes := #[dT, sT] }) (elem : TypeId) (g k N m dLen dCap sLen sCap : Nat) (ad : Addr) (t : TypeId) (x : Cl)
    (hd : a.eval d = .slice (some ⟨g, k * 3, none⟩) dLen dCap) (hsv : a.eval s = .slice (some ad) sLen sCap)
    (hu : P.underlying dT = some (.slice elem)) (hs : (P.info? elem).map (·.size) = some 3) (h : RepRow w g t x k N) (hm : m = Nat.min sLen dLen) (hfit : k + m ≤ N)
    (hsrc : ∀ j v, (cvs (List.replicate m x))[j]? = some v → w.cell? (ad.add j) = some v)
    (hK : ∀ w', RepRow w' g t x (k + m) N → (∀ B w0, Below B w0 w → B ≤ g → Below B w0 w') → wpList P ops Q rest (a.put o.dst (goInt m)) w') : wpList P ops Q (o :: rest) a w := by
  obtain ⟨w', hr, h1, h2⟩ := run_copy_rep w dT sT o.type elem g k N m dLen dCap sLen sCap ad t x hu hs h hm hfit hsrc
  exact wpList_plain hgd fun _ hK2 => wp_copy_at w d s dT sT ho _ _ hd hsv hr (hK2 _ _ (hK w' h1 h2))
theorem step_copy_rep {P : Program} (w : World) {ops : Array Oper} {o : Oper} {a : Act} {K : Act → World → Prop} {Q : Exit → Act → World → Prop} {E : Prop} (hgd : o.guard = none) (d s : Operand) (dT sT : TypeId)
    (ho : o.op = .call { callee := .builtin .copy, args := #[d, s], argTypes := #[dT, sT] }) (elem : TypeId) (g k N m dLen dCap sLen sCap : Nat) (ad : Addr) (t : TypeId) (x : Cl)
    (hd : a.eval d = .slice (some ⟨g, k * 3, none⟩) dLen dCap) (hsv : a.eval s = .slice (some ad) sLen sCap)
    (hu : P.underlying dT = some (.slice elem)) (hs : (P.info? elem).map (·.size) = some 3) (h : RepRow w g t x k N) (hm : m = Nat.min sLen dLen) (hfit : k + m ≤ N)
    (hsrc : ∀ j v, (cvs (List.replicate m x))[j]? = some v → w.cell? (ad.add j) = some v)
    (hK : ∀ w', RepRow w' g t x (k + m) N → (∀ B w0, Below B w0 w → B ≤ g → Below B w0 w') → K (a.put o.dst (goInt m)) w') :
    if Region.wanted o (yielded ops a.tmps) = true then Oper.wp P o a w K Q else E := by
  have hw : Region.wanted o (yielded ops a.tmps) = true := by simp [Region.wanted, hgd]
  rw [if_pos hw]
  obtain ⟨w', hr, h1, h2⟩ := run_copy_rep w dT sT o.type elem g k N m dLen dCap sLen sCap ad t x hu hs h hm hfit hsrc
  exact wp_copy_at w d s dT sT ho _ _ hd hsv hr (hK w' h1 h2)
theorem made_row (w : World) (N : Nat) (z : Array Value) (t : TypeId) (x : Cl) : RepRow (w.alloc (.cells (madeCells z (N * 3)) t)) w.heap.size t x 0 N :=
  ⟨_, heap_alloc_new w _, by rw [size_madeCells], by simp [cvs]⟩
theorem rep_own {w : World} {g N base : Nat} {t : TypeId} {x : Cl} (h : RepRow w g t x N N) (hb : base ≤ g) (hN : N ≤ maxLen) : w.ownsRow base t 3 (.slice (some ⟨g, 0, none⟩) N N) N (cvs (List.replicate N x)) := by
  obtain ⟨cur, hg, hs, ht⟩ := h
  exact ⟨rep_len N x, .inr ⟨g, N, cur, rfl, hb, hg, Nat.le_refl _, hN, hs, ht⟩⟩
end Go.Proofs.Ytlhdneeiikemjaa
namespace Go.Proofs.Ytlhdneeiikemjaa
open Go.RowKit
set_option maxHeartbeats 4000000 in
set_option maxRecDepth 100000 in
theorem Repeat_any (x : Cl) (A : Option Addr) (c N : Nat) (w : World) (hr : Reads w w.heap.size 3 A 1 (cv x)) (h0 : 0 < N) (hN : N ≤ 20000) :
    Calls Try.prog 11 #[.slice A 1 c, .int .i64 N] w (RetCells1 w (List.replicate N x)) := by
  have KM : ∀ W, Calls Try.prog 36 #[.int .u64 1, .int .u64 (N : Int)] W fun e w' => e = .returned (.tuple #[.int .u64 0, .int .u64 (N : Int)]) ∧ w' = W := fun W => by
    have h := Any.bits_Mul Try.mul 1 N (by omega) (by omega) W
    rw [show 1 * N / 18446744073709551616 = 0 by omega, show 1 * N % 18446744073709551616 = N by omega] at h
    exact h
  have HM := Lib.hid KM
  clear KM
  obtain ⟨ad, rfl, hb, hc⟩ := hr.2 (by omega)
  have HC := Lib.hid hc
  clear hc hr
  obtain ⟨i0, hi0, hz0, hz1, hzb⟩ := info_parts Try.infoCell
  have hmk : ∀ W, (Instr.makeSlice 23 (.int .i64 (N : Int)) (.int .i64 (N : Int))).run Try.prog W = .ok (.slice (some ⟨W.heap.size, 0, none⟩) N N) (W.alloc (.cells (madeCells #[.int .i64 0, .int .i64 0, .int .i64 0] (N * 3)) 25)) := fun W => by
    have h := run_make (P := Try.prog) W 23 25 i0 _ Try.underlying23 hi0 hz0 .i64 .i64 N N (by omega) (Int.le_refl _) (by rw [hzb]; omega) (by omega)
    rw [hz1, Int.toNat_natCast] at h
    exact h
  have n0 : ¬ (N : Int) < 0 := by omega
  have n1 : IntKind.u64.wrap (N : Int) = N := by rw [IntKind.wrap_u64]; omega
  have n2 : IntKind.i64.wrap (N : Int) = N := by rw [IntKind.wrap_i64]; omega
  have n3 : ¬ (N : Int) > 9223372036854775807 := by omega
  go_enter Try.func11, Try.ntmps11
  have hsz : (Try.prog.info? 25).map (·.size) = some 3 := by rw [hi0]; simp [hz1]
  have HR0 := Lib.hid (made_row w N #[.int .i64 0, .int .i64 0, .int .i64 0] 25 x)
  have hb0 := bl_alloc w (.cells (madeCells #[.int .i64 0, .int .i64 0, .int .i64 0] (N * 3)) 25)
  have HS : Hid (∀ j v, (cvs (List.replicate 1 x))[j]? = some v → (w.alloc (.cells (madeCells #[.int .i64 0, .int .i64 0, .int .i64 0] (N * 3)) 25)).cell? (ad.add j) = some v) := Lib.hid (fun j v hj => (hb0.cell (by rw [block_of_add]; exact hb)).trans (HC.out j v (by simpa [cvs] using hj)))
  go_wp2_with (first | (go_at_call 36; (with_reducible refine (HM.out _).mono ?_); rintro e w1 ⟨rfl, rfl⟩) | ((refine wpList_copy_rep _ rfl (.tmp 31) (.tmp 32) _ _ rfl 25 w1.heap.size 0 N 1 N N 1 c ad 25 x (by simp [Act.eval, Act.put]) (by simp [Act.eval, Act.put]) Try.underlying23 hsz HR0.out (by show 1 = min 1 N; omega) (by omega) HS.out ?_); intro w2 h2 hk2))
  have HR1 := Lib.hid h2
  have b2 := hk2 _ _ hb0 (Nat.le_refl _)
  clear h2 hk2 hb0 HR0 HS HC hb
  go_loopw [8] (fun i wr => ∃ k : Nat, 1 ≤ k ∧ k ≤ N ∧ i = .int .i64 k ∧ RepRow wr w1.heap.size 25 x k N ∧ Below w1.heap.size w1 wr) (fun i _ => N - (intOf i).toNat)
  case atStart => exact ⟨1, Nat.le_refl _, by omega, rfl, by simpa using HR1.out, b2⟩
  case round =>
    obtain ⟨k, hk1, hkN, rfl, hrow, hbr⟩ := hrel
    clear HR1 b2
    by_cases hlt : k < N
    · have HRR := Lib.hid hrow
      clear hrow
      have m1 : (k : Int) < N := by omega
      have m2 : (k : Int).toNat = k := by omega
      have m3 : ((N : Int) - (k : Int)).toNat = N - k := by omega
      have m4 : (0 : Int) ≤ (k : Int) := by omega
      have m5 : (k : Int) ≤ N := by omega
      obtain ⟨m, hm⟩ : ∃ m, m = Nat.min k (N - k) := ⟨_, rfl⟩
      have hm1 : m ≤ k := by rw [hm]; exact Nat.min_le_left _ _
      have hm2 : m ≤ N - k := by rw [hm]; exact Nat.min_le_right _ _
      have hm3 : 1 ≤ m := by rw [hm]; show 1 ≤ min k (N - k); omega
      have HM1 := Lib.hid hm
      clear hm
      go_wp2
      go_region_law (refine step_copy_rep _ rfl (.tmp 41) (.tmp 44) _ _ rfl 25 w1.heap.size k N m (N - k) (N - k) k N ⟨w1.heap.size, 0, none⟩ 25 x (by simp [Act.eval, Act.put] <;> omega) (by simp [Act.eval, Act.put]) Try.underlying23 hsz HRR.out HM1.out (by omega) (rep_at HRR.out hm1) ?_; intro w3 h3 hk3)
      all_goals
        have b3 := hk3 _ _ (bl_drew hbr) (Nat.le_refl _)
        go_wp2
        go_roundw
        case rel => exact ⟨k + m, by omega, by omega, by rw [IntKind.wrap_i64]; omega, h3⟩
        case measure =>
          rw [show IntKind.i64.wrap ((k : Int) + (m : Int)) = ((k + m : Nat) : Int) by rw [IntKind.wrap_i64]; omega]
          simp only [intOf]
          omega
    · obtain rfl : k = N := by omega
      go_wp2
      go_ret
      exact ⟨_, rfl, by rw [List.length_replicate]; exact rep_own hrow (Nat.le_refl _) (by simp only [maxLen]; omega), hbr⟩
end Go.Proofs.Ytlhdneeiikemjaa
