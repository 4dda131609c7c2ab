/- Walks of the reference's has, holds, below. -/
import Derived.Test.YtlhdneeiikemjaaGWn
import Derived.Test.YtlhdneeiikemjaaGWj
set_option linter.unusedVariables false
set_option linter.unusedSimpArgs false
/- The walk of Tidy. -/
namespace Go.Proofs.Ytlhdneeiikemjaa
open Go.RowKit
theorem spOk_spI (x : Cl) (hv : vldB x.1 x.2.1 x.2.2 = true) : 0 ≤ (spI x).1 ∧ (spI x).1 < (spI x).2 ∧ (spI x).2 ≤ 8589934592 := by
  obtain ⟨h0, h1, h2, h3, h4, h5⟩ := vldB_true.1 hv
  obtain ⟨l, r, c⟩ := x
  obtain ⟨l, rfl⟩ := Int.eq_ofNat_of_zero_le h0
  obtain ⟨r, rfl⟩ := Int.eq_ofNat_of_zero_le h2
  obtain ⟨c, rfl⟩ := Int.eq_ofNat_of_zero_le h4
  simp only [pw, Int.toNat_natCast] at h3 h5
  have h5' : c < 2 * 2 ^ l := by exact_mod_cast h5
  have hb := sp_bd l r c (by simp only [] at h1; omega) h5'
  have hp := csz_pos l
  have h6 : (mort l r c + 1) * csz l = mort l r c * csz l + csz l := by rw [Nat.add_mul]; simp
  simp only [spI, spF, spT, mortI, Int.toNat_natCast]
  omega
theorem spOk_mrg (M : List Sp) (s : Sp) (hM : SpOk M) (hs : 0 ≤ s.1 ∧ s.1 < s.2 ∧ s.2 ≤ 8589934592) : SpOk (mrg M s) := by
  rcases snoc_cases M with rfl | ⟨M', t, rfl⟩
  · rw [mrg_nil]
    intro x hx
    simp at hx
    subst hx
    exact hs
  · have ht := hM t (by simp)
    by_cases h : s.1 ≤ t.2
    · rw [mrg_in _ _ _ h]
      intro x hx
      simp at hx
      rcases hx with hx | rfl
      · exact hM x (by simp [hx])
      · simp only []
        omega
    · rw [mrg_out _ _ _ h]
      intro x hx
      simp only [List.mem_append, List.mem_singleton] at hx
      rcases hx with hx | rfl
      · exact hM x (by simpa using hx)
      · exact hs
theorem spOk_merge (D : List Sp) (hD : SpOk D) : SpOk (mergeS D) := by
  have : ∀ (D M : List Sp), SpOk D → SpOk M → SpOk (D.foldl mrg M) := by
    intro D
    induction D with
    | nil => intro M _ hM; exact hM
    | cons x r ih =>
      intro M hD hM
      exact ih _ (fun y hy => hD y (by simp [hy])) (spOk_mrg M x hM (hD x (by simp)))
  exact this D [] hD (fun _ h => by simp at h)
theorem spOk_cover (L : List Cl) (hv : ∀ x ∈ L, vldB x.1 x.2.1 x.2.2 = true) : SpOk (coverL L) := by
  refine spOk_merge _ fun s hs => ?_
  have h := (List.mem_mergeSort).1 hs
  simp only [List.mem_map] at h
  obtain ⟨x, hx, rfl⟩ := h
  exact spOk_spI x (hv x hx)
def badL (L : List Cl) : Bool := L.any fun x => !(vldB x.1 x.2.1 x.2.2)
theorem badL_false {L : List Cl} (h : badL L = false) : ∀ x ∈ L, vldB x.1 x.2.1 x.2.2 = true := by
  intro x hx
  unfold badL at h
  rw [List.any_eq_false] at h
  simpa using h x hx
/-- what Tidy returns -/
def tidyR (L : List Cl) : List Cl := if badL L = true then [] else if 16000 < L.length then [] else if (tidyL (coverL L)).length ≤ 4000 then tidyL (coverL L) else []
def tidyE (L : List Cl) : Int := if badL L = true then 1 else if 16000 < L.length then 4 else if (tidyL (coverL L)).length ≤ 4000 then 0 else 4
theorem coverL_length (L : List Cl) : (coverL L).length ≤ L.length := by
  have h1 := mergeS_length (sortS (L.map spI))
  rw [sortS_length, List.length_map] at h1
  exact h1

set_option maxHeartbeats 1000000 in
theorem Tidy_any (A : Option Addr) (n c : Nat) (L : List Cl) (w : World) (hr : Reads w w.heap.size 3 A n (cvs L)) (hn : n ≤ maxLen) :
    Calls Try.prog 7 #[.slice A n c] w (RetCells w (tidyR L) (tidyE L)) := by
  have hl := hr.len
  have hbad := allValid_any A n c L w hr hn
  unfold maxLen at hn
  cases hb : badL L with
  | true =>
    have e1 : tidyR L = [] := by simp [tidyR, hb]
    have e2 : tidyE L = 1 := by simp [tidyE, hb]
    rw [e1, e2]
    change Calls _ _ _ _ fun e w' => e = .returned (.bool (badL L)) ∧ _ at hbad
    rw [hb] at hbad
    have hbad := Lib.hid hbad
    clear hb e1 e2 hl hr
    go_enter Try.func7, Try.ntmps7
    go_wp2_with (go_at_call 25; refine hbad.out.mono ?_; rintro e w1 ⟨rfl, hb1⟩)
    go_ret2
    exact ⟨_, rfl, own_nil _ _ _ _, hb1⟩
  | false =>
    have hv := badL_false hb
    change Calls _ _ _ _ fun e w' => e = .returned (.bool (badL L)) ∧ _ at hbad
    rw [hb] at hbad
    have hbad := Lib.hid hbad
    by_cases hbig : 16000 < n
    · have e1 : tidyR L = [] := by simp [tidyR, hb, hl, hbig]
      have e2 : tidyE L = 4 := by simp [tidyE, hb, hl, hbig]
      rw [e1, e2]
      clear hb e1 e2 hl hr
      go_enter Try.func7, Try.ntmps7
      go_wp2_with (go_at_call 25; refine hbad.out.mono ?_; rintro e w1 ⟨rfl, hb1⟩)
      go_ret2
      exact ⟨_, rfl, own_nil _ _ _ _, hb1⟩
    · have hok := spOk_cover L hv
      have hcl := coverL_length L
      rw [hl] at hcl
      have HR := Lib.hid hr
      have HV := Lib.hid hv
      have HO := Lib.hid hok
      by_cases hT : (tidyL (coverL L)).length ≤ 4000
      · have e1 : tidyR L = tidyL (coverL L) := by simp [tidyR, hb, hl, hbig, hT]
        have e2 : tidyE L = 0 := by simp [tidyE, hb, hl, hbig, hT]
        rw [e1, e2]
        clear hb e1 e2 hl hr hv hok
        go_enter Try.func7, Try.ntmps7
        go_wp2_with fail
        refine hbad.out.mono ?_
        rintro e w1 ⟨rfl, hb1⟩
        go_wp2_with fail
        (with_reducible refine (cover_any A n c L w1 ((HR.out.below hb1).more hb1.size) (by omega) HV.out).mono ?_)
        rintro e w2 ⟨v, rfl, hown, hb2⟩
        obtain ⟨A2, c2, hv2, hr2, -⟩ := own_form hown
        subst hv2
        have hb12 := hb1.trans (hb2.mono hb1.size)
        go_wp2_with fail
        (with_reducible refine (tidy_any A2 (coverL L).length c2 (coverL L) w2 hr2 (by omega) HO.out).mono ?_)
        rintro e w3 ⟨hb3, hcase⟩
        rcases hcase with ⟨_, v3, rfl, hown3⟩ | ⟨hx, _⟩
        · go_wp2
          go_ret2
          exact ⟨_, rfl, own_mono hown3 hb12.size, hb12.trans (hb3.mono hb12.size)⟩
        · omega
      · have e1 : tidyR L = [] := by simp [tidyR, hb, hl, hbig, hT]
        have e2 : tidyE L = 4 := by simp [tidyE, hb, hl, hbig, hT]
        rw [e1, e2]
        clear hb e1 e2 hl hr hv hok
        go_enter Try.func7, Try.ntmps7
        go_wp2_with fail
        refine hbad.out.mono ?_
        rintro e w1 ⟨rfl, hb1⟩
        go_wp2_with fail
        (with_reducible refine (cover_any A n c L w1 ((HR.out.below hb1).more hb1.size) (by omega) HV.out).mono ?_)
        rintro e w2 ⟨v, rfl, hown, hb2⟩
        obtain ⟨A2, c2, hv2, hr2, -⟩ := own_form hown
        subst hv2
        have hb12 := hb1.trans (hb2.mono hb1.size)
        go_wp2_with fail
        (with_reducible refine (tidy_any A2 (coverL L).length c2 (coverL L) w2 hr2 (by omega) HO.out).mono ?_)
        rintro e w3 ⟨hb3, hcase⟩
        rcases hcase with ⟨hx, _⟩ | ⟨_, rfl⟩
        · omega
        · go_wp2
          go_ret2
          exact ⟨_, rfl, own_nil _ _ _ _, hb12.trans (hb3.mono hb12.size)⟩
end Go.Proofs.Ytlhdneeiikemjaa
/- The walk of law38's awake; comparison of places. -/
namespace Go.Proofs.Ytlhdneeiikemjaa
open Go.RowKit
def peq (a b c d a' b' c' d' : Int) : Bool := decide (a = a' ∧ b = b' ∧ c = c' ∧ d = d')
theorem equalInPlace (a b c d a' b' c' d' : Int) (w : World) : (Op.equalIn 10000 56 (.agg #[.int .i64 a, .int .i64 b, .int .i64 c, .int .i64 d]) (.agg #[.int .i64 a', .int .i64 b', .int .i64 c', .int .i64 d'])).run Try.prog w = .ok (peq a b c d a' b' c' d') w := by
  have u3 := Try.underlying3
  have a3 := Try.isAgg3
  have z3 := Try.sizeOf3
  have hS : Try.prog.underlying 56 = some (.struct (Try.prog.fieldsOf 56)) := by kernel_rfl
  have hp : Try.prog.stoodInHeld 56 = false := by kernel_rfl
  have hS2 : Try.prog.underlying 38 = some (.struct (Try.prog.fieldsOf 38)) := by kernel_rfl
  have hp2 : Try.prog.stoodInHeld 38 = false := by kernel_rfl
  have hA : ∀ (x y x' y' : Int) (w : World), (Op.equalIn 9999 38 (.agg #[.int .i64 x, .int .i64 y]) (.agg #[.int .i64 x', .int .i64 y'])).run Try.prog w = .ok (decide (x = x' ∧ y = y')) w := by
    intro x y x' y' w
    rw [show (9999 : Nat) = 9998 + 1 from rfl, run_equalIn_agg w 9998 38 _ _ hS2 hp2]
    simp only [Program.fieldsOf, Try.underlying38]
    go_simp
    by_cases h1 : x = x' <;> by_cases h2 : y = y' <;> simp [h1, h2]
  rw [show (10000 : Nat) = 9999 + 1 from rfl, run_equalIn_agg w 9999 56 _ _ hS hp]
  simp only [Program.fieldsOf, Try.underlying56]
  go_simp
  by_cases h1 : a = a' <;> by_cases h2 : b = b' <;> by_cases h3 : c = c' <;> by_cases h4 : d = d' <;> simp [peq, h1, h2, h3, h4]
theorem eqlPlace (a b c d a' b' c' d' : Int) (w : World) : (binOp .eql 56 (.agg #[.int .i64 a, .int .i64 b, .int .i64 c, .int .i64 d]) (.agg #[.int .i64 a', .int .i64 b', .int .i64 c', .int .i64 d'])).run Try.prog w = .ok (.bool (peq a b c d a' b' c' d')) w := by
  rw [run_eql_struct, equalInPlace]; rfl
theorem neqPlace (a b c d a' b' c' d' : Int) (w : World) : (binOp .neq 56 (.agg #[.int .i64 a, .int .i64 b, .int .i64 c, .int .i64 d]) (.agg #[.int .i64 a', .int .i64 b', .int .i64 c', .int .i64 d'])).run Try.prog w = .ok (.bool (!(peq a b c d a' b' c' d'))) w := by
  rw [run_neq_struct, equalInPlace]; rfl
/-- a sorted list with the same members is the sorted one -/
theorem sortS_eq (D S : List Sp) (hp : S.Perm D) (hs : S.Pairwise fun x y => (!(ltOf cmpS) y x) = true) : sortS D = S := by
  refine List.Perm.eq_of_pairwise (le := fun x y => (!(ltOf cmpS) y x) = true) ?_ ?_ hs ((List.mergeSort_perm _ _).trans hp.symm)
  · intro a b _ _ h1 h2
    simp only [Bool.not_eq_true', ltOf_cmpS, decide_eq_false_iff_not] at h1 h2
    exact Prod.ext (by omega) (by omega)
  · refine List.pairwise_mergeSort ?_ ?_ _
    · intro a b c h1 h2
      simp only [Bool.not_eq_true', ltOf_cmpS, decide_eq_false_iff_not] at h1 h2 ⊢
      omega
    · intro a b
      simp only [Bool.or_eq_true, Bool.not_eq_true', ltOf_cmpS, decide_eq_false_iff_not]
      omega
def exL : List Cl := [(1, 1, 0), (1, 0, 0), (1, 0, 1), (1, 1, 1)]
theorem exL_sort : sortS (exL.map spI) = [(0, 1073741824), (1073741824, 2147483648), (2147483648, 3221225472), (3221225472, 4294967296)] := by
  refine sortS_eq _ _ ?_ (by decide +kernel)
  decide +kernel
theorem exL_cover : coverL exL = [(0, 4294967296)] := by
  unfold coverL
  rw [exL_sort]
  decide +kernel
theorem exL_tidy : tidyL (coverL exL) = [(0, 0, 0)] := by
  rw [exL_cover]
  decide +kernel
theorem tidyEx : tidyR exL = [(0, 0, 0)] := by
  have h1 : badL exL = false := by decide +kernel
  have h2 : exL.length = 4 := rfl
  simp [tidyR, h1, h2, exL_tidy]
theorem tidyExE : tidyE exL = 0 := by
  have h1 : badL exL = false := by decide +kernel
  have h2 : exL.length = 4 := rfl
  simp [tidyE, h1, h2, exL_tidy]
theorem box112 : boxV 1 1 2 = .agg #[.int .i64 0, .int .i64 5400000, .int .i64 0, .int .i64 5400000] := by
  have e1 : edg 1 1 - 5400000 = 0 := by decide +kernel
  have e2 : edg (1 + 1) 1 - 5400000 = 5400000 := by decide +kernel
  have e3 : edg 2 1 - 10800000 = 0 := by decide +kernel
  have e4 : edg (2 + 1) 1 - 10800000 = 5400000 := by decide +kernel
  unfold boxV
  rw [e1, e2, e3, e4]
theorem idxa : idx (0 + 5400000) 1 (pw 1 - 1) = 1 := by decide +kernel
theorem idxb : idx (0 + 10800000) 1 (2 * pw 1 - 1) = 2 := by decide +kernel
theorem Box112 (w : World) : Calls Try.prog 28 #[.agg #[.int .i64 1, .int .i64 1, .int .i64 2]] w fun e w' => e = .returned (.tuple #[.agg #[.int .i64 0, .int .i64 5400000, .int .i64 0, .int .i64 5400000], .int .i64 0]) ∧ Below w.heap.size w w' := by
  rw [← box112]
  exact Box_yes 1 1 2 w (by decide +kernel)
theorem Of001 (w : World) : Calls Try.prog 29 #[.agg #[.int .i64 0, .int .i64 0], .int .i64 1] w fun e w' => e = .returned (.tuple #[.agg #[.int .i64 1, .int .i64 1, .int .i64 2], .int .i64 0]) ∧ Below w.heap.size w w' := by
  have h := Of_yes 0 0 1 w (by decide +kernel) (by omega) (by omega)
  rw [idxa, idxb] at h
  exact h
theorem reads_new12 (w : World) (t : TypeId) : Reads (w.alloc (.cells (cvs exL).toArray t)) (w.heap.size + 1) 3 (some ⟨w.heap.size, 0, none⟩) 4 (cvs exL) := by
  refine ⟨rfl, fun _ => ⟨_, rfl, by simp, fun j u hu => ?_⟩⟩
  rw [Go.WideShapes.add_plain]
  simp [hu]
theorem TidyEx (w : World) (g : Nat) (hg : g = w.heap.size) : Calls Try.prog 7 #[.slice (some ⟨g, 0, none⟩) 4 4] (w.alloc (.cells #[.int .i64 1, .int .i64 1, .int .i64 0, .int .i64 1, .int .i64 0, .int .i64 0, .int .i64 1, .int .i64 0, .int .i64 1, .int .i64 1, .int .i64 1, .int .i64 1] 25)) (RetCells (w.alloc (.cells #[.int .i64 1, .int .i64 1, .int .i64 0, .int .i64 1, .int .i64 0, .int .i64 0, .int .i64 1, .int .i64 0, .int .i64 1, .int .i64 1, .int .i64 1, .int .i64 1] 25)) [(0, 0, 0)] 0) := by
  subst hg
  have h := Tidy_any (some ⟨w.heap.size, 0, none⟩) 4 4 exL (w.alloc (.cells (cvs exL).toArray 25)) ((reads_new12 w _).more (by simp)) (by simp [maxLen])
  rw [tidyEx, tidyExE] at h
  exact h
theorem reads_new3 (w : World) (a b c : Int) (t : TypeId) (B : Nat) (hB : w.heap.size < B) : Reads (w.alloc (.cells #[.int .i64 a, .int .i64 b, .int .i64 c] t)) B 3 (some ⟨w.heap.size, 0, none⟩) 1 (cvs [(a, b, c)]) := (reads_new w a b c t).more hB

set_option maxHeartbeats 1000000 in
set_option maxRecDepth 100000 in
theorem awake38 (w : World) : Calls Try.prog 6 #[] w fun e w' => e = .returned (.bool true) ∧ Below w.heap.size w w' := by
  have hq := eqlPlace
  have hq2 := eqlCell
  have k1 : peq 0 5400000 0 5400000 0 5400000 0 5400000 = true := by decide
  have k2 : ceq (1, 1, 2) (1, 1, 2) = true := by decide
  go_enter Try.func6, Try.ntmps6
  go_wp2_with fail
  (with_reducible refine (Box112 _).mono ?_)
  rintro e w1 ⟨rfl, hb1⟩
  go_wp2_with fail
  (with_reducible refine (Of001 _).mono ?_)
  rintro e w2 ⟨rfl, hb2⟩
  have z1 := one_lt hb2
  have B1 := (Blk.new w1 56 #[.int .i64 0, .int .i64 5400000, .int .i64 0, .int .i64 5400000]).below hb2 (by simp)
  have hb12 := hb1.trans ((one_bl hb2).mono hb1.size)
  clear hb2
  go_wp2_with fail
  (with_reducible refine (TidyEx _ _ (by simp)).mono ?_)
  rintro e w3 ⟨v, rfl, hown, hb3⟩
  obtain ⟨z2, z3⟩ := two_lt hb3
  have B1' := ((B1.alloc (.cells #[.int .i64 1, .int .i64 1, .int .i64 2] 25)).alloc (.cells #[.int .i64 1, .int .i64 1, .int .i64 0, .int .i64 1, .int .i64 0, .int .i64 0, .int .i64 1, .int .i64 0, .int .i64 1, .int .i64 1, .int .i64 1, .int .i64 1] 25)).below hb3 (by simp; omega)
  have B2' := ((Blk.new w2 25 #[.int .i64 1, .int .i64 1, .int .i64 2]).alloc (.cells #[.int .i64 1, .int .i64 1, .int .i64 0, .int .i64 1, .int .i64 0, .int .i64 0, .int .i64 1, .int .i64 0, .int .i64 1, .int .i64 1, .int .i64 1, .int .i64 1] 25)).below hb3 (by simp; omega)
  have hb123 := hb12.trans ((two_bl hb3).mono hb12.size)
  have b0 : w3.cell? ⟨w1.heap.size, 0, none⟩ = some (.int .i64 0) := B1'.cell 0
  have b1 : w3.cell? ⟨w1.heap.size, 1, none⟩ = some (.int .i64 5400000) := B1'.cell 1
  have b2 : w3.cell? ⟨w1.heap.size, 2, none⟩ = some (.int .i64 0) := B1'.cell 2
  have b3 : w3.cell? ⟨w1.heap.size, 3, none⟩ = some (.int .i64 5400000) := B1'.cell 3
  have c0 : w3.cell? ⟨w2.heap.size, 0, none⟩ = some (.int .i64 1) := B2'.cell 0
  have c1 : w3.cell? ⟨w2.heap.size, 1, none⟩ = some (.int .i64 1) := B2'.cell 1
  have c2 : w3.cell? ⟨w2.heap.size, 2, none⟩ = some (.int .i64 2) := B2'.cell 2
  obtain ⟨A3, c3, hv3, hr3, hc3, hc3'⟩ := own_form hown
  subst hv3
  clear B1 B1' B2' hb3 hb12 hown z2 z3 z1
  have HR := Lib.hid hr3
  go_wp2_with fail
  (with_reducible refine (Same_any A3 (some ⟨w3.heap.size, 0, none⟩) 1 1 c3 1 [(0, 0, 0)] [(0, 0, 0)] _ w3.heap.size (w3.heap.size + 1) (HR.out.alloc (Nat.le_refl _) _) (reads_new3 w3 0 0 0 _ _ (by omega)) (by simp [maxLen]) (by simp [maxLen])).mono ?_)
  rintro e w4 ⟨rfl, q, rfl⟩
  go_wp2
  go_ret
  refine ⟨ret_bool (by simp), ?_⟩
  have hz := hb123.size
  repeat (first | exact Below.refl _ _ | assumption | refine bl_drew ?_ | refine bl_drewN ?_ _ | refine Below.setCell ?_ (by first | assumption | omega | (simp; done) | (simp; omega)) _ | refine Below.alloc ?_ (by first | assumption | omega | (simp; done) | (simp; omega)) _)
end Go.Proofs.Ytlhdneeiikemjaa
/- Walks of the reference's Within, has, holds. -/
namespace Go.Proofs.Ytlhdneeiikemjaa
open Go.RowKit
/-- whether a cell is inside another one -/
def wiB (x y : Cl) : Bool := decide (y.1 ≤ x.1 ∧ x.2.1 / 2 ^ (x.1 - y.1).toNat = y.2.1 ∧ x.2.2 / 2 ^ (x.1 - y.1).toNat = y.2.2)
set_option maxHeartbeats 1000000 in
set_option maxRecDepth 100000 in
theorem Within_any (l r c l' r' c' : Int) (w : World) (h0 : 0 ≤ l) (h1 : l ≤ 16) (h2 : 0 ≤ l') (h3 : l' ≤ 16) :
    Calls Try.prog 51 #[.agg #[.int .i64 l, .int .i64 r, .int .i64 c], .agg #[.int .i64 l', .int .i64 r', .int .i64 c']] w fun e w' => e = .returned (.bool (wiB (l, r, c) (l', r', c'))) ∧ Below w.heap.size w w' := by
  have s0 : IntKind.i64.wrap (l - l') = l - l' := IntWalk.i64_in _ (by omega)
  by_cases g0 : l' ≤ l
  · have g0' : 0 ≤ l - l' := by clear s0; omega
    have g1' : l - l' ≤ 64 := by clear s0; omega
    by_cases g1 : r / 2 ^ (l - l').toNat = r'
    · have e1 : (r / 2 ^ (l - l').toNat == r') = true := by simp [g1]
      by_cases g2 : c / 2 ^ (l - l').toNat = c'
      · have e2 : (c / 2 ^ (l - l').toNat == c') = true := by simp [g2]
        have hv : wiB (l, r, c) (l', r', c') = true := by simp [wiB, g0, g1, g2]
        rw [hv]
        clear hv g1 g2
        go_enter Try.func51, Try.ntmps51
        go_wp2
        go_quiet (fail)
        go_wp2
        go_ret
        refine ⟨rfl, ?_⟩
        clear s0 e1 e2
        repeat (first | exact Below.refl _ _ | assumption | refine bl_drew ?_ | refine bl_drewN ?_ _ | refine Below.setCell ?_ (by first | assumption | omega | (simp; done) | (simp; omega)) _ | refine Below.alloc ?_ (by first | assumption | omega | (simp; done) | (simp; omega)) _)
      · have e2 : (c / 2 ^ (l - l').toNat == c') = false := by simp [g2]
        have hv : wiB (l, r, c) (l', r', c') = false := by simp [wiB, g0, g1, g2]
        rw [hv]
        clear hv g1 g2
        go_enter Try.func51, Try.ntmps51
        go_wp2
        go_quiet (fail)
        go_wp2
        go_ret
        refine ⟨rfl, ?_⟩
        clear s0 e1 e2
        repeat (first | exact Below.refl _ _ | assumption | refine bl_drew ?_ | refine bl_drewN ?_ _ | refine Below.setCell ?_ (by first | assumption | omega | (simp; done) | (simp; omega)) _ | refine Below.alloc ?_ (by first | assumption | omega | (simp; done) | (simp; omega)) _)
    · have e1 : (r / 2 ^ (l - l').toNat == r') = false := by simp [g1]
      have hv : wiB (l, r, c) (l', r', c') = false := by simp [wiB, g0, g1]
      rw [hv]
      clear hv g1
      go_enter Try.func51, Try.ntmps51
      go_wp2
      go_quiet (fail)
      go_wp2
      go_ret
      refine ⟨rfl, ?_⟩
      clear s0 e1
      repeat (first | exact Below.refl _ _ | assumption | refine bl_drew ?_ | refine bl_drewN ?_ _ | refine Below.setCell ?_ (by first | assumption | omega | (simp; done) | (simp; omega)) _ | refine Below.alloc ?_ (by first | assumption | omega | (simp; done) | (simp; omega)) _)
  · have hd := decide_eq_false g0
    have hd2 : decide (0 ≤ l - l') = false := decide_eq_false (by clear s0; omega)
    have hv : wiB (l, r, c) (l', r', c') = false := by simp [wiB, g0]
    rw [hv]
    clear hv
    go_enter Try.func51, Try.ntmps51
    go_wp2
    go_quiet (fail)
    go_wp2
    go_ret
    refine ⟨rfl, ?_⟩
    clear s0
    repeat (first | exact Below.refl _ _ | assumption | refine bl_drew ?_ | refine bl_drewN ?_ _ | refine Below.setCell ?_ (by first | assumption | omega | (simp; done) | (simp; omega)) _ | refine Below.alloc ?_ (by first | assumption | omega | (simp; done) | (simp; omega)) _)
end Go.Proofs.Ytlhdneeiikemjaa
namespace Go.Proofs.Ytlhdneeiikemjaa
open Go.RowKit
def hasB (L : List Cl) (x : Cl) : Bool := L.any fun y => ceq y x
theorem hasB_succ (L : List Cl) (x : Cl) (k : Nat) (hk : k < L.length) (h : hasB (L.take k) x = false) (hp : ceq (gt L k) x = false) : hasB (L.take (k + 1)) x = false := any_take_succ L _ k hk h hp
def opB (op : Int) (x y : Bool) : Bool := if op = 1 then x || y else if op = 2 then x && y else x && !y
end Go.Proofs.Ytlhdneeiikemjaa
