/- Plain: parents and children of cells. No program in sight. -/
import Derived.Test.YtopfnffabaiceaaGJf
set_option linter.unusedVariables false
set_option linter.unusedSimpArgs false
/- Plain: two rows of finest cells are too many; the same cell many times. No program in sight. -/
namespace Go.Proofs.Ytopfnffabaiceaa
open Canon
/-! ### no spans, no cells -/
theorem cov_canonC (S : Nat → Prop) (q : Nat) (hq : q < 2 * 4 ^ 16) : covB ((canonC S).map blkOf) q = true ↔ S q := by
  rw [canonC_blk, cov_app, Bool.or_eq_true]
  by_cases h0 : q < 4 ^ 16
  · have c0 := cov_canon S 16 0 q (by omega) (by omega)
    have c1 := cov_canon_out S 16 1 q (by omega)
    rw [c0, c1]
    simp
  · have c0 := cov_canon_out S 16 0 q (by omega)
    have c1 := cov_canon S 16 1 q (by omega) (by omega)
    rw [c0, c1]
    simp
theorem tidyL_nil {D : List Sp} (hA : ApartI D) (hk : SpOk D) : tidyL D = [] ↔ D = [] := by
  constructor
  · intro h
    rw [tidyL_canon hA hk] at h
    match D, hA, hk, h with
    | [], _, _, _ => rfl
    | s :: r, hA, hk, h =>
      exfalso
      have hs := hk s (by simp)
      have := (cov_canonC (fun q => inI (s :: r) q) s.1.toNat (by omega)).2 ⟨s, by simp, by omega, by omega⟩
      rw [h] at this
      exact Bool.noConfusion this
  · rintro rfl
    rfl
theorem comb_empty (E : List Int) (a b : List Cl) (ha : AllV a) (hb : AllV b) (hE : E.Pairwise (· < ·)) (hm : ∀ x, x ∈ E ↔ (x ∈ endsS (coverL a) ∨ x ∈ endsS (coverL b))) :
    combE (opB 3) E (coverL a) (coverL b) = [] ↔ madeL 3 a b = [] := by
  obtain ⟨h1, h2⟩ := comb_made 3 E a b ha hb hE hm
  have hr : opB 3 false false = false := by simp [opB]
  have va : ∀ x ∈ a, vldB x.1 x.2.1 x.2.2 = true := fun x hx => (vl_iff x).2 (ha x hx)
  have vb : ∀ x ∈ b, vldB x.1 x.2.1 x.2.2 = true := fun x hx => (vl_iff x).2 (hb x hx)
  have h3 := (comb_good (opB 3) hr E (coverL a) (coverL b) hE hm (cover_good a va).1 (cover_good b vb).1).1
  rw [← h1]
  exact (tidyL_nil h3 h2).symm
/-! ### every other cell of a row -/
theorem mort_mono (l : Nat) : ∀ r c c' : Nat, c < c' → mort l r c < mort l r c' := by
  induction l with
  | zero => intro r c c' h; exact h
  | succ l ih =>
    intro r c c' h
    have e1 := mort_step l r c 0
    have e2 := mort_step l r c' 0
    simp only [Nat.pow_zero, Nat.div_one, Nat.zero_add, Nat.pow_one] at e1 e2
    rw [e1, e2]
    by_cases hh : c / 2 < c' / 2
    · have := ih (r / 2) _ _ hh
      omega
    · have : c / 2 = c' / 2 := by omega
      rw [this]
      omega
theorem mort_even (l r c : Nat) (h : c % 2 = 0) : mort (l + 1) r c % 2 = 0 := by
  have e1 := mort_step l r c 0
  simp only [Nat.pow_zero, Nat.div_one, Nat.zero_add, Nat.pow_one] at e1
  rw [e1]
  omega
def rowN (r n : Nat) : List Cl := (List.range n).map fun i => ((16 : Int), (r : Int), ((2 * i : Nat) : Int))
theorem rowN_len (r n : Nat) : (rowN r n).length = n := by simp [rowN]
theorem rowN_v (r n : Nat) (hr : r < 65536) (hn : n ≤ 65536) : AllV (rowN r n) := by
  intro x hx
  simp only [rowN, List.mem_map, List.mem_range] at hx
  obtain ⟨i, hi, rfl⟩ := hx
  constructor <;> simp <;> omega
theorem rowN_blk (r n : Nat) : (rowN r n).map blkOf = (List.range n).map fun i => (0, mort 16 r (2 * i)) := by
  unfold rowN
  rw [List.map_map]
  refine List.map_congr_left fun i _ => ?_
  simp only [Function.comp, blkOf, mortI]
  refine Prod.ext rfl ?_
  simp only []
  congr 1
theorem rowN_sorted (r n : Nat) : ((rowN r n).map blkOf).Pairwise before2 := by
  rw [rowN_blk, List.pairwise_map]
  refine List.Pairwise.imp ?_ List.pairwise_lt_range
  intro i j hij
  have := mort_mono 16 r (2 * i) (2 * j) (by omega)
  unfold before2
  simp only [Nat.pow_zero, Nat.mul_one]
  omega
theorem rowN_mem {r n : Nat} {b : Blk2} : b ∈ (rowN r n).map blkOf ↔ ∃ i, i < n ∧ b = (0, mort 16 r (2 * i)) := by
  rw [rowN_blk, List.mem_map]
  simp only [List.mem_range]
  constructor
  · rintro ⟨i, h, e⟩; exact ⟨i, h, e.symm⟩
  · rintro ⟨i, h, e⟩; exact ⟨i, h, e.symm⟩
theorem rowN_tidy (r n : Nat) (hr : r < 65536) (hn : n ≤ 65536) : canonC (covL (rowN r n)) = rowN r n := by
  have hv := rowN_v r n hr hn
  rw [tidy_iff hv, pairs_iff hv, fours_iff hv]
  refine ⟨rowN_sorted r n, ?_⟩
  intro h m pre suf he
  exfalso
  have m1 : (h, 4 * m + 1) ∈ (rowN r n).map blkOf := by rw [he]; simp [kidsB]
  obtain ⟨i, hi, e⟩ := rowN_mem.1 m1
  have e2 : 4 * m + 1 = mort 16 r (2 * i) := congrArg Prod.snd e
  have h3 : mort 16 r (2 * i) % 2 = 0 := mort_even 15 r (2 * i) (by omega)
  omega
theorem rowN_cov {r n q : Nat} : covB ((rowN r n).map blkOf) q = true ↔ ∃ i, i < n ∧ q = mort 16 r (2 * i) := by
  rw [covS]
  constructor
  · rintro ⟨b, hb, h1, h2⟩
    obtain ⟨i, hi, rfl⟩ := rowN_mem.1 hb
    simp only [Nat.pow_zero, Nat.mul_one] at h1 h2
    exact ⟨i, hi, by omega⟩
  · rintro ⟨i, hi, rfl⟩
    exact ⟨_, rowN_mem.2 ⟨i, hi, rfl⟩, by simp, by simp⟩
theorem canon_has {S : Nat → Prop} (hev : ∀ q, S q → q % 2 = 0) {m : Nat} (hm : S m) (hlt : m < 2 * 4 ^ 16) : (0, m) ∈ canon S 16 0 ++ canon S 16 1 := by
  have hnf : ¬ full S 1 (m / 4) := by
    intro hf
    have := hev (m / 4 * 4 + 1) (hf _ (by omega) (by omega))
    omega
  rw [List.mem_append]
  by_cases h : m / 4 ^ 16 = 0
  · exact .inl ((mem_canon S 16 0 0 m).2 ⟨by omega, h, (full_zero S m).2 hm, .inr hnf⟩)
  · exact .inr ((mem_canon S 16 1 0 m).2 ⟨by omega, by simp only [Nat.sub_zero]; omega, (full_zero S m).2 hm, .inr hnf⟩)
theorem two_rows (n : Nat) (hn : n ≤ 65536) (S : Nat → Prop) (hS : ∀ q, S q ↔ (covB ((rowN 5 n).map blkOf) q = true ∨ covB ((rowN 9 n).map blkOf) q = true)) : 2 * n ≤ (canonC S).length := by
  have hev : ∀ q, S q → q % 2 = 0 := by
    intro q hq
    rcases (hS q).1 hq with h | h
    · obtain ⟨i, _, rfl⟩ := rowN_cov.1 h
      exact mort_even 15 5 (2 * i) (by omega)
    · obtain ⟨i, _, rfl⟩ := rowN_cov.1 h
      exact mort_even 15 9 (2 * i) (by omega)
  have hlen : (canonC S).length = (canon S 16 0 ++ canon S 16 1).length := by unfold canonC; rw [List.length_map]
  have hsort := canon2_sorted S
  have key : ∀ r, r < 65536 → (∀ q, covB ((rowN r n).map blkOf) q = true → S q) → ((canon S 16 0 ++ canon S 16 1).filter fun b => decide (b ∈ (rowN r n).map blkOf)).length = n := by
    intro r hr hsub
    have : ((canon S 16 0 ++ canon S 16 1).filter fun b => decide (b ∈ (rowN r n).map blkOf)) = (rowN r n).map blkOf := by
      refine sorted_ext _ _ (hsort.filter _) (rowN_sorted r n) fun b => ?_
      rw [List.mem_filter, decide_eq_true_eq]
      constructor
      · exact fun h => h.2
      · intro h
        refine ⟨?_, h⟩
        obtain ⟨i, hi, rfl⟩ := rowN_mem.1 h
        refine canon_has hev (hsub _ (rowN_cov.2 ⟨i, hi, rfl⟩)) ?_
        exact mort_lt 16 r (2 * i) (by omega)
    rw [this, List.length_map, rowN_len]
  have k5 := key 5 (by omega) (fun q h => (hS q).2 (.inl h))
  have k9 := key 9 (by omega) (fun q h => (hS q).2 (.inr h))
  have hs := sum4 (fun b : Blk2 => decide (b ∈ (rowN 5 n).map blkOf)) (fun b => decide (b ∈ (rowN 9 n).map blkOf)) (fun _ => false) (fun _ => false) (fun _ => true) (fun b => by
    by_cases h5 : b ∈ (rowN 5 n).map blkOf
    · have h9 : ¬ b ∈ (rowN 9 n).map blkOf := by
        intro h9
        obtain ⟨i, hi, rfl⟩ := rowN_mem.1 h5
        obtain ⟨j, hj, e⟩ := rowN_mem.1 h9
        have e2 : mort 16 5 (2 * i) = mort 16 9 (2 * j) := congrArg Prod.snd e
        have := (mort_inj 16 5 (2 * i) 9 (2 * j) (by omega) (by omega) e2).1
        omega
      simp only [h5, h9, decide_true, decide_false, Bool.toNat_true, Bool.toNat_false]
      omega
    · simp only [h5, decide_false, Bool.toNat_false, Bool.toNat_true]
      have := Bool.toNat_le (decide (b ∈ (rowN 9 n).map blkOf))
      omega) (canon S 16 0 ++ canon S 16 1)
  rw [k5, k9] at hs
  have hft := List.length_filter_le (fun _ => true) (canon S 16 0 ++ canon S 16 1)
  rw [hlen]
  omega
theorem badL_of {L : List Cl} (h : AllV L) : badL L = false := by
  unfold badL
  rw [List.any_eq_false]
  intro x hx
  rw [(vl_iff x).2 (h x hx)]
  decide
theorem row_tidy (r : Nat) (hr : r < 65536) : tidyR (rowN r 4000) = rowN r 4000 ∧ tidyE (rowN r 4000) = 0 ∧ vrB (rowN r 4000) = true := by
  have hv := rowN_v r 4000 hr (by omega)
  have ht := rowN_tidy r 4000 hr (by omega)
  have h1 := tidyR_made (badL_of hv) (by rw [rowN_len]; omega)
  rw [made_or _ hv, ht] at h1
  exact ⟨h1.1, h1.2, (vrB_iff _).2 ⟨by rw [rowN_len]; omega, hv, ht⟩⟩
theorem row_union : mkR 1 (rowN 5 4000) (rowN 9 4000) = [] ∧ mkE 1 (rowN 5 4000) (rowN 9 4000) = 4 := by
  obtain ⟨_, _, v5⟩ := row_tidy 5 (by omega)
  obtain ⟨_, _, v9⟩ := row_tidy 9 (by omega)
  have h5 := rowN_v 5 4000 (by omega) (by omega)
  have h9 := rowN_v 9 4000 (by omega) (by omega)
  have hl : ¬ (madeL 1 (rowN 5 4000) (rowN 9 4000)).length ≤ 4000 := by
    rw [madeL_canon 1 _ _ h5 h9]
    have := two_rows 4000 (by omega) (fun q => opB 1 (covB ((rowN 5 4000).map blkOf) q) (covB ((rowN 9 4000).map blkOf) q) = true) (fun q => by simp [opB])
    omega
  unfold mkR mkE
  rw [if_pos v5, if_pos v9, if_neg hl, if_pos v5, if_pos v9, if_neg hl]
  exact ⟨rfl, rfl⟩
theorem row_both : tidyR (rowN 5 4000 ++ rowN 9 4000) = [] ∧ tidyE (rowN 5 4000 ++ rowN 9 4000) = 4 := by
  have h5 := rowN_v 5 4000 (by omega) (by omega)
  have h9 := rowN_v 9 4000 (by omega) (by omega)
  have hv : AllV (rowN 5 4000 ++ rowN 9 4000) := by
    intro x hx
    rcases List.mem_append.1 hx with h | h
    · exact h5 x h
    · exact h9 x h
  have hb := badL_of hv
  have hl : ¬ (tidyL (coverL (rowN 5 4000 ++ rowN 9 4000))).length ≤ 4000 := by
    rw [tidy_cover _ (badL_false hb)]
    have := two_rows 4000 (by omega) (covL (rowN 5 4000 ++ rowN 9 4000)) (fun q => by
      rw [covB_map, covB_map]
      unfold covL
      constructor
      · rintro ⟨x, hx, h⟩
        rcases List.mem_append.1 hx with g | g
        · exact .inl ⟨x, g, h⟩
        · exact .inr ⟨x, g, h⟩
      · rintro (⟨x, hx, h⟩ | ⟨x, hx, h⟩)
        · exact ⟨x, List.mem_append.2 (.inl hx), h⟩
        · exact ⟨x, List.mem_append.2 (.inr hx), h⟩)
    omega
  have hlen : ¬ 16000 < (rowN 5 4000 ++ rowN 9 4000).length := by rw [List.length_append, rowN_len, rowN_len]; omega
  unfold tidyR tidyE
  rw [hb]
  simp [hlen, hl]
theorem rep_v (x : Cl) (n : Nat) (hx : Vl x) : AllV (List.replicate n x) := fun y hy => by rw [(List.mem_replicate.1 hy).2]; exact hx
theorem rep_many (x : Cl) (n : Nat) (hx : Vl x) (hn : 16000 < n) : tidyR (List.replicate n x) = [] ∧ tidyE (List.replicate n x) = 4 := by
  have hb := badL_of (rep_v x n hx)
  unfold tidyR tidyE
  rw [hb, List.length_replicate]
  simp [hn]
theorem rep_one (x : Cl) (n : Nat) (hx : Vl x) (hn : n ≤ 16000) (h0 : 0 < n) : tidyR (List.replicate n x) = [x] ∧ tidyE (List.replicate n x) = 0 := by
  have hb := badL_of (rep_v x n hx)
  have h1 : tidyL (coverL (List.replicate n x)) = [x] := by
    rw [tidy_cover _ (badL_false hb)]
    refine Eq.trans ?_ ((vrB_iff _).1 (one_vr hx)).2.2
    refine canonC_congr fun q => ?_
    unfold covL
    constructor
    · rintro ⟨y, hy, h⟩
      rw [(List.mem_replicate.1 hy).2] at h
      exact ⟨x, by simp, h⟩
    · rintro ⟨y, hy, h⟩
      rw [List.mem_singleton.1 hy] at h
      exact ⟨x, List.mem_replicate.2 ⟨by omega, rfl⟩, h⟩
  have hn' : ¬ 16000 < n := by omega
  unfold tidyR tidyE
  rw [hb, List.length_replicate, h1]
  simp [hn']
end Go.Proofs.Ytopfnffabaiceaa
namespace Go.Proofs.Ytopfnffabaiceaa
open Canon
/-! ### parents and children -/
theorem idx_half {l : Nat} {N m : Int} (h1 : (l : Int) + 1 ≤ 16) (h2 : 0 ≤ N) (hm : 0 ≤ m) : idx N ((l + 1 : Nat) : Int) (2 * m + 1) / 2 = idx N (l : Int) m := by
  obtain ⟨g1, g2, g3, g4⟩ := idx_in (l := ((l + 1 : Nat) : Int)) (N := N) (m := 2 * m + 1) (by omega) h2 (by omega)
  generalize idx N ((l + 1 : Nat) : Int) (2 * m + 1) = k at *
  symm
  refine idx_char (by omega) (by omega) ?_ ?_
  · rw [← edg_even]
    exact Int.le_trans (edg_mono _ (by omega)) g3
  · rcases g4 with g4 | g4
    · left; omega
    · right
      rw [← edg_even]
      exact Int.lt_of_lt_of_le g4 (edg_mono _ (by omega))
theorem of_half {a b : Int} {l : Nat} (hv : vptB a b = true) (h1 : (l : Int) + 1 ≤ 16) : (ofC a b ((l + 1 : Nat) : Int)).2.1 / 2 = (ofC a b (l : Int)).2.1 ∧ (ofC a b ((l + 1 : Nat) : Int)).2.2 / 2 = (ofC a b (l : Int)).2.2 := by
  obtain ⟨a1, a2, b1, b2⟩ := vptB_true.1 hv
  have hp := pw_pos (l : Int)
  unfold ofC
  simp only []
  rw [pw_succ]
  have e1 : 2 * pw (l : Int) - 1 = 2 * (pw (l : Int) - 1) + 1 := by omega
  have e2 : 2 * (2 * pw (l : Int)) - 1 = 2 * (2 * pw (l : Int) - 1) + 1 := by omega
  refine ⟨?_, ?_⟩
  · rw [e1]
    exact idx_half h1 (by omega) (by omega)
  · rw [e2]
    exact idx_half h1 (by omega) (by omega)
theorem blk_par {x y : Cl} (hx : Vl x) (hy : Vl y) (hl : x.1 = y.1 + 1) (hr : x.2.1 / 2 = y.2.1) (hc : x.2.2 / 2 = y.2.2) {q : Nat} (h : covB [blkOf x] q = true) : covB [blkOf y] q = true := by
  obtain ⟨b, hb, h1, h2⟩ := covS.1 h
  rw [List.mem_singleton] at hb
  subst hb
  refine covS.2 ⟨blkOf y, by simp, ?_⟩
  have hx0 := hx.l0
  have hx1 := hx.l1
  have hy0 := hy.l0
  have e1 : (blkOf y).1 = (blkOf x).1 + 1 := by simp only [blkOf]; omega
  have e2 : (blkOf y).2 = (blkOf x).2 / 4 := by
    simp only [blkOf, mortI]
    have el : x.1.toNat = y.1.toNat + 1 := by omega
    have er : y.2.1.toNat = x.2.1.toNat / 2 := by omega
    have ec : y.2.2.toNat = x.2.2.toNat / 2 := by omega
    have := mort_step y.1.toNat x.2.1.toNat x.2.2.toNat 0
    simp only [Nat.pow_zero, Nat.div_one, Nat.zero_add, Nat.pow_one] at this
    rw [el, er, ec, this]
    omega
  have hp := par_bounds (blkOf x).1 (blkOf x).2
  rw [e1, e2]
  omega
theorem of_sub {a b : Int} (hv : vptB a b = true) (l : Nat) : ∀ (d : Nat), l + d ≤ 16 → ∀ q, covB [blkOf (ofC a b ((l + d : Nat) : Int))] q = true → covB [blkOf (ofC a b (l : Int))] q = true
  | 0, _, q, h => h
  | d + 1, hd, q, h => by
    have h1 := (of_in hv (l := ((l + d + 1 : Nat) : Int)) (by omega) (by omega)).1
    have h2 := (of_in hv (l := ((l + d : Nat) : Int)) (by omega) (by omega)).1
    obtain ⟨e1, e2⟩ := of_half (l := l + d) hv (by omega)
    exact of_sub hv l d (by omega) q (blk_par h1 h2 (by unfold ofC; simp only []; omega) e1 e2 h)
theorem of_ins {a b : Int} (hv : vptB a b = true) {l k : Nat} (hl : l ≤ k) (hk : k ≤ 16) : insL [ofC a b (k : Int)] [ofC a b (l : Int)] = true := by
  have h1 := (of_in hv (l := (k : Int)) (by omega) (by omega)).1
  have h2 := (of_in hv (l := (l : Int)) (by omega) (by omega)).1
  rw [← one_reg h1, ← one_reg h2, ins_reg]
  intro q _ h
  rw [show k = l + (k - l) by omega] at h
  exact of_sub hv l (k - l) (by omega) q h
/-- the children of a cell, last one first, are tidied to it -/
theorem kids_tidy {x : Cl} (hx : Vl x) (h : x.1 < 16) (L : List Cl) (hL : ∀ y, y ∈ L ↔ y ∈ kidsC x) (hn : L.length ≤ 4000) : tidyR L = [x] ∧ tidyE L = 0 := by
  have kv := kids_vl hx h
  have hv : AllV L := fun y hy => kv y ((hL y).1 hy)
  obtain ⟨h1, h2⟩ := tidyR_made (badL_of hv) hn
  refine ⟨?_, h2⟩
  rw [h1, made_or L hv]
  refine Eq.trans ?_ ((vrB_iff _).1 (one_vr hx)).2.2
  refine canonC_congr fun q => ?_
  have k1 := covB_map (kidsC x) q
  have hh : (blkOf x).1 = ((blkOf x).1 - 1) + 1 := by
    have := hx.l0
    simp only [blkOf]
    omega
  have e : covL L q ↔ covL (kidsC x) q := by
    unfold covL
    constructor
    · rintro ⟨y, hy, g⟩; exact ⟨y, (hL y).1 hy, g⟩
    · rintro ⟨y, hy, g⟩; exact ⟨y, (hL y).2 hy, g⟩
  rw [e]
  have e2 : covL (kidsC x) q ↔ covB ((kidsC x).map blkOf) q = true := k1.symm
  have e3 : covL [x] q ↔ covB ([x].map blkOf) q = true := (covB_map [x] q).symm
  rw [e2, e3, kids_blk hx h, covS, covS]
  generalize (blkOf x).1 - 1 = k at hh ⊢
  have ex : blkOf x = (k + 1, (blkOf x).2) := Prod.ext hh rfl
  rw [List.map_cons, List.map_nil, ex]
  generalize (blkOf x).2 = n
  have e : ∀ m : Nat, m * 4 ^ (k + 1) = 4 * m * 4 ^ k := fun m => by rw [Nat.pow_succ]; rw [Nat.mul_comm 4 m, Nat.mul_assoc, Nat.mul_comm 4]
  have e1 : (4 * n + 1) * 4 ^ k = 4 * n * 4 ^ k + 4 ^ k := by rw [Nat.add_mul]; omega
  have e2 : (4 * n + 2) * 4 ^ k = 4 * n * 4 ^ k + 2 * 4 ^ k := by rw [Nat.add_mul]
  have e3 : (4 * n + 3) * 4 ^ k = 4 * n * 4 ^ k + 3 * 4 ^ k := by rw [Nat.add_mul]
  have e4 : (4 * n + 1 + 1) * 4 ^ k = 4 * n * 4 ^ k + 2 * 4 ^ k := by rw [show 4 * n + 1 + 1 = 4 * n + 2 by omega, e2]
  have e5 : (4 * n + 2 + 1) * 4 ^ k = 4 * n * 4 ^ k + 3 * 4 ^ k := by rw [show 4 * n + 2 + 1 = 4 * n + 3 by omega, e3]
  have e6 : (4 * n + 3 + 1) * 4 ^ k = 4 * n * 4 ^ k + 4 * 4 ^ k := by rw [show 4 * n + 3 + 1 = 4 * n + 4 by omega, Nat.add_mul]
  have e7 : 4 * (n + 1) * 4 ^ k = 4 * n * 4 ^ k + 4 * 4 ^ k := by rw [show 4 * (n + 1) = 4 * n + 4 by omega, Nat.add_mul]
  simp only [kidsB, List.mem_cons, List.not_mem_nil, or_false, exists_eq_or_imp, exists_eq_left, e]
  omega
/-- the edges of the boxes of a cell and of its children -/
theorem box_nums {x : Cl} (hx : Vl x) : -5400000 ≤ edg x.2.1 x.1 - 5400000 ∧ edg x.2.1 x.1 ≤ edg (x.2.1 + 1) x.1 ∧ edg (x.2.1 + 1) x.1 - 5400000 ≤ 5400000 ∧ 0 ≤ edg x.2.2 x.1 ∧ edg x.2.2 x.1 < 21600000 ∧ edg x.2.2 x.1 ≤ edg (x.2.2 + 1) x.1 ∧ edg (x.2.2 + 1) x.1 ≤ 21600000 ∧ edg (x.2.2 + 1) x.1 - edg x.2.2 x.1 ≤ 10800001 := by
  obtain ⟨h0, h1, h2, h3, h4, h5⟩ := vldB_true.1 ((vl_iff x).2 hx)
  have hp := pw_pos x.1
  have hb := pw_bd h1
  have r0 := edg_bd (i := x.2.1) h1 h2 (by omega)
  have c0 := edg_bd (i := x.2.2) h1 h4 (by omega)
  have c1 := edg_bd (i := x.2.2 + 1) h1 (by omega) (by omega)
  have rm := edg_mono x.1 (show x.2.1 ≤ x.2.1 + 1 by omega)
  have cm := edg_mono x.1 (show x.2.2 ≤ x.2.2 + 1 by omega)
  have rt := edg_mono x.1 (show x.2.1 + 1 ≤ pw x.1 by omega)
  rw [edg_all] at rt
  have ct : edg x.2.2 x.1 < 21600000 := by
    unfold edg
    rw [Int.ediv_lt_iff_lt_mul hp]
    omega
  have cw : edg (x.2.2 + 1) x.1 - edg x.2.2 x.1 ≤ 10800001 := by
    unfold edg
    have : (x.2.2 + 1) * 10800000 / pw x.1 ≤ x.2.2 * 10800000 / pw x.1 + 10800001 := by
      rw [← Int.add_mul_ediv_right _ _ (show pw x.1 ≠ 0 by omega)]
      refine Int.ediv_le_ediv hp ?_
      omega
    omega
  omega
end Go.Proofs.Ytopfnffabaiceaa
