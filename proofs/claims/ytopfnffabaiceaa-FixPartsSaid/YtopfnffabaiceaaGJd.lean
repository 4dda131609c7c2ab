/- Plain: what combine makes. No program in sight. -/
import Derived.Test.YtopfnffabaiceaaGJc
set_option linter.unusedVariables false
set_option linter.unusedSimpArgs false
namespace Go.Proofs.Ytopfnffabaiceaa
open Canon
/-! ### combining spans -/
def dropS (n : Int) (l : List Sp) : List Sp := l.dropWhile fun s => decide (s.2 ≤ n)
def hdS (n : Int) (l : List Sp) : Bool := match l with
  | [] => false
  | s :: _ => decide (s.1 ≤ n)
def endsS (D : List Sp) : List Int := D.flatMap fun s => [s.1, s.2]
def inB' (D : List Sp) (q : Int) : Bool := D.any fun s => decide (s.1 ≤ q) && decide (q < s.2)
def ge (E : List Int) (i : Nat) : Int := E.getD i 0
def prsTo (E : List Int) (k : Nat) : List Sp := (List.range k).map fun i => (ge E i, ge E (i + 1))
def combTo (r : Bool → Bool → Bool) (E : List Int) (D F : List Sp) (k : Nat) : List Sp :=
  mergeS ((prsTo E k).filter fun p => r (hdS p.1 (dropS p.1 D)) (hdS p.1 (dropS p.1 F)))
def combE (r : Bool → Bool → Bool) (E : List Int) (D F : List Sp) : List Sp := combTo r E D F (E.length - 1)
theorem inB'_iff {D : List Sp} {q : Int} : inB' D q = true ↔ inI D q := by
  simp [inB', inI, List.any_eq_true]
theorem has_eq (n : Int) : ∀ {D : List Sp}, ApartI D → hdS n (dropS n D) = inB' D n
  | [], _ => rfl
  | s :: D, h => by
    obtain ⟨hp, hne⟩ := h
    rw [List.pairwise_cons] at hp
    by_cases hs : s.2 ≤ n
    · have e : dropS n (s :: D) = dropS n D := by simp [dropS, hs]
      rw [e, has_eq n ⟨hp.2, fun t ht => hne t (by simp [ht])⟩]
      have : decide (n < s.2) = false := decide_eq_false (by omega)
      simp [inB', this]
    · have e : dropS n (s :: D) = s :: D := by simp [dropS, hs]
      rw [e]
      have h1 : (D.any fun s => decide (s.1 ≤ n) && decide (n < s.2)) = false := by
        rw [List.any_eq_false]
        intro t ht
        have := hp.1 t ht
        have : decide (t.1 ≤ n) = false := decide_eq_false (by omega)
        simp [this]
      have h2 : decide (n < s.2) = true := decide_eq_true (by omega)
      simp only [hdS, inB', List.any_cons, h1, h2]
      simp
theorem dropS_dropS {e e' : Int} (h : e ≤ e') : ∀ (D : List Sp), dropS e' (dropS e D) = dropS e' D
  | [] => rfl
  | s :: D => by
    by_cases hs : s.2 ≤ e
    · have e1 : dropS e (s :: D) = dropS e D := by simp [dropS, hs]
      have e2 : dropS e' (s :: D) = dropS e' D := by simp [dropS, show s.2 ≤ e' by omega]
      rw [e1, e2, dropS_dropS h D]
    · have e1 : dropS e (s :: D) = s :: D := by simp [dropS, hs]
      rw [e1]
theorem ge_mem {E : List Int} {i : Nat} (h : i < E.length) : ge E i ∈ E := by simp [ge, h]
theorem ge_lt {E : List Int} (hE : E.Pairwise (· < ·)) {i j : Nat} (hij : i < j) (hj : j < E.length) : ge E i < ge E j := by
  have := List.pairwise_iff_getElem.1 hE i j (by omega) hj hij
  simpa [ge, hj, show i < E.length by omega] using this
theorem ge_side {E : List Int} (hE : E.Pairwise (· < ·)) {i : Nat} (hi : i + 1 < E.length) {x : Int} (hx : x ∈ E) : x ≤ ge E i ∨ ge E (i + 1) ≤ x := by
  obtain ⟨j, hj, rfl⟩ := List.mem_iff_getElem.1 hx
  have e : E[j] = ge E j := by simp [ge, hj]
  rw [e]
  by_cases h : j ≤ i
  · rcases Nat.lt_or_eq_of_le h with h | rfl
    · exact .inl (Int.le_of_lt (ge_lt hE h (by omega)))
    · exact .inl (Int.le_refl _)
  · rcases Nat.lt_or_eq_of_le (show i + 1 ≤ j by omega) with h | h
    · exact .inr (Int.le_of_lt (ge_lt hE h hj))
    · subst h; exact .inr (Int.le_refl _)
theorem inB_same {D : List Sp} {u v q : Int} (hD : ∀ x ∈ endsS D, x ≤ u ∨ v ≤ x) (h1 : u ≤ q) (h2 : q < v) : inB' D q = inB' D u := by
  have : ∀ s ∈ D, (decide (s.1 ≤ q) && decide (q < s.2)) = (decide (s.1 ≤ u) && decide (u < s.2)) := by
    intro s hs
    have a := hD s.1 (by simp only [endsS, List.mem_flatMap]; exact ⟨s, hs, by simp⟩)
    have b := hD s.2 (by simp only [endsS, List.mem_flatMap]; exact ⟨s, hs, by simp⟩)
    rw [decide_eq_decide.2 (show s.1 ≤ q ↔ s.1 ≤ u by omega), decide_eq_decide.2 (show q < s.2 ↔ u < s.2 by omega)]
  unfold inB'
  induction D with
  | nil => rfl
  | cons s D ih =>
    rw [List.any_cons, List.any_cons, this s (by simp), ih (fun x hx => hD x (by simp only [endsS, List.flatMap_cons, List.mem_append]; exact .inr hx)) (fun t ht => this t (by simp [ht]))]
theorem find_pair {q : Int} : ∀ (E : List Int), E.Pairwise (· < ·) → (∃ a ∈ E, a ≤ q) → (∃ b ∈ E, q < b) → ∃ i, i + 1 < E.length ∧ ge E i ≤ q ∧ q < ge E (i + 1)
  | [], _, ⟨a, h, _⟩, _ => by cases h
  | [x], _, ⟨a, ha, h1⟩, ⟨b, hb, h2⟩ => by
    simp only [List.mem_singleton] at ha hb
    omega
  | x :: y :: r, hE, ⟨a, ha, h1⟩, ⟨b, hb, h2⟩ => by
    have hE' := List.pairwise_cons.1 hE
    by_cases hy : q < y
    · refine ⟨0, by simp, ?_, hy⟩
      have : a = x := by
        rcases List.mem_cons.1 ha with h | h
        · exact h
        · rcases List.mem_cons.1 h with h' | h'
          · omega
          · have := (List.pairwise_cons.1 hE'.2).1 a h'; omega
      show x ≤ q
      omega
    · have hxy := hE'.1 y (by simp)
      obtain ⟨i, hi, g1, g2⟩ := find_pair (y :: r) hE'.2 ⟨y, by simp, by omega⟩ ⟨b, by
        rcases List.mem_cons.1 hb with h | h
        · omega
        · exact h, h2⟩
      exact ⟨i + 1, by simpa using hi, g1, g2⟩
theorem prsTo_succ (E : List Int) (k : Nat) : prsTo E (k + 1) = prsTo E k ++ [(ge E k, ge E (k + 1))] := by simp [prsTo, List.range_succ]
theorem combTo_yes {r : Bool → Bool → Bool} {E : List Int} {D F : List Sp} {k : Nat} (h : r (hdS (ge E k) (dropS (ge E k) D)) (hdS (ge E k) (dropS (ge E k) F)) = true) : combTo r E D F (k + 1) = mrg (combTo r E D F k) (ge E k, ge E (k + 1)) := by
  unfold combTo
  rw [prsTo_succ, List.filter_append]
  rw [show List.filter (fun p => r (hdS p.1 (dropS p.1 D)) (hdS p.1 (dropS p.1 F))) [(ge E k, ge E (k + 1))] = [(ge E k, ge E (k + 1))] by simp [h]]
  rw [mergeS_snoc]
theorem combTo_no {r : Bool → Bool → Bool} {E : List Int} {D F : List Sp} {k : Nat} (h : r (hdS (ge E k) (dropS (ge E k) D)) (hdS (ge E k) (dropS (ge E k) F)) = false) : combTo r E D F (k + 1) = combTo r E D F k := by
  unfold combTo
  rw [prsTo_succ, List.filter_append]
  rw [show List.filter (fun p => r (hdS p.1 (dropS p.1 D)) (hdS p.1 (dropS p.1 F))) [(ge E k, ge E (k + 1))] = [] by simp [h]]
  rw [List.append_nil]
/-- the last end so far is not beyond the edge -/
theorem combTo_last {r : Bool → Bool → Bool} {E : List Int} (hE : E.Pairwise (· < ·)) {D F : List Sp} : ∀ (k : Nat), k < E.length → ∀ s ∈ combTo r E D F k, s.2 ≤ ge E k
  | 0, _ => by intro s hs; simp [combTo, prsTo, mergeS] at hs
  | k + 1, hk => by
    have ih := combTo_last (r := r) hE (D := D) (F := F) k (by omega)
    have hl := ge_lt hE (Nat.lt_succ_self k) hk
    intro s hs
    cases hr : r (hdS (ge E k) (dropS (ge E k) D)) (hdS (ge E k) (dropS (ge E k) F)) with
    | false => rw [combTo_no hr] at hs; have := ih s hs; simp only [Nat.succ_eq_add_one] at hl; omega
    | true =>
      rw [combTo_yes hr] at hs
      simp only [Nat.succ_eq_add_one] at hl
      rcases snoc_cases (combTo r E D F k) with h | ⟨M, t, h⟩
      · rw [h, mrg_nil, List.mem_singleton] at hs
        rw [hs]
        exact Int.le_refl _
      · rw [h] at hs ih
        have ht := ih t (by simp)
        by_cases hc : ge E k ≤ t.2
        · rw [mrg_in M t _ hc, List.mem_append, List.mem_singleton] at hs
          rcases hs with hs | rfl
          · have := ih s (by simp [hs]); omega
          · simp only []; omega
        · rw [mrg_out M t _ hc, List.mem_append, List.mem_singleton] at hs
          rcases hs with hs | rfl
          · have := ih s hs; omega
          · exact Int.le_refl _
theorem comb_good (r : Bool → Bool → Bool) (hr : r false false = false) (E : List Int) (D F : List Sp) (hE : E.Pairwise (· < ·)) (hm : ∀ x, x ∈ E ↔ (x ∈ endsS D ∨ x ∈ endsS F)) (hD : ApartI D) (hF : ApartI F) :
    ApartI (combE r E D F) ∧ ∀ q, inI (combE r E D F) q ↔ r (inB' D q) (inB' F q) = true := by
  have hpr : ∀ p ∈ prsTo E (E.length - 1), ∃ i, i + 1 < E.length ∧ p = (ge E i, ge E (i + 1)) := by
    intro p hp
    simp only [prsTo, List.mem_map, List.mem_range] at hp
    obtain ⟨i, hi, rfl⟩ := hp
    exact ⟨i, by omega, rfl⟩
  have hfold := fold_good ((prsTo E (E.length - 1)).filter fun p => r (hdS p.1 (dropS p.1 D)) (hdS p.1 (dropS p.1 F))) [] ⟨by simp, by simp⟩
    (fun s hs => by
      obtain ⟨i, hi, rfl⟩ := hpr s (List.mem_filter.1 hs).1
      exact ge_lt hE (Nat.lt_succ_self i) hi)
    (by
      refine List.Pairwise.filter _ ?_
      unfold prsTo
      rw [List.pairwise_map]
      refine List.Pairwise.imp_of_mem ?_ List.pairwise_lt_range
      intro i j hi hj hij
      simp only [List.mem_range] at hi hj
      exact Int.le_of_lt (ge_lt hE hij (by omega)))
    (by simp)
  refine ⟨hfold.1, fun q => ?_⟩
  have hq : inI (combE r E D F) q ↔ _ := hfold.2 q
  rw [hq]
  constructor
  · rintro (⟨s, hs, _⟩ | ⟨s, hs, h1, h2⟩)
    · simp at hs
    · obtain ⟨hs1, hs2⟩ := List.mem_filter.1 hs
      obtain ⟨i, hi, rfl⟩ := hpr s hs1
      simp only [has_eq _ hD, has_eq _ hF] at hs2 h1 h2
      rw [inB_same (fun x hx => ge_side hE hi ((hm x).2 (.inl hx))) h1 h2, inB_same (fun x hx => ge_side hE hi ((hm x).2 (.inr hx))) h1 h2]
      exact hs2
  · intro h
    have hin : inI D q ∨ inI F q := by
      cases h1 : inB' D q with
      | true => exact .inl (inB'_iff.1 h1)
      | false =>
        cases h2 : inB' F q with
        | true => exact .inr (inB'_iff.1 h2)
        | false => rw [h1, h2, hr] at h; cases h
    have hab : (∃ a ∈ E, a ≤ q) ∧ ∃ b ∈ E, q < b := by
      rcases hin with ⟨s, hs, h1, h2⟩ | ⟨s, hs, h1, h2⟩
      · exact ⟨⟨s.1, (hm _).2 (.inl (by simp only [endsS, List.mem_flatMap]; exact ⟨s, hs, by simp⟩)), h1⟩, s.2, (hm _).2 (.inl (by simp only [endsS, List.mem_flatMap]; exact ⟨s, hs, by simp⟩)), h2⟩
      · exact ⟨⟨s.1, (hm _).2 (.inr (by simp only [endsS, List.mem_flatMap]; exact ⟨s, hs, by simp⟩)), h1⟩, s.2, (hm _).2 (.inr (by simp only [endsS, List.mem_flatMap]; exact ⟨s, hs, by simp⟩)), h2⟩
    obtain ⟨i, hi, g1, g2⟩ := find_pair E hE hab.1 hab.2
    refine .inr ⟨(ge E i, ge E (i + 1)), List.mem_filter.2 ⟨?_, ?_⟩, g1, g2⟩
    · simp only [prsTo, List.mem_map, List.mem_range]
      exact ⟨i, by omega, rfl⟩
    · simp only [has_eq _ hD, has_eq _ hF]
      rw [inB_same (fun x hx => ge_side hE hi ((hm x).2 (.inl hx))) g1 g2, inB_same (fun x hx => ge_side hE hi ((hm x).2 (.inr hx))) g1 g2] at h
      exact h
theorem comb_ok (r : Bool → Bool → Bool) (hr : r false false = false) (E : List Int) (D F : List Sp) (hE : E.Pairwise (· < ·)) (hm : ∀ x, x ∈ E ↔ (x ∈ endsS D ∨ x ∈ endsS F)) (hD : ApartI D) (hF : ApartI F) (kD : SpOk D) (kF : SpOk F) : SpOk (combE r E D F) := by
  obtain ⟨⟨_, hne⟩, hq⟩ := comb_good r hr E D F hE hm hD hF
  have key : ∀ q, inI (combE r E D F) q → 0 ≤ q ∧ q < 8589934592 := by
    intro q h
    have h := (hq q).1 h
    cases h1 : inB' D q with
    | true =>
      obtain ⟨s, hs, g1, g2⟩ := inB'_iff.1 h1
      have := kD s hs
      omega
    | false =>
      cases h2 : inB' F q with
      | true =>
        obtain ⟨s, hs, g1, g2⟩ := inB'_iff.1 h2
        have := kF s hs
        omega
      | false => rw [h1, h2, hr] at h; cases h
  intro s hs
  have hlt := hne s hs
  have a := key s.1 ⟨s, hs, by omega, hlt⟩
  have b := key (s.2 - 1) ⟨s, hs, by omega, by omega⟩
  omega
theorem inB_cover {L : List Cl} (hL : AllV L) (q : Nat) : inB' (coverL L) (q : Int) = covB (L.map blkOf) q := by
  have h1 := (cover_good L (fun x hx => (vl_iff x).2 (hL x hx))).2 (q : Int)
  rw [Bool.eq_iff_iff, inB'_iff, h1, covB_map]
  constructor
  · rintro ⟨x, hx, a, b⟩
    exact ⟨x, hx, by omega, by omega⟩
  · rintro ⟨x, hx, a, b⟩
    exact ⟨x, hx, by omega, by omega⟩
theorem comb_made (op : Int) (E : List Int) (a b : List Cl) (ha : AllV a) (hb : AllV b) (hE : E.Pairwise (· < ·)) (hm : ∀ x, x ∈ E ↔ (x ∈ endsS (coverL a) ∨ x ∈ endsS (coverL b))) :
    tidyL (combE (opB op) E (coverL a) (coverL b)) = madeL op a b ∧ SpOk (combE (opB op) E (coverL a) (coverL b)) := by
  have hr : opB op false false = false := by simp [opB]
  have va : ∀ x ∈ a, vldB x.1 x.2.1 x.2.2 = true := fun x hx => (vl_iff x).2 (ha x hx)
  have vb : ∀ x ∈ b, vldB x.1 x.2.1 x.2.2 = true := fun x hx => (vl_iff x).2 (hb x hx)
  have hD := (cover_good a va).1
  have hF := (cover_good b vb).1
  obtain ⟨h1, h2⟩ := comb_good (opB op) hr E _ _ hE hm hD hF
  have h3 := comb_ok (opB op) hr E _ _ hE hm hD hF (spOk_cover a va) (spOk_cover b vb)
  refine ⟨?_, h3⟩
  rw [tidyL_canon h1 h3, madeL_canon op a b ha hb]
  refine canonC_congr fun q => ?_
  rw [h2, inB_cover ha, inB_cover hb]
end Go.Proofs.Ytopfnffabaiceaa
