/- Plain: regions as sets, and how long they are. No program in sight. -/
import Derived.Test.YtienkfcliocjgaaGreatGJc
set_option linter.unusedVariables false
set_option linter.unusedSimpArgs false
/- Plain: what combine makes. No program in sight. -/
namespace Go.Proofs.YtienkfcliocjgaaGreat
open Canon
/-! ### combining spans -/
def dropS (n : Int) (l : List Sp) : List Sp := l.dropWhile fun s => decide (s.2 ≤ n)
def hdS (n : Int) (l : List Sp) : Bool := match l with
  | [] => false
  | s :: _ => decide (s.1 ≤ n)
def endsS (D : List Sp) : List Int := D.flatMap fun s => [s.1, s.2]
def inB' (D : List Sp) (q : Int) : Bool := D.any fun s => decide (s.1 ≤ q) && decide (q < s.2)
def ge (E : List Int) (i : Nat) : Int := E.getD i 0
def prsTo (E : List Int) (k : Nat) : List Sp := (List.range k).map fun i => (ge E i, ge E (i + 1))
def combTo (r : Bool → Bool → Bool) (E : List Int) (D F : List Sp) (k : Nat) : List Sp :=
  mergeS ((prsTo E k).filter fun p => r (hdS p.1 (dropS p.1 D)) (hdS p.1 (dropS p.1 F)))
def combE (r : Bool → Bool → Bool) (E : List Int) (D F : List Sp) : List Sp := combTo r E D F (E.length - 1)
theorem inB'_iff {D : List Sp} {q : Int} : inB' D q = true ↔ inI D q := by
  simp [inB', inI, List.any_eq_true]
theorem has_eq (n : Int) : ∀ {D : List Sp}, ApartI D → hdS n (dropS n D) = inB' D n
  | [], _ => rfl
  | s :: D, h => by
    obtain ⟨hp, hne⟩ := h
    rw [List.pairwise_cons] at hp
    by_cases hs : s.2 ≤ n
    · have e : dropS n (s :: D) = dropS n D := by simp [dropS, hs]
      rw [e, has_eq n ⟨hp.2, fun t ht => hne t (by simp [ht])⟩]
      have : decide (n < s.2) = false := decide_eq_false (by omega)
      simp [inB', this]
    · have e : dropS n (s :: D) = s :: D := by simp [dropS, hs]
      rw [e]
      have h1 : (D.any fun s => decide (s.1 ≤ n) && decide (n < s.2)) = false := by
        rw [List.any_eq_false]
        intro t ht
        have := hp.1 t ht
        have : decide (t.1 ≤ n) = false := decide_eq_false (by omega)
        simp [this]
      have h2 : decide (n < s.2) = true := decide_eq_true (by omega)
      simp only [hdS, inB', List.any_cons, h1, h2]
      simp
theorem dropS_dropS {e e' : Int} (h : e ≤ e') : ∀ (D : List Sp), dropS e' (dropS e D) = dropS e' D
  | [] => rfl
  | s :: D => by
    by_cases hs : s.2 ≤ e
    · have e1 : dropS e (s :: D) = dropS e D := by simp [dropS, hs]
      have e2 : dropS e' (s :: D) = dropS e' D := by simp [dropS, show s.2 ≤ e' by omega]
      rw [e1, e2, dropS_dropS h D]
    · have e1 : dropS e (s :: D) = s :: D := by simp [dropS, hs]
      rw [e1]
theorem ge_mem {E : List Int} {i : Nat} (h : i < E.length) : ge E i ∈ E := by simp [ge, h]
theorem ge_lt {E : List Int} (hE : E.Pairwise (· < ·)) {i j : Nat} (hij : i < j) (hj : j < E.length) : ge E i < ge E j := by
  have := List.pairwise_iff_getElem.1 hE i j (by omega) hj hij
  simpa [ge, hj, show i < E.length by omega] using this
theorem ge_side {E : List Int} (hE : E.Pairwise (· < ·)) {i : Nat} (hi : i + 1 < E.length) {x : Int} (hx : x ∈ E) : x ≤ ge E i ∨ ge E (i + 1) ≤ x := by
  obtain ⟨j, hj, rfl⟩ := List.mem_iff_getElem.1 hx
  have e : E[j] = ge E j := by simp [ge, hj]
  rw [e]
  by_cases h : j ≤ i
  · rcases Nat.lt_or_eq_of_le h with h | rfl
    · exact .inl (Int.le_of_lt (ge_lt hE h (by omega)))
    · exact .inl (Int.le_refl _)
  · rcases Nat.lt_or_eq_of_le (show i + 1 ≤ j by omega) with h | h
    · exact .inr (Int.le_of_lt (ge_lt hE h hj))
    · subst h; exact .inr (Int.le_refl _)
theorem inB_same {D : List Sp} {u v q : Int} (hD : ∀ x ∈ endsS D, x ≤ u ∨ v ≤ x) (h1 : u ≤ q) (h2 : q < v) : inB' D q = inB' D u := by
  have : ∀ s ∈ D, (decide (s.1 ≤ q) && decide (q < s.2)) = (decide (s.1 ≤ u) && decide (u < s.2)) := by
    intro s hs
    have a := hD s.1 (by simp only [endsS, List.mem_flatMap]; exact ⟨s, hs, by simp⟩)
    have b := hD s.2 (by simp only [endsS, List.mem_flatMap]; exact ⟨s, hs, by simp⟩)
    rw [decide_eq_decide.2 (show s.1 ≤ q ↔ s.1 ≤ u by omega), decide_eq_decide.2 (show q < s.2 ↔ u < s.2 by omega)]
  unfold inB'
  induction D with
  | nil => rfl
  | cons s D ih =>
    rw [List.any_cons, List.any_cons, this s (by simp), ih (fun x hx => hD x (by simp only [endsS, List.flatMap_cons, List.mem_append]; exact .inr hx)) (fun t ht => this t (by simp [ht]))]
theorem find_pair {q : Int} : ∀ (E : List Int), E.Pairwise (· < ·) → (∃ a ∈ E, a ≤ q) → (∃ b ∈ E, q < b) → ∃ i, i + 1 < E.length ∧ ge E i ≤ q ∧ q < ge E (i + 1)
  | [], _, ⟨a, h, _⟩, _ => by cases h
  | [x], _, ⟨a, ha, h1⟩, ⟨b, hb, h2⟩ => by
    simp only [List.mem_singleton] at ha hb
    omega
  | x :: y :: r, hE, ⟨a, ha, h1⟩, ⟨b, hb, h2⟩ => by
    have hE' := List.pairwise_cons.1 hE
    by_cases hy : q < y
    · refine ⟨0, by simp, ?_, hy⟩
      have : a = x := by
        rcases List.mem_cons.1 ha with h | h
        · exact h
        · rcases List.mem_cons.1 h with h' | h'
          · omega
          · have := (List.pairwise_cons.1 hE'.2).1 a h'; omega
      show x ≤ q
      omega
    · have hxy := hE'.1 y (by simp)
      obtain ⟨i, hi, g1, g2⟩ := find_pair (y :: r) hE'.2 ⟨y, by simp, by omega⟩ ⟨b, by
        rcases List.mem_cons.1 hb with h | h
        · omega
        · exact h, h2⟩
      exact ⟨i + 1, by simpa using hi, g1, g2⟩
theorem prsTo_succ (E : List Int) (k : Nat) : prsTo E (k + 1) = prsTo E k ++ [(ge E k, ge E (k + 1))] := by simp [prsTo, List.range_succ]
theorem combTo_yes {r : Bool → Bool → Bool} {E : List Int} {D F : List Sp} {k : Nat} (h : r (hdS (ge E k) (dropS (ge E k) D)) (hdS (ge E k) (dropS (ge E k) F)) = true) : combTo r E D F (k + 1) = mrg (combTo r E D F k) (ge E k, ge E (k + 1)) := by
  unfold combTo
  rw [prsTo_succ, List.filter_append]
  rw [show List.filter (fun p => r (hdS p.1 (dropS p.1 D)) (hdS p.1 (dropS p.1 F))) [(ge E k, ge E (k + 1))] = [(ge E k, ge E (k + 1))] by simp [h]]
  rw [mergeS_snoc]
theorem combTo_no {r : Bool → Bool → Bool} {E : List Int} {D F : List Sp} {k : Nat} (h : r (hdS (ge E k) (dropS (ge E k) D)) (hdS (ge E k) (dropS (ge E k) F)) = false) : combTo r E D F (k + 1) = combTo r E D F k := by
  unfold combTo
  rw [prsTo_succ, List.filter_append]
  rw [show List.filter (fun p => r (hdS p.1 (dropS p.1 D)) (hdS p.1 (dropS p.1 F))) [(ge E k, ge E (k + 1))] = [] by simp [h]]
  rw [List.append_nil]
/-- the last end so far is not beyond the edge -/
theorem combTo_last {r : Bool → Bool → Bool} {E : List Int} (hE : E.Pairwise (· < ·)) {D F : List Sp} : ∀ (k : Nat), k < E.length → ∀ s ∈ combTo r E D F k, s.2 ≤ ge E k
  | 0, _ => by intro s hs; simp [combTo, prsTo, mergeS] at hs
  | k + 1, hk => by
    have ih := combTo_last (r := r) hE (D := D) (F := F) k (by omega)
    have hl := ge_lt hE (Nat.lt_succ_self k) hk
    intro s hs
    cases hr : r (hdS (ge E k) (dropS (ge E k) D)) (hdS (ge E k) (dropS (ge E k) F)) with
    | false => rw [combTo_no hr] at hs; have := ih s hs; simp only [Nat.succ_eq_add_one] at hl; omega
    | true =>
      rw [combTo_yes hr] at hs
      simp only [Nat.succ_eq_add_one] at hl
      rcases snoc_cases (combTo r E D F k) with h | ⟨M, t, h⟩
      · rw [h, mrg_nil, List.mem_singleton] at hs
        rw [hs]
        exact Int.le_refl _
      · rw [h] at hs ih
        have ht := ih t (by simp)
        by_cases hc : ge E k ≤ t.2
        · rw [mrg_in M t _ hc, List.mem_append, List.mem_singleton] at hs
          rcases hs with hs | rfl
          · have := ih s (by simp [hs]); omega
          · simp only []; omega
        · rw [mrg_out M t _ hc, List.mem_append, List.mem_singleton] at hs
          rcases hs with hs | rfl
          · have := ih s hs; omega
          · exact Int.le_refl _
theorem comb_good (r : Bool → Bool → Bool) (hr : r false false = false) (E : List Int) (D F : List Sp) (hE : E.Pairwise (· < ·)) (hm : ∀ x, x ∈ E ↔ (x ∈ endsS D ∨ x ∈ endsS F)) (hD : ApartI D) (hF : ApartI F) :
    ApartI (combE r E D F) ∧ ∀ q, inI (combE r E D F) q ↔ r (inB' D q) (inB' F q) = true := by
  have hpr : ∀ p ∈ prsTo E (E.length - 1), ∃ i, i + 1 < E.length ∧ p = (ge E i, ge E (i + 1)) := by
    intro p hp
    simp only [prsTo, List.mem_map, List.mem_range] at hp
    obtain ⟨i, hi, rfl⟩ := hp
    exact ⟨i, by omega, rfl⟩
  have hfold := fold_good ((prsTo E (E.length - 1)).filter fun p => r (hdS p.1 (dropS p.1 D)) (hdS p.1 (dropS p.1 F))) [] ⟨by simp, by simp⟩
    (fun s hs => by
      obtain ⟨i, hi, rfl⟩ := hpr s (List.mem_filter.1 hs).1
      exact ge_lt hE (Nat.lt_succ_self i) hi)
    (by
      refine List.Pairwise.filter _ ?_
      unfold prsTo
      rw [List.pairwise_map]
      refine List.Pairwise.imp_of_mem ?_ List.pairwise_lt_range
      intro i j hi hj hij
      simp only [List.mem_range] at hi hj
      exact Int.le_of_lt (ge_lt hE hij (by omega)))
    (by simp)
  refine ⟨hfold.1, fun q => ?_⟩
  have hq : inI (combE r E D F) q ↔ _ := hfold.2 q
  rw [hq]
  constructor
  · rintro (⟨s, hs, _⟩ | ⟨s, hs, h1, h2⟩)
    · simp at hs
    · obtain ⟨hs1, hs2⟩ := List.mem_filter.1 hs
      obtain ⟨i, hi, rfl⟩ := hpr s hs1
      simp only [has_eq _ hD, has_eq _ hF] at hs2 h1 h2
      rw [inB_same (fun x hx => ge_side hE hi ((hm x).2 (.inl hx))) h1 h2, inB_same (fun x hx => ge_side hE hi ((hm x).2 (.inr hx))) h1 h2]
      exact hs2
  · intro h
    have hin : inI D q ∨ inI F q := by
      cases h1 : inB' D q with
      | true => exact .inl (inB'_iff.1 h1)
      | false =>
        cases h2 : inB' F q with
        | true => exact .inr (inB'_iff.1 h2)
        | false => rw [h1, h2, hr] at h; cases h
    have hab : (∃ a ∈ E, a ≤ q) ∧ ∃ b ∈ E, q < b := by
      rcases hin with ⟨s, hs, h1, h2⟩ | ⟨s, hs, h1, h2⟩
      · exact ⟨⟨s.1, (hm _).2 (.inl (by simp only [endsS, List.mem_flatMap]; exact ⟨s, hs, by simp⟩)), h1⟩, s.2, (hm _).2 (.inl (by simp only [endsS, List.mem_flatMap]; exact ⟨s, hs, by simp⟩)), h2⟩
      · exact ⟨⟨s.1, (hm _).2 (.inr (by simp only [endsS, List.mem_flatMap]; exact ⟨s, hs, by simp⟩)), h1⟩, s.2, (hm _).2 (.inr (by simp only [endsS, List.mem_flatMap]; exact ⟨s, hs, by simp⟩)), h2⟩
    obtain ⟨i, hi, g1, g2⟩ := find_pair E hE hab.1 hab.2
    refine .inr ⟨(ge E i, ge E (i + 1)), List.mem_filter.2 ⟨?_, ?_⟩, g1, g2⟩
    · simp only [prsTo, List.mem_map, List.mem_range]
      exact ⟨i, by omega, rfl⟩
    · simp only [has_eq _ hD, has_eq _ hF]
      rw [inB_same (fun x hx => ge_side hE hi ((hm x).2 (.inl hx))) g1 g2, inB_same (fun x hx => ge_side hE hi ((hm x).2 (.inr hx))) g1 g2] at h
      exact h
theorem comb_ok (r : Bool → Bool → Bool) (hr : r false false = false) (E : List Int) (D F : List Sp) (hE : E.Pairwise (· < ·)) (hm : ∀ x, x ∈ E ↔ (x ∈ endsS D ∨ x ∈ endsS F)) (hD : ApartI D) (hF : ApartI F) (kD : SpOk D) (kF : SpOk F) : SpOk (combE r E D F) := by
  obtain ⟨⟨_, hne⟩, hq⟩ := comb_good r hr E D F hE hm hD hF
  have key : ∀ q, inI (combE r E D F) q → 0 ≤ q ∧ q < 8589934592 := by
    intro q h
    have h := (hq q).1 h
    cases h1 : inB' D q with
    | true =>
      obtain ⟨s, hs, g1, g2⟩ := inB'_iff.1 h1
      have := kD s hs
      omega
    | false =>
      cases h2 : inB' F q with
      | true =>
        obtain ⟨s, hs, g1, g2⟩ := inB'_iff.1 h2
        have := kF s hs
        omega
      | false => rw [h1, h2, hr] at h; cases h
  intro s hs
  have hlt := hne s hs
  have a := key s.1 ⟨s, hs, by omega, hlt⟩
  have b := key (s.2 - 1) ⟨s, hs, by omega, by omega⟩
  omega
theorem inB_cover {L : List Cl} (hL : AllV L) (q : Nat) : inB' (coverL L) (q : Int) = covB (L.map blkOf) q := by
  have h1 := (cover_good L (fun x hx => (vl_iff x).2 (hL x hx))).2 (q : Int)
  rw [Bool.eq_iff_iff, inB'_iff, h1, covB_map]
  constructor
  · rintro ⟨x, hx, a, b⟩
    exact ⟨x, hx, by omega, by omega⟩
  · rintro ⟨x, hx, a, b⟩
    exact ⟨x, hx, by omega, by omega⟩
theorem comb_made (op : Int) (E : List Int) (a b : List Cl) (ha : AllV a) (hb : AllV b) (hE : E.Pairwise (· < ·)) (hm : ∀ x, x ∈ E ↔ (x ∈ endsS (coverL a) ∨ x ∈ endsS (coverL b))) :
    tidyL (combE (opB op) E (coverL a) (coverL b)) = madeL op a b ∧ SpOk (combE (opB op) E (coverL a) (coverL b)) := by
  have hr : opB op false false = false := by simp [opB]
  have va : ∀ x ∈ a, vldB x.1 x.2.1 x.2.2 = true := fun x hx => (vl_iff x).2 (ha x hx)
  have vb : ∀ x ∈ b, vldB x.1 x.2.1 x.2.2 = true := fun x hx => (vl_iff x).2 (hb x hx)
  have hD := (cover_good a va).1
  have hF := (cover_good b vb).1
  obtain ⟨h1, h2⟩ := comb_good (opB op) hr E _ _ hE hm hD hF
  have h3 := comb_ok (opB op) hr E _ _ hE hm hD hF (spOk_cover a va) (spOk_cover b vb)
  refine ⟨?_, h3⟩
  rw [tidyL_canon h1 h3, madeL_canon op a b ha hb]
  refine canonC_congr fun q => ?_
  rw [h2, inB_cover ha, inB_cover hb]
end Go.Proofs.YtienkfcliocjgaaGreat
namespace Go.Proofs.YtienkfcliocjgaaGreat
open Canon
/-! ### regions as sets -/
theorem cov_app (A B : List Blk2) (q : Nat) : covB (A ++ B) q = (covB A q || covB B q) := by simp [covB]
theorem cov_canon (S : Nat → Prop) : ∀ (h n q : Nat), n * 4 ^ h ≤ q → q < (n + 1) * 4 ^ h → (covB (canon S h n) q = true ↔ S q)
  | h, n, q, h1, h2 => by
    constructor
    · intro hc
      obtain ⟨b, hb, b1, b2⟩ := covS.1 hc
      exact ((mem_canon S h n b.1 b.2).1 hb).2.2.1 q b1 b2
    · intro hS
      by_cases hf : full S h n
      · rw [canon_full hf]
        exact covS.2 ⟨(h, n), by simp, h1, h2⟩
      · match h, h1, h2, hf with
        | 0, h1, h2, hf =>
          exfalso
          simp at h1 h2
          have : q = n := by omega
          exact hf ((full_zero S n).2 (this ▸ hS))
        | h + 1, h1, h2, hf =>
          simp only [canon, hf, if_false, cov_app, Bool.or_eq_true]
          have e : ∀ m : Nat, m * 4 ^ (h + 1) = 4 * m * 4 ^ h := fun m => by rw [Nat.pow_succ]; rw [Nat.mul_comm 4 m, Nat.mul_assoc, Nat.mul_comm 4]
          rw [e] at h1 h2
          have e1 : (4 * n + 1) * 4 ^ h = 4 * n * 4 ^ h + 4 ^ h := by rw [Nat.add_mul]; omega
          have e2 : (4 * n + 2) * 4 ^ h = 4 * n * 4 ^ h + 2 * 4 ^ h := by rw [Nat.add_mul]
          have e3 : (4 * n + 3) * 4 ^ h = 4 * n * 4 ^ h + 3 * 4 ^ h := by rw [Nat.add_mul]
          have e4 : (4 * n + 1 + 1) * 4 ^ h = 4 * n * 4 ^ h + 2 * 4 ^ h := by rw [show 4 * n + 1 + 1 = 4 * n + 2 by omega, e2]
          have e5 : (4 * n + 2 + 1) * 4 ^ h = 4 * n * 4 ^ h + 3 * 4 ^ h := by rw [show 4 * n + 2 + 1 = 4 * n + 3 by omega, e3]
          have e6 : (4 * n + 3 + 1) * 4 ^ h = 4 * n * 4 ^ h + 4 * 4 ^ h := by rw [show 4 * n + 3 + 1 = 4 * n + 4 by omega, Nat.add_mul]
          have e7 : 4 * (n + 1) * 4 ^ h = 4 * n * 4 ^ h + 4 * 4 ^ h := by rw [show 4 * (n + 1) = 4 * n + 4 by omega, Nat.add_mul]
          by_cases c0 : q < (4 * n + 1) * 4 ^ h
          · exact .inl ((cov_canon S h (4 * n) q h1 c0).2 hS)
          · by_cases c1 : q < (4 * n + 1 + 1) * 4 ^ h
            · exact .inr (.inl ((cov_canon S h (4 * n + 1) q (by omega) c1).2 hS))
            · by_cases c2 : q < (4 * n + 2 + 1) * 4 ^ h
              · exact .inr (.inr (.inl ((cov_canon S h (4 * n + 2) q (by omega) c2).2 hS)))
              · exact .inr (.inr (.inr ((cov_canon S h (4 * n + 3) q (by omega) (by omega)).2 hS)))
theorem cov_canon_out (S : Nat → Prop) (h n q : Nat) (hq : ¬ (n * 4 ^ h ≤ q ∧ q < (n + 1) * 4 ^ h)) : covB (canon S h n) q = false := by
  rw [Bool.eq_false_iff]
  intro hc
  obtain ⟨b, hb, b1, b2⟩ := covS.1 hc
  obtain ⟨g1, g2⟩ := canon_in S h n b hb
  exact hq ⟨by omega, by omega⟩
/-- the region of a set -/
noncomputable def regB (s : Nat → Bool) : List Cl := canonC fun q => s q = true
theorem cov_reg (s : Nat → Bool) (q : Nat) : covB ((regB s).map blkOf) q = (decide (q < 2 * 4 ^ 16) && s q) := by
  unfold regB
  rw [canonC_blk, cov_app]
  by_cases h0 : q < 4 ^ 16
  · have c0 := cov_canon (fun q => s q = true) 16 0 q (by omega) (by omega)
    have c1 := cov_canon_out (fun q => s q = true) 16 1 q (by omega)
    rw [c1, Bool.or_false, decide_eq_true (by omega), Bool.true_and, Bool.eq_iff_iff]
    exact c0
  · have c0 := cov_canon_out (fun q => s q = true) 16 0 q (by omega)
    rw [c0, Bool.false_or]
    by_cases h1 : q < 2 * 4 ^ 16
    · have c1 := cov_canon (fun q => s q = true) 16 1 q (by omega) (by omega)
      rw [decide_eq_true h1, Bool.true_and, Bool.eq_iff_iff]
      exact c1
    · have c1 := cov_canon_out (fun q => s q = true) 16 1 q (by omega)
      rw [c1, decide_eq_false h1, Bool.false_and]
theorem reg_congr {s t : Nat → Bool} (h : ∀ q, q < 2 * 4 ^ 16 → s q = t q) : regB s = regB t := by
  unfold regB canonC
  rw [canon_congr 16 0 (T := fun q => t q = true) (fun q _ h2 => by rw [h q (by omega)]), canon_congr 16 1 (T := fun q => t q = true) (fun q _ h2 => by rw [h q (by omega)])]
theorem reg_v (s : Nat → Bool) : AllV (regB s) := by
  intro x hx
  obtain ⟨b, hb, rfl⟩ := List.mem_map.1 hx
  have key : ∀ n, n < 2 → b ∈ canon (fun q => s q = true) 16 n → Vl (cellB b) := by
    intro n hn hb
    obtain ⟨g1, g2, _⟩ := (mem_canon _ 16 n b.1 b.2).1 hb
    refine cellB_vl b g1 ?_
    have hp : 0 < 4 ^ (16 - b.1) := Nat.pow_pos (by omega)
    rw [← Nat.div_lt_iff_lt_mul hp]
    omega
  rcases List.mem_append.1 hb with hb | hb
  · exact key 0 (by omega) hb
  · exact key 1 (by omega) hb
theorem reg_made (op : Int) (s t : Nat → Bool) : madeL op (regB s) (regB t) = regB fun q => opB op (s q) (t q) := by
  rw [madeL_canon op _ _ (reg_v s) (reg_v t)]
  show regB (fun q => opB op (covB ((regB s).map blkOf) q) (covB ((regB t).map blkOf) q)) = _
  refine reg_congr fun q hq => ?_
  rw [cov_reg, cov_reg, decide_eq_true hq, Bool.true_and, Bool.true_and]
theorem reg_tidy (s : Nat → Bool) : canonC (covL (regB s)) = regB s := by
  have e : canonC (covL (regB s)) = regB (fun q => covB ((regB s).map blkOf) q) := canonC_congr fun q => (covB_map _ q).symm
  rw [e]
  refine reg_congr fun q hq => ?_
  rw [cov_reg, decide_eq_true hq, Bool.true_and]
theorem reg_vr (s : Nat → Bool) (h : (regB s).length ≤ 4000) : vrB (regB s) = true := (vrB_iff _).2 ⟨h, reg_v s, reg_tidy s⟩
/-- a tidy region is the region of what it covers -/
theorem vr_reg {L : List Cl} (h : vrB L = true) : regB (fun q => covB (L.map blkOf) q) = L := by
  obtain ⟨_, _, h3⟩ := (vrB_iff L).1 h
  refine Eq.trans ?_ h3
  exact canonC_congr fun q => covB_map L q
theorem tidy_reg {L : List Cl} (hb : badL L = false) (hn : L.length ≤ 4000) : tidyR L = regB (fun q => covB (L.map blkOf) q) ∧ tidyE L = 0 := by
  obtain ⟨h1, h2⟩ := tidyR_made hb hn
  refine ⟨?_, h2⟩
  rw [h1, made_or L (allV_of hb)]
  exact canonC_congr fun q => (covB_map L q).symm
/-- no two regions of sets are the same unless the sets are -/
theorem reg_inj {s t : Nat → Bool} (h : regB s = regB t) (q : Nat) (hq : q < 2 * 4 ^ 16) : s q = t q := by
  have h1 := cov_reg s q
  have h2 := cov_reg t q
  rw [h, h2, decide_eq_true hq, Bool.true_and, Bool.true_and] at h1
  exact h1.symm
theorem reg_nil {s : Nat → Bool} (h : ∀ q, q < 2 * 4 ^ 16 → s q = false) : regB s = [] := by
  unfold regB canonC
  rw [canon_none (fun q _ h2 => by rw [h q (by omega)]; simp), canon_none (fun q _ h2 => by rw [h q (by omega)]; simp)]
  rfl
/-! ### how long a region is that is made of few cells -/
/-- s changes only inside of blocks that have one of A strictly inside -/
def Homog (A : List Blk2) (s : Nat → Bool) : Prop := ∀ h n, (∀ b ∈ A, ¬ (b.1 < h ∧ insB b h n = true)) → ∀ q q', n * 4 ^ h ≤ q → q < (n + 1) * 4 ^ h → n * 4 ^ h ≤ q' → q' < (n + 1) * 4 ^ h → s q = s q'
theorem homog_op {A : List Blk2} {s t : Nat → Bool} (op : Bool → Bool → Bool) (hs : Homog A s) (ht : Homog A t) : Homog A fun q => op (s q) (t q) := by
  intro h n hA q q' h1 h2 h3 h4
  simp only []
  rw [hs h n hA q q' h1 h2 h3 h4, ht h n hA q q' h1 h2 h3 h4]
theorem homog_cov {A B : List Blk2} (hBA : ∀ b ∈ B, b ∈ A) : Homog A (covB B) := by
  have key : ∀ h n, (∀ b ∈ A, ¬ (b.1 < h ∧ insB b h n = true)) → ∀ q q', n * 4 ^ h ≤ q → q < (n + 1) * 4 ^ h → n * 4 ^ h ≤ q' → q' < (n + 1) * 4 ^ h → covB B q = true → covB B q' = true := by
    intro h n hA q q' h1 h2 h3 h4 hc
    obtain ⟨b, hb, b1, b2⟩ := covS.1 hc
    have hle : h ≤ b.1 := by
      rcases Nat.lt_or_ge b.1 h with g | g
      · exact absurd ⟨g, meet_in (a := b) (b := (h, n)) (Nat.le_of_lt g) b1 b2 h1 h2⟩ (hA b (hBA b hb))
      · exact g
    have hin := meet_in (a := (h, n)) (b := b) hle h1 h2 b1 b2
    have hbd := (ins_iff (b := (h, n)) hle).1 hin
    simp only [] at hbd
    exact covS.2 ⟨b, hb, by omega, by omega⟩
  intro h n hA q q' h1 h2 h3 h4
  rw [Bool.eq_iff_iff]
  exact ⟨key h n hA q q' h1 h2 h3 h4, key h n hA q' q h3 h4 h1 h2⟩
def cntB (A : List Blk2) (h n : Nat) : Nat := (A.filter fun b => decide (b.1 < h) && insB b h n).length
theorem sum4 {α : Type} (p0 p1 p2 p3 p : α → Bool) (h : ∀ b, (p0 b).toNat + (p1 b).toNat + (p2 b).toNat + (p3 b).toNat ≤ (p b).toNat) : ∀ A : List α, (A.filter p0).length + (A.filter p1).length + (A.filter p2).length + (A.filter p3).length ≤ (A.filter p).length
  | [] => by simp
  | b :: A => by
    have ih := sum4 p0 p1 p2 p3 p h A
    have hb := h b
    simp only [List.filter_cons]
    cases h0 : p0 b <;> cases h1 : p1 b <;> cases h2 : p2 b <;> cases h3 : p3 b <;> cases h4 : p b <;> simp [h0, h1, h2, h3, h4] at hb ⊢ <;> omega
theorem cnt_kids (A : List Blk2) (h n : Nat) : cntB A h (4 * n) + cntB A h (4 * n + 1) + cntB A h (4 * n + 2) + cntB A h (4 * n + 3) ≤ cntB A (h + 1) n := by
  refine sum4 _ _ _ _ _ (fun b => ?_) A
  by_cases hb : b.1 < h
  · have e : h + 1 - b.1 = (h - b.1) + 1 := by omega
    have e2 : b.2 / 4 ^ (h + 1 - b.1) = b.2 / 4 ^ (h - b.1) / 4 := by rw [e, Nat.pow_succ, ← Nat.div_div_eq_div_mul]
    have hb1 : b.1 ≤ h := by omega
    have hb2 : b.1 < h + 1 := by omega
    have hb3 : b.1 ≤ h + 1 := by omega
    simp only [insB, e2, hb, hb1, hb2, hb3, decide_true, Bool.true_and, true_and]
    generalize b.2 / 4 ^ (h - b.1) = m
    have d1 : (4 * n + 1) / 4 = n := by omega
    have d2 : (4 * n + 2) / 4 = n := by omega
    have d3 : (4 * n + 3) / 4 = n := by omega
    by_cases c0 : m = 4 * n
    · simp [c0]
    · by_cases c1 : m = 4 * n + 1
      · simp [c1, d1]
      · by_cases c2 : m = 4 * n + 2
        · simp [c2, d2]
        · by_cases c3 : m = 4 * n + 3
          · simp [c3, d3]
          · simp [c0, c1, c2, c3]
  · simp [hb]
theorem cnt_zero {A : List Blk2} {h n : Nat} (hc : cntB A h n = 0) : ∀ b ∈ A, ¬ (b.1 < h ∧ insB b h n = true) := by
  intro b hb ⟨h1, h2⟩
  have : b ∈ A.filter fun b => decide (b.1 < h) && insB b h n := List.mem_filter.2 ⟨hb, by simp [h1, h2]⟩
  have h3 := List.length_pos_of_mem this
  unfold cntB at hc
  omega
theorem homog_len {A : List Blk2} {s : Nat → Bool} (hs : Homog A s) {h n : Nat} (hc : cntB A h n = 0) (hnf : ¬ full (fun q => s q = true) h n) : canon (fun q => s q = true) h n = [] := by
  refine canon_none fun q h1 h2 hq => hnf fun q' h3 h4 => ?_
  show s q' = true
  rw [hs h n (cnt_zero hc) q' q h3 h4 h1 h2]
  exact hq
theorem canon_few {A : List Blk2} {s : Nat → Bool} (hs : Homog A s) : ∀ (h n : Nat), (canon (fun q => s q = true) h n).length ≤ (3 * h - 1) * cntB A h n + 1
  | h, n => by
    by_cases hf : full (fun q => s q = true) h n
    · rw [canon_full hf]
      simp
    · by_cases hc : cntB A h n = 0
      · rw [homog_len hs hc hf]
        simp
      · match h, hf, hc with
        | 0, _, hc =>
          exfalso
          exact hc (by simp [cntB])
        | h + 1, hf, hc =>
          have r0 := canon_few hs h (4 * n)
          have r1 := canon_few hs h (4 * n + 1)
          have r2 := canon_few hs h (4 * n + 2)
          have r3 := canon_few hs h (4 * n + 3)
          have hk := cnt_kids A h n
          have z0 := homog_len hs (h := h) (n := 4 * n)
          have z1 := homog_len hs (h := h) (n := 4 * n + 1)
          have z2 := homog_len hs (h := h) (n := 4 * n + 2)
          have z3 := homog_len hs (h := h) (n := 4 * n + 3)
          rw [full_succ] at hf
          have hf' : ¬ full (fun q => s q = true) (h + 1) n := by rw [full_succ]; exact hf
          simp only [canon, hf', if_false, List.length_append]
          have hh0 : h = 0 → cntB A h (4 * n) + cntB A h (4 * n + 1) + cntB A h (4 * n + 2) + cntB A h (4 * n + 3) = 0 := by
            intro e
            subst e
            simp [cntB]
          generalize cntB A h (4 * n) = c0 at *
          generalize cntB A h (4 * n + 1) = c1 at *
          generalize cntB A h (4 * n + 2) = c2 at *
          generalize cntB A h (4 * n + 3) = c3 at *
          generalize cntB A (h + 1) n = c at *
          by_cases hz : c0 + c1 + c2 + c3 = 0
          · have e0 : c0 = 0 := by omega
            have e1 : c1 = 0 := by omega
            have e2 : c2 = 0 := by omega
            have e3 : c3 = 0 := by omega
            subst e0 e1 e2 e3
            simp only [Nat.mul_zero, Nat.zero_add] at r0 r1 r2 r3
            have h2 : 2 * 1 ≤ (3 * (h + 1) - 1) * c := Nat.mul_le_mul (by omega) (by omega)
            by_cases f0 : full (fun q => s q = true) h (4 * n)
            · by_cases f1 : full (fun q => s q = true) h (4 * n + 1)
              · by_cases f2 : full (fun q => s q = true) h (4 * n + 2)
                · by_cases f3 : full (fun q => s q = true) h (4 * n + 3)
                  · exact absurd ⟨f0, f1, f2, f3⟩ hf
                  · rw [z3 rfl f3]; simp only [List.length_nil]; omega
                · rw [z2 rfl f2]; simp only [List.length_nil]; omega
              · rw [z1 rfl f1]; simp only [List.length_nil]; omega
            · rw [z0 rfl f0]; simp only [List.length_nil]; omega
          · have e : (3 * h - 1) * c0 + (3 * h - 1) * c1 + (3 * h - 1) * c2 + (3 * h - 1) * c3 = (3 * h - 1) * (c0 + c1 + c2 + c3) := by simp only [Nat.mul_add]
            have e2 : (3 * h - 1) * (c0 + c1 + c2 + c3) ≤ (3 * h - 1) * c := Nat.mul_le_mul_left _ hk
            by_cases hh : h = 0
            · exact absurd (hh0 hh) hz
            · have e4 : (3 * h - 1) * c + 3 * c = (3 * (h + 1) - 1) * c := by
                rw [← Nat.add_mul]
                congr 1
                omega
              omega
theorem canon_top {A : List Blk2} {s : Nat → Bool} (hs : Homog A s) : ∀ (j n : Nat), (canon (fun q => s q = true) (13 + j) n).length ≤ 38 * cntB A (13 + j) n + 4 ^ j
  | 0, n => canon_few hs 13 n
  | j + 1, n => by
    by_cases hf : full (fun q => s q = true) (13 + j + 1) n
    · rw [show 13 + (j + 1) = 13 + j + 1 by omega, canon_full hf]
      have : 0 < 4 ^ (j + 1) := Nat.pow_pos (by omega)
      simp only [List.length_singleton]
      omega
    · have r0 := canon_top hs j (4 * n)
      have r1 := canon_top hs j (4 * n + 1)
      have r2 := canon_top hs j (4 * n + 2)
      have r3 := canon_top hs j (4 * n + 3)
      have hk := cnt_kids A (13 + j) n
      rw [show 13 + (j + 1) = 13 + j + 1 by omega]
      simp only [canon, hf, if_false, List.length_append]
      rw [Nat.pow_succ]
      omega
theorem reg_few {A : List Blk2} {s : Nat → Bool} (hs : Homog A s) (hA : A.length ≤ 100) : (regB s).length ≤ 4000 := by
  have h0 := canon_top hs 3 0
  have h1 := canon_top hs 3 1
  simp only [show 13 + 3 = 16 from rfl] at h0 h1
  have hsum : cntB A 16 0 + cntB A 16 1 + (A.filter fun _ => false).length + (A.filter fun _ => false).length ≤ (A.filter fun _ => true).length := by
    refine sum4 _ _ _ _ _ (fun b => ?_) A
    simp only [insB]
    by_cases hb : b.1 < 16
    · have hb1 : b.1 ≤ 16 := by omega
      simp only [hb, hb1, decide_true, Bool.true_and, true_and]
      by_cases c0 : b.2 / 4 ^ (16 - b.1) = 0
      · simp [c0]
      · by_cases c1 : b.2 / 4 ^ (16 - b.1) = 1
        · simp [c1]
        · simp [c0, c1]
    · simp [hb]
  have hft := List.length_filter_le (fun _ => true) A
  unfold regB canonC
  rw [List.length_map, List.length_append]
  omega
/-! ### what made returns -/
def mkR (op : Int) (a b : List Cl) : List Cl := if vrB a = true then if vrB b = true then if (madeL op a b).length ≤ 4000 then madeL op a b else [] else [] else []
def mkE (op : Int) (a b : List Cl) : Int := if vrB a = true then if vrB b = true then if (madeL op a b).length ≤ 4000 then 0 else 4 else 1 else 1
theorem mk_reg (op : Int) {A : List Blk2} {s t : Nat → Bool} (hs : Homog A s) (ht : Homog A t) (hA : A.length ≤ 100) :
    mkR op (regB s) (regB t) = (regB fun q => opB op (s q) (t q)) ∧ mkE op (regB s) (regB t) = 0 := by
  have h1 := reg_vr s (reg_few hs hA)
  have h2 := reg_vr t (reg_few ht hA)
  have h3 : (regB fun q => opB op (s q) (t q)).length ≤ 4000 := reg_few (homog_op (opB op) hs ht) hA
  unfold mkR mkE
  rw [if_pos h1, if_pos h2, if_pos h1, if_pos h2, reg_made, if_pos h3, if_pos h3]
  exact ⟨rfl, rfl⟩
end Go.Proofs.YtienkfcliocjgaaGreat
