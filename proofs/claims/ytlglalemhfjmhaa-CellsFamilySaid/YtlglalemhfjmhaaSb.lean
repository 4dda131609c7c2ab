/- slices.Compact at int. -/
import Derived.Test.YtlglalemhfjmhaaSa
import Derived.BigQuiet
namespace Go.Proofs.Ytlglalemhfjmhaa
open Go.RowKit
/-- one number more, if it is not the last one again -/
def cptF (acc : List Int) (x : Int) : List Int := if acc.getLast? = some x then acc else acc ++ [x]
/-- no number twice in a row -/
def cpt (X : List Int) : List Int := X.foldl cptF []
theorem cpt_snoc (X : List Int) (x : Int) : cpt (X ++ [x]) = cptF (cpt X) x := by simp [cpt]
theorem cptF_last (acc : List Int) (x : Int) : (cptF acc x).getLast? = some x := by
  unfold cptF
  split
  · assumption
  · simp
theorem cptF_len (acc : List Int) (x : Int) : (cptF acc x).length ≤ acc.length + 1 := by
  unfold cptF
  split <;> simp
theorem takeI (X : List Int) (k : Nat) (hk : k < X.length) : X.take (k + 1) = X.take k ++ [ge X k] := by
  rw [List.take_succ_eq_append_getElem hk]
  simp [ge, hk]
theorem cpt_last (X : List Int) (k : Nat) (hk : k < X.length) : (cpt (X.take (k + 1))).getLast? = some (ge X k) := by
  rw [takeI X k hk, cpt_snoc, cptF_last]
theorem cpt_same (X : List Int) (k : Nat) (hk : k + 1 < X.length) (h : ge X (k + 1) = ge X k) : cpt (X.take (k + 2)) = cpt (X.take (k + 1)) := by
  rw [takeI X (k + 1) hk, cpt_snoc]
  unfold cptF
  rw [if_pos (by rw [cpt_last X k (by omega), h])]
theorem cpt_new (X : List Int) (k : Nat) (hk : k + 1 < X.length) (h : ¬ ge X (k + 1) = ge X k) : cpt (X.take (k + 2)) = cpt (X.take (k + 1)) ++ [ge X (k + 1)] := by
  rw [takeI X (k + 1) hk, cpt_snoc]
  unfold cptF
  rw [if_neg (by rw [cpt_last X k (by omega)]; intro e; exact h (Option.some.inj e).symm)]
theorem cpt_len (X : List Int) : (cpt X).length ≤ X.length := by
  have : ∀ (X acc : List Int), (X.foldl cptF acc).length ≤ acc.length + X.length := by
    intro X
    induction X with
    | nil => intro acc; simp
    | cons x r ih =>
      intro acc
      have h1 := ih (cptF acc x)
      have h2 := cptF_len acc x
      simp only [List.foldl_cons, List.length_cons]
      omega
  simpa [cpt] using this X []
theorem cpt_one (X : List Int) (h : 0 < X.length) : cpt (X.take 1) = X.take 1 := by
  match X, h with
  | x :: r, _ => simp [cpt, cptF]
theorem cpt_few (X : List Int) (h : X.length < 2) : cpt X = X := by
  match X, h with
  | [], _ => rfl
  | [x], _ => simp [cpt, cptF]
theorem fold_cpt : ∀ (X acc : List Int), acc.Pairwise (· < ·) → (∀ a ∈ acc, ∀ x ∈ X, a ≤ x) → X.Pairwise (· ≤ ·) → (X.foldl cptF acc).Pairwise (· < ·) ∧ ∀ y, y ∈ X.foldl cptF acc ↔ (y ∈ acc ∨ y ∈ X)
  | [], acc, h, _, _ => ⟨h, fun y => by simp⟩
  | x :: X, acc, h, hle, hX => by
    rw [List.pairwise_cons] at hX
    have hc : (cptF acc x).Pairwise (· < ·) ∧ ∀ y, y ∈ cptF acc x ↔ (y ∈ acc ∨ y = x) := by
      unfold cptF
      by_cases hl : acc.getLast? = some x
      · rw [if_pos hl]
        refine ⟨h, fun y => ⟨.inl, ?_⟩⟩
        rintro (hy | rfl)
        · exact hy
        · exact List.mem_of_getLast? hl
      · rw [if_neg hl]
        refine ⟨?_, fun y => by simp⟩
        rw [List.pairwise_append]
        refine ⟨h, by simp, fun a ha b hb => ?_⟩
        rw [List.mem_singleton] at hb
        subst hb
        have hab := hle a ha b (by simp)
        rcases Int.lt_or_eq_of_le hab with h1 | h1
        · exact h1
        · exfalso
          subst h1
          rcases List.eq_nil_or_concat acc with h0 | ⟨M, t, h0⟩
          · rw [h0] at ha; cases ha
          · rw [List.concat_eq_append] at h0
            subst h0
            have ht := hle t (by simp) a (by simp)
            rw [List.pairwise_append] at h
            rw [List.mem_append, List.mem_singleton] at ha
            rcases ha with ha | ha
            · have := h.2.2 a ha t (by simp)
              omega
            · subst ha
              simp at hl
    obtain ⟨g1, g2⟩ := fold_cpt X (cptF acc x) hc.1 (fun a ha y hy => by
      rcases (hc.2 a).1 ha with h1 | h1
      · exact hle a h1 y (by simp [hy])
      · rw [h1]; exact hX.1 y hy) hX.2
    refine ⟨g1, fun y => ?_⟩
    rw [List.foldl_cons, g2, hc.2, List.mem_cons]
    constructor
    · rintro ((h1 | h1) | h1)
      · exact .inl h1
      · exact .inr (.inl h1)
      · exact .inr (.inr h1)
    · rintro (h1 | h1 | h1)
      · exact .inl (.inl h1)
      · exact .inl (.inr h1)
      · exact .inr h1
theorem cpt_sorted (X : List Int) : (cpt (sortI X)).Pairwise (· < ·) ∧ ∀ y, y ∈ cpt (sortI X) ↔ y ∈ X := by
  have hs : (sortI X).Pairwise (· ≤ ·) := by
    have h := List.pairwise_mergeSort (le := fun x y : Int => decide (x ≤ y)) (by intro a b c h1 h2; simp only [decide_eq_true_eq] at *; omega) (by intro a b; simp only [Bool.or_eq_true, decide_eq_true_eq]; omega) X
    exact Canon.pairs_less (fun a b h => by simpa using h) h
  obtain ⟨h1, h2⟩ := fold_cpt (sortI X) [] (by simp) (by simp) hs
  refine ⟨h1, fun y => ?_⟩
  rw [cpt, h2]
  simp [sortI, List.mem_mergeSort]
/-! ### rows -/
theorem own_take {w : World} {base g cap : Nat} {e : TypeId} {size n k : Nat} {xs : List Value} (h : w.ownsRow base e size (.slice (some ⟨g, 0, none⟩) n cap) n xs) (hk : k ≤ n) :
    w.ownsRow base e size (.slice (some ⟨g, 0, none⟩) k cap) k (xs.take (k * size)) := by
  have hks : k * size ≤ n * size := Nat.mul_le_mul_right _ hk
  refine ⟨by rw [List.length_take, h.1]; omega, ?_⟩
  rcases h.2 with ⟨h1, _⟩ | ⟨g', cap', cur, hv, hg, hh, hnc, hcm, hcs, htk⟩
  · cases h1
  · injection hv with e1 e2 e3
    injection e1 with e1
    injection e1 with e1
    subst e1 e3
    refine .inr ⟨g, cap, cur, rfl, hg, hh, by omega, hcm, hcs, ?_⟩
    rw [← htk, List.take_take]
    congr 1
    omega
theorem own_setCells {base g cap : Nat} {e : TypeId} {n : Nat} : ∀ (vs : List Value) (o : Nat) (w : World) (xs : List Value), w.ownsRow base e 1 (.slice (some ⟨g, 0, none⟩) n cap) n xs → o + vs.length ≤ n →
    ∃ ys, (w.setCells g o vs).ownsRow base e 1 (.slice (some ⟨g, 0, none⟩) n cap) n ys ∧ ys.take o = xs.take o
  | [], o, w, xs, h, _ => ⟨xs, h, rfl⟩
  | v :: vs, o, w, xs, h, ho => by
    simp only [List.length_cons] at ho
    obtain ⟨ys, h1, h2⟩ := own_setCells vs (o + 1) (w.setCell ⟨g, o, none⟩ v) (xs.set o v) (own_set h o v (by omega)) (by omega)
    refine ⟨ys, h1, ?_⟩
    have h3 := congrArg (List.take o) h2
    rw [List.take_take, List.take_take, show min o (o + 1) = o by omega] at h3
    rw [h3, List.take_set_of_le (Nat.le_refl _)]
theorem bl_setCells {base g : Nat} {w0 : World} (hg : base ≤ g) : ∀ (vs : List Value) (o : Nat) (w : World), Below base w0 w → Below base w0 (w.setCells g o vs)
  | [], _, _, h => h
  | v :: vs, o, w, h => bl_setCells hg vs (o + 1) _ (h.setCell (p := ⟨g, o, none⟩) hg v)
theorem ivs_take (X : List Int) (k : Nat) : (ivs X).take k = ivs (X.take k) := by simp [ivs, List.map_take]
theorem ivs_set (X : List Int) (k : Nat) (u : Int) : (ivs X).set k (.int .i64 u) = ivs (X.set k u) := by simp [ivs, List.map_set]
theorem ge_set_ne (X : List Int) (k j : Nat) (u : Int) (h : ¬ k = j) : ge (X.set k u) j = ge X j := by simp [ge, List.getElem?_set, h]
theorem Try.zeroInt : ∀ w, (zeroValue 3).run Try.prog w = .ok (.int .i64 0) w := fun w => by go_simp
end Go.Proofs.Ytlglalemhfjmhaa
