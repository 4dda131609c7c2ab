/- The walk of the reference's Made. -/
import Derived.Test.YtopfnffabaiceaaGGi
import Derived.Test.YtopfnffabaiceaaGJe
import Derived.Test.YtopfnffabaiceaaGRc
import Derived.Test.YtopfnffabaiceaaGRe
import Derived.Test.YtopfnffabaiceaaGJb
set_option linter.unusedVariables false
set_option linter.unusedSimpArgs false
/- What the parts of a region are, in plain words: together they are the region, and no two of them touch. -/
namespace Go.Proofs.Ytopfnffabaiceaa
theorem gt_range (L : List Cl) : (List.range L.length).map (gt L) = L := by
  apply List.ext_getElem
  · simp
  · intro i h1 h2
    have : i < L.length := by simpa using h1
    simp [gt, this]
theorem parts_flat (L : List Cl) : (partsL L).flatten.Perm L := by
  have h := PQ.prtI_perm (PQ.cl_ok (tL_sym L L.length) L.length (Nat.le_refl _)).1 L.length
  have h2 := h.map (gt L)
  rw [gt_range] at h2
  unfold partsL partsI
  rw [← List.map_flatten]
  exact h2
theorem parts_at {L : List Cl} {u : Nat} {A : List Cl} (h : (partsL L)[u]? = some A) : ∃ P, (PQ.prtI (PQ.cl (tL L) L.length) L.length)[u]? = some P ∧ A = P.map (gt L) := by
  unfold partsL partsI at h
  rw [List.getElem?_map] at h
  cases e : (PQ.prtI (PQ.cl (tL L) L.length) L.length)[u]? with
  | none => rw [e] at h; cases h
  | some P => rw [e] at h; exact ⟨P, rfl, by simpa using h.symm⟩
theorem parts_apart {L : List Cl} {u v : Nat} {A B : List Cl} (hu : (partsL L)[u]? = some A) (hv : (partsL L)[v]? = some B) (hne : u ≠ v) {x y : Cl} (hx : x ∈ A) (hy : y ∈ B) : tchB (bxI x) (bxI y) = false := by
  obtain ⟨P, hP, rfl⟩ := parts_at hu
  obtain ⟨Q, hQ, rfl⟩ := parts_at hv
  obtain ⟨a, ha, rfl⟩ := List.mem_map.1 hx
  obtain ⟨b, hb, rfl⟩ := List.mem_map.1 hy
  have h1 := PQ.prtI_diff _ _ u v P Q hP hQ hne a b ha hb
  cases h : tchB (bxI (gt L a)) (bxI (gt L b)) with
  | false => rfl
  | true => exact absurd (PQ.cl_touch (tL_sym L L.length) (PQ.prtI_lt _ _ u P hP a ha) (PQ.prtI_lt _ _ v Q hQ b hb) h) h1
theorem parts_mem {L : List Cl} {u : Nat} {A : List Cl} (hu : (partsL L)[u]? = some A) {x : Cl} (hx : x ∈ A) : x ∈ L :=
  (parts_flat L).mem_iff.1 (List.mem_flatten.2 ⟨A, List.mem_of_getElem? hu, hx⟩)
theorem parts_len {L : List Cl} {u : Nat} {A : List Cl} (hu : (partsL L)[u]? = some A) : A.length ≤ L.length := by
  obtain ⟨P, hP, rfl⟩ := parts_at hu
  rw [List.length_map]
  exact PQ.prtI_len _ _ u P hP
theorem parts_count (L : List Cl) : (partsL L).length ≤ L.length := by
  unfold partsL partsI
  rw [List.length_map, PQ.prtI_length]
  unfold PQ.rnk
  exact Nat.le_trans (List.length_filter_le _ _) (by simp)
/-- how many cells the first parts have -/
theorem take_flat_len (LL : List (List Cl)) (k : Nat) : (LL.take k).flatten.length ≤ LL.flatten.length := by
  have h : LL.flatten = (LL.take k).flatten ++ (LL.drop k).flatten := by rw [← List.flatten_append, List.take_append_drop]
  rw [h, List.length_append]; omega
/-- a tidy region, its cells in any order: Tidy brings it back -/
theorem tidy_perm {L M : List Cl} (hv : vrB L = true) (hp : M.Perm L) : tidyR M = L ∧ tidyE M = 0 := by
  have hb : badL M = false := badL_of (fun x hx => ((vrB_iff L).1 hv).2.1 x (hp.mem_iff.1 hx))
  have hn : M.length ≤ 4000 := by rw [hp.length_eq]; exact ((vrB_iff L).1 hv).1
  obtain ⟨h1, h2⟩ := tidy_reg hb hn
  refine ⟨?_, h2⟩
  rw [h1, ← vr_reg hv]
  congr 1
  funext q
  exact (hp.map blkOf).any_eq
theorem tidy_parts {L : List Cl} (hv : vrB L = true) : tidyR (partsL L).flatten = L ∧ tidyE (partsL L).flatten = 0 := tidy_perm hv (parts_flat L)
end Go.Proofs.Ytopfnffabaiceaa
/- The walk of the reference's within. -/
namespace Go.Proofs.Ytopfnffabaiceaa
open Go.RowKit
def lvOk (L : List Cl) : Prop := ∀ y ∈ L, 0 ≤ y.1 ∧ y.1 ≤ 16
theorem lvOk_if {L : List Cl} (h : lvOk L) (x : Bool) : lvOk (if x = true then [] else L) := by cases x <;> simp [lvOk] at h ⊢; exact h
theorem belL_16 (L : List Cl) (r c : Int) (h : lvOk L) : belL L (16, r, c) = [] := by
  unfold belL
  rw [List.filter_eq_nil_iff]
  intro y hy hh
  obtain ⟨y1, y2, y3⟩ := y
  have := (h _ hy).2
  simp only [Bool.and_eq_true, Bool.not_eq_true', ceq_false, wiB, decide_eq_true_eq] at hh this
  obtain ⟨h1, h2, h3, h4⟩ := hh
  have e : y1 = 16 := by omega
  subst e
  simp at h3 h4
  exact h1 (by rw [h3, h4])
theorem lvOk_belL {L : List Cl} (x : Cl) (h : lvOk L) : lvOk (belL L x) := fun y hy => h y (List.mem_filter.1 hy).1
theorem if_len {L : List Cl} {n : Nat} (x : Bool) (c : Cl) (h : L.length ≤ n) : (belL (if x = true then [] else L) c).length ≤ n := by
  have := List.length_filter_le (fun y => !ceq y c && wiB y c) (if x = true then [] else L)
  unfold belL
  cases x
  · simp only [Bool.false_eq_true, if_false] at this ⊢; omega
  · simp
theorem kid_at (l r c : Int) {k : Nat} (hk : k < 4) : gt (kids l r c) k = (l + 1, 2 * r + (k : Int) / 2, 2 * c + (k : Int) % 2) := by
  match k, hk with
  | 0, _ => simp [kids, gt]
  | 1, _ => simp [kids, gt]
  | 2, _ => simp [kids, gt]
  | 3, _ => simp [kids, gt]
theorem kid_vld {l r c : Int} (hv : vldB l r c = true) (hl : l < 16) {k : Nat} (hk : k < 4) : vldB (l + 1) (2 * r + (k : Int) / 2) (2 * c + (k : Int) % 2) = true := by
  obtain ⟨h0, h1, h2, h3, h4, h5⟩ := vldB_true.1 hv
  have e : pw (l + 1) = 2 * pw l := by
    unfold pw
    rw [show (l + 1).toNat = l.toNat + 1 by omega, Int.pow_succ]
    omega
  rw [vldB_true, e]
  omega
def flatTo (L : List Cl) (g : Cl → List Cl) (k : Nat) : List Cl := (L.take k).flatMap g
theorem flatTo_succ (L : List Cl) (g : Cl → List Cl) (k : Nat) (hk : k < L.length) : flatTo L g (k + 1) = flatTo L g k ++ g (gt L k) := by
  unfold flatTo
  rw [take_gt L k hk, List.flatMap_append]
  simp
theorem flatTo_len (L : List Cl) (g : Cl → List Cl) (k N : Nat) (hg : ∀ x, (g x).length ≤ N) : (flatTo L g k).length ≤ k * N := by
  unfold flatTo
  have : ∀ M : List Cl, (M.flatMap g).length ≤ M.length * N := by
    intro M
    induction M with
    | nil => simp
    | cons x M ih =>
      have := hg x
      simp only [List.flatMap_cons, List.length_append, List.length_cons, Nat.add_mul]
      omega
  have h1 := this (L.take k)
  have h2 := Nat.mul_le_mul_right N (List.length_take_le k L)
  omega
theorem four_of {L : List Cl} (h : L.length = 4) : L = [gt L 0, gt L 1, gt L 2, gt L 3] := by
  match L, h with
  | [a, b, c, d], _ => rfl
end Go.Proofs.Ytopfnffabaiceaa
namespace Go.Proofs.Ytopfnffabaiceaa
open Go.RowKit
end Go.Proofs.Ytopfnffabaiceaa
