/- Plain: parents and children of cells. No program in sight. -/
import Derived.Test.YtlglalemhfjmhaaJg
namespace Go.Proofs.Ytlglalemhfjmhaa
open Canon
/-! ### parents and children -/
theorem idx_half {l : Nat} {N m : Int} (h1 : (l : Int) + 1 ≤ 16) (h2 : 0 ≤ N) (hm : 0 ≤ m) : idx N ((l + 1 : Nat) : Int) (2 * m + 1) / 2 = idx N (l : Int) m := by
  obtain ⟨g1, g2, g3, g4⟩ := idx_in (l := ((l + 1 : Nat) : Int)) (N := N) (m := 2 * m + 1) (by omega) h2 (by omega)
  generalize idx N ((l + 1 : Nat) : Int) (2 * m + 1) = k at *
  symm
  refine idx_char (by omega) (by omega) ?_ ?_
  · rw [← edg_even]
    exact Int.le_trans (edg_mono _ (by omega)) g3
  · rcases g4 with g4 | g4
    · left; omega
    · right
      rw [← edg_even]
      exact Int.lt_of_lt_of_le g4 (edg_mono _ (by omega))
theorem of_half {a b : Int} {l : Nat} (hv : vptB a b = true) (h1 : (l : Int) + 1 ≤ 16) : (ofC a b ((l + 1 : Nat) : Int)).2.1 / 2 = (ofC a b (l : Int)).2.1 ∧ (ofC a b ((l + 1 : Nat) : Int)).2.2 / 2 = (ofC a b (l : Int)).2.2 := by
  obtain ⟨a1, a2, b1, b2⟩ := vptB_true.1 hv
  have hp := pw_pos (l : Int)
  unfold ofC
  simp only []
  rw [pw_succ]
  have e1 : 2 * pw (l : Int) - 1 = 2 * (pw (l : Int) - 1) + 1 := by omega
  have e2 : 2 * (2 * pw (l : Int)) - 1 = 2 * (2 * pw (l : Int) - 1) + 1 := by omega
  refine ⟨?_, ?_⟩
  · rw [e1]
    exact idx_half h1 (by omega) (by omega)
  · rw [e2]
    exact idx_half h1 (by omega) (by omega)
theorem blk_par {x y : Cl} (hx : Vl x) (hy : Vl y) (hl : x.1 = y.1 + 1) (hr : x.2.1 / 2 = y.2.1) (hc : x.2.2 / 2 = y.2.2) {q : Nat} (h : covB [blkOf x] q = true) : covB [blkOf y] q = true := by
  obtain ⟨b, hb, h1, h2⟩ := covS.1 h
  rw [List.mem_singleton] at hb
  subst hb
  refine covS.2 ⟨blkOf y, by simp, ?_⟩
  have hx0 := hx.l0
  have hx1 := hx.l1
  have hy0 := hy.l0
  have e1 : (blkOf y).1 = (blkOf x).1 + 1 := by simp only [blkOf]; omega
  have e2 : (blkOf y).2 = (blkOf x).2 / 4 := by
    simp only [blkOf, mortI]
    have el : x.1.toNat = y.1.toNat + 1 := by omega
    have er : y.2.1.toNat = x.2.1.toNat / 2 := by omega
    have ec : y.2.2.toNat = x.2.2.toNat / 2 := by omega
    have := mort_step y.1.toNat x.2.1.toNat x.2.2.toNat 0
    simp only [Nat.pow_zero, Nat.div_one, Nat.zero_add, Nat.pow_one] at this
    rw [el, er, ec, this]
    omega
  have hp := par_bounds (blkOf x).1 (blkOf x).2
  rw [e1, e2]
  omega
theorem of_sub {a b : Int} (hv : vptB a b = true) (l : Nat) : ∀ (d : Nat), l + d ≤ 16 → ∀ q, covB [blkOf (ofC a b ((l + d : Nat) : Int))] q = true → covB [blkOf (ofC a b (l : Int))] q = true
  | 0, _, q, h => h
  | d + 1, hd, q, h => by
    have h1 := (of_in hv (l := ((l + d + 1 : Nat) : Int)) (by omega) (by omega)).1
    have h2 := (of_in hv (l := ((l + d : Nat) : Int)) (by omega) (by omega)).1
    obtain ⟨e1, e2⟩ := of_half (l := l + d) hv (by omega)
    exact of_sub hv l d (by omega) q (blk_par h1 h2 (by unfold ofC; simp only []; omega) e1 e2 h)
theorem of_ins {a b : Int} (hv : vptB a b = true) {l k : Nat} (hl : l ≤ k) (hk : k ≤ 16) : insL [ofC a b (k : Int)] [ofC a b (l : Int)] = true := by
  have h1 := (of_in hv (l := (k : Int)) (by omega) (by omega)).1
  have h2 := (of_in hv (l := (l : Int)) (by omega) (by omega)).1
  rw [← one_reg h1, ← one_reg h2, ins_reg]
  intro q _ h
  rw [show k = l + (k - l) by omega] at h
  exact of_sub hv l (k - l) (by omega) q h
/-- the children of a cell, last one first, are tidied to it -/
theorem kids_tidy {x : Cl} (hx : Vl x) (h : x.1 < 16) (L : List Cl) (hL : ∀ y, y ∈ L ↔ y ∈ kidsC x) (hn : L.length ≤ 4000) : tidyR L = [x] ∧ tidyE L = 0 := by
  have kv := kids_vl hx h
  have hv : AllV L := fun y hy => kv y ((hL y).1 hy)
  obtain ⟨h1, h2⟩ := tidyR_made (badL_of hv) hn
  refine ⟨?_, h2⟩
  rw [h1, made_or L hv]
  refine Eq.trans ?_ ((vrB_iff _).1 (one_vr hx)).2.2
  refine canonC_congr fun q => ?_
  have k1 := covB_map (kidsC x) q
  have hh : (blkOf x).1 = ((blkOf x).1 - 1) + 1 := by
    have := hx.l0
    simp only [blkOf]
    omega
  have e : covL L q ↔ covL (kidsC x) q := by
    unfold covL
    constructor
    · rintro ⟨y, hy, g⟩; exact ⟨y, (hL y).1 hy, g⟩
    · rintro ⟨y, hy, g⟩; exact ⟨y, (hL y).2 hy, g⟩
  rw [e]
  have e2 : covL (kidsC x) q ↔ covB ((kidsC x).map blkOf) q = true := k1.symm
  have e3 : covL [x] q ↔ covB ([x].map blkOf) q = true := (covB_map [x] q).symm
  rw [e2, e3, kids_blk hx h, covS, covS]
  generalize (blkOf x).1 - 1 = k at hh ⊢
  have ex : blkOf x = (k + 1, (blkOf x).2) := Prod.ext hh rfl
  rw [List.map_cons, List.map_nil, ex]
  generalize (blkOf x).2 = n
  have e : ∀ m : Nat, m * 4 ^ (k + 1) = 4 * m * 4 ^ k := fun m => by rw [Nat.pow_succ]; rw [Nat.mul_comm 4 m, Nat.mul_assoc, Nat.mul_comm 4]
  have e1 : (4 * n + 1) * 4 ^ k = 4 * n * 4 ^ k + 4 ^ k := by rw [Nat.add_mul]; omega
  have e2 : (4 * n + 2) * 4 ^ k = 4 * n * 4 ^ k + 2 * 4 ^ k := by rw [Nat.add_mul]
  have e3 : (4 * n + 3) * 4 ^ k = 4 * n * 4 ^ k + 3 * 4 ^ k := by rw [Nat.add_mul]
  have e4 : (4 * n + 1 + 1) * 4 ^ k = 4 * n * 4 ^ k + 2 * 4 ^ k := by rw [show 4 * n + 1 + 1 = 4 * n + 2 by omega, e2]
  have e5 : (4 * n + 2 + 1) * 4 ^ k = 4 * n * 4 ^ k + 3 * 4 ^ k := by rw [show 4 * n + 2 + 1 = 4 * n + 3 by omega, e3]
  have e6 : (4 * n + 3 + 1) * 4 ^ k = 4 * n * 4 ^ k + 4 * 4 ^ k := by rw [show 4 * n + 3 + 1 = 4 * n + 4 by omega, Nat.add_mul]
  have e7 : 4 * (n + 1) * 4 ^ k = 4 * n * 4 ^ k + 4 * 4 ^ k := by rw [show 4 * (n + 1) = 4 * n + 4 by omega, Nat.add_mul]
  simp only [kidsB, List.mem_cons, List.not_mem_nil, or_false, exists_eq_or_imp, exists_eq_left, e]
  omega
/-- the edges of the boxes of a cell and of its children -/
theorem box_nums {x : Cl} (hx : Vl x) : -5400000 ≤ edg x.2.1 x.1 - 5400000 ∧ edg x.2.1 x.1 ≤ edg (x.2.1 + 1) x.1 ∧ edg (x.2.1 + 1) x.1 - 5400000 ≤ 5400000 ∧ 0 ≤ edg x.2.2 x.1 ∧ edg x.2.2 x.1 < 21600000 ∧ edg x.2.2 x.1 ≤ edg (x.2.2 + 1) x.1 ∧ edg (x.2.2 + 1) x.1 ≤ 21600000 ∧ edg (x.2.2 + 1) x.1 - edg x.2.2 x.1 ≤ 10800001 := by
  obtain ⟨h0, h1, h2, h3, h4, h5⟩ := vldB_true.1 ((vl_iff x).2 hx)
  have hp := pw_pos x.1
  have hb := pw_bd h1
  have r0 := edg_bd (i := x.2.1) h1 h2 (by omega)
  have c0 := edg_bd (i := x.2.2) h1 h4 (by omega)
  have c1 := edg_bd (i := x.2.2 + 1) h1 (by omega) (by omega)
  have rm := edg_mono x.1 (show x.2.1 ≤ x.2.1 + 1 by omega)
  have cm := edg_mono x.1 (show x.2.2 ≤ x.2.2 + 1 by omega)
  have rt := edg_mono x.1 (show x.2.1 + 1 ≤ pw x.1 by omega)
  rw [edg_all] at rt
  have ct : edg x.2.2 x.1 < 21600000 := by
    unfold edg
    rw [Int.ediv_lt_iff_lt_mul hp]
    omega
  have cw : edg (x.2.2 + 1) x.1 - edg x.2.2 x.1 ≤ 10800001 := by
    unfold edg
    have : (x.2.2 + 1) * 10800000 / pw x.1 ≤ x.2.2 * 10800000 / pw x.1 + 10800001 := by
      rw [← Int.add_mul_ediv_right _ _ (show pw x.1 ≠ 0 by omega)]
      refine Int.ediv_le_ediv hp ?_
      omega
    omega
  omega
end Go.Proofs.Ytlglalemhfjmhaa
