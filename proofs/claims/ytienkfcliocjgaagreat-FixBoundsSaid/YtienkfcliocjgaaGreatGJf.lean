/- Plain: two rows of finest cells are too many; the same cell many times. No program in sight. -/
import Derived.Test.YtienkfcliocjgaaGreatGJd
import Derived.Test.YtienkfcliocjgaaGreatGWords
set_option linter.unusedVariables false
set_option linter.unusedSimpArgs false
/- Plain: points in boxes of cells; the cell of a point; one region in another. No program in sight. -/
namespace Go.Proofs.YtienkfcliocjgaaGreat
open Canon
/-! ### points in boxes of cells -/
def lonIn (lo hi b : Int) : Bool := decide ((b - lo) % 21600000 ≤ hi - lo)
/-- whether a valid point is in the box of a cell -/
def ptB (x : Cl) (a b : Int) : Bool :=
  decide (edg x.2.1 x.1 - 5400000 ≤ a ∧ a ≤ edg (x.2.1 + 1) x.1 - 5400000) && (decide (a = 5400000) || decide (a = -5400000) || lonIn (edg x.2.2 x.1 - 10800000) (edg (x.2.2 + 1) x.1 - 10800000) b)
def conB (L : List Cl) (a b : Int) : Bool := L.any fun x => ptB x a b
theorem pw_nat (l : Nat) : pw (l : Int) = ((2 ^ l : Nat) : Int) := by simp [pw]
theorem pw_pos (l : Int) : 0 < pw l := by unfold pw; exact Int.pow_pos (by omega)
theorem pw_succ (l : Nat) : pw ((l + 1 : Nat) : Int) = 2 * pw (l : Int) := by
  rw [pw_nat, pw_nat, Nat.pow_succ]
  omega
theorem edg_even (i : Int) (l : Nat) : edg (2 * i) ((l + 1 : Nat) : Int) = edg i (l : Int) := by
  unfold edg
  rw [pw_succ, Int.mul_assoc, Int.mul_ediv_mul_of_pos _ _ (by omega)]
theorem edg_mono {i j : Int} (l : Int) (h : i ≤ j) : edg i l ≤ edg j l := by
  unfold edg
  exact Int.ediv_le_ediv (pw_pos l) (by omega)
theorem lon_split {lo mi hi b : Int} (h1 : lo ≤ mi) (h2 : mi ≤ hi) (h3 : hi - lo < 21600000) (h4 : -10800000 ≤ lo) (h5 : hi ≤ 10800000) (b1 : -10800000 ≤ b) (b2 : b < 10800000) : lonIn lo hi b = (lonIn lo mi b || lonIn mi hi b) := by
  unfold lonIn
  rw [Bool.eq_iff_iff, Bool.or_eq_true, decide_eq_true_eq, decide_eq_true_eq, decide_eq_true_eq]
  omega
theorem lat_split {lo mi hi a : Int} (h1 : lo ≤ mi) (h2 : mi ≤ hi) : decide (lo ≤ a ∧ a ≤ hi) = (decide (lo ≤ a ∧ a ≤ mi) || decide (mi ≤ a ∧ a ≤ hi)) := by
  rw [Bool.eq_iff_iff, Bool.or_eq_true, decide_eq_true_eq, decide_eq_true_eq, decide_eq_true_eq]
  omega
theorem pt_kids (l r c : Nat) (hl : l < 16) (hc : c < 2 * 2 ^ l) (a b : Int) (hv : vptB a b = true) :
    ptB ((l : Int), (r : Int), (c : Int)) a b = (ptB (((l + 1 : Nat) : Int), ((2 * r : Nat) : Int), ((2 * c : Nat) : Int)) a b || ptB (((l + 1 : Nat) : Int), ((2 * r : Nat) : Int), ((2 * c + 1 : Nat) : Int)) a b || ptB (((l + 1 : Nat) : Int), ((2 * r + 1 : Nat) : Int), ((2 * c : Nat) : Int)) a b || ptB (((l + 1 : Nat) : Int), ((2 * r + 1 : Nat) : Int), ((2 * c + 1 : Nat) : Int)) a b) := by
  obtain ⟨a1, a2, b1, b2⟩ := vptB_true.1 hv
  have hp := pw_nat l
  have r0 := edg_even (r : Int) l
  have r1 := edg_even ((r : Int) + 1) l
  have c0 := edg_even (c : Int) l
  have c1 := edg_even ((c : Int) + 1) l
  have m0 := edg_mono ((l + 1 : Nat) : Int) (show 2 * (r : Int) ≤ 2 * (r : Int) + 1 by omega)
  have m1 := edg_mono ((l + 1 : Nat) : Int) (show 2 * (r : Int) + 1 ≤ 2 * ((r : Int) + 1) by omega)
  have m2 := edg_mono ((l + 1 : Nat) : Int) (show 2 * (c : Int) ≤ 2 * (c : Int) + 1 by omega)
  have m3 := edg_mono ((l + 1 : Nat) : Int) (show 2 * (c : Int) + 1 ≤ 2 * ((c : Int) + 1) by omega)
  have d0 := edg_bd (i := (c : Int)) (l := (l : Int)) (by omega) (by omega) (by rw [hp]; omega)
  have d1 := edg_bd (i := (c : Int) + 1) (l := (l : Int)) (by omega) (by omega) (by rw [hp]; omega)
  have d2 : edg ((c : Int) + 1) l - edg c l < 21600000 := by
    unfold edg
    have : ((c : Int) + 1) * 10800000 / pw l ≤ (c : Int) * 10800000 / pw l + 10800001 := by
      rw [← Int.add_mul_ediv_right _ _ (show pw (l : Int) ≠ 0 by have := pw_pos (l : Int); omega)]
      refine Int.ediv_le_ediv (pw_pos l) ?_
      have := pw_pos (l : Int)
      omega
    omega
  have e1 : ((2 * r : Nat) : Int) = 2 * (r : Int) := by omega
  have e2 : ((2 * r + 1 : Nat) : Int) = 2 * (r : Int) + 1 := by omega
  have e3 : ((2 * c : Nat) : Int) = 2 * (c : Int) := by omega
  have e4 : ((2 * c + 1 : Nat) : Int) = 2 * (c : Int) + 1 := by omega
  have e5 : 2 * (r : Int) + 1 + 1 = 2 * ((r : Int) + 1) := by omega
  have e6 : 2 * (c : Int) + 1 + 1 = 2 * ((c : Int) + 1) := by omega
  unfold ptB
  simp only [e1, e2, e3, e4, e5, e6]
  rw [r0] at m0
  rw [r1] at m1
  rw [c0] at m2
  rw [c1] at m3
  rw [r0, r1, c0, c1]
  generalize edg (2 * (r : Int) + 1) ((l + 1 : Nat) : Int) = M at *
  generalize edg (2 * (c : Int) + 1) ((l + 1 : Nat) : Int) = N at *
  generalize edg (r : Int) (l : Int) = A at *
  generalize edg ((r : Int) + 1) (l : Int) = B at *
  generalize edg (c : Int) (l : Int) = C at *
  generalize edg ((c : Int) + 1) (l : Int) = D at *
  rw [lat_split (lo := A - 5400000) (mi := M - 5400000) (hi := B - 5400000) (by omega) (by omega), lon_split (lo := C - 10800000) (mi := N - 10800000) (hi := D - 10800000) (by omega) (by omega) (by omega) (by omega) (by omega) b1 b2]
  generalize decide (A - 5400000 ≤ a ∧ a ≤ M - 5400000) = x1
  generalize decide (M - 5400000 ≤ a ∧ a ≤ B - 5400000) = x2
  generalize lonIn (C - 10800000) (N - 10800000) b = y1
  generalize lonIn (N - 10800000) (D - 10800000) b = y2
  generalize (decide (a = 5400000) || decide (a = -5400000)) = p
  cases x1 <;> cases x2 <;> cases y1 <;> cases y2 <;> cases p <;> rfl
def fin (a b : Int) (q : Nat) : Bool := ptB (cellB (0, q)) a b
theorem cellN_kid (l n i : Nat) (hi : i < 4) : cellN (4 * n + i) (l + 1) = (((l + 1 : Nat) : Int), ((2 * rwTo l n + i / 2 : Nat) : Int), ((2 * colOf l n + i % 2 : Nat) : Int)) := by
  have e1 : (4 * n + i) / 4 = n := by omega
  have e2 : (4 * n + i) % 4 = i := by omega
  unfold cellN colOf
  rw [rwTo_low, clTo_low, e1, e2, Nat.pow_succ 4 l, Nat.mul_comm (4 ^ l) 4, ← Nat.div_div_eq_div_mul, e1, Nat.pow_succ 2 l]
  have : n / 4 ^ l * (2 ^ l * 2) = 2 * (n / 4 ^ l * 2 ^ l) := by rw [← Nat.mul_assoc, Nat.mul_comm]
  rw [this]
  have e3 : 2 * clTo l n + i % 2 + 2 * (n / 4 ^ l * 2 ^ l) = 2 * (clTo l n + n / 4 ^ l * 2 ^ l) + i % 2 := by omega
  rw [e3]
theorem pt_fin (a b : Int) (hv : vptB a b = true) : ∀ (h n : Nat), h ≤ 16 → n < 2 * 4 ^ (16 - h) → (ptB (cellB (h, n)) a b = true ↔ ∃ q, n * 4 ^ h ≤ q ∧ q < (n + 1) * 4 ^ h ∧ fin a b q = true)
  | 0, n, _, _ => by
    constructor
    · intro h
      exact ⟨n, by omega, by omega, h⟩
    · rintro ⟨q, h1, h2, h3⟩
      have : q = n := by omega
      rw [← this]
      exact h3
  | h + 1, n, hh, hn => by
    have el : 16 - h = (16 - (h + 1)) + 1 := by omega
    have hcol := colOf_lt (16 - (h + 1)) n hn
    have hk := pt_kids (16 - (h + 1)) (rwTo (16 - (h + 1)) n) (colOf (16 - (h + 1)) n) (by omega) hcol a b hv
    have hn4 : ∀ i, i < 4 → 4 * n + i < 2 * 4 ^ (16 - h) := by
      intro i hi
      rw [el, Nat.pow_succ]
      omega
    have k0 := cellN_kid (16 - (h + 1)) n 0 (by omega)
    have k1 := cellN_kid (16 - (h + 1)) n 1 (by omega)
    have k2 := cellN_kid (16 - (h + 1)) n 2 (by omega)
    have k3 := cellN_kid (16 - (h + 1)) n 3 (by omega)
    rw [← el] at k0 k1 k2 k3 hk
    have i0 := pt_fin a b hv h (4 * n) (by omega) (hn4 0 (by omega))
    have i1 := pt_fin a b hv h (4 * n + 1) (by omega) (hn4 1 (by omega))
    have i2 := pt_fin a b hv h (4 * n + 2) (by omega) (hn4 2 (by omega))
    have i3 := pt_fin a b hv h (4 * n + 3) (by omega) (hn4 3 (by omega))
    unfold cellB at i0 i1 i2 i3 ⊢
    simp only [] at i0 i1 i2 i3 ⊢
    have e0 : cellN n (16 - (h + 1)) = (((16 - (h + 1) : Nat) : Int), ((rwTo (16 - (h + 1)) n : Nat) : Int), ((colOf (16 - (h + 1)) n : Nat) : Int)) := rfl
    simp only [Nat.add_zero, Nat.zero_div, Nat.zero_mod, show 1 / 2 = 0 from rfl, show 1 % 2 = 1 from rfl, show 2 / 2 = 1 from rfl, show 2 % 2 = 0 from rfl, show 3 / 2 = 1 from rfl, show 3 % 2 = 1 from rfl] at k0 k1 k2 k3
    rw [e0, hk, ← k0, ← k1, ← k2, ← k3, Bool.or_eq_true, Bool.or_eq_true, Bool.or_eq_true, i0, i1, i2, i3]
    have e : ∀ m : Nat, m * 4 ^ (h + 1) = 4 * m * 4 ^ h := fun m => by rw [Nat.pow_succ]; rw [Nat.mul_comm 4 m, Nat.mul_assoc, Nat.mul_comm 4]
    rw [e, e]
    have e1 : (4 * n + 1) * 4 ^ h = 4 * n * 4 ^ h + 4 ^ h := by rw [Nat.add_mul]; omega
    have e2 : (4 * n + 2) * 4 ^ h = 4 * n * 4 ^ h + 2 * 4 ^ h := by rw [Nat.add_mul]
    have e3 : (4 * n + 3) * 4 ^ h = 4 * n * 4 ^ h + 3 * 4 ^ h := by rw [Nat.add_mul]
    have e4 : (4 * n + 1 + 1) * 4 ^ h = 4 * n * 4 ^ h + 2 * 4 ^ h := by rw [show 4 * n + 1 + 1 = 4 * n + 2 by omega, e2]
    have e5 : (4 * n + 2 + 1) * 4 ^ h = 4 * n * 4 ^ h + 3 * 4 ^ h := by rw [show 4 * n + 2 + 1 = 4 * n + 3 by omega, e3]
    have e6 : (4 * n + 3 + 1) * 4 ^ h = 4 * n * 4 ^ h + 4 * 4 ^ h := by rw [show 4 * n + 3 + 1 = 4 * n + 4 by omega, Nat.add_mul]
    have e7 : 4 * (n + 1) * 4 ^ h = 4 * n * 4 ^ h + 4 * 4 ^ h := by rw [show 4 * (n + 1) = 4 * n + 4 by omega, Nat.add_mul]
    rw [e4, e5, e6, e7, e1]
    generalize 4 * n * 4 ^ h = u
    generalize 4 ^ h = v
    constructor
    · rintro (((⟨q, h1, h2, h3⟩ | ⟨q, h1, h2, h3⟩) | ⟨q, h1, h2, h3⟩) | ⟨q, h1, h2, h3⟩) <;> exact ⟨q, by omega, by omega, h3⟩
    · rintro ⟨q, h1, h2, h3⟩
      by_cases c1 : q < u + v
      · exact .inl (.inl (.inl ⟨q, h1, c1, h3⟩))
      · by_cases c2 : q < u + 2 * v
        · exact .inl (.inl (.inr ⟨q, by omega, c2, h3⟩))
        · by_cases c3 : q < u + 3 * v
          · exact .inl (.inr ⟨q, by omega, c3, h3⟩)
          · exact .inr ⟨q, by omega, h2, h3⟩
theorem con_iff {L : List Cl} (hL : AllV L) (a b : Int) (hv : vptB a b = true) : conB L a b = true ↔ ∃ q, covB (L.map blkOf) q = true ∧ fin a b q = true := by
  unfold conB
  rw [List.any_eq_true]
  constructor
  · rintro ⟨x, hx, h⟩
    have h1 := blk_lt x (hL x hx)
    rw [← cellB_blkOf x (hL x hx), show blkOf x = ((blkOf x).1, (blkOf x).2) from rfl, pt_fin a b hv _ _ h1.1 h1.2] at h
    obtain ⟨q, q1, q2, q3⟩ := h
    exact ⟨q, covS.2 ⟨blkOf x, List.mem_map.2 ⟨x, hx, rfl⟩, q1, q2⟩, q3⟩
  · rintro ⟨q, hq, hf⟩
    obtain ⟨b', hb', b1, b2⟩ := covS.1 hq
    obtain ⟨x, hx, rfl⟩ := List.mem_map.1 hb'
    have h1 := blk_lt x (hL x hx)
    refine ⟨x, hx, ?_⟩
    rw [← cellB_blkOf x (hL x hx), show blkOf x = ((blkOf x).1, (blkOf x).2) from rfl, pt_fin a b hv _ _ h1.1 h1.2]
    exact ⟨q, b1, b2, hf⟩
theorem con_reg (s : Nat → Bool) (a b : Int) (hv : vptB a b = true) : conB (regB s) a b = true ↔ ∃ q, q < 2 * 4 ^ 16 ∧ s q = true ∧ fin a b q = true := by
  rw [con_iff (reg_v s) a b hv]
  constructor
  · rintro ⟨q, h1, h2⟩
    rw [cov_reg, Bool.and_eq_true, decide_eq_true_eq] at h1
    exact ⟨q, h1.1, h1.2, h2⟩
  · rintro ⟨q, h1, h2, h3⟩
    exact ⟨q, by rw [cov_reg, decide_eq_true h1, h2]; rfl, h3⟩
theorem con_or (s t : Nat → Bool) (a b : Int) (hv : vptB a b = true) : conB (regB fun q => opB 1 (s q) (t q)) a b = (conB (regB s) a b || conB (regB t) a b) := by
  have e : ∀ x y : Bool, opB 1 x y = (x || y) := by intro x y; simp [opB]
  rw [Bool.eq_iff_iff, Bool.or_eq_true, con_reg _ a b hv, con_reg _ a b hv, con_reg _ a b hv]
  simp only [e, Bool.or_eq_true]
  constructor
  · rintro ⟨q, h1, h2 | h2, h3⟩
    · exact .inl ⟨q, h1, h2, h3⟩
    · exact .inr ⟨q, h1, h2, h3⟩
  · rintro (⟨q, h1, h2, h3⟩ | ⟨q, h1, h2, h3⟩)
    · exact ⟨q, h1, .inl h2, h3⟩
    · exact ⟨q, h1, .inr h2, h3⟩
theorem con_and (s t : Nat → Bool) (a b : Int) (hv : vptB a b = true) (h : conB (regB fun q => opB 2 (s q) (t q)) a b = true) : conB (regB s) a b = true ∧ conB (regB t) a b = true := by
  have e : ∀ x y : Bool, opB 2 x y = (x && y) := by intro x y; simp [opB]
  rw [con_reg _ a b hv] at h
  obtain ⟨q, h1, h2, h3⟩ := h
  rw [e, Bool.and_eq_true] at h2
  exact ⟨(con_reg s a b hv).2 ⟨q, h1, h2.1, h3⟩, (con_reg t a b hv).2 ⟨q, h1, h2.2, h3⟩⟩
/-! ### one cell -/
theorem one_vr {x : Cl} (hx : Vl x) : vrB [x] = true := by
  have hL : AllV [x] := fun y hy => by rw [List.mem_singleton] at hy; rw [hy]; exact hx
  refine (vrB_iff _).2 ⟨by simp, hL, (tidy_iff hL).2 ⟨?_, ?_⟩⟩
  · intro i hi
    simp at hi
  · intro i hi
    simp at hi
theorem one_reg {x : Cl} (hx : Vl x) : regB (fun q => covB [blkOf x] q) = [x] := vr_reg (one_vr hx)
/-- whether all of a is in b -/
def insL (a b : List Cl) : Bool := decide (madeL 3 a b = [])
theorem ins_reg (s t : Nat → Bool) : insL (regB s) (regB t) = true ↔ ∀ q, q < 2 * 4 ^ 16 → s q = true → t q = true := by
  unfold insL
  rw [decide_eq_true_eq, reg_made]
  have e : ∀ x y : Bool, opB 3 x y = (x && !y) := by intro x y; simp [opB]
  constructor
  · intro h q hq hs
    have h0 : (regB fun _ => false) = [] := reg_nil fun _ _ => rfl
    have := reg_inj (h.trans h0.symm) q hq
    rw [e, hs, Bool.true_and] at this
    cases ht : t q with
    | true => rfl
    | false => rw [ht] at this; exact absurd this (by decide)
  · intro h
    refine reg_nil fun q hq => ?_
    rw [e]
    cases hs : s q with
    | false => rfl
    | true => rw [h q hq hs]; rfl
/-! ### the cell of a point -/
theorem idx_in {l N m : Int} (h1 : l ≤ 16) (h2 : 0 ≤ N) (hm : 0 ≤ m) : 0 ≤ idx N l m ∧ idx N l m ≤ m ∧ edg (idx N l m) l ≤ N ∧ (idx N l m = m ∨ N < edg (idx N l m + 1) l) := by
  have hp := pw_pos l
  have e : (pn N l + 10799999) / 10800000 - 1 = (pn N l - 1) / 10800000 := by omega
  have h3 : 1 ≤ pn N l := by
    unfold pn
    have : 1 * 1 ≤ (N + 1) * pw l := Int.mul_le_mul (by omega) (by omega) (by omega) (by omega)
    omega
  have h4 : 0 ≤ (pn N l - 1) / 10800000 := Int.ediv_nonneg (by omega) (by omega)
  unfold idx
  rw [e, edg_le_iff h1]
  have h5 : N < edg (min ((pn N l - 1) / 10800000) m + 1) l ↔ ¬ min ((pn N l - 1) / 10800000) m + 1 ≤ (pn N l - 1) / 10800000 := by
    rw [← edg_le_iff h1]
    omega
  rw [h5]
  generalize (pn N l - 1) / 10800000 = z at *
  omega
/-- the cell of a level with a point -/
def ofC (a b l : Int) : Cl := (l, idx (a + 5400000) l (pw l - 1), idx (b + 10800000) l (2 * pw l - 1))
theorem edg_all (l : Int) : edg (pw l) l = 10800000 := by
  unfold edg
  rw [Int.mul_comm, Int.mul_ediv_cancel _ (by have := pw_pos l; omega)]
theorem edg_two (l : Int) : edg (2 * pw l) l = 21600000 := by
  unfold edg
  rw [show 2 * pw l * 10800000 = 21600000 * pw l by omega, Int.mul_ediv_cancel _ (by have := pw_pos l; omega)]
theorem of_in {a b l : Int} (hv : vptB a b = true) (h0 : 0 ≤ l) (h1 : l ≤ 16) :
    Vl (ofC a b l) ∧ edg (ofC a b l).2.1 l - 5400000 ≤ a ∧ a ≤ edg ((ofC a b l).2.1 + 1) l - 5400000 ∧ edg (ofC a b l).2.2 l - 10800000 ≤ b ∧ b < edg ((ofC a b l).2.2 + 1) l - 10800000 := by
  obtain ⟨a1, a2, b1, b2⟩ := vptB_true.1 hv
  have hp := pw_pos l
  have i1 := idx_in (l := l) (N := a + 5400000) (m := pw l - 1) h1 (by omega) (by omega)
  have i2 := idx_in (l := l) (N := b + 10800000) (m := 2 * pw l - 1) h1 (by omega) (by omega)
  have e1 := edg_all l
  have e2 := edg_two l
  refine ⟨(vl_iff _).1 (vldB_true.2 ?_), ?_⟩
  · unfold ofC
    simp only []
    omega
  · unfold ofC
    simp only []
    obtain ⟨x1, x2, x3, x4⟩ := i1
    obtain ⟨y1, y2, y3, y4⟩ := i2
    refine ⟨by omega, ?_, by omega, ?_⟩
    · rcases x4 with h | h
      · rw [h, show pw l - 1 + 1 = pw l by omega, e1]; omega
      · omega
    · rcases y4 with h | h
      · rw [h, show 2 * pw l - 1 + 1 = 2 * pw l by omega, e2]; omega
      · omega
theorem of_pt {a b l : Int} (hv : vptB a b = true) (h0 : 0 ≤ l) (h1 : l ≤ 16) : ptB (ofC a b l) a b = true := by
  obtain ⟨hV, g1, g2, g3, g4⟩ := of_in hv h0 h1
  obtain ⟨a1, a2, b1, b2⟩ := vptB_true.1 hv
  have hp := pw_pos l
  obtain ⟨v0, v1, v2, v3, v4, v5⟩ := vldB_true.1 ((vl_iff _).2 hV)
  have hl : (ofC a b l).1 = l := rfl
  rw [hl] at v3 v5
  have d0 := edg_bd (i := (ofC a b l).2.2) h1 v4 (by omega)
  have d1 := edg_bd (i := (ofC a b l).2.2 + 1) h1 (by omega) (by omega)
  unfold ptB
  rw [hl, decide_eq_true ⟨g1, g2⟩, Bool.true_and, Bool.or_eq_true]
  right
  unfold lonIn
  rw [decide_eq_true_eq]
  generalize edg (ofC a b l).2.2 l = x at *
  generalize edg ((ofC a b l).2.2 + 1) l = y at *
  omega
/-- a region that covers the finest cell of a point contains it -/
theorem of_con {s : Nat → Bool} {a b : Int} (hv : vptB a b = true) (h : insL [ofC a b 16] (regB s) = true) : conB (regB s) a b = true := by
  have hV := (of_in hv (by omega) (by omega : (16 : Int) ≤ 16)).1
  rw [← one_reg hV, ins_reg] at h
  rw [con_reg s a b hv]
  have hb := blk_lt _ hV
  have h0 : (blkOf (ofC a b 16)).1 = 0 := rfl
  rw [h0] at hb
  refine ⟨(blkOf (ofC a b 16)).2, by simpa using hb.2, ?_, ?_⟩
  · refine h _ (by simpa using hb.2) (covS.2 ⟨blkOf (ofC a b 16), by simp, ?_, ?_⟩)
    · rw [h0]; simp
    · rw [h0]; simp
  · unfold fin
    rw [show ((0 : Nat), (blkOf (ofC a b 16)).2) = blkOf (ofC a b 16) from Prod.ext h0.symm rfl, cellB_blkOf _ hV]
    exact of_pt hv (by omega) (by omega)
end Go.Proofs.YtienkfcliocjgaaGreat
namespace Go.Proofs.YtienkfcliocjgaaGreat
open Canon
/-! ### no spans, no cells -/
theorem cov_canonC (S : Nat → Prop) (q : Nat) (hq : q < 2 * 4 ^ 16) : covB ((canonC S).map blkOf) q = true ↔ S q := by
  rw [canonC_blk, cov_app, Bool.or_eq_true]
  by_cases h0 : q < 4 ^ 16
  · have c0 := cov_canon S 16 0 q (by omega) (by omega)
    have c1 := cov_canon_out S 16 1 q (by omega)
    rw [c0, c1]
    simp
  · have c0 := cov_canon_out S 16 0 q (by omega)
    have c1 := cov_canon S 16 1 q (by omega) (by omega)
    rw [c0, c1]
    simp
theorem tidyL_nil {D : List Sp} (hA : ApartI D) (hk : SpOk D) : tidyL D = [] ↔ D = [] := by
  constructor
  · intro h
    rw [tidyL_canon hA hk] at h
    match D, hA, hk, h with
    | [], _, _, _ => rfl
    | s :: r, hA, hk, h =>
      exfalso
      have hs := hk s (by simp)
      have := (cov_canonC (fun q => inI (s :: r) q) s.1.toNat (by omega)).2 ⟨s, by simp, by omega, by omega⟩
      rw [h] at this
      exact Bool.noConfusion this
  · rintro rfl
    rfl
theorem comb_empty (E : List Int) (a b : List Cl) (ha : AllV a) (hb : AllV b) (hE : E.Pairwise (· < ·)) (hm : ∀ x, x ∈ E ↔ (x ∈ endsS (coverL a) ∨ x ∈ endsS (coverL b))) :
    combE (opB 3) E (coverL a) (coverL b) = [] ↔ madeL 3 a b = [] := by
  obtain ⟨h1, h2⟩ := comb_made 3 E a b ha hb hE hm
  have hr : opB 3 false false = false := by simp [opB]
  have va : ∀ x ∈ a, vldB x.1 x.2.1 x.2.2 = true := fun x hx => (vl_iff x).2 (ha x hx)
  have vb : ∀ x ∈ b, vldB x.1 x.2.1 x.2.2 = true := fun x hx => (vl_iff x).2 (hb x hx)
  have h3 := (comb_good (opB 3) hr E (coverL a) (coverL b) hE hm (cover_good a va).1 (cover_good b vb).1).1
  rw [← h1]
  exact (tidyL_nil h3 h2).symm
/-! ### every other cell of a row -/
theorem mort_mono (l : Nat) : ∀ r c c' : Nat, c < c' → mort l r c < mort l r c' := by
  induction l with
  | zero => intro r c c' h; exact h
  | succ l ih =>
    intro r c c' h
    have e1 := mort_step l r c 0
    have e2 := mort_step l r c' 0
    simp only [Nat.pow_zero, Nat.div_one, Nat.zero_add, Nat.pow_one] at e1 e2
    rw [e1, e2]
    by_cases hh : c / 2 < c' / 2
    · have := ih (r / 2) _ _ hh
      omega
    · have : c / 2 = c' / 2 := by omega
      rw [this]
      omega
theorem mort_even (l r c : Nat) (h : c % 2 = 0) : mort (l + 1) r c % 2 = 0 := by
  have e1 := mort_step l r c 0
  simp only [Nat.pow_zero, Nat.div_one, Nat.zero_add, Nat.pow_one] at e1
  rw [e1]
  omega
def rowN (r n : Nat) : List Cl := (List.range n).map fun i => ((16 : Int), (r : Int), ((2 * i : Nat) : Int))
theorem rowN_len (r n : Nat) : (rowN r n).length = n := by simp [rowN]
theorem rowN_v (r n : Nat) (hr : r < 65536) (hn : n ≤ 65536) : AllV (rowN r n) := by
  intro x hx
  simp only [rowN, List.mem_map, List.mem_range] at hx
  obtain ⟨i, hi, rfl⟩ := hx
  constructor <;> simp <;> omega
theorem rowN_blk (r n : Nat) : (rowN r n).map blkOf = (List.range n).map fun i => (0, mort 16 r (2 * i)) := by
  unfold rowN
  rw [List.map_map]
  refine List.map_congr_left fun i _ => ?_
  simp only [Function.comp, blkOf, mortI]
  refine Prod.ext rfl ?_
  simp only []
  congr 1
theorem rowN_sorted (r n : Nat) : ((rowN r n).map blkOf).Pairwise before2 := by
  rw [rowN_blk, List.pairwise_map]
  refine List.Pairwise.imp ?_ List.pairwise_lt_range
  intro i j hij
  have := mort_mono 16 r (2 * i) (2 * j) (by omega)
  unfold before2
  simp only [Nat.pow_zero, Nat.mul_one]
  omega
theorem rowN_mem {r n : Nat} {b : Blk2} : b ∈ (rowN r n).map blkOf ↔ ∃ i, i < n ∧ b = (0, mort 16 r (2 * i)) := by
  rw [rowN_blk, List.mem_map]
  simp only [List.mem_range]
  constructor
  · rintro ⟨i, h, e⟩; exact ⟨i, h, e.symm⟩
  · rintro ⟨i, h, e⟩; exact ⟨i, h, e.symm⟩
theorem rowN_tidy (r n : Nat) (hr : r < 65536) (hn : n ≤ 65536) : canonC (covL (rowN r n)) = rowN r n := by
  have hv := rowN_v r n hr hn
  rw [tidy_iff hv, pairs_iff hv, fours_iff hv]
  refine ⟨rowN_sorted r n, ?_⟩
  intro h m pre suf he
  exfalso
  have m1 : (h, 4 * m + 1) ∈ (rowN r n).map blkOf := by rw [he]; simp [kidsB]
  obtain ⟨i, hi, e⟩ := rowN_mem.1 m1
  have e2 : 4 * m + 1 = mort 16 r (2 * i) := congrArg Prod.snd e
  have h3 : mort 16 r (2 * i) % 2 = 0 := mort_even 15 r (2 * i) (by omega)
  omega
theorem rowN_cov {r n q : Nat} : covB ((rowN r n).map blkOf) q = true ↔ ∃ i, i < n ∧ q = mort 16 r (2 * i) := by
  rw [covS]
  constructor
  · rintro ⟨b, hb, h1, h2⟩
    obtain ⟨i, hi, rfl⟩ := rowN_mem.1 hb
    simp only [Nat.pow_zero, Nat.mul_one] at h1 h2
    exact ⟨i, hi, by omega⟩
  · rintro ⟨i, hi, rfl⟩
    exact ⟨_, rowN_mem.2 ⟨i, hi, rfl⟩, by simp, by simp⟩
theorem canon_has {S : Nat → Prop} (hev : ∀ q, S q → q % 2 = 0) {m : Nat} (hm : S m) (hlt : m < 2 * 4 ^ 16) : (0, m) ∈ canon S 16 0 ++ canon S 16 1 := by
  have hnf : ¬ full S 1 (m / 4) := by
    intro hf
    have := hev (m / 4 * 4 + 1) (hf _ (by omega) (by omega))
    omega
  rw [List.mem_append]
  by_cases h : m / 4 ^ 16 = 0
  · exact .inl ((mem_canon S 16 0 0 m).2 ⟨by omega, h, (full_zero S m).2 hm, .inr hnf⟩)
  · exact .inr ((mem_canon S 16 1 0 m).2 ⟨by omega, by simp only [Nat.sub_zero]; omega, (full_zero S m).2 hm, .inr hnf⟩)
theorem two_rows (n : Nat) (hn : n ≤ 65536) (S : Nat → Prop) (hS : ∀ q, S q ↔ (covB ((rowN 5 n).map blkOf) q = true ∨ covB ((rowN 9 n).map blkOf) q = true)) : 2 * n ≤ (canonC S).length := by
  have hev : ∀ q, S q → q % 2 = 0 := by
    intro q hq
    rcases (hS q).1 hq with h | h
    · obtain ⟨i, _, rfl⟩ := rowN_cov.1 h
      exact mort_even 15 5 (2 * i) (by omega)
    · obtain ⟨i, _, rfl⟩ := rowN_cov.1 h
      exact mort_even 15 9 (2 * i) (by omega)
  have hlen : (canonC S).length = (canon S 16 0 ++ canon S 16 1).length := by unfold canonC; rw [List.length_map]
  have hsort := canon2_sorted S
  have key : ∀ r, r < 65536 → (∀ q, covB ((rowN r n).map blkOf) q = true → S q) → ((canon S 16 0 ++ canon S 16 1).filter fun b => decide (b ∈ (rowN r n).map blkOf)).length = n := by
    intro r hr hsub
    have : ((canon S 16 0 ++ canon S 16 1).filter fun b => decide (b ∈ (rowN r n).map blkOf)) = (rowN r n).map blkOf := by
      refine sorted_ext _ _ (hsort.filter _) (rowN_sorted r n) fun b => ?_
      rw [List.mem_filter, decide_eq_true_eq]
      constructor
      · exact fun h => h.2
      · intro h
        refine ⟨?_, h⟩
        obtain ⟨i, hi, rfl⟩ := rowN_mem.1 h
        refine canon_has hev (hsub _ (rowN_cov.2 ⟨i, hi, rfl⟩)) ?_
        exact mort_lt 16 r (2 * i) (by omega)
    rw [this, List.length_map, rowN_len]
  have k5 := key 5 (by omega) (fun q h => (hS q).2 (.inl h))
  have k9 := key 9 (by omega) (fun q h => (hS q).2 (.inr h))
  have hs := sum4 (fun b : Blk2 => decide (b ∈ (rowN 5 n).map blkOf)) (fun b => decide (b ∈ (rowN 9 n).map blkOf)) (fun _ => false) (fun _ => false) (fun _ => true) (fun b => by
    by_cases h5 : b ∈ (rowN 5 n).map blkOf
    · have h9 : ¬ b ∈ (rowN 9 n).map blkOf := by
        intro h9
        obtain ⟨i, hi, rfl⟩ := rowN_mem.1 h5
        obtain ⟨j, hj, e⟩ := rowN_mem.1 h9
        have e2 : mort 16 5 (2 * i) = mort 16 9 (2 * j) := congrArg Prod.snd e
        have := (mort_inj 16 5 (2 * i) 9 (2 * j) (by omega) (by omega) e2).1
        omega
      simp only [h5, h9, decide_true, decide_false, Bool.toNat_true, Bool.toNat_false]
      omega
    · simp only [h5, decide_false, Bool.toNat_false, Bool.toNat_true]
      have := Bool.toNat_le (decide (b ∈ (rowN 9 n).map blkOf))
      omega) (canon S 16 0 ++ canon S 16 1)
  rw [k5, k9] at hs
  have hft := List.length_filter_le (fun _ => true) (canon S 16 0 ++ canon S 16 1)
  rw [hlen]
  omega
theorem badL_of {L : List Cl} (h : AllV L) : badL L = false := by
  unfold badL
  rw [List.any_eq_false]
  intro x hx
  rw [(vl_iff x).2 (h x hx)]
  decide
theorem row_tidy (r : Nat) (hr : r < 65536) : tidyR (rowN r 4000) = rowN r 4000 ∧ tidyE (rowN r 4000) = 0 ∧ vrB (rowN r 4000) = true := by
  have hv := rowN_v r 4000 hr (by omega)
  have ht := rowN_tidy r 4000 hr (by omega)
  have h1 := tidyR_made (badL_of hv) (by rw [rowN_len]; omega)
  rw [made_or _ hv, ht] at h1
  exact ⟨h1.1, h1.2, (vrB_iff _).2 ⟨by rw [rowN_len]; omega, hv, ht⟩⟩
theorem row_union : mkR 1 (rowN 5 4000) (rowN 9 4000) = [] ∧ mkE 1 (rowN 5 4000) (rowN 9 4000) = 4 := by
  obtain ⟨_, _, v5⟩ := row_tidy 5 (by omega)
  obtain ⟨_, _, v9⟩ := row_tidy 9 (by omega)
  have h5 := rowN_v 5 4000 (by omega) (by omega)
  have h9 := rowN_v 9 4000 (by omega) (by omega)
  have hl : ¬ (madeL 1 (rowN 5 4000) (rowN 9 4000)).length ≤ 4000 := by
    rw [madeL_canon 1 _ _ h5 h9]
    have := two_rows 4000 (by omega) (fun q => opB 1 (covB ((rowN 5 4000).map blkOf) q) (covB ((rowN 9 4000).map blkOf) q) = true) (fun q => by simp [opB])
    omega
  unfold mkR mkE
  rw [if_pos v5, if_pos v9, if_neg hl, if_pos v5, if_pos v9, if_neg hl]
  exact ⟨rfl, rfl⟩
theorem row_both : tidyR (rowN 5 4000 ++ rowN 9 4000) = [] ∧ tidyE (rowN 5 4000 ++ rowN 9 4000) = 4 := by
  have h5 := rowN_v 5 4000 (by omega) (by omega)
  have h9 := rowN_v 9 4000 (by omega) (by omega)
  have hv : AllV (rowN 5 4000 ++ rowN 9 4000) := by
    intro x hx
    rcases List.mem_append.1 hx with h | h
    · exact h5 x h
    · exact h9 x h
  have hb := badL_of hv
  have hl : ¬ (tidyL (coverL (rowN 5 4000 ++ rowN 9 4000))).length ≤ 4000 := by
    rw [tidy_cover _ (badL_false hb)]
    have := two_rows 4000 (by omega) (covL (rowN 5 4000 ++ rowN 9 4000)) (fun q => by
      rw [covB_map, covB_map]
      unfold covL
      constructor
      · rintro ⟨x, hx, h⟩
        rcases List.mem_append.1 hx with g | g
        · exact .inl ⟨x, g, h⟩
        · exact .inr ⟨x, g, h⟩
      · rintro (⟨x, hx, h⟩ | ⟨x, hx, h⟩)
        · exact ⟨x, List.mem_append.2 (.inl hx), h⟩
        · exact ⟨x, List.mem_append.2 (.inr hx), h⟩)
    omega
  have hlen : ¬ 16000 < (rowN 5 4000 ++ rowN 9 4000).length := by rw [List.length_append, rowN_len, rowN_len]; omega
  unfold tidyR tidyE
  rw [hb]
  simp [hlen, hl]
theorem rep_v (x : Cl) (n : Nat) (hx : Vl x) : AllV (List.replicate n x) := fun y hy => by rw [(List.mem_replicate.1 hy).2]; exact hx
theorem rep_many (x : Cl) (n : Nat) (hx : Vl x) (hn : 16000 < n) : tidyR (List.replicate n x) = [] ∧ tidyE (List.replicate n x) = 4 := by
  have hb := badL_of (rep_v x n hx)
  unfold tidyR tidyE
  rw [hb, List.length_replicate]
  simp [hn]
theorem rep_one (x : Cl) (n : Nat) (hx : Vl x) (hn : n ≤ 16000) (h0 : 0 < n) : tidyR (List.replicate n x) = [x] ∧ tidyE (List.replicate n x) = 0 := by
  have hb := badL_of (rep_v x n hx)
  have h1 : tidyL (coverL (List.replicate n x)) = [x] := by
    rw [tidy_cover _ (badL_false hb)]
    refine Eq.trans ?_ ((vrB_iff _).1 (one_vr hx)).2.2
    refine canonC_congr fun q => ?_
    unfold covL
    constructor
    · rintro ⟨y, hy, h⟩
      rw [(List.mem_replicate.1 hy).2] at h
      exact ⟨x, by simp, h⟩
    · rintro ⟨y, hy, h⟩
      rw [List.mem_singleton.1 hy] at h
      exact ⟨x, List.mem_replicate.2 ⟨by omega, rfl⟩, h⟩
  have hn' : ¬ 16000 < n := by omega
  unfold tidyR tidyE
  rw [hb, List.length_replicate, h1]
  simp [hn']
end Go.Proofs.YtienkfcliocjgaaGreat
