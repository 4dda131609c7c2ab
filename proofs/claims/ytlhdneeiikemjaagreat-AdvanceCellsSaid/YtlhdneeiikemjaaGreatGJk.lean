/- Plain: the measure of a region. No program in sight. -/
import Derived.Test.YtlhdneeiikemjaaGreatGTi
set_option linter.unusedVariables false
set_option linter.unusedSimpArgs false
namespace Go.Proofs.YtlhdneeiikemjaaGreat
open Canon
/-! ### the measure of a region -/
/-- the measure of a cell, of a function of latitudes -/
def mu (f : Int → Int) (x : Cl) : Int := (f (edg (x.2.1 + 1) x.1) - f (edg x.2.1 x.1)) * (edg (x.2.2 + 1) x.1 - edg x.2.2 x.1)
def upOn (f : Int → Int) : Prop := ∀ a b, 0 ≤ a → a ≤ b → b ≤ 10800000 → f a ≤ f b
theorem mu_kids (f : Int → Int) (l : Nat) (r c : Int) : mu f (((l + 1 : Nat) : Int), 2 * r, 2 * c) + mu f (((l + 1 : Nat) : Int), 2 * r, 2 * c + 1) + mu f (((l + 1 : Nat) : Int), 2 * r + 1, 2 * c) + mu f (((l + 1 : Nat) : Int), 2 * r + 1, 2 * c + 1) = mu f ((l : Int), r, c) := by
  unfold mu
  simp only [edg_even, edg_odd]
  generalize f (edg (2 * r + 1) ((l + 1 : Nat) : Int)) = M
  generalize edg (2 * c + 1) ((l + 1 : Nat) : Int) = N
  generalize f (edg r (l : Int)) = A
  generalize f (edg (r + 1) (l : Int)) = B
  generalize edg c (l : Int) = C
  generalize edg (c + 1) (l : Int) = D
  grind
theorem mu_nonneg {f : Int → Int} (hf : upOn f) {x : Cl} (hx : Vl x) : 0 ≤ mu f x := by
  obtain ⟨h1, h2, h3, h4, h5, h6, h7, h8⟩ := box_nums hx
  have := hf (edg x.2.1 x.1) (edg (x.2.1 + 1) x.1) (by omega) (by omega) (by omega)
  exact Int.mul_nonneg (by omega) (by omega)
/-- the sum of the weights of the numbers of a set -/
def tot (g : Nat → Int) (s : Nat → Bool) : Nat → Int
  | 0 => 0
  | n + 1 => tot g s n + if s n = true then g n else 0
theorem tot_congr {g : Nat → Int} {s t : Nat → Bool} : ∀ n, (∀ q, q < n → s q = t q) → tot g s n = tot g t n
  | 0, _ => rfl
  | n + 1, h => by rw [tot, tot, tot_congr n (fun q hq => h q (by omega)), h n (by omega)]
theorem tot_none {g : Nat → Int} {s : Nat → Bool} : ∀ n, (∀ q, q < n → s q = false) → tot g s n = 0
  | 0, _ => rfl
  | n + 1, h => by rw [tot, tot_none n (fun q hq => h q (by omega)), h n (by omega)]; simp
theorem tot_two (g : Nat → Int) (s t : Nat → Bool) : ∀ n, tot g s n + tot g t n = tot g (fun q => s q || t q) n + tot g (fun q => s q && t q) n
  | 0 => rfl
  | n + 1 => by
    have h := tot_two g s t n
    simp only [tot]
    have e : ∀ x y : Bool, (if x = true then g n else 0) + (if y = true then g n else 0) = (if (x || y) = true then g n else 0) + (if (x && y) = true then g n else 0) := by
      intro x y
      cases x <;> cases y <;> simp
    have e2 := e (s n) (t n)
    omega
theorem tot_le {g : Nat → Int} {s t : Nat → Bool} : ∀ n, (∀ q, q < n → 0 ≤ g q) → (∀ q, q < n → s q = true → t q = true) → tot g s n ≤ tot g t n
  | 0, _, _ => Int.le_refl _
  | n + 1, h, hst => by
    have h1 := tot_le n (fun q hq => h q (by omega)) (fun q hq => hst q (by omega))
    have h2 := hst n (by omega)
    have h3 := h n (by omega)
    simp only [tot]
    cases hs : s n <;> cases ht : t n
    · simp; omega
    · simp; omega
    · rw [hs, ht] at h2; simp at h2
    · simp; omega
def sumR (g : Nat → Int) (a : Nat) : Nat → Int
  | 0 => 0
  | k + 1 => sumR g a k + g (a + k)
theorem sumR_app (g : Nat → Int) (a k : Nat) : ∀ m, sumR g a (k + m) = sumR g a k + sumR g (a + k) m
  | 0 => by simp [sumR]
  | m + 1 => by
    rw [← Nat.add_assoc, sumR, sumR, sumR_app g a k m, Nat.add_assoc a k m]
    omega
theorem tot_run (g : Nat → Int) (a : Nat) : ∀ N k, a + k ≤ N → tot g (fun q => decide (a ≤ q ∧ q < a + k)) N = sumR g a k
  | 0, k, h => by
    have : k = 0 := by omega
    subst this
    rfl
  | N + 1, k, h => by
    by_cases c : a + k ≤ N
    · rw [tot, tot_run g a N k c]
      have e : decide (a ≤ N ∧ N < a + k) = false := by rw [decide_eq_false_iff_not]; omega
      rw [e]
      simp
    · match k, h, c with
      | 0, _, c =>
        rw [tot_none _ (fun q _ => by rw [decide_eq_false_iff_not]; omega)]
        rfl
      | k + 1, h, c =>
        have e : a + k = N := by omega
        rw [tot, sumR, ← tot_run g a N k (by omega), tot_congr (t := fun q => decide (a ≤ q ∧ q < a + k)) N (fun q hq => by rw [decide_eq_decide]; omega), e]
        have : decide (a ≤ N ∧ N < a + (k + 1)) = true := by rw [decide_eq_true_iff]; omega
        rw [this]; simp
/-- the measure of a block is the sum of those of its finest cells -/
theorem mu_sum (f : Int → Int) : ∀ (h n : Nat), h ≤ 16 → n < 2 * 4 ^ (16 - h) → mu f (cellB (h, n)) = sumR (fun q => mu f (cellB (0, q))) (n * 4 ^ h) (4 ^ h)
  | 0, n, _, _ => by simp [sumR]
  | h + 1, n, hh, hn => by
    have el : 16 - h = (16 - (h + 1)) + 1 := by omega
    have hk := mu_kids f (16 - (h + 1)) ((rwTo (16 - (h + 1)) n : Nat) : Int) ((colOf (16 - (h + 1)) n : Nat) : Int)
    have hn4 : ∀ i, i < 4 → 4 * n + i < 2 * 4 ^ (16 - h) := by
      intro i hi
      rw [el, Nat.pow_succ]
      omega
    have k0 := cellN_kid (16 - (h + 1)) n 0 (by omega)
    have k1 := cellN_kid (16 - (h + 1)) n 1 (by omega)
    have k2 := cellN_kid (16 - (h + 1)) n 2 (by omega)
    have k3 := cellN_kid (16 - (h + 1)) n 3 (by omega)
    rw [← el] at k0 k1 k2 k3 hk
    have i0 := mu_sum f h (4 * n) (by omega) (hn4 0 (by omega))
    have i1 := mu_sum f h (4 * n + 1) (by omega) (hn4 1 (by omega))
    have i2 := mu_sum f h (4 * n + 2) (by omega) (hn4 2 (by omega))
    have i3 := mu_sum f h (4 * n + 3) (by omega) (hn4 3 (by omega))
    generalize hg : (fun q => mu f (cellB (0, q))) = g at *
    have eB : ∀ m, cellB (h, m) = cellN m (16 - h) := fun _ => rfl
    rw [eB] at i0 i1 i2 i3
    simp only [Nat.add_zero, Nat.zero_mod, show 0 / 2 = 0 from rfl, show 1 / 2 = 0 from rfl, show 1 % 2 = 1 from rfl, show 2 / 2 = 1 from rfl, show 2 % 2 = 0 from rfl, show 3 / 2 = 1 from rfl, show 3 % 2 = 1 from rfl] at k0 k1 k2 k3
    rw [k0] at i0
    rw [k1] at i1
    rw [k2] at i2
    rw [k3] at i3
    push_cast at i0 i1 i2 i3 hk
    have e0 : cellB (h + 1, n) = (((16 - (h + 1) : Nat) : Int), ((rwTo (16 - (h + 1)) n : Nat) : Int), ((colOf (16 - (h + 1)) n : Nat) : Int)) := rfl
    have e1 : (4 * n + 1) * 4 ^ h = 4 * n * 4 ^ h + 4 ^ h := by rw [Nat.add_mul]; omega
    have e2 : (4 * n + 2) * 4 ^ h = 4 * n * 4 ^ h + 4 ^ h + 4 ^ h := by rw [Nat.add_mul]; omega
    have e3 : (4 * n + 3) * 4 ^ h = 4 * n * 4 ^ h + 4 ^ h + 4 ^ h + 4 ^ h := by rw [Nat.add_mul]; omega
    have e : n * 4 ^ (h + 1) = 4 * n * 4 ^ h := by rw [Nat.pow_succ]; rw [Nat.mul_comm 4 n, Nat.mul_assoc, Nat.mul_comm 4]
    have ep : 4 ^ (h + 1) = 4 ^ h + 4 ^ h + 4 ^ h + 4 ^ h := by rw [Nat.pow_succ]; omega
    rw [e1] at i1
    rw [e2] at i2
    rw [e3] at i3
    rw [e0, e, ep, sumR_app, sumR_app, sumR_app]
    rw [← Nat.add_assoc, ← Nat.add_assoc, ← Nat.add_assoc] at *
    rw [← i0, ← i1, ← i2, ← i3]
    push_cast
    rw [← hk]
def muS (f : Int → Int) (L : List Cl) : Int := (L.map (mu f)).sum
theorem muS_cons (f : Int → Int) (x : Cl) (L : List Cl) : muS f (x :: L) = mu f x + muS f L := by simp [muS]
theorem mu_tot (f : Int → Int) (N : Nat) (hN : N = 2 * 4 ^ 16) : ∀ (A : List Cl), AllV A → (A.map blkOf).Pairwise before2 → muS f A = tot (fun q => mu f (cellB (0, q))) (covB (A.map blkOf)) N
  | [], _, _ => by
    rw [tot_none (s := covB (List.map blkOf [])) _ (fun q _ => rfl)]
    rfl
  | x :: A, hA, hp => by
    rw [List.map_cons, List.pairwise_cons] at hp
    obtain ⟨h1, h2⟩ := hp
    have hx := hA x (by simp)
    have hl := blk_lt x hx
    have ih := mu_tot f N hN A (fun y hy => hA y (by simp [hy])) h2
    have hb : mu f x = tot (fun q => mu f (cellB (0, q))) (fun q => decide ((blkOf x).2 * 4 ^ (blkOf x).1 ≤ q ∧ q < (blkOf x).2 * 4 ^ (blkOf x).1 + 4 ^ (blkOf x).1)) N := by
      have hle : (blkOf x).2 * 4 ^ (blkOf x).1 + 4 ^ (blkOf x).1 ≤ N := by
        rw [hN]
        have e : 4 ^ 16 = 4 ^ (16 - (blkOf x).1) * 4 ^ (blkOf x).1 := by rw [← Nat.pow_add, show 16 - (blkOf x).1 + (blkOf x).1 = 16 by omega]
        have : ((blkOf x).2 + 1) * 4 ^ (blkOf x).1 ≤ 2 * 4 ^ (16 - (blkOf x).1) * 4 ^ (blkOf x).1 := Nat.mul_le_mul_right _ (by omega)
        rw [Nat.mul_assoc, ← e, Nat.add_mul] at this
        omega
      rw [tot_run _ _ _ _ hle, ← mu_sum f _ _ hl.1 hl.2]
      rw [show ((blkOf x).1, (blkOf x).2) = blkOf x from rfl, cellB_blkOf x hx]
    rw [muS_cons, hb, ih, tot_two, tot_none (s := fun q => decide ((blkOf x).2 * 4 ^ (blkOf x).1 ≤ q ∧ q < (blkOf x).2 * 4 ^ (blkOf x).1 + 4 ^ (blkOf x).1) && covB (A.map blkOf) q), Int.add_zero]
    · refine tot_congr _ fun q _ => ?_
      have e : (blkOf x).2 * 4 ^ (blkOf x).1 + 4 ^ (blkOf x).1 = ((blkOf x).2 + 1) * 4 ^ (blkOf x).1 := by rw [Nat.add_mul]; omega
      rw [e]
      rfl
    · intro q _
      rw [Bool.and_eq_false_imp]
      intro hq
      rw [decide_eq_true_iff] at hq
      rw [Bool.eq_false_iff]
      intro hc
      obtain ⟨b, hb2, b1, b2⟩ := covS.1 hc
      have := h1 b hb2
      unfold before2 at this
      have e : (blkOf x).2 * 4 ^ (blkOf x).1 + 4 ^ (blkOf x).1 = ((blkOf x).2 + 1) * 4 ^ (blkOf x).1 := by rw [Nat.add_mul]; omega
      omega
theorem reg_sorted (s : Nat → Bool) : ((regB s).map blkOf).Pairwise before2 := by
  unfold regB
  rw [canonC_blk, List.pairwise_append]
  refine ⟨canon_sorted _ 16 0, canon_sorted _ 16 1, fun a ha b hb => ?_⟩
  have h1 := canon_in _ 16 0 a ha
  have h2 := canon_in _ 16 1 b hb
  unfold inB at h1 h2
  unfold before2
  omega
theorem mu_reg (f : Int → Int) (s : Nat → Bool) (N : Nat) (hN : N = 2 * 4 ^ 16) : muS f (regB s) = tot (fun q => mu f (cellB (0, q))) s N := by
  rw [mu_tot f N hN _ (reg_v s) (reg_sorted s)]
  refine tot_congr _ fun q hq => ?_
  rw [cov_reg, decide_eq_true (by rw [← hN]; exact hq), Bool.true_and]
/-- the measures of two regions are those of what one covers, and of what both cover -/
theorem mu_two (f : Int → Int) (s t : Nat → Bool) : muS f (regB s) + muS f (regB t) = muS f (regB fun q => s q || t q) + muS f (regB fun q => s q && t q) := by
  obtain ⟨N, hN⟩ : ∃ N : Nat, N = 2 * 4 ^ 16 := ⟨_, rfl⟩
  rw [mu_reg f _ N hN, mu_reg f _ N hN, mu_reg f _ N hN, mu_reg f _ N hN]
  exact tot_two _ _ _ _
theorem fin_nonneg {f : Int → Int} (hf : upOn f) (q : Nat) (hq : q < 2 * 4 ^ 16) : 0 ≤ mu f (cellB (0, q)) := mu_nonneg hf (cellB_vl (0, q) (by omega) (by simpa using hq))
theorem mu_sub {f : Int → Int} (hf : upOn f) {s t : Nat → Bool} (h : ∀ q, s q = true → t q = true) : muS f (regB s) ≤ muS f (regB t) := by
  obtain ⟨N, hN⟩ : ∃ N : Nat, N = 2 * 4 ^ 16 := ⟨_, rfl⟩
  rw [mu_reg f _ N hN, mu_reg f _ N hN]
  exact tot_le _ (fun q hq => fin_nonneg hf q (hN ▸ hq)) fun q _ => h q
theorem reg_whole : regB (fun _ => true) = [(0, 0, 0), (0, 0, 1)] := by
  have h0 : canon (fun _ => True) 16 0 = [(16, 0)] := canon_full fun _ _ _ => trivial
  have h1 : canon (fun _ => True) 16 1 = [(16, 1)] := canon_full fun _ _ _ => trivial
  have e : regB (fun _ => true) = canonC (fun _ => True) := canonC_congr fun q => by simp
  rw [e]
  unfold canonC
  rw [h0, h1]
  rfl
theorem mu_whole (f : Int → Int) : muS f [(0, 0, 0), (0, 0, 1)] = (f 10800000 - f 0) * 21600000 := by
  have e : edg 0 0 = 0 ∧ edg (0 + 1) 0 = 10800000 ∧ edg (1 + 1) 0 = 21600000 ∧ edg 1 0 = 10800000 := by decide
  obtain ⟨e0, e1, e2, e3⟩ := e
  simp only [muS, mu, List.map_cons, List.map_nil, List.sum_cons, List.sum_nil, e0, e1, e2, e3]
  omega
theorem mu_bd {f : Int → Int} (hf : upOn f) (s : Nat → Bool) : 0 ≤ muS f (regB s) ∧ muS f (regB s) ≤ (f 10800000 - f 0) * 21600000 := by
  constructor
  · have h := mu_sub hf (s := fun _ => false) (t := s) (fun q h => by simp at h)
    rw [reg_nil (s := fun _ => false) (fun _ _ => rfl)] at h
    exact h
  · rw [← mu_whole, ← reg_whole]
    exact mu_sub hf fun _ _ => rfl
theorem muS_take {f : Int → Int} (hf : upOn f) : ∀ (L : List Cl), AllV L → ∀ k, 0 ≤ muS f (L.take k) ∧ muS f (L.take k) ≤ muS f L
  | [], _, k => by simp [muS]
  | x :: L, h, 0 => by
    have h1 := mu_nonneg hf (h x (by simp))
    have h2 := muS_take hf L (fun y hy => h y (by simp [hy])) 0
    rw [muS_cons]
    simp [muS] at h2 ⊢
    omega
  | x :: L, h, k + 1 => by
    have h1 := mu_nonneg hf (h x (by simp))
    have h2 := muS_take hf L (fun y hy => h y (by simp [hy])) k
    rw [List.take_succ_cons, muS_cons, muS_cons]
    omega
end Go.Proofs.YtlhdneeiikemjaaGreat
