/- Lists of boxes; the walk of fix.boxes. -/
import Derived.Test.YtpemohoibeipfaaGreatHJc
import Derived.Test.YtpemohoibeipfaaGreatHWd
import Derived.Test.YtpemohoibeipfaaGreatHWn
import Derived.Test.YtpemohoibeipfaaGreatHVj
import Derived.Test.YtpemohoibeipfaaGreatHUk
import Derived.Test.YtpemohoibeipfaaGreatHUo
import Derived.Test.YtpemohoibeipfaaGreatHBi
import Derived.Test.YtpemohoibeipfaaGreatHTf
import Derived.Test.YtpemohoibeipfaaGreatHJb
set_option linter.unusedVariables false
set_option linter.unusedSimpArgs false
namespace Go.Proofs.YtpemohoibeipfaaGreat
open Canon
/-! ### regions as sets -/
theorem cov_app (A B : List Blk2) (q : Nat) : covB (A ++ B) q = (covB A q || covB B q) := by simp [covB]
theorem cov_canon (S : Nat → Prop) : ∀ (h n q : Nat), n * 4 ^ h ≤ q → q < (n + 1) * 4 ^ h → (covB (canon S h n) q = true ↔ S q)
  | h, n, q, h1, h2 => by
    constructor
    · intro hc
      obtain ⟨b, hb, b1, b2⟩ := covS.1 hc
      exact ((mem_canon S h n b.1 b.2).1 hb).2.2.1 q b1 b2
    · intro hS
      by_cases hf : full S h n
      · rw [canon_full hf]
        exact covS.2 ⟨(h, n), by simp, h1, h2⟩
      · match h, h1, h2, hf with
        | 0, h1, h2, hf =>
          exfalso
          simp at h1 h2
          have : q = n := by omega
          exact hf ((full_zero S n).2 (this ▸ hS))
        | h + 1, h1, h2, hf =>
          simp only [canon, hf, if_false, cov_app, Bool.or_eq_true]
          have e : ∀ m : Nat, m * 4 ^ (h + 1) = 4 * m * 4 ^ h := fun m => by rw [Nat.pow_succ]; rw [Nat.mul_comm 4 m, Nat.mul_assoc, Nat.mul_comm 4]
          rw [e] at h1 h2
          have e1 : (4 * n + 1) * 4 ^ h = 4 * n * 4 ^ h + 4 ^ h := by rw [Nat.add_mul]; omega
          have e2 : (4 * n + 2) * 4 ^ h = 4 * n * 4 ^ h + 2 * 4 ^ h := by rw [Nat.add_mul]
          have e3 : (4 * n + 3) * 4 ^ h = 4 * n * 4 ^ h + 3 * 4 ^ h := by rw [Nat.add_mul]
          have e4 : (4 * n + 1 + 1) * 4 ^ h = 4 * n * 4 ^ h + 2 * 4 ^ h := by rw [show 4 * n + 1 + 1 = 4 * n + 2 by omega, e2]
          have e5 : (4 * n + 2 + 1) * 4 ^ h = 4 * n * 4 ^ h + 3 * 4 ^ h := by rw [show 4 * n + 2 + 1 = 4 * n + 3 by omega, e3]
          have e6 : (4 * n + 3 + 1) * 4 ^ h = 4 * n * 4 ^ h + 4 * 4 ^ h := by rw [show 4 * n + 3 + 1 = 4 * n + 4 by omega, Nat.add_mul]
          have e7 : 4 * (n + 1) * 4 ^ h = 4 * n * 4 ^ h + 4 * 4 ^ h := by rw [show 4 * (n + 1) = 4 * n + 4 by omega, Nat.add_mul]
          by_cases c0 : q < (4 * n + 1) * 4 ^ h
          · exact .inl ((cov_canon S h (4 * n) q h1 c0).2 hS)
          · by_cases c1 : q < (4 * n + 1 + 1) * 4 ^ h
            · exact .inr (.inl ((cov_canon S h (4 * n + 1) q (by omega) c1).2 hS))
            · by_cases c2 : q < (4 * n + 2 + 1) * 4 ^ h
              · exact .inr (.inr (.inl ((cov_canon S h (4 * n + 2) q (by omega) c2).2 hS)))
              · exact .inr (.inr (.inr ((cov_canon S h (4 * n + 3) q (by omega) (by omega)).2 hS)))
theorem cov_canon_out (S : Nat → Prop) (h n q : Nat) (hq : ¬ (n * 4 ^ h ≤ q ∧ q < (n + 1) * 4 ^ h)) : covB (canon S h n) q = false := by
  rw [Bool.eq_false_iff]
  intro hc
  obtain ⟨b, hb, b1, b2⟩ := covS.1 hc
  obtain ⟨g1, g2⟩ := canon_in S h n b hb
  exact hq ⟨by omega, by omega⟩
/-- the region of a set -/
noncomputable def regB (s : Nat → Bool) : List Cl := canonC fun q => s q = true
theorem cov_reg (s : Nat → Bool) (q : Nat) : covB ((regB s).map blkOf) q = (decide (q < 2 * 4 ^ 16) && s q) := by
  unfold regB
  rw [canonC_blk, cov_app]
  by_cases h0 : q < 4 ^ 16
  · have c0 := cov_canon (fun q => s q = true) 16 0 q (by omega) (by omega)
    have c1 := cov_canon_out (fun q => s q = true) 16 1 q (by omega)
    rw [c1, Bool.or_false, decide_eq_true (by omega), Bool.true_and, Bool.eq_iff_iff]
    exact c0
  · have c0 := cov_canon_out (fun q => s q = true) 16 0 q (by omega)
    rw [c0, Bool.false_or]
    by_cases h1 : q < 2 * 4 ^ 16
    · have c1 := cov_canon (fun q => s q = true) 16 1 q (by omega) (by omega)
      rw [decide_eq_true h1, Bool.true_and, Bool.eq_iff_iff]
      exact c1
    · have c1 := cov_canon_out (fun q => s q = true) 16 1 q (by omega)
      rw [c1, decide_eq_false h1, Bool.false_and]
theorem reg_congr {s t : Nat → Bool} (h : ∀ q, q < 2 * 4 ^ 16 → s q = t q) : regB s = regB t := by
  unfold regB canonC
  rw [canon_congr 16 0 (T := fun q => t q = true) (fun q _ h2 => by rw [h q (by omega)]), canon_congr 16 1 (T := fun q => t q = true) (fun q _ h2 => by rw [h q (by omega)])]
theorem reg_v (s : Nat → Bool) : AllV (regB s) := by
  intro x hx
  obtain ⟨b, hb, rfl⟩ := List.mem_map.1 hx
  have key : ∀ n, n < 2 → b ∈ canon (fun q => s q = true) 16 n → Vl (cellB b) := by
    intro n hn hb
    obtain ⟨g1, g2, _⟩ := (mem_canon _ 16 n b.1 b.2).1 hb
    refine cellB_vl b g1 ?_
    have hp : 0 < 4 ^ (16 - b.1) := Nat.pow_pos (by omega)
    rw [← Nat.div_lt_iff_lt_mul hp]
    omega
  rcases List.mem_append.1 hb with hb | hb
  · exact key 0 (by omega) hb
  · exact key 1 (by omega) hb
theorem reg_made (op : Int) (s t : Nat → Bool) : madeL op (regB s) (regB t) = regB fun q => opB op (s q) (t q) := by
  rw [madeL_canon op _ _ (reg_v s) (reg_v t)]
  show regB (fun q => opB op (covB ((regB s).map blkOf) q) (covB ((regB t).map blkOf) q)) = _
  refine reg_congr fun q hq => ?_
  rw [cov_reg, cov_reg, decide_eq_true hq, Bool.true_and, Bool.true_and]
/-- no two regions of sets are the same unless the sets are -/
theorem reg_inj {s t : Nat → Bool} (h : regB s = regB t) (q : Nat) (hq : q < 2 * 4 ^ 16) : s q = t q := by
  have h1 := cov_reg s q
  have h2 := cov_reg t q
  rw [h, h2, decide_eq_true hq, Bool.true_and, Bool.true_and] at h1
  exact h1.symm
theorem reg_nil {s : Nat → Bool} (h : ∀ q, q < 2 * 4 ^ 16 → s q = false) : regB s = [] := by
  unfold regB canonC
  rw [canon_none (fun q _ h2 => by rw [h q (by omega)]; simp), canon_none (fun q _ h2 => by rw [h q (by omega)]; simp)]
  rfl
end Go.Proofs.YtpemohoibeipfaaGreat
namespace Go.Proofs.YtpemohoibeipfaaGreat
open Canon
/-! ### points in boxes of cells -/
def lonIn (lo hi b : Int) : Bool := decide ((b - lo) % 21600000 ≤ hi - lo)
/-- whether a valid point is in the box of a cell -/
def ptB (x : Cl) (a b : Int) : Bool :=
  decide (edg x.2.1 x.1 - 5400000 ≤ a ∧ a ≤ edg (x.2.1 + 1) x.1 - 5400000) && (decide (a = 5400000) || decide (a = -5400000) || lonIn (edg x.2.2 x.1 - 10800000) (edg (x.2.2 + 1) x.1 - 10800000) b)
def conB (L : List Cl) (a b : Int) : Bool := L.any fun x => ptB x a b
theorem pw_nat (l : Nat) : pw (l : Int) = ((2 ^ l : Nat) : Int) := by simp [pw]
theorem pw_pos (l : Int) : 0 < pw l := by unfold pw; exact Int.pow_pos (by omega)
theorem pw_succ (l : Nat) : pw ((l + 1 : Nat) : Int) = 2 * pw (l : Int) := by
  rw [pw_nat, pw_nat, Nat.pow_succ]
  omega
theorem edg_even (i : Int) (l : Nat) : edg (2 * i) ((l + 1 : Nat) : Int) = edg i (l : Int) := by
  unfold edg
  rw [pw_succ, Int.mul_assoc, Int.mul_ediv_mul_of_pos _ _ (by omega)]
theorem edg_mono {i j : Int} (l : Int) (h : i ≤ j) : edg i l ≤ edg j l := by
  unfold edg
  exact Int.ediv_le_ediv (pw_pos l) (by omega)
theorem lon_split {lo mi hi b : Int} (h1 : lo ≤ mi) (h2 : mi ≤ hi) (h3 : hi - lo < 21600000) (h4 : -10800000 ≤ lo) (h5 : hi ≤ 10800000) (b1 : -10800000 ≤ b) (b2 : b < 10800000) : lonIn lo hi b = (lonIn lo mi b || lonIn mi hi b) := by
  unfold lonIn
  rw [Bool.eq_iff_iff, Bool.or_eq_true, decide_eq_true_eq, decide_eq_true_eq, decide_eq_true_eq]
  omega
theorem lat_split {lo mi hi a : Int} (h1 : lo ≤ mi) (h2 : mi ≤ hi) : decide (lo ≤ a ∧ a ≤ hi) = (decide (lo ≤ a ∧ a ≤ mi) || decide (mi ≤ a ∧ a ≤ hi)) := by
  rw [Bool.eq_iff_iff, Bool.or_eq_true, decide_eq_true_eq, decide_eq_true_eq, decide_eq_true_eq]
  omega
theorem pt_kids (l r c : Nat) (hl : l < 16) (hc : c < 2 * 2 ^ l) (a b : Int) (hv : vptB a b = true) :
    ptB ((l : Int), (r : Int), (c : Int)) a b = (ptB (((l + 1 : Nat) : Int), ((2 * r : Nat) : Int), ((2 * c : Nat) : Int)) a b || ptB (((l + 1 : Nat) : Int), ((2 * r : Nat) : Int), ((2 * c + 1 : Nat) : Int)) a b || ptB (((l + 1 : Nat) : Int), ((2 * r + 1 : Nat) : Int), ((2 * c : Nat) : Int)) a b || ptB (((l + 1 : Nat) : Int), ((2 * r + 1 : Nat) : Int), ((2 * c + 1 : Nat) : Int)) a b) := by
  obtain ⟨a1, a2, b1, b2⟩ := vptB_true.1 hv
  have hp := pw_nat l
  have r0 := edg_even (r : Int) l
  have r1 := edg_even ((r : Int) + 1) l
  have c0 := edg_even (c : Int) l
  have c1 := edg_even ((c : Int) + 1) l
  have m0 := edg_mono ((l + 1 : Nat) : Int) (show 2 * (r : Int) ≤ 2 * (r : Int) + 1 by omega)
  have m1 := edg_mono ((l + 1 : Nat) : Int) (show 2 * (r : Int) + 1 ≤ 2 * ((r : Int) + 1) by omega)
  have m2 := edg_mono ((l + 1 : Nat) : Int) (show 2 * (c : Int) ≤ 2 * (c : Int) + 1 by omega)
  have m3 := edg_mono ((l + 1 : Nat) : Int) (show 2 * (c : Int) + 1 ≤ 2 * ((c : Int) + 1) by omega)
  have d0 := edg_bd (i := (c : Int)) (l := (l : Int)) (by omega) (by omega) (by rw [hp]; omega)
  have d1 := edg_bd (i := (c : Int) + 1) (l := (l : Int)) (by omega) (by omega) (by rw [hp]; omega)
  have d2 : edg ((c : Int) + 1) l - edg c l < 21600000 := by
    unfold edg
    have : ((c : Int) + 1) * 10800000 / pw l ≤ (c : Int) * 10800000 / pw l + 10800001 := by
      rw [← Int.add_mul_ediv_right _ _ (show pw (l : Int) ≠ 0 by have := pw_pos (l : Int); omega)]
      refine Int.ediv_le_ediv (pw_pos l) ?_
      have := pw_pos (l : Int)
      omega
    omega
  have e1 : ((2 * r : Nat) : Int) = 2 * (r : Int) := by omega
  have e2 : ((2 * r + 1 : Nat) : Int) = 2 * (r : Int) + 1 := by omega
  have e3 : ((2 * c : Nat) : Int) = 2 * (c : Int) := by omega
  have e4 : ((2 * c + 1 : Nat) : Int) = 2 * (c : Int) + 1 := by omega
  have e5 : 2 * (r : Int) + 1 + 1 = 2 * ((r : Int) + 1) := by omega
  have e6 : 2 * (c : Int) + 1 + 1 = 2 * ((c : Int) + 1) := by omega
  unfold ptB
  simp only [e1, e2, e3, e4, e5, e6]
  rw [r0] at m0
  rw [r1] at m1
  rw [c0] at m2
  rw [c1] at m3
  rw [r0, r1, c0, c1]
  generalize edg (2 * (r : Int) + 1) ((l + 1 : Nat) : Int) = M at *
  generalize edg (2 * (c : Int) + 1) ((l + 1 : Nat) : Int) = N at *
  generalize edg (r : Int) (l : Int) = A at *
  generalize edg ((r : Int) + 1) (l : Int) = B at *
  generalize edg (c : Int) (l : Int) = C at *
  generalize edg ((c : Int) + 1) (l : Int) = D at *
  rw [lat_split (lo := A - 5400000) (mi := M - 5400000) (hi := B - 5400000) (by omega) (by omega), lon_split (lo := C - 10800000) (mi := N - 10800000) (hi := D - 10800000) (by omega) (by omega) (by omega) (by omega) (by omega) b1 b2]
  generalize decide (A - 5400000 ≤ a ∧ a ≤ M - 5400000) = x1
  generalize decide (M - 5400000 ≤ a ∧ a ≤ B - 5400000) = x2
  generalize lonIn (C - 10800000) (N - 10800000) b = y1
  generalize lonIn (N - 10800000) (D - 10800000) b = y2
  generalize (decide (a = 5400000) || decide (a = -5400000)) = p
  cases x1 <;> cases x2 <;> cases y1 <;> cases y2 <;> cases p <;> rfl
def fin (a b : Int) (q : Nat) : Bool := ptB (cellB (0, q)) a b
theorem cellN_kid (l n i : Nat) (hi : i < 4) : cellN (4 * n + i) (l + 1) = (((l + 1 : Nat) : Int), ((2 * rwTo l n + i / 2 : Nat) : Int), ((2 * colOf l n + i % 2 : Nat) : Int)) := by
  have e1 : (4 * n + i) / 4 = n := by omega
  have e2 : (4 * n + i) % 4 = i := by omega
  unfold cellN colOf
  rw [rwTo_low, clTo_low, e1, e2, Nat.pow_succ 4 l, Nat.mul_comm (4 ^ l) 4, ← Nat.div_div_eq_div_mul, e1, Nat.pow_succ 2 l]
  have : n / 4 ^ l * (2 ^ l * 2) = 2 * (n / 4 ^ l * 2 ^ l) := by rw [← Nat.mul_assoc, Nat.mul_comm]
  rw [this]
  have e3 : 2 * clTo l n + i % 2 + 2 * (n / 4 ^ l * 2 ^ l) = 2 * (clTo l n + n / 4 ^ l * 2 ^ l) + i % 2 := by omega
  rw [e3]
theorem pt_fin (a b : Int) (hv : vptB a b = true) : ∀ (h n : Nat), h ≤ 16 → n < 2 * 4 ^ (16 - h) → (ptB (cellB (h, n)) a b = true ↔ ∃ q, n * 4 ^ h ≤ q ∧ q < (n + 1) * 4 ^ h ∧ fin a b q = true)
  | 0, n, _, _ => by
    constructor
    · intro h
      exact ⟨n, by omega, by omega, h⟩
    · rintro ⟨q, h1, h2, h3⟩
      have : q = n := by omega
      rw [← this]
      exact h3
  | h + 1, n, hh, hn => by
    have el : 16 - h = (16 - (h + 1)) + 1 := by omega
    have hcol := colOf_lt (16 - (h + 1)) n hn
    have hk := pt_kids (16 - (h + 1)) (rwTo (16 - (h + 1)) n) (colOf (16 - (h + 1)) n) (by omega) hcol a b hv
    have hn4 : ∀ i, i < 4 → 4 * n + i < 2 * 4 ^ (16 - h) := by
      intro i hi
      rw [el, Nat.pow_succ]
      omega
    have k0 := cellN_kid (16 - (h + 1)) n 0 (by omega)
    have k1 := cellN_kid (16 - (h + 1)) n 1 (by omega)
    have k2 := cellN_kid (16 - (h + 1)) n 2 (by omega)
    have k3 := cellN_kid (16 - (h + 1)) n 3 (by omega)
    rw [← el] at k0 k1 k2 k3 hk
    have i0 := pt_fin a b hv h (4 * n) (by omega) (hn4 0 (by omega))
    have i1 := pt_fin a b hv h (4 * n + 1) (by omega) (hn4 1 (by omega))
    have i2 := pt_fin a b hv h (4 * n + 2) (by omega) (hn4 2 (by omega))
    have i3 := pt_fin a b hv h (4 * n + 3) (by omega) (hn4 3 (by omega))
    unfold cellB at i0 i1 i2 i3 ⊢
    simp only [] at i0 i1 i2 i3 ⊢
    have e0 : cellN n (16 - (h + 1)) = (((16 - (h + 1) : Nat) : Int), ((rwTo (16 - (h + 1)) n : Nat) : Int), ((colOf (16 - (h + 1)) n : Nat) : Int)) := rfl
    simp only [Nat.add_zero, Nat.zero_div, Nat.zero_mod, show 1 / 2 = 0 from rfl, show 1 % 2 = 1 from rfl, show 2 / 2 = 1 from rfl, show 2 % 2 = 0 from rfl, show 3 / 2 = 1 from rfl, show 3 % 2 = 1 from rfl] at k0 k1 k2 k3
    rw [e0, hk, ← k0, ← k1, ← k2, ← k3, Bool.or_eq_true, Bool.or_eq_true, Bool.or_eq_true, i0, i1, i2, i3]
    have e : ∀ m : Nat, m * 4 ^ (h + 1) = 4 * m * 4 ^ h := fun m => by rw [Nat.pow_succ]; rw [Nat.mul_comm 4 m, Nat.mul_assoc, Nat.mul_comm 4]
    rw [e, e]
    have e1 : (4 * n + 1) * 4 ^ h = 4 * n * 4 ^ h + 4 ^ h := by rw [Nat.add_mul]; omega
    have e2 : (4 * n + 2) * 4 ^ h = 4 * n * 4 ^ h + 2 * 4 ^ h := by rw [Nat.add_mul]
    have e3 : (4 * n + 3) * 4 ^ h = 4 * n * 4 ^ h + 3 * 4 ^ h := by rw [Nat.add_mul]
    have e4 : (4 * n + 1 + 1) * 4 ^ h = 4 * n * 4 ^ h + 2 * 4 ^ h := by rw [show 4 * n + 1 + 1 = 4 * n + 2 by omega, e2]
    have e5 : (4 * n + 2 + 1) * 4 ^ h = 4 * n * 4 ^ h + 3 * 4 ^ h := by rw [show 4 * n + 2 + 1 = 4 * n + 3 by omega, e3]
    have e6 : (4 * n + 3 + 1) * 4 ^ h = 4 * n * 4 ^ h + 4 * 4 ^ h := by rw [show 4 * n + 3 + 1 = 4 * n + 4 by omega, Nat.add_mul]
    have e7 : 4 * (n + 1) * 4 ^ h = 4 * n * 4 ^ h + 4 * 4 ^ h := by rw [show 4 * (n + 1) = 4 * n + 4 by omega, Nat.add_mul]
    rw [e4, e5, e6, e7, e1]
    generalize 4 * n * 4 ^ h = u
    generalize 4 ^ h = v
    constructor
    · rintro (((⟨q, h1, h2, h3⟩ | ⟨q, h1, h2, h3⟩) | ⟨q, h1, h2, h3⟩) | ⟨q, h1, h2, h3⟩) <;> exact ⟨q, by omega, by omega, h3⟩
    · rintro ⟨q, h1, h2, h3⟩
      by_cases c1 : q < u + v
      · exact .inl (.inl (.inl ⟨q, h1, c1, h3⟩))
      · by_cases c2 : q < u + 2 * v
        · exact .inl (.inl (.inr ⟨q, by omega, c2, h3⟩))
        · by_cases c3 : q < u + 3 * v
          · exact .inl (.inr ⟨q, by omega, c3, h3⟩)
          · exact .inr ⟨q, by omega, h2, h3⟩
theorem con_iff {L : List Cl} (hL : AllV L) (a b : Int) (hv : vptB a b = true) : conB L a b = true ↔ ∃ q, covB (L.map blkOf) q = true ∧ fin a b q = true := by
  unfold conB
  rw [List.any_eq_true]
  constructor
  · rintro ⟨x, hx, h⟩
    have h1 := blk_lt x (hL x hx)
    rw [← cellB_blkOf x (hL x hx), show blkOf x = ((blkOf x).1, (blkOf x).2) from rfl, pt_fin a b hv _ _ h1.1 h1.2] at h
    obtain ⟨q, q1, q2, q3⟩ := h
    exact ⟨q, covS.2 ⟨blkOf x, List.mem_map.2 ⟨x, hx, rfl⟩, q1, q2⟩, q3⟩
  · rintro ⟨q, hq, hf⟩
    obtain ⟨b', hb', b1, b2⟩ := covS.1 hq
    obtain ⟨x, hx, rfl⟩ := List.mem_map.1 hb'
    have h1 := blk_lt x (hL x hx)
    refine ⟨x, hx, ?_⟩
    rw [← cellB_blkOf x (hL x hx), show blkOf x = ((blkOf x).1, (blkOf x).2) from rfl, pt_fin a b hv _ _ h1.1 h1.2]
    exact ⟨q, b1, b2, hf⟩
/-- whether all of a is in b -/
def insL (a b : List Cl) : Bool := decide (madeL 3 a b = [])
theorem ins_reg (s t : Nat → Bool) : insL (regB s) (regB t) = true ↔ ∀ q, q < 2 * 4 ^ 16 → s q = true → t q = true := by
  unfold insL
  rw [decide_eq_true_eq, reg_made]
  have e : ∀ x y : Bool, opB 3 x y = (x && !y) := by intro x y; simp [opB]
  constructor
  · intro h q hq hs
    have h0 : (regB fun _ => false) = [] := reg_nil fun _ _ => rfl
    have := reg_inj (h.trans h0.symm) q hq
    rw [e, hs, Bool.true_and] at this
    cases ht : t q with
    | true => rfl
    | false => rw [ht] at this; exact absurd this (by decide)
  · intro h
    refine reg_nil fun q hq => ?_
    rw [e]
    cases hs : s q with
    | false => rfl
    | true => rw [h q hq hs]; rfl
/-! ### the cell of a point -/
theorem idx_in {l N m : Int} (h1 : l ≤ 16) (h2 : 0 ≤ N) (hm : 0 ≤ m) : 0 ≤ idx N l m ∧ idx N l m ≤ m ∧ edg (idx N l m) l ≤ N ∧ (idx N l m = m ∨ N < edg (idx N l m + 1) l) := by
  have hp := pw_pos l
  have e : (pn N l + 10799999) / 10800000 - 1 = (pn N l - 1) / 10800000 := by omega
  have h3 : 1 ≤ pn N l := by
    unfold pn
    have : 1 * 1 ≤ (N + 1) * pw l := Int.mul_le_mul (by omega) (by omega) (by omega) (by omega)
    omega
  have h4 : 0 ≤ (pn N l - 1) / 10800000 := Int.ediv_nonneg (by omega) (by omega)
  unfold idx
  rw [e, edg_le_iff h1]
  have h5 : N < edg (min ((pn N l - 1) / 10800000) m + 1) l ↔ ¬ min ((pn N l - 1) / 10800000) m + 1 ≤ (pn N l - 1) / 10800000 := by
    rw [← edg_le_iff h1]
    omega
  rw [h5]
  generalize (pn N l - 1) / 10800000 = z at *
  omega
/-- the cell of a level with a point -/
def ofC (a b l : Int) : Cl := (l, idx (a + 5400000) l (pw l - 1), idx (b + 10800000) l (2 * pw l - 1))
theorem edg_all (l : Int) : edg (pw l) l = 10800000 := by
  unfold edg
  rw [Int.mul_comm, Int.mul_ediv_cancel _ (by have := pw_pos l; omega)]
theorem edg_two (l : Int) : edg (2 * pw l) l = 21600000 := by
  unfold edg
  rw [show 2 * pw l * 10800000 = 21600000 * pw l by omega, Int.mul_ediv_cancel _ (by have := pw_pos l; omega)]
theorem of_in {a b l : Int} (hv : vptB a b = true) (h0 : 0 ≤ l) (h1 : l ≤ 16) :
    Vl (ofC a b l) ∧ edg (ofC a b l).2.1 l - 5400000 ≤ a ∧ a ≤ edg ((ofC a b l).2.1 + 1) l - 5400000 ∧ edg (ofC a b l).2.2 l - 10800000 ≤ b ∧ b < edg ((ofC a b l).2.2 + 1) l - 10800000 := by
  obtain ⟨a1, a2, b1, b2⟩ := vptB_true.1 hv
  have hp := pw_pos l
  have i1 := idx_in (l := l) (N := a + 5400000) (m := pw l - 1) h1 (by omega) (by omega)
  have i2 := idx_in (l := l) (N := b + 10800000) (m := 2 * pw l - 1) h1 (by omega) (by omega)
  have e1 := edg_all l
  have e2 := edg_two l
  refine ⟨(vl_iff _).1 (vldB_true.2 ?_), ?_⟩
  · unfold ofC
    simp only []
    omega
  · unfold ofC
    simp only []
    obtain ⟨x1, x2, x3, x4⟩ := i1
    obtain ⟨y1, y2, y3, y4⟩ := i2
    refine ⟨by omega, ?_, by omega, ?_⟩
    · rcases x4 with h | h
      · rw [h, show pw l - 1 + 1 = pw l by omega, e1]; omega
      · omega
    · rcases y4 with h | h
      · rw [h, show 2 * pw l - 1 + 1 = 2 * pw l by omega, e2]; omega
      · omega
theorem of_pt {a b l : Int} (hv : vptB a b = true) (h0 : 0 ≤ l) (h1 : l ≤ 16) : ptB (ofC a b l) a b = true := by
  obtain ⟨hV, g1, g2, g3, g4⟩ := of_in hv h0 h1
  obtain ⟨a1, a2, b1, b2⟩ := vptB_true.1 hv
  have hp := pw_pos l
  obtain ⟨v0, v1, v2, v3, v4, v5⟩ := vldB_true.1 ((vl_iff _).2 hV)
  have hl : (ofC a b l).1 = l := rfl
  rw [hl] at v3 v5
  have d0 := edg_bd (i := (ofC a b l).2.2) h1 v4 (by omega)
  have d1 := edg_bd (i := (ofC a b l).2.2 + 1) h1 (by omega) (by omega)
  unfold ptB
  rw [hl, decide_eq_true ⟨g1, g2⟩, Bool.true_and, Bool.or_eq_true]
  right
  unfold lonIn
  rw [decide_eq_true_eq]
  generalize edg (ofC a b l).2.2 l = x at *
  generalize edg ((ofC a b l).2.2 + 1) l = y at *
  omega
end Go.Proofs.YtpemohoibeipfaaGreat
namespace Go.Proofs.YtpemohoibeipfaaGreat
open Canon
/-! ### no spans, no cells -/
theorem cov_canonC (S : Nat → Prop) (q : Nat) (hq : q < 2 * 4 ^ 16) : covB ((canonC S).map blkOf) q = true ↔ S q := by
  rw [canonC_blk, cov_app, Bool.or_eq_true]
  by_cases h0 : q < 4 ^ 16
  · have c0 := cov_canon S 16 0 q (by omega) (by omega)
    have c1 := cov_canon_out S 16 1 q (by omega)
    rw [c0, c1]
    simp
  · have c0 := cov_canon_out S 16 0 q (by omega)
    have c1 := cov_canon S 16 1 q (by omega) (by omega)
    rw [c0, c1]
    simp
theorem tidyL_nil {D : List Sp} (hA : ApartI D) (hk : SpOk D) : tidyL D = [] ↔ D = [] := by
  constructor
  · intro h
    rw [tidyL_canon hA hk] at h
    match D, hA, hk, h with
    | [], _, _, _ => rfl
    | s :: r, hA, hk, h =>
      exfalso
      have hs := hk s (by simp)
      have := (cov_canonC (fun q => inI (s :: r) q) s.1.toNat (by omega)).2 ⟨s, by simp, by omega, by omega⟩
      rw [h] at this
      exact Bool.noConfusion this
  · rintro rfl
    rfl
theorem comb_empty (E : List Int) (a b : List Cl) (ha : AllV a) (hb : AllV b) (hE : E.Pairwise (· < ·)) (hm : ∀ x, x ∈ E ↔ (x ∈ endsS (coverL a) ∨ x ∈ endsS (coverL b))) :
    combE (opB 3) E (coverL a) (coverL b) = [] ↔ madeL 3 a b = [] := by
  obtain ⟨h1, h2⟩ := comb_made 3 E a b ha hb hE hm
  have hr : opB 3 false false = false := by simp [opB]
  have va : ∀ x ∈ a, vldB x.1 x.2.1 x.2.2 = true := fun x hx => (vl_iff x).2 (ha x hx)
  have vb : ∀ x ∈ b, vldB x.1 x.2.1 x.2.2 = true := fun x hx => (vl_iff x).2 (hb x hx)
  have h3 := (comb_good (opB 3) hr E (coverL a) (coverL b) hE hm (cover_good a va).1 (cover_good b vb).1).1
  rw [← h1]
  exact (tidyL_nil h3 h2).symm
end Go.Proofs.YtpemohoibeipfaaGreat
namespace Go.Proofs.YtpemohoibeipfaaGreat
open Canon
/-- the edges of the boxes of a cell and of its children -/
theorem box_nums {x : Cl} (hx : Vl x) : -5400000 ≤ edg x.2.1 x.1 - 5400000 ∧ edg x.2.1 x.1 ≤ edg (x.2.1 + 1) x.1 ∧ edg (x.2.1 + 1) x.1 - 5400000 ≤ 5400000 ∧ 0 ≤ edg x.2.2 x.1 ∧ edg x.2.2 x.1 < 21600000 ∧ edg x.2.2 x.1 ≤ edg (x.2.2 + 1) x.1 ∧ edg (x.2.2 + 1) x.1 ≤ 21600000 ∧ edg (x.2.2 + 1) x.1 - edg x.2.2 x.1 ≤ 10800001 := by
  obtain ⟨h0, h1, h2, h3, h4, h5⟩ := vldB_true.1 ((vl_iff x).2 hx)
  have hp := pw_pos x.1
  have hb := pw_bd h1
  have r0 := edg_bd (i := x.2.1) h1 h2 (by omega)
  have c0 := edg_bd (i := x.2.2) h1 h4 (by omega)
  have c1 := edg_bd (i := x.2.2 + 1) h1 (by omega) (by omega)
  have rm := edg_mono x.1 (show x.2.1 ≤ x.2.1 + 1 by omega)
  have cm := edg_mono x.1 (show x.2.2 ≤ x.2.2 + 1 by omega)
  have rt := edg_mono x.1 (show x.2.1 + 1 ≤ pw x.1 by omega)
  rw [edg_all] at rt
  have ct : edg x.2.2 x.1 < 21600000 := by
    unfold edg
    rw [Int.ediv_lt_iff_lt_mul hp]
    omega
  have cw : edg (x.2.2 + 1) x.1 - edg x.2.2 x.1 ≤ 10800001 := by
    unfold edg
    have : (x.2.2 + 1) * 10800000 / pw x.1 ≤ x.2.2 * 10800000 / pw x.1 + 10800001 := by
      rw [← Int.add_mul_ediv_right _ _ (show pw x.1 ≠ 0 by omega)]
      refine Int.ediv_le_ediv hp ?_
      omega
    omega
  omega
end Go.Proofs.YtpemohoibeipfaaGreat
namespace Go.Proofs.YtpemohoibeipfaaGreat
open Go.RowKit
def aeq (a b a' b' : Int) : Bool := decide (a = a' ∧ b = b')
theorem equalInArc (a b a' b' : Int) (w : World) : (Op.equalIn 10000 32 (.agg #[.int .i64 a, .int .i64 b]) (.agg #[.int .i64 a', .int .i64 b'])).run Tryz.prog w = .ok (aeq a b a' b') w := by
  have u3 := Tryz.underlying3
  have a3 := Tryz.isAgg3
  have z3 := Tryz.sizeOf3
  have hS : Tryz.prog.underlying 32 = some (.struct (Tryz.prog.fieldsOf 32)) := by kernel_rfl
  have hp : Tryz.prog.stoodInHeld 32 = false := by kernel_rfl
  rw [show (10000 : Nat) = 9999 + 1 from rfl, run_equalIn_agg w 9999 32 _ _ hS hp]
  simp only [Program.fieldsOf, Tryz.underlying32]
  go_simp
  by_cases h1 : a = a' <;> by_cases h2 : b = b' <;> simp [aeq, h1, h2]
theorem eqlArc (a b a' b' : Int) (w : World) : (binOp .eql 32 (.agg #[.int .i64 a, .int .i64 b]) (.agg #[.int .i64 a', .int .i64 b'])).run Tryz.prog w = .ok (.bool (aeq a b a' b')) w := by
  rw [run_eql_struct, equalInArc]; rfl
theorem tmod_cases (n : Int) : (0 ≤ n ∧ n.tmod 21600000 = n % 21600000) ∨ (n < 0 ∧ n.tmod 21600000 = -((-n) % 21600000)) := by
  by_cases h : 0 ≤ n
  · exact .inl ⟨h, Int.tmod_eq_emod_of_nonneg h⟩
  · refine .inr ⟨by omega, ?_⟩
    have h1 : (-n).tmod 21600000 = (-n) % 21600000 := Int.tmod_eq_emod_of_nonneg (by omega)
    rw [Int.neg_tmod] at h1
    omega
theorem tmod_pos {n : Int} (h : 0 ≤ n.tmod 21600000) : n.tmod 21600000 = n % 21600000 := by
  rcases tmod_cases n with ⟨h1, h2⟩ | ⟨h1, h2⟩ <;> omega
theorem tmod_neg {n : Int} (h : n.tmod 21600000 < 0) : n.tmod 21600000 + 21600000 = n % 21600000 := by
  rcases tmod_cases n with ⟨h1, h2⟩ | ⟨h1, h2⟩ <;> omega
theorem everywhere_any (w : World) : Calls Tryz.prog 111 #[] w fun e w' => e = .returned (.agg #[.int .i64 (-10800000), .int .i64 10800000]) ∧ Below w.heap.size w w' := by
  go_enter Tryz.func111, Tryz.ntmps111
  go_wp2
  refine bodyPost_ret (v := .agg #[.int .i64 (-10800000), .int .i64 10800000]) (by simp [results, Tryz.results111, go_sem]) rfl ⟨rfl, ?_⟩
  repeat (first | exact Below.refl _ _ | assumption | refine bl_drew ?_ | refine bl_drewN ?_ _ | refine Below.setCell ?_ (by first | assumption | omega | (simp; done) | (simp; omega)) _ | refine Below.alloc ?_ (by first | assumption | omega | (simp; done) | (simp; omega)) _)
/-- a world that left what was there alone -/
structure BV (w0 : World) where
  w : World
  hb : Below w0.heap.size w0 w
instance bvSome (w0 : World) : Nonempty (BV w0) := ⟨⟨w0, Below.refl _ _⟩⟩
theorem wp_region_bv {P : Program} {id : Nat} {Q : Exit → Act → World → Prop} {a : Act} {w : World} {l : List Oper} (w0 : World) (hm : P.follows .mixedOrders = true) (hB : Region.lexB .any l.toArray = true) (h0 : Below w0.heap.size w0 w)
    (h : wpQuiet P l.toArray (fun w' => ∃ s : BV w0, w' = s.w) (fun a' => ∀ w9, Below w0.heap.size w0 w9 → Q .normal a' w9) l a) : (Code.region id l.toArray true).wp P Q a w := by
  have e : (fun a' => ∀ w9, Below w0.heap.size w0 w9 → Q .normal a' w9) = (fun a' : Act => ∀ w', (∃ s : BV w0, w' = s.w) → Q .normal a' w') :=
    funext fun a' => propext ⟨fun h w' ⟨s, hs⟩ => hs ▸ h s.w s.hb, fun h w9 hb => h w9 ⟨⟨w9, hb⟩, rfl⟩⟩
  rw [e] at h
  exact wp_region_quiet (C := fun w' => ∃ s : BV w0, w' = s.w) hm hB ⟨⟨_, bl_drew h0⟩, rfl⟩ (by simpa using h)
theorem quiet_bv {P : Program} {f : FuncId} {args : Array Value} {w0 : World} {s : BV w0} {v : Value} (h : Calls P f args s.w fun e w' => e = .returned v ∧ Below s.w.heap.size s.w w') :
    Calls P f args s.w fun e w'' => e = .returned v ∧ ∃ s' : BV w0, w'' = s'.w :=
  h.mono fun _ w' ⟨he, hb⟩ => ⟨he, ⟨w', s.hb.trans (hb.mono s.hb.size)⟩, rfl⟩
set_option maxHeartbeats 400000 in
theorem all_any (x y : Int) (w : World) : Calls Tryz.prog 108 #[.agg #[.int .i64 x, .int .i64 y]] w fun e w' => e = .returned (.bool (aeq x y (-10800000) 10800000)) ∧ Below w.heap.size w w' := by
  have K := Lib.hid everywhere_any
  have hq := eqlArc
  go_enter Tryz.func108, Tryz.ntmps108
  go_upto_region 1 with fail
  have b0 := bl_alloc w (.cells #[.int .i64 x, .int .i64 y] 32)
  have x1 : ∀ s : BV (w.alloc (.cells #[.int .i64 x, .int .i64 y] 32)), s.w.cell? ⟨w.heap.size, 0, none⟩ = some (.int .i64 x) := fun s => (s.hb.cell (p := ⟨w.heap.size, 0, none⟩) (by simp)).trans (by simp)
  have x2 : ∀ s : BV (w.alloc (.cells #[.int .i64 x, .int .i64 y] 32)), s.w.cell? ⟨w.heap.size, 1, none⟩ = some (.int .i64 y) := fun s => (s.hb.cell (p := ⟨w.heap.size, 1, none⟩) (by simp)).trans (by simp)
  refine wp_region_bv (w.alloc (.cells #[.int .i64 x, .int .i64 y] 32)) (by kernel_rfl) (by kernel_rfl) (Below.refl _ _) ?_
  (repeat (go_big_quiet_step (first | (go_at_call 111; with_reducible exact quiet_bv (K.out _)) | fail)))
  refine wpQuiet_nil ?_
  intro w9 hb9
  clear x1 x2
  go_wp2
  go_ret
  exact ⟨rfl, b0.trans (hb9.mono (by simp))⟩
set_option maxHeartbeats 400000 in
theorem Wrap_any (n : Int) (w : World) (h0 : -1000000000000 ≤ n) (h1 : n ≤ 1000000000000) : Calls Tryz.prog 147 #[.int .i64 n] w fun e w' => e = .returned (.int .i64 (n % 21600000)) ∧ Below w.heap.size w w' := by
  go_enter Tryz.func147, Tryz.ntmps147
  go_wp2
  all_goals
    go_ret
    refine ⟨ret_int ?_, ?_⟩
    · first | (exact tmod_pos (by assumption)) | (rw [IntWalk.wrap64_in _ (by have := tmod_neg (n := n) (by assumption); omega)]; exact tmod_neg (by assumption))
    · repeat (first | exact Below.refl _ _ | assumption | refine bl_drew ?_ | refine bl_drewN ?_ _ | refine Below.setCell ?_ (by first | assumption | omega | (simp; done) | (simp; omega)) _ | refine Below.alloc ?_ (by first | assumption | omega | (simp; done) | (simp; omega)) _)
set_option maxHeartbeats 400000 in
theorem beyond_any (x y n : Int) (w : World) (h0 : -100000000 ≤ n) (h1 : n ≤ 100000000) (h2 : -100000000 ≤ x) (h3 : x ≤ 100000000) : Calls Tryz.prog 109 #[.agg #[.int .i64 x, .int .i64 y], .int .i64 n] w fun e w' => e = .returned (.int .i64 ((n - x) % 21600000)) ∧ Below w.heap.size w w' := by
  have K := Lib.hid (fun W => Wrap_any (n - x) W (by omega) (by omega))
  go_enter Tryz.func109, Tryz.ntmps109
  go_wp2_with (go_at_call 147; (with_reducible refine (K.out _).mono ?_); rintro e w1 ⟨rfl, hb1⟩)
  go_ret
  exact ⟨rfl, one_bl hb1⟩
set_option maxHeartbeats 1000000 in
theorem has_place (x y n : Int) (w : World) (h0 : -100000000 ≤ n) (h1 : n ≤ 100000000) (h2 : -100000000 ≤ x) (hx : x ≤ 100000000) (h3 : x ≤ y) (h4 : y - x < 21600000) : Calls Tryz.prog 63 #[.agg #[.int .i64 x, .int .i64 y], .int .i64 n] w fun e w' => e = .returned (.bool (lonIn x y n)) ∧ Below w.heap.size w w' := by
  · have ha : aeq x y (-10800000) 10800000 = false := by simp [aeq]; omega
    have K := Lib.hid (fun W => all_any x y W)
    rw [ha] at K
    have K2 := Lib.hid (fun W => beyond_any x y n W h0 h1 h2 hx)
    have sy : IntKind.i64.wrap (y - x) = y - x := IntWalk.i64_in _ (by omega)
    unfold lonIn
    clear ha
    go_enter Tryz.func63, Tryz.ntmps63
    go_upto_region 1 with fail
    have b0 := bl_alloc w (.cells #[.int .i64 x, .int .i64 y] 32)
    have x1 : ∀ s : BV (w.alloc (.cells #[.int .i64 x, .int .i64 y] 32)), s.w.cell? ⟨w.heap.size, 0, none⟩ = some (.int .i64 x) := fun s => (s.hb.cell (p := ⟨w.heap.size, 0, none⟩) (by simp)).trans (by simp)
    have x2 : ∀ s : BV (w.alloc (.cells #[.int .i64 x, .int .i64 y] 32)), s.w.cell? ⟨w.heap.size, 1, none⟩ = some (.int .i64 y) := fun s => (s.hb.cell (p := ⟨w.heap.size, 1, none⟩) (by simp)).trans (by simp)
    refine wp_region_bv (w.alloc (.cells #[.int .i64 x, .int .i64 y] 32)) (by kernel_rfl) (by kernel_rfl) (Below.refl _ _) ?_
    (repeat (go_big_quiet_step (first | (go_at_call 108; with_reducible exact quiet_bv (K.out _)) | (go_at_call 109; with_reducible exact quiet_bv (K2.out _)) | fail)))
    refine wpQuiet_nil ?_
    intro w9 hb9
    clear x1 x2 sy
    go_wp2
    go_ret
    exact ⟨rfl, b0.trans (hb9.mono (by simp))⟩
end Go.Proofs.YtpemohoibeipfaaGreat
namespace Go.Proofs.YtpemohoibeipfaaGreat
open Go.RowKit
/-- a box: least and greatest latitude, least and greatest longitude -/
abbrev Bx := Int × Int × Int × Int
/-- the box of a cell -/
def bxI (x : Cl) : Bx := (edg x.2.1 x.1 - 5400000, edg (x.2.1 + 1) x.1 - 5400000, edg x.2.2 x.1 - 10800000, edg (x.2.2 + 1) x.1 - 10800000)
theorem boxV_bx (x : Cl) : boxV x.1 x.2.1 x.2.2 = .agg #[.int .i64 (bxI x).1, .int .i64 (bxI x).2.1, .int .i64 (bxI x).2.2.1, .int .i64 (bxI x).2.2.2] := rfl
end Go.Proofs.YtpemohoibeipfaaGreat
