/- Plain: the extents of the boxes of a cell and of its children. No program in sight. -/
import Derived.Test.YtlhdneeiikemjaaGreatGVj
import Derived.Test.YtlhdneeiikemjaaGreatGJg
set_option linter.unusedVariables false
set_option linter.unusedSimpArgs false
/- Plain: One times the sine, rounded down, does not fall from the south pole to the north pole. No program in sight. -/
namespace Go.Proofs.YtlhdneeiikemjaaGreat.Trig
theorem up_lin {h C X : Rat} (h0 : 1 / 2 ^ 22 ≤ h) (h1 : h ≤ 1 / 10000) (c0 : 1 / 2 ≤ C) (c1 : C ≤ 1) (x0 : 0 ≤ X) (x1 : X ≤ 1) :
    h * h / 2 * X + h * h * h / 6 * C + (h * h * h * h * (3 / 5) + 1 / 2 ^ 65 / 2) ≤ h * C := by
  have hp : 0 ≤ h := by grind
  have a2 : 0 ≤ h * h := Rat.mul_nonneg hp hp
  have a3 : 0 ≤ h * h * h := Rat.mul_nonneg a2 hp
  have b2 : h * h ≤ h * (1 / 10000) := Rat.mul_le_mul_of_nonneg_left h1 hp
  have b3 : h * h * h ≤ h * h * (1 / 10000) := Rat.mul_le_mul_of_nonneg_left h1 a2
  have b4 : h * h * h * h ≤ h * h * h * (1 / 10000) := Rat.mul_le_mul_of_nonneg_left h1 a3
  have d1 : h * (1 / 2) ≤ h * C := Rat.mul_le_mul_of_nonneg_left c0 hp
  have d2 : h * h * X ≤ h * h * 1 := Rat.mul_le_mul_of_nonneg_left x1 a2
  have d3 : h * h * h * C ≤ h * h * h * 1 := Rat.mul_le_mul_of_nonneg_left c1 a3
  have e1 : (1 : Rat) / 2 ^ 65 / 2 ≤ 1 / 2 ^ 22 / 10000 := by decide +kernel
  have e2 : h * h / 2 * X = h * h * X / 2 := by grind
  have e3 : h * h * h / 6 * C = h * h * h * C / 6 := by grind
  rw [e2, e3]
  generalize (1 : Rat) / 2 ^ 65 / 2 = z at *
  generalize (1 : Rat) / 2 ^ 22 = y at *
  generalize h * h * h * h = h4 at *
  generalize h * h * h * C = q3 at *
  generalize h * h * X = q2 at *
  generalize h * h * h = h3 at *
  generalize h * h = h2 at *
  generalize h * C = q1 at *
  grind_linarith
theorem down_lin {h C X : Rat} (h0 : 1 / 2 ^ 22 ≤ h) (h1 : h ≤ 1 / 10000) (c0 : 1 / 2 ≤ C) (x0 : 0 ≤ X) :
    h * h * h / 6 * X + (h * h * h * h * (3 / 5) + 1 / 2 ^ 65 / 2) ≤ h * X + h * h / 2 * C := by
  have hp : 0 ≤ h := by grind
  have a2 : 0 ≤ h * h := Rat.mul_nonneg hp hp
  have a3 : 0 ≤ h * h * h := Rat.mul_nonneg a2 hp
  have aX : 0 ≤ h * X := Rat.mul_nonneg hp x0
  have b2 : h * h ≤ h * (1 / 10000) := Rat.mul_le_mul_of_nonneg_left h1 hp
  have b3 : h * h * h ≤ h * h * (1 / 10000) := Rat.mul_le_mul_of_nonneg_left h1 a2
  have b4 : h * h * h * h ≤ h * h * h * (1 / 10000) := Rat.mul_le_mul_of_nonneg_left h1 a3
  have s2 : h * h ≤ 1 := by grind
  have d1 : h * X * (h * h) ≤ h * X * 1 := Rat.mul_le_mul_of_nonneg_left s2 aX
  have d2 : h * h * (1 / 2) ≤ h * h * C := Rat.mul_le_mul_of_nonneg_left c0 a2
  have g1 : h * (1 / 2 ^ 22) ≤ h * h := Rat.mul_le_mul_of_nonneg_left h0 hp
  have g2 : (1 : Rat) / 2 ^ 22 * (1 / 2 ^ 22) ≤ h * (1 / 2 ^ 22) := Rat.mul_le_mul_of_nonneg_right h0 (by decide +kernel)
  have e1 : (1 : Rat) / 2 ^ 65 / 2 ≤ 1 / 2 ^ 22 * (1 / 2 ^ 22) / 10000 := by decide +kernel
  have e2 : h * h / 2 * C = h * h * C / 2 := by grind
  have e3 : h * h * h / 6 * X = h * X * (h * h) / 6 := by grind
  rw [e2, e3]
  generalize (1 : Rat) / 2 ^ 65 / 2 = z at *
  generalize (1 : Rat) / 2 ^ 22 * (1 / 2 ^ 22) = y2 at *
  generalize h * (1 / 2 ^ 22) = hy at *
  generalize h * X * (h * h) = q3 at *
  generalize h * h * h * h = h4 at *
  generalize h * h * C = q2 at *
  generalize h * h * h = h3 at *
  generalize h * h = h2 at *
  generalize h * X = q1 at *
  grind_linarith
theorem th_mid : (1 : Rat) / 2 ^ 22 ≤ th ∧ th ≤ 1 / 10000 ∧ th ≤ 1 / 5 := by decide +kernel
theorem sc_bd {x : Rat} (hx : 0 ≤ x) (hx1 : x ≤ 4 / 5) : 0 ≤ sinP x ∧ sinP x ≤ 1 ∧ 1 / 2 ≤ cosP x ∧ cosP x ≤ 1 := by
  have h1 : x ≤ 1 := by grind
  have a := alt_bd hx h1 35 1
  have b := alt_bd hx h1 35 0
  have m0 : mo x 0 = 1 := by simp [mo]
  have m1 := mo_le1 hx h1 1
  have c := alt_mis x 34 0
  have d := mis_bd hx hx1 34 0
  rw [← sin_alt] at a
  rw [← cos_alt] at b
  rw [show 34 + 1 = 35 from rfl, ← cos_alt, m0] at c
  rw [m0] at b
  refine ⟨a.1, by grind, by grind, b.2⟩
theorem sin_up {x : Rat} (hx : 0 ≤ x) (hx1 : x ≤ 4 / 5) : sinP x ≤ sinP (x + th) := by
  obtain ⟨t0, t1, t2⟩ := th_mid
  obtain ⟨s0, s1, k0, k1⟩ := sc_bd hx hx1
  have h := sin_shift (x := x) (h := th) hx (by grind) (by grind) t1
  have g := up_lin t0 t1 k0 k1 s0 s1
  obtain ⟨-, h⟩ := h
  generalize th * th * th * th * (3 / 5) + 1 / 2 ^ 65 / 2 = e at *
  generalize th * th * th / 6 * cosP x = q3 at *
  generalize th * th / 2 * sinP x = q2 at *
  generalize th * cosP x = q1 at *
  grind_linarith
theorem cos_down {x : Rat} (hx : 0 ≤ x) (hx1 : x ≤ 4 / 5) : cosP (x + th) ≤ cosP x := by
  obtain ⟨t0, t1, t2⟩ := th_mid
  obtain ⟨s0, s1, k0, k1⟩ := sc_bd hx hx1
  have h := cos_shift (x := x) (h := th) hx (by grind) (by grind) t1
  have g := down_lin t0 t1 k0 s0
  obtain ⟨h, -⟩ := h
  generalize th * th * th * th * (3 / 5) + 1 / 2 ^ 65 / 2 = e at *
  generalize th * th * th / 6 * sinP x = q3 at *
  generalize th * th / 2 * cosP x = q2 at *
  generalize th * sinP x = q1 at *
  grind_linarith
/-- two numbers near others that do not fall; the second one is far from whole numbers -/
theorem floor_le {a b : Nat} {P Q : Rat} (ha : Nr (a : Rat) (P * Y) 75) (hb : Nr (b : Rat) (Q * Y) 75) (h : P ≤ Q) (hf : farB b = true) : a / 4294967296 ≤ b / 4294967296 := by
  have h1 : (a : Rat) ≤ ((b + 150 : Nat) : Rat) := by
    have hy : P * Y ≤ Q * Y := Rat.mul_le_mul_of_nonneg_right h (by unfold Y; decide +kernel)
    obtain ⟨a1, a2⟩ := ha
    obtain ⟨b1, b2⟩ := hb
    push_cast
    grind_linarith
  have h2 : a ≤ b + 150 := by exact_mod_cast h1
  unfold farB at hf
  rw [Bool.and_eq_true, Nat.ble_eq, Nat.ble_eq] at hf
  omega
theorem floor_ge {a b : Nat} {P Q : Rat} (ha : Nr (a : Rat) (P * Y) 75) (hb : Nr (b : Rat) (Q * Y) 75) (h : P ≤ Q) (hf : farB a = true) : a / 4294967296 ≤ b / 4294967296 := by
  have h1 : (a : Rat) ≤ ((b + 150 : Nat) : Rat) := by
    have hy : P * Y ≤ Q * Y := Rat.mul_le_mul_of_nonneg_right h (by unfold Y; decide +kernel)
    obtain ⟨a1, a2⟩ := ha
    obtain ⟨b1, b2⟩ := hb
    push_cast
    grind_linarith
  have h2 : a ≤ b + 150 := by exact_mod_cast h1
  unfold farB at hf
  rw [Bool.and_eq_true, Nat.ble_eq, Nat.ble_eq] at hf
  omega
theorem ang_succ (r : Nat) : ((r + 1 : Nat) : Rat) * th = (r : Rat) * th + th := by push_cast; grind
theorem quick_up {r : Nat} (h0 : 1 ≤ r) (h : r + 1 ≤ 2700000) (h1 : r ≠ 1800000) (h2 : r + 1 ≠ 1800000) : quickN r false / 4294967296 ≤ quickN (r + 1) false / 4294967296 := by
  obtain ⟨x0, x1⟩ := ang_bd (r := r) (by omega)
  have hq := quick_sin (r := r + 1) h
  rw [ang_succ] at hq
  exact floor_le (quick_sin (r := r) (by omega)) hq (sin_up x0 x1) ((far_all (r := r + 1) (by omega) h).2 h2)
theorem quick_down {r : Nat} (h0 : 1 ≤ r) (h : r + 1 ≤ 2700000) : quickN (r + 1) true / 4294967296 ≤ quickN r true / 4294967296 := by
  obtain ⟨x0, x1⟩ := ang_bd (r := r) (by omega)
  have hq := quick_cos (r := r + 1) h
  rw [ang_succ] at hq
  exact floor_ge hq (quick_cos (r := r) (by omega)) (cos_down x0 x1) ((far_all (r := r + 1) (by omega) h).1)
theorem near_30 : quickN 1799999 false / 4294967296 + 1 ≤ 536870912 ∧ 536870912 ≤ quickN 1800001 false / 4294967296 := by decide +kernel
theorem sF_step {q : Int} (h0 : 0 ≤ q) (h1 : q + 1 ≤ 5400000) : sF q ≤ sF (q + 1) ∧ (exN (q + 1) = true → exN q = false → sF q + 1 ≤ sF (q + 1)) := by
  have b0 := sF_bd (q := q) h0 (by omega)
  have b1 := sF_bd (q := q + 1) (by omega) h1
  by_cases c0 : q = 0
  · subst c0
    refine ⟨by have : sF 0 = 0 := by decide
               omega, fun _ h => ?_⟩
    simp [exN] at h
  by_cases c1 : q + 1 = 1800000
  · have e1 : sF (q + 1) = 536870912 := by rw [c1]; decide
    have e0 : sF q = ((quickN 1799999 false / 4294967296 : Nat) : Int) := by
      have : q = 1799999 := by omega
      subst this
      unfold sF
      simp
    have := near_30.1
    omega
  by_cases c2 : q = 1800000
  · subst c2
    have e1 : sF 1800000 = 536870912 := by decide
    have e0 : sF (1800000 + 1) = ((quickN 1800001 false / 4294967296 : Nat) : Int) := by
      unfold sF
      simp
    have := near_30.2
    refine ⟨by omega, fun _ h => ?_⟩
    simp [exN] at h
  by_cases c3 : q + 1 = 5400000
  · have e1 : sF (q + 1) = 1073741824 := by rw [c3]; decide
    have hx : exN q = false := by
      unfold exN
      simp only [Bool.or_eq_false_iff, decide_eq_false_iff_not]
      omega
    have := upF_le (q := q) h0 (by omega)
    unfold upF at this
    rw [hx] at this
    simp at this
    omega
  have hx : exN (q + 1) = false := by
    unfold exN
    simp only [Bool.or_eq_false_iff, decide_eq_false_iff_not]
    omega
  refine ⟨?_, fun h => by rw [hx] at h; simp at h⟩
  clear b0 b1
  unfold sF
  rw [if_neg c0, if_neg c2, if_neg (by omega : ¬ q = 5400000), if_neg (by omega : ¬ q + 1 = 0), if_neg c1, if_neg c3]
  by_cases d : 2 * (q + 1) ≤ 5400000
  · rw [if_pos (by omega), if_pos d]
    have := quick_up (r := q.toNat) (by omega) (by omega) (by omega) (by omega)
    rw [show q.toNat + 1 = (q + 1).toNat by omega] at this
    omega
  · by_cases d2 : 2 * q ≤ 5400000
    · rw [if_pos d2, if_neg d]
      have hq : q = 2700000 := by omega
      subst hq
      have := quick_down (r := 2699999) (by omega) (by omega)
      have e := same45
      rw [show 2699999 + 1 = 2700000 from rfl, e] at this
      have e2 : (5400000 - (2700000 + 1) : Int).toNat = 2699999 := by decide
      have e3 : (2700000 : Int).toNat = 2700000 := by decide
      rw [e2, e3]
      generalize quickN 2700000 false / 4294967296 = a at *
      generalize quickN 2699999 true / 4294967296 = b at *
      omega
    · rw [if_neg d2, if_neg d]
      have := quick_down (r := (5400000 - (q + 1)).toNat) (by omega) (by omega)
      rw [show (5400000 - (q + 1)).toNat + 1 = (5400000 - q).toNat by omega] at this
      omega
theorem upF_step {q : Int} (h0 : 0 ≤ q) (h1 : q + 1 ≤ 5400000) : upF q ≤ upF (q + 1) := by
  obtain ⟨a, b⟩ := sF_step h0 h1
  unfold upF
  cases e0 : exN q <;> cases e1 : exN (q + 1) <;> simp only [Bool.false_eq_true, if_false, if_true]
  · omega
  · have := b e1 e0
    omega
  · omega
  · exact a
theorem low_sF {n : Int} (h0 : 0 ≤ n) (h1 : n ≤ 5400000) : loB n = sF n := by
  have e : sth n = false := by unfold sth; rw [decide_eq_false_iff_not]; omega
  have e2 : qrt n = n := by unfold qrt; omega
  unfold loB
  rw [e, e2]; simp
theorem low_upF {n : Int} (h0 : 0 < n) (h1 : n ≤ 5400000) : loB (-n) = - upF n := by
  have e : sth (-n) = true := by unfold sth; rw [decide_eq_true_iff]; omega
  have e2 : qrt (-n) = n := by unfold qrt; omega
  unfold loB
  rw [e, e2]; simp
theorem loB_step {n : Int} (h0 : -5400000 ≤ n) (h1 : n + 1 ≤ 5400000) : loB n ≤ loB (n + 1) := by
  by_cases c : 0 ≤ n
  · rw [low_sF c (by omega), low_sF (by omega) h1]
    exact (sF_step c h1).1
  · by_cases c2 : n = -1
    · subst c2
      have e : loB (-1) = - upF 1 := low_upF (n := 1) (by omega) (by omega)
      have e2 : loB (-1 + 1) = 0 := by decide
      have h := (sF_bd (q := 1) (by omega) (by omega)).1
      have : sF 1 ≤ upF 1 := by unfold upF; split <;> omega
      omega
    · have e1 : loB n = - upF (-n) := by have := low_upF (n := -n) (by omega) (by omega); simpa using this
      have e2 : loB (n + 1) = - upF (-n - 1) := by
        have := low_upF (n := -n - 1) (by omega) (by omega)
        rw [show -(-n - 1) = n + 1 by omega] at this
        exact this
      have := upF_step (q := -n - 1) (by omega) (by omega)
      rw [show -n - 1 + 1 = -n by omega] at this
      omega
/-- One times the sine of a latitude, rounded down, does not fall -/
theorem loB_mono {a b : Int} (h0 : -5400000 ≤ a) (h : a ≤ b) (h1 : b ≤ 5400000) : loB a ≤ loB b := by
  have key : ∀ k : Nat, a + k ≤ 5400000 → loB a ≤ loB (a + k) := by
    intro k
    induction k with
    | zero => intro _; simp
    | succ k ih =>
      intro hk
      have h2 := ih (by omega)
      have h3 := loB_step (n := a + k) (by omega) (by push_cast at hk; omega)
      rw [show a + k + 1 = a + ((k + 1 : Nat) : Int) by push_cast; omega] at h3
      omega
  have := key (b - a).toNat (by omega)
  rw [show a + ((b - a).toNat : Int) = b by omega] at this
  exact this
theorem loB_poles : loB (-5400000) = -1073741824 ∧ loB 5400000 = 1073741824 := by decide +kernel
theorem hiB_lo (n : Int) : loB n ≤ hiB n ∧ hiB n ≤ loB n + 1 := by
  unfold loB hiB upF
  split <;> split <;> omega
theorem en_lat {n : Int} (h0 : -5400000 ≤ n) (h1 : n ≤ 5400000) : enLo n n = loB n ∧ enHi n n = hiB n := by
  have hl := hi_le n
  unfold enLo enHi metB
  constructor
  · split
    · rename_i h
      simp only [decide_eq_true_eq] at h
      have : n = -5400000 := by omega
      subst this
      exact loB_poles.1.symm
    · omega
  · split
    · rename_i h
      simp only [decide_eq_true_eq] at h
      have : n = 5400000 := by omega
      subst this
      decide
    · omega
end Go.Proofs.YtlhdneeiikemjaaGreat.Trig
namespace Go.Proofs.YtlhdneeiikemjaaGreat
open Canon
/-- the extent of a box -/
def wid (x : Cl) : Int := (edg (x.2.1 + 1) x.1 - edg x.2.1 x.1) * (edg (x.2.2 + 1) x.1 - edg x.2.2 x.1)
theorem edg_odd (i : Int) (l : Nat) : edg (2 * i + 1 + 1) ((l + 1 : Nat) : Int) = edg (i + 1) (l : Int) := by
  rw [show 2 * i + 1 + 1 = 2 * (i + 1) by omega, edg_even]
theorem wid_kids (l : Nat) (r c : Int) : wid (((l + 1 : Nat) : Int), 2 * r, 2 * c) + wid (((l + 1 : Nat) : Int), 2 * r, 2 * c + 1) + wid (((l + 1 : Nat) : Int), 2 * r + 1, 2 * c) + wid (((l + 1 : Nat) : Int), 2 * r + 1, 2 * c + 1) = wid ((l : Int), r, c) := by
  unfold wid
  simp only [edg_even, edg_odd]
  generalize edg (2 * r + 1) ((l + 1 : Nat) : Int) = M
  generalize edg (2 * c + 1) ((l + 1 : Nat) : Int) = N
  generalize edg r (l : Int) = A
  generalize edg (r + 1) (l : Int) = B
  generalize edg c (l : Int) = C
  generalize edg (c + 1) (l : Int) = D
  grind
/-- the box of a child lies in that of its parent -/
theorem kid_box (l : Nat) (r c i j : Int) (hi : i = 0 ∨ i = 1) (hj : j = 0 ∨ j = 1) :
    edg r (l : Int) ≤ edg (2 * r + i) ((l + 1 : Nat) : Int) ∧ edg (2 * r + i + 1) ((l + 1 : Nat) : Int) ≤ edg (r + 1) (l : Int) ∧ edg c (l : Int) ≤ edg (2 * c + j) ((l + 1 : Nat) : Int) ∧ edg (2 * c + j + 1) ((l + 1 : Nat) : Int) ≤ edg (c + 1) (l : Int) := by
  rw [← edg_even r, ← edg_even (r + 1), ← edg_even c, ← edg_even (c + 1)]
  exact ⟨edg_mono _ (by omega), edg_mono _ (by omega), edg_mono _ (by omega), edg_mono _ (by omega)⟩
theorem wid_bd {x : Cl} (hx : Vl x) : 0 ≤ wid x ∧ wid x ≤ 116640021600001 := by
  obtain ⟨h1, h2, h3, h4, h5, h6, h7, h8⟩ := box_nums hx
  unfold wid
  refine ⟨Int.mul_nonneg (by omega) (by omega), ?_⟩
  have : (edg (x.2.1 + 1) x.1 - edg x.2.1 x.1) * (edg (x.2.2 + 1) x.1 - edg x.2.2 x.1) ≤ 10800000 * 10800001 := Int.mul_le_mul (by omega) (by omega) (by omega) (by omega)
  omega
end Go.Proofs.YtlhdneeiikemjaaGreat
