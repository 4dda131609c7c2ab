/- A drawn region that makes some intervals, each in a block of its own: what it leaves. -/
import Derived.Test.YtleigbbgilcckaaGreatHZb
import Derived.Test.YtleigbbgilcckaaGreatHSg
import Derived.Test.YtleigbbgilcckaaGreatHKn
import Derived.Test.YtleigbbgilcckaaGreatHKu
import Derived.Test.YtleigbbgilcckaaGreatHUo
set_option linter.unusedVariables false
set_option linter.unusedSimpArgs false
namespace Go.Proofs.YtleigbbgilcckaaGreat.Trig
theorem up_lin {h C X : Rat} (h0 : 1 / 2 ^ 22 ≤ h) (h1 : h ≤ 1 / 10000) (c0 : 1 / 2 ≤ C) (c1 : C ≤ 1) (x0 : 0 ≤ X) (x1 : X ≤ 1) :
    h * h / 2 * X + h * h * h / 6 * C + (h * h * h * h * (3 / 5) + 1 / 2 ^ 65 / 2) ≤ h * C := by
  have hp : 0 ≤ h := by grind
  have a2 : 0 ≤ h * h := Rat.mul_nonneg hp hp
  have a3 : 0 ≤ h * h * h := Rat.mul_nonneg a2 hp
  have b2 : h * h ≤ h * (1 / 10000) := Rat.mul_le_mul_of_nonneg_left h1 hp
  have b3 : h * h * h ≤ h * h * (1 / 10000) := Rat.mul_le_mul_of_nonneg_left h1 a2
  have b4 : h * h * h * h ≤ h * h * h * (1 / 10000) := Rat.mul_le_mul_of_nonneg_left h1 a3
  have d1 : h * (1 / 2) ≤ h * C := Rat.mul_le_mul_of_nonneg_left c0 hp
  have d2 : h * h * X ≤ h * h * 1 := Rat.mul_le_mul_of_nonneg_left x1 a2
  have d3 : h * h * h * C ≤ h * h * h * 1 := Rat.mul_le_mul_of_nonneg_left c1 a3
  have e1 : (1 : Rat) / 2 ^ 65 / 2 ≤ 1 / 2 ^ 22 / 10000 := by decide +kernel
  have e2 : h * h / 2 * X = h * h * X / 2 := by grind
  have e3 : h * h * h / 6 * C = h * h * h * C / 6 := by grind
  rw [e2, e3]
  generalize (1 : Rat) / 2 ^ 65 / 2 = z at *
  generalize (1 : Rat) / 2 ^ 22 = y at *
  generalize h * h * h * h = h4 at *
  generalize h * h * h * C = q3 at *
  generalize h * h * X = q2 at *
  generalize h * h * h = h3 at *
  generalize h * h = h2 at *
  generalize h * C = q1 at *
  grind_linarith
theorem down_lin {h C X : Rat} (h0 : 1 / 2 ^ 22 ≤ h) (h1 : h ≤ 1 / 10000) (c0 : 1 / 2 ≤ C) (x0 : 0 ≤ X) :
    h * h * h / 6 * X + (h * h * h * h * (3 / 5) + 1 / 2 ^ 65 / 2) ≤ h * X + h * h / 2 * C := by
  have hp : 0 ≤ h := by grind
  have a2 : 0 ≤ h * h := Rat.mul_nonneg hp hp
  have a3 : 0 ≤ h * h * h := Rat.mul_nonneg a2 hp
  have aX : 0 ≤ h * X := Rat.mul_nonneg hp x0
  have b2 : h * h ≤ h * (1 / 10000) := Rat.mul_le_mul_of_nonneg_left h1 hp
  have b3 : h * h * h ≤ h * h * (1 / 10000) := Rat.mul_le_mul_of_nonneg_left h1 a2
  have b4 : h * h * h * h ≤ h * h * h * (1 / 10000) := Rat.mul_le_mul_of_nonneg_left h1 a3
  have s2 : h * h ≤ 1 := by grind
  have d1 : h * X * (h * h) ≤ h * X * 1 := Rat.mul_le_mul_of_nonneg_left s2 aX
  have d2 : h * h * (1 / 2) ≤ h * h * C := Rat.mul_le_mul_of_nonneg_left c0 a2
  have g1 : h * (1 / 2 ^ 22) ≤ h * h := Rat.mul_le_mul_of_nonneg_left h0 hp
  have g2 : (1 : Rat) / 2 ^ 22 * (1 / 2 ^ 22) ≤ h * (1 / 2 ^ 22) := Rat.mul_le_mul_of_nonneg_right h0 (by decide +kernel)
  have e1 : (1 : Rat) / 2 ^ 65 / 2 ≤ 1 / 2 ^ 22 * (1 / 2 ^ 22) / 10000 := by decide +kernel
  have e2 : h * h / 2 * C = h * h * C / 2 := by grind
  have e3 : h * h * h / 6 * X = h * X * (h * h) / 6 := by grind
  rw [e2, e3]
  generalize (1 : Rat) / 2 ^ 65 / 2 = z at *
  generalize (1 : Rat) / 2 ^ 22 * (1 / 2 ^ 22) = y2 at *
  generalize h * (1 / 2 ^ 22) = hy at *
  generalize h * X * (h * h) = q3 at *
  generalize h * h * h * h = h4 at *
  generalize h * h * C = q2 at *
  generalize h * h * h = h3 at *
  generalize h * h = h2 at *
  generalize h * X = q1 at *
  grind_linarith
theorem th_mid : (1 : Rat) / 2 ^ 22 ≤ th ∧ th ≤ 1 / 10000 ∧ th ≤ 1 / 5 := by decide +kernel
theorem sc_bd {x : Rat} (hx : 0 ≤ x) (hx1 : x ≤ 4 / 5) : 0 ≤ sinP x ∧ sinP x ≤ 1 ∧ 1 / 2 ≤ cosP x ∧ cosP x ≤ 1 := by
  have h1 : x ≤ 1 := by grind
  have a := alt_bd hx h1 35 1
  have b := alt_bd hx h1 35 0
  have m0 : mo x 0 = 1 := by simp [mo]
  have m1 := mo_le1 hx h1 1
  have c := alt_mis x 34 0
  have d := mis_bd hx hx1 34 0
  rw [← sin_alt] at a
  rw [← cos_alt] at b
  rw [show 34 + 1 = 35 from rfl, ← cos_alt, m0] at c
  rw [m0] at b
  refine ⟨a.1, by grind, by grind, b.2⟩
theorem sin_up {x : Rat} (hx : 0 ≤ x) (hx1 : x ≤ 4 / 5) : sinP x ≤ sinP (x + th) := by
  obtain ⟨t0, t1, t2⟩ := th_mid
  obtain ⟨s0, s1, k0, k1⟩ := sc_bd hx hx1
  have h := sin_shift (x := x) (h := th) hx (by grind) (by grind) t1
  have g := up_lin t0 t1 k0 k1 s0 s1
  obtain ⟨-, h⟩ := h
  generalize th * th * th * th * (3 / 5) + 1 / 2 ^ 65 / 2 = e at *
  generalize th * th * th / 6 * cosP x = q3 at *
  generalize th * th / 2 * sinP x = q2 at *
  generalize th * cosP x = q1 at *
  grind_linarith
theorem cos_down {x : Rat} (hx : 0 ≤ x) (hx1 : x ≤ 4 / 5) : cosP (x + th) ≤ cosP x := by
  obtain ⟨t0, t1, t2⟩ := th_mid
  obtain ⟨s0, s1, k0, k1⟩ := sc_bd hx hx1
  have h := cos_shift (x := x) (h := th) hx (by grind) (by grind) t1
  have g := down_lin t0 t1 k0 s0
  obtain ⟨h, -⟩ := h
  generalize th * th * th * th * (3 / 5) + 1 / 2 ^ 65 / 2 = e at *
  generalize th * th * th / 6 * sinP x = q3 at *
  generalize th * th / 2 * cosP x = q2 at *
  generalize th * sinP x = q1 at *
  grind_linarith
/-- two numbers near others that do not fall; the second one is far from whole numbers -/
theorem floor_le {a b : Nat} {P Q : Rat} (ha : Nr (a : Rat) (P * Y) 75) (hb : Nr (b : Rat) (Q * Y) 75) (h : P ≤ Q) (hf : farB b = true) : a / 4294967296 ≤ b / 4294967296 := by
  have h1 : (a : Rat) ≤ ((b + 150 : Nat) : Rat) := by
    have hy : P * Y ≤ Q * Y := Rat.mul_le_mul_of_nonneg_right h (by unfold Y; decide +kernel)
    obtain ⟨a1, a2⟩ := ha
    obtain ⟨b1, b2⟩ := hb
    push_cast
    grind_linarith
  have h2 : a ≤ b + 150 := by exact_mod_cast h1
  unfold farB at hf
  rw [Bool.and_eq_true, Nat.ble_eq, Nat.ble_eq] at hf
  omega
theorem floor_ge {a b : Nat} {P Q : Rat} (ha : Nr (a : Rat) (P * Y) 75) (hb : Nr (b : Rat) (Q * Y) 75) (h : P ≤ Q) (hf : farB a = true) : a / 4294967296 ≤ b / 4294967296 := by
  have h1 : (a : Rat) ≤ ((b + 150 : Nat) : Rat) := by
    have hy : P * Y ≤ Q * Y := Rat.mul_le_mul_of_nonneg_right h (by unfold Y; decide +kernel)
    obtain ⟨a1, a2⟩ := ha
    obtain ⟨b1, b2⟩ := hb
    push_cast
    grind_linarith
  have h2 : a ≤ b + 150 := by exact_mod_cast h1
  unfold farB at hf
  rw [Bool.and_eq_true, Nat.ble_eq, Nat.ble_eq] at hf
  omega
theorem ang_succ (r : Nat) : ((r + 1 : Nat) : Rat) * th = (r : Rat) * th + th := by push_cast; grind
theorem quick_up {r : Nat} (h0 : 1 ≤ r) (h : r + 1 ≤ 2700000) (h1 : r ≠ 1800000) (h2 : r + 1 ≠ 1800000) : quickN r false / 4294967296 ≤ quickN (r + 1) false / 4294967296 := by
  obtain ⟨x0, x1⟩ := ang_bd (r := r) (by omega)
  have hq := quick_sin (r := r + 1) h
  rw [ang_succ] at hq
  exact floor_le (quick_sin (r := r) (by omega)) hq (sin_up x0 x1) ((far_all (r := r + 1) (by omega) h).2 h2)
theorem quick_down {r : Nat} (h0 : 1 ≤ r) (h : r + 1 ≤ 2700000) : quickN (r + 1) true / 4294967296 ≤ quickN r true / 4294967296 := by
  obtain ⟨x0, x1⟩ := ang_bd (r := r) (by omega)
  have hq := quick_cos (r := r + 1) h
  rw [ang_succ] at hq
  exact floor_ge hq (quick_cos (r := r) (by omega)) (cos_down x0 x1) ((far_all (r := r + 1) (by omega) h).1)
theorem near_30 : quickN 1799999 false / 4294967296 + 1 ≤ 536870912 ∧ 536870912 ≤ quickN 1800001 false / 4294967296 := by decide +kernel
theorem sF_step {q : Int} (h0 : 0 ≤ q) (h1 : q + 1 ≤ 5400000) : sF q ≤ sF (q + 1) ∧ (exN (q + 1) = true → exN q = false → sF q + 1 ≤ sF (q + 1)) := by
  have b0 := sF_bd (q := q) h0 (by omega)
  have b1 := sF_bd (q := q + 1) (by omega) h1
  by_cases c0 : q = 0
  · subst c0
    refine ⟨by have : sF 0 = 0 := by decide
               omega, fun _ h => ?_⟩
    simp [exN] at h
  by_cases c1 : q + 1 = 1800000
  · have e1 : sF (q + 1) = 536870912 := by rw [c1]; decide
    have e0 : sF q = ((quickN 1799999 false / 4294967296 : Nat) : Int) := by
      have : q = 1799999 := by omega
      subst this
      unfold sF
      simp
    have := near_30.1
    omega
  by_cases c2 : q = 1800000
  · subst c2
    have e1 : sF 1800000 = 536870912 := by decide
    have e0 : sF (1800000 + 1) = ((quickN 1800001 false / 4294967296 : Nat) : Int) := by
      unfold sF
      simp
    have := near_30.2
    refine ⟨by omega, fun _ h => ?_⟩
    simp [exN] at h
  by_cases c3 : q + 1 = 5400000
  · have e1 : sF (q + 1) = 1073741824 := by rw [c3]; decide
    have hx : exN q = false := by
      unfold exN
      simp only [Bool.or_eq_false_iff, decide_eq_false_iff_not]
      omega
    have := upF_le (q := q) h0 (by omega)
    unfold upF at this
    rw [hx] at this
    simp at this
    omega
  have hx : exN (q + 1) = false := by
    unfold exN
    simp only [Bool.or_eq_false_iff, decide_eq_false_iff_not]
    omega
  refine ⟨?_, fun h => by rw [hx] at h; simp at h⟩
  clear b0 b1
  unfold sF
  rw [if_neg c0, if_neg c2, if_neg (by omega : ¬ q = 5400000), if_neg (by omega : ¬ q + 1 = 0), if_neg c1, if_neg c3]
  by_cases d : 2 * (q + 1) ≤ 5400000
  · rw [if_pos (by omega), if_pos d]
    have := quick_up (r := q.toNat) (by omega) (by omega) (by omega) (by omega)
    rw [show q.toNat + 1 = (q + 1).toNat by omega] at this
    omega
  · by_cases d2 : 2 * q ≤ 5400000
    · rw [if_pos d2, if_neg d]
      have hq : q = 2700000 := by omega
      subst hq
      have := quick_down (r := 2699999) (by omega) (by omega)
      have e := same45
      rw [show 2699999 + 1 = 2700000 from rfl, e] at this
      have e2 : (5400000 - (2700000 + 1) : Int).toNat = 2699999 := by decide
      have e3 : (2700000 : Int).toNat = 2700000 := by decide
      rw [e2, e3]
      generalize quickN 2700000 false / 4294967296 = a at *
      generalize quickN 2699999 true / 4294967296 = b at *
      omega
    · rw [if_neg d2, if_neg d]
      have := quick_down (r := (5400000 - (q + 1)).toNat) (by omega) (by omega)
      rw [show (5400000 - (q + 1)).toNat + 1 = (5400000 - q).toNat by omega] at this
      omega
theorem upF_step {q : Int} (h0 : 0 ≤ q) (h1 : q + 1 ≤ 5400000) : upF q ≤ upF (q + 1) := by
  obtain ⟨a, b⟩ := sF_step h0 h1
  unfold upF
  cases e0 : exN q <;> cases e1 : exN (q + 1) <;> simp only [Bool.false_eq_true, if_false, if_true]
  · omega
  · have := b e1 e0
    omega
  · omega
  · exact a
theorem low_sF {n : Int} (h0 : 0 ≤ n) (h1 : n ≤ 5400000) : loB n = sF n := by
  have e : sth n = false := by unfold sth; rw [decide_eq_false_iff_not]; omega
  have e2 : qrt n = n := by unfold qrt; omega
  unfold loB
  rw [e, e2]; simp
theorem low_upF {n : Int} (h0 : 0 < n) (h1 : n ≤ 5400000) : loB (-n) = - upF n := by
  have e : sth (-n) = true := by unfold sth; rw [decide_eq_true_iff]; omega
  have e2 : qrt (-n) = n := by unfold qrt; omega
  unfold loB
  rw [e, e2]; simp
theorem loB_step {n : Int} (h0 : -5400000 ≤ n) (h1 : n + 1 ≤ 5400000) : loB n ≤ loB (n + 1) := by
  by_cases c : 0 ≤ n
  · rw [low_sF c (by omega), low_sF (by omega) h1]
    exact (sF_step c h1).1
  · by_cases c2 : n = -1
    · subst c2
      have e : loB (-1) = - upF 1 := low_upF (n := 1) (by omega) (by omega)
      have e2 : loB (-1 + 1) = 0 := by decide
      have h := (sF_bd (q := 1) (by omega) (by omega)).1
      have : sF 1 ≤ upF 1 := by unfold upF; split <;> omega
      omega
    · have e1 : loB n = - upF (-n) := by have := low_upF (n := -n) (by omega) (by omega); simpa using this
      have e2 : loB (n + 1) = - upF (-n - 1) := by
        have := low_upF (n := -n - 1) (by omega) (by omega)
        rw [show -(-n - 1) = n + 1 by omega] at this
        exact this
      have := upF_step (q := -n - 1) (by omega) (by omega)
      rw [show -n - 1 + 1 = -n by omega] at this
      omega
/-- One times the sine of a latitude, rounded down, does not fall -/
theorem loB_mono {a b : Int} (h0 : -5400000 ≤ a) (h : a ≤ b) (h1 : b ≤ 5400000) : loB a ≤ loB b := by
  have key : ∀ k : Nat, a + k ≤ 5400000 → loB a ≤ loB (a + k) := by
    intro k
    induction k with
    | zero => intro _; simp
    | succ k ih =>
      intro hk
      have h2 := ih (by omega)
      have h3 := loB_step (n := a + k) (by omega) (by push_cast at hk; omega)
      rw [show a + k + 1 = a + ((k + 1 : Nat) : Int) by push_cast; omega] at h3
      omega
  have := key (b - a).toNat (by omega)
  rw [show a + ((b - a).toNat : Int) = b by omega] at this
  exact this
theorem hiB_lo (n : Int) : loB n ≤ hiB n ∧ hiB n ≤ loB n + 1 := by
  unfold loB hiB upF
  split <;> split <;> omega
end Go.Proofs.YtleigbbgilcckaaGreat.Trig
namespace Go.Proofs.YtleigbbgilcckaaGreat.Trig
theorem upF_mono {a b : Int} (h0 : 0 ≤ a) (h : a ≤ b) (h1 : b ≤ 5400000) : upF a ≤ upF b := by
  have key : ∀ k : Nat, a + k ≤ 5400000 → upF a ≤ upF (a + k) := by
    intro k
    induction k with
    | zero => intro _; simp
    | succ k ih =>
      intro hk
      have h2 := ih (by omega)
      have h3 := upF_step (q := a + k) (by omega) (by push_cast at hk; omega)
      rw [show a + k + 1 = a + ((k + 1 : Nat) : Int) by push_cast; omega] at h3
      omega
  have := key (b - a).toNat (by omega)
  rw [show a + ((b - a).toNat : Int) = b by omega] at this
  exact this
theorem half_sth {n : Int} (h0 : 0 ≤ n) (h1 : n ≤ 10800000) : sth n = false := by unfold sth; rw [decide_eq_false_iff_not]; omega
theorem half_qrt {n : Int} (h0 : 0 ≤ n) (h1 : n ≤ 10800000) : qrt n = if n > 5400000 then 10800000 - n else n := by unfold qrt; omega
theorem half_lo {n : Int} (h0 : 0 ≤ n) (h1 : n ≤ 10800000) : loB n = sF (qrt n) := by unfold loB; rw [half_sth h0 h1]; simp
theorem half_hi {n : Int} (h0 : 0 ≤ n) (h1 : n ≤ 10800000) : hiB n = upF (qrt n) := by unfold hiB; rw [half_sth h0 h1]; simp
theorem sF_mono {a b : Int} (h0 : 0 ≤ a) (h : a ≤ b) (h1 : b ≤ 5400000) : sF a ≤ sF b := by
  rw [← low_sF h0 (by omega), ← low_sF (by omega) h1]
  exact loB_mono (by omega) h h1
/-- between two angles of the upper half the sine is not below the lesser one of both -/
theorem half_min {lo n hi : Int} (h0 : 0 ≤ lo) (h1 : lo ≤ n) (h2 : n ≤ hi) (h3 : hi ≤ 10800000) : min (loB lo) (loB hi) ≤ loB n := by
  rw [half_lo h0 (by omega), half_lo (n := n) (by omega) (by omega), half_lo (n := hi) (by omega) h3]
  have e0 := half_qrt (n := lo) h0 (by omega)
  have e1 := half_qrt (n := n) (by omega) (by omega)
  have e2 := half_qrt (n := hi) (by omega) h3
  have b0 := qrt_bd lo
  have b1 := qrt_bd n
  have b2 := qrt_bd hi
  by_cases c : n > 5400000
  · have : sF (qrt hi) ≤ sF (qrt n) := sF_mono (by omega) (by omega) (by omega)
    omega
  · have : sF (qrt lo) ≤ sF (qrt n) := sF_mono (by omega) (by omega) (by omega)
    omega
/-- where no right angle lies between, it is not above the greater one -/
theorem half_max {lo n hi : Int} (h0 : 0 ≤ lo) (h1 : lo ≤ n) (h2 : n ≤ hi) (h3 : hi ≤ 10800000) (hm : ¬ (lo ≤ 5400000 ∧ 5400000 ≤ hi)) : hiB n ≤ max (hiB lo) (hiB hi) := by
  rw [half_hi h0 (by omega), half_hi (n := n) (by omega) (by omega), half_hi (n := hi) (by omega) h3]
  have e0 := half_qrt (n := lo) h0 (by omega)
  have e1 := half_qrt (n := n) (by omega) (by omega)
  have e2 := half_qrt (n := hi) (by omega) h3
  have b0 := qrt_bd lo
  have b1 := qrt_bd n
  have b2 := qrt_bd hi
  by_cases c : n > 5400000
  · have : upF (qrt n) ≤ upF (qrt lo) := upF_mono (by omega) (by omega) (by omega)
    omega
  · have : upF (qrt n) ≤ upF (qrt hi) := upF_mono (by omega) (by omega) (by omega)
    omega
theorem half_en {lo hi : Int} (h0 : 0 ≤ lo) (h1 : lo ≤ hi) (h3 : hi ≤ 10800000) : enLo lo hi = min (loB lo) (loB hi) ∧ enHi lo hi = if lo ≤ 5400000 ∧ 5400000 ≤ hi then 1073741824 else max (hiB lo) (hiB hi) := by
  unfold enLo enHi metB
  constructor
  · rw [if_neg]
    rw [decide_eq_true_eq]
    omega
  · by_cases h : lo ≤ 5400000 ∧ 5400000 ≤ hi
    · rw [if_pos h, if_pos]
      rw [decide_eq_true_eq]
      omega
    · rw [if_neg h, if_neg]
      rw [decide_eq_true_eq]
      omega
/-- the enclosure of the sine over an arc has that at each of its angles -/
theorem en_mid {lo n hi : Int} (h0 : 0 ≤ lo) (h1 : lo ≤ n) (h2 : n ≤ hi) (h3 : hi ≤ 10800000) : enLo lo hi ≤ loB n ∧ loB n ≤ enHi lo hi := by
  obtain ⟨e0, e1⟩ := half_en h0 (show lo ≤ hi by omega) h3
  rw [e0, e1]
  refine ⟨half_min h0 h1 h2 h3, ?_⟩
  split
  · exact (lo_bd n).2.1
  · rename_i hm
    have := half_max h0 h1 h2 h3 hm
    have := (hiB_lo n).1
    omega
/-- less of an arc: a narrower enclosure -/
theorem en_part {lo lo' hi' hi : Int} (h0 : 0 ≤ lo) (h1 : lo ≤ lo') (h2 : lo' ≤ hi') (h3 : hi' ≤ hi) (h4 : hi ≤ 10800000) : enLo lo hi ≤ enLo lo' hi' ∧ enHi lo' hi' ≤ enHi lo hi := by
  obtain ⟨e0, e1⟩ := half_en h0 (show lo ≤ hi by omega) h4
  obtain ⟨f0, f1⟩ := half_en (lo := lo') (hi := hi') (by omega) h2 (by omega)
  rw [e0, e1, f0, f1]
  have a1 := half_min h0 h1 (show lo' ≤ hi by omega) h4
  have a2 := half_min h0 (show lo ≤ hi' by omega) h3 h4
  refine ⟨by omega, ?_⟩
  have b1 := hi_le lo'
  have b2 := hi_le hi'
  by_cases c : lo ≤ 5400000 ∧ 5400000 ≤ hi
  · rw [if_pos c]
    split <;> omega
  · rw [if_neg c, if_neg (by omega)]
    have c1 := half_max h0 h1 (show lo' ≤ hi by omega) h4 c
    have c2 := half_max h0 (show lo ≤ hi' by omega) h3 h4 c
    omega
end Go.Proofs.YtleigbbgilcckaaGreat.Trig
namespace Go.Proofs.YtleigbbgilcckaaGreat
open Canon
/-! ### quotients by less of a range -/
theorem div_anti {n p C : Int} (hn : 0 ≤ n) (hp : 0 < p) (h : p ≤ C) : n / C ≤ n / p := by
  refine Int.le_ediv_of_mul_le hp ?_
  have h1 := Int.ediv_mul_le n (show C ≠ 0 by omega)
  have h2 : 0 ≤ n / C := Int.ediv_nonneg hn (by omega)
  have h3 := Int.mul_le_mul_of_nonneg_left h h2
  omega
theorem div_mono_neg {n p C : Int} (hn : n ≤ 0) (hp : 0 < p) (h : p ≤ C) : n / p ≤ n / C := by
  refine Int.le_ediv_of_mul_le (by omega) ?_
  have h1 := Int.ediv_mul_le n (show p ≠ 0 by omega)
  have h2 : n / p ≤ 0 := by
    have := Int.ediv_le_ediv hp hn
    simpa using this
  have h3 := Int.mul_le_mul_of_nonpos_left h2 h
  omega
/-- the quotient by a number of a range lies between those by its ends -/
theorem div_mid {n p C q : Int} (hp : 0 < p) (h1 : p ≤ C) (h2 : C ≤ q) : min (n / p) (n / q) ≤ n / C ∧ n / C ≤ max (n / p) (n / q) := by
  by_cases hn : 0 ≤ n
  · have := div_anti hn hp h1
    have := div_anti hn (show 0 < C by omega) h2
    omega
  · have := div_mono_neg (show n ≤ 0 by omega) hp h1
    have := div_mono_neg (show n ≤ 0 by omega) (show 0 < C by omega) h2
    omega
theorem div_up (n : Int) {C : Int} (hC : 0 < C) : n / C ≤ -(-n / C) := by
  have h1 := Int.ediv_mul_le n (show C ≠ 0 by omega)
  have h2 := Int.ediv_mul_le (-n) (show C ≠ 0 by omega)
  have h4 : (n / C + -n / C) * C ≤ 0 := by rw [Int.add_mul]; omega
  have h5 : n / C + -n / C ≤ 0 := by
    refine Int.not_lt.1 fun h => ?_
    have := Int.mul_pos h hC
    omega
  omega
/-- a whole number between the quotients of all numbers of a range, and its opposite for the opposite -/
theorem qt_mid {n p C q : Int} (hp : 0 < p) (h1 : p ≤ C) (h2 : C ≤ q) : (qtA n p q ≤ 1073741824 * n / C ∧ 1073741824 * n / C ≤ qtB n p q) ∧ (qtA (-n) p q ≤ -(1073741824 * n / C) ∧ -(1073741824 * n / C) ≤ qtB (-n) p q) := by
  unfold qtA qtB
  rw [show 1073741824 * -n = -(1073741824 * n) by omega, Int.neg_neg]
  generalize 1073741824 * n = m
  have a := div_mid (n := m) hp h1 h2
  have b := div_mid (n := -m) hp h1 h2
  have c := div_up m (C := C) (by omega)
  generalize m / p = x0 at *
  generalize m / q = x1 at *
  generalize m / C = x2 at *
  generalize -m / p = y0 at *
  generalize -m / q = y1 at *
  generalize -m / C = y2 at *
  omega
/-- less of a range: closer quotients -/
theorem qt_part {n p p' q' q : Int} (hp : 0 < p) (h1 : p ≤ p') (h2 : p' ≤ q') (h3 : q' ≤ q) : qtA n p q ≤ qtA n p' q' ∧ qtB n p' q' ≤ qtB n p q := by
  unfold qtA qtB
  generalize 1073741824 * n = m
  have a := div_mid (n := m) hp h1 (show p' ≤ q by omega)
  have b := div_mid (n := m) hp (show p ≤ q' by omega) h3
  have c := div_mid (n := -m) hp h1 (show p' ≤ q by omega)
  have d := div_mid (n := -m) hp (show p ≤ q' by omega) h3
  generalize m / p = x0 at *
  generalize m / q = x1 at *
  generalize m / p' = x2 at *
  generalize m / q' = x3 at *
  generalize -m / p = y0 at *
  generalize -m / q = y1 at *
  generalize -m / p' = y2 at *
  generalize -m / q' = y3 at *
  omega
theorem qt_up {m n p q : Int} (hp : 0 < p) (hq : 0 < q) (h : m ≤ n) : qtA m p q ≤ qtA n p q ∧ qtB m p q ≤ qtB n p q := by
  unfold qtA qtB
  have hm : 1073741824 * m ≤ 1073741824 * n := by omega
  generalize 1073741824 * m = m at *
  generalize 1073741824 * n = n at *
  have a := Int.ediv_le_ediv hp hm
  have b := Int.ediv_le_ediv hq hm
  have c := Int.ediv_le_ediv hp (show -n ≤ -m by omega)
  have d := Int.ediv_le_ediv hq (show -n ≤ -m by omega)
  generalize m / p = x0 at *
  generalize m / q = x1 at *
  generalize n / p = x2 at *
  generalize n / q = x3 at *
  generalize -m / p = y0 at *
  generalize -m / q = y1 at *
  generalize -n / p = y2 at *
  generalize -n / q = y3 at *
  omega
theorem dl_part {a a' b' b p p' q' q : Int} (hp : 0 < p) (h1 : p ≤ p') (h2 : p' ≤ q') (h3 : q' ≤ q) (ha : a ≤ a') (hab : a' ≤ b') (hb : b' ≤ b) : dlA a b p q ≤ dlA a' b' p' q' ∧ dlB a' b' p' q' ≤ dlB a b p q ∧ (dlG a b p q = true → dlG a' b' p' q' = true) := by
  have x1 := qt_part (n := a') hp h1 h2 h3
  have x2 := qt_part (n := b') hp h1 h2 h3
  have y1 := qt_up (p := p) (q := q) hp (by omega) ha
  have y2 := qt_up (p := p) (q := q) hp (by omega) hb
  have y3 := qt_up (p := p) (q := q) hp (by omega) hab
  have z1 := qt_mid (n := a') (p := p') (C := p') (q := q') (by omega) (by omega) h2
  have z2 := qt_mid (n := b') (p := p') (C := p') (q := q') (by omega) (by omega) h2
  unfold dlA dlB dlG
  refine ⟨by omega, by omega, fun h => ?_⟩
  rw [Bool.and_eq_true, qtG_iff, qtG_iff] at h ⊢
  omega
/-! ### longitudes -/
theorem lon_mod {a : Sp} {x y : Int} (h : (x - y) % 21600000 = 0) (hx : lonP a x) : lonP a y := by
  unfold lonP at *
  omega
theorem lon_in {lo hi t : Int} (h1 : lo ≤ t) (h2 : t ≤ hi) : lonP (lonA lo hi, lonB lo hi) t := by
  unfold lonP lonA lonB sgT
  by_cases h : 21600000 ≤ hi - lo
  · rw [if_pos h, if_pos h]
    simp only []
    omega
  · rw [if_neg h, if_neg h]
    simp only []
    omega
/-! ### movements -/
theorem mv_way {q : Bx} {a b : Int} (hq : VP q) (hab : a ≤ b) (hm : mvL q.1 q.2.1 a b = true) : 0 ≤ min q.1 (q.1 + a) + 5400000 ∧ max q.2.1 (q.2.1 + b) + 5400000 ≤ 10800000 ∧ min q.1 (q.1 + a) ≤ max q.2.1 (q.2.1 + b) := by
  unfold mvL at hm
  rw [decide_eq_true_eq] at hm
  have := hq.l1
  have := hq.l2
  have := hq.l3
  omega
/-- a point that is moved -/
theorem mv_pt {q : Bx} {a b x y v u m D : Int} (h : mvErr q a b x y = 0) (hp : inX q v u) (ham : a ≤ m) (hmb : m ≤ b) (hD : mvDA q a b x y ≤ D) (hD2 : D ≤ mvDB q a b x y) : inX (mvBox q a b x y) (v + m) (u + D) := by
  unfold mvBox
  rw [if_pos h]
  obtain ⟨h1, h2, h3⟩ := hp
  generalize mvDA q a b x y = A at *
  generalize mvDB q a b x y = B at *
  unfold lonP at h3
  simp only [] at h3
  refine ⟨by simp only []; omega, by simp only []; omega, ?_⟩
  simp only []
  obtain ⟨t, ht, ht1, ht2⟩ : ∃ t, (u - t) % 21600000 = 0 ∧ q.2.2.1 ≤ t ∧ t ≤ q.2.2.2 := ⟨q.2.2.1 + (u - q.2.2.1) % 21600000, by omega, by omega, by omega⟩
  exact lon_mod (x := t + D) (by omega) (lon_in (by omega) (by omega))
end Go.Proofs.YtleigbbgilcckaaGreat
namespace Go.Proofs.YtleigbbgilcckaaGreat
open Canon
/-! ### regions that are moved -/
theorem reg_ok {a b x y lev most : Int} {L : List Cl} (h : RegOk a b x y lev most L 0) : ∀ c ∈ L, okM a b x y lev most c := by
  obtain ⟨k, hk, h1, h2⟩ := h
  rcases h2 with ⟨rfl, -⟩ | ⟨-, h3, -⟩
  · intro c hc
    obtain ⟨i, hi, rfl⟩ := List.getElem_of_mem hc
    have := h1 i hi
    simpa [gt, hi] using this
  · exact absurd rfl h3
theorem reg_cov {a b x y lev : Int} {L : List Cl} (q : Nat) : covL (regX a b x y lev L L.length) q ↔ ∃ c ∈ L, covL (arnM a b x y lev c) q := by
  unfold regX
  rw [List.take_length]
  constructor
  · rintro ⟨z, hz, h⟩
    obtain ⟨c, hc, hz⟩ := List.mem_flatMap.1 hz
    exact ⟨c, hc, z, hz, h⟩
  · rintro ⟨c, hc, z, hz, h⟩
    exact ⟨z, List.mem_flatMap.2 ⟨c, hc, hz⟩, h⟩
theorem regV_zero {a b x y lev : Int} {L : List Cl} : regV a b x y lev L 0 = canonC (covL (regX a b x y lev L L.length)) := by unfold regV; rw [if_pos rfl]
/-- a point of a cell, moved, lies in a cell of the region that is moved -/
theorem reg_pt {a b x y lev most : Int} {L : List Cl} (hL : AllV L) (hab : a ≤ b) (h0 : 0 ≤ lev) (h16 : lev ≤ 16) (hR : RegOk a b x y lev most L 0) {c : Cl} (hc : c ∈ L) {v u : Int} (hp : inX (mvBox (bxI c) a b x y) v u) {q : Nat} (hq : q < 2 * 4 ^ 16) (hf : inX (bxI (cellB (0, q))) v u) :
    covL (regX a b x y lev L L.length) q := by
  have hv := hL c hc
  have hfc := bx_facts hv
  exact (reg_cov q).2 ⟨c, hc, arn_pt (mvBox_vp (bxI_vp hv) hfc.2.2.2.2.1 hab (reg_ok hR c hc).1) h0 h16 hq hp hf⟩
end Go.Proofs.YtleigbbgilcckaaGreat
namespace Go.Proofs.YtleigbbgilcckaaGreat
open Canon
/-! ### points that are moved -/
/-- a cell that has a point -/
theorem con_cell {L : List Cl} {v u : Int} (h : conB L v u = true) : ∃ c ∈ L, (bxI c).1 ≤ v ∧ v ≤ (bxI c).2.1 ∧ (v ≠ 5400000 → v ≠ -5400000 → inX (bxI c) v u) := by
  unfold conB at h
  obtain ⟨c, hc, h⟩ := List.any_eq_true.1 h
  unfold ptB at h
  rw [Bool.and_eq_true, decide_eq_true_eq, Bool.or_eq_true, Bool.or_eq_true, decide_eq_true_eq, decide_eq_true_eq] at h
  obtain ⟨⟨h1, h2⟩, h3⟩ := h
  refine ⟨c, hc, h1, h2, fun n1 n2 => ⟨h1, h2, ?_⟩⟩
  rcases h3 with (h3 | h3) | h3
  · exact absurd h3 n1
  · exact absurd h3 n2
  · unfold lonIn at h3
    rw [decide_eq_true_eq] at h3
    exact h3
/-- a number whose finest cell has a point: what covers it contains the point -/
theorem con_fin {L : List Cl} (hL : AllV L) {v u : Int} (hv : vptB v u = true) {q : Nat} (hf : inX (bxI (cellB (0, q))) v u) (hq : covL L q) : conB L v u = true := by
  rw [con_iff hL v u hv]
  refine ⟨q, (covB_map L q).2 hq, ?_⟩
  obtain ⟨h1, h2, h3⟩ := hf
  unfold fin ptB lonIn
  unfold lonP at h3
  unfold bxI at h1 h2 h3
  simp only [] at h1 h2 h3
  rw [decide_eq_true ⟨h1, h2⟩, decide_eq_true h3]
  simp
/-- how far a point of a region that may be moved is from the poles -/
theorem reach_lat {a b x y lev most : Int} {L : List Cl} (hR : RegOk a b x y lev most L 0) {v u : Int} (h : conB L v u = true) : -5400000 ≤ v + a ∧ v + b ≤ 5400000 := by
  obtain ⟨c, hc, h1, h2, -⟩ := con_cell h
  have := (mvErr_zero (reg_ok hR c hc).1).1
  unfold mvL at this
  rw [decide_eq_true_eq] at this
  omega
/-- no position that could be reached is lost -/
theorem reach_con {a b x y lev most : Int} {L : List Cl} (hL : AllV L) (hab : a ≤ b) (h0 : 0 ≤ lev) (h16 : lev ≤ 16) (hR : RegOk a b x y lev most L 0) {v u m t n D : Int} (h : conB L v u = true) (n1 : v ≠ 5400000) (n2 : v ≠ -5400000)
    (ha : a ≤ m) (hb : m ≤ b) (t0 : min v (v + m) ≤ t) (t1 : t ≤ max v (v + m)) (hx : x ≤ n) (hy : n ≤ y)
    (hD : dlA n n (Trig.enLo (t + 5400000) (t + 5400000)) (Trig.enHi (t + 5400000) (t + 5400000)) ≤ D) (hD2 : D ≤ dlB n n (Trig.enLo (t + 5400000) (t + 5400000)) (Trig.enHi (t + 5400000) (t + 5400000))) :
    vptB (v + m) (sgT (u + D)) = true ∧ conB (regV a b x y lev L 0) (v + m) (sgT (u + D)) = true := by
  obtain ⟨c, hc, c1, c2, c3⟩ := con_cell h
  have hin := c3 n1 n2
  have hcv := hL c hc
  have hfc := bx_facts hcv
  have hok := (reg_ok hR c hc).1
  obtain ⟨e1, e2, e3⟩ := mvErr_zero hok
  have hw := mv_way (bxI_vp hcv) hab e1
  have hp := Trig.en_part (lo' := t + 5400000) (hi' := t + 5400000) hw.1 (show min (bxI c).1 ((bxI c).1 + a) + 5400000 ≤ t + 5400000 by omega) (Int.le_refl _) (show t + 5400000 ≤ max (bxI c).2.1 ((bxI c).2.1 + b) + 5400000 by omega) hw.2.1
  have hm := Trig.en_mid (lo := t + 5400000) (n := t + 5400000) (hi := t + 5400000) (by omega) (Int.le_refl _) (Int.le_refl _) (by omega)
  obtain ⟨d1, d2, -⟩ := dl_part (a := x) (a' := n) (b' := n) (b := y) e2 hp.1 (Int.le_trans hm.1 hm.2) hp.2 hx (Int.le_refl n) hy
  have hD' : mvDA (bxI c) a b x y ≤ D := Int.le_trans d1 hD
  have hD2' : D ≤ mvDB (bxI c) a b x y := Int.le_trans hD2 d2
  have hgo := mv_pt hok hin ha hb hD' hD2'
  have hs : (sgT (u + D) - (u + D)) % 21600000 = 0 ∧ -10800000 ≤ sgT (u + D) ∧ sgT (u + D) < 10800000 := by unfold sgT; omega
  have hlat := reach_lat hR h
  have hvp : vptB (v + m) (sgT (u + D)) = true := vptB_true.2 ⟨by omega, by omega, hs.2.1, hs.2.2⟩
  refine ⟨hvp, ?_⟩
  have hgo2 : inX (mvBox (bxI c) a b x y) (v + m) (sgT (u + D)) := ⟨hgo.1, hgo.2.1, lon_mod (x := u + D) (by omega) hgo.2.2⟩
  obtain ⟨q, hq, hf⟩ := pt_fin_ex (y := v + m) (x := sgT (u + D)) (by omega) (by omega)
  have hxv := regX_v (a := a) (b := b) (x := x) (y := y) h0 h16 L L.length
  have hcov := reg_pt hL hab h0 h16 hR hc hgo2 hq hf
  rw [regV_zero]
  exact con_fin (can_v _ hxv) hvp hf ((can_cov hxv q).2 hcov)
end Go.Proofs.YtleigbbgilcckaaGreat
namespace Go.Proofs.YtleigbbgilcckaaGreat
open Go.RowKit
/-- some blocks of two numbers: made by the operations from A on, written by those from S on -/
structure MJ (W2 w : World) (L : Nat → Bool) (n A S : Nat) (g : Nat → Nat) (v : Nat → Int × Int) : Prop where
  bl : Below W2.heap.size W2 w
  d : ∀ i, i < n → L (S + i) = true → L (A + i) = true
  lo : ∀ i, i < n → L (A + i) = true → W2.heap.size ≤ g i
  z : ∀ i, i < n → L (A + i) = true → L (S + i) = false → D2 w (g i) 0 0
  k : ∀ i, i < n → L (S + i) = true → D2 w (g i) (v i).1 (v i).2
  ne : ∀ i j, i < n → j < n → i ≠ j → L (A + i) = true → L (A + j) = true → g i ≠ g j
section
variable {W2 w w' : World} {L : Nat → Bool} {n A S : Nat} {g : Nat → Nat} {v : Nat → Int × Int}
theorem MJ.start (W2 : World) (n A S : Nat) (g : Nat → Nat) (v : Nat → Int × Int) : MJ W2 W2.drew (fun _ => false) n A S g v :=
  ⟨bl_drew (Below.refl _ _), fun _ _ h => (by cases h), fun _ _ h => (by cases h), fun _ _ h => (by cases h), fun _ _ h => (by cases h), fun _ _ _ _ _ h => (by cases h)⟩
theorem MJ.l (h : MJ W2 w L n A S g v) {i : Nat} (hi : i < n) (hA : L (A + i) = true) : g i < w.heap.size := by
  cases e : L (S + i) with
  | false => exact (h.z i hi hA e).lt
  | true => exact (h.k i hi e).lt
theorem MJ.call (h : MJ W2 w L n A S g v) (hb : Below w.heap.size w w') : MJ W2 w' L n A S g v :=
  ⟨h.bl.trans (hb.mono h.bl.size), h.d, h.lo, fun i hi p q => (h.z i hi p q).below hb (h.z i hi p q).lt, fun i hi p => (h.k i hi p).below hb (h.k i hi p).lt, h.ne⟩
theorem MJ.mark (h : MJ W2 w L n A S g v) (m : Nat) (hm : (m < A ∧ m < S) ∨ (A + n ≤ m ∧ m < S) ∨ (A + n ≤ m ∧ S + n ≤ m)) : MJ W2 w (mkd L m) n A S g v := by
  have e : ∀ i, i < n → mkd L m (A + i) = L (A + i) := fun i hi => mkd_ne (by omega)
  have f : ∀ i, i < n → mkd L m (S + i) = L (S + i) := fun i hi => mkd_ne (by omega)
  constructor
  · exact h.bl
  · intro i hi p; rw [f i hi] at p; rw [e i hi]; exact h.d i hi p
  · intro i hi p; rw [e i hi] at p; exact h.lo i hi p
  · intro i hi p q; rw [e i hi] at p; rw [f i hi] at q; exact h.z i hi p q
  · intro i hi p; rw [f i hi] at p; exact h.k i hi p
  · intro i j hi hj hij p q; rw [e i hi] at p; rw [e j hj] at q; exact h.ne i j hi hj hij p q
theorem MJ.al (h : MJ W2 w L n A S g v) (m : Nat) (hm : m < n) (hAS : A + n ≤ S) (hL : L (A + m) = false) (t : TypeId) : MJ W2 (w.alloc (.cells #[.int .i64 0, .int .i64 0] t)) (mkd L (A + m)) n A S (fun j => if j = m then w.heap.size else g j) v := by
  have c := h.call (bl_alloc w (.cells #[.int .i64 0, .int .i64 0] t))
  have hS : L (S + m) = false := by
    cases e : L (S + m) with
    | false => rfl
    | true => rw [h.d m hm e] at hL; cases hL
  have f : ∀ i, i < n → mkd L (A + m) (S + i) = L (S + i) := fun i hi => mkd_ne (by omega)
  have e : ∀ i, i < n → i ≠ m → mkd L (A + m) (A + i) = L (A + i) := fun i hi him => mkd_ne (by omega)
  constructor
  · exact c.bl
  · intro i hi p
    rw [f i hi] at p
    by_cases him : i = m
    · subst him; exact mkd_same _ _
    · rw [e i hi him]; exact h.d i hi p
  · intro i hi p
    by_cases him : i = m
    · simp only [him, if_true]; exact h.bl.size
    · simp only [if_neg him]; rw [e i hi him] at p; exact h.lo i hi p
  · intro i hi p q
    by_cases him : i = m
    · simp only [him, if_true]; exact D2.new w 0 0 t
    · simp only [if_neg him]; rw [e i hi him] at p; rw [f i hi] at q; exact c.z i hi p q
  · intro i hi p
    rw [f i hi] at p
    by_cases him : i = m
    · subst him; rw [hS] at p; cases p
    · simp only [if_neg him]; exact c.k i hi p
  · intro i j hi hj hij p q
    by_cases him : i = m
    · have hjm : j ≠ m := fun e => hij (him.trans e.symm)
      simp only [him, if_true, if_neg hjm]
      rw [e j hj hjm] at q
      have := h.l hj q
      omega
    · simp only [if_neg him]
      rw [e i hi him] at p
      by_cases hjm : j = m
      · simp only [hjm, if_true]
        have := h.l hi p
        omega
      · simp only [if_neg hjm]; rw [e j hj hjm] at q; exact h.ne i j hi hj hij p q
theorem MJ.st (h : MJ W2 w L n A S g v) (m : Nat) (hm : m < n) (hAS : A + n ≤ S) (hA : L (A + m) = true) (hL : L (S + m) = false) {a b : Int} (hv : v m = (a, b)) : MJ W2 ((w.setCell ⟨g m, 0, none⟩ (.int .i64 a)).setCell ⟨g m, 1, none⟩ (.int .i64 b)) (mkd L (S + m)) n A S g v := by
  have e : ∀ i, i < n → mkd L (S + m) (A + i) = L (A + i) := fun i hi => mkd_ne (by omega)
  have f : ∀ i, i < n → i ≠ m → mkd L (S + m) (S + i) = L (S + i) := fun i hi him => mkd_ne (by omega)
  have hg := h.lo m hm hA
  have z := h.z m hm hA hL
  constructor
  · exact (h.bl.setCell hg _).setCell hg _
  · intro i hi p
    rw [e i hi]
    by_cases him : i = m
    · subst him; exact hA
    · rw [f i hi him] at p; exact h.d i hi p
  · intro i hi p; rw [e i hi] at p; exact h.lo i hi p
  · intro i hi p q
    rw [e i hi] at p
    by_cases him : i = m
    · subst him; rw [mkd_same] at q; cases q
    · rw [f i hi him] at q
      have hne := h.ne i m hi hm him p hA
      exact ((h.z i hi p q).far (p := ⟨g m, 0, none⟩) hne _).far (p := ⟨g m, 1, none⟩) hne _
  · intro i hi p
    by_cases him : i = m
    · subst him; rw [hv]; exact (z.set0 a).set1 b
    · rw [f i hi him] at p
      have hne := h.ne i m hi hm him (h.d i hi p) hA
      exact ((h.k i hi p).far (p := ⟨g m, 0, none⟩) hne _).far (p := ⟨g m, 1, none⟩) hne _
  · intro i j hi hj hij p q; rw [e i hi] at p; rw [e j hj] at q; exact h.ne i j hi hj hij p q
end
end Go.Proofs.YtleigbbgilcckaaGreat
