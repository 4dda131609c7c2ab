/- Sums, differences and products of words of 64 digits; numbers of four words. -/
import Derived.Test.YtifdgdgfmjfbdaaGreatProg
import Derived.Shelf.Spec.BitsCarry
import Derived.Ground.Names7Prog
import Derived.Shelf.Bits.Mul64
import Derived.Ground.NamesProg
import Derived.Shelf.Small.Bits
import Derived.LoopN
import Derived.Test.YtifdgdgfmjfbdaaGreatITc
import Derived.Test.YtifdgdgfmjfbdaaGreatIBase
set_option linter.unusedVariables false
set_option linter.unusedSimpArgs false
namespace Go.Proofs.YtifdgdgfmjfbdaaGreat.Trig
/-- is One times the sine of an angle of the first quarter a whole number -/
def exN (n : Int) : Bool := decide (n = 0) || decide (n = 1800000) || decide (n = 5400000)
/-- One times the sine of an angle of the first quarter, rounded down -/
def sF (n : Int) : Int :=
  if n = 0 then 0 else if n = 1800000 then 536870912 else if n = 5400000 then 1073741824
  else if 2 * n ≤ 5400000 then ((quickN n.toNat false / 4294967296 : Nat) : Int) else ((quickN (5400000 - n).toNat true / 4294967296 : Nat) : Int)
/-- the angle of the first quarter, and whether it is turned by half -/
def qrt (n : Int) : Int := if n % 21600000 > 10800000 then (if n % 21600000 - 10800000 > 5400000 then 10800000 - (n % 21600000 - 10800000) else n % 21600000 - 10800000) else (if n % 21600000 > 5400000 then 10800000 - n % 21600000 else n % 21600000)
def sth (n : Int) : Bool := decide (n % 21600000 > 10800000)
def upF (n : Int) : Int := if exN n = true then sF n else sF n + 1
def loB (n : Int) : Int := if sth n = true then - upF (qrt n) else sF (qrt n)
def hiB (n : Int) : Int := if sth n = true then - sF (qrt n) else upF (qrt n)
/-! the reference's way -/
def rq (n : Int) : Int := n % 21600000 / 5400000
def rr (n : Int) : Int := if n % 21600000 % 5400000 > 2700000 then 5400000 - n % 21600000 % 5400000 else n % 21600000 % 5400000
def rc (n : Int) : Bool := if n % 21600000 % 5400000 > 2700000 then !decide (rq n % 2 = 1) else decide (rq n % 2 = 1)
def qv (n : Int) : Int := if rq n ≥ 2 then - (quickN (rr n).toNat (rc n) : Int) else (quickN (rr n).toNat (rc n) : Int)
def rEx (n : Int) : Bool := decide (n % 21600000 % 1800000 = 0) && !(decide (n % 21600000 / 1800000 % 6 = 2) || decide (n % 21600000 / 1800000 % 6 = 4))
theorem same45 : quickN 2700000 true / 4294967296 = quickN 2700000 false / 4294967296 := by decide +kernel
theorem qrt_bd (n : Int) : 0 ≤ qrt n ∧ qrt n ≤ 5400000 := by unfold qrt; omega
theorem ex_same (n : Int) : rEx n = exN (qrt n) := by
  unfold rEx exN qrt
  rw [Bool.eq_iff_iff]
  simp only [Bool.and_eq_true, Bool.or_eq_true, Bool.not_eq_true', Bool.or_eq_false_iff, decide_eq_true_eq, decide_eq_false_iff_not]
  omega
/-- the quick sine of any angle: far from whole numbers, and rounded down -/
theorem quick_far (n : Int) (h : rEx n = false) : farB (quickN (rr n).toNat (rc n)) = true ∧ qv n / 4294967296 = loB n ∧ hiB n = loB n + 1 := by
  have h2 := h
  rw [ex_same] at h
  have hr : 0 ≤ rr n ∧ rr n ≤ 2700000 := by unfold rr; omega
  have hf : farB (quickN (rr n).toNat (rc n)) = true := by
    have h1 : 1 ≤ (rr n).toNat := by
      unfold exN at h
      simp only [Bool.or_eq_false_iff, decide_eq_false_iff_not] at h
      unfold qrt at h
      unfold rr
      omega
    have hh := far_all h1 (show (rr n).toNat ≤ 2700000 by omega)
    cases hc : rc n with
    | true => exact hh.1
    | false =>
      refine hh.2 fun he => ?_
      unfold exN qrt at h
      simp only [Bool.or_eq_false_iff, decide_eq_false_iff_not] at h
      unfold rc rq at hc
      unfold rr at he
      by_cases hm : n % 21600000 % 5400000 > 2700000
      · rw [if_pos hm] at hc he
        simp only [Bool.not_eq_false', decide_eq_true_eq] at hc
        omega
      · rw [if_neg hm] at hc he
        simp only [decide_eq_false_iff_not] at hc
        omega
  refine ⟨hf, ?_⟩
  have hq := qrt_bd n
  -- both ways have the same whole number
  have hs : sF (qrt n) = ((quickN (rr n).toNat (rc n) / 4294967296 : Nat) : Int) := by
    unfold exN at h
    simp only [Bool.or_eq_false_iff, decide_eq_false_iff_not] at h
    unfold sF
    rw [if_neg h.1.1, if_neg h.1.2, if_neg h.2]
    by_cases h45 : n % 21600000 % 5400000 = 2700000
    · have e1 : rr n = 2700000 := by unfold rr; omega
      have e2 : qrt n = 2700000 := by unfold qrt; omega
      rw [e1, e2, if_pos (by omega)]
      show ((quickN 2700000 false / 4294967296 : Nat) : Int) = ((quickN 2700000 (rc n) / 4294967296 : Nat) : Int)
      cases rc n with
      | true => rw [same45]
      | false => rfl
    · have hc : (2 * qrt n ≤ 5400000 ∧ rc n = false ∧ rr n = qrt n) ∨ (¬ 2 * qrt n ≤ 5400000 ∧ rc n = true ∧ rr n = 5400000 - qrt n) := by
        unfold rc rr rq qrt
        by_cases hm : n % 21600000 % 5400000 > 2700000
        · rw [if_pos hm, if_pos hm]
          simp only [Bool.not_eq_false', Bool.not_eq_true', decide_eq_true_eq, decide_eq_false_iff_not]
          omega
        · rw [if_neg hm, if_neg hm]
          simp only [decide_eq_true_eq, decide_eq_false_iff_not]
          omega
      rcases hc with ⟨a, b, c⟩ | ⟨a, b, c⟩
      · rw [if_pos a, b, c]
      · rw [if_neg a, b, c]
  unfold loB hiB upF
  rw [h, hs]
  unfold farB at hf
  rw [Bool.and_eq_true, Nat.ble_eq, Nat.ble_eq] at hf
  have hsq : sth n = decide (rq n ≥ 2) := by
    unfold exN qrt at h
    simp only [Bool.or_eq_false_iff, decide_eq_false_iff_not] at h
    unfold sth rq
    rw [decide_eq_decide]
    omega
  unfold qv
  rw [hsq]
  generalize quickN (rr n).toNat (rc n) = v at *
  by_cases hqq : rq n ≥ 2
  · simp only [hqq, decide_true, if_true]
    constructor
    · simp
      omega
    · simp
      omega
  · simp only [hqq, decide_false, if_false]
    simp
end Go.Proofs.YtifdgdgfmjfbdaaGreat.Trig
namespace Go.Proofs.YtifdgdgfmjfbdaaGreat.Trig
theorem qgo_le {sq : Nat} (h : sq ≤ 4611686018427387904) : ∀ (f t m : Nat), qgo sq f t (m + 1) ≤ t
  | 0, t, m => by simp [qgo]
  | f + 1, t, m => by
    rw [qgo]
    split
    · omega
    · have h1 := tm_le (t := t) (m := m) h
      have h2 := tm_le (t := tm t sq (m + 1)) (m := m + 2) h
      have h3 := qgo_le h f (tm (tm t sq (m + 1)) sq (m + 2 + 1)) (m + 4)
      rw [show m + 1 + 2 = m + 2 + 1 by omega, show m + 1 + 4 = m + 4 + 1 by omega]
      omega
theorem quickN_le {r : Nat} (h : r ≤ 2700000) (b : Bool) : quickN r b ≤ 4611686018427387904 := by
  obtain ⟨x0, x1⟩ := ang_bd h
  have hl := sq_le x0 x1 (sqN_err h)
  have ha : arcN r ≤ 4611686018427387904 := by
    unfold arcN
    omega
  unfold quickN
  cases b with
  | true =>
    rw [if_pos rfl]
    exact qgo_le (by omega) 17 _ 0
  | false =>
    rw [if_neg (by simp)]
    exact Nat.le_trans (qgo_le (by omega) 17 _ 1) ha
theorem sF_bd {q : Int} (h0 : 0 ≤ q) (h1 : q ≤ 5400000) : 0 ≤ sF q ∧ sF q ≤ 1073741824 := by
  unfold sF
  split
  · omega
  split
  · omega
  split
  · omega
  split
  · have := quickN_le (r := q.toNat) (by omega) false
    omega
  · have := quickN_le (r := (5400000 - q).toNat) (by omega) true
    omega
/-- whether an arc has an angle -/
def metB (lo hi n : Int) : Bool := decide ((n - lo) % 21600000 ≤ hi - lo)
/-- the least enclosure of the sine over an arc -/
def enLo (lo hi : Int) : Int := if metB lo hi 16200000 = true then -1073741824 else min (loB lo) (loB hi)
def enHi (lo hi : Int) : Int := if metB lo hi 5400000 = true then 1073741824 else max (hiB lo) (hiB hi)
end Go.Proofs.YtifdgdgfmjfbdaaGreat.Trig
namespace Go.Proofs.YtifdgdgfmjfbdaaGreat.Trig
theorem upF_le {q : Int} (h0 : 0 ≤ q) (h1 : q ≤ 5400000) : upF q ≤ 1073741824 := by
  unfold upF
  split
  · exact (sF_bd h0 h1).2
  · rename_i hx
    have hq : qrt q = q := by unfold qrt; omega
    have hr : rEx q = false := by rw [ex_same, hq]; simpa using hx
    obtain ⟨hf, hv, -⟩ := quick_far q hr
    have hs : sth q = false := by unfold sth; rw [decide_eq_false_iff_not]; omega
    have hl : loB q = sF q := by unfold loB; rw [hs, hq]; simp
    have hrq : ¬ rq q ≥ 2 := by unfold rq; omega
    have hqv : qv q = (quickN (rr q).toNat (rc q) : Int) := by unfold qv; rw [if_neg hrq]
    have hrr : (rr q).toNat ≤ 2700000 := by unfold rr; omega
    have hle := quickN_le hrr (rc q)
    rw [hl, hqv] at hv
    generalize quickN (rr q).toNat (rc q) = Q at *
    have hne : Q ≠ 4611686018427387904 := by
      intro e
      rw [e] at hf
      revert hf
      decide
    omega
theorem hi_le (n : Int) : -1073741824 ≤ loB n ∧ loB n ≤ 1073741824 ∧ -1073741824 ≤ hiB n ∧ hiB n ≤ 1073741824 ∧ loB n ≤ hiB n := by
  have hq := qrt_bd n
  have hs := sF_bd hq.1 hq.2
  have hu := upF_le hq.1 hq.2
  have hw : sF (qrt n) ≤ upF (qrt n) := by unfold upF; split <;> omega
  unfold loB hiB
  split <;> omega
end Go.Proofs.YtifdgdgfmjfbdaaGreat.Trig
namespace Go.Proofs.YtifdgdgfmjfbdaaGreat.Trig
theorem up_lin {h C X : Rat} (h0 : 1 / 2 ^ 22 ≤ h) (h1 : h ≤ 1 / 10000) (c0 : 1 / 2 ≤ C) (c1 : C ≤ 1) (x0 : 0 ≤ X) (x1 : X ≤ 1) :
    h * h / 2 * X + h * h * h / 6 * C + (h * h * h * h * (3 / 5) + 1 / 2 ^ 65 / 2) ≤ h * C := by
  have hp : 0 ≤ h := by grind
  have a2 : 0 ≤ h * h := Rat.mul_nonneg hp hp
  have a3 : 0 ≤ h * h * h := Rat.mul_nonneg a2 hp
  have b2 : h * h ≤ h * (1 / 10000) := Rat.mul_le_mul_of_nonneg_left h1 hp
  have b3 : h * h * h ≤ h * h * (1 / 10000) := Rat.mul_le_mul_of_nonneg_left h1 a2
  have b4 : h * h * h * h ≤ h * h * h * (1 / 10000) := Rat.mul_le_mul_of_nonneg_left h1 a3
  have d1 : h * (1 / 2) ≤ h * C := Rat.mul_le_mul_of_nonneg_left c0 hp
  have d2 : h * h * X ≤ h * h * 1 := Rat.mul_le_mul_of_nonneg_left x1 a2
  have d3 : h * h * h * C ≤ h * h * h * 1 := Rat.mul_le_mul_of_nonneg_left c1 a3
  have e1 : (1 : Rat) / 2 ^ 65 / 2 ≤ 1 / 2 ^ 22 / 10000 := by decide +kernel
  have e2 : h * h / 2 * X = h * h * X / 2 := by grind
  have e3 : h * h * h / 6 * C = h * h * h * C / 6 := by grind
  rw [e2, e3]
  generalize (1 : Rat) / 2 ^ 65 / 2 = z at *
  generalize (1 : Rat) / 2 ^ 22 = y at *
  generalize h * h * h * h = h4 at *
  generalize h * h * h * C = q3 at *
  generalize h * h * X = q2 at *
  generalize h * h * h = h3 at *
  generalize h * h = h2 at *
  generalize h * C = q1 at *
  grind_linarith
theorem down_lin {h C X : Rat} (h0 : 1 / 2 ^ 22 ≤ h) (h1 : h ≤ 1 / 10000) (c0 : 1 / 2 ≤ C) (x0 : 0 ≤ X) :
    h * h * h / 6 * X + (h * h * h * h * (3 / 5) + 1 / 2 ^ 65 / 2) ≤ h * X + h * h / 2 * C := by
  have hp : 0 ≤ h := by grind
  have a2 : 0 ≤ h * h := Rat.mul_nonneg hp hp
  have a3 : 0 ≤ h * h * h := Rat.mul_nonneg a2 hp
  have aX : 0 ≤ h * X := Rat.mul_nonneg hp x0
  have b2 : h * h ≤ h * (1 / 10000) := Rat.mul_le_mul_of_nonneg_left h1 hp
  have b3 : h * h * h ≤ h * h * (1 / 10000) := Rat.mul_le_mul_of_nonneg_left h1 a2
  have b4 : h * h * h * h ≤ h * h * h * (1 / 10000) := Rat.mul_le_mul_of_nonneg_left h1 a3
  have s2 : h * h ≤ 1 := by grind
  have d1 : h * X * (h * h) ≤ h * X * 1 := Rat.mul_le_mul_of_nonneg_left s2 aX
  have d2 : h * h * (1 / 2) ≤ h * h * C := Rat.mul_le_mul_of_nonneg_left c0 a2
  have g1 : h * (1 / 2 ^ 22) ≤ h * h := Rat.mul_le_mul_of_nonneg_left h0 hp
  have g2 : (1 : Rat) / 2 ^ 22 * (1 / 2 ^ 22) ≤ h * (1 / 2 ^ 22) := Rat.mul_le_mul_of_nonneg_right h0 (by decide +kernel)
  have e1 : (1 : Rat) / 2 ^ 65 / 2 ≤ 1 / 2 ^ 22 * (1 / 2 ^ 22) / 10000 := by decide +kernel
  have e2 : h * h / 2 * C = h * h * C / 2 := by grind
  have e3 : h * h * h / 6 * X = h * X * (h * h) / 6 := by grind
  rw [e2, e3]
  generalize (1 : Rat) / 2 ^ 65 / 2 = z at *
  generalize (1 : Rat) / 2 ^ 22 * (1 / 2 ^ 22) = y2 at *
  generalize h * (1 / 2 ^ 22) = hy at *
  generalize h * X * (h * h) = q3 at *
  generalize h * h * h * h = h4 at *
  generalize h * h * C = q2 at *
  generalize h * h * h = h3 at *
  generalize h * h = h2 at *
  generalize h * X = q1 at *
  grind_linarith
theorem th_mid : (1 : Rat) / 2 ^ 22 ≤ th ∧ th ≤ 1 / 10000 ∧ th ≤ 1 / 5 := by decide +kernel
theorem sc_bd {x : Rat} (hx : 0 ≤ x) (hx1 : x ≤ 4 / 5) : 0 ≤ sinP x ∧ sinP x ≤ 1 ∧ 1 / 2 ≤ cosP x ∧ cosP x ≤ 1 := by
  have h1 : x ≤ 1 := by grind
  have a := alt_bd hx h1 35 1
  have b := alt_bd hx h1 35 0
  have m0 : mo x 0 = 1 := by simp [mo]
  have m1 := mo_le1 hx h1 1
  have c := alt_mis x 34 0
  have d := mis_bd hx hx1 34 0
  rw [← sin_alt] at a
  rw [← cos_alt] at b
  rw [show 34 + 1 = 35 from rfl, ← cos_alt, m0] at c
  rw [m0] at b
  refine ⟨a.1, by grind, by grind, b.2⟩
theorem sin_up {x : Rat} (hx : 0 ≤ x) (hx1 : x ≤ 4 / 5) : sinP x ≤ sinP (x + th) := by
  obtain ⟨t0, t1, t2⟩ := th_mid
  obtain ⟨s0, s1, k0, k1⟩ := sc_bd hx hx1
  have h := sin_shift (x := x) (h := th) hx (by grind) (by grind) t1
  have g := up_lin t0 t1 k0 k1 s0 s1
  obtain ⟨-, h⟩ := h
  generalize th * th * th * th * (3 / 5) + 1 / 2 ^ 65 / 2 = e at *
  generalize th * th * th / 6 * cosP x = q3 at *
  generalize th * th / 2 * sinP x = q2 at *
  generalize th * cosP x = q1 at *
  grind_linarith
theorem cos_down {x : Rat} (hx : 0 ≤ x) (hx1 : x ≤ 4 / 5) : cosP (x + th) ≤ cosP x := by
  obtain ⟨t0, t1, t2⟩ := th_mid
  obtain ⟨s0, s1, k0, k1⟩ := sc_bd hx hx1
  have h := cos_shift (x := x) (h := th) hx (by grind) (by grind) t1
  have g := down_lin t0 t1 k0 s0
  obtain ⟨h, -⟩ := h
  generalize th * th * th * th * (3 / 5) + 1 / 2 ^ 65 / 2 = e at *
  generalize th * th * th / 6 * sinP x = q3 at *
  generalize th * th / 2 * cosP x = q2 at *
  generalize th * sinP x = q1 at *
  grind_linarith
/-- two numbers near others that do not fall; the second one is far from whole numbers -/
theorem floor_le {a b : Nat} {P Q : Rat} (ha : Nr (a : Rat) (P * Y) 75) (hb : Nr (b : Rat) (Q * Y) 75) (h : P ≤ Q) (hf : farB b = true) : a / 4294967296 ≤ b / 4294967296 := by
  have h1 : (a : Rat) ≤ ((b + 150 : Nat) : Rat) := by
    have hy : P * Y ≤ Q * Y := Rat.mul_le_mul_of_nonneg_right h (by unfold Y; decide +kernel)
    obtain ⟨a1, a2⟩ := ha
    obtain ⟨b1, b2⟩ := hb
    push_cast
    grind_linarith
  have h2 : a ≤ b + 150 := by exact_mod_cast h1
  unfold farB at hf
  rw [Bool.and_eq_true, Nat.ble_eq, Nat.ble_eq] at hf
  omega
theorem floor_ge {a b : Nat} {P Q : Rat} (ha : Nr (a : Rat) (P * Y) 75) (hb : Nr (b : Rat) (Q * Y) 75) (h : P ≤ Q) (hf : farB a = true) : a / 4294967296 ≤ b / 4294967296 := by
  have h1 : (a : Rat) ≤ ((b + 150 : Nat) : Rat) := by
    have hy : P * Y ≤ Q * Y := Rat.mul_le_mul_of_nonneg_right h (by unfold Y; decide +kernel)
    obtain ⟨a1, a2⟩ := ha
    obtain ⟨b1, b2⟩ := hb
    push_cast
    grind_linarith
  have h2 : a ≤ b + 150 := by exact_mod_cast h1
  unfold farB at hf
  rw [Bool.and_eq_true, Nat.ble_eq, Nat.ble_eq] at hf
  omega
theorem ang_succ (r : Nat) : ((r + 1 : Nat) : Rat) * th = (r : Rat) * th + th := by push_cast; grind
theorem quick_up {r : Nat} (h0 : 1 ≤ r) (h : r + 1 ≤ 2700000) (h1 : r ≠ 1800000) (h2 : r + 1 ≠ 1800000) : quickN r false / 4294967296 ≤ quickN (r + 1) false / 4294967296 := by
  obtain ⟨x0, x1⟩ := ang_bd (r := r) (by omega)
  have hq := quick_sin (r := r + 1) h
  rw [ang_succ] at hq
  exact floor_le (quick_sin (r := r) (by omega)) hq (sin_up x0 x1) ((far_all (r := r + 1) (by omega) h).2 h2)
theorem quick_down {r : Nat} (h0 : 1 ≤ r) (h : r + 1 ≤ 2700000) : quickN (r + 1) true / 4294967296 ≤ quickN r true / 4294967296 := by
  obtain ⟨x0, x1⟩ := ang_bd (r := r) (by omega)
  have hq := quick_cos (r := r + 1) h
  rw [ang_succ] at hq
  exact floor_ge hq (quick_cos (r := r) (by omega)) (cos_down x0 x1) ((far_all (r := r + 1) (by omega) h).1)
theorem near_30 : quickN 1799999 false / 4294967296 + 1 ≤ 536870912 ∧ 536870912 ≤ quickN 1800001 false / 4294967296 := by decide +kernel
theorem sF_step {q : Int} (h0 : 0 ≤ q) (h1 : q + 1 ≤ 5400000) : sF q ≤ sF (q + 1) ∧ (exN (q + 1) = true → exN q = false → sF q + 1 ≤ sF (q + 1)) := by
  have b0 := sF_bd (q := q) h0 (by omega)
  have b1 := sF_bd (q := q + 1) (by omega) h1
  by_cases c0 : q = 0
  · subst c0
    refine ⟨by have : sF 0 = 0 := by decide
               omega, fun _ h => ?_⟩
    simp [exN] at h
  by_cases c1 : q + 1 = 1800000
  · have e1 : sF (q + 1) = 536870912 := by rw [c1]; decide
    have e0 : sF q = ((quickN 1799999 false / 4294967296 : Nat) : Int) := by
      have : q = 1799999 := by omega
      subst this
      unfold sF
      simp
    have := near_30.1
    omega
  by_cases c2 : q = 1800000
  · subst c2
    have e1 : sF 1800000 = 536870912 := by decide
    have e0 : sF (1800000 + 1) = ((quickN 1800001 false / 4294967296 : Nat) : Int) := by
      unfold sF
      simp
    have := near_30.2
    refine ⟨by omega, fun _ h => ?_⟩
    simp [exN] at h
  by_cases c3 : q + 1 = 5400000
  · have e1 : sF (q + 1) = 1073741824 := by rw [c3]; decide
    have hx : exN q = false := by
      unfold exN
      simp only [Bool.or_eq_false_iff, decide_eq_false_iff_not]
      omega
    have := upF_le (q := q) h0 (by omega)
    unfold upF at this
    rw [hx] at this
    simp at this
    omega
  have hx : exN (q + 1) = false := by
    unfold exN
    simp only [Bool.or_eq_false_iff, decide_eq_false_iff_not]
    omega
  refine ⟨?_, fun h => by rw [hx] at h; simp at h⟩
  clear b0 b1
  unfold sF
  rw [if_neg c0, if_neg c2, if_neg (by omega : ¬ q = 5400000), if_neg (by omega : ¬ q + 1 = 0), if_neg c1, if_neg c3]
  by_cases d : 2 * (q + 1) ≤ 5400000
  · rw [if_pos (by omega), if_pos d]
    have := quick_up (r := q.toNat) (by omega) (by omega) (by omega) (by omega)
    rw [show q.toNat + 1 = (q + 1).toNat by omega] at this
    omega
  · by_cases d2 : 2 * q ≤ 5400000
    · rw [if_pos d2, if_neg d]
      have hq : q = 2700000 := by omega
      subst hq
      have := quick_down (r := 2699999) (by omega) (by omega)
      have e := same45
      rw [show 2699999 + 1 = 2700000 from rfl, e] at this
      have e2 : (5400000 - (2700000 + 1) : Int).toNat = 2699999 := by decide
      have e3 : (2700000 : Int).toNat = 2700000 := by decide
      rw [e2, e3]
      generalize quickN 2700000 false / 4294967296 = a at *
      generalize quickN 2699999 true / 4294967296 = b at *
      omega
    · rw [if_neg d2, if_neg d]
      have := quick_down (r := (5400000 - (q + 1)).toNat) (by omega) (by omega)
      rw [show (5400000 - (q + 1)).toNat + 1 = (5400000 - q).toNat by omega] at this
      omega
theorem upF_step {q : Int} (h0 : 0 ≤ q) (h1 : q + 1 ≤ 5400000) : upF q ≤ upF (q + 1) := by
  obtain ⟨a, b⟩ := sF_step h0 h1
  unfold upF
  cases e0 : exN q <;> cases e1 : exN (q + 1) <;> simp only [Bool.false_eq_true, if_false, if_true]
  · omega
  · have := b e1 e0
    omega
  · omega
  · exact a
theorem low_sF {n : Int} (h0 : 0 ≤ n) (h1 : n ≤ 5400000) : loB n = sF n := by
  have e : sth n = false := by unfold sth; rw [decide_eq_false_iff_not]; omega
  have e2 : qrt n = n := by unfold qrt; omega
  unfold loB
  rw [e, e2]; simp
theorem low_upF {n : Int} (h0 : 0 < n) (h1 : n ≤ 5400000) : loB (-n) = - upF n := by
  have e : sth (-n) = true := by unfold sth; rw [decide_eq_true_iff]; omega
  have e2 : qrt (-n) = n := by unfold qrt; omega
  unfold loB
  rw [e, e2]; simp
theorem loB_step {n : Int} (h0 : -5400000 ≤ n) (h1 : n + 1 ≤ 5400000) : loB n ≤ loB (n + 1) := by
  by_cases c : 0 ≤ n
  · rw [low_sF c (by omega), low_sF (by omega) h1]
    exact (sF_step c h1).1
  · by_cases c2 : n = -1
    · subst c2
      have e : loB (-1) = - upF 1 := low_upF (n := 1) (by omega) (by omega)
      have e2 : loB (-1 + 1) = 0 := by decide
      have h := (sF_bd (q := 1) (by omega) (by omega)).1
      have : sF 1 ≤ upF 1 := by unfold upF; split <;> omega
      omega
    · have e1 : loB n = - upF (-n) := by have := low_upF (n := -n) (by omega) (by omega); simpa using this
      have e2 : loB (n + 1) = - upF (-n - 1) := by
        have := low_upF (n := -n - 1) (by omega) (by omega)
        rw [show -(-n - 1) = n + 1 by omega] at this
        exact this
      have := upF_step (q := -n - 1) (by omega) (by omega)
      rw [show -n - 1 + 1 = -n by omega] at this
      omega
/-- One times the sine of a latitude, rounded down, does not fall -/
theorem loB_mono {a b : Int} (h0 : -5400000 ≤ a) (h : a ≤ b) (h1 : b ≤ 5400000) : loB a ≤ loB b := by
  have key : ∀ k : Nat, a + k ≤ 5400000 → loB a ≤ loB (a + k) := by
    intro k
    induction k with
    | zero => intro _; simp
    | succ k ih =>
      intro hk
      have h2 := ih (by omega)
      have h3 := loB_step (n := a + k) (by omega) (by push_cast at hk; omega)
      rw [show a + k + 1 = a + ((k + 1 : Nat) : Int) by push_cast; omega] at h3
      omega
  have := key (b - a).toNat (by omega)
  rw [show a + ((b - a).toNat : Int) = b by omega] at this
  exact this
theorem loB_poles : loB (-5400000) = -1073741824 ∧ loB 5400000 = 1073741824 := by decide +kernel
theorem hiB_lo (n : Int) : loB n ≤ hiB n ∧ hiB n ≤ loB n + 1 := by
  unfold loB hiB upF
  split <;> split <;> omega
end Go.Proofs.YtifdgdgfmjfbdaaGreat.Trig
namespace Go.Proofs.YtifdgdgfmjfbdaaGreat.Trig
/-- an interval of numbers from -1 to 1 -/
structure Small (x : Int × Int) : Prop where
  lo : -1073741824 ≤ x.1
  le : x.1 ≤ x.2
  hi : x.2 ≤ 1073741824
def snP (a : Int × Int) : Int × Int := (enLo a.1 a.2, enHi a.1 a.2)
def csP (a : Int × Int) : Int × Int := (enLo (a.1 + 5400000) (a.2 + 5400000), enHi (a.1 + 5400000) (a.2 + 5400000))
def mulP (x y : Int × Int) : Int × Int := (min (x.1 * y.1) (min (x.1 * y.2) (min (x.2 * y.1) (x.2 * y.2))) / 1073741824, -(-(max (x.1 * y.1) (max (x.1 * y.2) (max (x.2 * y.1) (x.2 * y.2)))) / 1073741824))
def addP (x y : Int × Int) : Int × Int := (x.1 + y.1, x.2 + y.2)
theorem en_small (lo hi : Int) : Small (enLo lo hi, enHi lo hi) := by
  have h1 := hi_le lo
  have h2 := hi_le hi
  constructor
  · show -1073741824 ≤ enLo lo hi
    unfold enLo; split <;> omega
  · show enLo lo hi ≤ enHi lo hi
    unfold enLo enHi; split <;> split <;> omega
  · show enHi lo hi ≤ 1073741824
    unfold enHi; split <;> omega
theorem snP_small (a : Int × Int) : Small (snP a) := en_small _ _
theorem csP_small (a : Int × Int) : Small (csP a) := en_small _ _
theorem mul_bd {a b : Int} (h0 : -1073741824 ≤ a) (h1 : a ≤ 1073741824) (g0 : -1073741824 ≤ b) (g1 : b ≤ 1073741824) : -1152921504606846976 ≤ a * b ∧ a * b ≤ 1152921504606846976 := by
  have e1 : (1073741824 - a) * (1073741824 + b) ≥ 0 := Int.mul_nonneg (by omega) (by omega)
  have e2 : (1073741824 + a) * (1073741824 - b) ≥ 0 := Int.mul_nonneg (by omega) (by omega)
  have e3 : (1073741824 + a) * (1073741824 + b) ≥ 0 := Int.mul_nonneg (by omega) (by omega)
  have e4 : (1073741824 - a) * (1073741824 - b) ≥ 0 := Int.mul_nonneg (by omega) (by omega)
  have f1 : (1073741824 - a) * (1073741824 + b) = 1152921504606846976 + 1073741824 * b - 1073741824 * a - a * b := by grind
  have f2 : (1073741824 + a) * (1073741824 - b) = 1152921504606846976 - 1073741824 * b + 1073741824 * a - a * b := by grind
  have f3 : (1073741824 + a) * (1073741824 + b) = 1152921504606846976 + 1073741824 * b + 1073741824 * a + a * b := by grind
  have f4 : (1073741824 - a) * (1073741824 - b) = 1152921504606846976 - 1073741824 * b - 1073741824 * a + a * b := by grind
  omega
theorem mulP_small {x y : Int × Int} (hx : Small x) (hy : Small y) : Small (mulP x y) := by
  have hx0 := hx.lo; have hx1 := hx.le; have hx2 := hx.hi
  have hy0 := hy.lo; have hy1 := hy.le; have hy2 := hy.hi
  have m1 := mul_bd (a := x.1) (b := y.1) (by omega) (by omega) (by omega) (by omega)
  have m2 := mul_bd (a := x.1) (b := y.2) (by omega) (by omega) (by omega) (by omega)
  have m3 := mul_bd (a := x.2) (b := y.1) (by omega) (by omega) (by omega) (by omega)
  have m4 := mul_bd (a := x.2) (b := y.2) (by omega) (by omega) (by omega) (by omega)
  unfold mulP
  generalize x.1 * y.1 = p at *
  generalize x.1 * y.2 = q at *
  generalize x.2 * y.1 = r at *
  generalize x.2 * y.2 = s at *
  constructor
  · show -1073741824 ≤ min p (min q (min r s)) / 1073741824
    omega
  · show min p (min q (min r s)) / 1073741824 ≤ -(-(max p (max q (max r s))) / 1073741824)
    omega
  · show -(-(max p (max q (max r s))) / 1073741824) ≤ 1073741824
    omega
/-- the sine of the altitude of a triangle -/
def sinT (lat dec lha : Int × Int) : Int × Int := addP (mulP (snP lat) (snP dec)) (mulP (mulP (csP lat) (csP dec)) (csP lha))
theorem sinT_fv (lat dec lha : Int × Int) : -2147483648 ≤ (sinT lat dec lha).1 ∧ (sinT lat dec lha).1 ≤ (sinT lat dec lha).2 ∧ (sinT lat dec lha).2 ≤ 2147483648 := by
  have h1 := mulP_small (snP_small lat) (snP_small dec)
  have h2 := mulP_small (mulP_small (csP_small lat) (csP_small dec)) (csP_small lha)
  have a := h1.lo; have b := h1.le; have c := h1.hi
  have d := h2.lo; have e := h2.le; have f := h2.hi
  unfold sinT addP
  simp only []
  omega
end Go.Proofs.YtifdgdgfmjfbdaaGreat.Trig
namespace Go.Proofs
open Go.Shelf
def Tryz.lays25_ren : Go.Shelf.Ren := ⟨fun | 25 => 278 | n => n, fun | 22 => 236 | n => n, fun | n => n⟩
theorem Tryz.lays25 : Go.Proofs.Lays7.n25 Tryz.prog Tryz.lays25_ren := {
  mixed := by kernel_rfl
  f25 := Tryz.func278.trans (congrArg some (by kernel_rfl))
  t22 := Tryz.underlying236
  a22 := Tryz.isAgg236
  z22 := Tryz.sizeOf236
  v22 := Tryz.zeroValue236
  i22 := by kernel_rfl }
def Tryz.lays26_ren : Go.Shelf.Ren := ⟨fun | 26 => 315 | n => n, fun | 22 => 236 | n => n, fun | n => n⟩
theorem Tryz.lays26 : Go.Proofs.Lays7.n26 Tryz.prog Tryz.lays26_ren := {
  mixed := by kernel_rfl
  f26 := Tryz.func315.trans (congrArg some (by kernel_rfl))
  t22 := Tryz.underlying236
  a22 := Tryz.isAgg236
  z22 := Tryz.sizeOf236
  v22 := Tryz.zeroValue236
  i22 := by kernel_rfl }
def Tryz.mul64_ren : Go.Shelf.Ren := ⟨fun | 264 => 277 | n => n, fun | 53 => 236 | 46 => 118 | n => n, fun | n => n⟩
theorem Tryz.mul64 : Go.Proofs.Lays.n264 Tryz.prog Tryz.mul64_ren := {
  mixed := by kernel_rfl
  f264 := Tryz.func277.trans (congrArg some (by kernel_rfl))
  t46 := Tryz.underlying118
  a46 := Tryz.isAgg118
  z46 := Tryz.sizeOf118
  v46 := Tryz.zeroValue118
  t53 := Tryz.underlying236
  a53 := Tryz.isAgg236
  z53 := Tryz.sizeOf236
  v53 := Tryz.zeroValue236 }
def Tryz.lz64_ren : Go.Shelf.Ren := ⟨fun | 134 => 327 | 129 => 265 | n => n, fun | 53 => 236 | 3 => 3 | 4 => 4 | 46 => 118 | 5 => 5 | 9 => 9 | n => n, fun | n => n⟩
theorem Tryz.lz64 : Go.Proofs.Lays.n134 Tryz.prog Tryz.lz64_ren := {
  mixed := by kernel_rfl
  f129 := Tryz.func265.trans (congrArg some (by kernel_rfl))
  f134 := Tryz.func327.trans (congrArg some (by kernel_rfl))
  t3 := Tryz.underlying3
  a3 := Tryz.isAgg3
  z3 := Tryz.sizeOf3
  v3 := Tryz.zeroValue3
  t4 := Tryz.underlying4
  a4 := Tryz.isAgg4
  z4 := Tryz.sizeOf4
  v4 := Tryz.zeroValue4
  t5 := Tryz.underlying5
  a5 := Tryz.isAgg5
  z5 := Tryz.sizeOf5
  v5 := Tryz.zeroValue5
  t9 := Tryz.underlying9
  a9 := Tryz.isAgg9
  z9 := Tryz.sizeOf9
  v9 := Tryz.zeroValue9
  t46 := Tryz.underlying118
  a46 := Tryz.isAgg118
  z46 := Tryz.sizeOf118
  v46 := Tryz.zeroValue118
  t53 := Tryz.underlying236
  a53 := Tryz.isAgg236
  z53 := Tryz.sizeOf236
  v53 := Tryz.zeroValue236 }
end Go.Proofs
namespace Go.Proofs.YtifdgdgfmjfbdaaGreat
open Go.RowKit Go.Shelf
/-- a word -/
def U64 (x : Int) : Prop := 0 ≤ x ∧ x < 18446744073709551616
def adS (x y c : Int) : Int := (x + y + c) % 18446744073709551616
def adC (x y c : Int) : Int := (x + y + c) / 18446744073709551616
def suD (x y b : Int) : Int := (x - y - b) % 18446744073709551616
def suB (x y b : Int) : Int := if x < y + b then 1 else 0
def muH (x y : Int) : Int := x * y / 18446744073709551616
def muL (x y : Int) : Int := x * y % 18446744073709551616
theorem ad_eq (x y c : Int) : adS x y c + 18446744073709551616 * adC x y c = x + y + c := by unfold adS adC; omega
theorem adS_u (x y c : Int) : U64 (adS x y c) := by unfold adS U64; omega
theorem adC_bd {x y c : Int} (hx : U64 x) (hy : U64 y) (h0 : 0 ≤ c) (h1 : c ≤ 1) : 0 ≤ adC x y c ∧ adC x y c ≤ 1 := by unfold adC U64 at *; omega
theorem suD_u (x y b : Int) : U64 (suD x y b) := by unfold suD U64; omega
theorem suB_bd (x y b : Int) : 0 ≤ suB x y b ∧ suB x y b ≤ 1 := by unfold suB; split <;> omega
theorem su_eq {x y b : Int} (hx : U64 x) (hy : U64 y) (h0 : 0 ≤ b) (h1 : b ≤ 1) : suD x y b = x - y - b + 18446744073709551616 * suB x y b := by
  unfold suD suB U64 at *
  split <;> omega
theorem mu_eq (x y : Int) : muH x y * 18446744073709551616 + muL x y = x * y := by unfold muH muL; omega
theorem muL_u (x y : Int) : U64 (muL x y) := by unfold muL U64; omega
theorem mul_lt {x y : Int} (hx : U64 x) (hy : U64 y) : 0 ≤ x * y ∧ x * y ≤ 340282366920938463426481119284349108225 := by
  obtain ⟨x0, x1⟩ := hx
  obtain ⟨y0, y1⟩ := hy
  have h1 : x * y ≤ 18446744073709551615 * 18446744073709551615 := Int.mul_le_mul (by omega) (by omega) y0 (by omega)
  exact ⟨Int.mul_nonneg x0 y0, by omega⟩
theorem muH_bd {x y : Int} (hx : U64 x) (hy : U64 y) : 0 ≤ muH x y ∧ muH x y ≤ 18446744073709551614 := by
  have := mul_lt hx hy
  unfold muH
  omega
theorem add64 (x y c : Int) (hx : U64 x) (hy : U64 y) (h0 : 0 ≤ c) (h1 : c ≤ 1) (w : World) :
    (callFunc 278 #[.int .u64 x, .int .u64 y, .int .u64 c]).run Tryz.prog w = .ok (.value (.tuple #[.int .u64 (adS x y c), .int .u64 (adC x y c)])) w := by
  have h := Any7.bits_Add64 Tryz.lays25 x.toNat y.toNat c.toNat (by omega) w
  change (callFunc 278 _).run _ _ = _ at h
  have ex : ((x.toNat : Nat) : Int) = x := Int.toNat_of_nonneg hx.1
  have ey : ((y.toNat : Nat) : Int) = y := Int.toNat_of_nonneg hy.1
  have ec : ((c.toNat : Nat) : Int) = c := Int.toNat_of_nonneg h0
  rw [ex, ey, ec] at h
  rw [h]
  obtain ⟨x0, x1⟩ := hx
  obtain ⟨y0, y1⟩ := hy
  have e1 : (((x.toNat + y.toNat + c.toNat) % 18446744073709551616 : Nat) : Int) = adS x y c := by unfold adS; omega
  have e2 : (((x.toNat + y.toNat + c.toNat) / 18446744073709551616 : Nat) : Int) = adC x y c := by unfold adC; omega
  rw [e1, e2]
theorem add64_0 (x y : Int) (hx : U64 x) (hy : U64 y) (w : World) :
    (callFunc 278 #[.int .u64 x, .int .u64 y, .int .u64 0]).run Tryz.prog w = .ok (.value (.tuple #[.int .u64 (adS x y 0), .int .u64 (adC x y 0)])) w := add64 x y 0 hx hy (by omega) (by omega) w
theorem sub64 (x y b : Int) (hx : U64 x) (hy : U64 y) (h0 : 0 ≤ b) (h1 : b ≤ 1) (w : World) :
    (callFunc 315 #[.int .u64 x, .int .u64 y, .int .u64 b]).run Tryz.prog w = .ok (.value (.tuple #[.int .u64 (suD x y b), .int .u64 (suB x y b)])) w := by
  have h := Any7.bits_Sub64 Tryz.lays26 x.toNat y.toNat b.toNat (by omega) w
  change (callFunc 315 _).run _ _ = _ at h
  have ex : ((x.toNat : Nat) : Int) = x := Int.toNat_of_nonneg hx.1
  have ey : ((y.toNat : Nat) : Int) = y := Int.toNat_of_nonneg hy.1
  have eb : ((b.toNat : Nat) : Int) = b := Int.toNat_of_nonneg h0
  rw [ex, ey, eb] at h
  rw [h]
  obtain ⟨x0, x1⟩ := hx
  obtain ⟨y0, y1⟩ := hy
  have e1 : (((x.toNat + 18446744073709551616 - y.toNat - b.toNat) % 18446744073709551616 : Nat) : Int) = suD x y b := by unfold suD; omega
  have e2 : ((if x.toNat < y.toNat + b.toNat then 1 else 0 : Nat) : Int) = suB x y b := by unfold suB; split <;> split <;> omega
  rw [e1, e2]
theorem mul64 (x y : Int) (hx : U64 x) (hy : U64 y) (w : World) :
    Calls Tryz.prog 277 #[.int .u64 x, .int .u64 y] w fun e w' => e = .returned (.tuple #[.int .u64 (muH x y), .int .u64 (muL x y)]) ∧ w' = w := by
  obtain ⟨x0, x1⟩ := hx
  obtain ⟨y0, y1⟩ := hy
  have h := Any.bits_Mul64 Tryz.mul64 x.toNat y.toNat (by omega) (by omega) w
  change Calls Tryz.prog 277 _ _ _ at h
  have ex : ((x.toNat : Nat) : Int) = x := Int.toNat_of_nonneg x0
  have ey : ((y.toNat : Nat) : Int) = y := Int.toNat_of_nonneg y0
  have em : ((x.toNat * y.toNat : Nat) : Int) = x * y := by push_cast; rw [ex, ey]
  rw [ex, ey] at h
  have e1 : ((x.toNat * y.toNat / 18446744073709551616 : Nat) : Int) = muH x y := by unfold muH; rw [← em]; omega
  have e2 : ((x.toNat * y.toNat % 18446744073709551616 : Nat) : Int) = muL x y := by unfold muL; rw [← em]; omega
  rw [e1, e2] at h
  exact h
/-- the value of four words -/
def nv (a0 a1 a2 a3 : Int) : Int := a0 * 6277101735386680763835789423207666416102355444464034512896 + a1 * 340282366920938463463374607431768211456 + a2 * 18446744073709551616 + a3
abbrev num4 (a0 a1 a2 a3 : Int) : Value := .agg #[.int .u64 a0, .int .u64 a1, .int .u64 a2, .int .u64 a3]
end Go.Proofs.YtifdgdgfmjfbdaaGreat
