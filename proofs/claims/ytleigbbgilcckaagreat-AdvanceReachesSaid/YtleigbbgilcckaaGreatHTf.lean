/- Plain: One times the sine of any angle, rounded down and up; the reference's way and the program's. No program in sight. -/
import Derived.Test.YtleigbbgilcckaaGreatHTc
set_option linter.unusedVariables false
set_option linter.unusedSimpArgs false
namespace Go.Proofs.YtleigbbgilcckaaGreat.Trig
/-- is One times the sine of an angle of the first quarter a whole number -/
def exN (n : Int) : Bool := decide (n = 0) || decide (n = 1800000) || decide (n = 5400000)
/-- One times the sine of an angle of the first quarter, rounded down -/
def sF (n : Int) : Int :=
  if n = 0 then 0 else if n = 1800000 then 536870912 else if n = 5400000 then 1073741824
  else if 2 * n ≤ 5400000 then ((quickN n.toNat false / 4294967296 : Nat) : Int) else ((quickN (5400000 - n).toNat true / 4294967296 : Nat) : Int)
/-- the angle of the first quarter, and whether it is turned by half -/
def qrt (n : Int) : Int := if n % 21600000 > 10800000 then (if n % 21600000 - 10800000 > 5400000 then 10800000 - (n % 21600000 - 10800000) else n % 21600000 - 10800000) else (if n % 21600000 > 5400000 then 10800000 - n % 21600000 else n % 21600000)
def sth (n : Int) : Bool := decide (n % 21600000 > 10800000)
def upF (n : Int) : Int := if exN n = true then sF n else sF n + 1
def loB (n : Int) : Int := if sth n = true then - upF (qrt n) else sF (qrt n)
def hiB (n : Int) : Int := if sth n = true then - sF (qrt n) else upF (qrt n)
/-! the reference's way -/
def rq (n : Int) : Int := n % 21600000 / 5400000
def rr (n : Int) : Int := if n % 21600000 % 5400000 > 2700000 then 5400000 - n % 21600000 % 5400000 else n % 21600000 % 5400000
def rc (n : Int) : Bool := if n % 21600000 % 5400000 > 2700000 then !decide (rq n % 2 = 1) else decide (rq n % 2 = 1)
def qv (n : Int) : Int := if rq n ≥ 2 then - (quickN (rr n).toNat (rc n) : Int) else (quickN (rr n).toNat (rc n) : Int)
def rEx (n : Int) : Bool := decide (n % 21600000 % 1800000 = 0) && !(decide (n % 21600000 / 1800000 % 6 = 2) || decide (n % 21600000 / 1800000 % 6 = 4))
def rVal (n : Int) : Int := if n % 21600000 / 1800000 = 0 then 0 else if n % 21600000 / 1800000 = 1 then 536870912 else if n % 21600000 / 1800000 = 3 then 1073741824 else if n % 21600000 / 1800000 = 5 then 536870912 else if n % 21600000 / 1800000 = 6 then 0 else if n % 21600000 / 1800000 = 7 then -536870912 else if n % 21600000 / 1800000 = 9 then -1073741824 else -536870912
theorem same45 : quickN 2700000 true / 4294967296 = quickN 2700000 false / 4294967296 := by decide +kernel
theorem qrt_bd (n : Int) : 0 ≤ qrt n ∧ qrt n ≤ 5400000 := by unfold qrt; omega
theorem ex_same (n : Int) : rEx n = exN (qrt n) := by
  unfold rEx exN qrt
  rw [Bool.eq_iff_iff]
  simp only [Bool.and_eq_true, Bool.or_eq_true, Bool.not_eq_true', Bool.or_eq_false_iff, decide_eq_true_eq, decide_eq_false_iff_not]
  omega
theorem exact_same (n : Int) (h : rEx n = true) : rVal n = loB n ∧ hiB n = loB n := by
  have h2 := h
  rw [ex_same] at h
  unfold loB hiB upF
  rw [h]
  simp only [if_true]
  unfold rEx at h2
  simp only [Bool.and_eq_true, Bool.not_eq_true', Bool.or_eq_false_iff, decide_eq_true_eq, decide_eq_false_iff_not] at h2
  unfold exN at h
  simp only [Bool.or_eq_true, decide_eq_true_eq] at h
  have hs : sF (qrt n) = if qrt n = 0 then 0 else if qrt n = 1800000 then 536870912 else 1073741824 := by
    unfold sF
    rcases h with (h | h) | h <;> rw [h] <;> simp
  rw [hs]
  refine ⟨?_, trivial⟩
  have hm : n % 21600000 = 1800000 * (n % 21600000 / 1800000) := by omega
  have hk : 0 ≤ n % 21600000 / 1800000 ∧ n % 21600000 / 1800000 ≤ 11 := by omega
  unfold rVal sth qrt
  simp only [decide_eq_true_eq]
  generalize n % 21600000 / 1800000 = k at *
  generalize n % 21600000 = m at *
  subst hm
  have : k = 0 ∨ k = 1 ∨ k = 2 ∨ k = 3 ∨ k = 4 ∨ k = 5 ∨ k = 6 ∨ k = 7 ∨ k = 8 ∨ k = 9 ∨ k = 10 ∨ k = 11 := by omega
  rcases this with rfl | rfl | rfl | rfl | rfl | rfl | rfl | rfl | rfl | rfl | rfl | rfl <;> first | (exfalso; omega) | decide
/-- the quick sine of any angle: far from whole numbers, and rounded down -/
theorem quick_far (n : Int) (h : rEx n = false) : farB (quickN (rr n).toNat (rc n)) = true ∧ qv n / 4294967296 = loB n ∧ hiB n = loB n + 1 := by
  have h2 := h
  rw [ex_same] at h
  have hr : 0 ≤ rr n ∧ rr n ≤ 2700000 := by unfold rr; omega
  have hf : farB (quickN (rr n).toNat (rc n)) = true := by
    have h1 : 1 ≤ (rr n).toNat := by
      unfold exN at h
      simp only [Bool.or_eq_false_iff, decide_eq_false_iff_not] at h
      unfold qrt at h
      unfold rr
      omega
    have hh := far_all h1 (show (rr n).toNat ≤ 2700000 by omega)
    cases hc : rc n with
    | true => exact hh.1
    | false =>
      refine hh.2 fun he => ?_
      unfold exN qrt at h
      simp only [Bool.or_eq_false_iff, decide_eq_false_iff_not] at h
      unfold rc rq at hc
      unfold rr at he
      by_cases hm : n % 21600000 % 5400000 > 2700000
      · rw [if_pos hm] at hc he
        simp only [Bool.not_eq_false', decide_eq_true_eq] at hc
        omega
      · rw [if_neg hm] at hc he
        simp only [decide_eq_false_iff_not] at hc
        omega
  refine ⟨hf, ?_⟩
  have hq := qrt_bd n
  -- both ways have the same whole number
  have hs : sF (qrt n) = ((quickN (rr n).toNat (rc n) / 4294967296 : Nat) : Int) := by
    unfold exN at h
    simp only [Bool.or_eq_false_iff, decide_eq_false_iff_not] at h
    unfold sF
    rw [if_neg h.1.1, if_neg h.1.2, if_neg h.2]
    by_cases h45 : n % 21600000 % 5400000 = 2700000
    · have e1 : rr n = 2700000 := by unfold rr; omega
      have e2 : qrt n = 2700000 := by unfold qrt; omega
      rw [e1, e2, if_pos (by omega)]
      show ((quickN 2700000 false / 4294967296 : Nat) : Int) = ((quickN 2700000 (rc n) / 4294967296 : Nat) : Int)
      cases rc n with
      | true => rw [same45]
      | false => rfl
    · have hc : (2 * qrt n ≤ 5400000 ∧ rc n = false ∧ rr n = qrt n) ∨ (¬ 2 * qrt n ≤ 5400000 ∧ rc n = true ∧ rr n = 5400000 - qrt n) := by
        unfold rc rr rq qrt
        by_cases hm : n % 21600000 % 5400000 > 2700000
        · rw [if_pos hm, if_pos hm]
          simp only [Bool.not_eq_false', Bool.not_eq_true', decide_eq_true_eq, decide_eq_false_iff_not]
          omega
        · rw [if_neg hm, if_neg hm]
          simp only [decide_eq_true_eq, decide_eq_false_iff_not]
          omega
      rcases hc with ⟨a, b, c⟩ | ⟨a, b, c⟩
      · rw [if_pos a, b, c]
      · rw [if_neg a, b, c]
  unfold loB hiB upF
  rw [h, hs]
  unfold farB at hf
  rw [Bool.and_eq_true, Nat.ble_eq, Nat.ble_eq] at hf
  have hsq : sth n = decide (rq n ≥ 2) := by
    unfold exN qrt at h
    simp only [Bool.or_eq_false_iff, decide_eq_false_iff_not] at h
    unfold sth rq
    rw [decide_eq_decide]
    omega
  unfold qv
  rw [hsq]
  generalize quickN (rr n).toNat (rc n) = v at *
  by_cases hqq : rq n ≥ 2
  · simp only [hqq, decide_true, if_true]
    constructor
    · simp
      omega
    · simp
      omega
  · simp only [hqq, decide_false, if_false]
    simp
end Go.Proofs.YtleigbbgilcckaaGreat.Trig
