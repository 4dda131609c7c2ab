/- Walks of Box, Parent, the reference's Parent and Valid, both ValidPoints, index. -/
import Derived.Test.YtpemohoibeipfaaGreatProg
import Derived.Shelf.Spec.BitsCarry
import Derived.Ground.Names7Prog
import Derived.Shelf.Bits.Mul64
import Derived.Ground.NamesProg
import Derived.Shelf.Small.Bits
import Derived.WalkKit
import Derived.WalkSpells
import Derived.WalkLawsBesides
import Derived.Deep.QuietTactic
import Derived.BigQuiet
import Derived.Lib.Hide
import Derived.IntWalk
import Derived.Deep.AppendLies
import Derived.Maps.AppendAt
import Derived.RegionTactic
import Derived.OwnWalk
import Derived.Laws.OwnMore
import Derived.Deep.Draws
import Derived.Laws.BitsAllLaws
import Derived.Laws.BitsLemmas
import Derived.StillTailTactics
import Derived.Deep.LoopGhost
import Derived.Test.YtpemohoibeipfaaGreatHTc
set_option linter.unusedVariables false
set_option linter.unusedSimpArgs false
namespace Go.Proofs.YtpemohoibeipfaaGreat.Trig
/-- is One times the sine of an angle of the first quarter a whole number -/
def exN (n : Int) : Bool := decide (n = 0) || decide (n = 1800000) || decide (n = 5400000)
/-- One times the sine of an angle of the first quarter, rounded down -/
def sF (n : Int) : Int :=
  if n = 0 then 0 else if n = 1800000 then 536870912 else if n = 5400000 then 1073741824
  else if 2 * n ≤ 5400000 then ((quickN n.toNat false / 4294967296 : Nat) : Int) else ((quickN (5400000 - n).toNat true / 4294967296 : Nat) : Int)
/-- the angle of the first quarter, and whether it is turned by half -/
def qrt (n : Int) : Int := if n % 21600000 > 10800000 then (if n % 21600000 - 10800000 > 5400000 then 10800000 - (n % 21600000 - 10800000) else n % 21600000 - 10800000) else (if n % 21600000 > 5400000 then 10800000 - n % 21600000 else n % 21600000)
def sth (n : Int) : Bool := decide (n % 21600000 > 10800000)
def upF (n : Int) : Int := if exN n = true then sF n else sF n + 1
def loB (n : Int) : Int := if sth n = true then - upF (qrt n) else sF (qrt n)
def hiB (n : Int) : Int := if sth n = true then - sF (qrt n) else upF (qrt n)
/-! the reference's way -/
def rq (n : Int) : Int := n % 21600000 / 5400000
def rr (n : Int) : Int := if n % 21600000 % 5400000 > 2700000 then 5400000 - n % 21600000 % 5400000 else n % 21600000 % 5400000
def rc (n : Int) : Bool := if n % 21600000 % 5400000 > 2700000 then !decide (rq n % 2 = 1) else decide (rq n % 2 = 1)
def qv (n : Int) : Int := if rq n ≥ 2 then - (quickN (rr n).toNat (rc n) : Int) else (quickN (rr n).toNat (rc n) : Int)
def rEx (n : Int) : Bool := decide (n % 21600000 % 1800000 = 0) && !(decide (n % 21600000 / 1800000 % 6 = 2) || decide (n % 21600000 / 1800000 % 6 = 4))
def rVal (n : Int) : Int := if n % 21600000 / 1800000 = 0 then 0 else if n % 21600000 / 1800000 = 1 then 536870912 else if n % 21600000 / 1800000 = 3 then 1073741824 else if n % 21600000 / 1800000 = 5 then 536870912 else if n % 21600000 / 1800000 = 6 then 0 else if n % 21600000 / 1800000 = 7 then -536870912 else if n % 21600000 / 1800000 = 9 then -1073741824 else -536870912
theorem same45 : quickN 2700000 true / 4294967296 = quickN 2700000 false / 4294967296 := by decide +kernel
theorem qrt_bd (n : Int) : 0 ≤ qrt n ∧ qrt n ≤ 5400000 := by unfold qrt; omega
theorem ex_same (n : Int) : rEx n = exN (qrt n) := by
  unfold rEx exN qrt
  rw [Bool.eq_iff_iff]
  simp only [Bool.and_eq_true, Bool.or_eq_true, Bool.not_eq_true', Bool.or_eq_false_iff, decide_eq_true_eq, decide_eq_false_iff_not]
  omega
theorem exact_same (n : Int) (h : rEx n = true) : rVal n = loB n ∧ hiB n = loB n := by
  have h2 := h
  rw [ex_same] at h
  unfold loB hiB upF
  rw [h]
  simp only [if_true]
  unfold rEx at h2
  simp only [Bool.and_eq_true, Bool.not_eq_true', Bool.or_eq_false_iff, decide_eq_true_eq, decide_eq_false_iff_not] at h2
  unfold exN at h
  simp only [Bool.or_eq_true, decide_eq_true_eq] at h
  have hs : sF (qrt n) = if qrt n = 0 then 0 else if qrt n = 1800000 then 536870912 else 1073741824 := by
    unfold sF
    rcases h with (h | h) | h <;> rw [h] <;> simp
  rw [hs]
  refine ⟨?_, trivial⟩
  have hm : n % 21600000 = 1800000 * (n % 21600000 / 1800000) := by omega
  have hk : 0 ≤ n % 21600000 / 1800000 ∧ n % 21600000 / 1800000 ≤ 11 := by omega
  unfold rVal sth qrt
  simp only [decide_eq_true_eq]
  generalize n % 21600000 / 1800000 = k at *
  generalize n % 21600000 = m at *
  subst hm
  have : k = 0 ∨ k = 1 ∨ k = 2 ∨ k = 3 ∨ k = 4 ∨ k = 5 ∨ k = 6 ∨ k = 7 ∨ k = 8 ∨ k = 9 ∨ k = 10 ∨ k = 11 := by omega
  rcases this with rfl | rfl | rfl | rfl | rfl | rfl | rfl | rfl | rfl | rfl | rfl | rfl <;> first | (exfalso; omega) | decide
/-- the quick sine of any angle: far from whole numbers, and rounded down -/
theorem quick_far (n : Int) (h : rEx n = false) : farB (quickN (rr n).toNat (rc n)) = true ∧ qv n / 4294967296 = loB n ∧ hiB n = loB n + 1 := by
  have h2 := h
  rw [ex_same] at h
  have hr : 0 ≤ rr n ∧ rr n ≤ 2700000 := by unfold rr; omega
  have hf : farB (quickN (rr n).toNat (rc n)) = true := by
    have h1 : 1 ≤ (rr n).toNat := by
      unfold exN at h
      simp only [Bool.or_eq_false_iff, decide_eq_false_iff_not] at h
      unfold qrt at h
      unfold rr
      omega
    have hh := far_all h1 (show (rr n).toNat ≤ 2700000 by omega)
    cases hc : rc n with
    | true => exact hh.1
    | false =>
      refine hh.2 fun he => ?_
      unfold exN qrt at h
      simp only [Bool.or_eq_false_iff, decide_eq_false_iff_not] at h
      unfold rc rq at hc
      unfold rr at he
      by_cases hm : n % 21600000 % 5400000 > 2700000
      · rw [if_pos hm] at hc he
        simp only [Bool.not_eq_false', decide_eq_true_eq] at hc
        omega
      · rw [if_neg hm] at hc he
        simp only [decide_eq_false_iff_not] at hc
        omega
  refine ⟨hf, ?_⟩
  have hq := qrt_bd n
  -- both ways have the same whole number
  have hs : sF (qrt n) = ((quickN (rr n).toNat (rc n) / 4294967296 : Nat) : Int) := by
    unfold exN at h
    simp only [Bool.or_eq_false_iff, decide_eq_false_iff_not] at h
    unfold sF
    rw [if_neg h.1.1, if_neg h.1.2, if_neg h.2]
    by_cases h45 : n % 21600000 % 5400000 = 2700000
    · have e1 : rr n = 2700000 := by unfold rr; omega
      have e2 : qrt n = 2700000 := by unfold qrt; omega
      rw [e1, e2, if_pos (by omega)]
      show ((quickN 2700000 false / 4294967296 : Nat) : Int) = ((quickN 2700000 (rc n) / 4294967296 : Nat) : Int)
      cases rc n with
      | true => rw [same45]
      | false => rfl
    · have hc : (2 * qrt n ≤ 5400000 ∧ rc n = false ∧ rr n = qrt n) ∨ (¬ 2 * qrt n ≤ 5400000 ∧ rc n = true ∧ rr n = 5400000 - qrt n) := by
        unfold rc rr rq qrt
        by_cases hm : n % 21600000 % 5400000 > 2700000
        · rw [if_pos hm, if_pos hm]
          simp only [Bool.not_eq_false', Bool.not_eq_true', decide_eq_true_eq, decide_eq_false_iff_not]
          omega
        · rw [if_neg hm, if_neg hm]
          simp only [decide_eq_true_eq, decide_eq_false_iff_not]
          omega
      rcases hc with ⟨a, b, c⟩ | ⟨a, b, c⟩
      · rw [if_pos a, b, c]
      · rw [if_neg a, b, c]
  unfold loB hiB upF
  rw [h, hs]
  unfold farB at hf
  rw [Bool.and_eq_true, Nat.ble_eq, Nat.ble_eq] at hf
  have hsq : sth n = decide (rq n ≥ 2) := by
    unfold exN qrt at h
    simp only [Bool.or_eq_false_iff, decide_eq_false_iff_not] at h
    unfold sth rq
    rw [decide_eq_decide]
    omega
  unfold qv
  rw [hsq]
  generalize quickN (rr n).toNat (rc n) = v at *
  by_cases hqq : rq n ≥ 2
  · simp only [hqq, decide_true, if_true]
    constructor
    · simp
      omega
    · simp
      omega
  · simp only [hqq, decide_false, if_false]
    simp
end Go.Proofs.YtpemohoibeipfaaGreat.Trig
namespace Go.Proofs.YtpemohoibeipfaaGreat.Trig
theorem qgo_le {sq : Nat} (h : sq ≤ 4611686018427387904) : ∀ (f t m : Nat), qgo sq f t (m + 1) ≤ t
  | 0, t, m => by simp [qgo]
  | f + 1, t, m => by
    rw [qgo]
    split
    · omega
    · have h1 := tm_le (t := t) (m := m) h
      have h2 := tm_le (t := tm t sq (m + 1)) (m := m + 2) h
      have h3 := qgo_le h f (tm (tm t sq (m + 1)) sq (m + 2 + 1)) (m + 4)
      rw [show m + 1 + 2 = m + 2 + 1 by omega, show m + 1 + 4 = m + 4 + 1 by omega]
      omega
theorem quickN_le {r : Nat} (h : r ≤ 2700000) (b : Bool) : quickN r b ≤ 4611686018427387904 := by
  obtain ⟨x0, x1⟩ := ang_bd h
  have hl := sq_le x0 x1 (sqN_err h)
  have ha : arcN r ≤ 4611686018427387904 := by
    unfold arcN
    omega
  unfold quickN
  cases b with
  | true =>
    rw [if_pos rfl]
    exact qgo_le (by omega) 17 _ 0
  | false =>
    rw [if_neg (by simp)]
    exact Nat.le_trans (qgo_le (by omega) 17 _ 1) ha
theorem sF_bd {q : Int} (h0 : 0 ≤ q) (h1 : q ≤ 5400000) : 0 ≤ sF q ∧ sF q ≤ 1073741824 := by
  unfold sF
  split
  · omega
  split
  · omega
  split
  · omega
  split
  · have := quickN_le (r := q.toNat) (by omega) false
    omega
  · have := quickN_le (r := (5400000 - q).toNat) (by omega) true
    omega
theorem lo_bd (n : Int) : -1073741825 ≤ loB n ∧ loB n ≤ 1073741824 ∧ -1073741824 ≤ hiB n ∧ hiB n ≤ 1073741825 := by
  have hq := qrt_bd n
  have hs := sF_bd hq.1 hq.2
  unfold loB hiB upF
  split <;> split <;> omega
/-- whether an arc has an angle -/
def metB (lo hi n : Int) : Bool := decide ((n - lo) % 21600000 ≤ hi - lo)
/-- the least enclosure of the sine over an arc -/
def enLo (lo hi : Int) : Int := if metB lo hi 16200000 = true then -1073741824 else min (loB lo) (loB hi)
def enHi (lo hi : Int) : Int := if metB lo hi 5400000 = true then 1073741824 else max (hiB lo) (hiB hi)
end Go.Proofs.YtpemohoibeipfaaGreat.Trig
namespace Go.Proofs.YtpemohoibeipfaaGreat.Trig
theorem upF_le {q : Int} (h0 : 0 ≤ q) (h1 : q ≤ 5400000) : upF q ≤ 1073741824 := by
  unfold upF
  split
  · exact (sF_bd h0 h1).2
  · rename_i hx
    have hq : qrt q = q := by unfold qrt; omega
    have hr : rEx q = false := by rw [ex_same, hq]; simpa using hx
    obtain ⟨hf, hv, -⟩ := quick_far q hr
    have hs : sth q = false := by unfold sth; rw [decide_eq_false_iff_not]; omega
    have hl : loB q = sF q := by unfold loB; rw [hs, hq]; simp
    have hrq : ¬ rq q ≥ 2 := by unfold rq; omega
    have hqv : qv q = (quickN (rr q).toNat (rc q) : Int) := by unfold qv; rw [if_neg hrq]
    have hrr : (rr q).toNat ≤ 2700000 := by unfold rr; omega
    have hle := quickN_le hrr (rc q)
    rw [hl, hqv] at hv
    generalize quickN (rr q).toNat (rc q) = Q at *
    have hne : Q ≠ 4611686018427387904 := by
      intro e
      rw [e] at hf
      revert hf
      decide
    omega
theorem hi_le (n : Int) : -1073741824 ≤ loB n ∧ loB n ≤ 1073741824 ∧ -1073741824 ≤ hiB n ∧ hiB n ≤ 1073741824 ∧ loB n ≤ hiB n := by
  have hq := qrt_bd n
  have hs := sF_bd hq.1 hq.2
  have hu := upF_le hq.1 hq.2
  have hw : sF (qrt n) ≤ upF (qrt n) := by unfold upF; split <;> omega
  unfold loB hiB
  split <;> omega
end Go.Proofs.YtpemohoibeipfaaGreat.Trig
namespace Go.Proofs.YtpemohoibeipfaaGreat.Trig
/-- an interval of numbers from -1 to 1 -/
structure Small (x : Int × Int) : Prop where
  lo : -1073741824 ≤ x.1
  le : x.1 ≤ x.2
  hi : x.2 ≤ 1073741824
def snP (a : Int × Int) : Int × Int := (enLo a.1 a.2, enHi a.1 a.2)
def csP (a : Int × Int) : Int × Int := (enLo (a.1 + 5400000) (a.2 + 5400000), enHi (a.1 + 5400000) (a.2 + 5400000))
def mulP (x y : Int × Int) : Int × Int := (min (x.1 * y.1) (min (x.1 * y.2) (min (x.2 * y.1) (x.2 * y.2))) / 1073741824, -(-(max (x.1 * y.1) (max (x.1 * y.2) (max (x.2 * y.1) (x.2 * y.2)))) / 1073741824))
def addP (x y : Int × Int) : Int × Int := (x.1 + y.1, x.2 + y.2)
theorem en_small (lo hi : Int) : Small (enLo lo hi, enHi lo hi) := by
  have h1 := hi_le lo
  have h2 := hi_le hi
  constructor
  · show -1073741824 ≤ enLo lo hi
    unfold enLo; split <;> omega
  · show enLo lo hi ≤ enHi lo hi
    unfold enLo enHi; split <;> split <;> omega
  · show enHi lo hi ≤ 1073741824
    unfold enHi; split <;> omega
theorem snP_small (a : Int × Int) : Small (snP a) := en_small _ _
theorem csP_small (a : Int × Int) : Small (csP a) := en_small _ _
theorem mul_bd {a b : Int} (h0 : -1073741824 ≤ a) (h1 : a ≤ 1073741824) (g0 : -1073741824 ≤ b) (g1 : b ≤ 1073741824) : -1152921504606846976 ≤ a * b ∧ a * b ≤ 1152921504606846976 := by
  have e1 : (1073741824 - a) * (1073741824 + b) ≥ 0 := Int.mul_nonneg (by omega) (by omega)
  have e2 : (1073741824 + a) * (1073741824 - b) ≥ 0 := Int.mul_nonneg (by omega) (by omega)
  have e3 : (1073741824 + a) * (1073741824 + b) ≥ 0 := Int.mul_nonneg (by omega) (by omega)
  have e4 : (1073741824 - a) * (1073741824 - b) ≥ 0 := Int.mul_nonneg (by omega) (by omega)
  have f1 : (1073741824 - a) * (1073741824 + b) = 1152921504606846976 + 1073741824 * b - 1073741824 * a - a * b := by grind
  have f2 : (1073741824 + a) * (1073741824 - b) = 1152921504606846976 - 1073741824 * b + 1073741824 * a - a * b := by grind
  have f3 : (1073741824 + a) * (1073741824 + b) = 1152921504606846976 + 1073741824 * b + 1073741824 * a + a * b := by grind
  have f4 : (1073741824 - a) * (1073741824 - b) = 1152921504606846976 - 1073741824 * b - 1073741824 * a + a * b := by grind
  omega
theorem mulP_small {x y : Int × Int} (hx : Small x) (hy : Small y) : Small (mulP x y) := by
  have hx0 := hx.lo; have hx1 := hx.le; have hx2 := hx.hi
  have hy0 := hy.lo; have hy1 := hy.le; have hy2 := hy.hi
  have m1 := mul_bd (a := x.1) (b := y.1) (by omega) (by omega) (by omega) (by omega)
  have m2 := mul_bd (a := x.1) (b := y.2) (by omega) (by omega) (by omega) (by omega)
  have m3 := mul_bd (a := x.2) (b := y.1) (by omega) (by omega) (by omega) (by omega)
  have m4 := mul_bd (a := x.2) (b := y.2) (by omega) (by omega) (by omega) (by omega)
  unfold mulP
  generalize x.1 * y.1 = p at *
  generalize x.1 * y.2 = q at *
  generalize x.2 * y.1 = r at *
  generalize x.2 * y.2 = s at *
  constructor
  · show -1073741824 ≤ min p (min q (min r s)) / 1073741824
    omega
  · show min p (min q (min r s)) / 1073741824 ≤ -(-(max p (max q (max r s))) / 1073741824)
    omega
  · show -(-(max p (max q (max r s))) / 1073741824) ≤ 1073741824
    omega
/-- the sine of the altitude of a triangle -/
def sinT (lat dec lha : Int × Int) : Int × Int := addP (mulP (snP lat) (snP dec)) (mulP (mulP (csP lat) (csP dec)) (csP lha))
theorem sinT_fv (lat dec lha : Int × Int) : -2147483648 ≤ (sinT lat dec lha).1 ∧ (sinT lat dec lha).1 ≤ (sinT lat dec lha).2 ∧ (sinT lat dec lha).2 ≤ 2147483648 := by
  have h1 := mulP_small (snP_small lat) (snP_small dec)
  have h2 := mulP_small (mulP_small (csP_small lat) (csP_small dec)) (csP_small lha)
  have a := h1.lo; have b := h1.le; have c := h1.hi
  have d := h2.lo; have e := h2.le; have f := h2.hi
  unfold sinT addP
  simp only []
  omega
end Go.Proofs.YtpemohoibeipfaaGreat.Trig
namespace Go.Proofs
open Go.Shelf
def Tryz.lays25_ren : Go.Shelf.Ren := ⟨fun | 25 => 215 | n => n, fun | 22 => 192 | n => n, fun | n => n⟩
theorem Tryz.lays25 : Go.Proofs.Lays7.n25 Tryz.prog Tryz.lays25_ren := {
  mixed := by kernel_rfl
  f25 := Tryz.func215.trans (congrArg some (by kernel_rfl))
  t22 := Tryz.underlying192
  a22 := Tryz.isAgg192
  z22 := Tryz.sizeOf192
  v22 := Tryz.zeroValue192
  i22 := by kernel_rfl }
def Tryz.lays26_ren : Go.Shelf.Ren := ⟨fun | 26 => 217 | n => n, fun | 22 => 192 | n => n, fun | n => n⟩
theorem Tryz.lays26 : Go.Proofs.Lays7.n26 Tryz.prog Tryz.lays26_ren := {
  mixed := by kernel_rfl
  f26 := Tryz.func217.trans (congrArg some (by kernel_rfl))
  t22 := Tryz.underlying192
  a22 := Tryz.isAgg192
  z22 := Tryz.sizeOf192
  v22 := Tryz.zeroValue192
  i22 := by kernel_rfl }
def Tryz.mul64_ren : Go.Shelf.Ren := ⟨fun | 264 => 214 | n => n, fun | 53 => 192 | 46 => 164 | n => n, fun | n => n⟩
theorem Tryz.mul64 : Go.Proofs.Lays.n264 Tryz.prog Tryz.mul64_ren := {
  mixed := by kernel_rfl
  f264 := Tryz.func214.trans (congrArg some (by kernel_rfl))
  t46 := Tryz.underlying164
  a46 := Tryz.isAgg164
  z46 := Tryz.sizeOf164
  v46 := Tryz.zeroValue164
  t53 := Tryz.underlying192
  a53 := Tryz.isAgg192
  z53 := Tryz.sizeOf192
  v53 := Tryz.zeroValue192 }
def Tryz.lz64_ren : Go.Shelf.Ren := ⟨fun | 134 => 236 | 129 => 173 | n => n, fun | 53 => 192 | 3 => 3 | 4 => 4 | 46 => 164 | 5 => 5 | 9 => 9 | n => n, fun | n => n⟩
theorem Tryz.lz64 : Go.Proofs.Lays.n134 Tryz.prog Tryz.lz64_ren := {
  mixed := by kernel_rfl
  f129 := Tryz.func173.trans (congrArg some (by kernel_rfl))
  f134 := Tryz.func236.trans (congrArg some (by kernel_rfl))
  t3 := Tryz.underlying3
  a3 := Tryz.isAgg3
  z3 := Tryz.sizeOf3
  v3 := Tryz.zeroValue3
  t4 := Tryz.underlying4
  a4 := Tryz.isAgg4
  z4 := Tryz.sizeOf4
  v4 := Tryz.zeroValue4
  t5 := Tryz.underlying5
  a5 := Tryz.isAgg5
  z5 := Tryz.sizeOf5
  v5 := Tryz.zeroValue5
  t9 := Tryz.underlying9
  a9 := Tryz.isAgg9
  z9 := Tryz.sizeOf9
  v9 := Tryz.zeroValue9
  t46 := Tryz.underlying164
  a46 := Tryz.isAgg164
  z46 := Tryz.sizeOf164
  v46 := Tryz.zeroValue164
  t53 := Tryz.underlying192
  a53 := Tryz.isAgg192
  z53 := Tryz.sizeOf192
  v53 := Tryz.zeroValue192 }
end Go.Proofs
namespace Go.Proofs.YtpemohoibeipfaaGreat
open Go.RowKit
def pw (l : Int) : Int := 2 ^ l.toNat
theorem pw_bd {l : Int} (h1 : l ≤ 16) : 1 ≤ pw l ∧ pw l ≤ 65536 := by
  unfold pw
  have h : l.toNat ≤ 16 := by omega
  have h2 : (2 : Int) ^ l.toNat ≤ 2 ^ 16 := by exact_mod_cast Nat.pow_le_pow_right (by omega : 0 < 2) h
  have h3 : 0 < (2 : Int) ^ l.toNat := Int.pow_pos (by omega)
  omega
theorem pw_wrap {l : Int} (h1 : l ≤ 16) : IntKind.i64.wrap (2 ^ l.toNat) = pw l := by
  have := pw_bd h1
  exact IntWalk.i64_in _ (by unfold pw at this; omega)
theorem pw_wrap2 {l : Int} (h1 : l ≤ 16) : IntKind.i64.wrap (2 * 2 ^ l.toNat) = 2 * pw l := by
  have := pw_bd h1
  exact IntWalk.i64_in _ (by unfold pw at this; omega)
theorem bl_drewN {B : Nat} {a w : World} (h : Below B a w) (n : Nat) : Below B a (w.drewN n) := ⟨h.os, h.tape, h.output, h.size, h.block⟩
theorem bl_drew {B : Nat} {a w : World} (h : Below B a w) : Below B a w.drew := ⟨h.os, h.tape, h.output, h.size, h.block⟩
theorem bl_alloc (w : World) (o : Obj) : Below w.heap.size w (w.alloc o) := (Below.refl _ _).alloc (Nat.le_refl _) _

/-- a region whose operations but the last ones only read: the world with one draw more, under its name -/
theorem wp_still_tail {P : Program} {id : Nat} {Q : Exit → Act → World → Prop} {a : Act} {w : World} {l : List Oper} (n : Nat) (hm : P.follows .mixedOrders = true) (hB : Region.lexTailB .any l.toArray n = true)
    (h : wpStill P l.toArray w.drew (fun a' => wpList P l.toArray Q (l.drop n) a' w.drew) (l.take n) a) : (Code.region id l.toArray true).wp P Q a w :=
  wp_region_still_tail n hm hB h

/-- which cells are valid -/
def vldB (l r c : Int) : Bool := decide (0 ≤ l ∧ l ≤ 16 ∧ 0 ≤ r ∧ r < pw l ∧ 0 ≤ c ∧ c < 2 * pw l)
theorem vldB_true {l r c : Int} : vldB l r c = true ↔ (0 ≤ l ∧ l ≤ 16 ∧ 0 ≤ r ∧ r < pw l ∧ 0 ≤ c ∧ c < 2 * pw l) := by simp [vldB]
end Go.Proofs.YtpemohoibeipfaaGreat
namespace Go.Proofs.YtpemohoibeipfaaGreat
open Go.RowKit

set_option maxHeartbeats 1000000 in
theorem valid_any (l r c : Int) (w : World) :
    Calls Tryz.prog 60 #[.agg #[.int .i64 l, .int .i64 r, .int .i64 c]] w fun e w' => e = .returned (.bool (vldB l r c)) ∧ Below w.heap.size w w' := by
  have fin : ∀ b : Bool, vldB l r c = b → (Calls Tryz.prog 60 #[.agg #[.int .i64 l, .int .i64 r, .int .i64 c]] w fun e w' => e = .returned (.bool b) ∧ Below w.heap.size w w') →
      Calls Tryz.prog 60 #[.agg #[.int .i64 l, .int .i64 r, .int .i64 c]] w fun e w' => e = .returned (.bool (vldB l r c)) ∧ Below w.heap.size w w' := fun b h hc => by rw [h]; exact hc
  by_cases h0 : 0 ≤ l
  · by_cases h1 : l ≤ 16
    · have e1 := pw_wrap h1
      have e2 := pw_wrap2 h1
      by_cases h2 : 0 ≤ r
      · by_cases h3 : r < pw l
        · by_cases h4 : 0 ≤ c
          · by_cases h5 : c < 2 * pw l
            · refine fin true (by simp [vldB, h0, h1, h2, h3, h4, h5]) ?_
              clear fin
              go_enter Tryz.func60, Tryz.ntmps60
              go_wp2
              go_quiet (fail)
              go_wp2
              go_ret
              exact ⟨rfl, bl_drewN (bl_alloc _ _) _⟩
            · refine fin false (by simp [vldB, h0, h1, h2, h3, h4, h5]) ?_
              clear fin
              have hd := decide_eq_false h5
              go_enter Tryz.func60, Tryz.ntmps60
              go_wp2
              go_quiet (fail)
              go_wp2
              go_ret
              exact ⟨rfl, bl_drewN (bl_alloc _ _) _⟩
          · refine fin false (by simp [vldB, h0, h1, h2, h3, h4]) ?_
            clear fin
            have hd := decide_eq_false h4
            go_enter Tryz.func60, Tryz.ntmps60
            go_wp2
            go_quiet (fail)
            go_wp2
            go_ret
            exact ⟨rfl, bl_drewN (bl_alloc _ _) _⟩
        · refine fin false (by simp [vldB, h0, h1, h2, h3]) ?_
          clear fin
          have hd := decide_eq_false h3
          go_enter Tryz.func60, Tryz.ntmps60
          go_wp2
          go_quiet (fail)
          go_wp2
          go_ret
          exact ⟨rfl, bl_drewN (bl_alloc _ _) _⟩
      · refine fin false (by simp [vldB, h0, h1, h2]) ?_
        clear fin
        have hd := decide_eq_false h2
        go_enter Tryz.func60, Tryz.ntmps60
        go_wp2
        go_quiet (fail)
        go_wp2
        go_ret
        exact ⟨rfl, bl_drewN (bl_alloc _ _) _⟩
    · refine fin false (by simp [vldB, h0, h1]) ?_
      clear fin
      have hd := decide_eq_false h1
      go_enter Tryz.func60, Tryz.ntmps60
      go_wp2
      go_quiet (fail)
      go_wp2
      go_ret
      exact ⟨rfl, bl_drewN (bl_alloc _ _) _⟩
  · refine fin false (by simp [vldB, h0]) ?_
    clear fin
    have hd := decide_eq_false h0
    go_enter Tryz.func60, Tryz.ntmps60
    go_wp2
    go_quiet (fail)
    go_wp2
    go_ret
    exact ⟨rfl, bl_drewN (bl_alloc _ _) _⟩
end Go.Proofs.YtpemohoibeipfaaGreat
namespace Go.Proofs.YtpemohoibeipfaaGreat
open Go.RowKit
theorem ret_int {k : IntKind} {a b : Int} (h : a = b) : Ending.returned (.int k a) = .returned (.int k b) := by rw [h]
def edg (i l : Int) : Int := i * 10800000 / pw l
theorem edg_bd {i l : Int} (h1 : l ≤ 16) (h2 : 0 ≤ i) (h3 : i ≤ 2 * pw l) : 0 ≤ edg i l ∧ edg i l ≤ 21600000 := by
  have hp := pw_bd h1
  unfold edg
  refine ⟨Int.ediv_nonneg (by omega) (by omega), ?_⟩
  have : i * 10800000 / pw l ≤ (21600000 * pw l) / pw l := Int.ediv_le_ediv (by omega) (by omega)
  rwa [Int.mul_ediv_cancel _ (by omega)] at this

set_option maxHeartbeats 400000 in
theorem edge_any (i l : Int) (w : World) (h0 : 0 ≤ l) (h1 : l ≤ 16) (h2 : 0 ≤ i) (h3 : i ≤ 131072) :
    Calls Tryz.prog 88 #[.int .i64 i, .int .i64 l] w fun e w' => e = .returned (.int .i64 (edg i l)) ∧ w' = w := by
  go_enter Tryz.func88, Tryz.ntmps88
  go_wp2
  go_ret
  exact ⟨rfl, rfl⟩
set_option maxHeartbeats 400000 in
theorem bound_any (i l : Int) (w : World) (h0 : 0 ≤ l) (h1 : l ≤ 16) (h2 : 0 ≤ i) (h3 : i ≤ 131072) :
    Calls Tryz.prog 144 #[.int .i64 i, .int .i64 l] w fun e w' => e = .returned (.int .i64 (edg i l)) ∧ w' = w := by
  go_enter Tryz.func144, Tryz.ntmps144
  go_wp2
  go_ret
  exact ⟨rfl, rfl⟩

/-- the box of a cell, as a value -/
def boxV (l r c : Int) : Value := .agg #[.int .i64 (edg r l - 5400000), .int .i64 (edg (r + 1) l - 5400000), .int .i64 (edg c l - 10800000), .int .i64 (edg (c + 1) l - 10800000)]

set_option maxHeartbeats 400000 in
set_option maxRecDepth 100000 in
theorem box_any (l r c : Int) (w : World) (hv : vldB l r c = true) :
    Calls Tryz.prog 50 #[.agg #[.int .i64 l, .int .i64 r, .int .i64 c]] w fun e w' => e = .returned (boxV l r c) ∧ Below w.heap.size w w' := by
  obtain ⟨h0, h1, h2, h3, h4, h5⟩ := vldB_true.1 hv
  clear hv
  have hp := pw_bd h1
  have b1 := edg_bd (i := r) h1 (by omega) (by omega)
  have b2 := edg_bd (i := r + 1) h1 (by omega) (by omega)
  have b3 := edg_bd (i := c) h1 (by omega) (by omega)
  have b4 := edg_bd (i := c + 1) h1 (by omega) (by omega)
  have r1 : r ≤ 131072 := by omega
  have r2 : 0 ≤ r + 1 := by omega
  have r3 : r + 1 ≤ 131072 := by omega
  have c1 : c ≤ 131072 := by omega
  have c2 : 0 ≤ c + 1 := by omega
  have c3 : c + 1 ≤ 131072 := by omega
  have s1 : IntKind.i64.wrap (r + 1) = r + 1 := IntWalk.i64_in _ (by omega)
  have s2 : IntKind.i64.wrap (c + 1) = c + 1 := IntWalk.i64_in _ (by clear s1; omega)
  have s3 : IntKind.i64.wrap (edg r l - 5400000) = edg r l - 5400000 := IntWalk.i64_in _ (by clear s1 s2; omega)
  have s4 : IntKind.i64.wrap (edg (r + 1) l - 5400000) = edg (r + 1) l - 5400000 := IntWalk.i64_in _ (by clear s1 s2 s3; omega)
  have s5 : IntKind.i64.wrap (edg c l - 10800000) = edg c l - 10800000 := IntWalk.i64_in _ (by clear s1 s2 s3 s4; omega)
  have s6 : IntKind.i64.wrap (edg (c + 1) l - 10800000) = edg (c + 1) l - 10800000 := IntWalk.i64_in _ (by clear s1 s2 s3 s4 s5; omega)
  clear b1 b2 b3 b4 hp h3 h5
  go_enter Tryz.func50, Tryz.ntmps50
  go_wp2
  refine wp_still_tail 29 (by kernel_rfl) (by kernel_rfl) ?_
  simp only [List.take_succ_cons, List.take_zero, List.drop_succ_cons, List.drop_zero]
  repeat (first | still_step | still_call (edge_any _ _ _ h0 h1 (by assumption) (by assumption)))
  refine wpStill_nil ?_
  go_wp2
  refine bodyPost_ret (v := boxV l r c) (by simp [results, Tryz.results50, go_sem, boxV]) rfl ⟨rfl, ?_⟩
  repeat (first | exact Below.refl _ _ | refine bl_drew ?_ | refine bl_drewN ?_ _ | refine Below.setCell ?_ (by simp <;> omega) _ | refine Below.alloc ?_ (by simp <;> omega) _)
set_option maxHeartbeats 400000 in
set_option maxRecDepth 100000 in
theorem refBox_any (l r c : Int) (w : World) (hv : vldB l r c = true) :
    Calls Tryz.prog 101 #[.agg #[.int .i64 l, .int .i64 r, .int .i64 c]] w fun e w' => e = .returned (boxV l r c) ∧ Below w.heap.size w w' := by
  obtain ⟨h0, h1, h2, h3, h4, h5⟩ := vldB_true.1 hv
  clear hv
  have hp := pw_bd h1
  have b1 := edg_bd (i := r) h1 (by omega) (by omega)
  have b2 := edg_bd (i := r + 1) h1 (by omega) (by omega)
  have b3 := edg_bd (i := c) h1 (by omega) (by omega)
  have b4 := edg_bd (i := c + 1) h1 (by omega) (by omega)
  have r1 : r ≤ 131072 := by omega
  have r2 : 0 ≤ r + 1 := by omega
  have r3 : r + 1 ≤ 131072 := by omega
  have c1 : c ≤ 131072 := by omega
  have c2 : 0 ≤ c + 1 := by omega
  have c3 : c + 1 ≤ 131072 := by omega
  have s1 : IntKind.i64.wrap (r + 1) = r + 1 := IntWalk.i64_in _ (by omega)
  have s2 : IntKind.i64.wrap (c + 1) = c + 1 := IntWalk.i64_in _ (by clear s1; omega)
  have s3 : IntKind.i64.wrap (edg r l - 5400000) = edg r l - 5400000 := IntWalk.i64_in _ (by clear s1 s2; omega)
  have s4 : IntKind.i64.wrap (edg (r + 1) l - 5400000) = edg (r + 1) l - 5400000 := IntWalk.i64_in _ (by clear s1 s2 s3; omega)
  have s5 : IntKind.i64.wrap (edg c l - 10800000) = edg c l - 10800000 := IntWalk.i64_in _ (by clear s1 s2 s3 s4; omega)
  have s6 : IntKind.i64.wrap (edg (c + 1) l - 10800000) = edg (c + 1) l - 10800000 := IntWalk.i64_in _ (by clear s1 s2 s3 s4 s5; omega)
  clear b1 b2 b3 b4 hp h3 h5
  go_enter Tryz.func101, Tryz.ntmps101
  go_wp2
  refine wp_still_tail 29 (by kernel_rfl) (by kernel_rfl) ?_
  simp only [List.take_succ_cons, List.take_zero, List.drop_succ_cons, List.drop_zero]
  repeat (first | still_step | still_call (bound_any _ _ _ h0 h1 (by assumption) (by assumption)))
  refine wpStill_nil ?_
  go_wp2
  refine bodyPost_ret (v := boxV l r c) (by simp [results, Tryz.results101, go_sem, boxV]) rfl ⟨rfl, ?_⟩
  repeat (first | exact Below.refl _ _ | refine bl_drew ?_ | refine bl_drewN ?_ _ | refine Below.setCell ?_ (by simp <;> omega) _ | refine Below.alloc ?_ (by simp <;> omega) _)
end Go.Proofs.YtpemohoibeipfaaGreat
namespace Go.Proofs.YtpemohoibeipfaaGreat
open Go.RowKit
theorem bcell {W w1 : World} (hb : Below W.heap.size W w1) : (∀ b o, b < W.heap.size → w1.cell? ⟨b, o, none⟩ = W.cell? ⟨b, o, none⟩) ∧ (∀ b o, b < W.heap.size → w1.frozen? ⟨b, o, none⟩ = W.frozen? ⟨b, o, none⟩) :=
  ⟨fun b o h => hb.cell (p := ⟨b, o, none⟩) h, fun b o h => hb.frozen (p := ⟨b, o, none⟩) h⟩
theorem valid_yes (l r c : Int) (hv : vldB l r c = true) (w : World) : Calls Tryz.prog 60 #[.agg #[.int .i64 l, .int .i64 r, .int .i64 c]] w fun e w' => e = .returned (.bool true) ∧ Below w.heap.size w w' := by
  rw [← hv]; exact valid_any l r c w
theorem valid_no (l r c : Int) (hv : vldB l r c = false) (w : World) : Calls Tryz.prog 60 #[.agg #[.int .i64 l, .int .i64 r, .int .i64 c]] w fun e w' => e = .returned (.bool false) ∧ Below w.heap.size w w' := by
  rw [← hv]; exact valid_any l r c w

/-- what the caller's two first blocks keep -/
theorem two_lt {w w1 : World} {o1 o2 : Obj} (hb : Below ((w.alloc o1).alloc o2).heap.size ((w.alloc o1).alloc o2) w1) : w.heap.size < w1.heap.size ∧ w.heap.size + 1 < w1.heap.size := by
  have := hb.size
  simp at this
  omega
theorem two_bl {w w1 : World} {o1 o2 : Obj} (hb : Below ((w.alloc o1).alloc o2).heap.size ((w.alloc o1).alloc o2) w1) : Below w.heap.size w w1 :=
  (((Below.refl _ _).alloc (Nat.le_refl _) _).alloc (by simp) _).trans (hb.mono (by simp; omega))

theorem one_lt {w w1 : World} {o1 : Obj} (hb : Below (w.alloc o1).heap.size (w.alloc o1) w1) : w.heap.size < w1.heap.size := by
  have := hb.size
  simp at this
  omega
theorem one_bl {w w1 : World} {o1 : Obj} (hb : Below (w.alloc o1).heap.size (w.alloc o1) w1) : Below w.heap.size w w1 :=
  ((Below.refl _ _).alloc (Nat.le_refl _) _).trans (hb.mono (by simp))
set_option maxHeartbeats 400000 in
theorem Box_no (l r c : Int) (w : World) (hv : vldB l r c = false) :
    Calls Tryz.prog 26 #[.agg #[.int .i64 l, .int .i64 r, .int .i64 c]] w fun e w' => e = .returned (.tuple #[.agg #[.int .i64 0, .int .i64 0, .int .i64 0, .int .i64 0], .int .i64 1]) ∧ Below w.heap.size w w' := by
  have V := Lib.hid (valid_no l r c hv)
  clear hv
  go_enter Tryz.func26, Tryz.ntmps26
  go_wp2_with (go_at_call 60; refine (V.out _).mono ?_; rintro e w1 ⟨rfl, hb⟩; obtain ⟨hc, hf⟩ := bcell hb; obtain ⟨hz0, hz1⟩ := two_lt hb)
  refine bodyPost_ret (v := .tuple #[.agg #[.int .i64 0, .int .i64 0, .int .i64 0, .int .i64 0], .int .i64 1]) (by simp [results, Tryz.results26, go_sem, hc]) rfl ⟨rfl, ?_⟩
  have hb1 := two_bl hb
  repeat (first | exact Below.refl _ _ | assumption | refine bl_drew ?_ | refine bl_drewN ?_ _ | refine Below.setCell ?_ (by first | assumption | omega | (simp; done) | (simp; omega)) _ | refine Below.alloc ?_ (by first | assumption | omega | (simp; done) | (simp; omega)) _)
set_option maxHeartbeats 400000 in
theorem Box_yes (l r c : Int) (w : World) (hv : vldB l r c = true) :
    Calls Tryz.prog 26 #[.agg #[.int .i64 l, .int .i64 r, .int .i64 c]] w fun e w' => e = .returned (.tuple #[boxV l r c, .int .i64 0]) ∧ Below w.heap.size w w' := by
  have V := Lib.hid (valid_yes l r c hv)
  have B := Lib.hid (fun w => box_any l r c w hv)
  clear hv
  unfold boxV at B ⊢
  go_enter Tryz.func26, Tryz.ntmps26
  go_wp2_with (first | (go_at_call 60; refine (V.out _).mono ?_; rintro e w1 ⟨rfl, hb⟩; obtain ⟨hc, hf⟩ := bcell hb; obtain ⟨hz0, hz1⟩ := two_lt hb) | (go_at_call 50; refine (B.out _).mono ?_; rintro e w2 ⟨rfl, hb2⟩; obtain ⟨hc2, hf2⟩ := bcell hb2))
  refine bodyPost_ret (v := .tuple #[.agg #[.int .i64 (edg r l - 5400000), .int .i64 (edg (r + 1) l - 5400000), .int .i64 (edg c l - 10800000), .int .i64 (edg (c + 1) l - 10800000)], .int .i64 0]) (by simp [results, Tryz.results26, go_sem, hc, hc2, hz1]) rfl ⟨rfl, ?_⟩
  have hb1 := (two_bl hb).trans (hb2.mono (by omega))
  repeat (first | exact Below.refl _ _ | assumption | refine bl_drew ?_ | refine bl_drewN ?_ _ | refine Below.setCell ?_ (by first | assumption | omega | (simp; done) | (simp; omega)) _ | refine Below.alloc ?_ (by first | assumption | omega | (simp; done) | (simp; omega)) _)
end Go.Proofs.YtpemohoibeipfaaGreat
