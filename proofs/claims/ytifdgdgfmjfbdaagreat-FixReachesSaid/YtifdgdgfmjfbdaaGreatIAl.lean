/- The walks of fix.Bounds and fix.Center, any cells. -/
import Derived.Test.YtifdgdgfmjfbdaaGreatITf
import Derived.Test.YtifdgdgfmjfbdaaGreatIAi
import Derived.Test.YtifdgdgfmjfbdaaGreatIHk
import Derived.Test.YtifdgdgfmjfbdaaGreatIGi
import Derived.Test.YtifdgdgfmjfbdaaGreatIAq
set_option linter.unusedVariables false
set_option linter.unusedSimpArgs false
namespace Go.Proofs.YtifdgdgfmjfbdaaGreat.Trig
theorem sin01 {x : Rat} (h : 0 ≤ x) (h1 : x ≤ 1) : 0 ≤ sinP x ∧ sinP x ≤ 1 := by
  rw [sin_alt]
  obtain ⟨a, b⟩ := alt_bd h h1 35 1
  exact ⟨a, Rat.le_trans b (mo_le1 h h1 1)⟩
theorem cos01 {x : Rat} (h : 0 ≤ x) (h1 : x ≤ 1) : 0 ≤ cosP x ∧ cosP x ≤ 1 := by
  rw [cos_alt]
  obtain ⟨a, b⟩ := alt_bd h h1 35 0
  exact ⟨a, Rat.le_trans b (mo_le1 h h1 0)⟩
theorem sq_near1 {v a E : Rat} (hv : 0 ≤ v ∧ v ≤ 1) (hE : 0 ≤ E) (hn : v - a ≤ E) : v * v ≤ a * a + 2 * E := by
  have h1 : 0 ≤ (1 - v) * E := Rat.mul_nonneg (by grind) hE
  have h2 : 0 ≤ v * (E - (v - a)) := Rat.mul_nonneg hv.1 (by grind)
  have h3 : 0 ≤ (v - a) * (v - a) := by
    by_cases h : 0 ≤ v - a
    · exact Rat.mul_nonneg h h
    · have := Rat.mul_nonneg (a := a - v) (b := a - v) (by grind) (by grind)
      grind
  grind
theorem pyth_step {x h : Rat} (hx : 0 ≤ x) (hh : 0 ≤ h) (h1 : x + h ≤ 1) (hs : h ≤ 1 / 10000) :
    sinP (x + h) * sinP (x + h) + cosP (x + h) * cosP (x + h) ≤ sinP x * sinP x + cosP x * cosP x + 1 / 1000000000000000 := by
  have e1 := (sin_shift hx hh h1 hs).1
  have e2 := (cos_shift hx hh h1 hs).1
  have s1 := sin01 (x := x + h) (by grind) h1
  have c1 := cos01 (x := x + h) (by grind) h1
  have q0 : 0 ≤ h * h := Rat.mul_nonneg hh hh
  have q1 : h * h ≤ 1 / 100000000 := by
    have := Rat.mul_nonneg hh (show 0 ≤ 1 / 10000 - h by grind)
    grind
  have r0 : 0 ≤ h * h * (h * h) := Rat.mul_nonneg q0 q0
  have r1 : h * h * (h * h) ≤ 1 / 10000000000000000 := by
    have := Rat.mul_nonneg q0 (show 0 ≤ 1 / 100000000 - h * h by grind)
    grind
  have t0 : 0 ≤ h * h * (h * h) * (1 / 12 - h * h / 36) := Rat.mul_nonneg r0 (by grind)
  have f1 := sq_near1 s1 (E := h * h * h * h * (3 / 5) + 1 / 2 ^ 65 / 2) (by grind) e1
  have f2 := sq_near1 c1 (E := h * h * h * h * (3 / 5) + 1 / 2 ^ 65 / 2) (by grind) e2
  have ev : 0 ≤ sinP x * sinP x + cosP x * cosP x := by
    have s2 := sin01 hx (by grind)
    have c2 := cos01 hx (by grind)
    have := Rat.mul_nonneg s2.1 s2.1
    have := Rat.mul_nonneg c2.1 c2.1
    grind
  have g0 := Rat.mul_nonneg ev t0
  generalize sinP (x + h) = s' at *
  generalize cosP (x + h) = c' at *
  generalize sinP x = s at *
  generalize cosP x = c at *
  have id1 : (s + h * c - h * h / 2 * s - h * h * h / 6 * c) * (s + h * c - h * h / 2 * s - h * h * h / 6 * c) + (c - h * s - h * h / 2 * c + h * h * h / 6 * s) * (c - h * s - h * h / 2 * c + h * h * h / 6 * s) = (s * s + c * c) - (s * s + c * c) * (h * h * (h * h) * (1 / 12 - h * h / 36)) := by grind
  have id2 : h * h * h * h = h * h * (h * h) := by grind
  rw [id2] at f1 f2
  have k65 : (1 : Rat) / 2 ^ 65 / 2 ≤ 1 / 36893488147419103232 := by decide +kernel
  grind
theorem pyth_le : ∀ (n : Nat) (x : Rat), 0 ≤ x → x * 10000 ≤ (n : Rat) → x ≤ 1 → sinP x * sinP x + cosP x * cosP x ≤ 1 + (n : Rat) * (1 / 1000000000000000)
  | 0, x, h0, h1, _ => by
    have : x = 0 := by
      have h1' : x * 10000 ≤ 0 := by simpa using h1
      grind
    subst this
    decide +kernel
  | n + 1, x, h0, h1, h2 => by
    have h1' : x * 10000 ≤ (n : Rat) + 1 := by simpa using h1
    have hc : ((n + 1 : Nat) : Rat) = (n : Rat) + 1 := by simp
    rw [hc]
    have hn := c0 n
    by_cases hx : 1 / 10000 ≤ x
    · have ih := pyth_le n (x - 1 / 10000) (by grind) (by grind) (by grind)
      have := pyth_step (x := x - 1 / 10000) (h := 1 / 10000) (by grind) (by decide +kernel) (by grind) (by grind)
      rw [show x - 1 / 10000 + 1 / 10000 = x by grind] at this
      grind
    · have := pyth_step (x := 0) (h := x) (by grind) h0 (by grind) (by grind)
      rw [show 0 + x = x by grind] at this
      have z : sinP 0 * sinP 0 + cosP 0 * cosP 0 ≤ 1 := by decide +kernel
      grind
theorem sq_le2 {A s : Rat} (h0 : 0 ≤ A) (h : A * 4294967296 ≤ s * 4611686018427387904 + 75) (hs : 0 ≤ s ∧ s ≤ 1) : A * A ≤ s * s * 1152921504606846976 + 75 := by
  have h1 : 0 ≤ A * (s * 1073741824 + 75 / 4294967296 - A) := Rat.mul_nonneg h0 (by grind)
  have h2 : 0 ≤ (s * 1073741824 + 75 / 4294967296) * (s * 1073741824 + 75 / 4294967296 - A) := Rat.mul_nonneg (by grind) (by grind)
  grind
theorem quick_pyth {r : Nat} (h : r ≤ 2700000) : (quickN r false / 4294967296) * (quickN r false / 4294967296) + (quickN r true / 4294967296) * (quickN r true / 4294967296) ≤ 1152921505680588799 := by
  obtain ⟨x0, x1⟩ := ang_bd h
  have hs := (quick_sin h).1
  have hc := (quick_cos h).1
  have hv := pyth_le 8000 ((r : Rat) * th) x0 (by grind) (by grind)
  have s1 := sin01 x0 (by grind)
  have c1 := cos01 x0 (by grind)
  generalize sinP ((r : Rat) * th) = s at *
  generalize cosP ((r : Rat) * th) = c at *
  have ds := Nat.div_mul_le_self (quickN r false) 4294967296
  have dc := Nat.div_mul_le_self (quickN r true) 4294967296
  generalize quickN r false = a at *
  generalize quickN r true = b at *
  generalize a / 4294967296 = A at *
  generalize b / 4294967296 = B at *
  have ds' : (A : Rat) * 4294967296 ≤ (a : Rat) := by exact_mod_cast ds
  have dc' : (B : Rat) * 4294967296 ≤ (b : Rat) := by exact_mod_cast dc
  have hY : (Y : Rat) = 4611686018427387904 := by decide +kernel
  rw [hY] at hs hc
  have kA : (A : Rat) * 4294967296 ≤ s * 4611686018427387904 + 75 := by grind
  have kB : (B : Rat) * 4294967296 ≤ c * 4611686018427387904 + 75 := by grind
  have sqA := sq_le2 (c0 A) kA s1
  have sqB := sq_le2 (c0 B) kB c1
  have hv' : s * s + c * c ≤ 1 + 1 / 100000000000 := by
    have : ((8000 : Nat) : Rat) * (1 / 1000000000000000) ≤ 1 / 100000000000 := by decide +kernel
    grind
  have fin : (A : Rat) * (A : Rat) + (B : Rat) * (B : Rat) ≤ 1152921505680588799 := by grind
  exact_mod_cast fin
theorem sF_half {q : Int} (h0 : 0 ≤ q) (h1 : q ≤ 2700000) : sF q * sF q + sF (5400000 - q) * sF (5400000 - q) ≤ 1152921505680588799 := by
  by_cases e0 : q = 0
  · subst e0; decide +kernel
  by_cases e1 : q = 1800000
  · subst e1; decide +kernel
  by_cases e2 : q = 2700000
  · subst e2; decide +kernel
  have hq := quick_pyth (r := q.toNat) (by omega)
  have f1 : sF q = ((quickN q.toNat false / 4294967296 : Nat) : Int) := by
    unfold sF
    rw [if_neg e0, if_neg e1, if_neg (by omega), if_pos (by omega)]
  have f2 : sF (5400000 - q) = ((quickN q.toNat true / 4294967296 : Nat) : Int) := by
    unfold sF
    rw [if_neg (by omega), if_neg (by omega), if_neg (by omega), if_neg (by omega), show 5400000 - (5400000 - q) = q by omega]
  rw [f1, f2]
  clear f1 f2
  generalize quickN q.toNat false / 4294967296 = A at *
  generalize quickN q.toNat true / 4294967296 = B at *
  have e1 : ((A * A + B * B : Nat) : Int) ≤ ((1152921505680588799 : Nat) : Int) := Int.ofNat_le.2 hq
  rw [Int.natCast_add, Int.natCast_mul, Int.natCast_mul] at e1
  omega
theorem sF_pyth {q : Int} (h0 : 0 ≤ q) (h1 : q ≤ 5400000) : sF q * sF q + sF (5400000 - q) * sF (5400000 - q) ≤ 1152921505680588799 := by
  by_cases h : q ≤ 2700000
  · exact sF_half h0 h
  · have := sF_half (q := 5400000 - q) (by omega) (by omega)
    rw [show 5400000 - (5400000 - q) = q by omega] at this
    omega
/-- One times the sine, rounded towards zero -/
def tz (n : Int) : Int := if sth n = true then - sF (qrt n) else sF (qrt n)
theorem up_ge (q : Int) : sF q ≤ upF q := by unfold upF; split <;> omega
theorem tz_bd (n : Int) : loB n ≤ tz n ∧ tz n ≤ hiB n := by
  have := up_ge (qrt n)
  unfold loB hiB tz
  split <;> omega
theorem tz_pyth (n : Int) : tz n * tz n + tz (n + 5400000) * tz (n + 5400000) ≤ 1152921505680588799 := by
  have hb := qrt_bd n
  have e : qrt (n + 5400000) = 5400000 - qrt n := by unfold qrt; omega
  have := sF_pyth hb.1 hb.2
  have a1 : tz n * tz n = sF (qrt n) * sF (qrt n) := by unfold tz; split <;> grind
  have a2 : tz (n + 5400000) * tz (n + 5400000) = sF (5400000 - qrt n) * sF (5400000 - qrt n) := by unfold tz; rw [e]; split <;> grind
  omega
theorem en_tz (lo hi : Int) : enLo lo hi ≤ tz lo ∧ tz lo ≤ enHi lo hi := by
  have h1 := tz_bd lo
  have h2 := hi_le lo
  unfold enLo enHi
  generalize metB lo hi 16200000 = s at *
  generalize metB lo hi 5400000 = t at *
  generalize loB lo = p at *
  generalize hiB lo = q at *
  generalize tz lo = z at *
  cases s <;> cases t <;> simp only [Bool.false_eq_true, if_false, if_true] <;> omega
theorem lin1 {x1 x2 u : Int} (h1 : x1 ≤ u) (h2 : u ≤ x2) (v : Int) : min (x1 * v) (x2 * v) ≤ u * v ∧ u * v ≤ max (x1 * v) (x2 * v) := by
  rcases Int.le_total 0 v with g | g
  · have := Int.mul_le_mul_of_nonneg_right h1 g
    have := Int.mul_le_mul_of_nonneg_right h2 g
    omega
  · have := Int.mul_le_mul_of_nonpos_right h1 g
    have := Int.mul_le_mul_of_nonpos_right h2 g
    omega
theorem lin2 {y1 y2 v : Int} (h1 : y1 ≤ v) (h2 : v ≤ y2) (u : Int) : min (u * y1) (u * y2) ≤ u * v ∧ u * v ≤ max (u * y1) (u * y2) := by
  have := lin1 h1 h2 u
  rw [Int.mul_comm u y1, Int.mul_comm u y2, Int.mul_comm u v]
  exact this
/-- an interval of products has each product -/
theorem mulP_in {x y : Int × Int} {u v : Int} (h1 : x.1 ≤ u) (h2 : u ≤ x.2) (g1 : y.1 ≤ v) (g2 : v ≤ y.2) : (mulP x y).1 ≤ u * v / 1073741824 ∧ -(-(u * v) / 1073741824) ≤ (mulP x y).2 := by
  have a := lin1 h1 h2 v
  have b := lin2 g1 g2 x.1
  have c := lin2 g1 g2 x.2
  unfold mulP
  simp only []
  generalize x.1 * y.1 = p at *
  generalize x.1 * y.2 = q at *
  generalize x.2 * y.1 = r at *
  generalize x.2 * y.2 = s at *
  generalize x.1 * v = k at *
  generalize x.2 * v = l at *
  generalize u * v = m at *
  omega
theorem sqn (a : Int) : 0 ≤ a * a := by
  rcases Int.le_total 0 a with h | h
  · exact Int.mul_nonneg h h
  · exact Int.mul_nonneg_of_nonpos_of_nonpos h h
theorem two_mul_le (a b : Int) : 2 * (a * b) ≤ a * a + b * b ∧ -(2 * (a * b)) ≤ a * a + b * b := by
  have h1 : 0 ≤ (a - b) * (a - b) := sqn _
  have h2 : 0 ≤ (a + b) * (a + b) := sqn _
  have e1 : (a - b) * (a - b) = a * a + b * b - 2 * (a * b) := by grind
  have e2 : (a + b) * (a + b) = a * a + b * b + 2 * (a * b) := by grind
  omega
theorem tz_one (n : Int) : -1073741824 ≤ tz n ∧ tz n ≤ 1073741824 := by
  have h := qrt_bd n
  have := sF_bd h.1 h.2
  unfold tz
  split <;> omega
/-- a triangle's sine meets the sines -/
theorem sinT_meets (a b c : Int × Int) : (sinT a b c).1 ≤ 1073741824 ∧ -1073741824 ≤ (sinT a b c).2 := by
  have sa := en_tz a.1 a.2
  have sb := en_tz b.1 b.2
  have ca := en_tz (a.1 + 5400000) (a.2 + 5400000)
  have cb := en_tz (b.1 + 5400000) (b.2 + 5400000)
  have cc := en_tz (c.1 + 5400000) (c.2 + 5400000)
  have pa := tz_pyth a.1
  have pb := tz_pyth b.1
  have m1 := mulP_in (x := snP a) (y := snP b) sa.1 sa.2 sb.1 sb.2
  have m2 := mulP_in (x := csP a) (y := csP b) ca.1 ca.2 cb.1 cb.2
  have oc := tz_one (c.1 + 5400000)
  have q1 := two_mul_le (tz a.1) (tz b.1)
  have q2 := two_mul_le (tz (a.1 + 5400000)) (tz (b.1 + 5400000))
  generalize tz (c.1 + 5400000) = z at *
  have main : ∀ t : Int, (mulP (csP a) (csP b)).1 ≤ t → t ≤ (mulP (csP a) (csP b)).2 → (∃ k : Int, 0 ≤ k ∧ -k ≤ t ∧ t ≤ k ∧ 2 * (1073741824 * k) ≤ tz (a.1 + 5400000) * tz (a.1 + 5400000) + tz (b.1 + 5400000) * tz (b.1 + 5400000)) → (sinT a b c).1 ≤ 1073741824 ∧ -1073741824 ≤ (sinT a b c).2 := by
    rintro t h1 h2 ⟨k, k0, k1, k2, k3⟩
    have m3 := mulP_in (x := mulP (csP a) (csP b)) (y := csP c) h1 h2 cc.1 cc.2
    have b1 : -(k * 1073741824) ≤ t * z ∧ t * z ≤ k * 1073741824 := by
      have e1 : 0 ≤ (k - t) * (1073741824 + z) := Int.mul_nonneg (by omega) (by omega)
      have e2 : 0 ≤ (k + t) * (1073741824 - z) := Int.mul_nonneg (by omega) (by omega)
      have e3 : 0 ≤ (k - t) * (1073741824 - z) := Int.mul_nonneg (by omega) (by omega)
      have e4 : 0 ≤ (k + t) * (1073741824 + z) := Int.mul_nonneg (by omega) (by omega)
      have f1 : (k - t) * (1073741824 + z) = k * 1073741824 + k * z - t * 1073741824 - t * z := by grind
      have f2 : (k + t) * (1073741824 - z) = k * 1073741824 - k * z + t * 1073741824 - t * z := by grind
      have f3 : (k - t) * (1073741824 - z) = k * 1073741824 - k * z - t * 1073741824 + t * z := by grind
      have f4 : (k + t) * (1073741824 + z) = k * 1073741824 + k * z + t * 1073741824 + t * z := by grind
      omega
    unfold sinT addP
    simp only []
    generalize t * z = tz' at *
    generalize (mulP (snP a) (snP b)).1 = w1 at *
    generalize (mulP (snP a) (snP b)).2 = w2 at *
    generalize (mulP (mulP (csP a) (csP b)) (csP c)).1 = w3 at *
    generalize (mulP (mulP (csP a) (csP b)) (csP c)).2 = w4 at *
    generalize tz a.1 * tz b.1 = ab at *
    generalize tz a.1 * tz a.1 = aa at *
    generalize tz b.1 * tz b.1 = bb at *
    generalize tz (a.1 + 5400000) * tz (a.1 + 5400000) = xx at *
    generalize tz (b.1 + 5400000) * tz (b.1 + 5400000) = yy at *
    clear sa sb ca cb cc m2 h1 h2
    omega
  generalize tz (a.1 + 5400000) * tz (b.1 + 5400000) = cx at *
  by_cases hp : 0 ≤ cx
  · exact main (cx / 1073741824) m2.1 (by omega) ⟨cx / 1073741824, by omega, by omega, by omega, by omega⟩
  · exact main (-(-cx / 1073741824)) (by omega) m2.2 ⟨-cx / 1073741824, by omega, by omega, by omega, by omega⟩
end Go.Proofs.YtifdgdgfmjfbdaaGreat.Trig
namespace Go.Proofs.YtifdgdgfmjfbdaaGreat
open Go.RowKit
/-- the altitude of a triangle -/
noncomputable def altP (a b c : Int × Int) : Int × Int := (Trig.asnV (max (Trig.sinT a b c).1 (-1073741824)), -Trig.asnV (-(min (Trig.sinT a b c).2 1073741824)))
/-- the distance of a box from a point -/
noncomputable def dstV (q : Bx) (p : Int × Int) : Int × Int := (5400000 - (altP (q.1, q.2.1) (p.1, p.1) (q.2.2.1 - p.2, q.2.2.2 - p.2)).2, 5400000 - (altP (q.1, q.2.1) (p.1, p.1) (q.2.2.1 - p.2, q.2.2.2 - p.2)).1)
theorem alt_bd2 (a b c : Int × Int) : -5400000 ≤ (altP a b c).1 ∧ (altP a b c).1 ≤ 5400000 ∧ -5400000 ≤ (altP a b c).2 ∧ (altP a b c).2 ≤ 5400000 := by
  have h1 := Trig.asn_bd (max (Trig.sinT a b c).1 (-1073741824))
  have h2 := Trig.asn_bd (-(min (Trig.sinT a b c).2 1073741824))
  unfold altP
  simp only []
  omega
theorem dst_bd (q : Bx) (p : Int × Int) : 0 ≤ (dstV q p).1 ∧ (dstV q p).1 ≤ 10800000 ∧ 0 ≤ (dstV q p).2 ∧ (dstV q p).2 ≤ 10800000 := by
  have := alt_bd2 (q.1, q.2.1) (p.1, p.1) (q.2.2.1 - p.2, q.2.2.2 - p.2)
  unfold dstV
  simp only []
  omega
theorem dst_1 (q : Bx) (p : Int × Int) : 5400000 - (dstV q p).1 = (altP (q.1, q.2.1) (p.1, p.1) (q.2.2.1 - p.2, q.2.2.2 - p.2)).2 := by unfold dstV; simp only []; omega
theorem dst_2 (q : Bx) (p : Int × Int) : 5400000 - (dstV q p).2 = (altP (q.1, q.2.1) (p.1, p.1) (q.2.2.1 - p.2, q.2.2.2 - p.2)).1 := by unfold dstV; simp only []; omega
/-- a box of latitudes and longitudes -/
structure OkB (q : Bx) : Prop where
  a0 : -5400000 ≤ q.1
  a1 : q.1 ≤ q.2.1
  a2 : q.2.1 ≤ 5400000
  o0 : -10800000 ≤ q.2.2.1
  o1 : q.2.2.1 ≤ q.2.2.2
  o2 : q.2.2.2 ≤ 10800000
/-- a valid point -/
def okP (p : Int × Int) : Bool := decide (-5400000 ≤ p.1 ∧ p.1 ≤ 5400000 ∧ -10800000 ≤ p.2 ∧ p.2 < 10800000)
theorem okP_iff {p : Int × Int} : okP p = true ↔ (-5400000 ≤ p.1 ∧ p.1 ≤ 5400000 ∧ -10800000 ≤ p.2 ∧ p.2 < 10800000) := by unfold okP; exact decide_eq_true_iff
/-- the program's Altitude at a box and a point -/
theorem alt_box (q : Bx) (p : Int × Int) (W : World) (hq : OkB q) (hp : okP p = true) : Calls Tryz.prog 71 #[.agg #[.int .i64 q.1, .int .i64 q.2.1, .int .i64 p.1, .int .i64 p.1, .int .i64 (q.2.2.1 - p.2), .int .i64 (q.2.2.2 - p.2)]] W fun e w' => e = .returned (.tuple #[.agg #[.int .i64 (5400000 - (dstV q p).2), .int .i64 (5400000 - (dstV q p).1)], .int .i64 0]) ∧ Below W.heap.size W w' := by
  obtain ⟨h0, h1, h2, h3⟩ := okP_iff.1 hp
  obtain ⟨a0, a1, a2, o0, o1, o2⟩ := hq
  have hm := Trig.sinT_meets (q.1, q.2.1) (p.1, p.1) (q.2.2.1 - p.2, q.2.2.2 - p.2)
  have := Altitude_yes (q.1, q.2.1) (p.1, p.1) (q.2.2.1 - p.2, q.2.2.2 - p.2) W ⟨a0, a1, a2⟩ ⟨h0, Int.le_refl _, h1⟩ (avB_true.2 (by simp only []; omega)) hm.1 hm.2
  refine this.mono ?_
  rintro e w' ⟨he, hb⟩
  refine ⟨?_, hb⟩
  rw [he, dst_1, dst_2]
  rfl
end Go.Proofs.YtifdgdgfmjfbdaaGreat
namespace Go.Proofs.YtifdgdgfmjfbdaaGreat
open Go.RowKit
/-- the reach of the first boxes from a point -/
noncomputable def radF (D : List Bx) (p : Int × Int) (k : Nat) : Int × Int := (D.take k).foldl (fun s q => (max s.1 (dstV q p).1, max s.2 (dstV q p).2)) (0, 0)
theorem radF_succ (D : List Bx) (p : Int × Int) (k : Nat) (hk : k < D.length) : radF D p (k + 1) = (max (radF D p k).1 (dstV (gb D k) p).1, max (radF D p k).2 (dstV (gb D k) p).2) := by
  unfold radF
  rw [List.take_succ_eq_append_getElem hk, List.foldl_append]
  simp [gb, hk]
theorem radF_zero (D : List Bx) (p : Int × Int) : radF D p 0 = (0, 0) := by simp [radF]
theorem okB_bx (x : Cl) (hv : Vl x) : OkB (bxI x) := by
  obtain ⟨h1, h2, h3, h4, h5, h6, h7, h8⟩ := box_nums hv
  constructor <;> (simp only [bxI]; omega)
theorem okB_gb {L : List Cl} (hv : ∀ x ∈ L, Vl x) {k : Nat} (hk : k < (L.map bxI).length) : OkB (gb (L.map bxI) k) := by
  have : gb (L.map bxI) k = bxI (gt L k) := by
    rw [List.length_map] at hk
    simp [gb, gt, hk]
  rw [this]
  rw [List.length_map] at hk
  exact okB_bx _ (hv _ (by simp [gt, hk]))
set_option maxHeartbeats 4000000 in
set_option maxRecDepth 100000 in
theorem Radius_yes (A : Option Addr) (n c : Nat) (L : List Cl) (p0 p1 : Int) (w : World) (hr : Reads w w.heap.size 3 A n (cvs L)) (hn : n ≤ maxLen) (hv : vrB L = true) (hp : okP (p0, p1) = true) (h0 : 0 < n) :
    Calls Tryz.prog 33 #[.slice A n c, .agg #[.int .i64 p0, .int .i64 p1]] w fun e w' => e = .returned (.tuple #[.agg #[.int .i64 (radF (L.map bxI) (p0, p1) n).1, .int .i64 (radF (L.map bxI) (p0, p1) n).2], .int .i64 0]) ∧ Below w.heap.size w w' := by
  have HL : Hid ((L.map bxI).length = n) := Lib.hid (by rw [List.length_map]; exact hr.len)
  have KB := Lib.hid (fun W (hW : Below w.heap.size w W) => boxes_any A n c L W ((hr.below hW).more hW.size) hn)
  rw [hv] at KB
  simp only [if_true] at KB
  have kp := fun W => vpt_any p0 p1 W
  rw [show vptB p0 p1 = true from hp] at kp
  have KP := Lib.hid kp
  clear kp
  have hvl := ((vrB_iff L).1 hv).2.1
  have hfew : n ≤ 4000 := by have := ((vrB_iff L).1 hv).1; rw [hr.len] at this; exact this
  have KA := Lib.hid (fun k (hk : k < n) W => alt_box (gb (L.map bxI) k) (p0, p1) W (okB_gb hvl (by rw [HL.out]; exact hk)) hp)
  have KO := Lib.hid (fun k (hk : k < n) => okB_gb hvl (k := k) (by rw [HL.out]; exact hk))
  have HP := Lib.hid (okP_iff.1 hp)
  clear hp hv hn hr hvl
  generalize L.map bxI = D at *
  have T0 := Lib.hid ((K2.new w p0 p1 24).alloc (.cells #[.int .i64 0, .int .i64 0] 29))
  have z0 := K2.new (w.alloc (.cells #[.int .i64 p0, .int .i64 p1] 24)) 0 0 29
  rw [World.size_alloc] at z0
  have Z0 := Lib.hid z0
  clear z0
  have B0 := Lib.hid ((bl_alloc w (.cells #[.int .i64 p0, .int .i64 p1] 24)).alloc (by simp) (.cells #[.int .i64 0, .int .i64 0] 29))
  go_enter Tryz.func33, Tryz.ntmps33
  go_wp2_with fail
  (with_reducible refine (KB.out _ B0.out).mono ?_)
  rintro e w1 ⟨v, rfl, hown, hb1⟩
  rw [HL.out] at hown
  obtain ⟨A1, c1, rfl, ra, -, -⟩ := own_form hown
  have RA := Lib.hid ra
  have T1 := Lib.hid (T0.out.below hb1 T0.out.lt)
  have Z1 := Lib.hid (Z0.out.below hb1 Z0.out.lt)
  have B1 := Lib.hid (B0.out.trans (hb1.mono B0.out.size))
  clear hown hb1 ra T0 Z0 B0 KB
  obtain ⟨tt, t0, t1, -, -⟩ := T1.out
  go_wp2_with fail
  clear t0 t1 tt
  (with_reducible refine (KP.out _).mono ?_)
  rintro e w2 ⟨rfl, hb2⟩
  have T2 := Lib.hid ((T1.out.below hb2 T1.out.lt).alloc (.cells #[.int .i64 0, .int .i64 0] 29))
  have Z2 := Lib.hid ((Z1.out.below hb2 Z1.out.lt).alloc (.cells #[.int .i64 0, .int .i64 0] 29))
  have hz1 := hb2.size
  have B2 := Lib.hid ((B1.out.trans (hb2.mono B1.out.size)).alloc (by have := B1.out.size; omega) (.cells #[.int .i64 0, .int .i64 0] 29))
  have C2 := Lib.hid (hb2.alloc (by omega) (.cells #[.int .i64 0, .int .i64 0] 29))
  have N2 := Lib.hid (K2.new w2 0 0 29)
  have hgt : w.heap.size + 1 < w2.heap.size := by have := Z1.out.lt; omega
  clear T1 Z1 hb2 KP
  have hn0 : ((n : Int) == 0) = false := by simp; omega
  generalize hg8 : w2.heap.size = g8 at *
  go_wp2
  go_loopw [37] (fun i wr => ∃ k : Nat, k ≤ n ∧ i = .int .i64 k ∧ K2 wr g8 (radF D (p0, p1) k).1 (radF D (p0, p1) k).2 ∧ K2 wr w.heap.size p0 p1 ∧ K2 wr (w.heap.size + 1) 0 0 ∧ Below w.heap.size w wr ∧ Below w1.heap.size w1 wr) (fun i _ => n - (intOf i).toNat)
  case atStart => exact ⟨0, Nat.zero_le _, rfl, by rw [radF_zero]; exact N2.out, T2.out, Z2.out, B2.out, C2.out⟩
  case round =>
    obtain ⟨k, hk, rfl, hN, hT, hZ, hB, hC⟩ := hrel
    clear N2 T2 Z2 B2 C2
    by_cases hlt : k < n
    · obtain ⟨b, off, rfl, hb, x0, x1, x2, x3⟩ := BReads.elem RA.out hlt
      have y0 := (hC.cell (p := ⟨b, off + k * 4, none⟩) hb).trans x0
      have y1 := (hC.cell (p := ⟨b, off + k * 4 + 1, none⟩) hb).trans x1
      have y2 := (hC.cell (p := ⟨b, off + k * 4 + 2, none⟩) hb).trans x2
      have y3 := (hC.cell (p := ⟨b, off + k * 4 + 3, none⟩) hb).trans x3
      have HF := Lib.hid (radF_succ D (p0, p1) k (by rw [HL.out]; exact hlt))
      have ka := Lib.hid (KA.out k hlt)
      have ko := KO.out k hlt
      have hdb := dst_bd (gb D k) (p0, p1)
      have hs0 : k = 0 → (radF D (p0, p1) k).1 = 0 ∧ (radF D (p0, p1) k).2 = 0 := fun e => by subst e; rw [radF_zero]; exact ⟨rfl, rfl⟩
      generalize dstV (gb D k) (p0, p1) = d at *
      generalize gb D k = q at *
      generalize radF D (p0, p1) k = s at *
      obtain ⟨q0, q1, q2, q3⟩ := q
      obtain ⟨d0, d1⟩ := d
      obtain ⟨s0, s1⟩ := s
      simp only [] at y0 y1 y2 y3 HF ka hdb hN hs0
      obtain ⟨-, -, -, o3, o4, o5⟩ := ko
      replace o3 : -10800000 ≤ q2 := o3
      replace o4 : q2 ≤ q3 := o4
      replace o5 : q3 ≤ 10800000 := o5
      have hpp := HP.out
      have n0 : wrap64 (q2 - p1) = q2 - p1 := IntWalk.wrap64_in _ (by omega)
      have n1 : wrap64 (q3 - p1) = q3 - p1 := IntWalk.wrap64_in _ (by omega)
      clear x0 x1 x2 x3 o3 o4 o5 hpp KA KO
      have HN := Lib.hid hN
      have HT := Lib.hid hT
      have HZ := Lib.hid hZ
      have HB := Lib.hid hB
      have HC := Lib.hid hC
      obtain ⟨tt, t0, t1, -, -⟩ := hT
      clear hN hZ hB hC
      go_wp2_with fail
      (with_reducible refine (ka.out _).mono ?_)
      rintro e w5 ⟨rfl, hb5⟩
      have hb6 := two_bl hb5
      clear hb5 y0 y1 y2 y3 t0 t1 tt n0 n1
      have HN5 := Lib.hid (((HN.out.below hb6 HN.out.lt).alloc (.cells #[.int .i64 (5400000 - d1), .int .i64 (5400000 - d0)] 29)).alloc (.cells #[.int .i64 d0, .int .i64 d1] 29))
      have HT5 := Lib.hid (((HT.out.below hb6 HT.out.lt).alloc (.cells #[.int .i64 (5400000 - d1), .int .i64 (5400000 - d0)] 29)).alloc (.cells #[.int .i64 d0, .int .i64 d1] 29))
      have HZ5 := Lib.hid (((HZ.out.below hb6 HZ.out.lt).alloc (.cells #[.int .i64 (5400000 - d1), .int .i64 (5400000 - d0)] 29)).alloc (.cells #[.int .i64 d0, .int .i64 d1] 29))
      have hs5 := hb6.size
      have hsB := HB.out.size
      have hsC := HC.out.size
      have HB5 := Lib.hid (((HB.out.trans (hb6.mono hsB)).alloc (by omega) (.cells #[.int .i64 (5400000 - d1), .int .i64 (5400000 - d0)] 29)).alloc (by simp; omega) (.cells #[.int .i64 d0, .int .i64 d1] 29))
      have HC5 := Lib.hid (((HC.out.trans (hb6.mono hsC)).alloc (by omega) (.cells #[.int .i64 (5400000 - d1), .int .i64 (5400000 - d0)] 29)).alloc (by simp; omega) (.cells #[.int .i64 d0, .int .i64 d1] 29))
      have hlt8 := HN.out.lt
      clear HN HT HZ HB HC hb6 ka
      have e0 : 5400000 - (5400000 - d0) = d0 := by omega
      have e1 : 5400000 - (5400000 - d1) = d1 := by omega
      have hx1 : ¬ w5.heap.size + 1 = g8 := by omega
      have hx2 : ¬ g8 = w5.heap.size + 1 := by omega
      have hg1 : w.heap.size ≠ g8 := by omega
      have hg2 : w.heap.size + 1 ≠ g8 := by omega
      obtain ⟨nt, n0, n1, nf0, nf1⟩ := HN5.out
      by_cases hk0 : k = 0
      · obtain ⟨rfl, rfl⟩ := hs0 hk0
        have hd : ((k : Int) == 0) = true := by simp [hk0]
        clear hs0 hk0
        go_wp2
        go_roundw
        case rel =>
          exact ⟨k + 1, by omega, by go_num, by
            rw [HF.out, show max 0 d0 = d0 by omega, show max 0 d1 = d1 by omega]
            exact (((HN5.out.set0 _).set1 _).set0 _).set1 _, (((HT5.out.far hg1 _).far hg1 _).far hg1 _).far hg1 _, (((HZ5.out.far hg2 _).far hg2 _).far hg2 _).far hg2 _, (((HB5.out.setCell (by simp only []; omega) _).setCell (by simp only []; omega) _).setCell (by simp only []; omega) _).setCell (by simp only []; omega) _, (((HC5.out.setCell (by simp only []; omega) _).setCell (by simp only []; omega) _).setCell (by simp only []; omega) _).setCell (by simp only []; omega) _⟩
        case measure => simp [intOf]; omega
      · have hkk : ¬ (k : Int) = 0 := by omega
        clear hs0
        go_wp2
        go_roundw
        case rel =>
          exact ⟨k + 1, by omega, by go_num, by rw [HF.out]; exact (HN5.out.set0 _).set1 _, (HT5.out.far hg1 _).far hg1 _, (HZ5.out.far hg2 _).far hg2 _, (HB5.out.setCell (by simp only []; omega) _).setCell (by simp only []; omega) _, (HC5.out.setCell (by simp only []; omega) _).setCell (by simp only []; omega) _⟩
        case measure => simp [intOf]; omega
    · obtain rfl : k = n := by omega
      obtain ⟨⟨s0, s1⟩, hs⟩ : ∃ s, radF D (p0, p1) k = s := ⟨_, rfl⟩
      rw [hs] at hN
      simp only [] at hN
      have HS := Lib.hid hs
      clear hs
      obtain ⟨zt, z0, z1, zf0, zf1⟩ := hZ
      obtain ⟨nt, n0, n1, -, -⟩ := hN
      have HB := Lib.hid hB
      clear hB hC hT
      go_wp2
      refine bodyPost_ret (v := .tuple #[.agg #[.int .i64 s0, .int .i64 s1], .int .i64 0]) (by simp [results, Tryz.results33, go_sem, *]; done) rfl ⟨by rw [HS.out], ?_⟩
      exact (HB.out.setCell (by simp) _).setCell (by simp) _
end Go.Proofs.YtifdgdgfmjfbdaaGreat
namespace Go.Proofs.YtifdgdgfmjfbdaaGreat
open Go.RowKit
theorem latF_bd {D : List Bx} (hD : ∀ k, k < D.length → OkB (gb D k)) (h0 : 0 < D.length) (k : Nat) (hk : k ≤ D.length) : -5400000 ≤ (latF D k).1 ∧ (latF D k).1 ≤ 5400000 ∧ -5400000 ≤ (latF D k).2 ∧ (latF D k).2 ≤ 5400000 := by
  induction k with
  | zero =>
    obtain ⟨a0, a1, a2, -, -, -⟩ := hD 0 h0
    rw [latF_zero]
    simp only []
    omega
  | succ k ih =>
    have ih := ih (by omega)
    obtain ⟨a0, a1, a2, -, -, -⟩ := hD k (by omega)
    rw [latF_succ D k (by omega)]
    simp only []
    omega
/-- the bounds of a region, and its centre -/
noncomputable def bndV (L : List Cl) : Bx := ((latF (L.map bxI) L.length).1, (latF (L.map bxI) L.length).2, (rarn (lons (L.map bxI))).1, (rarn (lons (L.map bxI))).2)
noncomputable def cenV (L : List Cl) : Int × Int := (((bndV L).1 + (bndV L).2.1) / 2, sgA (((bndV L).2.2.1 + (bndV L).2.2.2) / 2))
theorem bnd_bd {L : List Cl} (hv : ∀ x ∈ L, Vl x) (h0 : 0 < L.length) : -5400000 ≤ (bndV L).1 ∧ (bndV L).1 ≤ 5400000 ∧ -5400000 ≤ (bndV L).2.1 ∧ (bndV L).2.1 ≤ 5400000 ∧ -10800000 ≤ (bndV L).2.2.1 ∧ (bndV L).2.2.1 ≤ 10800000 ∧ (bndV L).2.2.1 ≤ (bndV L).2.2.2 ∧ (bndV L).2.2.2 ≤ (bndV L).2.2.1 + 43200000 := by
  have h1 := latF_bd (D := L.map bxI) (fun k hk => okB_gb hv hk) (by rw [List.length_map]; exact h0) L.length (by rw [List.length_map]; exact Nat.le_refl _)
  have h2 := foldR_bd (lons (L.map bxI)) (okR_of (okC_bx hv)) (lons (L.map bxI)).length (Nat.le_refl _)
  unfold bndV rarn
  simp only []
  omega
set_option maxHeartbeats 1000000 in
set_option maxRecDepth 100000 in
theorem fBounds_yes (A : Option Addr) (n c : Nat) (L : List Cl) (w : World) (hr : Reads w w.heap.size 3 A n (cvs L)) (hn : n ≤ maxLen) (hv : vrB L = true) (h0 : 0 < n) :
    Calls Tryz.prog 29 #[.slice A n c] w fun e w' => e = .returned (.tuple #[.agg #[.int .i64 (bndV L).1, .int .i64 (bndV L).2.1, .int .i64 (bndV L).2.2.1, .int .i64 (bndV L).2.2.2], .int .i64 0]) ∧ Below w.heap.size w w' := by
  have hlen : (L.map bxI).length = n := by rw [List.length_map]; exact hr.len
  have hll : L.length = n := hr.len
  have hfew : n ≤ 4000 := by rw [← hll]; exact ((vrB_iff L).1 hv).1
  have KB := Lib.hid (fun W (hW : Below w.heap.size w W) => boxes_any A n c L W ((hr.below hW).more hW.size) hn)
  rw [hv] at KB
  simp only [if_true] at KB
  have KF := Lib.hid (fun (W : World) (A : Option Addr) (c : Nat) (h : Reads W W.heap.size 4 A n (bvs (L.map bxI))) => fbounds_any A n c (L.map bxI) W h h0 hfew (okC_bx ((vrB_iff L).1 hv).2.1))
  have HLN := Lib.hid hlen
  unfold bndV
  rw [hll]
  clear hr hn hv hfew hlen hll
  generalize rarn (lons (L.map bxI)) = r at *
  generalize latF (L.map bxI) n = s at *
  obtain ⟨r0, r1⟩ := r
  obtain ⟨s0, s1⟩ := s
  simp only [] at KF ⊢
  generalize L.map bxI = D at *
  have B0 := Lib.hid (bl_alloc w (.cells #[.int .i64 0, .int .i64 0, .int .i64 0, .int .i64 0] 31))
  have Z0 := Lib.hid (K4.new w 0 0 0 0 31)
  go_enter Tryz.func29, Tryz.ntmps29
  go_wp2_with fail
  (with_reducible refine (KB.out _ B0.out).mono ?_)
  rintro e w1 ⟨v, rfl, hown, hb1⟩
  rw [HLN.out] at hown
  obtain ⟨A1, c1, rfl, ra, -, -⟩ := own_form hown
  have RA := Lib.hid ra
  have Z1 := Lib.hid (Z0.out.below hb1 Z0.out.lt)
  have B1 := Lib.hid (B0.out.trans (hb1.mono B0.out.size))
  clear hown hb1 ra Z0 B0 KB
  have hn0 : ¬ (n : Int) = 0 := by omega
  go_wp2_with fail
  (with_reducible refine (KF.out _ _ _ RA.out).mono ?_)
  rintro e w2 ⟨rfl, hb2⟩
  have B2 := Lib.hid (B1.out.trans (hb2.mono B1.out.size))
  obtain ⟨zt, z0, z1, z2, z3, zf0, zf1, zf2, zf3⟩ := Z1.out.below hb2 Z1.out.lt
  go_wp2
  refine bodyPost_ret (v := .tuple #[.agg #[.int .i64 s0, .int .i64 s1, .int .i64 r0, .int .i64 r1], .int .i64 0]) (by simp [results, Tryz.results29, go_sem, *]; done) rfl ⟨rfl, ?_⟩
  exact bl_put4 B2.out (Nat.le_refl _)
set_option maxHeartbeats 1000000 in
set_option maxRecDepth 100000 in
theorem fBounds_no (A : Option Addr) (n c : Nat) (L : List Cl) (E : Int) (w : World) (hr : Reads w w.heap.size 3 A n (cvs L)) (hn : n ≤ maxLen) (hE : (vrB L = false ∧ E = 1) ∨ (vrB L = true ∧ n = 0 ∧ E = 14)) :
    Calls Tryz.prog 29 #[.slice A n c] w fun e w' => e = .returned (.tuple #[.agg #[.int .i64 0, .int .i64 0, .int .i64 0, .int .i64 0], .int .i64 E]) ∧ Below w.heap.size w w' := by
  have KB := Lib.hid (fun W (hW : Below w.heap.size w W) => boxes_any A n c L W ((hr.below hW).more hW.size) hn)
  have B0 := Lib.hid (bl_alloc w (.cells #[.int .i64 0, .int .i64 0, .int .i64 0, .int .i64 0] 31))
  have Z0 := Lib.hid (K4.new w 0 0 0 0 31)
  have hlen : L.length = n := hr.len
  rcases hE with ⟨hv, rfl⟩ | ⟨hv, rfl, rfl⟩
  · rw [hv] at KB
    simp only [Bool.false_eq_true, if_false] at KB
    clear hr hn
    go_enter Tryz.func29, Tryz.ntmps29
    go_wp2_with fail
    (with_reducible refine (KB.out _ B0.out).mono ?_)
    rintro e w1 ⟨v, rfl, hown, hb1⟩
    obtain ⟨A1, c1, rfl, -, -, -⟩ := own_form hown
    have B1 := Lib.hid (B0.out.trans (hb1.mono B0.out.size))
    obtain ⟨zt, z0, z1, z2, z3, zf0, zf1, zf2, zf3⟩ := Z0.out.below hb1 Z0.out.lt
    clear hown hb1 Z0 B0 KB
    go_wp2
    refine bodyPost_ret (v := .tuple #[.agg #[.int .i64 0, .int .i64 0, .int .i64 0, .int .i64 0], .int .i64 1]) (by simp [results, Tryz.results29, go_sem, *]; done) rfl ⟨rfl, ?_⟩
    exact bl_put4 B1.out (Nat.le_refl _)
  · obtain rfl := List.eq_nil_of_length_eq_zero hlen
    rw [hv] at KB
    simp only [if_true, List.map_nil] at KB
    clear hr hn
    go_enter Tryz.func29, Tryz.ntmps29
    go_wp2_with fail
    (with_reducible refine (KB.out _ B0.out).mono ?_)
    rintro e w1 ⟨v, rfl, hown, hb1⟩
    obtain ⟨A1, c1, rfl, -, -, -⟩ := own_form hown
    have B1 := Lib.hid (B0.out.trans (hb1.mono B0.out.size))
    obtain ⟨zt, z0, z1, z2, z3, zf0, zf1, zf2, zf3⟩ := Z0.out.below hb1 Z0.out.lt
    clear hown hb1 Z0 B0 KB
    go_wp2
    refine bodyPost_ret (v := .tuple #[.agg #[.int .i64 0, .int .i64 0, .int .i64 0, .int .i64 0], .int .i64 14]) (by simp [results, Tryz.results29, go_sem, *]; done) rfl ⟨rfl, ?_⟩
    exact bl_put4 B1.out (Nat.le_refl _)
set_option maxHeartbeats 1000000 in
set_option maxRecDepth 100000 in
theorem fCenter_yes (A : Option Addr) (n c : Nat) (L : List Cl) (w : World) (hr : Reads w w.heap.size 3 A n (cvs L)) (hn : n ≤ maxLen) (hv : vrB L = true) (h0 : 0 < n) :
    Calls Tryz.prog 30 #[.slice A n c] w fun e w' => e = .returned (.tuple #[.agg #[.int .i64 (cenV L).1, .int .i64 (cenV L).2], .int .i64 0]) ∧ Below w.heap.size w w' := by
  have KB := Lib.hid (fun W (hW : Below w.heap.size w W) => fBounds_yes A n c L W ((hr.below hW).more hW.size) hn hv h0)
  have hbd := bnd_bd ((vrB_iff L).1 hv).2.1 (by rw [hr.len]; exact h0)
  unfold cenV
  generalize bndV L = q at *
  obtain ⟨l0, l1, r0, r1⟩ := q
  simp only [] at KB hbd ⊢
  have KS := Lib.hid (fun W => SignedA_any ((r0 + r1) / 2) W (by omega) (by omega))
  generalize sgA ((r0 + r1) / 2) = sg at *
  have n0 : wrap64 (l0 + l1) = l0 + l1 := IntWalk.wrap64_in _ (by omega)
  have n1 : wrap64 (r0 + r1) = r0 + r1 := IntWalk.wrap64_in _ (by omega)
  have m0 : IntKind.i64.wrap (l0 + l1) = l0 + l1 := by rw [IntKind.wrap_i64]; omega
  have m1 : IntKind.i64.wrap (r0 + r1) = r0 + r1 := by rw [IntKind.wrap_i64]; omega
  have n2 : wrap64 ((l0 + l1) / 2) = (l0 + l1) / 2 := IntWalk.wrap64_in _ (by omega)
  have n3 : wrap64 ((r0 + r1) / 2) = (r0 + r1) / 2 := IntWalk.wrap64_in _ (by omega)
  clear hr hn hv hbd
  have B0 := Lib.hid (bl_alloc w (.cells #[.int .i64 0, .int .i64 0] 24))
  have Z0 := Lib.hid (K2.new w 0 0 24)
  go_enter Tryz.func30, Tryz.ntmps30
  go_wp2_with fail
  (with_reducible refine (KB.out _ B0.out).mono ?_)
  rintro e w1 ⟨rfl, hb1⟩
  have Z1 := Lib.hid ((Z0.out.below hb1 Z0.out.lt).alloc (.cells #[.int .i64 l0, .int .i64 l1, .int .i64 r0, .int .i64 r1] 31))
  have hz1 := hb1.size
  have B1 := Lib.hid ((B0.out.trans (hb1.mono B0.out.size)).alloc (by have := B0.out.size; omega) (.cells #[.int .i64 l0, .int .i64 l1, .int .i64 r0, .int .i64 r1] 31))
  have P1 := Lib.hid (K4.new w1 l0 l1 r0 r1 31)
  go_upto_region 4 with (fail)
  obtain ⟨W1, hW1⟩ : ∃ W1, w1.alloc (.cells #[.int .i64 l0, .int .i64 l1, .int .i64 r0, .int .i64 r1] 31) = W1 := ⟨_, rfl⟩
  rw [hW1] at Z1 B1 P1 ⊢
  have hlt0 : w.heap.size < w1.heap.size := by have := B0.out.size; have := Z0.out.lt; omega
  clear hW1 Z0 B0 KB hb1 hz1
  generalize w1.heap.size = ga at *
  have hn1 : ¬ w.heap.size = ga := by omega
  have hn2 : ¬ ga = w.heap.size := by omega
  obtain ⟨pt, p0, p1, p2, p3, -, -, -, -⟩ := P1.out
  go_region_held3 (fun w' => w'.cell? ⟨ga, 0, none⟩ = some (.int .i64 l0) ∧ w'.cell? ⟨ga, 1, none⟩ = some (.int .i64 l1) ∧ w'.cell? ⟨ga, 2, none⟩ = some (.int .i64 r0) ∧ w'.cell? ⟨ga, 3, none⟩ = some (.int .i64 r1)) (simp [*]) (first
    | (go_at_call 69; (with_reducible refine (KS.out _).mono ?_); rintro e w9 ⟨rfl, hb9⟩; have P9 := P1.out.drew.below hb9 (by simpa using P1.out.lt); have Z9 := Z1.out.below ((bl_drew (Below.refl _ _)).trans hb9) (by simpa using Z1.out.lt); have B9 := Lib.hid (B1.out.trans (((bl_drew (Below.refl _ _)).trans hb9).mono (by simpa using B1.out.size))); obtain ⟨pt9, p09, p19, p29, p39, -, -, -, -⟩ := P9; obtain ⟨zt9, z09, z19, zf09, zf19⟩ := Z9; have e9 := fun (i : Nat) (u v : Value) => (World.cell?_setCell_other (w9.setCell ⟨w.heap.size, 0, none⟩ u) ⟨w.heap.size, 1, none⟩ ⟨ga, i, none⟩ v (fun e => hn1 (by injection e))).trans (World.cell?_setCell_other w9 ⟨w.heap.size, 0, none⟩ ⟨ga, i, none⟩ u (fun e => hn1 (by injection e))))
    | fail)
  go_wp2
  refine bodyPost_ret (v := .tuple #[.agg #[.int .i64 ((l0 + l1) / 2), .int .i64 sg], .int .i64 0]) (by simp [results, Tryz.results30, go_sem, *]; done) rfl ⟨rfl, ?_⟩
  exact (B9.out.setCell (by simp) _).setCell (by simp) _
end Go.Proofs.YtifdgdgfmjfbdaaGreat
