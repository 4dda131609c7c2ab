/- The distance of a box from a point: the reference's Sub, Triangle and Distance. -/
import Derived.Test.YtienkfcliocjgaaGreatGTi
import Derived.Test.YtienkfcliocjgaaGreatGAc
import Derived.Test.YtienkfcliocjgaaGreatGHk
set_option linter.unusedVariables false
set_option linter.unusedSimpArgs false
/- Plain: the sine of an altitude never misses the sines. No program in sight. -/
namespace Go.Proofs.YtienkfcliocjgaaGreat.Trig
theorem sin01 {x : Rat} (h : 0 ≤ x) (h1 : x ≤ 1) : 0 ≤ sinP x ∧ sinP x ≤ 1 := by
  rw [sin_alt]
  obtain ⟨a, b⟩ := alt_bd h h1 35 1
  exact ⟨a, Rat.le_trans b (mo_le1 h h1 1)⟩
theorem cos01 {x : Rat} (h : 0 ≤ x) (h1 : x ≤ 1) : 0 ≤ cosP x ∧ cosP x ≤ 1 := by
  rw [cos_alt]
  obtain ⟨a, b⟩ := alt_bd h h1 35 0
  exact ⟨a, Rat.le_trans b (mo_le1 h h1 0)⟩
theorem sq_near1 {v a E : Rat} (hv : 0 ≤ v ∧ v ≤ 1) (hE : 0 ≤ E) (hn : v - a ≤ E) : v * v ≤ a * a + 2 * E := by
  have h1 : 0 ≤ (1 - v) * E := Rat.mul_nonneg (by grind) hE
  have h2 : 0 ≤ v * (E - (v - a)) := Rat.mul_nonneg hv.1 (by grind)
  have h3 : 0 ≤ (v - a) * (v - a) := by
    by_cases h : 0 ≤ v - a
    · exact Rat.mul_nonneg h h
    · have := Rat.mul_nonneg (a := a - v) (b := a - v) (by grind) (by grind)
      grind
  grind
theorem pyth_step {x h : Rat} (hx : 0 ≤ x) (hh : 0 ≤ h) (h1 : x + h ≤ 1) (hs : h ≤ 1 / 10000) :
    sinP (x + h) * sinP (x + h) + cosP (x + h) * cosP (x + h) ≤ sinP x * sinP x + cosP x * cosP x + 1 / 1000000000000000 := by
  have e1 := (sin_shift hx hh h1 hs).1
  have e2 := (cos_shift hx hh h1 hs).1
  have s1 := sin01 (x := x + h) (by grind) h1
  have c1 := cos01 (x := x + h) (by grind) h1
  have q0 : 0 ≤ h * h := Rat.mul_nonneg hh hh
  have q1 : h * h ≤ 1 / 100000000 := by
    have := Rat.mul_nonneg hh (show 0 ≤ 1 / 10000 - h by grind)
    grind
  have r0 : 0 ≤ h * h * (h * h) := Rat.mul_nonneg q0 q0
  have r1 : h * h * (h * h) ≤ 1 / 10000000000000000 := by
    have := Rat.mul_nonneg q0 (show 0 ≤ 1 / 100000000 - h * h by grind)
    grind
  have t0 : 0 ≤ h * h * (h * h) * (1 / 12 - h * h / 36) := Rat.mul_nonneg r0 (by grind)
  have f1 := sq_near1 s1 (E := h * h * h * h * (3 / 5) + 1 / 2 ^ 65 / 2) (by grind) e1
  have f2 := sq_near1 c1 (E := h * h * h * h * (3 / 5) + 1 / 2 ^ 65 / 2) (by grind) e2
  have ev : 0 ≤ sinP x * sinP x + cosP x * cosP x := by
    have s2 := sin01 hx (by grind)
    have c2 := cos01 hx (by grind)
    have := Rat.mul_nonneg s2.1 s2.1
    have := Rat.mul_nonneg c2.1 c2.1
    grind
  have g0 := Rat.mul_nonneg ev t0
  generalize sinP (x + h) = s' at *
  generalize cosP (x + h) = c' at *
  generalize sinP x = s at *
  generalize cosP x = c at *
  have id1 : (s + h * c - h * h / 2 * s - h * h * h / 6 * c) * (s + h * c - h * h / 2 * s - h * h * h / 6 * c) + (c - h * s - h * h / 2 * c + h * h * h / 6 * s) * (c - h * s - h * h / 2 * c + h * h * h / 6 * s) = (s * s + c * c) - (s * s + c * c) * (h * h * (h * h) * (1 / 12 - h * h / 36)) := by grind
  have id2 : h * h * h * h = h * h * (h * h) := by grind
  rw [id2] at f1 f2
  have k65 : (1 : Rat) / 2 ^ 65 / 2 ≤ 1 / 36893488147419103232 := by decide +kernel
  grind
theorem pyth_le : ∀ (n : Nat) (x : Rat), 0 ≤ x → x * 10000 ≤ (n : Rat) → x ≤ 1 → sinP x * sinP x + cosP x * cosP x ≤ 1 + (n : Rat) * (1 / 1000000000000000)
  | 0, x, h0, h1, _ => by
    have : x = 0 := by
      have h1' : x * 10000 ≤ 0 := by simpa using h1
      grind
    subst this
    decide +kernel
  | n + 1, x, h0, h1, h2 => by
    have h1' : x * 10000 ≤ (n : Rat) + 1 := by simpa using h1
    have hc : ((n + 1 : Nat) : Rat) = (n : Rat) + 1 := by simp
    rw [hc]
    have hn := c0 n
    by_cases hx : 1 / 10000 ≤ x
    · have ih := pyth_le n (x - 1 / 10000) (by grind) (by grind) (by grind)
      have := pyth_step (x := x - 1 / 10000) (h := 1 / 10000) (by grind) (by decide +kernel) (by grind) (by grind)
      rw [show x - 1 / 10000 + 1 / 10000 = x by grind] at this
      grind
    · have := pyth_step (x := 0) (h := x) (by grind) h0 (by grind) (by grind)
      rw [show 0 + x = x by grind] at this
      have z : sinP 0 * sinP 0 + cosP 0 * cosP 0 ≤ 1 := by decide +kernel
      grind
theorem sq_le2 {A s : Rat} (h0 : 0 ≤ A) (h : A * 4294967296 ≤ s * 4611686018427387904 + 75) (hs : 0 ≤ s ∧ s ≤ 1) : A * A ≤ s * s * 1152921504606846976 + 75 := by
  have h1 : 0 ≤ A * (s * 1073741824 + 75 / 4294967296 - A) := Rat.mul_nonneg h0 (by grind)
  have h2 : 0 ≤ (s * 1073741824 + 75 / 4294967296) * (s * 1073741824 + 75 / 4294967296 - A) := Rat.mul_nonneg (by grind) (by grind)
  grind
theorem quick_pyth {r : Nat} (h : r ≤ 2700000) : (quickN r false / 4294967296) * (quickN r false / 4294967296) + (quickN r true / 4294967296) * (quickN r true / 4294967296) ≤ 1152921505680588799 := by
  obtain ⟨x0, x1⟩ := ang_bd h
  have hs := (quick_sin h).1
  have hc := (quick_cos h).1
  have hv := pyth_le 8000 ((r : Rat) * th) x0 (by grind) (by grind)
  have s1 := sin01 x0 (by grind)
  have c1 := cos01 x0 (by grind)
  generalize sinP ((r : Rat) * th) = s at *
  generalize cosP ((r : Rat) * th) = c at *
  have ds := Nat.div_mul_le_self (quickN r false) 4294967296
  have dc := Nat.div_mul_le_self (quickN r true) 4294967296
  generalize quickN r false = a at *
  generalize quickN r true = b at *
  generalize a / 4294967296 = A at *
  generalize b / 4294967296 = B at *
  have ds' : (A : Rat) * 4294967296 ≤ (a : Rat) := by exact_mod_cast ds
  have dc' : (B : Rat) * 4294967296 ≤ (b : Rat) := by exact_mod_cast dc
  have hY : (Y : Rat) = 4611686018427387904 := by decide +kernel
  rw [hY] at hs hc
  have kA : (A : Rat) * 4294967296 ≤ s * 4611686018427387904 + 75 := by grind
  have kB : (B : Rat) * 4294967296 ≤ c * 4611686018427387904 + 75 := by grind
  have sqA := sq_le2 (c0 A) kA s1
  have sqB := sq_le2 (c0 B) kB c1
  have hv' : s * s + c * c ≤ 1 + 1 / 100000000000 := by
    have : ((8000 : Nat) : Rat) * (1 / 1000000000000000) ≤ 1 / 100000000000 := by decide +kernel
    grind
  have fin : (A : Rat) * (A : Rat) + (B : Rat) * (B : Rat) ≤ 1152921505680588799 := by grind
  exact_mod_cast fin
theorem sF_half {q : Int} (h0 : 0 ≤ q) (h1 : q ≤ 2700000) : sF q * sF q + sF (5400000 - q) * sF (5400000 - q) ≤ 1152921505680588799 := by
  by_cases e0 : q = 0
  · subst e0; decide +kernel
  by_cases e1 : q = 1800000
  · subst e1; decide +kernel
  by_cases e2 : q = 2700000
  · subst e2; decide +kernel
  have hq := quick_pyth (r := q.toNat) (by omega)
  have f1 : sF q = ((quickN q.toNat false / 4294967296 : Nat) : Int) := by
    unfold sF
    rw [if_neg e0, if_neg e1, if_neg (by omega), if_pos (by omega)]
  have f2 : sF (5400000 - q) = ((quickN q.toNat true / 4294967296 : Nat) : Int) := by
    unfold sF
    rw [if_neg (by omega), if_neg (by omega), if_neg (by omega), if_neg (by omega), show 5400000 - (5400000 - q) = q by omega]
  rw [f1, f2]
  clear f1 f2
  generalize quickN q.toNat false / 4294967296 = A at *
  generalize quickN q.toNat true / 4294967296 = B at *
  have e1 : ((A * A + B * B : Nat) : Int) ≤ ((1152921505680588799 : Nat) : Int) := Int.ofNat_le.2 hq
  rw [Int.natCast_add, Int.natCast_mul, Int.natCast_mul] at e1
  omega
theorem sF_pyth {q : Int} (h0 : 0 ≤ q) (h1 : q ≤ 5400000) : sF q * sF q + sF (5400000 - q) * sF (5400000 - q) ≤ 1152921505680588799 := by
  by_cases h : q ≤ 2700000
  · exact sF_half h0 h
  · have := sF_half (q := 5400000 - q) (by omega) (by omega)
    rw [show 5400000 - (5400000 - q) = q by omega] at this
    omega
/-- One times the sine, rounded towards zero -/
def tz (n : Int) : Int := if sth n = true then - sF (qrt n) else sF (qrt n)
theorem up_ge (q : Int) : sF q ≤ upF q := by unfold upF; split <;> omega
theorem tz_bd (n : Int) : loB n ≤ tz n ∧ tz n ≤ hiB n := by
  have := up_ge (qrt n)
  unfold loB hiB tz
  split <;> omega
theorem sq_neg (a : Int) : -a * -a = a * a := by grind
theorem tz_pyth (n : Int) : tz n * tz n + tz (n + 5400000) * tz (n + 5400000) ≤ 1152921505680588799 := by
  have hb := qrt_bd n
  have e : qrt (n + 5400000) = 5400000 - qrt n := by unfold qrt; omega
  have := sF_pyth hb.1 hb.2
  have a1 : tz n * tz n = sF (qrt n) * sF (qrt n) := by unfold tz; split <;> grind
  have a2 : tz (n + 5400000) * tz (n + 5400000) = sF (5400000 - qrt n) * sF (5400000 - qrt n) := by unfold tz; rw [e]; split <;> grind
  omega
theorem en_tz (lo hi : Int) : enLo lo hi ≤ tz lo ∧ tz lo ≤ enHi lo hi := by
  have h1 := tz_bd lo
  have h2 := hi_le lo
  unfold enLo enHi
  generalize metB lo hi 16200000 = s at *
  generalize metB lo hi 5400000 = t at *
  generalize loB lo = p at *
  generalize hiB lo = q at *
  generalize tz lo = z at *
  cases s <;> cases t <;> simp only [Bool.false_eq_true, if_false, if_true] <;> omega
theorem lin1 {x1 x2 u : Int} (h1 : x1 ≤ u) (h2 : u ≤ x2) (v : Int) : min (x1 * v) (x2 * v) ≤ u * v ∧ u * v ≤ max (x1 * v) (x2 * v) := by
  rcases Int.le_total 0 v with g | g
  · have := Int.mul_le_mul_of_nonneg_right h1 g
    have := Int.mul_le_mul_of_nonneg_right h2 g
    omega
  · have := Int.mul_le_mul_of_nonpos_right h1 g
    have := Int.mul_le_mul_of_nonpos_right h2 g
    omega
theorem lin2 {y1 y2 v : Int} (h1 : y1 ≤ v) (h2 : v ≤ y2) (u : Int) : min (u * y1) (u * y2) ≤ u * v ∧ u * v ≤ max (u * y1) (u * y2) := by
  have := lin1 h1 h2 u
  rw [Int.mul_comm u y1, Int.mul_comm u y2, Int.mul_comm u v]
  exact this
/-- an interval of products has each product -/
theorem mulP_in {x y : Int × Int} {u v : Int} (h1 : x.1 ≤ u) (h2 : u ≤ x.2) (g1 : y.1 ≤ v) (g2 : v ≤ y.2) : (mulP x y).1 ≤ u * v / 1073741824 ∧ -(-(u * v) / 1073741824) ≤ (mulP x y).2 := by
  have a := lin1 h1 h2 v
  have b := lin2 g1 g2 x.1
  have c := lin2 g1 g2 x.2
  unfold mulP
  simp only []
  generalize x.1 * y.1 = p at *
  generalize x.1 * y.2 = q at *
  generalize x.2 * y.1 = r at *
  generalize x.2 * y.2 = s at *
  generalize x.1 * v = k at *
  generalize x.2 * v = l at *
  generalize u * v = m at *
  omega
theorem sqn (a : Int) : 0 ≤ a * a := by
  rcases Int.le_total 0 a with h | h
  · exact Int.mul_nonneg h h
  · exact Int.mul_nonneg_of_nonpos_of_nonpos h h
theorem two_mul_le (a b : Int) : 2 * (a * b) ≤ a * a + b * b ∧ -(2 * (a * b)) ≤ a * a + b * b := by
  have h1 : 0 ≤ (a - b) * (a - b) := sqn _
  have h2 : 0 ≤ (a + b) * (a + b) := sqn _
  have e1 : (a - b) * (a - b) = a * a + b * b - 2 * (a * b) := by grind
  have e2 : (a + b) * (a + b) = a * a + b * b + 2 * (a * b) := by grind
  omega
theorem tz_one (n : Int) : -1073741824 ≤ tz n ∧ tz n ≤ 1073741824 := by
  have h := qrt_bd n
  have := sF_bd h.1 h.2
  unfold tz
  split <;> omega
/-- a triangle's sine meets the sines -/
theorem sinT_meets (a b c : Int × Int) : (sinT a b c).1 ≤ 1073741824 ∧ -1073741824 ≤ (sinT a b c).2 := by
  have sa := en_tz a.1 a.2
  have sb := en_tz b.1 b.2
  have ca := en_tz (a.1 + 5400000) (a.2 + 5400000)
  have cb := en_tz (b.1 + 5400000) (b.2 + 5400000)
  have cc := en_tz (c.1 + 5400000) (c.2 + 5400000)
  have pa := tz_pyth a.1
  have pb := tz_pyth b.1
  have m1 := mulP_in (x := snP a) (y := snP b) sa.1 sa.2 sb.1 sb.2
  have m2 := mulP_in (x := csP a) (y := csP b) ca.1 ca.2 cb.1 cb.2
  have oc := tz_one (c.1 + 5400000)
  have q1 := two_mul_le (tz a.1) (tz b.1)
  have q2 := two_mul_le (tz (a.1 + 5400000)) (tz (b.1 + 5400000))
  generalize tz (c.1 + 5400000) = z at *
  have main : ∀ t : Int, (mulP (csP a) (csP b)).1 ≤ t → t ≤ (mulP (csP a) (csP b)).2 → (∃ k : Int, 0 ≤ k ∧ -k ≤ t ∧ t ≤ k ∧ 2 * (1073741824 * k) ≤ tz (a.1 + 5400000) * tz (a.1 + 5400000) + tz (b.1 + 5400000) * tz (b.1 + 5400000)) → (sinT a b c).1 ≤ 1073741824 ∧ -1073741824 ≤ (sinT a b c).2 := by
    rintro t h1 h2 ⟨k, k0, k1, k2, k3⟩
    have m3 := mulP_in (x := mulP (csP a) (csP b)) (y := csP c) h1 h2 cc.1 cc.2
    have b1 : -(k * 1073741824) ≤ t * z ∧ t * z ≤ k * 1073741824 := by
      have e1 : 0 ≤ (k - t) * (1073741824 + z) := Int.mul_nonneg (by omega) (by omega)
      have e2 : 0 ≤ (k + t) * (1073741824 - z) := Int.mul_nonneg (by omega) (by omega)
      have e3 : 0 ≤ (k - t) * (1073741824 - z) := Int.mul_nonneg (by omega) (by omega)
      have e4 : 0 ≤ (k + t) * (1073741824 + z) := Int.mul_nonneg (by omega) (by omega)
      have f1 : (k - t) * (1073741824 + z) = k * 1073741824 + k * z - t * 1073741824 - t * z := by grind
      have f2 : (k + t) * (1073741824 - z) = k * 1073741824 - k * z + t * 1073741824 - t * z := by grind
      have f3 : (k - t) * (1073741824 - z) = k * 1073741824 - k * z - t * 1073741824 + t * z := by grind
      have f4 : (k + t) * (1073741824 + z) = k * 1073741824 + k * z + t * 1073741824 + t * z := by grind
      omega
    unfold sinT addP
    simp only []
    generalize t * z = tz' at *
    generalize (mulP (snP a) (snP b)).1 = w1 at *
    generalize (mulP (snP a) (snP b)).2 = w2 at *
    generalize (mulP (mulP (csP a) (csP b)) (csP c)).1 = w3 at *
    generalize (mulP (mulP (csP a) (csP b)) (csP c)).2 = w4 at *
    generalize tz a.1 * tz b.1 = ab at *
    generalize tz a.1 * tz a.1 = aa at *
    generalize tz b.1 * tz b.1 = bb at *
    generalize tz (a.1 + 5400000) * tz (a.1 + 5400000) = xx at *
    generalize tz (b.1 + 5400000) * tz (b.1 + 5400000) = yy at *
    clear sa sb ca cb cc m2 h1 h2
    omega
  generalize tz (a.1 + 5400000) * tz (b.1 + 5400000) = cx at *
  by_cases hp : 0 ≤ cx
  · exact main (cx / 1073741824) m2.1 (by omega) ⟨cx / 1073741824, by omega, by omega, by omega, by omega⟩
  · exact main (-(-cx / 1073741824)) (by omega) m2.2 ⟨-cx / 1073741824, by omega, by omega, by omega, by omega⟩
end Go.Proofs.YtienkfcliocjgaaGreat.Trig
namespace Go.Proofs.YtienkfcliocjgaaGreat
open Go.RowKit
/-- the altitude of a triangle -/
noncomputable def altP (a b c : Int × Int) : Int × Int := (Trig.asnV (max (Trig.sinT a b c).1 (-1073741824)), -Trig.asnV (-(min (Trig.sinT a b c).2 1073741824)))
/-- the distance of a box from a point -/
noncomputable def dstV (q : Bx) (p : Int × Int) : Int × Int := (5400000 - (altP (q.1, q.2.1) (p.1, p.1) (q.2.2.1 - p.2, q.2.2.2 - p.2)).2, 5400000 - (altP (q.1, q.2.1) (p.1, p.1) (q.2.2.1 - p.2, q.2.2.2 - p.2)).1)
theorem alt_bd2 (a b c : Int × Int) : -5400000 ≤ (altP a b c).1 ∧ (altP a b c).1 ≤ 5400000 ∧ -5400000 ≤ (altP a b c).2 ∧ (altP a b c).2 ≤ 5400000 := by
  have h1 := Trig.asn_bd (max (Trig.sinT a b c).1 (-1073741824))
  have h2 := Trig.asn_bd (-(min (Trig.sinT a b c).2 1073741824))
  unfold altP
  simp only []
  omega
theorem dst_bd (q : Bx) (p : Int × Int) : 0 ≤ (dstV q p).1 ∧ (dstV q p).1 ≤ 10800000 ∧ 0 ≤ (dstV q p).2 ∧ (dstV q p).2 ≤ 10800000 := by
  have := alt_bd2 (q.1, q.2.1) (p.1, p.1) (q.2.2.1 - p.2, q.2.2.2 - p.2)
  unfold dstV
  simp only []
  omega
theorem dst_1 (q : Bx) (p : Int × Int) : 5400000 - (dstV q p).1 = (altP (q.1, q.2.1) (p.1, p.1) (q.2.2.1 - p.2, q.2.2.2 - p.2)).2 := by unfold dstV; simp only []; omega
theorem dst_2 (q : Bx) (p : Int × Int) : 5400000 - (dstV q p).2 = (altP (q.1, q.2.1) (p.1, p.1) (q.2.2.1 - p.2, q.2.2.2 - p.2)).1 := by unfold dstV; simp only []; omega
/-- a box of latitudes and longitudes -/
structure OkB (q : Bx) : Prop where
  a0 : -5400000 ≤ q.1
  a1 : q.1 ≤ q.2.1
  a2 : q.2.1 ≤ 5400000
  o0 : -10800000 ≤ q.2.2.1
  o1 : q.2.2.1 ≤ q.2.2.2
  o2 : q.2.2.2 ≤ 10800000
/-- a valid point -/
def okP (p : Int × Int) : Bool := decide (-5400000 ≤ p.1 ∧ p.1 ≤ 5400000 ∧ -10800000 ≤ p.2 ∧ p.2 < 10800000)
theorem okP_iff {p : Int × Int} : okP p = true ↔ (-5400000 ≤ p.1 ∧ p.1 ≤ 5400000 ∧ -10800000 ≤ p.2 ∧ p.2 < 10800000) := by unfold okP; exact decide_eq_true_iff
/-- the program's Altitude at a box and a point -/
theorem alt_box (q : Bx) (p : Int × Int) (W : World) (hq : OkB q) (hp : okP p = true) : Calls Tryz.prog 17 #[.agg #[.int .i64 q.1, .int .i64 q.2.1, .int .i64 p.1, .int .i64 p.1, .int .i64 (q.2.2.1 - p.2), .int .i64 (q.2.2.2 - p.2)]] W fun e w' => e = .returned (.tuple #[.agg #[.int .i64 (5400000 - (dstV q p).2), .int .i64 (5400000 - (dstV q p).1)], .int .i64 0]) ∧ Below W.heap.size W w' := by
  obtain ⟨h0, h1, h2, h3⟩ := okP_iff.1 hp
  obtain ⟨a0, a1, a2, o0, o1, o2⟩ := hq
  have hm := Trig.sinT_meets (q.1, q.2.1) (p.1, p.1) (q.2.2.1 - p.2, q.2.2.2 - p.2)
  have := Altitude_yes (q.1, q.2.1) (p.1, p.1) (q.2.2.1 - p.2, q.2.2.2 - p.2) W ⟨a0, a1, a2⟩ ⟨h0, Int.le_refl _, h1⟩ (avB_true.2 (by simp only []; omega)) hm.1 hm.2
  refine this.mono ?_
  rintro e w' ⟨he, hb⟩
  refine ⟨?_, hb⟩
  rw [he, dst_1, dst_2]
  rfl
theorem ralt_box (q : Bx) (p : Int × Int) (W : World) (hq : OkB q) (hp : okP p = true) : Calls Tryz.prog 40 #[.agg #[.int .i64 q.1, .int .i64 q.2.1, .int .i64 p.1, .int .i64 p.1, .int .i64 (q.2.2.1 - p.2), .int .i64 (q.2.2.2 - p.2)]] W fun e w' => e = .returned (.agg #[.int .i64 (5400000 - (dstV q p).2), .int .i64 (5400000 - (dstV q p).1)]) ∧ Below W.heap.size W w' := by
  obtain ⟨h0, h1, h2, h3⟩ := okP_iff.1 hp
  obtain ⟨a0, a1, a2, o0, o1, o2⟩ := hq
  have hm := Trig.sinT_meets (q.1, q.2.1) (p.1, p.1) (q.2.2.1 - p.2, q.2.2.2 - p.2)
  have := rAltitude_yes (q.1, q.2.1) (p.1, p.1) (q.2.2.1 - p.2, q.2.2.2 - p.2) W (by simp only []; omega) (by simp only []; omega) (by simp only []; omega) hm.1 hm.2
  refine this.mono ?_
  rintro e w' ⟨he, hb⟩
  refine ⟨?_, hb⟩
  rw [he, dst_1, dst_2]
  rfl
set_option maxHeartbeats 400000 in
theorem r5Sub_any (a b c d : Int) (w : World) (h0 : -2000000000000 ≤ a) (h1 : a ≤ 2000000000000) (h2 : -2000000000000 ≤ b) (h3 : b ≤ 2000000000000) (h4 : -2000000000000 ≤ c) (h5 : c ≤ 2000000000000) (h6 : -2000000000000 ≤ d) (h7 : d ≤ 2000000000000) :
    Calls Tryz.prog 61 #[.agg #[.int .i64 a, .int .i64 b], .agg #[.int .i64 c, .int .i64 d]] w fun e w' => e = .returned (.agg #[.int .i64 (a - d), .int .i64 (b - c)]) ∧ Below w.heap.size w w' := by
  go_enter Tryz.func61, Tryz.ntmps61
  go_wp2
  refine bodyPost_ret (v := .agg #[.int .i64 (a - d), .int .i64 (b - c)]) (by simp [results, Tryz.results61, go_sem, *]; done) rfl ⟨rfl, ?_⟩
  repeat (first | exact Below.refl _ _ | assumption | refine bl_drew ?_ | refine bl_drewN ?_ _ | refine Below.setCell ?_ (by first | assumption | omega | (simp; done) | (simp; omega)) _ | refine Below.alloc ?_ (by first | assumption | omega | (simp; done) | (simp; omega)) _)
theorem blk6 {W : World} {g : Nat} {t : TypeId} {z : Value} (h : Blk W g t #[z, z, z, z, z, z]) (u0 u1 u2 u3 u4 u5 : Value) : Blk ((((((W.setCell ⟨g, 0, none⟩ u0).setCell ⟨g, 1, none⟩ u1).setCell ⟨g, 2, none⟩ u2).setCell ⟨g, 3, none⟩ u3).setCell ⟨g, 4, none⟩ u4).setCell ⟨g, 5, none⟩ u5) g t #[u0, u1, u2, u3, u4, u5] := by
  have := ((((((h.set_ 0 u0).set_ 1 u1).set_ 2 u2).set_ 3 u3).set_ 4 u4).set_ 5 u5)
  simp only [List.setIfInBounds_toArray, List.set_cons_zero, List.set_cons_succ] at this
  exact this
theorem bl6 {B : Nat} {a w : World} {g : Nat} (h : Below B a w) (hg : B ≤ g) (u0 u1 u2 u3 u4 u5 : Value) : Below B a ((((((w.setCell ⟨g, 0, none⟩ u0).setCell ⟨g, 1, none⟩ u1).setCell ⟨g, 2, none⟩ u2).setCell ⟨g, 3, none⟩ u3).setCell ⟨g, 4, none⟩ u4).setCell ⟨g, 5, none⟩ u5) :=
  ((((((h.setCell hg u0).setCell hg u1).setCell hg u2).setCell hg u3).setCell hg u4).setCell hg u5)
theorem triS {W0 w' : World} {g k : Nat} {t t' : TypeId} {a0 a1 b0 b1 q0 q1 q2 q3 : Int} {z0 z1 : Value} (h : Blk W0 g t #[.int .i64 a0, .int .i64 a1, .int .i64 b0, .int .i64 b1, z0, z1]) (h' : Blk W0 k t' #[.int .i64 q0, .int .i64 q1, .int .i64 q2, .int .i64 q3]) (hb : Below W0.heap.size W0 w') :
    w'.cell? ⟨g, 0, none⟩ = some (.int .i64 a0) ∧ w'.cell? ⟨g, 1, none⟩ = some (.int .i64 a1) ∧ w'.cell? ⟨g, 2, none⟩ = some (.int .i64 b0) ∧ w'.cell? ⟨g, 3, none⟩ = some (.int .i64 b1) ∧ w'.cell? ⟨k, 0, none⟩ = some (.int .i64 q0) ∧ w'.cell? ⟨k, 1, none⟩ = some (.int .i64 q1) ∧ w'.cell? ⟨k, 2, none⟩ = some (.int .i64 q2) ∧ w'.cell? ⟨k, 3, none⟩ = some (.int .i64 q3) ∧ Below W0.heap.size W0 w' := by
  have u := h.below hb h.lt
  have v := h'.below hb h'.lt
  exact ⟨u.cell 0, u.cell 1, u.cell 2, u.cell 3, v.cell 0, v.cell 1, v.cell 2, v.cell 3, hb⟩
set_option maxHeartbeats 4000000 in
set_option maxRecDepth 100000 in
theorem Triangle_any (a0 a1 b0 b1 q0 q1 q2 q3 : Int) (w : World) (h4 : -20000000 ≤ b0 ∧ b0 ≤ 20000000 ∧ -20000000 ≤ b1 ∧ b1 ≤ 20000000 ∧ -20000000 ≤ q2 ∧ q2 ≤ 20000000 ∧ -20000000 ≤ q3 ∧ q3 ≤ 20000000) :
    Calls Tryz.prog 41 #[.agg #[.int .i64 a0, .int .i64 a1, .int .i64 b0, .int .i64 b1, .int .i64 0, .int .i64 0], .agg #[.int .i64 q0, .int .i64 q1, .int .i64 q2, .int .i64 q3]] w fun e w' => e = .returned (.agg #[.int .i64 q0, .int .i64 q1, .int .i64 a0, .int .i64 a1, .int .i64 (q2 - b1), .int .i64 (q3 - b0)]) ∧ Below w.heap.size w w' := by
  have KS := Lib.hid (fun W => r5Sub_any q2 q3 b0 b1 W (by omega) (by omega) (by omega) (by omega) (by omega) (by omega) (by omega) (by omega))
  generalize q2 - b1 = y0 at *
  generalize q3 - b0 = y1 at *
  clear h4
  have T1 := Lib.hid (((Blk.new w 68 #[.int .i64 a0, .int .i64 a1, .int .i64 b0, .int .i64 b1, .int .i64 0, .int .i64 0]).alloc (.cells #[.int .i64 q0, .int .i64 q1, .int .i64 q2, .int .i64 q3] 29)).alloc (.cells #[.int .i64 0, .int .i64 0, .int .i64 0, .int .i64 0, .int .i64 0, .int .i64 0] 52))
  have T2 : Hid (Blk (((w.alloc (.cells #[.int .i64 a0, .int .i64 a1, .int .i64 b0, .int .i64 b1, .int .i64 0, .int .i64 0] 68)).alloc (.cells #[.int .i64 q0, .int .i64 q1, .int .i64 q2, .int .i64 q3] 29)).alloc (.cells #[.int .i64 0, .int .i64 0, .int .i64 0, .int .i64 0, .int .i64 0, .int .i64 0] 52)) (w.heap.size + 1) 29 #[.int .i64 q0, .int .i64 q1, .int .i64 q2, .int .i64 q3]) := Lib.hid (by
    have := (Blk.new (w.alloc (.cells #[.int .i64 a0, .int .i64 a1, .int .i64 b0, .int .i64 b1, .int .i64 0, .int .i64 0] 68)) 29 #[.int .i64 q0, .int .i64 q1, .int .i64 q2, .int .i64 q3]).alloc (.cells #[.int .i64 0, .int .i64 0, .int .i64 0, .int .i64 0, .int .i64 0, .int .i64 0] 52)
    rwa [World.size_alloc] at this)
  have TR : Hid (Blk (((w.alloc (.cells #[.int .i64 a0, .int .i64 a1, .int .i64 b0, .int .i64 b1, .int .i64 0, .int .i64 0] 68)).alloc (.cells #[.int .i64 q0, .int .i64 q1, .int .i64 q2, .int .i64 q3] 29)).alloc (.cells #[.int .i64 0, .int .i64 0, .int .i64 0, .int .i64 0, .int .i64 0, .int .i64 0] 52)) (w.heap.size + 1 + 1) 52 #[.int .i64 0, .int .i64 0, .int .i64 0, .int .i64 0, .int .i64 0, .int .i64 0]) := Lib.hid (by
    have := Blk.new ((w.alloc (.cells #[.int .i64 a0, .int .i64 a1, .int .i64 b0, .int .i64 b1, .int .i64 0, .int .i64 0] 68)).alloc (.cells #[.int .i64 q0, .int .i64 q1, .int .i64 q2, .int .i64 q3] 29)) 52 #[.int .i64 0, .int .i64 0, .int .i64 0, .int .i64 0, .int .i64 0, .int .i64 0]
    rwa [World.size_alloc, World.size_alloc] at this)
  have B0 := Lib.hid (((bl_alloc w (.cells #[.int .i64 a0, .int .i64 a1, .int .i64 b0, .int .i64 b1, .int .i64 0, .int .i64 0] 68)).alloc (by simp) (.cells #[.int .i64 q0, .int .i64 q1, .int .i64 q2, .int .i64 q3] 29)).alloc (by simp; omega) (.cells #[.int .i64 0, .int .i64 0, .int .i64 0, .int .i64 0, .int .i64 0, .int .i64 0] 52))
  go_enter Tryz.func41, Tryz.ntmps41
  go_upto_region 1 with (fail)
  generalize ((w.alloc (.cells #[.int .i64 a0, .int .i64 a1, .int .i64 b0, .int .i64 b1, .int .i64 0, .int .i64 0] 68)).alloc (.cells #[.int .i64 q0, .int .i64 q1, .int .i64 q2, .int .i64 q3] 29)).alloc (.cells #[.int .i64 0, .int .i64 0, .int .i64 0, .int .i64 0, .int .i64 0, .int .i64 0] 52) = W0 at *
  obtain ⟨x0, x1, x2, x3, x4, x5, x6, x7, -⟩ := triS T1.out T2.out (Below.refl _ _)
  have hn1 : ¬ w.heap.size + 1 + 1 = w.heap.size := by omega
  have hn2 : ¬ w.heap.size + 1 + 1 = w.heap.size + 1 := by omega
  go_region_held3 (fun w' => w'.cell? ⟨w.heap.size, 0, none⟩ = some (.int .i64 a0) ∧ w'.cell? ⟨w.heap.size, 1, none⟩ = some (.int .i64 a1) ∧ w'.cell? ⟨w.heap.size, 2, none⟩ = some (.int .i64 b0) ∧ w'.cell? ⟨w.heap.size, 3, none⟩ = some (.int .i64 b1) ∧ w'.cell? ⟨w.heap.size + 1, 0, none⟩ = some (.int .i64 q0) ∧ w'.cell? ⟨w.heap.size + 1, 1, none⟩ = some (.int .i64 q1) ∧ w'.cell? ⟨w.heap.size + 1, 2, none⟩ = some (.int .i64 q2) ∧ w'.cell? ⟨w.heap.size + 1, 3, none⟩ = some (.int .i64 q3)) (simp [*, World.cell?_setCell_other]) (first
    | (go_at_call 61; (with_reducible refine (KS.out _).mono ?_); rintro e w9 ⟨rfl, hb9⟩; (first | (replace hb9 := first_b hb9) | skip); have Z9 := hb9; clear x0 x1 x2 x3 x4 x5 x6 x7; have B9 := Lib.hid (B0.out.trans (Z9.mono B0.out.size)); have T9 := Lib.hid (TR.out.below Z9 TR.out.lt); obtain ⟨x0, x1, x2, x3, x4, x5, x6, x7, -⟩ := triS T1.out T2.out Z9; have z9 := fun i => T9.out.cell i; have f9 := fun i => T9.out.frozen i)
    | fail)
  all_goals
    have hB := B9.out
    have HZ := Lib.hid T9.out
    clear x0 x1 x2 x3 x4 x5 x6 x7 KS T1 T2 TR T9
    go_wp2
    clear z9 f9
    generalize hW : World.setCell _ (⟨w.heap.size + 1 + 1, 5, none⟩ : Addr) _ = W6
    have TB : Blk W6 (w.heap.size + 1 + 1) 52 #[.int .i64 q0, .int .i64 q1, .int .i64 a0, .int .i64 a1, .int .i64 y0, .int .i64 y1] := by
      rw [← hW]
      with_reducible exact blk6 HZ.out _ _ _ _ _ _
    have hBW : Below w.heap.size w W6 := by
      rw [← hW]
      with_reducible exact bl6 hB (Nat.le_succ_of_le (Nat.le_succ _)) _ _ _ _ _ _
    have z := fun i => TB.cell i
    clear hW hB HZ TB
    have r0 : W6.cell? ⟨w.heap.size + 1 + 1, 0, none⟩ = some (.int .i64 q0) := z 0
    have r1 : W6.cell? ⟨w.heap.size + 1 + 1, 1, none⟩ = some (.int .i64 q1) := z 1
    have r2 : W6.cell? ⟨w.heap.size + 1 + 1, 2, none⟩ = some (.int .i64 a0) := z 2
    have r3 : W6.cell? ⟨w.heap.size + 1 + 1, 3, none⟩ = some (.int .i64 a1) := z 3
    have r4 : W6.cell? ⟨w.heap.size + 1 + 1, 4, none⟩ = some (.int .i64 y0) := z 4
    have r5 : W6.cell? ⟨w.heap.size + 1 + 1, 5, none⟩ = some (.int .i64 y1) := z 5
    clear z
    refine bodyPost_ret (v := .agg #[.int .i64 q0, .int .i64 q1, .int .i64 a0, .int .i64 a1, .int .i64 y0, .int .i64 y1]) ?_ rfl ⟨rfl, hBW⟩
    clear hBW
    simp [results, Tryz.results41, go_sem, r0, r1, r2, r3, r4, r5]
set_option maxHeartbeats 4000000 in
set_option maxRecDepth 100000 in
theorem Distance_any (q : Bx) (p : Int × Int) (w : World) (hq : OkB q) (hp : okP p = true) :
    Calls Tryz.prog 27 #[.agg #[.int .i64 q.1, .int .i64 q.2.1, .int .i64 q.2.2.1, .int .i64 q.2.2.2], .agg #[.int .i64 p.1, .int .i64 p.2]] w fun e w' => e = .returned (.agg #[.int .i64 (dstV q p).1, .int .i64 (dstV q p).2]) ∧ Below w.heap.size w w' := by
  have KA := fun W => ralt_box q p W hq hp
  have hd := dst_bd q p
  have KT := fun W => Triangle_any p.1 p.1 p.2 p.2 q.1 q.2.1 q.2.2.1 q.2.2.2 W (by have := okP_iff.1 hp; have := hq.o0; have := hq.o1; have := hq.o2; omega)
  generalize (dstV q p).1 = d0 at *
  generalize (dstV q p).2 = d1 at *
  obtain ⟨q0, q1, q2, q3⟩ := q
  obtain ⟨p0, p1⟩ := p
  simp only [] at KA KT ⊢
  clear hq hp
  have KA := Lib.hid KA
  have KT := Lib.hid KT
  have TR : Hid (D2 (((w.alloc (.cells #[.int .i64 q0, .int .i64 q1, .int .i64 q2, .int .i64 q3] 29)).alloc (.cells #[.int .i64 p0, .int .i64 p1] 24)).alloc (.cells #[.int .i64 0, .int .i64 0] 27)) (w.heap.size + 1 + 1) 0 0) := Lib.hid (by
    have := D2.new ((w.alloc (.cells #[.int .i64 q0, .int .i64 q1, .int .i64 q2, .int .i64 q3] 29)).alloc (.cells #[.int .i64 p0, .int .i64 p1] 24)) 0 0 27
    rwa [World.size_alloc, World.size_alloc] at this)
  have B0 := Lib.hid (((bl_alloc w (.cells #[.int .i64 q0, .int .i64 q1, .int .i64 q2, .int .i64 q3] 29)).alloc (by simp) (.cells #[.int .i64 p0, .int .i64 p1] 24)).alloc (by simp; omega) (.cells #[.int .i64 0, .int .i64 0] 27))
  go_enter Tryz.func27, Tryz.ntmps27
  go_wp2_with fail
  (with_reducible refine (KT.out _).mono ?_)
  rintro e w1 ⟨rfl, hb1⟩
  have hs0 := TR.out.lt
  have hb1' := (bl_alloc _ _).trans (hb1.mono (by simp))
  have TR1 := Lib.hid (TR.out.below hb1' TR.out.lt)
  have B1 := Lib.hid (B0.out.trans (hb1'.mono B0.out.size))
  clear hb1 hb1' TR B0 KT hs0
  go_wp2_with fail
  (with_reducible refine (KA.out _).mono ?_)
  rintro e w2 ⟨rfl, hb2⟩
  have B2 := Lib.hid (B1.out.trans (hb2.mono B1.out.size))
  obtain ⟨rt, ra, rb, rf0, rf1⟩ := TR1.out.below hb2 TR1.out.lt
  clear hb2 TR1
  have n1 : 5400000 - (5400000 - d0) = d0 := by omega
  have n2 : 5400000 - (5400000 - d1) = d1 := by omega
  go_wp2
  refine bodyPost_ret (v := .agg #[.int .i64 d0, .int .i64 d1]) (by simp [results, Tryz.results27, go_sem, *]; done) rfl ⟨rfl, ?_⟩
  have B3 := B2.out
  have hs3 := B3.size
  repeat (first | exact Below.refl _ _ | assumption | refine bl_drew ?_ | refine bl_drewN ?_ _ | refine Below.setCell ?_ (by first | assumption | omega | (simp; done) | (simp; omega)) _ | refine Below.alloc ?_ (by first | assumption | omega | (simp; done) | (simp; omega)) _)
end Go.Proofs.YtienkfcliocjgaaGreat
