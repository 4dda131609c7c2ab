/- Plain: One times the sine of any angle, rounded down and up; the reference's way and the program's. No program in sight. -/
import Derived.Test.YtbpnacacnncopaaGreatDoorHTb
set_option linter.unusedVariables false
set_option linter.unusedSimpArgs false
namespace Go.Proofs.YtbpnacacnncopaaGreatDoor.Trig
abbrev ZN : Nat := 115792089237316195423570985008687907853269984665640564039457584007913129639936
abbrev Z : Rat := 115792089237316195423570985008687907853269984665640564039457584007913129639936
def MulOk (a b v : Nat) : Prop := v * ZN ≤ a * b ∧ a * b ≤ (v + 2) * ZN
theorem mis_bd {x : Rat} (hx : 0 ≤ x) (hx1 : x ≤ 4 / 5) : ∀ (n m : Nat), 0 ≤ mis x m n ∧ mis x m n ≤ 1 / 2
  | 0, m => by simp [mis]; grind
  | n + 1, m => by
    obtain ⟨a, b⟩ := mis_bd hx hx1 n (m + 2)
    have y1 : x * x ≤ 1 := by
      have := Rat.mul_nonneg (a := 4 / 5 - x) (b := 4 / 5 + x) (by grind) (by grind)
      grind_linarith
    have y0 : 0 ≤ x * x := Rat.mul_nonneg hx hx
    have hm := c0 m
    have hp : 2 ≤ ((m : Rat) + 1) * ((m : Rat) + 2) := by
      have := Rat.mul_nonneg hm hm
      grind_linarith
    rw [mis]
    generalize mis x (m + 2) n = w at *
    generalize x * x = y at *
    generalize ((m : Rat) + 1) * ((m : Rat) + 2) = p at *
    have hq : y / p * p = y := Rat.div_mul_cancel (by grind)
    generalize y / p = q at *
    have q0 : 0 ≤ q := nn_of_mul (by rw [hq]; exact y0) (by grind)
    have q1 : q ≤ 1 / 2 := by
      have := Rat.mul_nonneg (a := q) (b := p - 2) q0 (by grind)
      grind_linarith
    have k1 := Rat.mul_nonneg (a := q) (b := 1 - w) q0 (by grind)
    have k2 := Rat.mul_nonneg (a := q) (b := w) q0 a
    constructor <;> grind
theorem mis_low {x : Rat} (hx : 0 ≤ x) (hx1 : x ≤ 4 / 5) (n : Nat) : x * x / 4 ≤ mis x 0 (n + 1) := by
  obtain ⟨a, b⟩ := mis_bd hx hx1 n (0 + 2)
  have y0 : 0 ≤ x * x := Rat.mul_nonneg hx hx
  rw [mis]
  generalize mis x (0 + 2) n = w at *
  have e : (((0 : Nat) : Rat) + 1) * (((0 : Nat) : Rat) + 2) = 2 := by decide +kernel
  rw [e]
  generalize x * x = y at *
  have := Rat.mul_nonneg (a := y) (b := 1 / 2 - w) y0 (by grind)
  grind_linarith
/-- one round of the program's series -/
theorem less_step {x : Rat} (hx : 0 ≤ x) (hx1 : x ≤ 4 / 5) {y u p m n : Nat} (hy : Nr (y : Rat) (Z * (x * x)) 4) (hu : Nr (u : Rat) (Z * mis x (m + 2) n) 8) (hul : u < ZN) (hp : MulOk (y / ((m + 1) * (m + 2))) u p) :
    p ≤ y / ((m + 1) * (m + 2)) ∧ Nr ((y / ((m + 1) * (m + 2)) - p : Nat) : Rat) (Z * mis x m (n + 1)) 8 := by
  obtain ⟨a, b⟩ := mis_bd hx hx1 n (m + 2)
  have y1 : x * x ≤ 16 / 25 := by
    have := Rat.mul_nonneg (a := 4 / 5 - x) (b := 4 / 5 + x) (by grind) (by grind)
    grind_linarith
  have y0 : 0 ≤ x * x := Rat.mul_nonneg hx hx
  have hm := c0 m
  have hd2 : 2 ≤ (m + 1) * (m + 2) := Nat.mul_le_mul (by omega : 1 ≤ m + 1) (by omega : 2 ≤ m + 2)
  have e : (((m + 1) * (m + 2) : Nat) : Rat) = ((m : Rat) + 1) * ((m : Rat) + 2) := by push_cast; rfl
  rw [mis, ← e]
  generalize (m + 1) * (m + 2) = d at *
  have hq1 := Nat.div_add_mod' y d
  have hq2 := Nat.mod_lt y (show 0 < d by omega)
  generalize hq : y / d = q at *
  obtain ⟨p1, p2⟩ := hp
  have hpq : p ≤ q := by
    have : q * u ≤ q * ZN := Nat.mul_le_mul_left q (Nat.le_of_lt hul)
    exact Nat.le_of_mul_le_mul_right (Nat.le_trans p1 this) (by unfold ZN; omega)
  refine ⟨hpq, ?_⟩
  have ec : ((q - p : Nat) : Rat) = (q : Rat) - (p : Rat) := by
    have : (q : Rat) = ((q - p : Nat) : Rat) + (p : Rat) := by rw [← Rat.natCast_add]; congr 1; omega
    grind
  rw [ec]
  have P1 : (p : Rat) * Z ≤ q * u := by unfold Z; exact_mod_cast p1
  have P2 : (q : Rat) * u ≤ (p + 2) * Z := by unfold Z; exact_mod_cast p2
  have Q1 : (q : Rat) * d ≤ y := by exact_mod_cast (show q * d ≤ y by omega)
  have Q2 : (y : Rat) ≤ q * d + d := by exact_mod_cast (show y ≤ q * d + d by omega)
  have D : (2 : Rat) ≤ d := by exact_mod_cast hd2
  have U : (u : Rat) ≤ Z := by unfold Z; exact_mod_cast Nat.le_of_lt hul
  have U0 := c0 u
  have Q0 := c0 q
  generalize mis x (m + 2) n = w at *
  generalize x * x = t at *
  generalize (q : Rat) = q at *
  generalize (p : Rat) = p at *
  generalize (y : Rat) = y at *
  generalize (u : Rat) = u at *
  generalize (d : Rat) = d at *
  have hr : t / d * d = t := Rat.div_mul_cancel (by grind)
  generalize t / d = r at *
  have r0 : 0 ≤ r := nn_of_mul (by rw [hr]; exact y0) (by grind)
  have r1 : r ≤ 8 / 25 := by
    have := Rat.mul_nonneg (a := r) (b := d - 2) r0 (by grind)
    grind_linarith
  obtain ⟨h1, h2⟩ := hy
  obtain ⟨u1, u2⟩ := hu
  -- q is near to Z r
  have g1 : q ≤ Z * r + 2 := by
    refine Rat.le_of_mul_le_mul_right (c := d) ?_ (by grind)
    have := Rat.mul_le_mul_of_nonneg_left (a := 2) (b := d) (c := 2) D (by grind)
    unfold Z at *
    grind
  have g2 : Z * r - 3 ≤ q := by
    refine Rat.le_of_mul_le_mul_right (c := d) ?_ (by grind)
    unfold Z at *
    grind
  -- p is near to r u
  have k1 := Rat.mul_nonneg (a := r) (b := 8 - (u - Z * w)) r0 (by grind)
  have k2 := Rat.mul_nonneg (a := r) (b := 8 - (Z * w - u)) r0 (by grind)
  have k3 := Rat.mul_nonneg (a := Z - u) (b := Z * r + 2 - q) (by grind) (by grind)
  have k4 := Rat.mul_nonneg (a := Z - u) (b := q - (Z * r - 3)) (by grind) (by grind)
  constructor
  · refine Rat.le_of_mul_le_mul_right (c := Z) ?_ (by decide +kernel)
    unfold Z at *
    grind_linarith
  · refine Rat.le_of_mul_le_mul_right (c := Z) ?_ (by decide +kernel)
    unfold Z at *
    grind_linarith
/-- the program's angle -/
def radN (r : Nat) : Nat := PiN * r / 10800000
theorem radN_near (r : Nat) : Nr (radN r : Rat) (Z * ((r : Rat) * th)) 1 := by
  have h1 : radN r * 10800000 ≤ PiN * r ∧ PiN * r ≤ radN r * 10800000 + 10800000 := by
    unfold radN
    omega
  have H1 : (radN r : Rat) * 10800000 ≤ PiN * r := by exact_mod_cast h1.1
  have H2 : (PiN : Rat) * r ≤ radN r * 10800000 + 10800000 := by exact_mod_cast h1.2
  have e : Z * th = (PiN : Rat) / 10800000 := by decide +kernel
  have e2 : Z * ((r : Rat) * th) = (r : Rat) * (Z * th) := by grind
  rw [e2, e]
  generalize (PiN : Rat) = p at *
  constructor <;> grind
theorem sq_near {x : Rat} (hx : 0 ≤ x) (hx1 : x ≤ 4 / 5) {X y : Nat} (hX : Nr (X : Rat) (Z * x) 1) (hy : MulOk X X y) : Nr (y : Rat) (Z * (x * x)) 4 := by
  obtain ⟨p1, p2⟩ := hy
  have P1 : (y : Rat) * Z ≤ X * X := by unfold Z; exact_mod_cast p1
  have P2 : (X : Rat) * X ≤ (y + 2) * Z := by unfold Z; exact_mod_cast p2
  have X0 := c0 X
  generalize (X : Rat) = X at *
  generalize (y : Rat) = y at *
  obtain ⟨a, b⟩ := hX
  have k1 := Rat.mul_nonneg (a := X + Z * x) (b := 1 - (X - Z * x)) (by unfold Z at *; grind) (by grind)
  have k2 := Rat.mul_nonneg (a := X + Z * x) (b := 1 - (Z * x - X)) (by unfold Z at *; grind) (by grind)
  constructor
  · refine Rat.le_of_mul_le_mul_right (c := Z) ?_ (by decide +kernel)
    unfold Z at *
    grind_linarith
  · refine Rat.le_of_mul_le_mul_right (c := Z) ?_ (by decide +kernel)
    unfold Z at *
    grind_linarith
theorem sin_near {x : Rat} (hx : 0 ≤ x) (hx1 : x ≤ 4 / 5) {X u p : Nat} (hX : Nr (X : Rat) (Z * x) 1) (hu : Nr (u : Rat) (Z * mis x 1 34) 8) (hul : u < ZN) (hp : MulOk X u p) : p ≤ X ∧ Nr ((X - p : Nat) : Rat) (Z * sinP x) 16 := by
  obtain ⟨w0, w1⟩ := mis_bd hx hx1 34 1
  have es : sinP x = x * (1 - mis x 1 34) := by
    rw [sin_alt, alt_mis]
    have : mo x 1 = x := by simp [mo]; grind
    rw [this]
  rw [es]
  obtain ⟨p1, p2⟩ := hp
  have hpq : p ≤ X := by
    have : X * u ≤ X * ZN := Nat.mul_le_mul_left X (Nat.le_of_lt hul)
    exact Nat.le_of_mul_le_mul_right (Nat.le_trans p1 this) (by unfold ZN; omega)
  refine ⟨hpq, ?_⟩
  have ec : ((X - p : Nat) : Rat) = (X : Rat) - (p : Rat) := by
    have : (X : Rat) = ((X - p : Nat) : Rat) + (p : Rat) := by rw [← Rat.natCast_add]; congr 1; omega
    grind
  rw [ec]
  have P1 : (p : Rat) * Z ≤ X * u := by unfold Z; exact_mod_cast p1
  have P2 : (X : Rat) * u ≤ (p + 2) * Z := by unfold Z; exact_mod_cast p2
  have U : (u : Rat) ≤ Z := by unfold Z; exact_mod_cast Nat.le_of_lt hul
  have U0 := c0 u
  have X0 := c0 X
  generalize mis x 1 34 = w at *
  generalize (X : Rat) = X at *
  generalize (p : Rat) = p at *
  generalize (u : Rat) = u at *
  obtain ⟨a, b⟩ := hX
  obtain ⟨u1, u2⟩ := hu
  have k1 := Rat.mul_nonneg (a := x) (b := 8 - (u - Z * w)) hx (by grind)
  have k2 := Rat.mul_nonneg (a := x) (b := 8 - (Z * w - u)) hx (by grind)
  have k3 := Rat.mul_nonneg (a := Z - u) (b := 1 - (X - Z * x)) (by grind) (by grind)
  have k4 := Rat.mul_nonneg (a := Z - u) (b := 1 - (Z * x - X)) (by grind) (by grind)
  constructor
  · refine Rat.le_of_mul_le_mul_right (c := Z) ?_ (by decide +kernel)
    unfold Z at *
    grind_linarith
  · refine Rat.le_of_mul_le_mul_right (c := Z) ?_ (by decide +kernel)
    unfold Z at *
    grind_linarith
theorem cos_near {x : Rat} (hx : 1 / 2 ^ 22 ≤ x) (hx1 : x ≤ 4 / 5) {u : Nat} (hu : Nr (u : Rat) (Z * mis x 0 34) 8) (hul : u < ZN) : 0 < u ∧ Nr ((ZN - u : Nat) : Rat) (Z * cosP x) 16 := by
  have hx0 : 0 ≤ x := Rat.le_trans (by decide +kernel) hx
  have hl := mis_low hx0 hx1 33
  have es : cosP x = 1 - mis x 0 34 := by
    rw [cos_alt, alt_mis]
    have : mo x 0 = 1 := by simp [mo]
    rw [this]
    grind
  rw [es]
  have hy : 1 / 2 ^ 22 * (1 / 2 ^ 22) ≤ x * x := Rat.le_trans (Rat.mul_le_mul_of_nonneg_left hx (by decide +kernel)) (Rat.mul_le_mul_of_nonneg_right hx hx0)
  obtain ⟨u1, u2⟩ := hu
  rw [show 33 + 1 = 34 from rfl] at hl
  have hpos : 0 < u := by
    have : (0 : Rat) < (u : Rat) := by
      generalize mis x 0 34 = w at *
      generalize x * x = y at *
      have hz : (100 : Rat) ≤ Z * (1 / 2 ^ 22 * (1 / 2 ^ 22) / 4) := by decide +kernel
      generalize (1 : Rat) / 2 ^ 22 * (1 / 2 ^ 22) = k at *
      unfold Z at *
      grind
    exact_mod_cast this
  refine ⟨hpos, ?_⟩
  have ec : ((ZN - u : Nat) : Rat) = Z - (u : Rat) := by
    have : ((ZN : Nat) : Rat) = ((ZN - u : Nat) : Rat) + (u : Rat) := by rw [← Rat.natCast_add]; congr 1; omega
    have e : ((ZN : Nat) : Rat) = Z := by decide +kernel
    grind
  rw [ec]
  generalize mis x 0 34 = w at *
  constructor <;> grind
/-- the program's sine and the reference's quick one have the same whole number -/
theorem same_floor {s v : Nat} {P : Rat} (hs : Nr (s : Rat) (Z * P) 16) (hv : Nr (v : Rat) (P * Y) 75) (hf : farB v = true) : s / 107839786668602559178668060348078522694548577690162289924414440996864 = v / 4294967296 := by
  unfold farB at hf
  rw [Bool.and_eq_true, Nat.ble_eq, Nat.ble_eq] at hf
  obtain ⟨a, b⟩ := hs
  obtain ⟨c, d⟩ := hv
  have e : Z = 25108406941546723055343157692830665664409421777856138051584 * Y := by decide +kernel
  have k1 : (s : Rat) ≤ ((v * 25108406941546723055343157692830665664409421777856138051584 + 76 * 25108406941546723055343157692830665664409421777856138051584 : Nat) : Rat) := by
    push_cast
    unfold Z Y at *
    grind
  have k2 : ((v * 25108406941546723055343157692830665664409421777856138051584 : Nat) : Rat) ≤ ((s + 76 * 25108406941546723055343157692830665664409421777856138051584 : Nat) : Rat) := by
    push_cast
    unfold Z Y at *
    grind
  have k1' : s ≤ v * 25108406941546723055343157692830665664409421777856138051584 + 76 * 25108406941546723055343157692830665664409421777856138051584 := by exact_mod_cast k1
  have k2' : v * 25108406941546723055343157692830665664409421777856138051584 ≤ s + 76 * 25108406941546723055343157692830665664409421777856138051584 := by exact_mod_cast k2
  clear k1 k2 a b c d e
  omega
end Go.Proofs.YtbpnacacnncopaaGreatDoor.Trig
namespace Go.Proofs.YtbpnacacnncopaaGreatDoor.Trig
/-- is One times the sine of an angle of the first quarter a whole number -/
def exN (n : Int) : Bool := decide (n = 0) || decide (n = 1800000) || decide (n = 5400000)
/-- One times the sine of an angle of the first quarter, rounded down -/
def sF (n : Int) : Int :=
  if n = 0 then 0 else if n = 1800000 then 536870912 else if n = 5400000 then 1073741824
  else if 2 * n ≤ 5400000 then ((quickN n.toNat false / 4294967296 : Nat) : Int) else ((quickN (5400000 - n).toNat true / 4294967296 : Nat) : Int)
/-- the angle of the first quarter, and whether it is turned by half -/
def qrt (n : Int) : Int := if n % 21600000 > 10800000 then (if n % 21600000 - 10800000 > 5400000 then 10800000 - (n % 21600000 - 10800000) else n % 21600000 - 10800000) else (if n % 21600000 > 5400000 then 10800000 - n % 21600000 else n % 21600000)
def sth (n : Int) : Bool := decide (n % 21600000 > 10800000)
def upF (n : Int) : Int := if exN n = true then sF n else sF n + 1
def loB (n : Int) : Int := if sth n = true then - upF (qrt n) else sF (qrt n)
def hiB (n : Int) : Int := if sth n = true then - sF (qrt n) else upF (qrt n)
/-! the reference's way -/
def rq (n : Int) : Int := n % 21600000 / 5400000
def rr (n : Int) : Int := if n % 21600000 % 5400000 > 2700000 then 5400000 - n % 21600000 % 5400000 else n % 21600000 % 5400000
def rc (n : Int) : Bool := if n % 21600000 % 5400000 > 2700000 then !decide (rq n % 2 = 1) else decide (rq n % 2 = 1)
def qv (n : Int) : Int := if rq n ≥ 2 then - (quickN (rr n).toNat (rc n) : Int) else (quickN (rr n).toNat (rc n) : Int)
def rEx (n : Int) : Bool := decide (n % 21600000 % 1800000 = 0) && !(decide (n % 21600000 / 1800000 % 6 = 2) || decide (n % 21600000 / 1800000 % 6 = 4))
theorem same45 : quickN 2700000 true / 4294967296 = quickN 2700000 false / 4294967296 := by decide +kernel
theorem qrt_bd (n : Int) : 0 ≤ qrt n ∧ qrt n ≤ 5400000 := by unfold qrt; omega
theorem ex_same (n : Int) : rEx n = exN (qrt n) := by
  unfold rEx exN qrt
  rw [Bool.eq_iff_iff]
  simp only [Bool.and_eq_true, Bool.or_eq_true, Bool.not_eq_true', Bool.or_eq_false_iff, decide_eq_true_eq, decide_eq_false_iff_not]
  omega
/-- the quick sine of any angle: far from whole numbers, and rounded down -/
theorem quick_far (n : Int) (h : rEx n = false) : farB (quickN (rr n).toNat (rc n)) = true ∧ qv n / 4294967296 = loB n ∧ hiB n = loB n + 1 := by
  have h2 := h
  rw [ex_same] at h
  have hr : 0 ≤ rr n ∧ rr n ≤ 2700000 := by unfold rr; omega
  have hf : farB (quickN (rr n).toNat (rc n)) = true := by
    have h1 : 1 ≤ (rr n).toNat := by
      unfold exN at h
      simp only [Bool.or_eq_false_iff, decide_eq_false_iff_not] at h
      unfold qrt at h
      unfold rr
      omega
    have hh := far_all h1 (show (rr n).toNat ≤ 2700000 by omega)
    cases hc : rc n with
    | true => exact hh.1
    | false =>
      refine hh.2 fun he => ?_
      unfold exN qrt at h
      simp only [Bool.or_eq_false_iff, decide_eq_false_iff_not] at h
      unfold rc rq at hc
      unfold rr at he
      by_cases hm : n % 21600000 % 5400000 > 2700000
      · rw [if_pos hm] at hc he
        simp only [Bool.not_eq_false', decide_eq_true_eq] at hc
        omega
      · rw [if_neg hm] at hc he
        simp only [decide_eq_false_iff_not] at hc
        omega
  refine ⟨hf, ?_⟩
  have hq := qrt_bd n
  -- both ways have the same whole number
  have hs : sF (qrt n) = ((quickN (rr n).toNat (rc n) / 4294967296 : Nat) : Int) := by
    unfold exN at h
    simp only [Bool.or_eq_false_iff, decide_eq_false_iff_not] at h
    unfold sF
    rw [if_neg h.1.1, if_neg h.1.2, if_neg h.2]
    by_cases h45 : n % 21600000 % 5400000 = 2700000
    · have e1 : rr n = 2700000 := by unfold rr; omega
      have e2 : qrt n = 2700000 := by unfold qrt; omega
      rw [e1, e2, if_pos (by omega)]
      show ((quickN 2700000 false / 4294967296 : Nat) : Int) = ((quickN 2700000 (rc n) / 4294967296 : Nat) : Int)
      cases rc n with
      | true => rw [same45]
      | false => rfl
    · have hc : (2 * qrt n ≤ 5400000 ∧ rc n = false ∧ rr n = qrt n) ∨ (¬ 2 * qrt n ≤ 5400000 ∧ rc n = true ∧ rr n = 5400000 - qrt n) := by
        unfold rc rr rq qrt
        by_cases hm : n % 21600000 % 5400000 > 2700000
        · rw [if_pos hm, if_pos hm]
          simp only [Bool.not_eq_false', Bool.not_eq_true', decide_eq_true_eq, decide_eq_false_iff_not]
          omega
        · rw [if_neg hm, if_neg hm]
          simp only [decide_eq_true_eq, decide_eq_false_iff_not]
          omega
      rcases hc with ⟨a, b, c⟩ | ⟨a, b, c⟩
      · rw [if_pos a, b, c]
      · rw [if_neg a, b, c]
  unfold loB hiB upF
  rw [h, hs]
  unfold farB at hf
  rw [Bool.and_eq_true, Nat.ble_eq, Nat.ble_eq] at hf
  have hsq : sth n = decide (rq n ≥ 2) := by
    unfold exN qrt at h
    simp only [Bool.or_eq_false_iff, decide_eq_false_iff_not] at h
    unfold sth rq
    rw [decide_eq_decide]
    omega
  unfold qv
  rw [hsq]
  generalize quickN (rr n).toNat (rc n) = v at *
  by_cases hqq : rq n ≥ 2
  · simp only [hqq, decide_true, if_true]
    constructor
    · simp
      omega
    · simp
      omega
  · simp only [hqq, decide_false, if_false]
    simp
end Go.Proofs.YtbpnacacnncopaaGreatDoor.Trig
