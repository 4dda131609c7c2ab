/- The walks of fixed.floor, ceil, Sub, Mul, Add. -/
import Derived.Test.YtfeianjdedgdoaaGUi
set_option linter.unusedVariables false
set_option linter.unusedSimpArgs false
/- The walks of the reference's high and quick. -/
namespace Go.Proofs.Ytfeianjdedgdoaa
open Go.RowKit
theorem mask31 (n : Int) : bits .and .i64 n 2147483647 = n % 2147483648 := by
  have h31 : (BitVec.ofInt 64 2147483647).toNat = 2 ^ 31 - 1 := by decide
  have key : (BitVec.ofInt 64 n &&& BitVec.ofInt 64 2147483647).toNat = (n % ((2 ^ 64 : Nat) : Int)).toNat % 2 ^ 31 := by
    rw [BitVec.toNat_and, BitVec.toNat_ofInt, h31, Nat.and_two_pow_sub_one_eq_mod]
  show IntKind.i64.wrap ((BitVec.ofInt 64 n &&& BitVec.ofInt 64 2147483647).toNat : Nat) = n % 2147483648
  rw [key, IntKind.wrap_i64]
  omega
theorem high_val {a b : Nat} (ha : a ≤ 4611686018427387904) (hb : b ≤ 4611686018427387904) :
    wrap64 (wrap64 (wrap64 ((a : Int) / 2147483648 * ((b : Int) / 2147483648)) + wrap64 ((a : Int) / 2147483648 * ((b : Int) % 2147483648)) / 2147483648) + wrap64 ((a : Int) % 2147483648 * ((b : Int) / 2147483648)) / 2147483648) = ((Trig.hiN a b : Nat) : Int) := by
  have h := (Trig.hiN_bd a b).1
  have h2 : a * b ≤ 4611686018427387904 * 4611686018427387904 := Nat.mul_le_mul ha hb
  unfold Trig.hiN at *
  have e1 : (a : Int) / 2147483648 = ((a / 2147483648 : Nat) : Int) := by omega
  have e2 : (b : Int) / 2147483648 = ((b / 2147483648 : Nat) : Int) := by omega
  have e3 : (a : Int) % 2147483648 = ((a % 2147483648 : Nat) : Int) := by omega
  have e4 : (b : Int) % 2147483648 = ((b % 2147483648 : Nat) : Int) := by omega
  rw [e1, e2, e3, e4, ← Int.natCast_mul, ← Int.natCast_mul, ← Int.natCast_mul]
  have g1 : a / 2147483648 ≤ 2147483648 := by omega
  have g2 : b / 2147483648 ≤ 2147483648 := by omega
  have g3 : a % 2147483648 ≤ 2147483648 := by omega
  have g4 : b % 2147483648 ≤ 2147483648 := by omega
  have q1 := Nat.mul_le_mul g1 g2
  have q2 := Nat.mul_le_mul g1 g4
  have q3 := Nat.mul_le_mul g3 g2
  clear e1 e2 e3 e4 g1 g2 g3 g4 h h2 ha hb
  generalize a / 2147483648 * (b / 2147483648) = p at *
  generalize a / 2147483648 * (b % 2147483648) = q at *
  generalize a % 2147483648 * (b / 2147483648) = r at *
  rw [IntWalk.wrap64_in (p : Int) (by omega), IntWalk.wrap64_in (q : Int) (by omega), IntWalk.wrap64_in (r : Int) (by omega), IntWalk.wrap64_in ((p : Int) + (q : Int) / 2147483648) (by omega), IntWalk.wrap64_in ((p : Int) + (q : Int) / 2147483648 + (r : Int) / 2147483648) (by omega)]
  omega
/-- two terms on, a series has fallen to a sixteenth -/
theorem tm_fall {sq : Nat} (h : sq ≤ 3074457345618258602) (t m : Nat) : 16 * Trig.tm (Trig.tm t sq (m + 1)) sq (m + 2 + 1) ≤ t ∧ Trig.tm (Trig.tm t sq (m + 1)) sq (m + 2 + 1) ≤ Trig.tm t sq (m + 1) := by
  have key : ∀ s c : Nat, 12 ≤ c → 16 * (Trig.hiN s sq / c) ≤ s := by
    intro s c hc
    have h1 := (Trig.hiN_bd s sq).1
    have h2 : s * sq ≤ s * 3074457345618258602 := Nat.mul_le_mul_left s h
    have h3 : Trig.hiN s sq / c ≤ Trig.hiN s sq / 12 := Nat.div_le_div_left hc (by omega)
    omega
  have hc : 12 ≤ (m + 2 + 1) * (m + 2 + 1 + 1) := Nat.mul_le_mul (show 3 ≤ m + 2 + 1 by omega) (show 4 ≤ m + 2 + 1 + 1 by omega)
  have k1 := key (Trig.tm t sq (m + 1)) _ hc
  have k2 := Trig.tm_le (t := t) (m := m) (show sq ≤ 4611686018427387904 by omega)
  have e : Trig.tm (Trig.tm t sq (m + 1)) sq (m + 2 + 1) = Trig.hiN (Trig.tm t sq (m + 1)) sq / ((m + 2 + 1) * (m + 2 + 1 + 1)) := rfl
  rw [e]
  omega
theorem tm_cast {t sq d h c x : Nat} (hh : h = Trig.hiN t sq) (hc : c = d * (d + 1)) (hx : x = Trig.tm t sq d) : (h : Int) / (c : Int) = (x : Int) := by
  rw [hh, hc, hx]
  unfold Trig.tm
  exact (Int.natCast_ediv _ _).symm
theorem hiN_le {t sq : Nat} (h : sq ≤ 4611686018427387904) : Trig.hiN t sq ≤ t := by
  have h1 := (Trig.hiN_bd t sq).1
  have h3 : t * sq ≤ t * 4611686018427387904 := Nat.mul_le_mul_left t h
  omega
theorem qgo_zero (sq f d : Nat) : Trig.qgo sq f 0 d = 0 := by cases f <;> simp [Trig.qgo]
theorem qgo_next {sq S R t m f t1 t2 : Nat} (h0 : t ≠ 0) (h : S + Trig.qgo sq (f + 1) t (m + 1) = R) (h1 : t1 = Trig.tm t sq (m + 1)) (h2 : t2 = Trig.tm t1 sq (m + 2 + 1)) (hle : t1 ≤ t) : S + t - t1 + Trig.qgo sq f t2 (m + 4 + 1) = R := by
  rw [Trig.qgo, if_neg h0, ← h1, show m + 1 + 2 = m + 2 + 1 by omega, ← h2, show m + 1 + 4 = m + 4 + 1 by omega] at h
  omega
theorem pow_fall {t t2 f : Nat} (h : t < 2 ^ (4 * (f + 1))) (h2 : 16 * t2 ≤ t) : t2 < 2 ^ (4 * f) := by
  rw [show 4 * (f + 1) = 4 * f + 4 by omega, Nat.pow_add] at h
  omega
end Go.Proofs.Ytfeianjdedgdoaa
/- The walks of the reference's Quick, Exact and Floor. -/
namespace Go.Proofs.Ytfeianjdedgdoaa
open Go.RowKit
theorem quickN_bd {r : Int} (c : Bool) (h0 : 0 ≤ r) (h1 : r ≤ 2700000) : (0 : Int) ≤ (Trig.quickN r.toNat c : Nat) ∧ ((Trig.quickN r.toNat c : Nat) : Int) ≤ 4611686018427387904 := by
  have := Trig.quickN_le (r := r.toNat) (by omega) c
  omega
theorem tmodT_val (n : Int) : (n.tmod 21600000 < 0 ∧ wrap64 (n.tmod 21600000 + 21600000) = n % 21600000) ∨ (¬ n.tmod 21600000 < 0 ∧ n.tmod 21600000 = n % 21600000) := by
  by_cases h : n.tmod 21600000 < 0
  · refine .inl ⟨h, ?_⟩
    have e := tmodT_neg h
    rw [IntWalk.wrap64_in _ (by omega)]
    exact e
  · exact .inr ⟨h, tmodT_pos (by omega)⟩
theorem qv_facts (n : Int) (h : Trig.rEx n = false) : (-4611686018427387904 ≤ Trig.qv n ∧ Trig.qv n ≤ 4611686018427387904) ∧ (Trig.qv n - 256) / 4294967296 = (Trig.qv n + 256) / 4294967296 ∧ Trig.qv n / 4294967296 = Trig.loB n ∧ Trig.hiB n = Trig.loB n + 1 := by
  obtain ⟨hf, h1, h2⟩ := Trig.quick_far n h
  refine ⟨?_, ?_, h1, h2⟩
  · have hr : 0 ≤ Trig.rr n ∧ Trig.rr n ≤ 2700000 := by unfold Trig.rr; omega
    have := quickN_bd (r := Trig.rr n) (Trig.rc n) hr.1 hr.2
    unfold Trig.qv
    split <;> omega
  · unfold Trig.farB at hf
    rw [Bool.and_eq_true, Nat.ble_eq, Nat.ble_eq] at hf
    unfold Trig.qv
    generalize Trig.quickN (Trig.rr n).toNat (Trig.rc n) = v at *
    split <;> omega
end Go.Proofs.Ytfeianjdedgdoaa
/- The walks of the reference's sine over an arc. -/
namespace Go.Proofs.Ytfeianjdedgdoaa
open Go.RowKit
/-- two cells that are known, and can be written -/
structure D2 (W : World) (g : Nat) (a b : Int) : Prop where
  lt : g < W.heap.size
  c0 : W.cell? ⟨g, 0, none⟩ = some (.int .i64 a)
  c1 : W.cell? ⟨g, 1, none⟩ = some (.int .i64 b)
  f0 : W.frozen? ⟨g, 0, none⟩ = false
  f1 : W.frozen? ⟨g, 1, none⟩ = false
section
variable {W W' : World} {g : Nat} {a b : Int}
theorem D2.below {B : Nat} (h : D2 W g a b) (hb : Below B W W') (hB : g < B) : D2 W' g a b :=
  ⟨Nat.lt_of_lt_of_le h.lt hb.size, (hb.cell (p := ⟨g, 0, none⟩) hB).trans h.c0, (hb.cell (p := ⟨g, 1, none⟩) hB).trans h.c1, (hb.frozen (p := ⟨g, 0, none⟩) hB).trans h.f0, (hb.frozen (p := ⟨g, 1, none⟩) hB).trans h.f1⟩
theorem D2.alloc (h : D2 W g a b) (o : Obj) : D2 (W.alloc o) g a b := h.below (bl_alloc W o) h.lt
theorem D2.new (W : World) (a b : Int) (t : TypeId) : D2 (W.alloc (.cells #[.int .i64 a, .int .i64 b] t)) W.heap.size a b := ⟨by simp, by simp, by simp, by simp, by simp⟩
theorem D2.far (h : D2 W g a b) {p : Addr} (hp : g ≠ p.block) (u : Value) : D2 (W.setCell p u) g a b := by
  have hne : ∀ i, p ≠ (⟨g, i, none⟩ : Addr) := fun i e => hp (by rw [e])
  refine ⟨by simpa using h.lt, ?_, ?_, ?_, ?_⟩
  · rw [World.cell?_setCell_other _ _ _ _ (hne 0)]; exact h.c0
  · rw [World.cell?_setCell_other _ _ _ _ (hne 1)]; exact h.c1
  · simpa using h.f0
  · simpa using h.f1
theorem D2.set0 (h : D2 W g a b) (v : Int) : D2 (W.setCell ⟨g, 0, none⟩ (.int .i64 v)) g v b := by
  refine ⟨by simpa using h.lt, World.cell?_setCell_same _ _ _ h.c0, ?_, by simpa using h.f0, by simpa using h.f1⟩
  rw [World.cell?_setCell_other _ _ _ _ (by simp)]
  exact h.c1
theorem D2.set1 (h : D2 W g a b) (v : Int) : D2 (W.setCell ⟨g, 1, none⟩ (.int .i64 v)) g a v := by
  refine ⟨by simpa using h.lt, ?_, World.cell?_setCell_same _ _ _ h.c1, by simpa using h.f0, by simpa using h.f1⟩
  rw [World.cell?_setCell_other _ _ _ _ (by simp)]
  exact h.c0
end
theorem has_met (lo hi : Int) : decide (lo + (5400000 - lo) % 21600000 ≤ hi) = Trig.metB lo hi 5400000 ∧ decide (lo + (-5400000 - lo) % 21600000 ≤ hi) = Trig.metB lo hi 16200000 := by
  unfold Trig.metB
  rw [decide_eq_decide, decide_eq_decide]
  omega
end Go.Proofs.Ytfeianjdedgdoaa
/- The walks of wide: abs, Valid, fit, Product. -/
namespace Go.Proofs.Ytfeianjdedgdoaa
open Go.RowKit
theorem mask60 (n : Int) : bits .and .i64 n 1152921504606846975 = n % 1152921504606846976 := by
  have h31 : (BitVec.ofInt 64 1152921504606846975).toNat = 2 ^ 60 - 1 := by decide
  have key : (BitVec.ofInt 64 n &&& BitVec.ofInt 64 1152921504606846975).toNat = (n % ((2 ^ 64 : Nat) : Int)).toNat % 2 ^ 60 := by
    rw [BitVec.toNat_and, BitVec.toNat_ofInt, h31, Nat.and_two_pow_sub_one_eq_mod]
  show IntKind.i64.wrap ((BitVec.ofInt 64 n &&& BitVec.ofInt 64 1152921504606846975).toNat : Nat) = n % 1152921504606846976
  rw [key, IntKind.wrap_i64]
  omega
theorem mask60u (n : Int) (h0 : 0 ≤ n) (h1 : n < 18446744073709551616) : bits .and .u64 n 1152921504606846975 = n % 1152921504606846976 := by
  have h31 : (BitVec.ofInt 64 1152921504606846975).toNat = 2 ^ 60 - 1 := by decide
  have key : (BitVec.ofInt 64 n &&& BitVec.ofInt 64 1152921504606846975).toNat = (n % ((2 ^ 64 : Nat) : Int)).toNat % 2 ^ 60 := by
    rw [BitVec.toNat_and, BitVec.toNat_ofInt, h31, Nat.and_two_pow_sub_one_eq_mod]
  show IntKind.u64.wrap ((BitVec.ofInt 64 n &&& BitVec.ofInt 64 1152921504606846975).toNat : Nat) = n % 1152921504606846976
  rw [key, IntKind.wrap_u64]
  omega
theorem ret_u64 {a b : Int} (h : a = b) : Ending.returned (.int .u64 a) = .returned (.int .u64 b) := by rw [h]
/-- the absolute value -/
def wab (n : Int) : Int := if n < 0 then -n else n
theorem wab_bd (n : Int) : 0 ≤ wab n := by unfold wab; split <;> omega
/-- which wide integers are valid -/
def wvB (h l : Int) : Bool := decide (-1152921504606846976 ≤ h ∧ h < 1152921504606846976 ∧ 0 ≤ l ∧ l < 1152921504606846976)
theorem wvB_yes {h l : Int} (h0 : -1152921504606846976 ≤ h) (h1 : h < 1152921504606846976) (l0 : 0 ≤ l) (l1 : l < 1152921504606846976) : wvB h l = true := by simp [wvB, *]
end Go.Proofs.Ytfeianjdedgdoaa
/- The walks of wide's sizes and products. -/
namespace Go.Proofs.Ytfeianjdedgdoaa
open Go.RowKit
theorem or60 {a b : Nat} (ha : a < 1152921504606846976) (hb : b < 16) : bits BinOp.or IntKind.u64 ((a * 16 : Nat) : Int) (b : Int) = ((a * 16 + b : Nat) : Int) := by
  rw [bits_or_u64_nat (a * 16) b (by omega) (by omega)]
  have : a * 16 = 2 ^ 4 * a := by omega
  rw [this, ← Nat.two_pow_add_eq_or_of_lt (by omega)]
def sgn (neg : Bool) (v : Int) : Int := if neg = true then -v else v
end Go.Proofs.Ytfeianjdedgdoaa
/- The walks of wide.sizeOf and wide.Product. -/
namespace Go.Proofs.Ytfeianjdedgdoaa
open Go.RowKit
theorem or60b {a b : Nat} (ha : a < 16) (hb : b < 1152921504606846976) : bits BinOp.or IntKind.u64 ((a * 1152921504606846976 : Nat) : Int) (b : Int) = ((a * 1152921504606846976 + b : Nat) : Int) := by
  rw [bits_or_u64_nat (a * 1152921504606846976) b (by omega) (by omega)]
  have : a * 1152921504606846976 = 2 ^ 60 * a := by omega
  rw [this, ← Nat.two_pow_add_eq_or_of_lt (by omega)]
theorem orAB (A B : Int) (B0 : 0 ≤ B) (B1 : B < 1152921504606846976) :
    bits BinOp.or IntKind.u64 (IntKind.u64.wrap (A * 1152921504606846976)) B = (A * 1152921504606846976 + B) % 18446744073709551616 := by
  obtain ⟨m, hm⟩ := Int.eq_ofNat_of_zero_le (show 0 ≤ A % 16 by omega)
  obtain ⟨k, rfl⟩ := Int.eq_ofNat_of_zero_le B0
  have := or60b (a := m) (b := k) (by omega) (by omega)
  have a1 : ((m * 1152921504606846976 : Nat) : Int) = IntKind.u64.wrap (A * 1152921504606846976) := by rw [IntKind.wrap_u64]; omega
  have a3 : ((m * 1152921504606846976 + k : Nat) : Int) = (A * 1152921504606846976 + k) % 18446744073709551616 := by
    have e : A * 1152921504606846976 + (k : Int) = ((m : Int) * 1152921504606846976 + k) + (A / 16) * 18446744073709551616 := by omega
    rw [e, Int.add_mul_emod_self_right, Int.emod_eq_of_lt (by omega) (by omega), Int.natCast_add, Int.natCast_mul]
    rfl
  rw [a1, a3] at this
  exact this
theorem ret_size {a b c d : Int} {s : Bool} (h : a = c) (g : b = d) : Ending.returned (.agg #[.int .u64 a, .int .u64 b, .bool s]) = .returned (.agg #[.int .u64 c, .int .u64 d, .bool s]) := by rw [h, g]
end Go.Proofs.Ytfeianjdedgdoaa
/- The walk of wide.Product. -/
namespace Go.Proofs.Ytfeianjdedgdoaa
open Go.RowKit
theorem wab_neg {n : Int} (h : n < 0) : wab n = -n := if_pos h
theorem wab_pos {n : Int} (h : 0 ≤ n) : wab n = n := if_neg (by omega)
/-- whether a product is negative -/
def pneg (x n : Int) : Bool := ((decide (x < 0)) != (decide (n < 0))) && (decide (x ≠ 0)) && (decide (n ≠ 0))
theorem sgn_mul (x n : Int) : sgn (pneg x n) (wab x * wab n) = x * n := by
  rcases Int.lt_trichotomy x 0 with h | h | h <;> rcases Int.lt_trichotomy n 0 with g | g | g
  · rw [wab_neg h, wab_neg g]; simp [sgn, pneg, h, g, Int.neg_mul_neg]
  · subst g; simp [sgn, wab]
  · have : pneg x n = true := by simp only [pneg, bne_iff_ne, Bool.and_eq_true, decide_eq_true_eq, ne_eq, decide_eq_decide]; omega
    rw [this, wab_neg h, wab_pos (by omega)]; simp [sgn, Int.neg_mul]
  · subst h; simp [sgn, wab]
  · subst h; simp [sgn, wab]
  · subst h; simp [sgn, wab]
  · have : pneg x n = true := by simp only [pneg, bne_iff_ne, Bool.and_eq_true, decide_eq_true_eq, ne_eq, decide_eq_decide]; omega
    rw [this, wab_neg g, wab_pos (by omega)]; simp [sgn, Int.mul_neg]
  · subst g; simp [sgn, wab]
  · have h' : decide (x < 0) = false := decide_eq_false (by omega)
    have g' : decide (n < 0) = false := decide_eq_false (by omega)
    rw [wab_pos (by omega), wab_pos (by omega)]; simp [sgn, pneg, h', g']
theorem wab_le {n B : Int} (h0 : -B ≤ n) (h1 : n ≤ B) : wab n ≤ B := by unfold wab; split <;> omega
end Go.Proofs.Ytfeianjdedgdoaa
/- The walk of wide.quotient. -/
namespace Go.Proofs.Ytfeianjdedgdoaa
open Go.RowKit
/-- a quotient of absolute values, rounded, with its sign -/
def qval (neg up : Bool) (Q R : Int) : Int := sgn neg (if (decide (0 < R) && (up != neg)) = true then Q + 1 else Q)
theorem ret_quo {a b : Int} (h : a = b) : Ending.returned (.tuple #[.int .i64 a, .int .i64 0]) = .returned (.tuple #[.int .i64 b, .int .i64 0]) := by rw [h]
theorem u64_neg (q : Int) (h0 : 0 ≤ q) (h1 : q ≤ 9223372036854775807) : IntKind.i64.wrap (IntKind.u64.wrap (-q)) = -q := by rw [IntKind.wrap_u64, IntKind.wrap_i64]; omega
end Go.Proofs.Ytfeianjdedgdoaa
/- The walks of wide.Floor, wide.Ceil and fixed.enclose. -/
namespace Go.Proofs.Ytfeianjdedgdoaa
open Go.RowKit
/-- the quotient rounded down, or up -/
def qup (up : Bool) (V d : Int) : Int := qval (decide (V < 0) != decide (d < 0)) up (wab V / wab d) (wab V % wab d)
theorem qup_down {V d : Int} (hd : 0 < d) : qup false V d = V / d := by
  have e1 : decide (d < 0) = false := decide_eq_false (by omega)
  unfold qup qval sgn
  rw [e1, wab_pos (by omega : 0 ≤ d)]
  by_cases hV : V < 0
  · have e2 : decide (V < 0) = true := decide_eq_true hV
    rw [e2, wab_neg hV]
    simp only [Bool.bne_false, if_true]
    by_cases hr : 0 < -V % d
    · rw [decide_eq_true hr]
      simp only [Bool.bne_true, Bool.not_false, Bool.and_self, if_true]
      have h1 := Int.mul_ediv_add_emod (-V) d
      have h2 := Int.emod_lt_of_pos (-V) hd
      have h3 : V = (d - -V % d) + d * (-(-V / d + 1)) := by rw [Int.mul_neg, Int.mul_add, Int.mul_one]; omega
      conv => rhs; rw [h3]
      rw [Int.add_mul_ediv_left _ _ (by omega), Int.ediv_eq_zero_of_lt (a := d - -V % d) (b := d) (by omega) (by omega)]
      omega
    · rw [decide_eq_false hr]
      simp only [Bool.false_and, Bool.false_eq_true, if_false]
      have h1 := Int.mul_ediv_add_emod (-V) d
      have h4 := Int.emod_nonneg (-V) (by omega : d ≠ 0)
      have h3 : V = d * (-(-V / d)) := by rw [Int.mul_neg]; omega
      conv => rhs; rw [h3]
      rw [Int.mul_ediv_cancel_left _ (by omega)]
  · have e2 : decide (V < 0) = false := decide_eq_false hV
    rw [e2, wab_pos (by omega : 0 ≤ V)]
    simp
theorem qup_up {V d : Int} (hd : 0 < d) : qup true V d = -(-V / d) := by
  rw [← qup_down hd]
  unfold qup qval sgn
  have ed : decide (d < 0) = false := decide_eq_false (by omega)
  rw [ed]
  rcases Int.lt_trichotomy V 0 with h | h | h
  · have e2 : decide (V < 0) = true := decide_eq_true h
    have e3 : decide (-V < 0) = false := decide_eq_false (by omega)
    rw [e2, e3, wab_neg h, wab_pos (by omega : 0 ≤ -V)]
    simp
  · subst h; simp [wab]
  · have e2 : decide (V < 0) = false := decide_eq_false (by omega)
    have e3 : decide (-V < 0) = true := decide_eq_true (by omega)
    rw [e2, e3, wab_pos (by omega : 0 ≤ V), wab_neg (by omega : -V < 0), Int.neg_neg]
    simp
end Go.Proofs.Ytfeianjdedgdoaa
/- The walks of fixed.Valid, floor, ceil, both, fit, Make. -/
namespace Go.Proofs.Ytfeianjdedgdoaa
open Go.RowKit
/-- which intervals of fixed are valid -/
def fvB (lo hi : Int) : Bool := decide (-2147483648 ≤ lo ∧ lo ≤ hi ∧ hi ≤ 2147483648)
set_option maxHeartbeats 1000000 in
theorem fValid_any (lo hi : Int) (w : World) : Calls Try.prog 42 #[.agg #[.int .i64 lo, .int .i64 hi]] w fun e w' => e = .returned (.bool (fvB lo hi)) ∧ Below w.heap.size w w' := by
  unfold fvB
  go_enter Try.func42, Try.ntmps42
  go_wp2
  all_goals
    go_ret
    refine ⟨ret_boolU (by first | (simp_all; done) | (simp_all; omega)), ?_⟩
    repeat (first | exact Below.refl _ _ | assumption | refine bl_drew ?_ | refine bl_drewN ?_ _ | refine Below.setCell ?_ (by first | assumption | omega | (simp; done) | (simp; omega)) _ | refine Below.alloc ?_ (by first | assumption | omega | (simp; done) | (simp; omega)) _)
/-- what fit returns -/
def fitV (lo hi : Int) : Value := if fvB lo hi = true then .tuple #[.agg #[.int .i64 lo, .int .i64 hi], .int .i64 0] else .tuple #[.agg #[.int .i64 0, .int .i64 0], .int .i64 5]
set_option maxHeartbeats 2000000 in
theorem ffit_any (lo hi : Int) (w : World) : Calls Try.prog 59 #[.int .i64 lo, .int .i64 hi] w fun e w' => e = .returned (fitV lo hi) ∧ Below w.heap.size w w' := by
  have KV := Lib.hid (fun W => fValid_any lo hi W)
  unfold fitV
  generalize fvB lo hi = s at *
  cases s
  · simp only [Bool.false_eq_true, if_false]
    go_enter Try.func59, Try.ntmps59
    go_wp2_with fail
    (with_reducible refine (KV.out _).mono ?_)
    rintro e w1 ⟨rfl, hb1⟩
    have hbl1 := two_bl hb1
    have R1 := Lib.hid (((D2.new w 0 0 63).alloc (.cells #[.int .i64 lo, .int .i64 hi] 63)).below hb1 (by simp; omega))
    obtain ⟨rt, r0, r1, rf0, rf1⟩ := R1.out
    clear hb1
    go_wp2
    refine bodyPost_ret (v := .tuple #[.agg #[.int .i64 0, .int .i64 0], .int .i64 5]) (by simp [results, Try.results59, go_sem, *]) rfl ⟨rfl, ?_⟩
    exact (hbl1.setCell (by simp) _).setCell (by simp) _
  · simp only [if_true]
    go_enter Try.func59, Try.ntmps59
    go_wp2_with fail
    (with_reducible refine (KV.out _).mono ?_)
    rintro e w1 ⟨rfl, hb1⟩
    have hbl1 := two_bl hb1
    have R1 := Lib.hid (((D2.new w 0 0 63).alloc (.cells #[.int .i64 lo, .int .i64 hi] 63)).below hb1 (by simp; omega))
    have O1 : Hid (D2 w1 (w.heap.size + 1) lo hi) := Lib.hid (by
      have := (D2.new (w.alloc (.cells #[.int .i64 0, .int .i64 0] 63)) lo hi 63).below hb1 (by simp)
      simpa using this)
    obtain ⟨rt, r0, r1, rf0, rf1⟩ := R1.out
    obtain ⟨ot, o0, o1, of0, of1⟩ := O1.out
    clear hb1
    go_wp2
    refine bodyPost_ret (v := .tuple #[.agg #[.int .i64 lo, .int .i64 hi], .int .i64 0]) (by simp [results, Try.results59, go_sem, *]) rfl ⟨rfl, ?_⟩
    exact (hbl1.setCell (by simp) _).setCell (by simp) _
set_option maxHeartbeats 1000000 in
theorem both_any (a b c d : Int) (w : World) (h : fvB a b = true) (g : fvB c d = true) : Calls Try.prog 58 #[.agg #[.int .i64 a, .int .i64 b], .agg #[.int .i64 c, .int .i64 d]] w fun e w' => e = .returned (.bool true) ∧ Below w.heap.size w w' := by
  have KA := Lib.hid (fun W => fValid_any a b W)
  have KB := Lib.hid (fun W => fValid_any c d W)
  rw [h] at KA
  rw [g] at KB
  clear h g
  go_enter Try.func58, Try.ntmps58
  go_wp2_with fail
  (with_reducible refine (KA.out _).mono ?_)
  rintro e w1 ⟨rfl, hb1⟩
  have hbl1 := two_bl hb1
  have O1 : Hid (D2 w1 (w.heap.size + 1) c d) := Lib.hid (by
    have := (D2.new (w.alloc (.cells #[.int .i64 a, .int .i64 b] 63)) c d 63).below hb1 (by simp)
    simpa using this)
  obtain ⟨ot, o0, o1, of0, of1⟩ := O1.out
  clear hb1
  go_wp2_with fail
  (with_reducible refine (KB.out _).mono ?_)
  rintro e w2 ⟨rfl, hb2⟩
  have hbl2 := hbl1.trans (hb2.mono hbl1.size)
  clear hb2
  go_wp2
  go_ret
  exact ⟨rfl, hbl2⟩
theorem two30 (n : Int) : n * 1073741824 = 1073741824 * n := Int.mul_comm _ _
end Go.Proofs.Ytfeianjdedgdoaa
namespace Go.Proofs.Ytfeianjdedgdoaa
open Go.RowKit
theorem three_D2 {w w1 : World} {a b c d e f : Int} {t : TypeId} (hb : Below (((w.alloc (.cells #[.int .i64 a, .int .i64 b] t)).alloc (.cells #[.int .i64 c, .int .i64 d] t)).alloc (.cells #[.int .i64 e, .int .i64 f] t)).heap.size (((w.alloc (.cells #[.int .i64 a, .int .i64 b] t)).alloc (.cells #[.int .i64 c, .int .i64 d] t)).alloc (.cells #[.int .i64 e, .int .i64 f] t)) w1) :
    Below w.heap.size w w1 ∧ D2 w1 w.heap.size a b ∧ D2 w1 (w.heap.size + 1) c d ∧ D2 w1 (w.heap.size + 2) e f := by
  refine ⟨?_, ?_, ?_, ?_⟩
  · exact ((((Below.refl _ _).alloc (Nat.le_refl _) _).alloc (by simp) _).alloc (by simp; omega) _).trans (hb.mono (by simp; omega))
  · exact (((D2.new w a b t).alloc _).alloc _).below hb (by simp; omega)
  · have := ((D2.new (w.alloc (.cells #[.int .i64 a, .int .i64 b] t)) c d t).alloc (.cells #[.int .i64 e, .int .i64 f] t)).below hb (by simp)
    simpa using this
  · have := (D2.new ((w.alloc (.cells #[.int .i64 a, .int .i64 b] t)).alloc (.cells #[.int .i64 c, .int .i64 d] t)) e f t).below hb (by simp)
    simpa using this
theorem mul_bd31 {a b : Int} (a0 : -2147483648 ≤ a) (a1 : a ≤ 2147483648) (b0 : -2147483648 ≤ b) (b1 : b ≤ 2147483648) : -4611686018427387904 ≤ a * b ∧ a * b ≤ 4611686018427387904 := by
  have : (a * b).natAbs ≤ 2147483648 * 2147483648 := by rw [Int.natAbs_mul]; exact Nat.mul_le_mul (by omega) (by omega)
  omega
set_option maxHeartbeats 1000000 in
theorem ffloor_any (a : Int) (w : World) (a0 : -4611686018427387904 ≤ a) (a1 : a ≤ 4611686018427387904) : Calls Try.prog 60 #[.int .i64 a, .int .i64 1073741824] w fun e w' => e = .returned (.int .i64 (a / 1073741824)) ∧ w' = w := by
  have h1 := Int.mul_tdiv_add_tmod a 1073741824
  have h3 := Int.tmod_lt_of_pos a (show (0 : Int) < 1073741824 by omega)
  have h4 := Int.tmod_lt_of_pos (-a) (show (0 : Int) < 1073741824 by omega)
  rw [Int.neg_tmod] at h4
  have h5 : a < 0 → Int.tmod a 1073741824 ≤ 0 := fun h => by
    have h2 := Int.tmod_nonneg 1073741824 (show 0 ≤ -a by omega)
    rw [Int.neg_tmod] at h2
    omega
  have h6 : ¬ a < 0 → 0 ≤ Int.tmod a 1073741824 := fun h => Int.tmod_nonneg 1073741824 (show 0 ≤ a by omega)
  have s1 : wrap64 (Int.tdiv a 1073741824 - 1) = Int.tdiv a 1073741824 - 1 := IntWalk.wrap64_in _ (by omega)
  have s2 : wrap64 (Int.tdiv a 1073741824) = Int.tdiv a 1073741824 := IntWalk.wrap64_in _ (by omega)
  have H := Lib.hid (And.intro h1 (And.intro h3 (And.intro h4 (And.intro h5 h6))))
  clear h1 h3 h4 h5 h6
  cases hx : decide (a < 0)
  all_goals
    go_enter Try.func60, Try.ntmps60
    go_wp2
    all_goals
      go_ret
      refine ⟨ret_int ?_, rfl⟩
      obtain ⟨h1, h3, h4, h5, h6⟩ := H.out
      try rw [s1]
      simp only [bne_iff_ne, ne_eq, bne_eq_false_iff_eq, decide_eq_true_eq, decide_eq_false_iff_not] at *
      omega
set_option maxHeartbeats 1000000 in
theorem fceil_any (a : Int) (w : World) (a0 : -4611686018427387904 ≤ a) (a1 : a ≤ 4611686018427387904) : Calls Try.prog 61 #[.int .i64 a, .int .i64 1073741824] w fun e w' => e = .returned (.int .i64 (-(-a / 1073741824))) ∧ w' = w := by
  have KF := Lib.hid (fun W => ffloor_any (-a) W (by omega) (by omega))
  have s1 : wrap64 (-a) = -a := IntWalk.wrap64_in _ (by omega)
  have s2 : wrap64 (-(-a / 1073741824)) = -(-a / 1073741824) := IntWalk.wrap64_in _ (by omega)
  generalize -a / 1073741824 = q at *
  go_enter Try.func61, Try.ntmps61
  go_wp2_with fail
  (with_reducible refine (KF.out _).mono ?_)
  rintro e w1 ⟨rfl, rfl⟩
  go_wp2
  go_ret
  exact ⟨ret_int s2, rfl⟩
theorem fv_iff {a b : Int} : fvB a b = true ↔ -2147483648 ≤ a ∧ a ≤ b ∧ b ≤ 2147483648 := by unfold fvB; exact decide_eq_true_iff
set_option maxHeartbeats 2000000 in
theorem fSub_any (a b c d : Int) (w : World) (h : fvB a b = true) (g : fvB c d = true) : Calls Try.prog 49 #[.agg #[.int .i64 a, .int .i64 b], .agg #[.int .i64 c, .int .i64 d]] w fun e w' => e = .returned (fitV (a - d) (b - c)) ∧ Below w.heap.size w w' := by
  have KB := Lib.hid (fun W => both_any a b c d W h g)
  have KF := Lib.hid (fun W => ffit_any (a - d) (b - c) W)
  rw [fv_iff] at h g
  have s1 : wrap64 (a - d) = a - d := IntWalk.wrap64_in _ (by omega)
  have s2 : wrap64 (b - c) = b - c := IntWalk.wrap64_in _ (by omega)
  clear h g
  unfold fitV at *
  generalize fvB (a - d) (b - c) = s at *
  obtain ⟨p, hp⟩ : ∃ p, a - d = p := ⟨_, rfl⟩
  obtain ⟨q, hq⟩ : ∃ q, b - c = q := ⟨_, rfl⟩
  rw [hp] at s1 KF ⊢
  rw [hq] at s2 KF ⊢
  cases s
  all_goals
    simp only [Bool.false_eq_true, if_false, if_true] at *
    go_enter Try.func49, Try.ntmps49
    go_wp2_with fail
    (with_reducible refine (KB.out _).mono ?_)
    rintro e w1 ⟨rfl, hb1⟩
    obtain ⟨hbl1, A1, B1, C1⟩ := three_D2 hb1
    replace C1 := Lib.hid C1
    obtain ⟨at1, a1, a2, af1, af2⟩ := A1
    obtain ⟨bt1, b1, b2, bf1, bf2⟩ := B1
    clear hb1
    go_wp2_with fail
    (with_reducible refine (KF.out _).mono ?_)
    rintro e w2 ⟨rfl, hb2⟩
    have hbl2 := hbl1.trans (hb2.mono hbl1.size)
    have R2 := Lib.hid (C1.out.below hb2 C1.out.lt)
    obtain ⟨rt, r0, r1, rf0, rf1⟩ := R2.out
    clear hb2
    go_wp2
    first
      | refine bodyPost_ret (v := .tuple #[.agg #[.int .i64 p, .int .i64 q], .int .i64 0]) (by simp [results, Try.results49, go_sem, *]; done) rfl ⟨rfl, ?_⟩
      | refine bodyPost_ret (v := .tuple #[.agg #[.int .i64 0, .int .i64 0], .int .i64 5]) (by simp [results, Try.results49, go_sem, *]; done) rfl ⟨rfl, ?_⟩
    exact (hbl2.setCell (by simp; omega) _).setCell (by simp; omega) _
end Go.Proofs.Ytfeianjdedgdoaa
