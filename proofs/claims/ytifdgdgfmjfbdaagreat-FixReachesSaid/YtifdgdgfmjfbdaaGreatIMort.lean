/- Walks of invalid, slices.IndexFunc and slices.ContainsFunc at cells. -/
import Derived.Sort.Grow
import Derived.Lib.Small
import Derived.Shelf.Abstract
import Derived.Test.YtifdgdgfmjfbdaaGreatIBase
set_option linter.unusedVariables false
set_option linter.unusedSimpArgs false
namespace Go.Proofs.YtifdgdgfmjfbdaaGreat
/-- the number of a cell of a level, in the order of cells -/
def mort : Nat → Nat → Nat → Nat
  | 0, _, c => c
  | l + 1, r, c => 4 * mort l (r / 2) (c / 2) + 2 * (r % 2) + c % 2
theorem mort_step (m r c k : Nat) : mort (m + 1) (r / 2 ^ k) (c / 2 ^ k) = 4 * mort m (r / 2 ^ (k + 1)) (c / 2 ^ (k + 1)) + 2 * (r / 2 ^ k % 2) + c / 2 ^ k % 2 := by
  simp only [mort, Nat.div_div_eq_div_mul, Nat.pow_succ]
theorem mort_lt (l : Nat) : ∀ r c : Nat, c < 2 * 2 ^ l → mort l r c < 2 * 4 ^ l := by
  induction l with
  | zero => intro r c h; simpa [mort] using h
  | succ l ih =>
    intro r c h
    have h1 := ih (r / 2) (c / 2) (by rw [Nat.pow_succ] at h; omega)
    simp only [mort, Nat.pow_succ]
    omega
theorem mort_inj (l : Nat) : ∀ r c r' c' : Nat, r < 2 ^ l → r' < 2 ^ l → mort l r c = mort l r' c' → r = r' ∧ c = c' := by
  induction l with
  | zero => intro r c r' c' h h' e; simp [mort] at *; omega
  | succ l ih =>
    intro r c r' c' h h' e
    simp only [mort] at e
    have := ih (r / 2) (c / 2) (r' / 2) (c' / 2) (by rw [Nat.pow_succ] at h; omega) (by rw [Nat.pow_succ] at h'; omega) (by omega)
    omega
/-- the size of a cell of a level, in cells of the finest level -/
def csz (l : Nat) : Nat := 4 ^ (16 - l)
theorem csz_pos (l : Nat) : 0 < csz l := Nat.pow_pos (by omega)
theorem csz_le (l : Nat) : csz l ≤ 4294967296 := by
  have : csz l ≤ 4 ^ 16 := Nat.pow_le_pow_right (by omega) (by omega)
  simpa using this
theorem csz_mul (l : Nat) (h : l ≤ 16) : 4 ^ l * csz l = 4294967296 := by
  unfold csz
  rw [← Nat.pow_add, show l + (16 - l) = 16 by omega]
def mortI (x : Cl) : Nat := mort x.1.toNat x.2.1.toNat x.2.2.toNat
def spF (x : Cl) : Nat := mortI x * csz x.1.toNat
def spT (x : Cl) : Nat := (mortI x + 1) * csz x.1.toNat
theorem sp_bd (l r c : Nat) (hl : l ≤ 16) (hc : c < 2 * 2 ^ l) : mort l r c * csz l ≤ 8589934592 ∧ (mort l r c + 1) * csz l ≤ 8589934592 := by
  have h1 := mort_lt l r c hc
  have h2 : (mort l r c + 1) * csz l ≤ (2 * 4 ^ l) * csz l := Nat.mul_le_mul_right _ (by omega)
  rw [Nat.mul_assoc, csz_mul l hl] at h2
  have h3 : mort l r c * csz l ≤ (mort l r c + 1) * csz l := Nat.mul_le_mul_right _ (by omega)
  omega
theorem mort_le (l r c : Nat) (hl : l ≤ 16) (hc : c < 2 * 2 ^ l) : mort l r c < 8589934592 := by
  have h1 := mort_lt l r c hc
  have : (4 : Nat) ^ l ≤ 4 ^ 16 := Nat.pow_le_pow_right (by omega) hl
  omega
theorem csz_shift' (l : Nat) : (2 : Int) ^ (2 * (16 - l)) = (csz l : Int) := by
  have h : (2 : Nat) ^ (2 * (16 - l)) = csz l := by rw [Nat.pow_mul]; rfl
  exact_mod_cast h
/-- a row and a column out of the first digits of a number -/
def rwTo : Nat → Nat → Nat
  | 0, _ => 0
  | k + 1, n => rwTo k n + n / 4 ^ k % 4 / 2 * 2 ^ k
def clTo : Nat → Nat → Nat
  | 0, _ => 0
  | k + 1, n => clTo k n + n / 4 ^ k % 4 % 2 * 2 ^ k
theorem rwTo_lt (k n : Nat) : rwTo k n < 2 ^ k := by
  induction k with
  | zero => simp [rwTo]
  | succ k ih =>
    simp only [rwTo, Nat.pow_succ]
    have h : n / 4 ^ k % 4 / 2 ≤ 1 := by omega
    have := Nat.mul_le_mul_right (2 ^ k) h
    omega
theorem clTo_lt (k n : Nat) : clTo k n < 2 ^ k := by
  induction k with
  | zero => simp [clTo]
  | succ k ih =>
    simp only [clTo, Nat.pow_succ]
    have h : n / 4 ^ k % 4 % 2 ≤ 1 := by omega
    have := Nat.mul_le_mul_right (2 ^ k) h
    omega
theorem or_top (a b k : Nat) (h : a < 2 ^ k) : a ||| (b * 2 ^ k) = a + b * 2 ^ k := by
  rw [Nat.or_comm, Nat.mul_comm b, ← Nat.two_pow_add_eq_or_of_lt h, Nat.add_comm]
theorem rwTo_low (k n : Nat) : rwTo (k + 1) n = 2 * rwTo k (n / 4) + n % 4 / 2 := by
  induction k with
  | zero => simp [rwTo]
  | succ k ih =>
    rw [rwTo, ih, rwTo, Nat.pow_succ, Nat.pow_succ, Nat.mul_comm (4 ^ k) 4, ← Nat.div_div_eq_div_mul, ← Nat.mul_assoc]
    omega
theorem clTo_low (k n : Nat) : clTo (k + 1) n = 2 * clTo k (n / 4) + n % 4 % 2 := by
  induction k with
  | zero => simp [clTo]
  | succ k ih =>
    rw [clTo, ih, clTo, Nat.pow_succ, Nat.pow_succ, Nat.mul_comm (4 ^ k) 4, ← Nat.div_div_eq_div_mul, ← Nat.mul_assoc]
    omega
def colOf (l n : Nat) : Nat := clTo l n + n / 4 ^ l * 2 ^ l
/-- the row and the column of a number give that number back -/
theorem mort_of (l : Nat) : ∀ n : Nat, mort l (rwTo l n) (colOf l n) = n := by
  induction l with
  | zero => intro n; simp [mort, colOf, clTo]
  | succ l ih =>
    intro n
    have h := ih (n / 4)
    have e1 : rwTo (l + 1) n / 2 = rwTo l (n / 4) := by rw [rwTo_low]; omega
    have e2 : rwTo (l + 1) n % 2 = n % 4 / 2 := by rw [rwTo_low]; omega
    have hx : colOf (l + 1) n = 2 * colOf l (n / 4) + n % 4 % 2 := by
      unfold colOf
      rw [clTo_low, Nat.pow_succ, Nat.pow_succ, Nat.mul_comm (4 ^ l) 4, ← Nat.div_div_eq_div_mul, ← Nat.mul_assoc]
      omega
    have e3 : colOf (l + 1) n / 2 = colOf l (n / 4) := by rw [hx]; omega
    have e4 : colOf (l + 1) n % 2 = n % 4 % 2 := by rw [hx]; omega
    simp only [mort]
    rw [e1, e2, e3, e4, h]
    omega
theorem colOf_lt (l n : Nat) (h : n < 2 * 4 ^ l) : colOf l n < 2 * 2 ^ l := by
  have h1 := clTo_lt l n
  have h2 : n / 4 ^ l < 2 := by rw [Nat.div_lt_iff_lt_mul (Nat.pow_pos (by omega))]; exact h
  have h3 := Nat.mul_le_mul_right (2 ^ l) (show n / 4 ^ l ≤ 1 by omega)
  unfold colOf
  omega
end Go.Proofs.YtifdgdgfmjfbdaaGreat
namespace Go.Proofs.YtifdgdgfmjfbdaaGreat
open Go.RowKit
theorem ofInt_i64 (a : Nat) (ha : a < 9223372036854775808) : (BitVec.ofInt 64 (a : Int)).toNat = a := by
  rw [BitVec.ofInt_natCast, BitVec.toNat_ofNat]; exact Nat.mod_eq_of_lt (by omega)
theorem i64_and_nat (a b : Nat) (ha : a < 9223372036854775808) (hb : b < 9223372036854775808) : bits .and .i64 (a : Int) (b : Int) = ((a &&& b : Nat) : Int) := by
  have hx : a &&& b < 2 ^ 63 := Nat.and_lt_two_pow _ (by omega)
  show IntKind.i64.wrap ((BitVec.ofInt 64 (a : Int) &&& BitVec.ofInt 64 (b : Int)).toNat : Int) = _
  rw [BitVec.toNat_and, ofInt_i64 a ha, ofInt_i64 b hb, IntKind.wrap_i64]
  omega
theorem i64_or_nat (a b : Nat) (ha : a < 9223372036854775808) (hb : b < 9223372036854775808) : bits .or .i64 (a : Int) (b : Int) = ((a ||| b : Nat) : Int) := by
  have hx : a ||| b < 2 ^ 63 := Nat.or_lt_two_pow (by omega) (by omega)
  show IntKind.i64.wrap ((BitVec.ofInt 64 (a : Int) ||| BitVec.ofInt 64 (b : Int)).toNat : Int) = _
  rw [BitVec.toNat_or, ofInt_i64 a ha, ofInt_i64 b hb, IntKind.wrap_i64]
  omega
theorem and_one (a : Nat) (ha : a < 9223372036854775808) : bits .and .i64 (a : Int) 1 = ((a % 2 : Nat) : Int) := by
  have := i64_and_nat a 1 ha (by omega)
  rw [Nat.and_one_is_mod] at this
  exact this

/-- the reckoning of spanOf, its terms behind names -/
def sh (c k : Nat) : Int := (c / 2 ^ k : Nat)
def bt (c k : Nat) : Int := (c / 2 ^ k % 2 : Nat)
def mI (l r c m : Nat) : Int := (mort (l - m) (r / 2 ^ m) (c / 2 ^ m) : Nat)
theorem sh_eq (c k : Nat) : (c : Int) / 2 ^ k = sh c k := by simp [sh]
theorem bt_eq (c k : Nat) (h : c < 131072) : bits .and .i64 (sh c k) 1 = bt c k := by
  have := Nat.div_le_self c (2 ^ k)
  exact and_one _ (by omega)
theorem bt_bd (c k : Nat) : 0 ≤ bt c k ∧ bt c k ≤ 1 := by unfold bt; omega
theorem mI_top (l r c : Nat) : mI l r c l = sh c l := by simp [mI, mort, sh]
theorem mI_zero (l r c : Nat) : mI l r c 0 = (mort l r c : Nat) := by simp [mI]
theorem mI_step (l r c k : Nat) (h : k + 1 ≤ l) : mI l r c k = 4 * mI l r c (k + 1) + 2 * bt r k + bt c k := by
  have := mort_step (l - (k + 1)) r c k
  have e : l - (k + 1) + 1 = l - k := by omega
  rw [e] at this
  unfold mI bt
  omega
theorem mI_bd (l r c m : Nat) (hl : l ≤ 16) (hm : m ≤ l) (h3 : c < 2 * 2 ^ l) : 0 ≤ mI l r c m ∧ mI l r c m < 8589934592 := by
  have h := mort_le (l - m) (r / 2 ^ m) (c / 2 ^ m) (by omega) (by
    rw [Nat.div_lt_iff_lt_mul (Nat.pow_pos (by omega)), Nat.mul_assoc, ← Nat.pow_add, show l - m + m = l by omega]
    exact h3)
  unfold mI
  omega

set_option maxHeartbeats 1000000 in
set_option maxRecDepth 100000 in
theorem spanOf_nat (l r c : Nat) (w : World) (h1 : l ≤ 16) (h2 : r < 2 ^ l) (h3 : c < 2 * 2 ^ l) :
    Calls Tryz.prog 177 #[.agg #[.int .i64 l, .int .i64 r, .int .i64 c]] w fun e w' => e = .returned (.agg #[.int .i64 (mort l r c * csz l : Nat), .int .i64 ((mort l r c + 1) * csz l : Nat)]) ∧ Below w.heap.size w w' := by
  have hp : 2 ^ l ≤ 65536 := by
    have : 2 ^ l ≤ 2 ^ 16 := Nat.pow_le_pow_right (by omega) h1
    simpa using this
  have hr : r < 131072 := by omega
  have hc : c < 131072 := by omega
  have h3' := Lib.hid h3
  clear h3 h2 hp
  have e1 := sh_eq c l
  go_enter Tryz.func177, Tryz.ntmps177
  go_wp2
  clear e1
  go_loopw [3, 4] (fun n i wr => ∃ (m q : Nat) (i' : Int), m ≤ l ∧ (m : Int) = i' + 1 ∧ i = .int .i64 i' ∧ n = .int .i64 (mI l r c m) ∧ wr = ((w.alloc (.cells #[.int .i64 l, .int .i64 r, .int .i64 c] 102)).alloc (.cells #[.int .i64 0, .int .i64 0] 194)).drewN q) (fun _ i _ => (intOf i + 1).toNat)
  case atStart => exact ⟨l, 0, _, Nat.le_refl _, by omega, rfl, by rw [mI_top], rfl⟩
  case round =>
    obtain ⟨m, q, i', hm, hi, rfl, rfl, rfl⟩ := hrel
    match m, hm, hi with
    | 0, hm, hi =>
      obtain rfl : i' = -1 := by omega
      have hb := sp_bd l r c h1 h3'.out
      have hb2 := mI_bd l r c 0 h1 (by omega) h3'.out
      have hz := csz_le l
      have e2 : wrap64 ((2 : Int) ^ (2 * (16 - l))) = (csz l : Int) := by rw [csz_shift' l]; exact IntWalk.wrap64_in _ (by omega)
      have e3 : wrap64 (mI l r c 0 * (csz l : Int)) = ((mort l r c * csz l : Nat) : Int) := by rw [mI_zero, ← Int.natCast_mul]; exact IntWalk.wrap64_in _ (by omega)
      have e4 : wrap64 ((mI l r c 0 + 1) * (csz l : Int)) = (((mort l r c + 1) * csz l : Nat) : Int) := by
        rw [mI_zero]
        have e : (((mort l r c : Nat) : Int) + 1) * (csz l : Int) = (((mort l r c + 1) * csz l : Nat) : Int) := by simp
        rw [e]
        exact IntWalk.wrap64_in _ (by omega)
      have E3 := Lib.hid e3
      have E4 := Lib.hid e4
      clear e3 e4 hb hi
      go_wp2
      have hv : (Value.agg #[.int .i64 (mort l r c * csz l : Nat), .int .i64 ((mort l r c + 1) * csz l : Nat)]) = .agg #[.int .i64 (wrap64 (mI l r c 0 * (csz l : Int))), .int .i64 (wrap64 ((mI l r c 0 + 1) * (csz l : Int)))] := by rw [E3.out, E4.out]
      rw [hv]
      refine bodyPost_ret (v := .agg #[.int .i64 (wrap64 (mI l r c 0 * (csz l : Int))), .int .i64 (wrap64 ((mI l r c 0 + 1) * (csz l : Int)))]) (by simp [results, Tryz.results177, go_sem]) rfl ⟨rfl, ?_⟩
      repeat (first | exact Below.refl _ _ | assumption | refine bl_drew ?_ | refine bl_drewN ?_ _ | refine Below.setCell ?_ (by first | assumption | omega | (simp; done) | (simp; omega)) _ | refine Below.alloc ?_ (by first | assumption | omega | (simp; done) | (simp; omega)) _)
    | k + 1, hm, hi =>
      obtain rfl : i' = (k : Int) := by omega
      have hms := Lib.hid (mI_step l r c k hm)
      have hb := mI_bd l r c (k + 1) h1 hm h3'.out
      have hb' := mI_bd l r c k h1 (by omega) h3'.out
      have b1 := bt_bd r k
      have b2 := bt_bd c k
      have f1 := sh_eq r k
      have f2 := sh_eq c k
      have f3 := bt_eq r k hr
      have f4 := bt_eq c k hc
      have s1 : IntKind.i64.wrap (4 * mI l r c (k + 1)) = 4 * mI l r c (k + 1) := IntWalk.i64_in _ (by clear f1 f2 f3 f4; omega)
      have s2 : IntKind.i64.wrap (2 * bt r k) = 2 * bt r k := IntWalk.i64_in _ (by clear f1 f2 f3 f4 s1; omega)
      have s3 : IntKind.i64.wrap (4 * mI l r c (k + 1) + 2 * bt r k) = 4 * mI l r c (k + 1) + 2 * bt r k := IntWalk.i64_in _ (by clear f1 f2 f3 f4 s1 s2; omega)
      have s4 : IntKind.i64.wrap (4 * mI l r c (k + 1) + 2 * bt r k + bt c k) = 4 * mI l r c (k + 1) + 2 * bt r k + bt c k := IntWalk.i64_in _ (by clear f1 f2 f3 f4 s1 s2 s3; omega)
      clear hi
      go_wp2
      go_quiet (fail)
      clear f1 f2 f3 f4 s1 s2 s3 s4
      go_wp2
      go_roundw
      case rel => exact ⟨k, q + nq, (k : Int) - 1, by omega, by omega, rfl, by rw [hms.out], rfl⟩
      case measure => simp [intOf]
end Go.Proofs.YtifdgdgfmjfbdaaGreat
namespace Go.Proofs.YtifdgdgfmjfbdaaGreat
open Go.RowKit
def sh4 (n k : Nat) : Int := (n / 4 ^ k : Nat)
def dg (n k : Nat) : Int := (n / 4 ^ k % 4 : Nat)
def rI (n k : Nat) : Int := (rwTo k n : Nat)
def cI (n k : Nat) : Int := (clTo k n : Nat)
def d2 (n k : Nat) : Int := (n / 4 ^ k % 4 / 2 : Nat)
def d1 (n k : Nat) : Int := (n / 4 ^ k % 4 % 2 : Nat)
def rb (n k : Nat) : Int := (n / 4 ^ k % 4 / 2 * 2 ^ k : Nat)
def cb (n k : Nat) : Int := (n / 4 ^ k % 4 % 2 * 2 ^ k : Nat)
def tb (n k : Nat) : Int := (n / 4 ^ k * 2 ^ k : Nat)
theorem sh4_eq (n k : Nat) : (n : Int) / 2 ^ (2 * k) = sh4 n k := by
  unfold sh4
  rw [show (4 : Nat) = 2 ^ 2 from rfl, ← Nat.pow_mul]
  simp
theorem dg_eq (n k : Nat) (h : n < 8589934592) : bits .and .i64 (sh4 n k) 3 = dg n k := by
  have h2 := Nat.div_le_self n (4 ^ k)
  have := i64_and_nat (n / 4 ^ k) 3 (by omega) (by omega)
  rw [show (3 : Nat) = 2 ^ 2 - 1 from rfl, Nat.and_two_pow_sub_one_eq_mod] at this
  exact this
theorem d2_eq (n k : Nat) : dg n k / 2 = d2 n k := by unfold dg d2; omega
theorem d1_eq (n k : Nat) : bits .and .i64 (dg n k) 1 = d1 n k := and_one _ (by omega)
theorem pow16 {k : Nat} (h : k ≤ 16) : 1 ≤ 2 ^ k ∧ 2 ^ k ≤ 65536 := by
  have : 2 ^ k ≤ 2 ^ 16 := Nat.pow_le_pow_right (by omega) h
  have : 0 < 2 ^ k := Nat.pow_pos (by omega)
  omega
theorem rb_eq (n k : Nat) (h : k ≤ 16) : IntKind.i64.wrap (d2 n k * 2 ^ k) = rb n k := by
  have e : d2 n k * 2 ^ k = rb n k := by unfold d2 rb; simp
  have hp := pow16 h
  have hb : n / 4 ^ k % 4 / 2 * 2 ^ k ≤ 1 * 2 ^ k := Nat.mul_le_mul_right _ (by omega)
  rw [e]
  refine IntWalk.i64_in _ ?_
  unfold rb
  omega
theorem cb_eq (n k : Nat) (h : k ≤ 16) : IntKind.i64.wrap (d1 n k * 2 ^ k) = cb n k := by
  have e : d1 n k * 2 ^ k = cb n k := by unfold d1 cb; simp
  have hp := pow16 h
  have hb : n / 4 ^ k % 4 % 2 * 2 ^ k ≤ 1 * 2 ^ k := Nat.mul_le_mul_right _ (by omega)
  rw [e]
  refine IntWalk.i64_in _ ?_
  unfold cb
  omega
theorem tb_eq (n l : Nat) (h : l ≤ 16) (hn : n < 2 * 4 ^ l) : IntKind.i64.wrap (sh4 n l * 2 ^ l) = tb n l := by
  have e : sh4 n l * 2 ^ l = tb n l := by unfold sh4 tb; simp
  have hp := pow16 h
  have h2 : n / 4 ^ l < 2 := by rw [Nat.div_lt_iff_lt_mul (Nat.pow_pos (by omega))]; exact hn
  have hb : n / 4 ^ l * 2 ^ l ≤ 1 * 2 ^ l := Nat.mul_le_mul_right _ (by omega)
  rw [e]
  refine IntWalk.i64_in _ ?_
  unfold tb
  omega
theorem rI_step (n k : Nat) (h : k < 16) : bits .or .i64 (rI n k) (rb n k) = rI n (k + 1) := by
  have hp := pow16 (k := k) (by omega)
  have hb : n / 4 ^ k % 4 / 2 * 2 ^ k ≤ 1 * 2 ^ k := Nat.mul_le_mul_right _ (by omega)
  have hl := rwTo_lt k n
  have := i64_or_nat (rwTo k n) (n / 4 ^ k % 4 / 2 * 2 ^ k) (by omega) (by omega)
  rw [or_top _ _ _ hl] at this
  exact this
theorem cI_step (n k : Nat) (h : k < 16) : bits .or .i64 (cI n k) (cb n k) = cI n (k + 1) := by
  have hp := pow16 (k := k) (by omega)
  have hb : n / 4 ^ k % 4 % 2 * 2 ^ k ≤ 1 * 2 ^ k := Nat.mul_le_mul_right _ (by omega)
  have hl := clTo_lt k n
  have := i64_or_nat (clTo k n) (n / 4 ^ k % 4 % 2 * 2 ^ k) (by omega) (by omega)
  rw [or_top _ _ _ hl] at this
  exact this
theorem cI_top (n l : Nat) (h : l ≤ 16) (hn : n < 2 * 4 ^ l) : bits .or .i64 (cI n l) (tb n l) = (colOf l n : Nat) := by
  have hp := pow16 h
  have h2 : n / 4 ^ l < 2 := by rw [Nat.div_lt_iff_lt_mul (Nat.pow_pos (by omega))]; exact hn
  have hb : n / 4 ^ l * 2 ^ l ≤ 1 * 2 ^ l := Nat.mul_le_mul_right _ (by omega)
  have hl := clTo_lt l n
  have := i64_or_nat (clTo l n) (n / 4 ^ l * 2 ^ l) (by omega) (by omega)
  rw [or_top _ _ _ hl] at this
  exact this

theorem set_three1 (W : World) (a b c : Value) (t : TypeId) (q g : Nat) (v : Value) (hg : g = W.heap.size) : ((W.alloc (.cells #[a, b, c] t)).drewN q).setCell ⟨g, 1, none⟩ v = (W.alloc (.cells #[a, v, c] t)).drewN q := set_new W _ t q 1 g v hg
theorem set_three2 (W : World) (a b c : Value) (t : TypeId) (q g : Nat) (v : Value) (hg : g = W.heap.size) : ((W.alloc (.cells #[a, b, c] t)).drewN q).setCell ⟨g, 2, none⟩ v = (W.alloc (.cells #[a, b, v] t)).drewN q := set_new W _ t q 2 g v hg

set_option maxHeartbeats 1000000 in
set_option maxRecDepth 100000 in
theorem cellOf_nat (n l : Nat) (w : World) (h1 : l ≤ 16) (h2 : n < 2 * 4 ^ l) :
    Calls Tryz.prog 176 #[.int .i64 n, .int .i64 l] w fun e w' => e = .returned (.agg #[.int .i64 l, .int .i64 (rwTo l n : Nat), .int .i64 (colOf l n : Nat)]) ∧ Below w.heap.size w w' := by
  have hn : n < 8589934592 := by
    have : (4 : Nat) ^ l ≤ 4 ^ 16 := Nat.pow_le_pow_right (by omega) h1
    omega
  have H2 := Lib.hid h2
  clear h2
  go_enter Tryz.func176, Tryz.ntmps176
  go_wp2
  go_loopw [11] (fun i wr => ∃ k q : Nat, k ≤ l ∧ i = .int .i64 k ∧ wr = ((w.alloc (.cells #[.int .i64 0, .int .i64 0, .int .i64 0] 102)).alloc (.cells #[.int .i64 l, .int .i64 (rI n k), .int .i64 (cI n k)] 102)).drewN q) (fun i _ => l - (intOf i).toNat)
  case atStart => exact ⟨0, 0, Nat.zero_le _, rfl, by simp [rI, cI, rwTo, clTo]; rfl⟩
  case round =>
    obtain ⟨k, q, hk, rfl, rfl⟩ := hrel
    by_cases hlt : k < l
    · have f1 := sh4_eq n k
      have f2 := dg_eq n k hn
      have f3 := d2_eq n k
      have f4 := d1_eq n k
      have f5 := rb_eq n k (by omega)
      have f6 := cb_eq n k (by omega)
      have f7 := rI_step n k (by omega)
      have f8 := cI_step n k (by omega)
      go_wp2
      refine wp_still_tail 8 (by kernel_rfl) (by kernel_rfl) ?_
      simp only [List.take_succ_cons, List.take_zero, List.drop_succ_cons, List.drop_zero]
      repeat still_step
      refine wpStill_nil ?_
      go_wp2
      rw [set_three1 _ _ _ _ _ _ _ _ (by simp)]
      refine wp_still_tail 8 (by kernel_rfl) (by kernel_rfl) ?_
      simp only [List.take_succ_cons, List.take_zero, List.drop_succ_cons, List.drop_zero]
      repeat still_step
      refine wpStill_nil ?_
      clear f1 f2 f3 f4 f5 f6 f7 f8
      go_wp2
      go_roundw
      case rel => exact ⟨k + 1, q + 1 + 1, by omega, by go_num, set_three2 _ _ _ _ _ _ _ _ (by simp)⟩
      case measure => simp [intOf]; omega
    · have hkl : k = l := by omega
      subst hkl
      have f1 := sh4_eq n k
      have f2 := tb_eq n k h1 H2.out
      have f3 := cI_top n k h1 H2.out
      have f4 : IntKind.i64.wrap (2 * (k : Int)) = 2 * (k : Int) := IntWalk.i64_in _ (by clear f1 f2 f3; omega)
      have f5 : (2 * (k : Int)).toNat = 2 * k := by clear f1 f2 f3 f4; omega
      have f6 : 0 ≤ 2 * (k : Int) := by clear f1 f2 f3 f4; omega
      have f7 : 2 * (k : Int) ≤ 64 := by clear f1 f2 f3 f4; omega
      go_wp2
      refine wp_still_tail 10 (by kernel_rfl) (by kernel_rfl) ?_
      simp only [List.take_succ_cons, List.take_zero, List.drop_succ_cons, List.drop_zero]
      repeat still_step
      refine wpStill_nil ?_
      clear f1 f2 f3 f4 f5 f6 f7
      go_wp2
      refine bodyPost_ret (v := .agg #[.int .i64 k, .int .i64 (rwTo k n : Nat), .int .i64 (colOf k n : Nat)]) (by simp [results, Tryz.results176, go_sem, rI]) rfl ⟨rfl, ?_⟩
      repeat (first | exact Below.refl _ _ | assumption | refine bl_drew ?_ | refine bl_drewN ?_ _ | refine Below.setCell ?_ (by first | assumption | omega | (simp; done) | (simp; omega)) _ | refine Below.alloc ?_ (by first | assumption | omega | (simp; done) | (simp; omega)) _)
end Go.Proofs.YtifdgdgfmjfbdaaGreat
namespace Go.Proofs.YtifdgdgfmjfbdaaGreat
open Go.RowKit Go.Sort
set_option maxHeartbeats 400000 in
theorem isNaN_any (a : Int) (w : World) : Calls Tryz.prog 226 #[.int .i64 a] w fun e w' => e = .returned (.bool false) ∧ w' = w := by
  have h : (a != a) = false := by simp
  go_enter Tryz.func226, Tryz.ntmps226
  go_wp2
  go_ret
  exact ⟨rfl, rfl⟩
set_option maxHeartbeats 400000 in
theorem compare_any (a b : Int) (w : World) : Calls Tryz.prog 181 #[.int .i64 a, .int .i64 b] w fun e w' => e = .returned (.int .i64 (Lib.compareInt a b)) ∧ w' = w := by
  rcases Int.lt_trichotomy a b with h | h | h
  · have e : Lib.compareInt a b = -1 := by simp [Lib.compareInt, h]
    rw [e]
    clear e
    go_enter Tryz.func181, Tryz.ntmps181
    go_wp2_with (go_at_call 226; refine (isNaN_any _ _).mono ?_; rintro e w' ⟨rfl, rfl⟩)
    go_ret
    exact ⟨rfl, rfl⟩
  · subst h
    have e : Lib.compareInt a a = 0 := by simp [Lib.compareInt]
    rw [e]
    clear e
    go_enter Tryz.func181, Tryz.ntmps181
    go_wp2_with (go_at_call 226; refine (isNaN_any _ _).mono ?_; rintro e w' ⟨rfl, rfl⟩)
    go_ret
    exact ⟨rfl, rfl⟩
  · have h' : ¬ a < b := by omega
    have e : Lib.compareInt a b = 1 := by simp [Lib.compareInt, h, h']
    rw [e]
    clear e
    go_enter Tryz.func181, Tryz.ntmps181
    go_wp2_with (go_at_call 226; refine (isNaN_any _ _).mono ?_; rintro e w' ⟨rfl, rfl⟩)
    go_ret
    exact ⟨rfl, rfl⟩
def orI (x y : Int) : Int := if x = 0 then y else x
set_option maxHeartbeats 400000 in
theorem or_any (b : Nat) (x y : Int) (w : World) (h1 : w.cell? ⟨b, 0, none⟩ = some (.int .i64 x)) (h2 : w.cell? ⟨b, 1, none⟩ = some (.int .i64 y)) :
    Calls Tryz.prog 180 #[.slice (some ⟨b, 0, none⟩) 2 2] w fun e w' => e = .returned (.int .i64 (orI x y)) ∧ w' = w := by
  go_enter Tryz.func180, Tryz.ntmps180
  go_wp2
  go_loop [8] (fun i => ∃ k : Nat, k ≤ 2 ∧ i = .int .i64 k ∧ (1 ≤ k → x = 0) ∧ (2 ≤ k → y = 0)) (fun i => 2 - (intOf i).toNat)
  case atStart => exact ⟨0, by omega, rfl, by omega, by omega⟩
  case round =>
    obtain ⟨k, hk, rfl, hx, hy⟩ := hrel
    match k, hk, hx, hy with
    | 0, _, _, _ =>
      clear hx hy hk
      by_cases h : x = 0
      · have H := Lib.hid h
        have h' : (x != 0) = false := by simp [h]
        clear h
        go_wp2
        go_round
        case rel => exact ⟨1, by omega, rfl, fun _ => H.out, by omega⟩
        case measure => simp [intOf]
      · have h' : (x != 0) = true := by simp [h]
        have H := Lib.hid h
        clear h
        go_wp2
        go_ret
        exact ⟨ret_int (by simp [orI, H.out]), rfl⟩
    | 1, _, hx, _ =>
      have HX := Lib.hid (hx (by omega))
      clear hx hk
      by_cases h : y = 0
      · have H := Lib.hid h
        have h' : (y != 0) = false := by simp [h]
        clear h
        go_wp2
        go_round
        case rel => exact ⟨2, by omega, rfl, fun _ => HX.out, fun _ => H.out⟩
        case measure => simp [intOf]
      · have h' : (y != 0) = true := by simp [h]
        clear h
        go_wp2
        go_ret
        exact ⟨ret_int (by simp [orI, HX.out]), rfl⟩
    | 2, _, hx, hy =>
      have HX := Lib.hid (hx (by omega))
      have HY := Lib.hid (hy (by omega))
      clear hx hy hk
      go_wp2
      go_ret
      exact ⟨ret_int (by simp [orI, HX.out, HY.out]), rfl⟩

/-- how cover orders spans -/
def cmpS (x y : Int × Int) : Int := orI (Lib.compareInt x.1 y.1) (Lib.compareInt y.2 x.2)
set_option maxHeartbeats 1000000 in
set_option maxRecDepth 100000 in
theorem coverCmp_any (x y : Int × Int) (W : World) : Calls Tryz.prog 179 #[.agg #[.int .i64 x.1, .int .i64 x.2], .agg #[.int .i64 y.1, .int .i64 y.2]] W fun e w' => e = .returned (.int .i64 (cmpS x y)) ∧ ∃ q os', w' = grow (W.drewN q) os' := by
  have C1 := fun W => compare_any x.1 y.1 W
  have C2 := fun W => compare_any y.2 x.2 W
  unfold cmpS
  generalize Lib.compareInt x.1 y.1 = u at C1 ⊢
  generalize Lib.compareInt y.2 x.2 = v at C2 ⊢
  have C1 := Lib.hid C1
  have C2 := Lib.hid C2
  go_enter Tryz.func179, Tryz.ntmps179
  go_wp2
  refine wp_still_tail 10 (by kernel_rfl) (by kernel_rfl) ?_
  simp only [List.take_succ_cons, List.take_zero, List.drop_succ_cons, List.drop_zero]
  repeat still_step
  still_call (C1.out _)
  repeat still_step
  still_call (C2.out _)
  repeat still_step
  refine wpStill_nil ?_
  go_wp2_with (go_at_call 180; refine (or_any _ u v _ (by go_simp) (by go_simp)).mono ?_; rintro e w' ⟨rfl, rfl⟩)
  go_ret
  refine ⟨rfl, 1, #[.cells #[.int .i64 x.1, .int .i64 x.2] 194, .cells #[.int .i64 y.1, .int .i64 y.2] 194, .cells #[.int .i64 u, .int .i64 v] 3], ?_⟩
  rw [alloc_eq_grow, alloc_eq_grow, alloc_eq_grow, grow_grow]
  rfl
end Go.Proofs.YtifdgdgfmjfbdaaGreat
namespace Go.Proofs.YtifdgdgfmjfbdaaGreat
open Go.RowKit
def IdxPost (w : World) (b : Bool) (e : Ending) (w' : World) : Prop := ∃ k : Int, e = .returned (.int .i64 k) ∧ decide (0 ≤ k) = b ∧ Below w.heap.size w w'
set_option maxHeartbeats 400000 in
theorem invalid_any (x : Cl) (w : World) : Calls Tryz.prog 115 #[cva x] w fun e w' => e = .returned (.bool (!(vldB x.1 x.2.1 x.2.2))) ∧ Below w.heap.size w w' := by
  obtain ⟨l, r, c⟩ := x
  have V := Lib.hid (fun w => valid_any l r c w)
  generalize vldB l r c = b at V ⊢
  go_enter Tryz.func115, Tryz.ntmps115
  go_wp2_with (go_at_call 140; refine (V.out _).mono ?_; rintro e w1 ⟨rfl, hb⟩)
  go_ret
  exact ⟨rfl, one_bl hb⟩
theorem any_take_succ (L : List Cl) (p : Cl → Bool) (k : Nat) (hk : k < L.length) (h : (L.take k).any p = false) (hp : p (gt L k) = false) : (L.take (k + 1)).any p = false := by
  rw [List.take_succ_eq_append_getElem hk, List.any_append, h]
  simp [gt, hk] at hp
  simp [hp]
theorem any_of_gt (L : List Cl) (p : Cl → Bool) (k : Nat) (hk : k < L.length) (hp : p (gt L k) = true) : L.any p = true := by
  rw [List.any_eq_true]
  simp [gt, hk] at hp
  exact ⟨L[k], List.getElem_mem hk, hp⟩

set_option maxHeartbeats 1000000 in
set_option maxRecDepth 100000 in
theorem idxFunc_any (g : Nat) (lb : Array Value) (p : Cl → Bool) (eg : ∀ args w, (callFunc g args).run Tryz.prog w = .ok (.enter g args) w) (A : Option Addr) (n c : Nat) (L : List Cl) (w : World)
    (hr : Reads w w.heap.size 3 A n (cvs L)) (hn : n ≤ maxLen) (hp : ∀ (W : World) (x : Cl), Below w.heap.size w W → Calls Tryz.prog g (#[cva x] ++ lb) W fun e w' => e = .returned (.bool (p x)) ∧ Below W.heap.size W w') :
    Calls Tryz.prog 170 #[.slice A n c, .func (.func g) #[] lb] w (IdxPost w (L.any p)) := by
  have HL := Lib.hid hr.len
  have HR := Lib.hid hr
  have HP := Lib.hid hp
  clear hr hp
  unfold maxLen at hn
  go_enter Tryz.func170, Tryz.ntmps170
  go_wp2
  go_loopg [8] n (fun gg s8 wr => ∃ kk : Nat, kk ≤ n ∧ n - kk ≤ gg ∧ s8 = .int .i64 kk ∧ Below w.heap.size w wr ∧ (L.take kk).any p = false)
  case atStart => exact ⟨0, Nat.zero_le _, by omega, rfl, Below.refl _ w, rfl⟩
  case round =>
    obtain ⟨kk, hkk, hg, rfl, BW, HA⟩ := hrel
    have HA := Lib.hid HA
    by_cases hlt : kk < n
    · obtain ⟨b, off, rfl, hb, x1, x2, x3⟩ := HR.out.elem hlt
      have y1 := (BW.cell (p := ⟨b, off + kk * 3, none⟩) hb).trans x1
      have y2 := (BW.cell (p := ⟨b, off + kk * 3 + 1, none⟩) hb).trans x2
      have y3 := (BW.cell (p := ⟨b, off + kk * 3 + 2, none⟩) hb).trans x3
      clear x1 x2 x3
      have hcall := HP.out wr (gt L kk) BW
      have h1 := Lib.hid (any_take_succ L p kk (by rw [HL.out]; exact hlt) HA.out)
      have h2 := Lib.hid (any_of_gt L p kk (by rw [HL.out]; exact hlt))
      cases hq : p (gt L kk) with
      | true =>
        have h3 := Lib.hid (h2.out hq)
        rw [hq] at hcall
        have hcall := Lib.hid hcall
        clear hq h1 h2
        go_wp2_with (go_at_fn g; refine hcall.out.mono ?_; rintro e w' ⟨rfl, hb'⟩)
        go_ret
        exact ⟨kk, rfl, by rw [h3.out]; simp, BW.trans (hb'.mono BW.size)⟩
      | false =>
        have h3 := Lib.hid (h1.out hq)
        rw [hq] at hcall
        have hcall := Lib.hid hcall
        clear hq h1 h2
        go_wp2_with (go_at_fn g; refine hcall.out.mono ?_; rintro e w' ⟨rfl, hb'⟩)
        go_roundg (n - (kk + 1))
        case measure => omega
        case rel => exact ⟨kk + 1, by omega, by omega, by go_num, BW.trans (hb'.mono BW.size), h3.out⟩
    · go_wp2
      go_ret
      have h := HA.out
      rw [List.take_of_length_le (by rw [HL.out]; omega)] at h
      exact ⟨-1, rfl, by rw [h]; rfl, BW⟩

set_option maxHeartbeats 1000000 in
theorem contFunc_any (g : Nat) (lb : Array Value) (p : Cl → Bool) (eg : ∀ args w, (callFunc g args).run Tryz.prog w = .ok (.enter g args) w) (A : Option Addr) (n c : Nat) (L : List Cl) (w : World)
    (hr : Reads w w.heap.size 3 A n (cvs L)) (hn : n ≤ maxLen) (hp : ∀ (W : World) (x : Cl), Below w.heap.size w W → Calls Tryz.prog g (#[cva x] ++ lb) W fun e w' => e = .returned (.bool (p x)) ∧ Below W.heap.size W w') :
    Calls Tryz.prog 110 #[.slice A n c, .func (.func g) #[] lb] w fun e w' => e = .returned (.bool (L.any p)) ∧ Below w.heap.size w w' := by
  have H := Lib.hid (idxFunc_any g lb p eg A n c L w hr hn hp)
  clear hp hr hn eg
  go_enter Tryz.func110, Tryz.ntmps110
  go_wp2_with (go_at_call 170; refine H.out.mono ?_; rintro e w1 ⟨k, rfl, hk, hb⟩; have HK := Lib.hid hk; clear hk)
  go_ret
  exact ⟨ret_bool HK.out, hb⟩
theorem allValid_any (A : Option Addr) (n c : Nat) (L : List Cl) (w : World) (hr : Reads w w.heap.size 3 A n (cvs L)) (hn : n ≤ maxLen) :
    Calls Tryz.prog 110 #[.slice A n c, .func (.func 115) #[] #[]] w fun e w' => e = .returned (.bool (L.any fun x => !(vldB x.1 x.2.1 x.2.2))) ∧ Below w.heap.size w w' :=
  contFunc_any _ _ _ (enters_of Tryz.func115 (by kernel_rfl) rfl) A n c L w hr hn fun W x _ => invalid_any x W
end Go.Proofs.YtifdgdgfmjfbdaaGreat
