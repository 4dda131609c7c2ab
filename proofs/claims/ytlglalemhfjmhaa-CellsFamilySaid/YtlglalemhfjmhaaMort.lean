/- Plain: the order of cells by interleaved bits. No program in sight. -/
import Derived.Test.YtlglalemhfjmhaaEq
namespace Go.Proofs.Ytlglalemhfjmhaa
/-- the number of a cell of a level, in the order of cells -/
def mort : Nat → Nat → Nat → Nat
  | 0, _, c => c
  | l + 1, r, c => 4 * mort l (r / 2) (c / 2) + 2 * (r % 2) + c % 2
theorem mort_step (m r c k : Nat) : mort (m + 1) (r / 2 ^ k) (c / 2 ^ k) = 4 * mort m (r / 2 ^ (k + 1)) (c / 2 ^ (k + 1)) + 2 * (r / 2 ^ k % 2) + c / 2 ^ k % 2 := by
  simp only [mort, Nat.div_div_eq_div_mul, Nat.pow_succ]
theorem mort_lt (l : Nat) : ∀ r c : Nat, c < 2 * 2 ^ l → mort l r c < 2 * 4 ^ l := by
  induction l with
  | zero => intro r c h; simpa [mort] using h
  | succ l ih =>
    intro r c h
    have h1 := ih (r / 2) (c / 2) (by rw [Nat.pow_succ] at h; omega)
    simp only [mort, Nat.pow_succ]
    omega
theorem mort_inj (l : Nat) : ∀ r c r' c' : Nat, r < 2 ^ l → r' < 2 ^ l → mort l r c = mort l r' c' → r = r' ∧ c = c' := by
  induction l with
  | zero => intro r c r' c' h h' e; simp [mort] at *; omega
  | succ l ih =>
    intro r c r' c' h h' e
    simp only [mort] at e
    have := ih (r / 2) (c / 2) (r' / 2) (c' / 2) (by rw [Nat.pow_succ] at h; omega) (by rw [Nat.pow_succ] at h'; omega) (by omega)
    omega
/-- the size of a cell of a level, in cells of the finest level -/
def csz (l : Nat) : Nat := 4 ^ (16 - l)
theorem csz_pos (l : Nat) : 0 < csz l := Nat.pow_pos (by omega)
theorem csz_le (l : Nat) : csz l ≤ 4294967296 := by
  have : csz l ≤ 4 ^ 16 := Nat.pow_le_pow_right (by omega) (by omega)
  simpa using this
theorem csz_mul (l : Nat) (h : l ≤ 16) : 4 ^ l * csz l = 4294967296 := by
  unfold csz
  rw [← Nat.pow_add, show l + (16 - l) = 16 by omega]
def mortI (x : Cl) : Nat := mort x.1.toNat x.2.1.toNat x.2.2.toNat
def spF (x : Cl) : Nat := mortI x * csz x.1.toNat
def spT (x : Cl) : Nat := (mortI x + 1) * csz x.1.toNat
theorem sp_bd (l r c : Nat) (hl : l ≤ 16) (hc : c < 2 * 2 ^ l) : mort l r c * csz l ≤ 8589934592 ∧ (mort l r c + 1) * csz l ≤ 8589934592 := by
  have h1 := mort_lt l r c hc
  have h2 : (mort l r c + 1) * csz l ≤ (2 * 4 ^ l) * csz l := Nat.mul_le_mul_right _ (by omega)
  rw [Nat.mul_assoc, csz_mul l hl] at h2
  have h3 : mort l r c * csz l ≤ (mort l r c + 1) * csz l := Nat.mul_le_mul_right _ (by omega)
  omega
theorem mort_le (l r c : Nat) (hl : l ≤ 16) (hc : c < 2 * 2 ^ l) : mort l r c < 8589934592 := by
  have h1 := mort_lt l r c hc
  have : (4 : Nat) ^ l ≤ 4 ^ 16 := Nat.pow_le_pow_right (by omega) hl
  omega
theorem csz_shift' (l : Nat) : (2 : Int) ^ (2 * (16 - l)) = (csz l : Int) := by
  have h : (2 : Nat) ^ (2 * (16 - l)) = csz l := by rw [Nat.pow_mul]; rfl
  exact_mod_cast h
theorem csz_shift (l : Nat) (hl : l ≤ 16) : (2 : Int) ^ (2 * (16 - (l : Int))).toNat = (csz l : Int) := by
  have e : (2 * (16 - (l : Int))).toNat = 2 * (16 - l) := by omega
  rw [e]
  have h : (2 : Nat) ^ (2 * (16 - l)) = csz l := by rw [Nat.pow_mul]; rfl
  exact_mod_cast h
/-- a row and a column out of the first digits of a number -/
def rwTo : Nat → Nat → Nat
  | 0, _ => 0
  | k + 1, n => rwTo k n + n / 4 ^ k % 4 / 2 * 2 ^ k
def clTo : Nat → Nat → Nat
  | 0, _ => 0
  | k + 1, n => clTo k n + n / 4 ^ k % 4 % 2 * 2 ^ k
theorem rwTo_lt (k n : Nat) : rwTo k n < 2 ^ k := by
  induction k with
  | zero => simp [rwTo]
  | succ k ih =>
    simp only [rwTo, Nat.pow_succ]
    have h : n / 4 ^ k % 4 / 2 ≤ 1 := by omega
    have := Nat.mul_le_mul_right (2 ^ k) h
    omega
theorem clTo_lt (k n : Nat) : clTo k n < 2 ^ k := by
  induction k with
  | zero => simp [clTo]
  | succ k ih =>
    simp only [clTo, Nat.pow_succ]
    have h : n / 4 ^ k % 4 % 2 ≤ 1 := by omega
    have := Nat.mul_le_mul_right (2 ^ k) h
    omega
theorem or_top (a b k : Nat) (h : a < 2 ^ k) : a ||| (b * 2 ^ k) = a + b * 2 ^ k := by
  rw [Nat.or_comm, Nat.mul_comm b, ← Nat.two_pow_add_eq_or_of_lt h, Nat.add_comm]
theorem rwTo_low (k n : Nat) : rwTo (k + 1) n = 2 * rwTo k (n / 4) + n % 4 / 2 := by
  induction k with
  | zero => simp [rwTo]
  | succ k ih =>
    rw [rwTo, ih, rwTo, Nat.pow_succ, Nat.pow_succ, Nat.mul_comm (4 ^ k) 4, ← Nat.div_div_eq_div_mul, ← Nat.mul_assoc]
    omega
theorem clTo_low (k n : Nat) : clTo (k + 1) n = 2 * clTo k (n / 4) + n % 4 % 2 := by
  induction k with
  | zero => simp [clTo]
  | succ k ih =>
    rw [clTo, ih, clTo, Nat.pow_succ, Nat.pow_succ, Nat.mul_comm (4 ^ k) 4, ← Nat.div_div_eq_div_mul, ← Nat.mul_assoc]
    omega
def colOf (l n : Nat) : Nat := clTo l n + n / 4 ^ l * 2 ^ l
/-- the row and the column of a number give that number back -/
theorem mort_of (l : Nat) : ∀ n : Nat, mort l (rwTo l n) (colOf l n) = n := by
  induction l with
  | zero => intro n; simp [mort, colOf, clTo]
  | succ l ih =>
    intro n
    have h := ih (n / 4)
    have e1 : rwTo (l + 1) n / 2 = rwTo l (n / 4) := by rw [rwTo_low]; omega
    have e2 : rwTo (l + 1) n % 2 = n % 4 / 2 := by rw [rwTo_low]; omega
    have hx : colOf (l + 1) n = 2 * colOf l (n / 4) + n % 4 % 2 := by
      unfold colOf
      rw [clTo_low, Nat.pow_succ, Nat.pow_succ, Nat.mul_comm (4 ^ l) 4, ← Nat.div_div_eq_div_mul, ← Nat.mul_assoc]
      omega
    have e3 : colOf (l + 1) n / 2 = colOf l (n / 4) := by rw [hx]; omega
    have e4 : colOf (l + 1) n % 2 = n % 4 % 2 := by rw [hx]; omega
    simp only [mort]
    rw [e1, e2, e3, e4, h]
    omega
theorem colOf_lt (l n : Nat) (h : n < 2 * 4 ^ l) : colOf l n < 2 * 2 ^ l := by
  have h1 := clTo_lt l n
  have h2 : n / 4 ^ l < 2 := by rw [Nat.div_lt_iff_lt_mul (Nat.pow_pos (by omega))]; exact h
  have h3 := Nat.mul_le_mul_right (2 ^ l) (show n / 4 ^ l ≤ 1 by omega)
  unfold colOf
  omega
end Go.Proofs.Ytlglalemhfjmhaa
