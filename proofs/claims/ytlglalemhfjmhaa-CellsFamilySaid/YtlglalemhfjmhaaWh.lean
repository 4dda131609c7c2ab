/- The walk of spanOf. -/
import Derived.Test.YtlglalemhfjmhaaWg
import Derived.Test.YtlglalemhfjmhaaMort
namespace Go.Proofs.Ytlglalemhfjmhaa
open Go.RowKit
theorem ofInt_i64 (a : Nat) (ha : a < 9223372036854775808) : (BitVec.ofInt 64 (a : Int)).toNat = a := by
  rw [BitVec.ofInt_natCast, BitVec.toNat_ofNat]; exact Nat.mod_eq_of_lt (by omega)
theorem i64_and_nat (a b : Nat) (ha : a < 9223372036854775808) (hb : b < 9223372036854775808) : bits .and .i64 (a : Int) (b : Int) = ((a &&& b : Nat) : Int) := by
  have hx : a &&& b < 2 ^ 63 := Nat.and_lt_two_pow _ (by omega)
  show IntKind.i64.wrap ((BitVec.ofInt 64 (a : Int) &&& BitVec.ofInt 64 (b : Int)).toNat : Int) = _
  rw [BitVec.toNat_and, ofInt_i64 a ha, ofInt_i64 b hb, IntKind.wrap_i64]
  omega
theorem i64_or_nat (a b : Nat) (ha : a < 9223372036854775808) (hb : b < 9223372036854775808) : bits .or .i64 (a : Int) (b : Int) = ((a ||| b : Nat) : Int) := by
  have hx : a ||| b < 2 ^ 63 := Nat.or_lt_two_pow (by omega) (by omega)
  show IntKind.i64.wrap ((BitVec.ofInt 64 (a : Int) ||| BitVec.ofInt 64 (b : Int)).toNat : Int) = _
  rw [BitVec.toNat_or, ofInt_i64 a ha, ofInt_i64 b hb, IntKind.wrap_i64]
  omega
theorem and_one (a : Nat) (ha : a < 9223372036854775808) : bits .and .i64 (a : Int) 1 = ((a % 2 : Nat) : Int) := by
  have := i64_and_nat a 1 ha (by omega)
  rw [Nat.and_one_is_mod] at this
  exact this

/-- the reckoning of spanOf, its terms behind names -/
def sh (c k : Nat) : Int := (c / 2 ^ k : Nat)
def bt (c k : Nat) : Int := (c / 2 ^ k % 2 : Nat)
def mI (l r c m : Nat) : Int := (mort (l - m) (r / 2 ^ m) (c / 2 ^ m) : Nat)
theorem sh_eq (c k : Nat) : (c : Int) / 2 ^ k = sh c k := by simp [sh]
theorem sh_bd (c k : Nat) (h : c < 131072) : 0 ≤ sh c k ∧ sh c k < 131072 := by
  have := Nat.div_le_self c (2 ^ k)
  unfold sh
  generalize c / 2 ^ k = z at *
  omega
theorem bt_eq (c k : Nat) (h : c < 131072) : bits .and .i64 (sh c k) 1 = bt c k := by
  have := Nat.div_le_self c (2 ^ k)
  exact and_one _ (by omega)
theorem bt_bd (c k : Nat) : 0 ≤ bt c k ∧ bt c k ≤ 1 := by unfold bt; omega
theorem mI_top (l r c : Nat) : mI l r c l = sh c l := by simp [mI, mort, sh]
theorem mI_zero (l r c : Nat) : mI l r c 0 = (mort l r c : Nat) := by simp [mI]
theorem mI_step (l r c k : Nat) (h : k + 1 ≤ l) : mI l r c k = 4 * mI l r c (k + 1) + 2 * bt r k + bt c k := by
  have := mort_step (l - (k + 1)) r c k
  have e : l - (k + 1) + 1 = l - k := by omega
  rw [e] at this
  unfold mI bt
  omega
theorem mI_bd (l r c m : Nat) (hl : l ≤ 16) (hm : m ≤ l) (h3 : c < 2 * 2 ^ l) : 0 ≤ mI l r c m ∧ mI l r c m < 8589934592 := by
  have h := mort_le (l - m) (r / 2 ^ m) (c / 2 ^ m) (by omega) (by
    rw [Nat.div_lt_iff_lt_mul (Nat.pow_pos (by omega)), Nat.mul_assoc, ← Nat.pow_add, show l - m + m = l by omega]
    exact h3)
  unfold mI
  omega

set_option maxHeartbeats 1000000 in
set_option maxRecDepth 100000 in
theorem spanOf_nat (l r c : Nat) (w : World) (h1 : l ≤ 16) (h2 : r < 2 ^ l) (h3 : c < 2 * 2 ^ l) :
    Calls Try.prog 95 #[.agg #[.int .i64 l, .int .i64 r, .int .i64 c]] w fun e w' => e = .returned (.agg #[.int .i64 (mort l r c * csz l : Nat), .int .i64 ((mort l r c + 1) * csz l : Nat)]) ∧ Below w.heap.size w w' := by
  have hp : 2 ^ l ≤ 65536 := by
    have : 2 ^ l ≤ 2 ^ 16 := Nat.pow_le_pow_right (by omega) h1
    simpa using this
  have hr : r < 131072 := by omega
  have hc : c < 131072 := by omega
  have h3' := Lib.hid h3
  clear h3 h2 hp
  have e1 := sh_eq c l
  go_enter Try.func95, Try.ntmps95
  go_wp2
  clear e1
  go_loopw [3, 4] (fun n i wr => ∃ (m q : Nat) (i' : Int), m ≤ l ∧ (m : Int) = i' + 1 ∧ i = .int .i64 i' ∧ n = .int .i64 (mI l r c m) ∧ wr = ((w.alloc (.cells #[.int .i64 l, .int .i64 r, .int .i64 c] 32)).alloc (.cells #[.int .i64 0, .int .i64 0] 120)).drewN q) (fun _ i _ => (intOf i + 1).toNat)
  case atStart => exact ⟨l, 0, _, Nat.le_refl _, by omega, rfl, by rw [mI_top], rfl⟩
  case round =>
    obtain ⟨m, q, i', hm, hi, rfl, rfl, rfl⟩ := hrel
    match m, hm, hi with
    | 0, hm, hi =>
      obtain rfl : i' = -1 := by omega
      have hb := sp_bd l r c h1 h3'.out
      have hb2 := mI_bd l r c 0 h1 (by omega) h3'.out
      have hz := csz_le l
      have e2 : wrap64 ((2 : Int) ^ (2 * (16 - l))) = (csz l : Int) := by rw [csz_shift' l]; exact IntWalk.wrap64_in _ (by omega)
      have e3 : wrap64 (mI l r c 0 * (csz l : Int)) = ((mort l r c * csz l : Nat) : Int) := by rw [mI_zero, ← Int.natCast_mul]; exact IntWalk.wrap64_in _ (by omega)
      have e4 : wrap64 ((mI l r c 0 + 1) * (csz l : Int)) = (((mort l r c + 1) * csz l : Nat) : Int) := by
        rw [mI_zero]
        have e : (((mort l r c : Nat) : Int) + 1) * (csz l : Int) = (((mort l r c + 1) * csz l : Nat) : Int) := by simp
        rw [e]
        exact IntWalk.wrap64_in _ (by omega)
      have E3 := Lib.hid e3
      have E4 := Lib.hid e4
      clear e3 e4 hb hi
      go_wp2
      have hv : (Value.agg #[.int .i64 (mort l r c * csz l : Nat), .int .i64 ((mort l r c + 1) * csz l : Nat)]) = .agg #[.int .i64 (wrap64 (mI l r c 0 * (csz l : Int))), .int .i64 (wrap64 ((mI l r c 0 + 1) * (csz l : Int)))] := by rw [E3.out, E4.out]
      rw [hv]
      refine bodyPost_ret (v := .agg #[.int .i64 (wrap64 (mI l r c 0 * (csz l : Int))), .int .i64 (wrap64 ((mI l r c 0 + 1) * (csz l : Int)))]) (by simp [results, Try.results95, go_sem]) rfl ⟨rfl, ?_⟩
      repeat (first | exact Below.refl _ _ | assumption | refine bl_drew ?_ | refine bl_drewN ?_ _ | refine Below.setCell ?_ (by first | assumption | omega | (simp; done) | (simp; omega)) _ | refine Below.alloc ?_ (by first | assumption | omega | (simp; done) | (simp; omega)) _)
    | k + 1, hm, hi =>
      obtain rfl : i' = (k : Int) := by omega
      have hms := Lib.hid (mI_step l r c k hm)
      have hb := mI_bd l r c (k + 1) h1 hm h3'.out
      have hb' := mI_bd l r c k h1 (by omega) h3'.out
      have b1 := bt_bd r k
      have b2 := bt_bd c k
      have f1 := sh_eq r k
      have f2 := sh_eq c k
      have f3 := bt_eq r k hr
      have f4 := bt_eq c k hc
      have s1 : IntKind.i64.wrap (4 * mI l r c (k + 1)) = 4 * mI l r c (k + 1) := IntWalk.i64_in _ (by clear f1 f2 f3 f4; omega)
      have s2 : IntKind.i64.wrap (2 * bt r k) = 2 * bt r k := IntWalk.i64_in _ (by clear f1 f2 f3 f4 s1; omega)
      have s3 : IntKind.i64.wrap (4 * mI l r c (k + 1) + 2 * bt r k) = 4 * mI l r c (k + 1) + 2 * bt r k := IntWalk.i64_in _ (by clear f1 f2 f3 f4 s1 s2; omega)
      have s4 : IntKind.i64.wrap (4 * mI l r c (k + 1) + 2 * bt r k + bt c k) = 4 * mI l r c (k + 1) + 2 * bt r k + bt c k := IntWalk.i64_in _ (by clear f1 f2 f3 f4 s1 s2 s3; omega)
      clear hi
      go_wp2
      go_quiet (fail)
      clear f1 f2 f3 f4 s1 s2 s3 s4
      go_wp2
      go_roundw
      case rel => exact ⟨k, q + nq, (k : Int) - 1, by omega, by omega, rfl, by rw [hms.out], rfl⟩
      case measure => simp [intOf]
end Go.Proofs.Ytlglalemhfjmhaa
