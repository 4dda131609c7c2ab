/- The walk of cellOf. -/
import Derived.Test.YtlglalemhfjmhaaWh
namespace Go.Proofs.Ytlglalemhfjmhaa
open Go.RowKit
def sh4 (n k : Nat) : Int := (n / 4 ^ k : Nat)
def dg (n k : Nat) : Int := (n / 4 ^ k % 4 : Nat)
def rI (n k : Nat) : Int := (rwTo k n : Nat)
def cI (n k : Nat) : Int := (clTo k n : Nat)
def d2 (n k : Nat) : Int := (n / 4 ^ k % 4 / 2 : Nat)
def d1 (n k : Nat) : Int := (n / 4 ^ k % 4 % 2 : Nat)
def rb (n k : Nat) : Int := (n / 4 ^ k % 4 / 2 * 2 ^ k : Nat)
def cb (n k : Nat) : Int := (n / 4 ^ k % 4 % 2 * 2 ^ k : Nat)
def tb (n k : Nat) : Int := (n / 4 ^ k * 2 ^ k : Nat)
theorem sh4_eq (n k : Nat) : (n : Int) / 2 ^ (2 * k) = sh4 n k := by
  unfold sh4
  rw [show (4 : Nat) = 2 ^ 2 from rfl, ← Nat.pow_mul]
  simp
theorem dg_eq (n k : Nat) (h : n < 8589934592) : bits .and .i64 (sh4 n k) 3 = dg n k := by
  have h2 := Nat.div_le_self n (4 ^ k)
  have := i64_and_nat (n / 4 ^ k) 3 (by omega) (by omega)
  rw [show (3 : Nat) = 2 ^ 2 - 1 from rfl, Nat.and_two_pow_sub_one_eq_mod] at this
  exact this
theorem dg_bd (n k : Nat) : 0 ≤ dg n k ∧ dg n k ≤ 3 := by unfold dg; omega
theorem d2_eq (n k : Nat) : dg n k / 2 = d2 n k := by unfold dg d2; omega
theorem d1_eq (n k : Nat) : bits .and .i64 (dg n k) 1 = d1 n k := and_one _ (by omega)
theorem pow16 {k : Nat} (h : k ≤ 16) : 1 ≤ 2 ^ k ∧ 2 ^ k ≤ 65536 := by
  have : 2 ^ k ≤ 2 ^ 16 := Nat.pow_le_pow_right (by omega) h
  have : 0 < 2 ^ k := Nat.pow_pos (by omega)
  omega
theorem rb_eq (n k : Nat) (h : k ≤ 16) : IntKind.i64.wrap (d2 n k * 2 ^ k) = rb n k := by
  have e : d2 n k * 2 ^ k = rb n k := by unfold d2 rb; simp
  have hp := pow16 h
  have hb : n / 4 ^ k % 4 / 2 * 2 ^ k ≤ 1 * 2 ^ k := Nat.mul_le_mul_right _ (by omega)
  rw [e]
  refine IntWalk.i64_in _ ?_
  unfold rb
  omega
theorem cb_eq (n k : Nat) (h : k ≤ 16) : IntKind.i64.wrap (d1 n k * 2 ^ k) = cb n k := by
  have e : d1 n k * 2 ^ k = cb n k := by unfold d1 cb; simp
  have hp := pow16 h
  have hb : n / 4 ^ k % 4 % 2 * 2 ^ k ≤ 1 * 2 ^ k := Nat.mul_le_mul_right _ (by omega)
  rw [e]
  refine IntWalk.i64_in _ ?_
  unfold cb
  omega
theorem tb_eq (n l : Nat) (h : l ≤ 16) (hn : n < 2 * 4 ^ l) : IntKind.i64.wrap (sh4 n l * 2 ^ l) = tb n l := by
  have e : sh4 n l * 2 ^ l = tb n l := by unfold sh4 tb; simp
  have hp := pow16 h
  have h2 : n / 4 ^ l < 2 := by rw [Nat.div_lt_iff_lt_mul (Nat.pow_pos (by omega))]; exact hn
  have hb : n / 4 ^ l * 2 ^ l ≤ 1 * 2 ^ l := Nat.mul_le_mul_right _ (by omega)
  rw [e]
  refine IntWalk.i64_in _ ?_
  unfold tb
  omega
theorem rI_step (n k : Nat) (h : k < 16) : bits .or .i64 (rI n k) (rb n k) = rI n (k + 1) := by
  have hp := pow16 (k := k) (by omega)
  have hb : n / 4 ^ k % 4 / 2 * 2 ^ k ≤ 1 * 2 ^ k := Nat.mul_le_mul_right _ (by omega)
  have hl := rwTo_lt k n
  have := i64_or_nat (rwTo k n) (n / 4 ^ k % 4 / 2 * 2 ^ k) (by omega) (by omega)
  rw [or_top _ _ _ hl] at this
  exact this
theorem cI_step (n k : Nat) (h : k < 16) : bits .or .i64 (cI n k) (cb n k) = cI n (k + 1) := by
  have hp := pow16 (k := k) (by omega)
  have hb : n / 4 ^ k % 4 % 2 * 2 ^ k ≤ 1 * 2 ^ k := Nat.mul_le_mul_right _ (by omega)
  have hl := clTo_lt k n
  have := i64_or_nat (clTo k n) (n / 4 ^ k % 4 % 2 * 2 ^ k) (by omega) (by omega)
  rw [or_top _ _ _ hl] at this
  exact this
theorem cI_top (n l : Nat) (h : l ≤ 16) (hn : n < 2 * 4 ^ l) : bits .or .i64 (cI n l) (tb n l) = (colOf l n : Nat) := by
  have hp := pow16 h
  have h2 : n / 4 ^ l < 2 := by rw [Nat.div_lt_iff_lt_mul (Nat.pow_pos (by omega))]; exact hn
  have hb : n / 4 ^ l * 2 ^ l ≤ 1 * 2 ^ l := Nat.mul_le_mul_right _ (by omega)
  have hl := clTo_lt l n
  have := i64_or_nat (clTo l n) (n / 4 ^ l * 2 ^ l) (by omega) (by omega)
  rw [or_top _ _ _ hl] at this
  exact this

theorem set_three1 (W : World) (a b c : Value) (t : TypeId) (q g : Nat) (v : Value) (hg : g = W.heap.size) : ((W.alloc (.cells #[a, b, c] t)).drewN q).setCell ⟨g, 1, none⟩ v = (W.alloc (.cells #[a, v, c] t)).drewN q := set_new W _ t q 1 g v hg
theorem set_three2 (W : World) (a b c : Value) (t : TypeId) (q g : Nat) (v : Value) (hg : g = W.heap.size) : ((W.alloc (.cells #[a, b, c] t)).drewN q).setCell ⟨g, 2, none⟩ v = (W.alloc (.cells #[a, b, v] t)).drewN q := set_new W _ t q 2 g v hg

set_option maxHeartbeats 1000000 in
set_option maxRecDepth 100000 in
theorem cellOf_nat (n l : Nat) (w : World) (h1 : l ≤ 16) (h2 : n < 2 * 4 ^ l) :
    Calls Try.prog 94 #[.int .i64 n, .int .i64 l] w fun e w' => e = .returned (.agg #[.int .i64 l, .int .i64 (rwTo l n : Nat), .int .i64 (colOf l n : Nat)]) ∧ Below w.heap.size w w' := by
  have hn : n < 8589934592 := by
    have : (4 : Nat) ^ l ≤ 4 ^ 16 := Nat.pow_le_pow_right (by omega) h1
    omega
  have H2 := Lib.hid h2
  clear h2
  go_enter Try.func94, Try.ntmps94
  go_wp2
  go_loopw [11] (fun i wr => ∃ k q : Nat, k ≤ l ∧ i = .int .i64 k ∧ wr = ((w.alloc (.cells #[.int .i64 0, .int .i64 0, .int .i64 0] 32)).alloc (.cells #[.int .i64 l, .int .i64 (rI n k), .int .i64 (cI n k)] 32)).drewN q) (fun i _ => l - (intOf i).toNat)
  case atStart => exact ⟨0, 0, Nat.zero_le _, rfl, by simp [rI, cI, rwTo, clTo]; rfl⟩
  case round =>
    obtain ⟨k, q, hk, rfl, rfl⟩ := hrel
    by_cases hlt : k < l
    · have f1 := sh4_eq n k
      have f2 := dg_eq n k hn
      have f3 := d2_eq n k
      have f4 := d1_eq n k
      have f5 := rb_eq n k (by omega)
      have f6 := cb_eq n k (by omega)
      have f7 := rI_step n k (by omega)
      have f8 := cI_step n k (by omega)
      go_wp2
      refine wp_still_tail 8 (by kernel_rfl) (by kernel_rfl) ?_
      simp only [List.take_succ_cons, List.take_zero, List.drop_succ_cons, List.drop_zero]
      repeat still_step
      refine wpStill_nil ?_
      go_wp2
      rw [set_three1 _ _ _ _ _ _ _ _ (by simp)]
      refine wp_still_tail 8 (by kernel_rfl) (by kernel_rfl) ?_
      simp only [List.take_succ_cons, List.take_zero, List.drop_succ_cons, List.drop_zero]
      repeat still_step
      refine wpStill_nil ?_
      clear f1 f2 f3 f4 f5 f6 f7 f8
      go_wp2
      go_roundw
      case rel => exact ⟨k + 1, q + 1 + 1, by omega, by go_num, set_three2 _ _ _ _ _ _ _ _ (by simp)⟩
      case measure => simp [intOf]; omega
    · have hkl : k = l := by omega
      subst hkl
      have f1 := sh4_eq n k
      have f2 := tb_eq n k h1 H2.out
      have f3 := cI_top n k h1 H2.out
      have f4 : IntKind.i64.wrap (2 * (k : Int)) = 2 * (k : Int) := IntWalk.i64_in _ (by clear f1 f2 f3; omega)
      have f5 : (2 * (k : Int)).toNat = 2 * k := by clear f1 f2 f3 f4; omega
      have f6 : 0 ≤ 2 * (k : Int) := by clear f1 f2 f3 f4; omega
      have f7 : 2 * (k : Int) ≤ 64 := by clear f1 f2 f3 f4; omega
      go_wp2
      refine wp_still_tail 10 (by kernel_rfl) (by kernel_rfl) ?_
      simp only [List.take_succ_cons, List.take_zero, List.drop_succ_cons, List.drop_zero]
      repeat still_step
      refine wpStill_nil ?_
      clear f1 f2 f3 f4 f5 f6 f7
      go_wp2
      refine bodyPost_ret (v := .agg #[.int .i64 k, .int .i64 (rwTo k n : Nat), .int .i64 (colOf k n : Nat)]) (by simp [results, Try.results94, go_sem, rI]) rfl ⟨rfl, ?_⟩
      repeat (first | exact Below.refl _ _ | assumption | refine bl_drew ?_ | refine bl_drewN ?_ _ | refine Below.setCell ?_ (by first | assumption | omega | (simp; done) | (simp; omega)) _ | refine Below.alloc ?_ (by first | assumption | omega | (simp; done) | (simp; omega)) _)
end Go.Proofs.Ytlglalemhfjmhaa
