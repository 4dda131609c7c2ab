/- Plain: the enclosures of the sine at one angle lie within 1. No program in sight. -/
import Derived.Test.YtbpnacacnncopaaGreatDoorHUh
set_option linter.unusedVariables false
set_option linter.unusedSimpArgs false
namespace Go.Proofs.YtbpnacacnncopaaGreatDoor
open Go.RowKit
theorem mask60 (n : Int) : bits .and .i64 n 1152921504606846975 = n % 1152921504606846976 := by
  have h31 : (BitVec.ofInt 64 1152921504606846975).toNat = 2 ^ 60 - 1 := by decide
  have key : (BitVec.ofInt 64 n &&& BitVec.ofInt 64 1152921504606846975).toNat = (n % ((2 ^ 64 : Nat) : Int)).toNat % 2 ^ 60 := by
    rw [BitVec.toNat_and, BitVec.toNat_ofInt, h31, Nat.and_two_pow_sub_one_eq_mod]
  show IntKind.i64.wrap ((BitVec.ofInt 64 n &&& BitVec.ofInt 64 1152921504606846975).toNat : Nat) = n % 1152921504606846976
  rw [key, IntKind.wrap_i64]
  omega
theorem mask60u (n : Int) (h0 : 0 ≤ n) (h1 : n < 18446744073709551616) : bits .and .u64 n 1152921504606846975 = n % 1152921504606846976 := by
  have h31 : (BitVec.ofInt 64 1152921504606846975).toNat = 2 ^ 60 - 1 := by decide
  have key : (BitVec.ofInt 64 n &&& BitVec.ofInt 64 1152921504606846975).toNat = (n % ((2 ^ 64 : Nat) : Int)).toNat % 2 ^ 60 := by
    rw [BitVec.toNat_and, BitVec.toNat_ofInt, h31, Nat.and_two_pow_sub_one_eq_mod]
  show IntKind.u64.wrap ((BitVec.ofInt 64 n &&& BitVec.ofInt 64 1152921504606846975).toNat : Nat) = n % 1152921504606846976
  rw [key, IntKind.wrap_u64]
  omega
theorem ret_u64 {a b : Int} (h : a = b) : Ending.returned (.int .u64 a) = .returned (.int .u64 b) := by rw [h]
/-- the absolute value -/
def wab (n : Int) : Int := if n < 0 then -n else n
theorem wab_bd (n : Int) : 0 ≤ wab n := by unfold wab; split <;> omega
set_option maxHeartbeats 1000000 in
theorem wabs_any (n : Int) (w : World) (h0 : -4611686018427387904 ≤ n) (h1 : n ≤ 4611686018427387904) : Calls Tryz.prog 242 #[.int .i64 n] w fun e w' => e = .returned (.int .u64 (wab n)) ∧ w' = w := by
  unfold wab
  by_cases h : n < 0
  · have hd : decide (n < 0) = true := decide_eq_true h
    have e1 : IntKind.u64.wrap n = n + 18446744073709551616 := by rw [IntKind.wrap_u64]; omega
    have e2 : IntKind.u64.wrap (-(n + 18446744073709551616)) = -n := by rw [IntKind.wrap_u64]; omega
    rw [if_pos h]
    go_enter Tryz.func242, Tryz.ntmps242
    go_wp2
    go_ret
    refine ⟨ret_u64 ?_, rfl⟩
    first | rfl | exact e2 | (rw [IntKind.wrap_u64]; omega) | (simp [e1, e2])
  · have hd : decide (n < 0) = false := decide_eq_false h
    have e1 : IntKind.u64.wrap n = n := by rw [IntKind.wrap_u64]; omega
    rw [if_neg h]
    go_enter Tryz.func242, Tryz.ntmps242
    go_wp2
    go_ret
    exact ⟨rfl, rfl⟩
/-- which wide integers are valid -/
def wvB (h l : Int) : Bool := decide (-1152921504606846976 ≤ h ∧ h < 1152921504606846976 ∧ 0 ≤ l ∧ l < 1152921504606846976)
set_option maxHeartbeats 1000000 in
theorem wValid_any (h l : Int) (w : World) : Calls Tryz.prog 248 #[.agg #[.int .i64 h, .int .i64 l]] w fun e w' => e = .returned (.bool (wvB h l)) ∧ Below w.heap.size w w' := by
  unfold wvB
  go_enter Tryz.func248, Tryz.ntmps248
  go_wp2
  all_goals
    go_ret
    refine ⟨ret_boolU (by first | (simp_all; done) | (simp_all; omega)), ?_⟩
    repeat (first | exact Below.refl _ _ | assumption | refine bl_drew ?_ | refine bl_drewN ?_ _ | refine Below.setCell ?_ (by first | assumption | omega | (simp; done) | (simp; omega)) _ | refine Below.alloc ?_ (by first | assumption | omega | (simp; done) | (simp; omega)) _)
theorem wvB_yes {h l : Int} (h0 : -1152921504606846976 ≤ h) (h1 : h < 1152921504606846976) (l0 : 0 ≤ l) (l1 : l < 1152921504606846976) : wvB h l = true := by simp [wvB, *]
set_option maxHeartbeats 1000000 in
theorem wfit_any (h l : Int) (w : World) (h0 : -1000000000000000000 ≤ h) (h1 : h ≤ 1000000000000000000) (l0 : -4611686018427387904 ≤ l) (l1 : l ≤ 4611686018427387904) :
    Calls Tryz.prog 247 #[.int .i64 h, .int .i64 l] w fun e w' => e = .returned (.tuple #[.agg #[.int .i64 (h + l / 1152921504606846976), .int .i64 (l % 1152921504606846976)], .int .i64 0]) ∧ Below w.heap.size w w' := by
  have hm := mask60 l
  have hv : wvB (h + l / 1152921504606846976) (l % 1152921504606846976) = true := wvB_yes (by omega) (by omega) (by omega) (by omega)
  have KV := Lib.hid (fun W => wValid_any (h + l / 1152921504606846976) (l % 1152921504606846976) W)
  rw [hv] at KV
  have s1 : wrap64 (h + l / 1152921504606846976) = h + l / 1152921504606846976 := IntWalk.wrap64_in _ (by omega)
  clear hv
  generalize l % 1152921504606846976 = b at *
  obtain ⟨a, ha⟩ : ∃ a, h + l / 1152921504606846976 = a := ⟨_, rfl⟩
  rw [ha] at KV s1 ⊢
  go_enter Tryz.func247, Tryz.ntmps247
  go_wp2_with fail
  (with_reducible refine (KV.out _).mono ?_)
  rintro e w1 ⟨rfl, hb1⟩
  have hbl1 := two_bl hb1
  have R1 := Lib.hid (((D2.new w 0 0 236).alloc (.cells #[.int .i64 a, .int .i64 b] 236)).below hb1 (by simp; omega))
  have O1 : Hid (D2 w1 (w.heap.size + 1) a b) := Lib.hid (by
    have := (D2.new (w.alloc (.cells #[.int .i64 0, .int .i64 0] 236)) a b 236).below hb1 (by simp)
    simpa using this)
  obtain ⟨rt, r0, r1, rf0, rf1⟩ := R1.out
  obtain ⟨ot, o0, o1, of0, of1⟩ := O1.out
  clear hb1 hm s1 ha
  go_wp2
  refine bodyPost_ret (v := .tuple #[.agg #[.int .i64 a, .int .i64 b], .int .i64 0]) (by simp [results, Tryz.results247, go_sem, *]) rfl ⟨rfl, ?_⟩
  exact (hbl1.setCell (by simp) _).setCell (by simp) _
end Go.Proofs.YtbpnacacnncopaaGreatDoor
namespace Go.Proofs.YtbpnacacnncopaaGreatDoor
open Go.RowKit
theorem or60 {a b : Nat} (ha : a < 1152921504606846976) (hb : b < 16) : bits BinOp.or IntKind.u64 ((a * 16 : Nat) : Int) (b : Int) = ((a * 16 + b : Nat) : Int) := by
  rw [bits_or_u64_nat (a * 16) b (by omega) (by omega)]
  have : a * 16 = 2 ^ 4 * a := by omega
  rw [this, ← Nat.two_pow_add_eq_or_of_lt (by omega)]
def sgn (neg : Bool) (v : Int) : Int := if neg = true then -v else v
set_option maxHeartbeats 2000000 in
theorem sizeWide_any (h l : Int) (neg : Bool) (w : World) (h0 : 0 ≤ h) (h1 : h ≤ 1125899906842624) (hl : U64 l) :
    Calls Tryz.prog 243 #[.agg #[.int .u64 h, .int .u64 l, .bool neg]] w fun e w' => e = .returned (.tuple #[.agg #[.int .i64 (sgn neg (h * 18446744073709551616 + l) / 1152921504606846976), .int .i64 (sgn neg (h * 18446744073709551616 + l) % 1152921504606846976)], .int .i64 0]) ∧ Below w.heap.size w w' := by
  obtain ⟨l0, l1⟩ := hl
  have d1 : decide (72057594037927936 < h) = false := decide_eq_false (by omega)
  have d2 : (h == 72057594037927936) = false := by rw [beq_eq_false_iff_ne]; omega
  have e1 : IntKind.u64.wrap (h * 16) = h * 16 := by rw [IntKind.wrap_u64]; omega
  have e2 : bits BinOp.or IntKind.u64 (h * 16) (l / 1152921504606846976) = h * 16 + l / 1152921504606846976 := by
    have := or60 (a := h.toNat) (b := (l / 1152921504606846976).toNat) (by omega) (by omega)
    have a1 : ((h.toNat * 16 : Nat) : Int) = h * 16 := by omega
    have a2 : (((l / 1152921504606846976).toNat : Nat) : Int) = l / 1152921504606846976 := by omega
    have a3 : ((h.toNat * 16 + (l / 1152921504606846976).toNat : Nat) : Int) = h * 16 + l / 1152921504606846976 := by omega
    rw [a1, a2, a3] at this
    exact this
  have e3 := mask60u l l0 l1
  obtain ⟨A, hA⟩ : ∃ A, h * 16 + l / 1152921504606846976 = A := ⟨_, rfl⟩
  obtain ⟨B, hB⟩ : ∃ B, l % 1152921504606846976 = B := ⟨_, rfl⟩
  rw [hA] at e2
  rw [hB] at e3
  have hAB : h * 18446744073709551616 + l = A * 1152921504606846976 + B := by omega
  have A0 : 0 ≤ A := by omega
  have A1 : A ≤ 20000000000000000 := by omega
  have B0 : 0 ≤ B := by omega
  have B1 : B ≤ 1152921504606846975 := by omega
  have e4 : IntKind.i64.wrap A = A := IntWalk.i64_in _ (by clear e1 e2 e3 hAB hA hB; omega)
  have e5 : IntKind.i64.wrap B = B := IntWalk.i64_in _ (by clear e1 e2 e3 e4 hAB hA hB; omega)
  rw [hAB]
  clear hA hB hAB
  cases neg
  · have KF := Lib.hid (fun W => wfit_any A B W (by clear e1 e2 e3 e4 e5; omega) (by clear e1 e2 e3 e4 e5; omega) (by clear e1 e2 e3 e4 e5; omega) (by clear e1 e2 e3 e4 e5; omega))
    have q1 : A + B / 1152921504606846976 = sgn false (A * 1152921504606846976 + B) / 1152921504606846976 := by simp [sgn]; clear e1 e2 e3 e4 e5; omega
    have q2 : B % 1152921504606846976 = sgn false (A * 1152921504606846976 + B) % 1152921504606846976 := by first | (simp [sgn]; done) | (simp [sgn]; clear e1 e2 e3 e4 e5 q1; omega)
    have m1 : wrap64 (-A) = -A := IntWalk.wrap64_in _ (by clear e1 e2 e3 e4 e5; omega)
    have m2 : wrap64 (-B) = -B := IntWalk.wrap64_in _ (by clear e1 e2 e3 e4 e5; omega)
    rw [q1, q2] at KF
    generalize sgn false (A * 1152921504606846976 + B) / 1152921504606846976 = u at *
    generalize sgn false (A * 1152921504606846976 + B) % 1152921504606846976 = v at *
    clear q1 q2
    go_enter Tryz.func243, Tryz.ntmps243
    go_wp2
    go_quiet (fail)
    go_wp2_with fail
    (with_reducible refine (KF.out _).mono ?_)
    rintro e w1 ⟨rfl, hb1⟩
    rename_i nq _ _ _ _
    have hb2 := (bl_drewN (Below.refl _ _) nq).trans hb1
    have hbl1 := two_bl hb2
    have R1 := Lib.hid ((D2.new (w.alloc (.cells #[.int .u64 h, .int .u64 l, .bool false] 246)) 0 0 236).below hb2 (by simp))
    simp only [World.size_alloc] at R1
    obtain ⟨rt, r0, r1, rf0, rf1⟩ := R1.out
    clear hb1 hb2
    go_wp2
    refine bodyPost_ret (v := .tuple #[.agg #[.int .i64 u, .int .i64 v], .int .i64 0]) (by simp [results, Tryz.results243, go_sem, *]) rfl ⟨rfl, ?_⟩
    exact (hbl1.setCell (by simp) _).setCell (by simp) _
  · have KF := Lib.hid (fun W => wfit_any (-A) (-B) W (by clear e1 e2 e3 e4 e5; omega) (by clear e1 e2 e3 e4 e5; omega) (by clear e1 e2 e3 e4 e5; omega) (by clear e1 e2 e3 e4 e5; omega))
    have q1 : (-A) + (-B) / 1152921504606846976 = sgn true (A * 1152921504606846976 + B) / 1152921504606846976 := by simp [sgn]; clear e1 e2 e3 e4 e5; omega
    have q2 : (-B) % 1152921504606846976 = sgn true (A * 1152921504606846976 + B) % 1152921504606846976 := by first | (simp [sgn]; done) | (simp [sgn]; clear e1 e2 e3 e4 e5 q1; omega)
    have m1 : wrap64 (-A) = -A := IntWalk.wrap64_in _ (by clear e1 e2 e3 e4 e5; omega)
    have m2 : wrap64 (-B) = -B := IntWalk.wrap64_in _ (by clear e1 e2 e3 e4 e5; omega)
    rw [q1, q2] at KF
    generalize sgn true (A * 1152921504606846976 + B) / 1152921504606846976 = u at *
    generalize sgn true (A * 1152921504606846976 + B) % 1152921504606846976 = v at *
    clear q1 q2
    go_enter Tryz.func243, Tryz.ntmps243
    go_wp2
    go_quiet (fail)
    go_wp2_with fail
    (with_reducible refine (KF.out _).mono ?_)
    rintro e w1 ⟨rfl, hb1⟩
    rename_i nq _ _ _ _
    have hb2 := (bl_drewN (Below.refl _ _) nq).trans hb1
    have hbl1 := two_bl hb2
    have R1 := Lib.hid ((D2.new (w.alloc (.cells #[.int .u64 h, .int .u64 l, .bool true] 246)) 0 0 236).below hb2 (by simp))
    simp only [World.size_alloc] at R1
    obtain ⟨rt, r0, r1, rf0, rf1⟩ := R1.out
    clear hb1 hb2
    go_wp2
    refine bodyPost_ret (v := .tuple #[.agg #[.int .i64 u, .int .i64 v], .int .i64 0]) (by simp [results, Tryz.results243, go_sem, *]) rfl ⟨rfl, ?_⟩
    exact (hbl1.setCell (by simp) _).setCell (by simp) _
end Go.Proofs.YtbpnacacnncopaaGreatDoor
namespace Go.Proofs.YtbpnacacnncopaaGreatDoor
open Go.RowKit
theorem or60b {a b : Nat} (ha : a < 16) (hb : b < 1152921504606846976) : bits BinOp.or IntKind.u64 ((a * 1152921504606846976 : Nat) : Int) (b : Int) = ((a * 1152921504606846976 + b : Nat) : Int) := by
  rw [bits_or_u64_nat (a * 1152921504606846976) b (by omega) (by omega)]
  have : a * 1152921504606846976 = 2 ^ 60 * a := by omega
  rw [this, ← Nat.two_pow_add_eq_or_of_lt (by omega)]
theorem orAB (A B : Int) (B0 : 0 ≤ B) (B1 : B < 1152921504606846976) :
    bits BinOp.or IntKind.u64 (IntKind.u64.wrap (A * 1152921504606846976)) B = (A * 1152921504606846976 + B) % 18446744073709551616 := by
  obtain ⟨m, hm⟩ := Int.eq_ofNat_of_zero_le (show 0 ≤ A % 16 by omega)
  obtain ⟨k, rfl⟩ := Int.eq_ofNat_of_zero_le B0
  have := or60b (a := m) (b := k) (by omega) (by omega)
  have a1 : ((m * 1152921504606846976 : Nat) : Int) = IntKind.u64.wrap (A * 1152921504606846976) := by rw [IntKind.wrap_u64]; omega
  have a3 : ((m * 1152921504606846976 + k : Nat) : Int) = (A * 1152921504606846976 + k) % 18446744073709551616 := by
    have e : A * 1152921504606846976 + (k : Int) = ((m : Int) * 1152921504606846976 + k) + (A / 16) * 18446744073709551616 := by omega
    rw [e, Int.add_mul_emod_self_right, Int.emod_eq_of_lt (by omega) (by omega), Int.natCast_add, Int.natCast_mul]
    rfl
  rw [a1, a3] at this
  exact this
set_option maxHeartbeats 2000000 in
theorem sizeOf_any (a b : Int) (w : World) (h0 : -1125899906842624 ≤ a) (h1 : a ≤ 1125899906842624) (b0 : 0 ≤ b) (b1 : b < 1152921504606846976) :
    Calls Tryz.prog 249 #[.agg #[.int .i64 a, .int .i64 b]] w fun e w' => e = .returned (.agg #[.int .u64 (wab (a * 1152921504606846976 + b) / 18446744073709551616), .int .u64 (wab (a * 1152921504606846976 + b) % 18446744073709551616), .bool (decide (a < 0))]) ∧ Below w.heap.size w w' := by
  by_cases hn : a < 0
  · have hd : decide (a < 0) = true := decide_eq_true hn
    have hm := mask60 (-b)
    have m1 : wrap64 (-a) = -a := IntWalk.wrap64_in _ (by omega)
    have m2 : wrap64 (-b) = -b := IntWalk.wrap64_in _ (by omega)
    obtain ⟨A, hA⟩ : ∃ A, -a + -b / 1152921504606846976 = A := ⟨_, rfl⟩
    obtain ⟨B, hB⟩ : ∃ B, -b % 1152921504606846976 = B := ⟨_, rfl⟩
    have s1 : wrap64 (-a + -b / 1152921504606846976) = A := by rw [hA]; exact IntWalk.wrap64_in _ (by omega)
    rw [hB] at hm
    have hw : wab (a * 1152921504606846976 + b) = A * 1152921504606846976 + B := by unfold wab; rw [if_pos (by omega)]; omega
    have hor := orAB A B (by omega) (by omega)
    have w1 : IntKind.u64.wrap A = A := by rw [IntKind.wrap_u64]; omega
    have w2 : IntKind.u64.wrap B = B := by rw [IntKind.wrap_u64]; omega
    have q1 : A / 16 = (A * 1152921504606846976 + B) / 18446744073709551616 := by omega
    rw [hw, ← q1]
    clear q1 hw
    generalize (A * 1152921504606846976 + B) % 18446744073709551616 = u at *
    subst hA
    clear hB
    go_enter Tryz.func249, Tryz.ntmps249
    go_wp2
    go_quiet (fail)
    go_wp2
    refine bodyPost_ret (v := .agg #[.int .u64 ((-a + -b / 1152921504606846976) / 16), .int .u64 u, .bool true]) (by simp [results, Tryz.results249, go_sem, *]) rfl ⟨by rw [hd], ?_⟩
    exact ((((Below.refl _ _).alloc (Nat.le_refl _) _).alloc (by simp) _).trans (bl_drewN (Below.refl _ _) _) |>.setCell (by simp) _).setCell (by simp) _ |>.setCell (by simp) _
  · have hd : decide (a < 0) = false := decide_eq_false hn
    have hw : wab (a * 1152921504606846976 + b) = a * 1152921504606846976 + b := by unfold wab; rw [if_neg (by omega)]
    have hor := orAB a b (by omega) (by omega)
    have w1 : IntKind.u64.wrap a = a := by rw [IntKind.wrap_u64]; omega
    have w2 : IntKind.u64.wrap b = b := by rw [IntKind.wrap_u64]; omega
    have q1 : a / 16 = (a * 1152921504606846976 + b) / 18446744073709551616 := by omega
    rw [hw, ← q1]
    clear q1 hw
    generalize (a * 1152921504606846976 + b) % 18446744073709551616 = u at *
    go_enter Tryz.func249, Tryz.ntmps249
    go_wp2
    go_quiet (fail)
    go_wp2
    refine bodyPost_ret (v := .agg #[.int .u64 (a / 16), .int .u64 u, .bool false]) (by simp [results, Tryz.results249, go_sem, *]) rfl ⟨by rw [hd], ?_⟩
    exact ((((Below.refl _ _).alloc (Nat.le_refl _) _).alloc (by simp) _).trans (bl_drewN (Below.refl _ _) _) |>.setCell (by simp) _).setCell (by simp) _ |>.setCell (by simp) _
end Go.Proofs.YtbpnacacnncopaaGreatDoor
namespace Go.Proofs.YtbpnacacnncopaaGreatDoor
open Go.RowKit
theorem wab_neg {n : Int} (h : n < 0) : wab n = -n := if_pos h
theorem wab_pos {n : Int} (h : 0 ≤ n) : wab n = n := if_neg (by omega)
/-- whether a product is negative -/
def pneg (x n : Int) : Bool := ((decide (x < 0)) != (decide (n < 0))) && (decide (x ≠ 0)) && (decide (n ≠ 0))
theorem sgn_mul (x n : Int) : sgn (pneg x n) (wab x * wab n) = x * n := by
  rcases Int.lt_trichotomy x 0 with h | h | h <;> rcases Int.lt_trichotomy n 0 with g | g | g
  · rw [wab_neg h, wab_neg g]; simp [sgn, pneg, h, g, Int.neg_mul_neg]
  · subst g; simp [sgn, wab]
  · have : pneg x n = true := by simp only [pneg, bne_iff_ne, Bool.and_eq_true, decide_eq_true_eq, ne_eq, decide_eq_decide]; omega
    rw [this, wab_neg h, wab_pos (by omega)]; simp [sgn, Int.neg_mul]
  · subst h; simp [sgn, wab]
  · subst h; simp [sgn, wab]
  · subst h; simp [sgn, wab]
  · have : pneg x n = true := by simp only [pneg, bne_iff_ne, Bool.and_eq_true, decide_eq_true_eq, ne_eq, decide_eq_decide]; omega
    rw [this, wab_neg g, wab_pos (by omega)]; simp [sgn, Int.mul_neg]
  · subst g; simp [sgn, wab]
  · have h' : decide (x < 0) = false := decide_eq_false (by omega)
    have g' : decide (n < 0) = false := decide_eq_false (by omega)
    rw [wab_pos (by omega), wab_pos (by omega)]; simp [sgn, pneg, h', g']
theorem wab_le {n B : Int} (h0 : -B ≤ n) (h1 : n ≤ B) : wab n ≤ B := by unfold wab; split <;> omega
set_option maxHeartbeats 4000000 in
theorem wProduct_any (x n : Int) (w : World) (x0 : -2305843009213693952 ≤ x) (x1 : x ≤ 2305843009213693952) (n0 : -4503599627370496 ≤ n) (n1 : n ≤ 4503599627370496) :
    Calls Tryz.prog 237 #[.int .i64 x, .int .i64 n] w fun e w' => e = .returned (.tuple #[.agg #[.int .i64 (x * n / 1152921504606846976), .int .i64 (x * n % 1152921504606846976)], .int .i64 0]) ∧ Below w.heap.size w w' := by
  have hb : wab x * wab n ≤ 2305843009213693952 * 4503599627370496 := Int.mul_le_mul (wab_le x0 x1) (wab_le n0 n1) (wab_bd n) (by omega)
  have hb0 : 0 ≤ wab x * wab n := Int.mul_nonneg (wab_bd x) (wab_bd n)
  have ux : U64 (wab x) := ⟨wab_bd x, by have := wab_le x0 x1; omega⟩
  have un : U64 (wab n) := ⟨wab_bd n, by have := wab_le n0 n1; omega⟩
  have KX := Lib.hid (fun W => wabs_any x W (by omega) (by omega))
  have KN := Lib.hid (fun W => wabs_any n W (by omega) (by omega))
  have KM := Lib.hid (fun W => mul64 (wab x) (wab n) ux un W)
  have KS := Lib.hid (fun W => sizeWide_any (muH (wab x) (wab n)) (muL (wab x) (wab n)) (pneg x n) W (by unfold muH; omega) (by unfold muH; omega) (by unfold muL U64; omega))
  have he : muH (wab x) (wab n) * 18446744073709551616 + muL (wab x) (wab n) = wab x * wab n := by unfold muH muL; omega
  rw [he, sgn_mul] at KS
  clear he ux un hb hb0
  have hpn : pneg x n = (((decide (x < 0)) != (decide (n < 0))) && (decide (x ≠ 0)) && (decide (n ≠ 0))) := rfl
  generalize pneg x n = s at *
  generalize wab x = X at *
  generalize wab n = N at *
  generalize muH X N = H at *
  generalize muL X N = L at *
  generalize x * n / 1152921504606846976 = u at *
  generalize x * n % 1152921504606846976 = v at *
  have hx : ((decide (x < 0)) = true ∧ (x == 0) = false ∧ decide (x ≠ 0) = true) ∨ ((decide (x < 0)) = false ∧ (x == 0) = true ∧ decide (x ≠ 0) = false) ∨ ((decide (x < 0)) = false ∧ (x == 0) = false ∧ decide (x ≠ 0) = true) := by
    simp only [decide_eq_true_eq, decide_eq_false_iff_not, beq_iff_eq, beq_eq_false_iff_ne]; omega
  have hn : ((decide (n < 0)) = true ∧ (n == 0) = false ∧ decide (n ≠ 0) = true) ∨ ((decide (n < 0)) = false ∧ (n == 0) = true ∧ decide (n ≠ 0) = false) ∨ ((decide (n < 0)) = false ∧ (n == 0) = false ∧ decide (n ≠ 0) = true) := by
    simp only [decide_eq_true_eq, decide_eq_false_iff_not, beq_iff_eq, beq_eq_false_iff_ne]; omega
  rcases hx with ⟨p1, p2, p3⟩ | ⟨p1, p2, p3⟩ | ⟨p1, p2, p3⟩ <;> rcases hn with ⟨g1, g2, g3⟩ | ⟨g1, g2, g3⟩ | ⟨g1, g2, g3⟩ <;> rw [p1, p3, g1, g3] at hpn <;> simp only [bne_self_eq_false, Bool.and_true, Bool.and_false, Bool.true_and, Bool.false_and, Bool.and_self, Bool.true_bne, Bool.false_bne, Bool.bne_true, Bool.bne_false, Bool.not_true, Bool.not_false] at hpn <;> subst hpn
  all_goals
    first | (replace p3 := of_decide_eq_true p3) | clear p3
    first | (replace g3 := of_decide_eq_true g3) | clear g3
    clear x0 x1 n0 n1
    have p4 : (x != 0) = !(x == 0) := rfl
    have g4 : (n != 0) = !(n == 0) := rfl
    rw [p2] at p4
    rw [g2] at g4
    go_enter Tryz.func237, Tryz.ntmps237
    go_wp2_with first
      | (go_at_call 242; first | ((with_reducible refine (KX.out _).mono ?_); rintro e w1 ⟨rfl, rfl⟩) | ((with_reducible refine (KN.out _).mono ?_); rintro e w1 ⟨rfl, rfl⟩))
      | (go_at_call 228; (with_reducible refine (KM.out _).mono ?_); rintro e w1 ⟨rfl, rfl⟩)
      | fail
    (with_reducible refine (KS.out _).mono ?_)
    rintro e w1 ⟨rfl, hb1⟩
    have hbl1 := one_bl hb1
    have R1 := Lib.hid ((D2.new w 0 0 236).below hb1 (by simp))
    obtain ⟨rt, r0, r1, rf0, rf1⟩ := R1.out
    clear hb1
    go_wp2
    refine bodyPost_ret (v := .tuple #[.agg #[.int .i64 u, .int .i64 v], .int .i64 0]) (by simp [results, Tryz.results237, go_sem, *]) rfl ⟨rfl, ?_⟩
    exact (hbl1.setCell (by simp) _).setCell (by simp) _
end Go.Proofs.YtbpnacacnncopaaGreatDoor
namespace Go.Proofs.YtbpnacacnncopaaGreatDoor
open Go.RowKit
/-- a quotient of absolute values, rounded, with its sign -/
def qval (neg up : Bool) (Q R : Int) : Int := sgn neg (if (decide (0 < R) && (up != neg)) = true then Q + 1 else Q)
theorem ret_quo {a b : Int} (h : a = b) : Ending.returned (.tuple #[.int .i64 a, .int .i64 0]) = .returned (.tuple #[.int .i64 b, .int .i64 0]) := by rw [h]
theorem u64_neg (q : Int) (h0 : 0 ≤ q) (h1 : q ≤ 9223372036854775807) : IntKind.i64.wrap (IntKind.u64.wrap (-q)) = -q := by rw [IntKind.wrap_u64, IntKind.wrap_i64]; omega
set_option maxHeartbeats 8000000 in
theorem wquot_any (a b d : Int) (up : Bool) (w : World) (h0 : -1125899906842624 ≤ a) (h1 : a ≤ 1125899906842624) (b0 : 0 ≤ b) (b1 : b < 1152921504606846976) (d0 : 0 < wab d) (d1 : wab d < 4294967296)
    (hq : wab (a * 1152921504606846976 + b) ≤ 4611686018427387904 * wab d) :
    Calls Tryz.prog 244 #[.agg #[.int .i64 a, .int .i64 b], .int .i64 d, .bool up] w fun e w' => e = .returned (.tuple #[.int .i64 (qval (decide (a < 0) != decide (d < 0)) up (wab (a * 1152921504606846976 + b) / wab d) (wab (a * 1152921504606846976 + b) % wab d)), .int .i64 0]) ∧ Below w.heap.size w w' := by
  have hv : wvB a b = true := wvB_yes (by omega) (by omega) (by omega) (by omega)
  have KV := Lib.hid (fun W => wValid_any a b W)
  rw [hv] at KV
  have KZ := Lib.hid (fun W => sizeOf_any a b W h0 h1 b0 b1)
  have hdd : -4294967296 < d ∧ d < 4294967296 ∧ d ≠ 0 := by unfold wab at d0 d1; split at d0 <;> simp_all <;> omega
  have KA := Lib.hid (fun W => wabs_any d W (by omega) (by omega))
  have hV0 := wab_bd (a * 1152921504606846976 + b)
  generalize wab (a * 1152921504606846976 + b) = V at *
  have hz : (d == 0) = false := by rw [beq_eq_false_iff_ne]; exact hdd.2.2
  have hdd2 : -4294967296 < d ∧ d < 4294967296 := ⟨hdd.1, hdd.2.1⟩
  have hdne : d ≠ 0 := hdd.2.2
  clear hdd hv
  generalize wab d = D at *
  have hlt : V / 18446744073709551616 < D := by omega
  have hge : decide (D ≤ V / 18446744073709551616) = false := decide_eq_false (by omega)
  have KD := Lib.hid (fun W => div64 (V / 18446744073709551616) (V % 18446744073709551616) D W d0 d1 (by omega) hlt (by unfold U64; omega))
  have he : V / 18446744073709551616 * 18446744073709551616 + V % 18446744073709551616 = V := by omega
  rw [he] at KD
  have hQ0 : 0 ≤ V / D := Int.ediv_nonneg hV0 (by omega)
  have hQ1 : V / D ≤ 4611686018427387904 := by
    rw [Int.mul_comm] at hq
    exact Int.ediv_le_of_le_mul d0 (by rw [Int.mul_comm]; exact hq)
  have hR0 : 0 ≤ V % D := Int.emod_nonneg _ (by omega)
  clear he hq hlt
  generalize V / D = Q at *
  generalize V % D = R at *
  generalize V / 18446744073709551616 = H at *
  generalize V % 18446744073709551616 = L at *
  have w1 : IntKind.u64.wrap (Q + 1) = Q + 1 := by rw [IntKind.wrap_u64]; omega
  have w2 : (Q + 1 == 0) = false := by rw [beq_eq_false_iff_ne]; omega
  have w3 : decide (Q + 1 ≤ 9223372036854775808) = true := decide_eq_true (by omega)
  have w4 : decide (Q + 1 < 9223372036854775808) = true := decide_eq_true (by omega)
  have w5 : decide (Q ≤ 9223372036854775808) = true := decide_eq_true (by omega)
  have w6 : decide (Q < 9223372036854775808) = true := decide_eq_true (by omega)
  have w7 := u64_neg Q hQ0 (by omega)
  have w8 := u64_neg (Q + 1) (by omega) (by omega)
  have w9 : IntKind.i64.wrap Q = Q := IntWalk.i64_in _ (by omega)
  have w10 : IntKind.i64.wrap (Q + 1) = Q + 1 := IntWalk.i64_in _ (by omega)
  unfold qval
  generalize decide (a < 0) = s at *
  generalize hdn : decide (d < 0) = dn at *
  generalize hrp : decide (0 < R) = r at *
  clear hV0 hR0 V h0 h1 b0 b1
  cases s <;> cases dn <;> cases up <;> cases r
  all_goals
    simp only [sgn, Bool.true_and, Bool.false_and, bne_self_eq_false, Bool.bne_true, Bool.bne_false, Bool.not_true, Bool.not_false, eq_self, if_true, Bool.false_eq_true, if_false]
    go_enter Tryz.func244, Tryz.ntmps244
    go_wp2_with fail
    (with_reducible refine (KV.out _).mono ?_)
    rintro e v1 ⟨rfl, hb1⟩
    have hbl1 := one_bl hb1
    have R1 := Lib.hid ((D2.new w a b 236).below hb1 (by simp))
    obtain ⟨rt, r0, r1, rf0, rf1⟩ := R1.out
    clear hb1
    go_wp2_with fail
    (with_reducible refine (KZ.out _).mono ?_)
    rintro e v2 ⟨rfl, hb2⟩
    have hbl2 := hbl1.trans (hb2.mono (by omega))
    clear hb2
    go_wp2_with fail
    (with_reducible refine (KA.out _).mono ?_)
    rintro e v3 ⟨rfl, rfl⟩
    go_wp2_with fail
    (with_reducible refine (KD.out _).mono ?_)
    rintro e v4 ⟨rfl, n, rfl⟩
    go_wp2
    go_ret2
    have sz3 := hbl2.size
    refine ⟨ret_quo (by simp_all), ?_⟩
    repeat (first | exact Below.refl _ _ | assumption | refine bl_drew ?_ | refine bl_drewN ?_ _ | refine Below.setCell ?_ (by first | assumption | omega | (simp; done) | (simp; omega)) _ | refine Below.alloc ?_ (by first | assumption | omega | (simp; done) | (simp; omega)) _)
end Go.Proofs.YtbpnacacnncopaaGreatDoor
namespace Go.Proofs.YtbpnacacnncopaaGreatDoor
open Go.RowKit
/-- the quotient rounded down, or up -/
def qup (up : Bool) (V d : Int) : Int := qval (decide (V < 0) != decide (d < 0)) up (wab V / wab d) (wab V % wab d)
theorem qup_down {V d : Int} (hd : 0 < d) : qup false V d = V / d := by
  have e1 : decide (d < 0) = false := decide_eq_false (by omega)
  unfold qup qval sgn
  rw [e1, wab_pos (by omega : 0 ≤ d)]
  by_cases hV : V < 0
  · have e2 : decide (V < 0) = true := decide_eq_true hV
    rw [e2, wab_neg hV]
    simp only [Bool.bne_false, if_true]
    by_cases hr : 0 < -V % d
    · rw [decide_eq_true hr]
      simp only [Bool.bne_true, Bool.not_false, Bool.and_self, if_true]
      have h1 := Int.mul_ediv_add_emod (-V) d
      have h2 := Int.emod_lt_of_pos (-V) hd
      have h3 : V = (d - -V % d) + d * (-(-V / d + 1)) := by rw [Int.mul_neg, Int.mul_add, Int.mul_one]; omega
      conv => rhs; rw [h3]
      rw [Int.add_mul_ediv_left _ _ (by omega), Int.ediv_eq_zero_of_lt (a := d - -V % d) (b := d) (by omega) (by omega)]
      omega
    · rw [decide_eq_false hr]
      simp only [Bool.false_and, Bool.false_eq_true, if_false]
      have h1 := Int.mul_ediv_add_emod (-V) d
      have h4 := Int.emod_nonneg (-V) (by omega : d ≠ 0)
      have h3 : V = d * (-(-V / d)) := by rw [Int.mul_neg]; omega
      conv => rhs; rw [h3]
      rw [Int.mul_ediv_cancel_left _ (by omega)]
  · have e2 : decide (V < 0) = false := decide_eq_false hV
    rw [e2, wab_pos (by omega : 0 ≤ V)]
    simp
theorem qup_up {V d : Int} (hd : 0 < d) : qup true V d = -(-V / d) := by
  rw [← qup_down hd]
  unfold qup qval sgn
  have ed : decide (d < 0) = false := decide_eq_false (by omega)
  rw [ed]
  rcases Int.lt_trichotomy V 0 with h | h | h
  · have e2 : decide (V < 0) = true := decide_eq_true h
    have e3 : decide (-V < 0) = false := decide_eq_false (by omega)
    rw [e2, e3, wab_neg h, wab_pos (by omega : 0 ≤ -V)]
    simp
  · subst h; simp [wab]
  · have e2 : decide (V < 0) = false := decide_eq_false (by omega)
    have e3 : decide (-V < 0) = true := decide_eq_true (by omega)
    rw [e2, e3, wab_pos (by omega : 0 ≤ V), wab_neg (by omega : -V < 0), Int.neg_neg]
    simp
theorem quotU (V d : Int) (up : Bool) (h0 : -1298074214633706907132624082305024 ≤ V) (h1 : V ≤ 1298074214633706907132624082305024) (d0 : 0 < wab d) (d1 : wab d < 4294967296) (hq : wab V ≤ 4611686018427387904 * wab d) (w : World) :
    Calls Tryz.prog 244 #[.agg #[.int .i64 (V / 1152921504606846976), .int .i64 (V % 1152921504606846976)], .int .i64 d, .bool up] w fun e w' => e = .returned (.tuple #[.int .i64 (qup up V d), .int .i64 0]) ∧ Below w.heap.size w w' := by
  have hV : V / 1152921504606846976 * 1152921504606846976 + V % 1152921504606846976 = V := by omega
  have h := wquot_any (V / 1152921504606846976) (V % 1152921504606846976) d up w (by omega) (by omega) (by omega) (by omega) d0 d1 (by rw [hV]; exact hq)
  have hd : decide (V / 1152921504606846976 < 0) = decide (V < 0) := by rw [decide_eq_decide]; omega
  rw [hV, hd] at h
  exact h
set_option maxHeartbeats 1000000 in
theorem wFloor_any (V d : Int) (h0 : -1298074214633706907132624082305024 ≤ V) (h1 : V ≤ 1298074214633706907132624082305024) (d0 : 0 < wab d) (d1 : wab d < 4294967296) (hq : wab V ≤ 4611686018427387904 * wab d) (w : World) :
    Calls Tryz.prog 238 #[.agg #[.int .i64 (V / 1152921504606846976), .int .i64 (V % 1152921504606846976)], .int .i64 d] w fun e w' => e = .returned (.tuple #[.int .i64 (qup false V d), .int .i64 0]) ∧ Below w.heap.size w w' := by
  have KQ := Lib.hid (fun W => quotU V d false h0 h1 d0 d1 hq W)
  clear h0 h1 d0 d1 hq
  generalize qup false V d = q at *
  generalize V / 1152921504606846976 = a at *
  generalize V % 1152921504606846976 = b at *
  go_enter Tryz.func238, Tryz.ntmps238
  go_wp2_with fail
  (with_reducible refine (KQ.out _).mono ?_)
  rintro e v1 ⟨rfl, hb1⟩
  have hbl1 := one_bl hb1
  clear hb1
  go_wp2
  go_ret2
  exact ⟨rfl, hbl1⟩
set_option maxHeartbeats 1000000 in
theorem wCeil_any (V d : Int) (h0 : -1298074214633706907132624082305024 ≤ V) (h1 : V ≤ 1298074214633706907132624082305024) (d0 : 0 < wab d) (d1 : wab d < 4294967296) (hq : wab V ≤ 4611686018427387904 * wab d) (w : World) :
    Calls Tryz.prog 239 #[.agg #[.int .i64 (V / 1152921504606846976), .int .i64 (V % 1152921504606846976)], .int .i64 d] w fun e w' => e = .returned (.tuple #[.int .i64 (qup true V d), .int .i64 0]) ∧ Below w.heap.size w w' := by
  have KQ := Lib.hid (fun W => quotU V d true h0 h1 d0 d1 hq W)
  clear h0 h1 d0 d1 hq
  generalize qup true V d = q at *
  generalize V / 1152921504606846976 = a at *
  generalize V % 1152921504606846976 = b at *
  go_enter Tryz.func239, Tryz.ntmps239
  go_wp2_with fail
  (with_reducible refine (KQ.out _).mono ?_)
  rintro e v1 ⟨rfl, hb1⟩
  have hbl1 := one_bl hb1
  clear hb1
  go_wp2
  go_ret2
  exact ⟨rfl, hbl1⟩
set_option maxHeartbeats 2000000 in
theorem enclose_any (x n d : Int) (w : World) (x0 : -2305843009213693952 ≤ x) (x1 : x ≤ 2305843009213693952) (n0 : -4503599627370496 ≤ n) (n1 : n ≤ 4503599627370496) (h0 : -1298074214633706907132624082305024 ≤ x * n) (h1 : x * n ≤ 1298074214633706907132624082305024) (d0 : 0 < wab d) (d1 : wab d < 4294967296) (hq : wab (x * n) ≤ 4611686018427387904 * wab d) :
    Calls Tryz.prog 223 #[.int .i64 x, .int .i64 n, .int .i64 d] w fun e w' => e = .returned (.tuple #[.int .i64 (qup false (x * n) d), .int .i64 (qup true (x * n) d), .int .i64 0]) ∧ Below w.heap.size w w' := by
  have KP := Lib.hid (fun W => wProduct_any x n W x0 x1 n0 n1)
  have KF := Lib.hid (fun W => wFloor_any (x * n) d h0 h1 d0 d1 hq W)
  have KC := Lib.hid (fun W => wCeil_any (x * n) d h0 h1 d0 d1 hq W)
  clear x0 x1 n0 n1 h0 h1 d0 d1 hq
  generalize qup false (x * n) d = p at *
  generalize qup true (x * n) d = q at *
  generalize x * n / 1152921504606846976 = a at *
  generalize x * n % 1152921504606846976 = b at *
  go_enter Tryz.func223, Tryz.ntmps223
  go_wp2_with fail
  (with_reducible refine (KP.out _).mono ?_)
  rintro e v1 ⟨rfl, hb1⟩
  have sz1 := hb1.size
  go_wp2_with fail
  (with_reducible refine (KF.out _).mono ?_)
  rintro e v2 ⟨rfl, hb2⟩
  have hbl2 := hb1.trans (one_bl hb2 |>.mono (by omega))
  have R1 := Lib.hid ((D2.new v1 a b 236).below hb2 (by simp))
  obtain ⟨rt, r0, r1, rf0, rf1⟩ := R1.out
  clear hb2
  go_wp2_with fail
  (with_reducible refine (KC.out _).mono ?_)
  rintro e v3 ⟨rfl, hb3⟩
  have hbl3 := hbl2.trans (hb3.mono (by omega))
  clear hb3
  go_wp2
  refine bodyPost_ret (v := .tuple #[.int .i64 p, .int .i64 q, .int .i64 0]) (by simp [results, Tryz.results223, go_sem]) rfl ⟨rfl, hbl3⟩
end Go.Proofs.YtbpnacacnncopaaGreatDoor
namespace Go.Proofs.YtbpnacacnncopaaGreatDoor
open Go.RowKit
/-- which intervals of fixed are valid -/
def fvB (lo hi : Int) : Bool := decide (-2147483648 ≤ lo ∧ lo ≤ hi ∧ hi ≤ 2147483648)
set_option maxHeartbeats 1000000 in
theorem fValid_any (lo hi : Int) (w : World) : Calls Tryz.prog 221 #[.agg #[.int .i64 lo, .int .i64 hi]] w fun e w' => e = .returned (.bool (fvB lo hi)) ∧ Below w.heap.size w w' := by
  unfold fvB
  go_enter Tryz.func221, Tryz.ntmps221
  go_wp2
  all_goals
    go_ret
    refine ⟨ret_boolU (by first | (simp_all; done) | (simp_all; omega)), ?_⟩
    repeat (first | exact Below.refl _ _ | assumption | refine bl_drew ?_ | refine bl_drewN ?_ _ | refine Below.setCell ?_ (by first | assumption | omega | (simp; done) | (simp; omega)) _ | refine Below.alloc ?_ (by first | assumption | omega | (simp; done) | (simp; omega)) _)
/-- what fit returns -/
def fitV (lo hi : Int) : Value := if fvB lo hi = true then .tuple #[.agg #[.int .i64 lo, .int .i64 hi], .int .i64 0] else .tuple #[.agg #[.int .i64 0, .int .i64 0], .int .i64 5]
set_option maxHeartbeats 2000000 in
theorem ffit_any (lo hi : Int) (w : World) : Calls Tryz.prog 192 #[.int .i64 lo, .int .i64 hi] w fun e w' => e = .returned (fitV lo hi) ∧ Below w.heap.size w w' := by
  have KV := Lib.hid (fun W => fValid_any lo hi W)
  unfold fitV
  generalize fvB lo hi = s at *
  cases s
  · simp only [Bool.false_eq_true, if_false]
    go_enter Tryz.func192, Tryz.ntmps192
    go_wp2_with fail
    (with_reducible refine (KV.out _).mono ?_)
    rintro e w1 ⟨rfl, hb1⟩
    have hbl1 := two_bl hb1
    have R1 := Lib.hid (((D2.new w 0 0 166).alloc (.cells #[.int .i64 lo, .int .i64 hi] 166)).below hb1 (by simp; omega))
    obtain ⟨rt, r0, r1, rf0, rf1⟩ := R1.out
    clear hb1
    go_wp2
    refine bodyPost_ret (v := .tuple #[.agg #[.int .i64 0, .int .i64 0], .int .i64 5]) (by simp [results, Tryz.results192, go_sem, *]) rfl ⟨rfl, ?_⟩
    exact (hbl1.setCell (by simp) _).setCell (by simp) _
  · simp only [if_true]
    go_enter Tryz.func192, Tryz.ntmps192
    go_wp2_with fail
    (with_reducible refine (KV.out _).mono ?_)
    rintro e w1 ⟨rfl, hb1⟩
    have hbl1 := two_bl hb1
    have R1 := Lib.hid (((D2.new w 0 0 166).alloc (.cells #[.int .i64 lo, .int .i64 hi] 166)).below hb1 (by simp; omega))
    have O1 : Hid (D2 w1 (w.heap.size + 1) lo hi) := Lib.hid (by
      have := (D2.new (w.alloc (.cells #[.int .i64 0, .int .i64 0] 166)) lo hi 166).below hb1 (by simp)
      simpa using this)
    obtain ⟨rt, r0, r1, rf0, rf1⟩ := R1.out
    obtain ⟨ot, o0, o1, of0, of1⟩ := O1.out
    clear hb1
    go_wp2
    refine bodyPost_ret (v := .tuple #[.agg #[.int .i64 lo, .int .i64 hi], .int .i64 0]) (by simp [results, Tryz.results192, go_sem, *]) rfl ⟨rfl, ?_⟩
    exact (hbl1.setCell (by simp) _).setCell (by simp) _
set_option maxHeartbeats 1000000 in
theorem both_any (a b c d : Int) (w : World) (h : fvB a b = true) (g : fvB c d = true) : Calls Tryz.prog 191 #[.agg #[.int .i64 a, .int .i64 b], .agg #[.int .i64 c, .int .i64 d]] w fun e w' => e = .returned (.bool true) ∧ Below w.heap.size w w' := by
  have KA := Lib.hid (fun W => fValid_any a b W)
  have KB := Lib.hid (fun W => fValid_any c d W)
  rw [h] at KA
  rw [g] at KB
  clear h g
  go_enter Tryz.func191, Tryz.ntmps191
  go_wp2_with fail
  (with_reducible refine (KA.out _).mono ?_)
  rintro e w1 ⟨rfl, hb1⟩
  have hbl1 := two_bl hb1
  have O1 : Hid (D2 w1 (w.heap.size + 1) c d) := Lib.hid (by
    have := (D2.new (w.alloc (.cells #[.int .i64 a, .int .i64 b] 166)) c d 166).below hb1 (by simp)
    simpa using this)
  obtain ⟨ot, o0, o1, of0, of1⟩ := O1.out
  clear hb1
  go_wp2_with fail
  (with_reducible refine (KB.out _).mono ?_)
  rintro e w2 ⟨rfl, hb2⟩
  have hbl2 := hbl1.trans (hb2.mono hbl1.size)
  clear hb2
  go_wp2
  go_ret
  exact ⟨rfl, hbl2⟩
end Go.Proofs.YtbpnacacnncopaaGreatDoor
namespace Go.Proofs.YtbpnacacnncopaaGreatDoor
open Go.RowKit
theorem three_D2 {w w1 : World} {a b c d e f : Int} {t : TypeId} (hb : Below (((w.alloc (.cells #[.int .i64 a, .int .i64 b] t)).alloc (.cells #[.int .i64 c, .int .i64 d] t)).alloc (.cells #[.int .i64 e, .int .i64 f] t)).heap.size (((w.alloc (.cells #[.int .i64 a, .int .i64 b] t)).alloc (.cells #[.int .i64 c, .int .i64 d] t)).alloc (.cells #[.int .i64 e, .int .i64 f] t)) w1) :
    Below w.heap.size w w1 ∧ D2 w1 w.heap.size a b ∧ D2 w1 (w.heap.size + 1) c d ∧ D2 w1 (w.heap.size + 2) e f := by
  refine ⟨?_, ?_, ?_, ?_⟩
  · exact ((((Below.refl _ _).alloc (Nat.le_refl _) _).alloc (by simp) _).alloc (by simp; omega) _).trans (hb.mono (by simp; omega))
  · exact (((D2.new w a b t).alloc _).alloc _).below hb (by simp; omega)
  · have := ((D2.new (w.alloc (.cells #[.int .i64 a, .int .i64 b] t)) c d t).alloc (.cells #[.int .i64 e, .int .i64 f] t)).below hb (by simp)
    simpa using this
  · have := (D2.new ((w.alloc (.cells #[.int .i64 a, .int .i64 b] t)).alloc (.cells #[.int .i64 c, .int .i64 d] t)) e f t).below hb (by simp)
    simpa using this
theorem mul_bd31 {a b : Int} (a0 : -2147483648 ≤ a) (a1 : a ≤ 2147483648) (b0 : -2147483648 ≤ b) (b1 : b ≤ 2147483648) : -4611686018427387904 ≤ a * b ∧ a * b ≤ 4611686018427387904 := by
  have : (a * b).natAbs ≤ 2147483648 * 2147483648 := by rw [Int.natAbs_mul]; exact Nat.mul_le_mul (by omega) (by omega)
  omega
set_option maxHeartbeats 1000000 in
theorem ffloor_any (a : Int) (w : World) (a0 : -4611686018427387904 ≤ a) (a1 : a ≤ 4611686018427387904) : Calls Tryz.prog 193 #[.int .i64 a, .int .i64 1073741824] w fun e w' => e = .returned (.int .i64 (a / 1073741824)) ∧ w' = w := by
  have h1 := Int.mul_tdiv_add_tmod a 1073741824
  have h3 := Int.tmod_lt_of_pos a (show (0 : Int) < 1073741824 by omega)
  have h4 := Int.tmod_lt_of_pos (-a) (show (0 : Int) < 1073741824 by omega)
  rw [Int.neg_tmod] at h4
  have h5 : a < 0 → Int.tmod a 1073741824 ≤ 0 := fun h => by
    have h2 := Int.tmod_nonneg 1073741824 (show 0 ≤ -a by omega)
    rw [Int.neg_tmod] at h2
    omega
  have h6 : ¬ a < 0 → 0 ≤ Int.tmod a 1073741824 := fun h => Int.tmod_nonneg 1073741824 (show 0 ≤ a by omega)
  have s1 : wrap64 (Int.tdiv a 1073741824 - 1) = Int.tdiv a 1073741824 - 1 := IntWalk.wrap64_in _ (by omega)
  have s2 : wrap64 (Int.tdiv a 1073741824) = Int.tdiv a 1073741824 := IntWalk.wrap64_in _ (by omega)
  have H := Lib.hid (And.intro h1 (And.intro h3 (And.intro h4 (And.intro h5 h6))))
  clear h1 h3 h4 h5 h6
  cases hx : decide (a < 0)
  all_goals
    go_enter Tryz.func193, Tryz.ntmps193
    go_wp2
    all_goals
      go_ret
      refine ⟨ret_int ?_, rfl⟩
      obtain ⟨h1, h3, h4, h5, h6⟩ := H.out
      try rw [s1]
      simp only [bne_iff_ne, ne_eq, bne_eq_false_iff_eq, decide_eq_true_eq, decide_eq_false_iff_not] at *
      omega
set_option maxHeartbeats 1000000 in
theorem fceil_any (a : Int) (w : World) (a0 : -4611686018427387904 ≤ a) (a1 : a ≤ 4611686018427387904) : Calls Tryz.prog 194 #[.int .i64 a, .int .i64 1073741824] w fun e w' => e = .returned (.int .i64 (-(-a / 1073741824))) ∧ w' = w := by
  have KF := Lib.hid (fun W => ffloor_any (-a) W (by omega) (by omega))
  have s1 : wrap64 (-a) = -a := IntWalk.wrap64_in _ (by omega)
  have s2 : wrap64 (-(-a / 1073741824)) = -(-a / 1073741824) := IntWalk.wrap64_in _ (by omega)
  generalize -a / 1073741824 = q at *
  go_enter Tryz.func194, Tryz.ntmps194
  go_wp2_with fail
  (with_reducible refine (KF.out _).mono ?_)
  rintro e w1 ⟨rfl, rfl⟩
  go_wp2
  go_ret
  exact ⟨ret_int s2, rfl⟩
theorem fv_iff {a b : Int} : fvB a b = true ↔ -2147483648 ≤ a ∧ a ≤ b ∧ b ≤ 2147483648 := by unfold fvB; exact decide_eq_true_iff
end Go.Proofs.YtbpnacacnncopaaGreatDoor
namespace Go.Proofs.YtbpnacacnncopaaGreatDoor.Trig
theorem upF_le {q : Int} (h0 : 0 ≤ q) (h1 : q ≤ 5400000) : upF q ≤ 1073741824 := by
  unfold upF
  split
  · exact (sF_bd h0 h1).2
  · rename_i hx
    have hq : qrt q = q := by unfold qrt; omega
    have hr : rEx q = false := by rw [ex_same, hq]; simpa using hx
    obtain ⟨hf, hv, -⟩ := quick_far q hr
    have hs : sth q = false := by unfold sth; rw [decide_eq_false_iff_not]; omega
    have hl : loB q = sF q := by unfold loB; rw [hs, hq]; simp
    have hrq : ¬ rq q ≥ 2 := by unfold rq; omega
    have hqv : qv q = (quickN (rr q).toNat (rc q) : Int) := by unfold qv; rw [if_neg hrq]
    have hrr : (rr q).toNat ≤ 2700000 := by unfold rr; omega
    have hle := quickN_le hrr (rc q)
    rw [hl, hqv] at hv
    generalize quickN (rr q).toNat (rc q) = Q at *
    have hne : Q ≠ 4611686018427387904 := by
      intro e
      rw [e] at hf
      revert hf
      decide
    omega
theorem hi_le (n : Int) : -1073741824 ≤ loB n ∧ loB n ≤ 1073741824 ∧ -1073741824 ≤ hiB n ∧ hiB n ≤ 1073741824 ∧ loB n ≤ hiB n := by
  have hq := qrt_bd n
  have hs := sF_bd hq.1 hq.2
  have hu := upF_le hq.1 hq.2
  have hw : sF (qrt n) ≤ upF (qrt n) := by unfold upF; split <;> omega
  unfold loB hiB
  split <;> omega
end Go.Proofs.YtbpnacacnncopaaGreatDoor.Trig
