/- The walks of fixed.Valid, floor, ceil, both, fit, Make. -/
import Derived.Test.YtlhdneeiikemjaaGreatGVa
set_option linter.unusedVariables false
set_option linter.unusedSimpArgs false
/- The walk of wide.quotient. -/
namespace Go.Proofs.YtlhdneeiikemjaaGreat
open Go.RowKit
/-- a quotient of absolute values, rounded, with its sign -/
def qval (neg up : Bool) (Q R : Int) : Int := sgn neg (if (decide (0 < R) && (up != neg)) = true then Q + 1 else Q)
theorem ret_quo {a b : Int} (h : a = b) : Ending.returned (.tuple #[.int .i64 a, .int .i64 0]) = .returned (.tuple #[.int .i64 b, .int .i64 0]) := by rw [h]
theorem u64_neg (q : Int) (h0 : 0 ≤ q) (h1 : q ≤ 9223372036854775807) : IntKind.i64.wrap (IntKind.u64.wrap (-q)) = -q := by rw [IntKind.wrap_u64, IntKind.wrap_i64]; omega
set_option maxHeartbeats 8000000 in
theorem wquot_any (a b d : Int) (up : Bool) (w : World) (h0 : -1125899906842624 ≤ a) (h1 : a ≤ 1125899906842624) (b0 : 0 ≤ b) (b1 : b < 1152921504606846976) (d0 : 0 < wab d) (d1 : wab d < 4294967296)
    (hq : wab (a * 1152921504606846976 + b) ≤ 4611686018427387904 * wab d) :
    Calls Tryz.prog 226 #[.agg #[.int .i64 a, .int .i64 b], .int .i64 d, .bool up] w fun e w' => e = .returned (.tuple #[.int .i64 (qval (decide (a < 0) != decide (d < 0)) up (wab (a * 1152921504606846976 + b) / wab d) (wab (a * 1152921504606846976 + b) % wab d)), .int .i64 0]) ∧ Below w.heap.size w w' := by
  have hv : wvB a b = true := wvB_yes (by omega) (by omega) (by omega) (by omega)
  have KV := Lib.hid (fun W => wValid_any a b W)
  rw [hv] at KV
  have KZ := Lib.hid (fun W => sizeOf_any a b W h0 h1 b0 b1)
  have hdd : -4294967296 < d ∧ d < 4294967296 ∧ d ≠ 0 := by unfold wab at d0 d1; split at d0 <;> simp_all <;> omega
  have KA := Lib.hid (fun W => wabs_any d W (by omega) (by omega))
  have hV0 := wab_bd (a * 1152921504606846976 + b)
  generalize wab (a * 1152921504606846976 + b) = V at *
  have hz : (d == 0) = false := by rw [beq_eq_false_iff_ne]; exact hdd.2.2
  have hdd2 : -4294967296 < d ∧ d < 4294967296 := ⟨hdd.1, hdd.2.1⟩
  have hdne : d ≠ 0 := hdd.2.2
  clear hdd hv
  generalize wab d = D at *
  have hlt : V / 18446744073709551616 < D := by omega
  have hge : decide (D ≤ V / 18446744073709551616) = false := decide_eq_false (by omega)
  have KD := Lib.hid (fun W => div64 (V / 18446744073709551616) (V % 18446744073709551616) D W d0 d1 (by omega) hlt (by unfold U64; omega))
  have he : V / 18446744073709551616 * 18446744073709551616 + V % 18446744073709551616 = V := by omega
  rw [he] at KD
  have hQ0 : 0 ≤ V / D := Int.ediv_nonneg hV0 (by omega)
  have hQ1 : V / D ≤ 4611686018427387904 := by
    rw [Int.mul_comm] at hq
    exact Int.ediv_le_of_le_mul d0 (by rw [Int.mul_comm]; exact hq)
  have hR0 : 0 ≤ V % D := Int.emod_nonneg _ (by omega)
  clear he hq hlt
  generalize V / D = Q at *
  generalize V % D = R at *
  generalize V / 18446744073709551616 = H at *
  generalize V % 18446744073709551616 = L at *
  have w1 : IntKind.u64.wrap (Q + 1) = Q + 1 := by rw [IntKind.wrap_u64]; omega
  have w2 : (Q + 1 == 0) = false := by rw [beq_eq_false_iff_ne]; omega
  have w3 : decide (Q + 1 ≤ 9223372036854775808) = true := decide_eq_true (by omega)
  have w4 : decide (Q + 1 < 9223372036854775808) = true := decide_eq_true (by omega)
  have w5 : decide (Q ≤ 9223372036854775808) = true := decide_eq_true (by omega)
  have w6 : decide (Q < 9223372036854775808) = true := decide_eq_true (by omega)
  have w7 := u64_neg Q hQ0 (by omega)
  have w8 := u64_neg (Q + 1) (by omega) (by omega)
  have w9 : IntKind.i64.wrap Q = Q := IntWalk.i64_in _ (by omega)
  have w10 : IntKind.i64.wrap (Q + 1) = Q + 1 := IntWalk.i64_in _ (by omega)
  unfold qval
  generalize decide (a < 0) = s at *
  generalize hdn : decide (d < 0) = dn at *
  generalize hrp : decide (0 < R) = r at *
  clear hV0 hR0 V h0 h1 b0 b1
  cases s <;> cases dn <;> cases up <;> cases r
  all_goals
    simp only [sgn, Bool.true_and, Bool.false_and, bne_self_eq_false, Bool.bne_true, Bool.bne_false, Bool.not_true, Bool.not_false, eq_self, if_true, Bool.false_eq_true, if_false]
    go_enter Tryz.func226, Tryz.ntmps226
    go_wp2_with fail
    (with_reducible refine (KV.out _).mono ?_)
    rintro e v1 ⟨rfl, hb1⟩
    have hbl1 := one_bl hb1
    have R1 := Lib.hid ((D2.new w a b 184).below hb1 (by simp))
    obtain ⟨rt, r0, r1, rf0, rf1⟩ := R1.out
    clear hb1
    go_wp2_with fail
    (with_reducible refine (KZ.out _).mono ?_)
    rintro e v2 ⟨rfl, hb2⟩
    have hbl2 := hbl1.trans (hb2.mono (by omega))
    clear hb2
    go_wp2_with fail
    (with_reducible refine (KA.out _).mono ?_)
    rintro e v3 ⟨rfl, rfl⟩
    go_wp2_with fail
    (with_reducible refine (KD.out _).mono ?_)
    rintro e v4 ⟨rfl, n, rfl⟩
    go_wp2
    go_ret2
    have sz3 := hbl2.size
    refine ⟨ret_quo (by simp_all), ?_⟩
    repeat (first | exact Below.refl _ _ | assumption | refine bl_drew ?_ | refine bl_drewN ?_ _ | refine Below.setCell ?_ (by first | assumption | omega | (simp; done) | (simp; omega)) _ | refine Below.alloc ?_ (by first | assumption | omega | (simp; done) | (simp; omega)) _)
end Go.Proofs.YtlhdneeiikemjaaGreat
/- The walks of wide.Floor, wide.Ceil and fixed.enclose. -/
namespace Go.Proofs.YtlhdneeiikemjaaGreat
open Go.RowKit
/-- the quotient rounded down, or up -/
def qup (up : Bool) (V d : Int) : Int := qval (decide (V < 0) != decide (d < 0)) up (wab V / wab d) (wab V % wab d)
theorem qup_down {V d : Int} (hd : 0 < d) : qup false V d = V / d := by
  have e1 : decide (d < 0) = false := decide_eq_false (by omega)
  unfold qup qval sgn
  rw [e1, wab_pos (by omega : 0 ≤ d)]
  by_cases hV : V < 0
  · have e2 : decide (V < 0) = true := decide_eq_true hV
    rw [e2, wab_neg hV]
    simp only [Bool.bne_false, if_true]
    by_cases hr : 0 < -V % d
    · rw [decide_eq_true hr]
      simp only [Bool.bne_true, Bool.not_false, Bool.and_self, if_true]
      have h1 := Int.mul_ediv_add_emod (-V) d
      have h2 := Int.emod_lt_of_pos (-V) hd
      have h3 : V = (d - -V % d) + d * (-(-V / d + 1)) := by rw [Int.mul_neg, Int.mul_add, Int.mul_one]; omega
      conv => rhs; rw [h3]
      rw [Int.add_mul_ediv_left _ _ (by omega), Int.ediv_eq_zero_of_lt (a := d - -V % d) (b := d) (by omega) (by omega)]
      omega
    · rw [decide_eq_false hr]
      simp only [Bool.false_and, Bool.false_eq_true, if_false]
      have h1 := Int.mul_ediv_add_emod (-V) d
      have h4 := Int.emod_nonneg (-V) (by omega : d ≠ 0)
      have h3 : V = d * (-(-V / d)) := by rw [Int.mul_neg]; omega
      conv => rhs; rw [h3]
      rw [Int.mul_ediv_cancel_left _ (by omega)]
  · have e2 : decide (V < 0) = false := decide_eq_false hV
    rw [e2, wab_pos (by omega : 0 ≤ V)]
    simp
theorem qup_up {V d : Int} (hd : 0 < d) : qup true V d = -(-V / d) := by
  rw [← qup_down hd]
  unfold qup qval sgn
  have ed : decide (d < 0) = false := decide_eq_false (by omega)
  rw [ed]
  rcases Int.lt_trichotomy V 0 with h | h | h
  · have e2 : decide (V < 0) = true := decide_eq_true h
    have e3 : decide (-V < 0) = false := decide_eq_false (by omega)
    rw [e2, e3, wab_neg h, wab_pos (by omega : 0 ≤ -V)]
    simp
  · subst h; simp [wab]
  · have e2 : decide (V < 0) = false := decide_eq_false (by omega)
    have e3 : decide (-V < 0) = true := decide_eq_true (by omega)
    rw [e2, e3, wab_pos (by omega : 0 ≤ V), wab_neg (by omega : -V < 0), Int.neg_neg]
    simp
theorem quotU (V d : Int) (up : Bool) (h0 : -1298074214633706907132624082305024 ≤ V) (h1 : V ≤ 1298074214633706907132624082305024) (d0 : 0 < wab d) (d1 : wab d < 4294967296) (hq : wab V ≤ 4611686018427387904 * wab d) (w : World) :
    Calls Tryz.prog 226 #[.agg #[.int .i64 (V / 1152921504606846976), .int .i64 (V % 1152921504606846976)], .int .i64 d, .bool up] w fun e w' => e = .returned (.tuple #[.int .i64 (qup up V d), .int .i64 0]) ∧ Below w.heap.size w w' := by
  have hV : V / 1152921504606846976 * 1152921504606846976 + V % 1152921504606846976 = V := by omega
  have h := wquot_any (V / 1152921504606846976) (V % 1152921504606846976) d up w (by omega) (by omega) (by omega) (by omega) d0 d1 (by rw [hV]; exact hq)
  have hd : decide (V / 1152921504606846976 < 0) = decide (V < 0) := by rw [decide_eq_decide]; omega
  rw [hV, hd] at h
  exact h
set_option maxHeartbeats 1000000 in
theorem wFloor_any (V d : Int) (h0 : -1298074214633706907132624082305024 ≤ V) (h1 : V ≤ 1298074214633706907132624082305024) (d0 : 0 < wab d) (d1 : wab d < 4294967296) (hq : wab V ≤ 4611686018427387904 * wab d) (w : World) :
    Calls Tryz.prog 195 #[.agg #[.int .i64 (V / 1152921504606846976), .int .i64 (V % 1152921504606846976)], .int .i64 d] w fun e w' => e = .returned (.tuple #[.int .i64 (qup false V d), .int .i64 0]) ∧ Below w.heap.size w w' := by
  have KQ := Lib.hid (fun W => quotU V d false h0 h1 d0 d1 hq W)
  clear h0 h1 d0 d1 hq
  generalize qup false V d = q at *
  generalize V / 1152921504606846976 = a at *
  generalize V % 1152921504606846976 = b at *
  go_enter Tryz.func195, Tryz.ntmps195
  go_wp2_with fail
  (with_reducible refine (KQ.out _).mono ?_)
  rintro e v1 ⟨rfl, hb1⟩
  have hbl1 := one_bl hb1
  clear hb1
  go_wp2
  go_ret2
  exact ⟨rfl, hbl1⟩
set_option maxHeartbeats 1000000 in
theorem wCeil_any (V d : Int) (h0 : -1298074214633706907132624082305024 ≤ V) (h1 : V ≤ 1298074214633706907132624082305024) (d0 : 0 < wab d) (d1 : wab d < 4294967296) (hq : wab V ≤ 4611686018427387904 * wab d) (w : World) :
    Calls Tryz.prog 196 #[.agg #[.int .i64 (V / 1152921504606846976), .int .i64 (V % 1152921504606846976)], .int .i64 d] w fun e w' => e = .returned (.tuple #[.int .i64 (qup true V d), .int .i64 0]) ∧ Below w.heap.size w w' := by
  have KQ := Lib.hid (fun W => quotU V d true h0 h1 d0 d1 hq W)
  clear h0 h1 d0 d1 hq
  generalize qup true V d = q at *
  generalize V / 1152921504606846976 = a at *
  generalize V % 1152921504606846976 = b at *
  go_enter Tryz.func196, Tryz.ntmps196
  go_wp2_with fail
  (with_reducible refine (KQ.out _).mono ?_)
  rintro e v1 ⟨rfl, hb1⟩
  have hbl1 := one_bl hb1
  clear hb1
  go_wp2
  go_ret2
  exact ⟨rfl, hbl1⟩
set_option maxHeartbeats 2000000 in
theorem enclose_any (x n d : Int) (w : World) (x0 : -2305843009213693952 ≤ x) (x1 : x ≤ 2305843009213693952) (n0 : -4503599627370496 ≤ n) (n1 : n ≤ 4503599627370496) (h0 : -1298074214633706907132624082305024 ≤ x * n) (h1 : x * n ≤ 1298074214633706907132624082305024) (d0 : 0 < wab d) (d1 : wab d < 4294967296) (hq : wab (x * n) ≤ 4611686018427387904 * wab d) :
    Calls Tryz.prog 148 #[.int .i64 x, .int .i64 n, .int .i64 d] w fun e w' => e = .returned (.tuple #[.int .i64 (qup false (x * n) d), .int .i64 (qup true (x * n) d), .int .i64 0]) ∧ Below w.heap.size w w' := by
  have KP := Lib.hid (fun W => wProduct_any x n W x0 x1 n0 n1)
  have KF := Lib.hid (fun W => wFloor_any (x * n) d h0 h1 d0 d1 hq W)
  have KC := Lib.hid (fun W => wCeil_any (x * n) d h0 h1 d0 d1 hq W)
  clear x0 x1 n0 n1 h0 h1 d0 d1 hq
  generalize qup false (x * n) d = p at *
  generalize qup true (x * n) d = q at *
  generalize x * n / 1152921504606846976 = a at *
  generalize x * n % 1152921504606846976 = b at *
  go_enter Tryz.func148, Tryz.ntmps148
  go_wp2_with fail
  (with_reducible refine (KP.out _).mono ?_)
  rintro e v1 ⟨rfl, hb1⟩
  have sz1 := hb1.size
  go_wp2_with fail
  (with_reducible refine (KF.out _).mono ?_)
  rintro e v2 ⟨rfl, hb2⟩
  have hbl2 := hb1.trans (one_bl hb2 |>.mono (by omega))
  have R1 := Lib.hid ((D2.new v1 a b 184).below hb2 (by simp))
  obtain ⟨rt, r0, r1, rf0, rf1⟩ := R1.out
  clear hb2
  go_wp2_with fail
  (with_reducible refine (KC.out _).mono ?_)
  rintro e v3 ⟨rfl, hb3⟩
  have hbl3 := hbl2.trans (hb3.mono (by omega))
  clear hb3
  go_wp2
  refine bodyPost_ret (v := .tuple #[.int .i64 p, .int .i64 q, .int .i64 0]) (by simp [results, Tryz.results148, go_sem]) rfl ⟨rfl, hbl3⟩
end Go.Proofs.YtlhdneeiikemjaaGreat
namespace Go.Proofs.YtlhdneeiikemjaaGreat
open Go.RowKit
/-- which intervals of fixed are valid -/
def fvB (lo hi : Int) : Bool := decide (-2147483648 ≤ lo ∧ lo ≤ hi ∧ hi ≤ 2147483648)
set_option maxHeartbeats 1000000 in
theorem fValid_any (lo hi : Int) (w : World) : Calls Tryz.prog 151 #[.agg #[.int .i64 lo, .int .i64 hi]] w fun e w' => e = .returned (.bool (fvB lo hi)) ∧ Below w.heap.size w w' := by
  unfold fvB
  go_enter Tryz.func151, Tryz.ntmps151
  go_wp2
  all_goals
    go_ret
    refine ⟨ret_boolU (by first | (simp_all; done) | (simp_all; omega)), ?_⟩
    repeat (first | exact Below.refl _ _ | assumption | refine bl_drew ?_ | refine bl_drewN ?_ _ | refine Below.setCell ?_ (by first | assumption | omega | (simp; done) | (simp; omega)) _ | refine Below.alloc ?_ (by first | assumption | omega | (simp; done) | (simp; omega)) _)
/-- what fit returns -/
def fitV (lo hi : Int) : Value := if fvB lo hi = true then .tuple #[.agg #[.int .i64 lo, .int .i64 hi], .int .i64 0] else .tuple #[.agg #[.int .i64 0, .int .i64 0], .int .i64 5]
set_option maxHeartbeats 2000000 in
theorem ffit_any (lo hi : Int) (w : World) : Calls Tryz.prog 90 #[.int .i64 lo, .int .i64 hi] w fun e w' => e = .returned (fitV lo hi) ∧ Below w.heap.size w w' := by
  have KV := Lib.hid (fun W => fValid_any lo hi W)
  unfold fitV
  generalize fvB lo hi = s at *
  cases s
  · simp only [Bool.false_eq_true, if_false]
    go_enter Tryz.func90, Tryz.ntmps90
    go_wp2_with fail
    (with_reducible refine (KV.out _).mono ?_)
    rintro e w1 ⟨rfl, hb1⟩
    have hbl1 := two_bl hb1
    have R1 := Lib.hid (((D2.new w 0 0 31).alloc (.cells #[.int .i64 lo, .int .i64 hi] 31)).below hb1 (by simp; omega))
    obtain ⟨rt, r0, r1, rf0, rf1⟩ := R1.out
    clear hb1
    go_wp2
    refine bodyPost_ret (v := .tuple #[.agg #[.int .i64 0, .int .i64 0], .int .i64 5]) (by simp [results, Tryz.results90, go_sem, *]) rfl ⟨rfl, ?_⟩
    exact (hbl1.setCell (by simp) _).setCell (by simp) _
  · simp only [if_true]
    go_enter Tryz.func90, Tryz.ntmps90
    go_wp2_with fail
    (with_reducible refine (KV.out _).mono ?_)
    rintro e w1 ⟨rfl, hb1⟩
    have hbl1 := two_bl hb1
    have R1 := Lib.hid (((D2.new w 0 0 31).alloc (.cells #[.int .i64 lo, .int .i64 hi] 31)).below hb1 (by simp; omega))
    have O1 : Hid (D2 w1 (w.heap.size + 1) lo hi) := Lib.hid (by
      have := (D2.new (w.alloc (.cells #[.int .i64 0, .int .i64 0] 31)) lo hi 31).below hb1 (by simp)
      simpa using this)
    obtain ⟨rt, r0, r1, rf0, rf1⟩ := R1.out
    obtain ⟨ot, o0, o1, of0, of1⟩ := O1.out
    clear hb1
    go_wp2
    refine bodyPost_ret (v := .tuple #[.agg #[.int .i64 lo, .int .i64 hi], .int .i64 0]) (by simp [results, Tryz.results90, go_sem, *]) rfl ⟨rfl, ?_⟩
    exact (hbl1.setCell (by simp) _).setCell (by simp) _
set_option maxHeartbeats 1000000 in
theorem both_any (a b c d : Int) (w : World) (h : fvB a b = true) (g : fvB c d = true) : Calls Tryz.prog 89 #[.agg #[.int .i64 a, .int .i64 b], .agg #[.int .i64 c, .int .i64 d]] w fun e w' => e = .returned (.bool true) ∧ Below w.heap.size w w' := by
  have KA := Lib.hid (fun W => fValid_any a b W)
  have KB := Lib.hid (fun W => fValid_any c d W)
  rw [h] at KA
  rw [g] at KB
  clear h g
  go_enter Tryz.func89, Tryz.ntmps89
  go_wp2_with fail
  (with_reducible refine (KA.out _).mono ?_)
  rintro e w1 ⟨rfl, hb1⟩
  have hbl1 := two_bl hb1
  have O1 : Hid (D2 w1 (w.heap.size + 1) c d) := Lib.hid (by
    have := (D2.new (w.alloc (.cells #[.int .i64 a, .int .i64 b] 31)) c d 31).below hb1 (by simp)
    simpa using this)
  obtain ⟨ot, o0, o1, of0, of1⟩ := O1.out
  clear hb1
  go_wp2_with fail
  (with_reducible refine (KB.out _).mono ?_)
  rintro e w2 ⟨rfl, hb2⟩
  have hbl2 := hbl1.trans (hb2.mono hbl1.size)
  clear hb2
  go_wp2
  go_ret
  exact ⟨rfl, hbl2⟩
theorem two30 (n : Int) : n * 1073741824 = 1073741824 * n := Int.mul_comm _ _
set_option maxHeartbeats 2000000 in
theorem fMake_any (n d : Int) (w : World) (n0 : -4294967296 ≤ n) (n1 : n ≤ 4294967296) (d0 : 0 < d) (d1 : d < 4294967296) :
    Calls Tryz.prog 87 #[.int .i64 n, .int .i64 d] w fun e w' => e = .returned (fitV (n * 1073741824 / d) (-(-(n * 1073741824) / d))) ∧ Below w.heap.size w w' := by
  have hwd : wab d = d := wab_pos (by omega)
  have hb : wab (n * 1073741824) ≤ 4611686018427387904 := by unfold wab; split <;> omega
  have KE := Lib.hid (fun W => enclose_any n 1073741824 d W (by omega) (by omega) (by omega) (by omega) (by omega) (by omega) (by omega) (by omega) (by rw [hwd]; omega))
  rw [qup_down d0, qup_up d0] at KE
  have hz : (d == 0) = false := by rw [beq_eq_false_iff_ne]; omega
  have hne : d ≠ 0 := by omega
  clear hwd hb n0 n1
  have KF := Lib.hid (fun W => ffit_any (n * 1073741824 / d) (-(-(n * 1073741824) / d)) W)
  generalize n * 1073741824 / d = p at *
  generalize -(-(n * 1073741824) / d) = q at *
  unfold fitV at *
  generalize fvB p q = s at *
  cases s
  all_goals
    simp only [Bool.false_eq_true, if_false, if_true] at *
    go_enter Tryz.func87, Tryz.ntmps87
    go_wp2_with fail
    (with_reducible refine (KE.out _).mono ?_)
    rintro e w1 ⟨rfl, hb1⟩
    have hbl1 := one_bl hb1
    have R1 := Lib.hid ((D2.new w 0 0 31).below hb1 (by simp))
    clear hb1
    go_wp2_with fail
    (with_reducible refine (KF.out _).mono ?_)
    rintro e w2 ⟨rfl, hb2⟩
    have hbl2 := hbl1.trans (hb2.mono hbl1.size)
    have R2 := Lib.hid (R1.out.below hb2 R1.out.lt)
    obtain ⟨rt, r0, r1, rf0, rf1⟩ := R2.out
    clear hb2
    go_wp2
    first
      | refine bodyPost_ret (v := .tuple #[.agg #[.int .i64 p, .int .i64 q], .int .i64 0]) (by simp [results, Tryz.results87, go_sem, *]; done) rfl ⟨rfl, ?_⟩
      | refine bodyPost_ret (v := .tuple #[.agg #[.int .i64 0, .int .i64 0], .int .i64 5]) (by simp [results, Tryz.results87, go_sem, *]; done) rfl ⟨rfl, ?_⟩
    exact (hbl2.setCell (by simp) _).setCell (by simp) _
end Go.Proofs.YtlhdneeiikemjaaGreat
