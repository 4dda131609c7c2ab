/- The walk of fixed.Quotient where the dividend is the unit. -/
import Derived.Laws.StructEq
import Derived.Test.YtleigbbgilcckaaGreatHUo
import Derived.Test.YtleigbbgilcckaaGreatHWords
set_option linter.unusedVariables false
set_option linter.unusedSimpArgs false
namespace Go.Proofs.YtleigbbgilcckaaGreat
open Go.RowKit
theorem wab_neg {n : Int} (h : n < 0) : wab n = -n := if_pos h
theorem wab_pos {n : Int} (h : 0 ≤ n) : wab n = n := if_neg (by omega)
/-- whether a product is negative -/
def pneg (x n : Int) : Bool := ((decide (x < 0)) != (decide (n < 0))) && (decide (x ≠ 0)) && (decide (n ≠ 0))
theorem sgn_mul (x n : Int) : sgn (pneg x n) (wab x * wab n) = x * n := by
  rcases Int.lt_trichotomy x 0 with h | h | h <;> rcases Int.lt_trichotomy n 0 with g | g | g
  · rw [wab_neg h, wab_neg g]; simp [sgn, pneg, h, g, Int.neg_mul_neg]
  · subst g; simp [sgn, wab]
  · have : pneg x n = true := by simp only [pneg, bne_iff_ne, Bool.and_eq_true, decide_eq_true_eq, ne_eq, decide_eq_decide]; omega
    rw [this, wab_neg h, wab_pos (by omega)]; simp [sgn, Int.neg_mul]
  · subst h; simp [sgn, wab]
  · subst h; simp [sgn, wab]
  · subst h; simp [sgn, wab]
  · have : pneg x n = true := by simp only [pneg, bne_iff_ne, Bool.and_eq_true, decide_eq_true_eq, ne_eq, decide_eq_decide]; omega
    rw [this, wab_neg g, wab_pos (by omega)]; simp [sgn, Int.mul_neg]
  · subst g; simp [sgn, wab]
  · have h' : decide (x < 0) = false := decide_eq_false (by omega)
    have g' : decide (n < 0) = false := decide_eq_false (by omega)
    rw [wab_pos (by omega), wab_pos (by omega)]; simp [sgn, pneg, h', g']
theorem wab_le {n B : Int} (h0 : -B ≤ n) (h1 : n ≤ B) : wab n ≤ B := by unfold wab; split <;> omega
set_option maxHeartbeats 4000000 in
theorem wProduct_any (x n : Int) (w : World) (x0 : -2305843009213693952 ≤ x) (x1 : x ≤ 2305843009213693952) (n0 : -4503599627370496 ≤ n) (n1 : n ≤ 4503599627370496) :
    Calls Tryz.prog 111 #[.int .i64 x, .int .i64 n] w fun e w' => e = .returned (.tuple #[.agg #[.int .i64 (x * n / 1152921504606846976), .int .i64 (x * n % 1152921504606846976)], .int .i64 0]) ∧ Below w.heap.size w w' := by
  have hb : wab x * wab n ≤ 2305843009213693952 * 4503599627370496 := Int.mul_le_mul (wab_le x0 x1) (wab_le n0 n1) (wab_bd n) (by omega)
  have hb0 : 0 ≤ wab x * wab n := Int.mul_nonneg (wab_bd x) (wab_bd n)
  have ux : U64 (wab x) := ⟨wab_bd x, by have := wab_le x0 x1; omega⟩
  have un : U64 (wab n) := ⟨wab_bd n, by have := wab_le n0 n1; omega⟩
  have KX := Lib.hid (fun W => wabs_any x W (by omega) (by omega))
  have KN := Lib.hid (fun W => wabs_any n W (by omega) (by omega))
  have KM := Lib.hid (fun W => mul64 (wab x) (wab n) ux un W)
  have KS := Lib.hid (fun W => sizeWide_any (muH (wab x) (wab n)) (muL (wab x) (wab n)) (pneg x n) W (by unfold muH; omega) (by unfold muH; omega) (by unfold muL U64; omega))
  have he : muH (wab x) (wab n) * 18446744073709551616 + muL (wab x) (wab n) = wab x * wab n := by unfold muH muL; omega
  rw [he, sgn_mul] at KS
  clear he ux un hb hb0
  have hpn : pneg x n = (((decide (x < 0)) != (decide (n < 0))) && (decide (x ≠ 0)) && (decide (n ≠ 0))) := rfl
  generalize pneg x n = s at *
  generalize wab x = X at *
  generalize wab n = N at *
  generalize muH X N = H at *
  generalize muL X N = L at *
  generalize x * n / 1152921504606846976 = u at *
  generalize x * n % 1152921504606846976 = v at *
  have hx : ((decide (x < 0)) = true ∧ (x == 0) = false ∧ decide (x ≠ 0) = true) ∨ ((decide (x < 0)) = false ∧ (x == 0) = true ∧ decide (x ≠ 0) = false) ∨ ((decide (x < 0)) = false ∧ (x == 0) = false ∧ decide (x ≠ 0) = true) := by
    simp only [decide_eq_true_eq, decide_eq_false_iff_not, beq_iff_eq, beq_eq_false_iff_ne]; omega
  have hn : ((decide (n < 0)) = true ∧ (n == 0) = false ∧ decide (n ≠ 0) = true) ∨ ((decide (n < 0)) = false ∧ (n == 0) = true ∧ decide (n ≠ 0) = false) ∨ ((decide (n < 0)) = false ∧ (n == 0) = false ∧ decide (n ≠ 0) = true) := by
    simp only [decide_eq_true_eq, decide_eq_false_iff_not, beq_iff_eq, beq_eq_false_iff_ne]; omega
  rcases hx with ⟨p1, p2, p3⟩ | ⟨p1, p2, p3⟩ | ⟨p1, p2, p3⟩ <;> rcases hn with ⟨g1, g2, g3⟩ | ⟨g1, g2, g3⟩ | ⟨g1, g2, g3⟩ <;> rw [p1, p3, g1, g3] at hpn <;> simp only [bne_self_eq_false, Bool.and_true, Bool.and_false, Bool.true_and, Bool.false_and, Bool.and_self, Bool.true_bne, Bool.false_bne, Bool.bne_true, Bool.bne_false, Bool.not_true, Bool.not_false] at hpn <;> subst hpn
  all_goals
    first | (replace p3 := of_decide_eq_true p3) | clear p3
    first | (replace g3 := of_decide_eq_true g3) | clear g3
    clear x0 x1 n0 n1
    have p4 : (x != 0) = !(x == 0) := rfl
    have g4 : (n != 0) = !(n == 0) := rfl
    rw [p2] at p4
    rw [g2] at g4
    go_enter Tryz.func111, Tryz.ntmps111
    go_wp2_with first
      | (go_at_call 141; first | ((with_reducible refine (KX.out _).mono ?_); rintro e w1 ⟨rfl, rfl⟩) | ((with_reducible refine (KN.out _).mono ?_); rintro e w1 ⟨rfl, rfl⟩))
      | (go_at_call 140; (with_reducible refine (KM.out _).mono ?_); rintro e w1 ⟨rfl, rfl⟩)
      | fail
    (with_reducible refine (KS.out _).mono ?_)
    rintro e w1 ⟨rfl, hb1⟩
    have hbl1 := one_bl hb1
    have R1 := Lib.hid ((D2.new w 0 0 130).below hb1 (by simp))
    obtain ⟨rt, r0, r1, rf0, rf1⟩ := R1.out
    clear hb1
    go_wp2
    refine bodyPost_ret (v := .tuple #[.agg #[.int .i64 u, .int .i64 v], .int .i64 0]) (by simp [results, Tryz.results111, go_sem, *]) rfl ⟨rfl, ?_⟩
    exact (hbl1.setCell (by simp) _).setCell (by simp) _
end Go.Proofs.YtleigbbgilcckaaGreat
namespace Go.Proofs.YtleigbbgilcckaaGreat
open Go.RowKit
/-- a quotient of absolute values, rounded, with its sign -/
def qval (neg up : Bool) (Q R : Int) : Int := sgn neg (if (decide (0 < R) && (up != neg)) = true then Q + 1 else Q)
theorem ret_quo {a b : Int} (h : a = b) : Ending.returned (.tuple #[.int .i64 a, .int .i64 0]) = .returned (.tuple #[.int .i64 b, .int .i64 0]) := by rw [h]
theorem u64_neg (q : Int) (h0 : 0 ≤ q) (h1 : q ≤ 9223372036854775807) : IntKind.i64.wrap (IntKind.u64.wrap (-q)) = -q := by rw [IntKind.wrap_u64, IntKind.wrap_i64]; omega
set_option maxHeartbeats 8000000 in
theorem wquot_any (a b d : Int) (up : Bool) (w : World) (h0 : -1125899906842624 ≤ a) (h1 : a ≤ 1125899906842624) (b0 : 0 ≤ b) (b1 : b < 1152921504606846976) (d0 : 0 < wab d) (d1 : wab d < 4294967296)
    (hq : wab (a * 1152921504606846976 + b) ≤ 4611686018427387904 * wab d) :
    Calls Tryz.prog 143 #[.agg #[.int .i64 a, .int .i64 b], .int .i64 d, .bool up] w fun e w' => e = .returned (.tuple #[.int .i64 (qval (decide (a < 0) != decide (d < 0)) up (wab (a * 1152921504606846976 + b) / wab d) (wab (a * 1152921504606846976 + b) % wab d)), .int .i64 0]) ∧ Below w.heap.size w w' := by
  have hv : wvB a b = true := wvB_yes (by omega) (by omega) (by omega) (by omega)
  have KV := Lib.hid (fun W => wValid_any a b W)
  rw [hv] at KV
  have KZ := Lib.hid (fun W => sizeOf_any a b W h0 h1 b0 b1)
  have hdd : -4294967296 < d ∧ d < 4294967296 ∧ d ≠ 0 := by unfold wab at d0 d1; split at d0 <;> simp_all <;> omega
  have KA := Lib.hid (fun W => wabs_any d W (by omega) (by omega))
  have hV0 := wab_bd (a * 1152921504606846976 + b)
  generalize wab (a * 1152921504606846976 + b) = V at *
  have hz : (d == 0) = false := by rw [beq_eq_false_iff_ne]; exact hdd.2.2
  have hdd2 : -4294967296 < d ∧ d < 4294967296 := ⟨hdd.1, hdd.2.1⟩
  have hdne : d ≠ 0 := hdd.2.2
  clear hdd hv
  generalize wab d = D at *
  have hlt : V / 18446744073709551616 < D := by omega
  have hge : decide (D ≤ V / 18446744073709551616) = false := decide_eq_false (by omega)
  have KD := Lib.hid (fun W => div64 (V / 18446744073709551616) (V % 18446744073709551616) D W d0 d1 (by omega) hlt (by unfold U64; omega))
  have he : V / 18446744073709551616 * 18446744073709551616 + V % 18446744073709551616 = V := by omega
  rw [he] at KD
  have hQ0 : 0 ≤ V / D := Int.ediv_nonneg hV0 (by omega)
  have hQ1 : V / D ≤ 4611686018427387904 := by
    rw [Int.mul_comm] at hq
    exact Int.ediv_le_of_le_mul d0 (by rw [Int.mul_comm]; exact hq)
  have hR0 : 0 ≤ V % D := Int.emod_nonneg _ (by omega)
  clear he hq hlt
  generalize V / D = Q at *
  generalize V % D = R at *
  generalize V / 18446744073709551616 = H at *
  generalize V % 18446744073709551616 = L at *
  have w1 : IntKind.u64.wrap (Q + 1) = Q + 1 := by rw [IntKind.wrap_u64]; omega
  have w2 : (Q + 1 == 0) = false := by rw [beq_eq_false_iff_ne]; omega
  have w3 : decide (Q + 1 ≤ 9223372036854775808) = true := decide_eq_true (by omega)
  have w4 : decide (Q + 1 < 9223372036854775808) = true := decide_eq_true (by omega)
  have w5 : decide (Q ≤ 9223372036854775808) = true := decide_eq_true (by omega)
  have w6 : decide (Q < 9223372036854775808) = true := decide_eq_true (by omega)
  have w7 := u64_neg Q hQ0 (by omega)
  have w8 := u64_neg (Q + 1) (by omega) (by omega)
  have w9 : IntKind.i64.wrap Q = Q := IntWalk.i64_in _ (by omega)
  have w10 : IntKind.i64.wrap (Q + 1) = Q + 1 := IntWalk.i64_in _ (by omega)
  unfold qval
  generalize decide (a < 0) = s at *
  generalize hdn : decide (d < 0) = dn at *
  generalize hrp : decide (0 < R) = r at *
  clear hV0 hR0 V h0 h1 b0 b1
  cases s <;> cases dn <;> cases up <;> cases r
  all_goals
    simp only [sgn, Bool.true_and, Bool.false_and, bne_self_eq_false, Bool.bne_true, Bool.bne_false, Bool.not_true, Bool.not_false, eq_self, if_true, Bool.false_eq_true, if_false]
    go_enter Tryz.func143, Tryz.ntmps143
    go_wp2_with fail
    (with_reducible refine (KV.out _).mono ?_)
    rintro e v1 ⟨rfl, hb1⟩
    have hbl1 := one_bl hb1
    have R1 := Lib.hid ((D2.new w a b 130).below hb1 (by simp))
    obtain ⟨rt, r0, r1, rf0, rf1⟩ := R1.out
    clear hb1
    go_wp2_with fail
    (with_reducible refine (KZ.out _).mono ?_)
    rintro e v2 ⟨rfl, hb2⟩
    have hbl2 := hbl1.trans (hb2.mono (by omega))
    clear hb2
    go_wp2_with fail
    (with_reducible refine (KA.out _).mono ?_)
    rintro e v3 ⟨rfl, rfl⟩
    go_wp2_with fail
    (with_reducible refine (KD.out _).mono ?_)
    rintro e v4 ⟨rfl, n, rfl⟩
    go_wp2
    go_ret2
    have sz3 := hbl2.size
    refine ⟨ret_quo (by simp_all), ?_⟩
    repeat (first | exact Below.refl _ _ | assumption | refine bl_drew ?_ | refine bl_drewN ?_ _ | refine Below.setCell ?_ (by first | assumption | omega | (simp; done) | (simp; omega)) _ | refine Below.alloc ?_ (by first | assumption | omega | (simp; done) | (simp; omega)) _)
end Go.Proofs.YtleigbbgilcckaaGreat
namespace Go.Proofs.YtleigbbgilcckaaGreat
open Go.RowKit
/-- the quotient rounded down, or up -/
def qup (up : Bool) (V d : Int) : Int := qval (decide (V < 0) != decide (d < 0)) up (wab V / wab d) (wab V % wab d)
theorem qup_down {V d : Int} (hd : 0 < d) : qup false V d = V / d := by
  have e1 : decide (d < 0) = false := decide_eq_false (by omega)
  unfold qup qval sgn
  rw [e1, wab_pos (by omega : 0 ≤ d)]
  by_cases hV : V < 0
  · have e2 : decide (V < 0) = true := decide_eq_true hV
    rw [e2, wab_neg hV]
    simp only [Bool.bne_false, if_true]
    by_cases hr : 0 < -V % d
    · rw [decide_eq_true hr]
      simp only [Bool.bne_true, Bool.not_false, Bool.and_self, if_true]
      have h1 := Int.mul_ediv_add_emod (-V) d
      have h2 := Int.emod_lt_of_pos (-V) hd
      have h3 : V = (d - -V % d) + d * (-(-V / d + 1)) := by rw [Int.mul_neg, Int.mul_add, Int.mul_one]; omega
      conv => rhs; rw [h3]
      rw [Int.add_mul_ediv_left _ _ (by omega), Int.ediv_eq_zero_of_lt (a := d - -V % d) (b := d) (by omega) (by omega)]
      omega
    · rw [decide_eq_false hr]
      simp only [Bool.false_and, Bool.false_eq_true, if_false]
      have h1 := Int.mul_ediv_add_emod (-V) d
      have h4 := Int.emod_nonneg (-V) (by omega : d ≠ 0)
      have h3 : V = d * (-(-V / d)) := by rw [Int.mul_neg]; omega
      conv => rhs; rw [h3]
      rw [Int.mul_ediv_cancel_left _ (by omega)]
  · have e2 : decide (V < 0) = false := decide_eq_false hV
    rw [e2, wab_pos (by omega : 0 ≤ V)]
    simp
theorem qup_up {V d : Int} (hd : 0 < d) : qup true V d = -(-V / d) := by
  rw [← qup_down hd]
  unfold qup qval sgn
  have ed : decide (d < 0) = false := decide_eq_false (by omega)
  rw [ed]
  rcases Int.lt_trichotomy V 0 with h | h | h
  · have e2 : decide (V < 0) = true := decide_eq_true h
    have e3 : decide (-V < 0) = false := decide_eq_false (by omega)
    rw [e2, e3, wab_neg h, wab_pos (by omega : 0 ≤ -V)]
    simp
  · subst h; simp [wab]
  · have e2 : decide (V < 0) = false := decide_eq_false (by omega)
    have e3 : decide (-V < 0) = true := decide_eq_true (by omega)
    rw [e2, e3, wab_pos (by omega : 0 ≤ V), wab_neg (by omega : -V < 0), Int.neg_neg]
    simp
theorem quotU (V d : Int) (up : Bool) (h0 : -1298074214633706907132624082305024 ≤ V) (h1 : V ≤ 1298074214633706907132624082305024) (d0 : 0 < wab d) (d1 : wab d < 4294967296) (hq : wab V ≤ 4611686018427387904 * wab d) (w : World) :
    Calls Tryz.prog 143 #[.agg #[.int .i64 (V / 1152921504606846976), .int .i64 (V % 1152921504606846976)], .int .i64 d, .bool up] w fun e w' => e = .returned (.tuple #[.int .i64 (qup up V d), .int .i64 0]) ∧ Below w.heap.size w w' := by
  have hV : V / 1152921504606846976 * 1152921504606846976 + V % 1152921504606846976 = V := by omega
  have h := wquot_any (V / 1152921504606846976) (V % 1152921504606846976) d up w (by omega) (by omega) (by omega) (by omega) d0 d1 (by rw [hV]; exact hq)
  have hd : decide (V / 1152921504606846976 < 0) = decide (V < 0) := by rw [decide_eq_decide]; omega
  rw [hV, hd] at h
  exact h
set_option maxHeartbeats 1000000 in
theorem wFloor_any (V d : Int) (h0 : -1298074214633706907132624082305024 ≤ V) (h1 : V ≤ 1298074214633706907132624082305024) (d0 : 0 < wab d) (d1 : wab d < 4294967296) (hq : wab V ≤ 4611686018427387904 * wab d) (w : World) :
    Calls Tryz.prog 112 #[.agg #[.int .i64 (V / 1152921504606846976), .int .i64 (V % 1152921504606846976)], .int .i64 d] w fun e w' => e = .returned (.tuple #[.int .i64 (qup false V d), .int .i64 0]) ∧ Below w.heap.size w w' := by
  have KQ := Lib.hid (fun W => quotU V d false h0 h1 d0 d1 hq W)
  clear h0 h1 d0 d1 hq
  generalize qup false V d = q at *
  generalize V / 1152921504606846976 = a at *
  generalize V % 1152921504606846976 = b at *
  go_enter Tryz.func112, Tryz.ntmps112
  go_wp2_with fail
  (with_reducible refine (KQ.out _).mono ?_)
  rintro e v1 ⟨rfl, hb1⟩
  have hbl1 := one_bl hb1
  clear hb1
  go_wp2
  go_ret2
  exact ⟨rfl, hbl1⟩
set_option maxHeartbeats 1000000 in
theorem wCeil_any (V d : Int) (h0 : -1298074214633706907132624082305024 ≤ V) (h1 : V ≤ 1298074214633706907132624082305024) (d0 : 0 < wab d) (d1 : wab d < 4294967296) (hq : wab V ≤ 4611686018427387904 * wab d) (w : World) :
    Calls Tryz.prog 113 #[.agg #[.int .i64 (V / 1152921504606846976), .int .i64 (V % 1152921504606846976)], .int .i64 d] w fun e w' => e = .returned (.tuple #[.int .i64 (qup true V d), .int .i64 0]) ∧ Below w.heap.size w w' := by
  have KQ := Lib.hid (fun W => quotU V d true h0 h1 d0 d1 hq W)
  clear h0 h1 d0 d1 hq
  generalize qup true V d = q at *
  generalize V / 1152921504606846976 = a at *
  generalize V % 1152921504606846976 = b at *
  go_enter Tryz.func113, Tryz.ntmps113
  go_wp2_with fail
  (with_reducible refine (KQ.out _).mono ?_)
  rintro e v1 ⟨rfl, hb1⟩
  have hbl1 := one_bl hb1
  clear hb1
  go_wp2
  go_ret2
  exact ⟨rfl, hbl1⟩
set_option maxHeartbeats 2000000 in
theorem enclose_any (x n d : Int) (w : World) (x0 : -2305843009213693952 ≤ x) (x1 : x ≤ 2305843009213693952) (n0 : -4503599627370496 ≤ n) (n1 : n ≤ 4503599627370496) (h0 : -1298074214633706907132624082305024 ≤ x * n) (h1 : x * n ≤ 1298074214633706907132624082305024) (d0 : 0 < wab d) (d1 : wab d < 4294967296) (hq : wab (x * n) ≤ 4611686018427387904 * wab d) :
    Calls Tryz.prog 75 #[.int .i64 x, .int .i64 n, .int .i64 d] w fun e w' => e = .returned (.tuple #[.int .i64 (qup false (x * n) d), .int .i64 (qup true (x * n) d), .int .i64 0]) ∧ Below w.heap.size w w' := by
  have KP := Lib.hid (fun W => wProduct_any x n W x0 x1 n0 n1)
  have KF := Lib.hid (fun W => wFloor_any (x * n) d h0 h1 d0 d1 hq W)
  have KC := Lib.hid (fun W => wCeil_any (x * n) d h0 h1 d0 d1 hq W)
  clear x0 x1 n0 n1 h0 h1 d0 d1 hq
  generalize qup false (x * n) d = p at *
  generalize qup true (x * n) d = q at *
  generalize x * n / 1152921504606846976 = a at *
  generalize x * n % 1152921504606846976 = b at *
  go_enter Tryz.func75, Tryz.ntmps75
  go_wp2_with fail
  (with_reducible refine (KP.out _).mono ?_)
  rintro e v1 ⟨rfl, hb1⟩
  have sz1 := hb1.size
  go_wp2_with fail
  (with_reducible refine (KF.out _).mono ?_)
  rintro e v2 ⟨rfl, hb2⟩
  have hbl2 := hb1.trans (one_bl hb2 |>.mono (by omega))
  have R1 := Lib.hid ((D2.new v1 a b 130).below hb2 (by simp))
  obtain ⟨rt, r0, r1, rf0, rf1⟩ := R1.out
  clear hb2
  go_wp2_with fail
  (with_reducible refine (KC.out _).mono ?_)
  rintro e v3 ⟨rfl, hb3⟩
  have hbl3 := hbl2.trans (hb3.mono (by omega))
  clear hb3
  go_wp2
  refine bodyPost_ret (v := .tuple #[.int .i64 p, .int .i64 q, .int .i64 0]) (by simp [results, Tryz.results75, go_sem]) rfl ⟨rfl, hbl3⟩
end Go.Proofs.YtleigbbgilcckaaGreat
namespace Go.Proofs.YtleigbbgilcckaaGreat
open Go.RowKit
/-- which intervals of fixed are valid -/
def fvB (lo hi : Int) : Bool := decide (-2147483648 ≤ lo ∧ lo ≤ hi ∧ hi ≤ 2147483648)
set_option maxHeartbeats 1000000 in
theorem fValid_any (lo hi : Int) (w : World) : Calls Tryz.prog 110 #[.agg #[.int .i64 lo, .int .i64 hi]] w fun e w' => e = .returned (.bool (fvB lo hi)) ∧ Below w.heap.size w w' := by
  unfold fvB
  go_enter Tryz.func110, Tryz.ntmps110
  go_wp2
  all_goals
    go_ret
    refine ⟨ret_boolU (by first | (simp_all; done) | (simp_all; omega)), ?_⟩
    repeat (first | exact Below.refl _ _ | assumption | refine bl_drew ?_ | refine bl_drewN ?_ _ | refine Below.setCell ?_ (by first | assumption | omega | (simp; done) | (simp; omega)) _ | refine Below.alloc ?_ (by first | assumption | omega | (simp; done) | (simp; omega)) _)
set_option maxHeartbeats 1000000 in
theorem both_any (a b c d : Int) (w : World) (h : fvB a b = true) (g : fvB c d = true) : Calls Tryz.prog 72 #[.agg #[.int .i64 a, .int .i64 b], .agg #[.int .i64 c, .int .i64 d]] w fun e w' => e = .returned (.bool true) ∧ Below w.heap.size w w' := by
  have KA := Lib.hid (fun W => fValid_any a b W)
  have KB := Lib.hid (fun W => fValid_any c d W)
  rw [h] at KA
  rw [g] at KB
  clear h g
  go_enter Tryz.func72, Tryz.ntmps72
  go_wp2_with fail
  (with_reducible refine (KA.out _).mono ?_)
  rintro e w1 ⟨rfl, hb1⟩
  have hbl1 := two_bl hb1
  have O1 : Hid (D2 w1 (w.heap.size + 1) c d) := Lib.hid (by
    have := (D2.new (w.alloc (.cells #[.int .i64 a, .int .i64 b] 67)) c d 67).below hb1 (by simp)
    simpa using this)
  obtain ⟨ot, o0, o1, of0, of1⟩ := O1.out
  clear hb1
  go_wp2_with fail
  (with_reducible refine (KB.out _).mono ?_)
  rintro e w2 ⟨rfl, hb2⟩
  have hbl2 := hbl1.trans (hb2.mono hbl1.size)
  clear hb2
  go_wp2
  go_ret
  exact ⟨rfl, hbl2⟩
end Go.Proofs.YtleigbbgilcckaaGreat
namespace Go.Proofs.YtleigbbgilcckaaGreat
open Go.RowKit
theorem fv_iff {a b : Int} : fvB a b = true ↔ -2147483648 ≤ a ∧ a ≤ b ∧ b ≤ 2147483648 := by unfold fvB; exact decide_eq_true_iff
end Go.Proofs.YtleigbbgilcckaaGreat
namespace Go.Proofs.YtleigbbgilcckaaGreat
open Go.RowKit
theorem ret_bool {a b : Bool} (h : a = b) : Ending.returned (.bool a) = .returned (.bool b) := by rw [h]
def ceq (x y : Cl) : Bool := decide (x = y)
theorem ceq_true {x y : Cl} : ceq x y = true ↔ x = y := by simp [ceq]
theorem ceq_false {x y : Cl} : ceq x y = false ↔ x ≠ y := by simp [ceq]
abbrev cva (x : Cl) : Value := .agg #[.int .i64 x.1, .int .i64 x.2.1, .int .i64 x.2.2]
theorem equalInCell (a b c a' b' c' : Int) (w : World) : (Op.equalIn 10000 46 (.agg #[.int .i64 a, .int .i64 b, .int .i64 c]) (.agg #[.int .i64 a', .int .i64 b', .int .i64 c'])).run Tryz.prog w = .ok (ceq (a, b, c) (a', b', c')) w := by
  have u3 := Tryz.underlying3
  have a3 := Tryz.isAgg3
  have z3 := Tryz.sizeOf3
  have hS : Tryz.prog.underlying 46 = some (.struct (Tryz.prog.fieldsOf 46)) := by kernel_rfl
  have hp : Tryz.prog.stoodInHeld 46 = false := by kernel_rfl
  rw [show (10000 : Nat) = 9999 + 1 from rfl, run_equalIn_agg w 9999 46 _ _ hS hp]
  simp only [Program.fieldsOf, Tryz.underlying46]
  go_simp
  by_cases h1 : a = a' <;> by_cases h2 : b = b' <;> by_cases h3 : c = c' <;> simp [ceq, h1, h2, h3]
theorem neqCell (a b c a' b' c' : Int) (w : World) : (binOp .neq 46 (.agg #[.int .i64 a, .int .i64 b, .int .i64 c]) (.agg #[.int .i64 a', .int .i64 b', .int .i64 c'])).run Tryz.prog w = .ok (.bool (!(ceq (a, b, c) (a', b', c')))) w := by
  rw [run_neq_struct, equalInCell]; rfl
theorem eqlCell (a b c a' b' c' : Int) (w : World) : (binOp .eql 46 (.agg #[.int .i64 a, .int .i64 b, .int .i64 c]) (.agg #[.int .i64 a', .int .i64 b', .int .i64 c'])).run Tryz.prog w = .ok (.bool (ceq (a, b, c) (a', b', c'))) w := by
  rw [run_eql_struct, equalInCell]; rfl

def gt (L : List Cl) (k : Nat) : Cl := L.getD k (0, 0, 0)
theorem cvs_at (L : List Cl) (k : Nat) (hk : k < L.length) : (cvs L)[k * 3]? = some (.int .i64 (gt L k).1) ∧ (cvs L)[k * 3 + 1]? = some (.int .i64 (gt L k).2.1) ∧ (cvs L)[k * 3 + 2]? = some (.int .i64 (gt L k).2.2) := by
  induction L generalizing k with
  | nil => simp at hk
  | cons x r ih =>
    have hc : cvs (x :: r) = .int .i64 x.1 :: .int .i64 x.2.1 :: .int .i64 x.2.2 :: cvs r := rfl
    rw [hc]
    match k with
    | 0 => simp [gt]
    | k + 1 =>
      have := ih k (by simpa using hk)
      have e1 : (k + 1) * 3 = k * 3 + 3 := by omega
      have e2 : (k + 1) * 3 + 1 = (k * 3 + 1) + 3 := by omega
      have e3 : (k + 1) * 3 + 2 = (k * 3 + 2) + 3 := by omega
      rw [e3, e2, e1]
      simpa [gt] using this
theorem Reads.len {w : World} {B n : Nat} {A : Option Addr} {L : List Cl} (h : Reads w B 3 A n (cvs L)) : L.length = n := by
  have := h.1
  rw [cvs_length] at this
  omega
/-- the cells of one element -/
theorem Reads.elem {w : World} {B n : Nat} {A : Option Addr} {L : List Cl} (h : Reads w B 3 A n (cvs L)) {k : Nat} (hk : k < n) :
    ∃ b off, A = some ⟨b, off, none⟩ ∧ b < B ∧ w.cell? ⟨b, off + k * 3, none⟩ = some (.int .i64 (gt L k).1) ∧ w.cell? ⟨b, off + k * 3 + 1, none⟩ = some (.int .i64 (gt L k).2.1) ∧ w.cell? ⟨b, off + k * 3 + 2, none⟩ = some (.int .i64 (gt L k).2.2) := by
  have hl := h.len
  obtain ⟨ad, rfl, hb, hc⟩ := h.2 (by omega)
  obtain ⟨b, off, spot⟩ := ad
  obtain ⟨z1, _, _⟩ := cvs_at L 0 (by omega)
  have hspot : spot = none := by simpa [Addr.add] using World.cell?_spot (hc 0 _ (by simpa using z1))
  subst hspot
  obtain ⟨y1, y2, y3⟩ := cvs_at L k (by omega)
  refine ⟨b, off, rfl, hb, ?_, ?_, ?_⟩
  · have := hc _ _ y1; rw [Go.WideShapes.add_plain] at this; exact this
  · have := hc _ _ y2; rw [Go.WideShapes.add_plain] at this; exact this
  · have := hc _ _ y3; rw [Go.WideShapes.add_plain] at this; exact this

theorem take_eq_succ {L M : List Cl} {k : Nat} (h : L.take k = M.take k) (h1 : k < L.length) (h2 : k < M.length) (he : gt L k = gt M k) : L.take (k + 1) = M.take (k + 1) := by
  rw [List.take_succ_eq_append_getElem h1, List.take_succ_eq_append_getElem h2, h]
  simp [gt, h1, h2] at he
  rw [he]
theorem ne_of_gt {L M : List Cl} {k : Nat} (he : gt L k ≠ gt M k) : L ≠ M := fun h => he (by rw [h])

end Go.Proofs.YtleigbbgilcckaaGreat
namespace Go.Proofs.YtleigbbgilcckaaGreat
open Go.RowKit
theorem vint {k : IntKind} {a b : Int} (h : a = b) : Value.int k a = Value.int k b := by rw [h]
/-- whether a number may be the end of a range -/
def rchB (n : Int) : Bool := decide (-1099511627776 ≤ n ∧ n ≤ 1099511627776)
theorem factor_any (n : Int) (w : World) : Calls Tryz.prog 73 #[.int .i64 n] w fun e w' => e = .returned (.bool (rchB n)) ∧ w' = w := by
  unfold rchB
  go_enter Tryz.func73, Tryz.ntmps73
  go_wp2
  all_goals
    go_ret
    exact ⟨ret_bool (by first | rfl | (simp_all; done) | (simp_all; omega)), rfl⟩
theorem fzero_no (p q : Int) (w : World) (hp : 0 < p) : Calls Tryz.prog 74 #[.agg #[.int .i64 p, .int .i64 q]] w fun e w' => e = .returned (.bool false) ∧ Below w.heap.size w w' := by
  have d : decide (p ≤ 0) = false := decide_eq_false (by omega)
  go_enter Tryz.func74, Tryz.ntmps74
  go_wp2
  go_ret
  refine ⟨rfl, ?_⟩
  repeat (first | exact Below.refl _ _ | assumption | refine bl_drew ?_ | refine bl_drewN ?_ _ | refine Below.setCell ?_ (by first | assumption | omega | (simp; done) | (simp; omega)) _ | refine Below.alloc ?_ (by first | assumption | omega | (simp; done) | (simp; omega)) _)
/-- the least range of the quotients of the unit by an interval, times a number -/
def qtA (n p q : Int) : Int := min (1073741824 * n / p) (1073741824 * n / q)
def qtB (n p q : Int) : Int := max (-(-(1073741824 * n) / p)) (-(-(1073741824 * n) / q))
def qtG (n p q : Int) : Bool := rchB (qtA n p q) && rchB (qtB n p q)
def qtV (n p q : Int) : Value := if qtG n p q = true then .tuple #[.int .i64 (qtA n p q), .int .i64 (qtB n p q), .int .i64 0] else .tuple #[.int .i64 0, .int .i64 0, .int .i64 5]
theorem unit_bd {n : Int} (n0 : -16777216 ≤ n) (n1 : n ≤ 16777216) : -18014398509481984 ≤ 1073741824 * n ∧ 1073741824 * n ≤ 18014398509481984 := by omega
theorem encl_any (n d : Int) (w : World) (n0 : -16777216 ≤ n) (n1 : n ≤ 16777216) (d0 : 0 < d) (d1 : d ≤ 2147483648) :
    Calls Tryz.prog 75 #[.int .i64 1073741824, .int .i64 n, .int .i64 d] w fun e w' => e = .returned (.tuple #[.int .i64 (1073741824 * n / d), .int .i64 (-(-(1073741824 * n) / d)), .int .i64 0]) ∧ Below w.heap.size w w' := by
  obtain ⟨u0, u1⟩ := unit_bd n0 n1
  have hw : wab d = d := wab_pos (by omega)
  have h := enclose_any 1073741824 n d w (by omega) (by omega) (by omega) (by omega) (by omega) (by omega) (by omega) (by omega) (by
    rw [hw]
    have := wab_le (n := 1073741824 * n) (B := 18014398509481984) u0 u1
    omega)
  rw [qup_down d0, qup_up d0] at h
  exact h
/-- eight cells that are known: the pairs of ends -/
structure Q8 (W : World) (g : Nat) (p q : Int) : Prop where
  lt : g < W.heap.size
  c0 : W.cell? ⟨g, 0, none⟩ = some (.int .i64 1073741824)
  c1 : W.cell? ⟨g, 1, none⟩ = some (.int .i64 p)
  c2 : W.cell? ⟨g, 2, none⟩ = some (.int .i64 1073741824)
  c3 : W.cell? ⟨g, 3, none⟩ = some (.int .i64 q)
  c4 : W.cell? ⟨g, 4, none⟩ = some (.int .i64 1073741824)
  c5 : W.cell? ⟨g, 5, none⟩ = some (.int .i64 p)
  c6 : W.cell? ⟨g, 6, none⟩ = some (.int .i64 1073741824)
  c7 : W.cell? ⟨g, 7, none⟩ = some (.int .i64 q)
theorem Q8.below {W W' : World} {g B : Nat} {p q : Int} (h : Q8 W g p q) (hb : Below B W W') (hB : g < B) : Q8 W' g p q :=
  ⟨Nat.lt_of_lt_of_le h.lt hb.size, (hb.cell (p := ⟨g, 0, none⟩) hB).trans h.c0, (hb.cell (p := ⟨g, 1, none⟩) hB).trans h.c1, (hb.cell (p := ⟨g, 2, none⟩) hB).trans h.c2, (hb.cell (p := ⟨g, 3, none⟩) hB).trans h.c3,
   (hb.cell (p := ⟨g, 4, none⟩) hB).trans h.c4, (hb.cell (p := ⟨g, 5, none⟩) hB).trans h.c5, (hb.cell (p := ⟨g, 6, none⟩) hB).trans h.c6, (hb.cell (p := ⟨g, 7, none⟩) hB).trans h.c7⟩
theorem Q8.new (W : World) (p q : Int) (t : TypeId) : Q8 (W.alloc (.cells #[.int .i64 1073741824, .int .i64 p, .int .i64 1073741824, .int .i64 q, .int .i64 1073741824, .int .i64 p, .int .i64 1073741824, .int .i64 q] t)) W.heap.size p q :=
  ⟨by simp, by simp, by simp, by simp, by simp, by simp, by simp, by simp, by simp⟩
/-- the least, and the greatest, of the first numbers -/
def loK (x y : Int) : Nat → Int
  | 0 => 0
  | 1 => x
  | _ => min x y
def hiK (x y : Int) : Nat → Int
  | 0 => 0
  | 1 => x
  | _ => max x y
set_option maxHeartbeats 4000000 in
set_option maxRecDepth 100000 in
theorem Quotient_any (n p q : Int) (w : World) (n0 : -16777216 ≤ n) (n1 : n ≤ 16777216) (p0 : 0 < p) (pq : p ≤ q) (q1 : q ≤ 1073741824) :
    Calls Tryz.prog 36 #[.agg #[.int .i64 1073741824, .int .i64 1073741824], .agg #[.int .i64 p, .int .i64 q], .int .i64 n] w fun e w' => e = .returned (qtV n p q) ∧ Below w.heap.size w w' := by
  have KB := Lib.hid (fun W => both_any 1073741824 1073741824 p q W (by rw [fv_iff]; omega) (by rw [fv_iff]; omega))
  have KF := Lib.hid (fun W => factor_any n W)
  have hf : rchB n = true := by unfold rchB; rw [decide_eq_true_iff]; omega
  rw [hf] at KF
  have KZ := Lib.hid (fun W => fzero_no p q W p0)
  have KP := Lib.hid (fun W => encl_any n p W n0 n1 p0 (by omega))
  have KQ := Lib.hid (fun W => encl_any n q W n0 n1 (by omega) (by omega))
  have KA := Lib.hid (fun W => factor_any (qtA n p q) W)
  have KC := Lib.hid (fun W => factor_any (qtB n p q) W)
  have ha : qtA n p q = min (1073741824 * n / p) (1073741824 * n / q) := rfl
  have hb : qtB n p q = max (-(-(1073741824 * n) / p)) (-(-(1073741824 * n) / q)) := rfl
  unfold qtV qtG
  generalize 1073741824 * n / p = x at *
  generalize 1073741824 * n / q = y at *
  generalize -(-(1073741824 * n) / p) = u at *
  generalize -(-(1073741824 * n) / q) = v at *
  generalize qtA n p q = A at *
  generalize qtB n p q = C at *
  clear hf n0 n1 p0 pq q1
  obtain ⟨R, hR⟩ : ∃ R, (if (rchB A && rchB C) = true then Value.tuple #[.int .i64 A, .int .i64 C, .int .i64 0] else .tuple #[.int .i64 0, .int .i64 0, .int .i64 5]) = R := ⟨_, rfl⟩
  rw [hR]
  have HR := Lib.hid hR
  clear hR
  go_enter Tryz.func36, Tryz.ntmps36
  go_wp2_with fail
  (with_reducible refine (KB.out _).mono ?_)
  rintro e w1 ⟨rfl, hb1⟩
  have hbl1 := two_bl hb1
  have hz1 := two_lt hb1
  have X1 := Lib.hid (((D2.new w 1073741824 1073741824 67).alloc (.cells #[.int .i64 p, .int .i64 q] 67)).below hb1 (by simp; omega))
  have Y1 := Lib.hid ((D2.new (w.alloc (.cells #[.int .i64 1073741824, .int .i64 1073741824] 67)) p q 67).below hb1 (by simp))
  simp only [World.size_alloc] at Y1
  clear hb1
  go_wp2_with fail
  (with_reducible refine (KF.out _).mono ?_)
  rintro e w2 ⟨rfl, rfl⟩
  obtain ⟨yt, y0, y1, yf0, yf1⟩ := Y1.out
  go_wp2_with fail
  (with_reducible refine (KZ.out _).mono ?_)
  rintro e w3 ⟨rfl, hb3⟩
  have hbl3 := hbl1.trans (hb3.mono hbl1.size)
  have X3 := Lib.hid (X1.out.below hb3 X1.out.lt)
  have Y3 := Lib.hid (Y1.out.below hb3 Y1.out.lt)
  clear yt y0 y1 yf0 yf1 hb3
  obtain ⟨yt, y0, y1, yf0, yf1⟩ := Y3.out
  obtain ⟨xt, x0, x1, xf0, xf1⟩ := X3.out
  go_wp2_with fail
  go_loopw [9, 10, 50] (fun s9 s10 s50 wr => ∃ k : Nat, k ≤ 4 ∧ s50 = .int .i64 k ∧ s9 = .int .i64 (loK x y k) ∧ s10 = .int .i64 (hiK u v k) ∧ Q8 wr w3.heap.size p q ∧ Below w.heap.size w wr) (fun _ _ s50 _ => 4 - (intOf s50).toNat)
  case atStart => exact ⟨0, by omega, rfl, rfl, rfl, Q8.new w3 p q _, hbl3.alloc hbl3.size _⟩
  case round =>
    obtain ⟨k, hk, rfl, rfl, rfl, hQ, hbr⟩ := hrel
    have HQ := Lib.hid hQ
    obtain ⟨qt, c0, c1, c2, c3, c4, c5, c6, c7⟩ := hQ
    have hcase : k = 0 ∨ k = 1 ∨ k = 2 ∨ k = 3 ∨ k = 4 := by omega
    clear hk
    rcases hcase with rfl | rfl | rfl | rfl | rfl
    case inr.inr.inr.inr =>
      have e1 : loK x y 4 = A := ha.symm
      have e2 : hiK u v 4 = C := hb.symm
      rw [e1, e2]
      clear e1 e2 ha hb c0 c1 c2 c3 c4 c5 c6 c7
      generalize rchB A = s at *
      generalize rchB C = t at *
      cases s with
      | false =>
        have HE := Lib.hid HR.out.symm
        clear HR
        go_wp2_with (go_at_call 73; (with_reducible refine (KA.out _).mono ?_); rintro e w9 ⟨rfl, rfl⟩)
        go_ret3
        exact ⟨by rw [HE.out]; rfl, hbr⟩
      | true =>
        cases t
        all_goals
          have HE := Lib.hid HR.out.symm
          clear HR
          go_wp2_with (go_at_call 73; (first | (with_reducible refine (KA.out _).mono ?_) | (with_reducible refine (KC.out _).mono ?_)); rintro e w9 ⟨rfl, rfl⟩)
          go_ret3
          exact ⟨by rw [HE.out]; rfl, hbr⟩
    all_goals
      go_wp2_with fail
      (first | (with_reducible refine (KP.out _).mono ?_) | (with_reducible refine (KQ.out _).mono ?_))
      rintro e w9 ⟨rfl, hb9⟩
      have hbl9 := hbr.trans ((one_bl hb9).mono hbr.size)
      have Q9 := Lib.hid (HQ.out.below (one_bl hb9) HQ.out.lt)
      clear hb9 c0 c1 c2 c3 c4 c5 c6 c7
      go_wp2
      go_roundw
      case rel =>
        first
          | exact ⟨1, by omega, by go_num, by simp [loK], by simp [hiK], Q9.out, hbl9⟩
          | exact ⟨2, by omega, by go_num, by simp [loK], by simp [hiK], Q9.out, hbl9⟩
          | exact ⟨3, by omega, by go_num, vint (by show min (min x y) x = min x y; omega), vint (by show max (max u v) u = max u v; omega), Q9.out, hbl9⟩
          | exact ⟨4, by omega, by go_num, vint (by show min (min x y) y = min x y; omega), vint (by show max (max u v) v = max u v; omega), Q9.out, hbl9⟩
          | (trace_state; fail)
      case measure => simp [intOf]
end Go.Proofs.YtleigbbgilcckaaGreat
