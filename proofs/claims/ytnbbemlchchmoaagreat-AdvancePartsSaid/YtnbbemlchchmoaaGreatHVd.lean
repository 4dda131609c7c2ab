/- Comparison of cells, and the walk of the reference's Same. -/
import Derived.Laws.StructEq
import Derived.Test.YtnbbemlchchmoaaGreatHUo
import Derived.Test.YtnbbemlchchmoaaGreatHWords
set_option linter.unusedVariables false
set_option linter.unusedSimpArgs false
namespace Go.Proofs.YtnbbemlchchmoaaGreat
open Go.RowKit
theorem wab_neg {n : Int} (h : n < 0) : wab n = -n := if_pos h
theorem wab_pos {n : Int} (h : 0 ≤ n) : wab n = n := if_neg (by omega)
/-- whether a product is negative -/
def pneg (x n : Int) : Bool := ((decide (x < 0)) != (decide (n < 0))) && (decide (x ≠ 0)) && (decide (n ≠ 0))
theorem sgn_mul (x n : Int) : sgn (pneg x n) (wab x * wab n) = x * n := by
  rcases Int.lt_trichotomy x 0 with h | h | h <;> rcases Int.lt_trichotomy n 0 with g | g | g
  · rw [wab_neg h, wab_neg g]; simp [sgn, pneg, h, g, Int.neg_mul_neg]
  · subst g; simp [sgn, wab]
  · have : pneg x n = true := by simp only [pneg, bne_iff_ne, Bool.and_eq_true, decide_eq_true_eq, ne_eq, decide_eq_decide]; omega
    rw [this, wab_neg h, wab_pos (by omega)]; simp [sgn, Int.neg_mul]
  · subst h; simp [sgn, wab]
  · subst h; simp [sgn, wab]
  · subst h; simp [sgn, wab]
  · have : pneg x n = true := by simp only [pneg, bne_iff_ne, Bool.and_eq_true, decide_eq_true_eq, ne_eq, decide_eq_decide]; omega
    rw [this, wab_neg g, wab_pos (by omega)]; simp [sgn, Int.mul_neg]
  · subst g; simp [sgn, wab]
  · have h' : decide (x < 0) = false := decide_eq_false (by omega)
    have g' : decide (n < 0) = false := decide_eq_false (by omega)
    rw [wab_pos (by omega), wab_pos (by omega)]; simp [sgn, pneg, h', g']
theorem wab_le {n B : Int} (h0 : -B ≤ n) (h1 : n ≤ B) : wab n ≤ B := by unfold wab; split <;> omega
set_option maxHeartbeats 4000000 in
theorem wProduct_any (x n : Int) (w : World) (x0 : -2305843009213693952 ≤ x) (x1 : x ≤ 2305843009213693952) (n0 : -4503599627370496 ≤ n) (n1 : n ≤ 4503599627370496) :
    Calls Tryz.prog 257 #[.int .i64 x, .int .i64 n] w fun e w' => e = .returned (.tuple #[.agg #[.int .i64 (x * n / 1152921504606846976), .int .i64 (x * n % 1152921504606846976)], .int .i64 0]) ∧ Below w.heap.size w w' := by
  have hb : wab x * wab n ≤ 2305843009213693952 * 4503599627370496 := Int.mul_le_mul (wab_le x0 x1) (wab_le n0 n1) (wab_bd n) (by omega)
  have hb0 : 0 ≤ wab x * wab n := Int.mul_nonneg (wab_bd x) (wab_bd n)
  have ux : U64 (wab x) := ⟨wab_bd x, by have := wab_le x0 x1; omega⟩
  have un : U64 (wab n) := ⟨wab_bd n, by have := wab_le n0 n1; omega⟩
  have KX := Lib.hid (fun W => wabs_any x W (by omega) (by omega))
  have KN := Lib.hid (fun W => wabs_any n W (by omega) (by omega))
  have KM := Lib.hid (fun W => mul64 (wab x) (wab n) ux un W)
  have KS := Lib.hid (fun W => sizeWide_any (muH (wab x) (wab n)) (muL (wab x) (wab n)) (pneg x n) W (by unfold muH; omega) (by unfold muH; omega) (by unfold muL U64; omega))
  have he : muH (wab x) (wab n) * 18446744073709551616 + muL (wab x) (wab n) = wab x * wab n := by unfold muH muL; omega
  rw [he, sgn_mul] at KS
  clear he ux un hb hb0
  have hpn : pneg x n = (((decide (x < 0)) != (decide (n < 0))) && (decide (x ≠ 0)) && (decide (n ≠ 0))) := rfl
  generalize pneg x n = s at *
  generalize wab x = X at *
  generalize wab n = N at *
  generalize muH X N = H at *
  generalize muL X N = L at *
  generalize x * n / 1152921504606846976 = u at *
  generalize x * n % 1152921504606846976 = v at *
  have hx : ((decide (x < 0)) = true ∧ (x == 0) = false ∧ decide (x ≠ 0) = true) ∨ ((decide (x < 0)) = false ∧ (x == 0) = true ∧ decide (x ≠ 0) = false) ∨ ((decide (x < 0)) = false ∧ (x == 0) = false ∧ decide (x ≠ 0) = true) := by
    simp only [decide_eq_true_eq, decide_eq_false_iff_not, beq_iff_eq, beq_eq_false_iff_ne]; omega
  have hn : ((decide (n < 0)) = true ∧ (n == 0) = false ∧ decide (n ≠ 0) = true) ∨ ((decide (n < 0)) = false ∧ (n == 0) = true ∧ decide (n ≠ 0) = false) ∨ ((decide (n < 0)) = false ∧ (n == 0) = false ∧ decide (n ≠ 0) = true) := by
    simp only [decide_eq_true_eq, decide_eq_false_iff_not, beq_iff_eq, beq_eq_false_iff_ne]; omega
  rcases hx with ⟨p1, p2, p3⟩ | ⟨p1, p2, p3⟩ | ⟨p1, p2, p3⟩ <;> rcases hn with ⟨g1, g2, g3⟩ | ⟨g1, g2, g3⟩ | ⟨g1, g2, g3⟩ <;> rw [p1, p3, g1, g3] at hpn <;> simp only [bne_self_eq_false, Bool.and_true, Bool.and_false, Bool.true_and, Bool.false_and, Bool.and_self, Bool.true_bne, Bool.false_bne, Bool.bne_true, Bool.bne_false, Bool.not_true, Bool.not_false] at hpn <;> subst hpn
  all_goals
    first | (replace p3 := of_decide_eq_true p3) | clear p3
    first | (replace g3 := of_decide_eq_true g3) | clear g3
    clear x0 x1 n0 n1
    have p4 : (x != 0) = !(x == 0) := rfl
    have g4 : (n != 0) = !(n == 0) := rfl
    rw [p2] at p4
    rw [g2] at g4
    go_enter Tryz.func257, Tryz.ntmps257
    go_wp2_with first
      | (go_at_call 272; first | ((with_reducible refine (KX.out _).mono ?_); rintro e w1 ⟨rfl, rfl⟩) | ((with_reducible refine (KN.out _).mono ?_); rintro e w1 ⟨rfl, rfl⟩))
      | (go_at_call 271; (with_reducible refine (KM.out _).mono ?_); rintro e w1 ⟨rfl, rfl⟩)
      | fail
    (with_reducible refine (KS.out _).mono ?_)
    rintro e w1 ⟨rfl, hb1⟩
    have hbl1 := one_bl hb1
    have R1 := Lib.hid ((D2.new w 0 0 242).below hb1 (by simp))
    obtain ⟨rt, r0, r1, rf0, rf1⟩ := R1.out
    clear hb1
    go_wp2
    refine bodyPost_ret (v := .tuple #[.agg #[.int .i64 u, .int .i64 v], .int .i64 0]) (by simp [results, Tryz.results257, go_sem, *]) rfl ⟨rfl, ?_⟩
    exact (hbl1.setCell (by simp) _).setCell (by simp) _
end Go.Proofs.YtnbbemlchchmoaaGreat
namespace Go.Proofs.YtnbbemlchchmoaaGreat
open Go.RowKit
/-- a quotient of absolute values, rounded, with its sign -/
def qval (neg up : Bool) (Q R : Int) : Int := sgn neg (if (decide (0 < R) && (up != neg)) = true then Q + 1 else Q)
theorem ret_quo {a b : Int} (h : a = b) : Ending.returned (.tuple #[.int .i64 a, .int .i64 0]) = .returned (.tuple #[.int .i64 b, .int .i64 0]) := by rw [h]
theorem u64_neg (q : Int) (h0 : 0 ≤ q) (h1 : q ≤ 9223372036854775807) : IntKind.i64.wrap (IntKind.u64.wrap (-q)) = -q := by rw [IntKind.wrap_u64, IntKind.wrap_i64]; omega
set_option maxHeartbeats 8000000 in
theorem wquot_any (a b d : Int) (up : Bool) (w : World) (h0 : -1125899906842624 ≤ a) (h1 : a ≤ 1125899906842624) (b0 : 0 ≤ b) (b1 : b < 1152921504606846976) (d0 : 0 < wab d) (d1 : wab d < 4294967296)
    (hq : wab (a * 1152921504606846976 + b) ≤ 4611686018427387904 * wab d) :
    Calls Tryz.prog 274 #[.agg #[.int .i64 a, .int .i64 b], .int .i64 d, .bool up] w fun e w' => e = .returned (.tuple #[.int .i64 (qval (decide (a < 0) != decide (d < 0)) up (wab (a * 1152921504606846976 + b) / wab d) (wab (a * 1152921504606846976 + b) % wab d)), .int .i64 0]) ∧ Below w.heap.size w w' := by
  have hv : wvB a b = true := wvB_yes (by omega) (by omega) (by omega) (by omega)
  have KV := Lib.hid (fun W => wValid_any a b W)
  rw [hv] at KV
  have KZ := Lib.hid (fun W => sizeOf_any a b W h0 h1 b0 b1)
  have hdd : -4294967296 < d ∧ d < 4294967296 ∧ d ≠ 0 := by unfold wab at d0 d1; split at d0 <;> simp_all <;> omega
  have KA := Lib.hid (fun W => wabs_any d W (by omega) (by omega))
  have hV0 := wab_bd (a * 1152921504606846976 + b)
  generalize wab (a * 1152921504606846976 + b) = V at *
  have hz : (d == 0) = false := by rw [beq_eq_false_iff_ne]; exact hdd.2.2
  have hdd2 : -4294967296 < d ∧ d < 4294967296 := ⟨hdd.1, hdd.2.1⟩
  have hdne : d ≠ 0 := hdd.2.2
  clear hdd hv
  generalize wab d = D at *
  have hlt : V / 18446744073709551616 < D := by omega
  have hge : decide (D ≤ V / 18446744073709551616) = false := decide_eq_false (by omega)
  have KD := Lib.hid (fun W => div64 (V / 18446744073709551616) (V % 18446744073709551616) D W d0 d1 (by omega) hlt (by unfold U64; omega))
  have he : V / 18446744073709551616 * 18446744073709551616 + V % 18446744073709551616 = V := by omega
  rw [he] at KD
  have hQ0 : 0 ≤ V / D := Int.ediv_nonneg hV0 (by omega)
  have hQ1 : V / D ≤ 4611686018427387904 := by
    rw [Int.mul_comm] at hq
    exact Int.ediv_le_of_le_mul d0 (by rw [Int.mul_comm]; exact hq)
  have hR0 : 0 ≤ V % D := Int.emod_nonneg _ (by omega)
  clear he hq hlt
  generalize V / D = Q at *
  generalize V % D = R at *
  generalize V / 18446744073709551616 = H at *
  generalize V % 18446744073709551616 = L at *
  have w1 : IntKind.u64.wrap (Q + 1) = Q + 1 := by rw [IntKind.wrap_u64]; omega
  have w2 : (Q + 1 == 0) = false := by rw [beq_eq_false_iff_ne]; omega
  have w3 : decide (Q + 1 ≤ 9223372036854775808) = true := decide_eq_true (by omega)
  have w4 : decide (Q + 1 < 9223372036854775808) = true := decide_eq_true (by omega)
  have w5 : decide (Q ≤ 9223372036854775808) = true := decide_eq_true (by omega)
  have w6 : decide (Q < 9223372036854775808) = true := decide_eq_true (by omega)
  have w7 := u64_neg Q hQ0 (by omega)
  have w8 := u64_neg (Q + 1) (by omega) (by omega)
  have w9 : IntKind.i64.wrap Q = Q := IntWalk.i64_in _ (by omega)
  have w10 : IntKind.i64.wrap (Q + 1) = Q + 1 := IntWalk.i64_in _ (by omega)
  unfold qval
  generalize decide (a < 0) = s at *
  generalize hdn : decide (d < 0) = dn at *
  generalize hrp : decide (0 < R) = r at *
  clear hV0 hR0 V h0 h1 b0 b1
  cases s <;> cases dn <;> cases up <;> cases r
  all_goals
    simp only [sgn, Bool.true_and, Bool.false_and, bne_self_eq_false, Bool.bne_true, Bool.bne_false, Bool.not_true, Bool.not_false, eq_self, if_true, Bool.false_eq_true, if_false]
    go_enter Tryz.func274, Tryz.ntmps274
    go_wp2_with fail
    (with_reducible refine (KV.out _).mono ?_)
    rintro e v1 ⟨rfl, hb1⟩
    have hbl1 := one_bl hb1
    have R1 := Lib.hid ((D2.new w a b 242).below hb1 (by simp))
    obtain ⟨rt, r0, r1, rf0, rf1⟩ := R1.out
    clear hb1
    go_wp2_with fail
    (with_reducible refine (KZ.out _).mono ?_)
    rintro e v2 ⟨rfl, hb2⟩
    have hbl2 := hbl1.trans (hb2.mono (by omega))
    clear hb2
    go_wp2_with fail
    (with_reducible refine (KA.out _).mono ?_)
    rintro e v3 ⟨rfl, rfl⟩
    go_wp2_with fail
    (with_reducible refine (KD.out _).mono ?_)
    rintro e v4 ⟨rfl, n, rfl⟩
    go_wp2
    go_ret2
    have sz3 := hbl2.size
    refine ⟨ret_quo (by simp_all), ?_⟩
    repeat (first | exact Below.refl _ _ | assumption | refine bl_drew ?_ | refine bl_drewN ?_ _ | refine Below.setCell ?_ (by first | assumption | omega | (simp; done) | (simp; omega)) _ | refine Below.alloc ?_ (by first | assumption | omega | (simp; done) | (simp; omega)) _)
end Go.Proofs.YtnbbemlchchmoaaGreat
namespace Go.Proofs.YtnbbemlchchmoaaGreat
open Go.RowKit
/-- the quotient rounded down, or up -/
def qup (up : Bool) (V d : Int) : Int := qval (decide (V < 0) != decide (d < 0)) up (wab V / wab d) (wab V % wab d)
theorem qup_down {V d : Int} (hd : 0 < d) : qup false V d = V / d := by
  have e1 : decide (d < 0) = false := decide_eq_false (by omega)
  unfold qup qval sgn
  rw [e1, wab_pos (by omega : 0 ≤ d)]
  by_cases hV : V < 0
  · have e2 : decide (V < 0) = true := decide_eq_true hV
    rw [e2, wab_neg hV]
    simp only [Bool.bne_false, if_true]
    by_cases hr : 0 < -V % d
    · rw [decide_eq_true hr]
      simp only [Bool.bne_true, Bool.not_false, Bool.and_self, if_true]
      have h1 := Int.mul_ediv_add_emod (-V) d
      have h2 := Int.emod_lt_of_pos (-V) hd
      have h3 : V = (d - -V % d) + d * (-(-V / d + 1)) := by rw [Int.mul_neg, Int.mul_add, Int.mul_one]; omega
      conv => rhs; rw [h3]
      rw [Int.add_mul_ediv_left _ _ (by omega), Int.ediv_eq_zero_of_lt (a := d - -V % d) (b := d) (by omega) (by omega)]
      omega
    · rw [decide_eq_false hr]
      simp only [Bool.false_and, Bool.false_eq_true, if_false]
      have h1 := Int.mul_ediv_add_emod (-V) d
      have h4 := Int.emod_nonneg (-V) (by omega : d ≠ 0)
      have h3 : V = d * (-(-V / d)) := by rw [Int.mul_neg]; omega
      conv => rhs; rw [h3]
      rw [Int.mul_ediv_cancel_left _ (by omega)]
  · have e2 : decide (V < 0) = false := decide_eq_false hV
    rw [e2, wab_pos (by omega : 0 ≤ V)]
    simp
theorem qup_up {V d : Int} (hd : 0 < d) : qup true V d = -(-V / d) := by
  rw [← qup_down hd]
  unfold qup qval sgn
  have ed : decide (d < 0) = false := decide_eq_false (by omega)
  rw [ed]
  rcases Int.lt_trichotomy V 0 with h | h | h
  · have e2 : decide (V < 0) = true := decide_eq_true h
    have e3 : decide (-V < 0) = false := decide_eq_false (by omega)
    rw [e2, e3, wab_neg h, wab_pos (by omega : 0 ≤ -V)]
    simp
  · subst h; simp [wab]
  · have e2 : decide (V < 0) = false := decide_eq_false (by omega)
    have e3 : decide (-V < 0) = true := decide_eq_true (by omega)
    rw [e2, e3, wab_pos (by omega : 0 ≤ V), wab_neg (by omega : -V < 0), Int.neg_neg]
    simp
theorem quotU (V d : Int) (up : Bool) (h0 : -1298074214633706907132624082305024 ≤ V) (h1 : V ≤ 1298074214633706907132624082305024) (d0 : 0 < wab d) (d1 : wab d < 4294967296) (hq : wab V ≤ 4611686018427387904 * wab d) (w : World) :
    Calls Tryz.prog 274 #[.agg #[.int .i64 (V / 1152921504606846976), .int .i64 (V % 1152921504606846976)], .int .i64 d, .bool up] w fun e w' => e = .returned (.tuple #[.int .i64 (qup up V d), .int .i64 0]) ∧ Below w.heap.size w w' := by
  have hV : V / 1152921504606846976 * 1152921504606846976 + V % 1152921504606846976 = V := by omega
  have h := wquot_any (V / 1152921504606846976) (V % 1152921504606846976) d up w (by omega) (by omega) (by omega) (by omega) d0 d1 (by rw [hV]; exact hq)
  have hd : decide (V / 1152921504606846976 < 0) = decide (V < 0) := by rw [decide_eq_decide]; omega
  rw [hV, hd] at h
  exact h
set_option maxHeartbeats 1000000 in
theorem wFloor_any (V d : Int) (h0 : -1298074214633706907132624082305024 ≤ V) (h1 : V ≤ 1298074214633706907132624082305024) (d0 : 0 < wab d) (d1 : wab d < 4294967296) (hq : wab V ≤ 4611686018427387904 * wab d) (w : World) :
    Calls Tryz.prog 258 #[.agg #[.int .i64 (V / 1152921504606846976), .int .i64 (V % 1152921504606846976)], .int .i64 d] w fun e w' => e = .returned (.tuple #[.int .i64 (qup false V d), .int .i64 0]) ∧ Below w.heap.size w w' := by
  have KQ := Lib.hid (fun W => quotU V d false h0 h1 d0 d1 hq W)
  clear h0 h1 d0 d1 hq
  generalize qup false V d = q at *
  generalize V / 1152921504606846976 = a at *
  generalize V % 1152921504606846976 = b at *
  go_enter Tryz.func258, Tryz.ntmps258
  go_wp2_with fail
  (with_reducible refine (KQ.out _).mono ?_)
  rintro e v1 ⟨rfl, hb1⟩
  have hbl1 := one_bl hb1
  clear hb1
  go_wp2
  go_ret2
  exact ⟨rfl, hbl1⟩
set_option maxHeartbeats 1000000 in
theorem wCeil_any (V d : Int) (h0 : -1298074214633706907132624082305024 ≤ V) (h1 : V ≤ 1298074214633706907132624082305024) (d0 : 0 < wab d) (d1 : wab d < 4294967296) (hq : wab V ≤ 4611686018427387904 * wab d) (w : World) :
    Calls Tryz.prog 259 #[.agg #[.int .i64 (V / 1152921504606846976), .int .i64 (V % 1152921504606846976)], .int .i64 d] w fun e w' => e = .returned (.tuple #[.int .i64 (qup true V d), .int .i64 0]) ∧ Below w.heap.size w w' := by
  have KQ := Lib.hid (fun W => quotU V d true h0 h1 d0 d1 hq W)
  clear h0 h1 d0 d1 hq
  generalize qup true V d = q at *
  generalize V / 1152921504606846976 = a at *
  generalize V % 1152921504606846976 = b at *
  go_enter Tryz.func259, Tryz.ntmps259
  go_wp2_with fail
  (with_reducible refine (KQ.out _).mono ?_)
  rintro e v1 ⟨rfl, hb1⟩
  have hbl1 := one_bl hb1
  clear hb1
  go_wp2
  go_ret2
  exact ⟨rfl, hbl1⟩
set_option maxHeartbeats 2000000 in
theorem enclose_any (x n d : Int) (w : World) (x0 : -2305843009213693952 ≤ x) (x1 : x ≤ 2305843009213693952) (n0 : -4503599627370496 ≤ n) (n1 : n ≤ 4503599627370496) (h0 : -1298074214633706907132624082305024 ≤ x * n) (h1 : x * n ≤ 1298074214633706907132624082305024) (d0 : 0 < wab d) (d1 : wab d < 4294967296) (hq : wab (x * n) ≤ 4611686018427387904 * wab d) :
    Calls Tryz.prog 235 #[.int .i64 x, .int .i64 n, .int .i64 d] w fun e w' => e = .returned (.tuple #[.int .i64 (qup false (x * n) d), .int .i64 (qup true (x * n) d), .int .i64 0]) ∧ Below w.heap.size w w' := by
  have KP := Lib.hid (fun W => wProduct_any x n W x0 x1 n0 n1)
  have KF := Lib.hid (fun W => wFloor_any (x * n) d h0 h1 d0 d1 hq W)
  have KC := Lib.hid (fun W => wCeil_any (x * n) d h0 h1 d0 d1 hq W)
  clear x0 x1 n0 n1 h0 h1 d0 d1 hq
  generalize qup false (x * n) d = p at *
  generalize qup true (x * n) d = q at *
  generalize x * n / 1152921504606846976 = a at *
  generalize x * n % 1152921504606846976 = b at *
  go_enter Tryz.func235, Tryz.ntmps235
  go_wp2_with fail
  (with_reducible refine (KP.out _).mono ?_)
  rintro e v1 ⟨rfl, hb1⟩
  have sz1 := hb1.size
  go_wp2_with fail
  (with_reducible refine (KF.out _).mono ?_)
  rintro e v2 ⟨rfl, hb2⟩
  have hbl2 := hb1.trans (one_bl hb2 |>.mono (by omega))
  have R1 := Lib.hid ((D2.new v1 a b 242).below hb2 (by simp))
  obtain ⟨rt, r0, r1, rf0, rf1⟩ := R1.out
  clear hb2
  go_wp2_with fail
  (with_reducible refine (KC.out _).mono ?_)
  rintro e v3 ⟨rfl, hb3⟩
  have hbl3 := hbl2.trans (hb3.mono (by omega))
  clear hb3
  go_wp2
  refine bodyPost_ret (v := .tuple #[.int .i64 p, .int .i64 q, .int .i64 0]) (by simp [results, Tryz.results235, go_sem]) rfl ⟨rfl, hbl3⟩
end Go.Proofs.YtnbbemlchchmoaaGreat
namespace Go.Proofs.YtnbbemlchchmoaaGreat
open Go.RowKit
/-- which intervals of fixed are valid -/
def fvB (lo hi : Int) : Bool := decide (-2147483648 ≤ lo ∧ lo ≤ hi ∧ hi ≤ 2147483648)
set_option maxHeartbeats 1000000 in
theorem fValid_any (lo hi : Int) (w : World) : Calls Tryz.prog 193 #[.agg #[.int .i64 lo, .int .i64 hi]] w fun e w' => e = .returned (.bool (fvB lo hi)) ∧ Below w.heap.size w w' := by
  unfold fvB
  go_enter Tryz.func193, Tryz.ntmps193
  go_wp2
  all_goals
    go_ret
    refine ⟨ret_boolU (by first | (simp_all; done) | (simp_all; omega)), ?_⟩
    repeat (first | exact Below.refl _ _ | assumption | refine bl_drew ?_ | refine bl_drewN ?_ _ | refine Below.setCell ?_ (by first | assumption | omega | (simp; done) | (simp; omega)) _ | refine Below.alloc ?_ (by first | assumption | omega | (simp; done) | (simp; omega)) _)
/-- what fit returns -/
def fitV (lo hi : Int) : Value := if fvB lo hi = true then .tuple #[.agg #[.int .i64 lo, .int .i64 hi], .int .i64 0] else .tuple #[.agg #[.int .i64 0, .int .i64 0], .int .i64 5]
set_option maxHeartbeats 1000000 in
theorem both_any (a b c d : Int) (w : World) (h : fvB a b = true) (g : fvB c d = true) : Calls Tryz.prog 152 #[.agg #[.int .i64 a, .int .i64 b], .agg #[.int .i64 c, .int .i64 d]] w fun e w' => e = .returned (.bool true) ∧ Below w.heap.size w w' := by
  have KA := Lib.hid (fun W => fValid_any a b W)
  have KB := Lib.hid (fun W => fValid_any c d W)
  rw [h] at KA
  rw [g] at KB
  clear h g
  go_enter Tryz.func152, Tryz.ntmps152
  go_wp2_with fail
  (with_reducible refine (KA.out _).mono ?_)
  rintro e w1 ⟨rfl, hb1⟩
  have hbl1 := two_bl hb1
  have O1 : Hid (D2 w1 (w.heap.size + 1) c d) := Lib.hid (by
    have := (D2.new (w.alloc (.cells #[.int .i64 a, .int .i64 b] 98)) c d 98).below hb1 (by simp)
    simpa using this)
  obtain ⟨ot, o0, o1, of0, of1⟩ := O1.out
  clear hb1
  go_wp2_with fail
  (with_reducible refine (KB.out _).mono ?_)
  rintro e w2 ⟨rfl, hb2⟩
  have hbl2 := hbl1.trans (hb2.mono hbl1.size)
  clear hb2
  go_wp2
  go_ret
  exact ⟨rfl, hbl2⟩
end Go.Proofs.YtnbbemlchchmoaaGreat
namespace Go.Proofs.YtnbbemlchchmoaaGreat
open Go.RowKit
theorem three_D2 {w w1 : World} {a b c d e f : Int} {t : TypeId} (hb : Below (((w.alloc (.cells #[.int .i64 a, .int .i64 b] t)).alloc (.cells #[.int .i64 c, .int .i64 d] t)).alloc (.cells #[.int .i64 e, .int .i64 f] t)).heap.size (((w.alloc (.cells #[.int .i64 a, .int .i64 b] t)).alloc (.cells #[.int .i64 c, .int .i64 d] t)).alloc (.cells #[.int .i64 e, .int .i64 f] t)) w1) :
    Below w.heap.size w w1 ∧ D2 w1 w.heap.size a b ∧ D2 w1 (w.heap.size + 1) c d ∧ D2 w1 (w.heap.size + 2) e f := by
  refine ⟨?_, ?_, ?_, ?_⟩
  · exact ((((Below.refl _ _).alloc (Nat.le_refl _) _).alloc (by simp) _).alloc (by simp; omega) _).trans (hb.mono (by simp; omega))
  · exact (((D2.new w a b t).alloc _).alloc _).below hb (by simp; omega)
  · have := ((D2.new (w.alloc (.cells #[.int .i64 a, .int .i64 b] t)) c d t).alloc (.cells #[.int .i64 e, .int .i64 f] t)).below hb (by simp)
    simpa using this
  · have := (D2.new ((w.alloc (.cells #[.int .i64 a, .int .i64 b] t)).alloc (.cells #[.int .i64 c, .int .i64 d] t)) e f t).below hb (by simp)
    simpa using this
theorem fv_iff {a b : Int} : fvB a b = true ↔ -2147483648 ≤ a ∧ a ≤ b ∧ b ≤ 2147483648 := by unfold fvB; exact decide_eq_true_iff
end Go.Proofs.YtnbbemlchchmoaaGreat
namespace Go.Proofs.YtnbbemlchchmoaaGreat
open Go.RowKit
theorem ret_bool {a b : Bool} (h : a = b) : Ending.returned (.bool a) = .returned (.bool b) := by rw [h]
def ceq (x y : Cl) : Bool := decide (x = y)
theorem ceq_true {x y : Cl} : ceq x y = true ↔ x = y := by simp [ceq]
theorem ceq_false {x y : Cl} : ceq x y = false ↔ x ≠ y := by simp [ceq]
abbrev cva (x : Cl) : Value := .agg #[.int .i64 x.1, .int .i64 x.2.1, .int .i64 x.2.2]
theorem equalInCell (a b c a' b' c' : Int) (w : World) : (Op.equalIn 10000 58 (.agg #[.int .i64 a, .int .i64 b, .int .i64 c]) (.agg #[.int .i64 a', .int .i64 b', .int .i64 c'])).run Tryz.prog w = .ok (ceq (a, b, c) (a', b', c')) w := by
  have u3 := Tryz.underlying3
  have a3 := Tryz.isAgg3
  have z3 := Tryz.sizeOf3
  have hS : Tryz.prog.underlying 58 = some (.struct (Tryz.prog.fieldsOf 58)) := by kernel_rfl
  have hp : Tryz.prog.stoodInHeld 58 = false := by kernel_rfl
  rw [show (10000 : Nat) = 9999 + 1 from rfl, run_equalIn_agg w 9999 58 _ _ hS hp]
  simp only [Program.fieldsOf, Tryz.underlying58]
  go_simp
  by_cases h1 : a = a' <;> by_cases h2 : b = b' <;> by_cases h3 : c = c' <;> simp [ceq, h1, h2, h3]
theorem neqCell (a b c a' b' c' : Int) (w : World) : (binOp .neq 58 (.agg #[.int .i64 a, .int .i64 b, .int .i64 c]) (.agg #[.int .i64 a', .int .i64 b', .int .i64 c'])).run Tryz.prog w = .ok (.bool (!(ceq (a, b, c) (a', b', c')))) w := by
  rw [run_neq_struct, equalInCell]; rfl
theorem eqlCell (a b c a' b' c' : Int) (w : World) : (binOp .eql 58 (.agg #[.int .i64 a, .int .i64 b, .int .i64 c]) (.agg #[.int .i64 a', .int .i64 b', .int .i64 c'])).run Tryz.prog w = .ok (.bool (ceq (a, b, c) (a', b', c'))) w := by
  rw [run_eql_struct, equalInCell]; rfl

def gt (L : List Cl) (k : Nat) : Cl := L.getD k (0, 0, 0)
theorem cvs_at (L : List Cl) (k : Nat) (hk : k < L.length) : (cvs L)[k * 3]? = some (.int .i64 (gt L k).1) ∧ (cvs L)[k * 3 + 1]? = some (.int .i64 (gt L k).2.1) ∧ (cvs L)[k * 3 + 2]? = some (.int .i64 (gt L k).2.2) := by
  induction L generalizing k with
  | nil => simp at hk
  | cons x r ih =>
    have hc : cvs (x :: r) = .int .i64 x.1 :: .int .i64 x.2.1 :: .int .i64 x.2.2 :: cvs r := rfl
    rw [hc]
    match k with
    | 0 => simp [gt]
    | k + 1 =>
      have := ih k (by simpa using hk)
      have e1 : (k + 1) * 3 = k * 3 + 3 := by omega
      have e2 : (k + 1) * 3 + 1 = (k * 3 + 1) + 3 := by omega
      have e3 : (k + 1) * 3 + 2 = (k * 3 + 2) + 3 := by omega
      rw [e3, e2, e1]
      simpa [gt] using this
theorem Reads.len {w : World} {B n : Nat} {A : Option Addr} {L : List Cl} (h : Reads w B 3 A n (cvs L)) : L.length = n := by
  have := h.1
  rw [cvs_length] at this
  omega
/-- the cells of one element -/
theorem Reads.elem {w : World} {B n : Nat} {A : Option Addr} {L : List Cl} (h : Reads w B 3 A n (cvs L)) {k : Nat} (hk : k < n) :
    ∃ b off, A = some ⟨b, off, none⟩ ∧ b < B ∧ w.cell? ⟨b, off + k * 3, none⟩ = some (.int .i64 (gt L k).1) ∧ w.cell? ⟨b, off + k * 3 + 1, none⟩ = some (.int .i64 (gt L k).2.1) ∧ w.cell? ⟨b, off + k * 3 + 2, none⟩ = some (.int .i64 (gt L k).2.2) := by
  have hl := h.len
  obtain ⟨ad, rfl, hb, hc⟩ := h.2 (by omega)
  obtain ⟨b, off, spot⟩ := ad
  obtain ⟨z1, _, _⟩ := cvs_at L 0 (by omega)
  have hspot : spot = none := by simpa [Addr.add] using World.cell?_spot (hc 0 _ (by simpa using z1))
  subst hspot
  obtain ⟨y1, y2, y3⟩ := cvs_at L k (by omega)
  refine ⟨b, off, rfl, hb, ?_, ?_, ?_⟩
  · have := hc _ _ y1; rw [Go.WideShapes.add_plain] at this; exact this
  · have := hc _ _ y2; rw [Go.WideShapes.add_plain] at this; exact this
  · have := hc _ _ y3; rw [Go.WideShapes.add_plain] at this; exact this

theorem take_eq_succ {L M : List Cl} {k : Nat} (h : L.take k = M.take k) (h1 : k < L.length) (h2 : k < M.length) (he : gt L k = gt M k) : L.take (k + 1) = M.take (k + 1) := by
  rw [List.take_succ_eq_append_getElem h1, List.take_succ_eq_append_getElem h2, h]
  simp [gt, h1, h2] at he
  rw [he]
theorem ne_of_gt {L M : List Cl} {k : Nat} (he : gt L k ≠ gt M k) : L ≠ M := fun h => he (by rw [h])

set_option maxHeartbeats 1000000 in
set_option maxRecDepth 100000 in
theorem Same_any (A B : Option Addr) (n m ca cb : Nat) (L M : List Cl) (w : World) (B1 B2 : Nat) (ha : Reads w B1 3 A n (cvs L)) (hb : Reads w B2 3 B m (cvs M)) (hn : n ≤ maxLen) (hm : m ≤ maxLen) :
    Calls Tryz.prog 39 #[.slice A n ca, .slice B m cb] w fun e w' => e = .returned (.bool (decide (L = M))) ∧ ∃ q, w' = w.drewN q := by
  have hl := ha.len
  have hk := hb.len
  unfold maxLen at hn hm
  by_cases hnm : n = m
  · subst hnm
    have hnn : ((n : Int) != (n : Int)) = false := by simp
    have R1 := Lib.hid ha
    have R2 := Lib.hid hb
    have Hl := Lib.hid hl
    have Hk := Lib.hid hk
    clear ha hb hl hk
    have hq := neqCell
    go_enter Tryz.func39, Tryz.ntmps39
    go_wp2
    go_loopw [5] (fun i wr => ∃ k q : Nat, k ≤ n ∧ i = .int .i64 k ∧ L.take k = M.take k ∧ wr = w.drewN q) (fun i _ => n - (intOf i).toNat)
    case atStart => exact ⟨0, 0, Nat.zero_le _, rfl, by simp, rfl⟩
    case round =>
      obtain ⟨k, q, hkn, rfl, ht, rfl⟩ := hrel
      have HT := Lib.hid ht
      clear ht
      by_cases hlt : k < n
      · obtain ⟨b1, o1, rfl, hb1, x1, x2, x3⟩ := R1.out.elem hlt
        obtain ⟨b2, o2, rfl, hb2, y1, y2, y3⟩ := R2.out.elem hlt
        by_cases he : gt L k = gt M k
        · have hc := ceq_true.2 he
          clear he
          go_wp2
          go_quiet (fail)
          go_wp2

          go_roundw
          case rel => exact ⟨k + 1, _, by omega, by go_num, take_eq_succ HT.out (by rw [Hl.out]; exact hlt) (by rw [Hk.out]; exact hlt) (ceq_true.1 hc), rfl⟩
          case measure => simp [intOf]; omega
        · have hc := ceq_false.2 he
          clear he
          have hne := Lib.hid (ne_of_gt (ceq_false.1 hc))
          go_wp2
          go_quiet (fail)
          go_wp2

          go_ret
          exact ⟨ret_bool (by simp [hne.out]), _, World.drewN_drewN _ _ _⟩
      · go_wp2
        go_ret
        have hkk : k = n := by omega
        subst hkk
        have := HT.out
        rw [List.take_of_length_le (by rw [Hl.out]; omega), List.take_of_length_le (by rw [Hk.out]; omega)] at this
        exact ⟨ret_bool (by simp [this]), _, rfl⟩
  · have hnn : ((n : Int) != (m : Int)) = true := by rw [bne_iff_ne]; omega
    have hne : L ≠ M := fun h => hnm (by rw [← hl, ← hk, h])
    have hne := Lib.hid hne
    clear ha hb hl hk hnm
    go_enter Tryz.func39, Tryz.ntmps39
    go_wp2
    go_ret
    exact ⟨ret_bool (by simp [hne.out]), 0, rfl⟩
end Go.Proofs.YtnbbemlchchmoaaGreat
