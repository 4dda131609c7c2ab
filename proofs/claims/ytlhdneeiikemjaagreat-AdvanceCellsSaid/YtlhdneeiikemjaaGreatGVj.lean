/- Plain: the enclosures of the sine at one angle lie within 1. No program in sight. -/
import Derived.Test.YtlhdneeiikemjaaGreatGVh
import Derived.Test.YtlhdneeiikemjaaGreatGUi
set_option linter.unusedVariables false
set_option linter.unusedSimpArgs false
/- The walks of the reference's fit, Sub, Add, Floor, Ceil, Least, Most, Mul. -/
namespace Go.Proofs.YtlhdneeiikemjaaGreat
open Go.RowKit
set_option maxHeartbeats 1000000 in
theorem rfit_any (lo hi : Int) (w : World) (hl : lo ≤ hi) : Calls Tryz.prog 93 #[.int .i64 lo, .int .i64 hi] w fun e w' => e = .returned (fitV lo hi) ∧ Below w.heap.size w w' := by
  have hs : fvB lo hi = (!(decide (lo < -2147483648)) && !(decide (2147483648 < hi))) := by
    unfold fvB
    rw [Bool.eq_iff_iff]
    simp only [decide_eq_true_eq, Bool.and_eq_true, Bool.not_eq_true', decide_eq_false_iff_not]
    omega
  unfold fitV
  rw [hs]
  clear hs hl
  cases hx : decide (lo < -2147483648) <;> cases hy : decide (2147483648 < hi)
  all_goals
    simp only [Bool.not_true, Bool.not_false, Bool.and_self, Bool.and_true, Bool.true_and, Bool.and_false, Bool.false_and, Bool.false_eq_true, if_false, if_true]
    go_enter Tryz.func93, Tryz.ntmps93
    go_wp2
    first
      | refine bodyPost_ret (v := .tuple #[.agg #[.int .i64 lo, .int .i64 hi], .int .i64 0]) (by simp [results, Tryz.results93, go_sem, *]; done) rfl ⟨rfl, ?_⟩
      | refine bodyPost_ret (v := .tuple #[.agg #[.int .i64 0, .int .i64 0], .int .i64 5]) (by simp [results, Tryz.results93, go_sem, *]; done) rfl ⟨rfl, ?_⟩
    repeat (first | exact Below.refl _ _ | assumption | refine bl_drew ?_ | refine bl_drewN ?_ _ | refine Below.setCell ?_ (by first | assumption | omega | (simp; done) | (simp; omega)) _ | refine Below.alloc ?_ (by first | assumption | omega | (simp; done) | (simp; omega)) _)
set_option maxHeartbeats 2000000 in
theorem rSub_any (a b c d : Int) (w : World) (h : fvB a b = true) (g : fvB c d = true) : Calls Tryz.prog 94 #[.agg #[.int .i64 a, .int .i64 b], .agg #[.int .i64 c, .int .i64 d]] w fun e w' => e = .returned (fitV (a - d) (b - c)) ∧ Below w.heap.size w w' := by
  rw [fv_iff] at h g
  have KF := Lib.hid (fun W => rfit_any (a - d) (b - c) W (by omega))
  have s1 : wrap64 (a - d) = a - d := IntWalk.wrap64_in _ (by omega)
  have s2 : wrap64 (b - c) = b - c := IntWalk.wrap64_in _ (by omega)
  clear h g
  unfold fitV at *
  generalize fvB (a - d) (b - c) = s at *
  obtain ⟨p, hp⟩ : ∃ p, a - d = p := ⟨_, rfl⟩
  obtain ⟨q, hq⟩ : ∃ q, b - c = q := ⟨_, rfl⟩
  rw [hp] at s1 KF ⊢
  rw [hq] at s2 KF ⊢
  cases s
  all_goals
    simp only [Bool.false_eq_true, if_false, if_true] at *
    go_enter Tryz.func94, Tryz.ntmps94
    go_wp2_with fail
    (with_reducible refine (KF.out _).mono ?_)
    rintro e w2 ⟨rfl, hb2⟩
    obtain ⟨hbl2, A1, B1, C1⟩ := three_D2 hb2
    obtain ⟨rt, r0, r1, rf0, rf1⟩ := C1
    clear hb2 A1 B1
    go_wp2
    first
      | refine bodyPost_ret (v := .tuple #[.agg #[.int .i64 p, .int .i64 q], .int .i64 0]) (by simp [results, Tryz.results94, go_sem, *]; done) rfl ⟨rfl, ?_⟩
      | refine bodyPost_ret (v := .tuple #[.agg #[.int .i64 0, .int .i64 0], .int .i64 5]) (by simp [results, Tryz.results94, go_sem, *]; done) rfl ⟨rfl, ?_⟩
    exact (hbl2.setCell (by simp; omega) _).setCell (by simp; omega) _
set_option maxHeartbeats 2000000 in
theorem rAdd_any (a b c d : Int) (w : World) (h : fvB a b = true) (g : fvB c d = true) : Calls Tryz.prog 44 #[.agg #[.int .i64 a, .int .i64 b], .agg #[.int .i64 c, .int .i64 d]] w fun e w' => e = .returned (fitV (a + c) (b + d)) ∧ Below w.heap.size w w' := by
  rw [fv_iff] at h g
  have KF := Lib.hid (fun W => rfit_any (a + c) (b + d) W (by omega))
  have s1 : wrap64 (a + c) = a + c := IntWalk.wrap64_in _ (by omega)
  have s2 : wrap64 (b + d) = b + d := IntWalk.wrap64_in _ (by omega)
  clear h g
  unfold fitV at *
  generalize fvB (a + c) (b + d) = s at *
  obtain ⟨p, hp⟩ : ∃ p, a + c = p := ⟨_, rfl⟩
  obtain ⟨q, hq⟩ : ∃ q, b + d = q := ⟨_, rfl⟩
  rw [hp] at s1 KF ⊢
  rw [hq] at s2 KF ⊢
  cases s
  all_goals
    simp only [Bool.false_eq_true, if_false, if_true] at *
    go_enter Tryz.func44, Tryz.ntmps44
    go_wp2_with fail
    (with_reducible refine (KF.out _).mono ?_)
    rintro e w2 ⟨rfl, hb2⟩
    obtain ⟨hbl2, A1, B1, C1⟩ := three_D2 hb2
    obtain ⟨rt, r0, r1, rf0, rf1⟩ := C1
    clear hb2 A1 B1
    go_wp2
    first
      | refine bodyPost_ret (v := .tuple #[.agg #[.int .i64 p, .int .i64 q], .int .i64 0]) (by simp [results, Tryz.results44, go_sem, *]; done) rfl ⟨rfl, ?_⟩
      | refine bodyPost_ret (v := .tuple #[.agg #[.int .i64 0, .int .i64 0], .int .i64 5]) (by simp [results, Tryz.results44, go_sem, *]; done) rfl ⟨rfl, ?_⟩
    exact (hbl2.setCell (by simp; omega) _).setCell (by simp; omega) _
set_option maxHeartbeats 1000000 in
theorem rFloor_any (a : Int) (w : World) (a0 : -4611686018427387904 ≤ a) (a1 : a ≤ 4611686018427387904) : Calls Tryz.prog 156 #[.int .i64 a, .int .i64 1073741824] w fun e w' => e = .returned (.int .i64 (a / 1073741824)) ∧ w' = w := by
  have h1 := Int.mul_tdiv_add_tmod a 1073741824
  have h3 := Int.tmod_lt_of_pos a (show (0 : Int) < 1073741824 by omega)
  have h4 := Int.tmod_lt_of_pos (-a) (show (0 : Int) < 1073741824 by omega)
  rw [Int.neg_tmod] at h4
  have h5 : a < 0 → Int.tmod a 1073741824 ≤ 0 := fun h => by
    have h2 := Int.tmod_nonneg 1073741824 (show 0 ≤ -a by omega)
    rw [Int.neg_tmod] at h2
    omega
  have h6 : ¬ a < 0 → 0 ≤ Int.tmod a 1073741824 := fun h => Int.tmod_nonneg 1073741824 (show 0 ≤ a by omega)
  have s1 : wrap64 (Int.tdiv a 1073741824 - 1) = Int.tdiv a 1073741824 - 1 := IntWalk.wrap64_in _ (by omega)
  have s2 : wrap64 (Int.tdiv a 1073741824) = Int.tdiv a 1073741824 := IntWalk.wrap64_in _ (by omega)
  have H := Lib.hid (And.intro h1 (And.intro h3 (And.intro h4 (And.intro h5 h6))))
  clear h1 h3 h4 h5 h6
  cases hx : decide (a < 0)
  all_goals
    go_enter Tryz.func156, Tryz.ntmps156
    go_wp2
    all_goals
      go_ret
      refine ⟨ret_int ?_, rfl⟩
      obtain ⟨h1, h3, h4, h5, h6⟩ := H.out
      try rw [s1]
      simp only [bne_iff_ne, ne_eq, bne_eq_false_iff_eq, decide_eq_true_eq, decide_eq_false_iff_not] at *
      omega
set_option maxHeartbeats 1000000 in
theorem rCeil_any (a : Int) (w : World) (a0 : -4611686018427387904 ≤ a) (a1 : a ≤ 4611686018427387904) : Calls Tryz.prog 157 #[.int .i64 a, .int .i64 1073741824] w fun e w' => e = .returned (.int .i64 (-(-a / 1073741824))) ∧ w' = w := by
  have KF := Lib.hid (fun W => rFloor_any (-a) W (by omega) (by omega))
  have s1 : wrap64 (-a) = -a := IntWalk.wrap64_in _ (by omega)
  have s2 : wrap64 (-(-a / 1073741824)) = -(-a / 1073741824) := IntWalk.wrap64_in _ (by omega)
  generalize -a / 1073741824 = q at *
  go_enter Tryz.func157, Tryz.ntmps157
  go_wp2_with fail
  (with_reducible refine (KF.out _).mono ?_)
  rintro e w1 ⟨rfl, rfl⟩
  go_wp2
  go_ret
  exact ⟨ret_int s2, rfl⟩
set_option maxHeartbeats 1000000 in
theorem rLeast_any (a b : Int) (w : World) : Calls Tryz.prog 154 #[.int .i64 a, .int .i64 b] w fun e w' => e = .returned (.int .i64 (min a b)) ∧ w' = w := by
  rw [← min_e]
  go_enter Tryz.func154, Tryz.ntmps154
  go_wp2
  all_goals
    go_ret
    refine ⟨ret_int (by simp_all), rfl⟩
set_option maxHeartbeats 1000000 in
theorem rMost_any (a b : Int) (w : World) : Calls Tryz.prog 155 #[.int .i64 a, .int .i64 b] w fun e w' => e = .returned (.int .i64 (max a b)) ∧ w' = w := by
  rw [← max_e]
  go_enter Tryz.func155, Tryz.ntmps155
  go_wp2
  all_goals
    go_ret
    refine ⟨ret_int (by simp_all), rfl⟩
set_option maxHeartbeats 4000000 in
theorem rMul_any (a b c d : Int) (w : World) (h : fvB a b = true) (g : fvB c d = true) : Calls Tryz.prog 97 #[.agg #[.int .i64 a, .int .i64 b], .agg #[.int .i64 c, .int .i64 d]] w fun e w' => e = .returned (fitV (min (a * c) (min (a * d) (min (b * c) (b * d))) / 1073741824) (-(-(max (a * c) (max (a * d) (max (b * c) (b * d)))) / 1073741824))) ∧ Below w.heap.size w w' := by
  rw [fv_iff] at h g
  have m1 := mul_bd31 (a := a) (b := c) (by omega) (by omega) (by omega) (by omega)
  have m2 := mul_bd31 (a := a) (b := d) (by omega) (by omega) (by omega) (by omega)
  have m3 := mul_bd31 (a := b) (b := c) (by omega) (by omega) (by omega) (by omega)
  have m4 := mul_bd31 (a := b) (b := d) (by omega) (by omega) (by omega) (by omega)
  have s1 : wrap64 (a * c) = a * c := IntWalk.wrap64_in _ (by omega)
  have s2 : wrap64 (a * d) = a * d := IntWalk.wrap64_in _ (by omega)
  have s3 : wrap64 (b * c) = b * c := IntWalk.wrap64_in _ (by omega)
  have s4 : wrap64 (b * d) = b * d := IntWalk.wrap64_in _ (by omega)
  clear h g
  obtain ⟨x, hx⟩ : ∃ p, a * c = p := ⟨_, rfl⟩
  obtain ⟨y, hy⟩ : ∃ p, a * d = p := ⟨_, rfl⟩
  obtain ⟨z, hz⟩ : ∃ p, b * c = p := ⟨_, rfl⟩
  obtain ⟨u, hu⟩ : ∃ p, b * d = p := ⟨_, rfl⟩
  rw [hx] at s1 m1 ⊢
  rw [hy] at s2 m2 ⊢
  rw [hz] at s3 m3 ⊢
  rw [hu] at s4 m4 ⊢
  have KL := Lib.hid (fun W => rFloor_any (min x (min y (min z u))) W (by omega) (by omega))
  have KC := Lib.hid (fun W => rCeil_any (max x (max y (max z u))) W (by omega) (by omega))
  have M1 := Lib.hid (fun W => rLeast_any x y W)
  have M2 := Lib.hid (fun W => rLeast_any z u W)
  have M3 := Lib.hid (fun W => rLeast_any (min x y) (min z u) W)
  have M4 := Lib.hid (fun W => rMost_any x y W)
  have M5 := Lib.hid (fun W => rMost_any z u W)
  have M6 := Lib.hid (fun W => rMost_any (max x y) (max z u) W)
  rw [Int.min_assoc] at M3
  rw [Int.max_assoc] at M6
  clear m1 m2 m3 m4
  have hpq : min x (min y (min z u)) / 1073741824 ≤ -(-(max x (max y (max z u))) / 1073741824) := by omega
  generalize hl : min x (min y (min z u)) / 1073741824 = p at *
  generalize hh : -(-(max x (max y (max z u))) / 1073741824) = q at *
  clear hl hh
  have KF := Lib.hid (fun W => rfit_any p q W hpq)
  unfold fitV at *
  generalize fvB p q = s at *
  cases s
  all_goals
    simp only [Bool.false_eq_true, if_false, if_true] at *
    go_enter Tryz.func97, Tryz.ntmps97
    go_wp2
    go_quiet (fail)
    go_wp2_with (first
      | (go_at_call 154; (first | (with_reducible refine (M1.out _).mono ?_) | (with_reducible refine (M2.out _).mono ?_) | (with_reducible refine (M3.out _).mono ?_)); rintro e w3 ⟨rfl, rfl⟩)
      | (go_at_call 155; (first | (with_reducible refine (M4.out _).mono ?_) | (with_reducible refine (M5.out _).mono ?_) | (with_reducible refine (M6.out _).mono ?_)); rintro e w3 ⟨rfl, rfl⟩)
      | (go_at_call 156; (with_reducible refine (KL.out _).mono ?_); rintro e w3 ⟨rfl, rfl⟩)
      | (go_at_call 157; (with_reducible refine (KC.out _).mono ?_); rintro e w3 ⟨rfl, rfl⟩)
      | fail)
    (with_reducible refine (KF.out _).mono ?_)
    rintro e w2 ⟨rfl, hb2⟩
    rename_i nq _ _ _ _
    obtain ⟨hbl2, A1, B1, C1⟩ := three_D2 ((bl_drewN (Below.refl _ _) nq).trans hb2)
    obtain ⟨rt, r0, r1, rf0, rf1⟩ := C1
    clear hb2 A1 B1
    go_wp2
    first
      | refine bodyPost_ret (v := .tuple #[.agg #[.int .i64 p, .int .i64 q], .int .i64 0]) (by simp [results, Tryz.results97, go_sem, *]; done) rfl ⟨rfl, ?_⟩
      | refine bodyPost_ret (v := .tuple #[.agg #[.int .i64 0, .int .i64 0], .int .i64 5]) (by simp [results, Tryz.results97, go_sem, *]; done) rfl ⟨rfl, ?_⟩
    exact (hbl2.setCell (by simp; omega) _).setCell (by simp; omega) _
end Go.Proofs.YtlhdneeiikemjaaGreat
/- The walk of the reference's Make. -/
namespace Go.Proofs.YtlhdneeiikemjaaGreat
open Go.RowKit
set_option maxHeartbeats 1000000 in
theorem rsize_any (n : Int) (w : World) (h0 : 0 ≤ n) (h1 : n ≤ 4611686018427387904) : Calls Tryz.prog 153 #[.int .i64 n] w fun e w' => e = .returned (.int .u64 n) ∧ w' = w := by
  have hd : decide (n < 0) = false := decide_eq_false (by omega)
  have e1 : IntKind.u64.wrap n = n := by rw [IntKind.wrap_u64]; omega
  go_enter Tryz.func153, Tryz.ntmps153
  go_wp2
  go_ret
  exact ⟨rfl, rfl⟩
/-- the state of the division, bit by bit -/
def MI (n d : Int) (k : Nat) (m r : Int) : Prop := n * 2 ^ k = m * d + r ∧ 0 ≤ r ∧ r < d ∧ 0 ≤ m ∧ m + 1 ≤ 2 * 2 ^ k
theorem MI.up {n d m r : Int} {k : Nat} (h : MI n d k m r) (g : d ≤ 2 * r) : MI n d (k + 1) (2 * m + 1) (2 * r - d) := by
  obtain ⟨h1, h2, h3, h4, h5⟩ := h
  have e : n * 2 ^ (k + 1) = (n * 2 ^ k) * 2 := by rw [Int.pow_succ, Int.mul_assoc]
  have e2 : (2 : Int) ^ (k + 1) = 2 ^ k * 2 := Int.pow_succ _ _
  have e3 : (2 * m + 1) * d = (m * d) * 2 + d := by rw [Int.add_mul, Int.mul_assoc, Int.one_mul, Int.mul_comm 2]
  refine ⟨?_, by omega, by omega, by omega, by omega⟩
  rw [e, h1, e3]; omega
theorem MI.no {n d m r : Int} {k : Nat} (h : MI n d k m r) (g : 2 * r < d) : MI n d (k + 1) (2 * m) (2 * r) := by
  obtain ⟨h1, h2, h3, h4, h5⟩ := h
  have e : n * 2 ^ (k + 1) = (n * 2 ^ k) * 2 := by rw [Int.pow_succ, Int.mul_assoc]
  have e2 : (2 : Int) ^ (k + 1) = 2 ^ k * 2 := Int.pow_succ _ _
  have e3 : (2 * m) * d = (m * d) * 2 := by rw [Int.mul_assoc, Int.mul_comm 2]
  refine ⟨?_, by omega, by omega, by omega, by omega⟩
  rw [e, h1, e3]; omega
theorem MI.zero {n d : Int} (h0 : 0 ≤ n) (h1 : n ≤ d) (d0 : 0 < d) : MI n d 0 (n / d) (n % d) := by
  have h := Int.mul_ediv_add_emod n d
  have h2 : n / d ≤ 1 := Int.ediv_le_of_le_mul d0 (by omega)
  refine ⟨?_, Int.emod_nonneg _ (by omega), Int.emod_lt_of_pos _ d0, Int.ediv_nonneg h0 (by omega), by simp; omega⟩
  rw [Int.mul_comm (n / d) d, h]; simp
theorem MI.bd {n d m r : Int} {k : Nat} (h : MI n d k m r) (hk : k ≤ 30) : m ≤ 2147483647 := by
  have : (2 : Nat) ^ k ≤ 2 ^ 30 := Nat.pow_le_pow_right (by omega) hk
  have e : ((2 ^ k : Nat) : Int) = (2 : Int) ^ k := by push_cast; rfl
  have := h.2.2.2.2
  omega
theorem MI.fin {n d m r : Int} (h : MI n d 30 m r) : m = n * 1073741824 / d ∧ (if 0 < r then m + 1 else m) = -(-(n * 1073741824) / d) := by
  obtain ⟨h1, h2, h3, -, -⟩ := h
  have e : n * 1073741824 = m * d + r := h1
  have d0 : d ≠ 0 := by omega
  constructor
  · rw [e, Int.add_comm, Int.add_mul_ediv_right _ _ d0, Int.ediv_eq_zero_of_lt h2 h3]; omega
  · split
    · have e2 : -(n * 1073741824) = (d - r) + (-(m + 1)) * d := by rw [e, Int.neg_mul, Int.add_mul, Int.one_mul]; omega
      rw [e2, Int.add_mul_ediv_right _ _ d0, Int.ediv_eq_zero_of_lt (a := d - r) (by omega) (by omega)]; omega
    · have e2 : -(n * 1073741824) = (-m) * d := by rw [e, Int.neg_mul]; omega
      rw [e2, Int.mul_ediv_cancel _ d0]; omega
set_option maxHeartbeats 4000000 in
theorem rMake_any (n d : Int) (w : World) (h0 : 0 ≤ n) (h1 : n ≤ d) (d0 : 0 < d) (d1 : d < 4294967296) :
    Calls Tryz.prog 96 #[.int .i64 n, .int .i64 d] w fun e w' => e = .returned (fitV (n * 1073741824 / d) (-(-(n * 1073741824) / d))) ∧ Below w.heap.size w w' := by
  have KN := Lib.hid (fun W => rsize_any n W h0 (by omega))
  have KD := Lib.hid (fun W => rsize_any d W (by omega) (by omega))
  have Z := Lib.hid (MI.zero h0 h1 d0)
  have q1 : n / d ≤ 1 := Int.ediv_le_of_le_mul d0 (by omega)
  have q0 : 0 ≤ n / d := Int.ediv_nonneg h0 (by omega)
  have hz : (d == 0) = false := by rw [beq_eq_false_iff_ne]; omega
  have t1 : Int.tdiv n d = n / d := Int.tdiv_eq_ediv_of_nonneg h0
  have t2 : Int.tmod n d = n % d := Int.tmod_eq_emod_of_nonneg h0
  have x1 : decide (2 < n / d) = false := decide_eq_false (by omega)
  have x2 : (n / d == 2) = false := by rw [beq_eq_false_iff_ne]; omega
  have x3 : IntKind.i64.wrap (n / d) = n / d := IntWalk.i64_in _ (by omega)
  have x4 : decide (n < 0) = false := decide_eq_false (by omega)
  have x5 : decide (d < 0) = false := decide_eq_false (by omega)
  have hne : d ≠ 0 := by omega
  generalize n / d = M at *
  generalize n % d = R at *
  obtain ⟨p, hp⟩ : ∃ p, n * 1073741824 / d = p := ⟨_, rfl⟩
  obtain ⟨q, hq⟩ : ∃ q, -(-(n * 1073741824) / d) = q := ⟨_, rfl⟩
  rw [hp, hq]
  have HP := Lib.hid hp
  have HQ := Lib.hid hq
  clear hp hq
  have KF := Lib.hid (fun (hpq : p ≤ q) W => rfit_any p q W hpq)
  unfold fitV at *
  generalize fvB p q = s at *
  cases s
  all_goals
    simp only [Bool.false_eq_true, if_false, if_true] at *
    go_enter Tryz.func96, Tryz.ntmps96
    go_wp2_with (go_at_call 153; (first | (with_reducible refine (KN.out _).mono ?_) | (with_reducible refine (KD.out _).mono ?_)); rintro e w1 ⟨rfl, rfl⟩)
    go_loop [8, 9, 10] (fun s8 s9 s10 => ∃ (k : Nat) (m r : Int), s10 = .int .i64 k ∧ s8 = .int .i64 m ∧ s9 = .int .u64 r ∧ k ≤ 30 ∧ MI n d k m r) (fun _ _ s10 => 30 - (intOf s10).toNat)
    case atStart => exact ⟨0, M, R, rfl, rfl, rfl, by omega, Z.out⟩
    case round =>
      obtain ⟨k, m, r, rfl, rfl, rfl, hk, hI⟩ := hrel
      have hI2 := Lib.hid hI
      have hm := hI.bd hk
      obtain ⟨-, r0, r1, m0, -⟩ := hI
      by_cases hk2 : k = 30
      · have hf := MI.fin (hk2 ▸ hI2.out)
        rw [HP.out, HQ.out] at hf
        obtain ⟨f1, f2⟩ := hf
        have c1 : decide ((k : Int) < 30) = false := decide_eq_false (by omega)
        have c2 : wrap64 (m + 1) = m + 1 := IntWalk.wrap64_in _ (by omega)
        have KG := Lib.hid (fun W => KF.out (by rw [← f1, ← f2]; split <;> omega) W)
        clear hk hk2 hm
        by_cases hr : 0 < r
        all_goals
          first | rw [if_pos hr] at f2 | rw [if_neg hr] at f2
          subst f1
          subst f2
          go_wp2_with fail
          (with_reducible refine (KG.out _).mono ?_)
          rintro e w2 ⟨rfl, hb2⟩
          have hbl2 := one_bl hb2
          have R2 := Lib.hid ((D2.new w 0 0 31).below hb2 (by simp))
          obtain ⟨rt, u0, u1, rf0, rf1⟩ := R2.out
          clear hb2
          go_wp2
          first
            | refine bodyPost_ret (v := .tuple #[.agg #[.int .i64 m, _], .int .i64 0]) (by simp [results, Tryz.results96, go_sem, *]; done) rfl ⟨rfl, ?_⟩
            | refine bodyPost_ret (v := .tuple #[.agg #[.int .i64 0, .int .i64 0], .int .i64 5]) (by simp [results, Tryz.results96, go_sem, *]; done) rfl ⟨rfl, ?_⟩
          exact (hbl2.setCell (by simp) _).setCell (by simp) _
      · have c1 : decide ((k : Int) < 30) = true := decide_eq_true (by omega)
        have c2 : IntKind.u64.wrap (d - r) = d - r := by rw [IntKind.wrap_u64]; omega
        have c4 : IntKind.u64.wrap (2 * r) = 2 * r := by rw [IntKind.wrap_u64]; omega
        by_cases hg : d - r ≤ r
        · have c3 : decide (d - r ≤ r) = true := decide_eq_true hg
          have c5 : IntKind.u64.wrap (r - (d - r)) = r - (d - r) := by rw [IntKind.wrap_u64]; omega
          have nx := Lib.hid (hI2.out.up (by omega))
          go_wp2
          go_round
          case rel => exact ⟨k + 1, 2 * m + 1, 2 * r - d, by go_num, by go_num, by go_num, by omega, nx.out⟩
          case measure => simp [intOf]; omega
        · have c3 : decide (d - r ≤ r) = false := decide_eq_false hg
          have nx := Lib.hid (hI2.out.no (by omega))
          go_wp2
          go_round
          case rel => exact ⟨k + 1, 2 * m, 2 * r, by go_num, by go_num, by go_num, by omega, nx.out⟩
          case measure => simp [intOf]; omega
end Go.Proofs.YtlhdneeiikemjaaGreat
namespace Go.Proofs.YtlhdneeiikemjaaGreat.Trig
theorem upF_le {q : Int} (h0 : 0 ≤ q) (h1 : q ≤ 5400000) : upF q ≤ 1073741824 := by
  unfold upF
  split
  · exact (sF_bd h0 h1).2
  · rename_i hx
    have hq : qrt q = q := by unfold qrt; omega
    have hr : rEx q = false := by rw [ex_same, hq]; simpa using hx
    obtain ⟨hf, hv, -⟩ := quick_far q hr
    have hs : sth q = false := by unfold sth; rw [decide_eq_false_iff_not]; omega
    have hl : loB q = sF q := by unfold loB; rw [hs, hq]; simp
    have hrq : ¬ rq q ≥ 2 := by unfold rq; omega
    have hqv : qv q = (quickN (rr q).toNat (rc q) : Int) := by unfold qv; rw [if_neg hrq]
    have hrr : (rr q).toNat ≤ 2700000 := by unfold rr; omega
    have hle := quickN_le hrr (rc q)
    rw [hl, hqv] at hv
    generalize quickN (rr q).toNat (rc q) = Q at *
    have hne : Q ≠ 4611686018427387904 := by
      intro e
      rw [e] at hf
      revert hf
      decide
    omega
theorem hi_le (n : Int) : -1073741824 ≤ loB n ∧ loB n ≤ 1073741824 ∧ -1073741824 ≤ hiB n ∧ hiB n ≤ 1073741824 ∧ loB n ≤ hiB n := by
  have hq := qrt_bd n
  have hs := sF_bd hq.1 hq.2
  have hu := upF_le hq.1 hq.2
  have hw : sF (qrt n) ≤ upF (qrt n) := by unfold upF; split <;> omega
  unfold loB hiB
  split <;> omega
theorem en_bd (n : Int) : -1073741824 ≤ enLo n n ∧ enLo n n ≤ enHi n n ∧ enHi n n ≤ 1073741824 := by
  have h := hi_le n
  unfold enLo enHi
  split <;> split <;> omega
end Go.Proofs.YtlhdneeiikemjaaGreat.Trig
