/- The walks of the program's Asin, where the sine has an arcsine. -/
import Derived.Deep.RegionHeld3
import Derived.Test.YtifdgdgfmjfbdaaGreatHUo
import Derived.Test.YtifdgdgfmjfbdaaGreatHTf
import Derived.Test.YtifdgdgfmjfbdaaGreatHUk
set_option linter.unusedVariables false
set_option linter.unusedSimpArgs false
namespace Go.Proofs.YtifdgdgfmjfbdaaGreat
open Go.RowKit
set_option maxHeartbeats 1000000 in
theorem rfit_any (lo hi : Int) (w : World) (hl : lo ≤ hi) : Calls Tryz.prog 229 #[.int .i64 lo, .int .i64 hi] w fun e w' => e = .returned (fitV lo hi) ∧ Below w.heap.size w w' := by
  have hs : fvB lo hi = (!(decide (lo < -2147483648)) && !(decide (2147483648 < hi))) := by
    unfold fvB
    rw [Bool.eq_iff_iff]
    simp only [decide_eq_true_eq, Bool.and_eq_true, Bool.not_eq_true', decide_eq_false_iff_not]
    omega
  unfold fitV
  rw [hs]
  clear hs hl
  cases hx : decide (lo < -2147483648) <;> cases hy : decide (2147483648 < hi)
  all_goals
    simp only [Bool.not_true, Bool.not_false, Bool.and_self, Bool.and_true, Bool.true_and, Bool.and_false, Bool.false_and, Bool.false_eq_true, if_false, if_true]
    go_enter Tryz.func229, Tryz.ntmps229
    go_wp2
    first
      | refine bodyPost_ret (v := .tuple #[.agg #[.int .i64 lo, .int .i64 hi], .int .i64 0]) (by simp [results, Tryz.results229, go_sem, *]; done) rfl ⟨rfl, ?_⟩
      | refine bodyPost_ret (v := .tuple #[.agg #[.int .i64 0, .int .i64 0], .int .i64 5]) (by simp [results, Tryz.results229, go_sem, *]; done) rfl ⟨rfl, ?_⟩
    repeat (first | exact Below.refl _ _ | assumption | refine bl_drew ?_ | refine bl_drewN ?_ _ | refine Below.setCell ?_ (by first | assumption | omega | (simp; done) | (simp; omega)) _ | refine Below.alloc ?_ (by first | assumption | omega | (simp; done) | (simp; omega)) _)
set_option maxHeartbeats 2000000 in
theorem rSub_any (a b c d : Int) (w : World) (h : fvB a b = true) (g : fvB c d = true) : Calls Tryz.prog 185 #[.agg #[.int .i64 a, .int .i64 b], .agg #[.int .i64 c, .int .i64 d]] w fun e w' => e = .returned (fitV (a - d) (b - c)) ∧ Below w.heap.size w w' := by
  rw [fv_iff] at h g
  have KF := Lib.hid (fun W => rfit_any (a - d) (b - c) W (by omega))
  have s1 : wrap64 (a - d) = a - d := IntWalk.wrap64_in _ (by omega)
  have s2 : wrap64 (b - c) = b - c := IntWalk.wrap64_in _ (by omega)
  clear h g
  unfold fitV at *
  generalize fvB (a - d) (b - c) = s at *
  obtain ⟨p, hp⟩ : ∃ p, a - d = p := ⟨_, rfl⟩
  obtain ⟨q, hq⟩ : ∃ q, b - c = q := ⟨_, rfl⟩
  rw [hp] at s1 KF ⊢
  rw [hq] at s2 KF ⊢
  cases s
  all_goals
    simp only [Bool.false_eq_true, if_false, if_true] at *
    go_enter Tryz.func185, Tryz.ntmps185
    go_wp2_with fail
    (with_reducible refine (KF.out _).mono ?_)
    rintro e w2 ⟨rfl, hb2⟩
    obtain ⟨hbl2, A1, B1, C1⟩ := three_D2 hb2
    obtain ⟨rt, r0, r1, rf0, rf1⟩ := C1
    clear hb2 A1 B1
    go_wp2
    first
      | refine bodyPost_ret (v := .tuple #[.agg #[.int .i64 p, .int .i64 q], .int .i64 0]) (by simp [results, Tryz.results185, go_sem, *]; done) rfl ⟨rfl, ?_⟩
      | refine bodyPost_ret (v := .tuple #[.agg #[.int .i64 0, .int .i64 0], .int .i64 5]) (by simp [results, Tryz.results185, go_sem, *]; done) rfl ⟨rfl, ?_⟩
    exact (hbl2.setCell (by simp; omega) _).setCell (by simp; omega) _
set_option maxHeartbeats 2000000 in
theorem rAdd_any (a b c d : Int) (w : World) (h : fvB a b = true) (g : fvB c d = true) : Calls Tryz.prog 183 #[.agg #[.int .i64 a, .int .i64 b], .agg #[.int .i64 c, .int .i64 d]] w fun e w' => e = .returned (fitV (a + c) (b + d)) ∧ Below w.heap.size w w' := by
  rw [fv_iff] at h g
  have KF := Lib.hid (fun W => rfit_any (a + c) (b + d) W (by omega))
  have s1 : wrap64 (a + c) = a + c := IntWalk.wrap64_in _ (by omega)
  have s2 : wrap64 (b + d) = b + d := IntWalk.wrap64_in _ (by omega)
  clear h g
  unfold fitV at *
  generalize fvB (a + c) (b + d) = s at *
  obtain ⟨p, hp⟩ : ∃ p, a + c = p := ⟨_, rfl⟩
  obtain ⟨q, hq⟩ : ∃ q, b + d = q := ⟨_, rfl⟩
  rw [hp] at s1 KF ⊢
  rw [hq] at s2 KF ⊢
  cases s
  all_goals
    simp only [Bool.false_eq_true, if_false, if_true] at *
    go_enter Tryz.func183, Tryz.ntmps183
    go_wp2_with fail
    (with_reducible refine (KF.out _).mono ?_)
    rintro e w2 ⟨rfl, hb2⟩
    obtain ⟨hbl2, A1, B1, C1⟩ := three_D2 hb2
    obtain ⟨rt, r0, r1, rf0, rf1⟩ := C1
    clear hb2 A1 B1
    go_wp2
    first
      | refine bodyPost_ret (v := .tuple #[.agg #[.int .i64 p, .int .i64 q], .int .i64 0]) (by simp [results, Tryz.results183, go_sem, *]; done) rfl ⟨rfl, ?_⟩
      | refine bodyPost_ret (v := .tuple #[.agg #[.int .i64 0, .int .i64 0], .int .i64 5]) (by simp [results, Tryz.results183, go_sem, *]; done) rfl ⟨rfl, ?_⟩
    exact (hbl2.setCell (by simp; omega) _).setCell (by simp; omega) _
set_option maxHeartbeats 1000000 in
theorem rFloor_any (a : Int) (w : World) (a0 : -4611686018427387904 ≤ a) (a1 : a ≤ 4611686018427387904) : Calls Tryz.prog 232 #[.int .i64 a, .int .i64 1073741824] w fun e w' => e = .returned (.int .i64 (a / 1073741824)) ∧ w' = w := by
  have h1 := Int.mul_tdiv_add_tmod a 1073741824
  have h3 := Int.tmod_lt_of_pos a (show (0 : Int) < 1073741824 by omega)
  have h4 := Int.tmod_lt_of_pos (-a) (show (0 : Int) < 1073741824 by omega)
  rw [Int.neg_tmod] at h4
  have h5 : a < 0 → Int.tmod a 1073741824 ≤ 0 := fun h => by
    have h2 := Int.tmod_nonneg 1073741824 (show 0 ≤ -a by omega)
    rw [Int.neg_tmod] at h2
    omega
  have h6 : ¬ a < 0 → 0 ≤ Int.tmod a 1073741824 := fun h => Int.tmod_nonneg 1073741824 (show 0 ≤ a by omega)
  have s1 : wrap64 (Int.tdiv a 1073741824 - 1) = Int.tdiv a 1073741824 - 1 := IntWalk.wrap64_in _ (by omega)
  have s2 : wrap64 (Int.tdiv a 1073741824) = Int.tdiv a 1073741824 := IntWalk.wrap64_in _ (by omega)
  have H := Lib.hid (And.intro h1 (And.intro h3 (And.intro h4 (And.intro h5 h6))))
  clear h1 h3 h4 h5 h6
  cases hx : decide (a < 0)
  all_goals
    go_enter Tryz.func232, Tryz.ntmps232
    go_wp2
    all_goals
      go_ret
      refine ⟨ret_int ?_, rfl⟩
      obtain ⟨h1, h3, h4, h5, h6⟩ := H.out
      try rw [s1]
      simp only [bne_iff_ne, ne_eq, bne_eq_false_iff_eq, decide_eq_true_eq, decide_eq_false_iff_not] at *
      omega
set_option maxHeartbeats 1000000 in
theorem rCeil_any (a : Int) (w : World) (a0 : -4611686018427387904 ≤ a) (a1 : a ≤ 4611686018427387904) : Calls Tryz.prog 233 #[.int .i64 a, .int .i64 1073741824] w fun e w' => e = .returned (.int .i64 (-(-a / 1073741824))) ∧ w' = w := by
  have KF := Lib.hid (fun W => rFloor_any (-a) W (by omega) (by omega))
  have s1 : wrap64 (-a) = -a := IntWalk.wrap64_in _ (by omega)
  have s2 : wrap64 (-(-a / 1073741824)) = -(-a / 1073741824) := IntWalk.wrap64_in _ (by omega)
  generalize -a / 1073741824 = q at *
  go_enter Tryz.func233, Tryz.ntmps233
  go_wp2_with fail
  (with_reducible refine (KF.out _).mono ?_)
  rintro e w1 ⟨rfl, rfl⟩
  go_wp2
  go_ret
  exact ⟨ret_int s2, rfl⟩
set_option maxHeartbeats 1000000 in
theorem rLeast_any (a b : Int) (w : World) : Calls Tryz.prog 230 #[.int .i64 a, .int .i64 b] w fun e w' => e = .returned (.int .i64 (min a b)) ∧ w' = w := by
  rw [← min_e]
  go_enter Tryz.func230, Tryz.ntmps230
  go_wp2
  all_goals
    go_ret
    refine ⟨ret_int (by simp_all), rfl⟩
set_option maxHeartbeats 1000000 in
theorem rMost_any (a b : Int) (w : World) : Calls Tryz.prog 231 #[.int .i64 a, .int .i64 b] w fun e w' => e = .returned (.int .i64 (max a b)) ∧ w' = w := by
  rw [← max_e]
  go_enter Tryz.func231, Tryz.ntmps231
  go_wp2
  all_goals
    go_ret
    refine ⟨ret_int (by simp_all), rfl⟩
set_option maxHeartbeats 4000000 in
theorem rMul_any (a b c d : Int) (w : World) (h : fvB a b = true) (g : fvB c d = true) : Calls Tryz.prog 184 #[.agg #[.int .i64 a, .int .i64 b], .agg #[.int .i64 c, .int .i64 d]] w fun e w' => e = .returned (fitV (min (a * c) (min (a * d) (min (b * c) (b * d))) / 1073741824) (-(-(max (a * c) (max (a * d) (max (b * c) (b * d)))) / 1073741824))) ∧ Below w.heap.size w w' := by
  rw [fv_iff] at h g
  have m1 := mul_bd31 (a := a) (b := c) (by omega) (by omega) (by omega) (by omega)
  have m2 := mul_bd31 (a := a) (b := d) (by omega) (by omega) (by omega) (by omega)
  have m3 := mul_bd31 (a := b) (b := c) (by omega) (by omega) (by omega) (by omega)
  have m4 := mul_bd31 (a := b) (b := d) (by omega) (by omega) (by omega) (by omega)
  have s1 : wrap64 (a * c) = a * c := IntWalk.wrap64_in _ (by omega)
  have s2 : wrap64 (a * d) = a * d := IntWalk.wrap64_in _ (by omega)
  have s3 : wrap64 (b * c) = b * c := IntWalk.wrap64_in _ (by omega)
  have s4 : wrap64 (b * d) = b * d := IntWalk.wrap64_in _ (by omega)
  clear h g
  obtain ⟨x, hx⟩ : ∃ p, a * c = p := ⟨_, rfl⟩
  obtain ⟨y, hy⟩ : ∃ p, a * d = p := ⟨_, rfl⟩
  obtain ⟨z, hz⟩ : ∃ p, b * c = p := ⟨_, rfl⟩
  obtain ⟨u, hu⟩ : ∃ p, b * d = p := ⟨_, rfl⟩
  rw [hx] at s1 m1 ⊢
  rw [hy] at s2 m2 ⊢
  rw [hz] at s3 m3 ⊢
  rw [hu] at s4 m4 ⊢
  have KL := Lib.hid (fun W => rFloor_any (min x (min y (min z u))) W (by omega) (by omega))
  have KC := Lib.hid (fun W => rCeil_any (max x (max y (max z u))) W (by omega) (by omega))
  have M1 := Lib.hid (fun W => rLeast_any x y W)
  have M2 := Lib.hid (fun W => rLeast_any z u W)
  have M3 := Lib.hid (fun W => rLeast_any (min x y) (min z u) W)
  have M4 := Lib.hid (fun W => rMost_any x y W)
  have M5 := Lib.hid (fun W => rMost_any z u W)
  have M6 := Lib.hid (fun W => rMost_any (max x y) (max z u) W)
  rw [Int.min_assoc] at M3
  rw [Int.max_assoc] at M6
  clear m1 m2 m3 m4
  have hpq : min x (min y (min z u)) / 1073741824 ≤ -(-(max x (max y (max z u))) / 1073741824) := by omega
  generalize hl : min x (min y (min z u)) / 1073741824 = p at *
  generalize hh : -(-(max x (max y (max z u))) / 1073741824) = q at *
  clear hl hh
  have KF := Lib.hid (fun W => rfit_any p q W hpq)
  unfold fitV at *
  generalize fvB p q = s at *
  cases s
  all_goals
    simp only [Bool.false_eq_true, if_false, if_true] at *
    go_enter Tryz.func184, Tryz.ntmps184
    go_wp2
    go_quiet (fail)
    go_wp2_with (first
      | (go_at_call 230; (first | (with_reducible refine (M1.out _).mono ?_) | (with_reducible refine (M2.out _).mono ?_) | (with_reducible refine (M3.out _).mono ?_)); rintro e w3 ⟨rfl, rfl⟩)
      | (go_at_call 231; (first | (with_reducible refine (M4.out _).mono ?_) | (with_reducible refine (M5.out _).mono ?_) | (with_reducible refine (M6.out _).mono ?_)); rintro e w3 ⟨rfl, rfl⟩)
      | (go_at_call 232; (with_reducible refine (KL.out _).mono ?_); rintro e w3 ⟨rfl, rfl⟩)
      | (go_at_call 233; (with_reducible refine (KC.out _).mono ?_); rintro e w3 ⟨rfl, rfl⟩)
      | fail)
    (with_reducible refine (KF.out _).mono ?_)
    rintro e w2 ⟨rfl, hb2⟩
    rename_i nq _ _ _ _
    obtain ⟨hbl2, A1, B1, C1⟩ := three_D2 ((bl_drewN (Below.refl _ _) nq).trans hb2)
    obtain ⟨rt, r0, r1, rf0, rf1⟩ := C1
    clear hb2 A1 B1
    go_wp2
    first
      | refine bodyPost_ret (v := .tuple #[.agg #[.int .i64 p, .int .i64 q], .int .i64 0]) (by simp [results, Tryz.results184, go_sem, *]; done) rfl ⟨rfl, ?_⟩
      | refine bodyPost_ret (v := .tuple #[.agg #[.int .i64 0, .int .i64 0], .int .i64 5]) (by simp [results, Tryz.results184, go_sem, *]; done) rfl ⟨rfl, ?_⟩
    exact (hbl2.setCell (by simp; omega) _).setCell (by simp; omega) _
end Go.Proofs.YtifdgdgfmjfbdaaGreat
namespace Go.Proofs.YtifdgdgfmjfbdaaGreat.Trig
theorem hi_upF {n : Int} (h0 : 0 ≤ n) (h1 : n ≤ 5400000) : hiB n = upF n := by
  have e : sth n = false := by unfold sth; rw [decide_eq_false_iff_not]; omega
  have q : qrt n = n := by unfold qrt; omega
  unfold hiB; rw [e, q]; rfl
theorem hi_sF {n : Int} (h0 : 0 < n) (h1 : n ≤ 5400000) : hiB (-n) = - sF n := by
  have e : sth (-n) = true := by unfold sth; rw [decide_eq_true_eq]; omega
  have q : qrt (-n) = n := by unfold qrt; omega
  unfold hiB; rw [e, q]; rfl
theorem hiB_neg {n : Int} (h0 : -5400000 ≤ n) (h1 : n ≤ 5400000) : hiB (-n) = - loB n := by
  rcases Int.lt_trichotomy n 0 with g | g | g
  · have h2 := low_upF (n := -n) (by omega) (by omega)
    rw [Int.neg_neg] at h2
    rw [h2, hi_upF (by omega) (by omega)]; omega
  · subst g; decide +kernel
  · rw [hi_sF g h1, low_sF (by omega) h1]
theorem hiB_mono {a b : Int} (h0 : -5400000 ≤ a) (h : a ≤ b) (h1 : b ≤ 5400000) : hiB a ≤ hiB b := by
  have h2 := loB_mono (a := -b) (b := -a) (by omega) (by omega) (by omega)
  have ea := hiB_neg (n := -a) (by omega) (by omega)
  have eb := hiB_neg (n := -b) (by omega) (by omega)
  rw [Int.neg_neg] at ea eb
  omega
/-- r is the greatest angle whose sine is at most v -/
structure IsAsn (v r : Int) : Prop where
  lo : -5400000 ≤ r
  hi : r ≤ 5400000
  le : hiB r ≤ v
  gt : r < 5400000 → v < hiB (r + 1)
theorem IsAsn.unique {v r s : Int} (h : IsAsn v r) (k : IsAsn v s) : r = s := by
  rcases Int.lt_trichotomy r s with g | g | g
  · have h1 := h.gt (by have := k.hi; omega)
    have h2 := hiB_mono (a := r + 1) (b := s) (by have := h.lo; omega) (by omega) k.hi
    have := k.le
    omega
  · exact g
  · have h1 := k.gt (by have := h.hi; omega)
    have h2 := hiB_mono (a := s + 1) (b := r) (by have := k.lo; omega) (by omega) h.hi
    have := h.le
    omega
open Classical in
noncomputable def asnV (v : Int) : Int := if h : ∃ r, IsAsn v r then h.choose else 0
theorem asn_is {v r : Int} (h : IsAsn v r) : r = asnV v := by
  have hx : ∃ r, IsAsn v r := ⟨r, h⟩
  unfold asnV
  rw [dif_pos hx]
  exact h.unique hx.choose_spec
theorem hiB_south : hiB (-5400000) = -1073741824 := by decide +kernel
theorem asn_bd (v : Int) : -5400000 ≤ asnV v ∧ asnV v ≤ 5400000 := by
  unfold asnV
  split
  · rename_i h; exact ⟨h.choose_spec.lo, h.choose_spec.hi⟩
  · omega
/-- what the comparison of a sine with a number says -/
def BelP (h v s : Int) : Prop := (h ≤ v → s ≤ 0) ∧ (v < h → 0 < s)
end Go.Proofs.YtifdgdgfmjfbdaaGreat.Trig
namespace Go.Proofs.YtifdgdgfmjfbdaaGreat
open Go.RowKit
set_option maxHeartbeats 2000000 in
theorem Below_any (n v : Int) (w : World) : Calls Tryz.prog 210 #[.int .i64 n, .int .i64 v] w fun e w' => (∃ s : Int, e = .returned (.int .i64 s) ∧ Trig.BelP (Trig.hiB n) v s) ∧ Below w.heap.size w w' := by
  have KB := Lib.hid (fun W => bounds_any n W)
  have hl := Trig.hiB_lo n
  generalize Trig.loB n = lo at *
  generalize Trig.hiB n = hi at *
  have ret : ∀ (s : Int) (w1 : World), Below w.heap.size w w1 → (hi ≤ v → s ≤ 0) → (v < hi → 0 < s) → (∃ s' : Int, Ending.returned (.int .i64 s) = .returned (.int .i64 s') ∧ Trig.BelP hi v s') ∧ Below w.heap.size w w1 := fun s w1 hb h1 h2 => ⟨⟨s, rfl, h1, h2⟩, hb⟩
  by_cases hA : hi ≤ v ∧ lo < v
  · obtain ⟨a1, a2⟩ := hA
    go_enter Tryz.func210, Tryz.ntmps210
    go_wp2_with fail
    (with_reducible refine (KB.out _).mono ?_)
    rintro e w1 ⟨rfl, hb1⟩
    go_wp2
    go_ret
    exact ret (-1) _ hb1 (fun _ => by decide) (fun h => by omega)
  · by_cases hB : v ≤ lo ∧ v < hi
    · obtain ⟨a1, a2⟩ := hB
      have a3 : ¬ hi ≤ v := by omega
      clear hA
      go_enter Tryz.func210, Tryz.ntmps210
      go_wp2_with fail
      (with_reducible refine (KB.out _).mono ?_)
      rintro e w1 ⟨rfl, hb1⟩
      go_wp2
      go_ret
      exact ret 1 _ hb1 (fun h => by omega) (fun _ => by decide)
    · obtain rfl : lo = v := by omega
      obtain rfl : hi = lo := by omega
      clear hA hB hl
      have a1 : ¬ hi < hi := by omega
      go_enter Tryz.func210, Tryz.ntmps210
      go_wp2_with fail
      (with_reducible refine (KB.out _).mono ?_)
      rintro e w1 ⟨rfl, hb1⟩
      go_wp2
      go_ret
      exact ret 0 _ hb1 (fun _ => by decide) (fun h => by omega)
set_option maxHeartbeats 2000000 in
/-- the greatest angle whose sine is at most a number -/
theorem asin_any (v : Int) (w : World) (h0 : -1073741824 ≤ v) : Calls Tryz.prog 153 #[.int .i64 v] w fun e w' => e = .returned (.int .i64 (Trig.asnV v)) ∧ Below w.heap.size w w' := by
  have KB := Lib.hid (fun n W => Below_any n v W)
  have HS : Hid (Trig.hiB (-5400000) ≤ v) := Lib.hid (by rw [Trig.hiB_south]; exact h0)
  go_enter Tryz.func153, Tryz.ntmps153
  go_wp2
  go_loopw [3, 4] (fun s3 s4 wr => ∃ a b : Int, s3 = .int .i64 a ∧ s4 = .int .i64 b ∧ -5400000 ≤ a ∧ a < b ∧ b ≤ 5400001 ∧ Trig.hiB a ≤ v ∧ (b ≤ 5400000 → v < Trig.hiB b) ∧ Below w.heap.size w wr) (fun s3 s4 _ => (intOf s4 - intOf s3).toNat)
  case atStart => exact ⟨-5400000, 5400001, rfl, rfl, by decide, by decide, by decide, HS.out, fun h => by omega, Below.refl _ _⟩
  case round =>
    obtain ⟨a, b, rfl, rfl, ha, hab, hb, hle, hgt, hbl⟩ := hrel
    have HLE := Lib.hid hle
    have HGT := Lib.hid hgt
    have HB := Lib.hid hbl
    clear hle hgt hbl
    by_cases hlt : 1 < b - a
    · obtain ⟨m, hm⟩ : ∃ m : Int, (a + b) / 2 = m := ⟨_, rfl⟩
      have hm1 : a < m ∧ m < b := by omega
      go_wp2_with fail
      (with_reducible refine (KB.out m _).mono ?_)
      rintro e w5 ⟨⟨s, rfl, hs1, hs2⟩, hb5⟩
      have B5 := Lib.hid (HB.out.trans (hb5.mono HB.out.size))
      by_cases hv : Trig.hiB m ≤ v
      · have hs := hs1 hv
        clear hs1 hs2
        go_wp2
        go_roundw
        case rel => exact ⟨m, b, rfl, rfl, by omega, by omega, hb, hv, HGT.out, B5.out⟩
        case measure => simp [intOf]; omega
      · have hs := hs2 (by omega)
        clear hs1 hs2
        go_wp2
        go_roundw
        case rel => exact ⟨a, m, rfl, rfl, ha, by omega, by omega, HLE.out, fun _ => by omega, B5.out⟩
        case measure => simp [intOf]; omega
    · obtain rfl : b = a + 1 := by omega
      have hr : a = Trig.asnV v := Trig.asn_is ⟨ha, by omega, HLE.out, fun h => HGT.out (by omega)⟩
      have HRR := Lib.hid hr
      clear hr
      go_wp2
      go_ret
      exact ⟨ret_int HRR.out, HB.out⟩
end Go.Proofs.YtifdgdgfmjfbdaaGreat
namespace Go.Proofs.YtifdgdgfmjfbdaaGreat
open Go.RowKit
set_option maxHeartbeats 1000000 in
set_option maxRecDepth 100000 in
theorem apart_any (lo hi L H : Int) (w : World) : Calls Tryz.prog 152 #[.agg #[.int .i64 lo, .int .i64 hi], .int .i64 L, .int .i64 H] w fun e w' => e = .returned (.tuple #[.agg #[.int .i64 (max lo L), .int .i64 (min hi H)], .bool (decide (max lo L ≤ min hi H))]) ∧ Below w.heap.size w w' := by
  obtain ⟨p, hp⟩ : ∃ p, max lo L = p := ⟨_, rfl⟩
  obtain ⟨q, hq⟩ : ∃ q, min hi H = q := ⟨_, rfl⟩
  rw [hp, hq]
  go_enter Tryz.func152, Tryz.ntmps152
  go_upto_region 2 with (fail)
  go_region_held3 (fun w' => w'.cell? ⟨w.heap.size, 0, none⟩ = some (.int .i64 p) ∧ w'.cell? ⟨w.heap.size, 1, none⟩ = some (.int .i64 q)) (simp) (fail)
  all_goals
    go_wp2
    refine bodyPost_ret (v := .tuple #[.agg #[.int .i64 p, .int .i64 q], .bool (decide (p ≤ q))]) (by simp [results, Tryz.results152, go_sem, *]; done) rfl ⟨rfl, ?_⟩
    repeat (first | exact Below.refl _ _ | assumption | refine bl_drew ?_ | refine bl_drewN ?_ _ | refine Below.setCell ?_ (by first | assumption | omega | (simp; done) | (simp; omega)) _ | refine Below.alloc ?_ (by first | assumption | omega | (simp; done) | (simp; omega)) _)
theorem first_b {W w9 : World} (h : Below W.drew.heap.size W.drew w9) : Below W.heap.size W w9 := (bl_drew (Below.refl _ _)).trans h
set_option maxHeartbeats 1000000 in
set_option maxRecDepth 100000 in
/-- the program's Asin of a valid interval that meets the sines -/
theorem Asin_yes (lo hi : Int) (w : World) (h0 : -2147483648 ≤ lo) (h1 : lo ≤ hi) (h2 : hi ≤ 2147483648) (h3 : lo ≤ 1073741824) (h4 : -1073741824 ≤ hi) :
    Calls Tryz.prog 89 #[.agg #[.int .i64 lo, .int .i64 hi]] w fun e w' => e = .returned (.tuple #[.agg #[.int .i64 (Trig.asnV (max lo (-1073741824))), .int .i64 (-Trig.asnV (-(min hi 1073741824)))], .int .i64 0]) ∧ Below w.heap.size w w' := by
  have KV := fun W => fValid_any lo hi W
  rw [show fvB lo hi = true by unfold fvB; rw [decide_eq_true_eq]; exact ⟨h0, h1, h2⟩] at KV
  have KV := Lib.hid KV
  have KP := fun W => apart_any lo hi (-1073741824) 1073741824 W
  obtain ⟨p, hp⟩ : ∃ p, max lo (-1073741824) = p := ⟨_, rfl⟩
  obtain ⟨q, hq⟩ : ∃ q, min hi 1073741824 = q := ⟨_, rfl⟩
  rw [hp, hq]
  simp only [hp, hq] at KP
  rw [show decide (p ≤ q) = true by rw [decide_eq_true_eq]; omega] at KP
  have KP := Lib.hid KP
  have K1 := Lib.hid (fun W => asin_any p W (by omega))
  have K2 := Lib.hid (fun W => asin_any (-q) W (by omega))
  have hb1 := Trig.asn_bd p
  have hb2 := Trig.asn_bd (-q)
  obtain ⟨r1, hr1⟩ : ∃ r, Trig.asnV p = r := ⟨_, rfl⟩
  obtain ⟨r2, hr2⟩ : ∃ r, Trig.asnV (-q) = r := ⟨_, rfl⟩
  rw [hr1] at K1 hb1 ⊢
  rw [hr2] at K2 hb2 ⊢
  have hpq : -1073741824 ≤ p ∧ p ≤ 1073741824 ∧ -1073741824 ≤ q ∧ q ≤ 1073741824 := by omega
  clear hp hq h0 h1 h2 h3 h4 hr1 hr2
  have T1 := Lib.hid ((D2.new w lo hi 97).alloc (.cells #[.int .i64 0, .int .i64 0] 29))
  have T2 : Hid (D2 ((w.alloc (.cells #[.int .i64 lo, .int .i64 hi] 97)).alloc (.cells #[.int .i64 0, .int .i64 0] 29)) (w.heap.size + 1) 0 0) := Lib.hid (by
    have := D2.new (w.alloc (.cells #[.int .i64 lo, .int .i64 hi] 97)) 0 0 29
    rwa [World.size_alloc] at this)
  have B0 := Lib.hid ((bl_alloc w (.cells #[.int .i64 lo, .int .i64 hi] 97)).alloc (by simp) (.cells #[.int .i64 0, .int .i64 0] 29))
  go_enter Tryz.func89, Tryz.ntmps89
  go_wp2_with fail
  (with_reducible refine (KV.out _).mono ?_)
  rintro e w1 ⟨rfl, hb1⟩
  have T1 := Lib.hid (T1.out.below hb1 T1.out.lt)
  have T2 := Lib.hid (T2.out.below hb1 T2.out.lt)
  have B0 := Lib.hid (B0.out.trans (hb1.mono B0.out.size))
  clear hb1 KV
  obtain ⟨at1, a0, a1, af0, af1⟩ := T1.out
  go_wp2_with fail
  (with_reducible refine (KP.out _).mono ?_)
  rintro e w2 ⟨rfl, hb2⟩
  have T1 := Lib.hid (T1.out.below hb2 T1.out.lt)
  have T2 := Lib.hid (T2.out.below hb2 T2.out.lt)
  have B0 := Lib.hid (B0.out.trans (hb2.mono B0.out.size))
  clear hb2 KP at1 a0 a1 af0 af1
  obtain ⟨at1, a0, a1, af0, af1⟩ := T1.out
  have hn1 : ¬ w.heap.size + 1 = w.heap.size := by omega
  go_upto_region 6 with (fail)
  clear at1 a0 a1 af0 af1
  obtain ⟨W3, hW3⟩ : ∃ W3, (w2.setCell ⟨w.heap.size, 0, none⟩ (.int .i64 p)).setCell ⟨w.heap.size, 1, none⟩ (.int .i64 q) = W3 := ⟨_, rfl⟩
  have T1 := Lib.hid ((T1.out.set0 p).set1 q)
  have T2 := Lib.hid ((T2.out.far (p := ⟨w.heap.size, 0, none⟩) hn1 (.int .i64 p)).far (p := ⟨w.heap.size, 1, none⟩) hn1 (.int .i64 q))
  have B0 := Lib.hid ((B0.out.setCell (p := ⟨w.heap.size, 0, none⟩) (Nat.le_refl _) (.int .i64 p)).setCell (p := ⟨w.heap.size, 1, none⟩) (Nat.le_refl _) (.int .i64 q))
  rw [hW3] at T1 T2 B0
  simp only [hW3]
  clear hW3
  obtain ⟨at1, a0, a1, -, -⟩ := T1.out
  have hw1 : IntKind.i64.wrap (-q) = -q := IntWalk.i64_in _ (by omega)
  have hw2 : IntKind.i64.wrap (-r2) = -r2 := IntWalk.i64_in _ (by omega)
  go_region_held3 (fun w' => w'.cell? ⟨w.heap.size, 0, none⟩ = some (.int .i64 p) ∧ w'.cell? ⟨w.heap.size, 1, none⟩ = some (.int .i64 q)) (simp [*]) (first
    | (go_at_call 153; (first | (with_reducible refine (K1.out _).mono ?_) | (with_reducible refine (K2.out _).mono ?_)); rintro e w9 ⟨rfl, hb9⟩; (first | (replace hb9 := first_b hb9) | skip); have B0 := Lib.hid (B0.out.trans (hb9.mono B0.out.size)); have T1 := Lib.hid (T1.out.below hb9 T1.out.lt); have T2 := Lib.hid (T2.out.below hb9 T2.out.lt); obtain ⟨at9, a09, a19, -, -⟩ := T1.out; obtain ⟨bt9, b09, b19, bf09, bf19⟩ := T2.out; have e9 := fun (i : Nat) (u v : Value) => (World.cell?_setCell_other (w9.setCell ⟨w.heap.size + 1, 0, none⟩ u) ⟨w.heap.size + 1, 1, none⟩ ⟨w.heap.size, i, none⟩ v (fun e => hn1 (by injection e))).trans (World.cell?_setCell_other w9 ⟨w.heap.size + 1, 0, none⟩ ⟨w.heap.size, i, none⟩ u (fun e => hn1 (by injection e))))
    | fail)
  all_goals
    go_wp2
    refine bodyPost_ret (v := .tuple #[.agg #[.int .i64 r1, .int .i64 (-r2)], .int .i64 0]) (by simp [results, Tryz.results89, go_sem, *]; done) rfl ⟨rfl, ?_⟩
    exact (B0.out.setCell (by simp) _).setCell (by simp) _
end Go.Proofs.YtifdgdgfmjfbdaaGreat
