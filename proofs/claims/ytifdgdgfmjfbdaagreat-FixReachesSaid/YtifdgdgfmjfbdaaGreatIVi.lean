/- The walks of cosine's chain of operations, where nothing fails. -/
import Derived.Deep.RegionHeld3
import Derived.Test.YtifdgdgfmjfbdaaGreatIUk
import Derived.Test.YtifdgdgfmjfbdaaGreatITf
set_option linter.unusedVariables false
set_option linter.unusedSimpArgs false
namespace Go.Proofs.YtifdgdgfmjfbdaaGreat
open Go.RowKit
set_option maxHeartbeats 2000000 in
theorem fAdd_any (a b c d : Int) (w : World) (h : fvB a b = true) (g : fvB c d = true) : Calls Tryz.prog 97 #[.agg #[.int .i64 a, .int .i64 b], .agg #[.int .i64 c, .int .i64 d]] w fun e w' => e = .returned (fitV (a + c) (b + d)) ∧ Below w.heap.size w w' := by
  have KB := Lib.hid (fun W => both_any a b c d W h g)
  have KF := Lib.hid (fun W => ffit_any (a + c) (b + d) W)
  rw [fv_iff] at h g
  have s1 : wrap64 (a + c) = a + c := IntWalk.wrap64_in _ (by omega)
  have s2 : wrap64 (b + d) = b + d := IntWalk.wrap64_in _ (by omega)
  clear h g
  unfold fitV at *
  generalize fvB (a + c) (b + d) = s at *
  obtain ⟨p, hp⟩ : ∃ p, a + c = p := ⟨_, rfl⟩
  obtain ⟨q, hq⟩ : ∃ q, b + d = q := ⟨_, rfl⟩
  rw [hp] at s1 KF ⊢
  rw [hq] at s2 KF ⊢
  cases s
  all_goals
    simp only [Bool.false_eq_true, if_false, if_true] at *
    go_enter Tryz.func97, Tryz.ntmps97
    go_wp2_with fail
    (with_reducible refine (KB.out _).mono ?_)
    rintro e w1 ⟨rfl, hb1⟩
    obtain ⟨hbl1, A1, B1, C1⟩ := three_D2 hb1
    replace C1 := Lib.hid C1
    obtain ⟨at1, a1, a2, af1, af2⟩ := A1
    obtain ⟨bt1, b1, b2, bf1, bf2⟩ := B1
    clear hb1
    go_wp2_with fail
    (with_reducible refine (KF.out _).mono ?_)
    rintro e w2 ⟨rfl, hb2⟩
    have hbl2 := hbl1.trans (hb2.mono hbl1.size)
    have R2 := Lib.hid (C1.out.below hb2 C1.out.lt)
    obtain ⟨rt, r0, r1, rf0, rf1⟩ := R2.out
    clear hb2
    go_wp2
    first
      | refine bodyPost_ret (v := .tuple #[.agg #[.int .i64 p, .int .i64 q], .int .i64 0]) (by simp [results, Tryz.results97, go_sem, *]; done) rfl ⟨rfl, ?_⟩
      | refine bodyPost_ret (v := .tuple #[.agg #[.int .i64 0, .int .i64 0], .int .i64 5]) (by simp [results, Tryz.results97, go_sem, *]; done) rfl ⟨rfl, ?_⟩
    exact (hbl2.setCell (by simp; omega) _).setCell (by simp; omega) _
theorem min_e (x y : Int) : (if y < x then y else x) = min x y := by rw [Int.min_def]; split <;> split <;> omega
theorem max_e (x y : Int) : (if y > x then y else x) = max x y := by rw [Int.max_def]; split <;> split <;> omega
@[go_sem high] theorem run_min4 {P : Program} (w : World) (ts : Array TypeId) (t : TypeId) (x y z u : Int) :
    (Builtin.min_ ts t #[.int .i64 x, .int .i64 y, .int .i64 z, .int .i64 u]).run P w = .ok (.int .i64 (min x (min y (min z u)))) w := by
  simp [Builtin.min_, Builtin.min2, min_e, Int.min_assoc]
@[go_sem high] theorem run_max4 {P : Program} (w : World) (ts : Array TypeId) (t : TypeId) (x y z u : Int) :
    (Builtin.max_ ts t #[.int .i64 x, .int .i64 y, .int .i64 z, .int .i64 u]).run P w = .ok (.int .i64 (max x (max y (max z u)))) w := by
  simp [Builtin.max_, Builtin.max2, max_e, Int.max_assoc]
set_option maxHeartbeats 4000000 in
theorem fMul_any (a b c d : Int) (w : World) (h : fvB a b = true) (g : fvB c d = true) : Calls Tryz.prog 99 #[.agg #[.int .i64 a, .int .i64 b], .agg #[.int .i64 c, .int .i64 d]] w fun e w' => e = .returned (fitV (min (a * c) (min (a * d) (min (b * c) (b * d))) / 1073741824) (-(-(max (a * c) (max (a * d) (max (b * c) (b * d)))) / 1073741824))) ∧ Below w.heap.size w w' := by
  have KB := Lib.hid (fun W => both_any a b c d W h g)
  rw [fv_iff] at h g
  have m1 := mul_bd31 (a := a) (b := c) (by omega) (by omega) (by omega) (by omega)
  have m2 := mul_bd31 (a := a) (b := d) (by omega) (by omega) (by omega) (by omega)
  have m3 := mul_bd31 (a := b) (b := c) (by omega) (by omega) (by omega) (by omega)
  have m4 := mul_bd31 (a := b) (b := d) (by omega) (by omega) (by omega) (by omega)
  have s1 : wrap64 (a * c) = a * c := IntWalk.wrap64_in _ (by omega)
  have s2 : wrap64 (a * d) = a * d := IntWalk.wrap64_in _ (by omega)
  have s3 : wrap64 (b * c) = b * c := IntWalk.wrap64_in _ (by omega)
  have s4 : wrap64 (b * d) = b * d := IntWalk.wrap64_in _ (by omega)
  clear h g
  obtain ⟨x, hx⟩ : ∃ p, a * c = p := ⟨_, rfl⟩
  obtain ⟨y, hy⟩ : ∃ p, a * d = p := ⟨_, rfl⟩
  obtain ⟨z, hz⟩ : ∃ p, b * c = p := ⟨_, rfl⟩
  obtain ⟨u, hu⟩ : ∃ p, b * d = p := ⟨_, rfl⟩
  rw [hx] at s1 m1 ⊢
  rw [hy] at s2 m2 ⊢
  rw [hz] at s3 m3 ⊢
  rw [hu] at s4 m4 ⊢
  have KL := Lib.hid (fun W => ffloor_any (min x (min y (min z u))) W (by omega) (by omega))
  have KC := Lib.hid (fun W => fceil_any (max x (max y (max z u))) W (by omega) (by omega))
  clear m1 m2 m3 m4
  generalize hl : min x (min y (min z u)) / 1073741824 = p at *
  generalize hh : -(-(max x (max y (max z u))) / 1073741824) = q at *
  clear hl hh
  have KF := Lib.hid (fun W => ffit_any p q W)
  unfold fitV at *
  generalize fvB p q = s at *
  cases s
  all_goals
    simp only [Bool.false_eq_true, if_false, if_true] at *
    go_enter Tryz.func99, Tryz.ntmps99
    go_wp2_with fail
    (with_reducible refine (KB.out _).mono ?_)
    rintro e w1 ⟨rfl, hb1⟩
    obtain ⟨hbl1, A1, B1, C1⟩ := three_D2 hb1
    replace C1 := Lib.hid C1
    obtain ⟨at1, a1, a2, af1, af2⟩ := A1
    obtain ⟨bt1, b1, b2, bf1, bf2⟩ := B1
    clear hb1
    go_wp2
    go_quiet (fail)
    go_wp2_with fail
    (with_reducible refine (KL.out _).mono ?_)
    rintro e w3 ⟨rfl, rfl⟩
    go_wp2_with fail
    (with_reducible refine (KC.out _).mono ?_)
    rintro e w4 ⟨rfl, rfl⟩
    go_wp2_with fail
    (with_reducible refine (KF.out _).mono ?_)
    rintro e w2 ⟨rfl, hb2⟩
    rename_i nq _ _ _ _
    have hb3 := (bl_drewN (Below.refl _ w1) nq).trans hb2
    have hbl2 := hbl1.trans (hb3.mono hbl1.size)
    have R2 := Lib.hid (C1.out.below hb3 C1.out.lt)
    obtain ⟨rt, r0, r1, rf0, rf1⟩ := R2.out
    clear hb2 hb3
    go_wp2
    first
      | refine bodyPost_ret (v := .tuple #[.agg #[.int .i64 p, .int .i64 q], .int .i64 0]) (by simp [results, Tryz.results99, go_sem, *]; done) rfl ⟨rfl, ?_⟩
      | refine bodyPost_ret (v := .tuple #[.agg #[.int .i64 0, .int .i64 0], .int .i64 5]) (by simp [results, Tryz.results99, go_sem, *]; done) rfl ⟨rfl, ?_⟩
    exact (hbl2.setCell (by simp; omega) _).setCell (by simp; omega) _
end Go.Proofs.YtifdgdgfmjfbdaaGreat
namespace Go.Proofs.YtifdgdgfmjfbdaaGreat.Trig
theorem hi_upF {n : Int} (h0 : 0 ≤ n) (h1 : n ≤ 5400000) : hiB n = upF n := by
  have e : sth n = false := by unfold sth; rw [decide_eq_false_iff_not]; omega
  have q : qrt n = n := by unfold qrt; omega
  unfold hiB; rw [e, q]; rfl
theorem hi_sF {n : Int} (h0 : 0 < n) (h1 : n ≤ 5400000) : hiB (-n) = - sF n := by
  have e : sth (-n) = true := by unfold sth; rw [decide_eq_true_eq]; omega
  have q : qrt (-n) = n := by unfold qrt; omega
  unfold hiB; rw [e, q]; rfl
theorem hiB_neg {n : Int} (h0 : -5400000 ≤ n) (h1 : n ≤ 5400000) : hiB (-n) = - loB n := by
  rcases Int.lt_trichotomy n 0 with g | g | g
  · have h2 := low_upF (n := -n) (by omega) (by omega)
    rw [Int.neg_neg] at h2
    rw [h2, hi_upF (by omega) (by omega)]; omega
  · subst g; decide +kernel
  · rw [hi_sF g h1, low_sF (by omega) h1]
theorem hiB_mono {a b : Int} (h0 : -5400000 ≤ a) (h : a ≤ b) (h1 : b ≤ 5400000) : hiB a ≤ hiB b := by
  have h2 := loB_mono (a := -b) (b := -a) (by omega) (by omega) (by omega)
  have ea := hiB_neg (n := -a) (by omega) (by omega)
  have eb := hiB_neg (n := -b) (by omega) (by omega)
  rw [Int.neg_neg] at ea eb
  omega
/-- r is the greatest angle whose sine is at most v -/
structure IsAsn (v r : Int) : Prop where
  lo : -5400000 ≤ r
  hi : r ≤ 5400000
  le : hiB r ≤ v
  gt : r < 5400000 → v < hiB (r + 1)
theorem IsAsn.unique {v r s : Int} (h : IsAsn v r) (k : IsAsn v s) : r = s := by
  rcases Int.lt_trichotomy r s with g | g | g
  · have h1 := h.gt (by have := k.hi; omega)
    have h2 := hiB_mono (a := r + 1) (b := s) (by have := h.lo; omega) (by omega) k.hi
    have := k.le
    omega
  · exact g
  · have h1 := k.gt (by have := h.hi; omega)
    have h2 := hiB_mono (a := s + 1) (b := r) (by have := k.lo; omega) (by omega) h.hi
    have := h.le
    omega
open Classical in
noncomputable def asnV (v : Int) : Int := if h : ∃ r, IsAsn v r then h.choose else 0
theorem asn_is {v r : Int} (h : IsAsn v r) : r = asnV v := by
  have hx : ∃ r, IsAsn v r := ⟨r, h⟩
  unfold asnV
  rw [dif_pos hx]
  exact h.unique hx.choose_spec
theorem hiB_south : hiB (-5400000) = -1073741824 := by decide +kernel
theorem asn_bd (v : Int) : -5400000 ≤ asnV v ∧ asnV v ≤ 5400000 := by
  unfold asnV
  split
  · rename_i h; exact ⟨h.choose_spec.lo, h.choose_spec.hi⟩
  · omega
/-- what the comparison of a sine with a number says -/
def BelP (h v s : Int) : Prop := (h ≤ v → s ≤ 0) ∧ (v < h → 0 < s)
end Go.Proofs.YtifdgdgfmjfbdaaGreat.Trig
namespace Go.Proofs.YtifdgdgfmjfbdaaGreat
open Go.RowKit
set_option maxHeartbeats 2000000 in
theorem Below_any (n v : Int) (w : World) : Calls Tryz.prog 210 #[.int .i64 n, .int .i64 v] w fun e w' => (∃ s : Int, e = .returned (.int .i64 s) ∧ Trig.BelP (Trig.hiB n) v s) ∧ Below w.heap.size w w' := by
  have KB := Lib.hid (fun W => bounds_any n W)
  have hl := Trig.hiB_lo n
  generalize Trig.loB n = lo at *
  generalize Trig.hiB n = hi at *
  have ret : ∀ (s : Int) (w1 : World), Below w.heap.size w w1 → (hi ≤ v → s ≤ 0) → (v < hi → 0 < s) → (∃ s' : Int, Ending.returned (.int .i64 s) = .returned (.int .i64 s') ∧ Trig.BelP hi v s') ∧ Below w.heap.size w w1 := fun s w1 hb h1 h2 => ⟨⟨s, rfl, h1, h2⟩, hb⟩
  by_cases hA : hi ≤ v ∧ lo < v
  · obtain ⟨a1, a2⟩ := hA
    go_enter Tryz.func210, Tryz.ntmps210
    go_wp2_with fail
    (with_reducible refine (KB.out _).mono ?_)
    rintro e w1 ⟨rfl, hb1⟩
    go_wp2
    go_ret
    exact ret (-1) _ hb1 (fun _ => by decide) (fun h => by omega)
  · by_cases hB : v ≤ lo ∧ v < hi
    · obtain ⟨a1, a2⟩ := hB
      have a3 : ¬ hi ≤ v := by omega
      clear hA
      go_enter Tryz.func210, Tryz.ntmps210
      go_wp2_with fail
      (with_reducible refine (KB.out _).mono ?_)
      rintro e w1 ⟨rfl, hb1⟩
      go_wp2
      go_ret
      exact ret 1 _ hb1 (fun h => by omega) (fun _ => by decide)
    · obtain rfl : lo = v := by omega
      obtain rfl : hi = lo := by omega
      clear hA hB hl
      have a1 : ¬ hi < hi := by omega
      go_enter Tryz.func210, Tryz.ntmps210
      go_wp2_with fail
      (with_reducible refine (KB.out _).mono ?_)
      rintro e w1 ⟨rfl, hb1⟩
      go_wp2
      go_ret
      exact ret 0 _ hb1 (fun _ => by decide) (fun h => by omega)
set_option maxHeartbeats 2000000 in
/-- the greatest angle whose sine is at most a number -/
theorem asin_any (v : Int) (w : World) (h0 : -1073741824 ≤ v) : Calls Tryz.prog 153 #[.int .i64 v] w fun e w' => e = .returned (.int .i64 (Trig.asnV v)) ∧ Below w.heap.size w w' := by
  have KB := Lib.hid (fun n W => Below_any n v W)
  have HS : Hid (Trig.hiB (-5400000) ≤ v) := Lib.hid (by rw [Trig.hiB_south]; exact h0)
  go_enter Tryz.func153, Tryz.ntmps153
  go_wp2
  go_loopw [3, 4] (fun s3 s4 wr => ∃ a b : Int, s3 = .int .i64 a ∧ s4 = .int .i64 b ∧ -5400000 ≤ a ∧ a < b ∧ b ≤ 5400001 ∧ Trig.hiB a ≤ v ∧ (b ≤ 5400000 → v < Trig.hiB b) ∧ Below w.heap.size w wr) (fun s3 s4 _ => (intOf s4 - intOf s3).toNat)
  case atStart => exact ⟨-5400000, 5400001, rfl, rfl, by decide, by decide, by decide, HS.out, fun h => by omega, Below.refl _ _⟩
  case round =>
    obtain ⟨a, b, rfl, rfl, ha, hab, hb, hle, hgt, hbl⟩ := hrel
    have HLE := Lib.hid hle
    have HGT := Lib.hid hgt
    have HB := Lib.hid hbl
    clear hle hgt hbl
    by_cases hlt : 1 < b - a
    · obtain ⟨m, hm⟩ : ∃ m : Int, (a + b) / 2 = m := ⟨_, rfl⟩
      have hm1 : a < m ∧ m < b := by omega
      go_wp2_with fail
      (with_reducible refine (KB.out m _).mono ?_)
      rintro e w5 ⟨⟨s, rfl, hs1, hs2⟩, hb5⟩
      have B5 := Lib.hid (HB.out.trans (hb5.mono HB.out.size))
      by_cases hv : Trig.hiB m ≤ v
      · have hs := hs1 hv
        clear hs1 hs2
        go_wp2
        go_roundw
        case rel => exact ⟨m, b, rfl, rfl, by omega, by omega, hb, hv, HGT.out, B5.out⟩
        case measure => simp [intOf]; omega
      · have hs := hs2 (by omega)
        clear hs1 hs2
        go_wp2
        go_roundw
        case rel => exact ⟨a, m, rfl, rfl, ha, by omega, by omega, HLE.out, fun _ => by omega, B5.out⟩
        case measure => simp [intOf]; omega
    · obtain rfl : b = a + 1 := by omega
      have hr : a = Trig.asnV v := Trig.asn_is ⟨ha, by omega, HLE.out, fun h => HGT.out (by omega)⟩
      have HRR := Lib.hid hr
      clear hr
      go_wp2
      go_ret
      exact ⟨ret_int HRR.out, HB.out⟩
end Go.Proofs.YtifdgdgfmjfbdaaGreat
namespace Go.Proofs.YtifdgdgfmjfbdaaGreat
open Go.RowKit
set_option maxHeartbeats 1000000 in
set_option maxRecDepth 100000 in
theorem apart_any (lo hi L H : Int) (w : World) : Calls Tryz.prog 152 #[.agg #[.int .i64 lo, .int .i64 hi], .int .i64 L, .int .i64 H] w fun e w' => e = .returned (.tuple #[.agg #[.int .i64 (max lo L), .int .i64 (min hi H)], .bool (decide (max lo L ≤ min hi H))]) ∧ Below w.heap.size w w' := by
  obtain ⟨p, hp⟩ : ∃ p, max lo L = p := ⟨_, rfl⟩
  obtain ⟨q, hq⟩ : ∃ q, min hi H = q := ⟨_, rfl⟩
  rw [hp, hq]
  go_enter Tryz.func152, Tryz.ntmps152
  go_upto_region 2 with (fail)
  go_region_held3 (fun w' => w'.cell? ⟨w.heap.size, 0, none⟩ = some (.int .i64 p) ∧ w'.cell? ⟨w.heap.size, 1, none⟩ = some (.int .i64 q)) (simp) (fail)
  all_goals
    go_wp2
    refine bodyPost_ret (v := .tuple #[.agg #[.int .i64 p, .int .i64 q], .bool (decide (p ≤ q))]) (by simp [results, Tryz.results152, go_sem, *]; done) rfl ⟨rfl, ?_⟩
    repeat (first | exact Below.refl _ _ | assumption | refine bl_drew ?_ | refine bl_drewN ?_ _ | refine Below.setCell ?_ (by first | assumption | omega | (simp; done) | (simp; omega)) _ | refine Below.alloc ?_ (by first | assumption | omega | (simp; done) | (simp; omega)) _)
theorem first_b {W w9 : World} (h : Below W.drew.heap.size W.drew w9) : Below W.heap.size W w9 := (bl_drew (Below.refl _ _)).trans h
set_option maxHeartbeats 1000000 in
set_option maxRecDepth 100000 in
/-- the program's Asin of a valid interval that meets the sines -/
theorem Asin_yes (lo hi : Int) (w : World) (h0 : -2147483648 ≤ lo) (h1 : lo ≤ hi) (h2 : hi ≤ 2147483648) (h3 : lo ≤ 1073741824) (h4 : -1073741824 ≤ hi) :
    Calls Tryz.prog 89 #[.agg #[.int .i64 lo, .int .i64 hi]] w fun e w' => e = .returned (.tuple #[.agg #[.int .i64 (Trig.asnV (max lo (-1073741824))), .int .i64 (-Trig.asnV (-(min hi 1073741824)))], .int .i64 0]) ∧ Below w.heap.size w w' := by
  have KV := fun W => fValid_any lo hi W
  rw [show fvB lo hi = true by unfold fvB; rw [decide_eq_true_eq]; exact ⟨h0, h1, h2⟩] at KV
  have KV := Lib.hid KV
  have KP := fun W => apart_any lo hi (-1073741824) 1073741824 W
  obtain ⟨p, hp⟩ : ∃ p, max lo (-1073741824) = p := ⟨_, rfl⟩
  obtain ⟨q, hq⟩ : ∃ q, min hi 1073741824 = q := ⟨_, rfl⟩
  rw [hp, hq]
  simp only [hp, hq] at KP
  rw [show decide (p ≤ q) = true by rw [decide_eq_true_eq]; omega] at KP
  have KP := Lib.hid KP
  have K1 := Lib.hid (fun W => asin_any p W (by omega))
  have K2 := Lib.hid (fun W => asin_any (-q) W (by omega))
  have hb1 := Trig.asn_bd p
  have hb2 := Trig.asn_bd (-q)
  obtain ⟨r1, hr1⟩ : ∃ r, Trig.asnV p = r := ⟨_, rfl⟩
  obtain ⟨r2, hr2⟩ : ∃ r, Trig.asnV (-q) = r := ⟨_, rfl⟩
  rw [hr1] at K1 hb1 ⊢
  rw [hr2] at K2 hb2 ⊢
  have hpq : -1073741824 ≤ p ∧ p ≤ 1073741824 ∧ -1073741824 ≤ q ∧ q ≤ 1073741824 := by omega
  clear hp hq h0 h1 h2 h3 h4 hr1 hr2
  have T1 := Lib.hid ((D2.new w lo hi 97).alloc (.cells #[.int .i64 0, .int .i64 0] 29))
  have T2 : Hid (D2 ((w.alloc (.cells #[.int .i64 lo, .int .i64 hi] 97)).alloc (.cells #[.int .i64 0, .int .i64 0] 29)) (w.heap.size + 1) 0 0) := Lib.hid (by
    have := D2.new (w.alloc (.cells #[.int .i64 lo, .int .i64 hi] 97)) 0 0 29
    rwa [World.size_alloc] at this)
  have B0 := Lib.hid ((bl_alloc w (.cells #[.int .i64 lo, .int .i64 hi] 97)).alloc (by simp) (.cells #[.int .i64 0, .int .i64 0] 29))
  go_enter Tryz.func89, Tryz.ntmps89
  go_wp2_with fail
  (with_reducible refine (KV.out _).mono ?_)
  rintro e w1 ⟨rfl, hb1⟩
  have T1 := Lib.hid (T1.out.below hb1 T1.out.lt)
  have T2 := Lib.hid (T2.out.below hb1 T2.out.lt)
  have B0 := Lib.hid (B0.out.trans (hb1.mono B0.out.size))
  clear hb1 KV
  obtain ⟨at1, a0, a1, af0, af1⟩ := T1.out
  go_wp2_with fail
  (with_reducible refine (KP.out _).mono ?_)
  rintro e w2 ⟨rfl, hb2⟩
  have T1 := Lib.hid (T1.out.below hb2 T1.out.lt)
  have T2 := Lib.hid (T2.out.below hb2 T2.out.lt)
  have B0 := Lib.hid (B0.out.trans (hb2.mono B0.out.size))
  clear hb2 KP at1 a0 a1 af0 af1
  obtain ⟨at1, a0, a1, af0, af1⟩ := T1.out
  have hn1 : ¬ w.heap.size + 1 = w.heap.size := by omega
  go_upto_region 6 with (fail)
  clear at1 a0 a1 af0 af1
  obtain ⟨W3, hW3⟩ : ∃ W3, (w2.setCell ⟨w.heap.size, 0, none⟩ (.int .i64 p)).setCell ⟨w.heap.size, 1, none⟩ (.int .i64 q) = W3 := ⟨_, rfl⟩
  have T1 := Lib.hid ((T1.out.set0 p).set1 q)
  have T2 := Lib.hid ((T2.out.far (p := ⟨w.heap.size, 0, none⟩) hn1 (.int .i64 p)).far (p := ⟨w.heap.size, 1, none⟩) hn1 (.int .i64 q))
  have B0 := Lib.hid ((B0.out.setCell (p := ⟨w.heap.size, 0, none⟩) (Nat.le_refl _) (.int .i64 p)).setCell (p := ⟨w.heap.size, 1, none⟩) (Nat.le_refl _) (.int .i64 q))
  rw [hW3] at T1 T2 B0
  simp only [hW3]
  clear hW3
  obtain ⟨at1, a0, a1, -, -⟩ := T1.out
  have hw1 : IntKind.i64.wrap (-q) = -q := IntWalk.i64_in _ (by omega)
  have hw2 : IntKind.i64.wrap (-r2) = -r2 := IntWalk.i64_in _ (by omega)
  go_region_held3 (fun w' => w'.cell? ⟨w.heap.size, 0, none⟩ = some (.int .i64 p) ∧ w'.cell? ⟨w.heap.size, 1, none⟩ = some (.int .i64 q)) (simp [*]) (first
    | (go_at_call 153; (first | (with_reducible refine (K1.out _).mono ?_) | (with_reducible refine (K2.out _).mono ?_)); rintro e w9 ⟨rfl, hb9⟩; (first | (replace hb9 := first_b hb9) | skip); have B0 := Lib.hid (B0.out.trans (hb9.mono B0.out.size)); have T1 := Lib.hid (T1.out.below hb9 T1.out.lt); have T2 := Lib.hid (T2.out.below hb9 T2.out.lt); obtain ⟨at9, a09, a19, -, -⟩ := T1.out; obtain ⟨bt9, b09, b19, bf09, bf19⟩ := T2.out; have e9 := fun (i : Nat) (u v : Value) => (World.cell?_setCell_other (w9.setCell ⟨w.heap.size + 1, 0, none⟩ u) ⟨w.heap.size + 1, 1, none⟩ ⟨w.heap.size, i, none⟩ v (fun e => hn1 (by injection e))).trans (World.cell?_setCell_other w9 ⟨w.heap.size + 1, 0, none⟩ ⟨w.heap.size, i, none⟩ u (fun e => hn1 (by injection e))))
    | fail)
  all_goals
    go_wp2
    refine bodyPost_ret (v := .tuple #[.agg #[.int .i64 r1, .int .i64 (-r2)], .int .i64 0]) (by simp [results, Tryz.results89, go_sem, *]; done) rfl ⟨rfl, ?_⟩
    exact (B0.out.setCell (by simp) _).setCell (by simp) _
end Go.Proofs.YtifdgdgfmjfbdaaGreat
namespace Go.Proofs.YtifdgdgfmjfbdaaGreat
open Go.RowKit
/-- six cells that are known -/
structure C6 (W : World) (g : Nat) (a0 a1 b0 b1 c0 c1 : Int) : Prop where
  lt : g < W.heap.size
  x0 : W.cell? ⟨g, 0, none⟩ = some (.int .i64 a0)
  x1 : W.cell? ⟨g, 1, none⟩ = some (.int .i64 a1)
  x2 : W.cell? ⟨g, 2, none⟩ = some (.int .i64 b0)
  x3 : W.cell? ⟨g, 3, none⟩ = some (.int .i64 b1)
  x4 : W.cell? ⟨g, 4, none⟩ = some (.int .i64 c0)
  x5 : W.cell? ⟨g, 5, none⟩ = some (.int .i64 c1)
theorem C6.below {W W' : World} {g B : Nat} {a0 a1 b0 b1 c0 c1 : Int} (h : C6 W g a0 a1 b0 b1 c0 c1) (hb : Below B W W') (hB : g < B) : C6 W' g a0 a1 b0 b1 c0 c1 :=
  ⟨Nat.lt_of_lt_of_le h.lt hb.size, (hb.cell (p := ⟨g, 0, none⟩) hB).trans h.x0, (hb.cell (p := ⟨g, 1, none⟩) hB).trans h.x1, (hb.cell (p := ⟨g, 2, none⟩) hB).trans h.x2, (hb.cell (p := ⟨g, 3, none⟩) hB).trans h.x3, (hb.cell (p := ⟨g, 4, none⟩) hB).trans h.x4, (hb.cell (p := ⟨g, 5, none⟩) hB).trans h.x5⟩
theorem C6.new (w : World) (a0 a1 b0 b1 c0 c1 : Int) (t : TypeId) : C6 (w.alloc (.cells #[.int .i64 a0, .int .i64 a1, .int .i64 b0, .int .i64 b1, .int .i64 c0, .int .i64 c1] t)) w.heap.size a0 a1 b0 b1 c0 c1 := ⟨by simp, by simp, by simp, by simp, by simp, by simp, by simp⟩
theorem small_fv {x : Int × Int} (h : Trig.Small x) : fvB x.1 x.2 = true := by
  rw [fv_iff]; have := h.lo; have := h.le; have := h.hi; omega
theorem fit_small {x : Int × Int} (h : Trig.Small x) : fitV x.1 x.2 = .tuple #[.agg #[.int .i64 x.1, .int .i64 x.2], .int .i64 0] := by
  unfold fitV; rw [if_pos (small_fv h)]
theorem fit_add {x y : Int × Int} (hx : Trig.Small x) (hy : Trig.Small y) : fitV (Trig.addP x y).1 (Trig.addP x y).2 = .tuple #[.agg #[.int .i64 (Trig.addP x y).1, .int .i64 (Trig.addP x y).2], .int .i64 0] := by
  have h : fvB (Trig.addP x y).1 (Trig.addP x y).2 = true := by
    rw [fv_iff]
    have := hx.lo; have := hx.le; have := hx.hi; have := hy.lo; have := hy.le; have := hy.hi
    unfold Trig.addP
    simp only []
    omega
  unfold fitV; rw [if_pos h]
end Go.Proofs.YtifdgdgfmjfbdaaGreat
namespace Go.Proofs.YtifdgdgfmjfbdaaGreat
open Go.RowKit
/-- what stands in a block of one cell may be written again -/
theorem bl_same {B : Nat} {a w : World} {g : Nat} {t : TypeId} {u : Value} (hb : Below B a w) (h : Blk w g t #[u]) : Below B a (w.setCell ⟨g, 0, none⟩ u) := by
  have e : (w.setCell ⟨g, 0, none⟩ u).heap = w.heap := by
    unfold Blk at h
    have hlt : g < w.heap.size := by
      rcases Nat.lt_or_ge g w.heap.size with q | q
      · exact q
      · rw [Array.getElem?_eq_none q] at h; cases h
    apply Array.ext_getElem?
    intro i
    show (w.heap.modify g _)[i]? = w.heap[i]?
    by_cases hi : i = g
    · subst hi
      simp [Array.getElem?_modify, h]
    · simp [Array.getElem?_modify, show ¬ g = i from fun e => hi e.symm]
  exact ⟨hb.os, hb.tape, hb.output, by rw [e]; exact hb.size, fun k hk => by rw [e]; exact hb.block k hk⟩
set_option maxHeartbeats 1000000 in
set_option maxRecDepth 100000 in
theorem keep_any (g : Nat) (lo hi : Int) (w : World) (h : Blk w g 214 #[.int .i64 0]) :
    Calls Tryz.prog 242 #[.pointer (some ⟨g, 0, none⟩), .agg #[.int .i64 lo, .int .i64 hi], .int .i64 0] w fun e w' => e = .returned (.agg #[.int .i64 lo, .int .i64 hi]) ∧ Below w.heap.size w w' := by
  have hg := h.lt
  have h1 := (h.alloc (.cells #[.int .i64 lo, .int .i64 hi] 97)).alloc (.cells #[.int .i64 0, .int .i64 0] 97)
  have c0 : w.cell? ⟨g, 0, none⟩ = some (.int .i64 0) := by rw [h.cell 0]; rfl
  have f0 := h.frozen 0
  have H := Lib.hid h
  have HB := Lib.hid (bl_same (Below.refl w.heap.size w) h)
  clear h h1
  go_enter Tryz.func242, Tryz.ntmps242
  go_wp2
  refine bodyPost_ret (v := .agg #[.int .i64 lo, .int .i64 hi]) (by simp [results, Tryz.results242, go_sem, *]; done) rfl ⟨rfl, ?_⟩
  exact (HB.out.alloc HB.out.size _).alloc (by have := HB.out.size; first | (simp; done) | (simp; omega)) _
theorem mul_yes (x y : Int × Int) (hx : Trig.Small x) (hy : Trig.Small y) (W : World) : Calls Tryz.prog 99 #[.agg #[.int .i64 x.1, .int .i64 x.2], .agg #[.int .i64 y.1, .int .i64 y.2]] W fun e w' => e = .returned (.tuple #[.agg #[.int .i64 (Trig.mulP x y).1, .int .i64 (Trig.mulP x y).2], .int .i64 0]) ∧ Below W.heap.size W w' := by
  rw [← fit_small (Trig.mulP_small hx hy)]; exact fMul_any x.1 x.2 y.1 y.2 W (small_fv hx) (small_fv hy)
theorem add_yes (x y : Int × Int) (hx : Trig.Small x) (hy : Trig.Small y) (W : World) : Calls Tryz.prog 97 #[.agg #[.int .i64 x.1, .int .i64 x.2], .agg #[.int .i64 y.1, .int .i64 y.2]] W fun e w' => e = .returned (.tuple #[.agg #[.int .i64 (Trig.addP x y).1, .int .i64 (Trig.addP x y).2], .int .i64 0]) ∧ Below W.heap.size W w' := by
  rw [← fit_add hx hy]; exact fAdd_any x.1 x.2 y.1 y.2 W (small_fv hx) (small_fv hy)
theorem sin_yes (a : Int × Int) (h : avB a.1 a.2 = true) (W : World) : Calls Tryz.prog 100 #[.agg #[.int .i64 a.1, .int .i64 a.2]] W fun e w' => e = .returned (.tuple #[.agg #[.int .i64 (Trig.snP a).1, .int .i64 (Trig.snP a).2], .int .i64 0]) ∧ Below W.heap.size W w' := Sin_yes a.1 a.2 W h
theorem cos_yes (a : Int × Int) (h : avB a.1 a.2 = true) (W : World) : Calls Tryz.prog 101 #[.agg #[.int .i64 a.1, .int .i64 a.2]] W fun e w' => e = .returned (.tuple #[.agg #[.int .i64 (Trig.csP a).1, .int .i64 (Trig.csP a).2], .int .i64 0]) ∧ Below W.heap.size W w' := Cos_yes a.1 a.2 W h
set_option maxHeartbeats 1000000 in
set_option maxRecDepth 100000 in
theorem csin_any (g : Nat) (a : Int × Int) (w : World) (ha : avB a.1 a.2 = true) (h : Blk w g 214 #[.int .i64 0]) :
    Calls Tryz.prog 240 #[.pointer (some ⟨g, 0, none⟩), .agg #[.int .i64 a.1, .int .i64 a.2]] w fun e w' => e = .returned (.agg #[.int .i64 (Trig.snP a).1, .int .i64 (Trig.snP a).2]) ∧ Below w.heap.size w w' := by
  have KS := Lib.hid (fun W => sin_yes a ha W)
  have KK := Lib.hid (fun (lo hi : Int) (W : World) (h : Blk W g 214 #[.int .i64 0]) => keep_any g lo hi W h)
  obtain ⟨⟨s0, s1⟩, hs⟩ : ∃ z, (Trig.snP a) = z := ⟨_, rfl⟩
  rw [hs] at KS ⊢
  simp only [] at KS ⊢
  clear hs
  have hg := h.lt
  have H0 := Lib.hid ((h.alloc (.cells #[.int .i64 a.1, .int .i64 a.2] 29)).alloc (.cells #[.int .i64 0, .int .i64 0] 97))
  have T0 : Hid (D2 ((w.alloc (.cells #[.int .i64 a.1, .int .i64 a.2] 29)).alloc (.cells #[.int .i64 0, .int .i64 0] 97)) (w.heap.size + 1) 0 0) := Lib.hid (by
    have := D2.new (w.alloc (.cells #[.int .i64 a.1, .int .i64 a.2] 29)) 0 0 97
    rwa [World.size_alloc] at this)
  have B0 := Lib.hid ((bl_alloc w (.cells #[.int .i64 a.1, .int .i64 a.2] 29)).alloc (by simp) (.cells #[.int .i64 0, .int .i64 0] 97))
  clear h
  go_enter Tryz.func240, Tryz.ntmps240
  go_wp2_with fail
  (with_reducible refine (KS.out _).mono ?_)
  rintro e w1 ⟨rfl, hb1⟩
  have H1 := Lib.hid (H0.out.below hb1 H0.out.lt)
  have T1 := Lib.hid (T0.out.below hb1 T0.out.lt)
  have B1 := Lib.hid (B0.out.trans (hb1.mono B0.out.size))
  clear hb1 H0 T0 B0
  go_wp2_with fail
  (with_reducible refine (KK.out _ _ _ H1.out).mono ?_)
  rintro e w2 ⟨rfl, hb2⟩
  have T2 := Lib.hid (T1.out.below hb2 T1.out.lt)
  have B2 := Lib.hid (B1.out.trans (hb2.mono B1.out.size))
  obtain ⟨zt, z0, z1, zf0, zf1⟩ := T2.out
  go_wp2
  refine bodyPost_ret (v := .agg #[.int .i64 s0, .int .i64 s1]) (by simp [results, Tryz.results240, go_sem, *]; done) rfl ⟨rfl, ?_⟩
  exact (B2.out.setCell (by simp only []; omega) _).setCell (by simp only []; omega) _
set_option maxHeartbeats 1000000 in
set_option maxRecDepth 100000 in
theorem ccos_any (g : Nat) (a : Int × Int) (w : World) (ha : avB a.1 a.2 = true) (h : Blk w g 214 #[.int .i64 0]) :
    Calls Tryz.prog 241 #[.pointer (some ⟨g, 0, none⟩), .agg #[.int .i64 a.1, .int .i64 a.2]] w fun e w' => e = .returned (.agg #[.int .i64 (Trig.csP a).1, .int .i64 (Trig.csP a).2]) ∧ Below w.heap.size w w' := by
  have KS := Lib.hid (fun W => cos_yes a ha W)
  have KK := Lib.hid (fun (lo hi : Int) (W : World) (h : Blk W g 214 #[.int .i64 0]) => keep_any g lo hi W h)
  obtain ⟨⟨s0, s1⟩, hs⟩ : ∃ z, (Trig.csP a) = z := ⟨_, rfl⟩
  rw [hs] at KS ⊢
  simp only [] at KS ⊢
  clear hs
  have hg := h.lt
  have H0 := Lib.hid ((h.alloc (.cells #[.int .i64 a.1, .int .i64 a.2] 29)).alloc (.cells #[.int .i64 0, .int .i64 0] 97))
  have T0 : Hid (D2 ((w.alloc (.cells #[.int .i64 a.1, .int .i64 a.2] 29)).alloc (.cells #[.int .i64 0, .int .i64 0] 97)) (w.heap.size + 1) 0 0) := Lib.hid (by
    have := D2.new (w.alloc (.cells #[.int .i64 a.1, .int .i64 a.2] 29)) 0 0 97
    rwa [World.size_alloc] at this)
  have B0 := Lib.hid ((bl_alloc w (.cells #[.int .i64 a.1, .int .i64 a.2] 29)).alloc (by simp) (.cells #[.int .i64 0, .int .i64 0] 97))
  clear h
  go_enter Tryz.func241, Tryz.ntmps241
  go_wp2_with fail
  (with_reducible refine (KS.out _).mono ?_)
  rintro e w1 ⟨rfl, hb1⟩
  have H1 := Lib.hid (H0.out.below hb1 H0.out.lt)
  have T1 := Lib.hid (T0.out.below hb1 T0.out.lt)
  have B1 := Lib.hid (B0.out.trans (hb1.mono B0.out.size))
  clear hb1 H0 T0 B0
  go_wp2_with fail
  (with_reducible refine (KK.out _ _ _ H1.out).mono ?_)
  rintro e w2 ⟨rfl, hb2⟩
  have T2 := Lib.hid (T1.out.below hb2 T1.out.lt)
  have B2 := Lib.hid (B1.out.trans (hb2.mono B1.out.size))
  obtain ⟨zt, z0, z1, zf0, zf1⟩ := T2.out
  go_wp2
  refine bodyPost_ret (v := .agg #[.int .i64 s0, .int .i64 s1]) (by simp [results, Tryz.results241, go_sem, *]; done) rfl ⟨rfl, ?_⟩
  exact (B2.out.setCell (by simp only []; omega) _).setCell (by simp only []; omega) _
set_option maxHeartbeats 1000000 in
set_option maxRecDepth 100000 in
theorem cmul_any (g : Nat) (x y : Int × Int) (w : World) (hx : Trig.Small x) (hy : Trig.Small y) (h : Blk w g 214 #[.int .i64 0]) :
    Calls Tryz.prog 202 #[.pointer (some ⟨g, 0, none⟩), .agg #[.int .i64 x.1, .int .i64 x.2], .agg #[.int .i64 y.1, .int .i64 y.2]] w fun e w' => e = .returned (.agg #[.int .i64 (Trig.mulP x y).1, .int .i64 (Trig.mulP x y).2]) ∧ Below w.heap.size w w' := by
  have KS := Lib.hid (fun W => mul_yes x y hx hy W)
  have KK := Lib.hid (fun (lo hi : Int) (W : World) (h : Blk W g 214 #[.int .i64 0]) => keep_any g lo hi W h)
  obtain ⟨⟨s0, s1⟩, hs⟩ : ∃ z, (Trig.mulP x y) = z := ⟨_, rfl⟩
  rw [hs] at KS ⊢
  simp only [] at KS ⊢
  clear hs
  have hg := h.lt
  have H0 := Lib.hid (((h.alloc (.cells #[.int .i64 x.1, .int .i64 x.2] 97)).alloc (.cells #[.int .i64 y.1, .int .i64 y.2] 97)).alloc (.cells #[.int .i64 0, .int .i64 0] 97))
  have T0 : Hid (D2 (((w.alloc (.cells #[.int .i64 x.1, .int .i64 x.2] 97)).alloc (.cells #[.int .i64 y.1, .int .i64 y.2] 97)).alloc (.cells #[.int .i64 0, .int .i64 0] 97)) (w.heap.size + 1 + 1) 0 0) := Lib.hid (by
    have := D2.new ((w.alloc (.cells #[.int .i64 x.1, .int .i64 x.2] 97)).alloc (.cells #[.int .i64 y.1, .int .i64 y.2] 97)) 0 0 97
    rwa [World.size_alloc, World.size_alloc] at this)
  have B0 := Lib.hid (((bl_alloc w (.cells #[.int .i64 x.1, .int .i64 x.2] 97)).alloc (by simp) (.cells #[.int .i64 y.1, .int .i64 y.2] 97)).alloc (by simp; omega) (.cells #[.int .i64 0, .int .i64 0] 97))
  clear h
  go_enter Tryz.func202, Tryz.ntmps202
  go_wp2_with fail
  (with_reducible refine (KS.out _).mono ?_)
  rintro e w1 ⟨rfl, hb1⟩
  have H1 := Lib.hid (H0.out.below hb1 H0.out.lt)
  have T1 := Lib.hid (T0.out.below hb1 T0.out.lt)
  have B1 := Lib.hid (B0.out.trans (hb1.mono B0.out.size))
  clear hb1 H0 T0 B0
  go_wp2_with fail
  (with_reducible refine (KK.out _ _ _ H1.out).mono ?_)
  rintro e w2 ⟨rfl, hb2⟩
  have T2 := Lib.hid (T1.out.below hb2 T1.out.lt)
  have B2 := Lib.hid (B1.out.trans (hb2.mono B1.out.size))
  obtain ⟨zt, z0, z1, zf0, zf1⟩ := T2.out
  go_wp2
  refine bodyPost_ret (v := .agg #[.int .i64 s0, .int .i64 s1]) (by simp [results, Tryz.results202, go_sem, *]; done) rfl ⟨rfl, ?_⟩
  exact (B2.out.setCell (by simp only []; omega) _).setCell (by simp only []; omega) _
set_option maxHeartbeats 1000000 in
set_option maxRecDepth 100000 in
theorem cadd_any (g : Nat) (x y : Int × Int) (w : World) (hx : Trig.Small x) (hy : Trig.Small y) (h : Blk w g 214 #[.int .i64 0]) :
    Calls Tryz.prog 201 #[.pointer (some ⟨g, 0, none⟩), .agg #[.int .i64 x.1, .int .i64 x.2], .agg #[.int .i64 y.1, .int .i64 y.2]] w fun e w' => e = .returned (.agg #[.int .i64 (Trig.addP x y).1, .int .i64 (Trig.addP x y).2]) ∧ Below w.heap.size w w' := by
  have KS := Lib.hid (fun W => add_yes x y hx hy W)
  have KK := Lib.hid (fun (lo hi : Int) (W : World) (h : Blk W g 214 #[.int .i64 0]) => keep_any g lo hi W h)
  obtain ⟨⟨s0, s1⟩, hs⟩ : ∃ z, (Trig.addP x y) = z := ⟨_, rfl⟩
  rw [hs] at KS ⊢
  simp only [] at KS ⊢
  clear hs
  have hg := h.lt
  have H0 := Lib.hid (((h.alloc (.cells #[.int .i64 x.1, .int .i64 x.2] 97)).alloc (.cells #[.int .i64 y.1, .int .i64 y.2] 97)).alloc (.cells #[.int .i64 0, .int .i64 0] 97))
  have T0 : Hid (D2 (((w.alloc (.cells #[.int .i64 x.1, .int .i64 x.2] 97)).alloc (.cells #[.int .i64 y.1, .int .i64 y.2] 97)).alloc (.cells #[.int .i64 0, .int .i64 0] 97)) (w.heap.size + 1 + 1) 0 0) := Lib.hid (by
    have := D2.new ((w.alloc (.cells #[.int .i64 x.1, .int .i64 x.2] 97)).alloc (.cells #[.int .i64 y.1, .int .i64 y.2] 97)) 0 0 97
    rwa [World.size_alloc, World.size_alloc] at this)
  have B0 := Lib.hid (((bl_alloc w (.cells #[.int .i64 x.1, .int .i64 x.2] 97)).alloc (by simp) (.cells #[.int .i64 y.1, .int .i64 y.2] 97)).alloc (by simp; omega) (.cells #[.int .i64 0, .int .i64 0] 97))
  clear h
  go_enter Tryz.func201, Tryz.ntmps201
  go_wp2_with fail
  (with_reducible refine (KS.out _).mono ?_)
  rintro e w1 ⟨rfl, hb1⟩
  have H1 := Lib.hid (H0.out.below hb1 H0.out.lt)
  have T1 := Lib.hid (T0.out.below hb1 T0.out.lt)
  have B1 := Lib.hid (B0.out.trans (hb1.mono B0.out.size))
  clear hb1 H0 T0 B0
  go_wp2_with fail
  (with_reducible refine (KK.out _ _ _ H1.out).mono ?_)
  rintro e w2 ⟨rfl, hb2⟩
  have T2 := Lib.hid (T1.out.below hb2 T1.out.lt)
  have B2 := Lib.hid (B1.out.trans (hb2.mono B1.out.size))
  obtain ⟨zt, z0, z1, zf0, zf1⟩ := T2.out
  go_wp2
  refine bodyPost_ret (v := .agg #[.int .i64 s0, .int .i64 s1]) (by simp [results, Tryz.results201, go_sem, *]; done) rfl ⟨rfl, ?_⟩
  exact (B2.out.setCell (by simp only []; omega) _).setCell (by simp only []; omega) _
end Go.Proofs.YtifdgdgfmjfbdaaGreat
