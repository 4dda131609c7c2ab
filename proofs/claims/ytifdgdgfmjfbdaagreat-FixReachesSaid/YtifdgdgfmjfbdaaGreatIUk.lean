/- The walks of fixed.floor, ceil, Sub, Mul, Add. -/
import Derived.Test.YtifdgdgfmjfbdaaGreatIUg
import Derived.Test.YtifdgdgfmjfbdaaGreatITf
set_option linter.unusedVariables false
set_option linter.unusedSimpArgs false
namespace Go.Proofs.YtifdgdgfmjfbdaaGreat
open Go.RowKit
theorem ret2_int {a b c d : Int} (h : a = c) (h2 : b = d) : Ending.returned (.tuple #[.int .i64 a, .int .i64 b]) = .returned (.tuple #[.int .i64 c, .int .i64 d]) := by rw [h, h2]
set_option maxHeartbeats 1000000 in
theorem sine_any (n : Int) (w : World) (h0 : 0 ≤ n) (h1 : n ≤ 5400000) :
    Calls Tryz.prog 252 #[.int .i64 n] w fun e w' => e = .returned (.tuple #[.int .i64 (Trig.sF n), .bool (Trig.exN n)]) ∧ Below w.heap.size w w' := by
  by_cases a : n = 0
  · subst a
    have hs : Trig.sF 0 = 0 := by simp [Trig.sF]
    have hx : Trig.exN 0 = true := by decide
    rw [hs, hx]
    go_enter Tryz.func252, Tryz.ntmps252
    go_wp2
    go_ret2
    exact ⟨rfl, Below.refl _ _⟩
  by_cases b : n = 1800000
  · subst b
    have hs : Trig.sF 1800000 = 536870912 := by simp [Trig.sF]
    have hx : Trig.exN 1800000 = true := by decide
    rw [hs, hx]
    go_enter Tryz.func252, Tryz.ntmps252
    go_wp2
    go_ret2
    exact ⟨rfl, Below.refl _ _⟩
  by_cases c : n = 5400000
  · subst c
    have hs : Trig.sF 5400000 = 1073741824 := by simp [Trig.sF]
    have hx : Trig.exN 5400000 = true := by decide
    rw [hs, hx]
    go_enter Tryz.func252, Tryz.ntmps252
    go_wp2
    go_ret2
    exact ⟨rfl, Below.refl _ _⟩
  by_cases d : n ≤ 2700000
  · exact sine_lo n w (by omega) d b
  · exact sine_hi n w (by omega) (by omega)
theorem tmodT_cases (n : Int) : (0 ≤ n ∧ n.tmod 21600000 = n % 21600000) ∨ (n < 0 ∧ n.tmod 21600000 = -((-n) % 21600000)) := by
  by_cases h : 0 ≤ n
  · exact .inl ⟨h, Int.tmod_eq_emod_of_nonneg h⟩
  · refine .inr ⟨by omega, ?_⟩
    have h1 : (-n).tmod 21600000 = (-n) % 21600000 := Int.tmod_eq_emod_of_nonneg (by omega)
    rw [Int.neg_tmod] at h1
    omega
theorem tmodT_pos {n : Int} (h : 0 ≤ n.tmod 21600000) : n.tmod 21600000 = n % 21600000 := by
  rcases tmodT_cases n with ⟨h1, h2⟩ | ⟨h1, h2⟩ <;> omega
theorem tmodT_neg {n : Int} (h : n.tmod 21600000 < 0) : n.tmod 21600000 + 21600000 = n % 21600000 := by
  rcases tmodT_cases n with ⟨h1, h2⟩ | ⟨h1, h2⟩ <;> omega
set_option maxHeartbeats 1000000 in
theorem turned_any (n : Int) (w : World) : Calls Tryz.prog 251 #[.int .i64 n] w fun e w' => e = .returned (.int .i64 (n % 21600000)) ∧ w' = w := by
  go_enter Tryz.func251, Tryz.ntmps251
  go_wp2
  all_goals
    go_ret
    refine ⟨ret_int ?_, rfl⟩
    first | (exact tmodT_pos (by assumption)) | (rw [IntWalk.wrap64_in _ (by have := tmodT_neg (n := n) (by assumption); omega)]; exact tmodT_neg (by assumption))
set_option maxHeartbeats 2000000 in
theorem bounds_any (n : Int) (w : World) :
    Calls Tryz.prog 212 #[.int .i64 n] w fun e w' => e = .returned (.tuple #[.int .i64 (Trig.loB n), .int .i64 (Trig.hiB n)]) ∧ Below w.heap.size w w' := by
  have KT := Lib.hid (fun W => turned_any n W)
  have hq := Trig.qrt_bd n
  have KS := Lib.hid (fun W => sine_any (Trig.qrt n) W hq.1 hq.2)
  have hb := Trig.sF_bd hq.1 hq.2
  have hlo : Trig.loB n = if Trig.sth n = true then - Trig.upF (Trig.qrt n) else Trig.sF (Trig.qrt n) := rfl
  have hhi : Trig.hiB n = if Trig.sth n = true then - Trig.sF (Trig.qrt n) else Trig.upF (Trig.qrt n) := rfl
  have hu : Trig.upF (Trig.qrt n) = if Trig.exN (Trig.qrt n) = true then Trig.sF (Trig.qrt n) else Trig.sF (Trig.qrt n) + 1 := rfl
  have hst : Trig.sth n = decide (n % 21600000 > 10800000) := rfl
  have hqd : Trig.qrt n = if n % 21600000 > 10800000 then (if n % 21600000 - 10800000 > 5400000 then 10800000 - (n % 21600000 - 10800000) else n % 21600000 - 10800000) else (if n % 21600000 > 5400000 then 10800000 - n % 21600000 else n % 21600000) := rfl
  rw [hlo, hhi, hu, hst]
  clear hlo hhi hu hst hq
  have hm : 0 ≤ n % 21600000 ∧ n % 21600000 < 21600000 := by omega
  generalize n % 21600000 = m at *
  generalize Trig.qrt n = q at *
  generalize Trig.sF q = s at *
  generalize Trig.exN q = x at *
  obtain ⟨m0, m1⟩ := hm
  obtain ⟨s0, s1⟩ := hb
  by_cases hs : m > 10800000
  · have ds : decide (10800000 < m) = true := decide_eq_true hs
    have hd : decide (m > 10800000) = true := ds
    rw [hd]
    clear hd
    by_cases hm5 : m - 10800000 > 5400000
    · rw [if_pos hs, if_pos hm5] at hqd
      subst hqd
      have d5 : decide (5400000 < m - 10800000) = true := decide_eq_true hm5
      cases x
      all_goals
        simp only [eq_self, if_true, Bool.false_eq_true, if_false]
        go_enter Tryz.func212, Tryz.ntmps212
        go_wp2_with (first | (go_at_call 251; (with_reducible refine (KT.out _).mono ?_); rintro e w1 ⟨rfl, rfl⟩) | (go_at_call 252; (with_reducible refine (KS.out _).mono ?_); rintro e w2 ⟨rfl, hb2⟩))
        go_ret2
        exact ⟨ret2_int rfl rfl, hb2⟩
    · rw [if_pos hs, if_neg hm5] at hqd
      subst hqd
      have d5 : decide (5400000 < m - 10800000) = false := decide_eq_false hm5
      cases x
      all_goals
        simp only [eq_self, if_true, Bool.false_eq_true, if_false]
        go_enter Tryz.func212, Tryz.ntmps212
        go_wp2_with (first | (go_at_call 251; (with_reducible refine (KT.out _).mono ?_); rintro e w1 ⟨rfl, rfl⟩) | (go_at_call 252; (with_reducible refine (KS.out _).mono ?_); rintro e w2 ⟨rfl, hb2⟩))
        go_ret2
        exact ⟨ret2_int rfl rfl, hb2⟩
  · have ds : decide (10800000 < m) = false := decide_eq_false hs
    have hd : decide (m > 10800000) = false := ds
    rw [hd]
    clear hd
    by_cases hm5 : m > 5400000
    · rw [if_neg hs, if_pos hm5] at hqd
      subst hqd
      have d5 : decide (5400000 < m) = true := decide_eq_true hm5
      cases x
      all_goals
        simp only [eq_self, if_true, Bool.false_eq_true, if_false]
        go_enter Tryz.func212, Tryz.ntmps212
        go_wp2_with (first | (go_at_call 251; (with_reducible refine (KT.out _).mono ?_); rintro e w1 ⟨rfl, rfl⟩) | (go_at_call 252; (with_reducible refine (KS.out _).mono ?_); rintro e w2 ⟨rfl, hb2⟩))
        go_ret2
        exact ⟨ret2_int rfl rfl, hb2⟩
    · rw [if_neg hs, if_neg hm5] at hqd
      subst hqd
      have d5 : decide (5400000 < q) = false := decide_eq_false hm5
      cases x
      all_goals
        simp only [eq_self, if_true, Bool.false_eq_true, if_false]
        go_enter Tryz.func212, Tryz.ntmps212
        go_wp2_with (first | (go_at_call 251; (with_reducible refine (KT.out _).mono ?_); rintro e w1 ⟨rfl, rfl⟩) | (go_at_call 252; (with_reducible refine (KS.out _).mono ?_); rintro e w2 ⟨rfl, hb2⟩))
        go_ret2
        exact ⟨ret2_int rfl rfl, hb2⟩
end Go.Proofs.YtifdgdgfmjfbdaaGreat
namespace Go.Proofs.YtifdgdgfmjfbdaaGreat
open Go.RowKit
/-- which arcs are valid -/
def avB (lo hi : Int) : Bool := decide (-1099511627776 ≤ lo ∧ lo ≤ hi ∧ hi ≤ 1099511627776)
theorem ret_boolU {a b : Bool} (h : a = b) : Ending.returned (.bool a) = .returned (.bool b) := by rw [h]
theorem avB_true {lo hi : Int} : avB lo hi = true ↔ (-1099511627776 ≤ lo ∧ lo ≤ hi ∧ hi ≤ 1099511627776) := by simp [avB]
set_option maxHeartbeats 1000000 in
theorem validT_any (lo hi : Int) (w : World) : Calls Tryz.prog 161 #[.agg #[.int .i64 lo, .int .i64 hi]] w fun e w' => e = .returned (.bool (avB lo hi)) ∧ Below w.heap.size w w' := by
  unfold avB
  go_enter Tryz.func161, Tryz.ntmps161
  go_wp2
  all_goals
    go_ret
    refine ⟨ret_boolU (by first | (simp_all; done) | (simp_all; omega)), ?_⟩
    repeat (first | exact Below.refl _ _ | assumption | refine bl_drew ?_ | refine bl_drewN ?_ _ | refine Below.setCell ?_ (by first | assumption | omega | (simp; done) | (simp; omega)) _ | refine Below.alloc ?_ (by first | assumption | omega | (simp; done) | (simp; omega)) _)
set_option maxHeartbeats 1000000 in
theorem meets_any (lo hi n : Int) (w : World) (h0 : -10000000000000 ≤ lo) (h1 : lo ≤ 10000000000000) (h2 : -10000000000000 ≤ hi) (h3 : hi ≤ 10000000000000) (h4 : 0 ≤ n) (h5 : n ≤ 21600000) :
    Calls Tryz.prog 213 #[.agg #[.int .i64 lo, .int .i64 hi], .int .i64 n] w fun e w' => e = .returned (.bool (Trig.metB lo hi n)) ∧ Below w.heap.size w w' := by
  have KT := Lib.hid (fun W => turned_any (n - lo) W)
  have s1 : IntKind.i64.wrap (n - lo) = n - lo := IntWalk.i64_in _ (by omega)
  have s2 : IntKind.i64.wrap (hi - lo) = hi - lo := IntWalk.i64_in _ (by clear s1; omega)
  unfold Trig.metB
  go_enter Tryz.func213, Tryz.ntmps213
  go_wp2
  go_quiet ((go_at_call 251; exact Calls.quiet_of_same (KT.out _)))
  go_wp2
  go_ret
  refine ⟨rfl, ?_⟩
  repeat (first | exact Below.refl _ _ | assumption | refine bl_drew ?_ | refine bl_drewN ?_ _ | refine Below.setCell ?_ (by first | assumption | omega | (simp; done) | (simp; omega)) _ | refine Below.alloc ?_ (by first | assumption | omega | (simp; done) | (simp; omega)) _)
set_option maxHeartbeats 2000000 in
theorem enclosure_any (lo hi : Int) (w : World) (h0 : -10000000000000 ≤ lo) (h1 : lo ≤ 10000000000000) (h2 : -10000000000000 ≤ hi) (h3 : hi ≤ 10000000000000) :
    Calls Tryz.prog 162 #[.agg #[.int .i64 lo, .int .i64 hi]] w fun e w' => e = .returned (.agg #[.int .i64 (Trig.enLo lo hi), .int .i64 (Trig.enHi lo hi)]) ∧ Below w.heap.size w w' := by
  have KA := Lib.hid (fun W => bounds_any lo W)
  have KB := Lib.hid (fun W => bounds_any hi W)
  have KQ := Lib.hid (fun W => meets_any lo hi 5400000 W h0 h1 h2 h3 (by omega) (by omega))
  have KR := Lib.hid (fun W => meets_any lo hi 16200000 W h0 h1 h2 h3 (by omega) (by omega))
  unfold Trig.enLo Trig.enHi
  generalize Trig.metB lo hi 5400000 = p at *
  generalize Trig.metB lo hi 16200000 = q at *
  generalize Trig.loB lo = a at *
  generalize Trig.hiB lo = b at *
  generalize Trig.loB hi = c at *
  generalize Trig.hiB hi = d at *
  cases p <;> cases q
  all_goals
    simp only [eq_self, if_true, Bool.false_eq_true, if_false]
    go_enter Tryz.func162, Tryz.ntmps162
    go_wp2_with fail
    (with_reducible refine (KA.out _).mono ?_)
    rintro e w1 ⟨rfl, hb1⟩
    have hz1 := two_lt hb1
    have hbl1 := two_bl hb1
    have x0 := (hb1.cell (p := ⟨w.heap.size, 0, none⟩) (by simp; omega)).trans (show _ = some (.int .i64 lo) by simp)
    have x1 := (hb1.cell (p := ⟨w.heap.size, 1, none⟩) (by simp; omega)).trans (show _ = some (.int .i64 hi) by simp)
    have z0 := (hb1.cell (p := ⟨w.heap.size + 1, 0, none⟩) (by simp)).trans (show _ = some (.int .i64 0) by simp)
    have z1 := (hb1.cell (p := ⟨w.heap.size + 1, 1, none⟩) (by simp)).trans (show _ = some (.int .i64 0) by simp)
    have f0 := (hb1.frozen (p := ⟨w.heap.size + 1, 0, none⟩) (by simp)).trans (show _ = false by simp)
    have f1 := (hb1.frozen (p := ⟨w.heap.size + 1, 1, none⟩) (by simp)).trans (show _ = false by simp)
    clear hb1
    go_wp2_with fail
    (with_reducible refine (KB.out _).mono ?_)
    rintro e w2 ⟨rfl, hb2⟩
    have x0 := (hb2.cell (p := ⟨w.heap.size, 0, none⟩) hz1.1).trans x0
    have x1 := (hb2.cell (p := ⟨w.heap.size, 1, none⟩) hz1.1).trans x1
    have z0 := (hb2.cell (p := ⟨w.heap.size + 1, 0, none⟩) hz1.2).trans z0
    have z1 := (hb2.cell (p := ⟨w.heap.size + 1, 1, none⟩) hz1.2).trans z1
    have f0 := (hb2.frozen (p := ⟨w.heap.size + 1, 0, none⟩) hz1.2).trans f0
    have f1 := (hb2.frozen (p := ⟨w.heap.size + 1, 1, none⟩) hz1.2).trans f1
    have hbl2 := hbl1.trans (hb2.mono hbl1.size)
    have hz2 : w.heap.size < w2.heap.size ∧ w.heap.size + 1 < w2.heap.size := by have := hb2.size; omega
    clear hb2 hbl1 hz1
    go_wp2_with fail
    (with_reducible refine (KQ.out _).mono ?_)
    rintro e w3 ⟨rfl, hb3⟩
    have x0 := (hb3.cell (p := ⟨w.heap.size, 0, none⟩) hz2.1).trans x0
    have x1 := (hb3.cell (p := ⟨w.heap.size, 1, none⟩) hz2.1).trans x1
    have z0 := (hb3.cell (p := ⟨w.heap.size + 1, 0, none⟩) hz2.2).trans z0
    have z1 := (hb3.cell (p := ⟨w.heap.size + 1, 1, none⟩) hz2.2).trans z1
    have f0 := (hb3.frozen (p := ⟨w.heap.size + 1, 0, none⟩) hz2.2).trans f0
    have f1 := (hb3.frozen (p := ⟨w.heap.size + 1, 1, none⟩) hz2.2).trans f1
    have hbl3 := hbl2.trans (hb3.mono hbl2.size)
    have hz3 : w.heap.size < w3.heap.size ∧ w.heap.size + 1 < w3.heap.size := by have := hb3.size; omega
    clear hb3 hbl2 hz2
    go_wp2_with fail
    (with_reducible refine (KR.out _).mono ?_)
    rintro e w4 ⟨rfl, hb4⟩
    have z0 := (hb4.cell (p := ⟨w.heap.size + 1, 0, none⟩) hz3.2).trans z0
    have z1 := (hb4.cell (p := ⟨w.heap.size + 1, 1, none⟩) hz3.2).trans z1
    have f0 := (hb4.frozen (p := ⟨w.heap.size + 1, 0, none⟩) hz3.2).trans f0
    have f1 := (hb4.frozen (p := ⟨w.heap.size + 1, 1, none⟩) hz3.2).trans f1
    have hbl4 := hbl3.trans (hb4.mono hbl3.size)
    clear hb4 hbl3 hz3 x0 x1
    go_wp2
    first
      | (refine bodyPost_ret (v := .agg #[.int .i64 (min a c), .int .i64 (max b d)]) (by simp [results, Tryz.results162, go_sem, *]) rfl ⟨rfl, ?_⟩; exact (hbl4.setCell (by simp) _).setCell (by simp) _)
      | (refine bodyPost_ret (v := .agg #[.int .i64 (-1073741824), .int .i64 (max b d)]) (by simp [results, Tryz.results162, go_sem, *]) rfl ⟨rfl, ?_⟩; exact (hbl4.setCell (by simp) _).setCell (by simp) _)
      | (refine bodyPost_ret (v := .agg #[.int .i64 (min a c), .int .i64 1073741824]) (by simp [results, Tryz.results162, go_sem, *]) rfl ⟨rfl, ?_⟩; exact (hbl4.setCell (by simp) _).setCell (by simp) _)
      | (refine bodyPost_ret (v := .agg #[.int .i64 (-1073741824), .int .i64 1073741824]) (by simp [results, Tryz.results162, go_sem, *]) rfl ⟨rfl, ?_⟩; exact (hbl4.setCell (by simp) _).setCell (by simp) _)
end Go.Proofs.YtifdgdgfmjfbdaaGreat
namespace Go.Proofs.YtifdgdgfmjfbdaaGreat
open Go.RowKit
set_option maxHeartbeats 1000000 in
theorem Sin_yes (lo hi : Int) (w : World) (hv : avB lo hi = true) : Calls Tryz.prog 100 #[.agg #[.int .i64 lo, .int .i64 hi]] w fun e w' => e = .returned (.tuple #[.agg #[.int .i64 (Trig.enLo lo hi), .int .i64 (Trig.enHi lo hi)], .int .i64 0]) ∧ Below w.heap.size w w' := by
  have KV := Lib.hid (fun W => validT_any lo hi W)
  rw [hv] at KV
  obtain ⟨a, b, c⟩ := avB_true.1 hv
  have KE := Lib.hid (fun W => enclosure_any lo hi W (by omega) (by omega) (by omega) (by omega))
  generalize Trig.enLo lo hi = u at *
  generalize Trig.enHi lo hi = v at *
  clear hv a b c
  go_enter Tryz.func100, Tryz.ntmps100
  go_wp2_with fail
  (with_reducible refine (KV.out _).mono ?_)
  rintro e w1 ⟨rfl, hb1⟩
  have hz1 := two_lt hb1
  have hbl1 := two_bl hb1
  have x0 := (hb1.cell (p := ⟨w.heap.size, 0, none⟩) (by simp; omega)).trans (show _ = some (.int .i64 lo) by simp)
  have x1 := (hb1.cell (p := ⟨w.heap.size, 1, none⟩) (by simp; omega)).trans (show _ = some (.int .i64 hi) by simp)
  have z0 := (hb1.cell (p := ⟨w.heap.size + 1, 0, none⟩) (by simp)).trans (show _ = some (.int .i64 0) by simp)
  have z1 := (hb1.cell (p := ⟨w.heap.size + 1, 1, none⟩) (by simp)).trans (show _ = some (.int .i64 0) by simp)
  have f0 := (hb1.frozen (p := ⟨w.heap.size + 1, 0, none⟩) (by simp)).trans (show _ = false by simp)
  have f1 := (hb1.frozen (p := ⟨w.heap.size + 1, 1, none⟩) (by simp)).trans (show _ = false by simp)
  clear hb1
  go_wp2_with fail
  (with_reducible refine (KE.out _).mono ?_)
  rintro e w2 ⟨rfl, hb2⟩
  have z0 := (hb2.cell (p := ⟨w.heap.size + 1, 0, none⟩) hz1.2).trans z0
  have z1 := (hb2.cell (p := ⟨w.heap.size + 1, 1, none⟩) hz1.2).trans z1
  have f0 := (hb2.frozen (p := ⟨w.heap.size + 1, 0, none⟩) hz1.2).trans f0
  have f1 := (hb2.frozen (p := ⟨w.heap.size + 1, 1, none⟩) hz1.2).trans f1
  have hbl2 := hbl1.trans (hb2.mono hbl1.size)
  clear hb2 hbl1 hz1 x0 x1
  go_wp2
  refine bodyPost_ret (v := .tuple #[.agg #[.int .i64 u, .int .i64 v], .int .i64 0]) (by simp [results, Tryz.results100, go_sem, *]) rfl ⟨rfl, ?_⟩
  exact (hbl2.setCell (by simp) _).setCell (by simp) _
set_option maxHeartbeats 1000000 in
theorem further_any (lo hi : Int) (w : World) (h0 : -10000000000000 ≤ lo) (h1 : lo ≤ 10000000000000) (h2 : -10000000000000 ≤ hi) (h3 : hi ≤ 10000000000000) : Calls Tryz.prog 163 #[.agg #[.int .i64 lo, .int .i64 hi]] w fun e w' => e = .returned (.agg #[.int .i64 (lo + 5400000), .int .i64 (hi + 5400000)]) ∧ Below w.heap.size w w' := by
  go_enter Tryz.func163, Tryz.ntmps163
  go_wp2
  refine bodyPost_ret (v := .agg #[.int .i64 (lo + 5400000), .int .i64 (hi + 5400000)]) (by simp [results, Tryz.results163, go_sem]) rfl ⟨rfl, ?_⟩
  repeat (first | exact Below.refl _ _ | assumption | refine bl_drew ?_ | refine bl_drewN ?_ _ | refine Below.setCell ?_ (by first | assumption | omega | (simp; done) | (simp; omega)) _ | refine Below.alloc ?_ (by first | assumption | omega | (simp; done) | (simp; omega)) _)
set_option maxHeartbeats 1000000 in
theorem Cos_yes (lo hi : Int) (w : World) (hv : avB lo hi = true) : Calls Tryz.prog 101 #[.agg #[.int .i64 lo, .int .i64 hi]] w fun e w' => e = .returned (.tuple #[.agg #[.int .i64 (Trig.enLo (lo + 5400000) (hi + 5400000)), .int .i64 (Trig.enHi (lo + 5400000) (hi + 5400000))], .int .i64 0]) ∧ Below w.heap.size w w' := by
  have KV := Lib.hid (fun W => validT_any lo hi W)
  rw [hv] at KV
  obtain ⟨a, b, c⟩ := avB_true.1 hv
  have KF := Lib.hid (fun W => further_any lo hi W (by omega) (by omega) (by omega) (by omega))
  have KE := Lib.hid (fun W => enclosure_any (lo + 5400000) (hi + 5400000) W (by omega) (by omega) (by omega) (by omega))
  generalize lo + 5400000 = lo' at *
  generalize hi + 5400000 = hi' at *
  generalize Trig.enLo lo' hi' = u at *
  generalize Trig.enHi lo' hi' = v at *
  clear hv a b c
  go_enter Tryz.func101, Tryz.ntmps101
  go_wp2_with fail
  (with_reducible refine (KV.out _).mono ?_)
  rintro e w1 ⟨rfl, hb1⟩
  have hz1 := two_lt hb1
  have hbl1 := two_bl hb1
  have x0 := (hb1.cell (p := ⟨w.heap.size, 0, none⟩) (by simp; omega)).trans (show _ = some (.int .i64 lo) by simp)
  have x1 := (hb1.cell (p := ⟨w.heap.size, 1, none⟩) (by simp; omega)).trans (show _ = some (.int .i64 hi) by simp)
  have z0 := (hb1.cell (p := ⟨w.heap.size + 1, 0, none⟩) (by simp)).trans (show _ = some (.int .i64 0) by simp)
  have z1 := (hb1.cell (p := ⟨w.heap.size + 1, 1, none⟩) (by simp)).trans (show _ = some (.int .i64 0) by simp)
  have f0 := (hb1.frozen (p := ⟨w.heap.size + 1, 0, none⟩) (by simp)).trans (show _ = false by simp)
  have f1 := (hb1.frozen (p := ⟨w.heap.size + 1, 1, none⟩) (by simp)).trans (show _ = false by simp)
  clear hb1
  go_wp2_with fail
  (with_reducible refine (KF.out _).mono ?_)
  rintro e w2 ⟨rfl, hb2⟩
  have z0 := (hb2.cell (p := ⟨w.heap.size + 1, 0, none⟩) hz1.2).trans z0
  have z1 := (hb2.cell (p := ⟨w.heap.size + 1, 1, none⟩) hz1.2).trans z1
  have f0 := (hb2.frozen (p := ⟨w.heap.size + 1, 0, none⟩) hz1.2).trans f0
  have f1 := (hb2.frozen (p := ⟨w.heap.size + 1, 1, none⟩) hz1.2).trans f1
  have hbl2 := hbl1.trans (hb2.mono hbl1.size)
  have hz2 : w.heap.size + 1 < w2.heap.size := Nat.lt_of_lt_of_le hz1.2 hb2.size
  clear hb2 hbl1 hz1 x0 x1
  go_wp2_with fail
  (with_reducible refine (KE.out _).mono ?_)
  rintro e w3 ⟨rfl, hb3⟩
  have z0 := (hb3.cell (p := ⟨w.heap.size + 1, 0, none⟩) hz2).trans z0
  have z1 := (hb3.cell (p := ⟨w.heap.size + 1, 1, none⟩) hz2).trans z1
  have f0 := (hb3.frozen (p := ⟨w.heap.size + 1, 0, none⟩) hz2).trans f0
  have f1 := (hb3.frozen (p := ⟨w.heap.size + 1, 1, none⟩) hz2).trans f1
  have hbl3 := hbl2.trans (hb3.mono hbl2.size)
  clear hb3 hbl2 hz2
  go_wp2
  refine bodyPost_ret (v := .tuple #[.agg #[.int .i64 u, .int .i64 v], .int .i64 0]) (by simp [results, Tryz.results101, go_sem, *]) rfl ⟨rfl, ?_⟩
  exact (hbl3.setCell (by simp) _).setCell (by simp) _
end Go.Proofs.YtifdgdgfmjfbdaaGreat
namespace Go.Proofs.YtifdgdgfmjfbdaaGreat
open Go.RowKit
/-- two cells that are known, and can be written -/
structure D2 (W : World) (g : Nat) (a b : Int) : Prop where
  lt : g < W.heap.size
  c0 : W.cell? ⟨g, 0, none⟩ = some (.int .i64 a)
  c1 : W.cell? ⟨g, 1, none⟩ = some (.int .i64 b)
  f0 : W.frozen? ⟨g, 0, none⟩ = false
  f1 : W.frozen? ⟨g, 1, none⟩ = false
section
variable {W W' : World} {g : Nat} {a b : Int}
theorem D2.below {B : Nat} (h : D2 W g a b) (hb : Below B W W') (hB : g < B) : D2 W' g a b :=
  ⟨Nat.lt_of_lt_of_le h.lt hb.size, (hb.cell (p := ⟨g, 0, none⟩) hB).trans h.c0, (hb.cell (p := ⟨g, 1, none⟩) hB).trans h.c1, (hb.frozen (p := ⟨g, 0, none⟩) hB).trans h.f0, (hb.frozen (p := ⟨g, 1, none⟩) hB).trans h.f1⟩
theorem D2.alloc (h : D2 W g a b) (o : Obj) : D2 (W.alloc o) g a b := h.below (bl_alloc W o) h.lt
theorem D2.new (W : World) (a b : Int) (t : TypeId) : D2 (W.alloc (.cells #[.int .i64 a, .int .i64 b] t)) W.heap.size a b := ⟨by simp, by simp, by simp, by simp, by simp⟩
theorem D2.far (h : D2 W g a b) {p : Addr} (hp : g ≠ p.block) (u : Value) : D2 (W.setCell p u) g a b := by
  have hne : ∀ i, p ≠ (⟨g, i, none⟩ : Addr) := fun i e => hp (by rw [e])
  refine ⟨by simpa using h.lt, ?_, ?_, ?_, ?_⟩
  · rw [World.cell?_setCell_other _ _ _ _ (hne 0)]; exact h.c0
  · rw [World.cell?_setCell_other _ _ _ _ (hne 1)]; exact h.c1
  · simpa using h.f0
  · simpa using h.f1
theorem D2.set0 (h : D2 W g a b) (v : Int) : D2 (W.setCell ⟨g, 0, none⟩ (.int .i64 v)) g v b := by
  refine ⟨by simpa using h.lt, World.cell?_setCell_same _ _ _ h.c0, ?_, by simpa using h.f0, by simpa using h.f1⟩
  rw [World.cell?_setCell_other _ _ _ _ (by simp)]
  exact h.c1
theorem D2.set1 (h : D2 W g a b) (v : Int) : D2 (W.setCell ⟨g, 1, none⟩ (.int .i64 v)) g a v := by
  refine ⟨by simpa using h.lt, ?_, World.cell?_setCell_same _ _ _ h.c1, by simpa using h.f0, by simpa using h.f1⟩
  rw [World.cell?_setCell_other _ _ _ _ (by simp)]
  exact h.c0
end
end Go.Proofs.YtifdgdgfmjfbdaaGreat
namespace Go.Proofs.YtifdgdgfmjfbdaaGreat
open Go.RowKit
/-- which intervals of fixed are valid -/
def fvB (lo hi : Int) : Bool := decide (-2147483648 ≤ lo ∧ lo ≤ hi ∧ hi ≤ 2147483648)
set_option maxHeartbeats 1000000 in
theorem fValid_any (lo hi : Int) (w : World) : Calls Tryz.prog 151 #[.agg #[.int .i64 lo, .int .i64 hi]] w fun e w' => e = .returned (.bool (fvB lo hi)) ∧ Below w.heap.size w w' := by
  unfold fvB
  go_enter Tryz.func151, Tryz.ntmps151
  go_wp2
  all_goals
    go_ret
    refine ⟨ret_boolU (by first | (simp_all; done) | (simp_all; omega)), ?_⟩
    repeat (first | exact Below.refl _ _ | assumption | refine bl_drew ?_ | refine bl_drewN ?_ _ | refine Below.setCell ?_ (by first | assumption | omega | (simp; done) | (simp; omega)) _ | refine Below.alloc ?_ (by first | assumption | omega | (simp; done) | (simp; omega)) _)
/-- what fit returns -/
def fitV (lo hi : Int) : Value := if fvB lo hi = true then .tuple #[.agg #[.int .i64 lo, .int .i64 hi], .int .i64 0] else .tuple #[.agg #[.int .i64 0, .int .i64 0], .int .i64 5]
set_option maxHeartbeats 2000000 in
theorem ffit_any (lo hi : Int) (w : World) : Calls Tryz.prog 158 #[.int .i64 lo, .int .i64 hi] w fun e w' => e = .returned (fitV lo hi) ∧ Below w.heap.size w w' := by
  have KV := Lib.hid (fun W => fValid_any lo hi W)
  unfold fitV
  generalize fvB lo hi = s at *
  cases s
  · simp only [Bool.false_eq_true, if_false]
    go_enter Tryz.func158, Tryz.ntmps158
    go_wp2_with fail
    (with_reducible refine (KV.out _).mono ?_)
    rintro e w1 ⟨rfl, hb1⟩
    have hbl1 := two_bl hb1
    have R1 := Lib.hid (((D2.new w 0 0 97).alloc (.cells #[.int .i64 lo, .int .i64 hi] 97)).below hb1 (by simp; omega))
    obtain ⟨rt, r0, r1, rf0, rf1⟩ := R1.out
    clear hb1
    go_wp2
    refine bodyPost_ret (v := .tuple #[.agg #[.int .i64 0, .int .i64 0], .int .i64 5]) (by simp [results, Tryz.results158, go_sem, *]) rfl ⟨rfl, ?_⟩
    exact (hbl1.setCell (by simp) _).setCell (by simp) _
  · simp only [if_true]
    go_enter Tryz.func158, Tryz.ntmps158
    go_wp2_with fail
    (with_reducible refine (KV.out _).mono ?_)
    rintro e w1 ⟨rfl, hb1⟩
    have hbl1 := two_bl hb1
    have R1 := Lib.hid (((D2.new w 0 0 97).alloc (.cells #[.int .i64 lo, .int .i64 hi] 97)).below hb1 (by simp; omega))
    have O1 : Hid (D2 w1 (w.heap.size + 1) lo hi) := Lib.hid (by
      have := (D2.new (w.alloc (.cells #[.int .i64 0, .int .i64 0] 97)) lo hi 97).below hb1 (by simp)
      simpa using this)
    obtain ⟨rt, r0, r1, rf0, rf1⟩ := R1.out
    obtain ⟨ot, o0, o1, of0, of1⟩ := O1.out
    clear hb1
    go_wp2
    refine bodyPost_ret (v := .tuple #[.agg #[.int .i64 lo, .int .i64 hi], .int .i64 0]) (by simp [results, Tryz.results158, go_sem, *]) rfl ⟨rfl, ?_⟩
    exact (hbl1.setCell (by simp) _).setCell (by simp) _
set_option maxHeartbeats 1000000 in
theorem both_any (a b c d : Int) (w : World) (h : fvB a b = true) (g : fvB c d = true) : Calls Tryz.prog 157 #[.agg #[.int .i64 a, .int .i64 b], .agg #[.int .i64 c, .int .i64 d]] w fun e w' => e = .returned (.bool true) ∧ Below w.heap.size w w' := by
  have KA := Lib.hid (fun W => fValid_any a b W)
  have KB := Lib.hid (fun W => fValid_any c d W)
  rw [h] at KA
  rw [g] at KB
  clear h g
  go_enter Tryz.func157, Tryz.ntmps157
  go_wp2_with fail
  (with_reducible refine (KA.out _).mono ?_)
  rintro e w1 ⟨rfl, hb1⟩
  have hbl1 := two_bl hb1
  have O1 : Hid (D2 w1 (w.heap.size + 1) c d) := Lib.hid (by
    have := (D2.new (w.alloc (.cells #[.int .i64 a, .int .i64 b] 97)) c d 97).below hb1 (by simp)
    simpa using this)
  obtain ⟨ot, o0, o1, of0, of1⟩ := O1.out
  clear hb1
  go_wp2_with fail
  (with_reducible refine (KB.out _).mono ?_)
  rintro e w2 ⟨rfl, hb2⟩
  have hbl2 := hbl1.trans (hb2.mono hbl1.size)
  clear hb2
  go_wp2
  go_ret
  exact ⟨rfl, hbl2⟩
end Go.Proofs.YtifdgdgfmjfbdaaGreat
namespace Go.Proofs.YtifdgdgfmjfbdaaGreat
open Go.RowKit
theorem three_D2 {w w1 : World} {a b c d e f : Int} {t : TypeId} (hb : Below (((w.alloc (.cells #[.int .i64 a, .int .i64 b] t)).alloc (.cells #[.int .i64 c, .int .i64 d] t)).alloc (.cells #[.int .i64 e, .int .i64 f] t)).heap.size (((w.alloc (.cells #[.int .i64 a, .int .i64 b] t)).alloc (.cells #[.int .i64 c, .int .i64 d] t)).alloc (.cells #[.int .i64 e, .int .i64 f] t)) w1) :
    Below w.heap.size w w1 ∧ D2 w1 w.heap.size a b ∧ D2 w1 (w.heap.size + 1) c d ∧ D2 w1 (w.heap.size + 2) e f := by
  refine ⟨?_, ?_, ?_, ?_⟩
  · exact ((((Below.refl _ _).alloc (Nat.le_refl _) _).alloc (by simp) _).alloc (by simp; omega) _).trans (hb.mono (by simp; omega))
  · exact (((D2.new w a b t).alloc _).alloc _).below hb (by simp; omega)
  · have := ((D2.new (w.alloc (.cells #[.int .i64 a, .int .i64 b] t)) c d t).alloc (.cells #[.int .i64 e, .int .i64 f] t)).below hb (by simp)
    simpa using this
  · have := (D2.new ((w.alloc (.cells #[.int .i64 a, .int .i64 b] t)).alloc (.cells #[.int .i64 c, .int .i64 d] t)) e f t).below hb (by simp)
    simpa using this
theorem mul_bd31 {a b : Int} (a0 : -2147483648 ≤ a) (a1 : a ≤ 2147483648) (b0 : -2147483648 ≤ b) (b1 : b ≤ 2147483648) : -4611686018427387904 ≤ a * b ∧ a * b ≤ 4611686018427387904 := by
  have : (a * b).natAbs ≤ 2147483648 * 2147483648 := by rw [Int.natAbs_mul]; exact Nat.mul_le_mul (by omega) (by omega)
  omega
set_option maxHeartbeats 1000000 in
theorem ffloor_any (a : Int) (w : World) (a0 : -4611686018427387904 ≤ a) (a1 : a ≤ 4611686018427387904) : Calls Tryz.prog 159 #[.int .i64 a, .int .i64 1073741824] w fun e w' => e = .returned (.int .i64 (a / 1073741824)) ∧ w' = w := by
  have h1 := Int.mul_tdiv_add_tmod a 1073741824
  have h3 := Int.tmod_lt_of_pos a (show (0 : Int) < 1073741824 by omega)
  have h4 := Int.tmod_lt_of_pos (-a) (show (0 : Int) < 1073741824 by omega)
  rw [Int.neg_tmod] at h4
  have h5 : a < 0 → Int.tmod a 1073741824 ≤ 0 := fun h => by
    have h2 := Int.tmod_nonneg 1073741824 (show 0 ≤ -a by omega)
    rw [Int.neg_tmod] at h2
    omega
  have h6 : ¬ a < 0 → 0 ≤ Int.tmod a 1073741824 := fun h => Int.tmod_nonneg 1073741824 (show 0 ≤ a by omega)
  have s1 : wrap64 (Int.tdiv a 1073741824 - 1) = Int.tdiv a 1073741824 - 1 := IntWalk.wrap64_in _ (by omega)
  have s2 : wrap64 (Int.tdiv a 1073741824) = Int.tdiv a 1073741824 := IntWalk.wrap64_in _ (by omega)
  have H := Lib.hid (And.intro h1 (And.intro h3 (And.intro h4 (And.intro h5 h6))))
  clear h1 h3 h4 h5 h6
  cases hx : decide (a < 0)
  all_goals
    go_enter Tryz.func159, Tryz.ntmps159
    go_wp2
    all_goals
      go_ret
      refine ⟨ret_int ?_, rfl⟩
      obtain ⟨h1, h3, h4, h5, h6⟩ := H.out
      try rw [s1]
      simp only [bne_iff_ne, ne_eq, bne_eq_false_iff_eq, decide_eq_true_eq, decide_eq_false_iff_not] at *
      omega
set_option maxHeartbeats 1000000 in
theorem fceil_any (a : Int) (w : World) (a0 : -4611686018427387904 ≤ a) (a1 : a ≤ 4611686018427387904) : Calls Tryz.prog 160 #[.int .i64 a, .int .i64 1073741824] w fun e w' => e = .returned (.int .i64 (-(-a / 1073741824))) ∧ w' = w := by
  have KF := Lib.hid (fun W => ffloor_any (-a) W (by omega) (by omega))
  have s1 : wrap64 (-a) = -a := IntWalk.wrap64_in _ (by omega)
  have s2 : wrap64 (-(-a / 1073741824)) = -(-a / 1073741824) := IntWalk.wrap64_in _ (by omega)
  generalize -a / 1073741824 = q at *
  go_enter Tryz.func160, Tryz.ntmps160
  go_wp2_with fail
  (with_reducible refine (KF.out _).mono ?_)
  rintro e w1 ⟨rfl, rfl⟩
  go_wp2
  go_ret
  exact ⟨ret_int s2, rfl⟩
theorem fv_iff {a b : Int} : fvB a b = true ↔ -2147483648 ≤ a ∧ a ≤ b ∧ b ≤ 2147483648 := by unfold fvB; exact decide_eq_true_iff
set_option maxHeartbeats 2000000 in
theorem fSub_any (a b c d : Int) (w : World) (h : fvB a b = true) (g : fvB c d = true) : Calls Tryz.prog 156 #[.agg #[.int .i64 a, .int .i64 b], .agg #[.int .i64 c, .int .i64 d]] w fun e w' => e = .returned (fitV (a - d) (b - c)) ∧ Below w.heap.size w w' := by
  have KB := Lib.hid (fun W => both_any a b c d W h g)
  have KF := Lib.hid (fun W => ffit_any (a - d) (b - c) W)
  rw [fv_iff] at h g
  have s1 : wrap64 (a - d) = a - d := IntWalk.wrap64_in _ (by omega)
  have s2 : wrap64 (b - c) = b - c := IntWalk.wrap64_in _ (by omega)
  clear h g
  unfold fitV at *
  generalize fvB (a - d) (b - c) = s at *
  obtain ⟨p, hp⟩ : ∃ p, a - d = p := ⟨_, rfl⟩
  obtain ⟨q, hq⟩ : ∃ q, b - c = q := ⟨_, rfl⟩
  rw [hp] at s1 KF ⊢
  rw [hq] at s2 KF ⊢
  cases s
  all_goals
    simp only [Bool.false_eq_true, if_false, if_true] at *
    go_enter Tryz.func156, Tryz.ntmps156
    go_wp2_with fail
    (with_reducible refine (KB.out _).mono ?_)
    rintro e w1 ⟨rfl, hb1⟩
    obtain ⟨hbl1, A1, B1, C1⟩ := three_D2 hb1
    replace C1 := Lib.hid C1
    obtain ⟨at1, a1, a2, af1, af2⟩ := A1
    obtain ⟨bt1, b1, b2, bf1, bf2⟩ := B1
    clear hb1
    go_wp2_with fail
    (with_reducible refine (KF.out _).mono ?_)
    rintro e w2 ⟨rfl, hb2⟩
    have hbl2 := hbl1.trans (hb2.mono hbl1.size)
    have R2 := Lib.hid (C1.out.below hb2 C1.out.lt)
    obtain ⟨rt, r0, r1, rf0, rf1⟩ := R2.out
    clear hb2
    go_wp2
    first
      | refine bodyPost_ret (v := .tuple #[.agg #[.int .i64 p, .int .i64 q], .int .i64 0]) (by simp [results, Tryz.results156, go_sem, *]; done) rfl ⟨rfl, ?_⟩
      | refine bodyPost_ret (v := .tuple #[.agg #[.int .i64 0, .int .i64 0], .int .i64 5]) (by simp [results, Tryz.results156, go_sem, *]; done) rfl ⟨rfl, ?_⟩
    exact (hbl2.setCell (by simp; omega) _).setCell (by simp; omega) _
end Go.Proofs.YtifdgdgfmjfbdaaGreat
