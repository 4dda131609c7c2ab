/- The walks of the reference's high and quick. -/
import Derived.Test.YtifdgdgfmjfbdaaGreatHUg
import Derived.Test.YtifdgdgfmjfbdaaGreatHTf
set_option linter.unusedVariables false
set_option linter.unusedSimpArgs false
namespace Go.Proofs.YtifdgdgfmjfbdaaGreat
open Go.RowKit
theorem ret2_int {a b c d : Int} (h : a = c) (h2 : b = d) : Ending.returned (.tuple #[.int .i64 a, .int .i64 b]) = .returned (.tuple #[.int .i64 c, .int .i64 d]) := by rw [h, h2]
set_option maxHeartbeats 1000000 in
theorem sine_any (n : Int) (w : World) (h0 : 0 ≤ n) (h1 : n ≤ 5400000) :
    Calls Tryz.prog 252 #[.int .i64 n] w fun e w' => e = .returned (.tuple #[.int .i64 (Trig.sF n), .bool (Trig.exN n)]) ∧ Below w.heap.size w w' := by
  by_cases a : n = 0
  · subst a
    have hs : Trig.sF 0 = 0 := by simp [Trig.sF]
    have hx : Trig.exN 0 = true := by decide
    rw [hs, hx]
    go_enter Tryz.func252, Tryz.ntmps252
    go_wp2
    go_ret2
    exact ⟨rfl, Below.refl _ _⟩
  by_cases b : n = 1800000
  · subst b
    have hs : Trig.sF 1800000 = 536870912 := by simp [Trig.sF]
    have hx : Trig.exN 1800000 = true := by decide
    rw [hs, hx]
    go_enter Tryz.func252, Tryz.ntmps252
    go_wp2
    go_ret2
    exact ⟨rfl, Below.refl _ _⟩
  by_cases c : n = 5400000
  · subst c
    have hs : Trig.sF 5400000 = 1073741824 := by simp [Trig.sF]
    have hx : Trig.exN 5400000 = true := by decide
    rw [hs, hx]
    go_enter Tryz.func252, Tryz.ntmps252
    go_wp2
    go_ret2
    exact ⟨rfl, Below.refl _ _⟩
  by_cases d : n ≤ 2700000
  · exact sine_lo n w (by omega) d b
  · exact sine_hi n w (by omega) (by omega)
theorem tmodT_cases (n : Int) : (0 ≤ n ∧ n.tmod 21600000 = n % 21600000) ∨ (n < 0 ∧ n.tmod 21600000 = -((-n) % 21600000)) := by
  by_cases h : 0 ≤ n
  · exact .inl ⟨h, Int.tmod_eq_emod_of_nonneg h⟩
  · refine .inr ⟨by omega, ?_⟩
    have h1 : (-n).tmod 21600000 = (-n) % 21600000 := Int.tmod_eq_emod_of_nonneg (by omega)
    rw [Int.neg_tmod] at h1
    omega
theorem tmodT_pos {n : Int} (h : 0 ≤ n.tmod 21600000) : n.tmod 21600000 = n % 21600000 := by
  rcases tmodT_cases n with ⟨h1, h2⟩ | ⟨h1, h2⟩ <;> omega
theorem tmodT_neg {n : Int} (h : n.tmod 21600000 < 0) : n.tmod 21600000 + 21600000 = n % 21600000 := by
  rcases tmodT_cases n with ⟨h1, h2⟩ | ⟨h1, h2⟩ <;> omega
set_option maxHeartbeats 1000000 in
theorem turned_any (n : Int) (w : World) : Calls Tryz.prog 251 #[.int .i64 n] w fun e w' => e = .returned (.int .i64 (n % 21600000)) ∧ w' = w := by
  go_enter Tryz.func251, Tryz.ntmps251
  go_wp2
  all_goals
    go_ret
    refine ⟨ret_int ?_, rfl⟩
    first | (exact tmodT_pos (by assumption)) | (rw [IntWalk.wrap64_in _ (by have := tmodT_neg (n := n) (by assumption); omega)]; exact tmodT_neg (by assumption))
set_option maxHeartbeats 2000000 in
theorem bounds_any (n : Int) (w : World) :
    Calls Tryz.prog 212 #[.int .i64 n] w fun e w' => e = .returned (.tuple #[.int .i64 (Trig.loB n), .int .i64 (Trig.hiB n)]) ∧ Below w.heap.size w w' := by
  have KT := Lib.hid (fun W => turned_any n W)
  have hq := Trig.qrt_bd n
  have KS := Lib.hid (fun W => sine_any (Trig.qrt n) W hq.1 hq.2)
  have hb := Trig.sF_bd hq.1 hq.2
  have hlo : Trig.loB n = if Trig.sth n = true then - Trig.upF (Trig.qrt n) else Trig.sF (Trig.qrt n) := rfl
  have hhi : Trig.hiB n = if Trig.sth n = true then - Trig.sF (Trig.qrt n) else Trig.upF (Trig.qrt n) := rfl
  have hu : Trig.upF (Trig.qrt n) = if Trig.exN (Trig.qrt n) = true then Trig.sF (Trig.qrt n) else Trig.sF (Trig.qrt n) + 1 := rfl
  have hst : Trig.sth n = decide (n % 21600000 > 10800000) := rfl
  have hqd : Trig.qrt n = if n % 21600000 > 10800000 then (if n % 21600000 - 10800000 > 5400000 then 10800000 - (n % 21600000 - 10800000) else n % 21600000 - 10800000) else (if n % 21600000 > 5400000 then 10800000 - n % 21600000 else n % 21600000) := rfl
  rw [hlo, hhi, hu, hst]
  clear hlo hhi hu hst hq
  have hm : 0 ≤ n % 21600000 ∧ n % 21600000 < 21600000 := by omega
  generalize n % 21600000 = m at *
  generalize Trig.qrt n = q at *
  generalize Trig.sF q = s at *
  generalize Trig.exN q = x at *
  obtain ⟨m0, m1⟩ := hm
  obtain ⟨s0, s1⟩ := hb
  by_cases hs : m > 10800000
  · have ds : decide (10800000 < m) = true := decide_eq_true hs
    have hd : decide (m > 10800000) = true := ds
    rw [hd]
    clear hd
    by_cases hm5 : m - 10800000 > 5400000
    · rw [if_pos hs, if_pos hm5] at hqd
      subst hqd
      have d5 : decide (5400000 < m - 10800000) = true := decide_eq_true hm5
      cases x
      all_goals
        simp only [eq_self, if_true, Bool.false_eq_true, if_false]
        go_enter Tryz.func212, Tryz.ntmps212
        go_wp2_with (first | (go_at_call 251; (with_reducible refine (KT.out _).mono ?_); rintro e w1 ⟨rfl, rfl⟩) | (go_at_call 252; (with_reducible refine (KS.out _).mono ?_); rintro e w2 ⟨rfl, hb2⟩))
        go_ret2
        exact ⟨ret2_int rfl rfl, hb2⟩
    · rw [if_pos hs, if_neg hm5] at hqd
      subst hqd
      have d5 : decide (5400000 < m - 10800000) = false := decide_eq_false hm5
      cases x
      all_goals
        simp only [eq_self, if_true, Bool.false_eq_true, if_false]
        go_enter Tryz.func212, Tryz.ntmps212
        go_wp2_with (first | (go_at_call 251; (with_reducible refine (KT.out _).mono ?_); rintro e w1 ⟨rfl, rfl⟩) | (go_at_call 252; (with_reducible refine (KS.out _).mono ?_); rintro e w2 ⟨rfl, hb2⟩))
        go_ret2
        exact ⟨ret2_int rfl rfl, hb2⟩
  · have ds : decide (10800000 < m) = false := decide_eq_false hs
    have hd : decide (m > 10800000) = false := ds
    rw [hd]
    clear hd
    by_cases hm5 : m > 5400000
    · rw [if_neg hs, if_pos hm5] at hqd
      subst hqd
      have d5 : decide (5400000 < m) = true := decide_eq_true hm5
      cases x
      all_goals
        simp only [eq_self, if_true, Bool.false_eq_true, if_false]
        go_enter Tryz.func212, Tryz.ntmps212
        go_wp2_with (first | (go_at_call 251; (with_reducible refine (KT.out _).mono ?_); rintro e w1 ⟨rfl, rfl⟩) | (go_at_call 252; (with_reducible refine (KS.out _).mono ?_); rintro e w2 ⟨rfl, hb2⟩))
        go_ret2
        exact ⟨ret2_int rfl rfl, hb2⟩
    · rw [if_neg hs, if_neg hm5] at hqd
      subst hqd
      have d5 : decide (5400000 < q) = false := decide_eq_false hm5
      cases x
      all_goals
        simp only [eq_self, if_true, Bool.false_eq_true, if_false]
        go_enter Tryz.func212, Tryz.ntmps212
        go_wp2_with (first | (go_at_call 251; (with_reducible refine (KT.out _).mono ?_); rintro e w1 ⟨rfl, rfl⟩) | (go_at_call 252; (with_reducible refine (KS.out _).mono ?_); rintro e w2 ⟨rfl, hb2⟩))
        go_ret2
        exact ⟨ret2_int rfl rfl, hb2⟩
end Go.Proofs.YtifdgdgfmjfbdaaGreat
namespace Go.Proofs.YtifdgdgfmjfbdaaGreat
open Go.RowKit
/-- which arcs are valid -/
def avB (lo hi : Int) : Bool := decide (-1099511627776 ≤ lo ∧ lo ≤ hi ∧ hi ≤ 1099511627776)
theorem ret_boolU {a b : Bool} (h : a = b) : Ending.returned (.bool a) = .returned (.bool b) := by rw [h]
theorem avB_true {lo hi : Int} : avB lo hi = true ↔ (-1099511627776 ≤ lo ∧ lo ≤ hi ∧ hi ≤ 1099511627776) := by simp [avB]
set_option maxHeartbeats 1000000 in
theorem validT_any (lo hi : Int) (w : World) : Calls Tryz.prog 161 #[.agg #[.int .i64 lo, .int .i64 hi]] w fun e w' => e = .returned (.bool (avB lo hi)) ∧ Below w.heap.size w w' := by
  unfold avB
  go_enter Tryz.func161, Tryz.ntmps161
  go_wp2
  all_goals
    go_ret
    refine ⟨ret_boolU (by first | (simp_all; done) | (simp_all; omega)), ?_⟩
    repeat (first | exact Below.refl _ _ | assumption | refine bl_drew ?_ | refine bl_drewN ?_ _ | refine Below.setCell ?_ (by first | assumption | omega | (simp; done) | (simp; omega)) _ | refine Below.alloc ?_ (by first | assumption | omega | (simp; done) | (simp; omega)) _)
set_option maxHeartbeats 1000000 in
theorem meets_any (lo hi n : Int) (w : World) (h0 : -10000000000000 ≤ lo) (h1 : lo ≤ 10000000000000) (h2 : -10000000000000 ≤ hi) (h3 : hi ≤ 10000000000000) (h4 : 0 ≤ n) (h5 : n ≤ 21600000) :
    Calls Tryz.prog 213 #[.agg #[.int .i64 lo, .int .i64 hi], .int .i64 n] w fun e w' => e = .returned (.bool (Trig.metB lo hi n)) ∧ Below w.heap.size w w' := by
  have KT := Lib.hid (fun W => turned_any (n - lo) W)
  have s1 : IntKind.i64.wrap (n - lo) = n - lo := IntWalk.i64_in _ (by omega)
  have s2 : IntKind.i64.wrap (hi - lo) = hi - lo := IntWalk.i64_in _ (by clear s1; omega)
  unfold Trig.metB
  go_enter Tryz.func213, Tryz.ntmps213
  go_wp2
  go_quiet ((go_at_call 251; exact Calls.quiet_of_same (KT.out _)))
  go_wp2
  go_ret
  refine ⟨rfl, ?_⟩
  repeat (first | exact Below.refl _ _ | assumption | refine bl_drew ?_ | refine bl_drewN ?_ _ | refine Below.setCell ?_ (by first | assumption | omega | (simp; done) | (simp; omega)) _ | refine Below.alloc ?_ (by first | assumption | omega | (simp; done) | (simp; omega)) _)
set_option maxHeartbeats 2000000 in
theorem enclosure_any (lo hi : Int) (w : World) (h0 : -10000000000000 ≤ lo) (h1 : lo ≤ 10000000000000) (h2 : -10000000000000 ≤ hi) (h3 : hi ≤ 10000000000000) :
    Calls Tryz.prog 162 #[.agg #[.int .i64 lo, .int .i64 hi]] w fun e w' => e = .returned (.agg #[.int .i64 (Trig.enLo lo hi), .int .i64 (Trig.enHi lo hi)]) ∧ Below w.heap.size w w' := by
  have KA := Lib.hid (fun W => bounds_any lo W)
  have KB := Lib.hid (fun W => bounds_any hi W)
  have KQ := Lib.hid (fun W => meets_any lo hi 5400000 W h0 h1 h2 h3 (by omega) (by omega))
  have KR := Lib.hid (fun W => meets_any lo hi 16200000 W h0 h1 h2 h3 (by omega) (by omega))
  unfold Trig.enLo Trig.enHi
  generalize Trig.metB lo hi 5400000 = p at *
  generalize Trig.metB lo hi 16200000 = q at *
  generalize Trig.loB lo = a at *
  generalize Trig.hiB lo = b at *
  generalize Trig.loB hi = c at *
  generalize Trig.hiB hi = d at *
  cases p <;> cases q
  all_goals
    simp only [eq_self, if_true, Bool.false_eq_true, if_false]
    go_enter Tryz.func162, Tryz.ntmps162
    go_wp2_with fail
    (with_reducible refine (KA.out _).mono ?_)
    rintro e w1 ⟨rfl, hb1⟩
    have hz1 := two_lt hb1
    have hbl1 := two_bl hb1
    have x0 := (hb1.cell (p := ⟨w.heap.size, 0, none⟩) (by simp; omega)).trans (show _ = some (.int .i64 lo) by simp)
    have x1 := (hb1.cell (p := ⟨w.heap.size, 1, none⟩) (by simp; omega)).trans (show _ = some (.int .i64 hi) by simp)
    have z0 := (hb1.cell (p := ⟨w.heap.size + 1, 0, none⟩) (by simp)).trans (show _ = some (.int .i64 0) by simp)
    have z1 := (hb1.cell (p := ⟨w.heap.size + 1, 1, none⟩) (by simp)).trans (show _ = some (.int .i64 0) by simp)
    have f0 := (hb1.frozen (p := ⟨w.heap.size + 1, 0, none⟩) (by simp)).trans (show _ = false by simp)
    have f1 := (hb1.frozen (p := ⟨w.heap.size + 1, 1, none⟩) (by simp)).trans (show _ = false by simp)
    clear hb1
    go_wp2_with fail
    (with_reducible refine (KB.out _).mono ?_)
    rintro e w2 ⟨rfl, hb2⟩
    have x0 := (hb2.cell (p := ⟨w.heap.size, 0, none⟩) hz1.1).trans x0
    have x1 := (hb2.cell (p := ⟨w.heap.size, 1, none⟩) hz1.1).trans x1
    have z0 := (hb2.cell (p := ⟨w.heap.size + 1, 0, none⟩) hz1.2).trans z0
    have z1 := (hb2.cell (p := ⟨w.heap.size + 1, 1, none⟩) hz1.2).trans z1
    have f0 := (hb2.frozen (p := ⟨w.heap.size + 1, 0, none⟩) hz1.2).trans f0
    have f1 := (hb2.frozen (p := ⟨w.heap.size + 1, 1, none⟩) hz1.2).trans f1
    have hbl2 := hbl1.trans (hb2.mono hbl1.size)
    have hz2 : w.heap.size < w2.heap.size ∧ w.heap.size + 1 < w2.heap.size := by have := hb2.size; omega
    clear hb2 hbl1 hz1
    go_wp2_with fail
    (with_reducible refine (KQ.out _).mono ?_)
    rintro e w3 ⟨rfl, hb3⟩
    have x0 := (hb3.cell (p := ⟨w.heap.size, 0, none⟩) hz2.1).trans x0
    have x1 := (hb3.cell (p := ⟨w.heap.size, 1, none⟩) hz2.1).trans x1
    have z0 := (hb3.cell (p := ⟨w.heap.size + 1, 0, none⟩) hz2.2).trans z0
    have z1 := (hb3.cell (p := ⟨w.heap.size + 1, 1, none⟩) hz2.2).trans z1
    have f0 := (hb3.frozen (p := ⟨w.heap.size + 1, 0, none⟩) hz2.2).trans f0
    have f1 := (hb3.frozen (p := ⟨w.heap.size + 1, 1, none⟩) hz2.2).trans f1
    have hbl3 := hbl2.trans (hb3.mono hbl2.size)
    have hz3 : w.heap.size < w3.heap.size ∧ w.heap.size + 1 < w3.heap.size := by have := hb3.size; omega
    clear hb3 hbl2 hz2
    go_wp2_with fail
    (with_reducible refine (KR.out _).mono ?_)
    rintro e w4 ⟨rfl, hb4⟩
    have z0 := (hb4.cell (p := ⟨w.heap.size + 1, 0, none⟩) hz3.2).trans z0
    have z1 := (hb4.cell (p := ⟨w.heap.size + 1, 1, none⟩) hz3.2).trans z1
    have f0 := (hb4.frozen (p := ⟨w.heap.size + 1, 0, none⟩) hz3.2).trans f0
    have f1 := (hb4.frozen (p := ⟨w.heap.size + 1, 1, none⟩) hz3.2).trans f1
    have hbl4 := hbl3.trans (hb4.mono hbl3.size)
    clear hb4 hbl3 hz3 x0 x1
    go_wp2
    first
      | (refine bodyPost_ret (v := .agg #[.int .i64 (min a c), .int .i64 (max b d)]) (by simp [results, Tryz.results162, go_sem, *]) rfl ⟨rfl, ?_⟩; exact (hbl4.setCell (by simp) _).setCell (by simp) _)
      | (refine bodyPost_ret (v := .agg #[.int .i64 (-1073741824), .int .i64 (max b d)]) (by simp [results, Tryz.results162, go_sem, *]) rfl ⟨rfl, ?_⟩; exact (hbl4.setCell (by simp) _).setCell (by simp) _)
      | (refine bodyPost_ret (v := .agg #[.int .i64 (min a c), .int .i64 1073741824]) (by simp [results, Tryz.results162, go_sem, *]) rfl ⟨rfl, ?_⟩; exact (hbl4.setCell (by simp) _).setCell (by simp) _)
      | (refine bodyPost_ret (v := .agg #[.int .i64 (-1073741824), .int .i64 1073741824]) (by simp [results, Tryz.results162, go_sem, *]) rfl ⟨rfl, ?_⟩; exact (hbl4.setCell (by simp) _).setCell (by simp) _)
end Go.Proofs.YtifdgdgfmjfbdaaGreat
namespace Go.Proofs.YtifdgdgfmjfbdaaGreat
open Go.RowKit
set_option maxHeartbeats 1000000 in
theorem Sin_yes (lo hi : Int) (w : World) (hv : avB lo hi = true) : Calls Tryz.prog 100 #[.agg #[.int .i64 lo, .int .i64 hi]] w fun e w' => e = .returned (.tuple #[.agg #[.int .i64 (Trig.enLo lo hi), .int .i64 (Trig.enHi lo hi)], .int .i64 0]) ∧ Below w.heap.size w w' := by
  have KV := Lib.hid (fun W => validT_any lo hi W)
  rw [hv] at KV
  obtain ⟨a, b, c⟩ := avB_true.1 hv
  have KE := Lib.hid (fun W => enclosure_any lo hi W (by omega) (by omega) (by omega) (by omega))
  generalize Trig.enLo lo hi = u at *
  generalize Trig.enHi lo hi = v at *
  clear hv a b c
  go_enter Tryz.func100, Tryz.ntmps100
  go_wp2_with fail
  (with_reducible refine (KV.out _).mono ?_)
  rintro e w1 ⟨rfl, hb1⟩
  have hz1 := two_lt hb1
  have hbl1 := two_bl hb1
  have x0 := (hb1.cell (p := ⟨w.heap.size, 0, none⟩) (by simp; omega)).trans (show _ = some (.int .i64 lo) by simp)
  have x1 := (hb1.cell (p := ⟨w.heap.size, 1, none⟩) (by simp; omega)).trans (show _ = some (.int .i64 hi) by simp)
  have z0 := (hb1.cell (p := ⟨w.heap.size + 1, 0, none⟩) (by simp)).trans (show _ = some (.int .i64 0) by simp)
  have z1 := (hb1.cell (p := ⟨w.heap.size + 1, 1, none⟩) (by simp)).trans (show _ = some (.int .i64 0) by simp)
  have f0 := (hb1.frozen (p := ⟨w.heap.size + 1, 0, none⟩) (by simp)).trans (show _ = false by simp)
  have f1 := (hb1.frozen (p := ⟨w.heap.size + 1, 1, none⟩) (by simp)).trans (show _ = false by simp)
  clear hb1
  go_wp2_with fail
  (with_reducible refine (KE.out _).mono ?_)
  rintro e w2 ⟨rfl, hb2⟩
  have z0 := (hb2.cell (p := ⟨w.heap.size + 1, 0, none⟩) hz1.2).trans z0
  have z1 := (hb2.cell (p := ⟨w.heap.size + 1, 1, none⟩) hz1.2).trans z1
  have f0 := (hb2.frozen (p := ⟨w.heap.size + 1, 0, none⟩) hz1.2).trans f0
  have f1 := (hb2.frozen (p := ⟨w.heap.size + 1, 1, none⟩) hz1.2).trans f1
  have hbl2 := hbl1.trans (hb2.mono hbl1.size)
  clear hb2 hbl1 hz1 x0 x1
  go_wp2
  refine bodyPost_ret (v := .tuple #[.agg #[.int .i64 u, .int .i64 v], .int .i64 0]) (by simp [results, Tryz.results100, go_sem, *]) rfl ⟨rfl, ?_⟩
  exact (hbl2.setCell (by simp) _).setCell (by simp) _
set_option maxHeartbeats 1000000 in
theorem further_any (lo hi : Int) (w : World) (h0 : -10000000000000 ≤ lo) (h1 : lo ≤ 10000000000000) (h2 : -10000000000000 ≤ hi) (h3 : hi ≤ 10000000000000) : Calls Tryz.prog 163 #[.agg #[.int .i64 lo, .int .i64 hi]] w fun e w' => e = .returned (.agg #[.int .i64 (lo + 5400000), .int .i64 (hi + 5400000)]) ∧ Below w.heap.size w w' := by
  go_enter Tryz.func163, Tryz.ntmps163
  go_wp2
  refine bodyPost_ret (v := .agg #[.int .i64 (lo + 5400000), .int .i64 (hi + 5400000)]) (by simp [results, Tryz.results163, go_sem]) rfl ⟨rfl, ?_⟩
  repeat (first | exact Below.refl _ _ | assumption | refine bl_drew ?_ | refine bl_drewN ?_ _ | refine Below.setCell ?_ (by first | assumption | omega | (simp; done) | (simp; omega)) _ | refine Below.alloc ?_ (by first | assumption | omega | (simp; done) | (simp; omega)) _)
set_option maxHeartbeats 1000000 in
theorem Cos_yes (lo hi : Int) (w : World) (hv : avB lo hi = true) : Calls Tryz.prog 101 #[.agg #[.int .i64 lo, .int .i64 hi]] w fun e w' => e = .returned (.tuple #[.agg #[.int .i64 (Trig.enLo (lo + 5400000) (hi + 5400000)), .int .i64 (Trig.enHi (lo + 5400000) (hi + 5400000))], .int .i64 0]) ∧ Below w.heap.size w w' := by
  have KV := Lib.hid (fun W => validT_any lo hi W)
  rw [hv] at KV
  obtain ⟨a, b, c⟩ := avB_true.1 hv
  have KF := Lib.hid (fun W => further_any lo hi W (by omega) (by omega) (by omega) (by omega))
  have KE := Lib.hid (fun W => enclosure_any (lo + 5400000) (hi + 5400000) W (by omega) (by omega) (by omega) (by omega))
  generalize lo + 5400000 = lo' at *
  generalize hi + 5400000 = hi' at *
  generalize Trig.enLo lo' hi' = u at *
  generalize Trig.enHi lo' hi' = v at *
  clear hv a b c
  go_enter Tryz.func101, Tryz.ntmps101
  go_wp2_with fail
  (with_reducible refine (KV.out _).mono ?_)
  rintro e w1 ⟨rfl, hb1⟩
  have hz1 := two_lt hb1
  have hbl1 := two_bl hb1
  have x0 := (hb1.cell (p := ⟨w.heap.size, 0, none⟩) (by simp; omega)).trans (show _ = some (.int .i64 lo) by simp)
  have x1 := (hb1.cell (p := ⟨w.heap.size, 1, none⟩) (by simp; omega)).trans (show _ = some (.int .i64 hi) by simp)
  have z0 := (hb1.cell (p := ⟨w.heap.size + 1, 0, none⟩) (by simp)).trans (show _ = some (.int .i64 0) by simp)
  have z1 := (hb1.cell (p := ⟨w.heap.size + 1, 1, none⟩) (by simp)).trans (show _ = some (.int .i64 0) by simp)
  have f0 := (hb1.frozen (p := ⟨w.heap.size + 1, 0, none⟩) (by simp)).trans (show _ = false by simp)
  have f1 := (hb1.frozen (p := ⟨w.heap.size + 1, 1, none⟩) (by simp)).trans (show _ = false by simp)
  clear hb1
  go_wp2_with fail
  (with_reducible refine (KF.out _).mono ?_)
  rintro e w2 ⟨rfl, hb2⟩
  have z0 := (hb2.cell (p := ⟨w.heap.size + 1, 0, none⟩) hz1.2).trans z0
  have z1 := (hb2.cell (p := ⟨w.heap.size + 1, 1, none⟩) hz1.2).trans z1
  have f0 := (hb2.frozen (p := ⟨w.heap.size + 1, 0, none⟩) hz1.2).trans f0
  have f1 := (hb2.frozen (p := ⟨w.heap.size + 1, 1, none⟩) hz1.2).trans f1
  have hbl2 := hbl1.trans (hb2.mono hbl1.size)
  have hz2 : w.heap.size + 1 < w2.heap.size := Nat.lt_of_lt_of_le hz1.2 hb2.size
  clear hb2 hbl1 hz1 x0 x1
  go_wp2_with fail
  (with_reducible refine (KE.out _).mono ?_)
  rintro e w3 ⟨rfl, hb3⟩
  have z0 := (hb3.cell (p := ⟨w.heap.size + 1, 0, none⟩) hz2).trans z0
  have z1 := (hb3.cell (p := ⟨w.heap.size + 1, 1, none⟩) hz2).trans z1
  have f0 := (hb3.frozen (p := ⟨w.heap.size + 1, 0, none⟩) hz2).trans f0
  have f1 := (hb3.frozen (p := ⟨w.heap.size + 1, 1, none⟩) hz2).trans f1
  have hbl3 := hbl2.trans (hb3.mono hbl2.size)
  clear hb3 hbl2 hz2
  go_wp2
  refine bodyPost_ret (v := .tuple #[.agg #[.int .i64 u, .int .i64 v], .int .i64 0]) (by simp [results, Tryz.results101, go_sem, *]) rfl ⟨rfl, ?_⟩
  exact (hbl3.setCell (by simp) _).setCell (by simp) _
end Go.Proofs.YtifdgdgfmjfbdaaGreat
namespace Go.Proofs.YtifdgdgfmjfbdaaGreat
open Go.RowKit
theorem mask31 (n : Int) : bits .and .i64 n 2147483647 = n % 2147483648 := by
  have h31 : (BitVec.ofInt 64 2147483647).toNat = 2 ^ 31 - 1 := by decide
  have key : (BitVec.ofInt 64 n &&& BitVec.ofInt 64 2147483647).toNat = (n % ((2 ^ 64 : Nat) : Int)).toNat % 2 ^ 31 := by
    rw [BitVec.toNat_and, BitVec.toNat_ofInt, h31, Nat.and_two_pow_sub_one_eq_mod]
  show IntKind.i64.wrap ((BitVec.ofInt 64 n &&& BitVec.ofInt 64 2147483647).toNat : Nat) = n % 2147483648
  rw [key, IntKind.wrap_i64]
  omega
theorem high_val {a b : Nat} (ha : a ≤ 4611686018427387904) (hb : b ≤ 4611686018427387904) :
    wrap64 (wrap64 (wrap64 ((a : Int) / 2147483648 * ((b : Int) / 2147483648)) + wrap64 ((a : Int) / 2147483648 * ((b : Int) % 2147483648)) / 2147483648) + wrap64 ((a : Int) % 2147483648 * ((b : Int) / 2147483648)) / 2147483648) = ((Trig.hiN a b : Nat) : Int) := by
  have h := (Trig.hiN_bd a b).1
  have h2 : a * b ≤ 4611686018427387904 * 4611686018427387904 := Nat.mul_le_mul ha hb
  unfold Trig.hiN at *
  have e1 : (a : Int) / 2147483648 = ((a / 2147483648 : Nat) : Int) := by omega
  have e2 : (b : Int) / 2147483648 = ((b / 2147483648 : Nat) : Int) := by omega
  have e3 : (a : Int) % 2147483648 = ((a % 2147483648 : Nat) : Int) := by omega
  have e4 : (b : Int) % 2147483648 = ((b % 2147483648 : Nat) : Int) := by omega
  rw [e1, e2, e3, e4, ← Int.natCast_mul, ← Int.natCast_mul, ← Int.natCast_mul]
  have g1 : a / 2147483648 ≤ 2147483648 := by omega
  have g2 : b / 2147483648 ≤ 2147483648 := by omega
  have g3 : a % 2147483648 ≤ 2147483648 := by omega
  have g4 : b % 2147483648 ≤ 2147483648 := by omega
  have q1 := Nat.mul_le_mul g1 g2
  have q2 := Nat.mul_le_mul g1 g4
  have q3 := Nat.mul_le_mul g3 g2
  clear e1 e2 e3 e4 g1 g2 g3 g4 h h2 ha hb
  generalize a / 2147483648 * (b / 2147483648) = p at *
  generalize a / 2147483648 * (b % 2147483648) = q at *
  generalize a % 2147483648 * (b / 2147483648) = r at *
  rw [IntWalk.wrap64_in (p : Int) (by omega), IntWalk.wrap64_in (q : Int) (by omega), IntWalk.wrap64_in (r : Int) (by omega), IntWalk.wrap64_in ((p : Int) + (q : Int) / 2147483648) (by omega), IntWalk.wrap64_in ((p : Int) + (q : Int) / 2147483648 + (r : Int) / 2147483648) (by omega)]
  omega
set_option maxHeartbeats 1000000 in
theorem high_any (a b : Nat) (w : World) (ha : a ≤ 4611686018427387904) (hb : b ≤ 4611686018427387904) : Calls Tryz.prog 328 #[.int .i64 a, .int .i64 b] w fun e w' => e = .returned (.int .i64 (Trig.hiN a b : Nat)) ∧ w' = w := by
  have HV := Lib.hid (high_val ha hb)
  have ba0 : (0 : Int) ≤ (a : Int) := by omega
  have ba1 : (a : Int) ≤ 4611686018427387904 := by omega
  have bb0 : (0 : Int) ≤ (b : Int) := by omega
  have bb1 : (b : Int) ≤ 4611686018427387904 := by omega
  generalize ((Trig.hiN a b : Nat) : Int) = z at *
  go_enter Tryz.func328, Tryz.ntmps328
  go_wp2
  go_ret
  refine ⟨ret_int ?_, rfl⟩
  rw [← HV.out, mask31, mask31]
/-- two terms on, a series has fallen to a sixteenth -/
theorem tm_fall {sq : Nat} (h : sq ≤ 3074457345618258602) (t m : Nat) : 16 * Trig.tm (Trig.tm t sq (m + 1)) sq (m + 2 + 1) ≤ t ∧ Trig.tm (Trig.tm t sq (m + 1)) sq (m + 2 + 1) ≤ Trig.tm t sq (m + 1) := by
  have key : ∀ s c : Nat, 12 ≤ c → 16 * (Trig.hiN s sq / c) ≤ s := by
    intro s c hc
    have h1 := (Trig.hiN_bd s sq).1
    have h2 : s * sq ≤ s * 3074457345618258602 := Nat.mul_le_mul_left s h
    have h3 : Trig.hiN s sq / c ≤ Trig.hiN s sq / 12 := Nat.div_le_div_left hc (by omega)
    omega
  have hc : 12 ≤ (m + 2 + 1) * (m + 2 + 1 + 1) := Nat.mul_le_mul (show 3 ≤ m + 2 + 1 by omega) (show 4 ≤ m + 2 + 1 + 1 by omega)
  have k1 := key (Trig.tm t sq (m + 1)) _ hc
  have k2 := Trig.tm_le (t := t) (m := m) (show sq ≤ 4611686018427387904 by omega)
  have e : Trig.tm (Trig.tm t sq (m + 1)) sq (m + 2 + 1) = Trig.hiN (Trig.tm t sq (m + 1)) sq / ((m + 2 + 1) * (m + 2 + 1 + 1)) := rfl
  rw [e]
  omega
theorem tm_cast {t sq d h c x : Nat} (hh : h = Trig.hiN t sq) (hc : c = d * (d + 1)) (hx : x = Trig.tm t sq d) : (h : Int) / (c : Int) = (x : Int) := by
  rw [hh, hc, hx]
  unfold Trig.tm
  exact (Int.natCast_ediv _ _).symm
theorem hiN_le {t sq : Nat} (h : sq ≤ 4611686018427387904) : Trig.hiN t sq ≤ t := by
  have h1 := (Trig.hiN_bd t sq).1
  have h3 : t * sq ≤ t * 4611686018427387904 := Nat.mul_le_mul_left t h
  omega
theorem qgo_zero (sq f d : Nat) : Trig.qgo sq f 0 d = 0 := by cases f <;> simp [Trig.qgo]
theorem qgo_next {sq S R t m f t1 t2 : Nat} (h0 : t ≠ 0) (h : S + Trig.qgo sq (f + 1) t (m + 1) = R) (h1 : t1 = Trig.tm t sq (m + 1)) (h2 : t2 = Trig.tm t1 sq (m + 2 + 1)) (hle : t1 ≤ t) : S + t - t1 + Trig.qgo sq f t2 (m + 4 + 1) = R := by
  rw [Trig.qgo, if_neg h0, ← h1, show m + 1 + 2 = m + 2 + 1 by omega, ← h2, show m + 1 + 4 = m + 4 + 1 by omega] at h
  omega
theorem pow_fall {t t2 f : Nat} (h : t < 2 ^ (4 * (f + 1))) (h2 : 16 * t2 ≤ t) : t2 < 2 ^ (4 * f) := by
  rw [show 4 * (f + 1) = 4 * f + 4 by omega, Nat.pow_add] at h
  omega
set_option maxHeartbeats 2000000 in
set_option maxRecDepth 100000 in
theorem quick_loop (r : Nat) (c : Bool) (w : World) (hr : r ≤ 2700000) : Calls Tryz.prog 317 #[.int .i64 r, .bool c] w fun e w' => e = .returned (.int .i64 (Trig.quickN r c : Nat)) ∧ w' = w := by
  obtain ⟨x0, x1⟩ := Trig.ang_bd hr
  have hsq := Trig.sq_le x0 x1 (Trig.sqN_err hr)
  have hA : Trig.arcN r ≤ 4611686018427387904 := by unfold Trig.arcN; omega
  have hAe : (Trig.arcN r : Int) = (r : Int) * 2620088056 * 512 + (r : Int) * 658911831 / 4194304 := by unfold Trig.arcN; omega
  have hR := Trig.quickN_le hr c
  have hq : Trig.quickN r c = if c = true then Trig.qgo (Trig.hiN (Trig.arcN r) (Trig.arcN r)) 17 4611686018427387904 1 else Trig.qgo (Trig.hiN (Trig.arcN r) (Trig.arcN r)) 17 (Trig.arcN r) 2 := rfl
  have KH := Lib.hid (fun W => high_any (Trig.arcN r) (Trig.arcN r) W hA hA)
  generalize Trig.quickN r c = R at *
  generalize Trig.hiN (Trig.arcN r) (Trig.arcN r) = sq at *
  generalize Trig.arcN r = A at *
  have b0 : (0 : Int) ≤ (r : Int) := by omega
  have b1 : (r : Int) ≤ 2700000 := by omega
  have hS := Lib.hid hsq
  have HA := Lib.hid hA
  have HR := Lib.hid hR
  have HQ := Lib.hid hq
  clear x0 x1 hsq hA hR hq hr
  have hAe' := hAe.symm
  clear hAe
  cases c
  all_goals
    go_enter Tryz.func317, Tryz.ntmps317
    go_wp2_with (go_at_call 328; (with_reducible refine (KH.out _).mono ?_); rintro e w1 ⟨rfl, rfl⟩)
    go_loop [7, 8, 9] (fun s7 s8 s9 => ∃ t d f S : Nat, s7 = .int .i64 t ∧ s8 = .int .i64 d ∧ s9 = .int .i64 S ∧ 1 ≤ d ∧ S + Trig.qgo sq f t d = R ∧ t < 2 ^ (4 * f) ∧ S + t ≤ 4611686018427387904 ∧ d + 4 * f ≤ 71) (fun s7 _ _ => (intOf s7).toNat)
    case atStart =>
      first
        | exact ⟨A, 2, 17, 0, rfl, rfl, rfl, by omega, by rw [HQ.out]; simp, Nat.lt_of_le_of_lt HA.out (by decide), by have := HA.out; omega, by omega⟩
        | exact ⟨4611686018427387904, 1, 17, 0, rfl, rfl, rfl, by omega, by rw [HQ.out]; simp, by decide, by omega, by omega⟩
    case round =>
      obtain ⟨t, d, f, S, rfl, rfl, rfl, hd1, hqg, htf, hSt, hdf⟩ := hrel
      have HQG := Lib.hid hqg
      have HTF := Lib.hid htf
      have HSt := Lib.hid hSt
      by_cases ht : 0 < t
      · obtain ⟨f', rfl⟩ : ∃ f', f = f' + 1 := by
          rcases f with _ | f'
          · exfalso
            have := HTF.out
            simp at this
            omega
          · exact ⟨f', rfl⟩
        obtain ⟨m, hm⟩ : ∃ m, d = m + 1 := ⟨d - 1, by omega⟩
        obtain ⟨h1, hh1⟩ : ∃ h, h = Trig.hiN t sq := ⟨_, rfl⟩
        obtain ⟨t1, ht1⟩ : ∃ x, x = Trig.tm t sq d := ⟨_, rfl⟩
        obtain ⟨c1, hc1⟩ : ∃ x, x = d * (d + 1) := ⟨_, rfl⟩
        obtain ⟨h2, hh2⟩ : ∃ h, h = Trig.hiN t1 sq := ⟨_, rfl⟩
        obtain ⟨t2, ht2⟩ : ∃ x, x = Trig.tm t1 sq (d + 2) := ⟨_, rfl⟩
        obtain ⟨c2, hc2⟩ : ∃ x, x = (d + 2) * (d + 2 + 1) := ⟨_, rfl⟩
        have hsq := hS.out
        have l1 : t1 ≤ t := by rw [ht1, hm]; exact Trig.tm_le (by omega)
        have g1 : h1 ≤ t := by rw [hh1]; exact hiN_le (by omega)
        have g2 : h2 ≤ t1 := by rw [hh2]; exact hiN_le (by omega)
        have fall := tm_fall hsq t m
        rw [← hm, ← ht1, show m + 2 + 1 = d + 2 by omega, ← ht2] at fall
        have p1 : c1 ≤ 71 * 72 := by rw [hc1]; exact Nat.mul_le_mul (by omega) (by omega)
        have p2 : c2 ≤ 73 * 74 := by rw [hc2]; exact Nat.mul_le_mul (by omega) (by omega)
        have p3 : 2 ≤ c1 := by rw [hc1]; exact Nat.mul_le_mul (show 1 ≤ d by omega) (show 2 ≤ d + 1 by omega)
        have p4 : 12 ≤ c2 := by rw [hc2]; exact Nat.mul_le_mul (show 3 ≤ d + 2 by omega) (show 4 ≤ d + 2 + 1 by omega)
        have K1 : Hid (∀ W, Calls Tryz.prog 328 #[.int .i64 t, .int .i64 sq] W fun e w' => e = .returned (.int .i64 h1) ∧ w' = W) := Lib.hid (fun W => by rw [hh1]; exact high_any t sq W (by omega) (by omega))
        have K2 : Hid (∀ W, Calls Tryz.prog 328 #[.int .i64 t1, .int .i64 sq] W fun e w' => e = .returned (.int .i64 h2) ∧ w' = W) := Lib.hid (fun W => by rw [hh2]; exact high_any t1 sq W (by omega) (by omega))
        have E1 := tm_cast hh1 hc1 ht1
        have E2 := tm_cast hh2 hc2 ht2
        have W1 : wrap64 ((d : Int) * ((d : Int) + 1)) = (c1 : Int) := by
          have : (d : Int) * ((d : Int) + 1) = (c1 : Int) := by rw [hc1]; push_cast; rfl
          rw [this]
          exact IntWalk.wrap64_in _ (by omega)
        have W2 : wrap64 (((d : Int) + 2) * ((d : Int) + 3)) = (c2 : Int) := by
          have : ((d : Int) + 2) * ((d : Int) + 3) = (c2 : Int) := by rw [hc2]; push_cast; rfl
          rw [this]
          exact IntWalk.wrap64_in _ (by omega)
        have z1 : ((c1 : Int) == 0) = false := by rw [beq_eq_false_iff_ne]; clear E1 E2 W1 W2; omega
        have z2 : ((c2 : Int) == 0) = false := by rw [beq_eq_false_iff_ne]; clear E1 E2 W1 W2; omega
        have z3 : ¬ ((c1 : Int) = 0) := by clear E1 E2 W1 W2; omega
        have z4 : ¬ ((c2 : Int) = 0) := by clear E1 E2 W1 W2; omega
        have nx : S + t - t1 + Trig.qgo sq f' t2 (d + 4) = R := by
          have := HQG.out
          rw [hm] at this ⊢
          exact qgo_next (by omega) this (by rw [ht1, hm]) (by rw [ht2, hm]) l1
        have NX := Lib.hid nx
        have FA := Lib.hid fall
        have LL := Lib.hid l1
        have B := Lib.hid (And.intro hdf hd1)
        have q1 : (0 : Int) ≤ (S : Int) := by omega
        have q2 : (S : Int) + (t : Int) ≤ 4611686018427387904 := by omega
        have q3 : (0 : Int) ≤ (t1 : Int) ∧ (t1 : Int) ≤ (t : Int) := by omega
        have q4 : (1 : Int) ≤ (d : Int) ∧ (d : Int) ≤ 71 := by omega
        have q5 : (0 : Int) ≤ (h1 : Int) ∧ (0 : Int) ≤ (h2 : Int) := by omega
        have q6 : (0 : Int) < (c1 : Int) ∧ (0 : Int) < (c2 : Int) := by clear E1 E2 W1 W2; omega
        have q70 : (0 : Int) ≤ (t2 : Int) := by omega
        have q71 : (t2 : Int) ≤ 4611686018427387904 := by clear E1 E2 W1 W2; omega
        obtain ⟨q30, q31⟩ := q3
        obtain ⟨q40, q41⟩ := q4
        obtain ⟨q50, q51⟩ := q5
        obtain ⟨q60, q61⟩ := q6
        clear hqg htf hSt hm hh1 ht1 hc1 hh2 ht2 hc2 hsq l1 g1 g2 fall p1 p2 p3 p4 nx hdf hd1
        have dt : decide ((0 : Int) < (t : Int)) = true := decide_eq_true (by clear E1 E2 W1 W2; omega)
        go_wp2_with (first | (go_at_call 328; (with_reducible refine (K1.out _).mono ?_); rintro e w1 ⟨rfl, rfl⟩) | (go_at_call 328; (with_reducible refine (K2.out _).mono ?_); rintro e w1 ⟨rfl, rfl⟩))
        go_round
        case rel => exact ⟨t2, d + 4, f', S + t - t1, rfl, by go_num, by have := LL.out; clear E1 E2 W1 W2; go_num, by omega, NX.out, pow_fall HTF.out FA.out.1, by have := FA.out.2; have := HSt.out; have := LL.out; clear E1 E2 W1 W2; omega, by have := B.out; clear E1 E2 W1 W2; omega⟩
        case measure => have := FA.out.1; clear E1 E2 W1 W2; simp [intOf]; omega
      · have h0 : t = 0 := by omega
        subst h0
        go_wp2
        go_ret
        refine ⟨ret_int ?_, rfl⟩
        have := HQG.out
        rw [qgo_zero] at this
        omega
end Go.Proofs.YtifdgdgfmjfbdaaGreat
