/- The contracts of trig.Sin and trig.Cos. -/
import Derived.Test.YtlhdneeiikemjaaGreatGUi
set_option linter.unusedVariables false
set_option linter.unusedSimpArgs false
/- The walks of trig.Sin and trig.Cos. -/
namespace Go.Proofs.YtlhdneeiikemjaaGreat
open Go.RowKit
/-- which arcs are valid -/
def avB (lo hi : Int) : Bool := decide (-1099511627776 ≤ lo ∧ lo ≤ hi ∧ hi ≤ 1099511627776)
theorem ret_boolU {a b : Bool} (h : a = b) : Ending.returned (.bool a) = .returned (.bool b) := by rw [h]
theorem avB_true {lo hi : Int} : avB lo hi = true ↔ (-1099511627776 ≤ lo ∧ lo ≤ hi ∧ hi ≤ 1099511627776) := by simp [avB]
set_option maxHeartbeats 1000000 in
theorem validT_any (lo hi : Int) (w : World) : Calls Tryz.prog 146 #[.agg #[.int .i64 lo, .int .i64 hi]] w fun e w' => e = .returned (.bool (avB lo hi)) ∧ Below w.heap.size w w' := by
  unfold avB
  go_enter Tryz.func146, Tryz.ntmps146
  go_wp2
  all_goals
    go_ret
    refine ⟨ret_boolU (by first | (simp_all; done) | (simp_all; omega)), ?_⟩
    repeat (first | exact Below.refl _ _ | assumption | refine bl_drew ?_ | refine bl_drewN ?_ _ | refine Below.setCell ?_ (by first | assumption | omega | (simp; done) | (simp; omega)) _ | refine Below.alloc ?_ (by first | assumption | omega | (simp; done) | (simp; omega)) _)
set_option maxHeartbeats 1000000 in
theorem meets_any (lo hi n : Int) (w : World) (h0 : -10000000000000 ≤ lo) (h1 : lo ≤ 10000000000000) (h2 : -10000000000000 ≤ hi) (h3 : hi ≤ 10000000000000) (h4 : 0 ≤ n) (h5 : n ≤ 21600000) :
    Calls Tryz.prog 193 #[.agg #[.int .i64 lo, .int .i64 hi], .int .i64 n] w fun e w' => e = .returned (.bool (Trig.metB lo hi n)) ∧ Below w.heap.size w w' := by
  have KT := Lib.hid (fun W => turned_any (n - lo) W)
  have s1 : IntKind.i64.wrap (n - lo) = n - lo := IntWalk.i64_in _ (by omega)
  have s2 : IntKind.i64.wrap (hi - lo) = hi - lo := IntWalk.i64_in _ (by clear s1; omega)
  unfold Trig.metB
  go_enter Tryz.func193, Tryz.ntmps193
  go_wp2
  go_quiet ((go_at_call 221; exact Calls.quiet_of_same (KT.out _)))
  go_wp2
  go_ret
  refine ⟨rfl, ?_⟩
  repeat (first | exact Below.refl _ _ | assumption | refine bl_drew ?_ | refine bl_drewN ?_ _ | refine Below.setCell ?_ (by first | assumption | omega | (simp; done) | (simp; omega)) _ | refine Below.alloc ?_ (by first | assumption | omega | (simp; done) | (simp; omega)) _)
set_option maxHeartbeats 2000000 in
theorem enclosure_any (lo hi : Int) (w : World) (h0 : -10000000000000 ≤ lo) (h1 : lo ≤ 10000000000000) (h2 : -10000000000000 ≤ hi) (h3 : hi ≤ 10000000000000) :
    Calls Tryz.prog 147 #[.agg #[.int .i64 lo, .int .i64 hi]] w fun e w' => e = .returned (.agg #[.int .i64 (Trig.enLo lo hi), .int .i64 (Trig.enHi lo hi)]) ∧ Below w.heap.size w w' := by
  have KA := Lib.hid (fun W => bounds_any lo W)
  have KB := Lib.hid (fun W => bounds_any hi W)
  have KQ := Lib.hid (fun W => meets_any lo hi 5400000 W h0 h1 h2 h3 (by omega) (by omega))
  have KR := Lib.hid (fun W => meets_any lo hi 16200000 W h0 h1 h2 h3 (by omega) (by omega))
  unfold Trig.enLo Trig.enHi
  generalize Trig.metB lo hi 5400000 = p at *
  generalize Trig.metB lo hi 16200000 = q at *
  generalize Trig.loB lo = a at *
  generalize Trig.hiB lo = b at *
  generalize Trig.loB hi = c at *
  generalize Trig.hiB hi = d at *
  cases p <;> cases q
  all_goals
    simp only [eq_self, if_true, Bool.false_eq_true, if_false]
    go_enter Tryz.func147, Tryz.ntmps147
    go_wp2_with fail
    (with_reducible refine (KA.out _).mono ?_)
    rintro e w1 ⟨rfl, hb1⟩
    have hz1 := two_lt hb1
    have hbl1 := two_bl hb1
    have x0 := (hb1.cell (p := ⟨w.heap.size, 0, none⟩) (by simp; omega)).trans (show _ = some (.int .i64 lo) by simp)
    have x1 := (hb1.cell (p := ⟨w.heap.size, 1, none⟩) (by simp; omega)).trans (show _ = some (.int .i64 hi) by simp)
    have z0 := (hb1.cell (p := ⟨w.heap.size + 1, 0, none⟩) (by simp)).trans (show _ = some (.int .i64 0) by simp)
    have z1 := (hb1.cell (p := ⟨w.heap.size + 1, 1, none⟩) (by simp)).trans (show _ = some (.int .i64 0) by simp)
    have f0 := (hb1.frozen (p := ⟨w.heap.size + 1, 0, none⟩) (by simp)).trans (show _ = false by simp)
    have f1 := (hb1.frozen (p := ⟨w.heap.size + 1, 1, none⟩) (by simp)).trans (show _ = false by simp)
    clear hb1
    go_wp2_with fail
    (with_reducible refine (KB.out _).mono ?_)
    rintro e w2 ⟨rfl, hb2⟩
    have x0 := (hb2.cell (p := ⟨w.heap.size, 0, none⟩) hz1.1).trans x0
    have x1 := (hb2.cell (p := ⟨w.heap.size, 1, none⟩) hz1.1).trans x1
    have z0 := (hb2.cell (p := ⟨w.heap.size + 1, 0, none⟩) hz1.2).trans z0
    have z1 := (hb2.cell (p := ⟨w.heap.size + 1, 1, none⟩) hz1.2).trans z1
    have f0 := (hb2.frozen (p := ⟨w.heap.size + 1, 0, none⟩) hz1.2).trans f0
    have f1 := (hb2.frozen (p := ⟨w.heap.size + 1, 1, none⟩) hz1.2).trans f1
    have hbl2 := hbl1.trans (hb2.mono hbl1.size)
    have hz2 : w.heap.size < w2.heap.size ∧ w.heap.size + 1 < w2.heap.size := by have := hb2.size; omega
    clear hb2 hbl1 hz1
    go_wp2_with fail
    (with_reducible refine (KQ.out _).mono ?_)
    rintro e w3 ⟨rfl, hb3⟩
    have x0 := (hb3.cell (p := ⟨w.heap.size, 0, none⟩) hz2.1).trans x0
    have x1 := (hb3.cell (p := ⟨w.heap.size, 1, none⟩) hz2.1).trans x1
    have z0 := (hb3.cell (p := ⟨w.heap.size + 1, 0, none⟩) hz2.2).trans z0
    have z1 := (hb3.cell (p := ⟨w.heap.size + 1, 1, none⟩) hz2.2).trans z1
    have f0 := (hb3.frozen (p := ⟨w.heap.size + 1, 0, none⟩) hz2.2).trans f0
    have f1 := (hb3.frozen (p := ⟨w.heap.size + 1, 1, none⟩) hz2.2).trans f1
    have hbl3 := hbl2.trans (hb3.mono hbl2.size)
    have hz3 : w.heap.size < w3.heap.size ∧ w.heap.size + 1 < w3.heap.size := by have := hb3.size; omega
    clear hb3 hbl2 hz2
    go_wp2_with fail
    (with_reducible refine (KR.out _).mono ?_)
    rintro e w4 ⟨rfl, hb4⟩
    have z0 := (hb4.cell (p := ⟨w.heap.size + 1, 0, none⟩) hz3.2).trans z0
    have z1 := (hb4.cell (p := ⟨w.heap.size + 1, 1, none⟩) hz3.2).trans z1
    have f0 := (hb4.frozen (p := ⟨w.heap.size + 1, 0, none⟩) hz3.2).trans f0
    have f1 := (hb4.frozen (p := ⟨w.heap.size + 1, 1, none⟩) hz3.2).trans f1
    have hbl4 := hbl3.trans (hb4.mono hbl3.size)
    clear hb4 hbl3 hz3 x0 x1
    go_wp2
    first
      | (refine bodyPost_ret (v := .agg #[.int .i64 (min a c), .int .i64 (max b d)]) (by simp [results, Tryz.results147, go_sem, *]) rfl ⟨rfl, ?_⟩; exact (hbl4.setCell (by simp) _).setCell (by simp) _)
      | (refine bodyPost_ret (v := .agg #[.int .i64 (-1073741824), .int .i64 (max b d)]) (by simp [results, Tryz.results147, go_sem, *]) rfl ⟨rfl, ?_⟩; exact (hbl4.setCell (by simp) _).setCell (by simp) _)
      | (refine bodyPost_ret (v := .agg #[.int .i64 (min a c), .int .i64 1073741824]) (by simp [results, Tryz.results147, go_sem, *]) rfl ⟨rfl, ?_⟩; exact (hbl4.setCell (by simp) _).setCell (by simp) _)
      | (refine bodyPost_ret (v := .agg #[.int .i64 (-1073741824), .int .i64 1073741824]) (by simp [results, Tryz.results147, go_sem, *]) rfl ⟨rfl, ?_⟩; exact (hbl4.setCell (by simp) _).setCell (by simp) _)
end Go.Proofs.YtlhdneeiikemjaaGreat
namespace Go.Proofs.YtlhdneeiikemjaaGreat
open Go.RowKit
set_option maxHeartbeats 1000000 in
theorem Sin_yes (lo hi : Int) (w : World) (hv : avB lo hi = true) : Calls Tryz.prog 85 #[.agg #[.int .i64 lo, .int .i64 hi]] w fun e w' => e = .returned (.tuple #[.agg #[.int .i64 (Trig.enLo lo hi), .int .i64 (Trig.enHi lo hi)], .int .i64 0]) ∧ Below w.heap.size w w' := by
  have KV := Lib.hid (fun W => validT_any lo hi W)
  rw [hv] at KV
  obtain ⟨a, b, c⟩ := avB_true.1 hv
  have KE := Lib.hid (fun W => enclosure_any lo hi W (by omega) (by omega) (by omega) (by omega))
  generalize Trig.enLo lo hi = u at *
  generalize Trig.enHi lo hi = v at *
  clear hv a b c
  go_enter Tryz.func85, Tryz.ntmps85
  go_wp2_with fail
  (with_reducible refine (KV.out _).mono ?_)
  rintro e w1 ⟨rfl, hb1⟩
  have hz1 := two_lt hb1
  have hbl1 := two_bl hb1
  have x0 := (hb1.cell (p := ⟨w.heap.size, 0, none⟩) (by simp; omega)).trans (show _ = some (.int .i64 lo) by simp)
  have x1 := (hb1.cell (p := ⟨w.heap.size, 1, none⟩) (by simp; omega)).trans (show _ = some (.int .i64 hi) by simp)
  have z0 := (hb1.cell (p := ⟨w.heap.size + 1, 0, none⟩) (by simp)).trans (show _ = some (.int .i64 0) by simp)
  have z1 := (hb1.cell (p := ⟨w.heap.size + 1, 1, none⟩) (by simp)).trans (show _ = some (.int .i64 0) by simp)
  have f0 := (hb1.frozen (p := ⟨w.heap.size + 1, 0, none⟩) (by simp)).trans (show _ = false by simp)
  have f1 := (hb1.frozen (p := ⟨w.heap.size + 1, 1, none⟩) (by simp)).trans (show _ = false by simp)
  clear hb1
  go_wp2_with fail
  (with_reducible refine (KE.out _).mono ?_)
  rintro e w2 ⟨rfl, hb2⟩
  have z0 := (hb2.cell (p := ⟨w.heap.size + 1, 0, none⟩) hz1.2).trans z0
  have z1 := (hb2.cell (p := ⟨w.heap.size + 1, 1, none⟩) hz1.2).trans z1
  have f0 := (hb2.frozen (p := ⟨w.heap.size + 1, 0, none⟩) hz1.2).trans f0
  have f1 := (hb2.frozen (p := ⟨w.heap.size + 1, 1, none⟩) hz1.2).trans f1
  have hbl2 := hbl1.trans (hb2.mono hbl1.size)
  clear hb2 hbl1 hz1 x0 x1
  go_wp2
  refine bodyPost_ret (v := .tuple #[.agg #[.int .i64 u, .int .i64 v], .int .i64 0]) (by simp [results, Tryz.results85, go_sem, *]) rfl ⟨rfl, ?_⟩
  exact (hbl2.setCell (by simp) _).setCell (by simp) _
set_option maxHeartbeats 1000000 in
theorem further_any (lo hi : Int) (w : World) (h0 : -10000000000000 ≤ lo) (h1 : lo ≤ 10000000000000) (h2 : -10000000000000 ≤ hi) (h3 : hi ≤ 10000000000000) : Calls Tryz.prog 210 #[.agg #[.int .i64 lo, .int .i64 hi]] w fun e w' => e = .returned (.agg #[.int .i64 (lo + 5400000), .int .i64 (hi + 5400000)]) ∧ Below w.heap.size w w' := by
  go_enter Tryz.func210, Tryz.ntmps210
  go_wp2
  refine bodyPost_ret (v := .agg #[.int .i64 (lo + 5400000), .int .i64 (hi + 5400000)]) (by simp [results, Tryz.results210, go_sem]) rfl ⟨rfl, ?_⟩
  repeat (first | exact Below.refl _ _ | assumption | refine bl_drew ?_ | refine bl_drewN ?_ _ | refine Below.setCell ?_ (by first | assumption | omega | (simp; done) | (simp; omega)) _ | refine Below.alloc ?_ (by first | assumption | omega | (simp; done) | (simp; omega)) _)
set_option maxHeartbeats 1000000 in
theorem Cos_yes (lo hi : Int) (w : World) (hv : avB lo hi = true) : Calls Tryz.prog 167 #[.agg #[.int .i64 lo, .int .i64 hi]] w fun e w' => e = .returned (.tuple #[.agg #[.int .i64 (Trig.enLo (lo + 5400000) (hi + 5400000)), .int .i64 (Trig.enHi (lo + 5400000) (hi + 5400000))], .int .i64 0]) ∧ Below w.heap.size w w' := by
  have KV := Lib.hid (fun W => validT_any lo hi W)
  rw [hv] at KV
  obtain ⟨a, b, c⟩ := avB_true.1 hv
  have KF := Lib.hid (fun W => further_any lo hi W (by omega) (by omega) (by omega) (by omega))
  have KE := Lib.hid (fun W => enclosure_any (lo + 5400000) (hi + 5400000) W (by omega) (by omega) (by omega) (by omega))
  generalize lo + 5400000 = lo' at *
  generalize hi + 5400000 = hi' at *
  generalize Trig.enLo lo' hi' = u at *
  generalize Trig.enHi lo' hi' = v at *
  clear hv a b c
  go_enter Tryz.func167, Tryz.ntmps167
  go_wp2_with fail
  (with_reducible refine (KV.out _).mono ?_)
  rintro e w1 ⟨rfl, hb1⟩
  have hz1 := two_lt hb1
  have hbl1 := two_bl hb1
  have x0 := (hb1.cell (p := ⟨w.heap.size, 0, none⟩) (by simp; omega)).trans (show _ = some (.int .i64 lo) by simp)
  have x1 := (hb1.cell (p := ⟨w.heap.size, 1, none⟩) (by simp; omega)).trans (show _ = some (.int .i64 hi) by simp)
  have z0 := (hb1.cell (p := ⟨w.heap.size + 1, 0, none⟩) (by simp)).trans (show _ = some (.int .i64 0) by simp)
  have z1 := (hb1.cell (p := ⟨w.heap.size + 1, 1, none⟩) (by simp)).trans (show _ = some (.int .i64 0) by simp)
  have f0 := (hb1.frozen (p := ⟨w.heap.size + 1, 0, none⟩) (by simp)).trans (show _ = false by simp)
  have f1 := (hb1.frozen (p := ⟨w.heap.size + 1, 1, none⟩) (by simp)).trans (show _ = false by simp)
  clear hb1
  go_wp2_with fail
  (with_reducible refine (KF.out _).mono ?_)
  rintro e w2 ⟨rfl, hb2⟩
  have z0 := (hb2.cell (p := ⟨w.heap.size + 1, 0, none⟩) hz1.2).trans z0
  have z1 := (hb2.cell (p := ⟨w.heap.size + 1, 1, none⟩) hz1.2).trans z1
  have f0 := (hb2.frozen (p := ⟨w.heap.size + 1, 0, none⟩) hz1.2).trans f0
  have f1 := (hb2.frozen (p := ⟨w.heap.size + 1, 1, none⟩) hz1.2).trans f1
  have hbl2 := hbl1.trans (hb2.mono hbl1.size)
  have hz2 : w.heap.size + 1 < w2.heap.size := Nat.lt_of_lt_of_le hz1.2 hb2.size
  clear hb2 hbl1 hz1 x0 x1
  go_wp2_with fail
  (with_reducible refine (KE.out _).mono ?_)
  rintro e w3 ⟨rfl, hb3⟩
  have z0 := (hb3.cell (p := ⟨w.heap.size + 1, 0, none⟩) hz2).trans z0
  have z1 := (hb3.cell (p := ⟨w.heap.size + 1, 1, none⟩) hz2).trans z1
  have f0 := (hb3.frozen (p := ⟨w.heap.size + 1, 0, none⟩) hz2).trans f0
  have f1 := (hb3.frozen (p := ⟨w.heap.size + 1, 1, none⟩) hz2).trans f1
  have hbl3 := hbl2.trans (hb3.mono hbl2.size)
  clear hb3 hbl2 hz2
  go_wp2
  refine bodyPost_ret (v := .tuple #[.agg #[.int .i64 u, .int .i64 v], .int .i64 0]) (by simp [results, Tryz.results167, go_sem, *]) rfl ⟨rfl, ?_⟩
  exact (hbl3.setCell (by simp) _).setCell (by simp) _
end Go.Proofs.YtlhdneeiikemjaaGreat
