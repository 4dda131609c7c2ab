/- Which times, angles, places, and names are right: the walks of the small functions below logbook.ValidRecord. -/
import Derived.BigQuiet
import Derived.Deep.Cut
import Derived.Test.YthfndnmfnijpeaaGreatHLm
import Derived.Test.YthfndnmfnijpeaaGreatHRin
set_option linter.unusedVariables false
set_option linter.unusedSimpArgs false
namespace Go.Proofs.YthfndnmfnijpeaaGreat
open Go.RowKit
open LB (Bs Rec)
theorem ret_boo {a b : Bool} (h : a = b) : Ending.returned (.bool a) = .returned (.bool b) := by rw [h]
def insB (n : Int) : Bool := decide (-70368744177664 ≤ n ∧ n ≤ 70368744177664)
theorem instant_any (n : Int) (w : World) : Calls Tryz.prog 50 #[.int .i64 n] w fun e w' => e = .returned (.bool (insB n)) ∧ w' = w := by
  unfold insB
  go_enter Tryz.func50, Tryz.ntmps50
  go_wp2
  all_goals
    go_ret
    exact ⟨ret_boo (by first | rfl | (simp_all; done) | (simp_all; omega)), rfl⟩
def clkB (a b : Int) : Bool := decide (a ≤ b) && insB a && insB b
set_option maxHeartbeats 400000 in
theorem clock_any (lo hi : Int) (w : World) : Calls Tryz.prog 20 #[tiv lo hi] w fun e w' => e = .returned (.bool (clkB lo hi)) ∧ Below w.heap.size w w' := by
  have KL := Lib.hid (fun W => instant_any lo W)
  have KH := Lib.hid (fun W => instant_any hi W)
  unfold clkB
  generalize insB lo = s at *
  generalize insB hi = t at *
  by_cases h : lo ≤ hi
  · have d : decide (lo ≤ hi) = true := decide_eq_true h
    rw [d]
    cases s
    · go_enter Tryz.func20, Tryz.ntmps20
      go_wp2_with (go_at_call 50; (with_reducible refine (KL.out _).mono ?_); rintro e w9 ⟨rfl, rfl⟩)
      go_ret
      refine ⟨rfl, ?_⟩
      repeat (first | exact Below.refl _ _ | assumption | refine bl_drew ?_ | refine bl_drewN ?_ _ | refine Below.setCell ?_ (by first | assumption | omega | (simp; done) | (simp; omega)) _ | refine Below.alloc ?_ (by first | assumption | omega | (simp; done) | (simp; omega)) _)
    · cases t
      all_goals
        go_enter Tryz.func20, Tryz.ntmps20
        go_wp2_with (go_at_call 50; (first | (with_reducible refine (KL.out _).mono ?_) | (with_reducible refine (KH.out _).mono ?_)); rintro e w9 ⟨rfl, rfl⟩)
        go_ret
        refine ⟨rfl, ?_⟩
        repeat (first | exact Below.refl _ _ | assumption | refine bl_drew ?_ | refine bl_drewN ?_ _ | refine Below.setCell ?_ (by first | assumption | omega | (simp; done) | (simp; omega)) _ | refine Below.alloc ?_ (by first | assumption | omega | (simp; done) | (simp; omega)) _)
  · have d : decide (lo ≤ hi) = false := decide_eq_false h
    rw [d]
    go_enter Tryz.func20, Tryz.ntmps20
    go_wp2
    go_ret
    refine ⟨rfl, ?_⟩
    repeat (first | exact Below.refl _ _ | assumption | refine bl_drew ?_ | refine bl_drewN ?_ _ | refine Below.setCell ?_ (by first | assumption | omega | (simp; done) | (simp; omega)) _ | refine Below.alloc ?_ (by first | assumption | omega | (simp; done) | (simp; omega)) _)
def rcB (n : Int) : Bool := decide (-1099511627776 ≤ n ∧ n ≤ 1099511627776)
theorem fitsL_any (n : Int) (w : World) : Calls Tryz.prog 53 #[.int .i64 n] w fun e w' => e = .returned (.bool (rcB n)) ∧ w' = w := by
  unfold rcB
  go_enter Tryz.func53, Tryz.ntmps53
  go_wp2
  all_goals
    go_ret
    exact ⟨ret_boo (by first | rfl | (simp_all; done) | (simp_all; omega)), rfl⟩
def anB (a b : Int) : Bool := decide (a ≤ b) && rcB a && rcB b
set_option maxHeartbeats 400000 in
theorem angleL_any (lo hi : Int) (w : World) : Calls Tryz.prog 22 #[tiv lo hi] w fun e w' => e = .returned (.bool (anB lo hi)) ∧ Below w.heap.size w w' := by
  have KL := Lib.hid (fun W => fitsL_any lo W)
  have KH := Lib.hid (fun W => fitsL_any hi W)
  unfold anB
  generalize rcB lo = s at *
  generalize rcB hi = t at *
  by_cases h : lo ≤ hi
  · have d : decide (lo ≤ hi) = true := decide_eq_true h
    rw [d]
    cases s
    · go_enter Tryz.func22, Tryz.ntmps22
      go_wp2_with (go_at_call 53; (with_reducible refine (KL.out _).mono ?_); rintro e w9 ⟨rfl, rfl⟩)
      go_ret
      refine ⟨rfl, ?_⟩
      repeat (first | exact Below.refl _ _ | assumption | refine bl_drew ?_ | refine bl_drewN ?_ _ | refine Below.setCell ?_ (by first | assumption | omega | (simp; done) | (simp; omega)) _ | refine Below.alloc ?_ (by first | assumption | omega | (simp; done) | (simp; omega)) _)
    · cases t
      all_goals
        go_enter Tryz.func22, Tryz.ntmps22
        go_wp2_with (go_at_call 53; (first | (with_reducible refine (KL.out _).mono ?_) | (with_reducible refine (KH.out _).mono ?_)); rintro e w9 ⟨rfl, rfl⟩)
        go_ret
        refine ⟨rfl, ?_⟩
        repeat (first | exact Below.refl _ _ | assumption | refine bl_drew ?_ | refine bl_drewN ?_ _ | refine Below.setCell ?_ (by first | assumption | omega | (simp; done) | (simp; omega)) _ | refine Below.alloc ?_ (by first | assumption | omega | (simp; done) | (simp; omega)) _)
  · have d : decide (lo ≤ hi) = false := decide_eq_false h
    rw [d]
    go_enter Tryz.func22, Tryz.ntmps22
    go_wp2
    go_ret
    refine ⟨rfl, ?_⟩
    repeat (first | exact Below.refl _ _ | assumption | refine bl_drew ?_ | refine bl_drewN ?_ _ | refine Below.setCell ?_ (by first | assumption | omega | (simp; done) | (simp; omega)) _ | refine Below.alloc ?_ (by first | assumption | omega | (simp; done) | (simp; omega)) _)
theorem everyL (w : World) : Calls Tryz.prog 112 #[] w fun e w' => e = .returned (tiv (-10800000) 10800000) ∧ Below w.heap.size w w' := by
  go_enter Tryz.func112, Tryz.ntmps112
  go_wp2
  refine bodyPost_ret (v := tiv (-10800000) 10800000) (by simp [results, Tryz.results112, go_sem]) rfl ⟨rfl, ?_⟩
  repeat (first | exact Below.refl _ _ | assumption | refine bl_drew ?_ | refine bl_drewN ?_ _ | refine Below.setCell ?_ (by first | assumption | omega | (simp; done) | (simp; omega)) _ | refine Below.alloc ?_ (by first | assumption | omega | (simp; done) | (simp; omega)) _)
/-- a world that left what was there alone -/
structure BVl (w0 : World) where
  w : World
  hb : Below w0.heap.size w0 w
instance bvlSome (w0 : World) : Nonempty (BVl w0) := ⟨⟨w0, Below.refl _ _⟩⟩
theorem wp_region_bvl {P : Program} {id : Nat} {Q : Exit → Act → World → Prop} {a : Act} {w : World} {l : List Oper} (w0 : World) (hm : P.follows .mixedOrders = true) (hB : Region.lexB .any l.toArray = true) (h0 : Below w0.heap.size w0 w)
    (h : wpQuiet P l.toArray (fun w' => ∃ s : BVl w0, w' = s.w) (fun a' => ∀ w9, Below w0.heap.size w0 w9 → Q .normal a' w9) l a) : (Code.region id l.toArray true).wp P Q a w := by
  have e : (fun a' => ∀ w9, Below w0.heap.size w0 w9 → Q .normal a' w9) = (fun a' : Act => ∀ w', (∃ s : BVl w0, w' = s.w) → Q .normal a' w') :=
    funext fun a' => propext ⟨fun h w' ⟨s, hs⟩ => hs ▸ h s.w s.hb, fun h w9 hb => h w9 ⟨⟨w9, hb⟩, rfl⟩⟩
  rw [e] at h
  exact wp_region_quiet (C := fun w' => ∃ s : BVl w0, w' = s.w) hm hB ⟨⟨_, bl_drew h0⟩, rfl⟩ (by simpa using h)
theorem quiet_bvl {P : Program} {f : FuncId} {args : Array Value} {w0 : World} {s : BVl w0} {v : Value} (h : Calls P f args s.w fun e w' => e = .returned v ∧ Below s.w.heap.size s.w w') :
    Calls P f args s.w fun e w'' => e = .returned v ∧ ∃ s' : BVl w0, w'' = s'.w :=
  h.mono fun _ w' ⟨he, hb⟩ => ⟨he, ⟨w', s.hb.trans (hb.mono s.hb.size)⟩, rfl⟩
theorem eqlArcL (a b a' b' : Int) (w : World) : (binOp .eql 24 (tiv a b) (tiv a' b')).run Tryz.prog w = .ok (.bool (decide (a = a' ∧ b = b'))) w := by
  rw [run_eql_struct, show (10000 : Nat) = 9998 + 1 + 1 from rfl, eqInArc]; rfl
def alB (x y : Int) : Bool := decide (x = -10800000 ∧ y = 10800000)
set_option maxHeartbeats 400000 in
theorem allL_any (x y : Int) (w : World) : Calls Tryz.prog 83 #[tiv x y] w fun e w' => e = .returned (.bool (alB x y)) ∧ Below w.heap.size w w' := by
  have K := Lib.hid everyL
  have hq : ∀ w, (binOp .eql 24 (tiv x y) (tiv (-10800000) 10800000)).run Tryz.prog w = .ok (.bool (alB x y)) w := fun w => eqlArcL _ _ _ _ w
  generalize alB x y = z at *
  go_enter Tryz.func83, Tryz.ntmps83
  go_upto_region 1 with fail
  have b0 := bl_alloc w (.cells #[.int .i64 x, .int .i64 y] 24)
  have x1 : ∀ s : BVl (w.alloc (.cells #[.int .i64 x, .int .i64 y] 24)), s.w.cell? ⟨w.heap.size, 0, none⟩ = some (.int .i64 x) := fun s => (s.hb.cell (p := ⟨w.heap.size, 0, none⟩) (by simp)).trans (by simp)
  have x2 : ∀ s : BVl (w.alloc (.cells #[.int .i64 x, .int .i64 y] 24)), s.w.cell? ⟨w.heap.size, 1, none⟩ = some (.int .i64 y) := fun s => (s.hb.cell (p := ⟨w.heap.size, 1, none⟩) (by simp)).trans (by simp)
  refine wp_region_bvl (w.alloc (.cells #[.int .i64 x, .int .i64 y] 24)) (by kernel_rfl) (by kernel_rfl) (Below.refl _ _) ?_
  (repeat (go_big_quiet_step (first | (go_at_call 112; with_reducible exact quiet_bvl (K.out _)) | fail)))
  refine wpQuiet_nil ?_
  intro w9 hb9
  clear x1 x2
  go_wp2
  go_ret
  exact ⟨rfl, b0.trans (hb9.mono (by simp))⟩
def latB (a b : Int) : Bool := decide (a ≤ b ∧ -5400000 ≤ a ∧ b ≤ 5400000)
set_option maxHeartbeats 400000 in
theorem latL_any (a b : Int) (w : World) : Calls Tryz.prog 51 #[tiv a b] w fun e w' => e = .returned (.bool (latB a b)) ∧ Below w.heap.size w w' := by
  unfold latB
  go_enter Tryz.func51, Tryz.ntmps51
  go_wp2
  all_goals
    go_ret
    refine ⟨ret_boo (by first | rfl | (simp_all; done) | (simp_all; omega)), ?_⟩
    repeat (first | exact Below.refl _ _ | assumption | refine bl_drew ?_ | refine bl_drewN ?_ _ | refine Below.setCell ?_ (by first | assumption | omega | (simp; done) | (simp; omega)) _ | refine Below.alloc ?_ (by first | assumption | omega | (simp; done) | (simp; omega)) _)
def lonB0 (a b : Int) : Bool := decide (-10800000 ≤ a ∧ a < 10800000 ∧ a ≤ b ∧ wrap64 (b - a) < 21600000)
set_option maxHeartbeats 800000 in
theorem lonL_any (a b : Int) (w : World) : Calls Tryz.prog 52 #[tiv a b] w fun e w' => e = .returned (.bool (alB a b || lonB0 a b)) ∧ Below w.heap.size w w' := by
  have K := Lib.hid (fun W => allL_any a b W)
  unfold lonB0
  generalize alB a b = z at *
  cases z
  · by_cases h1 : -10800000 ≤ a ∧ a < 10800000 ∧ a ≤ b
    · obtain ⟨h1, h2, h3⟩ := h1
      have d1 : decide (-10800000 ≤ a) = true := decide_eq_true h1
      have d2 : decide (a < 10800000) = true := decide_eq_true h2
      have d3 : decide (a ≤ b) = true := decide_eq_true h3
      have e1 : decide (-10800000 ≤ a ∧ a < 10800000 ∧ a ≤ b ∧ wrap64 (b - a) < 21600000) = decide (wrap64 (b - a) < 21600000) := by simp [h1, h2, h3]
      rw [e1]
      obtain ⟨q, d4⟩ : ∃ q, decide (wrap64 (b - a) < 21600000) = q := ⟨_, rfl⟩
      rw [d4]
      go_enter Tryz.func52, Tryz.ntmps52
      go_wp2_with (go_at_call 83; (with_reducible refine (K.out _).mono ?_); rintro e w1 ⟨rfl, hb⟩; have hz := one_lt hb; have hb1 := one_bl hb; have y1 := (hb.cell (p := ⟨w.heap.size, 0, none⟩) (by simp)).trans (show _ = some (.int .i64 a) by simp); have y2 := (hb.cell (p := ⟨w.heap.size, 1, none⟩) (by simp)).trans (show _ = some (.int .i64 b) by simp))
      go_ret
      exact ⟨rfl, hb1⟩
    · have e1 : decide (-10800000 ≤ a ∧ a < 10800000 ∧ a ≤ b ∧ wrap64 (b - a) < 21600000) = false := decide_eq_false (fun ⟨p, q, r, _⟩ => h1 ⟨p, q, r⟩)
      rw [e1]
      go_enter Tryz.func52, Tryz.ntmps52
      go_wp2_with (go_at_call 83; (with_reducible refine (K.out _).mono ?_); rintro e w1 ⟨rfl, hb⟩; have hz := one_lt hb; have hb1 := one_bl hb; have y1 := (hb.cell (p := ⟨w.heap.size, 0, none⟩) (by simp)).trans (show _ = some (.int .i64 a) by simp); have y2 := (hb.cell (p := ⟨w.heap.size, 1, none⟩) (by simp)).trans (show _ = some (.int .i64 b) by simp))
      all_goals
        go_ret
        exact ⟨ret_boo (by first | rfl | (simp_all; done) | (exfalso; simp_all; omega)), hb1⟩
  · go_enter Tryz.func52, Tryz.ntmps52
    go_wp2_with (go_at_call 83; (with_reducible refine (K.out _).mono ?_); rintro e w1 ⟨rfl, hb⟩; have hz := one_lt hb; have hb1 := one_bl hb)
    go_ret
    exact ⟨rfl, hb1⟩
end Go.Proofs.YthfndnmfnijpeaaGreat
