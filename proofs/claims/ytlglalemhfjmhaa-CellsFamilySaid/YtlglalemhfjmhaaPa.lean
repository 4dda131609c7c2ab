/- Walks of place: all, Valid, Contains; angle.Wrap. -/
import Derived.Test.YtlglalemhfjmhaaJh
import Derived.Test.YtlglalemhfjmhaaAwake
namespace Go.Proofs.Ytlglalemhfjmhaa
open Go.RowKit
def aeq (a b a' b' : Int) : Bool := decide (a = a' ∧ b = b')
theorem equalInArc (a b a' b' : Int) (w : World) : (Op.equalIn 10000 37 (.agg #[.int .i64 a, .int .i64 b]) (.agg #[.int .i64 a', .int .i64 b'])).run Try.prog w = .ok (aeq a b a' b') w := by
  have u3 := Try.underlying3
  have a3 := Try.isAgg3
  have z3 := Try.sizeOf3
  have hS : Try.prog.underlying 37 = some (.struct (Try.prog.fieldsOf 37)) := by kernel_rfl
  have hp : Try.prog.stoodInHeld 37 = false := by kernel_rfl
  rw [show (10000 : Nat) = 9999 + 1 from rfl, run_equalIn_agg w 9999 37 _ _ hS hp]
  simp only [Program.fieldsOf, Try.underlying37]
  go_simp
  by_cases h1 : a = a' <;> by_cases h2 : b = b' <;> simp [aeq, h1, h2]
theorem eqlArc (a b a' b' : Int) (w : World) : (binOp .eql 37 (.agg #[.int .i64 a, .int .i64 b]) (.agg #[.int .i64 a', .int .i64 b'])).run Try.prog w = .ok (.bool (aeq a b a' b')) w := by
  rw [run_eql_struct, equalInArc]; rfl
theorem tmod_cases (n : Int) : (0 ≤ n ∧ n.tmod 21600000 = n % 21600000) ∨ (n < 0 ∧ n.tmod 21600000 = -((-n) % 21600000)) := by
  by_cases h : 0 ≤ n
  · exact .inl ⟨h, Int.tmod_eq_emod_of_nonneg h⟩
  · refine .inr ⟨by omega, ?_⟩
    have h1 : (-n).tmod 21600000 = (-n) % 21600000 := Int.tmod_eq_emod_of_nonneg (by omega)
    rw [Int.neg_tmod] at h1
    omega
theorem tmod_pos {n : Int} (h : 0 ≤ n.tmod 21600000) : n.tmod 21600000 = n % 21600000 := by
  rcases tmod_cases n with ⟨h1, h2⟩ | ⟨h1, h2⟩ <;> omega
theorem tmod_neg {n : Int} (h : n.tmod 21600000 < 0) : n.tmod 21600000 + 21600000 = n % 21600000 := by
  rcases tmod_cases n with ⟨h1, h2⟩ | ⟨h1, h2⟩ <;> omega
theorem everywhere_any (w : World) : Calls Try.prog 128 #[] w fun e w' => e = .returned (.agg #[.int .i64 (-10800000), .int .i64 10800000]) ∧ Below w.heap.size w w' := by
  go_enter Try.func128, Try.ntmps128
  go_wp2
  refine bodyPost_ret (v := .agg #[.int .i64 (-10800000), .int .i64 10800000]) (by simp [results, Try.results128, go_sem]) rfl ⟨rfl, ?_⟩
  repeat (first | exact Below.refl _ _ | assumption | refine bl_drew ?_ | refine bl_drewN ?_ _ | refine Below.setCell ?_ (by first | assumption | omega | (simp; done) | (simp; omega)) _ | refine Below.alloc ?_ (by first | assumption | omega | (simp; done) | (simp; omega)) _)
/-- a world that left what was there alone -/
structure BV (w0 : World) where
  w : World
  hb : Below w0.heap.size w0 w
instance bvSome (w0 : World) : Nonempty (BV w0) := ⟨⟨w0, Below.refl _ _⟩⟩
theorem wp_region_bv {P : Program} {id : Nat} {Q : Exit → Act → World → Prop} {a : Act} {w : World} {l : List Oper} (w0 : World) (hm : P.follows .mixedOrders = true) (hB : Region.lexB .any l.toArray = true) (h0 : Below w0.heap.size w0 w)
    (h : wpQuiet P l.toArray (fun w' => ∃ s : BV w0, w' = s.w) (fun a' => ∀ w9, Below w0.heap.size w0 w9 → Q .normal a' w9) l a) : (Code.region id l.toArray true).wp P Q a w := by
  have e : (fun a' => ∀ w9, Below w0.heap.size w0 w9 → Q .normal a' w9) = (fun a' : Act => ∀ w', (∃ s : BV w0, w' = s.w) → Q .normal a' w') :=
    funext fun a' => propext ⟨fun h w' ⟨s, hs⟩ => hs ▸ h s.w s.hb, fun h w9 hb => h w9 ⟨⟨w9, hb⟩, rfl⟩⟩
  rw [e] at h
  exact wp_region_quiet (C := fun w' => ∃ s : BV w0, w' = s.w) hm hB ⟨⟨_, bl_drew h0⟩, rfl⟩ (by simpa using h)
theorem quiet_bv {P : Program} {f : FuncId} {args : Array Value} {w0 : World} {s : BV w0} {v : Value} (h : Calls P f args s.w fun e w' => e = .returned v ∧ Below s.w.heap.size s.w w') :
    Calls P f args s.w fun e w'' => e = .returned v ∧ ∃ s' : BV w0, w'' = s'.w :=
  h.mono fun _ w' ⟨he, hb⟩ => ⟨he, ⟨w', s.hb.trans (hb.mono s.hb.size)⟩, rfl⟩
set_option maxHeartbeats 400000 in
theorem all_any (x y : Int) (w : World) : Calls Try.prog 109 #[.agg #[.int .i64 x, .int .i64 y]] w fun e w' => e = .returned (.bool (aeq x y (-10800000) 10800000)) ∧ Below w.heap.size w w' := by
  have K := Lib.hid everywhere_any
  have hq := eqlArc
  go_enter Try.func109, Try.ntmps109
  go_upto_region 1 with fail
  have b0 := bl_alloc w (.cells #[.int .i64 x, .int .i64 y] 37)
  have x1 : ∀ s : BV (w.alloc (.cells #[.int .i64 x, .int .i64 y] 37)), s.w.cell? ⟨w.heap.size, 0, none⟩ = some (.int .i64 x) := fun s => (s.hb.cell (p := ⟨w.heap.size, 0, none⟩) (by simp)).trans (by simp)
  have x2 : ∀ s : BV (w.alloc (.cells #[.int .i64 x, .int .i64 y] 37)), s.w.cell? ⟨w.heap.size, 1, none⟩ = some (.int .i64 y) := fun s => (s.hb.cell (p := ⟨w.heap.size, 1, none⟩) (by simp)).trans (by simp)
  refine wp_region_bv (w.alloc (.cells #[.int .i64 x, .int .i64 y] 37)) (by kernel_rfl) (by kernel_rfl) (Below.refl _ _) ?_
  (repeat (go_big_quiet_step (first | (go_at_call 128; with_reducible exact quiet_bv (K.out _)) | fail)))
  refine wpQuiet_nil ?_
  intro w9 hb9
  clear x1 x2
  go_wp2
  go_ret
  exact ⟨rfl, b0.trans (hb9.mono (by simp))⟩
set_option maxHeartbeats 400000 in
theorem Wrap_any (n : Int) (w : World) (h0 : -1000000000000 ≤ n) (h1 : n ≤ 1000000000000) : Calls Try.prog 84 #[.int .i64 n] w fun e w' => e = .returned (.int .i64 (n % 21600000)) ∧ Below w.heap.size w w' := by
  go_enter Try.func84, Try.ntmps84
  go_wp2
  all_goals
    go_ret
    refine ⟨ret_int ?_, ?_⟩
    · first | (exact tmod_pos (by assumption)) | (rw [IntWalk.wrap64_in _ (by have := tmod_neg (n := n) (by assumption); omega)]; exact tmod_neg (by assumption))
    · repeat (first | exact Below.refl _ _ | assumption | refine bl_drew ?_ | refine bl_drewN ?_ _ | refine Below.setCell ?_ (by first | assumption | omega | (simp; done) | (simp; omega)) _ | refine Below.alloc ?_ (by first | assumption | omega | (simp; done) | (simp; omega)) _)
set_option maxHeartbeats 400000 in
theorem beyond_any (x y n : Int) (w : World) (h0 : -100000000 ≤ n) (h1 : n ≤ 100000000) (h2 : -100000000 ≤ x) (h3 : x ≤ 100000000) : Calls Try.prog 110 #[.agg #[.int .i64 x, .int .i64 y], .int .i64 n] w fun e w' => e = .returned (.int .i64 ((n - x) % 21600000)) ∧ Below w.heap.size w w' := by
  have K := Lib.hid (fun W => Wrap_any (n - x) W (by omega) (by omega))
  go_enter Try.func110, Try.ntmps110
  go_wp2_with (go_at_call 84; (with_reducible refine (K.out _).mono ?_); rintro e w1 ⟨rfl, hb1⟩)
  go_ret
  exact ⟨rfl, one_bl hb1⟩
set_option maxHeartbeats 1000000 in
theorem has_place (x y n : Int) (w : World) (h0 : -100000000 ≤ n) (h1 : n ≤ 100000000) (h2 : -100000000 ≤ x) (hx : x ≤ 100000000) (h3 : x ≤ y) (h4 : y - x < 21600000) : Calls Try.prog 108 #[.agg #[.int .i64 x, .int .i64 y], .int .i64 n] w fun e w' => e = .returned (.bool (lonIn x y n)) ∧ Below w.heap.size w w' := by
  · have ha : aeq x y (-10800000) 10800000 = false := by simp [aeq]; omega
    have K := Lib.hid (fun W => all_any x y W)
    rw [ha] at K
    have K2 := Lib.hid (fun W => beyond_any x y n W h0 h1 h2 hx)
    have sy : IntKind.i64.wrap (y - x) = y - x := IntWalk.i64_in _ (by omega)
    unfold lonIn
    clear ha
    go_enter Try.func108, Try.ntmps108
    go_upto_region 1 with fail
    have b0 := bl_alloc w (.cells #[.int .i64 x, .int .i64 y] 37)
    have x1 : ∀ s : BV (w.alloc (.cells #[.int .i64 x, .int .i64 y] 37)), s.w.cell? ⟨w.heap.size, 0, none⟩ = some (.int .i64 x) := fun s => (s.hb.cell (p := ⟨w.heap.size, 0, none⟩) (by simp)).trans (by simp)
    have x2 : ∀ s : BV (w.alloc (.cells #[.int .i64 x, .int .i64 y] 37)), s.w.cell? ⟨w.heap.size, 1, none⟩ = some (.int .i64 y) := fun s => (s.hb.cell (p := ⟨w.heap.size, 1, none⟩) (by simp)).trans (by simp)
    refine wp_region_bv (w.alloc (.cells #[.int .i64 x, .int .i64 y] 37)) (by kernel_rfl) (by kernel_rfl) (Below.refl _ _) ?_
    (repeat (go_big_quiet_step (first | (go_at_call 109; with_reducible exact quiet_bv (K.out _)) | (go_at_call 110; with_reducible exact quiet_bv (K2.out _)) | fail)))
    refine wpQuiet_nil ?_
    intro w9 hb9
    clear x1 x2 sy
    go_wp2
    go_ret
    exact ⟨rfl, b0.trans (hb9.mono (by simp))⟩
end Go.Proofs.Ytlglalemhfjmhaa
