/- Walks of cmp.Compare and cmp.Or at int, and of the comparison that cover sorts by. -/
import Derived.Test.YtlglalemhfjmhaaWi
import Derived.Sort.Grow
import Derived.Lib.Small
namespace Go.Proofs.Ytlglalemhfjmhaa
open Go.RowKit Go.Sort
set_option maxHeartbeats 400000 in
theorem isNaN_any (a : Int) (w : World) : Calls Try.prog 126 #[.int .i64 a] w fun e w' => e = .returned (.bool false) ∧ w' = w := by
  have h : (a != a) = false := by simp
  go_enter Try.func126, Try.ntmps126
  go_wp2
  go_ret
  exact ⟨rfl, rfl⟩
set_option maxHeartbeats 400000 in
theorem compare_any (a b : Int) (w : World) : Calls Try.prog 99 #[.int .i64 a, .int .i64 b] w fun e w' => e = .returned (.int .i64 (Lib.compareInt a b)) ∧ w' = w := by
  rcases Int.lt_trichotomy a b with h | h | h
  · have e : Lib.compareInt a b = -1 := by simp [Lib.compareInt, h]
    rw [e]
    clear e
    go_enter Try.func99, Try.ntmps99
    go_wp2_with (go_at_call 126; refine (isNaN_any _ _).mono ?_; rintro e w' ⟨rfl, rfl⟩)
    go_ret
    exact ⟨rfl, rfl⟩
  · subst h
    have e : Lib.compareInt a a = 0 := by simp [Lib.compareInt]
    rw [e]
    clear e
    go_enter Try.func99, Try.ntmps99
    go_wp2_with (go_at_call 126; refine (isNaN_any _ _).mono ?_; rintro e w' ⟨rfl, rfl⟩)
    go_ret
    exact ⟨rfl, rfl⟩
  · have h' : ¬ a < b := by omega
    have e : Lib.compareInt a b = 1 := by simp [Lib.compareInt, h, h']
    rw [e]
    clear e
    go_enter Try.func99, Try.ntmps99
    go_wp2_with (go_at_call 126; refine (isNaN_any _ _).mono ?_; rintro e w' ⟨rfl, rfl⟩)
    go_ret
    exact ⟨rfl, rfl⟩
def orI (x y : Int) : Int := if x = 0 then y else x
set_option maxHeartbeats 400000 in
theorem or_any (b : Nat) (x y : Int) (w : World) (h1 : w.cell? ⟨b, 0, none⟩ = some (.int .i64 x)) (h2 : w.cell? ⟨b, 1, none⟩ = some (.int .i64 y)) :
    Calls Try.prog 98 #[.slice (some ⟨b, 0, none⟩) 2 2] w fun e w' => e = .returned (.int .i64 (orI x y)) ∧ w' = w := by
  go_enter Try.func98, Try.ntmps98
  go_wp2
  go_loop [8] (fun i => ∃ k : Nat, k ≤ 2 ∧ i = .int .i64 k ∧ (1 ≤ k → x = 0) ∧ (2 ≤ k → y = 0)) (fun i => 2 - (intOf i).toNat)
  case atStart => exact ⟨0, by omega, rfl, by omega, by omega⟩
  case round =>
    obtain ⟨k, hk, rfl, hx, hy⟩ := hrel
    match k, hk, hx, hy with
    | 0, _, _, _ =>
      clear hx hy hk
      by_cases h : x = 0
      · have H := Lib.hid h
        have h' : (x != 0) = false := by simp [h]
        clear h
        go_wp2
        go_round
        case rel => exact ⟨1, by omega, rfl, fun _ => H.out, by omega⟩
        case measure => simp [intOf]
      · have h' : (x != 0) = true := by simp [h]
        have H := Lib.hid h
        clear h
        go_wp2
        go_ret
        exact ⟨ret_int (by simp [orI, H.out]), rfl⟩
    | 1, _, hx, _ =>
      have HX := Lib.hid (hx (by omega))
      clear hx hk
      by_cases h : y = 0
      · have H := Lib.hid h
        have h' : (y != 0) = false := by simp [h]
        clear h
        go_wp2
        go_round
        case rel => exact ⟨2, by omega, rfl, fun _ => HX.out, fun _ => H.out⟩
        case measure => simp [intOf]
      · have h' : (y != 0) = true := by simp [h]
        clear h
        go_wp2
        go_ret
        exact ⟨ret_int (by simp [orI, HX.out]), rfl⟩
    | 2, _, hx, hy =>
      have HX := Lib.hid (hx (by omega))
      have HY := Lib.hid (hy (by omega))
      clear hx hy hk
      go_wp2
      go_ret
      exact ⟨ret_int (by simp [orI, HX.out, HY.out]), rfl⟩

/-- how cover orders spans -/
def cmpS (x y : Int × Int) : Int := orI (Lib.compareInt x.1 y.1) (Lib.compareInt y.2 x.2)
set_option maxHeartbeats 1000000 in
set_option maxRecDepth 100000 in
theorem coverCmp_any (x y : Int × Int) (W : World) : Calls Try.prog 97 #[.agg #[.int .i64 x.1, .int .i64 x.2], .agg #[.int .i64 y.1, .int .i64 y.2]] W fun e w' => e = .returned (.int .i64 (cmpS x y)) ∧ ∃ q os', w' = grow (W.drewN q) os' := by
  have C1 := fun W => compare_any x.1 y.1 W
  have C2 := fun W => compare_any y.2 x.2 W
  unfold cmpS
  generalize Lib.compareInt x.1 y.1 = u at C1 ⊢
  generalize Lib.compareInt y.2 x.2 = v at C2 ⊢
  have C1 := Lib.hid C1
  have C2 := Lib.hid C2
  go_enter Try.func97, Try.ntmps97
  go_wp2
  refine wp_still_tail 10 (by kernel_rfl) (by kernel_rfl) ?_
  simp only [List.take_succ_cons, List.take_zero, List.drop_succ_cons, List.drop_zero]
  repeat still_step
  still_call (C1.out _)
  repeat still_step
  still_call (C2.out _)
  repeat still_step
  refine wpStill_nil ?_
  go_wp2_with (go_at_call 98; refine (or_any _ u v _ (by go_simp) (by go_simp)).mono ?_; rintro e w' ⟨rfl, rfl⟩)
  go_ret
  refine ⟨rfl, 1, #[.cells #[.int .i64 x.1, .int .i64 x.2] 120, .cells #[.int .i64 y.1, .int .i64 y.2] 120, .cells #[.int .i64 u, .int .i64 v] 3], ?_⟩
  rw [alloc_eq_grow, alloc_eq_grow, alloc_eq_grow, grow_grow]
  rfl
end Go.Proofs.Ytlglalemhfjmhaa
