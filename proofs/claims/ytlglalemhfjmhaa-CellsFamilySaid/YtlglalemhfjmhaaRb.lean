/- Walks of the reference's has, holds, below. -/
import Derived.Test.YtlglalemhfjmhaaRa
namespace Go.Proofs.Ytlglalemhfjmhaa
open Go.RowKit
def hasB (L : List Cl) (x : Cl) : Bool := L.any fun y => ceq y x
theorem hasB_succ (L : List Cl) (x : Cl) (k : Nat) (hk : k < L.length) (h : hasB (L.take k) x = false) (hp : ceq (gt L k) x = false) : hasB (L.take (k + 1)) x = false := any_take_succ L _ k hk h hp
set_option maxHeartbeats 1000000 in
set_option maxRecDepth 100000 in
theorem has_any (A : Option Addr) (n ca : Nat) (L : List Cl) (l r c : Int) (w : World) (hr : Reads w w.heap.size 3 A n (cvs L)) (hn : n ≤ maxLen) :
    Calls Try.prog 100 #[.slice A n ca, .agg #[.int .i64 l, .int .i64 r, .int .i64 c]] w fun e w' => e = .returned (.bool (hasB L (l, r, c))) ∧ Below w.heap.size w w' := by
  have HL := Lib.hid hr.len
  have HR := Lib.hid hr
  clear hr
  unfold maxLen at hn
  have hq := eqlCell
  go_enter Try.func100, Try.ntmps100
  go_wp2
  go_loopw [5] (fun i wr => ∃ k q : Nat, k ≤ n ∧ i = .int .i64 k ∧ hasB (L.take k) (l, r, c) = false ∧ wr = (w.alloc (.cells #[.int .i64 l, .int .i64 r, .int .i64 c] 32)).drewN q) (fun i _ => n - (intOf i).toNat)
  case atStart => exact ⟨0, 0, Nat.zero_le _, rfl, rfl, rfl⟩
  case round =>
    obtain ⟨k, q, hk, rfl, hh, rfl⟩ := hrel
    have HH := Lib.hid hh
    clear hh
    by_cases hlt : k < n
    · obtain ⟨b, off, rfl, hb, x1, x2, x3⟩ := HR.out.elem hlt
      have hkl : k < L.length := by rw [HL.out]; exact hlt
      have h1 := Lib.hid (hasB_succ L (l, r, c) k hkl HH.out)
      have h2 := Lib.hid (any_of_gt L (fun y => ceq y (l, r, c)) k hkl)
      generalize gt L k = y at x1 x2 x3 h1 h2
      obtain ⟨ya, yb, yc⟩ := y
      simp only [] at x1 x2 x3
      cases hc : ceq (ya, yb, yc) (l, r, c) with
      | true =>
        have h3 := Lib.hid (h2.out hc)
        clear h1 h2
        go_wp2
        go_quiet (fail)
        go_wp2
        go_ret
        refine ⟨ret_bool h3.out.symm, ?_⟩
        repeat (first | exact Below.refl _ _ | assumption | refine bl_drew ?_ | refine bl_drewN ?_ _ | refine Below.setCell ?_ (by first | assumption | omega | (simp; done) | (simp; omega)) _ | refine Below.alloc ?_ (by first | assumption | omega | (simp; done) | (simp; omega)) _)
      | false =>
        have h3 := Lib.hid (h1.out hc)
        clear h1 h2
        go_wp2
        go_quiet (fail)
        go_wp2
        go_roundw
        case rel => exact ⟨k + 1, q + nq, by omega, by go_num, h3.out, rfl⟩
        case measure => simp [intOf]; omega
    · go_wp2
      go_ret
      have h := HH.out
      rw [List.take_of_length_le (by rw [HL.out]; omega)] at h
      refine ⟨ret_bool h.symm, ?_⟩
      repeat (first | exact Below.refl _ _ | assumption | refine bl_drew ?_ | refine bl_drewN ?_ _ | refine Below.setCell ?_ (by first | assumption | omega | (simp; done) | (simp; omega)) _ | refine Below.alloc ?_ (by first | assumption | omega | (simp; done) | (simp; omega)) _)
def opB (op : Int) (x y : Bool) : Bool := if op = 1 then x || y else if op = 2 then x && y else x && !y
set_option maxHeartbeats 1000000 in
theorem holds_any (op : Int) (x y : Bool) (w : World) (h : op = 1 ∨ op = 2 ∨ op = 3) :
    Calls Try.prog 102 #[.int .i64 op, .bool x, .bool y] w fun e w' => e = .returned (.bool (opB op x y)) ∧ w' = w := by
  rcases h with rfl | rfl | rfl
  all_goals
    cases x <;> cases y
    all_goals
      go_enter Try.func102, Try.ntmps102
      go_wp2
      go_ret
      exact ⟨rfl, rfl⟩
end Go.Proofs.Ytlglalemhfjmhaa
