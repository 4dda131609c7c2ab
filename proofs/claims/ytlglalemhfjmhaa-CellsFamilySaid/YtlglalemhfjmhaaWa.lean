/- Walks of the small functions on one cell: Valid, edge, box, Box, Parent, and the reference's. -/
import Derived.Test.YtlglalemhfjmhaaBase
namespace Go.Proofs.Ytlglalemhfjmhaa
open Go.RowKit

set_option maxHeartbeats 1000000 in
theorem valid_any (l r c : Int) (w : World) :
    Calls Try.prog 24 #[.agg #[.int .i64 l, .int .i64 r, .int .i64 c]] w fun e w' => e = .returned (.bool (vldB l r c)) ∧ Below w.heap.size w w' := by
  have fin : ∀ b : Bool, vldB l r c = b → (Calls Try.prog 24 #[.agg #[.int .i64 l, .int .i64 r, .int .i64 c]] w fun e w' => e = .returned (.bool b) ∧ Below w.heap.size w w') →
      Calls Try.prog 24 #[.agg #[.int .i64 l, .int .i64 r, .int .i64 c]] w fun e w' => e = .returned (.bool (vldB l r c)) ∧ Below w.heap.size w w' := fun b h hc => by rw [h]; exact hc
  by_cases h0 : 0 ≤ l
  · by_cases h1 : l ≤ 16
    · have e1 := pw_wrap h1
      have e2 := pw_wrap2 h1
      by_cases h2 : 0 ≤ r
      · by_cases h3 : r < pw l
        · by_cases h4 : 0 ≤ c
          · by_cases h5 : c < 2 * pw l
            · refine fin true (by simp [vldB, h0, h1, h2, h3, h4, h5]) ?_
              clear fin
              go_enter Try.func24, Try.ntmps24
              go_wp2
              go_quiet (fail)
              go_wp2
              go_ret
              exact ⟨rfl, bl_drewN (bl_alloc _ _) _⟩
            · refine fin false (by simp [vldB, h0, h1, h2, h3, h4, h5]) ?_
              clear fin
              have hd := decide_eq_false h5
              go_enter Try.func24, Try.ntmps24
              go_wp2
              go_quiet (fail)
              go_wp2
              go_ret
              exact ⟨rfl, bl_drewN (bl_alloc _ _) _⟩
          · refine fin false (by simp [vldB, h0, h1, h2, h3, h4]) ?_
            clear fin
            have hd := decide_eq_false h4
            go_enter Try.func24, Try.ntmps24
            go_wp2
            go_quiet (fail)
            go_wp2
            go_ret
            exact ⟨rfl, bl_drewN (bl_alloc _ _) _⟩
        · refine fin false (by simp [vldB, h0, h1, h2, h3]) ?_
          clear fin
          have hd := decide_eq_false h3
          go_enter Try.func24, Try.ntmps24
          go_wp2
          go_quiet (fail)
          go_wp2
          go_ret
          exact ⟨rfl, bl_drewN (bl_alloc _ _) _⟩
      · refine fin false (by simp [vldB, h0, h1, h2]) ?_
        clear fin
        have hd := decide_eq_false h2
        go_enter Try.func24, Try.ntmps24
        go_wp2
        go_quiet (fail)
        go_wp2
        go_ret
        exact ⟨rfl, bl_drewN (bl_alloc _ _) _⟩
    · refine fin false (by simp [vldB, h0, h1]) ?_
      clear fin
      have hd := decide_eq_false h1
      go_enter Try.func24, Try.ntmps24
      go_wp2
      go_quiet (fail)
      go_wp2
      go_ret
      exact ⟨rfl, bl_drewN (bl_alloc _ _) _⟩
  · refine fin false (by simp [vldB, h0]) ?_
    clear fin
    have hd := decide_eq_false h0
    go_enter Try.func24, Try.ntmps24
    go_wp2
    go_quiet (fail)
    go_wp2
    go_ret
    exact ⟨rfl, bl_drewN (bl_alloc _ _) _⟩
end Go.Proofs.Ytlglalemhfjmhaa
