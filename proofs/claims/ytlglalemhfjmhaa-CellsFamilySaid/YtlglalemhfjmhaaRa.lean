/- Walks of the reference's Within, has, holds. -/
import Derived.Test.YtlglalemhfjmhaaWk
namespace Go.Proofs.Ytlglalemhfjmhaa
open Go.RowKit
/-- whether a cell is inside another one -/
def wiB (x y : Cl) : Bool := decide (y.1 ≤ x.1 ∧ x.2.1 / 2 ^ (x.1 - y.1).toNat = y.2.1 ∧ x.2.2 / 2 ^ (x.1 - y.1).toNat = y.2.2)
set_option maxHeartbeats 1000000 in
set_option maxRecDepth 100000 in
theorem Within_any (l r c l' r' c' : Int) (w : World) (h0 : 0 ≤ l) (h1 : l ≤ 16) (h2 : 0 ≤ l') (h3 : l' ≤ 16) :
    Calls Try.prog 58 #[.agg #[.int .i64 l, .int .i64 r, .int .i64 c], .agg #[.int .i64 l', .int .i64 r', .int .i64 c']] w fun e w' => e = .returned (.bool (wiB (l, r, c) (l', r', c'))) ∧ Below w.heap.size w w' := by
  have s0 : IntKind.i64.wrap (l - l') = l - l' := IntWalk.i64_in _ (by omega)
  by_cases g0 : l' ≤ l
  · have g0' : 0 ≤ l - l' := by clear s0; omega
    have g1' : l - l' ≤ 64 := by clear s0; omega
    by_cases g1 : r / 2 ^ (l - l').toNat = r'
    · have e1 : (r / 2 ^ (l - l').toNat == r') = true := by simp [g1]
      by_cases g2 : c / 2 ^ (l - l').toNat = c'
      · have e2 : (c / 2 ^ (l - l').toNat == c') = true := by simp [g2]
        have hv : wiB (l, r, c) (l', r', c') = true := by simp [wiB, g0, g1, g2]
        rw [hv]
        clear hv g1 g2
        go_enter Try.func58, Try.ntmps58
        go_wp2
        go_quiet (fail)
        go_wp2
        go_ret
        refine ⟨rfl, ?_⟩
        clear s0 e1 e2
        repeat (first | exact Below.refl _ _ | assumption | refine bl_drew ?_ | refine bl_drewN ?_ _ | refine Below.setCell ?_ (by first | assumption | omega | (simp; done) | (simp; omega)) _ | refine Below.alloc ?_ (by first | assumption | omega | (simp; done) | (simp; omega)) _)
      · have e2 : (c / 2 ^ (l - l').toNat == c') = false := by simp [g2]
        have hv : wiB (l, r, c) (l', r', c') = false := by simp [wiB, g0, g1, g2]
        rw [hv]
        clear hv g1 g2
        go_enter Try.func58, Try.ntmps58
        go_wp2
        go_quiet (fail)
        go_wp2
        go_ret
        refine ⟨rfl, ?_⟩
        clear s0 e1 e2
        repeat (first | exact Below.refl _ _ | assumption | refine bl_drew ?_ | refine bl_drewN ?_ _ | refine Below.setCell ?_ (by first | assumption | omega | (simp; done) | (simp; omega)) _ | refine Below.alloc ?_ (by first | assumption | omega | (simp; done) | (simp; omega)) _)
    · have e1 : (r / 2 ^ (l - l').toNat == r') = false := by simp [g1]
      have hv : wiB (l, r, c) (l', r', c') = false := by simp [wiB, g0, g1]
      rw [hv]
      clear hv g1
      go_enter Try.func58, Try.ntmps58
      go_wp2
      go_quiet (fail)
      go_wp2
      go_ret
      refine ⟨rfl, ?_⟩
      clear s0 e1
      repeat (first | exact Below.refl _ _ | assumption | refine bl_drew ?_ | refine bl_drewN ?_ _ | refine Below.setCell ?_ (by first | assumption | omega | (simp; done) | (simp; omega)) _ | refine Below.alloc ?_ (by first | assumption | omega | (simp; done) | (simp; omega)) _)
  · have hd := decide_eq_false g0
    have hd2 : decide (0 ≤ l - l') = false := decide_eq_false (by clear s0; omega)
    have hv : wiB (l, r, c) (l', r', c') = false := by simp [wiB, g0]
    rw [hv]
    clear hv
    go_enter Try.func58, Try.ntmps58
    go_wp2
    go_quiet (fail)
    go_wp2
    go_ret
    refine ⟨rfl, ?_⟩
    clear s0
    repeat (first | exact Below.refl _ _ | assumption | refine bl_drew ?_ | refine bl_drewN ?_ _ | refine Below.setCell ?_ (by first | assumption | omega | (simp; done) | (simp; omega)) _ | refine Below.alloc ?_ (by first | assumption | omega | (simp; done) | (simp; omega)) _)
end Go.Proofs.Ytlglalemhfjmhaa
