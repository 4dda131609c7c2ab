/- Walks of edge, bound, box and the reference's Box. -/
import Derived.Test.YtlglalemhfjmhaaWa
namespace Go.Proofs.Ytlglalemhfjmhaa
open Go.RowKit
theorem ret_int {k : IntKind} {a b : Int} (h : a = b) : Ending.returned (.int k a) = .returned (.int k b) := by rw [h]
def edg (i l : Int) : Int := i * 10800000 / pw l
theorem edg_bd {i l : Int} (h1 : l ≤ 16) (h2 : 0 ≤ i) (h3 : i ≤ 2 * pw l) : 0 ≤ edg i l ∧ edg i l ≤ 21600000 := by
  have hp := pw_bd h1
  unfold edg
  refine ⟨Int.ediv_nonneg (by omega) (by omega), ?_⟩
  have : i * 10800000 / pw l ≤ (21600000 * pw l) / pw l := Int.ediv_le_ediv (by omega) (by omega)
  rwa [Int.mul_ediv_cancel _ (by omega)] at this

set_option maxHeartbeats 400000 in
theorem edge_any (i l : Int) (w : World) (h0 : 0 ≤ l) (h1 : l ≤ 16) (h2 : 0 ≤ i) (h3 : i ≤ 131072) :
    Calls Try.prog 103 #[.int .i64 i, .int .i64 l] w fun e w' => e = .returned (.int .i64 (edg i l)) ∧ w' = w := by
  go_enter Try.func103, Try.ntmps103
  go_wp2
  go_ret
  exact ⟨rfl, rfl⟩
set_option maxHeartbeats 400000 in
theorem bound_any (i l : Int) (w : World) (h0 : 0 ≤ l) (h1 : l ≤ 16) (h2 : 0 ≤ i) (h3 : i ≤ 131072) :
    Calls Try.prog 66 #[.int .i64 i, .int .i64 l] w fun e w' => e = .returned (.int .i64 (edg i l)) ∧ w' = w := by
  go_enter Try.func66, Try.ntmps66
  go_wp2
  go_ret
  exact ⟨rfl, rfl⟩

/-- the box of a cell, as a value -/
def boxV (l r c : Int) : Value := .agg #[.int .i64 (edg r l - 5400000), .int .i64 (edg (r + 1) l - 5400000), .int .i64 (edg c l - 10800000), .int .i64 (edg (c + 1) l - 10800000)]

set_option maxHeartbeats 400000 in
set_option maxRecDepth 100000 in
theorem box_any (l r c : Int) (w : World) (hv : vldB l r c = true) :
    Calls Try.prog 63 #[.agg #[.int .i64 l, .int .i64 r, .int .i64 c]] w fun e w' => e = .returned (boxV l r c) ∧ Below w.heap.size w w' := by
  obtain ⟨h0, h1, h2, h3, h4, h5⟩ := vldB_true.1 hv
  clear hv
  have hp := pw_bd h1
  have b1 := edg_bd (i := r) h1 (by omega) (by omega)
  have b2 := edg_bd (i := r + 1) h1 (by omega) (by omega)
  have b3 := edg_bd (i := c) h1 (by omega) (by omega)
  have b4 := edg_bd (i := c + 1) h1 (by omega) (by omega)
  have r1 : r ≤ 131072 := by omega
  have r2 : 0 ≤ r + 1 := by omega
  have r3 : r + 1 ≤ 131072 := by omega
  have c1 : c ≤ 131072 := by omega
  have c2 : 0 ≤ c + 1 := by omega
  have c3 : c + 1 ≤ 131072 := by omega
  have s1 : IntKind.i64.wrap (r + 1) = r + 1 := IntWalk.i64_in _ (by omega)
  have s2 : IntKind.i64.wrap (c + 1) = c + 1 := IntWalk.i64_in _ (by clear s1; omega)
  have s3 : IntKind.i64.wrap (edg r l - 5400000) = edg r l - 5400000 := IntWalk.i64_in _ (by clear s1 s2; omega)
  have s4 : IntKind.i64.wrap (edg (r + 1) l - 5400000) = edg (r + 1) l - 5400000 := IntWalk.i64_in _ (by clear s1 s2 s3; omega)
  have s5 : IntKind.i64.wrap (edg c l - 10800000) = edg c l - 10800000 := IntWalk.i64_in _ (by clear s1 s2 s3 s4; omega)
  have s6 : IntKind.i64.wrap (edg (c + 1) l - 10800000) = edg (c + 1) l - 10800000 := IntWalk.i64_in _ (by clear s1 s2 s3 s4 s5; omega)
  clear b1 b2 b3 b4 hp h3 h5
  go_enter Try.func63, Try.ntmps63
  go_wp2
  refine wp_still_tail 29 (by kernel_rfl) (by kernel_rfl) ?_
  simp only [List.take_succ_cons, List.take_zero, List.drop_succ_cons, List.drop_zero]
  repeat (first | still_step | still_call (edge_any _ _ _ h0 h1 (by assumption) (by assumption)))
  refine wpStill_nil ?_
  go_wp2
  refine bodyPost_ret (v := boxV l r c) (by simp [results, Try.results63, go_sem, boxV]) rfl ⟨rfl, ?_⟩
  repeat (first | exact Below.refl _ _ | refine bl_drew ?_ | refine bl_drewN ?_ _ | refine Below.setCell ?_ (by simp <;> omega) _ | refine Below.alloc ?_ (by simp <;> omega) _)
set_option maxHeartbeats 400000 in
set_option maxRecDepth 100000 in
theorem refBox_any (l r c : Int) (w : World) (hv : vldB l r c = true) :
    Calls Try.prog 27 #[.agg #[.int .i64 l, .int .i64 r, .int .i64 c]] w fun e w' => e = .returned (boxV l r c) ∧ Below w.heap.size w w' := by
  obtain ⟨h0, h1, h2, h3, h4, h5⟩ := vldB_true.1 hv
  clear hv
  have hp := pw_bd h1
  have b1 := edg_bd (i := r) h1 (by omega) (by omega)
  have b2 := edg_bd (i := r + 1) h1 (by omega) (by omega)
  have b3 := edg_bd (i := c) h1 (by omega) (by omega)
  have b4 := edg_bd (i := c + 1) h1 (by omega) (by omega)
  have r1 : r ≤ 131072 := by omega
  have r2 : 0 ≤ r + 1 := by omega
  have r3 : r + 1 ≤ 131072 := by omega
  have c1 : c ≤ 131072 := by omega
  have c2 : 0 ≤ c + 1 := by omega
  have c3 : c + 1 ≤ 131072 := by omega
  have s1 : IntKind.i64.wrap (r + 1) = r + 1 := IntWalk.i64_in _ (by omega)
  have s2 : IntKind.i64.wrap (c + 1) = c + 1 := IntWalk.i64_in _ (by clear s1; omega)
  have s3 : IntKind.i64.wrap (edg r l - 5400000) = edg r l - 5400000 := IntWalk.i64_in _ (by clear s1 s2; omega)
  have s4 : IntKind.i64.wrap (edg (r + 1) l - 5400000) = edg (r + 1) l - 5400000 := IntWalk.i64_in _ (by clear s1 s2 s3; omega)
  have s5 : IntKind.i64.wrap (edg c l - 10800000) = edg c l - 10800000 := IntWalk.i64_in _ (by clear s1 s2 s3 s4; omega)
  have s6 : IntKind.i64.wrap (edg (c + 1) l - 10800000) = edg (c + 1) l - 10800000 := IntWalk.i64_in _ (by clear s1 s2 s3 s4 s5; omega)
  clear b1 b2 b3 b4 hp h3 h5
  go_enter Try.func27, Try.ntmps27
  go_wp2
  refine wp_still_tail 29 (by kernel_rfl) (by kernel_rfl) ?_
  simp only [List.take_succ_cons, List.take_zero, List.drop_succ_cons, List.drop_zero]
  repeat (first | still_step | still_call (bound_any _ _ _ h0 h1 (by assumption) (by assumption)))
  refine wpStill_nil ?_
  go_wp2
  refine bodyPost_ret (v := boxV l r c) (by simp [results, Try.results27, go_sem, boxV]) rfl ⟨rfl, ?_⟩
  repeat (first | exact Below.refl _ _ | refine bl_drew ?_ | refine bl_drewN ?_ _ | refine Below.setCell ?_ (by simp <;> omega) _ | refine Below.alloc ?_ (by simp <;> omega) _)
end Go.Proofs.Ytlglalemhfjmhaa
