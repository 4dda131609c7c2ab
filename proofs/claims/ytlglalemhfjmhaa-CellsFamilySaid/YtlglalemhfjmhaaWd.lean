/- Walks of Parent, the reference's Parent and Valid, both ValidPoints, index. -/
import Derived.Test.YtlglalemhfjmhaaWc
import Derived.Test.YtlglalemhfjmhaaEq
namespace Go.Proofs.Ytlglalemhfjmhaa
open Go.RowKit

set_option maxHeartbeats 400000 in
theorem Parent_no (l r c : Int) (w : World) (hv : vldB l r c = false) :
    Calls Try.prog 21 #[.agg #[.int .i64 l, .int .i64 r, .int .i64 c]] w fun e w' => e = .returned (.tuple #[.agg #[.int .i64 0, .int .i64 0, .int .i64 0], .int .i64 1]) ∧ Below w.heap.size w w' := by
  have V := Lib.hid (valid_no l r c hv)
  clear hv
  go_enter Try.func21, Try.ntmps21
  go_wp2_with (go_at_call 24; refine (V.out _).mono ?_; rintro e w1 ⟨rfl, hb⟩; obtain ⟨hc, hf⟩ := bcell hb; obtain ⟨hz0, hz1⟩ := two_lt hb)
  refine bodyPost_ret (v := .tuple #[.agg #[.int .i64 0, .int .i64 0, .int .i64 0], .int .i64 1]) (by simp [results, Try.results21, go_sem, hc]) rfl ⟨rfl, ?_⟩
  have hb1 := two_bl hb
  repeat (first | exact Below.refl _ _ | assumption | refine bl_drew ?_ | refine bl_drewN ?_ _ | refine Below.setCell ?_ (by first | assumption | omega | (simp; done) | (simp; omega)) _ | refine Below.alloc ?_ (by first | assumption | omega | (simp; done) | (simp; omega)) _)
set_option maxHeartbeats 400000 in
theorem Parent_top (l r c : Int) (w : World) (hv : vldB l r c = true) (hl : (l == 0) = true) :
    Calls Try.prog 21 #[.agg #[.int .i64 l, .int .i64 r, .int .i64 c]] w fun e w' => e = .returned (.tuple #[.agg #[.int .i64 0, .int .i64 0, .int .i64 0], .int .i64 12]) ∧ Below w.heap.size w w' := by
  have V := Lib.hid (valid_yes l r c hv)
  clear hv
  go_enter Try.func21, Try.ntmps21
  go_wp2_with (go_at_call 24; refine (V.out _).mono ?_; rintro e w1 ⟨rfl, hb⟩; obtain ⟨hc, hf⟩ := bcell hb; obtain ⟨hz0, hz1⟩ := two_lt hb)
  refine bodyPost_ret (v := .tuple #[.agg #[.int .i64 0, .int .i64 0, .int .i64 0], .int .i64 12]) (by simp [results, Try.results21, go_sem, hc]) rfl ⟨rfl, ?_⟩
  have hb1 := two_bl hb
  repeat (first | exact Below.refl _ _ | assumption | refine bl_drew ?_ | refine bl_drewN ?_ _ | refine Below.setCell ?_ (by first | assumption | omega | (simp; done) | (simp; omega)) _ | refine Below.alloc ?_ (by first | assumption | omega | (simp; done) | (simp; omega)) _)
set_option maxHeartbeats 400000 in
theorem Parent_yes (l r c : Int) (w : World) (hv : vldB l r c = true) (hl : (l == 0) = false) :
    Calls Try.prog 21 #[.agg #[.int .i64 l, .int .i64 r, .int .i64 c]] w fun e w' => e = .returned (.tuple #[.agg #[.int .i64 (l - 1), .int .i64 (r / 2), .int .i64 (c / 2)], .int .i64 0]) ∧ Below w.heap.size w w' := by
  have V := Lib.hid (valid_yes l r c hv)
  obtain ⟨h0, h1, h2, h3, h4, h5⟩ := vldB_true.1 hv
  clear hv
  have hp := pw_bd h1
  have r1 : r ≤ 131072 := by omega
  have c1 : c ≤ 131072 := by omega
  clear hp h3 h5
  go_enter Try.func21, Try.ntmps21
  go_wp2_with (go_at_call 24; refine (V.out _).mono ?_; rintro e w1 ⟨rfl, hb⟩; obtain ⟨hc, hf⟩ := bcell hb; obtain ⟨hz0, hz1⟩ := two_lt hb)
  refine bodyPost_ret (v := .tuple #[.agg #[.int .i64 (l - 1), .int .i64 (r / 2), .int .i64 (c / 2)], .int .i64 0]) (by simp [results, Try.results21, go_sem, hc]) rfl ⟨rfl, ?_⟩
  have hb1 := two_bl hb
  repeat (first | exact Below.refl _ _ | assumption | refine bl_drew ?_ | refine bl_drewN ?_ _ | refine Below.setCell ?_ (by first | assumption | omega | (simp; done) | (simp; omega)) _ | refine Below.alloc ?_ (by first | assumption | omega | (simp; done) | (simp; omega)) _)

set_option maxHeartbeats 400000 in
theorem refParent_any (l r c : Int) (w : World) (h0 : 1 ≤ l) (h1 : l ≤ 16) (h2 : 0 ≤ r) (r1 : r ≤ 131072) (h4 : 0 ≤ c) (c1 : c ≤ 131072) :
    Calls Try.prog 28 #[.agg #[.int .i64 l, .int .i64 r, .int .i64 c]] w fun e w' => e = .returned (.agg #[.int .i64 (l - 1), .int .i64 (r / 2), .int .i64 (c / 2)]) ∧ Below w.heap.size w w' := by
  go_enter Try.func28, Try.ntmps28
  go_wp2
  refine bodyPost_ret (v := .agg #[.int .i64 (l - 1), .int .i64 (r / 2), .int .i64 (c / 2)]) (by simp [results, Try.results28, go_sem]) rfl ⟨rfl, ?_⟩
  repeat (first | exact Below.refl _ _ | assumption | refine bl_drew ?_ | refine bl_drewN ?_ _ | refine Below.setCell ?_ (by first | assumption | omega | (simp; done) | (simp; omega)) _ | refine Below.alloc ?_ (by first | assumption | omega | (simp; done) | (simp; omega)) _)

/-- which points are valid -/
def vptB (a b : Int) : Bool := decide (-5400000 ≤ a ∧ a ≤ 5400000 ∧ -10800000 ≤ b ∧ b < 10800000)
theorem vptB_true {a b : Int} : vptB a b = true ↔ (-5400000 ≤ a ∧ a ≤ 5400000 ∧ -10800000 ≤ b ∧ b < 10800000) := by simp [vptB]
set_option maxHeartbeats 400000 in
theorem vpt_any (a b : Int) (w : World) :
    Calls Try.prog 64 #[.agg #[.int .i64 a, .int .i64 b]] w fun e w' => e = .returned (.bool (vptB a b)) ∧ Below w.heap.size w w' := by
  unfold vptB
  go_enter Try.func64, Try.ntmps64
  go_wp2
  all_goals
    go_ret
    refine ⟨ret_bool (by first | (simp_all; done) | (simp_all; omega)), ?_⟩
    repeat (first | exact Below.refl _ _ | assumption | refine bl_drew ?_ | refine bl_drewN ?_ _ | refine Below.setCell ?_ (by first | assumption | omega | (simp; done) | (simp; omega)) _ | refine Below.alloc ?_ (by first | assumption | omega | (simp; done) | (simp; omega)) _)
set_option maxHeartbeats 400000 in
theorem refVpt_any (a b : Int) (w : World) :
    Calls Try.prog 25 #[.agg #[.int .i64 a, .int .i64 b]] w fun e w' => e = .returned (.bool (vptB a b)) ∧ Below w.heap.size w w' := by
  unfold vptB
  go_enter Try.func25, Try.ntmps25
  go_wp2
  all_goals
    go_ret
    refine ⟨ret_bool (by first | (simp_all; done) | (simp_all; omega)), ?_⟩
    repeat (first | exact Below.refl _ _ | assumption | refine bl_drew ?_ | refine bl_drewN ?_ _ | refine Below.setCell ?_ (by first | assumption | omega | (simp; done) | (simp; omega)) _ | refine Below.alloc ?_ (by first | assumption | omega | (simp; done) | (simp; omega)) _)

/-- the reckoning of cells.index -/
def pn (n l : Int) : Int := (n + 1) * pw l
def idx (n l m : Int) : Int := min ((pn n l + 10799999) / 10800000 - 1) m
theorem pn_bd {n l : Int} (h1 : l ≤ 16) (h2 : 0 ≤ n) (h3 : n ≤ 21600000) : 0 ≤ pn n l ∧ pn n l ≤ 1415577665536 := by
  have hp := pw_bd h1
  unfold pn
  have h : (n + 1) * pw l ≤ 21600001 * 65536 := Int.mul_le_mul (by omega) hp.2 (by omega) (by omega)
  have h' : 0 ≤ (n + 1) * pw l := Int.mul_nonneg (by omega) (by omega)
  omega
set_option maxHeartbeats 400000 in
theorem index_any (n l m : Int) (w : World) (h0 : 0 ≤ l) (h1 : l ≤ 16) (h2 : 0 ≤ n) (h3 : n ≤ 21600000) (h4 : 0 ≤ m) (h5 : m ≤ 131072) :
    Calls Try.prog 65 #[.int .i64 n, .int .i64 l, .int .i64 m] w fun e w' => e = .returned (.int .i64 (idx n l m)) ∧ w' = w := by
  have b := pn_bd h1 h2 h3
  have e1 : wrap64 ((n + 1) * 2 ^ l.toNat) = pn n l := IntWalk.wrap64_in _ (by unfold pn pw at b; omega)
  go_enter Try.func65, Try.ntmps65
  go_wp2
  all_goals
    go_ret
    refine ⟨ret_int ?_, rfl⟩
    clear e1
    unfold idx
    omega
end Go.Proofs.Ytlglalemhfjmhaa
