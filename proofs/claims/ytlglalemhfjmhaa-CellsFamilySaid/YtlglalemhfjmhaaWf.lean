/- Walks of Of, and the reference's Valid. -/
import Derived.Test.YtlglalemhfjmhaaWe
namespace Go.Proofs.Ytlglalemhfjmhaa
open Go.RowKit
theorem vpt_yes (a b : Int) (hv : vptB a b = true) (w : World) : Calls Try.prog 64 #[.agg #[.int .i64 a, .int .i64 b]] w fun e w' => e = .returned (.bool true) ∧ Below w.heap.size w w' := by
  rw [← hv]; exact vpt_any a b w
theorem vpt_no (a b : Int) (hv : vptB a b = false) (w : World) : Calls Try.prog 64 #[.agg #[.int .i64 a, .int .i64 b]] w fun e w' => e = .returned (.bool false) ∧ Below w.heap.size w w' := by
  rw [← hv]; exact vpt_any a b w
set_option maxHeartbeats 400000 in
theorem Of_bad (a b l : Int) (w : World) (hv : vptB a b = false) :
    Calls Try.prog 23 #[.agg #[.int .i64 a, .int .i64 b], .int .i64 l] w fun e w' => e = .returned (.tuple #[.agg #[.int .i64 0, .int .i64 0, .int .i64 0], .int .i64 1]) ∧ Below w.heap.size w w' := by
  have V := Lib.hid (vpt_no a b hv)
  clear hv
  go_enter Try.func23, Try.ntmps23
  go_wp2_with (go_at_call 64; refine (V.out _).mono ?_; rintro e w1 ⟨rfl, hb⟩; obtain ⟨hc, hf⟩ := bcell hb; obtain ⟨hz0, hz1⟩ := two_lt hb)
  refine bodyPost_ret (v := .tuple #[.agg #[.int .i64 0, .int .i64 0, .int .i64 0], .int .i64 1]) (by simp [results, Try.results23, go_sem, hc]) rfl ⟨rfl, ?_⟩
  have hb1 := two_bl hb
  repeat (first | exact Below.refl _ _ | assumption | refine bl_drew ?_ | refine bl_drewN ?_ _ | refine Below.setCell ?_ (by first | assumption | omega | (simp; done) | (simp; omega)) _ | refine Below.alloc ?_ (by first | assumption | omega | (simp; done) | (simp; omega)) _)
set_option maxHeartbeats 400000 in
theorem Of_range (a b l : Int) (w : World) (hv : vptB a b = true) (hl : l < 0 ∨ 16 < l) :
    Calls Try.prog 23 #[.agg #[.int .i64 a, .int .i64 b], .int .i64 l] w fun e w' => e = .returned (.tuple #[.agg #[.int .i64 0, .int .i64 0, .int .i64 0], .int .i64 2]) ∧ Below w.heap.size w w' := by
  have V := Lib.hid (vpt_yes a b hv)
  clear hv
  rcases hl with hl | hl
  · go_enter Try.func23, Try.ntmps23
    go_wp2_with (go_at_call 64; refine (V.out _).mono ?_; rintro e w1 ⟨rfl, hb⟩; obtain ⟨hc, hf⟩ := bcell hb; obtain ⟨hz0, hz1⟩ := two_lt hb)
    refine bodyPost_ret (v := .tuple #[.agg #[.int .i64 0, .int .i64 0, .int .i64 0], .int .i64 2]) (by simp [results, Try.results23, go_sem, hc]) rfl ⟨rfl, ?_⟩
    have hb1 := two_bl hb
    repeat (first | exact Below.refl _ _ | assumption | refine bl_drew ?_ | refine bl_drewN ?_ _ | refine Below.setCell ?_ (by first | assumption | omega | (simp; done) | (simp; omega)) _ | refine Below.alloc ?_ (by first | assumption | omega | (simp; done) | (simp; omega)) _)
  · have hl' : ¬ l < 0 := by omega
    go_enter Try.func23, Try.ntmps23
    go_wp2_with (go_at_call 64; refine (V.out _).mono ?_; rintro e w1 ⟨rfl, hb⟩; obtain ⟨hc, hf⟩ := bcell hb; obtain ⟨hz0, hz1⟩ := two_lt hb)
    refine bodyPost_ret (v := .tuple #[.agg #[.int .i64 0, .int .i64 0, .int .i64 0], .int .i64 2]) (by simp [results, Try.results23, go_sem, hc]) rfl ⟨rfl, ?_⟩
    have hb1 := two_bl hb
    repeat (first | exact Below.refl _ _ | assumption | refine bl_drew ?_ | refine bl_drewN ?_ _ | refine Below.setCell ?_ (by first | assumption | omega | (simp; done) | (simp; omega)) _ | refine Below.alloc ?_ (by first | assumption | omega | (simp; done) | (simp; omega)) _)
set_option maxHeartbeats 1000000 in
set_option maxRecDepth 100000 in
theorem Of_yes (a b l : Int) (w : World) (hv : vptB a b = true) (h0 : 0 ≤ l) (h1 : l ≤ 16) :
    Calls Try.prog 23 #[.agg #[.int .i64 a, .int .i64 b], .int .i64 l] w fun e w' => e = .returned (.tuple #[.agg #[.int .i64 l, .int .i64 (idx (a + 5400000) l (pw l - 1)), .int .i64 (idx (b + 10800000) l (2 * pw l - 1))], .int .i64 0]) ∧ Below w.heap.size w w' := by
  have V := Lib.hid (vpt_yes a b hv)
  obtain ⟨a1, a2, b1, b2⟩ := vptB_true.1 hv
  clear hv
  have hp := pw_bd h1
  have n1 : 0 ≤ a + 5400000 := by omega
  have n2 : a + 5400000 ≤ 21600000 := by omega
  have n3 : 0 ≤ b + 10800000 := by omega
  have n4 : b + 10800000 ≤ 21600000 := by omega
  have n5 : 0 ≤ pw l - 1 := by omega
  have n6 : pw l - 1 ≤ 131072 := by omega
  have n7 : 0 ≤ 2 * pw l - 1 := by omega
  have n8 : 2 * pw l - 1 ≤ 131072 := by omega
  have s1 : IntKind.i64.wrap (a + 5400000) = a + 5400000 := IntWalk.i64_in _ (by omega)
  have s2 : IntKind.i64.wrap (b + 10800000) = b + 10800000 := IntWalk.i64_in _ (by clear s1; omega)
  have s3 : IntKind.i64.wrap (pw l - 1) = pw l - 1 := IntWalk.i64_in _ (by clear s1 s2; omega)
  have s4 : IntKind.i64.wrap (2 * pw l - 1) = 2 * pw l - 1 := IntWalk.i64_in _ (by clear s1 s2 s3; omega)
  have s5 := pw_wrap h1
  have s6 := pw_wrap2 h1
  clear hp
  go_enter Try.func23, Try.ntmps23
  go_wp2_with (go_at_call 64; refine (V.out _).mono ?_; rintro e w1 ⟨rfl, hb⟩; obtain ⟨hc, hf⟩ := bcell hb; obtain ⟨hz0, hz1⟩ := two_lt hb)
  refine wp_still_tail 18 (by kernel_rfl) (by kernel_rfl) ?_
  simp only [List.take_succ_cons, List.take_zero, List.drop_succ_cons, List.drop_zero]
  repeat (first | still_step | still_call (index_any _ _ _ _ h0 h1 (by assumption) (by assumption) (by assumption) (by assumption)))
  refine wpStill_nil ?_
  clear s1 s2 s3 s4 s5 s6
  go_wp2
  refine bodyPost_ret (v := .tuple #[.agg #[.int .i64 l, .int .i64 (idx (a + 5400000) l (pw l - 1)), .int .i64 (idx (b + 10800000) l (2 * pw l - 1))], .int .i64 0]) (by simp [results, Try.results23, go_sem, hc]) rfl ⟨rfl, ?_⟩
  have hb1 := two_bl hb
  repeat (first | exact Below.refl _ _ | assumption | refine bl_drew ?_ | refine bl_drewN ?_ _ | refine Below.setCell ?_ (by first | assumption | omega | (simp; done) | (simp; omega)) _ | refine Below.alloc ?_ (by first | assumption | omega | (simp; done) | (simp; omega)) _)

set_option maxHeartbeats 1000000 in
theorem refValid_any (l r c : Int) (w : World) :
    Calls Try.prog 19 #[.agg #[.int .i64 l, .int .i64 r, .int .i64 c]] w fun e w' => e = .returned (.bool (vldB l r c)) ∧ Below w.heap.size w w' := by
  by_cases h0 : 0 ≤ l
  · by_cases h1 : l ≤ 16
    · have e1 : wrap64 (2 ^ l.toNat) = pw l := by rw [← IntWalk.i64_left]; exact pw_wrap h1
      have hp := pw_bd h1
      have hv : vldB l r c = decide (0 ≤ r ∧ r < pw l ∧ 0 ≤ c ∧ c < 2 * pw l) := by simp [vldB, h0, h1]
      rw [hv]
      clear hv
      have h0' : ¬ l < 0 := by omega
      go_enter Try.func19, Try.ntmps19
      go_wp2
      all_goals
        go_ret
        refine ⟨ret_bool (by clear e1; first | (simp_all; done) | (simp_all; omega)), ?_⟩
        repeat (first | exact Below.refl _ _ | assumption | refine bl_drew ?_ | refine bl_drewN ?_ _ | refine Below.setCell ?_ (by first | assumption | omega | (simp; done) | (simp; omega)) _ | refine Below.alloc ?_ (by first | assumption | omega | (simp; done) | (simp; omega)) _)
    · have hv : vldB l r c = false := by simp [vldB, h1]
      rw [hv]
      have h0' : ¬ l < 0 := by omega
      have h1' : 16 < l := by omega
      clear hv
      go_enter Try.func19, Try.ntmps19
      go_wp2
      go_ret
      refine ⟨rfl, ?_⟩
      repeat (first | exact Below.refl _ _ | assumption | refine bl_drew ?_ | refine bl_drewN ?_ _ | refine Below.setCell ?_ (by first | assumption | omega | (simp; done) | (simp; omega)) _ | refine Below.alloc ?_ (by first | assumption | omega | (simp; done) | (simp; omega)) _)
  · have hv : vldB l r c = false := by simp [vldB, h0]
    rw [hv]
    have h0' : l < 0 := by omega
    clear hv
    go_enter Try.func19, Try.ntmps19
    go_wp2
    go_ret
    refine ⟨rfl, ?_⟩
    repeat (first | exact Below.refl _ _ | assumption | refine bl_drew ?_ | refine bl_drewN ?_ _ | refine Below.setCell ?_ (by first | assumption | omega | (simp; done) | (simp; omega)) _ | refine Below.alloc ?_ (by first | assumption | omega | (simp; done) | (simp; omega)) _)
end Go.Proofs.Ytlglalemhfjmhaa
