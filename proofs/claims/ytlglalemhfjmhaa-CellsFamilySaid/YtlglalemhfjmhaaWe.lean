/- Walks of Children, and the reference's Children. -/
import Derived.Test.YtlglalemhfjmhaaWd
import Derived.Test.YtlglalemhfjmhaaWords
namespace Go.Proofs.Ytlglalemhfjmhaa
open Go.RowKit
theorem one_lt {w w1 : World} {o1 : Obj} (hb : Below (w.alloc o1).heap.size (w.alloc o1) w1) : w.heap.size < w1.heap.size := by
  have := hb.size
  simp at this
  omega
theorem one_bl {w w1 : World} {o1 : Obj} (hb : Below (w.alloc o1).heap.size (w.alloc o1) w1) : Below w.heap.size w w1 :=
  ((Below.refl _ _).alloc (Nat.le_refl _) _).trans (hb.mono (by simp))

set_option maxHeartbeats 400000 in
theorem Children_no (l r c : Int) (w : World) (hv : vldB l r c = false) :
    Calls Try.prog 22 #[.agg #[.int .i64 l, .int .i64 r, .int .i64 c]] w (RetCells w [] 1) := by
  have V := Lib.hid (valid_no l r c hv)
  clear hv
  go_enter Try.func22, Try.ntmps22
  go_wp2_with (go_at_call 24; refine (V.out _).mono ?_; rintro e w1 ⟨rfl, hb⟩; obtain ⟨hc, hf⟩ := bcell hb)
  go_ret2
  exact ⟨_, rfl, ⟨rfl, .inl ⟨rfl, rfl⟩⟩, one_bl hb⟩
set_option maxHeartbeats 400000 in
theorem Children_low (l r c : Int) (w : World) (hv : vldB l r c = true) (hl : (l == 16) = true) :
    Calls Try.prog 22 #[.agg #[.int .i64 l, .int .i64 r, .int .i64 c]] w (RetCells w [] 6) := by
  have V := Lib.hid (valid_yes l r c hv)
  clear hv
  go_enter Try.func22, Try.ntmps22
  go_wp2_with (go_at_call 24; refine (V.out _).mono ?_; rintro e w1 ⟨rfl, hb⟩; obtain ⟨hc, hf⟩ := bcell hb)
  go_ret2
  exact ⟨_, rfl, ⟨rfl, .inl ⟨rfl, rfl⟩⟩, one_bl hb⟩
set_option maxHeartbeats 1000000 in
set_option maxRecDepth 100000 in
theorem Children_yes (l r c : Int) (w : World) (hv : vldB l r c = true) (hl : (l == 16) = false) :
    Calls Try.prog 22 #[.agg #[.int .i64 l, .int .i64 r, .int .i64 c]] w (RetCells w (kids l r c) 0) := by
  have V := Lib.hid (valid_yes l r c hv)
  obtain ⟨h0, h1, h2, h3, h4, h5⟩ := vldB_true.1 hv
  clear hv
  have hp := pw_bd h1
  have r1 : r ≤ 131072 := by omega
  have c1 : c ≤ 131072 := by omega
  clear hp h3 h5
  obtain ⟨i0, hi0, hz0, hz1, hz2⟩ := info_parts Try.infoCell
  go_enter Try.func22, Try.ntmps22
  go_wp2_with (go_at_call 24; refine (V.out _).mono ?_; rintro e w1 ⟨rfl, hb⟩; obtain ⟨hc, hf⟩ := bcell hb)
  have hlt := one_lt hb
  have hbl := one_bl hb
  have q0 : w1.cell? ⟨w.heap.size, 0, none⟩ = some (.int .i64 l) := by rw [hc _ _ (by simp)]; simp
  have q1 : w1.cell? ⟨w.heap.size, 1, none⟩ = some (.int .i64 r) := by rw [hc _ _ (by simp)]; simp
  have q2 : w1.cell? ⟨w.heap.size, 2, none⟩ = some (.int .i64 c) := by rw [hc _ _ (by simp)]; simp
  clear hc hf hb V
  go_loopw [4, 14] (fun v k wr => ∃ j : Nat, j ≤ 4 ∧ k = .int .i64 j ∧ wr.ownsRow w1.heap.size 32 3 v j (cvs ((kids l r c).take j)) ∧ Below w1.heap.size w1 wr) (fun _ k _ => 4 - (intOf k).toNat)
  case atStart => exact ⟨0, by omega, rfl, ⟨rfl, .inl ⟨rfl, rfl⟩⟩, Below.refl _ _⟩
  case round =>
    obtain ⟨j, hj, rfl, hown, hbr⟩ := hrel
    have g0 : wr.cell? ⟨w.heap.size, 0, none⟩ = some (.int .i64 l) := (hbr.cell (p := ⟨w.heap.size, 0, none⟩) hlt).trans q0
    have g1 : wr.cell? ⟨w.heap.size, 1, none⟩ = some (.int .i64 r) := (hbr.cell (p := ⟨w.heap.size, 1, none⟩) hlt).trans q1
    have g2 : wr.cell? ⟨w.heap.size, 2, none⟩ = some (.int .i64 c) := (hbr.cell (p := ⟨w.heap.size, 2, none⟩) hlt).trans q2
    by_cases hlt4 : j < 4
    · have hk := Lib.hid (kids_take l r c hlt4)
      have hz := hbr.size
      go_wp2_with (at_builtin; (refine wpList_append_any _ rfl (.tmp 17) (.tmp 34) _ rfl w1.heap.size 32 i0 _ 3 24 Try.underlying22 hi0 hz0 hz1 hz2 rfl (by decide) u4 j (cvs ((kids l r c).take j)) rfl (hown.alloc _) (wr.heap.size + 1) (some ⟨wr.heap.size, 0, none⟩) 1 1 (cv (l + 1, 2 * r + (j : Int) / 2, 2 * c + (j : Int) % 2)) rfl (reads_new wr _ _ _ _) (cv_one _) (by simp only [maxLen]; omega) (by omega) (by simp; omega) ?_); intro v2 w2 hown2 hg2 hat2)
      go_roundw
      case rel => exact ⟨j + 1, by omega, by go_num, by rw [hk.out]; exact hown2, (hbr.alloc hz _).grown hg2 (by simp; omega) (own_base hown)⟩
      case measure => simp [intOf]; omega
    · go_wp2
      have h4 : j = 4 := by omega
      subst h4
      go_ret2
      exact ⟨_, rfl, own_mono hown (by omega), hbl.trans (hbr.mono (by omega))⟩
set_option maxHeartbeats 1000000 in
set_option maxRecDepth 100000 in
theorem refChildren_any (l r c : Int) (w : World) (h0 : 0 ≤ l) (h1 : l ≤ 16) (h2 : 0 ≤ r) (r1 : r ≤ 131072) (h4 : 0 ≤ c) (c1 : c ≤ 131072) :
    Calls Try.prog 29 #[.agg #[.int .i64 l, .int .i64 r, .int .i64 c]] w (RetCells1 w (kids l r c)) := by
  have s1 : IntKind.i64.wrap (2 * r) = 2 * r := IntWalk.i64_in _ (by omega)
  have s2 : IntKind.i64.wrap (2 * c) = 2 * c := IntWalk.i64_in _ (by clear s1; omega)
  go_enter Try.func29, Try.ntmps29
  go_wp2
  go_quiet (fail)
  clear s1 s2
  go_wp2
  go_ret
  refine ⟨.slice (some ⟨w.heap.size + 1, 0, none⟩) 4 4, rfl, own_new _ _ _ 3 4 _ _ (by simp) (by simp) rfl (by simp [maxLen]), ?_⟩
  repeat (first | exact Below.refl _ _ | assumption | refine bl_drew ?_ | refine bl_drewN ?_ _ | refine Below.setCell ?_ (by first | assumption | omega | (simp; done) | (simp; omega)) _ | refine Below.alloc ?_ (by first | assumption | omega | (simp; done) | (simp; omega)) _)
end Go.Proofs.Ytlglalemhfjmhaa
