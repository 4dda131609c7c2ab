/- The walk of the reference's Of. -/
import Derived.Test.YtlglalemhfjmhaaWf
namespace Go.Proofs.Ytlglalemhfjmhaa
open Go.RowKit
theorem edg_zero (l : Int) : edg 0 l = 0 := by simp [edg]
theorem edg_le_iff {k l N : Int} (h1 : l ≤ 16) : edg k l ≤ N ↔ k ≤ (pn N l - 1) / 10800000 := by
  have hp := pw_bd h1
  unfold edg pn
  rw [← Int.lt_add_one_iff, Int.ediv_lt_iff_lt_mul (by omega), Int.le_ediv_iff_mul_le (by omega)]
  omega
theorem idx_char {k l N m : Int} (h1 : l ≤ 16) (hk : k ≤ m) (hle : edg k l ≤ N) (hx : k = m ∨ N < edg (k + 1) l) : idx N l m = k := by
  have a1 := (edg_le_iff h1).1 hle
  have a2 : k = m ∨ (pn N l - 1) / 10800000 < k + 1 := by
    rcases hx with hx | hx
    · exact .inl hx
    · right
      have : ¬ edg (k + 1) l ≤ N := by omega
      rw [edg_le_iff h1] at this
      omega
  unfold idx
  have e : (pn N l + 10799999) / 10800000 - 1 = (pn N l - 1) / 10800000 := by omega
  rw [e]
  generalize (pn N l - 1) / 10800000 = z at *
  omega

set_option maxHeartbeats 2000000 in
set_option maxRecDepth 100000 in
theorem refOf_any (a b l : Int) (w : World) (hv : vptB a b = true) (h0 : 0 ≤ l) (h1 : l ≤ 16) :
    Calls Try.prog 26 #[.agg #[.int .i64 a, .int .i64 b], .int .i64 l] w fun e w' => e = .returned (.agg #[.int .i64 l, .int .i64 (idx (a + 5400000) l (pw l - 1)), .int .i64 (idx (b + 10800000) l (2 * pw l - 1))]) ∧ Below w.heap.size w w' := by
  obtain ⟨a1, a2, b1, b2⟩ := vptB_true.1 hv
  clear hv
  have hp := pw_bd h1
  have e1 := pw_wrap h1
  have e2 := pw_wrap2 h1
  go_enter Try.func26, Try.ntmps26
  go_wp2
  go_loopg [] 131072 (fun g wr => ∃ k q : Nat, g + k = 131072 ∧ (k : Int) < pw l ∧ edg k l ≤ a + 5400000 ∧ wr = (((w.alloc (.cells #[.int .i64 a, .int .i64 b] 34)).alloc (.cells #[.int .i64 0, .int .i64 0, .int .i64 0] 32)).alloc (.cells #[.int .i64 l, .int .i64 k, .int .i64 0] 32)).drewN q)
  case atStart => exact ⟨0, 0, rfl, by omega, by simp only [Int.natCast_zero, edg_zero]; omega, rfl⟩
  case round =>
    obtain ⟨k, q, hg, hk, he, rfl⟩ := hrel
    have HG := Lib.hid hg
    clear hg
    have s1 : IntKind.i64.wrap ((k : Int) + 1) = (k : Int) + 1 := IntWalk.i64_in _ (by clear e1 e2; omega)
    have t1 : 0 ≤ (k : Int) + 1 := by omega
    have t2 : (k : Int) + 1 ≤ 131072 := by clear e1 e2 s1; omega
    have bd := edg_bd (i := (k : Int) + 1) h1 t1 (by clear e1 e2 s1; omega)
    have s2 : IntKind.i64.wrap (edg ((k : Int) + 1) l - 5400000) = edg ((k : Int) + 1) l - 5400000 := IntWalk.i64_in _ (by clear e1 e2 s1; omega)
    clear bd
    by_cases cc : (k : Int) + 1 < pw l ∧ edg ((k : Int) + 1) l - 5400000 ≤ a
    · obtain ⟨c1, c2⟩ := cc
      go_wp2
      go_quiet ((go_at_call 66; exact quiet_add_same (bound_any _ _ _ h0 h1 t1 t2)))
      clear s2
      go_wp2
      go_roundg (131072 - (k + 1))
      case rel => exact ⟨k + 1, q + nq, by have := HG.out; clear e1 e2 s1; omega, by push_cast; exact c1, by push_cast; clear e1 e2 s1; omega, by rw [set_new _ _ _ _ _ _ _ (by simp)]; simp⟩
      case measure => have := HG.out; clear e1 e2 s1; omega
    · have hx : idx (a + 5400000) l (pw l - 1) = k := idx_char h1 (by clear e1 e2 s1 s2; omega) he (by clear e1 e2 s1 s2; omega)
      have HX := Lib.hid hx
      clear hx
      have hdd : ((k : Int) + 1 < pw l ∧ decide (edg ((k : Int) + 1) l - 5400000 ≤ a) = false) ∨ decide ((k : Int) + 1 < pw l) = false := by
        by_cases c1 : (k : Int) + 1 < pw l
        · exact .inl ⟨c1, decide_eq_false fun h => cc ⟨c1, h⟩⟩
        · exact .inr (decide_eq_false c1)
      clear cc
      rcases hdd with ⟨c1, hd⟩ | hd
      all_goals
        go_wp2
        go_quiet ((go_at_call 66; exact quiet_add_same (bound_any _ _ _ h0 h1 t1 t2)))
        clear s2 s1 hd t1 t2 HG
        go_wp2
        go_loopg [] 131072 (fun g wr => ∃ j q' : Nat, g + j = 131072 ∧ (j : Int) < 2 * pw l ∧ edg j l ≤ b + 10800000 ∧ wr = (((w.alloc (.cells #[.int .i64 a, .int .i64 b] 34)).alloc (.cells #[.int .i64 0, .int .i64 0, .int .i64 0] 32)).alloc (.cells #[.int .i64 l, .int .i64 k, .int .i64 j] 32)).drewN q')
        case atStart => exact ⟨0, _, rfl, by clear e1 e2; omega, by simp only [Int.natCast_zero, edg_zero]; clear e1 e2; omega, World.drewN_drewN _ _ _⟩
        case round =>
          obtain ⟨j, q', hg, hj, hje, rfl⟩ := hrel
          have HG := Lib.hid hg
          clear hg
          have s1 : IntKind.i64.wrap ((j : Int) + 1) = (j : Int) + 1 := IntWalk.i64_in _ (by clear e1 e2; omega)
          have t1 : 0 ≤ (j : Int) + 1 := by omega
          have t2 : (j : Int) + 1 ≤ 131072 := by clear e1 e2 s1; omega
          have bd := edg_bd (i := (j : Int) + 1) h1 t1 (by clear e1 e2 s1; omega)
          have s2 : IntKind.i64.wrap (edg ((j : Int) + 1) l - 10800000) = edg ((j : Int) + 1) l - 10800000 := IntWalk.i64_in _ (by clear e1 e2 s1; omega)
          have s3 : IntKind.i64.wrap (2 * pw l) = 2 * pw l := IntWalk.i64_in _ (by clear e1 e2 s1 s2; omega)
          clear bd
          by_cases cc : (j : Int) + 1 < 2 * pw l ∧ edg ((j : Int) + 1) l - 10800000 ≤ b
          · obtain ⟨c1, c2⟩ := cc
            go_wp2
            go_quiet ((go_at_call 66; exact quiet_add_same (bound_any _ _ _ h0 h1 t1 t2)))
            clear s2 s3
            go_wp2
            go_roundg (131072 - (j + 1))
            case rel => exact ⟨j + 1, q' + nq, by have := HG.out; clear e1 e2 s1; omega, by push_cast; exact c1, by push_cast; clear e1 e2 s1; omega, by rw [set_new _ _ _ _ _ _ _ (by simp)]; simp⟩
            case measure => have := HG.out; clear e1 e2 s1; omega
          · have hy : idx (b + 10800000) l (2 * pw l - 1) = j := idx_char h1 (by clear e1 e2 s1 s2 s3; omega) hje (by clear e1 e2 s1 s2 s3; omega)
            have HY := Lib.hid hy
            clear hy
            have hdd : ((j : Int) + 1 < 2 * pw l ∧ decide (edg ((j : Int) + 1) l - 10800000 ≤ b) = false) ∨ decide ((j : Int) + 1 < 2 * pw l) = false := by
              by_cases c1 : (j : Int) + 1 < 2 * pw l
              · exact .inl ⟨c1, decide_eq_false fun h => cc ⟨c1, h⟩⟩
              · exact .inr (decide_eq_false c1)
            clear cc
            rcases hdd with ⟨c1, hd⟩ | hd
            all_goals
              go_wp2
              go_quiet ((go_at_call 66; exact quiet_add_same (bound_any _ _ _ h0 h1 t1 t2)))
              clear s2 s1 s3 hd
              go_wp2
              rw [HX.out, HY.out]
              refine bodyPost_ret (v := .agg #[.int .i64 l, .int .i64 k, .int .i64 j]) (by simp [results, Try.results26, go_sem]) rfl ⟨rfl, ?_⟩
              repeat (first | exact Below.refl _ _ | assumption | refine bl_drew ?_ | refine bl_drewN ?_ _ | refine Below.setCell ?_ (by first | assumption | omega | (simp; done) | (simp; omega)) _ | refine Below.alloc ?_ (by first | assumption | omega | (simp; done) | (simp; omega)) _)
end Go.Proofs.Ytlglalemhfjmhaa
