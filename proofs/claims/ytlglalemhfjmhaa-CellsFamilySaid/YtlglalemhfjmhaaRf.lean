/- The walk of slices.Equal at cells, of law38's few. -/
import Derived.Test.YtlglalemhfjmhaaRe
namespace Go.Proofs.Ytlglalemhfjmhaa
open Go.RowKit
set_option maxHeartbeats 1000000 in
set_option maxRecDepth 100000 in
theorem Equal_any (A B : Option Addr) (n m ca cb : Nat) (L M : List Cl) (w : World) (B1 B2 : Nat) (ha : Reads w B1 3 A n (cvs L)) (hb : Reads w B2 3 B m (cvs M)) (hn : n ≤ maxLen) (hm : m ≤ maxLen) :
    Calls Try.prog 51 #[.slice A n ca, .slice B m cb] w fun e w' => e = .returned (.bool (decide (L = M))) ∧ ∃ q, w' = w.drewN q := by
  have hl := ha.len
  have hk := hb.len
  unfold maxLen at hn hm
  by_cases hnm : n = m
  · subst hnm
    have hnn : ((n : Int) != (n : Int)) = false := by simp
    have R1 := Lib.hid ha
    have R2 := Lib.hid hb
    have Hl := Lib.hid hl
    have Hk := Lib.hid hk
    clear ha hb hl hk
    have hq := neqCell
    go_enter Try.func51, Try.ntmps51
    go_wp2
    go_loopw [13] (fun i wr => ∃ k q : Nat, k ≤ n ∧ i = .int .i64 k ∧ L.take k = M.take k ∧ wr = w.drewN q) (fun i _ => n - (intOf i).toNat)
    case atStart => exact ⟨0, 0, Nat.zero_le _, rfl, by simp, rfl⟩
    case round =>
      obtain ⟨k, q, hkn, rfl, ht, rfl⟩ := hrel
      have HT := Lib.hid ht
      clear ht
      by_cases hlt : k < n
      · obtain ⟨b1, o1, rfl, hb1, x1, x2, x3⟩ := R1.out.elem hlt
        obtain ⟨b2, o2, rfl, hb2, y1, y2, y3⟩ := R2.out.elem hlt
        by_cases he : gt L k = gt M k
        · have hc := ceq_true.2 he
          clear he
          go_wp2
          go_quiet (fail)
          go_wp2

          go_roundw
          case rel => exact ⟨k + 1, _, by omega, by go_num, take_eq_succ HT.out (by rw [Hl.out]; exact hlt) (by rw [Hk.out]; exact hlt) (ceq_true.1 hc), rfl⟩
          case measure => simp [intOf]; omega
        · have hc := ceq_false.2 he
          clear he
          have hne := Lib.hid (ne_of_gt (ceq_false.1 hc))
          go_wp2
          go_quiet (fail)
          go_wp2

          go_ret
          exact ⟨ret_bool (by simp [hne.out]), _, World.drewN_drewN _ _ _⟩
      · go_wp2
        go_ret
        have hkk : k = n := by omega
        subst hkk
        have := HT.out
        rw [List.take_of_length_le (by rw [Hl.out]; omega), List.take_of_length_le (by rw [Hk.out]; omega)] at this
        exact ⟨ret_bool (by simp [this]), _, rfl⟩
  · have hnn : ((n : Int) != (m : Int)) = true := by rw [bne_iff_ne]; omega
    have hne : L ≠ M := fun h => hnm (by rw [← hl, ← hk, h])
    have hne := Lib.hid hne
    clear ha hb hl hk hnm
    go_enter Try.func51, Try.ntmps51
    go_wp2
    go_ret
    exact ⟨ret_bool (by simp [hne.out]), 0, rfl⟩
end Go.Proofs.Ytlglalemhfjmhaa
