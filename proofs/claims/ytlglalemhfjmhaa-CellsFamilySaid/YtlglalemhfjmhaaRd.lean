/- Walks of the reference's below. -/
import Derived.Test.YtlglalemhfjmhaaRc
import Derived.Deep.RegionHeld3
import Derived.Deep.Cut
namespace Go.Proofs.Ytlglalemhfjmhaa
open Go.RowKit
theorem take_gt (L : List Cl) (k : Nat) (hk : k < L.length) : L.take (k + 1) = L.take k ++ [gt L k] := by
  rw [List.take_succ_eq_append_getElem hk]
  simp [gt, hk]
theorem gt_mem (L : List Cl) (k : Nat) (hk : k < L.length) : gt L k ∈ L := by
  simp [gt, hk]
/-- the cells of a list that are inside a cell, and not this -/
def belL (L : List Cl) (x : Cl) : List Cl := L.filter fun y => !ceq y x && wiB y x
theorem belL_yes (L : List Cl) (x : Cl) (k : Nat) (hk : k < L.length) (h : ceq (gt L k) x = false) (h2 : wiB (gt L k) x = true) : belL (L.take (k + 1)) x = belL (L.take k) x ++ [gt L k] := by
  have e : L.take (k + 1) = L.take k ++ [gt L k] := take_gt L k hk
  rw [e, belL, List.filter_append]
  simp [belL, h, h2]
theorem belL_no (L : List Cl) (x : Cl) (k : Nat) (hk : k < L.length) (h : (!ceq (gt L k) x && wiB (gt L k) x) = false) : belL (L.take (k + 1)) x = belL (L.take k) x := by
  have e : L.take (k + 1) = L.take k ++ [gt L k] := take_gt L k hk
  rw [e, belL, List.filter_append]
  simp only [List.filter_cons, h, List.filter_nil]
  simp [belL]
theorem belL_len (L : List Cl) (x : Cl) (k : Nat) : (belL (L.take k) x).length ≤ k := by
  have := List.length_filter_le (fun y => !ceq y x && wiB y x) (L.take k)
  have h2 := List.length_take_le k L
  unfold belL
  omega
set_option maxHeartbeats 1000000 in
set_option maxRecDepth 100000 in
theorem below_any (A : Option Addr) (n ca : Nat) (L : List Cl) (l r c : Int) (w : World) (hr : Reads w w.heap.size 3 A n (cvs L)) (hn : n ≤ 1000000) (hl : ∀ y ∈ L, 0 ≤ y.1 ∧ y.1 ≤ 16) (h0 : 0 ≤ l) (h1 : l ≤ 16) :
    Calls Try.prog 101 #[.slice A n ca, .agg #[.int .i64 l, .int .i64 r, .int .i64 c]] w (RetCells1 w (belL L (l, r, c))) := by
  have HL := Lib.hid hr.len
  have HR := Lib.hid hr
  have HV := Lib.hid hl
  clear hr hl
  have hq := neqCell
  obtain ⟨i0, hi0, hz0, hz1, hz2⟩ := info_parts Try.infoCell
  go_enter Try.func101, Try.ntmps101
  go_wp2
  go_loopw [5, 6] (fun v i wr => ∃ k : Nat, k ≤ n ∧ i = .int .i64 k ∧ wr.ownsRow (w.heap.size + 1) 32 3 v (belL (L.take k) (l, r, c)).length (cvs (belL (L.take k) (l, r, c))) ∧ Below (w.heap.size + 1) (w.alloc (.cells #[.int .i64 l, .int .i64 r, .int .i64 c] 32)) wr) (fun _ i _ => n - (intOf i).toNat)
  case atStart => exact ⟨0, Nat.zero_le _, rfl, own_nil _ _ _ _, Below.refl _ _⟩
  case round =>
    obtain ⟨k, hk, rfl, hown, hbr⟩ := hrel
    have hz := hbr.size
    simp at hz
    have q0 : wr.cell? ⟨w.heap.size, 0, none⟩ = some (.int .i64 l) := (hbr.cell (p := ⟨w.heap.size, 0, none⟩) (by simp)).trans (by simp)
    have q1 : wr.cell? ⟨w.heap.size, 1, none⟩ = some (.int .i64 r) := (hbr.cell (p := ⟨w.heap.size, 1, none⟩) (by simp)).trans (by simp)
    have q2 : wr.cell? ⟨w.heap.size, 2, none⟩ = some (.int .i64 c) := (hbr.cell (p := ⟨w.heap.size, 2, none⟩) (by simp)).trans (by simp)
    by_cases hlt : k < n
    · have hR2 : Reads wr w.heap.size 3 A n (cvs L) := (HR.out.alloc (Nat.le_refl _) _).below (hbr.mono (by omega))
      obtain ⟨b, off, rfl, hb, x1, x2, x3⟩ := hR2.elem hlt
      clear hR2
      have hkl : k < L.length := by rw [HL.out]; exact hlt
      have y1 := Lib.hid (belL_yes L (l, r, c) k hkl)
      have y2 := Lib.hid (belL_no L (l, r, c) k hkl)
      have hlv := HV.out _ (gt_mem L k hkl)
      generalize gt L k = y at x1 x2 x3 y1 y2 hlv
      obtain ⟨ya, yb, yc⟩ := y
      simp only [] at x1 x2 x3 hlv
      have W := Lib.hid (fun w => Within_any ya yb yc l r c w hlv.1 hlv.2 h0 h1)
      cases hc : ceq (ya, yb, yc) (l, r, c) with
      | true =>
        have h3 := Lib.hid (y2.out (by simp [hc]))
        clear y1 y2
        go_wp2
        go_quiet (fail)
        go_wp2
        go_roundw
        case rel => exact ⟨k + 1, by omega, by go_num, by rw [h3.out]; exact own_bl hown (bl_drewN (Below.refl _ _) _) (Nat.le_refl _), bl_drewN hbr _⟩
        case measure => simp [intOf]; omega
      | false =>
        have blt : b < wr.heap.size := by omega
        have clt : w.heap.size < wr.heap.size := by omega
        have hlen := belL_len L (l, r, c) k
        go_upto_region 5 with (fail)
        go_region_held3 (fun w' => w'.cell? ⟨b, off + k * 3, none⟩ = some (.int .i64 ya) ∧ w'.cell? ⟨b, off + k * 3 + 1, none⟩ = some (.int .i64 yb) ∧ w'.cell? ⟨b, off + k * 3 + 2, none⟩ = some (.int .i64 yc) ∧ w'.cell? ⟨w.heap.size, 0, none⟩ = some (.int .i64 l) ∧ w'.cell? ⟨w.heap.size, 1, none⟩ = some (.int .i64 r) ∧ w'.cell? ⟨w.heap.size, 2, none⟩ = some (.int .i64 c)) (first | exact ⟨x1, x2, x3, q0, q1, q2⟩ | exact ⟨s1, s2, s3, t0, t1, t2⟩) (first | (go_at_call 58; refine (W.out _).mono ?_; rintro e w9 ⟨rfl, hb9⟩; have s1 := (hb9.cell (p := ⟨b, off + k * 3, none⟩) blt).trans x1; have s2 := (hb9.cell (p := ⟨b, off + k * 3 + 1, none⟩) blt).trans x2; have s3 := (hb9.cell (p := ⟨b, off + k * 3 + 2, none⟩) blt).trans x3; have t0 := (hb9.cell (p := ⟨w.heap.size, 0, none⟩) clt).trans q0; have t1 := (hb9.cell (p := ⟨w.heap.size, 1, none⟩) clt).trans q1; have t2 := (hb9.cell (p := ⟨w.heap.size, 2, none⟩) clt).trans q2))
        clear x1 x2 x3 q0 q1 q2 W
        have hown9 := own_bl (own_bl hown (bl_drew (Below.refl _ _)) (Nat.le_refl _)) hb9 (Nat.le_refl _)
        have hbr9 : Below (w.heap.size + 1) (w.alloc (.cells #[.int .i64 l, .int .i64 r, .int .i64 c] 32)) w9 := (bl_drew hbr).trans (hb9.mono (by simp; omega))
        have hz9 := hbr9.size
        simp at hz9
        clear hown hbr hb9
        cases hw : wiB (ya, yb, yc) (l, r, c) with
        | true =>
          have h3 := Lib.hid (y1.out hc hw)
          clear y1 y2
          go_wp2_with (at_builtin; (refine wpList_append_any _ rfl (.tmp 27) (.tmp 32) _ rfl (w.heap.size + 1) 32 i0 _ 3 24 Try.underlying22 hi0 hz0 hz1 hz2 rfl (by decide) u5 _ _ rfl (hown9.alloc _) (w9.heap.size + 1) (some ⟨w9.heap.size, 0, none⟩) 1 1 (cv (ya, yb, yc)) rfl (reads_new w9 _ _ _ _) (cv_one _) (by simp only [maxLen]; omega) (by omega) (by simp; omega) ?_); intro v2 w2 hown2 hg2 hat2)
          go_roundw
          case rel => exact ⟨k + 1, by omega, by go_num, by rw [h3.out, cvs_append, List.length_append]; exact hown2, (hbr9.alloc hz9 _).grown hg2 (by simp; omega) (own_base hown9)⟩
          case measure => simp [intOf]; omega
        | false =>
          have h3 := Lib.hid (y2.out (by simp [hw]))
          clear y1 y2
          go_wp2
          go_roundw
          case rel => exact ⟨k + 1, by omega, by go_num, by rw [h3.out]; exact hown9, hbr9⟩
          case measure => simp [intOf]; omega
    · go_wp2
      go_ret
      rw [List.take_of_length_le (by rw [HL.out]; omega)] at hown
      exact ⟨_, rfl, own_mono hown (by omega), ((bl_alloc w _).trans (hbr.mono (by omega)))⟩
end Go.Proofs.Ytlglalemhfjmhaa
