/- The walk of cells.Contains. -/
import Derived.Test.YtlglalemhfjmhaaPb
import Derived.Test.YtlglalemhfjmhaaSg
namespace Go.Proofs.Ytlglalemhfjmhaa
open Go.RowKit
theorem boxOk_of {x : Cl} (hx : Vl x) : BoxOk (edg x.2.1 x.1 - 5400000) (edg (x.2.1 + 1) x.1 - 5400000) (edg x.2.2 x.1 - 10800000) (edg (x.2.2 + 1) x.1 - 10800000) := by
  obtain ⟨h1, h2, h3, h4, h5, h6, h7, h8⟩ := box_nums hx
  constructor <;> omega
theorem cellContains (x : Cl) (a b : Int) (W : World) (hx : Vl x) (hp : vptB a b = true) :
    Calls Try.prog 73 #[boxV x.1 x.2.1 x.2.2, .agg #[.int .i64 a, .int .i64 b]] W fun e w' => e = .returned (.tuple #[.bool (ptB x a b), .int .i64 0]) ∧ Below W.heap.size W w' :=
  placeContains_any _ _ _ _ a b W (boxOk_of hx) hp
theorem con_take (L : List Cl) (a b : Int) (k : Nat) (hk : k < L.length) (h : ((L.take k).any fun x => ptB x a b) = false) : ((L.take (k + 1)).any fun x => ptB x a b) = ptB (gt L k) a b := by
  rw [List.take_succ_eq_append_getElem hk, List.any_append, h]
  simp [gt, hk]
theorem con_of (L : List Cl) (a b : Int) (k : Nat) (hk : k < L.length) (h : ptB (gt L k) a b = true) : conB L a b = true := by
  unfold conB
  rw [List.any_eq_true]
  simp [gt, hk] at h
  exact ⟨L[k], List.getElem_mem hk, h⟩
set_option maxHeartbeats 1000000 in
set_option maxRecDepth 100000 in
theorem Contains_any (A : Option Addr) (n c : Nat) (L : List Cl) (a b : Int) (w : World) (hr : Reads w w.heap.size 3 A n (cvs L)) (hn : n ≤ maxLen) (hv : vrB L = true) (hp : vptB a b = true) :
    Calls Try.prog 35 #[.slice A n c, .agg #[.int .i64 a, .int .i64 b]] w fun e w' => e = .returned (.tuple #[.bool (conB L a b), .int .i64 0]) ∧ Below w.heap.size w w' := by
  obtain ⟨R, hR⟩ : ∃ R, R = conB L a b := ⟨_, rfl⟩
  rw [← hR]
  have HR := Lib.hid hR
  have HL := Lib.hid hr.len
  have RD : Hid (∀ W, Below w.heap.size w W → Reads W W.heap.size 3 A n (cvs L)) := Lib.hid (fun W hW => (hr.below hW).more hW.size)
  have K1 := Lib.hid (fun W hW => vr_yes A n c L true hv W (RD.out W hW) hn)
  have K2 := Lib.hid (vpt_yes a b hp)
  have AV := Lib.hid (vr_parts hv).2.2
  have HP := Lib.hid hp
  have hlen := (vr_parts hv).1
  rw [hr.len] at hlen
  clear hR hr hv hp hn
  go_enter Try.func35, Try.ntmps35
  go_wp2_with fail
  have b0 := bl_alloc w (.cells #[.int .i64 a, .int .i64 b] 34)
  (with_reducible refine (K1.out _ b0).mono ?_)
  rintro e w1 ⟨rfl, hb1⟩
  have hb1' := b0.trans (hb1.mono (by simp))
  have hz1 := one_lt hb1
  have y0 := (hb1.cell (p := ⟨w.heap.size, 0, none⟩) (by simp)).trans (show _ = some (.int .i64 a) by simp)
  have y1 := (hb1.cell (p := ⟨w.heap.size, 1, none⟩) (by simp)).trans (show _ = some (.int .i64 b) by simp)
  clear hb1 b0
  go_wp2_with fail
  (with_reducible refine (K2.out _).mono ?_)
  rintro e w2 ⟨rfl, hb2⟩
  have hb2' := hb1'.trans (hb2.mono hb1'.size)
  have y0 := (hb2.cell (p := ⟨w.heap.size, 0, none⟩) hz1).trans y0
  have y1 := (hb2.cell (p := ⟨w.heap.size, 1, none⟩) hz1).trans y1
  have hz2 : w.heap.size < w2.heap.size := Nat.lt_of_lt_of_le hz1 hb2.size
  clear hb2 hb1' K1 K2 hz1
  go_wp2_with fail
  go_loopw [20] (fun i wr => ∃ k : Nat, k ≤ n ∧ i = .int .i64 k ∧ ((L.take k).any fun x => ptB x a b) = false ∧ Below w2.heap.size w2 wr) (fun i _ => n - (intOf i).toNat)
  case atStart => exact ⟨0, Nat.zero_le _, rfl, rfl, Below.refl _ _⟩
  case round =>
    obtain ⟨k, hk, rfl, hno, hbr⟩ := hrel
    have hzr := hbr.size
    by_cases hlt : k < n
    · have hbw := hb2'.trans (hbr.mono hb2'.size)
      obtain ⟨bk, off, rfl, hbk, x1, x2, x3⟩ := (RD.out wr hbw).elem hlt
      have hkl : k < L.length := by rw [HL.out]; exact hlt
      have hx := AV.out (gt L k) (by simp [gt, hkl])
      have KB := Lib.hid (fun W => box_any (gt L k).1 (gt L k).2.1 (gt L k).2.2 W ((vl_iff _).2 hx))
      have KC := Lib.hid (fun W => cellContains (gt L k) a b W hx HP.out)
      have h1 := Lib.hid (con_take L a b k hkl hno)
      have h2 := Lib.hid (con_of L a b k hkl)
      generalize gt L k = x at x1 x2 x3 KB KC h1 h2
      obtain ⟨xl, xr, xc⟩ := x
      simp only [] at x1 x2 x3 KB KC
      generalize ptB (xl, xr, xc) a b = z at KC h1 h2
      clear hx hno
      go_upto_region 6 with fail
      generalize hW5 : wr.alloc (.cells #[.int .i64 xl, .int .i64 xr, .int .i64 xc] 32) = w5
      have hz5 : wr.heap.size < w5.heap.size := by rw [← hW5]; simp
      have hb5 : Below w2.heap.size w2 w5 := by rw [← hW5]; exact hbr.alloc hzr _
      have c0 : ∀ s : BV w5, s.w.cell? ⟨wr.heap.size, 0, none⟩ = some (.int .i64 xl) := fun s => (s.hb.cell (p := ⟨wr.heap.size, 0, none⟩) hz5).trans (by rw [← hW5]; simp)
      have c1 : ∀ s : BV w5, s.w.cell? ⟨wr.heap.size, 1, none⟩ = some (.int .i64 xr) := fun s => (s.hb.cell (p := ⟨wr.heap.size, 1, none⟩) hz5).trans (by rw [← hW5]; simp)
      have c2 : ∀ s : BV w5, s.w.cell? ⟨wr.heap.size, 2, none⟩ = some (.int .i64 xc) := fun s => (s.hb.cell (p := ⟨wr.heap.size, 2, none⟩) hz5).trans (by rw [← hW5]; simp)
      have c3 : ∀ s : BV w5, s.w.cell? ⟨w.heap.size, 0, none⟩ = some (.int .i64 a) := fun s => (s.hb.cell (p := ⟨w.heap.size, 0, none⟩) (by simp only []; omega)).trans ((hb5.cell (p := ⟨w.heap.size, 0, none⟩) hz2).trans y0)
      have c4 : ∀ s : BV w5, s.w.cell? ⟨w.heap.size, 1, none⟩ = some (.int .i64 b) := fun s => (s.hb.cell (p := ⟨w.heap.size, 1, none⟩) (by simp only []; omega)).trans ((hb5.cell (p := ⟨w.heap.size, 1, none⟩) hz2).trans y1)
      clear hW5 x1 x2 x3
      refine wp_region_bv w5 (by kernel_rfl) (by kernel_rfl) (Below.refl _ _) ?_
      (repeat (go_big_quiet_step (first | (go_at_call 63; with_reducible exact quiet_bv (KB.out _)) | (go_at_call 73; with_reducible exact quiet_bv (KC.out _)) | fail)))
      refine wpQuiet_nil ?_
      intro w9 hb9
      have hb9' : Below w2.heap.size w2 w9 := hb5.trans (hb9.mono hb5.size)
      clear c0 c1 c2 c3 c4 KB KC
      cases z with
      | true =>
        have hE : Hid (R = true) := Lib.hid (by rw [HR.out]; exact h2.out rfl)
        go_wp2
        go_ret2
        exact ⟨by rw [hE.out]; rfl, hb2'.trans (hb9'.mono hb2'.size)⟩
      | false =>
        go_wp2
        go_roundw
        case rel => exact ⟨k + 1, by omega, by go_num, h1.out, hb9'⟩
        case measure => simp [intOf]; omega
    · have hkn : k = n := by omega
      have hE : Hid (R = false) := Lib.hid (by rw [HR.out]; unfold conB; rw [List.take_of_length_le (by rw [HL.out]; omega)] at hno; exact hno)
      clear hno
      go_wp2
      go_ret2
      exact ⟨by rw [hE.out]; rfl, hb2'.trans (hbr.mono hb2'.size)⟩
end Go.Proofs.Ytlglalemhfjmhaa
