/- The walk of the reference's Of of layer 39, at valid circles, a tidy start and a level in range. -/
import Derived.Test.YtifdgdgfmjfbdaaGreatHKz
import Derived.Test.YtifdgdgfmjfbdaaGreatHJc
import Derived.Test.YtifdgdgfmjfbdaaGreatHNg
set_option linter.unusedVariables false
set_option linter.unusedSimpArgs false
namespace Go.Proofs.YtifdgdgfmjfbdaaGreat
open Go.RowKit
def VTo (L : List Cl) (k : Nat) : Prop := ∀ i, i < k → vldB (gt L i).1 (gt L i).2.1 (gt L i).2.2 = true
theorem VTo.zero (L : List Cl) : VTo L 0 := fun i h => by omega
theorem VTo.succ {L : List Cl} {k : Nat} (h : VTo L k) (hk : vldB (gt L k).1 (gt L k).2.1 (gt L k).2.2 = true) : VTo L (k + 1) := fun i hi => by
  by_cases e : i = k
  · subst e; exact hk
  · exact h i (by omega)
theorem VTo.good {L : List Cl} (h : VTo L L.length) : badL L = false := by
  unfold badL
  rw [List.any_eq_false]
  intro x hx
  obtain ⟨i, hi, rfl⟩ := List.mem_iff_getElem.1 hx
  have := h i hi
  simp only [gt, List.getD_eq_getElem?_getD, hi, getElem?_pos, Option.getD_some] at this
  rw [this]
  simp
theorem bad_at {L : List Cl} {k : Nat} (hk : k < L.length) (h : vldB (gt L k).1 (gt L k).2.1 (gt L k).2.2 = false) : rvrB L = false := by
  have : badL L = true := by
    unfold badL
    rw [List.any_eq_true]
    exact ⟨gt L k, gt_mem L k hk, by rw [h]; rfl⟩
  unfold rvrB
  rw [this]
  simp
theorem PairsTo.one (L : List Cl) : PairsTo L 1 := fun i h => by omega
theorem PairsTo.succ {L : List Cl} {j : Nat} (h : PairsTo L (j + 1)) (hk : pairOk (gt L j) (gt L (j + 1)) = true) : PairsTo L (j + 2) := fun i hi => by
  by_cases e : i = j
  · subst e; exact hk
  · exact h i (by omega)
theorem FoursTo.three (L : List Cl) : FoursTo L 3 := fun i h => by omega
theorem FoursTo.succ {L : List Cl} {j : Nat} (h : FoursTo L (j + 3)) (hk : fourOk (gt L j) (gt L (j + 1)) (gt L (j + 2)) (gt L (j + 3)) = true) : FoursTo L (j + 4) := fun i hi => by
  by_cases e : i = j
  · subst e; exact hk
  · exact h i (by omega)
theorem pairs_no {L : List Cl} {j : Nat} (hj : j + 1 < L.length) (h : pairOk (gt L j) (gt L (j + 1)) = false) : rvrB L = false := by
  have : ¬ PairsTo L L.length := fun hp => by
    have := hp j hj
    rw [h] at this
    exact Bool.noConfusion this
  unfold rvrB
  simp [this]
theorem fours_no {L : List Cl} {j : Nat} (hj : j + 3 < L.length) (h : fourOk (gt L j) (gt L (j + 1)) (gt L (j + 2)) (gt L (j + 3)) = false) : rvrB L = false := by
  have : ¬ FoursTo L L.length := fun hp => by
    have := hp j hj
    rw [h] at this
    exact Bool.noConfusion this
  unfold rvrB
  simp [this]
theorem rvr_long {L : List Cl} (h : 4000 < L.length) : rvrB L = false := by
  unfold rvrB
  have : ¬ L.length ≤ 4000 := by omega
  simp [this]
theorem rvr_yes {L : List Cl} (h : L.length ≤ 4000) (h1 : VTo L L.length) (h2 : PairsTo L L.length) (h3 : FoursTo L L.length) : rvrB L = true := by
  unfold rvrB
  simp [h, h1.good, h2, h3]
theorem PairsTo.less {L : List Cl} {k j : Nat} (h : PairsTo L k) (hj : j ≤ k) : PairsTo L j := fun i hi => h i (by omega)
theorem FoursTo.less {L : List Cl} {k j : Nat} (h : FoursTo L k) (hj : j ≤ k) : FoursTo L j := fun i hi => h i (by omega)
/-- a world that left what was there alone -/
structure BW (w0 : World) where
  w : World
  hb : Below w0.heap.size w0 w
instance bwSome (w0 : World) : Nonempty (BW w0) := ⟨⟨w0, Below.refl _ _⟩⟩
/-- a region whose calls leave alone what was there is walked once -/
theorem wp_region_bw {P : Program} {id : Nat} {Q : Exit → Act → World → Prop} {a : Act} {w : World} {l : List Oper} (w0 : World) (hm : P.follows .mixedOrders = true) (hB : Region.lexB .any l.toArray = true) (h0 : Below w0.heap.size w0 w)
    (h : wpQuiet P l.toArray (fun w' => ∃ s : BW w0, w' = s.w) (fun a' => ∀ w9, Below w0.heap.size w0 w9 → Q .normal a' w9) l a) : (Code.region id l.toArray true).wp P Q a w := by
  have e : (fun a' => ∀ w9, Below w0.heap.size w0 w9 → Q .normal a' w9) = (fun a' : Act => ∀ w', (∃ s : BW w0, w' = s.w) → Q .normal a' w') :=
    funext fun a' => propext ⟨fun h w' ⟨s, hs⟩ => hs ▸ h s.w s.hb, fun h w9 hb => h w9 ⟨⟨w9, hb⟩, rfl⟩⟩
  rw [e] at h
  exact wp_region_quiet (C := fun w' => ∃ s : BW w0, w' = s.w) hm hB ⟨⟨_, bl_drew h0⟩, rfl⟩ (by simpa using h)
theorem quiet_bw {P : Program} {f : FuncId} {args : Array Value} {w0 : World} {s : BW w0} {v : Value} (h : Calls P f args s.w fun e w' => e = .returned v ∧ Below s.w.heap.size s.w w') :
    Calls P f args s.w fun e w'' => e = .returned v ∧ ∃ s' : BW w0, w'' = s'.w :=
  h.mono fun _ w' ⟨he, hb⟩ => ⟨he, ⟨w', s.hb.trans (hb.mono s.hb.size)⟩, rfl⟩
theorem pw_le {l : Int} (h : l ≤ 16) : pw l ≤ 65536 := by
  unfold pw
  have h1 : l.toNat ≤ 16 := by omega
  have h2 := Nat.pow_le_pow_right (show 0 < 2 by omega) h1
  have h3 : ((2 ^ l.toNat : Nat) : Int) ≤ ((2 ^ 16 : Nat) : Int) := Int.ofNat_le.2 h2
  simpa using h3
theorem reads_four {w : World} {B b off n j : Nat} {L : List Cl} (h : Reads w B 3 (some ⟨b, off, none⟩) n (cvs L)) (hj : j + 3 < n) :
    Reads w B 3 (some ⟨b, off + j * 3, none⟩) 4 (cvs [gt L j, gt L (j + 1), gt L (j + 2), gt L (j + 3)]) := by
  obtain ⟨_, _, e, hb, a0, a1, a2⟩ := h.elem (k := j) (by omega)
  cases e
  obtain ⟨_, _, e, _, b0, b1, b2⟩ := h.elem (k := j + 1) (by omega)
  cases e
  obtain ⟨_, _, e, _, c0, c1, c2⟩ := h.elem (k := j + 2) (by omega)
  cases e
  obtain ⟨_, _, e, _, d0, d1, d2⟩ := h.elem (k := j + 3) (by omega)
  cases e
  have e1 : off + (j + 1) * 3 = off + j * 3 + 3 := by omega
  have e2 : off + (j + 2) * 3 = off + j * 3 + 6 := by omega
  have e3 : off + (j + 3) * 3 = off + j * 3 + 9 := by omega
  rw [e1] at b0 b1 b2
  rw [e2] at c0 c1 c2
  rw [e3] at d0 d1 d2
  generalize gt L j = x at *
  generalize gt L (j + 1) = y at *
  generalize gt L (j + 2) = z at *
  generalize gt L (j + 3) = u at *
  refine ⟨rfl, fun _ => ⟨_, rfl, hb, fun i v hv => ?_⟩⟩
  rw [Go.WideShapes.add_plain]
  match i, hv with
  | 0, hv => cases hv; exact a0
  | 1, hv => cases hv; exact a1
  | 2, hv => cases hv; exact a2
  | 3, hv => cases hv; exact b0
  | 4, hv => cases hv; exact b1
  | 5, hv => cases hv; exact b2
  | 6, hv => cases hv; exact c0
  | 7, hv => cases hv; exact c1
  | 8, hv => cases hv; exact c2
  | 9, hv => cases hv; exact d0
  | 10, hv => cases hv; exact d1
  | 11, hv => cases hv; exact d2
  | i + 12, hv => cases hv
set_option maxHeartbeats 2000000 in
set_option maxRecDepth 100000 in
theorem refVR_any (A : Option Addr) (n ca : Nat) (L : List Cl) (w : World) (hr : Reads w w.heap.size 3 A n (cvs L)) (hn : n ≤ ca) (hca : ca ≤ maxLen) :
    Calls Tryz.prog 36 #[.slice A n ca] w fun e w' => e = .returned (.bool (rvrB L)) ∧ Below w.heap.size w w' := by
  have hl := hr.len
  unfold maxLen at hca
  obtain ⟨R, hR⟩ : ∃ R, R = rvrB L := ⟨_, rfl⟩
  rw [← hR]
  have HR := Lib.hid hR
  have HL := Lib.hid hl
  have RD := Lib.hid hr
  clear hR hl hr
  by_cases hbig : 4000 < n
  · have e1 := Lib.hid (rvr_long (L := L) (by rw [HL.out]; exact hbig))
    go_enter Tryz.func36, Tryz.ntmps36
    go_wp2
    go_ret
    exact ⟨ret_bool (by rw [HR.out, e1.out]), Below.refl _ _⟩
  · go_enter Tryz.func36, Tryz.ntmps36
    go_wp2
    go_loopw [3] (fun i wr => ∃ k : Nat, k ≤ n ∧ i = .int .i64 k ∧ VTo L k ∧ Below w.heap.size w wr) (fun i _ => n - (intOf i).toNat)
    case atStart => exact ⟨0, Nat.zero_le _, rfl, VTo.zero L, Below.refl _ _⟩
    case round =>
      obtain ⟨k, hk, rfl, hV, hbr⟩ := hrel
      have zr := hbr.size
      by_cases hlt : k < n
      · have hR2 := RD.out.below hbr
        obtain ⟨b, off, rfl, hb, x1, x2, x3⟩ := hR2.elem hlt
        have hkl : k < L.length := by rw [HL.out]; exact hlt
        have y1 := Lib.hid (fun h => VTo.succ hV h)
        have y2 := Lib.hid (bad_at hkl)
        clear hR2
        generalize gt L k = y at x1 x2 x3 y1 y2
        obtain ⟨ya, yb, yc⟩ := y
        simp only [] at x1 x2 x3 y1 y2
        have V := Lib.hid (fun W => refValid_any ya yb yc W)
        cases hv : vldB ya yb yc with
        | true =>
          have h3 := Lib.hid (y1.out hv)
          rw [hv] at V
          clear y1 y2 hv
          go_wp2_with (go_at_call 77; (with_reducible refine (V.out _).mono ?_); rintro e w1 ⟨rfl, hb1⟩)
          go_roundw
          case rel => exact ⟨k + 1, by omega, by go_num, h3.out, hbr.trans (hb1.mono zr)⟩
          case measure => simp [intOf]; omega
        | false =>
          have h3 := Lib.hid (y2.out hv)
          rw [hv] at V
          clear y1 y2 hv
          go_wp2_with (go_at_call 77; (with_reducible refine (V.out _).mono ?_); rintro e w1 ⟨rfl, hb1⟩)
          go_ret
          exact ⟨ret_bool (by rw [HR.out, h3.out]), hbr.trans (hb1.mono zr)⟩
      · have hkn : k = n := by omega
        have hV' : VTo L L.length := by rw [HL.out]; exact hkn ▸ hV
        have HV := Lib.hid hV'
        have HBr := Lib.hid hbr
        clear hV hV' hbr hkn hk
        go_wp2
        go_loopw [4] (fun i wr2 => ∃ k j : Nat, k = j + 1 ∧ i = .int .i64 k ∧ PairsTo L k ∧ Below w.heap.size w wr2) (fun i _ => n + 1 - (intOf i).toNat)
        case atStart => exact ⟨1, 0, rfl, rfl, PairsTo.one L, HBr.out⟩
        case round =>
          clear HBr hlt zr
          obtain ⟨k, j, hkj, rfl, hP, hbr⟩ := hrel
          have zr := hbr.size
          by_cases hlt : k < n
          · have hj : j < n := by omega
            obtain ⟨b, off, rfl, hb, x1, x2, x3⟩ := RD.out.elem hj
            obtain ⟨b', off', e', _, y1, y2, y3⟩ := RD.out.elem hlt
            cases e'
            have hvx := HV.out j (by rw [HL.out]; omega)
            have hvy := HV.out k (by rw [HL.out]; omega)
            have p1 : Hid (pairOk (gt L j) (gt L k) = true → PairsTo L (k + 1)) := Lib.hid (by subst hkj; exact fun h => PairsTo.succ hP h)
            have p2 : Hid (pairOk (gt L j) (gt L k) = false → rvrB L = false) := Lib.hid (by subst hkj; exact pairs_no (by rw [HL.out]; omega))
            clear hP
            generalize gt L j = x at x1 x2 x3 hvx p1 p2
            generalize gt L k = y at y1 y2 y3 hvy p1 p2
            obtain ⟨xa, xb, xc⟩ := x
            obtain ⟨ya, yb, yc⟩ := y
            simp only [] at x1 x2 x3 y1 y2 y3 hvx hvy
            obtain ⟨vx0, vx1, -⟩ := vldB_true.1 hvx
            obtain ⟨vy0, vy1, -⟩ := vldB_true.1 hvy
            have W1 := Lib.hid (fun W => Within_any ya yb yc xa xb xc W vy0 vy1 vx0 vx1)
            have W2 := Lib.hid (fun W => Within_any xa xb xc ya yb yc W vx0 vx1 vy0 vy1)
            have W3 := Lib.hid (fun W => before_any xa xb xc ya yb yc W vx0 vx1 vy0 vy1)
            clear hvx hvy vx0 vx1 vy0 vy1
            have SJ : Hid (IntKind.i64.wrap ((k : Int) - 1) = (j : Int)) := Lib.hid ((IntWalk.i64_in _ (by omega)).trans (by omega))
            clear hkj
            have cx1 : ∀ s : BW w, s.w.cell? ⟨b, off + j * 3, none⟩ = some (.int .i64 xa) := fun s => (s.hb.cell (p := ⟨b, off + j * 3, none⟩) hb).trans x1
            have cx2 : ∀ s : BW w, s.w.cell? ⟨b, off + j * 3 + 1, none⟩ = some (.int .i64 xb) := fun s => (s.hb.cell (p := ⟨b, off + j * 3 + 1, none⟩) hb).trans x2
            have cx3 : ∀ s : BW w, s.w.cell? ⟨b, off + j * 3 + 2, none⟩ = some (.int .i64 xc) := fun s => (s.hb.cell (p := ⟨b, off + j * 3 + 2, none⟩) hb).trans x3
            have cy1 : ∀ s : BW w, s.w.cell? ⟨b, off + k * 3, none⟩ = some (.int .i64 ya) := fun s => (s.hb.cell (p := ⟨b, off + k * 3, none⟩) hb).trans y1
            have cy2 : ∀ s : BW w, s.w.cell? ⟨b, off + k * 3 + 1, none⟩ = some (.int .i64 yb) := fun s => (s.hb.cell (p := ⟨b, off + k * 3 + 1, none⟩) hb).trans y2
            have cy3 : ∀ s : BW w, s.w.cell? ⟨b, off + k * 3 + 2, none⟩ = some (.int .i64 yc) := fun s => (s.hb.cell (p := ⟨b, off + k * 3 + 2, none⟩) hb).trans y3
            clear x1 x2 x3 y1 y2 y3
            go_upto_region 11 with (fail)
            have sj := SJ.out
            cases c1 : wiB (ya, yb, yc) (xa, xb, xc) with
            | true =>
              have h3 := Lib.hid (p2.out (by simp [pairOk, c1]))
              rw [c1] at W1
              clear p1 p2 c1
              refine wp_region_bw w (by kernel_rfl) (by kernel_rfl) hbr ?_
              (repeat (go_big_quiet_step (first | (go_at_call 78; with_reducible exact quiet_bw (W1.out _)) | (go_at_call 78; with_reducible exact quiet_bw (W2.out _)) | (go_at_call 79; with_reducible exact quiet_bw (W3.out _)) | fail)))
              refine wpQuiet_nil ?_
              intro w9 hb9
              clear sj cx1 cx2 cx3 cy1 cy2 cy3 SJ W1 W2 W3 hbr zr
              go_wp2
              go_ret
              exact ⟨ret_bool (by rw [HR.out, h3.out]), hb9⟩
            | false =>
              rw [c1] at W1
              cases c2 : wiB (xa, xb, xc) (ya, yb, yc) with
              | true =>
                have h3 := Lib.hid (p2.out (by simp [pairOk, c2]))
                rw [c2] at W2
                clear p1 p2 c1 c2
                refine wp_region_bw w (by kernel_rfl) (by kernel_rfl) hbr ?_
                (repeat (go_big_quiet_step (first | (go_at_call 78; with_reducible exact quiet_bw (W1.out _)) | (go_at_call 78; with_reducible exact quiet_bw (W2.out _)) | (go_at_call 79; with_reducible exact quiet_bw (W3.out _)) | fail)))
                refine wpQuiet_nil ?_
                intro w9 hb9
                clear sj cx1 cx2 cx3 cy1 cy2 cy3 SJ W1 W2 W3 hbr zr
                go_wp2
                go_ret
                exact ⟨ret_bool (by rw [HR.out, h3.out]), hb9⟩
              | false =>
                rw [c2] at W2
                cases c3 : befB (xa, xb, xc) (ya, yb, yc) with
                | false =>
                  have h3 := Lib.hid (p2.out (by simp [pairOk, c3]))
                  rw [c3] at W3
                  clear p1 p2 c1 c2 c3
                  refine wp_region_bw w (by kernel_rfl) (by kernel_rfl) hbr ?_
                  (repeat (go_big_quiet_step (first | (go_at_call 78; with_reducible exact quiet_bw (W1.out _)) | (go_at_call 78; with_reducible exact quiet_bw (W2.out _)) | (go_at_call 79; with_reducible exact quiet_bw (W3.out _)) | fail)))
                  refine wpQuiet_nil ?_
                  intro w9 hb9
                  clear sj cx1 cx2 cx3 cy1 cy2 cy3 SJ W1 W2 W3 hbr zr
                  go_wp2
                  go_ret
                  exact ⟨ret_bool (by rw [HR.out, h3.out]), hb9⟩
                | true =>
                  have h3 := Lib.hid (p1.out (by simp [pairOk, c1, c2, c3]))
                  rw [c3] at W3
                  clear p1 p2 c1 c2 c3
                  refine wp_region_bw w (by kernel_rfl) (by kernel_rfl) hbr ?_
                  (repeat (go_big_quiet_step (first | (go_at_call 78; with_reducible exact quiet_bw (W1.out _)) | (go_at_call 78; with_reducible exact quiet_bw (W2.out _)) | (go_at_call 79; with_reducible exact quiet_bw (W3.out _)) | fail)))
                  refine wpQuiet_nil ?_
                  intro w9 hb9
                  clear sj cx1 cx2 cx3 cy1 cy2 cy3 SJ W1 W2 W3 hbr zr
                  go_wp2
                  go_roundw
                  case rel => exact ⟨k + 1, k, rfl, by go_num, h3.out, hb9⟩
                  case measure => simp [intOf]; omega
          · have hP' : PairsTo L L.length := by rw [HL.out]; exact hP.less (by omega)
            have HP := Lib.hid hP'
            have HBr := Lib.hid hbr
            clear hP hP' hbr hkj
            go_wp2
            go_loopw [5] (fun i wr2 => ∃ k j : Nat, k = j + 3 ∧ i = .int .i64 k ∧ FoursTo L k ∧ Below w.heap.size w wr2) (fun i _ => n + 3 - (intOf i).toNat)
            case atStart => exact ⟨3, 0, rfl, rfl, FoursTo.three L, HBr.out⟩
            case round =>
              clear HBr hlt zr
              obtain ⟨k, j, hkj, rfl, hF, hbr⟩ := hrel
              have zr := hbr.size
              by_cases hlt : k < n
              · have hR2 := RD.out.below hbr
                have hj : j + 3 < n := by omega
                obtain ⟨b, off, rfl, hb, u1, u2, u3⟩ := hR2.elem hlt
                have R4 := Lib.hid (fun (W : World) (hW : Below w.heap.size w W) => ((reads_four (RD.out.below hW) hj).more hW.size))
                have hvx := HV.out j (by rw [HL.out]; omega)
                have f1 : Hid (fourOk (gt L j) (gt L (j + 1)) (gt L (j + 2)) (gt L k) = true → FoursTo L (k + 1)) := Lib.hid (by subst hkj; exact fun h => FoursTo.succ hF h)
                have f2 : Hid (fourOk (gt L j) (gt L (j + 1)) (gt L (j + 2)) (gt L k) = false → rvrB L = false) := Lib.hid (by subst hkj; exact fours_no (by rw [HL.out]; omega))
                rw [← hkj] at R4
                clear hR2 hF
                generalize gt L k = u at u1 u2 u3 R4 f1 f2
                generalize gt L j = x at hvx R4 f1 f2
                generalize gt L (j + 1) = y at R4 f1 f2
                generalize gt L (j + 2) = z at R4 f1 f2
                obtain ⟨ua, ub, uc⟩ := u
                obtain ⟨xa, xb, xc⟩ := x
                simp only [] at u1 u2 u3 hvx
                have blt := Nat.lt_of_lt_of_le hb zr
                have B4 := Lib.hid (fun (W : World) (hW : Below w.heap.size w W) (c : Nat) => by
                  obtain ⟨g0, g1, g2, g3, g4, g5⟩ := vldB_true.1 hvx
                  have gp := pw_le g1
                  exact brothers_any (some ⟨b, off + j * 3, none⟩) c xa xb xc y z (ua, ub, uc) W (R4.out W hW) g0 g1 g2 (by omega) g4 (by omega))
                clear R4 hvx
                have hlo : (k : Int) - 3 = (j : Int) := by omega
                have hl4 : k + 1 - j = 4 := by omega
                have hjk : (j : Int) ≤ (k : Int) + 1 := by omega
                have hkc : (k : Int) + 1 ≤ (ca : Int) := by omega
                have HKJ := Lib.hid hkj
                clear hkj
                by_cases hpos : 0 < ua
                · cases hb4 : broB (xa, xb, xc) y z (ua, ub, uc) with
                  | true =>
                    have h3 := Lib.hid (f2.out (by simp [fourOk, hpos, hb4]))
                    rw [hb4] at B4
                    clear f1 f2
                    go_wp2_with fail
                    (with_reducible refine (B4.out _ hbr _).mono ?_)
                    rintro e w9 ⟨rfl, hb9⟩
                    go_wp2
                    go_ret
                    exact ⟨ret_bool (by rw [HR.out, h3.out]), hbr.trans (hb9.mono zr)⟩
                  | false =>
                    have h3 := Lib.hid (f1.out (by simp [fourOk, hb4]))
                    rw [hb4] at B4
                    clear f1 f2
                    go_wp2_with fail
                    (with_reducible refine (B4.out _ hbr _).mono ?_)
                    rintro e w9 ⟨rfl, hb9⟩
                    clear hlo hl4 hjk hkc
                    go_wp2
                    go_roundw
                    case rel => exact ⟨k + 1, j + 1, by have := HKJ.out; omega, by go_num, h3.out, hbr.trans (hb9.mono zr)⟩
                    case measure => simp [intOf]; omega
                · have h3 := Lib.hid (f1.out (by simp [fourOk, hpos]))
                  clear f1 f2 hlo hl4 hjk hkc
                  go_wp2
                  go_roundw
                  case rel => exact ⟨k + 1, j + 1, by have := HKJ.out; omega, by go_num, h3.out, hbr⟩
                  case measure => simp [intOf]; omega
              · have h3 : R = true := by
                  rw [HR.out]
                  exact rvr_yes (by rw [HL.out]; omega) HV.out HP.out (by rw [HL.out]; exact hF.less (by omega))
                have H3 := Lib.hid h3
                clear h3 hF hkj
                go_wp2
                go_ret
                exact ⟨ret_bool (by rw [H3.out]), hbr⟩
end Go.Proofs.YtifdgdgfmjfbdaaGreat
namespace Go.Proofs.YtifdgdgfmjfbdaaGreat
open Go.RowKit
def ptP39 (K : List Ci) (lev : Int) (c : Cl) : List Cl := prt (agP K) (suP K) lev (fuC c) c
def ptQ39 (K : List Ci) (lev : Int) (c : Cl) : Nat := prn (agP K) (suP K) lev (fuC c) c
theorem all_vci {L : List Ci} (h : ∀ k ∈ L, VCi k) : L.all vciB = true := List.all_eq_true.2 fun k hk => (vciB_iff k).2 (h k hk)
/-- what the reference's Of returns: error 0 only if few cells were looked at -/
def ROfR (K : List Ci) (lev : Int) (L : List Cl) (most : Int) (w : World) (e : Ending) (w' : World) : Prop :=
  ∃ (v : Value) (E : Int), e = .returned (.tuple #[v, .int .i64 E]) ∧ Below w.heap.size w w' ∧ (E = 0 → (prN (agP K) (suP K) lev L : Int) ≤ most)
set_option maxHeartbeats 8000000 in
set_option maxRecDepth 100000 in
theorem rOf_any (K : List Ci) (A : Option Addr) (n c : Nat) (L : List Cl) (Al : Option Addr) (nl cl : Nat) (lev most : Int) (w : World) (hK : ∀ k ∈ K, VCi k) (hn : n ≤ 40) (hrd : Reads w w.heap.size 6 A n (civs K)) (hrl : Reads w w.heap.size 3 Al nl (cvs L)) (hnc : nl ≤ cl) (hcm : cl ≤ maxLen) (hv : vrB L = true) (h0 : 0 ≤ lev) (h16 : lev ≤ 16) (m0 : 0 ≤ most) (m1 : most ≤ 900) :
    Calls Tryz.prog 39 #[.slice A n c, .slice Al nl cl, .int .i64 lev, .int .i64 most] w (ROfR K lev L most w) := by
  have hLn := hrl.len
  have hvl := (vrB_iff L).1 hv
  have hLV : AllV L := hvl.2.1
  have KV := rValid39_any A n c K w hrd (by simp only [maxLen]; omega)
  rw [all_vci hK] at KV
  have KV := Lib.hid KV
  have KR := Lib.hid (fun (W : World) (h : Below w.heap.size w W) => refVR_any Al nl cl L W ((hrl.below h).more h.size) hnc hcm)
  rw [rvrB_eq, hv] at KR
  have d0 : decide ((40 : Int) < (n : Int)) = false := decide_eq_false (by omega)
  have d1 : decide (lev < 0) = false := decide_eq_false (by omega)
  have d2 : decide (16 < lev) = false := decide_eq_false (by omega)
  have hn4 : nl ≤ 4000 := by have := hvl.1; omega
  obtain ⟨i0, hi0, hz0, hz1, hzb⟩ := info_parts Tryz.infoCell
  have HK := Lib.hid hK
  have RD := Lib.hid hrd
  have RL := Lib.hid hrl
  have HLV := Lib.hid hLV
  have HLN := Lib.hid hLn
  clear hK hrd hrl hLV hvl hv hLn hnc hcm
  go_enter Tryz.func39, Tryz.ntmps39
  go_wp2_with fail
  (with_reducible refine (KV.out).mono ?_)
  rintro e w1 ⟨rfl, hb1⟩
  have B1 := Lib.hid hb1
  have KR2 := Lib.hid (KR.out w1 hb1)
  clear hb1 KV KR
  go_wp2_with fail
  (with_reducible refine (KR2.out).mono ?_)
  rintro e w2 ⟨rfl, hb2⟩
  have B2 := Lib.hid (B1.out.trans (hb2.mono B1.out.size))
  have RD2 := Lib.hid ((RD.out.below B2.out).more B2.out.size)
  have RL2 := Lib.hid ((RL.out.below B2.out).more B2.out.size)
  clear hb2 KR2 B1 RD RL
  go_wp2
  go_loopg [10, 11, 12, 13, 14] nl (fun gz s10 s11 s12 s13 s14 wr => ∃ (k : Nat) (M : List Cl) (u : Value) (m : Int), k ≤ nl ∧ k + gz = nl ∧ s12 = .int .i64 k ∧ s10 = .int .i64 m ∧ s11 = u ∧ wr.ownsRow w2.heap.size 102 3 u M.length (cvs M) ∧ Below w2.heap.size w2 wr ∧ (0 ≤ m → M = otT (ptP39 K lev) L k ∧ m = most - (lkT (ptQ39 K lev) L k : Int)) ∧ -1 ≤ m ∧ m ≤ most ∧ (M.length : Int) ≤ most - m)
  case atStart => exact ⟨0, [], _, most, by omega, by omega, rfl, rfl, rfl, own_nil _ _ _ _, Below.refl _ _, fun _ => ⟨rfl, by simp [lkT]⟩, by omega, by omega, by simp⟩
  case round =>
    obtain ⟨k, M, u, m, hk4, hkg, rfl, rfl, rfl, hown, hbr, hall, hm1, hm2, hm3⟩ := hrel
    have hMlen : M.length ≤ 2000 := by omega
    have HOW := Lib.hid hown
    have HAL := Lib.hid hall
    have HBR := Lib.hid hbr
    clear hown hall hbr
    by_cases hstop : k < nl ∧ 0 ≤ m
    · obtain ⟨hk, hm0⟩ := hstop
      have e0 : decide ((k : Int) < (nl : Int)) = true := decide_eq_true (by omega)
      have e1 : decide (0 ≤ m) = true := decide_eq_true hm0
      obtain ⟨b, off, rfl, hb, x0, x1, x2⟩ := RL2.out.elem hk
      have hmem : gt L k ∈ L := by simp [gt, show k < L.length by have := HLN.out; omega]
      have hxv := HLV.out _ hmem
      have hxl := fuC_eq hxv
      obtain ⟨x, hx'⟩ : ∃ x, gt L k = x := ⟨_, rfl⟩
      have hgk : Hid (gt L k = x) := Lib.hid hx'
      rw [hx'] at x0 x1 x2 hxv hxl
      clear hx' hmem
      have y0 := (HBR.out.cell (p := ⟨b, off + k * 3, none⟩) hb).trans x0
      have y1 := (HBR.out.cell (p := ⟨b, off + k * 3 + 1, none⟩) hb).trans x1
      have y2 := (HBR.out.cell (p := ⟨b, off + k * 3 + 2, none⟩) hb).trans x2
      have IH3 := rpt_ok (fuC x) K A n c x.1 x.2.1 x.2.2 lev m wr HK.out (by omega) ((RD2.out.below HBR.out).more HBR.out.size) hxv hxl h16 hm0 (by omega)
      have hpp : prt (agP K) (suP K) lev (fuC x) (x.1, x.2.1, x.2.2) = ptP39 K lev x := rfl
      have hpq : prn (agP K) (suP K) lev (fuC x) (x.1, x.2.1, x.2.2) = ptQ39 K lev x := rfl
      unfold RptR at IH3
      rw [hpp, hpq] at IH3
      have HGK := Lib.hid (show ptP39 K lev (gt L k) = ptP39 K lev x ∧ ptQ39 K lev (gt L k) = ptQ39 K lev x by rw [hgk.out]; exact ⟨rfl, rfl⟩)
      clear hpp hpq hgk
      generalize ptP39 K lev x = px at IH3 HGK
      generalize ptQ39 K lev x = qx at IH3 HGK
      obtain ⟨x_0, x_1, x_2⟩ := x
      simp only [] at y0 y1 y2 IH3
      have IH3 := Lib.hid IH3
      clear x0 x1 x2 hxv hxl
      go_wp2_with fail
      (with_reducible refine (IH3.out).mono ?_)
      rintro e w9 ⟨v9, L9, n9, rfl, ho9, hT, ha9, hn9a, hn9b, hl9⟩
      have B9 := Lib.hid (HBR.out.trans (hT.mono HBR.out.size))
      have hHA : 0 ≤ n9 → M ++ L9 = otT (ptP39 K lev) L (k + 1) ∧ n9 = most - (lkT (ptQ39 K lev) L (k + 1) : Int) := fun h => by
        obtain ⟨e1, e2⟩ := ha9 h
        obtain ⟨e3, e4⟩ := HAL.out hm0
        have hl := HLN.out
        rw [otT_succ _ _ _ (by omega), lkT_succ _ _ _ (by omega), HGK.out.1, HGK.out.2, e1, ← e3]
        exact ⟨rfl, by omega⟩
      have HHA := Lib.hid hHA
      have hlen9 : L9.length ≤ 2000 := by omega
      obtain ⟨A9, c9, rfl, hr9, -, -⟩ := own_form ho9
      have R9 := Lib.hid hr9
      have OU := Lib.hid (own_bl HOW.out hT (Nat.le_refl _))
      have hbz : w2.heap.size ≤ w9.heap.size := B9.out.size
      clear hT hHA ha9 ho9 hr9 HOW HAL y0 y1 y2
      go_wp2_with (at_builtin; (refine wpList_append_any _ rfl (.tmp 54) (.tmp 55) _ rfl w2.heap.size 102 i0 _ 3 24 Tryz.underlying48 hi0 hz0 hz1 hzb rfl (by decide) u11 M.length (cvs M) rfl OU.out w9.heap.size A9 L9.length c9 (cvs L9) rfl R9.out (cvs_one _) (by simp only [maxLen]; omega) (by omega) hbz ?_); intro v2 w2' hown2 hg2 hat2; rw [← cvs_append, ← List.length_append] at hown2)
      go_roundg (nl - (k + 1))
      case measure => omega
      case rel => exact ⟨k + 1, M ++ L9, v2, n9, by omega, by omega, by go_num, rfl, rfl, hown2, B9.out.grown hg2 hbz (own_base OU.out), HHA.out, hn9a, by omega, by rw [List.length_append]; omega⟩
    · by_cases hm0 : 0 ≤ m
      · have hk' : k = nl := by
          have : ¬ k < nl := fun h => hstop ⟨h, hm0⟩
          omega
        subst hk'
        obtain ⟨e3, e4⟩ := HAL.out hm0
        have hl := HLN.out
        have e5 : otT (ptP39 K lev) L k = prA (agP K) (suP K) lev L := by rw [← hl, otT_all]; rfl
        have e6 : lkT (ptQ39 K lev) L k = prN (agP K) (suP K) lev L := by rw [← hl, lkT_all]; rfl
        rw [e5] at e3
        rw [e6] at e4
        have hMv : AllV M := by rw [e3]; exact (prA_v h16 HLV.out).1
        have hle : (prN (agP K) (suP K) lev L : Int) ≤ most := by omega
        have HLE := Lib.hid hle
        obtain ⟨A5, c5, rfl, hr5, -, -⟩ := own_form HOW.out
        have hML : madeL 1 M [] = canonC (covL M) := made_or _ hMv
        have hcl := canonC_len _ hMv
        have hc4 : (canonC (covL M)).length ≤ 4000 := by omega
        have KMD := Lib.hid (Made_any 1 A5 none M.length 0 c5 0 M [] wr hr5 Reads.none_ (by omega) (by omega) (lv_of hMv) (fun y hy => by cases hy) (.inl rfl))
        rw [hML] at KMD
        have HC4 := Lib.hid hc4
        have B9 := Lib.hid (B2.out.trans (HBR.out.mono B2.out.size))
        have g0 : decide (m < 0) = false := decide_eq_false (by omega)
        have g1 : decide ((k : Int) < (k : Int)) = false := decide_eq_false (by omega)
        clear e3 e4 e5 e6 hMv hle hr5 hML hcl hc4 HOW HAL hstop hl
        go_wp2_with fail
        (with_reducible refine (KMD.out).mono ?_)
        rintro e w6 ⟨v6, rfl, hown6, hb6⟩
        have B6 := Lib.hid (B9.out.trans (hb6.mono B9.out.size))
        obtain ⟨A6, c6, rfl, -, -⟩ := own_form hown6
        have hd4 : decide (4000 < ((canonC (covL M)).length : Int)) = false := decide_eq_false (by have := HC4.out; omega)
        clear hown6 hb6
        go_wp2
        go_ret2
        exact ⟨_, 0, rfl, B6.out, fun _ => HLE.out⟩
      · have g0 : decide (m < 0) = true := decide_eq_true (by omega)
        have g1 : decide (0 ≤ m) = false := decide_eq_false hm0
        have B9 := Lib.hid (B2.out.trans (HBR.out.mono B2.out.size))
        clear HOW HAL
        by_cases hk : k < nl
        · have g2 : decide ((k : Int) < (nl : Int)) = true := decide_eq_true (by omega)
          clear hstop
          go_wp2
          go_ret2
          exact ⟨_, 6, rfl, B9.out, fun h => by omega⟩
        · have g2 : decide ((k : Int) < (nl : Int)) = false := decide_eq_false (by omega)
          clear hstop
          go_wp2
          go_ret2
          exact ⟨_, 6, rfl, B9.out, fun h => by omega⟩
end Go.Proofs.YtifdgdgfmjfbdaaGreat
