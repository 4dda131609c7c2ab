/- The walk of the reference's Parts. -/
import Derived.Test.YtopfnffabaiceaaGGn
set_option linter.unusedVariables false
set_option linter.unusedSimpArgs false
namespace Go.Proofs.Ytopfnffabaiceaa
open Go.RowKit
theorem PtAt.put {W : World} {g n : Nat} {f : Nat → Nat} (h : PtAt W g n f) (j v : Nat) (hj : j < n) (u : Int) (hu : u = (v : Int)) : PtAt (W.setCell ⟨g, j, none⟩ (.int .i64 u)) g n (PQ.upd f j v) := by
  rw [hu]; exact h.set j v hj
/-- the cells of the first things that have one part's number -/
def pickL (L : List Cl) (pt : Nat → Nat) (v m : Nat) : List Cl := ((List.range m).filter (fun j => pt j = v)).map (gt L)
theorem pickL_yes {L : List Cl} {pt : Nat → Nat} {v m : Nat} (h : pt m = v) : pickL L pt v (m + 1) = pickL L pt v m ++ [gt L m] := by
  unfold pickL; rw [List.range_succ, List.filter_append, List.map_append]; simp [h]
theorem pickL_no {L : List Cl} {pt : Nat → Nat} {v m : Nat} (h : pt m ≠ v) : pickL L pt v (m + 1) = pickL L pt v m := by
  unfold pickL; rw [List.range_succ, List.filter_append, List.map_append]; simp [h]
theorem pickL_len (L : List Cl) (pt : Nat → Nat) (v m : Nat) : (pickL L pt v m).length ≤ m := by
  unfold pickL; rw [List.length_map]; exact Nat.le_trans (List.length_filter_le _ _) (by simp)
set_option maxHeartbeats 8000000 in
set_option maxRecDepth 100000 in
theorem refParts_any (A : Option Addr) (n c : Nat) (L : List Cl) (w : World) (hr : Reads w w.heap.size 3 A n (cvs L)) (hn : n ≤ 4000) (hV : ∀ x ∈ L, Vl x) :
    Calls Try.prog 9 #[.slice A n c] w fun e w' => ∃ v vs, e = .returned v ∧ Rws w' w.heap.size v (partsL L) vs ∧ Below w.heap.size w w' := by
  have HL := Lib.hid hr.len
  have HR := Lib.hid hr
  have HV : Hid (∀ k, k < n → Vl (gt L k)) := Lib.hid fun k hk => hV _ (by
    have hk' : k < L.length := by rw [HL.out]; exact hk
    simp [gt, hk'])
  obtain ⟨C, hC⟩ : ∃ C, PQ.cl (tL L) n = C := ⟨_, rfl⟩
  have HCC : Hid (PQ.IsC C ∧ PQ.Cls (tL L) n C) := Lib.hid (by rw [← hC]; exact PQ.cl_ok (tL_sym L n) n (Nat.le_refl _))
  have HTC : Hid (∀ x y, x < n → y < n → tL L x y = true → C x = C y) := Lib.hid (by rw [← hC]; exact fun x y hx hy ht => PQ.cl_touch (tL_sym L n) hx hy ht)
  have HRP : Hid (partsL L = (PQ.prtR C n n).map fun P => P.map (gt L)) := Lib.hid (by unfold partsL partsI; rw [HL.out, hC]; rfl)
  obtain ⟨R, hRR⟩ : ∃ R, partsL L = R := ⟨_, rfl⟩
  rw [hRR] at HRP ⊢
  clear hr hV hC hRR
  obtain ⟨iI, hiI, hzI, hz1I, hzbI⟩ : ∃ i0, Try.prog.info? 3 = some i0 ∧ i0.zero = some (.int .i64 0) ∧ i0.size = 1 ∧ i0.bytes = 8 := by
    have h : (Try.prog.info? 3).map (fun i => (i.zero, i.size, i.bytes)) = some (some (.int .i64 0), 1, 8) := by kernel_rfl
    obtain ⟨i0, a, b, c, d⟩ := info_parts h
    exact ⟨i0, a, b, c, d⟩
  obtain ⟨iC, hiC, hzC, hz1C, hzbC⟩ := info_parts Try.infoCell
  obtain ⟨iS, hiS, hzS, hz1S, hzbS⟩ : ∃ i0, Try.prog.info? 22 = some i0 ∧ i0.zero = some (.slice none 0 0) ∧ i0.size = 1 ∧ i0.bytes = 24 := by
    have h : (Try.prog.info? 22).map (fun i => (i.zero, i.size, i.bytes)) = some (some (.slice none 0 0), 1, 24) := by kernel_rfl
    obtain ⟨i0, a, b, c, d⟩ := info_parts h
    exact ⟨i0, a, b, c, d⟩
  have hmk : ∀ W, (Instr.makeSlice 62 (.int .i64 (n : Int)) (.int .i64 (n : Int))).run Try.prog W = .ok (.slice (some ⟨W.heap.size, 0, none⟩) n n) (W.alloc (.cells (madeCells #[.int .i64 0] n) 3)) := fun W => by
    have h := run_make (P := Try.prog) W 62 3 iI _ Try.underlying62 hiI hzI .i64 .i64 n n (by omega) (Int.le_refl _) (by rw [hzbI]; omega) (by omega)
    rw [hz1I, Int.toNat_natCast, Nat.mul_one] at h
    exact h
  have R0 := Lib.hid (PtAt.made w n 3)
  have D0 := Lib.hid (bl_alloc w (.cells (madeCells #[.int .i64 0] n) 3))
  go_enter Try.func9, Try.ntmps9
  go_wp2
  clear hmk
  go_loopg [4, 5] n (fun gg s4 s5 wq => ∃ (i : Nat) (pt : Nat → Nat) (vs : List Value), i + gg = n ∧ s5 = .int .i64 i ∧ PtAt wq w.heap.size n pt ∧ PQ.Bef C n i pt ∧ Rws wq (w.heap.size + 1) s4 ((PQ.prtR C n i).map fun P => P.map (gt L)) vs ∧ Below w.heap.size w wq)
  case atStart => exact ⟨0, fun _ => 0, [], by omega, rfl, R0.out, PQ.Bef.zero, Rws.nil _ _, D0.out⟩
  case round =>
    obtain ⟨i, pt, vs, hi, rfl, hP, hB, hO, hb⟩ := hrel
    clear R0 D0
    have HP := Lib.hid hP
    have HB := Lib.hid hB
    have HO := Lib.hid hO
    have HBL := Lib.hid hb
    clear hP hB hO hb
    by_cases hlt : i < n
    · have hpos := PQ.Bef.pos HB.out HCC.out.1 hlt
      have x0 := HP.out.cell i hlt
      have f0 := HP.out.fr i hlt
      by_cases hci : C i = i
      · have hp0 : pt i = 0 := by
          rcases Nat.eq_zero_or_pos (pt i) with e | e
          · exact e
          · exact absurd hci (hpos.1 e)
        rw [hp0] at x0
        clear hpos hp0
        obtain ⟨r, hrr⟩ : ∃ r, PQ.rnk C i = r := ⟨_, rfl⟩
        have HRK := Lib.hid hrr
        have hr4 : r ≤ 4000 := by have := PQ.rnk_le C i; omega
        obtain ⟨LL, hLL⟩ : ∃ LL, (PQ.prtR C n i).map (fun P => P.map (gt L)) = LL := ⟨_, rfl⟩
        have HLN : Hid (LL.length = r) := Lib.hid (by rw [← hLL, List.length_map, PQ.prtR_len, hrr])
        rw [hLL] at HO
        have HLL := Lib.hid hLL
        have HCI := Lib.hid hci
        obtain ⟨A4, c4, hv4, -, -, -⟩ := own_form HO.out.row
        rw [HLN.out] at hv4
        subst hv4
        clear hrr hLL hci
        have hwl := HP.out.lt
        obtain ⟨W1, hW1⟩ : ∃ W1, wr.setCell ⟨w.heap.size, i, none⟩ (.int .i64 ((r : Int) + 1)) = W1 := ⟨_, rfl⟩
        have hg1 : wr.grownBy W1 (some w.heap.size) := by rw [← hW1]; exact grown_set2 (World.grownBy.refl _ _)
        have hz1 : W1.heap.size = wr.heap.size := by rw [← hW1]; simp
        have P1 := Lib.hid ((HP.out.put i (r + 1) hlt ((r : Int) + 1) (by omega)))
        rw [hW1] at P1
        have O1 := Lib.hid (HO.out.kept hg1 (fun q e => by cases e; omega))
        have BL1 := Lib.hid (HBL.out.grown hg1 HBL.out.size (fun q e => by cases e; exact Nat.le_refl _))
        have S1 : Hid (SSt W1 (W1.alloc (.cells #[.int .i64 (i : Int)] 3)) w.heap.size n C (tL L) i (PQ.upd pt i (r + 1)) (some ⟨W1.heap.size, 0, none⟩) 1 1 [i] 0 n) := Lib.hid ⟨P1.out.below (bl_alloc W1 _) P1.out.lt, Que.one (Nat.le_refl _) (by simp) (by simp) (by simp), grown_bl (World.grownBy.refl _ _) (bl_alloc W1 _) (Nat.le_refl _), by have := PQ.Bef.start (t := tL L) HB.out hlt HCI.out; rw [HRK.out] at this; exact this⟩
        clear HP HB HO HBL P1
        go_wp2
        clear x0 f0 hW1 hg1
        go_loopg [6] (1 + PQ.unm (PQ.upd pt i (r + 1)) n) (fun gg s6 wq => ∃ (pt' : Nat → Nat) (A' : Option Addr) (nT cT : Nat) (T : List Nat) (k : Nat), nT + PQ.unm pt' n = gg ∧ gg ≤ 4001 ∧ s6 = .slice A' nT cT ∧ SSt W1 wq w.heap.size n C (tL L) i pt' A' nT cT T k n)
        case atStart => exact ⟨_, _, 1, 1, [i], 0, rfl, by have := PQ.unm_le (PQ.upd pt i (r + 1)) n; omega, by rw [hz1], S1.out⟩
        case round =>
          obtain ⟨pt', A', nT, cT, T, k, hgg, hG, rfl, hS⟩ := hrel
          clear S1
          have HS := Lib.hid hS
          clear hS
          have hlen := HS.out.q.len
          obtain ⟨gv, hgv⟩ : ∃ gv, nT + PQ.unm pt' n = gv := ⟨_, rfl⟩
          cases T with
          | nil =>
            obtain rfl : nT = 0 := hlen.symm
            have HBd := Lib.hid (HS.out.fl.done HCC.out.1 HCC.out.2 HTC.out)
            have HPd := Lib.hid HS.out.row
            have HOd := Lib.hid (O1.out.kept HS.out.g (fun q e => by cases e; omega))
            have HLd := Lib.hid (BL1.out.grown HS.out.g BL1.out.size (fun q e => by cases e; exact Nat.le_refl _))
            have HPC : Hid (pickL L pt' (r + 1) n = ((List.range n).filter (fun j => C j = i)).map (gt L)) := Lib.hid (by
              have := PQ.Bef.part HBd.out HCC.out.1 HCI.out
              rw [HRK.out] at this
              unfold pickL
              rw [this])
            clear HS O1 BL1 hgg hG hgv
            generalize wr = Wd at *
            go_wp2
            go_loopg [9, 10] n (fun gg s9 s10 wq => ∃ (m : Nat), m + gg = n ∧ s10 = .int .i64 m ∧ wq.ownsRow Wd.heap.size 33 3 s9 (pickL L pt' (r + 1) m).length (cvs (pickL L pt' (r + 1) m)) ∧ Below Wd.heap.size Wd wq)
            case atStart => exact ⟨0, by omega, rfl, own_nil _ _ _ _, Below.refl _ _⟩
            case round =>
              obtain ⟨m, hm, rfl, hown, hbd⟩ := hrel
              have HOW := Lib.hid hown
              have HBD := Lib.hid hbd
              clear hown hbd
              by_cases hmn : m < n
              · have x0 := (HPd.out.below HBD.out HPd.out.lt).cell m hmn
                by_cases hpm : pt' m = r + 1
                · rw [hpm, show (((r + 1 : Nat) : Int)) = (r : Int) + 1 by omega] at x0
                  have HPK := Lib.hid (pickL_yes (L := L) hpm)
                  have hpl := pickL_len L pt' (r + 1) m
                  obtain ⟨b, off, hA, hb, z1, z2, z3⟩ := HR.out.elem hmn
                  have hbs := HLd.out.size
                  subst hA
                  have y1 := (HBD.out.cell (p := ⟨b, off + m * 3, none⟩) (by simp only []; omega)).trans ((HLd.out.cell (p := ⟨b, off + m * 3, none⟩) hb).trans z1)
                  have y2 := (HBD.out.cell (p := ⟨b, off + m * 3 + 1, none⟩) (by simp only []; omega)).trans ((HLd.out.cell (p := ⟨b, off + m * 3 + 1, none⟩) hb).trans z2)
                  have y3 := (HBD.out.cell (p := ⟨b, off + m * 3 + 2, none⟩) (by simp only []; omega)).trans ((HLd.out.cell (p := ⟨b, off + m * 3 + 2, none⟩) hb).trans z3)
                  clear z1 z2 z3
                  obtain ⟨X, hX⟩ : ∃ X, gt L m = X := ⟨_, rfl⟩
                  rw [hX] at y1 y2 y3 HPK
                  clear hX
                  obtain ⟨cl, cr, cc⟩ := X
                  simp only [] at y1 y2 y3
                  obtain ⟨PL, hPL⟩ : ∃ PL, pickL L pt' (r + 1) m = PL := ⟨_, rfl⟩
                  rw [hPL] at HPK HOW hpl
                  clear hPL
                  obtain ⟨N, hN⟩ : ∃ N, PL.length = N := ⟨_, rfl⟩
                  rw [hN] at HOW hpl
                  have HN := Lib.hid hN
                  clear hN
                  have hzd := HBD.out.size
                  go_wp2_with (at_builtin; first
                    | (refine wpList_append_any _ rfl (.tmp 87) (.tmp 92) _ rfl Wd.heap.size 33 iC _ 3 24 Try.underlying22 hiC hzC hz1C hzbC rfl (by decide) _ N (cvs PL) rfl (HOW.out.alloc _) (wr.heap.size + 1) (some ⟨wr.heap.size, 0, none⟩) 1 1 (cv (cl, cr, cc)) rfl (reads_new wr _ _ _ _) (cv_one _) (by simp only [maxLen]; omega) (by omega) (by simp; omega) ?_; intro v7 w7 hown7 hg7 hat7; have b7 := ((HBD.out.alloc hzd (.cells #[.int .i64 cl, .int .i64 cr, .int .i64 cc] 33)).grown hg7 (by simp; omega) (own_base HOW.out)))
                    | fail)
                  go_roundg (n - (m + 1))
                  case measure => omega
                  case rel =>
                    refine ⟨m + 1, by omega, by go_num, ?_, b7⟩
                    rw [HPK.out, List.length_append, HN.out, cvs_append]
                    simpa [cvs] using hown7
                · have d0 : (((pt' m : Nat) : Int) == (r : Int) + 1) = false := by simp; omega
                  have HPK := Lib.hid (pickL_no (L := L) hpm)
                  clear hpm
                  go_wp2
                  go_roundg (n - (m + 1))
                  case measure => omega
                  case rel => exact ⟨m + 1, by omega, by go_num, by rw [HPK.out]; exact HOW.out, HBD.out⟩
              · obtain rfl : m = n := by omega
                rw [HPC.out] at HOW
                obtain ⟨M, hM⟩ : ∃ M, ((List.range m).filter (fun j => C j = i)).map (gt L) = M := ⟨_, rfl⟩
                rw [hM] at HOW
                have HLP : Hid ((PQ.prtR C m (i + 1)).map (fun P => P.map (gt L)) = LL ++ [M]) := Lib.hid (by rw [PQ.prtR_new HCI.out, List.map_append, HLL.out, ← hM]; rfl)
                have hml : M.length ≤ m := by rw [← hM, List.length_map]; exact Nat.le_trans (List.length_filter_le _ _) (by simp)
                obtain ⟨A9, c9, hv9, -, -, -⟩ := own_form HOW.out
                subst hv9
                have HQ := Lib.hid (HOd.out.bl (HBD.out.mono (Nat.le_refl _)))
                have HQR : Hid (wr.ownsRow (w.heap.size + 1) 22 1 (.slice A4 r c4) r vs) := Lib.hid (by have := HQ.out.row; rw [HLN.out] at this; exact this)
                have hzd := HBD.out.size
                have hzp := HPd.out.lt
                clear hM hmn hm
                obtain ⟨N, hN⟩ : ∃ N, M.length = N := ⟨_, rfl⟩
                have HN := Lib.hid hN
                rw [hN] at HOW
                simp only [hN]
                clear hN hml
                go_wp2_with (at_builtin; first
                  | (refine wpList_append_any _ rfl (.tmp 94) (.tmp 96) _ rfl (w.heap.size + 1) 22 iS _ 1 24 Try.underlying24 hiS hzS hz1S hzbS rfl (by decide) (.slice A4 r c4) r vs rfl (HQR.out.alloc _) (wr.heap.size + 1) (some ⟨wr.heap.size, 0, none⟩) 1 1 [.slice A9 N c9] rfl (reads1_new wr _ _) (by simp [Value.oneCell']) (by simp only [maxLen]; omega) (by omega) (by simp; omega) ?_; intro v8 w8 hown8 hg8 hat8)
                  | fail)
                have hQ8 := HQ.out.alloc (.cells #[.slice A9 N c9] 22)
                have hu := own_grown' (HOW.out.alloc (.cells #[.slice A9 N c9] 22)) hg8 (fun q hq e => own_own_ne (HQR.out.alloc (.cells #[.slice A9 N c9] 22)) (HOW.out.alloc (.cells #[.slice A9 N c9] 22)) tne e hq)
                have b8 := (HBD.out.alloc hzd (.cells #[.slice A9 N c9] 22)).mono (show w.heap.size + 1 ≤ Wd.heap.size by omega)
                have b9 := b8.grown hg8 (by simp; omega) (own_base HQR.out)
                go_roundg (m - (i + 1))
                case measure => omega
                case rel =>
                  refine ⟨i + 1, pt', vs ++ [.slice A9 N c9], by omega, by go_num, HPd.out.below b9 (by omega), HBd.out, ?_, HLd.out.trans (b9.mono (by omega))⟩
                  rw [HLP.out]
                  refine hQ8.snoc hg8 (by rw [HLN.out]; exact hown8) (by rw [HN.out]; exact own_mono hu (by omega)) (fun k u' hk q hq e => ?_)
                  have h1 := own_lt' (HOd.out.one k u' hk) hq
                  have h2 := own_base HOW.out q e
                  omega
          | cons k1 T1 =>
            simp only [List.length_cons] at hlen
            obtain ⟨gq, d, rfl, hgq, h0⟩ := HS.out.q.head
            obtain ⟨hk1, hck1, -⟩ := HS.out.fl.todo k1 (List.mem_cons_self ..)
            have hle := HS.out.q.le
            obtain ⟨A2, hA2⟩ : ∃ A2 : Option Addr, (if cT = 1 then some ⟨gq, d, none⟩ else some ⟨gq, d + 1, none⟩) = A2 := ⟨_, rfl⟩
            have hsl : ∀ W, (Instr.slice 62 (.slice (some ⟨gq, d, none⟩) nT cT) (some (.int .i64 1)) none none).run Try.prog W = .ok (.slice A2 (nT - 1) (cT - 1)) W := fun W => by
              rw [run_slice_l W 62 (some ⟨gq, d, none⟩) nT cT Try.underlying62 .i64 1 (by decide) (by omega)]
              simp [go_sem, ← hA2, Addr.add]
            have S2 : Hid (SSt W1 wr w.heap.size n C (tL L) i pt' A2 (nT - 1) (cT - 1) T1 k1 0) := Lib.hid ⟨HS.out.row, HS.out.q.tail (fun h => by rw [← hA2, if_neg h]), HS.out.g, HS.out.fl.pop'⟩
            have hnT : 0 < nT := by omega
            have hgg2 : nT - 1 + PQ.unm pt' n = gv - 1 := by omega
            clear HS hlen hA2 hle
            have hG2 : gv ≤ 4001 := by omega
            have HGV := Lib.hid (hgg.symm.trans hgv)
            clear hgg hG
            obtain ⟨G2, hG3⟩ : ∃ G2, gv - 1 = G2 := ⟨_, rfl⟩
            rw [hG3] at hgg2
            have hG4 : G2 < gv := by omega
            clear hG3
            go_wp2
            clear h0 hsl
            go_loopg [6, 8] n (fun gm s6 s8 wq => ∃ (m : Nat) (pt' : Nat → Nat) (A' : Option Addr) (nT cT : Nat) (T : List Nat), m + gm = n ∧ s8 = .int .i64 m ∧ nT + PQ.unm pt' n = G2 ∧ s6 = .slice A' nT cT ∧ SSt W1 wq w.heap.size n C (tL L) i pt' A' nT cT T k1 m)
            case atStart => exact ⟨0, pt', A2, _, _, T1, by omega, rfl, hgg2, rfl, S2.out⟩
            case round =>
              clear S2 hgg2
              obtain ⟨m, p2, A3, n3, c3, T3, hm, rfl, hG5, rfl, hS⟩ := hrel
              have HS := Lib.hid hS
              clear hS
              by_cases hmn : m < n
              · have x0 := HS.out.row.cell m hmn
                have hb := HS.out.row.lt
                by_cases hpm : p2 m = 0
                · rw [hpm] at x0
                  have HU := Lib.hid (PQ.unm_upd (v := r + 1) hmn hpm (by omega))
                  have HPM := Lib.hid hpm
                  have HBW := Lib.hid (BL1.out.grown HS.out.g BL1.out.size (fun q e => by cases e; exact Nat.le_refl _))
                  obtain ⟨b, off, hA, hbb, z1, z2, z3⟩ := HR.out.elem hk1
                  obtain ⟨b', off', hA', -, u1, u2, u3⟩ := HR.out.elem hmn
                  subst hA
                  cases hA'
                  have hbw : b < wr.heap.size := by have := HBW.out.size; omega
                  have Z1 := (HBW.out.cell (p := ⟨b, off + k1 * 3, none⟩) hbb).trans z1
                  have Z2 := (HBW.out.cell (p := ⟨b, off + k1 * 3 + 1, none⟩) hbb).trans z2
                  have Z3 := (HBW.out.cell (p := ⟨b, off + k1 * 3 + 2, none⟩) hbb).trans z3
                  have U1 := (HBW.out.cell (p := ⟨b, off + m * 3, none⟩) hbb).trans u1
                  have U2 := (HBW.out.cell (p := ⟨b, off + m * 3 + 1, none⟩) hbb).trans u2
                  have U3 := (HBW.out.cell (p := ⟨b, off + m * 3 + 2, none⟩) hbb).trans u3
                  clear z1 z2 z3 u1 u2 u3
                  have KT := Lib.hid (fun W => Touch_any (gt L k1) (gt L m) (HV.out k1 hk1) (HV.out m hmn) W)
                  have HTL : Hid (tL L k1 m = tchB (bxI (gt L k1)) (bxI (gt L m))) := Lib.hid rfl
                  rw [← HTL.out] at KT
                  clear HTL
                  generalize (gt L k1).1 = k0 at *
                  generalize (gt L k1).2.1 = k2 at *
                  generalize (gt L k1).2.2 = k3 at *
                  generalize (gt L m).1 = m0 at *
                  generalize (gt L m).2.1 = m2 at *
                  generalize (gt L m).2.2 = m3 at *
                  obtain ⟨T, hT⟩ : ∃ T, tL L k1 m = T := ⟨_, rfl⟩
                  rw [hT] at KT
                  have HTT := Lib.hid hT
                  clear hT hpm
                  go_upto_region 15 with (fail)
                  have d0 : ∀ s : BV wr, s.w.cell? ⟨w.heap.size, m, none⟩ = some (.int .i64 ((0 : Nat) : Int)) := fun s => (s.hb.cell (p := ⟨w.heap.size, m, none⟩) hb).trans x0
                  have c0 : ∀ s : BV wr, s.w.cell? ⟨b, off + k1 * 3, none⟩ = some (.int .i64 k0) := fun s => (s.hb.cell (p := ⟨b, off + k1 * 3, none⟩) hbw).trans Z1
                  have c1 : ∀ s : BV wr, s.w.cell? ⟨b, off + k1 * 3 + 1, none⟩ = some (.int .i64 k2) := fun s => (s.hb.cell (p := ⟨b, off + k1 * 3 + 1, none⟩) hbw).trans Z2
                  have c2 : ∀ s : BV wr, s.w.cell? ⟨b, off + k1 * 3 + 2, none⟩ = some (.int .i64 k3) := fun s => (s.hb.cell (p := ⟨b, off + k1 * 3 + 2, none⟩) hbw).trans Z3
                  have c4 : ∀ s : BV wr, s.w.cell? ⟨b, off + m * 3, none⟩ = some (.int .i64 m0) := fun s => (s.hb.cell (p := ⟨b, off + m * 3, none⟩) hbw).trans U1
                  have c5 : ∀ s : BV wr, s.w.cell? ⟨b, off + m * 3 + 1, none⟩ = some (.int .i64 m2) := fun s => (s.hb.cell (p := ⟨b, off + m * 3 + 1, none⟩) hbw).trans U2
                  have c6 : ∀ s : BV wr, s.w.cell? ⟨b, off + m * 3 + 2, none⟩ = some (.int .i64 m3) := fun s => (s.hb.cell (p := ⟨b, off + m * 3 + 2, none⟩) hbw).trans U3
                  clear x0 Z1 Z2 Z3 U1 U2 U3
                  refine wp_region_bv wr (by kernel_rfl) (by kernel_rfl) (Below.refl _ _) ?_
                  (repeat (go_big_quiet_step (first | (go_at_call 13; with_reducible exact quiet_bv (KT.out _)) | fail)))
                  refine wpQuiet_nil ?_
                  intro w9 hb9
                  clear c0 c1 c2 c4 c5 c6 d0
                  have S9 := Lib.hid (HS.out.bl hb9)
                  clear HS hb9 hbw hbb hb HBW
                  cases T with
                  | false =>
                    go_wp2
                    go_roundg (n - (m + 1))
                    case measure => omega
                    case rel => exact ⟨m + 1, p2, A3, n3, c3, T3, by omega, by go_num, hG5, rfl, S9.out.no (fun h => by have := h.2; rw [HTT.out] at this; cases this)⟩
                  | true =>
                    have x0 := S9.out.row.cell m hmn
                    have f0 := S9.out.row.fr m hmn
                    have hb9 := S9.out.row.lt
                    have hz9 := S9.out.g.size
                    obtain ⟨W9, hW9⟩ : ∃ W9, w9.setCell ⟨w.heap.size, m, none⟩ (.int .i64 ((r : Int) + 1)) = W9 := ⟨_, rfl⟩
                    have HZ9 : Hid (W9.heap.size = w9.heap.size) := Lib.hid (by rw [← hW9]; simp)
                    have P9 := S9.out.row.put m (r + 1) hmn ((r : Int) + 1) (by omega)
                    have Q9 := S9.out.q.set (q := w.heap.size) (o := m) (by omega) (.int .i64 ((r : Int) + 1))
                    have G9 := grown_set2 (o := m) (v := .int .i64 ((r : Int) + 1)) S9.out.g
                    rw [hW9] at P9 Q9 G9
                    have P9 := Lib.hid P9
                    have Q9 := Lib.hid (Q9.bl (bl_alloc W9 (.cells #[.int .i64 (m : Int)] 3)))
                    have G9 := Lib.hid G9
                    have hn3 : n3 ≤ 100000 := by omega
                    go_wp2_with (at_builtin; first
                      | (refine wpList_que _ rfl (.tmp 69) (.tmp 71) 62 rfl 3 iI Try.underlying62 hiI hzI hz1I hzbI Q9.out W9.heap.size m 1 rfl rfl (by simp) (by have := HZ9.out; simp; omega) hn3 ?_; intro A7 c7 W7 hq7 hb7)
                      | fail)
                    go_roundg (n - (m + 1))
                    case measure => omega
                    case rel =>
                      have hz99 := HZ9.out
                      refine ⟨m + 1, PQ.upd p2 m (r + 1), A7, n3 + 1, c7, T3 ++ [m], by omega, by go_num, by have := HU.out; omega, rfl, ⟨(P9.out.below (bl_alloc W9 _) P9.out.lt).below hb7 (by omega), hq7, grown_bl (grown_bl G9.out (bl_alloc W9 _) (by omega)) hb7 (Nat.le_refl _), ?_⟩⟩
                      have := S9.out.fl.yes hk1 hck1 hmn HTC.out HPM.out HTT.out
                      rw [HRK.out] at this
                      exact this
                · have nb : (((p2 m : Nat) : Int) == 0) = false := by simp; omega
                  go_upto_region 15 with (fail)
                  have d0 : ∀ s : BV wr, s.w.cell? ⟨w.heap.size, m, none⟩ = some (.int .i64 ((p2 m : Nat) : Int)) := fun s => (s.hb.cell (p := ⟨w.heap.size, m, none⟩) hb).trans x0
                  clear x0
                  refine wp_region_bv wr (by kernel_rfl) (by kernel_rfl) (Below.refl _ _) ?_
                  (repeat (go_big_quiet_step (fail)))
                  refine wpQuiet_nil ?_
                  intro w9 hb9
                  clear d0
                  go_wp2
                  go_roundg (n - (m + 1))
                  case measure => omega
                  case rel => exact ⟨m + 1, p2, A3, n3, c3, T3, by omega, by go_num, hG5, rfl, (HS.out.bl hb9).no (fun h => hpm h.1)⟩
              · obtain rfl : m = n := by omega
                go_wp2
                go_roundg G2
                case measure => have := HGV.out; omega
                case rel => exact ⟨p2, A3, n3, c3, T3, k1, hG5, by omega, rfl, HS.out⟩
      · have hgt : (0 : Int) < ((pt i : Nat) : Int) := by have := hpos.2 hci; omega
        have HPR := Lib.hid (PQ.prtR_old (n := n) hci)
        have HCI := Lib.hid hci
        clear hpos hci
        go_wp2
        go_roundg (n - (i + 1))
        case measure => omega
        case rel => exact ⟨i + 1, pt, vs, by omega, by go_num, HP.out, HB.out.skip HCI.out HCC.out.1, by rw [HPR.out]; exact HO.out, HBL.out⟩
    · obtain rfl : i = n := by omega
      have hres := HRP.out
      rw [← hres] at HO
      obtain ⟨A4, c4, hv4, -, -, -⟩ := own_form HO.out.row
      subst hv4
      clear hres
      go_wp2
      go_ret
      exact ⟨_, vs, rfl, HO.out.mono (by omega), HBL.out⟩
end Go.Proofs.Ytopfnffabaiceaa
