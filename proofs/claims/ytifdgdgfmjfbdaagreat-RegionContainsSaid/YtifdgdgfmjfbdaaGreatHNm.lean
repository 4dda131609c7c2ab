/- The walk of slices.Compact at int. -/
import Derived.Lib.SliceRun
import Derived.Laws.OwnMore
import Derived.BigQuiet
import Derived.Test.YtifdgdgfmjfbdaaGreatHNj
import Derived.Test.YtifdgdgfmjfbdaaGreatHKz
import Derived.Test.YtifdgdgfmjfbdaaGreatHRl
import Derived.Test.YtifdgdgfmjfbdaaGreatHJc
set_option linter.unusedVariables false
set_option linter.unusedSimpArgs false
namespace Go.Proofs.YtifdgdgfmjfbdaaGreat
open Go.RowKit
set_option maxHeartbeats 4000000 in
set_option maxRecDepth 100000 in
theorem tidied_any (A : Option Addr) (n c : Nat) (X : List Cl) (w : World) (hr : Reads w w.heap.size 3 A n (cvs X)) (hX : AllV X) (hs : Srt X) (hn : n ≤ 90000) (hlen : (canonC (covL X)).length ≤ 4000) :
    Calls Tryz.prog 114 #[.slice A n c] w (RetCells w (canonC (covL X)) 0) := by
  have hl := hr.len
  have bB := Boxed.new w 48 (.slice none 0 0)
  have ba := bl_alloc w (.cells #[.slice none 0 0] 48)
  have hsz : (w.alloc (.cells #[.slice none 0 0] 48)).heap.size = w.heap.size + 1 := by simp
  have HR := Lib.hid hr
  have TS : Hid (∀ k, k < n → mgF ((tdP X k).length + 1) (tdP X k ++ [gt X k]) = tdP X (k + 1)) := Lib.hid fun k hk => tdP_succ hX hs (by omega)
  have TV := Lib.hid (tdP_v hX)
  have TL := Lib.hid (tdP_len hX)
  have HXV : Hid (∀ k, k < n → Vl (gt X k)) := Lib.hid fun k hk => hX _ (by simp [gt, show k < X.length by omega])
  have TA : Hid (tdP X n = canonC (covL X)) := Lib.hid (by rw [← hl]; exact tdP_all X)
  have T0 : Hid (tdP X 0 = []) := Lib.hid (tdP_zero X)
  have hle : (tdP X n).length ≤ 4000 := by rw [TA.out]; exact hlen
  have HLE := Lib.hid hle
  obtain ⟨i0, hi0, hz0, hz1, hzb⟩ := info_parts Tryz.infoCell
  rw [← TA.out]
  clear hr hX hs hlen hle hl
  go_enter Tryz.func114, Tryz.ntmps114
  go_upto_region 2 with (fail)
  generalize w.alloc (.cells #[.slice none 0 0] 48) = w1 at bB ba hsz ⊢
  have BB := Lib.hid bB
  have B1 := Lib.hid ba
  have S1 : Hid (St w.heap.size w.heap.size w1 (.slice none 0 0) (tdP X 0)) := Lib.hid (by rw [T0.out]; exact ⟨BB.out, own_nil _ _ _ _⟩)
  clear bB ba
  go_wp2
  go_loopg [9] n (fun gz s9 wr => ∃ (k : Nat) (u : Value), k ≤ n ∧ k + gz = n ∧ s9 = .int .i64 k ∧ St w.heap.size w.heap.size wr u (tdP X k) ∧ XK w.heap.size (.slice none 0 0) w1 wr ∧ Nx w1 (.slice none 0 0) u)
  case atStart => exact ⟨0, _, by omega, by omega, rfl, S1.out, XK.refl _ _ _, Nx.refl _ _⟩
  case round =>
    obtain ⟨k, u, hk, hkg, rfl, hSt, hX, hN⟩ := hrel
    obtain ⟨wo, rfl⟩ : ∃ wo, wo = wr := ⟨wr, rfl⟩
    have hss := hX.size
    have HSt := Lib.hid hSt
    have HX := Lib.hid hX
    have HN := Lib.hid hN
    have hxb := hX.below (n₀ := w.heap.size) (Nat.le_refl _) (by simp [Value.ownBlock]) (by omega)
    have hbw := B1.out.trans hxb
    by_cases hlt : k < n
    · obtain ⟨b, off, rfl, hb, x0, x1, x2⟩ := HR.out.elem hlt
      have y0 := (hbw.cell (p := ⟨b, off + k * 3, none⟩) hb).trans x0
      have y1 := (hbw.cell (p := ⟨b, off + k * 3 + 1, none⟩) hb).trans x1
      have y2 := (hbw.cell (p := ⟨b, off + k * 3 + 2, none⟩) hb).trans x2
      have hxv := HXV.out k hlt
      have hts := TS.out k hlt
      have htv := TV.out k
      have htl := TL.out k
      obtain ⟨O, hO⟩ : ∃ O, tdP X k = O := ⟨_, rfl⟩
      obtain ⟨R, hR⟩ : ∃ R, tdP X (k + 1) = R := ⟨_, rfl⟩
      obtain ⟨x, hx⟩ : ∃ x, gt X k = x := ⟨_, rfl⟩
      rw [hO] at hSt hts htv htl
      rw [hR, hx] at hts
      rw [hx] at y0 y1 y2 hxv
      have HRR := Lib.hid hR
      clear x0 x1 x2 hx hO hR HSt
      obtain ⟨x_0, x_1, x_2⟩ := x
      simp only [] at y0 y1 y2
      have hvb := own_ltK hSt.row
      have bc := bl_alloc wo (.cells #[.int .i64 x_0, .int .i64 x_1, .int .i64 x_2] 102)
      have S2 := hSt.below bc
      have hc2 := S2.box.cell
      have hs2 : (wo.alloc (.cells #[.int .i64 x_0, .int .i64 x_1, .int .i64 x_2] 102)).heap.size = wo.heap.size + 1 := by simp
      have n2 := Blk.new wo 102 #[.int .i64 x_0, .int .i64 x_1, .int .i64 x_2]
      go_upto_region 5 with (fail)
      generalize wo.alloc (.cells #[.int .i64 x_0, .int .i64 x_1, .int .i64 x_2] 102) = w2 at bc S2 hc2 hs2 n2 ⊢
      have hle2 : w.heap.size + 1 ≤ w2.heap.size := by omega
      clear hs2
      have SS2 := Lib.hid S2
      have BC := Lib.hid bc
      have NB2 := Lib.hid n2
      have z0 : w2.cell? ⟨wo.heap.size, 0, none⟩ = some (.int .i64 x_0) := n2.cell 0
      have z1 : w2.cell? ⟨wo.heap.size, 1, none⟩ = some (.int .i64 x_1) := n2.cell 1
      have z2 : w2.cell? ⟨wo.heap.size, 2, none⟩ = some (.int .i64 x_2) := n2.cell 2
      have hol : O.length ≤ 90000 := by omega
      have HTS := Lib.hid hts
      have HTV := Lib.hid htv
      have HXX := Lib.hid hxv
      clear S2 bc n2 hts htv hxv hSt hX hN hxb hbw y0 y1 y2
      go_wp2_with (at_builtin; (refine wpList_append_any _ rfl (.tmp 13) (.tmp 15) _ rfl w.heap.size 102 i0 _ 3 24 Tryz.underlying48 hi0 hz0 hz1 hzb rfl (by decide) u O.length (cvs O) rfl (SS2.out.row.alloc _) (w2.heap.size + 1) (some ⟨w2.heap.size, 0, none⟩) 1 1 (cvs [(x_0, x_1, x_2)]) rfl (by exact reads_new w2 x_0 x_1 x_2 102) (cvs_one _) (by simp only [maxLen]; omega) (by omega) (by simp; omega) ?_); intro v3 w3 hown3 hg3 hat3; rw [← cvs_append, show O.length + 1 = (O ++ [(x_0, x_1, x_2)]).length by simp] at hown3; have hbx3 := (SS2.out.box.alloc (.cells #[.int .i64 x_0, .int .i64 x_1, .int .i64 x_2] 102)).kept hg3 ((SS2.out.box.alloc (.cells #[.int .i64 x_0, .int .i64 x_1, .int .i64 x_2] 102)).not_row (by decide) (SS2.out.row.alloc (.cells #[.int .i64 x_0, .int .i64 x_1, .int .i64 x_2] 102))); obtain ⟨N1, hN1⟩ : ∃ N1, List.length (O ++ [(x_0, x_1, x_2)]) = N1 := ⟨_, rfl⟩; rw [hN1] at hown3; obtain ⟨A3, c3, rfl, -, -⟩ := own_form hown3; have hc3 := hbx3.cell; have hf3 := hbx3.frozen; have HO3 := Lib.hid hown3; have HB3 := Lib.hid hbx3; have HG3 := Lib.hid hg3; have HA3 := Lib.hid hat3; have HN1 := Lib.hid hN1; clear hown3 hg3 hat3 hbx3 hN1)
      have XS := Lib.hid (((XK.of_below (B := w.heap.size) (v := u) (bl_alloc w2 (.cells #[.int .i64 x_0, .int .i64 x_1, .int .i64 x_2] 102))).grown HG3.out).set (.slice A3 N1 c3))
      have NS : Hid (Nx w2 u (.slice A3 N1 c3)) := Lib.hid (HA3.out.elim .inl fun q => .inr fun k hk => (by rw [q] at hk; cases hk; simp))
      have SS3 : Hid (St w.heap.size w.heap.size (w3.setCell ⟨w.heap.size, 0, none⟩ (.slice A3 N1 c3)) (.slice A3 N1 c3) (O ++ [(x_0, x_1, x_2)])) := Lib.hid ⟨HB3.out.set _, by rw [HN1.out]; exact HO3.out.kept (grownBy_setCell' w3 w.heap.size _) (.inr (HB3.out.not_row (by decide) HO3.out).symm)⟩
      have hn1 : (O ++ [(x_0, x_1, x_2)]).length = O.length + 1 := by simp
      clear hc3 hf3 z0 z1 z2 hc2 HO3 HB3 HG3 HA3 HN1
      go_loopg [] (O.length + 1) (fun gz wr => ∃ (gg : Nat) (Lk : List Cl) (u3 : Value), gg = gz ∧ St w.heap.size w.heap.size wr u3 Lk ∧ XK w.heap.size u w2 wr ∧ Nx w2 u u3 ∧ mgF gg Lk = R ∧ Lk.length ≤ gg ∧ AllV Lk ∧ gg ≤ 90001)
      case atStart => exact ⟨_, _, _, rfl, SS3.out, XS.out, NS.out, HTS.out, by omega, one_app HTV.out HXX.out, by omega⟩
      case round =>
        obtain ⟨gg, Lk, u3, hgz, hSt, hXk, hNx, hmg, hle, hLv, hg4⟩ := hrel
        have ST := Lib.hid hSt
        have XX := Lib.hid hXk
        have NN := Lib.hid hNx
        obtain ⟨s1, s2⟩ := mgF_step hmg hle
        have KG := merge_any w.heap.size w.heap.size u3 Lk wr hSt (by have := hXk.size; omega) hLv (by omega)
        clear hSt hXk hNx
        cases h4 : four4 Lk with
        | true =>
          rw [h4] at KG
          simp only [if_true] at KG
          obtain ⟨t1, t2, t3⟩ := s2 h4
          have T1 := Lib.hid t1
          have LV := Lib.hid (mg1_v hLv h4)
          have KG := Lib.hid KG
          clear s1 s2 h4 t1 hmg hLv
          go_wp2_with fail
          (with_reducible refine (KG.out).mono ?_)
          rintro e w9 ⟨rfl, hG9⟩
          obtain ⟨u9, hS9, hX9, hN9⟩ := hG9
          go_wp2
          go_roundg (gg - 1)
          case measure => omega
          case rel => exact ⟨_, _, u9, rfl, hS9, XX.out.trans NN.out hX9, NN.out.trans XX.out.size hN9, T1.out, t3, LV.out, by omega⟩
        | false =>
          rw [h4] at KG
          simp only [Bool.false_eq_true, if_false] at KG
          have hLR := s1 h4
          have HLR := Lib.hid hLR
          have KG := Lib.hid KG
          clear s1 s2 h4 hmg hLv hLR
          go_wp2_with fail
          (with_reducible refine (KG.out).mono ?_)
          rintro e w9 ⟨rfl, hG9⟩
          obtain ⟨u9, hS9, hX9, hN9⟩ := hG9
          have XF := Lib.hid ((HX.out.trans HN.out ((XK.of_below BC.out).trans (Nx.refl _ _) (XX.out.trans NN.out hX9))))
          have NF := Lib.hid (HN.out.trans hss ((Nx.refl _ _).trans BC.out.size (NN.out.trans XX.out.size hN9)))
          have SF : Hid (St w.heap.size w.heap.size w9 u9 (tdP X (k + 1))) := Lib.hid (by rw [HRR.out, ← HLR.out]; exact hS9)
          clear hS9 hX9 hN9 ST XX NN
          go_wp2
          go_roundg (n - (k + 1))
          case measure => omega
          case rel => exact ⟨k + 1, u9, by omega, by omega, by go_num, SF.out, XF.out, NF.out⟩
    · have hkn : k = n := by omega
      subst hkn
      obtain ⟨A9, c9, rfl, -, -⟩ := own_form hSt.row
      have hcc := hSt.box.cell
      have hd : decide (4000 < ((tdP X k).length : Int)) = false := decide_eq_false (by have := HLE.out; omega)
      have OW := Lib.hid hSt.row
      have BW := Lib.hid hbw
      clear hSt hX hN HSt HX HN hxb hbw
      go_wp2
      go_ret2
      exact ⟨_, rfl, OW.out, BW.out⟩
/-! ### region.of -/
set_option maxHeartbeats 4000000 in
set_option maxRecDepth 100000 in
theorem of39_any (K : List Ci) (A : Option Addr) (n c : Nat) (L : List Cl) (Al : Option Addr) (nl cl : Nat) (lev : Int) (w : World) (hK : ∀ k ∈ K, VCi k) (hn : n ≤ 40) (hrd : Reads w w.heap.size 6 A n (civs K)) (hrl : Reads w w.heap.size 3 Al nl (cvs L)) (hLV : AllV L) (hT : canonC (covL L) = L) (h16 : lev ≤ 16) (hcnt : prN (agP K) (suP K) lev L ≤ 90000) (hlen : (canonC (covL (prA (agP K) (suP K) lev L))).length ≤ 4000) :
    Calls Tryz.prog 54 #[.slice A n c, .slice Al nl cl, .int .i64 lev] w (RetCells w (canonC (covL (prA (agP K) (suP K) lev L))) 0) := by
  have hl := hrl.len
  have hpv := prA_v (ag := agP K) (su := suP K) h16 hLV
  have hps := prA_srt (ag := agP K) (su := suP K) h16 hLV hT
  have hnl9 : nl ≤ 90000 := by have := hpv.2.2.2.1; omega
  have KTD : Hid (∀ (A9 : Option Addr) (c9 : Nat) (W : World), Reads W W.heap.size 3 A9 (prA (agP K) (suP K) lev L).length (cvs (prA (agP K) (suP K) lev L)) → Calls Tryz.prog 114 #[.slice A9 (prA (agP K) (suP K) lev L).length c9] W (RetCells W (canonC (covL (prA (agP K) (suP K) lev L))) 0)) := Lib.hid fun A9 c9 W hr => tidied_any A9 _ c9 _ W hr hpv.1 hps (by omega) hlen
  have hA : otT (ptP39 K lev) L nl = prA (agP K) (suP K) lev L := by rw [← hl, otT_all]; rfl
  have hsum : ∀ k, k < nl → lkT (ptQ39 K lev) L k + ptQ39 K lev (gt L k) ≤ 90000 := fun k hk => Nat.le_trans (lkT_le (ptQ39 K lev) L k (by omega)) hcnt
  have hot : ∀ k, k ≤ nl → (otT (ptP39 K lev) L k).length ≤ lkT (ptQ39 K lev) L k := fun k hk => otT_len (fun x hx => (prt_v h16 _ x (hLV x hx) (fuC_eq (hLV x hx))).2.2.1) k (by omega)
  have hav : ∀ k, AllV (otT (ptP39 K lev) L k) := fun k y hy => by
    obtain ⟨z, hz, hyz⟩ := List.mem_flatMap.1 hy
    have hz' := List.mem_of_mem_take hz
    exact (prt_v h16 _ z (hLV z hz') (fuC_eq (hLV z hz'))).1 y hyz
  have bB := Blk.new w 152 #[.slice A n c, .int .i64 lev, .int .i64 0, .slice none 0 0]
  have ba := bl_alloc w (.cells #[.slice A n c, .int .i64 lev, .int .i64 0, .slice none 0 0] 152)
  have hsz : (w.alloc (.cells #[.slice A n c, .int .i64 lev, .int .i64 0, .slice none 0 0] 152)).heap.size = w.heap.size + 1 := by simp
  rw [← hA] at KTD ⊢
  have HK := Lib.hid hK
  have RD := Lib.hid hrd
  have RL := Lib.hid hrl
  have HLV := Lib.hid hLV
  have HLN := Lib.hid hl
  have HSUM := Lib.hid hsum
  have HOT := Lib.hid hot
  have HAV := Lib.hid hav
  clear hK hrd hrl hLV hl hsum hot hav hA hpv hps hT hcnt hlen
  go_enter Tryz.func54, Tryz.ntmps54
  go_upto_region 2 with (fail)
  generalize w.alloc (.cells #[.slice A n c, .int .i64 lev, .int .i64 0, .slice none 0 0] 152) = w1 at bB ba hsz ⊢
  have S1 : Hid (SS w.heap.size w.heap.size w1 (.slice A n c) lev 0 (.slice none 0 0) []) := Lib.hid ⟨bB, own_nil _ _ _ _⟩
  have B1 := Lib.hid ba
  clear bB ba
  go_wp2
  go_loopg [17] nl (fun gz s17 wr => ∃ (k : Nat) (u : Value), k ≤ nl ∧ k + gz = nl ∧ s17 = .int .i64 k ∧ SS w.heap.size w.heap.size wr (.slice A n c) lev (lkT (ptQ39 K lev) L k : Int) u (otT (ptP39 K lev) L k) ∧ XK w.heap.size (.slice none 0 0) w1 wr ∧ Nx w1 (.slice none 0 0) u)
  case atStart => exact ⟨0, _, by omega, by omega, rfl, by simpa [lkT, otT] using S1.out, XK.refl _ _ _, Nx.refl _ _⟩
  case round =>
    obtain ⟨k, u, hk, hkg, rfl, hSt, hX, hN⟩ := hrel
    have hss := hX.size
    have HX := Lib.hid hX
    have HN := Lib.hid hN
    have hxb := hX.below (n₀ := w.heap.size) (Nat.le_refl _) (by simp [Value.ownBlock]) (by omega)
    have hbw := B1.out.trans hxb
    by_cases hlt : k < nl
    · obtain ⟨b, off, rfl, hb, x0, x1, x2⟩ := RL.out.elem hlt
      have y0 := (hbw.cell (p := ⟨b, off + k * 3, none⟩) hb).trans x0
      have y1 := (hbw.cell (p := ⟨b, off + k * 3 + 1, none⟩) hb).trans x1
      have y2 := (hbw.cell (p := ⟨b, off + k * 3 + 2, none⟩) hb).trans x2
      have hmem : gt L k ∈ L := by simp [gt, show k < L.length by have := HLN.out; omega]
      have hxv := HLV.out _ hmem
      have hxl := fuC_eq hxv
      have hsk := HSUM.out k hlt
      have hok := HOT.out k hk
      have hvk := HAV.out k
      have e1 := lkT_succ (ptQ39 K lev) L k (by have := HLN.out; omega)
      have e2 := otT_succ (ptP39 K lev) L k (by have := HLN.out; omega)
      obtain ⟨x, hx⟩ : ∃ x, gt L k = x := ⟨_, rfl⟩
      rw [hx] at y0 y1 y2 hxv hxl hsk e1 e2
      have bc := bl_alloc wr (.cells #[.int .i64 x.1, .int .i64 x.2.1, .int .i64 x.2.2] 102)
      have KC := look_ok (fuC x) K A n c x.1 x.2.1 x.2.2 lev (lkT (ptQ39 K lev) L k : Int) w.heap.size w.heap.size u (otT (ptP39 K lev) L k) (wr.alloc (.cells #[.int .i64 x.1, .int .i64 x.2.1, .int .i64 x.2.2] 102)) HK.out (by omega) ((RD.out.below hbw).alloc (by omega) _) hxv hxl h16 (Nat.le_refl _) (hSt.below bc) hvk (by omega) (by show ((lkT (ptQ39 K lev) L k : Nat) : Int) + ((ptQ39 K lev x : Nat) : Int) ≤ 100000; omega) (by omega)
      have hpp : prt (agP K) (suP K) lev (fuC x) (x.1, x.2.1, x.2.2) = ptP39 K lev x := rfl
      have hpq : prn (agP K) (suP K) lev (fuC x) (x.1, x.2.1, x.2.2) = ptQ39 K lev x := rfl
      rw [hpp, hpq, ← e2, show (lkT (ptQ39 K lev) L k : Int) + (ptQ39 K lev x : Int) = (lkT (ptQ39 K lev) L (k + 1) : Int) by omega] at KC
      have BC := Lib.hid bc
      have KC := Lib.hid KC
      clear hpp hpq e1 e2 hsk hok hvk hxv hxl hmem x0 x1 x2 hSt hX hN hx bc hxb hbw
      obtain ⟨x_0, x_1, x_2⟩ := x
      simp only [] at y0 y1 y2 KC BC
      have hlw : w.heap.size < wr.heap.size := by omega
      go_wp2_with fail
      (with_reducible refine (KC.out).mono ?_)
      rintro e w9 ⟨rfl, hG⟩
      obtain ⟨u9, s1, s2, s3⟩ := hG.after (XK.of_below BC.out)
      have SF := Lib.hid s1
      have XF := Lib.hid (HX.out.trans HN.out s2)
      have NF := Lib.hid (HN.out.trans hss s3)
      clear s1 s2 s3 hG
      go_wp2
      go_roundg (nl - (k + 1))
      case measure => omega
      case rel => exact ⟨k + 1, u9, by omega, by omega, by go_num, SF.out, XF.out, NF.out⟩
    · have hkn : k = nl := by omega
      subst hkn
      obtain ⟨A9, c9, rfl, hr9, -, -⟩ := own_form hSt.row
      have hcc := hSt.box.cell 3
      simp only [List.getElem?_toArray, List.getElem?_cons_zero, List.getElem?_cons_succ] at hcc
      have KT := Lib.hid (KTD.out A9 c9 wr hr9)
      have BW := Lib.hid hbw
      have hlw : w.heap.size < wr.heap.size := by omega
      clear hSt hX hN HX HN hxb hbw KTD hr9
      go_wp2_with fail
      (with_reducible refine (KT.out).mono ?_)
      rintro e w9 ⟨v9, rfl, ho9, hb9⟩
      have B9 := Lib.hid (BW.out.trans (hb9.mono BW.out.size))
      have O9 := Lib.hid (own_mono ho9 BW.out.size)
      clear ho9 hb9
      go_wp2
      go_ret2
      exact ⟨_, rfl, O9.out, B9.out⟩
/-! ### check, Of, Refine -/
set_option maxHeartbeats 2000000 in
set_option maxRecDepth 100000 in
theorem given_yes (K : List Ci) (A : Option Addr) (n c : Nat) (w : World) (hK : ∀ k ∈ K, VCi k) (hn : n ≤ 40) (hrd : Reads w w.heap.size 6 A n (civs K)) :
    Calls Tryz.prog 112 #[.slice A n c] w fun e w' => e = .returned (.int .i64 0) ∧ Below w.heap.size w w' := by
  have KC := contC_any 172 #[] (fun _ => false) (enters_of Tryz.func172 (by kernel_rfl) rfl) A n c K w hrd (by simp only [maxLen]; omega) (fun W k hk _ => givenClos_any k W (hK k hk))
  rw [show (K.any fun _ => false) = false by simp] at KC
  have KC := Lib.hid KC
  have d0 : decide ((40 : Int) < (n : Int)) = false := decide_eq_false (by omega)
  clear hrd hK
  go_enter Tryz.func112, Tryz.ntmps112
  go_wp2_with fail
  (with_reducible refine (KC.out).mono ?_)
  rintro e w1 ⟨rfl, hb1⟩
  have B1 := Lib.hid hb1
  clear hb1
  go_wp2
  go_ret
  exact ⟨rfl, B1.out⟩
set_option maxHeartbeats 2000000 in
set_option maxRecDepth 100000 in
theorem check_yes (K : List Ci) (A : Option Addr) (n c : Nat) (L : List Cl) (Al : Option Addr) (nl cl : Nat) (lev : Int) (w : World) (hK : ∀ k ∈ K, VCi k) (hn : n ≤ 40) (hrd : Reads w w.heap.size 6 A n (civs K)) (hrl : Reads w w.heap.size 3 Al nl (cvs L)) (hv : vrB L = true) (h0 : 0 ≤ lev) (h16 : lev ≤ 16) :
    Calls Tryz.prog 53 #[.slice A n c, .slice Al nl cl, .int .i64 lev] w fun e w' => e = .returned (.int .i64 0) ∧ Below w.heap.size w w' := by
  have hl := hrl.len
  have hvl := (vrB_iff L).1 hv
  have KG := Lib.hid (given_yes K A n c w hK hn hrd)
  have KR := Lib.hid (fun (W : World) (h : Below w.heap.size w W) => ValidRegion_any Al nl cl L W ((hrl.below h).more h.size) (by have := hvl.1; simp only [maxLen]; omega))
  rw [hv] at KR
  have d0 : decide (lev < 0) = false := decide_eq_false (by omega)
  have d1 : decide (16 < lev) = false := decide_eq_false (by omega)
  clear hK hrd hrl hvl hv hl
  go_enter Tryz.func53, Tryz.ntmps53
  go_wp2_with fail
  (with_reducible refine (KG.out).mono ?_)
  rintro e w1 ⟨rfl, hb1⟩
  have B1 := Lib.hid hb1
  have KR2 := Lib.hid (KR.out w1 hb1)
  clear hb1 KR KG
  go_wp2_with fail
  (with_reducible refine (KR2.out).mono ?_)
  rintro e w2 ⟨rfl, hb2⟩
  have B2 := Lib.hid (B1.out.trans (hb2.mono B1.out.size))
  clear hb2
  go_wp2
  go_ret
  exact ⟨rfl, B2.out⟩
theorem vr_td {L : List Cl} (hv : vrB L = true) : AllV L ∧ canonC (covL L) = L := ⟨((vrB_iff L).1 hv).2.1, ((vrB_iff L).1 hv).2.2⟩
theorem can_pr {K : List Ci} {L : List Cl} {lev : Int} (hLV : AllV L) (h16 : lev ≤ 16) : (canonC (covL (prA (agP K) (suP K) lev L))).length ≤ prN (agP K) (suP K) lev L := by
  have h := prA_v (ag := agP K) (su := suP K) h16 hLV
  exact Nat.le_trans (canonC_len _ h.1) h.2.2.1
set_option maxHeartbeats 2000000 in
set_option maxRecDepth 100000 in
theorem Of39_yes (K : List Ci) (A : Option Addr) (n c : Nat) (L : List Cl) (Al : Option Addr) (nl cl : Nat) (lev : Int) (w : World) (hK : ∀ k ∈ K, VCi k) (hn : n ≤ 40) (hrd : Reads w w.heap.size 6 A n (civs K)) (hrl : Reads w w.heap.size 3 Al nl (cvs L)) (hv : vrB L = true) (h0 : 0 ≤ lev) (h16 : lev ≤ 16) (hcnt : prN (agP K) (suP K) lev L ≤ 4000) :
    Calls Tryz.prog 17 #[.slice A n c, .slice Al nl cl, .int .i64 lev] w (RetCells w (canonC (covL (prA (agP K) (suP K) lev L))) 0) := by
  obtain ⟨hLV, hT⟩ := vr_td hv
  have hlen : (canonC (covL (prA (agP K) (suP K) lev L))).length ≤ 4000 := Nat.le_trans (can_pr hLV h16) hcnt
  have KC := Lib.hid (check_yes K A n c L Al nl cl lev w hK hn hrd hrl hv h0 h16)
  have KO := Lib.hid (fun (W : World) (h : Below w.heap.size w W) => of39_any K A n c L Al nl cl lev W hK hn ((hrd.below h).more h.size) ((hrl.below h).more h.size) hLV hT h16 (by omega) hlen)
  clear hK hrd hrl hv hLV hT hcnt hlen
  generalize canonC (covL (prA (agP K) (suP K) lev L)) = R at KO ⊢
  go_enter Tryz.func17, Tryz.ntmps17
  go_wp2_with fail
  (with_reducible refine (KC.out).mono ?_)
  rintro e w1 ⟨rfl, hb1⟩
  have B1 := Lib.hid hb1
  have KO2 := Lib.hid (KO.out w1 hb1)
  clear hb1 KC KO
  go_wp2_with fail
  (with_reducible refine (KO2.out).mono ?_)
  rintro e w2 ⟨v2, rfl, ho2, hb2⟩
  have B2 := Lib.hid (B1.out.trans (hb2.mono B1.out.size))
  have O2 := Lib.hid (own_mono ho2 B1.out.size)
  clear ho2 hb2
  go_wp2
  go_ret2
  exact ⟨_, rfl, O2.out, B2.out⟩
end Go.Proofs.YtifdgdgfmjfbdaaGreat
namespace Go.Proofs.YtifdgdgfmjfbdaaGreat
open Go.RowKit
set_option maxHeartbeats 2000000 in
set_option maxRecDepth 100000 in
theorem AgreesP_yes (k : Ci) (x : Cl) (w : World) (hk : VCi k) (hx : Vl x) : Calls Tryz.prog 75 #[.agg #[.int .i64 x.1, .int .i64 x.2.1, .int .i64 x.2.2], civ k] w fun e w' => e = .returned (.tuple #[.bool (agC k x), .int .i64 0]) ∧ Below w.heap.size w w' := by
  have hv := (vl_iff x).2 hx
  have KV := fun W => valid_any x.1 x.2.1 x.2.2 W
  rw [hv] at KV
  have KC := fun W => cirValid_yes k.1.1 k.1.2.1 k.1.2.2.1 k.1.2.2.2 k.2.1 k.2.2 W hk.vc
  have KA := fun W => agrees_any k x W hk hx
  generalize agC k x = b at KA ⊢
  unfold civ at KA ⊢
  obtain ⟨⟨a0, a1, o0, o1⟩, r0, r1⟩ := k
  obtain ⟨l, r, c⟩ := x
  simp only [] at KV KC KA ⊢
  have KV := Lib.hid KV
  have KC := Lib.hid KC
  have KA := Lib.hid KA
  have XX := Lib.hid ((Blk.new w 102 #[.int .i64 l, .int .i64 r, .int .i64 c]).alloc (.cells #[.int .i64 a0, .int .i64 a1, .int .i64 o0, .int .i64 o1, .int .i64 r0, .int .i64 r1] 39))
  have cc := Blk.new (w.alloc (.cells #[.int .i64 l, .int .i64 r, .int .i64 c] 102)) 39 #[.int .i64 a0, .int .i64 a1, .int .i64 o0, .int .i64 o1, .int .i64 r0, .int .i64 r1]
  rw [World.size_alloc] at cc
  have CC := Lib.hid cc
  have B0 := Lib.hid ((bl_alloc w (.cells #[.int .i64 l, .int .i64 r, .int .i64 c] 102)).alloc (by simp) (.cells #[.int .i64 a0, .int .i64 a1, .int .i64 o0, .int .i64 o1, .int .i64 r0, .int .i64 r1] 39))
  clear cc hv hk hx
  go_enter Tryz.func75, Tryz.ntmps75
  go_upto_region 1 with (fail)
  generalize (w.alloc (.cells #[.int .i64 l, .int .i64 r, .int .i64 c] 102)).alloc (.cells #[.int .i64 a0, .int .i64 a1, .int .i64 o0, .int .i64 o1, .int .i64 r0, .int .i64 r1] 39) = w1 at XX CC B0 ⊢
  have x0 : w1.cell? ⟨w.heap.size, 0, none⟩ = some (.int .i64 l) := XX.out.cell 0
  have x1 : w1.cell? ⟨w.heap.size, 1, none⟩ = some (.int .i64 r) := XX.out.cell 1
  have x2 : w1.cell? ⟨w.heap.size, 2, none⟩ = some (.int .i64 c) := XX.out.cell 2
  go_wp2_with fail
  (with_reducible refine (KV.out _).mono ?_)
  rintro e w2 ⟨rfl, hb2⟩
  have X2 := Lib.hid (XX.out.below hb2 XX.out.lt)
  have C2 := Lib.hid (CC.out.below hb2 CC.out.lt)
  have B2 := Lib.hid (B0.out.trans (hb2.mono B0.out.size))
  have k0 : w2.cell? ⟨w.heap.size + 1, 0, none⟩ = some (.int .i64 a0) := C2.out.cell 0
  have k1 : w2.cell? ⟨w.heap.size + 1, 1, none⟩ = some (.int .i64 a1) := C2.out.cell 1
  have k2 : w2.cell? ⟨w.heap.size + 1, 2, none⟩ = some (.int .i64 o0) := C2.out.cell 2
  have k3 : w2.cell? ⟨w.heap.size + 1, 3, none⟩ = some (.int .i64 o1) := C2.out.cell 3
  have k4 : w2.cell? ⟨w.heap.size + 1, 4, none⟩ = some (.int .i64 r0) := C2.out.cell 4
  have k5 : w2.cell? ⟨w.heap.size + 1, 5, none⟩ = some (.int .i64 r1) := C2.out.cell 5
  clear hb2 x0 x1 x2 XX CC B0 KV
  go_wp2_with fail
  (with_reducible refine (KC.out _).mono ?_)
  rintro e w3 ⟨rfl, hb3⟩
  have X3 := Lib.hid (X2.out.below hb3 X2.out.lt)
  have C3 := Lib.hid (C2.out.below hb3 C2.out.lt)
  have B3 := Lib.hid (B2.out.trans (hb3.mono B2.out.size))
  clear k0 k1 k2 k3 k4 k5 hb3 X2 C2 B2 KC
  have x0 : w3.cell? ⟨w.heap.size, 0, none⟩ = some (.int .i64 l) := X3.out.cell 0
  have x1 : w3.cell? ⟨w.heap.size, 1, none⟩ = some (.int .i64 r) := X3.out.cell 1
  have x2 : w3.cell? ⟨w.heap.size, 2, none⟩ = some (.int .i64 c) := X3.out.cell 2
  have k0 : w3.cell? ⟨w.heap.size + 1, 0, none⟩ = some (.int .i64 a0) := C3.out.cell 0
  have k1 : w3.cell? ⟨w.heap.size + 1, 1, none⟩ = some (.int .i64 a1) := C3.out.cell 1
  have k2 : w3.cell? ⟨w.heap.size + 1, 2, none⟩ = some (.int .i64 o0) := C3.out.cell 2
  have k3 : w3.cell? ⟨w.heap.size + 1, 3, none⟩ = some (.int .i64 o1) := C3.out.cell 3
  have k4 : w3.cell? ⟨w.heap.size + 1, 4, none⟩ = some (.int .i64 r0) := C3.out.cell 4
  have k5 : w3.cell? ⟨w.heap.size + 1, 5, none⟩ = some (.int .i64 r1) := C3.out.cell 5
  go_wp2_with fail
  (with_reducible refine (KA.out _).mono ?_)
  rintro e w4 ⟨rfl, hb4⟩
  have B4 := Lib.hid (B3.out.trans (hb4.mono B3.out.size))
  clear hb4
  go_wp2
  go_ret2
  exact ⟨rfl, B4.out⟩
/-! ### the numbers of the examples -/
def k39 : Ci := ((0, 0, 0, 0), 3600000, 3600000)
def s39 : List Cl := [(0, 0, 0), (0, 0, 1)]
def t39 : List Cl := [(1, 0, 1), (1, 1, 1), (1, 0, 2), (1, 1, 2)]
theorem k39_v : VCi k39 := (vciB_iff k39).1 (by decide +kernel)
theorem s39_av : AllV s39 := fun x hx => by
  simp only [s39, List.mem_cons, List.not_mem_nil, or_false] at hx
  rcases hx with rfl | rfl <;> (rw [← vl_iff]; decide +kernel)
theorem t39_av : AllV t39 := fun x hx => by
  simp only [t39, List.mem_cons, List.not_mem_nil, or_false] at hx
  rcases hx with rfl | rfl | rfl | rfl <;> (rw [← vl_iff]; decide +kernel)
theorem s39_blk : s39.map blkOf = [(16, 0), (16, 1)] := by decide +kernel
theorem t39_blk : t39.map blkOf = [(15, 1), (15, 3), (15, 4), (15, 6)] := by decide +kernel
theorem s39_vr : vrB s39 = true := by
  rw [vrB_iff]
  refine ⟨by decide, s39_av, (td_iff s39_av).1 ⟨s39_av, ?_, ?_⟩⟩
  · rw [s39_blk]; simp [Canon.before2]
  · rw [s39_blk]
    intro h n pre suf e
    have := congrArg List.length e
    simp [Canon.kidsB] at this
    omega
theorem t39_vr : vrB t39 = true := by
  rw [vrB_iff]
  refine ⟨by decide, t39_av, (td_iff t39_av).1 ⟨t39_av, ?_, ?_⟩⟩
  · rw [t39_blk]; simp [Canon.before2]
  · rw [t39_blk]
    intro h n pre suf e
    have hl := congrArg List.length e
    simp [Canon.kidsB] at hl
    have hp : pre = [] := List.eq_nil_of_length_eq_zero (by omega)
    subst hp
    simp [Canon.kidsB] at e
    omega
theorem p39_0 : prA (agP [k39]) (suP [k39]) 0 s39 = s39 ∧ prN (agP [k39]) (suP [k39]) 0 s39 = 2 := by decide +kernel
theorem p39_1 : prA (agP [k39]) (suP [k39]) 1 s39 = t39 ∧ prN (agP [k39]) (suP [k39]) 1 s39 = 10 := by decide +kernel
theorem a39_x : agC k39 (3, 3, 7) = false := by decide +kernel
theorem c39_0 : canonC (covL (prA (agP [k39]) (suP [k39]) 0 s39)) = s39 := by rw [p39_0.1]; exact (vr_td s39_vr).2
theorem c39_1 : canonC (covL (prA (agP [k39]) (suP [k39]) 1 s39)) = t39 := by rw [p39_1.1]; exact (vr_td t39_vr).2
theorem k39s_v : ∀ k ∈ [k39], VCi k := fun k hk => by simp at hk; subst hk; exact k39_v
theorem civs_new (w : World) (t : TypeId) : Reads (w.alloc (.cells #[.int .i64 0, .int .i64 0, .int .i64 0, .int .i64 0, .int .i64 3600000, .int .i64 3600000] t)) (w.heap.size + 1) 6 (some ⟨w.heap.size, 0, none⟩) 1 (civs [k39]) := by
  refine ⟨rfl, fun _ => ⟨_, rfl, by simp, fun j u hu => ?_⟩⟩
  match j, hu with
  | 0, hu => simp [civs, civl, k39] at hu; subst hu; simp [Addr.add]
  | 1, hu => simp [civs, civl, k39] at hu; subst hu; simp [Addr.add]
  | 2, hu => simp [civs, civl, k39] at hu; subst hu; simp [Addr.add]
  | 3, hu => simp [civs, civl, k39] at hu; subst hu; simp [Addr.add]
  | 4, hu => simp [civs, civl, k39] at hu; subst hu; simp [Addr.add]
  | 5, hu => simp [civs, civl, k39] at hu; subst hu; simp [Addr.add]
  | j + 6, hu => simp [civs, civl] at hu
set_option maxHeartbeats 4000000 in
set_option maxRecDepth 100000 in
theorem awake39 (w : World) : Calls Tryz.prog 35 #[] w fun e w' => e = .returned (.bool true) ∧ Below w.heap.size w w' := by
  have KA := fun W => AgreesP_yes k39 (3, 3, 7) W k39_v (by rw [← vl_iff]; decide +kernel)
  rw [a39_x] at KA
  have KA := Lib.hid KA
  have CB := Lib.hid ((Blk.new w 39 #[.int .i64 0, .int .i64 0, .int .i64 0, .int .i64 0, .int .i64 3600000, .int .i64 3600000]).alloc (.cells #[.int .i64 0, .int .i64 0, .int .i64 0, .int .i64 0, .int .i64 0, .int .i64 1] 102))
  have hs := (own_new (w.alloc (.cells #[.int .i64 0, .int .i64 0, .int .i64 0, .int .i64 0, .int .i64 3600000, .int .i64 3600000] 39)) w.heap.size 102 3 2 _ #[.int .i64 0, .int .i64 0, .int .i64 0, .int .i64 0, .int .i64 0, .int .i64 1] rfl (by simp) rfl (by decide))
  have b0 := (bl_alloc w (.cells #[.int .i64 0, .int .i64 0, .int .i64 0, .int .i64 0, .int .i64 3600000, .int .i64 3600000] 39)).alloc (by simp) (.cells #[.int .i64 0, .int .i64 0, .int .i64 0, .int .i64 0, .int .i64 0, .int .i64 1] 102)
  have RS := Reads.of_own hs
  simp only [World.size_alloc] at RS
  have hsz : ((w.alloc (.cells #[.int .i64 0, .int .i64 0, .int .i64 0, .int .i64 0, .int .i64 3600000, .int .i64 3600000] 39)).alloc (.cells #[.int .i64 0, .int .i64 0, .int .i64 0, .int .i64 0, .int .i64 0, .int .i64 1] 102)).heap.size = w.heap.size + 2 := by simp
  go_enter Tryz.func35, Tryz.ntmps35
  go_upto_region 3 with (fail)
  generalize (w.alloc (.cells #[.int .i64 0, .int .i64 0, .int .i64 0, .int .i64 0, .int .i64 3600000, .int .i64 3600000] 39)).alloc (.cells #[.int .i64 0, .int .i64 0, .int .i64 0, .int .i64 0, .int .i64 0, .int .i64 1] 102) = w2 at CB RS b0 hsz ⊢
  have B0 := Lib.hid b0
  have RS := Lib.hid RS
  have hz2 := b0.size
  have hw2 : w.heap.size + 2 ≤ w2.heap.size := by omega
  clear b0 hs hsz
  have bc := bl_alloc w2 (.cells #[.int .i64 0, .int .i64 0, .int .i64 0, .int .i64 0, .int .i64 3600000, .int .i64 3600000] 39)
  have KO0 := Of39_yes [k39] (some ⟨w2.heap.size, 0, none⟩) 1 1 s39 (some ⟨w.heap.size + 1, 0, none⟩) 2 2 0 (w2.alloc (.cells #[.int .i64 0, .int .i64 0, .int .i64 0, .int .i64 0, .int .i64 3600000, .int .i64 3600000] 39)) k39s_v (by omega) (by simpa using civs_new w2 39) ((RS.out.alloc (by omega) _).more (by simp; omega)) s39_vr (by decide) (by decide) (by rw [p39_0.2]; decide)
  rw [c39_0] at KO0
  have KO0 := Lib.hid KO0
  have BC := Lib.hid bc
  have x0 : w2.cell? ⟨w.heap.size, 0, none⟩ = some (.int .i64 0) := CB.out.cell 0
  have x1 : w2.cell? ⟨w.heap.size, 1, none⟩ = some (.int .i64 0) := CB.out.cell 1
  have x2 : w2.cell? ⟨w.heap.size, 2, none⟩ = some (.int .i64 0) := CB.out.cell 2
  have x3 : w2.cell? ⟨w.heap.size, 3, none⟩ = some (.int .i64 0) := CB.out.cell 3
  have x4 : w2.cell? ⟨w.heap.size, 4, none⟩ = some (.int .i64 3600000) := CB.out.cell 4
  have x5 : w2.cell? ⟨w.heap.size, 5, none⟩ = some (.int .i64 3600000) := CB.out.cell 5
  clear bc
  go_wp2_with fail
  (with_reducible refine (KO0.out).mono ?_)
  rintro e w3 ⟨v3, rfl, ho3, hb3⟩
  have b3 := BC.out.trans (hb3.mono BC.out.size)
  have B3 := Lib.hid (B0.out.trans (b3.mono hz2))
  have CB3 := Lib.hid (CB.out.below b3 (by omega))
  have RS3 := Lib.hid (RS.out.below (b3.mono hw2))
  have hs3 : w2.heap.size ≤ w3.heap.size := b3.size
  obtain ⟨Aa, ca, rfl, hra, -, -⟩ := own_form ho3
  have RA := Lib.hid hra
  clear x0 x1 x2 x3 x4 x5 ho3 hra hb3 b3 BC KO0 CB RS
  have bc := bl_alloc w3 (.cells #[.int .i64 0, .int .i64 0, .int .i64 0, .int .i64 0, .int .i64 3600000, .int .i64 3600000] 39)
  have KO1 := Of39_yes [k39] (some ⟨w3.heap.size, 0, none⟩) 1 1 s39 (some ⟨w.heap.size + 1, 0, none⟩) 2 2 1 (w3.alloc (.cells #[.int .i64 0, .int .i64 0, .int .i64 0, .int .i64 0, .int .i64 3600000, .int .i64 3600000] 39)) k39s_v (by omega) (by simpa using civs_new w3 39) ((RS3.out.alloc (by omega) _).more (by simp; omega)) s39_vr (by decide) (by decide) (by rw [p39_1.2]; decide)
  rw [c39_1] at KO1
  have KO1 := Lib.hid KO1
  have BC := Lib.hid bc
  have x0 : w3.cell? ⟨w.heap.size, 0, none⟩ = some (.int .i64 0) := CB3.out.cell 0
  have x1 : w3.cell? ⟨w.heap.size, 1, none⟩ = some (.int .i64 0) := CB3.out.cell 1
  have x2 : w3.cell? ⟨w.heap.size, 2, none⟩ = some (.int .i64 0) := CB3.out.cell 2
  have x3 : w3.cell? ⟨w.heap.size, 3, none⟩ = some (.int .i64 0) := CB3.out.cell 3
  have x4 : w3.cell? ⟨w.heap.size, 4, none⟩ = some (.int .i64 3600000) := CB3.out.cell 4
  have x5 : w3.cell? ⟨w.heap.size, 5, none⟩ = some (.int .i64 3600000) := CB3.out.cell 5
  clear bc
  go_wp2_with fail
  (with_reducible refine (KO1.out).mono ?_)
  rintro e w4 ⟨v4, rfl, ho4, hb4⟩
  have b4 := BC.out.trans (hb4.mono BC.out.size)
  have B4 := Lib.hid (B3.out.trans (b4.mono (by omega)))
  have CB4 := Lib.hid (CB3.out.below b4 (by omega))
  have RS4 := Lib.hid (RS3.out.below (b4.mono (by omega)))
  have RA4 := Lib.hid (RA.out.below b4)
  have hs4 : w3.heap.size ≤ w4.heap.size := b4.size
  obtain ⟨Ab, cb, rfl, hrb, -, -⟩ := own_form ho4
  have RB := Lib.hid hrb
  clear x0 x1 x2 x3 x4 x5 ho4 hrb hb4 b4 BC KO1 CB3 RS3 RA B0 B3
  have x0 : w4.cell? ⟨w.heap.size, 0, none⟩ = some (.int .i64 0) := CB4.out.cell 0
  have x1 : w4.cell? ⟨w.heap.size, 1, none⟩ = some (.int .i64 0) := CB4.out.cell 1
  have x2 : w4.cell? ⟨w.heap.size, 2, none⟩ = some (.int .i64 0) := CB4.out.cell 2
  have x3 : w4.cell? ⟨w.heap.size, 3, none⟩ = some (.int .i64 0) := CB4.out.cell 3
  have x4 : w4.cell? ⟨w.heap.size, 4, none⟩ = some (.int .i64 3600000) := CB4.out.cell 4
  have x5 : w4.cell? ⟨w.heap.size, 5, none⟩ = some (.int .i64 3600000) := CB4.out.cell 5
  unfold civ k39 at KA
  go_wp2_with fail
  (with_reducible refine (KA.out _).mono ?_)
  rintro e w5 ⟨rfl, hb5⟩
  have B5 := Lib.hid (B4.out.trans (hb5.mono B4.out.size))
  have RS5 := Lib.hid (RS4.out.below (hb5.mono (by omega)))
  have RA5 := Lib.hid (RA4.out.below (hb5.mono hs4))
  have RB5 := Lib.hid (RB.out.below hb5)
  have hs5 := hb5.size
  clear x0 x1 x2 x3 x4 x5 hb5 B4 CB4 RS4 RA4 RB KA
  have KE := Equal_any Aa (some ⟨w.heap.size + 1, 0, none⟩) s39.length 2 ca 2 s39 s39 w5 _ _ RA5.out RS5.out (by decide) (by decide)
  rw [decide_eq_true (rfl : s39 = s39)] at KE
  have KE := Lib.hid KE
  go_wp2_with fail
  (with_reducible refine (KE.out).mono ?_)
  rintro e w6 ⟨rfl, q6, rfl⟩
  have ht := own_new (w5.drewN q6) w.heap.size 102 3 4 _ #[.int .i64 1, .int .i64 0, .int .i64 1, .int .i64 1, .int .i64 1, .int .i64 1, .int .i64 1, .int .i64 0, .int .i64 2, .int .i64 1, .int .i64 1, .int .i64 2] rfl B5.out.size rfl (by decide)
  have RT := Reads.of_own ht
  have KF := Equal_any Ab (some ⟨w5.heap.size, 0, none⟩) t39.length 4 cb 4 t39 t39 _ _ _ ((RB5.out.drewN q6).alloc (by exact hs5) _) RT (by decide) (by decide)
  rw [decide_eq_true (rfl : t39 = t39)] at KF
  have KF := Lib.hid KF
  have B6 := Lib.hid ((bl_drewN B5.out q6).alloc B5.out.size (.cells #[.int .i64 1, .int .i64 0, .int .i64 1, .int .i64 1, .int .i64 1, .int .i64 1, .int .i64 1, .int .i64 0, .int .i64 2, .int .i64 1, .int .i64 1, .int .i64 2] 102))
  clear ht RT KE
  go_wp2_with fail
  (with_reducible refine (KF.out).mono ?_)
  rintro e w7 ⟨rfl, q7, rfl⟩
  have B7 := Lib.hid (bl_drewN B6.out q7)
  go_wp2
  go_ret
  exact ⟨rfl, B7.out⟩
end Go.Proofs.YtifdgdgfmjfbdaaGreat
namespace Go.Proofs.YtifdgdgfmjfbdaaGreat
open Go.RowKit
theorem Tryz.infoCircle : (Tryz.prog.info? 39).map (fun i => (i.zero, i.size, i.bytes)) = some (some (.agg #[.int .i64 0, .int .i64 0, .int .i64 0, .int .i64 0, .int .i64 0, .int .i64 0]), 6, 48) := by kernel_rfl
theorem civs_one (L : List Ci) : ∀ u ∈ civs L, u.oneCell' = true := by
  intro u hu
  obtain ⟨x, -, hx⟩ := List.mem_flatMap.1 hu
  exact civl_one x u hx
theorem circ_reads {w : World} {g : Nat} {x : Ci} (h : Blk w g 39 (civl x).toArray) : Reads w w.heap.size 6 (some ⟨g, 0, none⟩) 1 (civs [x]) := by
  refine ⟨rfl, fun _ => ⟨_, rfl, h.lt, fun j u hu => ?_⟩⟩
  have hj : j < 6 := by
    have := (List.getElem?_eq_some_iff.1 hu).1
    simpa [civs, civl] using this
  have e : civs [x] = civl x := by simp [civs]
  rw [e] at hu
  rw [Go.WideShapes.add_plain, Nat.zero_add, h.cell]
  simpa using hu
end Go.Proofs.YtifdgdgfmjfbdaaGreat
