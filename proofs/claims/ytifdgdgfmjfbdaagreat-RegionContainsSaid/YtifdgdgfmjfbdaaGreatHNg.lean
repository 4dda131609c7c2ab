/- The walk of the reference's part of layer 39. -/
import Derived.Deep.DeepCutAuto
import Derived.Test.YtifdgdgfmjfbdaaGreatHNf
import Derived.Test.YtifdgdgfmjfbdaaGreatHJw
set_option linter.unusedVariables false
set_option linter.unusedSimpArgs false
namespace Go.Proofs.YtifdgdgfmjfbdaaGreat
open Go.RowKit
set_option maxHeartbeats 4000000 in
set_option maxRecDepth 100000 in
theorem rAgAll_any (A : Option Addr) (n c : Nat) (L : List Ci) (x : Cl) (w : World) (hr : Reads w w.heap.size 6 A n (civs L)) (hn : n ≤ maxLen) (hL : ∀ k ∈ L, VCi k) (hx : Vl x) :
    Calls Tryz.prog 147 #[.slice A n c, .agg #[.int .i64 x.1, .int .i64 x.2.1, .int .i64 x.2.2]] w fun e w' => e = .returned (.bool (L.all fun k => agC k x)) ∧ Below w.heap.size w w' := by
  have HL := Lib.hid hr.lenC
  have HB0 := Lib.hid (bl_alloc w (.cells #[.int .i64 x.1, .int .i64 x.2.1, .int .i64 x.2.2] 102))
  have HR := Lib.hid (hr.alloc (Nat.le_refl _) (.cells #[.int .i64 x.1, .int .i64 x.2.1, .int .i64 x.2.2] 102))
  have XX := Lib.hid (Blk.new w 102 #[.int .i64 x.1, .int .i64 x.2.1, .int .i64 x.2.2])
  have KA : Hid (∀ k ∈ L, ∀ W, Calls Tryz.prog 205 #[.agg #[.int .i64 x.1, .int .i64 x.2.1, .int .i64 x.2.2], civ k] W fun e w' => e = .returned (.bool (agC k x)) ∧ Below W.heap.size W w') := Lib.hid fun k hk W => rAgrees_any k x W (hL k hk) hx
  obtain ⟨P, hP⟩ : ∃ P : Ci → Bool, (fun k => agC k x) = P := ⟨_, rfl⟩
  have hPk : ∀ k, agC k x = P k := fun k => congrFun hP k
  simp only [hPk] at KA ⊢
  clear hr hL hx hP hPk
  obtain ⟨l, r, cc⟩ := x
  simp only [] at XX HR HB0 KA ⊢
  unfold maxLen at hn
  go_enter Tryz.func147, Tryz.ntmps147
  go_upto_region 1 with (fail)
  generalize w.alloc (.cells #[.int .i64 l, .int .i64 r, .int .i64 cc] 102) = w1 at HB0 HR XX ⊢
  go_wp2
  go_loopg [5] n (fun gg s5 wr => ∃ kk : Nat, kk ≤ n ∧ n - kk ≤ gg ∧ s5 = .int .i64 kk ∧ Below w1.heap.size w1 wr ∧ (L.take kk).all P = true)
  case atStart => exact ⟨0, Nat.zero_le _, by omega, rfl, Below.refl _ w1, rfl⟩
  case round =>
    obtain ⟨kk, hkk, hg, rfl, BW, HA⟩ := hrel
    have HA := Lib.hid HA
    have HBR := Lib.hid (HB0.out.trans (BW.mono HB0.out.size))
    by_cases hlt : kk < n
    · obtain ⟨b, off, rfl, hb, hx⟩ := HR.out.elemC hlt
      have hb1 : b < w1.heap.size := Nat.lt_of_lt_of_le hb HB0.out.size
      have YY := Lib.hid (hx.below BW hb1)
      have XR := Lib.hid (XX.out.below BW XX.out.lt)
      have hbr : b < wr.heap.size := Nat.lt_of_lt_of_le hb1 BW.size
      have hm := gci_mem L kk (by rw [HL.out]; exact hlt)
      have hcall := fun W => KA.out (gci L kk) hm W
      have h1 := Lib.hid (allC_take L P kk (by rw [HL.out]; exact hlt) HA.out)
      have h2 := Lib.hid (allC_of L P kk (by rw [HL.out]; exact hlt))
      unfold civ at hcall
      clear hx hm
      generalize gci L kk = k at YY hcall h1 h2
      obtain ⟨⟨a0, a1, o0, o1⟩, r0, r1⟩ := k
      generalize hq : P ((a0, a1, o0, o1), r0, r1) = q at hcall h1 h2
      have hcall := Lib.hid hcall
      clear hq
      go_upto_region 4 with (fail)
      have c0 : ∀ s : BV wr, s.w.cell? ⟨w.heap.size, 0, none⟩ = some (.int .i64 l) := fun s => (s.hb.cell (p := ⟨w.heap.size, 0, none⟩) XR.out.lt).trans (XR.out.cell 0)
      have c1 : ∀ s : BV wr, s.w.cell? ⟨w.heap.size, 1, none⟩ = some (.int .i64 r) := fun s => (s.hb.cell (p := ⟨w.heap.size, 1, none⟩) XR.out.lt).trans (XR.out.cell 1)
      have c2 : ∀ s : BV wr, s.w.cell? ⟨w.heap.size, 2, none⟩ = some (.int .i64 cc) := fun s => (s.hb.cell (p := ⟨w.heap.size, 2, none⟩) XR.out.lt).trans (XR.out.cell 2)
      have d0 : ∀ s : BV wr, s.w.cell? ⟨b, off + kk * 6, none⟩ = some (.int .i64 a0) := fun s => (YY.out.below s.hb hbr).c0
      have d1 : ∀ s : BV wr, s.w.cell? ⟨b, off + kk * 6 + 1, none⟩ = some (.int .i64 a1) := fun s => (YY.out.below s.hb hbr).c1
      have d2 : ∀ s : BV wr, s.w.cell? ⟨b, off + kk * 6 + 2, none⟩ = some (.int .i64 o0) := fun s => (YY.out.below s.hb hbr).c2
      have d3 : ∀ s : BV wr, s.w.cell? ⟨b, off + kk * 6 + 3, none⟩ = some (.int .i64 o1) := fun s => (YY.out.below s.hb hbr).c3
      have d4 : ∀ s : BV wr, s.w.cell? ⟨b, off + kk * 6 + 4, none⟩ = some (.int .i64 r0) := fun s => (YY.out.below s.hb hbr).c4
      have d5 : ∀ s : BV wr, s.w.cell? ⟨b, off + kk * 6 + 5, none⟩ = some (.int .i64 r1) := fun s => (YY.out.below s.hb hbr).c5
      refine wp_region_bv wr (by kernel_rfl) (by kernel_rfl) (Below.refl _ _) ?_
      (repeat (go_big_quiet_step (first | (go_at_call 205; with_reducible exact quiet_bv (hcall.out _)) | fail)))
      refine wpQuiet_nil ?_
      intro w9 hb9
      have HB9 := Lib.hid (HBR.out.trans (hb9.mono HBR.out.size))
      have HW9 := Lib.hid (BW.trans (hb9.mono BW.size))
      clear c0 c1 c2 d0 d1 d2 d3 d4 d5 hb9 hcall YY XR
      cases q with
      | true =>
        have h3 := Lib.hid (h1.out rfl)
        clear h1 h2
        go_wp2
        go_roundg (n - (kk + 1))
        case measure => omega
        case rel => exact ⟨kk + 1, by omega, by omega, by go_num, HW9.out, h3.out⟩
      | false =>
        have h3 := Lib.hid (h2.out rfl)
        clear h1 h2
        go_wp2
        go_ret
        exact ⟨ret_bool h3.out.symm, HB9.out⟩
    · go_wp2
      go_ret
      have h := HA.out
      rw [List.take_of_length_le (by rw [HL.out]; omega)] at h
      exact ⟨ret_bool h.symm, HBR.out⟩
set_option maxHeartbeats 4000000 in
set_option maxRecDepth 100000 in
theorem rSurely_any (A : Option Addr) (n c : Nat) (L : List Ci) (x : Cl) (w : World) (hr : Reads w w.heap.size 6 A n (civs L)) (hn : n ≤ maxLen) (hL : ∀ k ∈ L, VCi k) (hx : Vl x) :
    Calls Tryz.prog 148 #[.slice A n c, .agg #[.int .i64 x.1, .int .i64 x.2.1, .int .i64 x.2.2]] w fun e w' => e = .returned (.bool (L.all fun k => suC k x)) ∧ Below w.heap.size w w' := by
  have HL := Lib.hid hr.lenC
  have HB0 := Lib.hid (bl_alloc w (.cells #[.int .i64 x.1, .int .i64 x.2.1, .int .i64 x.2.2] 102))
  have HR := Lib.hid (hr.alloc (Nat.le_refl _) (.cells #[.int .i64 x.1, .int .i64 x.2.1, .int .i64 x.2.2] 102))
  have XX := Lib.hid (Blk.new w 102 #[.int .i64 x.1, .int .i64 x.2.1, .int .i64 x.2.2])
  have KA : Hid (∀ k ∈ L, ∀ W, Calls Tryz.prog 206 #[.agg #[.int .i64 x.1, .int .i64 x.2.1, .int .i64 x.2.2], civ k] W fun e w' => e = .returned (.bool (suC k x)) ∧ Below W.heap.size W w') := Lib.hid fun k hk W => rsure_any k x W (hL k hk) hx
  obtain ⟨P, hP⟩ : ∃ P : Ci → Bool, (fun k => suC k x) = P := ⟨_, rfl⟩
  have hPk : ∀ k, suC k x = P k := fun k => congrFun hP k
  simp only [hPk] at KA ⊢
  clear hr hL hx hP hPk
  obtain ⟨l, r, cc⟩ := x
  simp only [] at XX HR HB0 KA ⊢
  unfold maxLen at hn
  go_enter Tryz.func148, Tryz.ntmps148
  go_upto_region 1 with (fail)
  generalize w.alloc (.cells #[.int .i64 l, .int .i64 r, .int .i64 cc] 102) = w1 at HB0 HR XX ⊢
  go_wp2
  go_loopg [5] n (fun gg s5 wr => ∃ kk : Nat, kk ≤ n ∧ n - kk ≤ gg ∧ s5 = .int .i64 kk ∧ Below w1.heap.size w1 wr ∧ (L.take kk).all P = true)
  case atStart => exact ⟨0, Nat.zero_le _, by omega, rfl, Below.refl _ w1, rfl⟩
  case round =>
    obtain ⟨kk, hkk, hg, rfl, BW, HA⟩ := hrel
    have HA := Lib.hid HA
    have HBR := Lib.hid (HB0.out.trans (BW.mono HB0.out.size))
    by_cases hlt : kk < n
    · obtain ⟨b, off, rfl, hb, hx⟩ := HR.out.elemC hlt
      have hb1 : b < w1.heap.size := Nat.lt_of_lt_of_le hb HB0.out.size
      have YY := Lib.hid (hx.below BW hb1)
      have XR := Lib.hid (XX.out.below BW XX.out.lt)
      have hbr : b < wr.heap.size := Nat.lt_of_lt_of_le hb1 BW.size
      have hm := gci_mem L kk (by rw [HL.out]; exact hlt)
      have hcall := fun W => KA.out (gci L kk) hm W
      have h1 := Lib.hid (allC_take L P kk (by rw [HL.out]; exact hlt) HA.out)
      have h2 := Lib.hid (allC_of L P kk (by rw [HL.out]; exact hlt))
      unfold civ at hcall
      clear hx hm
      generalize gci L kk = k at YY hcall h1 h2
      obtain ⟨⟨a0, a1, o0, o1⟩, r0, r1⟩ := k
      generalize hq : P ((a0, a1, o0, o1), r0, r1) = q at hcall h1 h2
      have hcall := Lib.hid hcall
      clear hq
      go_upto_region 4 with (fail)
      have c0 : ∀ s : BV wr, s.w.cell? ⟨w.heap.size, 0, none⟩ = some (.int .i64 l) := fun s => (s.hb.cell (p := ⟨w.heap.size, 0, none⟩) XR.out.lt).trans (XR.out.cell 0)
      have c1 : ∀ s : BV wr, s.w.cell? ⟨w.heap.size, 1, none⟩ = some (.int .i64 r) := fun s => (s.hb.cell (p := ⟨w.heap.size, 1, none⟩) XR.out.lt).trans (XR.out.cell 1)
      have c2 : ∀ s : BV wr, s.w.cell? ⟨w.heap.size, 2, none⟩ = some (.int .i64 cc) := fun s => (s.hb.cell (p := ⟨w.heap.size, 2, none⟩) XR.out.lt).trans (XR.out.cell 2)
      have d0 : ∀ s : BV wr, s.w.cell? ⟨b, off + kk * 6, none⟩ = some (.int .i64 a0) := fun s => (YY.out.below s.hb hbr).c0
      have d1 : ∀ s : BV wr, s.w.cell? ⟨b, off + kk * 6 + 1, none⟩ = some (.int .i64 a1) := fun s => (YY.out.below s.hb hbr).c1
      have d2 : ∀ s : BV wr, s.w.cell? ⟨b, off + kk * 6 + 2, none⟩ = some (.int .i64 o0) := fun s => (YY.out.below s.hb hbr).c2
      have d3 : ∀ s : BV wr, s.w.cell? ⟨b, off + kk * 6 + 3, none⟩ = some (.int .i64 o1) := fun s => (YY.out.below s.hb hbr).c3
      have d4 : ∀ s : BV wr, s.w.cell? ⟨b, off + kk * 6 + 4, none⟩ = some (.int .i64 r0) := fun s => (YY.out.below s.hb hbr).c4
      have d5 : ∀ s : BV wr, s.w.cell? ⟨b, off + kk * 6 + 5, none⟩ = some (.int .i64 r1) := fun s => (YY.out.below s.hb hbr).c5
      refine wp_region_bv wr (by kernel_rfl) (by kernel_rfl) (Below.refl _ _) ?_
      (repeat (go_big_quiet_step (first | (go_at_call 206; with_reducible exact quiet_bv (hcall.out _)) | fail)))
      refine wpQuiet_nil ?_
      intro w9 hb9
      have HB9 := Lib.hid (HBR.out.trans (hb9.mono HBR.out.size))
      have HW9 := Lib.hid (BW.trans (hb9.mono BW.size))
      clear c0 c1 c2 d0 d1 d2 d3 d4 d5 hb9 hcall YY XR
      cases q with
      | true =>
        have h3 := Lib.hid (h1.out rfl)
        clear h1 h2
        go_wp2
        go_roundg (n - (kk + 1))
        case measure => omega
        case rel => exact ⟨kk + 1, by omega, by omega, by go_num, HW9.out, h3.out⟩
      | false =>
        have h3 := Lib.hid (h2.out rfl)
        clear h1 h2
        go_wp2
        go_ret
        exact ⟨ret_bool h3.out.symm, HB9.out⟩
    · go_wp2
      go_ret
      have h := HA.out
      rw [List.take_of_length_le (by rw [HL.out]; omega)] at h
      exact ⟨ret_bool h.symm, HBR.out⟩
end Go.Proofs.YtifdgdgfmjfbdaaGreat
namespace Go.Proofs.YtifdgdgfmjfbdaaGreat
open Go.RowKit
/-- what the reference returns: a list, and how many cells may still be looked at; all of it, if that is not below 0 -/
def RptR (K : List Ci) (lev : Int) (f : Nat) (x : Cl) (left : Int) (w : World) (e : Ending) (w' : World) : Prop :=
  ∃ (v : Value) (L : List Cl) (n : Int), e = .returned (.tuple #[v, .int .i64 n]) ∧ w'.ownsRow w.heap.size 102 3 v L.length (cvs L) ∧ Below w.heap.size w w' ∧ (0 ≤ n → L = prt (agP K) (suP K) lev f x ∧ n = left - (prn (agP K) (suP K) lev f x : Int)) ∧ -1 ≤ n ∧ n < left ∧ (L.length : Int) ≤ left - n
def RptOk (f : Nat) : Prop := ∀ (K : List Ci) (A : Option Addr) (n c : Nat) (l r cc lev left : Int) (w : World), (∀ k ∈ K, VCi k) → n ≤ 1000 → Reads w w.heap.size 6 A n (civs K) → Vl (l, r, cc) → l + (f : Int) = 16 → lev ≤ 16 → 0 ≤ left → left ≤ 1000 →
  Calls Tryz.prog 84 #[.slice A n c, .agg #[.int .i64 l, .int .i64 r, .int .i64 cc], .int .i64 lev, .int .i64 left] w (RptR K lev f (l, r, cc) left w)
set_option maxHeartbeats 8000000 in
set_option maxRecDepth 100000 in
theorem rpt_step (f : Nat) (ih : ∀ f', f = f' + 1 → RptOk f') : RptOk f := by
  intro K A n c l r cc lev left w hK hn hrd hx hl h16 l0 l1
  have hx0 : 0 ≤ l := hx.l0
  have hr1 := (hrd.alloc (Nat.le_refl _) (.cells #[.int .i64 l, .int .i64 r, .int .i64 cc] 102)).more (B' := (w.alloc (.cells #[.int .i64 l, .int .i64 r, .int .i64 cc] 102)).heap.size) (by simp)
  have KA := rAgAll_any A n c K (l, r, cc) _ hr1 (by simp only [maxLen]; omega) hK hx
  have KS := Lib.hid (fun (W : World) (hr : Reads W W.heap.size 6 A n (civs K)) => rSurely_any A n c K (l, r, cc) W hr (by simp only [maxLen]; omega) hK hx)
  have hga : (K.all fun k => agC k (l, r, cc)) = agP K (l, r, cc) := rfl
  rw [hga] at KA
  clear hga
  have G1 := Lib.hid (Blk.new w 102 #[.int .i64 l, .int .i64 r, .int .i64 cc])
  have B0 := Lib.hid (bl_alloc w (.cells #[.int .i64 l, .int .i64 r, .int .i64 cc] 102))
  have RD := Lib.hid hrd
  have HK := Lib.hid hK
  have HX := Lib.hid hx
  have IH := Lib.hid ih
  have hw : wrap64 (left - 1) = left - 1 := IntWalk.wrap64_in _ (by omega)
  simp only [] at KA
  clear hr1 hrd hK hx ih
  by_cases hl0 : left = 0
  · subst hl0
    clear KA KS
    have hw2 : wrap64 (-1) = -1 := IntWalk.wrap64_in _ (by omega)
    go_enter Tryz.func84, Tryz.ntmps84
    go_wp2
    go_ret2
    exact ⟨_, [], -1, by simp, own_nil _ _ _ _, B0.out, fun h => absurd h (by omega), by omega, by omega, by simp⟩
  · have hd0 : decide (left - 1 < 0) = false := decide_eq_false (by omega)
    cases hag : agP K (l, r, cc) with
    | false =>
      rw [hag] at KA
      have KA := Lib.hid KA
      have HF : Hid (prt (agP K) (suP K) lev f (l, r, cc) = [] ∧ prn (agP K) (suP K) lev f (l, r, cc) = 1) := Lib.hid (by cases f <;> (unfold prt prn; rw [hag]; simp))
      clear KS hag
      go_enter Tryz.func84, Tryz.ntmps84
      go_wp2_with fail
      (with_reducible refine (KA.out).mono ?_)
      rintro e w2 ⟨rfl, hb2⟩
      have B2 := Lib.hid (B0.out.trans (hb2.mono B0.out.size))
      clear hb2
      go_wp2
      go_ret2
      exact ⟨_, [], left - 1, rfl, own_nil _ _ _ _, B2.out, fun _ => ⟨HF.out.1.symm, by rw [HF.out.2]; rfl⟩, by omega, by omega, by simp only [List.length_nil]; omega⟩
    | true =>
      rw [hag] at KA
      have KA := Lib.hid KA
      have HGA := Lib.hid hag
      clear hag
      obtain ⟨sv, hsv⟩ : ∃ b, suP K (l, r, cc) = b := ⟨_, rfl⟩
      have hsu : (K.all fun k => suC k (l, r, cc)) = sv := hsv
      rw [hsu] at KS
      clear hsu
      have HSV := Lib.hid hsv
      clear hsv
      by_cases hst : lev ≤ l ∨ sv = true
      · -- a cell that is taken
        have hst' : decide (lev ≤ l) = true ∨ (decide (lev ≤ l) = false ∧ sv = true) := by
          by_cases h : lev ≤ l
          · exact .inl (decide_eq_true h)
          · exact .inr ⟨decide_eq_false h, hst.resolve_left h⟩
        have HF : Hid (prt (agP K) (suP K) lev f (l, r, cc) = [(l, r, cc)] ∧ prn (agP K) (suP K) lev f (l, r, cc) = 1) := Lib.hid (by
          have hst2 : lev ≤ l ∨ suP K (l, r, cc) = true := by rw [HSV.out]; exact hst
          have hga := HGA.out
          cases f with
          | zero => unfold prn prt; rw [if_pos hga]; exact ⟨rfl, rfl⟩
          | succ f => unfold prn prt; rw [if_pos hga, if_pos hga, if_pos hst2, if_pos hst2]; exact ⟨rfl, rfl⟩)
        clear hst
        rcases hst' with hd | ⟨hd, rfl⟩
        · clear KS
          go_enter Tryz.func84, Tryz.ntmps84
          go_wp2_with fail
          (with_reducible refine (KA.out).mono ?_)
          rintro e w2 ⟨rfl, hb2⟩
          have B2 := Lib.hid (B0.out.trans (hb2.mono B0.out.size))
          have g2 := G1.out.below hb2 G1.out.lt
          have y0 : w2.cell? ⟨w.heap.size, 0, none⟩ = some (.int .i64 l) := g2.cell 0
          have y1 : w2.cell? ⟨w.heap.size, 1, none⟩ = some (.int .i64 r) := g2.cell 1
          have y2 : w2.cell? ⟨w.heap.size, 2, none⟩ = some (.int .i64 cc) := g2.cell 2
          have HO := Lib.hid (own_new w2 w.heap.size 102 3 1 _ #[.int .i64 l, .int .i64 r, .int .i64 cc] rfl B2.out.size rfl (by decide))
          have BB := Lib.hid (B2.out.alloc B2.out.size (.cells #[.int .i64 l, .int .i64 r, .int .i64 cc] 102))
          clear hb2 g2
          go_wp2
          go_ret2
          exact ⟨_, [(l, r, cc)], left - 1, rfl, HO.out, BB.out, fun _ => ⟨HF.out.1.symm, by rw [HF.out.2]; rfl⟩, by omega, by omega, by simp only [List.length_cons, List.length_nil]; omega⟩
        · go_enter Tryz.func84, Tryz.ntmps84
          go_wp2_with fail
          (with_reducible refine (KA.out).mono ?_)
          rintro e w2 ⟨rfl, hb2⟩
          have B2 := Lib.hid (B0.out.trans (hb2.mono B0.out.size))
          have G2 := Lib.hid (G1.out.below hb2 G1.out.lt)
          have y0 : w2.cell? ⟨w.heap.size, 0, none⟩ = some (.int .i64 l) := G2.out.cell 0
          have y1 : w2.cell? ⟨w.heap.size, 1, none⟩ = some (.int .i64 r) := G2.out.cell 1
          have y2 : w2.cell? ⟨w.heap.size, 2, none⟩ = some (.int .i64 cc) := G2.out.cell 2
          have KS2 := Lib.hid (KS.out w2 ((RD.out.below B2.out).more B2.out.size))
          clear hb2 KS
          go_wp2_with fail
          (with_reducible refine (KS2.out).mono ?_)
          rintro e w3 ⟨rfl, hb3⟩
          have B3 := Lib.hid (B2.out.trans (hb3.mono B2.out.size))
          have g3 := G2.out.below hb3 G2.out.lt
          clear y0 y1 y2
          have y0 : w3.cell? ⟨w.heap.size, 0, none⟩ = some (.int .i64 l) := g3.cell 0
          have y1 : w3.cell? ⟨w.heap.size, 1, none⟩ = some (.int .i64 r) := g3.cell 1
          have y2 : w3.cell? ⟨w.heap.size, 2, none⟩ = some (.int .i64 cc) := g3.cell 2
          have HO := Lib.hid (own_new w3 w.heap.size 102 3 1 _ #[.int .i64 l, .int .i64 r, .int .i64 cc] rfl B3.out.size rfl (by decide))
          have BB := Lib.hid (B3.out.alloc B3.out.size (.cells #[.int .i64 l, .int .i64 r, .int .i64 cc] 102))
          clear hb3 g3
          go_wp2
          go_ret2
          exact ⟨_, [(l, r, cc)], left - 1, rfl, HO.out, BB.out, fun _ => ⟨HF.out.1.symm, by rw [HF.out.2]; rfl⟩, by omega, by omega, by simp only [List.length_cons, List.length_nil]; omega⟩
      · -- its children
        have hd : decide (lev ≤ l) = false := decide_eq_false fun h => hst (.inl h)
        have hsf : sv = false := by
          cases sv with
          | false => rfl
          | true => exact absurd (.inr rfl) hst
        subst hsf
        have hlt : l < lev := by
          have : ¬ lev ≤ l := fun h => hst (.inl h)
          omega
        obtain ⟨f', rfl⟩ : ∃ f', f = f' + 1 := ⟨f - 1, by omega⟩
        have IH2 := Lib.hid (IH.out f' rfl)
        obtain ⟨v0, v1, v2, v3, v4, v5⟩ := vldB_true.1 ((vl_iff (l, r, cc)).2 HX.out)
        have hpw := pw_bd v1
        simp only [] at v0 v1 v2 v3 v4 v5 hpw
        have hl16 : l < 16 := by omega
        have KC := Lib.hid (fun W => refChildren_any l r cc W v0 v1 v2 (by omega) v4 (by omega))
        rw [show kids l r cc = kidsC (l, r, cc) from rfl] at KC
        have HA : Hid (prt (agP K) (suP K) lev (f' + 1) (l, r, cc) = (kidsC (l, r, cc)).flatMap (prt (agP K) (suP K) lev f') ∧ prn (agP K) (suP K) lev (f' + 1) (l, r, cc) = 1 + ((kidsC (l, r, cc)).map (prn (agP K) (suP K) lev f')).sum) := Lib.hid (by
          have hst2 : ¬ (lev ≤ (l, r, cc).1 ∨ suP K (l, r, cc) = true) := by rw [HSV.out]; exact hst
          conv => lhs; lhs; unfold prt
          conv => rhs; lhs; unfold prn
          rw [if_pos HGA.out, if_neg hst2, if_pos HGA.out, if_neg hst2]
          exact ⟨rfl, rfl⟩)
        have HKV : Hid (AllV (kidsC (l, r, cc))) := Lib.hid (kids_vl HX.out hl16)
        have HKL : Hid (∀ x ∈ kidsC (l, r, cc), x.1 + (f' : Int) = 16) := Lib.hid (fun x hx => (kid_one (by simpa using hl) x hx).1)
        have hkn : (kidsC (l, r, cc)).length = 4 := rfl
        obtain ⟨i0, hi0, hz0, hz1, hzb⟩ := info_parts Tryz.infoCell
        generalize kidsC (l, r, cc) = KK at KC HA HKV HKL hkn
        clear v0 v1 v2 v3 v4 v5 hpw hl hlt hst IH HGA HSV
        go_enter Tryz.func84, Tryz.ntmps84
        go_wp2_with fail
        (with_reducible refine (KA.out).mono ?_)
        rintro e w2 ⟨rfl, hb2⟩
        have B2 := Lib.hid (B0.out.trans (hb2.mono B0.out.size))
        have G2 := Lib.hid (G1.out.below hb2 G1.out.lt)
        have y0 : w2.cell? ⟨w.heap.size, 0, none⟩ = some (.int .i64 l) := G2.out.cell 0
        have y1 : w2.cell? ⟨w.heap.size, 1, none⟩ = some (.int .i64 r) := G2.out.cell 1
        have y2 : w2.cell? ⟨w.heap.size, 2, none⟩ = some (.int .i64 cc) := G2.out.cell 2
        have KS2 := Lib.hid (KS.out w2 ((RD.out.below B2.out).more B2.out.size))
        clear hb2 KS KA
        go_wp2_with fail
        (with_reducible refine (KS2.out).mono ?_)
        rintro e w3 ⟨rfl, hb3⟩
        have B3 := Lib.hid (B2.out.trans (hb3.mono B2.out.size))
        have g3 := G2.out.below hb3 G2.out.lt
        clear y0 y1 y2
        have y0 : w3.cell? ⟨w.heap.size, 0, none⟩ = some (.int .i64 l) := g3.cell 0
        have y1 : w3.cell? ⟨w.heap.size, 1, none⟩ = some (.int .i64 r) := g3.cell 1
        have y2 : w3.cell? ⟨w.heap.size, 2, none⟩ = some (.int .i64 cc) := g3.cell 2
        clear hb3 g3 G2 KS2
        go_wp2_with fail
        (with_reducible refine (KC.out _).mono ?_)
        rintro e w4 ⟨vk, rfl, hownk, hb4⟩
        rw [hkn] at hownk
        obtain ⟨Ak, ck, rfl, hrk, -, -⟩ := own_form hownk
        have RK := Lib.hid hrk
        have B4 := Lib.hid (B3.out.trans (hb4.mono B3.out.size))
        clear hownk hrk hb4 y0 y1 y2 KC
        go_wp2
        go_loopg [3, 11, 12, 13, 14] 4 (fun gz s3 s11 s12 s13 s14 wr => ∃ (k : Nat) (L : List Cl) (u : Value) (m : Int), k ≤ 4 ∧ k + gz = 4 ∧ s12 = .int .i64 k ∧ s3 = .int .i64 m ∧ s11 = u ∧ wr.ownsRow w4.heap.size 102 3 u L.length (cvs L) ∧ Below w4.heap.size w4 wr ∧ (0 ≤ m → L = otT (prt (agP K) (suP K) lev f') KK k ∧ m = left - 1 - (lkT (prn (agP K) (suP K) lev f') KK k : Int)) ∧ -1 ≤ m ∧ m ≤ left - 1 ∧ (L.length : Int) ≤ left - 1 - m)
        case atStart => exact ⟨0, [], _, left - 1, by omega, by omega, rfl, rfl, rfl, own_nil _ _ _ _, Below.refl _ _, fun _ => ⟨rfl, by simp [lkT]⟩, by omega, by omega, by simp⟩
        case round =>
          obtain ⟨k, L, u, m, hk4, hkg, rfl, rfl, rfl, hown, hbr, hall, hm1, hm2, hm3⟩ := hrel
          have hLlen : L.length ≤ 2000 := by omega
          have HOW := Lib.hid hown
          have HAL := Lib.hid hall
          have HBR := Lib.hid hbr
          clear hown hall hbr
          by_cases hk : k < 4
          · have d0 : decide ((k : Int) < 4) = true := decide_eq_true (by omega)
            by_cases hm0 : 0 ≤ m
            · have d1 : decide (0 ≤ m) = true := decide_eq_true hm0
              obtain ⟨b, off, rfl, hb, x0, x1, x2⟩ := RK.out.elem hk
              have hmem : gt KK k ∈ KK := by simp [gt, show k < KK.length by omega]
              have hxv := HKV.out _ hmem
              have hxl := HKL.out _ hmem
              obtain ⟨x, hx'⟩ : ∃ x, gt KK k = x := ⟨_, rfl⟩
              have hgk : Hid (gt KK k = x) := Lib.hid hx'
              rw [hx'] at x0 x1 x2 hxv hxl
              clear hx' hmem
              have y0 := (HBR.out.cell (p := ⟨b, off + k * 3, none⟩) hb).trans x0
              have y1 := (HBR.out.cell (p := ⟨b, off + k * 3 + 1, none⟩) hb).trans x1
              have y2 := (HBR.out.cell (p := ⟨b, off + k * 3 + 2, none⟩) hb).trans x2
              have BR := B4.out.trans (HBR.out.mono B4.out.size)
              have IH3 := IH2.out K A n c x.1 x.2.1 x.2.2 lev m wr HK.out hn ((RD.out.below BR).more BR.size) hxv hxl h16 hm0 (by omega)
              obtain ⟨x_0, x_1, x_2⟩ := x
              simp only [] at y0 y1 y2 IH3 hxl
              have IH3 := Lib.hid IH3
              clear x0 x1 x2 hxv hxl BR
              go_wp2_with fail
              (with_reducible refine (IH3.out).mono ?_)
              rintro e w9 ⟨v9, L9, n9, rfl, ho9, hT, ha9, hn9a, hn9b, hl9⟩
              have B9 := Lib.hid (HBR.out.trans (hT.mono HBR.out.size))
              have hHA : 0 ≤ n9 → L ++ L9 = otT (prt (agP K) (suP K) lev f') KK (k + 1) ∧ n9 = left - 1 - (lkT (prn (agP K) (suP K) lev f') KK (k + 1) : Int) := fun h => by
                obtain ⟨e1, e2⟩ := ha9 h
                obtain ⟨e3, e4⟩ := HAL.out hm0
                rw [otT_succ _ _ _ (by omega), lkT_succ _ _ _ (by omega), hgk.out, ← e1, ← e3]
                exact ⟨rfl, by omega⟩
              have HHA := Lib.hid hHA
              have hlen9 : L9.length ≤ 2000 := by omega
              obtain ⟨A9, c9, rfl, hr9, -, -⟩ := own_form ho9
              have R9 := Lib.hid hr9
              have OU := Lib.hid (own_bl HOW.out hT (Nat.le_refl _))
              have hbz : w4.heap.size ≤ w9.heap.size := B9.out.size
              clear hT hHA ha9 ho9 hr9 HOW HAL y0 y1 y2
              go_wp2_with (at_builtin; (refine wpList_append_any _ rfl (.tmp 59) (.tmp 60) _ rfl w4.heap.size 102 i0 _ 3 24 Tryz.underlying48 hi0 hz0 hz1 hzb rfl (by decide) u11 L.length (cvs L) rfl OU.out w9.heap.size A9 L9.length c9 (cvs L9) rfl R9.out (cvs_one _) (by simp only [maxLen]; omega) (by omega) hbz ?_); intro v2 w2' hown2 hg2 hat2; rw [← cvs_append, ← List.length_append] at hown2)
              go_roundg (4 - (k + 1))
              case measure => omega
              case rel => exact ⟨k + 1, L ++ L9, v2, n9, by omega, by omega, by go_num, rfl, rfl, hown2, B9.out.grown hg2 hbz (own_base OU.out), HHA.out, hn9a, by omega, by rw [List.length_append]; omega⟩
            · have d1 : decide (0 ≤ m) = false := decide_eq_false hm0
              have B9 := Lib.hid (B4.out.trans (HBR.out.mono B4.out.size))
              have OW := Lib.hid (own_mono HOW.out B4.out.size)
              clear HOW HAL HBR
              go_wp2
              go_ret2
              exact ⟨u11, L, m, rfl, OW.out, B9.out, fun h => absurd h (by omega), hm1, by omega, by omega⟩
          · have hk4' : k = 4 := by omega
            subst hk4'
            have HAF : Hid (0 ≤ m → L = prt (agP K) (suP K) lev (f' + 1) (l, r, cc) ∧ m = left - (prn (agP K) (suP K) lev (f' + 1) (l, r, cc) : Int)) := Lib.hid (fun h => by
              obtain ⟨e3, e4⟩ := HAL.out h
              rw [HA.out.1, HA.out.2, ← lkT_all, ← otT_all, hkn]
              exact ⟨e3, by omega⟩)
            have B9 := Lib.hid (B4.out.trans (HBR.out.mono B4.out.size))
            have OW := Lib.hid (own_mono HOW.out B4.out.size)
            clear HOW HAL HBR
            go_wp2
            go_ret2
            exact ⟨u11, L, m, rfl, OW.out, B9.out, HAF.out, hm1, by omega, by omega⟩
theorem rpt_ok (f : Nat) : RptOk f := by
  induction f with
  | zero => exact rpt_step 0 (fun f' h => absurd h (by omega))
  | succ f ih => exact rpt_step (f + 1) (fun f' h => by cases h; exact ih)
end Go.Proofs.YtifdgdgfmjfbdaaGreat
