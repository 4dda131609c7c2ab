/- The last step of a row where the call left nothing changed that was there. -/
import Derived.Test.YtlhdneeiikemjaaGreatRows
import Derived.Below
import Derived.ProofKit
import Derived.Lib.SmallJoins
import Derived.Test.YtlhdneeiikemjaaGreatGYd
import Derived.Test.YtlhdneeiikemjaaGreatGYe
import Derived.Test.YtlhdneeiikemjaaGreatGAwake
set_option linter.unusedVariables false
set_option linter.unusedSimpArgs false
/- The walk of the law CellsAreas. -/
namespace Go.Proofs.YtlhdneeiikemjaaGreat
open Go.RowKit
def feq (a b a' b' : Int) : Bool := decide (a = a' ∧ b = b')
theorem feq_same (a b : Int) : feq a b a b = true := by simp [feq]
theorem equalInFixed (a b a' b' : Int) (w : World) : (Op.equalIn 10000 31 (.agg #[.int .i64 a, .int .i64 b]) (.agg #[.int .i64 a', .int .i64 b'])).run Tryz.prog w = .ok (feq a b a' b') w := by
  have u3 := Tryz.underlying3
  have a3 := Tryz.isAgg3
  have z3 := Tryz.sizeOf3
  have hS : Tryz.prog.underlying 31 = some (.struct (Tryz.prog.fieldsOf 31)) := by kernel_rfl
  have hp : Tryz.prog.stoodInHeld 31 = false := by kernel_rfl
  rw [show (10000 : Nat) = 9999 + 1 from rfl, run_equalIn_agg w 9999 31 _ _ hS hp]
  simp only [Program.fieldsOf, Tryz.underlying31]
  go_simp
  by_cases h1 : a = a' <;> by_cases h2 : b = b' <;> simp [feq, h1, h2]
theorem eqlFixed (a b a' b' : Int) (w : World) : (binOp .eql 31 (.agg #[.int .i64 a, .int .i64 b]) (.agg #[.int .i64 a', .int .i64 b'])).run Tryz.prog w = .ok (.bool (feq a b a' b')) w := by
  rw [run_eql_struct, equalInFixed]; rfl
theorem neqFixed (a b a' b' : Int) (w : World) : (binOp .neq 31 (.agg #[.int .i64 a, .int .i64 b]) (.agg #[.int .i64 a', .int .i64 b'])).run Tryz.prog w = .ok (.bool (!(feq a b a' b'))) w := by
  rw [run_neq_struct, equalInFixed]; rfl
set_option maxHeartbeats 400000 in
theorem Contains_no (A : Option Addr) (n c : Nat) (L : List Cl) (a b : Int) (w : World) (hr : Reads w w.heap.size 3 A n (cvs L)) (hn : n ≤ maxLen) (h : vrB L = false ∨ vptB a b = false) :
    Calls Tryz.prog 9 #[.slice A n c, .agg #[.int .i64 a, .int .i64 b]] w fun e w' => e = .returned (.tuple #[.bool false, .int .i64 1]) ∧ Below w.heap.size w w' := by
  have RD : Hid (∀ W, Below w.heap.size w W → Reads W W.heap.size 3 A n (cvs L)) := Lib.hid (fun W hW => (hr.below hW).more hW.size)
  have K1 := Lib.hid (fun W hW => vr_yes A n c L (vrB L) rfl W (RD.out W hW) hn)
  have K2 := Lib.hid (fun W => vpt_any a b W)
  have b0 := bl_alloc w (.cells #[.int .i64 a, .int .i64 b] 24)
  clear hr hn RD
  cases hv : vrB L with
  | false =>
    rw [hv] at K1
    clear h hv
    go_enter Tryz.func9, Tryz.ntmps9
    go_wp2_with fail
    (with_reducible refine (K1.out _ b0).mono ?_)
    rintro e w1 ⟨rfl, hb1⟩
    go_wp2
    go_ret2
    exact ⟨rfl, b0.trans (hb1.mono (by simp))⟩
  | true =>
    rw [hv] at K1
    have hp : vptB a b = false := by
      rcases h with h | h
      · rw [hv] at h; simp at h
      · exact h
    rw [hp] at K2
    clear h hv hp
    go_enter Tryz.func9, Tryz.ntmps9
    go_wp2_with fail
    (with_reducible refine (K1.out _ b0).mono ?_)
    rintro e w1 ⟨rfl, hb1⟩
    have hb1' := b0.trans (hb1.mono (by simp))
    have y0 := (hb1.cell (p := ⟨w.heap.size, 0, none⟩) (by simp)).trans (show _ = some (.int .i64 a) by simp)
    have y1 := (hb1.cell (p := ⟨w.heap.size, 1, none⟩) (by simp)).trans (show _ = some (.int .i64 b) by simp)
    clear hb1 b0
    go_wp2_with fail
    (with_reducible refine (K2.out _).mono ?_)
    rintro e w2 ⟨rfl, hb2⟩
    go_wp2
    go_ret2
    exact ⟨rfl, hb1'.trans (hb2.mono hb1'.size)⟩
theorem two_Dp {w w1 : World} {a b : Int} {t t' : TypeId} {v : Value} (hb : Below w.heap.size w w1) (h : D2 w1 w.heap.size a b) : D2 (w1.alloc (.cells #[v] t')) w.heap.size a b := h.alloc _
set_option maxHeartbeats 4000000 in
set_option maxRecDepth 100000 in
theorem areas_any (A : Option Addr) (n ca : Nat) (L : List Cl) (a b : Int) (w : World) (hr : Reads w w.heap.size 3 A n (cvs L)) (hn : n ≤ ca) (hca : ca ≤ maxLen) :
    Calls Tryz.prog 3 #[.slice A n ca, .agg #[.int .i64 a, .int .i64 b]] w fun e w' => e = .returned (.bool true) ∧ Below w.heap.size w w' := by
  have hl := hr.len
  have hnm : n ≤ maxLen := Nat.le_trans hn hca
  have RD : ∀ W, Below w.heap.size w W → Reads W W.heap.size 3 A n (cvs L) := fun W hW => (hr.below hW).more hW.size
  obtain ⟨vb, hvb⟩ : ∃ vb, vb = vrB L := ⟨_, rfl⟩
  have KR : Hid (∀ W, Below w.heap.size w W → Calls Tryz.prog 11 #[.slice A n ca] W fun e w' => e = .returned (.bool vb) ∧ Below W.heap.size W w') := Lib.hid (fun W hW => by rw [hvb, ← rvrB_eq]; exact refVR_any A n ca L W (RD W hW) hn hca)
  have KA := Lib.hid (fun W => awake38 W)
  have b0 := bl_alloc w (.cells #[.int .i64 a, .int .i64 b] 24)
  have P0 := Lib.hid (D2.new w a b 24)
  have KF : Hid (∀ (g : Nat) (W : World), W.cell? ⟨g, 0, none⟩ = some (.slice A n ca) → Calls Tryz.prog 8 #[.slice (some ⟨g, 0, none⟩) 1 1] W fun e w' => e = .returned (.bool (decide (n ≤ 150))) ∧ w' = W) := Lib.hid (fun g W h => few_one g n ca A W h hnm)
  by_cases hs : n ≤ 150
  · rw [decide_eq_true hs] at KF
    cases vb with
    | false =>
      have KC := Lib.hid (fun W hW => Contains_no A n ca L a b W (RD W hW) hnm (.inl hvb.symm))
      have KQ := Lib.hid (fun W hW => Area_no A n ca L W (RD W hW) hnm hvb.symm)
      have hq := eqlFixed
      have k1 := feq_same 0 0
      clear RD hr hvb hl hs
      unfold maxLen at hca hnm
      go_enter Tryz.func3, Tryz.ntmps3
      go_wp2_with fail
      (with_reducible refine (KA.out _).mono ?_)
      rintro e w1 ⟨rfl, hb1⟩
      have P1 := Lib.hid (P0.out.below hb1 P0.out.lt)
      have b1 := b0.trans (hb1.mono b0.size)
      clear hb1 KA b0 P0
      go_wp2_with fail
      (with_reducible refine (KF.out _ _ (by simp)).mono ?_)
      rintro e w2 ⟨rfl, hw2⟩
      have P2 : Hid (D2 w2 w.heap.size a b) := Lib.hid (by rw [hw2]; exact P1.out.alloc _)
      have hb2 : Below w.heap.size w w2 := by rw [hw2]; exact b1.alloc b1.size _
      clear hw2 b1 KF P1
      obtain ⟨pt, p0, p1, pf0, pf1⟩ := P2.out
      go_wp2_with fail
      (with_reducible refine (KC.out _ hb2).mono ?_)
      rintro e w3 ⟨rfl, hb3⟩
      clear pt p0 p1 pf0 pf1 P2
      have hb3' := hb2.trans (hb3.mono hb2.size)
      clear hb3 hb2 KC
      go_wp2_with fail
      (with_reducible refine (KQ.out _ hb3').mono ?_)
      rintro e w4 ⟨rfl, hb4⟩
      have hb4' := hb3'.trans (hb4.mono hb3'.size)
      clear hb4 hb3' KQ
      have hb5 := hb4'.alloc hb4'.size (.cells #[.int .i64 0, .int .i64 0] 31)
      go_wp2_with fail
      (with_reducible refine (KR.out _ hb5).mono ?_)
      rintro e w6 ⟨rfl, hb6⟩
      have D6 := (D2.new w4 0 0 31).below hb6 (by simp)
      obtain ⟨dt, d0, d1, df0, df1⟩ := D6
      have hb6' := hb5.trans (hb6.mono hb5.size)
      clear hb6 hb5 KR
      go_wp2
      go_ret
      exact ⟨rfl, hb6'⟩
    | true =>
      have KQ := Lib.hid (fun W hW => Area_any A n ca L W (RD W hW) hnm hvb.symm)
      have KG := Lib.hid (fun W hW => rArea_any A n ca L W (RD W hW) hvb.symm)
      have hq := neqFixed
      have k1 := feq_same (arL L) (arH L)
      generalize arL L = sa at *
      generalize arH L = sb at *
      have KV := Lib.hid (fun W => refVpt_any a b W)
      have hn4 : n ≤ 4000 := by omega
      cases hp : vptB a b with
      | false =>
        have KC := Lib.hid (fun W hW => Contains_no A n ca L a b W (RD W hW) hnm (.inr hp))
        rw [hp] at KV
        clear RD hr hvb hl hs hp
        unfold maxLen at hca hnm
        go_enter Tryz.func3, Tryz.ntmps3
        go_wp2_with fail
        (with_reducible refine (KA.out _).mono ?_)
        rintro e w1 ⟨rfl, hb1⟩
        have P1 := Lib.hid (P0.out.below hb1 P0.out.lt)
        have b1 := b0.trans (hb1.mono b0.size)
        clear hb1 KA b0 P0
        go_wp2_with fail
        (with_reducible refine (KF.out _ _ (by simp)).mono ?_)
        rintro e w2 ⟨rfl, hw2⟩
        have P2 : Hid (D2 w2 w.heap.size a b) := Lib.hid (by rw [hw2]; exact P1.out.alloc _)
        have hb2 : Below w.heap.size w w2 := by rw [hw2]; exact b1.alloc b1.size _
        clear hw2 b1 KF P1
        obtain ⟨pt, p0, p1, pf0, pf1⟩ := P2.out
        go_wp2_with fail
        (with_reducible refine (KC.out _ hb2).mono ?_)
        rintro e w3 ⟨rfl, hb3⟩
        clear pt p0 p1 pf0 pf1
        have hb3' := hb2.trans (hb3.mono hb2.size)
        have P3 := Lib.hid (P2.out.below hb3 P2.out.lt)
        clear hb3 hb2 KC P2
        go_wp2_with fail
        (with_reducible refine (KQ.out _ hb3').mono ?_)
        rintro e w4 ⟨rfl, hb4⟩
        have hb4' := hb3'.trans (hb4.mono hb3'.size)
        have P4 := Lib.hid (P3.out.below hb4 P3.out.lt)
        clear hb4 hb3' KQ P3
        have hb5 := hb4'.alloc hb4'.size (.cells #[.int .i64 sa, .int .i64 sb] 31)
        have P5 := Lib.hid (P4.out.alloc (.cells #[.int .i64 sa, .int .i64 sb] 31))
        go_wp2_with fail
        (with_reducible refine (KR.out _ hb5).mono ?_)
        rintro e w6 ⟨rfl, hb6⟩
        have D6 := Lib.hid ((D2.new w4 sa sb 31).below hb6 (by simp))
        have P6 := Lib.hid (P5.out.below hb6 P5.out.lt)
        have hb6' := hb5.trans (hb6.mono hb5.size)
        clear hb6 hb5 KR P4 P5
        go_upto_region 9 with fail
        have c0 : ∀ s : BV w6, s.w.cell? ⟨w4.heap.size, 0, none⟩ = some (.int .i64 sa) := fun s => (s.hb.cell (p := ⟨w4.heap.size, 0, none⟩) D6.out.lt).trans D6.out.c0
        have c1 : ∀ s : BV w6, s.w.cell? ⟨w4.heap.size, 1, none⟩ = some (.int .i64 sb) := fun s => (s.hb.cell (p := ⟨w4.heap.size, 1, none⟩) D6.out.lt).trans D6.out.c1
        have KG2 : Hid (∀ s : BV w6, Calls Tryz.prog 12 #[.slice A n ca] s.w fun e w' => e = .returned (.agg #[.int .i64 sa, .int .i64 sb]) ∧ Below s.w.heap.size s.w w') := Lib.hid (fun s => KG.out s.w (hb6'.trans (s.hb.mono hb6'.size)))
        refine wp_region_bv w6 (by kernel_rfl) (by kernel_rfl) (Below.refl _ _) ?_
        (repeat (go_big_quiet_step (first | (go_at_call 12; with_reducible exact quiet_bv (KG2.out _)) | fail)))
        refine wpQuiet_nil ?_
        intro w9 hb9
        have P9 := Lib.hid (P6.out.below hb9 P6.out.lt)
        have hb9' := hb6'.trans (hb9.mono hb6'.size)
        clear c0 c1 KG2 KG hb9 hb6' D6 P6
        obtain ⟨pt, p0, p1, pf0, pf1⟩ := P9.out
        go_wp2_with fail
        (with_reducible refine (KV.out _).mono ?_)
        rintro e w10 ⟨rfl, hb10⟩
        clear pt p0 p1 pf0 pf1
        go_wp2
        go_ret
        exact ⟨rfl, hb9'.trans (hb10.mono hb9'.size)⟩
      | true =>
        have KC := Lib.hid (fun W hW => Contains_any A n ca L a b W (RD W hW) hnm hvb.symm hp)
        have KD := Lib.hid (fun W hW => rCon_any A n ca L a b W (RD W hW) hn4 (vr_parts hvb.symm).2.2 hp)
        generalize conB L a b = z at *
        rw [hp] at KV
        clear RD hr hvb hl hs hp
        unfold maxLen at hca hnm
        cases z
        all_goals
          go_enter Tryz.func3, Tryz.ntmps3
          go_wp2_with fail
          (with_reducible refine (KA.out _).mono ?_)
          rintro e w1 ⟨rfl, hb1⟩
          have P1 := Lib.hid (P0.out.below hb1 P0.out.lt)
          have b1 := b0.trans (hb1.mono b0.size)
          clear hb1 KA b0 P0
          go_wp2_with fail
          (with_reducible refine (KF.out _ _ (by simp)).mono ?_)
          rintro e w2 ⟨rfl, hw2⟩
          have P2 : Hid (D2 w2 w.heap.size a b) := Lib.hid (by rw [hw2]; exact P1.out.alloc _)
          have hb2 : Below w.heap.size w w2 := by rw [hw2]; exact b1.alloc b1.size _
          clear hw2 b1 KF P1
          obtain ⟨pt, p0, p1, pf0, pf1⟩ := P2.out
          go_wp2_with fail
          (with_reducible refine (KC.out _ hb2).mono ?_)
          rintro e w3 ⟨rfl, hb3⟩
          clear pt p0 p1 pf0 pf1
          have hb3' := hb2.trans (hb3.mono hb2.size)
          have P3 := Lib.hid (P2.out.below hb3 P2.out.lt)
          clear hb3 hb2 KC P2
          go_wp2_with fail
          (with_reducible refine (KQ.out _ hb3').mono ?_)
          rintro e w4 ⟨rfl, hb4⟩
          have hb4' := hb3'.trans (hb4.mono hb3'.size)
          have P4 := Lib.hid (P3.out.below hb4 P3.out.lt)
          clear hb4 hb3' KQ P3
          have hb5 := hb4'.alloc hb4'.size (.cells #[.int .i64 sa, .int .i64 sb] 31)
          have P5 := Lib.hid (P4.out.alloc (.cells #[.int .i64 sa, .int .i64 sb] 31))
          go_wp2_with fail
          (with_reducible refine (KR.out _ hb5).mono ?_)
          rintro e w6 ⟨rfl, hb6⟩
          have D6 := Lib.hid ((D2.new w4 sa sb 31).below hb6 (by simp))
          have P6 := Lib.hid (P5.out.below hb6 P5.out.lt)
          have hb6' := hb5.trans (hb6.mono hb5.size)
          clear hb6 hb5 KR P4 P5
          go_upto_region 9 with fail
          have c0 : ∀ s : BV w6, s.w.cell? ⟨w4.heap.size, 0, none⟩ = some (.int .i64 sa) := fun s => (s.hb.cell (p := ⟨w4.heap.size, 0, none⟩) D6.out.lt).trans D6.out.c0
          have c1 : ∀ s : BV w6, s.w.cell? ⟨w4.heap.size, 1, none⟩ = some (.int .i64 sb) := fun s => (s.hb.cell (p := ⟨w4.heap.size, 1, none⟩) D6.out.lt).trans D6.out.c1
          have KG2 : Hid (∀ s : BV w6, Calls Tryz.prog 12 #[.slice A n ca] s.w fun e w' => e = .returned (.agg #[.int .i64 sa, .int .i64 sb]) ∧ Below s.w.heap.size s.w w') := Lib.hid (fun s => KG.out s.w (hb6'.trans (s.hb.mono hb6'.size)))
          refine wp_region_bv w6 (by kernel_rfl) (by kernel_rfl) (Below.refl _ _) ?_
          (repeat (go_big_quiet_step (first | (go_at_call 12; with_reducible exact quiet_bv (KG2.out _)) | fail)))
          refine wpQuiet_nil ?_
          intro w9 hb9
          have P9 := Lib.hid (P6.out.below hb9 P6.out.lt)
          have hb9' := hb6'.trans (hb9.mono hb6'.size)
          clear c0 c1 KG2 KG hb9 hb6' D6 P6
          obtain ⟨pt, p0, p1, pf0, pf1⟩ := P9.out
          go_wp2_with fail
          (with_reducible refine (KV.out _).mono ?_)
          rintro e w10 ⟨rfl, hb10⟩
          clear pt p0 p1 pf0 pf1
          have P10 := Lib.hid (P9.out.below hb10 P9.out.lt)
          have hb10' := hb9'.trans (hb10.mono hb9'.size)
          clear hb10 hb9' P9
          obtain ⟨pt, p0, p1, pf0, pf1⟩ := P10.out
          go_wp2_with fail
          (with_reducible refine (KD.out _ hb10').mono ?_)
          rintro e w11 ⟨rfl, hb11⟩
          go_wp2
          go_ret
          exact ⟨rfl, hb10'.trans (hb11.mono hb10'.size)⟩
  · rw [decide_eq_false hs] at KF
    clear RD hr KR hvb hl
    unfold maxLen at hca hnm
    go_enter Tryz.func3, Tryz.ntmps3
    go_wp2_with fail
    (with_reducible refine (KA.out _).mono ?_)
    rintro e w1 ⟨rfl, hb1⟩
    have b1 := b0.trans (hb1.mono b0.size)
    go_wp2_with fail
    (with_reducible refine (KF.out _ _ (by simp)).mono ?_)
    rintro e w2 ⟨rfl, hw2⟩
    have hb2 : Below w.heap.size w w2 := by rw [hw2]; exact b1.alloc b1.size _
    clear hw2 hb1 KF KA
    go_wp2
    go_ret
    exact ⟨rfl, hb2⟩
end Go.Proofs.YtlhdneeiikemjaaGreat
namespace Go.Proofs.YtlhdneeiikemjaaGreat
open Go.ChangeShapes Go.WideShapes Go.ChangeAt Go.RowKit
theorem Tryz.own : ownKnob Tryz.prog.godebug = none := by kernel_rfl
section
variable {H : Type} {enc : TypeId × Value → H} {P : Program}
theorem post_of_below {f : Func} {s : ChangeSpec} {apart fresh handsOn again : Bool} {W W' : World} {args : Array Value} {v : Value} {ds gs : List (DataW H)} {before pa pv : List MemPlace}
    (hW : DataW.Whole enc P f.params.toList s.vars apart W args.toList ds gs before)
    (hres : ∀ (b : Nat) (sp : Nat → Bool) (hd : Bool), DataW.TrodAll enc P W' b sp hd f.resultTypes.toList (v.resultList f.resultTypes.size) (s.fn H (ds ++ gs)).results [])
    (hargs : ∀ sp : Nat → Bool, (∀ p ∈ before, sp p.block = true) → DataW.TrodAll enc P W' 0 sp true f.params.toList args.toList (s.fn H (ds ++ gs)).args pa)
    (hvars : ∀ sp : Nat → Bool, (∀ p ∈ before, sp p.block = true) → DataW.TrodVars enc P W' sp s.vars (s.fn H (ds ++ gs)).vars pv)
    (hps : before = pa ++ pv) (hb : Below W.heap.size W W')
    (hok : ∀ (j : Nat) (t : TypeId) (r : Value), f.resultTypes[j]? = some t → (v.resultList f.resultTypes.size)[j]? = some r → Value.okWide P W' .any 0 t r) :
    s.post enc P f apart fresh handsOn again W args v W' := by
  have hlt : ∀ p ∈ before, p.block < W.heap.size := fun p hp => hW.lt p hp
  have hold : ∀ p ∈ before, (fun b => decide (b < W.heap.size)) p.block = true := fun p hp => by simpa using hlt p hp
  refine ⟨ds, gs, before, [], pa, pv, hW, hres _ _ _, hargs _ hold, hvars _ hold, World.keptBut_mono (fun p hp => ⟨hp, ?_⟩) (hb.frame (· ∈ before)), fun _ => ?_⟩
  · rw [hps, List.mem_append] at hp
    exact Or.inr hp
  · obtain ⟨_, _, _, _, _, hz, hn⟩ := hW
    refine ⟨hok, _, _, ([] ++ pa) ++ pv, ⟨[] ++ pa, pv, trodAll_append (hargs _ (fun _ _ => rfl)) (hres _ _ _), hvars _ (fun _ _ => rfl), rfl, ?_, ?_⟩, ?_⟩
    · intro b off hp
      have hin : MemPlace.cell b off ∈ before := by rw [hps]; simpa using hp
      rw [hb.frozen (hlt _ hin)]
      exact hz b off hin
    · intro ha
      have := hn ha
      rw [hps] at this
      simpa using this
    · intro p hp _
      rw [hps]
      simpa using hp
end
end Go.Proofs.YtlhdneeiikemjaaGreat
