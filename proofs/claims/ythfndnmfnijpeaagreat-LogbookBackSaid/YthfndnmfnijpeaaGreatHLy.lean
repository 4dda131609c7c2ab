/- A log's records: whole records in the midst of a block; quiet regions that load them. -/
import Derived.BigQuiet
import Derived.Great.BuildSlice
import Derived.Maps.AppendAt
import Derived.Test.YthfndnmfnijpeaaGreatHLx
import Derived.Test.YthfndnmfnijpeaaGreatHLq
set_option linter.unusedVariables false
set_option linter.unusedSimpArgs false
namespace Go.Proofs.YthfndnmfnijpeaaGreat
open Go.RowKit
open LB (Bs Rec)
/-- the numbers of a record -/
abbrev numL (r : Rec) : List Int := [r.at0, r.at1, r.p0, r.p1, r.p2, r.p3, r.m0, r.m1, r.m2, r.m3, r.limb, r.sa0, r.sa1, r.hs, r.within, r.horizon, r.eye, r.shore, r.temp, r.pres]
theorem va_kind {r : Rec} (h : vaB r = true) : r.kind = 1 ∨ r.kind = 2 ∨ r.kind = 3 ∨ r.kind = 4 ∨ r.kind = 5 := by
  unfold vaB at h
  by_cases h1 : r.kind = 1
  · exact .inl h1
  by_cases h2 : r.kind = 2
  · exact .inr (.inl h2)
  by_cases h3 : r.kind = 3
  · exact .inr (.inr (.inl h3))
  by_cases h4 : r.kind = 4
  · exact .inr (.inr (.inr (.inl h4)))
  by_cases h5 : r.kind = 5
  · exact .inr (.inr (.inr (.inr h5)))
  rw [if_neg h1, if_neg h2, if_neg h3, if_neg h4, if_neg h5] at h
  cases h
theorem encode_any (r : Rec) (A : Option Addr) (n c : Nat) (w : World) (hk : r.kind = 1 ∨ r.kind = 2 ∨ r.kind = 3 ∨ r.kind = 4 ∨ r.kind = 5) (hA : IntsAt w A r.list) (hn : r.list.length = n) (hn1 : n ≤ 1000) (hb : r.body.length ≤ 1000) (ht : r.text.length ≤ 1000) (hI : ∀ x ∈ numL r, LB.I64 x) (hIl : ∀ x ∈ r.list, LB.I64 x) :
    Calls Tryz.prog 19 #[recV r (.slice A n c)] w fun e w' => (∃ v, e = .returned v ∧ w'.ownsRow w.heap.size 5 1 v (LB.enc r).length (bcs (LB.enc r))) ∧ Below w.heap.size w w' := by
  obtain ⟨k, a0, a1, p0, p1, p2, p3, m0, m1, m2, m3, bo, s0, s1, s2, s3, s4, s5, s6, s7, s8, s9, li, te⟩ := r
  simp only [] at hk hA hn hb ht hIl
  rcases hk with rfl | rfl | rfl | rfl | rfl
  · exact enc1_any _ _ _ _ _ _ _ _ _ _ _ _ _ _ _ _ _ _ _ _ _ _ _ A n c w hA hn hn1 hb ht hI hIl
  · exact enc2_any _ _ _ _ _ _ _ _ _ _ _ _ _ _ _ _ _ _ _ _ _ _ _ A n c w hA hn hn1 hb ht hI hIl
  · exact enc3_any _ _ _ _ _ _ _ _ _ _ _ _ _ _ _ _ _ _ _ _ _ _ _ A n c w hA hn hn1 hb ht hI hIl
  · exact enc4_any _ _ _ _ _ _ _ _ _ _ _ _ _ _ _ _ _ _ _ _ _ _ _ A n c w hA hn hn1 hb ht hI hIl
  · exact enc5_any _ _ _ _ _ _ _ _ _ _ _ _ _ _ _ _ _ _ _ _ _ _ _ A n c w hA hn hn1 hb ht hI hIl
/-- a record as cells -/
abbrev recC (r : Rec) (v : Value) : Array Value := #[.int .i64 r.kind, .int .i64 r.at0, .int .i64 r.at1, .int .i64 r.p0, .int .i64 r.p1, .int .i64 r.p2, .int .i64 r.p3, .int .i64 r.m0, .int .i64 r.m1, .int .i64 r.m2, .int .i64 r.m3, txb r.body, .int .i64 r.limb, .int .i64 r.sa0, .int .i64 r.sa1, .int .i64 r.hs, .int .i64 r.within, .int .i64 r.horizon, .int .i64 r.eye, .int .i64 r.shore, .int .i64 r.temp, .int .i64 r.pres, v, txb r.text]
set_option maxHeartbeats 8000000 in
set_option maxRecDepth 100000 in
theorem Encode_any (r : Rec) (A : Option Addr) (n c : Nat) (w : World) (hA : IntsAt w A r.list) (hn : r.list.length = n) (hn1 : n ≤ 1000) (hc : n ≤ c) (hcm : c ≤ maxLen) (hb : r.body.length ≤ 1000) (ht : r.text.length ≤ 1000) (hI : ∀ x ∈ numL r, LB.I64 x) (hIl : ∀ x ∈ r.list, LB.I64 x) :
    Calls Tryz.prog 7 #[recV r (.slice A n c)] w fun e w' => (vaB r = false → e = .returned (.tuple #[.slice none 0 0, .int .i64 1])) ∧ (vaB r = true → ∃ v, e = .returned (.tuple #[v, .int .i64 0]) ∧ w'.ownsRow w.heap.size 5 1 v (LB.enc r).length (bcs (LB.enc r))) ∧ Below w.heap.size w w' := by
  have KV := Lib.hid (fun (W : World) (hw : Below w.heap.size w W) => valid_any r A n c W (hA.bl hw) hn (by omega) hc hcm (by omega) (by omega))
  have KE := Lib.hid (fun (hv : vaB r = true) (W : World) (hw : Below w.heap.size w W) => encode_any r A n c W (va_kind hv) (hA.bl hw) hn hn1 hb ht hI hIl)
  clear hA hn hn1 hc hcm hb ht hI hIl
  generalize LB.enc r = E at *
  have G0 := Lib.hid (Blk.new w 33 (recC r (.slice A n c)))
  have B0 := Lib.hid (bl_alloc w (.cells (recC r (.slice A n c)) 33))
  go_enter Tryz.func7, Tryz.ntmps7
  go_upto_region 1 with fail
  generalize w.alloc (.cells (recC r (.slice A n c)) 33) = wa at G0 B0 ⊢
  have KV1 := Lib.hid (KV.out wa B0.out)
  clear KV
  iterate 2 go_step
  refine wp_load_rec (.tmp 1) rfl rfl G0.out rfl ?_
  simp only [Act.put, List.setIfInBounds_toArray, List.set_cons_zero, List.set_cons_succ]
  go_wp2_with fail
  (with_reducible refine (KV1.out).mono ?_)
  rintro e wb ⟨rfl, hb1⟩
  have G1 := Lib.hid (G0.out.below hb1 G0.out.lt)
  have B1 := Lib.hid (B0.out.trans (hb1.mono B0.out.size))
  clear hb1 KV1 G0 B0
  obtain ⟨q, hq⟩ : ∃ q, vaB r = q := ⟨_, rfl⟩
  rw [hq] at KE ⊢
  have HQ := Lib.hid hq
  clear hq
  cases q with
  | false =>
    clear KE
    go_wp2
    go_ret2
    first | exact ⟨fun _ => rfl, fun h => absurd (HQ.out.symm.trans h) (by decide), B1.out⟩ | exact ⟨rfl, fun h => absurd (HQ.out.symm.trans h) (by decide), B1.out⟩ | exact ⟨rfl, B1.out⟩
  | true =>
    have KE1 := Lib.hid (KE.out rfl wb B1.out)
    clear KE
    go_upto_region 3 with fail
    iterate 2 go_step
    refine wp_load_rec (.tmp 1) rfl rfl G1.out rfl ?_
    simp only [Act.put, List.setIfInBounds_toArray, List.set_cons_zero, List.set_cons_succ]
    go_wp2_with fail
    (with_reducible refine (KE1.out).mono ?_)
    rintro e w2 ⟨⟨v, rfl, hO⟩, hb2⟩
    clear KE1
    obtain ⟨A5, c5, rfl, -, -, -⟩ := own_form hO
    go_wp2
    go_ret2
    first | exact ⟨fun h => absurd (HQ.out.symm.trans h) (by decide), fun _ => ⟨_, rfl, own_mono hO B1.out.size⟩, B1.out.trans (hb2.mono B1.out.size)⟩ | exact ⟨fun h => absurd (HQ.out.symm.trans h) (by decide), ⟨_, rfl, own_mono hO B1.out.size⟩, B1.out.trans (hb2.mono B1.out.size)⟩ | exact ⟨⟨_, rfl, own_mono hO B1.out.size⟩, B1.out.trans (hb2.mono B1.out.size)⟩
end Go.Proofs.YthfndnmfnijpeaaGreat
namespace Go.Proofs.YthfndnmfnijpeaaGreat
open Go.RowKit Go.Shelf
open LB (Bs Rec)
theorem cloneInt0 (w : World) : Calls Tryz.prog 63 #[.slice none 0 0] w fun e w' => e = .returned (.slice none 0 0) ∧ w' = w := Any.slices_Clone_int_nil Tryz.lays15 0 0 w
set_option maxHeartbeats 8000000 in
set_option maxRecDepth 100000 in
theorem copied_nil (r : Rec) (w : World) : Calls Tryz.prog 42 #[recV r (.slice none 0 0)] w fun e w' => e = .returned (recV r (.slice none 0 0)) ∧ Below w.heap.size w w' := by
  have K := Lib.hid cloneInt0
  have hi : (Tryz.prog.info? 33).map (·.size) = some 24 := by kernel_rfl
  go_enter Tryz.func42, Tryz.ntmps42
  go_upto_region 1 with fail
  have G0 := Lib.hid (blk2_a w (recC r (.slice none 0 0)) #[.int .i64 0, .int .i64 0, .int .i64 0, .int .i64 0, .int .i64 0, .int .i64 0, .int .i64 0, .int .i64 0, .int .i64 0, .int .i64 0, .int .i64 0, txb [], .int .i64 0, .int .i64 0, .int .i64 0, .int .i64 0, .int .i64 0, .int .i64 0, .int .i64 0, .int .i64 0, .int .i64 0, .int .i64 0, .slice none 0 0, txb []] 33)
  have G1 := Lib.hid (blk2_b w (recC r (.slice none 0 0)) #[.int .i64 0, .int .i64 0, .int .i64 0, .int .i64 0, .int .i64 0, .int .i64 0, .int .i64 0, .int .i64 0, .int .i64 0, .int .i64 0, .int .i64 0, txb [], .int .i64 0, .int .i64 0, .int .i64 0, .int .i64 0, .int .i64 0, .int .i64 0, .int .i64 0, .int .i64 0, .int .i64 0, .int .i64 0, .slice none 0 0, txb []] 33)
  have B0 := Lib.hid (bl2 w (.cells (recC r (.slice none 0 0)) 33) (.cells #[.int .i64 0, .int .i64 0, .int .i64 0, .int .i64 0, .int .i64 0, .int .i64 0, .int .i64 0, .int .i64 0, .int .i64 0, .int .i64 0, .int .i64 0, txb [], .int .i64 0, .int .i64 0, .int .i64 0, .int .i64 0, .int .i64 0, .int .i64 0, .int .i64 0, .int .i64 0, .int .i64 0, .int .i64 0, .slice none 0 0, txb []] 33))
  generalize (w.alloc (.cells (recC r (.slice none 0 0)) 33)).alloc (.cells #[.int .i64 0, .int .i64 0, .int .i64 0, .int .i64 0, .int .i64 0, .int .i64 0, .int .i64 0, .int .i64 0, .int .i64 0, .int .i64 0, .int .i64 0, txb [], .int .i64 0, .int .i64 0, .int .i64 0, .int .i64 0, .int .i64 0, .int .i64 0, .int .i64 0, .int .i64 0, .int .i64 0, .int .i64 0, .slice none 0 0, txb []] 33) = wa at G0 G1 B0 ⊢
  have y0 : wa.cell? ⟨w.heap.size, 22, none⟩ = some (.slice none 0 0) := G0.out.cell 22
  have z0 := G0.out.frozen 22
  go_upto_region 2 with (go_at_call 63; (with_reducible refine (K.out _).mono ?_); rintro e w1 ⟨rfl, rfl⟩)
  have G0' := Lib.hid (show Blk (w1.setCell ⟨w.heap.size, 22, none⟩ (.slice none 0 0)) w.heap.size 33 (recC r (.slice none 0 0)) from G0.out.set_ 22 (.slice none 0 0))
  have G1' := Lib.hid (G1.out.far (p := ⟨w.heap.size, 22, none⟩) (show w.heap.size + 1 ≠ w.heap.size by omega) (.slice none 0 0))
  have B0' := Lib.hid (B0.out.setCell (p := ⟨w.heap.size, 22, none⟩) (Nat.le_refl _) (.slice none 0 0))
  clear G0 G1 B0 y0 z0
  generalize w1.setCell ⟨w.heap.size, 22, none⟩ (.slice none 0 0) = wb at G0' G1' B0' ⊢
  iterate 2 go_step
  refine wp_load_rec (.tmp 1) rfl rfl G0'.out rfl ?_
  simp only [Act.put, List.setIfInBounds_toArray, List.set_cons_zero, List.set_cons_succ]
  iterate 1 go_step
  refine wpList_store_row rfl _ (.tmp 2) (.tmp 7) rfl _ _ rfl rfl _ _ G1'.out (by kernel_rfl) (by rfl) (by simp [Value.oneCell']) ?_
  have ZZ := Lib.hid (Blk.row G1'.out (recC r (.slice none 0 0)))
  have BB := Lib.hid (bl_setRow (g := w.heap.size + 1) B0'.out (by omega) (recC r (.slice none 0 0)))
  simp only [Act.put, List.setIfInBounds_toArray, List.set_cons_zero, List.set_cons_succ]
  generalize wb.setRow (w.heap.size + 1) (recC r (.slice none 0 0)) = wz at ZZ BB ⊢
  go_wp2
  exact bodyPost_ret_by (results_cell_row (P := Tryz.prog) Tryz.results42 _ wz (w.heap.size + 1) 33 (recC r (.slice none 0 0)) (0, 0) (.struct (Tryz.prog.fieldsOf 33)) rfl ZZ.out (by kernel_rfl) rfl (by rw [hi]; rfl)) rfl ⟨rfl, BB.out⟩
set_option maxHeartbeats 2000000 in
set_option maxRecDepth 100000 in
theorem when_any (r : Rec) (v : Value) (w : World) : Calls Tryz.prog 40 #[recV r v] w fun e w' => e = .returned (.int .i64 (if r.kind = 3 then r.sa0 else r.at0)) ∧ Below w.heap.size w w' := by
  by_cases h : r.kind = 3
  · have d : (r.kind == 3) = true := by simp [h]
    rw [if_pos h]
    clear h
    go_enter Tryz.func40, Tryz.ntmps40
    go_wp2
    go_ret
    refine ⟨rfl, ?_⟩
    repeat (first | exact Below.refl _ _ | assumption | refine bl_drew ?_ | refine bl_drewN ?_ _ | refine Below.setCell ?_ (by first | assumption | omega | (simp; done) | (simp; omega)) _ | refine Below.alloc ?_ (by first | assumption | omega | (simp; done) | (simp; omega)) _)
  · have d : (r.kind == 3) = false := by simp [h]
    rw [if_neg h]
    clear h
    go_enter Tryz.func40, Tryz.ntmps40
    go_wp2
    go_ret
    refine ⟨rfl, ?_⟩
    repeat (first | exact Below.refl _ _ | assumption | refine bl_drew ?_ | refine bl_drewN ?_ _ | refine Below.setCell ?_ (by first | assumption | omega | (simp; done) | (simp; omega)) _ | refine Below.alloc ?_ (by first | assumption | omega | (simp; done) | (simp; omega)) _)
end Go.Proofs.YthfndnmfnijpeaaGreat
namespace Go.Proofs.YthfndnmfnijpeaaGreat
open Go.RowKit Go.Shelf
open LB (Bs Rec)
/-- the cells of a record lie at a place -/
def RecAt (w : World) (g off : Nat) (cs : Array Value) : Prop := ∀ j : Nat, j < 24 → w.cell? ⟨g, off + j, none⟩ = cs[j]?
theorem RecAt.below {w w' : World} {g off B : Nat} {cs : Array Value} (h : RecAt w g off cs) (hb : Below B w w') (hg : g < B) : RecAt w' g off cs := fun j hj => (hb.cell (p := ⟨g, off + j, none⟩) hg).trans (h j hj)
theorem RecAt.range {w : World} {g off : Nat} {cs : Array Value} (h : RecAt w g off cs) (hs : cs.size = 24) : w.rangeAt g off cs.toList := fun j v hv => by
  have hj : j < 24 := by
    have := (List.getElem?_eq_some_iff.1 hv).1
    simpa [hs] using this
  rw [h j hj]
  simpa using hv
theorem wp_load_recAt {o : Oper} {a : Act} {w : World} {K : Act → World → Prop} {Q : Exit → Act → World → Prop} (x : Operand) (ho : o.op = .load 33 x) (g off : Nat) (hx : a.eval x = .pointer (some ⟨g, off, none⟩)) {cs : Array Value} (h : RecAt w g off cs) (hs : cs.size = 24)
    (hk : K (a.put o.dst (.agg cs)) w) : o.wp Tryz.prog a w K Q := by
  have hi : (Tryz.prog.info? 33).map (·.size) = some 24 := by kernel_rfl
  exact wp_load_mid _ x ho g off hx cs.toList (.struct (Tryz.prog.fieldsOf 33)) (h.range hs) (by kernel_rfl) rfl (by simpa [hs] using hi) (by simpa using hk)
theorem wpList_load_recAt {o : Oper} {rest : List Oper} {ops : Array Oper} {a : Act} {w : World} {Q : Exit → Act → World → Prop} (hgd : o.guard = none) (x : Operand) (ho : o.op = .load 33 x) (g off : Nat) (hx : a.eval x = .pointer (some ⟨g, off, none⟩)) {cs : Array Value} (h : RecAt w g off cs) (hs : cs.size = 24)
    (hk : wpList Tryz.prog ops Q rest (a.put o.dst (.agg cs)) w) : wpList Tryz.prog ops Q (o :: rest) a w := by
  have hi : (Tryz.prog.info? 33).map (·.size) = some 24 := by kernel_rfl
  exact wpList_load_mid hgd _ x ho g off hx cs.toList (.struct (Tryz.prog.fieldsOf 33)) (h.range hs) (by kernel_rfl) rfl (by simpa [hs] using hi) (by simpa using hk)
/-- in a quiet region -/
theorem quiet_rec {C : World → Prop} {K : Act → Prop} {a : Act} {o : Oper} (x : Operand) (ho : o.op = .load 33 x) (g off : Nat) (hx : a.eval x = .pointer (some ⟨g, off, none⟩)) {cs : Array Value} (h : ∀ w, C w → RecAt w g off cs) (hs : cs.size = 24)
    (hk : K (a.put o.dst (.agg cs))) : o.quiet Tryz.prog a C K := by
  have hi : (Tryz.prog.info? 33).map (·.size) = some 24 := by kernel_rfl
  refine ⟨.agg cs, fun w hw => ?_, hk⟩
  have hr := run_loadAt_mid (P := Tryz.prog) w g off 33 cs.toList (.struct (Tryz.prog.fieldsOf 33)) ((h w hw).range hs) (by kernel_rfl) rfl (by simpa [hs] using hi)
  unfold Oper.quietAt execOp
  simp only [ho, hx, Sem.run_bind, Result.andThen_ok, hr, Array.toArray_toList]
  exact ⟨rfl, rfl⟩
/-- a world that left what was there alone -/
structure BW (w0 : World) where
  w : World
  hb : Below w0.heap.size w0 w
instance bwSome (w0 : World) : Nonempty (BW w0) := ⟨⟨w0, Below.refl _ _⟩⟩
/-- a region whose calls leave alone what was there is walked once -/
theorem wp_region_bw {P : Program} {id : Nat} {Q : Exit → Act → World → Prop} {a : Act} {w : World} {l : List Oper} (w0 : World) (hm : P.follows .mixedOrders = true) (hB : Region.lexB .any l.toArray = true) (h0 : Below w0.heap.size w0 w)
    (h : wpQuiet P l.toArray (fun w' => ∃ s : BW w0, w' = s.w) (fun a' => ∀ w9, Below w0.heap.size w0 w9 → Q .normal a' w9) l a) : (Code.region id l.toArray true).wp P Q a w := by
  have e : (fun a' => ∀ w9, Below w0.heap.size w0 w9 → Q .normal a' w9) = (fun a' : Act => ∀ w', (∃ s : BW w0, w' = s.w) → Q .normal a' w') :=
    funext fun a' => propext ⟨fun h w' ⟨s, hs⟩ => hs ▸ h s.w s.hb, fun h w9 hb => h w9 ⟨⟨w9, hb⟩, rfl⟩⟩
  rw [e] at h
  exact wp_region_quiet (C := fun w' => ∃ s : BW w0, w' = s.w) hm hB ⟨⟨_, bl_drew h0⟩, rfl⟩ (by simpa using h)
theorem quiet_bw {P : Program} {f : FuncId} {args : Array Value} {w0 : World} {s : BW w0} {v : Value} (h : Calls P f args s.w fun e w' => e = .returned v ∧ Below s.w.heap.size s.w w') :
    Calls P f args s.w fun e w'' => e = .returned v ∧ ∃ s' : BW w0, w'' = s'.w :=
  h.mono fun _ w' ⟨he, hb⟩ => ⟨he, ⟨w', s.hb.trans (hb.mono s.hb.size)⟩, rfl⟩
/-- a slice of one record -/
theorem own_rec1 {w : World} {base : Nat} {t : TypeId} {v : Value} {cs : Array Value} (h : w.ownsRow base t 24 v 1 cs.toList) (hs : cs.size = 24) : ∃ g c, v = .slice (some ⟨g, 0, none⟩) 1 c ∧ base ≤ g ∧ g < w.heap.size ∧ 1 ≤ c ∧ c ≤ maxLen ∧ RecAt w g 0 cs := by
  rcases h.2 with ⟨-, h0⟩ | ⟨g, cap, cur, hv, hg, hh, h1, h2, h3, h4⟩
  · cases h0
  · have hlt : g < w.heap.size := by
      rcases Nat.lt_or_ge g w.heap.size with hlt | hge
      · exact hlt
      · rw [Array.getElem?_eq_none hge] at hh; cases hh
    subst hv
    refine ⟨g, cap, rfl, hg, hlt, h1, h2, fun j hj => ?_⟩
    have := h.cells (g := g) rfl j cs[j] (by simp [hs, hj])
    rw [Go.WideShapes.add_plain] at this
    rw [this]
    simp [hs, hj]
theorem own_rec2 {w : World} {base : Nat} {t : TypeId} {v : Value} {cs ds : Array Value} (h : w.ownsRow base t 24 v 2 (cs.toList ++ ds.toList)) (hs : cs.size = 24) (hd : ds.size = 24) : ∃ g c, v = .slice (some ⟨g, 0, none⟩) 2 c ∧ base ≤ g ∧ g < w.heap.size ∧ 2 ≤ c ∧ c ≤ maxLen ∧ RecAt w g 0 cs ∧ RecAt w g 24 ds := by
  rcases h.2 with ⟨-, h0⟩ | ⟨g, cap, cur, hv, hg, hh, h1, h2, h3, h4⟩
  · cases h0
  · have hlt : g < w.heap.size := by
      rcases Nat.lt_or_ge g w.heap.size with hlt | hge
      · exact hlt
      · rw [Array.getElem?_eq_none hge] at hh; cases hh
    subst hv
    refine ⟨g, cap, rfl, hg, hlt, h1, h2, fun j hj => ?_, fun j hj => ?_⟩
    · have := h.cells (g := g) rfl j cs[j] (by rw [List.getElem?_append_left (by simp [hs, hj])]; simp [hs, hj])
      rw [Go.WideShapes.add_plain] at this
      rw [this]
      simp [hs, hj]
    · have := h.cells (g := g) rfl (24 + j) ds[j] (by rw [List.getElem?_append_right (by simp [hs])]; simp [hs, hd, hj])
      rw [Go.WideShapes.add_plain, Nat.zero_add] at this
      rw [this]
      simp [hd, hj]
/-- every block but a log's own one and the slice's row is as it was -/
structure AdK (l : Nat) (v : Value) (w w' : World) : Prop where
  os : w'.os = w.os
  tape : w'.tape = w.tape
  output : w'.output = w.output
  size : w.heap.size ≤ w'.heap.size
  block : ∀ k, k < w.heap.size → k ≠ l → some k ≠ v.ownBlock → w'.heap[k]? = w.heap[k]?
theorem AdK.refl (l : Nat) (v : Value) (w : World) : AdK l v w w := ⟨rfl, rfl, rfl, Nat.le_refl _, fun _ _ _ _ => rfl⟩
theorem AdK.bl {l : Nat} {v : Value} {w w' w'' : World} (h : AdK l v w w') (hb : Below w'.heap.size w' w'') : AdK l v w w'' :=
  ⟨hb.os.trans h.os, hb.tape.trans h.tape, hb.output.trans h.output, Nat.le_trans h.size hb.size, fun k hk h1 h2 => (hb.block k (Nat.lt_of_lt_of_le hk h.size)).trans (h.block k hk h1 h2)⟩
theorem AdK.pre {l : Nat} {v : Value} {w w' w'' : World} (hb : Below w.heap.size w w') (h : AdK l v w' w'') : AdK l v w w'' :=
  ⟨h.os.trans hb.os, h.tape.trans hb.tape, h.output.trans hb.output, Nat.le_trans hb.size h.size, fun k hk h1 h2 => (h.block k (Nat.lt_of_lt_of_le hk hb.size) h1 h2).trans (hb.block k hk)⟩
theorem AdK.gr {l : Nat} {v : Value} {w w' w'' : World} (h : AdK l v w w') (hg : w'.grownBy w'' v.ownBlock) : AdK l v w w'' :=
  ⟨hg.os.trans h.os, hg.tape.trans h.tape, hg.output.trans h.output, Nat.le_trans h.size hg.size, fun k hk h1 h2 => (hg.block k (Nat.lt_of_lt_of_le hk h.size) h2).trans (h.block k hk h1 h2)⟩
theorem AdK.set {l : Nat} {v : Value} {w w' : World} (h : AdK l v w w') (i : Nat) (u : Value) : AdK l v w (w'.setCell ⟨l, i, none⟩ u) :=
  ⟨h.os, h.tape, h.output, by simpa using h.size, fun k hk h1 h2 => (Below.heap_setCell _ _ _ _ h1).trans (h.block k hk h1 h2)⟩
theorem AdK.below {l B : Nat} {v : Value} {w0 w w' : World} (hb : Below B w0 w) (h : AdK l v w w') (hB : B ≤ w.heap.size) (hl : B ≤ l) (hv : ∀ k, some k = v.ownBlock → B ≤ k) : Below B w0 w' :=
  ⟨h.os.trans hb.os, h.tape.trans hb.tape, h.output.trans hb.output, Nat.le_trans hb.size h.size, fun k hk => (h.block k (by omega) (by omega) (fun e => by have := hv k e; omega)).trans (hb.block k hk)⟩
theorem own_lt {w : World} {base : Nat} {e : TypeId} {size n b : Nat} {v : Value} {xs : List Value} (h : w.ownsRow base e size v n xs) (he : some b = v.ownBlock) : b < w.heap.size := by
  rcases h.2 with ⟨rfl, _⟩ | ⟨g, cap, cur, rfl, _, hh, _⟩
  · cases he
  · obtain rfl : b = g := by simpa [Value.ownBlock] using he
    rcases Nat.lt_or_ge b w.heap.size with hlt | hge
    · exact hlt
    · rw [Array.getElem?_eq_none hge] at hh; cases hh
theorem own_same {w w' : World} {base : Nat} {e : TypeId} {size n : Nat} {v : Value} {xs : List Value} (h : w.ownsRow base e size v n xs) (hb : ∀ k, some k = v.ownBlock → w'.heap[k]? = w.heap[k]?) : w'.ownsRow base e size v n xs := by
  refine ⟨h.1, ?_⟩
  rcases h.2 with h1 | ⟨g, cap, cur, rfl, hg, hh, hr⟩
  · exact .inl h1
  · exact .inr ⟨g, cap, cur, rfl, hg, (hb g rfl).trans hh, hr⟩
theorem RecAt.new (w : World) (cs : Array Value) (t : TypeId) : RecAt (w.alloc (.cells cs t)) w.heap.size 0 cs := fun j _ => by
  rw [Nat.zero_add]
  exact (Blk.new w t cs).cell j
theorem RecAt.news {w : World} {b : Nat} {cs : Array Value} (h : RecAt w b 0 cs) (hs : cs.size = 24) : ∀ j u, cs.toList[j]? = some u → w.cell? ((⟨b, 0, none⟩ : Addr).add j) = some u := fun j u hu => by
  have := h.range hs j u hu
  rw [Go.WideShapes.add_plain]
  exact this
theorem Tryz.infoRec : (Tryz.prog.info? 33).map (fun i => (i.zero.map fun z => z.cells.size, i.size, decide (i.bytes ≤ 1000))) = some (some 24, 24, true) := by kernel_rfl
theorem rec_parts : ∃ iR z, Tryz.prog.info? 33 = some iR ∧ iR.zero = some z ∧ z.cells.size = 24 ∧ iR.size = 24 ∧ iR.bytes ≤ 1000 := by
  have h := Tryz.infoRec
  cases hi : Tryz.prog.info? 33 with
  | none => rw [hi] at h; cases h
  | some i =>
    rw [hi] at h
    simp only [Option.map_some, Option.some.injEq, Prod.mk.injEq, decide_eq_true_eq] at h
    obtain ⟨h1, h2, h3⟩ := h
    cases hz : i.zero with
    | none => rw [hz] at h1; cases h1
    | some z =>
      rw [hz] at h1
      simp only [Option.map_some, Option.some.injEq] at h1
      exact ⟨i, z, rfl, hz, h1, h2, h3⟩
theorem fill_rec (r : Rec) (rv : Value) (z : Array Value) : Instr.fill (fun i => some (i * 24, 24)) ((Array.range (1 * 24)).map (z[· % z.size]!)) [(0, recV r rv)] = some (recC r rv) := by
  have h := Great.fill_whole (s := 24) (by omega) [recV r rv] ((Array.range (1 * 24)).map (z[· % z.size]!)) (fun v hv => by simp at hv; subst hv; rfl) (by simp)
  exact h
theorem wpList_build_rec {o : Oper} {rest : List Oper} {ops : Array Oper} {a : Act} {w : World} {Q : Exit → Act → World → Prop} (hgd : o.guard = none) (x : Operand) (ho : o.op = .buildSlice 57 1 #[(0, x)]) (r : Rec) (rv : Value) (hx : a.eval x = recV r rv)
    (hk : wpList Tryz.prog ops Q rest (a.put o.dst (.slice (some ⟨w.heap.size, 0, none⟩) 1 1)) (w.alloc (.cells (recC r rv) 33))) : wpList Tryz.prog ops Q (o :: rest) a w := by
  obtain ⟨iR, z, hi, hz, -, hsz, -⟩ := rec_parts
  refine wpList_buildSlice hgd _ 33 1 _ ho (recC r rv) iR z Tryz.underlying57 hi hz (by rw [hsz]; decide) (by rw [hsz]; decide) ?_ hk
  rw [hsz]
  simp only [List.map_toArray, List.map_cons, List.map_nil, hx]
  exact fill_rec r rv _
end Go.Proofs.YthfndnmfnijpeaaGreat
