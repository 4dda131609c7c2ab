/- Proved: the law LogbookBack of layer 54 returns true for every record and all bytes (LogbookBackSaid). No condition. -/
import Derived.Carry
import Derived.DataShut
import Derived.ChangeArms
import Derived.ChangeSlices
import Derived.ChangeSame
import Derived.SizedLaws
import Derived.Test.YthfndnmfnijpeaaGreatHPf
set_option linter.unusedVariables false
set_option linter.unusedSimpArgs false
namespace Go.Proofs.YthfndnmfnijpeaaGreat
open Go.ChangeShapes Go.WideShapes Go.ChangeAt Go.RowKit Go.Joins
open LB (Bs Rec)
section
variable {H : Type} {enc : TypeId × Value → H} {W : World} {n : Nat}
theorem fld {t : TypeId} {fs : Array Field} {cs : List Value} {x : DataW H × List MemPlace} (ht : Tryz.prog.underlying t = some (.struct fs)) (h : DataW.trod enc Tryz.prog W 0 (fun _ => true) true n t cs = some x) (i : Nat) (f : Field) (hi : fs[i]? = some f) (k : Nat) (hk : Tryz.prog.cellsOf f.type = k) :
    ∃ m y, DataW.trod enc Tryz.prog W 0 (fun _ => true) true m f.type ((cs.drop f.offset).take k) = some y := by
  subst hk
  obtain ⟨xs, m, -, -, -, hl, hf⟩ := DataW.trod_struct ht h
  have := (Array.getElem?_eq_some_iff.1 hi).1
  exact ⟨m, xs[i], (hf i f hi).trans (List.getElem?_eq_getElem (by omega))⟩
theorem tI {c : Value} {x : DataW H × List MemPlace} (h : DataW.trod enc Tryz.prog W 0 (fun _ => true) true n 3 [c] = some x) : ∃ a : Int, c = .int .i64 a ∧ LB.I64 a := by
  obtain ⟨a, e, -, hw⟩ := DataW.trod_int Tryz.underlying3 h
  cases e
  have := (Lit.wf_int_iff _ _).1 hw
  exact ⟨a, rfl, by rw [show IntKind.i64.min = -9223372036854775808 from rfl, show IntKind.i64.max = 9223372036854775807 from rfl] at this; unfold LB.I64; omega⟩
theorem tArc {c d : Value} {x : DataW H × List MemPlace} (h : DataW.trod enc Tryz.prog W 0 (fun _ => true) true n 24 [c, d] = some x) : ∃ a b : Int, c = .int .i64 a ∧ d = .int .i64 b ∧ LB.I64 a ∧ LB.I64 b := by
  obtain ⟨m0, y0, h0⟩ := fld Tryz.underlying24 h 0 _ rfl 1 (by kernel_rfl)
  obtain ⟨m1, y1, h1⟩ := fld Tryz.underlying24 h 1 _ rfl 1 (by kernel_rfl)
  obtain ⟨a, ha, ia⟩ := tI (n := m0) (c := c) h0
  obtain ⟨b, hb, ib⟩ := tI (n := m1) (c := d) h1
  exact ⟨a, b, ha, hb, ia, ib⟩
theorem tTime {c d : Value} {x : DataW H × List MemPlace} (h : DataW.trod enc Tryz.prog W 0 (fun _ => true) true n 23 [c, d] = some x) : ∃ a b : Int, c = .int .i64 a ∧ d = .int .i64 b ∧ LB.I64 a ∧ LB.I64 b := by
  obtain ⟨m0, y0, h0⟩ := fld Tryz.underlying23 h 0 _ rfl 1 (by kernel_rfl)
  obtain ⟨m1, y1, h1⟩ := fld Tryz.underlying23 h 1 _ rfl 1 (by kernel_rfl)
  obtain ⟨a, ha, ia⟩ := tI (n := m0) (c := c) h0
  obtain ⟨b, hb, ib⟩ := tI (n := m1) (c := d) h1
  exact ⟨a, b, ha, hb, ia, ib⟩
theorem tPlace {c d e f : Value} {x : DataW H × List MemPlace} (h : DataW.trod enc Tryz.prog W 0 (fun _ => true) true n 26 [c, d, e, f] = some x) : ∃ a b a' b' : Int, (c = .int .i64 a ∧ d = .int .i64 b ∧ e = .int .i64 a' ∧ f = .int .i64 b') ∧ LB.I64 a ∧ LB.I64 b ∧ LB.I64 a' ∧ LB.I64 b' := by
  obtain ⟨m0, y0, h0⟩ := fld Tryz.underlying26 h 0 _ rfl 2 (by kernel_rfl)
  obtain ⟨m1, y1, h1⟩ := fld Tryz.underlying26 h 1 _ rfl 2 (by kernel_rfl)
  obtain ⟨a, b, ha, hb, ia, ib⟩ := tArc (n := m0) (c := c) (d := d) h0
  obtain ⟨a', b', ha', hb', ia', ib'⟩ := tArc (n := m1) (c := e) (d := f) h1
  exact ⟨a, b, a', b', ⟨ha, hb, ha', hb'⟩, ia, ib, ia', ib'⟩
theorem tMotion {c d e f : Value} {x : DataW H × List MemPlace} (h : DataW.trod enc Tryz.prog W 0 (fun _ => true) true n 28 [c, d, e, f] = some x) : ∃ a b a' b' : Int, (c = .int .i64 a ∧ d = .int .i64 b ∧ e = .int .i64 a' ∧ f = .int .i64 b') ∧ LB.I64 a ∧ LB.I64 b ∧ LB.I64 a' ∧ LB.I64 b' := by
  obtain ⟨m0, y0, h0⟩ := fld Tryz.underlying28 h 0 _ rfl 2 (by kernel_rfl)
  obtain ⟨m1, y1, h1⟩ := fld Tryz.underlying28 h 1 _ rfl 2 (by kernel_rfl)
  obtain ⟨a, b, ha, hb, ia, ib⟩ := tArc (n := m0) (c := c) (d := d) h0
  obtain ⟨a', b', ha', hb', ia', ib'⟩ := tArc (n := m1) (c := e) (d := f) h1
  exact ⟨a, b, a', b', ⟨ha, hb, ha', hb'⟩, ia, ib, ia', ib'⟩
theorem tStr {c : Value} {x : DataW H × List MemPlace} (h : DataW.trod enc Tryz.prog W 0 (fun _ => true) true n 9 [c] = some x) : ∃ s : Bs, c = txb s ∧ s.length ≤ maxLen := by
  obtain ⟨s, e, -, hl⟩ := DataW.trod_string Tryz.underlying9 h
  cases e
  exact ⟨s.data.toList, by cases s; simp, by simpa using hl⟩
theorem tSight {s0 s1 s2 s3 s4 s5 s6 s7 s8 s9 s10 : Value} {x : DataW H × List MemPlace} (h : DataW.trod enc Tryz.prog W 0 (fun _ => true) true n 30 [s0, s1, s2, s3, s4, s5, s6, s7, s8, s9, s10] = some x) :
    ∃ (bo : Bs) (a1 a2 a3 a4 a5 a6 a7 a8 a9 a10 : Int), bo.length ≤ maxLen ∧ (s0 = txb bo ∧ s1 = .int .i64 a1 ∧ s2 = .int .i64 a2 ∧ s3 = .int .i64 a3 ∧ s4 = .int .i64 a4 ∧ s5 = .int .i64 a5 ∧ s6 = .int .i64 a6 ∧ s7 = .int .i64 a7 ∧ s8 = .int .i64 a8 ∧ s9 = .int .i64 a9 ∧ s10 = .int .i64 a10) ∧ (LB.I64 a1 ∧ LB.I64 a2 ∧ LB.I64 a3 ∧ LB.I64 a4 ∧ LB.I64 a5 ∧ LB.I64 a6 ∧ LB.I64 a7 ∧ LB.I64 a8 ∧ LB.I64 a9 ∧ LB.I64 a10) := by
  obtain ⟨m0, y0, h0⟩ := fld Tryz.underlying30 h 0 _ rfl 1 (by kernel_rfl)
  obtain ⟨m1, y1, h1⟩ := fld Tryz.underlying30 h 1 _ rfl 1 (by kernel_rfl)
  obtain ⟨m2, y2, h2⟩ := fld Tryz.underlying30 h 2 _ rfl 2 (by kernel_rfl)
  obtain ⟨m3, y3, h3⟩ := fld Tryz.underlying30 h 3 _ rfl 1 (by kernel_rfl)
  obtain ⟨m4, y4, h4⟩ := fld Tryz.underlying30 h 4 _ rfl 1 (by kernel_rfl)
  obtain ⟨m5, y5, h5⟩ := fld Tryz.underlying30 h 5 _ rfl 1 (by kernel_rfl)
  obtain ⟨m6, y6, h6⟩ := fld Tryz.underlying30 h 6 _ rfl 1 (by kernel_rfl)
  obtain ⟨m7, y7, h7⟩ := fld Tryz.underlying30 h 7 _ rfl 1 (by kernel_rfl)
  obtain ⟨m8, y8, h8⟩ := fld Tryz.underlying30 h 8 _ rfl 1 (by kernel_rfl)
  obtain ⟨m9, y9, h9⟩ := fld Tryz.underlying30 h 9 _ rfl 1 (by kernel_rfl)
  obtain ⟨bo, e0, l0⟩ := tStr (n := m0) (c := s0) h0
  obtain ⟨a1, e1, i1⟩ := tI (n := m1) (c := s1) h1
  obtain ⟨a2, a3, e2, e3, i2, i3⟩ := tTime (n := m2) (c := s2) (d := s3) h2
  obtain ⟨a4, e4, i4⟩ := tI (n := m3) (c := s4) h3
  obtain ⟨a5, e5, i5⟩ := tI (n := m4) (c := s5) h4
  obtain ⟨a6, e6, i6⟩ := tI (n := m5) (c := s6) h5
  obtain ⟨a7, e7, i7⟩ := tI (n := m6) (c := s7) h6
  obtain ⟨a8, e8, i8⟩ := tI (n := m7) (c := s8) h7
  obtain ⟨a9, e9, i9⟩ := tI (n := m8) (c := s9) h8
  obtain ⟨a10, e10, i10⟩ := tI (n := m9) (c := s10) h9
  exact ⟨bo, a1, a2, a3, a4, a5, a6, a7, a8, a9, a10, l0, ⟨e0, e1, e2, e3, e4, e5, e6, e7, e8, e9, e10⟩, i1, i2, i3, i4, i5, i6, i7, i8, i9, i10⟩
theorem cell_spot {w : World} {a : Addr} {v : Value} (h : w.cell? a = some v) : a.spot = none := by
  unfold World.cell? at h
  cases hs : a.spot with
  | none => rfl
  | some s =>
    rw [hs] at h
    split at h
    · simp at h
    · cases h
theorem tList {c : Value} {x : DataW H × List MemPlace} (h : DataW.trod enc Tryz.prog W 0 (fun _ => true) true n 31 [c] = some x) : ∃ (A : Option Addr) (k ca : Nat) (l : List Int), c = .slice A k ca ∧ IntsAt W A l ∧ l.length = k ∧ k ≤ ca ∧ ca ≤ maxLen ∧ ∀ z ∈ l, LB.I64 z := by
  rcases open_ints Tryz.underlying31 Tryz.underlying3 (by kernel_rfl) h with ⟨e, -⟩ | ⟨a, len, cap, zs, e, -, hl, hm, hz, -, hc, hw⟩
  · cases e
    exact ⟨none, 0, 0, [], rfl, .inl rfl, rfl, Nat.le_refl _, by simp [maxLen], fun z hz => by cases hz⟩
  · cases e
    simp only [if_true] at hz
    refine ⟨some a, len, cap, zs.take len, rfl, ?_, by rw [List.length_take]; omega, hl, hm, fun z hz' => ?_⟩
    · by_cases h0 : len = 0
      · subst h0; exact .inl (by simp)
      · have h1 := hc 0 (by omega)
        have hb := World.block_lt_of_cell? W _ h1
        rw [show a.add 0 = a by simp [Addr.add]] at h1 hb
        have hs := cell_spot h1
        obtain ⟨b, off, sp⟩ := a
        simp only at hs hb
        subst hs
        refine .inr ⟨b, off, rfl, hb, fun j z hj => ?_⟩
        have hjl : j < len ∧ zs[j]? = some z := by
          rw [List.getElem?_take] at hj
          split at hj
          · exact ⟨by assumption, hj⟩
          · cases hj
        have := hc j (by omega)
        rw [add_plain] at this
        rw [this]
        simp [List.getD, hjl.2]
    · have := (Lit.wf_int_iff _ _).1 (hw z (List.mem_of_mem_take hz'))
      rw [show IntKind.i64.min = -9223372036854775808 from rfl, show IntKind.i64.max = 9223372036854775807 from rfl] at this; unfold LB.I64; omega
theorem u8_of {z : Int} (h0 : 0 ≤ z) (h1 : z ≤ 255) : ((UInt8.ofNat z.toNat).toNat : Int) = z := by
  rw [UInt8.toNat_ofNat']
  omega
theorem tBytes {c : Value} {x : DataW H × List MemPlace} (h : DataW.trod enc Tryz.prog W 0 (fun _ => true) true n 34 [c] = some x) : ∃ (A : Option Addr) (k ca : Nat) (l : Bs), c = .slice A k ca ∧ BytesAt W W.heap.size A l ∧ l.length = k ∧ k ≤ ca ∧ ca ≤ maxLen := by
  rcases open_ints Tryz.underlying34 Tryz.underlying5 (by kernel_rfl) h with ⟨e, -⟩ | ⟨a, len, cap, zs, e, -, hl, hm, hz, -, hc, hw⟩
  · cases e
    exact ⟨none, 0, 0, [], rfl, .inl rfl, rfl, Nat.le_refl _, by simp [maxLen]⟩
  · cases e
    simp only [if_true] at hz
    refine ⟨some a, len, cap, (zs.take len).map fun z => UInt8.ofNat z.toNat, rfl, ?_, by rw [List.length_map, List.length_take]; omega, hl, hm⟩
    by_cases h0 : len = 0
    · subst h0; exact .inl (by simp)
    · have h1 := hc 0 (by omega)
      have hb := World.block_lt_of_cell? W _ h1
      rw [show a.add 0 = a by simp [Addr.add]] at h1 hb
      have hs := cell_spot h1
      obtain ⟨b, off, sp⟩ := a
      simp only at hs hb
      subst hs
      refine .inr ⟨b, off, rfl, hb, fun j z hj => ?_⟩
      rw [List.getElem?_map, List.getElem?_take] at hj
      by_cases hjl : j < len
      · rw [if_pos hjl, List.getElem?_eq_getElem (by omega)] at hj
        cases hj
        have := hc j (by omega)
        rw [add_plain] at this
        have hw' := (Lit.wf_int_iff _ _).1 (hw zs[j] (List.getElem_mem _))
        rw [show IntKind.u8.min = 0 from rfl, show IntKind.u8.max = 255 from rfl] at hw'
        rw [this, u8_of hw'.1 hw'.2]
        simp [List.getD, show j < zs.length by omega]
      · rw [if_neg hjl] at hj
        cases hj
theorem tRec {c0 c1 c2 c3 c4 c5 c6 c7 c8 c9 c10 c11 c12 c13 c14 c15 c16 c17 c18 c19 c20 c21 c22 c23 : Value} {x : DataW H × List MemPlace} (h : DataW.trod enc Tryz.prog W 0 (fun _ => true) true n 33 [c0, c1, c2, c3, c4, c5, c6, c7, c8, c9, c10, c11, c12, c13, c14, c15, c16, c17, c18, c19, c20, c21, c22, c23] = some x) :
    ∃ (r : Rec) (A : Option Addr) (k ca : Nat), #[c0, c1, c2, c3, c4, c5, c6, c7, c8, c9, c10, c11, c12, c13, c14, c15, c16, c17, c18, c19, c20, c21, c22, c23] = recC r (.slice A k ca) ∧ IntsAt W A r.list ∧ r.list.length = k ∧ k ≤ ca ∧ ca ≤ maxLen ∧ r.body.length ≤ maxLen ∧ r.text.length ≤ maxLen ∧ (∀ x ∈ numL r, LB.I64 x) ∧ ∀ x ∈ r.list, LB.I64 x := by
  obtain ⟨m0, y0, h0⟩ := fld Tryz.underlying33 h 0 _ rfl 1 (by kernel_rfl)
  obtain ⟨m1, y1, h1⟩ := fld Tryz.underlying33 h 1 _ rfl 2 (by kernel_rfl)
  obtain ⟨m2, y2, h2⟩ := fld Tryz.underlying33 h 2 _ rfl 4 (by kernel_rfl)
  obtain ⟨m3, y3, h3⟩ := fld Tryz.underlying33 h 3 _ rfl 4 (by kernel_rfl)
  obtain ⟨m4, y4, h4⟩ := fld Tryz.underlying33 h 4 _ rfl 11 (by kernel_rfl)
  obtain ⟨m5, y5, h5⟩ := fld Tryz.underlying33 h 5 _ rfl 1 (by kernel_rfl)
  obtain ⟨m6, y6, h6⟩ := fld Tryz.underlying33 h 6 _ rfl 1 (by kernel_rfl)
  obtain ⟨kd, rfl, i0⟩ := tI (n := m0) (c := c0) h0
  obtain ⟨t0, t1, rfl, rfl, i1, i2⟩ := tTime (n := m1) (c := c1) (d := c2) h1
  obtain ⟨p0, p1, p2, p3, ⟨rfl, rfl, rfl, rfl⟩, i3, i4, i5, i6⟩ := tPlace (n := m2) (c := c3) (d := c4) (e := c5) (f := c6) h2
  obtain ⟨q0, q1, q2, q3, ⟨rfl, rfl, rfl, rfl⟩, i7, i8, i9, i10⟩ := tMotion (n := m3) (c := c7) (d := c8) (e := c9) (f := c10) h3
  obtain ⟨bo, a1, a2, a3, a4, a5, a6, a7, a8, a9, a10, lb, ⟨rfl, rfl, rfl, rfl, rfl, rfl, rfl, rfl, rfl, rfl, rfl⟩, j1, j2, j3, j4, j5, j6, j7, j8, j9, j10⟩ := tSight (n := m4) (s0 := c11) (s1 := c12) (s2 := c13) (s3 := c14) (s4 := c15) (s5 := c16) (s6 := c17) (s7 := c18) (s8 := c19) (s9 := c20) (s10 := c21) h4
  obtain ⟨A, k, ca, l, rfl, hA, hk, hc, hm, hl⟩ := tList (n := m5) (c := c22) h5
  obtain ⟨te, rfl, lt⟩ := tStr (n := m6) (c := c23) h6
  refine ⟨⟨kd, t0, t1, p0, p1, p2, p3, q0, q1, q2, q3, bo, a1, a2, a3, a4, a5, a6, a7, a8, a9, a10, l, te⟩, A, k, ca, rfl, hA, hk, hc, hm, lb, lt, fun x hx => ?_, hl⟩
  simp only [numL, List.mem_cons, List.not_mem_nil, or_false] at hx
  rcases hx with rfl | rfl | rfl | rfl | rfl | rfl | rfl | rfl | rfl | rfl | rfl | rfl | rfl | rfl | rfl | rfl | rfl | rfl | rfl | rfl <;> assumption
theorem list24 {l : List Value} (h : l.length = 24) : ∃ c0 c1 c2 c3 c4 c5 c6 c7 c8 c9 c10 c11 c12 c13 c14 c15 c16 c17 c18 c19 c20 c21 c22 c23, l = [c0, c1, c2, c3, c4, c5, c6, c7, c8, c9, c10, c11, c12, c13, c14, c15, c16, c17, c18, c19, c20, c21, c22, c23] := by
  match l, h with
  | [c0, c1, c2, c3, c4, c5, c6, c7, c8, c9, c10, c11, c12, c13, c14, c15, c16, c17, c18, c19, c20, c21, c22, c23], _ => exact ⟨c0, c1, c2, c3, c4, c5, c6, c7, c8, c9, c10, c11, c12, c13, c14, c15, c16, c17, c18, c19, c20, c21, c22, c23, rfl⟩
end
theorem Tryz.laidOutB : laidOutB Tryz.prog = true := by kernel_rfl
set_option maxHeartbeats 4000000 in
set_option maxRecDepth 100000 in
theorem back_lifted (os : Os) (started : os.Started) (H : Type) (enc : TypeId × Value → H) :
    ReturnsInHanded {} Tryz.checked os 3 .any (Rows.logbookBackSpec.pre6 enc Tryz.prog Tryz.f3 Rows.logbookBackRow.domain false) (Rows.logbookBackSpec.post enc Tryz.prog Tryz.f3 false true false false) := by
  refine returnsInHanded_of_change (C := Tryz.checked) Tryz.own started (by kernel_rfl) Tryz.func3
    (ChangeSpec.witness6 (enc := enc) (C := Tryz.checked) false ⟨#[], #[recV ⟨0, 0, 0, 0, 0, 0, 0, 0, 0, 0, 0, [], 0, 0, 0, 0, 0, 0, 0, 0, 0, 0, [], []⟩ (.slice none 0 0), .slice none 0 0], []⟩ 12 (by kernel_rfl) (by kernel_rfl) (by kernel_rfl) (by kernel_rfl)) ?_
  intro W base args ds gs before hval0 hW _ _
  have hval : ∀ (j : Nat) t v, Tryz.f3.params[j]? = some t → args[j]? = some v → Value.okWide Tryz.prog W .any base t v := hval0
  have hW' := hW
  obtain ⟨p, q, hA0, hV, rfl, _, _⟩ := hW
  have hA : DataW.TrodAll enc Tryz.prog W 0 (fun _ => true) true Tryz.f3.params.toList args.toList ds p := hA0
  rw [Tryz.params3] at hA hval
  obtain ⟨v0, v1, d0, d1, pa0, pa1, rfl, rfl, rfl, h0, h1⟩ := trodAll_two hA
  obtain ⟨rfl, rfl⟩ := trodVars_none hV
  have h0k := h0
  have h1k := h1
  clear hA0 hval0
  simp only [List.append_nil] at hW'
  obtain ⟨cs, rfl, hsz⟩ := okWide_struct Tryz.underlying33 (hval 0 33 v0 rfl rfl)
  obtain ⟨A2, nn, cc, rfl⟩ := okWide_slice Tryz.underlying34 (hval 1 34 v1 rfl rfl)
  obtain ⟨f0, hf0⟩ := h0
  obtain ⟨f1, hf1⟩ := h1
  have hl24 : cs.toList.length = 24 := by rw [Array.length_toList, hsz]; kernel_rfl
  obtain ⟨c0, c1, c2, c3, c4, c5, c6, c7, c8, c9, c10, c11, c12, c13, c14, c15, c16, c17, c18, c19, c20, c21, c22, c23, hcs⟩ := list24 hl24
  have hcs' : cs = #[c0, c1, c2, c3, c4, c5, c6, c7, c8, c9, c10, c11, c12, c13, c14, c15, c16, c17, c18, c19, c20, c21, c22, c23] := by rw [← Array.toArray_toList (xs := cs), hcs]
  subst hcs'
  obtain ⟨r, A, n, c, hrc, hI, hn, hc, hcm, hbo, hte, hnI, hnl⟩ := tRec (n := f0) (W := W) (enc := enc) (by simpa [Value.cells] using hf0)
  obtain ⟨A2', nn', cc', b, hb0, hB, hbl, hbc, hbm⟩ := tBytes (n := f1) (W := W) (enc := enc) (c := .slice A2 nn cc) (by simpa [Value.cells] using hf1)
  cases hb0
  have K := back_any r A n c b A2 nn cc W ⟨hI, hn, hc, hcm, hbo, hte, hB, hbl, hbc, hbm, hnI, hnl⟩
  rw [show recV r (.slice A n c) = .agg #[c0, c1, c2, c3, c4, c5, c6, c7, c8, c9, c10, c11, c12, c13, c14, c15, c16, c17, c18, c19, c20, c21, c22, c23] from congrArg Value.agg hrc.symm] at K
  refine K.mono fun e W' ⟨he, hb⟩ => ?_
  subst he
  have hlt : ∀ x ∈ pa0 ++ pa1, x.block < W.heap.size := fun x hx => by simpa using hW'.lt x hx
  refine ⟨_, rfl, post_of_below (pa := pa0 ++ pa1) (pv := []) hW' (fun _ _ _ => trodAll_mk1 (shut_bool Tryz.underlying4 true)) (fun sp hsp => ?_) (fun _ _ => rfl) (by simp) hb (ok_one (by kernel_rfl) rfl (okWide_bool_mk Tryz.underlying4 true))⟩
  have s0 : DataW.Trod enc Tryz.prog W' 0 sp true 33 (.agg #[c0, c1, c2, c3, c4, c5, c6, c7, c8, c9, c10, c11, c12, c13, c14, c15, c16, c17, c18, c19, c20, c21, c22, c23]) d0 pa0 := WideElems.Trod_stays Tryz.laidOutB (by kernel_rfl) (of_decide_eq_true (by kernel_rfl)) h0k (fun x hx => hb.same (hlt x (by simp [hx]))) (fun x hx => hsp x (by simp [hx]))
  have s1 : DataW.Trod enc Tryz.prog W' 0 sp true 34 (.slice A2 nn cc) d1 pa1 := WideElems.Trod_stays Tryz.laidOutB (by kernel_rfl) (of_decide_eq_true (by kernel_rfl)) h1k (fun x hx => hb.same (hlt x (by simp [hx]))) (fun x hx => hsp x (by simp [hx]))
  exact trodAll_mk2 s0 s1
theorem back_holds : Rows.LogbookBackSaid :=
  OpenClaim.holds_of_wide 3 Tryz.f3 rfl rfl rfl rfl rfl rfl rfl ⟨rfl, rfl, rfl, rfl, rfl⟩ rfl rfl rfl rfl rfl (by kernel_rfl) Tryz.func3 (by kernel_rfl)
    (of_decide_eq_true (by kernel_rfl)) (by unfold Func.isWrapper; first | (rw [if_pos (by decide +kernel)]; kernel_rfl) | (rw [if_neg (by decide +kernel)]; exact ⟨rfl, rfl⟩))
    (fun os started H enc _ => back_lifted os started H enc)
#print axioms back_holds
end Go.Proofs.YthfndnmfnijpeaaGreat
