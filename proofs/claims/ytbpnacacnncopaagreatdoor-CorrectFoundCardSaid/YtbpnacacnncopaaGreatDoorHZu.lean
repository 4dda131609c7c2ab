/- How a sight is opened: its name and its ten numbers. -/
import Derived.ShutString
import Derived.ChangeMaps5
import Derived.Test.YtbpnacacnncopaaGreatDoorHZt
import Derived.Test.YtbpnacacnncopaaGreatDoorHXm
set_option linter.unusedVariables false
set_option linter.unusedSimpArgs false
namespace Go.Proofs.YtbpnacacnncopaaGreatDoor
open Go.ChangeShapes Go.WideShapes Go.ChangeAt Go.RowKit Go.Joins
open LB (Bs)
section
variable {H : Type} {enc : TypeId × Value → H} {W : World} {n : Nat}
theorem fld {t : TypeId} {fs : Array Field} {cs : List Value} {x : DataW H × List MemPlace} (ht : Tryz.prog.underlying t = some (.struct fs)) (h : DataW.trod enc Tryz.prog W 0 (fun _ => true) true n t cs = some x) (i : Nat) (f : Field) (hi : fs[i]? = some f) (k : Nat) (hk : Tryz.prog.cellsOf f.type = k) :
    ∃ m y, DataW.trod enc Tryz.prog W 0 (fun _ => true) true m f.type ((cs.drop f.offset).take k) = some y := by
  subst hk
  obtain ⟨xs, m, -, -, -, hl, hf⟩ := DataW.trod_struct ht h
  have := (Array.getElem?_eq_some_iff.1 hi).1
  exact ⟨m, xs[i], (hf i f hi).trans (List.getElem?_eq_getElem (by omega))⟩
theorem tI {c : Value} {x : DataW H × List MemPlace} (h : DataW.trod enc Tryz.prog W 0 (fun _ => true) true n 3 [c] = some x) : ∃ a : Int, c = .int .i64 a := by
  obtain ⟨a, e, -, hw⟩ := DataW.trod_int Tryz.underlying3 h
  cases e
  exact ⟨a, rfl⟩
theorem tTime {c d : Value} {x : DataW H × List MemPlace} (h : DataW.trod enc Tryz.prog W 0 (fun _ => true) true n 23 [c, d] = some x) : ∃ a b : Int, c = .int .i64 a ∧ d = .int .i64 b := by
  obtain ⟨m0, y0, h0⟩ := fld Tryz.underlying23 h 0 _ rfl 1 (by kernel_rfl)
  obtain ⟨m1, y1, h1⟩ := fld Tryz.underlying23 h 1 _ rfl 1 (by kernel_rfl)
  obtain ⟨a, ha⟩ := tI (n := m0) (c := c) h0
  obtain ⟨b, hb⟩ := tI (n := m1) (c := d) h1
  exact ⟨a, b, ha, hb⟩
theorem tArc {c d : Value} {x : DataW H × List MemPlace} (h : DataW.trod enc Tryz.prog W 0 (fun _ => true) true n 41 [c, d] = some x) : ∃ a b : Int, c = .int .i64 a ∧ d = .int .i64 b := by
  obtain ⟨m0, y0, h0⟩ := fld Tryz.underlying41 h 0 _ rfl 1 (by kernel_rfl)
  obtain ⟨m1, y1, h1⟩ := fld Tryz.underlying41 h 1 _ rfl 1 (by kernel_rfl)
  obtain ⟨a, ha⟩ := tI (n := m0) (c := c) h0
  obtain ⟨b, hb⟩ := tI (n := m1) (c := d) h1
  exact ⟨a, b, ha, hb⟩
theorem tStr {c : Value} {x : DataW H × List MemPlace} (h : DataW.trod enc Tryz.prog W 0 (fun _ => true) true n 9 [c] = some x) : ∃ s : Bs, c = txb s := by
  obtain ⟨s, e, -, hl⟩ := DataW.trod_string Tryz.underlying9 h
  cases e
  exact ⟨s.data.toList, by cases s; simp⟩
set_option maxRecDepth 100000 in
theorem list11 {l : List Value} (h : l.length = 11) : ∃ c0 c1 c2 c3 c4 c5 c6 c7 c8 c9 c10, l = [c0, c1, c2, c3, c4, c5, c6, c7, c8, c9, c10] := by
  match l, h with
  | [c0, c1, c2, c3, c4, c5, c6, c7, c8, c9, c10], _ => exact ⟨c0, c1, c2, c3, c4, c5, c6, c7, c8, c9, c10, rfl⟩
set_option maxRecDepth 100000 in
theorem tSight {s0 s1 s2 s3 s4 s5 s6 s7 s8 s9 s10 : Value} {x : DataW H × List MemPlace} (h : DataW.trod enc Tryz.prog W 0 (fun _ => true) true n 25 [s0, s1, s2, s3, s4, s5, s6, s7, s8, s9, s10] = some x) :
    ∃ s : Sgt, Value.agg #[s0, s1, s2, s3, s4, s5, s6, s7, s8, s9, s10] = sgS s := by
  obtain ⟨m0, y0, h0⟩ := fld Tryz.underlying25 h 0 _ rfl 1 (by kernel_rfl)
  obtain ⟨m1, y1, h1⟩ := fld Tryz.underlying25 h 1 _ rfl 1 (by kernel_rfl)
  obtain ⟨m2, y2, h2⟩ := fld Tryz.underlying25 h 2 _ rfl 2 (by kernel_rfl)
  obtain ⟨m3, y3, h3⟩ := fld Tryz.underlying25 h 3 _ rfl 1 (by kernel_rfl)
  obtain ⟨m4, y4, h4⟩ := fld Tryz.underlying25 h 4 _ rfl 1 (by kernel_rfl)
  obtain ⟨m5, y5, h5⟩ := fld Tryz.underlying25 h 5 _ rfl 1 (by kernel_rfl)
  obtain ⟨m6, y6, h6⟩ := fld Tryz.underlying25 h 6 _ rfl 1 (by kernel_rfl)
  obtain ⟨m7, y7, h7⟩ := fld Tryz.underlying25 h 7 _ rfl 1 (by kernel_rfl)
  obtain ⟨m8, y8, h8⟩ := fld Tryz.underlying25 h 8 _ rfl 1 (by kernel_rfl)
  obtain ⟨m9, y9, h9⟩ := fld Tryz.underlying25 h 9 _ rfl 1 (by kernel_rfl)
  obtain ⟨bo, rfl⟩ := tStr (n := m0) (c := s0) h0
  obtain ⟨a1, rfl⟩ := tI (n := m1) (c := s1) h1
  obtain ⟨a2, a3, rfl, rfl⟩ := tTime (n := m2) (c := s2) (d := s3) h2
  obtain ⟨a4, rfl⟩ := tI (n := m3) (c := s4) h3
  obtain ⟨a5, rfl⟩ := tI (n := m4) (c := s5) h4
  obtain ⟨a6, rfl⟩ := tI (n := m5) (c := s6) h5
  obtain ⟨a7, rfl⟩ := tI (n := m6) (c := s7) h6
  obtain ⟨a8, rfl⟩ := tI (n := m7) (c := s8) h7
  obtain ⟨a9, rfl⟩ := tI (n := m8) (c := s9) h8
  obtain ⟨a10, rfl⟩ := tI (n := m9) (c := s10) h9
  exact ⟨⟨bo, a1, a2, a3, a4, a5, a6, a7, a8, a9, a10⟩, rfl⟩

set_option maxRecDepth 100000 in
theorem open_sight {v : Value} {d : DataW H} {p : List MemPlace} {base : Nat} (hv : Value.okWide Tryz.prog W .any base 25 v) (h : DataW.Trod enc Tryz.prog W 0 (fun _ => true) true 25 v d p) : ∃ s : Sgt, v = sgS s := by
  obtain ⟨cs, rfl, hsz⟩ := okWide_struct Tryz.underlying25 hv
  have hl : cs.toList.length = 11 := by rw [Array.length_toList, hsz]; kernel_rfl
  obtain ⟨c0, c1, c2, c3, c4, c5, c6, c7, c8, c9, c10, hcs⟩ := list11 hl
  have hcs' : cs = #[c0, c1, c2, c3, c4, c5, c6, c7, c8, c9, c10] := by rw [← Array.toArray_toList (xs := cs), hcs]
  subst hcs'
  obtain ⟨f0, hf0⟩ := h
  exact tSight (n := f0) (W := W) (enc := enc) (by simpa [Value.cells] using hf0)
set_option maxRecDepth 100000 in
theorem open_text {v : Value} {d : DataW H} {p : List MemPlace} {base : Nat} (hv : Value.okWide Tryz.prog W .any base 9 v) (h : DataW.Trod enc Tryz.prog W 0 (fun _ => true) true 9 v d p) : ∃ s : Bs, v = tx s := by
  obtain ⟨s, rfl, _, _, _⟩ := Go.ChangeMaps.open_string Tryz.underlying9 hv h
  exact ⟨s.data.toList, by cases s; simp⟩
end
theorem Tryz.laidOutB : laidOutB Tryz.prog = true := by kernel_rfl
end Go.Proofs.YtbpnacacnncopaaGreatDoor
