/- How an instrument and the data of a body are opened. -/
import Derived.Deep.Slices
import Derived.Test.YtbpnacacnncopaaGreatDoorHZu
import Derived.Test.YtbpnacacnncopaaGreatDoorHYn
set_option linter.unusedVariables false
set_option linter.unusedSimpArgs false
namespace Go.Proofs.YtbpnacacnncopaaGreatDoor
open Go.ChangeShapes Go.WideShapes Go.ChangeAt Go.RowKit Go.Joins Go.Deep
section
variable {H : Type} {enc : TypeId × Value → H} {W : World} {n : Nat}
theorem cell_spot {w : World} {a : Addr} {v : Value} (h : w.cell? a = some v) : a.spot = none := by
  unfold World.cell? at h
  cases hs : a.spot with
  | none => rfl
  | some s =>
    rw [hs] at h
    split at h
    · simp at h
    · cases h
theorem add_pl (b off i : Nat) : (⟨b, off, none⟩ : Addr).add i = ⟨b, off + i, none⟩ := by simp [Addr.add]
theorem Tryz.cellsEr : Tryz.prog.cellsOf 135 = 2 := by kernel_rfl
theorem list2 {l : List Value} (h : l.length = 2) : ∃ c0 c1, l = [c0, c1] := by
  match l, h with
  | [c0, c1], _ => exact ⟨c0, c1, rfl⟩
theorem tErr {c d : Value} {x : DataW H × List MemPlace} (h : DataW.trod enc Tryz.prog W 0 (fun _ => true) true n 135 [c, d] = some x) : ∃ a b : Int, c = .int .i64 a ∧ d = .int .i64 b := by
  obtain ⟨m0, y0, h0⟩ := fld Tryz.underlying135 h 0 _ rfl 1 (by kernel_rfl)
  obtain ⟨m1, y1, h1⟩ := fld Tryz.underlying135 h 1 _ rfl 1 (by kernel_rfl)
  obtain ⟨a, ha⟩ := tI (n := m0) (c := c) h0
  obtain ⟨b, hb⟩ := tI (n := m1) (c := d) h1
  exact ⟨a, b, ha, hb⟩
set_option maxRecDepth 100000 in
theorem tTab {c : Value} {x : DataW H × List MemPlace} (h : DataW.trod enc Tryz.prog W 0 (fun _ => true) true n 38 [c] = some x) : ∃ (A : Option Addr) (k ca : Nat) (T : List Ent), c = .slice A k ca ∧ TabAt W W.heap.size A T ∧ T.length = k := by
  rcases open_slice Tryz.underlying38 h with ⟨h0, -⟩ | ⟨a, len, cap, m, n, D, Pl, hcs, hb, hl, hm, hmm, hx, hi⟩
  · cases h0
    exact ⟨none, 0, 0, [], rfl, .inl rfl, rfl⟩
  · cases hcs
    simp only [if_true] at hmm
    subst hmm
    have one : ∀ i, i < len → ∃ x : Ent, W.cell? (a.add (i * 2)) = some (.int .i64 x.1) ∧ W.cell? (a.add (i * 2 + 1)) = some (.int .i64 x.2) := by
      intro i hil
      obtain ⟨cs, hc, ht⟩ := hi i (by omega)
      rw [Tryz.cellsEr] at hc
      obtain ⟨_, hcl, hat⟩ := World.cells?_some hc
      obtain ⟨c0, c1, rfl⟩ := list2 hcl
      obtain ⟨p, q, rfl, rfl⟩ := tErr (c := c0) (d := c1) ht
      refine ⟨(p, q), ?_, ?_⟩
      · have := hat 0 (by omega)
        rw [Go.Deep.add_add] at this
        exact this
      · have := hat 1 (by omega)
        rw [Go.Deep.add_add] at this
        exact this
    obtain ⟨f, hf⟩ := choose_lt one
    refine ⟨some a, len, _, (List.range len).map f, rfl, ?_, by simp⟩
    by_cases h0 : len = 0
    · subst h0; exact .inl (by simp)
    · have h1 := (hf 0 (by omega)).1
      have hlt := World.block_lt_of_cell? W _ h1
      rw [show a.add (0 * 2) = a by simp [Addr.add]] at h1 hlt
      have hs := cell_spot h1
      obtain ⟨b, off, sp⟩ := a
      simp only at hs hlt
      subst hs
      refine .inr ⟨b, off, rfl, hlt, fun j x hj => ?_⟩
      by_cases hjl : j < len
      · rw [List.getElem?_map, List.getElem?_range hjl] at hj
        cases hj
        have := hf j hjl
        rw [add_pl, add_pl] at this
        exact this
      · rw [List.getElem?_eq_none (by simp; omega)] at hj
        cases hj
set_option maxRecDepth 100000 in
theorem open_instrument {v : Value} {d : DataW H} {p : List MemPlace} {base : Nat} (hv : Value.okWide Tryz.prog W .any base 40 v) (h : DataW.Trod enc Tryz.prog W 0 (fun _ => true) true 40 v d p) :
    ∃ (ix : Int) (A : Option Addr) (k c : Nat) (T : List Ent), v = .agg #[.int .i64 ix, .slice A k c] ∧ TabAt W W.heap.size A T ∧ T.length = k := by
  obtain ⟨cs, rfl, hsz⟩ := okWide_struct Tryz.underlying40 hv
  have hl : cs.toList.length = 2 := by rw [Array.length_toList, hsz]; kernel_rfl
  obtain ⟨c0, c1, hcs⟩ := list2 hl
  have hcs' : cs = #[c0, c1] := by rw [← Array.toArray_toList (xs := cs), hcs]
  subst hcs'
  obtain ⟨f0, hf0⟩ := h
  have hf : DataW.trod enc Tryz.prog W 0 (fun _ => true) true f0 40 [c0, c1] = some (d, p) := by simpa [Value.cells] using hf0
  obtain ⟨m0, y0, h0⟩ := fld Tryz.underlying40 hf 0 _ rfl 1 (by kernel_rfl)
  obtain ⟨m1, y1, h1⟩ := fld Tryz.underlying40 hf 1 _ rfl 1 (by kernel_rfl)
  obtain ⟨ix, rfl⟩ := tI (n := m0) (c := c0) h0
  obtain ⟨A, k, ca, T, rfl, hT, hn⟩ := tTab (n := m1) (c := c1) h1
  exact ⟨ix, A, k, ca, T, rfl, hT, hn⟩
theorem list8 {l : List Value} (h : l.length = 8) : ∃ c0 c1 c2 c3 c4 c5 c6 c7, l = [c0, c1, c2, c3, c4, c5, c6, c7] := by
  match l, h with
  | [c0, c1, c2, c3, c4, c5, c6, c7], _ => exact ⟨c0, c1, c2, c3, c4, c5, c6, c7, rfl⟩
set_option maxRecDepth 100000 in
theorem open_geo {v : Value} {d : DataW H} {p : List MemPlace} {base : Nat} (hv : Value.okWide Tryz.prog W .any base 43 v) (h : DataW.Trod enc Tryz.prog W 0 (fun _ => true) true 43 v d p) :
    ∃ g0 g1 g2 g3 e0 e1 p0 p1 : Int, v = .agg #[.int .i64 g0, .int .i64 g1, .int .i64 g2, .int .i64 g3, .int .i64 e0, .int .i64 e1, .int .i64 p0, .int .i64 p1] := by
  obtain ⟨cs, rfl, hsz⟩ := okWide_struct Tryz.underlying43 hv
  have hl : cs.toList.length = 8 := by rw [Array.length_toList, hsz]; kernel_rfl
  obtain ⟨c0, c1, c2, c3, c4, c5, c6, c7, hcs⟩ := list8 hl
  have hcs' : cs = #[c0, c1, c2, c3, c4, c5, c6, c7] := by rw [← Array.toArray_toList (xs := cs), hcs]
  subst hcs'
  obtain ⟨f0, hf0⟩ := h
  have hf : DataW.trod enc Tryz.prog W 0 (fun _ => true) true f0 43 [c0, c1, c2, c3, c4, c5, c6, c7] = some (d, p) := by simpa [Value.cells] using hf0
  obtain ⟨m0, y0, h0⟩ := fld Tryz.underlying43 hf 0 _ rfl 2 (by kernel_rfl)
  obtain ⟨m1, y1, h1⟩ := fld Tryz.underlying43 hf 1 _ rfl 2 (by kernel_rfl)
  obtain ⟨m2, y2, h2⟩ := fld Tryz.underlying43 hf 2 _ rfl 2 (by kernel_rfl)
  obtain ⟨m3, y3, h3⟩ := fld Tryz.underlying43 hf 3 _ rfl 2 (by kernel_rfl)
  obtain ⟨g0, g1, rfl, rfl⟩ := tArc (n := m0) (c := c0) (d := c1) h0
  obtain ⟨g2, g3, rfl, rfl⟩ := tArc (n := m1) (c := c2) (d := c3) h1
  obtain ⟨e0, e1, rfl, rfl⟩ := tArc (n := m2) (c := c4) (d := c5) h2
  obtain ⟨p0, p1, rfl, rfl⟩ := tArc (n := m3) (c := c6) (d := c7) h3
  exact ⟨g0, g1, g2, g3, e0, e1, p0, p1, rfl⟩
end
end Go.Proofs.YtbpnacacnncopaaGreatDoor
