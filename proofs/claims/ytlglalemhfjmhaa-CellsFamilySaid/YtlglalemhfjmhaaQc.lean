/- The walk of the law CellsFamily. -/
import Derived.Test.YtlglalemhfjmhaaQa
import Derived.Test.YtlglalemhfjmhaaQb
import Derived.Test.YtlglalemhfjmhaaJi
import Derived.Test.YtlglalemhfjmhaaPc
namespace Go.Proofs.Ytlglalemhfjmhaa
open Go.RowKit
theorem gt_kids (l r c : Int) {j : Nat} (hj : j < 4) : gt (kids l r c) j = (l + 1, 2 * r + (j : Int) / 2, 2 * c + (j : Int) % 2) := by
  match j, hj with
  | 0, _ => simp [gt, kids]
  | 1, _ => simp [gt, kids]
  | 2, _ => simp [gt, kids]
  | 3, _ => simp [gt, kids]
/-- what is known of a child -/
theorem kidK {l r c : Int} (hv : vldB l r c = true) (hl : l < 16) {j : Nat} (hj : j < 4) : ∃ l1 r1 c1 q0 q1 q2 q3 P : Int, gt (kids l r c) j = (l1, r1, c1) ∧
    (∀ W, Calls Try.prog 21 #[.agg #[.int .i64 l1, .int .i64 r1, .int .i64 c1]] W fun e w' => e = .returned (.tuple #[.agg #[.int .i64 l, .int .i64 r, .int .i64 c], .int .i64 0]) ∧ Below W.heap.size W w') ∧
    (∀ W, Calls Try.prog 20 #[.agg #[.int .i64 l1, .int .i64 r1, .int .i64 c1]] W fun e w' => e = .returned (.tuple #[.agg #[.int .i64 q0, .int .i64 q1, .int .i64 q2, .int .i64 q3], .int .i64 0]) ∧ Below W.heap.size W w') ∧
    (∀ W, Calls Try.prog 37 #[.agg #[.int .i64 q0, .int .i64 q1, .int .i64 q2, .int .i64 q3], boxV l r c] W fun e w' => e = .returned (.bool true) ∧ Below W.heap.size W w') ∧
    (-5400000 ≤ q0 ∧ q0 ≤ q1 ∧ q1 ≤ 5400000 ∧ -10800000 ≤ q2 ∧ q2 ≤ q3 ∧ q3 ≤ 10800000) ∧ wrap64 ((q1 - q0) * (q3 - q2)) = P ∧ P = wid (gt (kids l r c) j) ∧ 0 ≤ P ∧ P ≤ 116640021600001 := by
  have hx : Vl (l, r, c) := (vl_iff _).1 hv
  have hk := kids_vl hx hl
  have hy : Vl (gt (kids l r c) j) := by
    refine hk _ ?_
    have : j < (kids l r c).length := by simpa [kids] using hj
    show (kids l r c).getD j (0, 0, 0) ∈ kids l r c
    rw [List.getD_eq_getElem?_getD, List.getElem?_eq_getElem this]
    exact List.getElem_mem this
  obtain ⟨a0, a1, a2, a3, a4, a5⟩ := vldB_true.1 hv
  have hg := gt_kids l r c hj
  have hw := wid_bd hy
  rw [hg] at hy hw ⊢
  have hvy := (vl_iff _).2 hy
  simp only [] at hvy
  have hn := box_nums hy
  simp only [] at hn
  have hbx := boxOk_of hx
  have hby := boxOk_of hy
  simp only [] at hbx hby
  have hkb := kid_box l.toNat r c ((j : Int) / 2) ((j : Int) % 2) (by omega) (by omega)
  rw [show ((l.toNat : Nat) : Int) = l by omega, show ((l.toNat + 1 : Nat) : Int) = l + 1 by omega] at hkb
  have hpar : (l + 1 - 1 = l ∧ (2 * r + (j : Int) / 2) / 2 = r ∧ (2 * c + (j : Int) % 2) / 2 = c) ∧ (l + 1 == 0) = false := by
    refine ⟨by omega, ?_⟩
    rw [beq_eq_false_iff_ne]
    omega
  refine ⟨l + 1, 2 * r + (j : Int) / 2, 2 * c + (j : Int) % 2, edg (2 * r + (j : Int) / 2) (l + 1) - 5400000, edg (2 * r + (j : Int) / 2 + 1) (l + 1) - 5400000, edg (2 * c + (j : Int) % 2) (l + 1) - 10800000, edg (2 * c + (j : Int) % 2 + 1) (l + 1) - 10800000,
    wid (l + 1, 2 * r + (j : Int) / 2, 2 * c + (j : Int) % 2), rfl, fun W => ?_, fun W => ?_, fun W => ?_, by omega, ?_, rfl, hw.1, hw.2⟩
  · have := Parent_yes _ _ _ W hvy hpar.2
    rw [hpar.1.1, hpar.1.2.1, hpar.1.2.2] at this
    exact this
  · exact Box_yes _ _ _ W hvy
  · exact placeInside _ _ _ _ _ _ _ _ W hby hbx (by omega) (by omega) (by omega) (by omega)
  · have e : (edg (2 * r + (j : Int) / 2 + 1) (l + 1) - 5400000 - (edg (2 * r + (j : Int) / 2) (l + 1) - 5400000)) * (edg (2 * c + (j : Int) % 2 + 1) (l + 1) - 10800000 - (edg (2 * c + (j : Int) % 2) (l + 1) - 10800000)) = wid (l + 1, 2 * r + (j : Int) / 2, 2 * c + (j : Int) % 2) := by
      unfold wid
      simp only []
      congr 1 <;> omega
    rw [e]
    exact IntWalk.wrap64_in _ (by omega)
/-- the sum of the extents of the first children -/
def wsum (K : List Cl) : Nat → Int
  | 0 => 0
  | j + 1 => wsum K j + wid (gt K j)
theorem wsum_kids {l r c : Int} (h0 : 0 ≤ l) : wsum (kids l r c) 4 = wid (l, r, c) := by
  have h := wid_kids l.toNat r c
  rw [show ((l.toNat : Nat) : Int) = l by omega, show ((l.toNat + 1 : Nat) : Int) = l + 1 by omega] at h
  rw [← h]
  simp [wsum, gt, kids]
theorem wsum_bd {l r c : Int} (hv : vldB l r c = true) (hl : l < 16) : ∀ j : Nat, j ≤ 4 → 0 ≤ wsum (kids l r c) j ∧ wsum (kids l r c) j ≤ 116640021600001 * (j : Int)
  | 0, _ => by simp [wsum]
  | j + 1, hj => by
    obtain ⟨h1, h2⟩ := wsum_bd hv hl j (by omega)
    obtain ⟨_, _, _, _, _, _, _, P, -, -, -, -, -, -, h3, h4, h5⟩ := kidK hv hl (show j < 4 by omega)
    rw [wsum, ← h3]
    push_cast
    omega
/-- the children, last one first, are tidied to the cell -/
theorem kids_back {l r c : Int} (hv : vldB l r c = true) (hl : l < 16) : tidyR (kids l r c).reverse = [(l, r, c)] ∧ tidyE (kids l r c).reverse = 0 := by
  have hx : Vl (l, r, c) := (vl_iff _).1 hv
  exact kids_tidy hx hl _ (fun y => by simp [kidsC]) (by simp [kids])
theorem boxK {l r c : Int} (hv : vldB l r c = true) : ∃ e0 e1 e2 e3 P : Int, boxV l r c = .agg #[.int .i64 e0, .int .i64 e1, .int .i64 e2, .int .i64 e3] ∧ BoxOk e0 e1 e2 e3 ∧ e3 ≤ 10800000 ∧ wrap64 ((e1 - e0) * (e3 - e2)) = P ∧ P = wid (l, r, c) ∧
    (∀ W, Calls Try.prog 20 #[.agg #[.int .i64 l, .int .i64 r, .int .i64 c]] W fun e w' => e = .returned (.tuple #[.agg #[.int .i64 e0, .int .i64 e1, .int .i64 e2, .int .i64 e3], .int .i64 0]) ∧ Below W.heap.size W w') := by
  have hx : Vl (l, r, c) := (vl_iff _).1 hv
  have hb := boxOk_of hx
  have hn := box_nums hx
  have hw := wid_bd hx
  simp only [] at hb hn
  refine ⟨_, _, _, _, _, rfl, hb, by omega, ?_, rfl, fun W => Box_yes l r c W hv⟩
  have e : (edg (r + 1) l - 5400000 - (edg r l - 5400000)) * (edg (c + 1) l - 10800000 - (edg c l - 10800000)) = wid (l, r, c) := by
    unfold wid
    simp only []
    congr 1 <;> omega
  rw [e]
  exact IntWalk.wrap64_in _ (by omega)
/-- three cells that are known -/
structure C3 (W : World) (g : Nat) (a b c : Int) : Prop where
  lt : g < W.heap.size
  c0 : W.cell? ⟨g, 0, none⟩ = some (.int .i64 a)
  c1 : W.cell? ⟨g, 1, none⟩ = some (.int .i64 b)
  c2 : W.cell? ⟨g, 2, none⟩ = some (.int .i64 c)
theorem C3.below {W W' : World} {g B : Nat} {a b c : Int} (h : C3 W g a b c) (hb : Below B W W') (hB : g < B) : C3 W' g a b c :=
  ⟨Nat.lt_of_lt_of_le h.lt hb.size, (hb.cell (p := ⟨g, 0, none⟩) hB).trans h.c0, (hb.cell (p := ⟨g, 1, none⟩) hB).trans h.c1, (hb.cell (p := ⟨g, 2, none⟩) hB).trans h.c2⟩
theorem C3.alloc {W : World} {g : Nat} {a b c : Int} (h : C3 W g a b c) (o : Obj) : C3 (W.alloc o) g a b c := h.below (bl_alloc W o) h.lt
theorem C3.new (W : World) (a b c : Int) (t : TypeId) : C3 (W.alloc (.cells #[.int .i64 a, .int .i64 b, .int .i64 c] t)) W.heap.size a b c := ⟨by simp, by simp, by simp, by simp⟩
/-- four cells that are known -/
structure C4 (W : World) (g : Nat) (a b c d : Int) : Prop where
  lt : g < W.heap.size
  c0 : W.cell? ⟨g, 0, none⟩ = some (.int .i64 a)
  c1 : W.cell? ⟨g, 1, none⟩ = some (.int .i64 b)
  c2 : W.cell? ⟨g, 2, none⟩ = some (.int .i64 c)
  c3 : W.cell? ⟨g, 3, none⟩ = some (.int .i64 d)
theorem C4.below {W W' : World} {g B : Nat} {a b c d : Int} (h : C4 W g a b c d) (hb : Below B W W') (hB : g < B) : C4 W' g a b c d :=
  ⟨Nat.lt_of_lt_of_le h.lt hb.size, (hb.cell (p := ⟨g, 0, none⟩) hB).trans h.c0, (hb.cell (p := ⟨g, 1, none⟩) hB).trans h.c1, (hb.cell (p := ⟨g, 2, none⟩) hB).trans h.c2, (hb.cell (p := ⟨g, 3, none⟩) hB).trans h.c3⟩
theorem C4.alloc {W : World} {g : Nat} {a b c d : Int} (h : C4 W g a b c d) (o : Obj) : C4 (W.alloc o) g a b c d := h.below (bl_alloc W o) h.lt
theorem C4.new (W : World) (a b c d : Int) (t : TypeId) : C4 (W.alloc (.cells #[.int .i64 a, .int .i64 b, .int .i64 c, .int .i64 d] t)) W.heap.size a b c d := ⟨by simp, by simp, by simp, by simp, by simp⟩
theorem kid_cells {W : World} {base g cap : Nat} {K : List Cl} (h : W.ownsRow base 32 3 (.slice (some ⟨g, 0, none⟩) 4 cap) 4 (cvs K)) (hK : K.length = 4) {j : Nat} (hj : j < 4) :
    W.cell? ⟨g, j * 3, none⟩ = some (.int .i64 (gt K j).1) ∧ W.cell? ⟨g, j * 3 + 1, none⟩ = some (.int .i64 (gt K j).2.1) ∧ W.cell? ⟨g, j * 3 + 2, none⟩ = some (.int .i64 (gt K j).2.2) := by
  obtain ⟨a1, a2, a3⟩ := cvs_at K j (by omega)
  exact ⟨(own_cell h _ _ a1).1, (own_cell h _ _ a2).1, (own_cell h _ _ a3).1⟩
theorem far3 {w : World} {p : Addr} {u a b c : Value} {g : Nat} (h : w.cell? p = some u) (hp : p.block ≠ g) : (((w.setCell ⟨g, 0, none⟩ a).setCell ⟨g, 1, none⟩ b).setCell ⟨g, 2, none⟩ c).cell? p = some u := by
  have hne : ∀ i, (⟨g, i, none⟩ : Addr) ≠ p := fun i e => hp (by rw [← e])
  rw [World.cell?_setCell_other _ _ _ _ (hne 2), World.cell?_setCell_other _ _ _ _ (hne 1), World.cell?_setCell_other _ _ _ _ (hne 0)]
  exact h
theorem C3.drew {W : World} {g : Nat} {a b c : Int} (h : C3 W g a b c) : C3 W.drew g a b c := ⟨h.lt, h.c0, h.c1, h.c2⟩
theorem C3.far {w : World} {g' g : Nat} {l r c : Int} {x y z : Value} (h : C3 w g' l r c) (hp : g' ≠ g) : C3 (((w.setCell ⟨g, 0, none⟩ x).setCell ⟨g, 1, none⟩ y).setCell ⟨g, 2, none⟩ z) g' l r c :=
  ⟨by simpa using h.lt, far3 h.c0 hp, far3 h.c1 hp, far3 h.c2 hp⟩
theorem C3.set3 {w : World} {g : Nat} {x y z : Value} (hl : g < w.heap.size) (n0 : w.cell? ⟨g, 0, none⟩ = some x) (n1 : w.cell? ⟨g, 1, none⟩ = some y) (n2 : w.cell? ⟨g, 2, none⟩ = some z) (a b c : Int) :
    C3 (((w.setCell ⟨g, 0, none⟩ (.int .i64 a)).setCell ⟨g, 1, none⟩ (.int .i64 b)).setCell ⟨g, 2, none⟩ (.int .i64 c)) g a b c := by
  have d01 : (⟨g, 0, none⟩ : Addr) ≠ ⟨g, 1, none⟩ := by simp
  have d02 : (⟨g, 0, none⟩ : Addr) ≠ ⟨g, 2, none⟩ := by simp
  have d12 : (⟨g, 1, none⟩ : Addr) ≠ ⟨g, 2, none⟩ := by simp
  refine ⟨by simpa using hl, ?_, ?_, ?_⟩
  · rw [World.cell?_setCell_other _ _ _ _ d02.symm, World.cell?_setCell_other _ _ _ _ d01.symm]
    exact World.cell?_setCell_same _ _ _ n0
  · rw [World.cell?_setCell_other _ _ _ _ d12.symm]
    exact World.cell?_setCell_same _ _ _ ((World.cell?_setCell_other _ _ _ _ d01).trans n1)
  · exact World.cell?_setCell_same _ _ _ ((World.cell?_setCell_other _ _ _ _ d12).trans ((World.cell?_setCell_other _ _ _ _ d02).trans n2))
theorem bl_set3 {B : Nat} {a w : World} {g : Nat} {x y z : Value} (h : Below B a w) (hg : B ≤ g) : Below B a (((w.setCell ⟨g, 0, none⟩ x).setCell ⟨g, 1, none⟩ y).setCell ⟨g, 2, none⟩ z) := ((h.setCell hg _).setCell hg _).setCell hg _
/-- how the region ends in which a fresh cell is made before the call, or after it -/
theorem end_after {w w7 w8 : World} {g' : Nat} {o1 o2 o3 u1 u2 u3 : Int} (t : TypeId) (hD : C3 w7 g' o1 o2 o3) (hb : Below w.heap.size w w7) (hb8 : Below w7.drew.heap.size w7.drew w8) :
    C3 (w8.alloc (.cells #[.int .i64 u1, .int .i64 u2, .int .i64 u3] t)) w8.heap.size u1 u2 u3 ∧ C3 (w8.alloc (.cells #[.int .i64 u1, .int .i64 u2, .int .i64 u3] t)) g' o1 o2 o3 ∧ Below w.heap.size w (w8.alloc (.cells #[.int .i64 u1, .int .i64 u2, .int .i64 u3] t)) := by
  have h8 := (bl_drew hb).trans (hb8.mono (show w.heap.size ≤ w7.drew.heap.size from hb.size))
  exact ⟨C3.new w8 u1 u2 u3 t, (hD.drew.below hb8 hD.lt).alloc _, h8.alloc h8.size _⟩
theorem end_before {w w7 w8 : World} {g' : Nat} {o1 o2 o3 u1 u2 u3 : Int} {cs : Array Value} {t : TypeId} {x y z : Value} (hD : C3 w7 g' o1 o2 o3) (hb : Below w.heap.size w w7) (hb8 : Below (w7.drew.alloc (.cells cs t)).heap.size (w7.drew.alloc (.cells cs t)) w8)
    (n0 : w8.cell? ⟨w7.heap.size, 0, none⟩ = some x) (n1 : w8.cell? ⟨w7.heap.size, 1, none⟩ = some y) (n2 : w8.cell? ⟨w7.heap.size, 2, none⟩ = some z) (hz : w7.heap.size < w8.heap.size) :
    C3 (((w8.setCell ⟨w7.heap.size, 0, none⟩ (.int .i64 u1)).setCell ⟨w7.heap.size, 1, none⟩ (.int .i64 u2)).setCell ⟨w7.heap.size, 2, none⟩ (.int .i64 u3)) w7.heap.size u1 u2 u3 ∧
    C3 (((w8.setCell ⟨w7.heap.size, 0, none⟩ (.int .i64 u1)).setCell ⟨w7.heap.size, 1, none⟩ (.int .i64 u2)).setCell ⟨w7.heap.size, 2, none⟩ (.int .i64 u3)) g' o1 o2 o3 ∧
    Below w.heap.size w (((w8.setCell ⟨w7.heap.size, 0, none⟩ (.int .i64 u1)).setCell ⟨w7.heap.size, 1, none⟩ (.int .i64 u2)).setCell ⟨w7.heap.size, 2, none⟩ (.int .i64 u3)) := by
  have h7 := (bl_drew hb).alloc (show w.heap.size ≤ w7.drew.heap.size from hb.size) (.cells cs t)
  have h8 := h7.trans (hb8.mono h7.size)
  have hD' := (hD.drew.alloc (.cells cs t)).below hb8 (hD.drew.alloc (.cells cs t)).lt
  exact ⟨C3.set3 hz n0 n1 n2 u1 u2 u3, hD'.far (by have := hD.lt; omega), bl_set3 h8 hb.size⟩
set_option maxHeartbeats 8000000 in
set_option maxRecDepth 100000 in
theorem family_any (l r c a b lv ls : Int) (w : World) (h1 : 0 ≤ lv) (h2 : lv ≤ 255) (h3 : 0 ≤ ls) (h4 : ls ≤ 255) :
    Calls Try.prog 7 #[.agg #[.int .i64 l, .int .i64 r, .int .i64 c], .agg #[.int .i64 a, .int .i64 b], .int .u8 lv, .int .u8 ls] w fun e w' => e = .returned (.bool true) ∧ Below w.heap.size w w' := by
  have KA := Lib.hid (fun W => awake38 W)
  have KV := Lib.hid (fun W => valid_any l r c W)
  have KQ := Lib.hid (fun W => refVpt_any a b W)
  go_enter Try.func7, Try.ntmps7
  go_wp2_with fail
  (with_reducible refine (KA.out _).mono ?_)
  rintro e w1 ⟨rfl, hb1⟩
  have hz1 := two_lt hb1
  have hb1' := two_bl hb1
  have x0 := (hb1.cell (p := ⟨w.heap.size, 0, none⟩) (by simp; omega)).trans (show _ = some (.int .i64 l) by simp)
  have x1 := (hb1.cell (p := ⟨w.heap.size, 1, none⟩) (by simp; omega)).trans (show _ = some (.int .i64 r) by simp)
  have x2 := (hb1.cell (p := ⟨w.heap.size, 2, none⟩) (by simp; omega)).trans (show _ = some (.int .i64 c) by simp)
  have y0 := (hb1.cell (p := ⟨w.heap.size + 1, 0, none⟩) (by simp)).trans (show _ = some (.int .i64 a) by simp)
  have y1 := (hb1.cell (p := ⟨w.heap.size + 1, 1, none⟩) (by simp)).trans (show _ = some (.int .i64 b) by simp)
  clear hb1 KA
  have X1 := Lib.hid (C3.mk (by omega) x0 x1 x2 : C3 w1 w.heap.size l r c)
  go_upto_region 3 with fail
  go_cut [37] (fun s37 wx => s37 = .bool (vldB l r c && decide (l < 16)) ∧ Below w1.heap.size w1 wx)
  case first =>
    cases hv : vldB l r c with
    | false =>
      rw [hv] at KV
      go_wp2_with fail
      (with_reducible refine (KV.out _).mono ?_)
      rintro e w2 ⟨rfl, hb2⟩
      go_wp2
      go_meet
      case rel => exact ⟨by simp [hv], hb2⟩
    | true =>
      rw [hv] at KV
      go_wp2_with fail
      (with_reducible refine (KV.out _).mono ?_)
      rintro e w2 ⟨rfl, hb2⟩
      have x0 := (hb2.cell (p := ⟨w.heap.size, 0, none⟩) hz1.1).trans x0
      go_wp2
      go_meet
      case rel => exact ⟨by simp [hv], hb2⟩
  case rest =>
    obtain ⟨rfl, hb2⟩ := hcut
    rename World => w2
    have X2 := Lib.hid (X1.out.below hb2 X1.out.lt)
    have y0 := (hb2.cell (p := ⟨w.heap.size + 1, 0, none⟩) hz1.2).trans y0
    have y1 := (hb2.cell (p := ⟨w.heap.size + 1, 1, none⟩) hz1.2).trans y1
    have hb2' := hb1'.trans (hb2.mono hb1'.size)
    have hz2 : w.heap.size + 1 < w2.heap.size := Nat.lt_of_lt_of_le hz1.2 hb2.size
    clear X1 x0 x1 x2 hb2 hb1' hz1 KV
    go_upto_if 37 with (fail)
    go_cut [] (fun wx => Below w2.heap.size w2 wx)
    case first =>
      cases hin : (vldB l r c && decide (l < 16)) with
      | false =>
        go_wp2
        go_meet
        case rel => exact Below.refl _ _
      | true =>
        have hv : vldB l r c = true := by revert hin; cases vldB l r c <;> simp
        have hl : l < 16 := by rw [hv] at hin; simpa using hin
        have K3 := Lib.hid (fun W => Children_yes l r c W hv (by rw [beq_eq_false_iff_ne]; omega))
        obtain ⟨e0, e1, e2, e3, P, hB, hok, he3, hP, hPw, hbx⟩ := boxK hv
        have K4 := Lib.hid hbx
        have K5 := Lib.hid (fun W => placeValid_yes e0 e1 e2 e3 W hok)
        have hkk := Lib.hid (fun j hj => kidK (j := j) hv hl hj)
        rw [hB] at hkk
        have HT := Lib.hid (kids_back hv hl)
        have HS := Lib.hid (wsum_kids (l := l) (r := r) (c := c) (by have := vldB_true.1 hv; omega))
        have HSB := Lib.hid (wsum_bd hv hl)
        have HP := Lib.hid hPw
        obtain ⟨l1, l2, l3, o1, o2, o3, o4⟩ := hok
        have HPP := Lib.hid hP
        clear hbx hP hPw hB y0 y1 hb2' hin
        obtain ⟨-, x0, x1, x2⟩ := X2.out
        go_wp2_with fail
        (with_reducible refine (K3.out _).mono ?_)
        rintro e w3 ⟨v, rfl, hown, hb3⟩
        have hown' : w3.ownsRow w2.heap.size 32 3 v 4 (cvs (kids l r c)) := hown
        obtain ⟨g, cap, rfl, hg, hlt⟩ := hown'.form (by decide)
        have hb3' := hb3
        have X3 := Lib.hid (X2.out.below hb3 X2.out.lt)
        have X2' := Lib.hid X2.out
        have O3 := Lib.hid hown'
        have Hg := Lib.hid (And.intro hg hlt)
        clear X2 x0 x1 x2 hb3 hown hown' hg hlt K3
        obtain ⟨-, x0, x1, x2⟩ := X3.out
        go_wp2_with fail
        (with_reducible refine (K4.out _).mono ?_)
        rintro e w4 ⟨rfl, hb4⟩
        have hb4' := hb3'.trans (hb4.mono hb3'.size)
        have X4 := Lib.hid (X3.out.below hb4 X3.out.lt)
        have O4 := Lib.hid (own_bl O3.out hb4 (Nat.le_refl _))
        have z4 := hb4.size
        clear X3 x0 x1 x2 hb3' O3 hb4
        go_wp2_with fail
        (with_reducible refine (K5.out _).mono ?_)
        rintro e w5 ⟨rfl, hb5⟩
        have hb5' := (hb4'.alloc hb4'.size _).trans (hb5.mono (by have := hb4'.size; simp; omega))
        have X5 := Lib.hid ((X4.out.alloc _).below hb5 (X4.out.alloc _).lt)
        have Z5 := Lib.hid ((C4.new w4 e0 e1 e2 e3 39).below hb5 (C4.new w4 e0 e1 e2 e3 39).lt)
        have O5 := Lib.hid (own_bl O4.out (bl_alloc w4 _ |>.trans (hb5.mono (by simp))) (Nat.le_refl _))
        clear X4 hb4' O4 hb5 K5
        go_wp2
        go_loopw [13, 66] (fun s k wr => ∃ j : Nat, j ≤ 4 ∧ k = .int .i64 j ∧ s = .int .i64 (wsum (kids l r c) j) ∧ Below w5.heap.size w5 wr) (fun _ k _ => 4 - (intOf k).toNat)
        case atStart => exact ⟨0, by omega, rfl, rfl, Below.refl _ _⟩
        case round =>
          obtain ⟨j, hj, rfl, rfl, hbr⟩ := hrel
          have X6 := Lib.hid (X5.out.below hbr X5.out.lt)
          have Z6 := Lib.hid (Z5.out.below hbr Z5.out.lt)
          have O6 := Lib.hid (own_bl O5.out hbr (Nat.le_refl _))
          by_cases hlt : j < 4
          · obtain ⟨l1', r1, c1, q0, q1, q2, q3, Pj, hg1, kp, kb, ki, hqb, hpw, hpe, hp0, hp1⟩ := hkk.out j hlt
            obtain ⟨v1, v2, v3⟩ := kid_cells O6.out rfl hlt
            rw [hg1] at v1 v2 v3
            simp only [] at v1 v2 v3
            have KP := Lib.hid kp
            have KB := Lib.hid kb
            have KI := Lib.hid ki
            have HPW := Lib.hid hpw
            have HPE := Lib.hid hpe
            obtain ⟨g1, g2, g3, g4, g5, g6⟩ := hqb
            clear kp kb ki hpw hpe hg1
            go_wp2_with fail
            (with_reducible refine (KP.out _).mono ?_)
            rintro e w6 ⟨rfl, hb6⟩
            have X7 := Lib.hid ((X6.out.alloc _).below hb6 (X6.out.alloc _).lt)
            have Z7 := Lib.hid ((Z6.out.alloc _).below hb6 (Z6.out.alloc _).lt)
            have C7 := Lib.hid ((C3.new wr l1' r1 c1 32).below hb6 (C3.new wr l1' r1 c1 32).lt)
            have hb6' := (hbr.alloc hbr.size _).trans (hb6.mono (by have := hbr.size; simp; omega))
            clear v1 v2 v3 X6 Z6 hb6 KP O6
            obtain ⟨dt, d0, d1, d2⟩ := C7.out
            go_wp2_with fail
            (with_reducible refine (KB.out _).mono ?_)
            rintro e w7 ⟨rfl, hb7⟩
            have X8 := Lib.hid ((X7.out.alloc _).below hb7 (X7.out.alloc _).lt)
            have Z8 := Lib.hid ((Z7.out.alloc _).below hb7 (Z7.out.alloc _).lt)
            have P8 := Lib.hid ((C3.new w6 l r c 32).below hb7 (C3.new w6 l r c 32).lt)
            have hb7' := (hb6'.alloc hb6'.size _).trans (hb7.mono (by have := hb6'.size; simp; omega))
            clear X7 Z7 C7 dt d0 d1 d2 hb7 KB hb6'
            obtain ⟨xt, x0, x1, x2⟩ := X8.out
            obtain ⟨pt, p0, p1, p2⟩ := P8.out
            obtain ⟨zt, z0, z1, z2, z3⟩ := Z8.out
            have hq := neqCell
            have k1 : ceq (l, r, c) (l, r, c) = true := by simp [ceq]
            go_wp2_with fail
            (with_reducible refine (KI.out _).mono ?_)
            rintro e w8 ⟨rfl, hb8⟩
            have Q9 := Lib.hid ((C4.new w7 q0 q1 q2 q3 39).below hb8 (C4.new w7 q0 q1 q2 q3 39).lt)
            have hb8' := (hb7'.alloc hb7'.size _).trans (hb8.mono (by have := hb7'.size; simp; omega))
            clear X8 P8 Z8 xt x0 x1 x2 pt p0 p1 p2 zt z0 z1 z2 z3 hq k1 KI hb8 hb7'
            obtain ⟨-, s0, s1, s2, s3⟩ := Q9.out
            obtain ⟨b0, b1⟩ := HSB.out j hj
            have hpw := HPW.out
            go_wp2
            go_roundw
            case rel => exact ⟨j + 1, by omega, by go_num, by rw [wsum, ← HPE.out], hb8'⟩
            case measure => simp [intOf]; omega
          · have h4 : j = 4 := by omega
            subst h4
            have hs : wsum (kids l r c) 4 = P := HS.out.trans HP.out.symm
            rw [hs]
            obtain ⟨-, z0, z1, z2, z3⟩ := Z6.out
            have hpw := HPP.out
            have KR := Lib.hid (Reverse_any w2.heap.size _ (kids l r c) wr O6.out (by simp [kids]) (by simp [kids]))
            have hbT := hb5'.trans (hbr.mono hb5'.size)
            have hob := own_base O6.out
            go_wp2_with fail
            (with_reducible refine KR.out.mono ?_)
            rintro e w9 ⟨rfl, hown9, hg9⟩
            have hb9 := hbT.grown hg9 hbT.size hob
            have O9 : w9.ownsRow w2.heap.size 32 3 (.slice (some ⟨g, 0, none⟩) 4 cap) 4 (cvs (kids l r c).reverse) := hown9
            have X9 := Lib.hid (X2'.out.below hb9 X2'.out.lt)
            have KT := Lib.hid (Tidy_any (some ⟨g, 0, none⟩) 4 cap (kids l r c).reverse w9 (Reads.of_own O9) (by simp [maxLen]))
            rw [HT.out.1, HT.out.2] at KT
            clear hown9 hg9 hbT hob KR hpw z0 z1 z2 z3 X6 Z6 O6 hs hbr
            go_wp2_with fail
            (with_reducible refine KT.out.mono ?_)
            rintro e w10 ⟨v10, rfl, hown10, hb10⟩
            obtain ⟨A10, c10, rfl, hr10, -, -⟩ := own_form hown10
            have HR10 := Lib.hid hr10
            have X10 := Lib.hid (X9.out.below hb10 X9.out.lt)
            have hb10' := hb9.trans (hb10.mono hb9.size)
            clear KT hown10 hr10 X9 hb9 O9 hb10
            obtain ⟨-, x0, x1, x2⟩ := X10.out
            go_wp2_with fail
            (with_reducible refine (Same_any A10 (some ⟨w10.heap.size, 0, none⟩) 1 1 c10 1 [(l, r, c)] [(l, r, c)] _ w10.heap.size (w10.heap.size + 1) (HR10.out.alloc (Nat.le_refl _) _) (reads_new3 w10 l r c _ _ (by omega)) (by simp [maxLen]) (by simp [maxLen])).mono ?_)
            rintro e w11 ⟨rfl, q, rfl⟩
            go_wp2
            go_meet
            case rel =>
              have hz := hb10'.size
              repeat (first | exact Below.refl _ _ | assumption | refine bl_drew ?_ | refine bl_drewN ?_ _ | refine Below.setCell ?_ (by first | assumption | omega | (simp; done) | (simp; omega)) _ | refine Below.alloc ?_ (by first | assumption | omega | (simp; done) | (simp; omega)) _)
    case rest =>
      have hb3 := hcut
      rename World => w3
      have hb3' := hb2'.trans (hb3.mono hb2'.size)
      have y0 := (hb3.cell (p := ⟨w.heap.size + 1, 0, none⟩) hz2).trans y0
      have y1 := (hb3.cell (p := ⟨w.heap.size + 1, 1, none⟩) hz2).trans y1
      have hz3 : w.heap.size + 1 < w3.heap.size := Nat.lt_of_lt_of_le hz2 hb3.size
      clear hb3 hb2' X2 hcut hz2
      cases hp : vptB a b with
      | false =>
        rw [hp] at KQ
        go_wp2_with fail
        (with_reducible refine (KQ.out _).mono ?_)
        rintro e w4 ⟨rfl, hb4⟩
        go_wp2
        go_ret
        exact ⟨rfl, hb3'.trans (hb4.mono hb3'.size)⟩
      | true =>
        rw [hp] at KQ
        obtain ⟨k, hk⟩ : ∃ k : Int, lv % 17 = k := ⟨_, rfl⟩
        have k0 : 0 ≤ k := by omega
        have k1 : k ≤ 16 := by omega
        obtain ⟨m, hm⟩ : ∃ m : Int, ls.tmod (k + 1) = m := ⟨_, rfl⟩
        have hm' : m = ls % (k + 1) := by rw [← hm]; exact Int.tmod_eq_emod_of_nonneg h3
        have m0 : 0 ≤ m := by rw [hm']; exact Int.emod_nonneg _ (by omega)
        have m1 : m ≤ k := by have := Int.emod_lt_of_pos ls (show 0 < k + 1 by omega); omega
        obtain ⟨i1, i2, i3, i4, i5⟩ := of_in hp k0 k1
        have K5 : Hid (∀ W, Calls Try.prog 23 #[.agg #[.int .i64 a, .int .i64 b], .int .i64 k] W fun e w' => e = .returned (.tuple #[.agg #[.int .i64 k, .int .i64 (ofC a b k).2.1, .int .i64 (ofC a b k).2.2], .int .i64 0]) ∧ Below W.heap.size W w') := Lib.hid (fun W => Of_yes a b k W hp k0 k1)
        have K6 : Hid (∀ W, Calls Try.prog 23 #[.agg #[.int .i64 a, .int .i64 b], .int .i64 m] W fun e w' => e = .returned (.tuple #[.agg #[.int .i64 m, .int .i64 (ofC a b m).2.1, .int .i64 (ofC a b m).2.2], .int .i64 0]) ∧ Below W.heap.size W w') := Lib.hid (fun W => Of_yes a b m W hp m0 (by omega))
        have hvo := (vl_iff _).2 i1
        have hvu := (vl_iff _).2 (of_in hp m0 (by omega : m ≤ 16)).1
        have hins : insL [ofC a b k] [ofC a b m] = true := by
          have := of_ins hp (l := m.toNat) (k := k.toNat) (by omega) (by omega)
          rw [show ((k.toNat : Nat) : Int) = k by omega, show ((m.toNat : Nat) : Int) = m by omega] at this
          exact this
        have e1 : (ofC a b k).1 = k := rfl
        have e2 : (ofC a b m).1 = m := rfl
        rw [e1] at hvo
        rw [e2] at hvu
        generalize ofC a b k = oc at *
        generalize ofC a b m = uc at *
        obtain ⟨o1, o2, o3⟩ := oc
        obtain ⟨u1', u2', u3'⟩ := uc
        simp only [] at i1 i2 i3 i4 i5 K5 K6 e1 e2 hvo hvu
        subst e1 e2
        have hvr : ∀ x : Cl, vldB x.1 x.2.1 x.2.2 = true → vrB [x] = true := fun x hx => one_vr ((vl_iff x).1 hx)
        have KI := Lib.hid (fun g1 g2 W h1 h2 => Inside_any (some ⟨g1, 0, none⟩) (some ⟨g2, 0, none⟩) 1 1 1 1 [(o1, o2, o3)] [(u1', u2', u3')] W h1 h2 (by simp [maxLen]) (by simp [maxLen]) (hvr _ hvo) (hvr _ hvu))
        rw [hins] at KI
        have K7 := Lib.hid (fun W => Box_yes o1 o2 o3 W hvo)
        unfold boxV at K7
        generalize edg o2 o1 - 5400000 = q0 at *
        generalize edg (o2 + 1) o1 - 5400000 = q1 at *
        generalize edg o3 o1 - 10800000 = q2 at *
        generalize edg (o3 + 1) o1 - 10800000 = q3 at *
        have t1 : decide (a < q0) = false := decide_eq_false (by omega)
        have t2 : decide (q1 < a) = false := decide_eq_false (by omega)
        have t3 : decide (b < q2) = false := decide_eq_false (by omega)
        have t4 : decide (q3 ≤ b) = false := decide_eq_false (by omega)
        have HM := Lib.hid hm
        have HM2 := Lib.hid hm'.symm
        have HU0 := Lib.hid m0
        clear hm hm' m0 i1 i2 i3 i4 i5 hvo hvu hins hvr
        go_wp2_with fail
        (with_reducible refine (KQ.out _).mono ?_)
        rintro e w4 ⟨rfl, hb4⟩
        have y0 := (hb4.cell (p := ⟨w.heap.size + 1, 0, none⟩) hz3).trans y0
        have y1 := (hb4.cell (p := ⟨w.heap.size + 1, 1, none⟩) hz3).trans y1
        have hz4 : w.heap.size + 1 < w4.heap.size := Nat.lt_of_lt_of_le hz3 hb4.size
        have hb4' := hb3'.trans (hb4.mono hb3'.size)
        clear hb4 hb3' hz3 KQ
        go_wp2_with fail
        (with_reducible refine (K5.out _).mono ?_)
        rintro e w5 ⟨rfl, hb5⟩
        have y0 := (hb5.cell (p := ⟨w.heap.size + 1, 0, none⟩) hz4).trans y0
        have y1 := (hb5.cell (p := ⟨w.heap.size + 1, 1, none⟩) hz4).trans y1
        have hz5 : w.heap.size + 1 < w5.heap.size := Nat.lt_of_lt_of_le hz4 hb5.size
        have hb5' := hb4'.trans (hb5.mono hb4'.size)
        clear hb5 hb4' hz4 K5
        go_wp2_with fail
        (with_reducible refine (K7.out _).mono ?_)
        rintro e w6 ⟨rfl, hb6⟩
        have D6 := Lib.hid ((C3.new w5 o1 o2 o3 32).below hb6 (C3.new w5 o1 o2 o3 32).lt)
        have y0 := (hb6.cell (p := ⟨w.heap.size + 1, 0, none⟩) (by simp; omega)).trans ((World.cell?_alloc_lt w5 _ ⟨w.heap.size + 1, 0, none⟩ hz5).trans y0)
        have y1 := (hb6.cell (p := ⟨w.heap.size + 1, 1, none⟩) (by simp; omega)).trans ((World.cell?_alloc_lt w5 _ ⟨w.heap.size + 1, 1, none⟩ hz5).trans y1)
        have hz6 : w.heap.size + 1 < w6.heap.size := by have := hb6.size; simp at this; omega
        have hb6' := (hb5'.alloc hb5'.size _).trans (hb6.mono (by have := hb5'.size; simp; omega))
        clear hb6 hb5' hz5 K7
        obtain ⟨dt, d0, d1, d2⟩ := D6.out
        have s1 : IntKind.i64.wrap (o1 + 1) = o1 + 1 := IntWalk.i64_in _ (by omega)
        have s2 : IntKind.i64.wrap ls = ls := IntWalk.i64_in _ (by clear s1; omega)
        have hne : (o1 + 1 == 0) = false := by rw [beq_eq_false_iff_ne]; clear s1 s2; omega
        go_upto_region 31 with fail
        go_cut [24, 27] (fun s24 s27 wx => s24 = .int .i64 0 ∧ ∃ g : Nat, s27 = .pointer (some ⟨g, 0, none⟩) ∧ C3 wx g u1' u2' u3' ∧ C3 wx w5.heap.size o1 o2 o3 ∧ Below w.heap.size w wx)
        case first =>
          have hm := HM.out
          have hm2 := HM2.out
          have hne2 : ¬ (o1 + 1 = 0) := by clear s1 s2 hne hm hm2; omega
          have hu : IntKind.i64.wrap u1' = u1' := IntWalk.i64_in _ (by have := HU0.out; clear s1 s2 hm hm2; omega)
          have D7 := Lib.hid (D6.out.alloc (.cells #[.int .i64 q0, .int .i64 q1, .int .i64 q2, .int .i64 q3] 39))
          have hb7 := Lib.hid (hb6'.alloc hb6'.size (.cells #[.int .i64 q0, .int .i64 q1, .int .i64 q2, .int .i64 q3] 39))
          have y0' := (World.cell?_alloc_lt w6 (.cells #[.int .i64 q0, .int .i64 q1, .int .i64 q2, .int .i64 q3] 39) ⟨w.heap.size + 1, 0, none⟩ hz6).trans y0
          have y1' := (World.cell?_alloc_lt w6 (.cells #[.int .i64 q0, .int .i64 q1, .int .i64 q2, .int .i64 q3] 39) ⟨w.heap.size + 1, 1, none⟩ hz6).trans y1
          have hz7 : w.heap.size + 1 < (w6.alloc (.cells #[.int .i64 q0, .int .i64 q1, .int .i64 q2, .int .i64 q3] 39)).heap.size := by simp; omega
          generalize w6.alloc (.cells #[.int .i64 q0, .int .i64 q1, .int .i64 q2, .int .i64 q3] 39) = w7 at *
          clear dt d0 d1 d2 y0 y1 hz6 hb6' D6
          go_region_held3 (fun w' => w'.cell? ⟨w.heap.size + 1, 0, none⟩ = some (.int .i64 a) ∧ w'.cell? ⟨w.heap.size + 1, 1, none⟩ = some (.int .i64 b)) (first | exact ⟨yy0, yy1⟩ | exact ⟨far3 yy0 (by simp only []; omega), far3 yy1 (by simp only []; omega)⟩ | go_keep) (first | (go_at_call 23; (with_reducible refine (K6.out _).mono ?_); rintro e w8 ⟨rfl, hb8⟩; have yy0 := (hb8.cell (p := ⟨w.heap.size + 1, 0, none⟩) (by first | exact hz7 | (simp; omega))).trans (by first | exact y0' | exact (World.cell?_alloc_lt _ _ _ hz7).trans y0'); have yy1 := (hb8.cell (p := ⟨w.heap.size + 1, 1, none⟩) (by first | exact hz7 | (simp; omega))).trans (by first | exact y1' | exact (World.cell?_alloc_lt _ _ _ hz7).trans y1'); (first | (have n0 := (hb8.cell (p := ⟨w7.heap.size, 0, none⟩) (by simp)).trans (show _ = some (.int .i64 0) by simp); have n1 := (hb8.cell (p := ⟨w7.heap.size, 1, none⟩) (by simp)).trans (show _ = some (.int .i64 0) by simp); have n2 := (hb8.cell (p := ⟨w7.heap.size, 2, none⟩) (by simp)).trans (show _ = some (.int .i64 0) by simp); have f0 := (hb8.frozen (p := ⟨w7.heap.size, 0, none⟩) (by simp)).trans (show _ = false by simp); have f1 := (hb8.frozen (p := ⟨w7.heap.size, 1, none⟩) (by simp)).trans (show _ = false by simp); have f2 := (hb8.frozen (p := ⟨w7.heap.size, 2, none⟩) (by simp)).trans (show _ = false by simp); have hz8 : w7.heap.size < w8.heap.size := by have := hb8.size; simp at this; omega) | skip)) | fail)
          all_goals
            try go_wp2_with fail
            go_meet
            case rel =>
              first
                | exact ⟨rfl, _, rfl, end_after _ D7.out hb7.out hb8⟩
                | exact ⟨rfl, _, rfl, end_before D7.out hb7.out hb8 n0 n1 n2 hz8⟩
                | fail
        case rest =>
          obtain ⟨rfl, g, rfl, C8, D8, hb8⟩ := hcut
          rename World => w8
          obtain ⟨ct, c0, c1, c2⟩ := C8
          obtain ⟨dt', d0', d1', d2'⟩ := D8
          clear dt d0 d1 d2 y0 y1 hz6 hb6' D6 s1 s2 hne
          have R1 : Hid (Reads ((w8.alloc (.cells #[.int .i64 o1, .int .i64 o2, .int .i64 o3] 32)).alloc (.cells #[.int .i64 u1', .int .i64 u2', .int .i64 u3'] 32)) ((w8.alloc (.cells #[.int .i64 o1, .int .i64 o2, .int .i64 o3] 32)).alloc (.cells #[.int .i64 u1', .int .i64 u2', .int .i64 u3'] 32)).heap.size 3 (some ⟨w8.heap.size, 0, none⟩) 1 (cvs [(o1, o2, o3)])) := Lib.hid (by
            have := ((reads_new w8 o1 o2 o3 32).alloc (by simp) (.cells #[.int .i64 u1', .int .i64 u2', .int .i64 u3'] 32)).more (B' := ((w8.alloc (.cells #[.int .i64 o1, .int .i64 o2, .int .i64 o3] 32)).alloc (.cells #[.int .i64 u1', .int .i64 u2', .int .i64 u3'] 32)).heap.size) (by simp)
            simpa [cvs] using this)
          have R2 : Hid (Reads ((w8.alloc (.cells #[.int .i64 o1, .int .i64 o2, .int .i64 o3] 32)).alloc (.cells #[.int .i64 u1', .int .i64 u2', .int .i64 u3'] 32)) ((w8.alloc (.cells #[.int .i64 o1, .int .i64 o2, .int .i64 o3] 32)).alloc (.cells #[.int .i64 u1', .int .i64 u2', .int .i64 u3'] 32)).heap.size 3 (some ⟨w8.heap.size + 1, 0, none⟩) 1 (cvs [(u1', u2', u3')])) := Lib.hid (by
            have := reads_new (w8.alloc (.cells #[.int .i64 o1, .int .i64 o2, .int .i64 o3] 32)) u1' u2' u3' 32
            simpa [cvs] using this)
          go_wp2_with fail
          (with_reducible refine (KI.out _ _ _ R1.out R2.out).mono ?_)
          rintro e w9 ⟨rfl, hb9⟩
          have hbe := (hb8.alloc hb8.size (.cells #[.int .i64 o1, .int .i64 o2, .int .i64 o3] 32)).alloc (by have := hb8.size; simp; omega) (.cells #[.int .i64 u1', .int .i64 u2', .int .i64 u3'] 32)
          go_wp2
          go_ret
          exact ⟨rfl, hbe.trans (hb9.mono hbe.size)⟩
end Go.Proofs.Ytlglalemhfjmhaa
