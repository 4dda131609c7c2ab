/- The greatest gap between arcs of cells leaves the reference's least longitudes around them (plain). -/
import Derived.Deep.LoopGhost
import Derived.Deep.AppendSrc
import Derived.Orders
import Derived.Deep.RegionHeld3
import Derived.Deep.DeepCutAuto
import Derived.Test.YtifdgdgfmjfbdaaGreatIHk
import Derived.Test.YtifdgdgfmjfbdaaGreatIBase
import Derived.Test.YtifdgdgfmjfbdaaGreatIJc
set_option linter.unusedVariables false
set_option linter.unusedSimpArgs false
namespace Go.Proofs.YtifdgdgfmjfbdaaGreat
open Go.RowKit
def gb (D : List Bx) (k : Nat) : Bx := D.getD k (0, 0, 0, 0)
theorem bvs_at (L : List Bx) (k : Nat) (hk : k < L.length) : (bvs L)[k * 4]? = some (.int .i64 (gb L k).1) ∧ (bvs L)[k * 4 + 1]? = some (.int .i64 (gb L k).2.1) ∧ (bvs L)[k * 4 + 2]? = some (.int .i64 (gb L k).2.2.1) ∧ (bvs L)[k * 4 + 3]? = some (.int .i64 (gb L k).2.2.2) := by
  induction L generalizing k with
  | nil => simp at hk
  | cons x r ih =>
    have hc : bvs (x :: r) = .int .i64 x.1 :: .int .i64 x.2.1 :: .int .i64 x.2.2.1 :: .int .i64 x.2.2.2 :: bvs r := rfl
    rw [hc]
    match k with
    | 0 => simp [gb]
    | k + 1 =>
      have := ih k (by simpa using hk)
      have e : (k + 1) * 4 = k * 4 + 4 := by omega
      rw [e]
      simpa [gb] using this
theorem BReads.elem {w : World} {B n : Nat} {A : Option Addr} {D : List Bx} (h : Reads w B 4 A n (bvs D)) {k : Nat} (hk : k < n) :
    ∃ b off, A = some ⟨b, off, none⟩ ∧ b < B ∧ w.cell? ⟨b, off + k * 4, none⟩ = some (.int .i64 (gb D k).1) ∧ w.cell? ⟨b, off + k * 4 + 1, none⟩ = some (.int .i64 (gb D k).2.1) ∧ w.cell? ⟨b, off + k * 4 + 2, none⟩ = some (.int .i64 (gb D k).2.2.1) ∧ w.cell? ⟨b, off + k * 4 + 3, none⟩ = some (.int .i64 (gb D k).2.2.2) := by
  have hl : D.length = n := by have := h.1; rw [bvs_length] at this; omega
  obtain ⟨ad, rfl, hb, hc⟩ := h.2 (by omega)
  obtain ⟨b, off, spot⟩ := ad
  obtain ⟨z1, _⟩ := bvs_at D 0 (by omega)
  have hspot : spot = none := by simpa [Addr.add] using World.cell?_spot (hc 0 _ (by simpa using z1))
  subst hspot
  obtain ⟨y1, y2, y3, y4⟩ := bvs_at D k (by omega)
  refine ⟨b, off, rfl, hb, ?_, ?_, ?_, ?_⟩
  · have := hc _ _ y1; rw [Go.WideShapes.add_plain] at this; exact this
  · have := hc _ _ y2; rw [Go.WideShapes.add_plain] at this; exact this
  · have := hc _ _ y3; rw [Go.WideShapes.add_plain] at this; exact this
  · have := hc _ _ y4; rw [Go.WideShapes.add_plain] at this; exact this
theorem own_some {w : World} {base : Nat} {e : TypeId} {size n : Nat} {v : Value} {xs : List Value} (h : w.ownsRow base e size v n xs) (hn : 0 < n) : ∃ g cap, v = .slice (some ⟨g, 0, none⟩) n cap ∧ base ≤ g ∧ g < w.heap.size := by
  rcases h.2 with ⟨_, h0⟩ | ⟨g, cap, cur, rfl, hb, hh, _⟩
  · omega
  · exact ⟨g, cap, rfl, hb, Blk.lt (show Blk w g e cur from hh)⟩
section
variable {w1 W W' : World} {i : Nat} {C f f' : Nat → Nat} {v13 v14 : Value} {LL : List (List Cl)} {vs : List Value} {D : List Nat}
end
end Go.Proofs.YtifdgdgfmjfbdaaGreat
namespace Go.Proofs.YtifdgdgfmjfbdaaGreat
open Go.RowKit
/-- arcs of numbers that are not normalised -/
def OkR (D : List Sp) : Prop := ∀ x ∈ D, -100000000 ≤ x.1 ∧ x.1 ≤ 100000000 ∧ x.1 ≤ x.2 ∧ x.2 ≤ x.1 + 21600000
theorem wdtR_bd (D : List Sp) (a : Int) (hD : OkR D) (k : Nat) (hk : k ≤ D.length) : 0 ≤ wdt D a k ∧ wdt D a k < 43200000 := by
  induction k with
  | zero => simp [wdt]
  | succ k ih =>
    have h := ih (by omega)
    rw [wdt_succ D a k (by omega)]
    have := hD (gs D k) (by have : k < D.length := by omega
                            simp [gs, this])
    omega
/-- the reference's best arc, one arc more looked at -/
def stepR (D : List Sp) (s a : Sp) : Sp := if wdt D a.1 D.length < s.2 - s.1 ∨ (wdt D a.1 D.length = s.2 - s.1 ∧ wdt D a.1 D.length < 21600000 ∧ sgA a.1 < s.1) then (sgA a.1, sgA a.1 + wdt D a.1 D.length) else s
def foldR (D : List Sp) (k : Nat) : Sp := (D.take k).foldl (stepR D) ((-10800000 : Int), (10800000 : Int))
/-- what the reference's Around returns -/
def rarn (D : List Sp) : Sp := foldR D D.length
theorem foldR_succ (D : List Sp) (k : Nat) (hk : k < D.length) : foldR D (k + 1) = stepR D (foldR D k) (gs D k) := by
  unfold foldR
  rw [List.take_succ_eq_append_getElem hk, List.foldl_append]
  simp [gs, hk]
theorem foldR_bd (D : List Sp) (hD : OkR D) (k : Nat) (hk : k ≤ D.length) : -10800000 ≤ (foldR D k).1 ∧ (foldR D k).1 ≤ 10800000 ∧ (foldR D k).1 ≤ (foldR D k).2 ∧ (foldR D k).2 ≤ (foldR D k).1 + 43200000 := by
  induction k with
  | zero => simp [foldR]
  | succ k ih =>
    have h := ih (by omega)
    rw [foldR_succ D k (by omega)]
    have h2 := wdtR_bd D (gs D k).1 hD D.length (Nat.le_refl _)
    have h3 := sgA_bd (gs D k).1
    unfold stepR
    split
    · simp only []
      omega
    · exact h
end Go.Proofs.YtifdgdgfmjfbdaaGreat
namespace Go.Proofs.YtifdgdgfmjfbdaaGreat
open Go.RowKit
/-- one operation more has been done -/
def mkd (L : Nat → Bool) (i : Nat) : Nat → Bool := fun j => if j = i then true else L j
theorem mkd_ne {L : Nat → Bool} {i j : Nat} (h : ¬ j = i) : mkd L i j = L j := if_neg h
theorem mkd_same (L : Nat → Bool) (i : Nat) : mkd L i i = true := if_pos rfl
theorem wpOp_of_list {P : Program} {ops : Array Oper} {Q : Exit → Act → World → Prop} {i : Nat} {o : Oper} {K : Act → World → Prop} {a : Act} {w : World} (hi : ops[i]? = some o) (h : wpList P ops (Exit.then K Q) [o] a w) : wpOp P ops Q i K a w := by
  unfold wpOp
  rw [hi]
  simp only [wpList] at h
  simp only []
  split
  · rename_i hw
    rw [if_pos hw] at h
    refine h.imp (fun h1 => ?_) id
    unfold Oper.wp at *
    generalize (execOp a.eval o).run P w = r at *
    cases r with
    | ok n w' => cases n <;> exact h1
    | halt x w' => cases x <;> exact h1
  · rename_i hw
    rw [if_neg hw] at h
    exact h
end Go.Proofs.YtifdgdgfmjfbdaaGreat
namespace Go.Proofs.YtifdgdgfmjfbdaaGreat
open Go.RowKit
theorem K4.drew {W : World} {g : Nat} {a b c d : Int} (h : K4 W g a b c d) : K4 W.drew g a b c d := h.below (bl_drew (Below.refl _ _)) h.lt
theorem bl_put4 {B : Nat} {a w : World} {g : Nat} {x y z u : Value} (h : Below B a w) (hg : B ≤ g) : Below B a ((((w.setCell ⟨g, 0, none⟩ x).setCell ⟨g, 1, none⟩ y).setCell ⟨g, 2, none⟩ z).setCell ⟨g, 3, none⟩ u) := (((h.setCell hg _).setCell hg _).setCell hg _).setCell hg _
section
variable {W2 w w' : World} {L : Nat → Bool} {g5 g6 : Nat} {a0 a1 a2 a3 b0 b1 b2 b3 : Int}
end
end Go.Proofs.YtifdgdgfmjfbdaaGreat
namespace Go.Proofs.YtifdgdgfmjfbdaaGreat
open Go.RowKit
namespace PQ
end PQ
section
variable {W W' : World} {g n : Nat} {f f' : Nat → Nat}
end
theorem grown_bl {w1 W W' : World} {B : Nat} {row : Option Nat} (h : w1.grownBy W row) (hb : Below B W W') (hB : w1.heap.size ≤ B) : w1.grownBy W' row :=
  ⟨hb.os.trans h.os, hb.tape.trans h.tape, hb.output.trans h.output, Nat.le_trans h.size hb.size, fun k hk hr => (hb.block k (by omega)).trans (h.block k hk hr)⟩
theorem grown_set2 {w1 W : World} {g o : Nat} {v : Value} (h : w1.grownBy W (some g)) : w1.grownBy (W.setCell ⟨g, o, none⟩ v) (some g) :=
  ⟨h.os, h.tape, h.output, by simpa using h.size, fun k hk hr => (Below.heap_setCell _ _ _ k (fun e => hr (by rw [e]))).trans (h.block k hk hr)⟩
section
variable {w1 W W' : World} {g n : Nat} {c : Nat → Nat} {t : Nat → Nat → Bool} {i : Nat} {pt : Nat → Nat} {A : Option Addr} {nT cT : Nat} {T : List Nat} {k m : Nat}
end
end Go.Proofs.YtifdgdgfmjfbdaaGreat
namespace Go.Proofs.YtifdgdgfmjfbdaaGreat
open Go.RowKit
theorem K4.two {W : World} {g : Nat} {a b c d : Int} (h : K4 W g a b c d) (x y : Int) : K4 ((W.setCell ⟨g, 0, none⟩ (.int .i64 x)).setCell ⟨g, 1, none⟩ (.int .i64 y)) g x y c d := by
  have o : ∀ (V : World) (i j : Nat) (v : Value), i ≠ j → (V.setCell ⟨g, i, none⟩ v).cell? ⟨g, j, none⟩ = V.cell? ⟨g, j, none⟩ := fun V i j v hij => World.cell?_setCell_other _ _ _ _ (fun e => hij (by injection e))
  refine ⟨by simpa using h.lt, ?_, ?_, ?_, ?_, ?_, ?_, ?_, ?_⟩
  · rw [o _ 1 0 _ (by decide)]; exact World.cell?_setCell_same _ _ _ h.c0
  · exact World.cell?_setCell_same _ _ _ (by rw [o _ 0 1 _ (by decide)]; exact h.c1)
  · rw [o _ 1 2 _ (by decide), o _ 0 2 _ (by decide)]; exact h.c2
  · rw [o _ 1 3 _ (by decide), o _ 0 3 _ (by decide)]; exact h.c3
  · rw [World.frozen?_setCell, World.frozen?_setCell]; exact h.f0
  · rw [World.frozen?_setCell, World.frozen?_setCell]; exact h.f1
  · rw [World.frozen?_setCell, World.frozen?_setCell]; exact h.f2
  · rw [World.frozen?_setCell, World.frozen?_setCell]; exact h.f3
theorem K4.farB {W : World} {g : Nat} {a b c d : Int} (h : K4 W g a b c d) {p : Addr} (hp : g ≠ p.block) (u : Value) : K4 (W.setCell p u) g a b c d := by
  have hne : ∀ i, p ≠ (⟨g, i, none⟩ : Addr) := fun i e => hp (by rw [e])
  refine ⟨by simpa using h.lt, ?_, ?_, ?_, ?_, ?_, ?_, ?_, ?_⟩
  · rw [World.cell?_setCell_other _ _ _ _ (hne 0)]; exact h.c0
  · rw [World.cell?_setCell_other _ _ _ _ (hne 1)]; exact h.c1
  · rw [World.cell?_setCell_other _ _ _ _ (hne 2)]; exact h.c2
  · rw [World.cell?_setCell_other _ _ _ _ (hne 3)]; exact h.c3
  · rw [World.frozen?_setCell]; exact h.f0
  · rw [World.frozen?_setCell]; exact h.f1
  · rw [World.frozen?_setCell]; exact h.f2
  · rw [World.frozen?_setCell]; exact h.f3
theorem cell_put_same {W : World} {p : Addr} {v : Value} (h : W.cell? p = some v) (q : Addr) : (W.setCell p v).cell? q = W.cell? q := by
  by_cases e : p = q
  · subst e; rw [World.cell?_setCell_same _ _ _ h, h]
  · exact World.cell?_setCell_other _ _ _ _ e
set_option maxHeartbeats 4000000 in
set_option maxRecDepth 100000 in
/-- the bounds of one box -/
theorem fbounds_one (A : Option Addr) (c : Nat) (q0 q1 q2 q3 : Int) (w : World) (hr : Reads w w.heap.size 4 A 1 (bv (q0, q1, q2, q3))) (hD : OkA [(q2, q3)]) :
    Calls Tryz.prog 68 #[.slice A 1 c] w fun e w' => e = .returned (.agg #[.int .i64 q0, .int .i64 q1, .int .i64 (fS [(q2, q3)] 1).1.1, .int .i64 (fS [(q2, q3)] 1).1.2]) ∧ Below w.heap.size w w' := by
  have HD := Lib.hid hD
  obtain ⟨b, off, rfl, hb, x0, x1, x2, x3⟩ := BReads.elem (D := [(q0, q1, q2, q3)]) (by simpa [bvs, bv] using hr) (Nat.zero_lt_one)
  simp only [Nat.zero_mul, Nat.add_zero] at x0 x1 x2 x3
  replace x0 : w.cell? ⟨b, off, none⟩ = some (.int .i64 q0) := x0
  replace x1 : w.cell? ⟨b, off + 1, none⟩ = some (.int .i64 q1) := x1
  replace x2 : w.cell? ⟨b, off + 2, none⟩ = some (.int .i64 q2) := x2
  replace x3 : w.cell? ⟨b, off + 3, none⟩ = some (.int .i64 q3) := x3
  clear hr hD
  obtain ⟨iA, hiA, hzA, hz1A, hzbA⟩ : ∃ i0, Tryz.prog.info? 29 = some i0 ∧ i0.zero = some (.agg #[.int .i64 0, .int .i64 0]) ∧ i0.size = 2 ∧ i0.bytes = 16 := by
    have h : (Tryz.prog.info? 29).map (fun i => (i.zero, i.size, i.bytes)) = some (some (.agg #[.int .i64 0, .int .i64 0]), 2, 16) := by kernel_rfl
    obtain ⟨i0, a, b, c, d⟩ := info_parts h
    exact ⟨i0, a, b, c, d⟩
  obtain ⟨⟨r0, r1⟩, hRR⟩ : ∃ R, (fS [(q2, q3)] 1).1 = R := ⟨_, rfl⟩
  have HRR := Lib.hid hRR
  simp only [hRR]
  clear hRR
  have Z0 := Lib.hid ((K4.new w 0 0 0 0 31).alloc (.cells #[.int .i64 q0, .int .i64 q1, .int .i64 0, .int .i64 0] 31))
  have P0 := Lib.hid (K4.new (w.alloc (.cells #[.int .i64 0, .int .i64 0, .int .i64 0, .int .i64 0] 31)) q0 q1 0 0 31)
  have B0 := Lib.hid ((bl_alloc w (.cells #[.int .i64 0, .int .i64 0, .int .i64 0, .int .i64 0] 31)).alloc (by simp) (.cells #[.int .i64 q0, .int .i64 q1, .int .i64 0, .int .i64 0] 31))
  have X := Lib.hid (And.intro x0 (And.intro x1 (And.intro x2 x3)))
  go_enter Tryz.func68, Tryz.ntmps68
  go_wp2
  clear x0 x1 x2 x3
  go_loopw [4, 14] (fun s4 i wr => ∃ k : Nat, k ≤ 1 ∧ i = .int .i64 k ∧ wr.ownsRow (w.heap.size + 2) 29 2 s4 k (spvs ([(q2, q3)].take k)) ∧ K4 wr w.heap.size 0 0 0 0 ∧ K4 wr (w.heap.size + 1) q0 q1 0 0 ∧ Below w.heap.size w wr) (fun _ i _ => 1 - (intOf i).toNat)
  case atStart => exact ⟨0, Nat.zero_le _, rfl, own_nil _ _ _ _, Z0.out, by have := P0.out; rwa [show (w.alloc (.cells #[.int .i64 0, .int .i64 0, .int .i64 0, .int .i64 0] 31)).heap.size = w.heap.size + 1 from World.size_alloc _ _] at this, B0.out⟩
  case round =>
    obtain ⟨k, hk, rfl, hown, hZ, hP, hbl⟩ := hrel
    clear Z0 P0 B0
    have HOW := Lib.hid hown
    have HZ := Lib.hid hZ
    have HP := Lib.hid hP
    have HB := Lib.hid hbl
    clear hown hZ hP hbl
    by_cases hlt : k < 1
    · obtain rfl : k = 0 := by omega
      have y0 := (HB.out.cell (p := ⟨b, off, none⟩) hb).trans X.out.1
      have y1 := (HB.out.cell (p := ⟨b, off + 1, none⟩) hb).trans X.out.2.1
      have y2 := (HB.out.cell (p := ⟨b, off + 2, none⟩) hb).trans X.out.2.2.1
      have y3 := (HB.out.cell (p := ⟨b, off + 3, none⟩) hb).trans X.out.2.2.2
      have PW := Lib.hid (HP.out.alloc (.cells #[.int .i64 q0, .int .i64 q1, .int .i64 q2, .int .i64 q3] 31))
      have ZW := Lib.hid (HZ.out.alloc (.cells #[.int .i64 q0, .int .i64 q1, .int .i64 q2, .int .i64 q3] 31))
      have OW := Lib.hid (HOW.out.alloc (.cells #[.int .i64 q0, .int .i64 q1, .int .i64 q2, .int .i64 q3] 31))
      have hzw := HB.out.size
      have BW := Lib.hid (HB.out.alloc hzw (.cells #[.int .i64 q0, .int .i64 q1, .int .i64 q2, .int .i64 q3] 31))
      have NW := Lib.hid (K4.new wr q0 q1 q2 q3 31)
      have hlp := HP.out.lt
      go_upto_region 6 with (fail)
      clear y0 y1 y2 y3
      obtain ⟨WA, hWA⟩ : ∃ WA, wr.alloc (.cells #[.int .i64 q0, .int .i64 q1, .int .i64 q2, .int .i64 q3] 31) = WA := ⟨_, rfl⟩
      rw [hWA] at PW ZW OW BW NW ⊢
      have hzA : WA.heap.size = wr.heap.size + 1 := by rw [← hWA]; simp
      clear hWA HOW HZ HP HB
      have HZA := Lib.hid hzA
      generalize wr.heap.size = ga at *
      clear hzA
      have hn1 : ¬ ga = w.heap.size + 1 := by omega
      have hn2 : ¬ w.heap.size + 1 = ga := by omega
      obtain ⟨pt2, p0, p1, p2, p3, pf0, pf1, -, -⟩ := PW.out
      obtain ⟨nt2, a0, a1, a2, a3, -, -, -, -⟩ := NW.out
      have e1 := fun q => cell_put_same p0 q
      have e2 := fun q => (cell_put_same ((e1 _).trans p1) q).trans (e1 q)
      go_cut [14] from 14 to 41 (fun s14 wy => s14 = .int .i64 ((0 : Nat) : Int) ∧ wy = ((WA.setCell ⟨w.heap.size + 1, 0, none⟩ (.int .i64 q0)).setCell ⟨w.heap.size + 1, 1, none⟩ (.int .i64 q1)).drew)
      case first =>
        go_region_held3 (fun w' => w'.cell? ⟨ga, 0, none⟩ = some (.int .i64 q0) ∧ w'.cell? ⟨ga, 1, none⟩ = some (.int .i64 q1) ∧ w'.cell? ⟨w.heap.size + 1, 0, none⟩ = some (.int .i64 q0) ∧ w'.cell? ⟨w.heap.size + 1, 1, none⟩ = some (.int .i64 q1)) (simp [e1, e2, a0, a1, p0, p1]) (fail)
        all_goals
          try go_wp2_with fail
          go_meet
          case rel => exact ⟨rfl, rfl⟩
      case rest =>
        obtain ⟨rfl, rfl⟩ := hcut
        clear e1 e2 p0 p1 p2 p3 pf0 pf1 a0 a1 a2 a3 pt2 nt2
        have PX := Lib.hid ((PW.out.two q0 q1).below (bl_drew (Below.refl _ _)) (by simpa using PW.out.lt))
        have ZX := Lib.hid (((ZW.out.farB (p := ⟨w.heap.size + 1, 0, none⟩) (by simp only []; omega) (.int .i64 q0)).farB (p := ⟨w.heap.size + 1, 1, none⟩) (by simp only []; omega) (.int .i64 q1)).below (bl_drew (Below.refl _ _)) (by simpa using ZW.out.lt))
        have NX := Lib.hid (((NW.out.farB (p := ⟨w.heap.size + 1, 0, none⟩) hn1 (.int .i64 q0)).farB (p := ⟨w.heap.size + 1, 1, none⟩) hn1 (.int .i64 q1)).below (bl_drew (Below.refl _ _)) (by simpa using NW.out.lt))
        have BX := Lib.hid (bl_drew ((BW.out.setCell (p := ⟨w.heap.size + 1, 0, none⟩) (by simp) (.int .i64 q0)).setCell (p := ⟨w.heap.size + 1, 1, none⟩) (by simp) (.int .i64 q1)))
        have hzX : (((WA.setCell ⟨w.heap.size + 1, 0, none⟩ (.int .i64 q0)).setCell ⟨w.heap.size + 1, 1, none⟩ (.int .i64 q1)).drew).heap.size = ga + 1 := by simp; exact HZA.out
        have HZX := Lib.hid hzX
        have OX := Lib.hid (own_grown' OW.out (grown_bl (grown_set2 (o := 1) (v := .int .i64 q1) (grown_set2 (o := 0) (v := .int .i64 q0) (World.grownBy.refl WA (some (w.heap.size + 1))))) (bl_drew (Below.refl WA.heap.size _)) (Nat.le_refl _)) (fun q hq e => by have := own_base OW.out q hq; cases e; omega))
        clear hzX HZA PW ZW NW BW OW
        generalize ((WA.setCell ⟨w.heap.size + 1, 0, none⟩ (.int .i64 q0)).setCell ⟨w.heap.size + 1, 1, none⟩ (.int .i64 q1)).drew = WX at *
        obtain ⟨nt2, a0, a1, a2, a3, -, -, -, -⟩ := NX.out
        go_wp2_with (at_builtin; first
          | (refine wpList_append_any _ rfl (.tmp 36) (.tmp 39) _ rfl (w.heap.size + 2) 29 iA _ 2 16 Tryz.underlying57 hiA hzA hz1A hzbA rfl (by decide) _ 0 [] rfl (OX.out.alloc _) (WX.heap.size + 1) (some ⟨WX.heap.size, 0, none⟩) 1 1 [.int .i64 q2, .int .i64 q3] rfl ⟨rfl, fun _ => ⟨_, rfl, by simp, arc_cells WX (q2, q3) _⟩⟩ (by simp [Value.oneCell']) (by simp [maxLen]) (by omega) (by have := HZX.out; simp; omega) ?_; intro v7 w7 hown7 hg7 hat7)
          | fail)
        have hzz := HZX.out
        have b7 := ((bl_alloc WX (.cells #[.int .i64 q2, .int .i64 q3] 29)).mono (show w.heap.size + 2 ≤ WX.heap.size by omega)).grown hg7 (by simp; omega) (own_base OX.out)
        go_roundw
        case rel => exact ⟨1, Nat.le_refl _, by go_num, by simpa [spvs, spv] using hown7, ZX.out.below b7 (by omega), PX.out.below b7 (by omega), BX.out.trans (b7.mono (by omega))⟩
        case measure => simp [intOf]
    · obtain rfl : k = 1 := by omega
      obtain ⟨g, cap, hv, hg, hgl⟩ := own_some HOW.out (by decide)
      subst hv
      have HS : Hid (∀ j, j < [(q2, q3)].length → wr.cell? ⟨g, 0 + j * 2, none⟩ = some (.int .i64 (gs [(q2, q3)] j).1) ∧ wr.cell? ⟨g, 0 + j * 2 + 1, none⟩ = some (.int .i64 (gs [(q2, q3)] j).2)) := Lib.hid (fun j hj => by
        have hr := Reads.of_own HOW.out
        obtain ⟨b', off', e, -, z0, z1⟩ := SReads.elem (D := [(q2, q3)]) hr (k := j) (by simpa using hj)
        cases e
        exact ⟨z0, z1⟩)
      have KA := Lib.hid ((fAround_any g 0 1 cap [(q2, q3)] wr hgl HS.out rfl (by decide) (by decide) HD.out).mono (R' := fun e w' => e = .returned (.agg #[.int .i64 r0, .int .i64 r1]) ∧ Below wr.heap.size wr w') fun e w' ⟨D', hp, _, he, hb⟩ => by
        obtain rfl := List.perm_singleton.1 hp
        rw [HRR.out] at he
        exact ⟨he, hb⟩)
      clear HS
      go_wp2_with fail
      (with_reducible refine KA.out.mono ?_)
      rintro e w4 ⟨rfl, hb4⟩
      have P4 := Lib.hid (HP.out.below hb4 HP.out.lt)
      have Z4 := Lib.hid (HZ.out.below hb4 HZ.out.lt)
      have B4 := Lib.hid (HB.out.trans (hb4.mono HB.out.size))
      clear KA HP HZ HB HOW hb4
      obtain ⟨pt, p0, p1, p2, p3, pf0, pf1, pf2, pf3⟩ := P4.out
      have hn1 : ¬ w.heap.size = w.heap.size + 1 := by omega
      have hn2 : ¬ w.heap.size + 1 = w.heap.size := by omega
      obtain ⟨zt, z0, z1, z2, z3, zf0, zf1, zf2, zf3⟩ := Z4.out
      go_wp2
      refine bodyPost_ret (v := .agg #[.int .i64 q0, .int .i64 q1, .int .i64 r0, .int .i64 r1]) (by simp [results, Tryz.results68, go_sem, *]; done) rfl ⟨rfl, ?_⟩
      exact bl_put4 ((B4.out.setCell (by simp) _).setCell (by simp) _) (Nat.le_refl _)
end Go.Proofs.YtifdgdgfmjfbdaaGreat
namespace Go.Proofs.YtifdgdgfmjfbdaaGreat
open Go.RowKit
/-- arcs of cells -/
def OkC (D : List Sp) : Prop := ∀ x ∈ D, -10800000 ≤ x.1 ∧ x.1 < 10800000 ∧ x.1 ≤ x.2 ∧ x.2 ≤ 10800000
theorem gs_mem {D : List Sp} {k : Nat} (hk : k < D.length) : gs D k ∈ D := by simp [gs, hk]
theorem mem_gs {D : List Sp} {x : Sp} (hx : x ∈ D) : ∃ k, k < D.length ∧ gs D k = x := by
  obtain ⟨k, hk, e⟩ := List.getElem_of_mem hx
  exact ⟨k, hk, by simp [gs, hk, e]⟩
/-- the width from a beginning is at most a number if each arc's end is -/
theorem wdt_le (D : List Sp) (x m : Int) (k : Nat) (hk : k ≤ D.length) : wdt D x k ≤ m ↔ 0 ≤ m ∧ ∀ i, i < k → ((gs D i).1 - x) % 21600000 + (gs D i).2 - (gs D i).1 ≤ m := by
  induction k with
  | zero => simp [wdt]
  | succ k ih =>
    have e : wdt D x (k + 1) = max (wdt D x k) (((gs D k).1 - x) % 21600000 + (gs D k).2 - (gs D k).1) := by
      unfold wdt
      rw [List.take_succ_eq_append_getElem (by omega), List.foldl_append]
      simp [gs, show k < D.length by omega]
    rw [e, Int.max_le, ih (by omega)]
    constructor
    · rintro ⟨⟨h0, h1⟩, h2⟩
      refine ⟨h0, fun i hi => ?_⟩
      by_cases h : i = k
      · rw [h]; exact h2
      · exact h1 i (by omega)
    · rintro ⟨h0, h1⟩
      exact ⟨⟨h0, fun i hi => h1 i (by omega)⟩, h1 k (by omega)⟩
theorem wdt_all (D : List Sp) (x m : Int) : wdt D x D.length ≤ m ↔ 0 ≤ m ∧ ∀ a ∈ D, (a.1 - x) % 21600000 + a.2 - a.1 ≤ m := by
  rw [wdt_le D x m D.length (Nat.le_refl _)]
  constructor
  · rintro ⟨h0, h1⟩
    refine ⟨h0, fun a ha => ?_⟩
    obtain ⟨k, hk, rfl⟩ := mem_gs ha
    exact h1 k hk
  · rintro ⟨h0, h1⟩
    exact ⟨h0, fun i hi => h1 _ (gs_mem hi)⟩
theorem wdt_perm {D D' : List Sp} (h : D'.Perm D) (x : Int) : wdt D' x D'.length = wdt D x D.length := by
  refine Int.le_antisymm ((wdt_all D' x _).2 ?_) ((wdt_all D x _).2 ?_)
  · have := (wdt_all D x _).1 (Int.le_refl _)
    exact ⟨this.1, fun a ha => this.2 a (h.mem_iff.1 ha)⟩
  · have := (wdt_all D' x _).1 (Int.le_refl _)
    exact ⟨this.1, fun a ha => this.2 a (h.mem_iff.2 ha)⟩
/-- the best arc among some beginnings -/
def Bst (P : Int → Prop) (W : Int → Int) (s : Sp) : Prop :=
  ((∀ x, P x → 21600000 ≤ W x) ∧ s = (-10800000, 10800000)) ∨ (P s.1 ∧ s.2 = s.1 + W s.1 ∧ W s.1 < 21600000 ∧ ∀ y, P y → W s.1 < W y ∨ (W s.1 = W y ∧ s.1 ≤ y))
theorem bst_one {P : Int → Prop} {W : Int → Int} {s t : Sp} (hs : Bst P W s) (ht : Bst P W t) : s = t := by
  rcases hs with ⟨h1, h2⟩ | ⟨h1, h2, h3, h4⟩ <;> rcases ht with ⟨k1, k2⟩ | ⟨k1, k2, k3, k4⟩
  · rw [h2, k2]
  · have := h1 _ k1; omega
  · have := k1 _ h1; omega
  · have a := h4 _ k1
    have b := k4 _ h1
    have e : s.1 = t.1 := by omega
    refine Prod.ext e ?_
    rw [h2, k2, e]
theorem bst_iff {P Q : Int → Prop} {W : Int → Int} {s : Sp} (h : ∀ x, P x ↔ Q x) (hs : Bst P W s) : Bst Q W s := by
  have e : P = Q := funext fun x => propext (h x)
  rw [← e]; exact hs
theorem sgA_in {n : Int} (h0 : -10800000 ≤ n) (h1 : n < 10800000) : sgA n = n := by
  unfold sgA
  by_cases h : 0 ≤ n
  · rw [show n % 21600000 = n by omega, if_neg (by omega)]
  · rw [show n % 21600000 = n + 21600000 by omega, if_pos (by omega)]; omega
/-- beginnings of the first arcs -/
def Beg (D : List Sp) (k : Nat) (x : Int) : Prop := ∃ i, i < k ∧ (gs D i).1 = x
theorem rarn_bst {D : List Sp} (hD : OkC D) (k : Nat) (hk : k ≤ D.length) : Bst (Beg D k) (fun x => wdt D x D.length) (foldR D k) := by
  induction k with
  | zero => exact .inl ⟨fun x ⟨i, hi, _⟩ => absurd hi (Nat.not_lt_zero _), by simp [foldR]⟩
  | succ k ih =>
    replace ih := ih (by omega)
    have hg := hD _ (gs_mem (show k < D.length by omega))
    rw [foldR_succ D k (by omega)]
    unfold stepR
    rw [sgA_in hg.1 hg.2.1]
    generalize foldR D k = s at *
    generalize hx : (gs D k).1 = x at *
    have hB : ∀ y, Beg D (k + 1) y ↔ Beg D k y ∨ y = x := by
      intro y
      constructor
      · rintro ⟨i, hi, e⟩
        by_cases h : i = k
        · subst h; exact .inr (by rw [← e, hx])
        · exact .inl ⟨i, by omega, e⟩
      · rintro (⟨i, hi, e⟩ | e)
        · exact ⟨i, by omega, e⟩
        · exact ⟨k, by omega, by rw [hx, e]⟩
    simp only [Bst, hB] at ih ⊢
    generalize hW : (fun x => wdt D x D.length) = W at *
    have hWx : wdt D x D.length = W x := by rw [← hW]
    have hWs : wdt D s.1 D.length = W s.1 := by rw [← hW]
    have hWy : ∀ y, wdt D y D.length = W y := by intro y; rw [← hW]
    simp only [hWy] at ih ⊢
    by_cases hc : W x < s.2 - s.1 ∨ (W x = s.2 - s.1 ∧ W x < 21600000 ∧ x < s.1)
    · rw [if_pos hc]
      right
      simp only []
      rcases ih with ⟨h1, h2⟩ | ⟨h1, h2, h3, h4⟩
      · have e1 : s.1 = -10800000 := by rw [h2]
        have e2 : s.2 = 10800000 := by rw [h2]
        refine ⟨.inr trivial, trivial, by omega, ?_⟩
        rintro y (hy | rfl)
        · have := h1 y hy; omega
        · omega
      · refine ⟨.inr trivial, trivial, by omega, ?_⟩
        rintro y (hy | rfl)
        · have := h4 y hy; omega
        · omega
    · rw [if_neg hc]
      rcases ih with ⟨h1, h2⟩ | ⟨h1, h2, h3, h4⟩
      · have e1 : s.1 = -10800000 := by rw [h2]
        have e2 : s.2 = 10800000 := by rw [h2]
        refine .inl ⟨?_, h2⟩
        rintro y (hy | rfl)
        · exact h1 y hy
        · omega
      · refine .inr ⟨.inl h1, h2, h3, ?_⟩
        rintro y (hy | rfl)
        · exact h4 y hy
        · omega
theorem fR_le (D : List Sp) (m : Int) (k : Nat) (hk : k ≤ D.length) : fR D k ≤ m ↔ (gs D 0).2 ≤ m ∧ ∀ i, i < k → (gs D i).2 ≤ m := by
  induction k with
  | zero => simp [fR]
  | succ k ih =>
    rw [fR_succ D k (by omega), Int.max_le, ih (by omega)]
    constructor
    · rintro ⟨⟨a, b⟩, c⟩
      refine ⟨a, fun i hi => ?_⟩
      by_cases h : i = k
      · rw [h]; exact c
      · exact b i (by omega)
    · rintro ⟨a, b⟩
      exact ⟨⟨a, fun i hi => b i (by omega)⟩, b k (by omega)⟩
/-- how far the arcs have reached -/
theorem fS_le (D : List Sp) (h0 : 0 < D.length) (m : Int) (k : Nat) (hk : k ≤ D.length) : (fS D k).2.2 ≤ m ↔ (∀ i, i < D.length → (gs D i).2 - 21600000 ≤ m) ∧ ∀ i, i < k → (gs D i).2 ≤ m := by
  induction k with
  | zero =>
    have h : (fS D 0).2.2 = fR D D.length - 21600000 := by simp [fS]
    rw [h]
    have := fR_le D (m + 21600000) D.length (Nat.le_refl _)
    constructor
    · intro hm
      have := this.1 (by omega)
      exact ⟨fun i hi => by have := this.2 i hi; omega, fun i hi => absurd hi (Nat.not_lt_zero _)⟩
    · rintro ⟨a, -⟩
      have := this.2 ⟨by have := a 0 h0; omega, fun i hi => by have := a i hi; omega⟩
      omega
  | succ k ih =>
    have e : (fS D (k + 1)).2.2 = max (fS D k).2.2 (gs D k).2 := by
      rw [fS_succ D k (by omega)]
      unfold fS1
      split <;> rfl
    rw [e, Int.max_le, ih (by omega)]
    constructor
    · rintro ⟨⟨a, b⟩, c⟩
      refine ⟨a, fun i hi => ?_⟩
      by_cases h : i = k
      · rw [h]; exact c
      · exact b i (by omega)
    · rintro ⟨a, b⟩
      exact ⟨⟨a, fun i hi => b i (by omega)⟩, b k (by omega)⟩
/-- at the first of equal beginnings the gap is a turn less the width -/
theorem gap_first {D : List Sp} (hD : OkC D) (hS : ∀ i j, i < j → j < D.length → (gs D i).1 ≤ (gs D j).1) (k : Nat) (hk : k < D.length) (hf : ∀ i, i < k → (gs D i).1 ≠ (gs D k).1) :
    wdt D (gs D k).1 D.length = 21600000 - ((gs D k).1 - (fS D k).2.2) := by
  have hlt : ∀ i, i < k → (gs D i).1 < (gs D k).1 := fun i hi => by have := hS i k hi hk; have := hf i hi; omega
  have hd := fun i (hi : i < D.length) => hD _ (gs_mem hi)
  generalize hx : (gs D k).1 = x at *
  have h0 : 0 < D.length := by omega
  refine Int.le_antisymm ?_ ?_
  · refine (wdt_le D x _ D.length (Nat.le_refl _)).2 ?_
    have hr := (fS_le D h0 (fS D k).2.2 k (by omega)).1 (Int.le_refl _)
    have hk2 := hd k hk
    have hk3 := hr.1 k hk
    refine ⟨by omega, fun i hi => ?_⟩
    have hi2 := hd i hi
    by_cases h : i < k
    · have := hlt i h
      have := hr.2 i h
      rw [show ((gs D i).1 - x) % 21600000 = (gs D i).1 - x + 21600000 by omega]
      omega
    · have hge : x ≤ (gs D i).1 := by
        by_cases e : i = k
        · rw [e, hx]; exact Int.le_refl _
        · have := hS k i (by omega) hi; omega
      have := hr.1 i hi
      rw [show ((gs D i).1 - x) % 21600000 = (gs D i).1 - x by omega]
      omega
  · have hw := (wdt_le D x (wdt D x D.length) D.length (Nat.le_refl _)).1 (Int.le_refl _)
    generalize wdt D x D.length = w at *
    have : (fS D k).2.2 ≤ w + x - 21600000 := by
      refine (fS_le D h0 _ k (by omega)).2 ⟨fun i hi => ?_, fun i hi => ?_⟩
      · have h1 := hw.2 i hi
        have hi2 := hd i hi
        have hk2 := hd k hk
        by_cases h : (gs D i).1 < x
        · rw [show ((gs D i).1 - x) % 21600000 = (gs D i).1 - x + 21600000 by omega] at h1
          omega
        · rw [show ((gs D i).1 - x) % 21600000 = (gs D i).1 - x by omega] at h1
          omega
      · have h1 := hw.2 i (by omega)
        have := hlt i hi
        have hi2 := hd i (by omega)
        have hk2 := hd k hk
        rw [show ((gs D i).1 - x) % 21600000 = (gs D i).1 - x + 21600000 by omega] at h1
        omega
    omega
theorem gap_later {D : List Sp} (hD : OkC D) (k i : Nat) (hk : k < D.length) (hi : i < k) (he : (gs D i).1 = (gs D k).1) : (gs D k).1 - (fS D k).2.2 ≤ 0 := by
  have := ((fS_le D (by omega) (fS D k).2.2 k (by omega)).1 (Int.le_refl _)).2 i hi
  have := hD _ (gs_mem (show i < D.length by omega))
  omega
theorem fS_bst {D : List Sp} (hD : OkC D) (hS : ∀ i j, i < j → j < D.length → (gs D i).1 ≤ (gs D j).1) (k : Nat) (hk : k ≤ D.length) :
    Bst (Beg D k) (fun x => wdt D x D.length) (fS D k).1 ∧ (fS D k).2.1 = 21600000 - ((fS D k).1.2 - (fS D k).1.1) ∧ 0 ≤ (fS D k).2.1 := by
  induction k with
  | zero => exact ⟨.inl ⟨fun x ⟨i, hi, _⟩ => absurd hi (Nat.not_lt_zero _), by simp [fS]⟩, by simp [fS], by simp [fS]⟩
  | succ k ih =>
    replace ih := ih (by omega)
    obtain ⟨ih, hb, hp⟩ := ih
    have hsort : ∀ y, Beg D k y → y ≤ (gs D k).1 := fun y ⟨i, hi, e⟩ => by rw [← e]; exact hS i k hi (by omega)
    have key : (∃ i, i < k ∧ (gs D i).1 = (gs D k).1) ∨ wdt D (gs D k).1 D.length = 21600000 - ((gs D k).1 - (fS D k).2.2) := by
      by_cases h : ∃ i, i < k ∧ (gs D i).1 = (gs D k).1
      · exact .inl h
      · exact .inr (gap_first hD hS k (by omega) (fun i hi e => h ⟨i, hi, e⟩))
    have later := fun i hi he => gap_later hD k i (by omega) hi he
    rw [fS_succ D k (by omega)]
    unfold fS1
    obtain ⟨⟨s, b, r⟩, hs⟩ : ∃ t, t = fS D k := ⟨_, rfl⟩
    rw [← hs] at ih hb hp key later ⊢
    simp only [] at ih hb hp key later ⊢
    generalize hx : (gs D k).1 = x at *
    have hB : ∀ y, Beg D (k + 1) y ↔ Beg D k y ∨ y = x := by
      intro y
      constructor
      · rintro ⟨i, hi, e⟩
        by_cases h : i = k
        · subst h; exact .inr (by rw [← e, hx])
        · exact .inl ⟨i, by omega, e⟩
      · rintro (⟨i, hi, e⟩ | e)
        · exact ⟨i, by omega, e⟩
        · exact ⟨k, by omega, by rw [hx, e]⟩
    rcases key with ⟨i, hi, he⟩ | key
    · have := later i hi he
      rw [if_neg (by omega)]
      simp only []
      refine ⟨bst_iff (fun y => ?_) ih, hb, hp⟩
      rw [hB]
      exact ⟨.inl, fun h => h.elim id (fun h => ⟨i, hi, by rw [h]; exact he⟩)⟩
    · simp only [Bst, hB] at ih ⊢
      generalize hW : (fun x => wdt D x D.length) = W at *
      have hWy : ∀ y, wdt D y D.length = W y := by intro y; rw [← hW]
      simp only [hWy] at ih key ⊢
      by_cases hc : b < x - r
      · rw [if_pos hc]
        simp only []
        refine ⟨.inr ?_, by omega, by omega⟩
        rcases ih with ⟨h1, h2⟩ | ⟨h1, h2, h3, h4⟩
        · refine ⟨.inr trivial, by omega, by omega, ?_⟩
          rintro y (hy | rfl)
          · have := h1 y hy; omega
          · omega
        · refine ⟨.inr trivial, by omega, by omega, ?_⟩
          rintro y (hy | rfl)
          · have := h4 y hy; omega
          · omega
      · rw [if_neg hc]
        simp only []
        refine ⟨?_, hb, hp⟩
        rcases ih with ⟨h1, h2⟩ | ⟨h1, h2, h3, h4⟩
        · have e1 : s.1 = -10800000 := by rw [h2]
          have e2 : s.2 = 10800000 := by rw [h2]
          refine .inl ⟨?_, h2⟩
          rintro y (hy | rfl)
          · exact h1 y hy
          · omega
        · refine .inr ⟨.inl h1, h2, h3, ?_⟩
          rintro y (hy | rfl)
          · exact h4 y hy
          · have := hsort _ h1
            omega
/-- what the greatest gap leaves is the reference's best arc -/
theorem fS_rarn {D D' : List Sp} (hD : OkC D) (hp : D'.Perm D) (hS : ∀ i j, i < j → j < D'.length → (gs D' i).1 ≤ (gs D' j).1) : (fS D' D'.length).1 = rarn D := by
  have hD' : OkC D' := fun x hx => hD x (hp.mem_iff.1 hx)
  have h1 := (fS_bst hD' hS D'.length (Nat.le_refl _)).1
  have h2 := rarn_bst hD D.length (Nat.le_refl _)
  have e : (fun x => wdt D' x D'.length) = (fun x => wdt D x D.length) := funext fun x => wdt_perm hp x
  rw [e] at h1
  refine bst_one (bst_iff (fun x => ?_) h1) h2
  constructor
  · rintro ⟨i, hi, e⟩
    obtain ⟨j, hj, e'⟩ := mem_gs (hp.mem_iff.1 (gs_mem hi))
    exact ⟨j, hj, by rw [e', e]⟩
  · rintro ⟨i, hi, e⟩
    obtain ⟨j, hj, e'⟩ := mem_gs (hp.mem_iff.2 (gs_mem hi))
    exact ⟨j, hj, by rw [e', e]⟩
/-- the longitudes of boxes -/
def lons (D : List Bx) : List Sp := D.map fun q => q.2.2
theorem okC_bx {L : List Cl} (hv : ∀ x ∈ L, Vl x) : OkC (lons (L.map bxI)) := by
  intro a ha
  simp only [lons, List.mem_map] at ha
  obtain ⟨q, ⟨x, hx, rfl⟩, rfl⟩ := ha
  obtain ⟨h1, h2, h3, h4, h5, h6, h7, h8⟩ := box_nums (hv x hx)
  simp only [bxI]
  omega
theorem okA_of {D : List Sp} (h : OkC D) : OkA D := fun x hx => by have := h x hx; omega
theorem okR_of {D : List Sp} (h : OkC D) : OkR D := fun x hx => by have := h x hx; omega
end Go.Proofs.YtifdgdgfmjfbdaaGreat
