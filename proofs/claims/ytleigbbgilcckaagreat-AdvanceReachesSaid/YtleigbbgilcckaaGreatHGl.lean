/- Plain: lengths and validity of what is put together. No program in sight. -/
import Derived.Test.YtleigbbgilcckaaGreatHGj
import Derived.Test.YtleigbbgilcckaaGreatHGd
import Derived.Test.YtleigbbgilcckaaGreatHKy
import Derived.Test.YtleigbbgilcckaaGreatHJb
import Derived.Test.YtleigbbgilcckaaGreatHJm
set_option linter.unusedVariables false
set_option linter.unusedSimpArgs false
namespace Go.Proofs.YtleigbbgilcckaaGreat
open Go.RowKit
set_option maxHeartbeats 4000000 in
set_option maxRecDepth 100000 in
theorem meet08_any (a0 a1 a2 a3 b0 b1 b2 b3 : Int) (w : World) (ha : VP (a0, a1, a2, a3)) (hb : VP (b0, b1, b2, b3)) :
    Calls Tryz.prog 85 #[.agg #[.int .i64 a0, .int .i64 a1, .int .i64 a2, .int .i64 a3], .agg #[.int .i64 b0, .int .i64 b1, .int .i64 b2, .int .i64 b3]] w fun e w' => ∃ r0 r1 r2 r3 : Int, e = .returned (.tuple #[.agg #[.int .i64 r0, .int .i64 r1, .int .i64 r2, .int .i64 r3], .int .i64 (if meetB (a0, a1, a2, a3) (b0, b1, b2, b3) = true then 0 else 23)]) ∧ Below w.heap.size w w' := by
  have oa : (a2 = -10800000 ∧ a3 = 10800000) ∨ (-10800000 ≤ a2 ∧ a2 < 10800000 ∧ a2 ≤ a3 ∧ a3 - a2 < 21600000) := ha.o
  have ob : (b2 = -10800000 ∧ b3 = 10800000) ∨ (-10800000 ≤ b2 ∧ b2 < 10800000 ∧ b2 ≤ b3 ∧ b3 - b2 < 21600000) := hb.o
  have KC' := fun W => parts08_any a2 a3 b2 b3 W (by omega) (by omega)
  have hlen := pr_lonM (a2, a3) (b2, b3) (by simp only []; omega) (by simp only []; omega)
  have hok : OkR (prF (a2, a3) (b2, b3) 3) := prF_mem (a2, a3) (b2, b3) (by simp only []; omega) 3
  have hl3 := prF_len (a2, a3) (b2, b3) 3
  obtain ⟨L, hL⟩ : ∃ L, L = prF (a2, a3) (b2, b3) 3 := ⟨_, rfl⟩
  rw [← hL] at KC' hlen hok hl3
  have KC := Lib.hid KC'
  have HOK := Lib.hid hok
  obtain ⟨N, hN⟩ : ∃ N, N = L.length := ⟨_, rfl⟩
  rw [← hN] at hl3
  have HLN := Lib.hid hN
  have KM := Lib.hid (fun W => meets05_any a0 a1 b0 b1 W)
  have KI := Lib.hid (fun W => meet05_any a0 a1 b0 b1 W)
  obtain ⟨R, hR⟩ : ∃ R : Int, R = if meetB (a0, a1, a2, a3) (b0, b1, b2, b3) = true then 0 else 23 := ⟨_, rfl⟩
  rw [← hR]
  obtain ⟨T, hT⟩ : ∃ T, T = decide (a0 ≤ b1 ∧ b0 ≤ a1) := ⟨_, rfl⟩
  rw [← hT] at KM
  have hRR : Hid (R = if T = true ∧ N ≠ 0 then 0 else 23) := Lib.hid (by
    rw [hR, hN]
    unfold meetB
    simp only []
    rw [← hT]
    cases hm : lonM (a2, a3) (b2, b3) with
    | false =>
      have := hlen.2 hm
      simp [this]
    | true =>
      have h0 : L.length ≠ 0 := fun e => by rw [hlen.1 e] at hm; cases hm
      simp [h0])
  clear hR hN hlen hok hL KC' oa ob ha hb hT
  have HA := Lib.hid (((K4.new w a0 a1 a2 a3 48).alloc (.cells #[.int .i64 b0, .int .i64 b1, .int .i64 b2, .int .i64 b3] 48)).alloc (.cells #[.int .i64 0, .int .i64 0, .int .i64 0, .int .i64 0] 48))
  have HB : Hid (K4 (((w.alloc (.cells #[.int .i64 a0, .int .i64 a1, .int .i64 a2, .int .i64 a3] 48)).alloc (.cells #[.int .i64 b0, .int .i64 b1, .int .i64 b2, .int .i64 b3] 48)).alloc (.cells #[.int .i64 0, .int .i64 0, .int .i64 0, .int .i64 0] 48)) (w.heap.size + 1) b0 b1 b2 b3) := Lib.hid (by
    have := (K4.new (w.alloc (.cells #[.int .i64 a0, .int .i64 a1, .int .i64 a2, .int .i64 a3] 48)) b0 b1 b2 b3 48).alloc (.cells #[.int .i64 0, .int .i64 0, .int .i64 0, .int .i64 0] 48)
    simpa using this)
  have HZ : Hid (K4 (((w.alloc (.cells #[.int .i64 a0, .int .i64 a1, .int .i64 a2, .int .i64 a3] 48)).alloc (.cells #[.int .i64 b0, .int .i64 b1, .int .i64 b2, .int .i64 b3] 48)).alloc (.cells #[.int .i64 0, .int .i64 0, .int .i64 0, .int .i64 0] 48)) (w.heap.size + 1 + 1) 0 0 0 0) := Lib.hid (by
    have := K4.new ((w.alloc (.cells #[.int .i64 a0, .int .i64 a1, .int .i64 a2, .int .i64 a3] 48)).alloc (.cells #[.int .i64 b0, .int .i64 b1, .int .i64 b2, .int .i64 b3] 48)) 0 0 0 0 48
    simpa using this)
  have b0' : Below w.heap.size w (((w.alloc (.cells #[.int .i64 a0, .int .i64 a1, .int .i64 a2, .int .i64 a3] 48)).alloc (.cells #[.int .i64 b0, .int .i64 b1, .int .i64 b2, .int .i64 b3] 48)).alloc (.cells #[.int .i64 0, .int .i64 0, .int .i64 0, .int .i64 0] 48)) := (((Below.refl _ _).alloc (Nat.le_refl _) _).alloc (by simp) _).alloc (by simp; omega) _
  go_enter Tryz.func85, Tryz.ntmps85
  go_wp2_with fail
  (with_reducible refine (KC.out _).mono ?_)
  rintro e w3 ⟨v, rfl, hown, hb3⟩
  have HA3 := Lib.hid (HA.out.below hb3 HA.out.lt)
  have HB3 := Lib.hid (HB.out.below hb3 HB.out.lt)
  have HZ3 := Lib.hid (HZ.out.below hb3 HZ.out.lt)
  have B3 := Lib.hid (b0'.trans (hb3.mono b0'.size))
  rw [← HLN.out] at hown
  obtain ⟨A4, k4, rfl, ra, -, -⟩ := own_form hown
  have RA := Lib.hid ra
  clear HA HB HZ b0' hb3 hown ra
  obtain ⟨at2, a0', a1', a2', a3', -, -, -, -⟩ := HA3.out
  obtain ⟨bt2, c0, c1, c2, c3, -, -, -, -⟩ := HB3.out
  by_cases hN0 : N = 0
  · subst hN0
    obtain rfl := hRR.out.trans (if_neg (fun h => h.2 rfl))
    obtain ⟨zt, z0, z1, z2, z3, zf0, zf1, zf2, zf3⟩ := HZ3.out
    go_wp2
    refine bodyPost_ret (v := .tuple #[.agg #[.int .i64 0, .int .i64 0, .int .i64 0, .int .i64 0], .int .i64 23]) (by simp [results, Tryz.results85, go_sem, *]; done) rfl ⟨_, _, _, _, rfl, ?_⟩
    exact (((B3.out.setCell (by simp only []; omega) _).setCell (by simp only []; omega) _).setCell (by simp only []; omega) _).setCell (by simp only []; omega) _
  · have d2 : ((N : Int) == 0) = false := by simp; exact hN0
    go_wp2_with fail
    (with_reducible refine (KM.out _).mono ?_)
    rintro e w4 ⟨rfl, hb4⟩
    have HA4 := Lib.hid (HA3.out.below hb4 HA3.out.lt)
    have HB4 := Lib.hid (HB3.out.below hb4 HB3.out.lt)
    have HZ4 := Lib.hid (HZ3.out.below hb4 HZ3.out.lt)
    have B4 := Lib.hid (B3.out.trans (hb4.mono B3.out.size))
    have RA4 := Lib.hid ((RA.out.below hb4).more hb4.size)
    clear HA3 HB3 HZ3 B3 RA hb4 at2 a0' a1' a2' a3' bt2 c0 c1 c2 c3
    obtain ⟨at2, a0', a1', a2', a3', -, -, -, -⟩ := HA4.out
    obtain ⟨bt2, c0, c1, c2, c3, -, -, -, -⟩ := HB4.out
    cases T with
    | false =>
      obtain rfl := hRR.out.trans (if_neg (fun h => by cases h.1))
      obtain ⟨zt, z0, z1, z2, z3, zf0, zf1, zf2, zf3⟩ := HZ4.out
      go_wp2
      refine bodyPost_ret (v := .tuple #[.agg #[.int .i64 0, .int .i64 0, .int .i64 0, .int .i64 0], .int .i64 23]) (by simp [results, Tryz.results85, go_sem, *]; done) rfl ⟨_, _, _, _, rfl, ?_⟩
      exact (((B4.out.setCell (by simp only []; omega) _).setCell (by simp only []; omega) _).setCell (by simp only []; omega) _).setCell (by simp only []; omega) _
    | true =>
      obtain rfl := hRR.out.trans (if_pos ⟨rfl, hN0⟩)
      obtain ⟨P1, hP1⟩ : ∃ P, max a0 b0 = P := ⟨_, rfl⟩
      obtain ⟨P2, hP2⟩ : ∃ P, min a1 b1 = P := ⟨_, rfl⟩
      rw [hP1, hP2] at KI
      obtain ⟨⟨r0, r1⟩, hr⟩ : ∃ r, rarn L = r := ⟨_, rfl⟩
      have KA := fun (W : World) (h : Reads W W.heap.size 2 A4 N (spvs L)) => around08_any A4 N k4 L W h (by omega) HOK.out
      rw [hr] at KA
      have KA := Lib.hid KA
      clear hP1 hP2 hr
      go_wp2_with fail
      (with_reducible refine (KI.out _).mono ?_)
      rintro e w5 ⟨rfl, hb5⟩
      have HZ5 := Lib.hid (HZ4.out.below hb5 HZ4.out.lt)
      have B5 := Lib.hid (B4.out.trans (hb5.mono B4.out.size))
      have RA5 := Lib.hid ((RA4.out.below hb5).more hb5.size)
      clear HA4 HB4 HZ4 B4 RA4 hb5 at2 a0' a1' a2' a3' bt2 c0 c1 c2 c3
      go_wp2_with fail
      (with_reducible refine (KA.out _ RA5.out).mono ?_)
      rintro e w6 ⟨rfl, hb6⟩
      have B6 := Lib.hid (B5.out.trans (hb6.mono B5.out.size))
      obtain ⟨zt, z0, z1, z2, z3, zf0, zf1, zf2, zf3⟩ := HZ5.out.below hb6 HZ5.out.lt
      go_wp2
      refine bodyPost_ret (v := .tuple #[.agg #[.int .i64 P1, .int .i64 P2, .int .i64 r0, .int .i64 r1], .int .i64 0]) (by simp [results, Tryz.results85, go_sem, *]; done) rfl ⟨_, _, _, _, rfl, ?_⟩
      exact (((B6.out.setCell (by simp only []; omega) _).setCell (by simp only []; omega) _).setCell (by simp only []; omega) _).setCell (by simp only []; omega) _
theorem K4.drew {W : World} {g : Nat} {a b c d : Int} (h : K4 W g a b c d) : K4 W.drew g a b c d := h.below (bl_drew (Below.refl _ _)) h.lt
theorem K4.far {W : World} {g : Nat} {a b c d : Int} (h : K4 W g a b c d) {p : Addr} (hp : g ≠ p.block) (u : Value) : K4 (W.setCell p u) g a b c d := by
  have hne : ∀ i, p ≠ (⟨g, i, none⟩ : Addr) := fun i e => hp (by rw [e])
  refine ⟨by simpa using h.lt, ?_, ?_, ?_, ?_, ?_, ?_, ?_, ?_⟩
  · rw [World.cell?_setCell_other _ _ _ _ (hne 0)]; exact h.c0
  · rw [World.cell?_setCell_other _ _ _ _ (hne 1)]; exact h.c1
  · rw [World.cell?_setCell_other _ _ _ _ (hne 2)]; exact h.c2
  · rw [World.cell?_setCell_other _ _ _ _ (hne 3)]; exact h.c3
  · rw [World.frozen?_setCell]; exact h.f0
  · rw [World.frozen?_setCell]; exact h.f1
  · rw [World.frozen?_setCell]; exact h.f2
  · rw [World.frozen?_setCell]; exact h.f3
theorem K4.set4 {W : World} {g : Nat} {a b c d : Int} (h : K4 W g a b c d) (x y z u : Int) : K4 ((((W.setCell ⟨g, 0, none⟩ (.int .i64 x)).setCell ⟨g, 1, none⟩ (.int .i64 y)).setCell ⟨g, 2, none⟩ (.int .i64 z)).setCell ⟨g, 3, none⟩ (.int .i64 u)) g x y z u := by
  have e0 := h.c0; have e1 := h.c1; have e2 := h.c2; have e3 := h.c3
  have o : ∀ (V : World) (i j : Nat) (v : Value), i ≠ j → (V.setCell ⟨g, i, none⟩ v).cell? ⟨g, j, none⟩ = V.cell? ⟨g, j, none⟩ := fun V i j v hij => World.cell?_setCell_other _ _ _ _ (fun e => hij (by injection e))
  refine ⟨by simpa using h.lt, ?_, ?_, ?_, ?_, ?_, ?_, ?_, ?_⟩
  · rw [o _ 3 0 _ (by decide), o _ 2 0 _ (by decide), o _ 1 0 _ (by decide)]; exact World.cell?_setCell_same _ _ _ e0
  · rw [o _ 3 1 _ (by decide), o _ 2 1 _ (by decide)]; exact World.cell?_setCell_same _ _ _ (by rw [o _ 0 1 _ (by decide)]; exact e1)
  · rw [o _ 3 2 _ (by decide)]; exact World.cell?_setCell_same _ _ _ (by rw [o _ 1 2 _ (by decide), o _ 0 2 _ (by decide)]; exact e2)
  · exact World.cell?_setCell_same _ _ _ (by rw [o _ 2 3 _ (by decide), o _ 1 3 _ (by decide), o _ 0 3 _ (by decide)]; exact e3)
  · rw [World.frozen?_setCell, World.frozen?_setCell, World.frozen?_setCell, World.frozen?_setCell]; exact h.f0
  · rw [World.frozen?_setCell, World.frozen?_setCell, World.frozen?_setCell, World.frozen?_setCell]; exact h.f1
  · rw [World.frozen?_setCell, World.frozen?_setCell, World.frozen?_setCell, World.frozen?_setCell]; exact h.f2
  · rw [World.frozen?_setCell, World.frozen?_setCell, World.frozen?_setCell, World.frozen?_setCell]; exact h.f3
/-- two places in blocks of their own, while a region's operations come up in whatever order -/
structure TI (W2 w : World) (L : Nat → Bool) (g5 g6 : Nat) (a0 a1 a2 a3 b0 b1 b2 b3 : Int) : Prop where
  bl : Below W2.heap.size W2 w
  d6 : L 6 = true → L 4 = true
  d7 : L 7 = true → L 5 = true
  lo5 : L 4 = true → W2.heap.size ≤ g5
  lo6 : L 5 = true → W2.heap.size ≤ g6
  z5 : L 4 = true → L 6 = false → K4 w g5 0 0 0 0
  z6 : L 5 = true → L 7 = false → K4 w g6 0 0 0 0
  k5 : L 6 = true → K4 w g5 a0 a1 a2 a3
  k6 : L 7 = true → K4 w g6 b0 b1 b2 b3
  ne : L 4 = true → L 5 = true → g5 ≠ g6
section
variable {W2 w w' : World} {L : Nat → Bool} {g5 g6 : Nat} {a0 a1 a2 a3 b0 b1 b2 b3 : Int}
theorem TI.call (h : TI W2 w L g5 g6 a0 a1 a2 a3 b0 b1 b2 b3) (hb : Below w.heap.size w w') : TI W2 w' L g5 g6 a0 a1 a2 a3 b0 b1 b2 b3 :=
  ⟨h.bl.trans (hb.mono h.bl.size), h.d6, h.d7, h.lo5, h.lo6, fun p q => (h.z5 p q).below hb (h.z5 p q).lt, fun p q => (h.z6 p q).below hb (h.z6 p q).lt, fun p => (h.k5 p).below hb (h.k5 p).lt, fun p => (h.k6 p).below hb (h.k6 p).lt, h.ne⟩
theorem TI.mark (h : TI W2 w L g5 g6 a0 a1 a2 a3 b0 b1 b2 b3) (i : Nat) (hi : i < 4) : TI W2 w (mkd L i) g5 g6 a0 a1 a2 a3 b0 b1 b2 b3 := by
  have e4 : ¬ 4 = i := by omega
  have e5 : ¬ 5 = i := by omega
  have e6 : ¬ 6 = i := by omega
  have e7 : ¬ 7 = i := by omega
  constructor
  · exact h.bl
  all_goals simp only [mkd_ne e4, mkd_ne e5, mkd_ne e6, mkd_ne e7]
  · exact h.d6
  · exact h.d7
  · exact h.lo5
  · exact h.lo6
  · exact h.z5
  · exact h.z6
  · exact h.k5
  · exact h.k6
  · exact h.ne
theorem TI.l6 (h : TI W2 w L g5 g6 a0 a1 a2 a3 b0 b1 b2 b3) (h5 : L 5 = true) : g6 < w.heap.size := by
  cases e : L 7 with
  | false => exact (h.z6 h5 e).lt
  | true => exact (h.k6 e).lt
end
end Go.Proofs.YtleigbbgilcckaaGreat
namespace Go.Proofs.YtleigbbgilcckaaGreat
open Go.RowKit
namespace PQ
end PQ
/-- a row of numbers that stands in one block -/
structure PtAt (W : World) (g n : Nat) (f : Nat → Nat) : Prop where
  cell : ∀ j, j < n → W.cell? ⟨g, j, none⟩ = some (.int .i64 (f j))
  fr : ∀ j, j < n → W.frozen? ⟨g, j, none⟩ = false
  lt : g < W.heap.size
section
variable {W W' : World} {g n : Nat} {f f' : Nat → Nat}
theorem PtAt.set (h : PtAt W g n f) (j v : Nat) (hj : j < n) : PtAt (W.setCell ⟨g, j, none⟩ (.int .i64 v)) g n (PQ.upd f j v) := by
  refine ⟨fun k hk => ?_, fun k hk => by simpa using h.fr k hk, by simpa using h.lt⟩
  unfold PQ.upd
  by_cases e : k = j
  · subst e
    rw [if_pos rfl]
    exact World.cell?_setCell_same _ _ _ (h.cell k hk)
  · rw [if_neg e, World.cell?_setCell_other _ _ _ _ (fun e' => e (by injection e' with _ e2; exact e2.symm))]
    exact h.cell k hk
theorem PtAt.below {B : Nat} (h : PtAt W g n f) (hb : Below B W W') (hg : g < B) : PtAt W' g n f :=
  ⟨fun j hj => (hb.cell (p := ⟨g, j, none⟩) hg).trans (h.cell j hj), fun j hj => (hb.frozen (p := ⟨g, j, none⟩) hg).trans (h.fr j hj), Nat.lt_of_lt_of_le h.lt hb.size⟩
theorem PtAt.congr (h : PtAt W g n f) (he : ∀ j, j < n → f j = f' j) : PtAt W g n f' :=
  ⟨fun j hj => by rw [← he j hj]; exact h.cell j hj, h.fr, h.lt⟩
theorem PtAt.made (w : World) (n : Nat) (t : TypeId) : PtAt (w.alloc (.cells (madeCells #[.int .i64 0] n) t)) w.heap.size n (fun _ => 0) := by
  refine ⟨fun j hj => ?_, fun j hj => Blk.frozen (Blk.new w t (madeCells #[.int .i64 0] n)) j, by simp⟩
  rw [Blk.cell (Blk.new w t (madeCells #[.int .i64 0] n)) j]
  simp [madeCells, hj, Nat.mod_one]
end
theorem grown_bl {w1 W W' : World} {B : Nat} {row : Option Nat} (h : w1.grownBy W row) (hb : Below B W W') (hB : w1.heap.size ≤ B) : w1.grownBy W' row :=
  ⟨hb.os.trans h.os, hb.tape.trans h.tape, hb.output.trans h.output, Nat.le_trans h.size hb.size, fun k hk hr => (hb.block k (by omega)).trans (h.block k hk hr)⟩
/-- the state of the search for one part -/
structure SSt (w1 W : World) (g n : Nat) (c : Nat → Nat) (t : Nat → Nat → Bool) (i : Nat) (pt : Nat → Nat) (A : Option Addr) (nT cT : Nat) (T : List Nat) (k m : Nat) : Prop where
  row : PtAt W g n pt
  q : Que W w1.heap.size A nT cT T
  g : w1.grownBy W (some g)
  fl : PQ.Fl c t n i pt T k m
section
variable {w1 W W' : World} {g n : Nat} {c : Nat → Nat} {t : Nat → Nat → Bool} {i : Nat} {pt : Nat → Nat} {A : Option Addr} {nT cT : Nat} {T : List Nat} {k m : Nat}
theorem SSt.bl (h : SSt w1 W g n c t i pt A nT cT T k m) (hb : Below W.heap.size W W') : SSt w1 W' g n c t i pt A nT cT T k m :=
  ⟨h.row.below hb h.row.lt, h.q.bl hb, grown_bl h.g hb h.g.size, h.fl⟩
theorem SSt.no (h : SSt w1 W g n c t i pt A nT cT T k m) (hm : ¬ (pt m = 0 ∧ t k m = true)) : SSt w1 W g n c t i pt A nT cT T k (m + 1) := ⟨h.row, h.q, h.g, h.fl.no hm⟩
end
end Go.Proofs.YtleigbbgilcckaaGreat
namespace Go.Proofs.YtleigbbgilcckaaGreat
open Go.RowKit
theorem PtAt.put {W : World} {g n : Nat} {f : Nat → Nat} (h : PtAt W g n f) (j v : Nat) (hj : j < n) (u : Int) (hu : u = (v : Int)) : PtAt (W.setCell ⟨g, j, none⟩ (.int .i64 u)) g n (PQ.upd f j v) := by
  rw [hu]; exact h.set j v hj
end Go.Proofs.YtleigbbgilcckaaGreat
namespace Go.Proofs.YtleigbbgilcckaaGreat
open Go.RowKit
/-- one cell that is known -/
structure K3 (W : World) (g : Nat) (x : Cl) : Prop where
  lt : g < W.heap.size
  c0 : W.cell? ⟨g, 0, none⟩ = some (.int .i64 x.1)
  c1 : W.cell? ⟨g, 1, none⟩ = some (.int .i64 x.2.1)
  c2 : W.cell? ⟨g, 2, none⟩ = some (.int .i64 x.2.2)
theorem K3.below {W W' : World} {g B : Nat} {x : Cl} (h : K3 W g x) (hb : Below B W W') (hB : g < B) : K3 W' g x :=
  ⟨Nat.lt_of_lt_of_le h.lt hb.size, (hb.cell (p := ⟨g, 0, none⟩) hB).trans h.c0, (hb.cell (p := ⟨g, 1, none⟩) hB).trans h.c1, (hb.cell (p := ⟨g, 2, none⟩) hB).trans h.c2⟩
end Go.Proofs.YtleigbbgilcckaaGreat
namespace Go.Proofs.YtleigbbgilcckaaGreat
open Go.RowKit
set_option maxHeartbeats 1000000 in
set_option maxRecDepth 100000 in
theorem idxSt_any (g : Nat) (lb : Array Value) (J : Nat → World → Prop) (eg : ∀ args w, (callFunc g args).run Tryz.prog w = .ok (.enter g args) w) (A : Option Addr) (n c : Nat) (L : List Cl) (w : World) (hl : L.length = n)
    (hr : ∀ k W, J k W → Reads W W.heap.size 3 A n (cvs L)) (hn : n ≤ maxLen) (h0 : J 0 w) (hp : ∀ (W : World) (k : Nat), k < n → J k W → Calls Tryz.prog g (#[cva (gt L k)] ++ lb) W fun e w' => e = .returned (.bool false) ∧ J (k + 1) w') :
    Calls Tryz.prog 89 #[.slice A n c, .func (.func g) #[] lb] w fun e w' => e = .returned (.int .i64 (-1)) ∧ J n w' := by
  have HR := Lib.hid hr
  have HP := Lib.hid hp
  have H0 := Lib.hid h0
  clear hr hp hl h0
  unfold maxLen at hn
  go_enter Tryz.func89, Tryz.ntmps89
  go_wp2
  go_loopg [8] n (fun gg s8 wr => ∃ kk : Nat, kk ≤ n ∧ n - kk ≤ gg ∧ s8 = .int .i64 kk ∧ J kk wr)
  case atStart => exact ⟨0, Nat.zero_le _, by omega, rfl, H0.out⟩
  case round =>
    obtain ⟨kk, hkk, hg, rfl, hJ⟩ := hrel
    have HJ := Lib.hid hJ
    clear hJ
    by_cases hlt : kk < n
    · obtain ⟨b, off, rfl, hb, y1, y2, y3⟩ := (HR.out kk wr HJ.out).elem hlt
      have hcall := Lib.hid (HP.out wr kk hlt HJ.out)
      go_wp2_with (go_at_fn g; refine hcall.out.mono ?_; rintro e w' ⟨rfl, hj'⟩)
      go_roundg (n - (kk + 1))
      case measure => omega
      case rel => exact ⟨kk + 1, by omega, by omega, by go_num, hj'⟩
    · go_wp2
      go_ret
      have h := HJ.out
      rw [show kk = n by omega] at h
      exact ⟨rfl, h⟩
set_option maxHeartbeats 1000000 in
theorem contSt_any (g : Nat) (lb : Array Value) (J : Nat → World → Prop) (eg : ∀ args w, (callFunc g args).run Tryz.prog w = .ok (.enter g args) w) (A : Option Addr) (n c : Nat) (L : List Cl) (w : World) (hl : L.length = n)
    (hr : ∀ k W, J k W → Reads W W.heap.size 3 A n (cvs L)) (hn : n ≤ maxLen) (h0 : J 0 w) (hp : ∀ (W : World) (k : Nat), k < n → J k W → Calls Tryz.prog g (#[cva (gt L k)] ++ lb) W fun e w' => e = .returned (.bool false) ∧ J (k + 1) w') :
    Calls Tryz.prog 55 #[.slice A n c, .func (.func g) #[] lb] w fun e w' => e = .returned (.bool false) ∧ J n w' := by
  have H := Lib.hid (idxSt_any g lb J eg A n c L w hl hr hn h0 hp)
  clear hp hr hn eg h0
  go_enter Tryz.func55, Tryz.ntmps55
  go_wp2_with (go_at_call 89; refine H.out.mono ?_; rintro e w1 ⟨rfl, hj⟩)
  go_ret
  exact ⟨rfl, hj⟩
end Go.Proofs.YtleigbbgilcckaaGreat
namespace Go.Proofs.YtleigbbgilcckaaGreat
open Canon
/-! ### lengths and validity of what is put together -/
theorem mg1_v {L : List Cl} (hL : AllV L) (h : four4 L = true) : AllV (mg1 L) := by
  unfold four4 at h
  rw [Bool.and_eq_true, Bool.and_eq_true, decide_eq_true_eq, decide_eq_true_eq] at h
  intro x hx
  rcases List.mem_append.1 hx with hx | hx
  · exact hL x (List.mem_of_mem_take hx)
  · simp at hx
    subst hx
    exact par_vl (gt_v hL (by omega)) h.2.1
theorem mg1_short {L : List Cl} (h : four4 L = true) : (mg1 L).length + 3 = L.length := by
  unfold four4 at h
  rw [Bool.and_eq_true, decide_eq_true_eq] at h
  unfold mg1
  simp
  omega
theorem mgF_v : ∀ (f : Nat) (L : List Cl), AllV L → AllV (mgF f L)
  | 0, _, h => h
  | f + 1, L, h => by
    unfold mgF
    split
    · rename_i h4; exact mgF_v f _ (mg1_v h h4)
    · exact h
theorem mgF_len : ∀ (f : Nat) (L : List Cl), (mgF f L).length ≤ L.length
  | 0, _ => Nat.le_refl _
  | f + 1, L => by
    unfold mgF
    split
    · rename_i h4
      have := mgF_len f (mg1 L)
      have := mg1_short h4
      omega
    · exact Nat.le_refl _
theorem kid_lev {c : Cl} {f : Nat} {lev : Int} (hl : c.1 + ((f + 1 : Nat) : Int) = lev) : ∀ x ∈ kidsC c, x.1 + (f : Int) = lev := by
  intro x hx
  simp only [kidsC, kids, List.mem_cons, List.not_mem_nil, or_false] at hx
  rcases hx with rfl | rfl | rfl | rfl <;> (simp only []; omega)
theorem one_app {O : List Cl} {c : Cl} (hO : AllV O) (hc : Vl c) : AllV (O ++ [c]) := by
  intro x hx
  rcases List.mem_append.1 hx with hx | hx
  · exact hO x hx
  · simp at hx; subst hx; exact hc
theorem covP_v {mt ins : Cl → Bool} {lev : Int} (h16 : lev ≤ 16) : ∀ (f : Nat) (c : Cl) (O : List Cl), Vl c → c.1 + (f : Int) = lev → AllV O → AllV (covP mt ins lev f c O) := by
  intro f
  induction f with
  | zero =>
    intro c O hc hl hO
    unfold covP
    split
    · exact mgF_v _ _ (one_app hO hc)
    · exact hO
  | succ f ih =>
    intro c O hc hl hO
    unfold covP
    split
    · split
      · exact mgF_v _ _ (one_app hO hc)
      · have hkv := kids_vl hc (by omega)
        have hkl := kid_lev hl
        generalize kidsC c = K at hkv hkl
        revert hO
        revert O
        induction K with
        | nil => intro O hO; exact hO
        | cons x K ihK =>
          intro O hO
          exact ihK (fun y hy => hkv y (List.mem_cons_of_mem _ hy)) (fun y hy => hkl y (List.mem_cons_of_mem _ hy)) _ (ih x O (hkv x (List.mem_cons_self ..)) (hkl x (List.mem_cons_self ..)) hO)
    · exact hO
theorem covP_len {mt ins : Cl → Bool} {lev : Int} (h16 : lev ≤ 16) (hins : ∀ x, Vl x → x.1 < lev → ins x = true → ∀ y ∈ kidsC x, ins y = true ∧ mt y = true) : ∀ (f : Nat) (c : Cl) (O : List Cl), Vl c → c.1 + (f : Int) = lev → (covP mt ins lev f c O).length ≤ O.length + (arnL mt lev f c).length := by
  intro f
  induction f with
  | zero =>
    intro c O hc hl
    unfold covP arnL
    split
    · rw [if_pos (by omega)]
      have := mgF_len (O.length + 1) (O ++ [c])
      simpa using this
    · simp
  | succ f ih =>
    intro c O hc hl
    by_cases hm : mt c = true
    · by_cases hi : ins c = true
      · have hfull := ins_full h16 hins (f + 1) c hc hl hm hi
        have hne : 1 ≤ (arnL mt lev (f + 1) c).length := by
          obtain ⟨x, hx, -⟩ := (hfull (spF c)).2 ((cov_one c _).2 ⟨Nat.le_refl _, sp_pos c⟩)
          exact List.length_pos_of_mem hx
        unfold covP
        rw [if_pos hm, if_pos (.inr hi)]
        have := mgF_len (O.length + 1) (O ++ [c])
        rw [List.length_append, List.length_singleton] at this
        omega
      · unfold covP arnL
        rw [if_pos hm, if_pos hm, if_neg (by intro h; rcases h with h | h; omega; exact hi h), if_neg (by omega)]
        have hkv := kids_vl hc (by omega)
        have hkl := kid_lev hl
        generalize kidsC c = K at hkv hkl
        revert O
        induction K with
        | nil => intro O; simp
        | cons x K ihK =>
          intro O
          have h1 := ih x O (hkv x (List.mem_cons_self ..)) (hkl x (List.mem_cons_self ..))
          have h2 := ihK (fun y hy => hkv y (List.mem_cons_of_mem _ hy)) (fun y hy => hkl y (List.mem_cons_of_mem _ hy)) (covP mt ins lev f x O)
          simp only [List.foldl_cons, List.flatMap_cons, List.length_append]
          omega
    · unfold covP arnL
      rw [if_neg hm, if_neg hm]
      simp
/-- after some of the children -/
def foldK (mt ins : Cl → Bool) (lev : Int) (f : Nat) (K : List Cl) (O : List Cl) (k : Nat) : List Cl := (K.take k).foldl (fun O x => covP mt ins lev f x O) O
theorem foldK_succ (mt ins : Cl → Bool) (lev : Int) (f : Nat) (K : List Cl) (O : List Cl) (k : Nat) (hk : k < K.length) : foldK mt ins lev f K O (k + 1) = covP mt ins lev f (gt K k) (foldK mt ins lev f K O k) := by
  unfold foldK
  rw [List.take_succ_eq_append_getElem hk, List.foldl_append]
  simp [gt, hk]
/-- how many there are at most, with what is still to come -/
theorem foldK_ok {mt ins : Cl → Bool} {lev : Int} (h16 : lev ≤ 16) (hins : ∀ x, Vl x → x.1 < lev → ins x = true → ∀ y ∈ kidsC x, ins y = true ∧ mt y = true) {f : Nat} {K O : List Cl} (hkv : AllV K) (hkl : ∀ x ∈ K, x.1 + (f : Int) = lev) (hO : AllV O) :
    ∀ k, k ≤ K.length → AllV (foldK mt ins lev f K O k) ∧ (foldK mt ins lev f K O k).length + ((K.drop k).flatMap (arnL mt lev f)).length ≤ O.length + (K.flatMap (arnL mt lev f)).length := by
  intro k
  induction k with
  | zero => intro _; exact ⟨hO, by simp [foldK]⟩
  | succ k ih =>
    intro hk
    obtain ⟨i1, i2⟩ := ih (by omega)
    have hm : gt K k ∈ K := by simp [gt, show k < K.length by omega]
    rw [foldK_succ _ _ _ _ _ _ _ (by omega)]
    refine ⟨covP_v h16 f _ _ (hkv _ hm) (hkl _ hm) i1, ?_⟩
    have h1 := covP_len h16 hins f (gt K k) (foldK mt ins lev f K O k) (hkv _ hm) (hkl _ hm)
    have hd : K.drop k = gt K k :: K.drop (k + 1) := by
      rw [List.drop_eq_getElem_cons (by omega)]
      simp [gt, show k < K.length by omega]
    rw [hd, List.flatMap_cons, List.length_append] at i2
    omega
end Go.Proofs.YtleigbbgilcckaaGreat
