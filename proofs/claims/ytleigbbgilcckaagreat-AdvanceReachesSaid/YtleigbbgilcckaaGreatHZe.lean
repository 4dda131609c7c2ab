/- The walk of advance.Cell. -/
import Derived.Test.YtleigbbgilcckaaGreatHZd
import Derived.Test.YtleigbbgilcckaaGreatHShelfT
import Derived.Test.YtleigbbgilcckaaGreatHJe
set_option linter.unusedVariables false
set_option linter.unusedSimpArgs false
namespace Go.Proofs.YtleigbbgilcckaaGreat
open Go.RowKit
/-- three cells that are known -/
structure D3 (W : World) (g : Nat) (a b c : Int) : Prop where
  lt : g < W.heap.size
  c0 : W.cell? ⟨g, 0, none⟩ = some (.int .i64 a)
  c1 : W.cell? ⟨g, 1, none⟩ = some (.int .i64 b)
  c2 : W.cell? ⟨g, 2, none⟩ = some (.int .i64 c)
theorem D3.below {W W' : World} {g B : Nat} {a b c : Int} (h : D3 W g a b c) (hb : Below B W W') (hB : g < B) : D3 W' g a b c :=
  ⟨Nat.lt_of_lt_of_le h.lt hb.size, (hb.cell (p := ⟨g, 0, none⟩) hB).trans h.c0, (hb.cell (p := ⟨g, 1, none⟩) hB).trans h.c1, (hb.cell (p := ⟨g, 2, none⟩) hB).trans h.c2⟩
theorem D3.alloc {W : World} {g : Nat} {a b c : Int} (h : D3 W g a b c) (o : Obj) : D3 (W.alloc o) g a b c := h.below (bl_alloc W o) h.lt
theorem D3.new (W : World) (a b c : Int) (t : TypeId) : D3 (W.alloc (.cells #[.int .i64 a, .int .i64 b, .int .i64 c] t)) W.heap.size a b c := ⟨by simp, by simp, by simp, by simp⟩
/-- the four blocks that moved and Cell begin with -/
structure M4 (w W : World) (l r c a b x y : Int) : Prop where
  bl : Below w.heap.size w W
  C : D3 W w.heap.size l r c
  A : D2 W (w.heap.size + 1) a b
  X : D2 W (w.heap.size + 2) x y
  R : D4 W (w.heap.size + 3) 0 0 0 0
theorem M4.below {w W W' : World} {l r c a b x y : Int} (h : M4 w W l r c a b x y) (hb : Below W.heap.size W W') : M4 w W' l r c a b x y :=
  ⟨h.bl.trans (hb.mono h.bl.size), h.C.below hb h.C.lt, h.A.below hb h.A.lt, h.X.below hb h.X.lt, h.R.below hb h.R.lt⟩
theorem M4.alloc {w W : World} {l r c a b x y : Int} (h : M4 w W l r c a b x y) (o : Obj) : M4 w (W.alloc o) l r c a b x y := h.below (bl_alloc W o)
theorem M4.start (w : World) (l r c a b x y : Int) : M4 w ((((w.alloc (.cells #[.int .i64 l, .int .i64 r, .int .i64 c] 46)).alloc (.cells #[.int .i64 a, .int .i64 b] 26)).alloc (.cells #[.int .i64 x, .int .i64 y] 26)).alloc (.cells #[.int .i64 0, .int .i64 0, .int .i64 0, .int .i64 0] 48)) l r c a b x y := by
  refine ⟨((((Below.refl _ _).alloc (Nat.le_refl _) _).alloc (by simp) _).alloc (by simp; omega) _).alloc (by simp; omega) _, (((D3.new w l r c _).alloc _).alloc _).alloc _, ?_, ?_, ?_⟩
  · have := ((D2.new (w.alloc (.cells #[.int .i64 l, .int .i64 r, .int .i64 c] 46)) a b 26).alloc (.cells #[.int .i64 x, .int .i64 y] 26)).alloc (.cells #[.int .i64 0, .int .i64 0, .int .i64 0, .int .i64 0] 48)
    simpa using this
  · have := (D2.new ((w.alloc (.cells #[.int .i64 l, .int .i64 r, .int .i64 c] 46)).alloc (.cells #[.int .i64 a, .int .i64 b] 26)) x y 26).alloc (.cells #[.int .i64 0, .int .i64 0, .int .i64 0, .int .i64 0] 48)
    simpa using this
  · have := D4.new (((w.alloc (.cells #[.int .i64 l, .int .i64 r, .int .i64 c] 46)).alloc (.cells #[.int .i64 a, .int .i64 b] 26)).alloc (.cells #[.int .i64 x, .int .i64 y] 26)) 0 0 0 0 48
    simpa using this
set_option maxHeartbeats 4000000 in
set_option maxRecDepth 100000 in
theorem moved_out (l r c a b x y b0 b1 b2 b3 : Int) (w : World) (KB : ∀ W, Calls Tryz.prog 15 #[.agg #[.int .i64 l, .int .i64 r, .int .i64 c]] W fun e w' => e = .returned (.tuple #[.agg #[.int .i64 b0, .int .i64 b1, .int .i64 b2, .int .i64 b3], .int .i64 0]) ∧ Below W.heap.size W w')
    (h0 : -5400000 ≤ b0) (h1 : b0 ≤ b1) (h2 : b1 ≤ 5400000) (a0 : -10800000 ≤ a) (a1 : a ≤ b) (a2 : b ≤ 10800000) (h : mvL b0 b1 a b = false) :
    Calls Tryz.prog 28 #[.agg #[.int .i64 l, .int .i64 r, .int .i64 c], .agg #[.int .i64 a, .int .i64 b], .agg #[.int .i64 x, .int .i64 y]] w fun e w' => e = .returned (.tuple #[.agg #[.int .i64 0, .int .i64 0, .int .i64 0, .int .i64 0], .int .i64 21]) ∧ Below w.heap.size w w' := by
  have K := Lib.hid KB
  have M := Lib.hid (M4.start w l r c a b x y)
  unfold mvL at h
  rw [decide_eq_false_iff_not] at h
  clear KB
  by_cases hc : b0 + a < -5400000
  all_goals
    first
      | (have d1 : decide (b0 + a < -5400000) = true := decide_eq_true hc)
      | (have d1 : decide (b0 + a < -5400000) = false := decide_eq_false hc
         have d2 : decide (5400000 < b1 + b) = true := decide_eq_true (by omega))
    clear h
    go_enter Tryz.func28, Tryz.ntmps28
    go_wp2_with fail
    (with_reducible refine (K.out _).mono ?_)
    rintro e w1 ⟨rfl, hb1⟩
    have M1 := Lib.hid (M.out.below hb1)
    clear hb1 M
    obtain ⟨-, -, ⟨at1, ac0, ac1, af0, af1⟩, -, -⟩ := M1.out
    obtain ⟨rt, r0, r1, r2, r3, rf0, rf1, rf2, rf3⟩ := ((M1.out.alloc (.cells #[.int .i64 b0, .int .i64 b1, .int .i64 b2, .int .i64 b3] 48)).alloc (.cells #[.int .i64 (b0 + a), .int .i64 (b1 + b)] 26)).R
    go_wp2
    refine bodyPost_ret (v := .tuple #[.agg #[.int .i64 0, .int .i64 0, .int .i64 0, .int .i64 0], .int .i64 21]) (by simp [results, Tryz.results28, go_sem, *]; done) rfl ⟨rfl, ?_⟩
    have hbl := M1.out.bl
    have hz := hbl.size
    repeat (first | exact Below.refl _ _ | assumption | refine bl_drew ?_ | refine bl_drewN ?_ _ | refine Below.setCell ?_ (by first | assumption | omega | (simp; done) | (simp; omega)) _ | refine Below.alloc ?_ (by first | assumption | omega | (simp; done) | (simp; omega)) _)
set_option maxHeartbeats 4000000 in
set_option maxRecDepth 100000 in
theorem moved_err (l r c a b x y b0 b1 b2 b3 E : Int) (w : World) (KB : ∀ W, Calls Tryz.prog 15 #[.agg #[.int .i64 l, .int .i64 r, .int .i64 c]] W fun e w' => e = .returned (.tuple #[.agg #[.int .i64 b0, .int .i64 b1, .int .i64 b2, .int .i64 b3], .int .i64 0]) ∧ Below W.heap.size W w')
    (h0 : -5400000 ≤ b0) (h1 : b0 ≤ b1) (h2 : b1 ≤ 5400000) (a0 : -10800000 ≤ a) (a1 : a ≤ b) (a2 : b ≤ 10800000) (h : mvL b0 b1 a b = true)
    (KD : ∀ W, Calls Tryz.prog 13 #[.agg #[.int .i64 (min b0 (b0 + a)), .int .i64 (max b1 (b1 + b))], .agg #[.int .i64 x, .int .i64 y]] W fun e w' => e = .returned (.tuple #[.agg #[.int .i64 0, .int .i64 0], .int .i64 E]) ∧ Below W.heap.size W w') (hE : E = 21 ∨ E = 5) :
    Calls Tryz.prog 28 #[.agg #[.int .i64 l, .int .i64 r, .int .i64 c], .agg #[.int .i64 a, .int .i64 b], .agg #[.int .i64 x, .int .i64 y]] w fun e w' => e = .returned (.tuple #[.agg #[.int .i64 0, .int .i64 0, .int .i64 0, .int .i64 0], .int .i64 E]) ∧ Below w.heap.size w w' := by
  have K := Lib.hid KB
  have KE := Lib.hid KD
  have M := Lib.hid (M4.start w l r c a b x y)
  unfold mvL at h
  rw [decide_eq_true_iff] at h
  have d1 : decide (b0 + a < -5400000) = false := decide_eq_false (by omega)
  have d2 : decide (5400000 < b1 + b) = false := decide_eq_false (by omega)
  clear KB KD h
  rcases hE with rfl | rfl
  all_goals
    go_enter Tryz.func28, Tryz.ntmps28
    go_wp2_with fail
    (with_reducible refine (K.out _).mono ?_)
    rintro e w1 ⟨rfl, hb1⟩
    have M1 := Lib.hid (M.out.below hb1)
    clear hb1 M
    obtain ⟨-, -, ⟨at1, ac0, ac1, af0, af1⟩, -, -⟩ := M1.out
    obtain ⟨-, -, -, ⟨xt, x0, x1, xf0, xf1⟩, -⟩ := (((M1.out.alloc (.cells #[.int .i64 b0, .int .i64 b1, .int .i64 b2, .int .i64 b3] 48)).alloc (.cells #[.int .i64 (b0 + a), .int .i64 (b1 + b)] 26)).alloc (.cells #[.int .i64 (min b0 (b0 + a)), .int .i64 (max b1 (b1 + b))] 26))
    have M2 := Lib.hid (((M1.out.alloc (.cells #[.int .i64 b0, .int .i64 b1, .int .i64 b2, .int .i64 b3] 48)).alloc (.cells #[.int .i64 (b0 + a), .int .i64 (b1 + b)] 26)).alloc (.cells #[.int .i64 (min b0 (b0 + a)), .int .i64 (max b1 (b1 + b))] 26))
    go_wp2_with fail
    (with_reducible refine (KE.out _).mono ?_)
    rintro e w2 ⟨rfl, hb2⟩
    have M3 := Lib.hid (M2.out.below hb2)
    clear at1 ac0 ac1 af0 af1 xt x0 x1 xf0 xf1 M1 M2 hb2
    obtain ⟨rt, r0, r1, r2, r3, rf0, rf1, rf2, rf3⟩ := (M3.out.alloc (.cells #[.int .i64 0, .int .i64 0] 26)).R
    go_wp2
    first
      | refine bodyPost_ret (v := .tuple #[.agg #[.int .i64 0, .int .i64 0, .int .i64 0, .int .i64 0], .int .i64 21]) (by simp [results, Tryz.results28, go_sem, *]; done) rfl ⟨rfl, ?_⟩
      | refine bodyPost_ret (v := .tuple #[.agg #[.int .i64 0, .int .i64 0, .int .i64 0, .int .i64 0], .int .i64 5]) (by simp [results, Tryz.results28, go_sem, *]; done) rfl ⟨rfl, ?_⟩
    have hbl := M3.out.bl
    have hz := hbl.size
    repeat (first | exact Below.refl _ _ | assumption | refine bl_drew ?_ | refine bl_drewN ?_ _ | refine Below.setCell ?_ (by first | assumption | omega | (simp; done) | (simp; omega)) _ | refine Below.alloc ?_ (by first | assumption | omega | (simp; done) | (simp; omega)) _)
theorem mvS {w3 W : World} {g1 g2 : Nat} {b0 b1 b2 b3 p q u v : Int} (hB : D4 w3 g1 b0 b1 b2 b3) (hA : D2 w3 (g1 + 1) p q) (hU : D2 w3 g2 u v) (h : Below w3.heap.size w3 W) :
    W.cell? ⟨g1, 0, none⟩ = some (.int .i64 b0) ∧ W.cell? ⟨g1, 1, none⟩ = some (.int .i64 b1) ∧ W.cell? ⟨g1, 2, none⟩ = some (.int .i64 b2) ∧ W.cell? ⟨g1, 3, none⟩ = some (.int .i64 b3) ∧
    W.cell? ⟨g1 + 1, 0, none⟩ = some (.int .i64 p) ∧ W.cell? ⟨g1 + 1, 1, none⟩ = some (.int .i64 q) ∧ W.cell? ⟨g2, 0, none⟩ = some (.int .i64 u) ∧ W.cell? ⟨g2, 1, none⟩ = some (.int .i64 v) := by
  have b := hB.below h hB.lt
  have a := hA.below h hA.lt
  have c := hU.below h hU.lt
  exact ⟨b.c0, b.c1, b.c2, b.c3, a.c0, a.c1, c.c0, c.c1⟩
theorem farS {W : World} {g g' i : Nat} {x y z t u : Value} (h : W.cell? ⟨g', i, none⟩ = some u) (hn : g ≠ g') : ((((W.setCell ⟨g, 0, none⟩ x).setCell ⟨g, 1, none⟩ y).setCell ⟨g, 2, none⟩ z).setCell ⟨g, 3, none⟩ t).cell? ⟨g', i, none⟩ = some u := by
  have hne : ∀ j, (⟨g, j, none⟩ : Addr) ≠ ⟨g', i, none⟩ := fun j e => hn (congrArg Addr.block e)
  rw [World.cell?_setCell_other _ _ _ _ (hne 3), World.cell?_setCell_other _ _ _ _ (hne 2), World.cell?_setCell_other _ _ _ _ (hne 1), World.cell?_setCell_other _ _ _ _ (hne 0)]
  exact h
theorem mvFar {W : World} {g g1 g2 : Nat} {x y z t : Value} {b0 b1 b2 b3 p q u v : Int} (h : W.cell? ⟨g1, 0, none⟩ = some (.int .i64 b0) ∧ W.cell? ⟨g1, 1, none⟩ = some (.int .i64 b1) ∧ W.cell? ⟨g1, 2, none⟩ = some (.int .i64 b2) ∧ W.cell? ⟨g1, 3, none⟩ = some (.int .i64 b3) ∧
    W.cell? ⟨g1 + 1, 0, none⟩ = some (.int .i64 p) ∧ W.cell? ⟨g1 + 1, 1, none⟩ = some (.int .i64 q) ∧ W.cell? ⟨g2, 0, none⟩ = some (.int .i64 u) ∧ W.cell? ⟨g2, 1, none⟩ = some (.int .i64 v)) (n1 : g ≠ g1) (n2 : g ≠ g1 + 1) (n3 : g ≠ g2) :
    ((((W.setCell ⟨g, 0, none⟩ x).setCell ⟨g, 1, none⟩ y).setCell ⟨g, 2, none⟩ z).setCell ⟨g, 3, none⟩ t).cell? ⟨g1, 0, none⟩ = some (.int .i64 b0) ∧ ((((W.setCell ⟨g, 0, none⟩ x).setCell ⟨g, 1, none⟩ y).setCell ⟨g, 2, none⟩ z).setCell ⟨g, 3, none⟩ t).cell? ⟨g1, 1, none⟩ = some (.int .i64 b1) ∧ ((((W.setCell ⟨g, 0, none⟩ x).setCell ⟨g, 1, none⟩ y).setCell ⟨g, 2, none⟩ z).setCell ⟨g, 3, none⟩ t).cell? ⟨g1, 2, none⟩ = some (.int .i64 b2) ∧ ((((W.setCell ⟨g, 0, none⟩ x).setCell ⟨g, 1, none⟩ y).setCell ⟨g, 2, none⟩ z).setCell ⟨g, 3, none⟩ t).cell? ⟨g1, 3, none⟩ = some (.int .i64 b3) ∧
    ((((W.setCell ⟨g, 0, none⟩ x).setCell ⟨g, 1, none⟩ y).setCell ⟨g, 2, none⟩ z).setCell ⟨g, 3, none⟩ t).cell? ⟨g1 + 1, 0, none⟩ = some (.int .i64 p) ∧ ((((W.setCell ⟨g, 0, none⟩ x).setCell ⟨g, 1, none⟩ y).setCell ⟨g, 2, none⟩ z).setCell ⟨g, 3, none⟩ t).cell? ⟨g1 + 1, 1, none⟩ = some (.int .i64 q) ∧ ((((W.setCell ⟨g, 0, none⟩ x).setCell ⟨g, 1, none⟩ y).setCell ⟨g, 2, none⟩ z).setCell ⟨g, 3, none⟩ t).cell? ⟨g2, 0, none⟩ = some (.int .i64 u) ∧ ((((W.setCell ⟨g, 0, none⟩ x).setCell ⟨g, 1, none⟩ y).setCell ⟨g, 2, none⟩ z).setCell ⟨g, 3, none⟩ t).cell? ⟨g2, 1, none⟩ = some (.int .i64 v) := by
  obtain ⟨h0, h1, h2, h3, h4, h5, h6, h7⟩ := h
  exact ⟨farS h0 n1, farS h1 n1, farS h2 n1, farS h3 n1, farS h4 n2, farS h5 n2, farS h6 n3, farS h7 n3⟩
set_option maxHeartbeats 4000000 in
set_option maxRecDepth 100000 in
theorem moved_yes (l r c a b x y b0 b1 b2 b3 u v : Int) (w : World) (KB : ∀ W, Calls Tryz.prog 15 #[.agg #[.int .i64 l, .int .i64 r, .int .i64 c]] W fun e w' => e = .returned (.tuple #[.agg #[.int .i64 b0, .int .i64 b1, .int .i64 b2, .int .i64 b3], .int .i64 0]) ∧ Below W.heap.size W w')
    (h0 : -5400000 ≤ b0) (h1 : b0 ≤ b1) (h2 : b1 ≤ 5400000) (h3 : -10800000 ≤ b2) (h4 : b2 ≤ b3) (h5 : b3 ≤ 10800000) (a0 : -10800000 ≤ a) (a1 : a ≤ b) (a2 : b ≤ 10800000) (h : mvL b0 b1 a b = true)
    (KD : ∀ W, Calls Tryz.prog 13 #[.agg #[.int .i64 (min b0 (b0 + a)), .int .i64 (max b1 (b1 + b))], .agg #[.int .i64 x, .int .i64 y]] W fun e w' => e = .returned (.tuple #[.agg #[.int .i64 u, .int .i64 v], .int .i64 0]) ∧ Below W.heap.size W w') (u0 : -1099511627776 ≤ u) (u1 : u ≤ 1099511627776) (v0 : -1099511627776 ≤ v) (v1 : v ≤ 1099511627776)
    (KL : ∀ W, Calls Tryz.prog 64 #[.agg #[.int .i64 (b2 + u), .int .i64 (b3 + v)]] W fun e w' => e = .returned (.agg #[.int .i64 (lonA (b2 + u) (b3 + v)), .int .i64 (lonB (b2 + u) (b3 + v))]) ∧ Below W.heap.size W w') :
    Calls Tryz.prog 28 #[.agg #[.int .i64 l, .int .i64 r, .int .i64 c], .agg #[.int .i64 a, .int .i64 b], .agg #[.int .i64 x, .int .i64 y]] w fun e w' => e = .returned (.tuple #[.agg #[.int .i64 (b0 + a), .int .i64 (b1 + b), .int .i64 (lonA (b2 + u) (b3 + v)), .int .i64 (lonB (b2 + u) (b3 + v))], .int .i64 0]) ∧ Below w.heap.size w w' := by
  have K := Lib.hid KB
  have KE := Lib.hid KD
  have KM := Lib.hid KL
  have M := Lib.hid (M4.start w l r c a b x y)
  unfold mvL at h
  rw [decide_eq_true_iff] at h
  have d1 : decide (b0 + a < -5400000) = false := decide_eq_false (by omega)
  have d2 : decide (5400000 < b1 + b) = false := decide_eq_false (by omega)
  have r1 : IntKind.i64.wrap (b2 + u) = b2 + u := IntWalk.i64_in _ (by omega)
  have r2 : IntKind.i64.wrap (b3 + v) = b3 + v := IntWalk.i64_in _ (by omega)
  clear KB KD KL h
  generalize lonA (b2 + u) (b3 + v) = s at *
  generalize lonB (b2 + u) (b3 + v) = t at *
  go_enter Tryz.func28, Tryz.ntmps28
  go_wp2_with fail
  (with_reducible refine (K.out _).mono ?_)
  rintro e w1 ⟨rfl, hb1⟩
  have M1 := Lib.hid (M.out.below hb1)
  clear hb1 M
  obtain ⟨-, -, ⟨at1, ac0, ac1, af0, af1⟩, -, -⟩ := M1.out
  obtain ⟨-, -, -, ⟨xt, x0, x1, xf0, xf1⟩, -⟩ := (((M1.out.alloc (.cells #[.int .i64 b0, .int .i64 b1, .int .i64 b2, .int .i64 b3] 48)).alloc (.cells #[.int .i64 (b0 + a), .int .i64 (b1 + b)] 26)).alloc (.cells #[.int .i64 (min b0 (b0 + a)), .int .i64 (max b1 (b1 + b))] 26))
  have M2 := Lib.hid (((M1.out.alloc (.cells #[.int .i64 b0, .int .i64 b1, .int .i64 b2, .int .i64 b3] 48)).alloc (.cells #[.int .i64 (b0 + a), .int .i64 (b1 + b)] 26)).alloc (.cells #[.int .i64 (min b0 (b0 + a)), .int .i64 (max b1 (b1 + b))] 26))
  have B2 := Lib.hid (((D4.new w1 b0 b1 b2 b3 48).alloc (.cells #[.int .i64 (b0 + a), .int .i64 (b1 + b)] 26)).alloc (.cells #[.int .i64 (min b0 (b0 + a)), .int .i64 (max b1 (b1 + b))] 26))
  have A2 : Hid (D2 (((w1.alloc (.cells #[.int .i64 b0, .int .i64 b1, .int .i64 b2, .int .i64 b3] 48)).alloc (.cells #[.int .i64 (b0 + a), .int .i64 (b1 + b)] 26)).alloc (.cells #[.int .i64 (min b0 (b0 + a)), .int .i64 (max b1 (b1 + b))] 26)) (w1.heap.size + 1) (b0 + a) (b1 + b)) := Lib.hid (by
    have := (D2.new (w1.alloc (.cells #[.int .i64 b0, .int .i64 b1, .int .i64 b2, .int .i64 b3] 48)) (b0 + a) (b1 + b) 26).alloc (.cells #[.int .i64 (min b0 (b0 + a)), .int .i64 (max b1 (b1 + b))] 26)
    simpa using this)
  go_wp2_with fail
  (with_reducible refine (KE.out _).mono ?_)
  rintro e w2 ⟨rfl, hb2⟩
  have M3 := Lib.hid ((M2.out.below hb2).alloc (.cells #[.int .i64 u, .int .i64 v] 26))
  have B3 := Lib.hid ((B2.out.below hb2 B2.out.lt).alloc (.cells #[.int .i64 u, .int .i64 v] 26))
  have A3 := Lib.hid ((A2.out.below hb2 A2.out.lt).alloc (.cells #[.int .i64 u, .int .i64 v] 26))
  have U3 := Lib.hid (D2.new w2 u v 26)
  have M1lt := M1.out.R.lt
  have hz2 := hb2.size
  clear at1 ac0 ac1 af0 af1 xt x0 x1 xf0 xf1 M1 M2 A2 B2 hb2
  have hg1 : w.heap.size + 3 < w1.heap.size := M1lt
  have hg2 : w1.heap.size < w2.heap.size := by have := hz2; simp at this; omega
  go_upto_region 11 with fail
  generalize w2.alloc (.cells #[.int .i64 u, .int .i64 v] 26) = w3 at *
  generalize w2.heap.size = g2 at *
  generalize w1.heap.size = g1 at *
  obtain ⟨rt, r0, r1', r2', r3, rf0, rf1, rf2, rf3⟩ := M3.out.R
  obtain ⟨bt, c0, c1, c2, c3, cf0, cf1, cf2, cf3⟩ := B3.out
  obtain ⟨at1, ac0, ac1, af0, af1⟩ := A3.out
  obtain ⟨ut, uc0, uc1, uf0, uf1⟩ := U3.out
  have n1 : w.heap.size + 1 + 1 + 1 ≠ g1 := by omega
  have n2 : w.heap.size + 1 + 1 + 1 ≠ g1 + 1 := by omega
  have n3 : w.heap.size + 1 + 1 + 1 ≠ g2 := by omega
  have Y3 : Below w3.heap.size w3 w3.drew := bl_drew (Below.refl _ _)
  go_region_held3 (fun w' => w'.cell? ⟨g1, 0, none⟩ = some (.int .i64 b0) ∧ w'.cell? ⟨g1, 1, none⟩ = some (.int .i64 b1) ∧ w'.cell? ⟨g1, 2, none⟩ = some (.int .i64 b2) ∧ w'.cell? ⟨g1, 3, none⟩ = some (.int .i64 b3) ∧ w'.cell? ⟨g1 + 1, 0, none⟩ = some (.int .i64 (b0 + a)) ∧ w'.cell? ⟨g1 + 1, 1, none⟩ = some (.int .i64 (b1 + b)) ∧ w'.cell? ⟨g2, 0, none⟩ = some (.int .i64 u) ∧ w'.cell? ⟨g2, 1, none⟩ = some (.int .i64 v))
    (first | with_reducible exact mvS B3.out A3.out U3.out Z9 | with_reducible exact mvFar (mvS B3.out A3.out U3.out Z9) n1 n2 n3 | with_reducible exact mvS B3.out A3.out U3.out Y3)
    (first
    | (go_at_call 64; (with_reducible refine (KM.out _).mono ?_); rintro e w9 ⟨rfl, hb9⟩; have Z9 := (show Below w3.heap.size w3 _ by repeat (first | exact Below.refl _ _ | assumption | refine bl_drew ?_ | refine bl_drewN ?_ _ | refine Below.setCell ?_ (by first | assumption | omega | (simp; done) | (simp; omega)) _ | refine Below.alloc ?_ (by first | assumption | omega | (simp; done) | (simp; omega)) _)).trans (hb9.mono (by first | exact Nat.le_refl _ | (simp; done) | (simp; omega) | omega)); have M9 := Lib.hid (M3.out.below Z9); obtain ⟨yt, y0, y1, y2, y3, yf0, yf1, yf2, yf3⟩ := M9.out.R; obtain ⟨zt, z0, z1, zf0, zf1⟩ := A3.out.below Z9 A3.out.lt)
    | fail)
  all_goals
    go_wp2
    refine bodyPost_ret (v := .tuple #[.agg #[.int .i64 (b0 + a), .int .i64 (b1 + b), .int .i64 s, .int .i64 t], .int .i64 0]) (by simp [results, Tryz.results28, go_sem, *]; done) rfl ⟨rfl, ?_⟩
    have hbl := M9.out.bl
    have hz := hbl.size
    repeat (first | exact Below.refl _ _ | assumption | refine bl_drew ?_ | refine bl_drewN ?_ _ | refine Below.setCell ?_ (by first | assumption | omega | (simp; done) | (simp; omega)) _ | refine Below.alloc ?_ (by first | assumption | omega | (simp; done) | (simp; omega)) _)
end Go.Proofs.YtleigbbgilcckaaGreat
namespace Go.Proofs.YtleigbbgilcckaaGreat
open Go.RowKit
theorem moved_any (l r c a b x y : Int) (w : World) (hv : vldB l r c = true) (ha : smB a b = true) (hx : smB x y = true) :
    Calls Tryz.prog 28 #[.agg #[.int .i64 l, .int .i64 r, .int .i64 c], .agg #[.int .i64 a, .int .i64 b], .agg #[.int .i64 x, .int .i64 y]] w fun e w' => e = .returned (mvV (edg r l - 5400000) (edg (r + 1) l - 5400000) (edg c l - 10800000) (edg (c + 1) l - 10800000) a b x y) ∧ Below w.heap.size w w' := by
  have KB := fun W => Box_yes l r c W hv
  unfold boxV at KB
  have hn := box_nums ((vl_iff (l, r, c)).1 hv)
  simp only [] at hn
  generalize hb00 : edg r l - 5400000 = b0 at *
  generalize hb1 : edg (r + 1) l - 5400000 = b1 at *
  generalize hb2 : edg c l - 10800000 = b2 at *
  generalize hb3 : edg (c + 1) l - 10800000 = b3 at *
  have ha' := sm_iff.1 ha
  have hx' := sm_iff.1 hx
  have hb0 : -5400000 ≤ b0 ∧ b0 ≤ b1 ∧ b1 ≤ 5400000 ∧ -10800000 ≤ b2 ∧ b2 ≤ b3 ∧ b3 ≤ 10800000 := by omega
  clear hn hb00 hb1 hb2 hb3
  unfold mvV
  cases hm : mvL b0 b1 a b with
  | false =>
    rw [if_neg (by simp)]
    exact moved_out l r c a b x y b0 b1 b2 b3 w KB hb0.1 hb0.2.1 hb0.2.2.1 ha'.1 ha'.2.1 ha'.2.2 hm
  | true =>
    rw [if_pos rfl]
    have hm' := hm
    unfold mvL at hm'
    rw [decide_eq_true_iff] at hm'
    have KD := fun W => Dlon_any (min b0 (b0 + a)) (max b1 (b1 + b)) x y W (by omega) (by omega) (by omega) hx
    unfold dnV at KD
    unfold mvP
    generalize Trig.enLo (min b0 (b0 + a) + 5400000) (max b1 (b1 + b) + 5400000) = p at *
    generalize Trig.enHi (min b0 (b0 + a) + 5400000) (max b1 (b1 + b) + 5400000) = q at *
    by_cases hp : p ≤ 0
    · rw [if_pos hp]
      refine moved_err l r c a b x y b0 b1 b2 b3 21 w KB hb0.1 hb0.2.1 hb0.2.2.1 ha'.1 ha'.2.1 ha'.2.2 hm (fun W => ?_) (.inl rfl)
      have := KD W
      rw [if_pos hp] at this
      exact this
    · rw [if_neg hp]
      unfold dlV at KD
      cases hg : dlG x y p q with
      | false =>
        rw [if_neg (by simp)]
        refine moved_err l r c a b x y b0 b1 b2 b3 5 w KB hb0.1 hb0.2.1 hb0.2.2.1 ha'.1 ha'.2.1 ha'.2.2 hm (fun W => ?_) (.inr rfl)
        have := KD W
        rw [if_neg hp, if_neg (by rw [hg]; simp)] at this
        exact this
      | true =>
        rw [if_pos rfl]
        have hd := dl_bd hg
        refine moved_yes l r c a b x y b0 b1 b2 b3 (dlA x y p q) (dlB x y p q) w KB hb0.1 hb0.2.1 hb0.2.2.1 hb0.2.2.2.1 hb0.2.2.2.2.1 hb0.2.2.2.2.2 ha'.1 ha'.2.1 ha'.2.2 hm (fun W => ?_) hd.1 hd.2.1 hd.2.2.1 hd.2.2.2 (fun W => longitudes_any _ _ W (by omega) (by omega) (by omega) (by omega))
        have := KD W
        rw [if_neg hp, if_pos hg] at this
        exact this
set_option maxHeartbeats 1000000 in
set_option maxRecDepth 100000 in
theorem aCell_yes (l r c a b x y p0 p1 p2 p3 E : Int) (w : World) (hv : vldB l r c = true) (ha : smB a b = true) (hx : smB x y = true) (hm : mvV (edg r l - 5400000) (edg (r + 1) l - 5400000) (edg c l - 10800000) (edg (c + 1) l - 10800000) a b x y = .tuple #[.agg #[.int .i64 p0, .int .i64 p1, .int .i64 p2, .int .i64 p3], .int .i64 E]) :
    Calls Tryz.prog 16 #[.agg #[.int .i64 l, .int .i64 r, .int .i64 c], .agg #[.int .i64 a, .int .i64 b], .agg #[.int .i64 x, .int .i64 y]] w fun e w' => e = .returned (.tuple #[.agg #[.int .i64 p0, .int .i64 p1, .int .i64 p2, .int .i64 p3], .int .i64 E]) ∧ Below w.heap.size w w' := by
  have KV := Lib.hid (fun W => valid_yes l r c hv W)
  have KM := Lib.hid (fun W => movement_any a b x y W)
  rw [ha, hx] at KM
  have KN := Lib.hid (fun W => moved_any l r c a b x y W hv ha hx)
  rw [hm] at KN
  have M := Lib.hid (M4.start w l r c a b x y)
  clear hm hv ha hx
  simp only [Bool.and_self] at KM
  go_enter Tryz.func16, Tryz.ntmps16
  go_wp2_with fail
  (with_reducible refine (KV.out _).mono ?_)
  rintro e w1 ⟨rfl, hb1⟩
  have M1 := Lib.hid (M.out.below hb1)
  clear hb1 M
  obtain ⟨-, -, ⟨at1, a0, a1, af0, af1⟩, ⟨xt, x0, x1, xf0, xf1⟩, -⟩ := M1.out
  go_wp2_with fail
  (with_reducible refine (KM.out _).mono ?_)
  rintro e w2 ⟨rfl, hb2⟩
  have M2 := Lib.hid (M1.out.below hb2)
  clear hb2 M1 at1 a0 a1 af0 af1 xt x0 x1 xf0 xf1
  obtain ⟨-, ⟨ct, c0, c1, c2⟩, ⟨at1, a0, a1, af0, af1⟩, ⟨xt, x0, x1, xf0, xf1⟩, -⟩ := M2.out
  go_wp2_with fail
  (with_reducible refine (KN.out _).mono ?_)
  rintro e w3 ⟨rfl, hb3⟩
  have M3 := Lib.hid (M2.out.below hb3)
  clear hb3 M2 ct c0 c1 c2 at1 a0 a1 af0 af1 xt x0 x1 xf0 xf1
  obtain ⟨hbl, -, -, -, ⟨rt, r0, r1, r2, r3, rf0, rf1, rf2, rf3⟩⟩ := M3.out
  have hz := hbl.size
  go_wp2
  refine bodyPost_ret (v := .tuple #[.agg #[.int .i64 p0, .int .i64 p1, .int .i64 p2, .int .i64 p3], .int .i64 E]) (by simp [results, Tryz.results16, go_sem, *]; done) rfl ⟨rfl, ?_⟩
  repeat (first | exact Below.refl _ _ | assumption | refine bl_drew ?_ | refine bl_drewN ?_ _ | refine Below.setCell ?_ (by first | assumption | omega | (simp; done) | (simp; omega)) _ | refine Below.alloc ?_ (by first | assumption | omega | (simp; done) | (simp; omega)) _)
end Go.Proofs.YtleigbbgilcckaaGreat
