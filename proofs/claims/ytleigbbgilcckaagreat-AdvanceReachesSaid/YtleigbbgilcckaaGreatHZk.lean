/- Walks of place.Valid, place.Contains at boxes of cells, and of cells.Contains. -/
import Derived.Test.YtleigbbgilcckaaGreatHZi
import Derived.Test.YtleigbbgilcckaaGreatHZe
import Derived.Test.YtleigbbgilcckaaGreatHJe
set_option linter.unusedVariables false
set_option linter.unusedSimpArgs false
namespace Go.Proofs.YtleigbbgilcckaaGreat
open Go.RowKit
theorem mvS2 {w3 W : World} {g1 gl g2 : Nat} {b0 b1 b2 b3 p q u v : Int} (hB : D4 w3 g1 b0 b1 b2 b3) (hA : D2 w3 gl p q) (hU : D2 w3 g2 u v) (h : Below w3.heap.size w3 W) :
    W.cell? ⟨g1, 0, none⟩ = some (.int .i64 b0) ∧ W.cell? ⟨g1, 1, none⟩ = some (.int .i64 b1) ∧ W.cell? ⟨g1, 2, none⟩ = some (.int .i64 b2) ∧ W.cell? ⟨g1, 3, none⟩ = some (.int .i64 b3) ∧
    W.cell? ⟨gl, 0, none⟩ = some (.int .i64 p) ∧ W.cell? ⟨gl, 1, none⟩ = some (.int .i64 q) ∧ W.cell? ⟨g2, 0, none⟩ = some (.int .i64 u) ∧ W.cell? ⟨g2, 1, none⟩ = some (.int .i64 v) := by
  have b := hB.below h hB.lt
  have a := hA.below h hA.lt
  have c := hU.below h hU.lt
  exact ⟨b.c0, b.c1, b.c2, b.c3, a.c0, a.c1, c.c0, c.c1⟩
theorem mvS3 {w3 W : World} {g1 gl g2 : Nat} {b0 b1 b2 b3 p q u v : Int} (hB : D4 w3 g1 b0 b1 b2 b3) (hA : D2 w3 gl p q) (hU : D2 w3 g2 u v) (h : Below w3.heap.size w3 W) :
    W.cell? ⟨g1, 0, none⟩ = some (.int .i64 b0) ∧ W.cell? ⟨g1, 1, none⟩ = some (.int .i64 b1) ∧ W.cell? ⟨gl, 0, none⟩ = some (.int .i64 p) ∧ W.cell? ⟨gl, 1, none⟩ = some (.int .i64 q) ∧ W.cell? ⟨g2, 0, none⟩ = some (.int .i64 u) ∧ W.cell? ⟨g2, 1, none⟩ = some (.int .i64 v) ∧ Below w3.heap.size w3 W := by
  have b := hB.below h hB.lt
  have a := hA.below h hA.lt
  have c := hU.below h hU.lt
  exact ⟨b.c0, b.c1, a.c0, a.c1, c.c0, c.c1, h⟩
theorem mvFar2 {W : World} {g g1 gl g2 : Nat} {x y z t : Value} {b0 b1 b2 b3 p q u v : Int} (h : W.cell? ⟨g1, 0, none⟩ = some (.int .i64 b0) ∧ W.cell? ⟨g1, 1, none⟩ = some (.int .i64 b1) ∧ W.cell? ⟨g1, 2, none⟩ = some (.int .i64 b2) ∧ W.cell? ⟨g1, 3, none⟩ = some (.int .i64 b3) ∧
    W.cell? ⟨gl, 0, none⟩ = some (.int .i64 p) ∧ W.cell? ⟨gl, 1, none⟩ = some (.int .i64 q) ∧ W.cell? ⟨g2, 0, none⟩ = some (.int .i64 u) ∧ W.cell? ⟨g2, 1, none⟩ = some (.int .i64 v)) (n1 : g ≠ g1) (n2 : g ≠ gl) (n3 : g ≠ g2) :
    ((((W.setCell ⟨g, 0, none⟩ x).setCell ⟨g, 1, none⟩ y).setCell ⟨g, 2, none⟩ z).setCell ⟨g, 3, none⟩ t).cell? ⟨g1, 0, none⟩ = some (.int .i64 b0) ∧ ((((W.setCell ⟨g, 0, none⟩ x).setCell ⟨g, 1, none⟩ y).setCell ⟨g, 2, none⟩ z).setCell ⟨g, 3, none⟩ t).cell? ⟨g1, 1, none⟩ = some (.int .i64 b1) ∧ ((((W.setCell ⟨g, 0, none⟩ x).setCell ⟨g, 1, none⟩ y).setCell ⟨g, 2, none⟩ z).setCell ⟨g, 3, none⟩ t).cell? ⟨g1, 2, none⟩ = some (.int .i64 b2) ∧ ((((W.setCell ⟨g, 0, none⟩ x).setCell ⟨g, 1, none⟩ y).setCell ⟨g, 2, none⟩ z).setCell ⟨g, 3, none⟩ t).cell? ⟨g1, 3, none⟩ = some (.int .i64 b3) ∧
    ((((W.setCell ⟨g, 0, none⟩ x).setCell ⟨g, 1, none⟩ y).setCell ⟨g, 2, none⟩ z).setCell ⟨g, 3, none⟩ t).cell? ⟨gl, 0, none⟩ = some (.int .i64 p) ∧ ((((W.setCell ⟨g, 0, none⟩ x).setCell ⟨g, 1, none⟩ y).setCell ⟨g, 2, none⟩ z).setCell ⟨g, 3, none⟩ t).cell? ⟨gl, 1, none⟩ = some (.int .i64 q) ∧ ((((W.setCell ⟨g, 0, none⟩ x).setCell ⟨g, 1, none⟩ y).setCell ⟨g, 2, none⟩ z).setCell ⟨g, 3, none⟩ t).cell? ⟨g2, 0, none⟩ = some (.int .i64 u) ∧ ((((W.setCell ⟨g, 0, none⟩ x).setCell ⟨g, 1, none⟩ y).setCell ⟨g, 2, none⟩ z).setCell ⟨g, 3, none⟩ t).cell? ⟨g2, 1, none⟩ = some (.int .i64 v) := by
  obtain ⟨h0, h1, h2, h3, h4, h5, h6, h7⟩ := h
  exact ⟨farS h0 n1, farS h1 n1, farS h2 n1, farS h3 n1, farS h4 n2, farS h5 n2, farS h6 n3, farS h7 n3⟩
set_option maxHeartbeats 4000000 in
set_option maxRecDepth 100000 in
theorem rcell_out (l r c a b x y b0 b1 b2 b3 : Int) (w : World) (KB : ∀ W, Calls Tryz.prog 48 #[.agg #[.int .i64 l, .int .i64 r, .int .i64 c]] W fun e w' => e = .returned (.agg #[.int .i64 b0, .int .i64 b1, .int .i64 b2, .int .i64 b3]) ∧ Below W.heap.size W w')
    (h0 : -5400000 ≤ b0) (h1 : b0 ≤ b1) (h2 : b1 ≤ 5400000) (a0 : -10800000 ≤ a) (a1 : a ≤ b) (a2 : b ≤ 10800000) (h : mvL b0 b1 a b = false) :
    Calls Tryz.prog 20 #[.agg #[.int .i64 l, .int .i64 r, .int .i64 c], .agg #[.int .i64 a, .int .i64 b], .agg #[.int .i64 x, .int .i64 y]] w fun e w' => e = .returned (.tuple #[.agg #[.int .i64 0, .int .i64 0, .int .i64 0, .int .i64 0], .int .i64 21]) ∧ Below w.heap.size w w' := by
  have K := Lib.hid KB
  have KAd := Lib.hid (fun W => r5Add_any b0 b1 a b W (by omega) (by omega) (by omega) (by omega) (by omega) (by omega) (by omega) (by omega))
  have KV := Lib.hid (fun W => rValidLat_any (b0 + a) (b1 + b) W (by omega))
  have hmm : decide (-5400000 ≤ b0 + a ∧ b1 + b ≤ 5400000) = false := h
  rw [hmm] at KV
  have M := Lib.hid (M4.start w l r c a b x y)
  clear KB h hmm
  go_enter Tryz.func20, Tryz.ntmps20
  go_wp2_with fail
  (with_reducible refine (K.out _).mono ?_)
  rintro e w1 ⟨rfl, hb1⟩
  have M1 := Lib.hid ((M.out.below hb1).alloc (.cells #[.int .i64 b0, .int .i64 b1, .int .i64 b2, .int .i64 b3] 48))
  have B1 := Lib.hid (D4.new w1 b0 b1 b2 b3 48)
  have zz1 := (M.out.below hb1).R.lt
  clear hb1 M
  obtain ⟨-, -, ⟨at1, ac0, ac1, af0, af1⟩, -, -⟩ := M1.out
  go_wp2_with fail
  (with_reducible refine (KAd.out _).mono ?_)
  rintro e w2 ⟨rfl, hb2⟩
  have M2 := Lib.hid ((M1.out.below hb2).alloc (.cells #[.int .i64 (b0 + a), .int .i64 (b1 + b)] 26))
  have B2 := Lib.hid ((B1.out.below hb2 B1.out.lt).alloc (.cells #[.int .i64 (b0 + a), .int .i64 (b1 + b)] 26))
  have L2 := Lib.hid (D2.new w2 (b0 + a) (b1 + b) 26)
  have zz2 : w1.heap.size < w2.heap.size := (B1.out.below hb2 B1.out.lt).lt
  clear hb2 M1 B1 at1 ac0 ac1 af0 af1
  go_wp2_with fail
  (with_reducible refine (KV.out _).mono ?_)
  rintro e w3 ⟨rfl, hb3⟩
  have M3 := Lib.hid (M2.out.below hb3)
  have B3 := Lib.hid (B2.out.below hb3 B2.out.lt)
  have L3 := Lib.hid (L2.out.below hb3 L2.out.lt)
  clear hb3 M2 B2 L2
  obtain ⟨hbl, -, -, -, ⟨rt, r0, r1, r2, r3, rf0, rf1, rf2, rf3⟩⟩ := M3.out
  have hz := hbl.size
  go_wp2
  refine bodyPost_ret (v := .tuple #[.agg #[.int .i64 0, .int .i64 0, .int .i64 0, .int .i64 0], .int .i64 21]) (by simp [results, Tryz.results20, go_sem, *]; done) rfl ⟨rfl, ?_⟩
  repeat (first | exact Below.refl _ _ | assumption | refine bl_drew ?_ | refine bl_drewN ?_ _ | refine Below.setCell ?_ (by first | assumption | omega | (simp; done) | (simp; omega)) _ | refine Below.alloc ?_ (by first | assumption | omega | (simp; done) | (simp; omega)) _)
theorem m4far {w W : World} {l r c a b x y : Int} (h : M4 w W l r c a b x y) {g : Nat} (hg : w.heap.size + 3 < g) (u v : Value) : M4 w ((W.setCell ⟨g, 0, none⟩ u).setCell ⟨g, 1, none⟩ v) l r c a b x y := by
  have hC : D3 ((W.setCell ⟨g, 0, none⟩ u).setCell ⟨g, 1, none⟩ v) w.heap.size l r c := by
    have hne : ∀ i j, (⟨g, j, none⟩ : Addr) ≠ ⟨w.heap.size, i, none⟩ := fun i j e => by
      have := congrArg Addr.block e
      simp only [] at this
      omega
    refine ⟨by simpa using h.C.lt, ?_, ?_, ?_⟩
    · rw [World.cell?_setCell_other _ _ _ _ (hne 0 1), World.cell?_setCell_other _ _ _ _ (hne 0 0)]; exact h.C.c0
    · rw [World.cell?_setCell_other _ _ _ _ (hne 1 1), World.cell?_setCell_other _ _ _ _ (hne 1 0)]; exact h.C.c1
    · rw [World.cell?_setCell_other _ _ _ _ (hne 2 1), World.cell?_setCell_other _ _ _ _ (hne 2 0)]; exact h.C.c2
  exact ⟨(h.bl.setCell (by simp only []; omega) _).setCell (by simp only []; omega) _, hC, (h.A.far (by simp only []; omega) _).far (by simp only []; omega) _, (h.X.far (by simp only []; omega) _).far (by simp only []; omega) _, (h.R.far (by simp only []; omega) _).far (by simp only []; omega) _⟩
set_option maxHeartbeats 4000000 in
set_option maxRecDepth 100000 in
theorem rcell_err (l r c a b x y b0 b1 b2 b3 u v E : Int) (w : World) (KB : ∀ W, Calls Tryz.prog 48 #[.agg #[.int .i64 l, .int .i64 r, .int .i64 c]] W fun e w' => e = .returned (.agg #[.int .i64 b0, .int .i64 b1, .int .i64 b2, .int .i64 b3]) ∧ Below W.heap.size W w')
    (h0 : -5400000 ≤ b0) (h1 : b0 ≤ b1) (h2 : b1 ≤ 5400000) (a0 : -10800000 ≤ a) (a1 : a ≤ b) (a2 : b ≤ 10800000) (h : mvL b0 b1 a b = true) (KD : ∀ W, Calls Tryz.prog 51 #[.agg #[.int .i64 (min b0 (b0 + a)), .int .i64 (max b1 (b1 + b))], .agg #[.int .i64 x, .int .i64 y]] W fun e w' => e = .returned (.tuple #[.agg #[.int .i64 u, .int .i64 v], .int .i64 E]) ∧ Below W.heap.size W w') (hE : E = 21 ∨ E = 5) :
    Calls Tryz.prog 20 #[.agg #[.int .i64 l, .int .i64 r, .int .i64 c], .agg #[.int .i64 a, .int .i64 b], .agg #[.int .i64 x, .int .i64 y]] w fun e w' => e = .returned (.tuple #[.agg #[.int .i64 0, .int .i64 0, .int .i64 0, .int .i64 0], .int .i64 E]) ∧ Below w.heap.size w w' := by
  have K := Lib.hid KB
  have KAd := Lib.hid (fun W => r5Add_any b0 b1 a b W (by omega) (by omega) (by omega) (by omega) (by omega) (by omega) (by omega) (by omega))
  have KV := Lib.hid (fun W => rValidLat_any (b0 + a) (b1 + b) W (by omega))
  have hmm : decide (-5400000 ≤ b0 + a ∧ b1 + b ≤ 5400000) = true := h
  rw [hmm] at KV
  have M := Lib.hid (M4.start w l r c a b x y)
  have KH := Lib.hid (fun W => Hull_any b0 b1 (b0 + a) (b1 + b) W)
  have KE := Lib.hid KD
  have hEn : (E == 0) = false := by rw [beq_eq_false_iff_ne]; omega
  have hEm : E ≠ 0 := by omega
  clear KB KD h hmm hE
  go_enter Tryz.func20, Tryz.ntmps20
  go_wp2_with fail
  (with_reducible refine (K.out _).mono ?_)
  rintro e w1 ⟨rfl, hb1⟩
  have M1 := Lib.hid ((M.out.below hb1).alloc (.cells #[.int .i64 b0, .int .i64 b1, .int .i64 b2, .int .i64 b3] 48))
  have B1 := Lib.hid (D4.new w1 b0 b1 b2 b3 48)
  have zz1 := (M.out.below hb1).R.lt
  clear hb1 M
  obtain ⟨-, -, ⟨at1, ac0, ac1, af0, af1⟩, -, -⟩ := M1.out
  go_wp2_with fail
  (with_reducible refine (KAd.out _).mono ?_)
  rintro e w2 ⟨rfl, hb2⟩
  have M2 := Lib.hid ((M1.out.below hb2).alloc (.cells #[.int .i64 (b0 + a), .int .i64 (b1 + b)] 26))
  have B2 := Lib.hid ((B1.out.below hb2 B1.out.lt).alloc (.cells #[.int .i64 (b0 + a), .int .i64 (b1 + b)] 26))
  have L2 := Lib.hid (D2.new w2 (b0 + a) (b1 + b) 26)
  have zz2 : w1.heap.size < w2.heap.size := (B1.out.below hb2 B1.out.lt).lt
  clear hb2 M1 B1 at1 ac0 ac1 af0 af1
  go_wp2_with fail
  (with_reducible refine (KV.out _).mono ?_)
  rintro e w3 ⟨rfl, hb3⟩
  have M3 := Lib.hid (M2.out.below hb3)
  have B3 := Lib.hid (B2.out.below hb3 B2.out.lt)
  have L3 := Lib.hid (L2.out.below hb3 L2.out.lt)
  clear hb3 M2 B2 L2
  go_upto_region 5 with (fail)
  generalize w1.heap.size = gb at *
  generalize w2.heap.size = gl at *
  go_cut [10, 11] (fun s10 s11 wy => ∃ g : Nat, s10 = .pointer (some ⟨g, 0, none⟩) ∧ s11 = .int .i64 E ∧ w3.heap.size ≤ g ∧ D2 wy g u v ∧ M4 w wy l r c a b x y ∧ D4 wy gb b0 b1 b2 b3 ∧ D2 wy gl (b0 + a) (b1 + b))
  case first =>
    obtain ⟨lt1, lc0, lc1, lf0, lf1⟩ := L3.out
    obtain ⟨bt1, bc0, bc1, bc2, bc3, bf0, bf1, bf2, bf3⟩ := B3.out
    obtain ⟨xt1, xc0, xc1, xf0, xf1⟩ := M3.out.X
    have Y3 : Below w3.heap.size w3 w3.drew := bl_drew (Below.refl _ _)
    go_region_held3 (fun w' => w'.cell? ⟨gb, 0, none⟩ = some (.int .i64 b0) ∧ w'.cell? ⟨gb, 1, none⟩ = some (.int .i64 b1) ∧ w'.cell? ⟨gl, 0, none⟩ = some (.int .i64 (b0 + a)) ∧ w'.cell? ⟨gl, 1, none⟩ = some (.int .i64 (b1 + b)) ∧ w'.cell? ⟨w.heap.size + 2, 0, none⟩ = some (.int .i64 x) ∧ w'.cell? ⟨w.heap.size + 2, 1, none⟩ = some (.int .i64 y) ∧ Below w3.heap.size w3 w')
      (exact mvS3 B3.out L3.out M3.out.X (by repeat (first | exact Below.refl _ _ | assumption | refine bl_drew ?_ | refine bl_drewN ?_ _ | refine Below.setCell ?_ (by first | assumption | omega | (simp; done) | (simp; omega)) _ | refine Below.alloc ?_ (by first | assumption | omega | (simp; done) | (simp; omega)) _))) (first
      | (go_at_call 11; (with_reducible refine (KH.out _).mono ?_); rintro e w9 ⟨rfl, hb9⟩; have Z9 := (show Below w3.heap.size w3 _ by repeat (first | exact Below.refl _ _ | assumption | refine bl_drew ?_ | refine bl_drewN ?_ _ | refine Below.setCell ?_ (by first | assumption | omega | (simp; done) | (simp; omega)) _ | refine Below.alloc ?_ (by first | assumption | omega | (simp; done) | (simp; omega)) _)).trans (hb9.mono (by first | exact Nat.le_refl _ | (simp; done) | (simp; omega) | omega)); have z9 := Z9.size; obtain ⟨xt2, xd0, xd1, xe0, xe1⟩ := (M3.out.below Z9).X; (first | (have NN := Lib.hid ((D2.new w3 0 0 26).drew.below hb9 (by simp)); have nn := NN.out; (try simp only [World.size_alloc, World.size_drew] at nn); obtain ⟨nt, n0, n1, nf0, nf1⟩ := nn) | (have NN := Lib.hid ((D2.new _ 0 0 26).below hb9 (by simp)); have nn := NN.out; (try simp only [World.size_alloc, World.size_drew] at nn); obtain ⟨nt, n0, n1, nf0, nf1⟩ := nn) | (have NN := Lib.hid (NN.out.below hb9 NN.out.lt); have nn := NN.out; (try simp only [World.size_alloc, World.size_drew] at nn); obtain ⟨nt, n0, n1, nf0, nf1⟩ := nn) | skip))
      | (go_at_call 51; (with_reducible refine (KE.out _).mono ?_); rintro e w9 ⟨rfl, hb9⟩; have Z9 := (show Below w3.heap.size w3 _ by repeat (first | exact Below.refl _ _ | assumption | refine bl_drew ?_ | refine bl_drewN ?_ _ | refine Below.setCell ?_ (by first | assumption | omega | (simp; done) | (simp; omega)) _ | refine Below.alloc ?_ (by first | assumption | omega | (simp; done) | (simp; omega)) _)).trans (hb9.mono (by first | exact Nat.le_refl _ | (simp; done) | (simp; omega) | omega)); have z9 := Z9.size; (first | (have NN := Lib.hid ((D2.new w3 0 0 26).drew.below hb9 (by simp)); have nn := NN.out; (try simp only [World.size_alloc, World.size_drew] at nn); obtain ⟨nt, n0, n1, nf0, nf1⟩ := nn) | (have NN := Lib.hid ((D2.new _ 0 0 26).below hb9 (by simp)); have nn := NN.out; (try simp only [World.size_alloc, World.size_drew] at nn); obtain ⟨nt, n0, n1, nf0, nf1⟩ := nn) | (have NN := Lib.hid (NN.out.below hb9 NN.out.lt); have nn := NN.out; (try simp only [World.size_alloc, World.size_drew] at nn); obtain ⟨nt, n0, n1, nf0, nf1⟩ := nn) | skip))
      | fail)
    all_goals
      try go_wp2_with fail
      go_meet
      case rel =>
        have hM := M3.out.below Z9
        have hz3 := M3.out.R.lt
        have hB := B3.out.below Z9 B3.out.lt
        have hL := L3.out.below Z9 L3.out.lt
        first
          | exact ⟨_, rfl, rfl, (by first | omega | (simp only []; omega)), D2.new _ u v _, hM.alloc _, hB.alloc _, hL.alloc _⟩
          | exact ⟨_, rfl, rfl, (by first | omega | (simp only []; omega)), (NN.out.set0 u).set1 v, m4far hM (by first | omega | (simp only []; omega)) _ _, (hB.far (by first | omega | (simp only []; omega)) _).far (by first | omega | (simp only []; omega)) _, (hL.far (by first | omega | (simp only []; omega)) _).far (by first | omega | (simp only []; omega)) _⟩
          | fail
  case rest =>
    obtain ⟨g, rfl, rfl, hg, hU, hM, hB, hL⟩ := hcut
    rename World => w4
    obtain ⟨hbl, -, -, -, ⟨rt, r0, r1, r2, r3, rf0, rf1, rf2, rf3⟩⟩ := hM
    have hz := hbl.size
    clear hU hB hL M3 B3 L3
    go_wp2
    refine bodyPost_ret (v := .tuple #[.agg #[.int .i64 0, .int .i64 0, .int .i64 0, .int .i64 0], .int .i64 E]) (by simp [results, Tryz.results20, go_sem, *]; done) rfl ⟨rfl, ?_⟩
    repeat (first | exact Below.refl _ _ | assumption | refine bl_drew ?_ | refine bl_drewN ?_ _ | refine Below.setCell ?_ (by first | assumption | omega | (simp; done) | (simp; omega)) _ | refine Below.alloc ?_ (by first | assumption | omega | (simp; done) | (simp; omega)) _)
set_option maxHeartbeats 4000000 in
set_option maxRecDepth 100000 in
theorem rcell_yes (l r c a b x y b0 b1 b2 b3 u v : Int) (w : World) (KB : ∀ W, Calls Tryz.prog 48 #[.agg #[.int .i64 l, .int .i64 r, .int .i64 c]] W fun e w' => e = .returned (.agg #[.int .i64 b0, .int .i64 b1, .int .i64 b2, .int .i64 b3]) ∧ Below W.heap.size W w')
    (h0 : -5400000 ≤ b0) (h1 : b0 ≤ b1) (h2 : b1 ≤ 5400000) (a0 : -10800000 ≤ a) (a1 : a ≤ b) (a2 : b ≤ 10800000) (h3 : -10800000 ≤ b2) (h4 : b2 ≤ b3) (h5 : b3 ≤ 10800000) (h : mvL b0 b1 a b = true) (KD : ∀ W, Calls Tryz.prog 51 #[.agg #[.int .i64 (min b0 (b0 + a)), .int .i64 (max b1 (b1 + b))], .agg #[.int .i64 x, .int .i64 y]] W fun e w' => e = .returned (.tuple #[.agg #[.int .i64 u, .int .i64 v], .int .i64 0]) ∧ Below W.heap.size W w') (u0 : -1099511627776 ≤ u) (u1 : u ≤ 1099511627776) (v0 : -1099511627776 ≤ v) (v1 : v ≤ 1099511627776) :
    Calls Tryz.prog 20 #[.agg #[.int .i64 l, .int .i64 r, .int .i64 c], .agg #[.int .i64 a, .int .i64 b], .agg #[.int .i64 x, .int .i64 y]] w fun e w' => e = .returned (.tuple #[.agg #[.int .i64 (b0 + a), .int .i64 (b1 + b), .int .i64 (lonA (b2 + u) (b3 + v)), .int .i64 (lonB (b2 + u) (b3 + v))], .int .i64 0]) ∧ Below w.heap.size w w' := by
  have K := Lib.hid KB
  have KAd := Lib.hid (fun W => r5Add_any b0 b1 a b W (by omega) (by omega) (by omega) (by omega) (by omega) (by omega) (by omega) (by omega))
  have KV := Lib.hid (fun W => rValidLat_any (b0 + a) (b1 + b) W (by omega))
  have hmm : decide (-5400000 ≤ b0 + a ∧ b1 + b ≤ 5400000) = true := h
  rw [hmm] at KV
  have M := Lib.hid (M4.start w l r c a b x y)
  have KH := Lib.hid (fun W => Hull_any b0 b1 (b0 + a) (b1 + b) W)
  have KE := Lib.hid KD
  have KA2 := Lib.hid (fun W => r5Add_any b2 b3 u v W (by omega) (by omega) (by omega) (by omega) (by omega) (by omega) (by omega) (by omega))
  have KM := Lib.hid (fun W => rLongitudes_any (b2 + u) (b3 + v) W (by omega) (by omega) (by omega) (by omega))
  clear KB KD h hmm
  generalize lonA (b2 + u) (b3 + v) = s at *
  generalize lonB (b2 + u) (b3 + v) = t at *
  go_enter Tryz.func20, Tryz.ntmps20
  go_wp2_with fail
  (with_reducible refine (K.out _).mono ?_)
  rintro e w1 ⟨rfl, hb1⟩
  have M1 := Lib.hid ((M.out.below hb1).alloc (.cells #[.int .i64 b0, .int .i64 b1, .int .i64 b2, .int .i64 b3] 48))
  have B1 := Lib.hid (D4.new w1 b0 b1 b2 b3 48)
  have zz1 := (M.out.below hb1).R.lt
  clear hb1 M
  obtain ⟨-, -, ⟨at1, ac0, ac1, af0, af1⟩, -, -⟩ := M1.out
  go_wp2_with fail
  (with_reducible refine (KAd.out _).mono ?_)
  rintro e w2 ⟨rfl, hb2⟩
  have M2 := Lib.hid ((M1.out.below hb2).alloc (.cells #[.int .i64 (b0 + a), .int .i64 (b1 + b)] 26))
  have B2 := Lib.hid ((B1.out.below hb2 B1.out.lt).alloc (.cells #[.int .i64 (b0 + a), .int .i64 (b1 + b)] 26))
  have L2 := Lib.hid (D2.new w2 (b0 + a) (b1 + b) 26)
  have zz2 : w1.heap.size < w2.heap.size := (B1.out.below hb2 B1.out.lt).lt
  clear hb2 M1 B1 at1 ac0 ac1 af0 af1
  go_wp2_with fail
  (with_reducible refine (KV.out _).mono ?_)
  rintro e w3 ⟨rfl, hb3⟩
  have M3 := Lib.hid (M2.out.below hb3)
  have B3 := Lib.hid (B2.out.below hb3 B2.out.lt)
  have L3 := Lib.hid (L2.out.below hb3 L2.out.lt)
  clear hb3 M2 B2 L2
  go_upto_region 5 with (fail)
  generalize w1.heap.size = gb at *
  generalize w2.heap.size = gl at *
  go_cut [10, 11] (fun s10 s11 wy => ∃ g : Nat, s10 = .pointer (some ⟨g, 0, none⟩) ∧ s11 = .int .i64 0 ∧ w3.heap.size ≤ g ∧ D2 wy g u v ∧ M4 w wy l r c a b x y ∧ D4 wy gb b0 b1 b2 b3 ∧ D2 wy gl (b0 + a) (b1 + b))
  case first =>
    obtain ⟨lt1, lc0, lc1, lf0, lf1⟩ := L3.out
    obtain ⟨bt1, bc0, bc1, bc2, bc3, bf0, bf1, bf2, bf3⟩ := B3.out
    obtain ⟨xt1, xc0, xc1, xf0, xf1⟩ := M3.out.X
    have Y3 : Below w3.heap.size w3 w3.drew := bl_drew (Below.refl _ _)
    go_region_held3 (fun w' => w'.cell? ⟨gb, 0, none⟩ = some (.int .i64 b0) ∧ w'.cell? ⟨gb, 1, none⟩ = some (.int .i64 b1) ∧ w'.cell? ⟨gl, 0, none⟩ = some (.int .i64 (b0 + a)) ∧ w'.cell? ⟨gl, 1, none⟩ = some (.int .i64 (b1 + b)) ∧ w'.cell? ⟨w.heap.size + 2, 0, none⟩ = some (.int .i64 x) ∧ w'.cell? ⟨w.heap.size + 2, 1, none⟩ = some (.int .i64 y) ∧ Below w3.heap.size w3 w')
      (exact mvS3 B3.out L3.out M3.out.X (by repeat (first | exact Below.refl _ _ | assumption | refine bl_drew ?_ | refine bl_drewN ?_ _ | refine Below.setCell ?_ (by first | assumption | omega | (simp; done) | (simp; omega)) _ | refine Below.alloc ?_ (by first | assumption | omega | (simp; done) | (simp; omega)) _))) (first
      | (go_at_call 11; (with_reducible refine (KH.out _).mono ?_); rintro e w9 ⟨rfl, hb9⟩; have Z9 := (show Below w3.heap.size w3 _ by repeat (first | exact Below.refl _ _ | assumption | refine bl_drew ?_ | refine bl_drewN ?_ _ | refine Below.setCell ?_ (by first | assumption | omega | (simp; done) | (simp; omega)) _ | refine Below.alloc ?_ (by first | assumption | omega | (simp; done) | (simp; omega)) _)).trans (hb9.mono (by first | exact Nat.le_refl _ | (simp; done) | (simp; omega) | omega)); have z9 := Z9.size; obtain ⟨xt2, xd0, xd1, xe0, xe1⟩ := (M3.out.below Z9).X; (first | (have NN := Lib.hid ((D2.new w3 0 0 26).drew.below hb9 (by simp)); have nn := NN.out; (try simp only [World.size_alloc, World.size_drew] at nn); obtain ⟨nt, n0, n1, nf0, nf1⟩ := nn) | (have NN := Lib.hid ((D2.new _ 0 0 26).below hb9 (by simp)); have nn := NN.out; (try simp only [World.size_alloc, World.size_drew] at nn); obtain ⟨nt, n0, n1, nf0, nf1⟩ := nn) | (have NN := Lib.hid (NN.out.below hb9 NN.out.lt); have nn := NN.out; (try simp only [World.size_alloc, World.size_drew] at nn); obtain ⟨nt, n0, n1, nf0, nf1⟩ := nn) | skip))
      | (go_at_call 51; (with_reducible refine (KE.out _).mono ?_); rintro e w9 ⟨rfl, hb9⟩; have Z9 := (show Below w3.heap.size w3 _ by repeat (first | exact Below.refl _ _ | assumption | refine bl_drew ?_ | refine bl_drewN ?_ _ | refine Below.setCell ?_ (by first | assumption | omega | (simp; done) | (simp; omega)) _ | refine Below.alloc ?_ (by first | assumption | omega | (simp; done) | (simp; omega)) _)).trans (hb9.mono (by first | exact Nat.le_refl _ | (simp; done) | (simp; omega) | omega)); have z9 := Z9.size; (first | (have NN := Lib.hid ((D2.new w3 0 0 26).drew.below hb9 (by simp)); have nn := NN.out; (try simp only [World.size_alloc, World.size_drew] at nn); obtain ⟨nt, n0, n1, nf0, nf1⟩ := nn) | (have NN := Lib.hid ((D2.new _ 0 0 26).below hb9 (by simp)); have nn := NN.out; (try simp only [World.size_alloc, World.size_drew] at nn); obtain ⟨nt, n0, n1, nf0, nf1⟩ := nn) | (have NN := Lib.hid (NN.out.below hb9 NN.out.lt); have nn := NN.out; (try simp only [World.size_alloc, World.size_drew] at nn); obtain ⟨nt, n0, n1, nf0, nf1⟩ := nn) | skip))
      | fail)
    all_goals
      try go_wp2_with fail
      go_meet
      case rel =>
        have hM := M3.out.below Z9
        have hz3 := M3.out.R.lt
        have hB := B3.out.below Z9 B3.out.lt
        have hL := L3.out.below Z9 L3.out.lt
        first
          | exact ⟨_, rfl, rfl, (by first | omega | (simp only []; omega)), D2.new _ u v _, hM.alloc _, hB.alloc _, hL.alloc _⟩
          | exact ⟨_, rfl, rfl, (by first | omega | (simp only []; omega)), (NN.out.set0 u).set1 v, m4far hM (by first | omega | (simp only []; omega)) _ _, (hB.far (by first | omega | (simp only []; omega)) _).far (by first | omega | (simp only []; omega)) _, (hL.far (by first | omega | (simp only []; omega)) _).far (by first | omega | (simp only []; omega)) _⟩
          | fail
  case rest =>
    obtain ⟨g, rfl, rfl, hg, hU, hM, hB, hL⟩ := hcut
    rename World => w4
    have HM := Lib.hid hM
    have HB := Lib.hid hB
    have HL := Lib.hid hL
    have HU := Lib.hid hU
    have n1 : w.heap.size + 1 + 1 + 1 ≠ gb := by omega
    have n2 : w.heap.size + 1 + 1 + 1 ≠ gl := by omega
    have n3 : w.heap.size + 1 + 1 + 1 ≠ g := by have := M3.out.R.lt; omega
    clear M3 B3 L3
    go_upto_region 8 with (fail)
    have Y3 : Below w4.heap.size w4 w4.drew := bl_drew (Below.refl _ _)
    obtain ⟨-, -, -, -, ⟨rt, r0, r1, r2, r3, rf0, rf1, rf2, rf3⟩⟩ := hM
    obtain ⟨bt1, bc0, bc1, bc2, bc3, bf0, bf1, bf2, bf3⟩ := hB
    obtain ⟨lt1, lc0, lc1, lf0, lf1⟩ := hL
    obtain ⟨ut1, uc0, uc1, uf0, uf1⟩ := hU
    go_region_held3 (fun w' => w'.cell? ⟨gb, 0, none⟩ = some (.int .i64 b0) ∧ w'.cell? ⟨gb, 1, none⟩ = some (.int .i64 b1) ∧ w'.cell? ⟨gb, 2, none⟩ = some (.int .i64 b2) ∧ w'.cell? ⟨gb, 3, none⟩ = some (.int .i64 b3) ∧ w'.cell? ⟨gl, 0, none⟩ = some (.int .i64 (b0 + a)) ∧ w'.cell? ⟨gl, 1, none⟩ = some (.int .i64 (b1 + b)) ∧ w'.cell? ⟨g, 0, none⟩ = some (.int .i64 u) ∧ w'.cell? ⟨g, 1, none⟩ = some (.int .i64 v))
      (first | with_reducible exact mvS2 HB.out HL.out HU.out Z9 | with_reducible exact mvFar2 (mvS2 HB.out HL.out HU.out Z9) n1 n2 n3 | with_reducible exact mvS2 HB.out HL.out HU.out Y3)
      (first
      | (go_at_call 49; (with_reducible refine (KA2.out _).mono ?_); rintro e w9 ⟨rfl, hb9⟩; have Z9 := (show Below w4.heap.size w4 _ by repeat (first | exact Below.refl _ _ | assumption | refine bl_drew ?_ | refine bl_drewN ?_ _ | refine Below.setCell ?_ (by first | assumption | omega | (simp; done) | (simp; omega)) _ | refine Below.alloc ?_ (by first | assumption | omega | (simp; done) | (simp; omega)) _)).trans (hb9.mono (by first | exact Nat.le_refl _ | (simp; done) | (simp; omega) | omega)); have z9 := Z9.size; obtain ⟨lt2, ld0, ld1, le0, le1⟩ := HL.out.below Z9 HL.out.lt)
      | (go_at_call 14; (with_reducible refine (KM.out _).mono ?_); rintro e w9 ⟨rfl, hb9⟩; have Z9 := (show Below w4.heap.size w4 _ by repeat (first | exact Below.refl _ _ | assumption | refine bl_drew ?_ | refine bl_drewN ?_ _ | refine Below.setCell ?_ (by first | assumption | omega | (simp; done) | (simp; omega)) _ | refine Below.alloc ?_ (by first | assumption | omega | (simp; done) | (simp; omega)) _)).trans (hb9.mono (by first | exact Nat.le_refl _ | (simp; done) | (simp; omega) | omega)); have z9 := Z9.size; have M9 := Lib.hid (HM.out.below Z9); obtain ⟨yt, y0, y1, y2, y3, yf0, yf1, yf2, yf3⟩ := M9.out.R; obtain ⟨lt2, ld0, ld1, le0, le1⟩ := HL.out.below Z9 HL.out.lt)
      | fail)
    all_goals
      go_wp2
      refine bodyPost_ret (v := .tuple #[.agg #[.int .i64 (b0 + a), .int .i64 (b1 + b), .int .i64 s, .int .i64 t], .int .i64 0]) (by simp [results, Tryz.results20, go_sem, *]; done) rfl ⟨rfl, ?_⟩
      have hbl := M9.out.bl
      have hz := hbl.size
      repeat (first | exact Below.refl _ _ | assumption | refine bl_drew ?_ | refine bl_drewN ?_ _ | refine Below.setCell ?_ (by first | assumption | omega | (simp; done) | (simp; omega)) _ | refine Below.alloc ?_ (by first | assumption | omega | (simp; done) | (simp; omega)) _)
end Go.Proofs.YtleigbbgilcckaaGreat
namespace Go.Proofs.YtleigbbgilcckaaGreat
open Go.RowKit
theorem validLat_yes (x y : Int) (w : World) (h1 : x ≤ y) (h2 : -5400000 ≤ x) (h3 : y ≤ 5400000) : Calls Tryz.prog 96 #[.agg #[.int .i64 x, .int .i64 y]] w fun e w' => e = .returned (.bool true) ∧ Below w.heap.size w w' := by
  have d3 : decide (y ≤ 5400000) = true := decide_eq_true h3
  go_enter Tryz.func96, Tryz.ntmps96
  go_wp2
  all_goals
    go_ret
    refine ⟨ret_bool (by first | rfl | (simp_all; done) | (simp_all; omega)), ?_⟩
    repeat (first | exact Below.refl _ _ | assumption | refine bl_drew ?_ | refine bl_drewN ?_ _ | refine Below.setCell ?_ (by first | assumption | omega | (simp; done) | (simp; omega)) _ | refine Below.alloc ?_ (by first | assumption | omega | (simp; done) | (simp; omega)) _)
set_option maxHeartbeats 400000 in
theorem validLon_yes (x y : Int) (w : World) (h1 : x ≤ y) (h2 : -10800000 ≤ x) (h3 : x < 10800000) (h4 : y - x < 21600000) : Calls Tryz.prog 97 #[.agg #[.int .i64 x, .int .i64 y]] w fun e w' => e = .returned (.bool true) ∧ Below w.heap.size w w' := by
  have ha : aeq x y (-10800000) 10800000 = false := by simp [aeq]; omega
  have K := Lib.hid (fun W => all_any x y W)
  rw [ha] at K
  have sy : IntKind.i64.wrap (y - x) = y - x := IntWalk.i64_in _ (by omega)
  clear ha
  go_enter Tryz.func97, Tryz.ntmps97
  go_wp2_with (go_at_call 98; (with_reducible refine (K.out _).mono ?_); rintro e w1 ⟨rfl, hb⟩; have hz := one_lt hb; have hb1 := one_bl hb; have y1 := (hb.cell (p := ⟨w.heap.size, 0, none⟩) (by simp)).trans (show _ = some (.int .i64 x) by simp); have y2 := (hb.cell (p := ⟨w.heap.size, 1, none⟩) (by simp)).trans (show _ = some (.int .i64 y) by simp))
  all_goals
    go_ret
    exact ⟨ret_bool (by first | rfl | (simp_all; done) | (simp_all; omega)), hb1⟩
/-- the numbers of a box -/
structure BoxOk (b0 b1 b2 b3 : Int) : Prop where
  l1 : b0 ≤ b1
  l2 : -5400000 ≤ b0
  l3 : b1 ≤ 5400000
  o1 : b2 ≤ b3
  o2 : -10800000 ≤ b2
  o3 : b2 < 10800000
  o4 : b3 - b2 < 21600000
set_option maxHeartbeats 400000 in
theorem placeValid_yes (b0 b1 b2 b3 : Int) (w : World) (hb : BoxOk b0 b1 b2 b3) : Calls Tryz.prog 60 #[.agg #[.int .i64 b0, .int .i64 b1, .int .i64 b2, .int .i64 b3]] w fun e w' => e = .returned (.bool true) ∧ Below w.heap.size w w' := by
  have K1 := Lib.hid (fun W => validLat_yes b0 b1 W hb.l1 hb.l2 hb.l3)
  have K2 := Lib.hid (fun W => validLon_yes b2 b3 W hb.o1 hb.o2 hb.o3 hb.o4)
  clear hb
  go_enter Tryz.func60, Tryz.ntmps60
  go_wp2_with (first | (go_at_call 96; (with_reducible refine (K1.out _).mono ?_); rintro e w1 ⟨rfl, hb⟩; have hz := one_lt hb; have hb1 := one_bl hb; have y1 := (hb.cell (p := ⟨w.heap.size, 2, none⟩) (by simp)).trans (show _ = some (.int .i64 b2) by simp); have y2 := (hb.cell (p := ⟨w.heap.size, 3, none⟩) (by simp)).trans (show _ = some (.int .i64 b3) by simp)) | (go_at_call 97; (with_reducible refine (K2.out _).mono ?_); rintro e w2 ⟨rfl, hb2⟩))
  go_ret
  exact ⟨rfl, hb1.trans (hb2.mono hb1.size)⟩
/-- whether a point is in a box -/
def inBox (b0 b1 b2 b3 a b : Int) : Bool := decide (b0 ≤ a ∧ a ≤ b1) && (decide (a = 5400000) || decide (a = -5400000) || lonIn b2 b3 b)
set_option maxHeartbeats 1000000 in
theorem placeContains_any (b0 b1 b2 b3 a b : Int) (w : World) (hb : BoxOk b0 b1 b2 b3) (hp : vptB a b = true) :
    Calls Tryz.prog 25 #[.agg #[.int .i64 b0, .int .i64 b1, .int .i64 b2, .int .i64 b3], .agg #[.int .i64 a, .int .i64 b]] w fun e w' => e = .returned (.tuple #[.bool (inBox b0 b1 b2 b3 a b), .int .i64 0]) ∧ Below w.heap.size w w' := by
  have K1 := Lib.hid (fun W => placeValid_yes b0 b1 b2 b3 W hb)
  have K2 := Lib.hid (vpt_yes a b hp)
  obtain ⟨p1, p2, p3, p4⟩ := vptB_true.1 hp
  have q1 := hb.o1
  have q2 := hb.o2
  have q3 := hb.o3
  have q4 := hb.o4
  have K3 := Lib.hid (fun W => has_place b2 b3 b W (by omega) (by omega) (by omega) (by omega) q1 q4)
  clear q1 q2 q3 q4 hb hp
  obtain ⟨R, hR⟩ : ∃ R, R = inBox b0 b1 b2 b3 a b := ⟨_, rfl⟩
  rw [← hR]
  have HR := Lib.hid hR
  clear hR
  go_enter Tryz.func25, Tryz.ntmps25
  go_wp2_with fail
  (with_reducible refine (K1.out _).mono ?_)
  rintro e w1 ⟨rfl, hb1⟩
  have hb1' := two_bl hb1
  have hz1 := two_lt hb1
  have x0 := (hb1.cell (p := ⟨w.heap.size, 0, none⟩) (by simp; omega)).trans (show _ = some (.int .i64 b0) by simp)
  have x1 := (hb1.cell (p := ⟨w.heap.size, 1, none⟩) (by simp; omega)).trans (show _ = some (.int .i64 b1) by simp)
  have x2 := (hb1.cell (p := ⟨w.heap.size, 2, none⟩) (by simp; omega)).trans (show _ = some (.int .i64 b2) by simp)
  have x3 := (hb1.cell (p := ⟨w.heap.size, 3, none⟩) (by simp; omega)).trans (show _ = some (.int .i64 b3) by simp)
  have y0 := (hb1.cell (p := ⟨w.heap.size + 1, 0, none⟩) (by simp)).trans (show _ = some (.int .i64 a) by simp)
  have y1 := (hb1.cell (p := ⟨w.heap.size + 1, 1, none⟩) (by simp)).trans (show _ = some (.int .i64 b) by simp)
  clear hb1
  go_wp2_with fail
  (with_reducible refine (K2.out _).mono ?_)
  rintro e w2 ⟨rfl, hb2⟩
  have hb2' := hb1'.trans (hb2.mono hb1'.size)
  have x0 := (hb2.cell (p := ⟨w.heap.size, 0, none⟩) hz1.1).trans x0
  have x1 := (hb2.cell (p := ⟨w.heap.size, 1, none⟩) hz1.1).trans x1
  have x2 := (hb2.cell (p := ⟨w.heap.size, 2, none⟩) hz1.1).trans x2
  have x3 := (hb2.cell (p := ⟨w.heap.size, 3, none⟩) hz1.1).trans x3
  have y0 := (hb2.cell (p := ⟨w.heap.size + 1, 0, none⟩) hz1.2).trans y0
  have y1 := (hb2.cell (p := ⟨w.heap.size + 1, 1, none⟩) hz1.2).trans y1
  clear hb2 hb1' K1 K2
  by_cases h0 : a < b0
  · have hE : Hid (R = false) := Lib.hid (by rw [HR.out]; simp [inBox]; omega)
    go_wp2
    go_ret2
    exact ⟨by rw [hE.out]; rfl, hb2'⟩
  · have d0 : decide (a < b0) = false := decide_eq_false h0
    by_cases h1 : b1 < a
    · have hE : Hid (R = false) := Lib.hid (by rw [HR.out]; simp [inBox]; omega)
      go_wp2
      go_ret2
      exact ⟨by rw [hE.out]; rfl, hb2'⟩
    · have d1 : decide (b1 < a) = false := decide_eq_false h1
      have hin : decide (b0 ≤ a ∧ a ≤ b1) = true := decide_eq_true (by omega)
      by_cases h2 : a = 5400000
      · have hE : Hid (R = true) := Lib.hid (by rw [HR.out, inBox, hin]; simp [h2])
        subst h2
        clear hin
        go_wp2
        go_ret2
        exact ⟨by rw [hE.out]; rfl, hb2'⟩
      · have e2 : (a == 5400000) = false := by simp [h2]
        by_cases h3 : a = -5400000
        · have hE : Hid (R = true) := Lib.hid (by rw [HR.out, inBox, hin]; simp [h3])
          subst h3
          clear hin
          go_wp2
          go_ret2
          exact ⟨by rw [hE.out]; rfl, hb2'⟩
        · have e3 : (a == -5400000) = false := by simp [h3]
          have hE : Hid (R = lonIn b2 b3 b) := Lib.hid (by rw [HR.out, inBox, hin]; simp [h2, h3])
          generalize lonIn b2 b3 b = z at K3 hE
          clear hin
          go_wp2_with (go_at_call 61; (with_reducible refine (K3.out _).mono ?_); rintro e w3 ⟨rfl, hb3⟩)
          go_ret2
          exact ⟨by rw [hE.out]; rfl, hb2'.trans (hb3.mono hb2'.size)⟩
end Go.Proofs.YtleigbbgilcckaaGreat
