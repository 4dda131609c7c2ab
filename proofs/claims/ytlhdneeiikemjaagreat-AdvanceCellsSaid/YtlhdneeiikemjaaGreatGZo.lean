/- The walk of AdvanceCells. -/
import Derived.Test.YtlhdneeiikemjaaGreatGZk
import Derived.Test.YtlhdneeiikemjaaGreatGZg
import Derived.Test.YtlhdneeiikemjaaGreatGEq
set_option linter.unusedVariables false
set_option linter.unusedSimpArgs false
/- The walk of law47's awake. -/
namespace Go.Proofs.YtlhdneeiikemjaaGreat
open Go.RowKit
theorem D4.drew {W : World} {g : Nat} {a b c d : Int} (h : D4 W g a b c d) : D4 W.drew g a b c d := ⟨h.lt, h.c0, h.c1, h.c2, h.c3, h.f0, h.f1, h.f2, h.f3⟩
theorem D4.set0 {W : World} {g : Nat} {a b c d : Int} (h : D4 W g a b c d) (v : Int) : D4 (W.setCell ⟨g, 0, none⟩ (.int .i64 v)) g v b c d := by
  refine ⟨by simpa using h.lt, World.cell?_setCell_same _ _ _ h.c0, ?_, ?_, ?_, by simpa using h.f0, by simpa using h.f1, by simpa using h.f2, by simpa using h.f3⟩
  all_goals rw [World.cell?_setCell_other _ _ _ _ (by simp)]
  · exact h.c1
  · exact h.c2
  · exact h.c3
theorem D4.set1 {W : World} {g : Nat} {a b c d : Int} (h : D4 W g a b c d) (v : Int) : D4 (W.setCell ⟨g, 1, none⟩ (.int .i64 v)) g a v c d := by
  refine ⟨by simpa using h.lt, ?_, World.cell?_setCell_same _ _ _ h.c1, ?_, ?_, by simpa using h.f0, by simpa using h.f1, by simpa using h.f2, by simpa using h.f3⟩
  all_goals rw [World.cell?_setCell_other _ _ _ _ (by simp)]
  · exact h.c0
  · exact h.c2
  · exact h.c3
theorem D4.set2 {W : World} {g : Nat} {a b c d : Int} (h : D4 W g a b c d) (v : Int) : D4 (W.setCell ⟨g, 2, none⟩ (.int .i64 v)) g a b v d := by
  refine ⟨by simpa using h.lt, ?_, ?_, World.cell?_setCell_same _ _ _ h.c2, ?_, by simpa using h.f0, by simpa using h.f1, by simpa using h.f2, by simpa using h.f3⟩
  all_goals rw [World.cell?_setCell_other _ _ _ _ (by simp)]
  · exact h.c0
  · exact h.c1
  · exact h.c3
theorem D4.set3 {W : World} {g : Nat} {a b c d : Int} (h : D4 W g a b c d) (v : Int) : D4 (W.setCell ⟨g, 3, none⟩ (.int .i64 v)) g a b c v := by
  refine ⟨by simpa using h.lt, ?_, ?_, ?_, World.cell?_setCell_same _ _ _ h.c3, by simpa using h.f0, by simpa using h.f1, by simpa using h.f2, by simpa using h.f3⟩
  all_goals rw [World.cell?_setCell_other _ _ _ _ (by simp)]
  · exact h.c0
  · exact h.c1
  · exact h.c2
theorem D4.put {W : World} {g : Nat} {a b c d : Int} (h : D4 W g a b c d) (x y z t : Int) : D4 ((((W.setCell ⟨g, 0, none⟩ (.int .i64 x)).setCell ⟨g, 1, none⟩ (.int .i64 y)).setCell ⟨g, 2, none⟩ (.int .i64 z)).setCell ⟨g, 3, none⟩ (.int .i64 t)) g x y z t :=
  (((h.set0 x).set1 y).set2 z).set3 t
theorem awS {w3 W : World} {g : Nat} (h : D3 w3 g 8 128 256) (hb : Below w3.heap.size w3 W) : W.cell? ⟨g, 0, none⟩ = some (.int .i64 8) ∧ W.cell? ⟨g, 1, none⟩ = some (.int .i64 128) ∧ W.cell? ⟨g, 2, none⟩ = some (.int .i64 256) ∧ Below w3.heap.size w3 W :=
  ⟨(hb.cell (p := ⟨g, 0, none⟩) h.lt).trans h.c0, (hb.cell (p := ⟨g, 1, none⟩) h.lt).trans h.c1, (hb.cell (p := ⟨g, 2, none⟩) h.lt).trans h.c2, hb⟩
set_option maxHeartbeats 4000000 in
set_option maxRecDepth 100000 in
theorem awake47 (w : World) : Calls Tryz.prog 18 #[] w fun e w' => e = .returned (.bool true) ∧ Below w.heap.size w w' := by
  have KB := Lib.hid BoxEx
  have KC := Lib.hid aCell_ex
  have KP := Lib.hid point_any
  have KX := Lib.hid aCircle_ex
  have hq := eqlArc
  have k1 : aeq 60000 102187 60000 102187 = true := by decide
  have k2 : aeq 0 42187 0 42187 = true := by decide
  have k3 : aeq 3595000 3605000 3595000 3605000 = true := by decide
  have C0 := Lib.hid (D3.new w 8 128 256 39)
  have b0 : Below w.heap.size w (w.alloc (.cells #[.int .i64 8, .int .i64 128, .int .i64 256] 39)) := bl_alloc w _
  go_enter Tryz.func18, Tryz.ntmps18
  go_wp2_with fail
  (with_reducible refine (KB.out _).mono ?_)
  rintro e w1 ⟨rfl, hb1⟩
  have C1 := Lib.hid ((C0.out.below hb1 C0.out.lt).alloc (.cells #[.int .i64 0, .int .i64 42187, .int .i64 0, .int .i64 42187] 48))
  have B1 := Lib.hid (D4.new w1 0 42187 0 42187 48)
  have b1 := b0.trans (hb1.mono b0.size)
  have b1' := Lib.hid (b1.alloc b1.size (.cells #[.int .i64 0, .int .i64 42187, .int .i64 0, .int .i64 42187] 48))
  clear b0 C0 hb1
  go_upto_region 3 with (fail)
  generalize w1.alloc (.cells #[.int .i64 0, .int .i64 42187, .int .i64 0, .int .i64 42187] 48) = w3 at *
  have zg := b1.size
  generalize w1.heap.size = g2 at *
  clear b1
  go_cut [4, 5] (fun s4 s5 wy => ∃ q : Nat, s4 = .pointer (some ⟨q, 0, none⟩) ∧ s5 = .int .i64 0 ∧ D4 wy q 60000 102187 0 42187 ∧ D4 wy g2 0 42187 0 42187 ∧ Below w.heap.size w wy)
  case first =>
    obtain ⟨ct, c0, c1, c2⟩ := C1.out
    go_region_held3 (fun w' => w'.cell? ⟨w.heap.size, 0, none⟩ = some (.int .i64 8) ∧ w'.cell? ⟨w.heap.size, 1, none⟩ = some (.int .i64 128) ∧ w'.cell? ⟨w.heap.size, 2, none⟩ = some (.int .i64 256) ∧ Below w3.heap.size w3 w') (exact awS C1.out (by repeat (first | exact Below.refl _ _ | assumption | refine bl_drew ?_ | refine bl_drewN ?_ _ | refine Below.setCell ?_ (by first | assumption | omega | (simp; done) | (simp; omega)) _ | refine Below.alloc ?_ (by first | assumption | omega | (simp; done) | (simp; omega)) _))) (first
      | (go_at_call 55; (with_reducible refine (KP.out _ _).mono ?_); rintro e w9 ⟨rfl, hb9⟩; have Z9 := (show Below w3.heap.size w3 _ by repeat (first | exact Below.refl _ _ | assumption | refine bl_drew ?_ | refine bl_drewN ?_ _ | refine Below.setCell ?_ (by first | assumption | omega | (simp; done) | (simp; omega)) _ | refine Below.alloc ?_ (by first | assumption | omega | (simp; done) | (simp; omega)) _)).trans (hb9.mono (by first | exact Nat.le_refl _ | (simp; done) | (simp; omega) | omega)); have z9 := Z9.size; obtain ⟨yt, ya, yb, yc⟩ := C1.out.below Z9 ct; (first | (have NN := Lib.hid ((D4.new w3 0 0 0 0 48).drew.below hb9 (by simp)); have nn := NN.out; (try simp only [World.size_alloc, World.size_drew] at nn); obtain ⟨nt, n0, n1, n2, n3, nf0, nf1, nf2, nf3⟩ := nn) | (have NN := Lib.hid ((D4.new _ 0 0 0 0 48).below hb9 (by simp)); have nn := NN.out; (try simp only [World.size_alloc, World.size_drew] at nn); obtain ⟨nt, n0, n1, n2, n3, nf0, nf1, nf2, nf3⟩ := nn) | (have NN := Lib.hid (NN.out.below hb9 NN.out.lt); have nn := NN.out; (try simp only [World.size_alloc, World.size_drew] at nn); obtain ⟨nt, n0, n1, n2, n3, nf0, nf1, nf2, nf3⟩ := nn) | skip))
      | (go_at_call 19; (with_reducible refine (KC.out _).mono ?_); rintro e w9 ⟨rfl, hb9⟩; have Z9 := (show Below w3.heap.size w3 _ by repeat (first | exact Below.refl _ _ | assumption | refine bl_drew ?_ | refine bl_drewN ?_ _ | refine Below.setCell ?_ (by first | assumption | omega | (simp; done) | (simp; omega)) _ | refine Below.alloc ?_ (by first | assumption | omega | (simp; done) | (simp; omega)) _)).trans (hb9.mono (by first | exact Nat.le_refl _ | (simp; done) | (simp; omega) | omega)); have z9 := Z9.size; (first | (have NN := Lib.hid ((D4.new w3 0 0 0 0 48).drew.below hb9 (by simp)); have nn := NN.out; (try simp only [World.size_alloc, World.size_drew] at nn); obtain ⟨nt, n0, n1, n2, n3, nf0, nf1, nf2, nf3⟩ := nn) | (have NN := Lib.hid ((D4.new _ 0 0 0 0 48).below hb9 (by simp)); have nn := NN.out; (try simp only [World.size_alloc, World.size_drew] at nn); obtain ⟨nt, n0, n1, n2, n3, nf0, nf1, nf2, nf3⟩ := nn) | (have NN := Lib.hid (NN.out.below hb9 NN.out.lt); have nn := NN.out; (try simp only [World.size_alloc, World.size_drew] at nn); obtain ⟨nt, n0, n1, n2, n3, nf0, nf1, nf2, nf3⟩ := nn) | skip))
      | fail)
    all_goals
      try go_wp2_with fail
      go_meet
      case rel =>
        have hZ := b1'.out.trans (Z9.mono b1'.out.size)
        have hz3 := b1'.out.size
        have hl := B1.out.lt
        have hB := B1.out.below Z9 hl
        first
          | exact ⟨_, rfl, rfl, D4.new w9 60000 102187 0 42187 _, hB.alloc _, hZ.alloc hZ.size _⟩
          | exact ⟨_, rfl, rfl, NN.out.put 60000 102187 0 42187, (((hB.far (by first | omega | (simp only []; omega)) _).far (by first | omega | (simp only []; omega)) _).far (by first | omega | (simp only []; omega)) _).far (by first | omega | (simp only []; omega)) _, (((hZ.setCell (by first | omega | (simp only []; omega)) _).setCell (by first | omega | (simp only []; omega)) _).setCell (by first | omega | (simp only []; omega)) _).setCell (by first | omega | (simp only []; omega)) _⟩
          | fail
  case rest =>
    obtain ⟨q, rfl, rfl, hD, hB, hZ⟩ := hcut
    rename World => w4
    have D4' := Lib.hid hD
    have B4 := Lib.hid hB
    clear hD hB C1 B1 b1'
    go_wp2_with fail
    (with_reducible refine (KP.out _ _).mono ?_)
    rintro e w5 ⟨rfl, hb5⟩
    have Z5 := hZ.trans (hb5.mono hZ.size)
    have D5 := Lib.hid (D4'.out.below hb5 D4'.out.lt)
    have B5 := Lib.hid (B4.out.below hb5 B4.out.lt)
    clear hZ D4' B4 hb5
    go_wp2_with fail
    (with_reducible refine (KP.out _ _).mono ?_)
    rintro e w6 ⟨rfl, hb6⟩
    have Z6 := Z5.trans (hb6.mono Z5.size)
    have D6' := Lib.hid (D5.out.below hb6 D5.out.lt)
    have B6 := Lib.hid (B5.out.below hb6 B5.out.lt)
    clear Z5 D5 B5 hb6
    go_wp2_with fail
    (with_reducible refine (KP.out _ _).mono ?_)
    rintro e w7 ⟨rfl, hb7⟩
    have Z7 := Z6.trans (hb7.mono Z6.size)
    have D7 := Lib.hid (D6'.out.below hb7 D6'.out.lt)
    have B7 := Lib.hid (B6.out.below hb7 B6.out.lt)
    clear Z6 D6' B6 hb7
    go_wp2_with fail
    (with_reducible refine (KX.out _).mono ?_)
    rintro e w8 ⟨rfl, hb8⟩
    have Z8 := Z7.trans (hb8.mono Z7.size)
    have D8 := Lib.hid (D7.out.below hb8 D7.out.lt)
    have B8 := Lib.hid (B7.out.below hb8 B7.out.lt)
    clear Z7 D7 B7 hb8
    obtain ⟨dt, d0, d1, d2, d3, -, -, -, -⟩ := D8.out
    obtain ⟨bt, e0, e1, e2, e3, -, -, -, -⟩ := B8.out
    go_wp2
    go_ret
    refine ⟨ret_bool (by simp), ?_⟩
    have hz := Z8.size
    repeat (first | exact Below.refl _ _ | assumption | refine bl_drew ?_ | refine bl_drewN ?_ _ | refine Below.setCell ?_ (by first | assumption | omega | (simp; done) | (simp; omega)) _ | refine Below.alloc ?_ (by first | assumption | omega | (simp; done) | (simp; omega)) _)
end Go.Proofs.YtlhdneeiikemjaaGreat
namespace Go.Proofs.YtlhdneeiikemjaaGreat
open Go.RowKit
/-- three arguments in their blocks -/
structure A3 (w W : World) (l r c a b x y : Int) : Prop where
  bl : Below w.heap.size w W
  C : D3 W w.heap.size l r c
  A : D2 W (w.heap.size + 1) a b
  X : D2 W (w.heap.size + 2) x y
theorem A3.below {w W W' : World} {l r c a b x y : Int} (h : A3 w W l r c a b x y) (hb : Below W.heap.size W W') : A3 w W' l r c a b x y :=
  ⟨h.bl.trans (hb.mono h.bl.size), h.C.below hb h.C.lt, h.A.below hb h.A.lt, h.X.below hb h.X.lt⟩
theorem A3.alloc {w W : World} {l r c a b x y : Int} (h : A3 w W l r c a b x y) (o : Obj) : A3 w (W.alloc o) l r c a b x y := h.below (bl_alloc W o)
theorem A3.start (w : World) (l r c a b x y : Int) : A3 w (((w.alloc (.cells #[.int .i64 l, .int .i64 r, .int .i64 c] 39)).alloc (.cells #[.int .i64 a, .int .i64 b] 46)).alloc (.cells #[.int .i64 x, .int .i64 y] 46)) l r c a b x y := by
  refine ⟨(((Below.refl _ _).alloc (Nat.le_refl _) _).alloc (by simp) _).alloc (by simp; omega) _, ((D3.new w l r c _).alloc _).alloc _, ?_, ?_⟩
  · have := (D2.new (w.alloc (.cells #[.int .i64 l, .int .i64 r, .int .i64 c] 39)) a b 46).alloc (.cells #[.int .i64 x, .int .i64 y] 46)
    simpa using this
  · have := D2.new ((w.alloc (.cells #[.int .i64 l, .int .i64 r, .int .i64 c] 39)).alloc (.cells #[.int .i64 a, .int .i64 b] 46)) x y 46
    simpa using this
set_option maxHeartbeats 4000000 in
set_option maxRecDepth 100000 in
theorem adv_bad (l r c a b x y : Int) (w : World) (hv : vldB l r c = false) :
    Calls Tryz.prog 5 #[.agg #[.int .i64 l, .int .i64 r, .int .i64 c], .agg #[.int .i64 a, .int .i64 b], .agg #[.int .i64 x, .int .i64 y]] w fun e w' => e = .returned (.bool true) ∧ Below w.heap.size w w' := by
  have KA := Lib.hid awake47
  have hq := eqlPlace
  have M := Lib.hid (A3.start w l r c a b x y)
  have KC := Lib.hid (fun W => aCell_no l r c a b x y W (.inl hv))
  have KV := Lib.hid (fun W => refValid_any l r c W)
  rw [hv] at KV
  have k : peq 0 0 0 0 0 0 0 0 = true := by decide
  clear hv
  go_enter Tryz.func5, Tryz.ntmps5
  go_wp2_with fail
  (with_reducible refine (KA.out _).mono ?_)
  rintro e w1 ⟨rfl, hb1⟩
  have M1 := Lib.hid (M.out.below hb1)
  clear hb1 M
  obtain ⟨-, ⟨ct1, c0, c1, c2⟩, ⟨at1, a0, a1, -, -⟩, ⟨xt1, x0, x1, -, -⟩⟩ := M1.out
  go_wp2_with fail
  (with_reducible refine (KC.out _).mono ?_)
  rintro e w2 ⟨rfl, hb2⟩
  have M2 := Lib.hid ((M1.out.below hb2).alloc (.cells #[.int .i64 0, .int .i64 0, .int .i64 0, .int .i64 0] 48))
  have B2 := Lib.hid (D4.new w2 0 0 0 0 48)
  clear hb2 M1 ct1 c0 c1 c2 at1 a0 a1 xt1 x0 x1
  obtain ⟨-, ⟨ct1, c0, c1, c2⟩, ⟨at1, a0, a1, -, -⟩, ⟨xt1, x0, x1, -, -⟩⟩ := M2.out
  go_wp2_with fail
  (with_reducible refine (KV.out _).mono ?_)
  rintro e w3 ⟨rfl, hb3⟩
  have M3 := Lib.hid (M2.out.below hb3)
  have B3 := Lib.hid (B2.out.below hb3 B2.out.lt)
  clear hb3 M2 B2 ct1 c0 c1 c2 at1 a0 a1 xt1 x0 x1
  have hbl := M3.out.bl
  obtain ⟨bt, e0, e1, e2, e3, -, -, -, -⟩ := B3.out
  go_wp2
  go_ret
  refine ⟨ret_bool (by simp), ?_⟩
  have hz := hbl.size
  repeat (first | exact Below.refl _ _ | assumption | refine bl_drew ?_ | refine bl_drewN ?_ _ | refine Below.setCell ?_ (by first | assumption | omega | (simp; done) | (simp; omega)) _ | refine Below.alloc ?_ (by first | assumption | omega | (simp; done) | (simp; omega)) _)
set_option maxHeartbeats 4000000 in
set_option maxRecDepth 100000 in
theorem adv_no (l r c a b x y : Int) (w : World) (hv : vldB l r c = true) (hm : (smB a b && smB x y) = false) :
    Calls Tryz.prog 5 #[.agg #[.int .i64 l, .int .i64 r, .int .i64 c], .agg #[.int .i64 a, .int .i64 b], .agg #[.int .i64 x, .int .i64 y]] w fun e w' => e = .returned (.bool true) ∧ Below w.heap.size w w' := by
  have KA := Lib.hid awake47
  have hq := eqlPlace
  have M := Lib.hid (A3.start w l r c a b x y)
  have KC := Lib.hid (fun W => aCell_no l r c a b x y W (.inr hm))
  have KV := Lib.hid (fun W => refValid_any l r c W)
  have KM := Lib.hid (fun W => Movement_any a b x y W)
  rw [hv] at KV
  rw [hm] at KM
  have k : peq 0 0 0 0 0 0 0 0 = true := by decide
  clear hv hm
  go_enter Tryz.func5, Tryz.ntmps5
  go_wp2_with fail
  (with_reducible refine (KA.out _).mono ?_)
  rintro e w1 ⟨rfl, hb1⟩
  have M1 := Lib.hid (M.out.below hb1)
  clear hb1 M
  obtain ⟨-, ⟨ct1, c0, c1, c2⟩, ⟨at1, a0, a1, -, -⟩, ⟨xt1, x0, x1, -, -⟩⟩ := M1.out
  go_wp2_with fail
  (with_reducible refine (KC.out _).mono ?_)
  rintro e w2 ⟨rfl, hb2⟩
  have M2 := Lib.hid ((M1.out.below hb2).alloc (.cells #[.int .i64 0, .int .i64 0, .int .i64 0, .int .i64 0] 48))
  have B2 := Lib.hid (D4.new w2 0 0 0 0 48)
  clear hb2 M1 ct1 c0 c1 c2 at1 a0 a1 xt1 x0 x1
  obtain ⟨-, ⟨ct1, c0, c1, c2⟩, ⟨at1, a0, a1, -, -⟩, ⟨xt1, x0, x1, -, -⟩⟩ := M2.out
  go_wp2_with fail
  (with_reducible refine (KV.out _).mono ?_)
  rintro e w3 ⟨rfl, hb3⟩
  have M3 := Lib.hid (M2.out.below hb3)
  have B3 := Lib.hid (B2.out.below hb3 B2.out.lt)
  clear hb3 M2 B2 ct1 c0 c1 c2 at1 a0 a1 xt1 x0 x1
  obtain ⟨-, ⟨ct1, c0, c1, c2⟩, ⟨at1, a0, a1, -, -⟩, ⟨xt1, x0, x1, -, -⟩⟩ := M3.out
  go_wp2_with fail
  (with_reducible refine (KM.out _).mono ?_)
  rintro e w4 ⟨rfl, hb4⟩
  have M4' := Lib.hid (M3.out.below hb4)
  have B4 := Lib.hid (B3.out.below hb4 B3.out.lt)
  clear hb4 M3 B3 ct1 c0 c1 c2 at1 a0 a1 xt1 x0 x1
  have hbl := M4'.out.bl
  obtain ⟨bt, e0, e1, e2, e3, -, -, -, -⟩ := B4.out
  go_wp2
  go_ret
  refine ⟨ret_bool (by simp), ?_⟩
  have hz := hbl.size
  repeat (first | exact Below.refl _ _ | assumption | refine bl_drew ?_ | refine bl_drewN ?_ _ | refine Below.setCell ?_ (by first | assumption | omega | (simp; done) | (simp; omega)) _ | refine Below.alloc ?_ (by first | assumption | omega | (simp; done) | (simp; omega)) _)
set_option maxHeartbeats 4000000 in
set_option maxRecDepth 100000 in
theorem adv_yes (l r c a b x y : Int) (w : World) (hv : vldB l r c = true) (ha : smB a b = true) (hx : smB x y = true) :
    Calls Tryz.prog 5 #[.agg #[.int .i64 l, .int .i64 r, .int .i64 c], .agg #[.int .i64 a, .int .i64 b], .agg #[.int .i64 x, .int .i64 y]] w fun e w' => e = .returned (.bool true) ∧ Below w.heap.size w w' := by
  have KA := Lib.hid awake47
  have hq := eqlPlace
  have M := Lib.hid (A3.start w l r c a b x y)
  obtain ⟨p0, p1, p2, p3, E, hE⟩ := mvV_form (edg r l - 5400000) (edg (r + 1) l - 5400000) (edg c l - 10800000) (edg (c + 1) l - 10800000) a b x y
  have KC := Lib.hid (fun W => aCell_yes l r c a b x y p0 p1 p2 p3 E W hv ha hx hE)
  have KR := Lib.hid (fun W => rcell_any l r c a b x y W hv ha hx)
  rw [hE] at KR
  have KV := Lib.hid (fun W => refValid_any l r c W)
  have KM := Lib.hid (fun W => Movement_any a b x y W)
  rw [hv] at KV
  rw [ha, hx] at KM
  simp only [Bool.and_self] at KM
  have k : peq p0 p1 p2 p3 p0 p1 p2 p3 = true := by simp [peq]
  clear hv ha hx hE
  go_enter Tryz.func5, Tryz.ntmps5
  go_wp2_with fail
  (with_reducible refine (KA.out _).mono ?_)
  rintro e w1 ⟨rfl, hb1⟩
  have M1 := Lib.hid (M.out.below hb1)
  clear hb1 M
  obtain ⟨-, ⟨ct1, c0, c1, c2⟩, ⟨at1, a0, a1, -, -⟩, ⟨xt1, x0, x1, -, -⟩⟩ := M1.out
  go_wp2_with fail
  (with_reducible refine (KC.out _).mono ?_)
  rintro e w2 ⟨rfl, hb2⟩
  have M2 := Lib.hid ((M1.out.below hb2).alloc (.cells #[.int .i64 p0, .int .i64 p1, .int .i64 p2, .int .i64 p3] 48))
  have B2 := Lib.hid (D4.new w2 p0 p1 p2 p3 48)
  clear hb2 M1 ct1 c0 c1 c2 at1 a0 a1 xt1 x0 x1
  obtain ⟨-, ⟨ct1, c0, c1, c2⟩, ⟨at1, a0, a1, -, -⟩, ⟨xt1, x0, x1, -, -⟩⟩ := M2.out
  go_wp2_with fail
  (with_reducible refine (KV.out _).mono ?_)
  rintro e w3 ⟨rfl, hb3⟩
  have M3 := Lib.hid (M2.out.below hb3)
  have B3 := Lib.hid (B2.out.below hb3 B2.out.lt)
  clear hb3 M2 B2 ct1 c0 c1 c2 at1 a0 a1 xt1 x0 x1
  obtain ⟨-, ⟨ct1, c0, c1, c2⟩, ⟨at1, a0, a1, -, -⟩, ⟨xt1, x0, x1, -, -⟩⟩ := M3.out
  go_wp2_with fail
  (with_reducible refine (KM.out _).mono ?_)
  rintro e w4 ⟨rfl, hb4⟩
  have M4' := Lib.hid (M3.out.below hb4)
  have B4 := Lib.hid (B3.out.below hb4 B3.out.lt)
  clear hb4 M3 B3 ct1 c0 c1 c2 at1 a0 a1 xt1 x0 x1
  obtain ⟨-, ⟨ct1, c0, c1, c2⟩, ⟨at1, a0, a1, -, -⟩, ⟨xt1, x0, x1, -, -⟩⟩ := M4'.out
  go_wp2_with fail
  (with_reducible refine (KR.out _).mono ?_)
  rintro e w5 ⟨rfl, hb5⟩
  have M5 := Lib.hid (M4'.out.below hb5)
  have B5 := Lib.hid (B4.out.below hb5 B4.out.lt)
  clear hb5 M4' B4 ct1 c0 c1 c2 at1 a0 a1 xt1 x0 x1
  have hbl := M5.out.bl
  obtain ⟨bt, e0, e1, e2, e3, -, -, -, -⟩ := B5.out
  go_wp2
  go_ret
  refine ⟨ret_bool (by simp), ?_⟩
  have hz := hbl.size
  repeat (first | exact Below.refl _ _ | assumption | refine bl_drew ?_ | refine bl_drewN ?_ _ | refine Below.setCell ?_ (by first | assumption | omega | (simp; done) | (simp; omega)) _ | refine Below.alloc ?_ (by first | assumption | omega | (simp; done) | (simp; omega)) _)
theorem adv_any (l r c a b x y : Int) (w : World) : Calls Tryz.prog 5 #[.agg #[.int .i64 l, .int .i64 r, .int .i64 c], .agg #[.int .i64 a, .int .i64 b], .agg #[.int .i64 x, .int .i64 y]] w fun e w' => e = .returned (.bool true) ∧ Below w.heap.size w w' := by
  cases hv : vldB l r c with
  | false => exact adv_bad l r c a b x y w hv
  | true =>
    cases hm : (smB a b && smB x y) with
    | false => exact adv_no l r c a b x y w hv hm
    | true =>
      rw [Bool.and_eq_true] at hm
      exact adv_yes l r c a b x y w hv hm.1 hm.2
end Go.Proofs.YtlhdneeiikemjaaGreat
