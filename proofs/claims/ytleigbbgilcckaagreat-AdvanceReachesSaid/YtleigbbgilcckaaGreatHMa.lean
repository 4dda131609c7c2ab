/- The walk of cells.Contains. -/
import Derived.BigRegion
import Derived.Test.YtleigbbgilcckaaGreatHSg
import Derived.Test.YtleigbbgilcckaaGreatHTi
import Derived.Test.YtleigbbgilcckaaGreatHZl
import Derived.Test.YtleigbbgilcckaaGreatHZk
set_option linter.unusedVariables false
set_option linter.unusedSimpArgs false
namespace Go.Proofs.YtleigbbgilcckaaGreat
open Go.RowKit
def sLo (a b k : Int) : Int := a + k % (b - a + 1)
theorem sLo_bd {a b : Int} (k : Int) (h : a ≤ b) : a ≤ sLo a b k ∧ sLo a b k ≤ b := by
  have h1 := Int.emod_nonneg k (show b - a + 1 ≠ 0 by omega)
  have h2 := Int.emod_lt_of_pos k (show 0 < b - a + 1 by omega)
  unfold sLo
  omega
set_option maxHeartbeats 4000000 in
set_option maxRecDepth 100000 in
theorem someC_any (a b k : Int) (w : World) (a0 : -2000000000000 ≤ a) (ab : a ≤ b) (b0 : b ≤ 2000000000000) (k0 : 0 ≤ k) (k1 : k ≤ 4294967295) :
    Calls Tryz.prog 10 #[.agg #[.int .i64 a, .int .i64 b], .int .u32 k] w fun e w' => e = .returned (.int .i64 (sLo a b k)) ∧ Below w.heap.size w w' := by
  have hbd := sLo_bd k ab
  obtain ⟨d, hd⟩ : ∃ d : Int, b - a + 1 = d := ⟨_, rfl⟩
  obtain ⟨r, hr⟩ : ∃ r : Int, k.tmod d = r := ⟨_, rfl⟩
  have hr2 : k % d = r := by rw [← hr, Int.tmod_eq_emod_of_nonneg k0]
  have hp : sLo a b k = a + r := by unfold sLo; rw [hd, hr2]
  obtain ⟨p, hpp⟩ : ∃ p : Int, a + r = p := ⟨_, rfl⟩
  rw [hpp] at hp
  rw [hp] at hbd ⊢
  have e1 : wrap64 (b - a) = b - a := IntWalk.wrap64_in _ (by omega)
  have e2 : wrap64 (b - a + 1) = d := by rw [IntWalk.wrap64_in _ (by omega)]; omega
  have e3 : wrap64 (a + r) = p := by rw [IntWalk.wrap64_in _ (by omega)]; omega
  have w3 : wrap64 p = p := IntWalk.wrap64_in _ (by omega)
  have w1 : wrap64 d = d := IntWalk.wrap64_in _ (by omega)
  have n1 : (d == (0 : Int)) = false := by rw [beq_eq_false_iff_ne]; omega
  have n3 : d ≠ 0 := by omega
  have b1 := (bl_alloc w (.cells #[.int .i64 a, .int .i64 b] 26))
  have B1 := Lib.hid b1
  clear b1 hbd hp hr2
  go_enter Tryz.func10, Tryz.ntmps10
  go_upto_region 1 with (fail)
  go_region
  all_goals
    go_wp2
    refine bodyPost_ret (v := .int .i64 p) (by simp [results, Tryz.results10, go_sem, *]; done) rfl ⟨rfl, ?_⟩
    repeat (first | exact Below.refl _ _ | assumption | refine bl_drew ?_ | refine bl_drewN ?_ _ | refine Below.setCell ?_ (by first | assumption | omega | (simp; done) | (simp; omega)) _ | refine Below.alloc ?_ (by first | assumption | omega | (simp; done) | (simp; omega)) _)
theorem D2.of_eq {W W' : World} {g : Nat} {a b : Int} (h : D2 W g a b) (he : W'.heap[g]? = W.heap[g]?) (hs : W.heap.size ≤ W'.heap.size) : D2 W' g a b :=
  ⟨Nat.lt_of_lt_of_le h.lt hs, (World.cell?_of_block (w := W) (a := ⟨g, 0, none⟩) he).trans h.c0, (World.cell?_of_block (w := W) (a := ⟨g, 1, none⟩) he).trans h.c1, (World.frozen?_of_block (w := W) (a := ⟨g, 0, none⟩) he).trans h.f0, (World.frozen?_of_block (w := W) (a := ⟨g, 1, none⟩) he).trans h.f1⟩
theorem D2.xk {B : Nat} {W W' : World} {g : Nat} {a b : Int} (h : D2 W g a b) (hx : XK B (.int .i64 0) W W') (hn : g ≠ B) : D2 W' g a b := h.of_eq (hx.block g h.lt hn (by simp [Value.ownBlock])) hx.size
theorem XK.set1 {B : Nat} {v : Value} {W W1 : World} (h : XK B v W W1) (u : Value) : XK B v W (W1.setCell ⟨B, 1, none⟩ u) :=
  ⟨h.os, h.tape, h.output, by simpa [World.setCell] using h.size, fun k hk hB hv => (Below.heap_setCell W1 _ _ k (fun e => hB (by rw [e]))).trans (h.block k hk hB hv)⟩
theorem XK.bl {B n₀ : Nat} {W W' : World} (h : XK B (.int .i64 0) W W') (hB : n₀ ≤ B) (h0 : n₀ ≤ W.heap.size) : Below n₀ W W' := h.below hB (fun k hk => by simp [Value.ownBlock] at hk) h0
theorem XK.call {B : Nat} {W W1 W2 : World} (h : XK B (.int .i64 0) W W1) (k : Below W1.heap.size W1 W2) : XK B (.int .i64 0) W W2 := h.trans (Nx.refl _ _) (XK.of_below k)
theorem XK.drw (B : Nat) (W : World) : XK B (.int .i64 0) W W.drew := XK.of_below (bl_drew (Below.refl _ _))
end Go.Proofs.YtleigbbgilcckaaGreat
namespace Go.Proofs.YtleigbbgilcckaaGreat
open Go.RowKit
theorem regV_vr {a b x y lev : Int} {L : List Cl} (h0 : 0 ≤ lev) (h16 : lev ≤ 16) (hR : RegOk a b x y lev 60 L 0) (hl : L.length ≤ 60) : vrB (regV a b x y lev L 0) = true := by
  rw [regV_zero]
  refine can_vr (regX_v h0 h16 L _) ?_
  have hok := reg_ok hR
  have := regX_len (a := a) (b := b) (x := x) (y := y) (lev := lev) (most := 60) L (by omega) L.length (Nat.le_refl _) (fun i hi => hok _ (by simp [gt, hi]))
  omega
/-- what the reference's Region says where there is no error -/
theorem rgd_zero {L : List Cl} {a b x y lev : Int} {M : List Cl} (hd : RgD L a b x y lev M 0) : gvE L a b x y lev = 0 ∧ RegOk a b x y lev 60 L 0 ∧ M = regV a b x y lev L 0 := by
  rcases hd with ⟨h1, h2, -⟩ | ⟨h1, h2 | ⟨h2, h3⟩⟩
  · exact absurd h2.symm h1
  · exact absurd h2 (by decide)
  · exact ⟨h1, h2, h3⟩
end Go.Proofs.YtleigbbgilcckaaGreat
namespace Go.Proofs.YtleigbbgilcckaaGreat
open Go.RowKit
theorem D4.drew {W : World} {g : Nat} {a b c d : Int} (h : D4 W g a b c d) : D4 W.drew g a b c d := ⟨h.lt, h.c0, h.c1, h.c2, h.c3, h.f0, h.f1, h.f2, h.f3⟩
theorem D4.set0 {W : World} {g : Nat} {a b c d : Int} (h : D4 W g a b c d) (v : Int) : D4 (W.setCell ⟨g, 0, none⟩ (.int .i64 v)) g v b c d := by
  refine ⟨by simpa using h.lt, World.cell?_setCell_same _ _ _ h.c0, ?_, ?_, ?_, by simpa using h.f0, by simpa using h.f1, by simpa using h.f2, by simpa using h.f3⟩
  all_goals rw [World.cell?_setCell_other _ _ _ _ (by simp)]
  · exact h.c1
  · exact h.c2
  · exact h.c3
theorem D4.set1 {W : World} {g : Nat} {a b c d : Int} (h : D4 W g a b c d) (v : Int) : D4 (W.setCell ⟨g, 1, none⟩ (.int .i64 v)) g a v c d := by
  refine ⟨by simpa using h.lt, ?_, World.cell?_setCell_same _ _ _ h.c1, ?_, ?_, by simpa using h.f0, by simpa using h.f1, by simpa using h.f2, by simpa using h.f3⟩
  all_goals rw [World.cell?_setCell_other _ _ _ _ (by simp)]
  · exact h.c0
  · exact h.c2
  · exact h.c3
theorem D4.set2 {W : World} {g : Nat} {a b c d : Int} (h : D4 W g a b c d) (v : Int) : D4 (W.setCell ⟨g, 2, none⟩ (.int .i64 v)) g a b v d := by
  refine ⟨by simpa using h.lt, ?_, ?_, World.cell?_setCell_same _ _ _ h.c2, ?_, by simpa using h.f0, by simpa using h.f1, by simpa using h.f2, by simpa using h.f3⟩
  all_goals rw [World.cell?_setCell_other _ _ _ _ (by simp)]
  · exact h.c0
  · exact h.c1
  · exact h.c3
theorem D4.set3 {W : World} {g : Nat} {a b c d : Int} (h : D4 W g a b c d) (v : Int) : D4 (W.setCell ⟨g, 3, none⟩ (.int .i64 v)) g a b c v := by
  refine ⟨by simpa using h.lt, ?_, ?_, ?_, World.cell?_setCell_same _ _ _ h.c3, by simpa using h.f0, by simpa using h.f1, by simpa using h.f2, by simpa using h.f3⟩
  all_goals rw [World.cell?_setCell_other _ _ _ _ (by simp)]
  · exact h.c0
  · exact h.c1
  · exact h.c2
theorem D4.put {W : World} {g : Nat} {a b c d : Int} (h : D4 W g a b c d) (x y z t : Int) : D4 ((((W.setCell ⟨g, 0, none⟩ (.int .i64 x)).setCell ⟨g, 1, none⟩ (.int .i64 y)).setCell ⟨g, 2, none⟩ (.int .i64 z)).setCell ⟨g, 3, none⟩ (.int .i64 t)) g x y z t :=
  (((h.set0 x).set1 y).set2 z).set3 t
theorem awS {w3 W : World} {g : Nat} (h : D3 w3 g 8 128 256) (hb : Below w3.heap.size w3 W) : W.cell? ⟨g, 0, none⟩ = some (.int .i64 8) ∧ W.cell? ⟨g, 1, none⟩ = some (.int .i64 128) ∧ W.cell? ⟨g, 2, none⟩ = some (.int .i64 256) ∧ Below w3.heap.size w3 W :=
  ⟨(hb.cell (p := ⟨g, 0, none⟩) h.lt).trans h.c0, (hb.cell (p := ⟨g, 1, none⟩) h.lt).trans h.c1, (hb.cell (p := ⟨g, 2, none⟩) h.lt).trans h.c2, hb⟩
set_option maxHeartbeats 4000000 in
set_option maxRecDepth 100000 in
theorem awake47 (w : World) : Calls Tryz.prog 4 #[] w fun e w' => e = .returned (.bool true) ∧ Below w.heap.size w w' := by
  have KB := Lib.hid BoxEx
  have KC := Lib.hid aCell_ex
  have KP := Lib.hid point_any
  have KX := Lib.hid aCircle_ex
  have hq := eqlArc
  have k1 : aeq 60000 102187 60000 102187 = true := by decide
  have k2 : aeq 0 42187 0 42187 = true := by decide
  have k3 : aeq 3595000 3605000 3595000 3605000 = true := by decide
  have C0 := Lib.hid (D3.new w 8 128 256 46)
  have b0 : Below w.heap.size w (w.alloc (.cells #[.int .i64 8, .int .i64 128, .int .i64 256] 46)) := bl_alloc w _
  go_enter Tryz.func4, Tryz.ntmps4
  go_wp2_with fail
  (with_reducible refine (KB.out _).mono ?_)
  rintro e w1 ⟨rfl, hb1⟩
  have C1 := Lib.hid ((C0.out.below hb1 C0.out.lt).alloc (.cells #[.int .i64 0, .int .i64 42187, .int .i64 0, .int .i64 42187] 48))
  have B1 := Lib.hid (D4.new w1 0 42187 0 42187 48)
  have b1 := b0.trans (hb1.mono b0.size)
  have b1' := Lib.hid (b1.alloc b1.size (.cells #[.int .i64 0, .int .i64 42187, .int .i64 0, .int .i64 42187] 48))
  clear b0 C0 hb1
  go_upto_region 3 with (fail)
  generalize w1.alloc (.cells #[.int .i64 0, .int .i64 42187, .int .i64 0, .int .i64 42187] 48) = w3 at *
  have zg := b1.size
  generalize w1.heap.size = g2 at *
  clear b1
  go_cut [4, 5] (fun s4 s5 wy => ∃ q : Nat, s4 = .pointer (some ⟨q, 0, none⟩) ∧ s5 = .int .i64 0 ∧ D4 wy q 60000 102187 0 42187 ∧ D4 wy g2 0 42187 0 42187 ∧ Below w.heap.size w wy)
  case first =>
    obtain ⟨ct, c0, c1, c2⟩ := C1.out
    go_region_held3 (fun w' => w'.cell? ⟨w.heap.size, 0, none⟩ = some (.int .i64 8) ∧ w'.cell? ⟨w.heap.size, 1, none⟩ = some (.int .i64 128) ∧ w'.cell? ⟨w.heap.size, 2, none⟩ = some (.int .i64 256) ∧ Below w3.heap.size w3 w') (exact awS C1.out (by repeat (first | exact Below.refl _ _ | assumption | refine bl_drew ?_ | refine bl_drewN ?_ _ | refine Below.setCell ?_ (by first | assumption | omega | (simp; done) | (simp; omega)) _ | refine Below.alloc ?_ (by first | assumption | omega | (simp; done) | (simp; omega)) _))) (first
      | (go_at_call 12; (with_reducible refine (KP.out _ _).mono ?_); rintro e w9 ⟨rfl, hb9⟩; have Z9 := (show Below w3.heap.size w3 _ by repeat (first | exact Below.refl _ _ | assumption | refine bl_drew ?_ | refine bl_drewN ?_ _ | refine Below.setCell ?_ (by first | assumption | omega | (simp; done) | (simp; omega)) _ | refine Below.alloc ?_ (by first | assumption | omega | (simp; done) | (simp; omega)) _)).trans (hb9.mono (by first | exact Nat.le_refl _ | (simp; done) | (simp; omega) | omega)); have z9 := Z9.size; obtain ⟨yt, ya, yb, yc⟩ := C1.out.below Z9 ct; (first | (have NN := Lib.hid ((D4.new w3 0 0 0 0 48).drew.below hb9 (by simp)); have nn := NN.out; (try simp only [World.size_alloc, World.size_drew] at nn); obtain ⟨nt, n0, n1, n2, n3, nf0, nf1, nf2, nf3⟩ := nn) | (have NN := Lib.hid ((D4.new _ 0 0 0 0 48).below hb9 (by simp)); have nn := NN.out; (try simp only [World.size_alloc, World.size_drew] at nn); obtain ⟨nt, n0, n1, n2, n3, nf0, nf1, nf2, nf3⟩ := nn) | (have NN := Lib.hid (NN.out.below hb9 NN.out.lt); have nn := NN.out; (try simp only [World.size_alloc, World.size_drew] at nn); obtain ⟨nt, n0, n1, n2, n3, nf0, nf1, nf2, nf3⟩ := nn) | skip))
      | (go_at_call 16; (with_reducible refine (KC.out _).mono ?_); rintro e w9 ⟨rfl, hb9⟩; have Z9 := (show Below w3.heap.size w3 _ by repeat (first | exact Below.refl _ _ | assumption | refine bl_drew ?_ | refine bl_drewN ?_ _ | refine Below.setCell ?_ (by first | assumption | omega | (simp; done) | (simp; omega)) _ | refine Below.alloc ?_ (by first | assumption | omega | (simp; done) | (simp; omega)) _)).trans (hb9.mono (by first | exact Nat.le_refl _ | (simp; done) | (simp; omega) | omega)); have z9 := Z9.size; (first | (have NN := Lib.hid ((D4.new w3 0 0 0 0 48).drew.below hb9 (by simp)); have nn := NN.out; (try simp only [World.size_alloc, World.size_drew] at nn); obtain ⟨nt, n0, n1, n2, n3, nf0, nf1, nf2, nf3⟩ := nn) | (have NN := Lib.hid ((D4.new _ 0 0 0 0 48).below hb9 (by simp)); have nn := NN.out; (try simp only [World.size_alloc, World.size_drew] at nn); obtain ⟨nt, n0, n1, n2, n3, nf0, nf1, nf2, nf3⟩ := nn) | (have NN := Lib.hid (NN.out.below hb9 NN.out.lt); have nn := NN.out; (try simp only [World.size_alloc, World.size_drew] at nn); obtain ⟨nt, n0, n1, n2, n3, nf0, nf1, nf2, nf3⟩ := nn) | skip))
      | fail)
    all_goals
      try go_wp2_with fail
      go_meet
      case rel =>
        have hZ := b1'.out.trans (Z9.mono b1'.out.size)
        have hz3 := b1'.out.size
        have hl := B1.out.lt
        have hB := B1.out.below Z9 hl
        first
          | exact ⟨_, rfl, rfl, D4.new w9 60000 102187 0 42187 _, hB.alloc _, hZ.alloc hZ.size _⟩
          | exact ⟨_, rfl, rfl, NN.out.put 60000 102187 0 42187, (((hB.far (by first | omega | (simp only []; omega)) _).far (by first | omega | (simp only []; omega)) _).far (by first | omega | (simp only []; omega)) _).far (by first | omega | (simp only []; omega)) _, (((hZ.setCell (by first | omega | (simp only []; omega)) _).setCell (by first | omega | (simp only []; omega)) _).setCell (by first | omega | (simp only []; omega)) _).setCell (by first | omega | (simp only []; omega)) _⟩
          | fail
  case rest =>
    obtain ⟨q, rfl, rfl, hD, hB, hZ⟩ := hcut
    rename World => w4
    have D4' := Lib.hid hD
    have B4 := Lib.hid hB
    clear hD hB C1 B1 b1'
    go_wp2_with fail
    (with_reducible refine (KP.out _ _).mono ?_)
    rintro e w5 ⟨rfl, hb5⟩
    have Z5 := hZ.trans (hb5.mono hZ.size)
    have D5 := Lib.hid (D4'.out.below hb5 D4'.out.lt)
    have B5 := Lib.hid (B4.out.below hb5 B4.out.lt)
    clear hZ D4' B4 hb5
    go_wp2_with fail
    (with_reducible refine (KP.out _ _).mono ?_)
    rintro e w6 ⟨rfl, hb6⟩
    have Z6 := Z5.trans (hb6.mono Z5.size)
    have D6' := Lib.hid (D5.out.below hb6 D5.out.lt)
    have B6 := Lib.hid (B5.out.below hb6 B5.out.lt)
    clear Z5 D5 B5 hb6
    go_wp2_with fail
    (with_reducible refine (KP.out _ _).mono ?_)
    rintro e w7 ⟨rfl, hb7⟩
    have Z7 := Z6.trans (hb7.mono Z6.size)
    have D7 := Lib.hid (D6'.out.below hb7 D6'.out.lt)
    have B7 := Lib.hid (B6.out.below hb7 B6.out.lt)
    clear Z6 D6' B6 hb7
    go_wp2_with fail
    (with_reducible refine (KX.out _).mono ?_)
    rintro e w8 ⟨rfl, hb8⟩
    have Z8 := Z7.trans (hb8.mono Z7.size)
    have D8 := Lib.hid (D7.out.below hb8 D7.out.lt)
    have B8 := Lib.hid (B7.out.below hb8 B7.out.lt)
    clear Z7 D7 B7 hb8
    obtain ⟨dt, d0, d1, d2, d3, -, -, -, -⟩ := D8.out
    obtain ⟨bt, e0, e1, e2, e3, -, -, -, -⟩ := B8.out
    go_wp2
    go_ret
    refine ⟨ret_bool (by simp), ?_⟩
    have hz := Z8.size
    repeat (first | exact Below.refl _ _ | assumption | refine bl_drew ?_ | refine bl_drewN ?_ _ | refine Below.setCell ?_ (by first | assumption | omega | (simp; done) | (simp; omega)) _ | refine Below.alloc ?_ (by first | assumption | omega | (simp; done) | (simp; omega)) _)
end Go.Proofs.YtleigbbgilcckaaGreat
namespace Go.Proofs.YtleigbbgilcckaaGreat
open Go.RowKit
theorem boxOk_of {x : Cl} (hx : Vl x) : BoxOk (edg x.2.1 x.1 - 5400000) (edg (x.2.1 + 1) x.1 - 5400000) (edg x.2.2 x.1 - 10800000) (edg (x.2.2 + 1) x.1 - 10800000) := by
  obtain ⟨h1, h2, h3, h4, h5, h6, h7, h8⟩ := box_nums hx
  constructor <;> omega
theorem cellContains (x : Cl) (a b : Int) (W : World) (hx : Vl x) (hp : vptB a b = true) :
    Calls Tryz.prog 25 #[boxV x.1 x.2.1 x.2.2, .agg #[.int .i64 a, .int .i64 b]] W fun e w' => e = .returned (.tuple #[.bool (ptB x a b), .int .i64 0]) ∧ Below W.heap.size W w' :=
  placeContains_any _ _ _ _ a b W (boxOk_of hx) hp
theorem con_take (L : List Cl) (a b : Int) (k : Nat) (hk : k < L.length) (h : ((L.take k).any fun x => ptB x a b) = false) : ((L.take (k + 1)).any fun x => ptB x a b) = ptB (gt L k) a b := by
  rw [List.take_succ_eq_append_getElem hk, List.any_append, h]
  simp [gt, hk]
theorem con_of (L : List Cl) (a b : Int) (k : Nat) (hk : k < L.length) (h : ptB (gt L k) a b = true) : conB L a b = true := by
  unfold conB
  rw [List.any_eq_true]
  simp [gt, hk] at h
  exact ⟨L[k], List.getElem_mem hk, h⟩
set_option maxHeartbeats 1000000 in
set_option maxRecDepth 100000 in
theorem Contains_any (A : Option Addr) (n c : Nat) (L : List Cl) (a b : Int) (w : World) (hr : Reads w w.heap.size 3 A n (cvs L)) (hn : n ≤ maxLen) (hv : vrB L = true) (hp : vptB a b = true) :
    Calls Tryz.prog 8 #[.slice A n c, .agg #[.int .i64 a, .int .i64 b]] w fun e w' => e = .returned (.tuple #[.bool (conB L a b), .int .i64 0]) ∧ Below w.heap.size w w' := by
  obtain ⟨R, hR⟩ : ∃ R, R = conB L a b := ⟨_, rfl⟩
  rw [← hR]
  have HR := Lib.hid hR
  have HL := Lib.hid hr.len
  have RD : Hid (∀ W, Below w.heap.size w W → Reads W W.heap.size 3 A n (cvs L)) := Lib.hid (fun W hW => (hr.below hW).more hW.size)
  have K1 := Lib.hid (fun W hW => vr_yes A n c L true hv W (RD.out W hW) hn)
  have K2 := Lib.hid (vpt_yes a b hp)
  have AV := Lib.hid (vr_parts hv).2.2
  have HP := Lib.hid hp
  have hlen := (vr_parts hv).1
  rw [hr.len] at hlen
  clear hR hr hv hp hn
  go_enter Tryz.func8, Tryz.ntmps8
  go_wp2_with fail
  have b0 := bl_alloc w (.cells #[.int .i64 a, .int .i64 b] 24)
  (with_reducible refine (K1.out _ b0).mono ?_)
  rintro e w1 ⟨rfl, hb1⟩
  have hb1' := b0.trans (hb1.mono (by simp))
  have hz1 := one_lt hb1
  have y0 := (hb1.cell (p := ⟨w.heap.size, 0, none⟩) (by simp)).trans (show _ = some (.int .i64 a) by simp)
  have y1 := (hb1.cell (p := ⟨w.heap.size, 1, none⟩) (by simp)).trans (show _ = some (.int .i64 b) by simp)
  clear hb1 b0
  go_wp2_with fail
  (with_reducible refine (K2.out _).mono ?_)
  rintro e w2 ⟨rfl, hb2⟩
  have hb2' := hb1'.trans (hb2.mono hb1'.size)
  have y0 := (hb2.cell (p := ⟨w.heap.size, 0, none⟩) hz1).trans y0
  have y1 := (hb2.cell (p := ⟨w.heap.size, 1, none⟩) hz1).trans y1
  have hz2 : w.heap.size < w2.heap.size := Nat.lt_of_lt_of_le hz1 hb2.size
  clear hb2 hb1' K1 K2 hz1
  go_wp2_with fail
  go_loopw [20] (fun i wr => ∃ k : Nat, k ≤ n ∧ i = .int .i64 k ∧ ((L.take k).any fun x => ptB x a b) = false ∧ Below w2.heap.size w2 wr) (fun i _ => n - (intOf i).toNat)
  case atStart => exact ⟨0, Nat.zero_le _, rfl, rfl, Below.refl _ _⟩
  case round =>
    obtain ⟨k, hk, rfl, hno, hbr⟩ := hrel
    have hzr := hbr.size
    by_cases hlt : k < n
    · have hbw := hb2'.trans (hbr.mono hb2'.size)
      obtain ⟨bk, off, rfl, hbk, x1, x2, x3⟩ := (RD.out wr hbw).elem hlt
      have hkl : k < L.length := by rw [HL.out]; exact hlt
      have hx := AV.out (gt L k) (by simp [gt, hkl])
      have KB := Lib.hid (fun W => box_any (gt L k).1 (gt L k).2.1 (gt L k).2.2 W ((vl_iff _).2 hx))
      have KC := Lib.hid (fun W => cellContains (gt L k) a b W hx HP.out)
      have h1 := Lib.hid (con_take L a b k hkl hno)
      have h2 := Lib.hid (con_of L a b k hkl)
      generalize gt L k = x at x1 x2 x3 KB KC h1 h2
      obtain ⟨xl, xr, xc⟩ := x
      simp only [] at x1 x2 x3 KB KC
      generalize ptB (xl, xr, xc) a b = z at KC h1 h2
      clear hx hno
      go_upto_region 6 with fail
      generalize hW5 : wr.alloc (.cells #[.int .i64 xl, .int .i64 xr, .int .i64 xc] 46) = w5
      have hz5 : wr.heap.size < w5.heap.size := by rw [← hW5]; simp
      have hb5 : Below w2.heap.size w2 w5 := by rw [← hW5]; exact hbr.alloc hzr _
      have c0 : ∀ s : BV w5, s.w.cell? ⟨wr.heap.size, 0, none⟩ = some (.int .i64 xl) := fun s => (s.hb.cell (p := ⟨wr.heap.size, 0, none⟩) hz5).trans (by rw [← hW5]; simp)
      have c1 : ∀ s : BV w5, s.w.cell? ⟨wr.heap.size, 1, none⟩ = some (.int .i64 xr) := fun s => (s.hb.cell (p := ⟨wr.heap.size, 1, none⟩) hz5).trans (by rw [← hW5]; simp)
      have c2 : ∀ s : BV w5, s.w.cell? ⟨wr.heap.size, 2, none⟩ = some (.int .i64 xc) := fun s => (s.hb.cell (p := ⟨wr.heap.size, 2, none⟩) hz5).trans (by rw [← hW5]; simp)
      have c3 : ∀ s : BV w5, s.w.cell? ⟨w.heap.size, 0, none⟩ = some (.int .i64 a) := fun s => (s.hb.cell (p := ⟨w.heap.size, 0, none⟩) (by simp only []; omega)).trans ((hb5.cell (p := ⟨w.heap.size, 0, none⟩) hz2).trans y0)
      have c4 : ∀ s : BV w5, s.w.cell? ⟨w.heap.size, 1, none⟩ = some (.int .i64 b) := fun s => (s.hb.cell (p := ⟨w.heap.size, 1, none⟩) (by simp only []; omega)).trans ((hb5.cell (p := ⟨w.heap.size, 1, none⟩) hz2).trans y1)
      clear hW5 x1 x2 x3
      refine wp_region_bv w5 (by kernel_rfl) (by kernel_rfl) (Below.refl _ _) ?_
      (repeat (go_big_quiet_step (first | (go_at_call 26; with_reducible exact quiet_bv (KB.out _)) | (go_at_call 25; with_reducible exact quiet_bv (KC.out _)) | fail)))
      refine wpQuiet_nil ?_
      intro w9 hb9
      have hb9' : Below w2.heap.size w2 w9 := hb5.trans (hb9.mono hb5.size)
      clear c0 c1 c2 c3 c4 KB KC
      cases z with
      | true =>
        have hE : Hid (R = true) := Lib.hid (by rw [HR.out]; exact h2.out rfl)
        go_wp2
        go_ret2
        exact ⟨by rw [hE.out]; rfl, hb2'.trans (hb9'.mono hb2'.size)⟩
      | false =>
        go_wp2
        go_roundw
        case rel => exact ⟨k + 1, by omega, by go_num, h1.out, hb9'⟩
        case measure => simp [intOf]; omega
    · have hkn : k = n := by omega
      have hE : Hid (R = false) := Lib.hid (by rw [HR.out]; unfold conB; rw [List.take_of_length_le (by rw [HL.out]; omega)] at hno; exact hno)
      clear hno
      go_wp2
      go_ret2
      exact ⟨by rw [hE.out]; rfl, hb2'.trans (hbr.mono hb2'.size)⟩
end Go.Proofs.YtleigbbgilcckaaGreat
