/- The last step of a row where the call left nothing changed that was there. -/
import Derived.Test.YtnbbemlchchmoaaGreatRows
import Derived.Below
import Derived.ProofKit
import Derived.Lib.SmallJoins
import Derived.Test.YtnbbemlchchmoaaGreatHKp
import Derived.Test.YtnbbemlchchmoaaGreatHGd
import Derived.Test.YtnbbemlchchmoaaGreatHJe
import Derived.Test.YtnbbemlchchmoaaGreatHUo
import Derived.Test.YtnbbemlchchmoaaGreatHZl
import Derived.Test.YtnbbemlchchmoaaGreatHVd
set_option linter.unusedVariables false
set_option linter.unusedSimpArgs false
namespace Go.Proofs.YtnbbemlchchmoaaGreat
open Go.RowKit
theorem mvErr_one (q : Bx) (a b x y : Int) : mvErr q a b x y ≠ 1 := by
  unfold mvErr
  split
  · split
    · decide
    · split <;> decide
  · decide
/-- what the reference's Region says, if there are not too many cells -/
def RgD (L : List Cl) (a b x y lev : Int) (M : List Cl) (E : Int) : Prop :=
  (gvE L a b x y lev ≠ 0 ∧ E = gvE L a b x y lev ∧ M = []) ∨ (gvE L a b x y lev = 0 ∧ (E = -1 ∨ (RegOk a b x y lev 60 L E ∧ M = regV a b x y lev L E)))
theorem aReg_same {A : Option Addr} {n ca : Nat} {L : List Cl} {a b x y lev E : Int} {M : List Cl} {W : World} (hr : Reads W W.heap.size 3 A n (cvs L)) (hn : n ≤ ca) (hca : ca ≤ maxLen) (hn20 : n ≤ 20) (hd : RgD L a b x y lev M E) (hE : E ≠ -1) :
    Calls Tryz.prog 37 #[.slice A n ca, .agg #[.int .i64 a, .int .i64 b], .agg #[.int .i64 x, .int .i64 y], .int .i64 lev] W (RetCells W M E) := by
  rcases hd with ⟨h1, rfl, rfl⟩ | ⟨h1, rfl | ⟨h2, rfl⟩⟩
  · exact aRegion_bad A n ca L a b x y lev W hr hn hca h1
  · exact absurd rfl hE
  · exact aRegion_yes A n ca L a b x y lev E W hr hn hca hn20 h1 h2
theorem rgd_one {L : List Cl} {a b x y lev E : Int} {M : List Cl} (hd : RgD L a b x y lev M E) : E = 1 ↔ gvE L a b x y lev = 1 := by
  rcases hd with ⟨h1, rfl, rfl⟩ | ⟨h1, rfl | ⟨⟨k, hk, h3, h4⟩, -⟩⟩
  · exact Iff.rfl
  · rw [h1]; decide
  · rw [h1]
    constructor
    · intro h
      subst h
      rcases h4 with ⟨-, h4⟩ | ⟨-, -, h4⟩
      · exact absurd h4 (by decide)
      · exact absurd h4 (mvErr_one _ _ _ _ _)
    · intro h; exact absurd h (by decide)
end Go.Proofs.YtnbbemlchchmoaaGreat
namespace Go.Proofs.YtnbbemlchchmoaaGreat
open Go.RowKit
set_option maxHeartbeats 2000000 in
theorem rNeg_any (a b : Int) (w : World) (h : smB a b = true) : Calls Tryz.prog 86 #[.agg #[.int .i64 a, .int .i64 b]] w fun e w' => e = .returned (.agg #[.int .i64 (-b), .int .i64 (-a)]) ∧ Below w.heap.size w w' := by
  rw [sm_iff] at h
  have e0 : wrap64 (0 - a) = -a := by rw [IntWalk.wrap64_in _ (by omega)]; omega
  have e1 : wrap64 (0 - b) = -b := by rw [IntWalk.wrap64_in _ (by omega)]; omega
  have e2 : wrap64 (-a) = -a := IntWalk.wrap64_in _ (by omega)
  have e3 : wrap64 (-b) = -b := IntWalk.wrap64_in _ (by omega)
  go_enter Tryz.func86, Tryz.ntmps86
  go_wp2
  refine bodyPost_ret (v := .agg #[.int .i64 (-b), .int .i64 (-a)]) (by simp [results, Tryz.results86, go_sem, *]; done) rfl ⟨rfl, ?_⟩
  repeat (first | exact Below.refl _ _ | assumption | refine bl_drew ?_ | refine bl_drewN ?_ _ | refine Below.setCell ?_ (by first | assumption | omega | (simp; done) | (simp; omega)) _ | refine Below.alloc ?_ (by first | assumption | omega | (simp; done) | (simp; omega)) _)
def OpI (w : World) (g0 : Nat) (a b x y : Int) (x0 x1 x2 x3 : Value) (a0 : Act) (M : Nat → Bool) (a' : Act) (w' : World) : Prop :=
  ∃ v6 v7 v8 v9 : Value, a' = ((((a0.put (some 6) v6).put (some 7) v7).put (some 8) v8).put (some 9) v9) ∧ Below g0 w w' ∧ D2 w' g0 a b ∧ D2 w' (g0 + 1) x y ∧
    (M 4 = false → D2 w' (g0 + 2) 0 0) ∧ (M 4 = true → D2 w' (g0 + 2) (-b) (-a)) ∧ (M 5 = false → D2 w' (g0 + 3) 0 0) ∧ (M 5 = true → D2 w' (g0 + 3) (-y) (-x)) ∧
    (M 0 = true → v6 = x0) ∧ (M 1 = true → v7 = x1) ∧ (M 2 = true → v8 = x2) ∧ (M 3 = true → v9 = x3)
theorem D2.drewq {W : World} {g : Nat} {a b : Int} (h : D2 W g a b) : D2 W.drew g a b := ⟨h.lt, h.c0, h.c1, h.f0, h.f1⟩
theorem D2.put2 {W : World} {g : Nat} {a b : Int} (h : D2 W g a b) (u v : Int) : D2 ((W.setCell ⟨g, 0, none⟩ (.int .i64 u)).setCell ⟨g, 1, none⟩ (.int .i64 v)) g u v := (h.set0 u).set1 v
theorem D2.far2 {W : World} {g g' : Nat} {a b : Int} (h : D2 W g a b) (hn : g ≠ g') (u v : Value) : D2 ((W.setCell ⟨g', 0, none⟩ u).setCell ⟨g', 1, none⟩ v) g a b := (h.far (p := ⟨g', 0, none⟩) hn u).far (p := ⟨g', 1, none⟩) hn v
theorem OpI.start {w W2 : World} {g0 : Nat} {a b x y : Int} {x0 x1 x2 x3 : Value} (a0 : Act) (hB : Below g0 w W2) (h0 : D2 W2 g0 a b) (h1 : D2 W2 (g0 + 1) x y) (h2 : D2 W2 (g0 + 2) 0 0) (h3 : D2 W2 (g0 + 3) 0 0) : OpI w g0 a b x y x0 x1 x2 x3 a0 (fun _ => false) a0 W2.drew :=
  ⟨_, _, _, _, by rw [putQ_self a0 6, putQ_self a0 7, putQ_self a0 8, putQ_self a0 9], bl_drew hB, h0.drewq, h1.drewq, fun _ => h2.drewq, fun h => (by cases h), fun _ => h3.drewq, fun h => (by cases h), fun h => (by cases h), fun h => (by cases h), fun h => (by cases h), fun h => (by cases h)⟩
set_option maxHeartbeats 4000000 in
set_option maxRecDepth 100000 in
theorem rOpp_any (a b x y : Int) (w : World) (ha : smB a b = true) (hx : smB x y = true) :
    Calls Tryz.prog 41 #[.agg #[.int .i64 a, .int .i64 b], .agg #[.int .i64 x, .int .i64 y]] w fun e w' => e = .returned (.tuple #[.agg #[.int .i64 (-b), .int .i64 (-a)], .agg #[.int .i64 (-y), .int .i64 (-x)]]) ∧ Below w.heap.size w w' := by
  have K1 := Lib.hid (fun W => rNeg_any a b W ha)
  have K2 := Lib.hid (fun W => rNeg_any x y W hx)
  clear ha hx
  have b4 : Below w.heap.size w ((((w.alloc (.cells #[.int .i64 a, .int .i64 b] 32)).alloc (.cells #[.int .i64 x, .int .i64 y] 32)).alloc (.cells #[.int .i64 0, .int .i64 0] 32)).alloc (.cells #[.int .i64 0, .int .i64 0] 32)) :=
    ((((Below.refl _ _).alloc (Nat.le_refl _) _).alloc (by simp) _).alloc (by simp; omega) _).alloc (by simp; omega) _
  have d0 := (((D2.new w a b 32).alloc (.cells #[.int .i64 x, .int .i64 y] 32)).alloc (.cells #[.int .i64 0, .int .i64 0] 32)).alloc (.cells #[.int .i64 0, .int .i64 0] 32)
  have d1 := ((D2.new (w.alloc (.cells #[.int .i64 a, .int .i64 b] 32)) x y 32).alloc (.cells #[.int .i64 0, .int .i64 0] 32)).alloc (.cells #[.int .i64 0, .int .i64 0] 32)
  have d2 := (D2.new ((w.alloc (.cells #[.int .i64 a, .int .i64 b] 32)).alloc (.cells #[.int .i64 x, .int .i64 y] 32)) 0 0 32).alloc (.cells #[.int .i64 0, .int .i64 0] 32)
  have d3 := D2.new (((w.alloc (.cells #[.int .i64 a, .int .i64 b] 32)).alloc (.cells #[.int .i64 x, .int .i64 y] 32)).alloc (.cells #[.int .i64 0, .int .i64 0] 32)) 0 0 32
  simp only [World.size_alloc] at d1 d2 d3
  rw [show w.heap.size + 1 + 1 = w.heap.size + 2 from rfl] at d2
  rw [show w.heap.size + 1 + 1 + 1 = w.heap.size + 3 from rfl] at d3
  have B4 := Lib.hid b4
  have A0 := Lib.hid d0
  have A1 := Lib.hid d1
  have A2 := Lib.hid d2
  have A3 := Lib.hid d3
  clear b4 d0 d1 d2 d3
  go_enter Tryz.func41, Tryz.ntmps41
  go_upto_region 1 with (fail)
  generalize ((((w.alloc (.cells #[.int .i64 a, .int .i64 b] 32)).alloc (.cells #[.int .i64 x, .int .i64 y] 32)).alloc (.cells #[.int .i64 0, .int .i64 0] 32)).alloc (.cells #[.int .i64 0, .int .i64 0] 32)) = W2 at B4 A0 A1 A2 A3 ⊢
  refine wp_region_inv3 (by kernel_rfl) (OpI w w.heap.size a b x y (.agg #[.int .i64 a, .int .i64 b]) (.agg #[.int .i64 (-b), .int .i64 (-a)]) (.agg #[.int .i64 x, .int .i64 y]) (.agg #[.int .i64 (-y), .int .i64 (-x)])) (waits_bind (by kernel_rfl)) ?start ?step ?fin
  case start => exact OpI.start _ B4.out A0.out A1.out A2.out A3.out
  case step =>
    clear B4 A0 A1 A2 A3
    rintro M i o a1' w' ho hL haf ⟨v6, v7, v8, v9, rfl, hT, e0, e1, e2, e2', e3, e3', f0, f1, f2, f3⟩
    have HT := Lib.hid hT
    have E0 := Lib.hid e0
    have E1 := Lib.hid e1
    have E2 := Lib.hid e2
    have E2' := Lib.hid e2'
    have E3 := Lib.hid e3
    have E3' := Lib.hid e3'
    have F0 := Lib.hid f0
    have F1 := Lib.hid f1
    have F2 := Lib.hid f2
    have F3 := Lib.hid f3
    clear hT e0 e1 e2 e2' e3 e3' f0 f1 f2 f3
    rcases i with _ | _ | _ | _ | _ | _ | i
    all_goals (simp at ho; try subst ho)
    all_goals (try simp [Region.binds] at haf)
    · obtain ⟨-, k0, k1, -, -⟩ := E0.out
      go_wp2
      unfold OpI
      exact ⟨(.agg #[.int .i64 a, .int .i64 b]), v7, v8, v9, by simp only [Act.put, List.setIfInBounds_toArray, List.set_cons_zero, List.set_cons_succ], HT.out, E0.out, E1.out, fun h => E2.out (by simpa [mkd] using h), fun h => E2'.out (by simpa [mkd] using h), fun h => E3.out (by simpa [mkd] using h), fun h => E3'.out (by simpa [mkd] using h), fun _ => rfl, fun h => F1.out (by simpa [mkd] using h), fun h => F2.out (by simpa [mkd] using h), fun h => F3.out (by simpa [mkd] using h)⟩
    · obtain rfl := (F0.out (by simp [haf])).symm
      go_wp2_with fail
      (with_reducible refine (K1.out _).mono ?_)
      rintro e w9 ⟨rfl, hb9⟩
      go_wp2
      unfold OpI
      exact ⟨(.agg #[.int .i64 a, .int .i64 b]), (.agg #[.int .i64 (-b), .int .i64 (-a)]), v8, v9, by simp only [Act.put, List.setIfInBounds_toArray, List.set_cons_zero, List.set_cons_succ], HT.out.trans (hb9.mono HT.out.size), E0.out.below hb9 E0.out.lt, E1.out.below hb9 E1.out.lt, fun h => (E2.out (by simpa [mkd] using h)).below hb9 (E2.out (by simpa [mkd] using h)).lt, fun h => (E2'.out (by simpa [mkd] using h)).below hb9 (E2'.out (by simpa [mkd] using h)).lt, fun h => (E3.out (by simpa [mkd] using h)).below hb9 (E3.out (by simpa [mkd] using h)).lt, fun h => (E3'.out (by simpa [mkd] using h)).below hb9 (E3'.out (by simpa [mkd] using h)).lt, fun _ => rfl, fun _ => rfl, fun h => F2.out (by simpa [mkd] using h), fun h => F3.out (by simpa [mkd] using h)⟩
    · obtain ⟨-, k0, k1, -, -⟩ := E1.out
      go_wp2
      unfold OpI
      exact ⟨v6, v7, (.agg #[.int .i64 x, .int .i64 y]), v9, by simp only [Act.put, List.setIfInBounds_toArray, List.set_cons_zero, List.set_cons_succ], HT.out, E0.out, E1.out, fun h => E2.out (by simpa [mkd] using h), fun h => E2'.out (by simpa [mkd] using h), fun h => E3.out (by simpa [mkd] using h), fun h => E3'.out (by simpa [mkd] using h), fun h => F0.out (by simpa [mkd] using h), fun h => F1.out (by simpa [mkd] using h), fun _ => rfl, fun h => F3.out (by simpa [mkd] using h)⟩
    · obtain rfl := (F2.out (by simp [haf])).symm
      go_wp2_with fail
      (with_reducible refine (K2.out _).mono ?_)
      rintro e w9 ⟨rfl, hb9⟩
      go_wp2
      unfold OpI
      exact ⟨v6, v7, (.agg #[.int .i64 x, .int .i64 y]), (.agg #[.int .i64 (-y), .int .i64 (-x)]), by simp only [Act.put, List.setIfInBounds_toArray, List.set_cons_zero, List.set_cons_succ], HT.out.trans (hb9.mono HT.out.size), E0.out.below hb9 E0.out.lt, E1.out.below hb9 E1.out.lt, fun h => (E2.out (by simpa [mkd] using h)).below hb9 (E2.out (by simpa [mkd] using h)).lt, fun h => (E2'.out (by simpa [mkd] using h)).below hb9 (E2'.out (by simpa [mkd] using h)).lt, fun h => (E3.out (by simpa [mkd] using h)).below hb9 (E3.out (by simpa [mkd] using h)).lt, fun h => (E3'.out (by simpa [mkd] using h)).below hb9 (E3'.out (by simpa [mkd] using h)).lt, fun h => F0.out (by simpa [mkd] using h), fun h => F1.out (by simpa [mkd] using h), fun _ => rfl, fun _ => rfl⟩
    · obtain rfl := (F1.out (by simp [haf])).symm
      have hq := E2.out hL
      have HQ := Lib.hid hq
      obtain ⟨-, k0, k1, kf0, kf1⟩ := hq
      go_wp2
      unfold OpI
      exact ⟨v6, (.agg #[.int .i64 (-b), .int .i64 (-a)]), v8, v9, by simp only [Act.put, List.setIfInBounds_toArray, List.set_cons_zero, List.set_cons_succ], (HT.out.setCell (by simp only []; omega) _).setCell (by simp only []; omega) _, E0.out.far2 (by omega) _ _, E1.out.far2 (by omega) _ _, fun h => (by simp [mkd] at h), fun _ => HQ.out.put2 _ _, fun h => (E3.out (by simpa [mkd] using h)).far2 (by omega) _ _, fun h => (E3'.out (by simpa [mkd] using h)).far2 (by omega) _ _, fun h => F0.out (by simpa [mkd] using h), fun _ => rfl, fun h => F2.out (by simpa [mkd] using h), fun h => F3.out (by simpa [mkd] using h)⟩
    · obtain rfl := (F3.out (by simp [haf])).symm
      have hq := E3.out hL
      have HQ := Lib.hid hq
      obtain ⟨-, k0, k1, kf0, kf1⟩ := hq
      go_wp2
      unfold OpI
      exact ⟨v6, v7, v8, (.agg #[.int .i64 (-y), .int .i64 (-x)]), by simp only [Act.put, List.setIfInBounds_toArray, List.set_cons_zero, List.set_cons_succ], (HT.out.setCell (by simp only []; omega) _).setCell (by simp only []; omega) _, E0.out.far2 (by omega) _ _, E1.out.far2 (by omega) _ _, fun h => (E2.out (by simpa [mkd] using h)).far2 (by omega) _ _, fun h => (E2'.out (by simpa [mkd] using h)).far2 (by omega) _ _, fun h => (by simp [mkd] at h), fun _ => HQ.out.put2 _ _, fun h => F0.out (by simpa [mkd] using h), fun h => F1.out (by simpa [mkd] using h), fun h => F2.out (by simpa [mkd] using h), fun _ => rfl⟩
  case fin =>
    rintro M a1' w8 hall ⟨v6, v7, v8, v9, rfl, hT, e0, e1, e2, e2', e3, e3', f0, f1, f2, f3⟩
    obtain ⟨-, k0, k1, -, -⟩ := e2' (hall 4 (by decide))
    obtain ⟨-, k2, k3, -, -⟩ := e3' (hall 5 (by decide))
    have HT := Lib.hid hT
    clear hT e0 e1 e2 e2' e3 e3' f0 f1 f2 f3
    go_wp2
    refine bodyPost_ret (v := .tuple #[.agg #[.int .i64 (-b), .int .i64 (-a)], .agg #[.int .i64 (-y), .int .i64 (-x)]]) (by simp [results, Tryz.results41, go_sem, *]; done) rfl ⟨rfl, HT.out⟩
end Go.Proofs.YtnbbemlchchmoaaGreat
namespace Go.Proofs.YtnbbemlchchmoaaGreat
open Go.RowKit
theorem D4.drew {W : World} {g : Nat} {a b c d : Int} (h : D4 W g a b c d) : D4 W.drew g a b c d := ⟨h.lt, h.c0, h.c1, h.c2, h.c3, h.f0, h.f1, h.f2, h.f3⟩
theorem D4.set0 {W : World} {g : Nat} {a b c d : Int} (h : D4 W g a b c d) (v : Int) : D4 (W.setCell ⟨g, 0, none⟩ (.int .i64 v)) g v b c d := by
  refine ⟨by simpa using h.lt, World.cell?_setCell_same _ _ _ h.c0, ?_, ?_, ?_, by simpa using h.f0, by simpa using h.f1, by simpa using h.f2, by simpa using h.f3⟩
  all_goals rw [World.cell?_setCell_other _ _ _ _ (by simp)]
  · exact h.c1
  · exact h.c2
  · exact h.c3
theorem D4.set1 {W : World} {g : Nat} {a b c d : Int} (h : D4 W g a b c d) (v : Int) : D4 (W.setCell ⟨g, 1, none⟩ (.int .i64 v)) g a v c d := by
  refine ⟨by simpa using h.lt, ?_, World.cell?_setCell_same _ _ _ h.c1, ?_, ?_, by simpa using h.f0, by simpa using h.f1, by simpa using h.f2, by simpa using h.f3⟩
  all_goals rw [World.cell?_setCell_other _ _ _ _ (by simp)]
  · exact h.c0
  · exact h.c2
  · exact h.c3
theorem D4.set2 {W : World} {g : Nat} {a b c d : Int} (h : D4 W g a b c d) (v : Int) : D4 (W.setCell ⟨g, 2, none⟩ (.int .i64 v)) g a b v d := by
  refine ⟨by simpa using h.lt, ?_, ?_, World.cell?_setCell_same _ _ _ h.c2, ?_, by simpa using h.f0, by simpa using h.f1, by simpa using h.f2, by simpa using h.f3⟩
  all_goals rw [World.cell?_setCell_other _ _ _ _ (by simp)]
  · exact h.c0
  · exact h.c1
  · exact h.c3
theorem D4.set3 {W : World} {g : Nat} {a b c d : Int} (h : D4 W g a b c d) (v : Int) : D4 (W.setCell ⟨g, 3, none⟩ (.int .i64 v)) g a b c v := by
  refine ⟨by simpa using h.lt, ?_, ?_, ?_, World.cell?_setCell_same _ _ _ h.c3, by simpa using h.f0, by simpa using h.f1, by simpa using h.f2, by simpa using h.f3⟩
  all_goals rw [World.cell?_setCell_other _ _ _ _ (by simp)]
  · exact h.c0
  · exact h.c1
  · exact h.c2
theorem D4.put {W : World} {g : Nat} {a b c d : Int} (h : D4 W g a b c d) (x y z t : Int) : D4 ((((W.setCell ⟨g, 0, none⟩ (.int .i64 x)).setCell ⟨g, 1, none⟩ (.int .i64 y)).setCell ⟨g, 2, none⟩ (.int .i64 z)).setCell ⟨g, 3, none⟩ (.int .i64 t)) g x y z t :=
  (((h.set0 x).set1 y).set2 z).set3 t
theorem awS {w3 W : World} {g : Nat} (h : D3 w3 g 8 128 256) (hb : Below w3.heap.size w3 W) : W.cell? ⟨g, 0, none⟩ = some (.int .i64 8) ∧ W.cell? ⟨g, 1, none⟩ = some (.int .i64 128) ∧ W.cell? ⟨g, 2, none⟩ = some (.int .i64 256) ∧ Below w3.heap.size w3 W :=
  ⟨(hb.cell (p := ⟨g, 0, none⟩) h.lt).trans h.c0, (hb.cell (p := ⟨g, 1, none⟩) h.lt).trans h.c1, (hb.cell (p := ⟨g, 2, none⟩) h.lt).trans h.c2, hb⟩
set_option maxHeartbeats 4000000 in
set_option maxRecDepth 100000 in
theorem awake47 (w : World) : Calls Tryz.prog 32 #[] w fun e w' => e = .returned (.bool true) ∧ Below w.heap.size w w' := by
  have KB := Lib.hid BoxEx
  have KC := Lib.hid aCell_ex
  have KP := Lib.hid point_any
  have KX := Lib.hid aCircle_ex
  have hq := eqlArc
  have k1 : aeq 60000 102187 60000 102187 = true := by decide
  have k2 : aeq 0 42187 0 42187 = true := by decide
  have k3 : aeq 3595000 3605000 3595000 3605000 = true := by decide
  have C0 := Lib.hid (D3.new w 8 128 256 58)
  have b0 : Below w.heap.size w (w.alloc (.cells #[.int .i64 8, .int .i64 128, .int .i64 256] 58)) := bl_alloc w _
  go_enter Tryz.func32, Tryz.ntmps32
  go_wp2_with fail
  (with_reducible refine (KB.out _).mono ?_)
  rintro e w1 ⟨rfl, hb1⟩
  have C1 := Lib.hid ((C0.out.below hb1 C0.out.lt).alloc (.cells #[.int .i64 0, .int .i64 42187, .int .i64 0, .int .i64 42187] 43))
  have B1 := Lib.hid (D4.new w1 0 42187 0 42187 43)
  have b1 := b0.trans (hb1.mono b0.size)
  have b1' := Lib.hid (b1.alloc b1.size (.cells #[.int .i64 0, .int .i64 42187, .int .i64 0, .int .i64 42187] 43))
  clear b0 C0 hb1
  go_upto_region 3 with (fail)
  generalize w1.alloc (.cells #[.int .i64 0, .int .i64 42187, .int .i64 0, .int .i64 42187] 43) = w3 at *
  have zg := b1.size
  generalize w1.heap.size = g2 at *
  clear b1
  go_cut [4, 5] (fun s4 s5 wy => ∃ q : Nat, s4 = .pointer (some ⟨q, 0, none⟩) ∧ s5 = .int .i64 0 ∧ D4 wy q 60000 102187 0 42187 ∧ D4 wy g2 0 42187 0 42187 ∧ Below w.heap.size w wy)
  case first =>
    obtain ⟨ct, c0, c1, c2⟩ := C1.out
    go_region_held3 (fun w' => w'.cell? ⟨w.heap.size, 0, none⟩ = some (.int .i64 8) ∧ w'.cell? ⟨w.heap.size, 1, none⟩ = some (.int .i64 128) ∧ w'.cell? ⟨w.heap.size, 2, none⟩ = some (.int .i64 256) ∧ Below w3.heap.size w3 w') (exact awS C1.out (by repeat (first | exact Below.refl _ _ | assumption | refine bl_drew ?_ | refine bl_drewN ?_ _ | refine Below.setCell ?_ (by first | assumption | omega | (simp; done) | (simp; omega)) _ | refine Below.alloc ?_ (by first | assumption | omega | (simp; done) | (simp; omega)) _))) (first
      | (go_at_call 42; (with_reducible refine (KP.out _ _).mono ?_); rintro e w9 ⟨rfl, hb9⟩; have Z9 := (show Below w3.heap.size w3 _ by repeat (first | exact Below.refl _ _ | assumption | refine bl_drew ?_ | refine bl_drewN ?_ _ | refine Below.setCell ?_ (by first | assumption | omega | (simp; done) | (simp; omega)) _ | refine Below.alloc ?_ (by first | assumption | omega | (simp; done) | (simp; omega)) _)).trans (hb9.mono (by first | exact Nat.le_refl _ | (simp; done) | (simp; omega) | omega)); have z9 := Z9.size; obtain ⟨yt, ya, yb, yc⟩ := C1.out.below Z9 ct; (first | (have NN := Lib.hid ((D4.new w3 0 0 0 0 43).drew.below hb9 (by simp)); have nn := NN.out; (try simp only [World.size_alloc, World.size_drew] at nn); obtain ⟨nt, n0, n1, n2, n3, nf0, nf1, nf2, nf3⟩ := nn) | (have NN := Lib.hid ((D4.new _ 0 0 0 0 43).below hb9 (by simp)); have nn := NN.out; (try simp only [World.size_alloc, World.size_drew] at nn); obtain ⟨nt, n0, n1, n2, n3, nf0, nf1, nf2, nf3⟩ := nn) | (have NN := Lib.hid (NN.out.below hb9 NN.out.lt); have nn := NN.out; (try simp only [World.size_alloc, World.size_drew] at nn); obtain ⟨nt, n0, n1, n2, n3, nf0, nf1, nf2, nf3⟩ := nn) | skip))
      | (go_at_call 36; (with_reducible refine (KC.out _).mono ?_); rintro e w9 ⟨rfl, hb9⟩; have Z9 := (show Below w3.heap.size w3 _ by repeat (first | exact Below.refl _ _ | assumption | refine bl_drew ?_ | refine bl_drewN ?_ _ | refine Below.setCell ?_ (by first | assumption | omega | (simp; done) | (simp; omega)) _ | refine Below.alloc ?_ (by first | assumption | omega | (simp; done) | (simp; omega)) _)).trans (hb9.mono (by first | exact Nat.le_refl _ | (simp; done) | (simp; omega) | omega)); have z9 := Z9.size; (first | (have NN := Lib.hid ((D4.new w3 0 0 0 0 43).drew.below hb9 (by simp)); have nn := NN.out; (try simp only [World.size_alloc, World.size_drew] at nn); obtain ⟨nt, n0, n1, n2, n3, nf0, nf1, nf2, nf3⟩ := nn) | (have NN := Lib.hid ((D4.new _ 0 0 0 0 43).below hb9 (by simp)); have nn := NN.out; (try simp only [World.size_alloc, World.size_drew] at nn); obtain ⟨nt, n0, n1, n2, n3, nf0, nf1, nf2, nf3⟩ := nn) | (have NN := Lib.hid (NN.out.below hb9 NN.out.lt); have nn := NN.out; (try simp only [World.size_alloc, World.size_drew] at nn); obtain ⟨nt, n0, n1, n2, n3, nf0, nf1, nf2, nf3⟩ := nn) | skip))
      | fail)
    all_goals
      try go_wp2_with fail
      go_meet
      case rel =>
        have hZ := b1'.out.trans (Z9.mono b1'.out.size)
        have hz3 := b1'.out.size
        have hl := B1.out.lt
        have hB := B1.out.below Z9 hl
        first
          | exact ⟨_, rfl, rfl, D4.new w9 60000 102187 0 42187 _, hB.alloc _, hZ.alloc hZ.size _⟩
          | exact ⟨_, rfl, rfl, NN.out.put 60000 102187 0 42187, (((hB.far (by first | omega | (simp only []; omega)) _).far (by first | omega | (simp only []; omega)) _).far (by first | omega | (simp only []; omega)) _).far (by first | omega | (simp only []; omega)) _, (((hZ.setCell (by first | omega | (simp only []; omega)) _).setCell (by first | omega | (simp only []; omega)) _).setCell (by first | omega | (simp only []; omega)) _).setCell (by first | omega | (simp only []; omega)) _⟩
          | fail
  case rest =>
    obtain ⟨q, rfl, rfl, hD, hB, hZ⟩ := hcut
    rename World => w4
    have D4' := Lib.hid hD
    have B4 := Lib.hid hB
    clear hD hB C1 B1 b1'
    go_wp2_with fail
    (with_reducible refine (KP.out _ _).mono ?_)
    rintro e w5 ⟨rfl, hb5⟩
    have Z5 := hZ.trans (hb5.mono hZ.size)
    have D5 := Lib.hid (D4'.out.below hb5 D4'.out.lt)
    have B5 := Lib.hid (B4.out.below hb5 B4.out.lt)
    clear hZ D4' B4 hb5
    go_wp2_with fail
    (with_reducible refine (KP.out _ _).mono ?_)
    rintro e w6 ⟨rfl, hb6⟩
    have Z6 := Z5.trans (hb6.mono Z5.size)
    have D6' := Lib.hid (D5.out.below hb6 D5.out.lt)
    have B6 := Lib.hid (B5.out.below hb6 B5.out.lt)
    clear Z5 D5 B5 hb6
    go_wp2_with fail
    (with_reducible refine (KP.out _ _).mono ?_)
    rintro e w7 ⟨rfl, hb7⟩
    have Z7 := Z6.trans (hb7.mono Z6.size)
    have D7 := Lib.hid (D6'.out.below hb7 D6'.out.lt)
    have B7 := Lib.hid (B6.out.below hb7 B6.out.lt)
    clear Z6 D6' B6 hb7
    go_wp2_with fail
    (with_reducible refine (KX.out _).mono ?_)
    rintro e w8 ⟨rfl, hb8⟩
    have Z8 := Z7.trans (hb8.mono Z7.size)
    have D8 := Lib.hid (D7.out.below hb8 D7.out.lt)
    have B8 := Lib.hid (B7.out.below hb8 B7.out.lt)
    clear Z7 D7 B7 hb8
    obtain ⟨dt, d0, d1, d2, d3, -, -, -, -⟩ := D8.out
    obtain ⟨bt, e0, e1, e2, e3, -, -, -, -⟩ := B8.out
    go_wp2
    go_ret
    refine ⟨ret_bool (by simp), ?_⟩
    have hz := Z8.size
    repeat (first | exact Below.refl _ _ | assumption | refine bl_drew ?_ | refine bl_drewN ?_ _ | refine Below.setCell ?_ (by first | assumption | omega | (simp; done) | (simp; omega)) _ | refine Below.alloc ?_ (by first | assumption | omega | (simp; done) | (simp; omega)) _)
end Go.Proofs.YtnbbemlchchmoaaGreat
namespace Go.Proofs.YtnbbemlchchmoaaGreat
open Go.RowKit
set_option maxHeartbeats 8000000 in
set_option maxRecDepth 100000 in
theorem advRegions_any (A : Option Addr) (n ca : Nat) (L : List Cl) (a b x y lev : Int) (w : World) (hr : Reads w w.heap.size 3 A n (cvs L)) (hn : n ≤ ca) (hca : ca ≤ maxLen) :
    Calls Tryz.prog 8 #[.slice A n ca, .agg #[.int .i64 a, .int .i64 b], .agg #[.int .i64 x, .int .i64 y], .int .i64 lev] w fun e w' => e = .returned (.bool true) ∧ Below w.heap.size w w' := by
  have RD := Lib.hid (fun (W : World) (hW : Below w.heap.size w W) => (hr.below hW).more hW.size)
  have KA := Lib.hid awake47
  have b0 := (bl_alloc w (.cells #[.int .i64 a, .int .i64 b] 32)).alloc (by simp) (.cells #[.int .i64 x, .int .i64 y] 32)
  have DA := Lib.hid ((D2.new w a b 32).alloc (.cells #[.int .i64 x, .int .i64 y] 32))
  have dx := D2.new (w.alloc (.cells #[.int .i64 a, .int .i64 b] 32)) x y 32
  rw [World.size_alloc] at dx
  have DX := Lib.hid dx
  have B0 := Lib.hid b0
  clear hr b0 dx
  by_cases hs : n ≤ 10
  · have ds : decide (10 < (n : Int)) = false := decide_eq_false (by omega)
    have KR := Lib.hid (fun (W : World) (hW : Below w.heap.size w W) => rRegion_any A n ca L a b x y lev 60 W (RD.out W hW) hn hca (by omega) (by decide) (by decide))
    have hn20 : n ≤ 20 := by omega
    have HN := Lib.hid hn
    have HC := Lib.hid hca
    have HM := Lib.hid hn20
    clear hn hca hn20
    go_enter Tryz.func8, Tryz.ntmps8
    go_wp2_with fail
    (with_reducible refine (KA.out _).mono ?_)
    rintro e w1 ⟨rfl, hb1⟩
    have B1 := Lib.hid (B0.out.trans (hb1.mono B0.out.size))
    have DA1 := Lib.hid (DA.out.below hb1 DA.out.lt)
    have DX1 := Lib.hid (DX.out.below hb1 DX.out.lt)
    clear hb1 B0 DA DX KA
    obtain ⟨-, p0, p1, -, -⟩ := DA1.out
    obtain ⟨-, p2, p3, -, -⟩ := DX1.out
    go_wp2_with fail
    (with_reducible refine (KR.out _ B1.out).mono ?_)
    rintro e w2 ⟨v2, M, E, rfl, hown2, hb2, hd⟩
    have HD : Hid (RgD L a b x y lev M E) := Lib.hid hd
    have B2 := Lib.hid (B1.out.trans (hb2.mono B1.out.size))
    have DA2 := Lib.hid (DA1.out.below hb2 DA1.out.lt)
    have DX2 := Lib.hid (DX1.out.below hb2 DX1.out.lt)
    have OW2 := Lib.hid hown2
    obtain ⟨A2, c2, rfl, -, -, -⟩ := own_form hown2
    clear hb2 B1 DA1 DX1 hd KR hown2 p0 p1 p2 p3
    by_cases hE : E = -1
    · subst hE
      go_wp2
      go_ret
      exact ⟨rfl, B2.out⟩
    · have k1 : (E == (-1 : Int)) = false := by simpa using hE
      have KG := Lib.hid (fun (W : World) (hW : Below w.heap.size w W) => aReg_same (RD.out W hW) HN.out HC.out HM.out HD.out hE)
      obtain ⟨-, p0, p1, -, -⟩ := DA2.out
      obtain ⟨-, p2, p3, -, -⟩ := DX2.out
      clear hE
      go_wp2_with fail
      (with_reducible refine (KG.out _ B2.out).mono ?_)
      rintro e w3 ⟨v3, rfl, hown3, hb3⟩
      have B3 := Lib.hid (B2.out.trans (hb3.mono B2.out.size))
      have DA3 := Lib.hid (DA2.out.below hb3 DA2.out.lt)
      have DX3 := Lib.hid (DX2.out.below hb3 DX2.out.lt)
      have ow2 := own_bl OW2.out hb3 (Nat.le_refl _)
      obtain ⟨A3, c3, rfl, hr3, h31, h32⟩ := own_form hown3
      obtain ⟨A2', c2', he2, hr2, h21, h22⟩ := own_form ow2
      cases he2
      have KS := Same_any A3 A2 M.length M.length c3 c2 M M w3 _ _ hr3 hr2 (Nat.le_trans h31 h32) (Nat.le_trans h21 h22)
      rw [decide_eq_true (rfl : M = M)] at KS
      have KS := Lib.hid KS
      clear hb3 B2 DA2 DX2 hown3 ow2 hr3 hr2 h31 h32 h21 h22 p0 p1 p2 p3 OW2 KG
      go_wp2_with fail
      (with_reducible refine (KS.out).mono ?_)
      rintro e w4 ⟨rfl, q4, hq4⟩
      have hb4 : Below w3.heap.size w3 w4 := by rw [hq4]; exact bl_drewN (Below.refl _ _) _
      have B4 := Lib.hid (B3.out.trans (hb4.mono B3.out.size))
      have DA4 := Lib.hid (DA3.out.below hb4 DA3.out.lt)
      have DX4 := Lib.hid (DX3.out.below hb4 DX3.out.lt)
      clear hb4 hq4 B3 DA3 DX3 KS
      obtain ⟨-, p0, p1, -, -⟩ := DA4.out
      obtain ⟨-, p2, p3, -, -⟩ := DX4.out
      by_cases hE1 : E = 1
      · have KB := Lib.hid (fun (W : World) (hW : Below w.heap.size w W) => Back_bad A n ca L a b x y lev W (RD.out W hW) HN.out HC.out ((rgd_one HD.out).1 hE1))
        clear HD
        subst hE1
        go_wp2_with fail
        (with_reducible refine (KB.out _ B4.out).mono ?_)
        rintro e w5 ⟨v5, rfl, hown5, hb5⟩
        have B5 := Lib.hid (B4.out.trans (hb5.mono B4.out.size))
        obtain ⟨A5, c5, rfl, -, -, -⟩ := own_form hown5
        clear hb5 hown5
        go_wp2
        go_ret
        exact ⟨rfl, B5.out⟩
      · have k2 : (E == (1 : Int)) = false := by simpa using hE1
        have hg1 : gvE L a b x y lev ≠ 1 := fun h => hE1 ((rgd_one HD.out).2 h)
        have hvm : (vrB L && (smB a b && smB x y)) = true := by
          rw [← Bool.not_eq_false]
          exact fun h => hg1 (gvE_one.2 h)
        rw [Bool.and_eq_true, Bool.and_eq_true] at hvm
        obtain ⟨hv, ha, hx⟩ := hvm
        have KO := Lib.hid (fun W => rOpp_any a b x y W ha hx)
        have KR := Lib.hid (fun (W : World) (hW : Below w.heap.size w W) => rRegion_any A n ca L (-b) (-a) (-y) (-x) lev 60 W (RD.out W hW) HN.out HC.out HM.out (by decide) (by decide))
        have HV := Lib.hid hv
        have HA := Lib.hid ha
        have HX := Lib.hid hx
        clear hE1 hg1 hv ha hx HD
        go_wp2_with fail
        (with_reducible refine (KO.out _).mono ?_)
        rintro e w5 ⟨rfl, hb5⟩
        have b6 := B4.out.trans (hb5.mono B4.out.size)
        have B6 := Lib.hid ((b6.alloc b6.size (.cells #[.int .i64 (-b), .int .i64 (-a)] 32)).alloc (by have := b6.size; simp; omega) (.cells #[.int .i64 (-y), .int .i64 (-x)] 32))
        have DA6 := Lib.hid (((DA4.out.below hb5 DA4.out.lt).alloc (.cells #[.int .i64 (-b), .int .i64 (-a)] 32)).alloc (.cells #[.int .i64 (-y), .int .i64 (-x)] 32))
        have DX6 := Lib.hid (((DX4.out.below hb5 DX4.out.lt).alloc (.cells #[.int .i64 (-b), .int .i64 (-a)] 32)).alloc (.cells #[.int .i64 (-y), .int .i64 (-x)] 32))
        clear hb5 b6 B4 DA4 DX4 p0 p1 p2 p3 KO
        go_wp2_with fail
        (with_reducible refine (KR.out _ B6.out).mono ?_)
        rintro e w7 ⟨v7, M', E', rfl, hown7, hb7, hd'⟩
        have HD' : Hid (RgD L (-b) (-a) (-y) (-x) lev M' E') := Lib.hid hd'
        have B7 := Lib.hid (B6.out.trans (hb7.mono B6.out.size))
        have DA7 := Lib.hid (DA6.out.below hb7 DA6.out.lt)
        have DX7 := Lib.hid (DX6.out.below hb7 DX6.out.lt)
        have OW7 := Lib.hid hown7
        obtain ⟨A7, c7, rfl, -, -, -⟩ := own_form hown7
        clear hb7 B6 DA6 DX6 hd' KR hown7
        by_cases hE' : E' = -1
        · subst hE'
          go_wp2
          go_ret
          exact ⟨rfl, B7.out⟩
        · have k3 : (E' == (-1 : Int)) = false := by simpa using hE'
          have KB := Lib.hid (fun (W : World) (hW : Below w.heap.size w W) => Back_yes A n ca L a b x y lev E' M' W (RD.out W hW) HN.out HC.out HV.out HA.out HX.out (fun W' hW' => aReg_same (RD.out W' (hW.trans (hW'.mono hW.size))) HN.out HC.out HM.out HD'.out hE'))
          obtain ⟨-, p0, p1, -, -⟩ := DA7.out
          obtain ⟨-, p2, p3, -, -⟩ := DX7.out
          clear hE'
          go_wp2_with fail
          (with_reducible refine (KB.out _ B7.out).mono ?_)
          rintro e w8 ⟨v8, rfl, hown8, hb8⟩
          have B8 := Lib.hid (B7.out.trans (hb8.mono B7.out.size))
          have ow7 := own_bl OW7.out hb8 (Nat.le_refl _)
          obtain ⟨A8, c8, rfl, hr8, h81, h82⟩ := own_form hown8
          obtain ⟨A7', c7', he7, hr7, h71, h72⟩ := own_form ow7
          cases he7
          have KS := Same_any A8 A7 M'.length M'.length c8 c7 M' M' w8 _ _ hr8 hr7 (Nat.le_trans h81 h82) (Nat.le_trans h71 h72)
          rw [decide_eq_true (rfl : M' = M')] at KS
          have KS := Lib.hid KS
          clear hb8 B7 DA7 DX7 hown8 ow7 hr8 hr7 h81 h82 h71 h72 p0 p1 p2 p3 OW7 KB
          go_wp2_with fail
          (with_reducible refine (KS.out).mono ?_)
          rintro e w9 ⟨rfl, q9, hq9⟩
          have B9 : Hid (Below w.heap.size w w9) := Lib.hid (by rw [hq9]; exact bl_drewN B8.out _)
          clear hq9 KS
          go_wp2
          go_ret
          exact ⟨rfl, B9.out⟩
  · have ds : decide (10 < (n : Int)) = true := decide_eq_true (by omega)
    clear hs hn hca
    go_enter Tryz.func8, Tryz.ntmps8
    go_wp2_with fail
    (with_reducible refine (KA.out _).mono ?_)
    rintro e w1 ⟨rfl, hb1⟩
    have B1 := Lib.hid (B0.out.trans (hb1.mono B0.out.size))
    clear hb1 B0 DA DX KA
    go_wp2
    go_ret
    exact ⟨rfl, B1.out⟩
end Go.Proofs.YtnbbemlchchmoaaGreat
namespace Go.Proofs.YtnbbemlchchmoaaGreat
open Go.ChangeShapes Go.WideShapes Go.ChangeAt Go.RowKit
theorem Tryz.own : ownKnob Tryz.prog.godebug = none := by kernel_rfl
section
variable {H : Type} {enc : TypeId × Value → H} {P : Program}
theorem post_of_below {f : Func} {s : ChangeSpec} {apart fresh handsOn again : Bool} {W W' : World} {args : Array Value} {v : Value} {ds gs : List (DataW H)} {before pa pv : List MemPlace}
    (hW : DataW.Whole enc P f.params.toList s.vars apart W args.toList ds gs before)
    (hres : ∀ (b : Nat) (sp : Nat → Bool) (hd : Bool), DataW.TrodAll enc P W' b sp hd f.resultTypes.toList (v.resultList f.resultTypes.size) (s.fn H (ds ++ gs)).results [])
    (hargs : ∀ sp : Nat → Bool, (∀ p ∈ before, sp p.block = true) → DataW.TrodAll enc P W' 0 sp true f.params.toList args.toList (s.fn H (ds ++ gs)).args pa)
    (hvars : ∀ sp : Nat → Bool, (∀ p ∈ before, sp p.block = true) → DataW.TrodVars enc P W' sp s.vars (s.fn H (ds ++ gs)).vars pv)
    (hps : before = pa ++ pv) (hb : Below W.heap.size W W')
    (hok : ∀ (j : Nat) (t : TypeId) (r : Value), f.resultTypes[j]? = some t → (v.resultList f.resultTypes.size)[j]? = some r → Value.okWide P W' .any 0 t r) :
    s.post enc P f apart fresh handsOn again W args v W' := by
  have hlt : ∀ p ∈ before, p.block < W.heap.size := fun p hp => hW.lt p hp
  have hold : ∀ p ∈ before, (fun b => decide (b < W.heap.size)) p.block = true := fun p hp => by simpa using hlt p hp
  refine ⟨ds, gs, before, [], pa, pv, hW, hres _ _ _, hargs _ hold, hvars _ hold, World.keptBut_mono (fun p hp => ⟨hp, ?_⟩) (hb.frame (· ∈ before)), fun _ => ?_⟩
  · rw [hps, List.mem_append] at hp
    exact Or.inr hp
  · obtain ⟨_, _, _, _, _, hz, hn⟩ := hW
    refine ⟨hok, _, _, ([] ++ pa) ++ pv, ⟨[] ++ pa, pv, trodAll_append (hargs _ (fun _ _ => rfl)) (hres _ _ _), hvars _ (fun _ _ => rfl), rfl, ?_, ?_⟩, ?_⟩
    · intro b off hp
      have hin : MemPlace.cell b off ∈ before := by rw [hps]; simpa using hp
      rw [hb.frozen (hlt _ hin)]
      exact hz b off hin
    · intro ha
      have := hn ha
      rw [hps] at this
      simpa using this
    · intro p hp _
      rw [hps]
      simpa using hp
end
end Go.Proofs.YtnbbemlchchmoaaGreat
