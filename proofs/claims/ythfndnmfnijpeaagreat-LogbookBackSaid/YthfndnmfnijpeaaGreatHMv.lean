/- reckoning.Leg of an hour's run due north. -/
import Derived.BigRegion
import Derived.Deep.RegionHeld3
import Derived.Test.YthfndnmfnijpeaaGreatHMu
import Derived.Test.YthfndnmfnijpeaaGreatHMp
import Derived.Test.YthfndnmfnijpeaaGreatHMr
set_option linter.unusedVariables false
set_option linter.unusedSimpArgs false
namespace Go.Proofs.YthfndnmfnijpeaaGreat
open Go.RowKit Go.Shelf
set_option maxHeartbeats 8000000 in
set_option maxRecDepth 100000 in
theorem sail_north (g : Nat) (w : World) (hS : Blk w g 151 #[.int .i64 3000000, .int .i64 3000000, .int .i64 3000000, .int .i64 3000000, .int .i64 0, .int .i64 0, .int .i64 0, .int .i64 0]) : Calls Tryz.prog 79 #[.pointer (some ⟨g, 0, none⟩), .agg #[.int .i64 0, .int .i64 0, .int .i64 10000, .int .i64 10000]] w fun e w' => e = .returned (.int .i64 0) ∧ Blk w' g 151 #[.int .i64 3010000, .int .i64 3010000, .int .i64 3000000, .int .i64 3010000, .int .i64 0, .int .i64 0, .int .i64 0, .int .i64 0] ∧ AdK g (.slice none 0 0) w w' := by
  have KP := Lib.hid Plane_north
  have hg := hS.lt
  have X0 := Lib.hid (hS.alloc (.cells #[.int .i64 0, .int .i64 0, .int .i64 10000, .int .i64 10000] 112))
  have k0 := (AdK.refl g (.slice none 0 0) w).bl (bl_alloc w (.cells #[.int .i64 0, .int .i64 0, .int .i64 10000, .int .i64 10000] 112))
  have L0 := Blk.new w 112 #[.int .i64 0, .int .i64 0, .int .i64 10000, .int .i64 10000]
  clear hS
  go_enter Tryz.func79, Tryz.ntmps79
  go_upto_region 1 with fail
  generalize w.alloc (.cells #[.int .i64 0, .int .i64 0, .int .i64 10000, .int .i64 10000] 112) = wa at *
  have x0 : ∀ i, wa.cell? ⟨w.heap.size, i, none⟩ = (#[.int .i64 0, .int .i64 0, .int .i64 10000, .int .i64 10000] : Array Value)[i]? := fun i => L0.cell i
  clear L0
  go_wp2_with fail
  (with_reducible refine (KP.out _).mono ?_)
  rintro e w1 ⟨rfl, hb1⟩
  have X1 := Lib.hid (((X0.out.below hb1 X0.out.lt).alloc (.cells #[.int .i64 10000, .int .i64 10000] 24)).alloc (.cells #[.int .i64 0, .int .i64 0] 24))
  have hz := X0.out.lt
  have k1 := Lib.hid (((k0.bl hb1).bl (bl_alloc w1 (.cells #[.int .i64 10000, .int .i64 10000] 24))).bl (bl_alloc _ (.cells #[.int .i64 0, .int .i64 0] 24)))
  have P1 := Lib.hid (show Blk ((w1.alloc (.cells #[.int .i64 10000, .int .i64 10000] 24)).alloc (.cells #[.int .i64 0, .int .i64 0] 24)) w1.heap.size 24 #[.int .i64 10000, .int .i64 10000] from (Blk.new w1 24 #[.int .i64 10000, .int .i64 10000]).alloc _)
  have Q1 := Lib.hid (show Blk ((w1.alloc (.cells #[.int .i64 10000, .int .i64 10000] 24)).alloc (.cells #[.int .i64 0, .int .i64 0] 24)) (w1.heap.size + 1) 24 #[.int .i64 0, .int .i64 0] from by have := Blk.new (w1.alloc (.cells #[.int .i64 10000, .int .i64 10000] 24)) 24 #[.int .i64 0, .int .i64 0]; simpa using this)
  have hsz : g < w1.heap.size := Nat.lt_of_lt_of_le hz hb1.size
  clear hb1 k0 X0 x0
  go_upto_region 4 with fail
  generalize (w1.alloc (.cells #[.int .i64 10000, .int .i64 10000] 24)).alloc (.cells #[.int .i64 0, .int .i64 0] 24) = v4 at *
  have m1 : (min 3000000 3010000 : Int) = 3000000 := by omega
  have m2 : (max 3000000 3010000 : Int) = 3010000 := by omega
  have xs : ∀ i, v4.cell? ⟨g, i, none⟩ = (#[.int .i64 3000000, .int .i64 3000000, .int .i64 3000000, .int .i64 3000000, .int .i64 0, .int .i64 0, .int .i64 0, .int .i64 0] : Array Value)[i]? := fun i => X1.out.cell i
  have fs : ∀ i, v4.frozen? ⟨g, i, none⟩ = false := fun i => X1.out.frozen i
  have ys : ∀ i, v4.cell? ⟨w1.heap.size, i, none⟩ = (#[.int .i64 10000, .int .i64 10000] : Array Value)[i]? := fun i => P1.out.cell i
  have zs : ∀ i, v4.cell? ⟨w1.heap.size + 1, i, none⟩ = (#[.int .i64 0, .int .i64 0] : Array Value)[i]? := fun i => Q1.out.cell i
  go_region
  have X2 := Lib.hid (show Blk (((v4.setCell ⟨g, 0, none⟩ (.int .i64 3010000)).setCell ⟨g, 1, none⟩ (.int .i64 3010000)).drew) g 151 #[.int .i64 3010000, .int .i64 3010000, .int .i64 3000000, .int .i64 3000000, .int .i64 0, .int .i64 0, .int .i64 0, .int .i64 0] from ((X1.out.set_ 0 (.int .i64 3010000)).set_ 1 (.int .i64 3010000)).drew)
  have P2 := Lib.hid (show Blk (((v4.setCell ⟨g, 0, none⟩ (.int .i64 3010000)).setCell ⟨g, 1, none⟩ (.int .i64 3010000)).drew) w1.heap.size 24 #[.int .i64 10000, .int .i64 10000] from ((P1.out.far (by simp; omega) _).far (by simp; omega) _).drew)
  have Q2 := Lib.hid (show Blk (((v4.setCell ⟨g, 0, none⟩ (.int .i64 3010000)).setCell ⟨g, 1, none⟩ (.int .i64 3010000)).drew) (w1.heap.size + 1) 24 #[.int .i64 0, .int .i64 0] from ((Q1.out.far (by simp; omega) _).far (by simp; omega) _).drew)
  have k2 := Lib.hid (((k1.out.set 0 (.int .i64 3010000)).set 1 (.int .i64 3010000)).bl (bl_drew (Below.refl _ _)))
  clear X1 P1 Q1 k1 xs fs ys zs
  generalize ((v4.setCell ⟨g, 0, none⟩ (.int .i64 3010000)).setCell ⟨g, 1, none⟩ (.int .i64 3010000)).drew = v5 at *
  go_upto_region 5 with fail
  have xs : ∀ i, v5.cell? ⟨g, i, none⟩ = (#[.int .i64 3010000, .int .i64 3010000, .int .i64 3000000, .int .i64 3000000, .int .i64 0, .int .i64 0, .int .i64 0, .int .i64 0] : Array Value)[i]? := fun i => X2.out.cell i
  have fs : ∀ i, v5.frozen? ⟨g, i, none⟩ = false := fun i => X2.out.frozen i
  have ys : ∀ i, v5.cell? ⟨w1.heap.size, i, none⟩ = (#[.int .i64 10000, .int .i64 10000] : Array Value)[i]? := fun i => P2.out.cell i
  have zs : ∀ i, v5.cell? ⟨w1.heap.size + 1, i, none⟩ = (#[.int .i64 0, .int .i64 0] : Array Value)[i]? := fun i => Q2.out.cell i
  go_region
  have X3 := Lib.hid (show Blk (((v5.setCell ⟨g, 2, none⟩ (.int .i64 3000000)).setCell ⟨g, 3, none⟩ (.int .i64 3010000)).drew) g 151 #[.int .i64 3010000, .int .i64 3010000, .int .i64 3000000, .int .i64 3010000, .int .i64 0, .int .i64 0, .int .i64 0, .int .i64 0] from ((X2.out.set_ 2 (.int .i64 3000000)).set_ 3 (.int .i64 3010000)).drew)
  have P3 := Lib.hid (show Blk (((v5.setCell ⟨g, 2, none⟩ (.int .i64 3000000)).setCell ⟨g, 3, none⟩ (.int .i64 3010000)).drew) w1.heap.size 24 #[.int .i64 10000, .int .i64 10000] from ((P2.out.far (by simp; omega) _).far (by simp; omega) _).drew)
  have Q3 := Lib.hid (show Blk (((v5.setCell ⟨g, 2, none⟩ (.int .i64 3000000)).setCell ⟨g, 3, none⟩ (.int .i64 3010000)).drew) (w1.heap.size + 1) 24 #[.int .i64 0, .int .i64 0] from ((Q2.out.far (by simp; omega) _).far (by simp; omega) _).drew)
  have k3 := Lib.hid (((k2.out.set 2 (.int .i64 3000000)).set 3 (.int .i64 3010000)).bl (bl_drew (Below.refl _ _)))
  clear X2 P2 Q2 k2 xs fs ys zs
  generalize ((v5.setCell ⟨g, 2, none⟩ (.int .i64 3000000)).setCell ⟨g, 3, none⟩ (.int .i64 3010000)).drew = v6 at *
  go_upto_region 6 with fail
  clear m1 m2
  refine sailR6 g (w1.heap.size + 1) 0 (by omega) rfl (fun i => X3.out.drew.cell i) (fun i => X3.out.drew.frozen i) (fun i => Q3.out.drew.cell i) ?_
  intro y63 y64 y65 y66 y67 y68 y69 y70 y71 y72 y73 y74 y75 y76 y77 y78 y79 y80 y81 y82 y83 y84
  have X4 := Lib.hid (show Blk ((v6.drew.setCell ⟨g, 4, none⟩ (.int .i64 0)).setCell ⟨g, 5, none⟩ (.int .i64 0)) g 151 #[.int .i64 3010000, .int .i64 3010000, .int .i64 3000000, .int .i64 3010000, .int .i64 0, .int .i64 0, .int .i64 0, .int .i64 0] from (X3.out.drew.set_ 4 (.int .i64 0)).set_ 5 (.int .i64 0))
  have Q4 := Lib.hid (show Blk ((v6.drew.setCell ⟨g, 4, none⟩ (.int .i64 0)).setCell ⟨g, 5, none⟩ (.int .i64 0)) (w1.heap.size + 1) 24 #[.int .i64 0, .int .i64 0] from (Q3.out.drew.far (by simp; omega) _).far (by simp; omega) _)
  have k4 := Lib.hid (show AdK g (.slice none 0 0) w ((v6.drew.setCell ⟨g, 4, none⟩ (.int .i64 0)).setCell ⟨g, 5, none⟩ (.int .i64 0)) from (((k3.out.bl (bl_drew (Below.refl _ _))).set 4 (.int .i64 0)).set 5 (.int .i64 0)))
  clear X3 P3 Q3 k3
  generalize ((v6.drew.setCell ⟨g, 4, none⟩ (.int .i64 0)).setCell ⟨g, 5, none⟩ (.int .i64 0)) = v7 at *
  go_upto_region 7 with fail
  refine sailR7 g (w1.heap.size + 1) 0 (by omega) rfl (fun i => X4.out.drew.cell i) (fun i => X4.out.drew.frozen i) (fun i => Q4.out.drew.cell i) ?_
  intro z85 z86 z87 z88 z89 z90 z91 z92 z93 z94 z95 z96 z97 z98 z99 z100 z101 z102 z103 z104 z105 z106
  have X5 := Lib.hid (show Blk ((v7.drew.setCell ⟨g, 6, none⟩ (.int .i64 0)).setCell ⟨g, 7, none⟩ (.int .i64 0)) g 151 #[.int .i64 3010000, .int .i64 3010000, .int .i64 3000000, .int .i64 3010000, .int .i64 0, .int .i64 0, .int .i64 0, .int .i64 0] from (X4.out.drew.set_ 6 (.int .i64 0)).set_ 7 (.int .i64 0))
  have k5 := Lib.hid (show AdK g (.slice none 0 0) w ((v7.drew.setCell ⟨g, 6, none⟩ (.int .i64 0)).setCell ⟨g, 7, none⟩ (.int .i64 0)) from (((k4.out.bl (bl_drew (Below.refl _ _))).set 6 (.int .i64 0)).set 7 (.int .i64 0)))
  clear X4 Q4 k4
  generalize ((v7.drew.setCell ⟨g, 6, none⟩ (.int .i64 0)).setCell ⟨g, 7, none⟩ (.int .i64 0)) = v8 at *
  go_wp2
  go_ret
  exact ⟨rfl, X5.out, k5.out⟩
end Go.Proofs.YthfndnmfnijpeaaGreat
namespace Go.Proofs.YthfndnmfnijpeaaGreat
open Go.RowKit Go.Shelf
theorem Blk.adk {w w' : World} {b g : Nat} {t : TypeId} {cs : Array Value} (h : Blk w b t cs) (k : AdK g (.slice none 0 0) w w') (hb : b ≠ g) : Blk w' b t cs := (k.block b h.lt hb (by simp [Value.ownBlock])).trans h
theorem result_zero (w : World) : Calls Tryz.prog 110 #[.int .i64 0, .int .i64 0] w fun e w' => e = .returned (.tuple #[.agg #[.int .i64 0, .int .i64 0], .int .i64 0]) ∧ Below w.heap.size w w' := by
  have K := Lib.hid (fun W => fits_any 0 W)
  rw [show rchB 0 = true from rfl] at K
  go_enter Tryz.func110, Tryz.ntmps110
  go_wp2_with (go_at_call 53; (with_reducible refine (K.out _).mono ?_); rintro e w9 ⟨rfl, rfl⟩)
  refine bodyPost_ret (v := .tuple #[.agg #[.int .i64 0, .int .i64 0], .int .i64 0]) (by simp [results, Tryz.results110, go_sem, *]; done) rfl ⟨rfl, ?_⟩
  repeat (first | exact Below.refl _ _ | assumption | refine bl_drew ?_ | refine bl_drewN ?_ _ | refine Below.setCell ?_ (by first | assumption | omega | (simp; done) | (simp; omega)) _ | refine Below.alloc ?_ (by first | assumption | omega | (simp; done) | (simp; omega)) _)
set_option maxHeartbeats 4000000 in
theorem add_zero (w : World) : Calls Tryz.prog 81 #[.agg #[.int .i64 0, .int .i64 0], .agg #[.int .i64 0, .int .i64 0]] w fun e w' => e = .returned (.tuple #[.agg #[.int .i64 0, .int .i64 0], .int .i64 0]) ∧ Below w.heap.size w w' := by
  have K := Lib.hid (fun W => aValid_any 0 0 W)
  rw [show avB 0 0 = true from rfl] at K
  have KR := Lib.hid result_zero
  have A0 := Lib.hid (((Blk.new w 24 #[.int .i64 0, .int .i64 0]).alloc (.cells #[.int .i64 0, .int .i64 0] 24)).alloc (.cells #[.int .i64 0, .int .i64 0] 24))
  have A1 := Lib.hid ((Blk.new (w.alloc (.cells #[.int .i64 0, .int .i64 0] 24)) 24 #[.int .i64 0, .int .i64 0]).alloc (.cells #[.int .i64 0, .int .i64 0] 24))
  have A2 := Lib.hid (Blk.new ((w.alloc (.cells #[.int .i64 0, .int .i64 0] 24)).alloc (.cells #[.int .i64 0, .int .i64 0] 24)) 24 #[.int .i64 0, .int .i64 0])
  have b0 : Below w.heap.size w (((w.alloc (.cells #[.int .i64 0, .int .i64 0] 24)).alloc (.cells #[.int .i64 0, .int .i64 0] 24)).alloc (.cells #[.int .i64 0, .int .i64 0] 24)) := (((Below.refl _ _).alloc (Nat.le_refl _) _).alloc (by simp) _).alloc (by simp; omega) _
  simp only [World.size_alloc] at A1 A2
  go_enter Tryz.func81, Tryz.ntmps81
  go_upto_region 1 with fail
  generalize ((w.alloc (.cells #[.int .i64 0, .int .i64 0] 24)).alloc (.cells #[.int .i64 0, .int .i64 0] 24)).alloc (.cells #[.int .i64 0, .int .i64 0] 24) = wa at *
  have x0 : ∀ i, wa.cell? ⟨w.heap.size, i, none⟩ = (#[.int .i64 0, .int .i64 0] : Array Value)[i]? := fun i => A0.out.cell i
  go_wp2_with fail
  (with_reducible refine (K.out _).mono ?_)
  rintro e w1 ⟨rfl, hb1⟩
  have B0 := Lib.hid (A0.out.below hb1 A0.out.lt)
  have B1 := Lib.hid (A1.out.below hb1 A1.out.lt)
  have B2 := Lib.hid (A2.out.below hb1 A2.out.lt)
  have b1 := Lib.hid (b0.trans (hb1.mono b0.size))
  clear hb1 b0 A0 A1 A2 x0
  have x1 : ∀ i, w1.cell? ⟨w.heap.size + 1, i, none⟩ = (#[.int .i64 0, .int .i64 0] : Array Value)[i]? := fun i => B1.out.cell i
  go_wp2_with fail
  (with_reducible refine (K.out _).mono ?_)
  rintro e w2 ⟨rfl, hb1⟩
  have C0 := Lib.hid (B0.out.below hb1 B0.out.lt)
  have C1 := Lib.hid (B1.out.below hb1 B1.out.lt)
  have C2 := Lib.hid (B2.out.below hb1 B2.out.lt)
  have c1 := Lib.hid (b1.out.trans (hb1.mono b1.out.size))
  clear hb1 b1 B0 B1 B2 x1
  have x0 : ∀ i, w2.cell? ⟨w.heap.size, i, none⟩ = (#[.int .i64 0, .int .i64 0] : Array Value)[i]? := fun i => C0.out.cell i
  have x1 : ∀ i, w2.cell? ⟨w.heap.size + 1, i, none⟩ = (#[.int .i64 0, .int .i64 0] : Array Value)[i]? := fun i => C1.out.cell i
  go_wp2_with fail
  (with_reducible refine (KR.out _).mono ?_)
  rintro e w3 ⟨rfl, hb1⟩
  have D2 := Lib.hid (C2.out.below hb1 C2.out.lt)
  have d1 := Lib.hid (c1.out.trans (hb1.mono c1.out.size))
  clear hb1 c1 C0 C1 C2 x0 x1
  have y : ∀ i, w3.cell? ⟨w.heap.size + 1 + 1, i, none⟩ = (#[.int .i64 0, .int .i64 0] : Array Value)[i]? := fun i => D2.out.cell i
  have f : ∀ i, w3.frozen? ⟨w.heap.size + 1 + 1, i, none⟩ = false := fun i => D2.out.frozen i
  go_wp2
  refine bodyPost_ret (v := .tuple #[.agg #[.int .i64 0, .int .i64 0], .int .i64 0]) (by simp [results, Tryz.results81, go_sem, *]; done) rfl ⟨rfl, ?_⟩
  exact (d1.out.setCell (by simp; omega) _).setCell (by simp; omega) _
theorem dlonZ : dnV 3000000 3010000 0 0 = .tuple #[.agg #[.int .i64 0, .int .i64 0], .int .i64 0] := by
  have h2 : ¬ Trig.enLo (3000000 + 5400000) (3010000 + 5400000) ≤ 0 := by decide +kernel
  have h3 : dlG 0 0 (Trig.enLo (3000000 + 5400000) (3010000 + 5400000)) (Trig.enHi (3000000 + 5400000) (3010000 + 5400000)) = true := by decide +kernel
  have h4 : dlA 0 0 (Trig.enLo (3000000 + 5400000) (3010000 + 5400000)) (Trig.enHi (3000000 + 5400000) (3010000 + 5400000)) = 0 := by decide +kernel
  have h5 : dlB 0 0 (Trig.enLo (3000000 + 5400000) (3010000 + 5400000)) (Trig.enHi (3000000 + 5400000) (3010000 + 5400000)) = 0 := by decide +kernel
  unfold dnV dlV
  rw [if_neg h2, if_pos h3, h4, h5]
theorem run_dlon (w : World) : Calls Tryz.prog 80 #[.agg #[.int .i64 3000000, .int .i64 3010000], .agg #[.int .i64 0, .int .i64 0]] w fun e w' => e = .returned (.tuple #[.agg #[.int .i64 0, .int .i64 0], .int .i64 0]) ∧ Below w.heap.size w w' := by
  have h := Dlon_any 3000000 3010000 0 0 w (by omega) (by omega) (by omega) rfl
  rw [dlonZ] at h
  exact h
set_option maxHeartbeats 8000000 in
set_option maxRecDepth 100000 in
theorem Run_north (h c : Nat) (w : World) (hh : h < w.heap.size) (hl : ∀ j : Nat, j < 4 → w.cell? ⟨h, j, none⟩ = (#[.int .i64 0, .int .i64 0, .int .i64 10000, .int .i64 10000] : Array Value)[j]?) :
    Calls Tryz.prog 45 #[.agg #[.int .i64 3000000, .int .i64 3000000, .int .i64 0, .int .i64 0], .slice (some ⟨h, 0, none⟩) 1 c] w fun e w' => e = .returned (.tuple #[.agg #[.int .i64 3010000, .int .i64 3010000, .int .i64 0, .int .i64 0], .int .i64 0]) ∧ Below w.heap.size w w' := by
  have K1 := Lib.hid (fun W => placeL_any 3000000 3000000 0 0 W)
  rw [show plB 3000000 3000000 0 0 = true from by decide +kernel] at K1
  have HL := Lib.hid (fun (W : World) (hb : Below w.heap.size w W) (j : Nat) (hj : j < 4) => (hb.cell (p := ⟨h, j, none⟩) hh).trans (hl j hj))
  have K2 := Lib.hid (fun (W : World) (hb : Below w.heap.size w W) => given_one h c W (Nat.lt_of_lt_of_le hh hb.size) (HL.out W hb))
  have K3 := Lib.hid (fun (W : World) (g : Nat) (hS : Blk W g 151 #[.int .i64 3000000, .int .i64 3000000, .int .i64 3000000, .int .i64 3000000, .int .i64 0, .int .i64 0, .int .i64 0, .int .i64 0]) => sail_north g W hS)
  have K4 := Lib.hid run_dlon
  have K5 := Lib.hid add_zero
  have K6 := Lib.hid (fun W => Signed_any 0 W)
  rw [show sgT 0 = 0 from rfl] at K6
  clear hl
  have A0 := Lib.hid ((Blk.new w 26 #[.int .i64 3000000, .int .i64 3000000, .int .i64 0, .int .i64 0]).alloc (.cells #[.int .i64 0, .int .i64 0, .int .i64 0, .int .i64 0] 26))
  have A1 := Lib.hid (Blk.new (w.alloc (.cells #[.int .i64 3000000, .int .i64 3000000, .int .i64 0, .int .i64 0] 26)) 26 #[.int .i64 0, .int .i64 0, .int .i64 0, .int .i64 0])
  have a1 := Lib.hid (bl2 w (.cells #[.int .i64 3000000, .int .i64 3000000, .int .i64 0, .int .i64 0] 26) (.cells #[.int .i64 0, .int .i64 0, .int .i64 0, .int .i64 0] 26))
  simp only [World.size_alloc] at A1
  go_enter Tryz.func45, Tryz.ntmps45
  go_upto_region 1 with fail
  generalize (w.alloc (.cells #[.int .i64 3000000, .int .i64 3000000, .int .i64 0, .int .i64 0] 26)).alloc (.cells #[.int .i64 0, .int .i64 0, .int .i64 0, .int .i64 0] 26) = wa at *
  have x0 : ∀ i, wa.cell? ⟨w.heap.size, i, none⟩ = (#[.int .i64 3000000, .int .i64 3000000, .int .i64 0, .int .i64 0] : Array Value)[i]? := fun i => A0.out.cell i
  go_wp2_with fail
  (with_reducible refine (K1.out _).mono ?_)
  rintro e w1 ⟨rfl, hb1⟩
  have B0 := Lib.hid (A0.out.below hb1 A0.out.lt)
  have B1 := Lib.hid (A1.out.below hb1 A1.out.lt)
  have b1 := Lib.hid (a1.out.trans (hb1.mono a1.out.size))
  clear hb1 a1 A0 A1 x0
  go_wp2_with fail
  (with_reducible refine (K2.out _ b1.out).mono ?_)
  rintro e w2 ⟨rfl, hb1⟩
  have C0 := Lib.hid ((B0.out.below hb1 B0.out.lt).alloc (.cells #[.int .i64 3000000, .int .i64 3000000, .int .i64 3000000, .int .i64 3000000, .int .i64 0, .int .i64 0, .int .i64 0, .int .i64 0] 151))
  have C1 := Lib.hid ((B1.out.below hb1 B1.out.lt).alloc (.cells #[.int .i64 3000000, .int .i64 3000000, .int .i64 3000000, .int .i64 3000000, .int .i64 0, .int .i64 0, .int .i64 0, .int .i64 0] 151))
  have C2 := Lib.hid (Blk.new w2 151 #[.int .i64 3000000, .int .i64 3000000, .int .i64 3000000, .int .i64 3000000, .int .i64 0, .int .i64 0, .int .i64 0, .int .i64 0])
  have y0 : ∀ i, w2.cell? ⟨w.heap.size, i, none⟩ = (#[.int .i64 3000000, .int .i64 3000000, .int .i64 0, .int .i64 0] : Array Value)[i]? := fun i => (B0.out.below hb1 B0.out.lt).cell i
  have c0 := b1.out.trans (hb1.mono b1.out.size)
  have c1 := Lib.hid (c0.trans ((bl_alloc w2 (.cells #[.int .i64 3000000, .int .i64 3000000, .int .i64 3000000, .int .i64 3000000, .int .i64 0, .int .i64 0, .int .i64 0, .int .i64 0] 151)).mono c0.size))
  have hz2 : w.heap.size + 1 < w2.heap.size := Nat.lt_of_lt_of_le B1.out.lt hb1.size
  clear hb1 b1 B0 B1 c0 K1 K2
  go_upto_region 7 with fail
  generalize w2.alloc (.cells #[.int .i64 3000000, .int .i64 3000000, .int .i64 3000000, .int .i64 3000000, .int .i64 0, .int .i64 0, .int .i64 0, .int .i64 0] 151) = w3 at *
  obtain ⟨G, hG⟩ : ∃ G, w2.heap.size = G := ⟨_, rfl⟩
  rw [hG] at hz2 C2 ⊢
  clear y0 hG
  go_wp2_with fail
  go_loopw [34] (fun s34 wr => ∃ k : Nat, k ≤ 1 ∧ s34 = .int .i64 k ∧ Blk wr w.heap.size 26 #[.int .i64 3000000, .int .i64 3000000, .int .i64 0, .int .i64 0] ∧ Blk wr (w.heap.size + 1) 26 #[.int .i64 0, .int .i64 0, .int .i64 0, .int .i64 0] ∧ Blk wr G 151 (if k = 0 then #[.int .i64 3000000, .int .i64 3000000, .int .i64 3000000, .int .i64 3000000, .int .i64 0, .int .i64 0, .int .i64 0, .int .i64 0] else #[.int .i64 3010000, .int .i64 3010000, .int .i64 3000000, .int .i64 3010000, .int .i64 0, .int .i64 0, .int .i64 0, .int .i64 0]) ∧ Below w.heap.size w wr) (fun s34 _ => 2 - (intOf s34).toNat)
  case atStart => exact ⟨0, by omega, rfl, C0.out, C1.out, C2.out, c1.out⟩
  case round =>
    clear C0 C1 C2 c1
    obtain ⟨k, hk, rfl, h0, h1, h2, hbr⟩ := hrel
    have hcase : k = 0 ∨ k = 1 := by omega
    have E0 := Lib.hid h0
    have E1 := Lib.hid h1
    have EB := Lib.hid hbr
    clear hk h0 h1 hbr
    rcases hcase with rfl | rfl
    · have E2 := Lib.hid (show Blk wr G 151 #[.int .i64 3000000, .int .i64 3000000, .int .i64 3000000, .int .i64 3000000, .int .i64 0, .int .i64 0, .int .i64 0, .int .i64 0] from h2)
      clear h2
      have x0 : wr.cell? ⟨h, 0, none⟩ = some (.int .i64 0) := HL.out wr EB.out 0 (by omega)
      have x1 : wr.cell? ⟨h, 1, none⟩ = some (.int .i64 0) := HL.out wr EB.out 1 (by omega)
      have x2 : wr.cell? ⟨h, 2, none⟩ = some (.int .i64 10000) := HL.out wr EB.out 2 (by omega)
      have x3 : wr.cell? ⟨h, 3, none⟩ = some (.int .i64 10000) := HL.out wr EB.out 3 (by omega)
      go_upto_region 10 with fail
      have F0 := Lib.hid (E0.out.alloc (.cells #[.int .i64 0, .int .i64 0, .int .i64 10000, .int .i64 10000] 112))
      have F1 := Lib.hid (E1.out.alloc (.cells #[.int .i64 0, .int .i64 0, .int .i64 10000, .int .i64 10000] 112))
      have F2 := Lib.hid (E2.out.alloc (.cells #[.int .i64 0, .int .i64 0, .int .i64 10000, .int .i64 10000] 112))
      have F3 := Blk.new wr 112 #[.int .i64 0, .int .i64 0, .int .i64 10000, .int .i64 10000]
      have fb := Lib.hid (EB.out.trans ((bl_alloc wr (.cells #[.int .i64 0, .int .i64 0, .int .i64 10000, .int .i64 10000] 112)).mono EB.out.size))
      clear E0 E1 E2 EB x0 x1 x2 x3
      generalize wr.alloc (.cells #[.int .i64 0, .int .i64 0, .int .i64 10000, .int .i64 10000] 112) = wa2 at *
      have x9 : ∀ i, wa2.cell? ⟨wr.heap.size, i, none⟩ = (#[.int .i64 0, .int .i64 0, .int .i64 10000, .int .i64 10000] : Array Value)[i]? := fun i => F3.cell i
      clear F3
      go_wp2_with fail
      (with_reducible refine (K3.out _ _ F2.out).mono ?_)
      rintro e wb ⟨rfl, hS9, kb⟩
      have G0 := Lib.hid (F0.out.adk kb (by omega))
      have G1 := Lib.hid (F1.out.adk kb (by omega))
      have gb := Lib.hid (AdK.below fb.out kb fb.out.size (by omega) (fun j hj => by simp [Value.ownBlock] at hj))
      have G2 := Lib.hid hS9
      clear F0 F1 F2 fb hS9 kb x9
      go_wp2
      go_roundw
      case rel => exact ⟨1, by omega, by go_num, G0.out, G1.out, G2.out, gb.out⟩
      case measure => simp [intOf]
    · have E2 := Lib.hid (show Blk wr G 151 #[.int .i64 3010000, .int .i64 3010000, .int .i64 3000000, .int .i64 3010000, .int .i64 0, .int .i64 0, .int .i64 0, .int .i64 0] from h2)
      clear h2
      have x2 : wr.cell? ⟨G, 2, none⟩ = some (.int .i64 3000000) := E2.out.cell 2
      have x3 : wr.cell? ⟨G, 3, none⟩ = some (.int .i64 3010000) := E2.out.cell 3
      have x0 : ∀ i, wr.cell? ⟨w.heap.size, i, none⟩ = (#[.int .i64 3000000, .int .i64 3000000, .int .i64 0, .int .i64 0] : Array Value)[i]? := fun i => E0.out.cell i
      go_upto_region 17 with fail
      have F0 := Lib.hid (E1.out.alloc (.cells #[.int .i64 0, .int .i64 0] 24))
      have F1 := Lib.hid (E2.out.alloc (.cells #[.int .i64 0, .int .i64 0] 24))
      have F2 := Lib.hid (Blk.new wr 24 #[.int .i64 0, .int .i64 0])
      have fb := Lib.hid (EB.out.trans ((bl_alloc wr (.cells #[.int .i64 0, .int .i64 0] 24)).mono EB.out.size))
      have hzr := EB.out.size
      have hzr2 : w.heap.size + 1 < wr.heap.size := E1.out.lt
      have hzr3 : G < wr.heap.size := E2.out.lt
      clear E0 E1 E2 EB x0 x2 x3
      generalize wr.alloc (.cells #[.int .i64 0, .int .i64 0] 24) = v1 at *
      obtain ⟨L, hL⟩ : ∃ L, wr.heap.size = L := ⟨_, rfl⟩
      rw [hL] at F2 hzr hzr2 hzr3 ⊢
      clear hL
      have x0 : ∀ i, v1.cell? ⟨G, i, none⟩ = (#[.int .i64 3010000, .int .i64 3010000, .int .i64 3000000, .int .i64 3010000, .int .i64 0, .int .i64 0, .int .i64 0, .int .i64 0] : Array Value)[i]? := fun i => F1.out.cell i
      go_upto_region 18 with fail
      have N0 := Lib.hid (F0.out.alloc (.cells #[.int .i64 0, .int .i64 0, .int .i64 0, .int .i64 0] 24))
      have N1 := Lib.hid (F1.out.alloc (.cells #[.int .i64 0, .int .i64 0, .int .i64 0, .int .i64 0] 24))
      have N2 := Lib.hid (F2.out.alloc (.cells #[.int .i64 0, .int .i64 0, .int .i64 0, .int .i64 0] 24))
      have N3 := Lib.hid (Blk.new v1 24 #[.int .i64 0, .int .i64 0, .int .i64 0, .int .i64 0])
      have nb := Lib.hid (fb.out.trans ((bl_alloc v1 (.cells #[.int .i64 0, .int .i64 0, .int .i64 0, .int .i64 0] 24)).mono fb.out.size))
      have hd0 : L < v1.heap.size := F2.out.lt
      clear F0 F1 F2 fb x0
      generalize v1.alloc (.cells #[.int .i64 0, .int .i64 0, .int .i64 0, .int .i64 0] 24) = v2 at *
      obtain ⟨D, hD⟩ : ∃ D, v1.heap.size = D := ⟨_, rfl⟩
      rw [hD] at N3 hd0 ⊢
      clear hD
      go_loopw [64] (fun s64 wr => ∃ j : Nat, j ≤ 2 ∧ s64 = .int .i64 j ∧ Blk wr (w.heap.size + 1) 26 #[.int .i64 0, .int .i64 0, .int .i64 0, .int .i64 0] ∧ Blk wr G 151 #[.int .i64 3010000, .int .i64 3010000, .int .i64 3000000, .int .i64 3010000, .int .i64 0, .int .i64 0, .int .i64 0, .int .i64 0] ∧ Blk wr L 24 #[.int .i64 0, .int .i64 0] ∧ Blk wr D 24 #[.int .i64 0, .int .i64 0, .int .i64 0, .int .i64 0] ∧ Below w.heap.size w wr) (fun s64 _ => 3 - (intOf s64).toNat)
      case atStart => exact ⟨0, by omega, rfl, N0.out, N1.out, N2.out, N3.out, nb.out⟩
      clear N0 N1 N2 N3 nb
      obtain ⟨j, hj, rfl, h0, h1, h2, h3, hbr⟩ := hrel
      have hcase : j = 0 ∨ j = 1 ∨ j = 2 := by omega
      have P0 := Lib.hid h0
      have P1 := Lib.hid h1
      have P2 := Lib.hid h2
      have P3 := Lib.hid h3
      have PB := Lib.hid hbr
      clear hj h0 h1 h2 h3 hbr
      rcases hcase with rfl | rfl | rfl
      · have y0 : ∀ i, wr.cell? ⟨D, i, none⟩ = (#[.int .i64 0, .int .i64 0, .int .i64 0, .int .i64 0] : Array Value)[i]? := fun i => P3.out.cell i
        go_upto_region 20 with fail
        have R0 := Lib.hid (P0.out.alloc (.cells #[.int .i64 0, .int .i64 0] 24))
        have R1 := Lib.hid (P1.out.alloc (.cells #[.int .i64 0, .int .i64 0] 24))
        have R2 := Lib.hid (P2.out.alloc (.cells #[.int .i64 0, .int .i64 0] 24))
        have R3 := Lib.hid (P3.out.alloc (.cells #[.int .i64 0, .int .i64 0] 24))
        have R4 := Blk.new wr 24 #[.int .i64 0, .int .i64 0]
        have rb := Lib.hid (PB.out.trans ((bl_alloc wr (.cells #[.int .i64 0, .int .i64 0] 24)).mono PB.out.size))
        clear P0 P1 P2 P3 PB y0
        generalize wr.alloc (.cells #[.int .i64 0, .int .i64 0] 24) = v4 at *
        have y1 : ∀ i, v4.cell? ⟨G, i, none⟩ = (#[.int .i64 3010000, .int .i64 3010000, .int .i64 3000000, .int .i64 3010000, .int .i64 0, .int .i64 0, .int .i64 0, .int .i64 0] : Array Value)[i]? := fun i => R1.out.cell i
        have y2 : ∀ i, v4.cell? ⟨wr.heap.size, i, none⟩ = (#[.int .i64 0, .int .i64 0] : Array Value)[i]? := fun i => R4.cell i
        clear R4
        go_wp2_with fail
        (with_reducible refine (K4.out _).mono ?_)
        rintro e v5 ⟨rfl, hb1⟩
        have T0 := Lib.hid ((R0.out.below hb1 R0.out.lt).alloc (.cells #[.int .i64 0, .int .i64 0] 24))
        have T1 := Lib.hid ((R1.out.below hb1 R1.out.lt).alloc (.cells #[.int .i64 0, .int .i64 0] 24))
        have T2 := Lib.hid ((R2.out.below hb1 R2.out.lt).alloc (.cells #[.int .i64 0, .int .i64 0] 24))
        have T3 := Lib.hid ((R3.out.below hb1 R3.out.lt).alloc (.cells #[.int .i64 0, .int .i64 0] 24))
        have T4 := Blk.new v5 24 #[.int .i64 0, .int .i64 0]
        have tb0 := rb.out.trans (hb1.mono rb.out.size)
        have tb := Lib.hid (tb0.trans ((bl_alloc v5 (.cells #[.int .i64 0, .int .i64 0] 24)).mono tb0.size))
        clear hb1 R0 R1 R2 R3 rb y1 y2 tb0
        go_upto_region 23 with fail
        generalize v5.alloc (.cells #[.int .i64 0, .int .i64 0] 24) = v6 at *
        have y1 : ∀ i, v6.cell? ⟨L, i, none⟩ = (#[.int .i64 0, .int .i64 0] : Array Value)[i]? := fun i => T2.out.cell i
        have y2 : ∀ i, v6.cell? ⟨v5.heap.size, i, none⟩ = (#[.int .i64 0, .int .i64 0] : Array Value)[i]? := fun i => T4.cell i
        clear T4
        go_wp2_with fail
        (with_reducible refine (K5.out _).mono ?_)
        rintro e v7 ⟨rfl, hb1⟩
        have U0 := Lib.hid (T0.out.below hb1 T0.out.lt)
        have U1 := Lib.hid (T1.out.below hb1 T1.out.lt)
        have U2 := Lib.hid (T2.out.below hb1 T2.out.lt)
        have U3 := Lib.hid (T3.out.below hb1 T3.out.lt)
        have ub := Lib.hid (tb.out.trans (hb1.mono tb.out.size))
        clear hb1 T0 T1 T2 T3 tb y1 y2
        have y1 : ∀ i, v7.cell? ⟨L, i, none⟩ = (#[.int .i64 0, .int .i64 0] : Array Value)[i]? := fun i => U2.out.cell i
        have f1 : ∀ i, v7.frozen? ⟨L, i, none⟩ = false := fun i => U2.out.frozen i
        go_wp2
        go_roundw
        case rel =>
          refine ⟨_, _, _, _, _, _, _, _, _, _, _, _, _, _, _, _, _, _, _, _, _, _, _, _, _, _, _, _, _, _, ?_, rfl⟩
          exact ⟨1, by omega, by go_num, (U0.out.far (by simp; omega) _).far (by simp; omega) _, (U1.out.far (by simp; omega) _).far (by simp; omega) _, (U2.out.set_ 0 (.int .i64 0)).set_ 1 (.int .i64 0), (U3.out.far (by simp; omega) _).far (by simp; omega) _, (ub.out.setCell (by simp; omega) _).setCell (by simp; omega) _⟩
        case measure => simp [intOf]
      · have y0 : ∀ i, wr.cell? ⟨D, i, none⟩ = (#[.int .i64 0, .int .i64 0, .int .i64 0, .int .i64 0] : Array Value)[i]? := fun i => P3.out.cell i
        go_upto_region 20 with fail
        have R0 := Lib.hid (P0.out.alloc (.cells #[.int .i64 0, .int .i64 0] 24))
        have R1 := Lib.hid (P1.out.alloc (.cells #[.int .i64 0, .int .i64 0] 24))
        have R2 := Lib.hid (P2.out.alloc (.cells #[.int .i64 0, .int .i64 0] 24))
        have R3 := Lib.hid (P3.out.alloc (.cells #[.int .i64 0, .int .i64 0] 24))
        have R4 := Blk.new wr 24 #[.int .i64 0, .int .i64 0]
        have rb := Lib.hid (PB.out.trans ((bl_alloc wr (.cells #[.int .i64 0, .int .i64 0] 24)).mono PB.out.size))
        clear P0 P1 P2 P3 PB y0
        generalize wr.alloc (.cells #[.int .i64 0, .int .i64 0] 24) = v4 at *
        have y1 : ∀ i, v4.cell? ⟨G, i, none⟩ = (#[.int .i64 3010000, .int .i64 3010000, .int .i64 3000000, .int .i64 3010000, .int .i64 0, .int .i64 0, .int .i64 0, .int .i64 0] : Array Value)[i]? := fun i => R1.out.cell i
        have y2 : ∀ i, v4.cell? ⟨wr.heap.size, i, none⟩ = (#[.int .i64 0, .int .i64 0] : Array Value)[i]? := fun i => R4.cell i
        clear R4
        go_wp2_with fail
        (with_reducible refine (K4.out _).mono ?_)
        rintro e v5 ⟨rfl, hb1⟩
        have T0 := Lib.hid ((R0.out.below hb1 R0.out.lt).alloc (.cells #[.int .i64 0, .int .i64 0] 24))
        have T1 := Lib.hid ((R1.out.below hb1 R1.out.lt).alloc (.cells #[.int .i64 0, .int .i64 0] 24))
        have T2 := Lib.hid ((R2.out.below hb1 R2.out.lt).alloc (.cells #[.int .i64 0, .int .i64 0] 24))
        have T3 := Lib.hid ((R3.out.below hb1 R3.out.lt).alloc (.cells #[.int .i64 0, .int .i64 0] 24))
        have T4 := Blk.new v5 24 #[.int .i64 0, .int .i64 0]
        have tb0 := rb.out.trans (hb1.mono rb.out.size)
        have tb := Lib.hid (tb0.trans ((bl_alloc v5 (.cells #[.int .i64 0, .int .i64 0] 24)).mono tb0.size))
        clear hb1 R0 R1 R2 R3 rb y1 y2 tb0
        go_upto_region 23 with fail
        generalize v5.alloc (.cells #[.int .i64 0, .int .i64 0] 24) = v6 at *
        have y1 : ∀ i, v6.cell? ⟨L, i, none⟩ = (#[.int .i64 0, .int .i64 0] : Array Value)[i]? := fun i => T2.out.cell i
        have y2 : ∀ i, v6.cell? ⟨v5.heap.size, i, none⟩ = (#[.int .i64 0, .int .i64 0] : Array Value)[i]? := fun i => T4.cell i
        clear T4
        go_wp2_with fail
        (with_reducible refine (K5.out _).mono ?_)
        rintro e v7 ⟨rfl, hb1⟩
        have U0 := Lib.hid (T0.out.below hb1 T0.out.lt)
        have U1 := Lib.hid (T1.out.below hb1 T1.out.lt)
        have U2 := Lib.hid (T2.out.below hb1 T2.out.lt)
        have U3 := Lib.hid (T3.out.below hb1 T3.out.lt)
        have ub := Lib.hid (tb.out.trans (hb1.mono tb.out.size))
        clear hb1 T0 T1 T2 T3 tb y1 y2
        have y1 : ∀ i, v7.cell? ⟨L, i, none⟩ = (#[.int .i64 0, .int .i64 0] : Array Value)[i]? := fun i => U2.out.cell i
        have f1 : ∀ i, v7.frozen? ⟨L, i, none⟩ = false := fun i => U2.out.frozen i
        go_wp2
        go_roundw
        case rel =>
          refine ⟨_, _, _, _, _, _, _, _, _, _, _, _, _, _, _, _, _, _, _, _, _, _, _, _, _, _, _, _, _, _, ?_, rfl⟩
          exact ⟨2, by omega, by go_num, (U0.out.far (by simp; omega) _).far (by simp; omega) _, (U1.out.far (by simp; omega) _).far (by simp; omega) _, (U2.out.set_ 0 (.int .i64 0)).set_ 1 (.int .i64 0), (U3.out.far (by simp; omega) _).far (by simp; omega) _, (ub.out.setCell (by simp; omega) _).setCell (by simp; omega) _⟩
        case measure => simp [intOf]
      · have y1 : ∀ i, wr.cell? ⟨L, i, none⟩ = (#[.int .i64 0, .int .i64 0] : Array Value)[i]? := fun i => P2.out.cell i
        go_wp2_with fail
        (with_reducible refine (K6.out _).mono ?_)
        rintro e v5 ⟨rfl, hb1⟩
        have R0 := Lib.hid (P0.out.below hb1 P0.out.lt)
        have R1 := Lib.hid (P1.out.below hb1 P1.out.lt)
        have R2 := Lib.hid (P2.out.below hb1 P2.out.lt)
        have rb := Lib.hid (PB.out.trans (hb1.mono PB.out.size))
        clear hb1 P0 P1 P2 P3 PB y1
        have y0 : ∀ i, v5.cell? ⟨w.heap.size + 1, i, none⟩ = (#[.int .i64 0, .int .i64 0, .int .i64 0, .int .i64 0] : Array Value)[i]? := fun i => R0.out.cell i
        have f0 : ∀ i, v5.frozen? ⟨w.heap.size + 1, i, none⟩ = false := fun i => R0.out.frozen i
        have y1 : ∀ i, v5.cell? ⟨L, i, none⟩ = (#[.int .i64 0, .int .i64 0] : Array Value)[i]? := fun i => R2.out.cell i
        have y2 : ∀ i, v5.cell? ⟨G, i, none⟩ = (#[.int .i64 3010000, .int .i64 3010000, .int .i64 3000000, .int .i64 3010000, .int .i64 0, .int .i64 0, .int .i64 0, .int .i64 0] : Array Value)[i]? := fun i => R1.out.cell i
        go_wp2
        refine bodyPost_ret (v := .tuple #[.agg #[.int .i64 3010000, .int .i64 3010000, .int .i64 0, .int .i64 0], .int .i64 0]) (by simp [results, Tryz.results45, go_sem, *]; done) rfl ⟨rfl, ?_⟩
        exact (((rb.out.setCell (by simp) _).setCell (by simp) _).setCell (by simp) _).setCell (by simp) _
end Go.Proofs.YthfndnmfnijpeaaGreat
namespace Go.Proofs.YthfndnmfnijpeaaGreat
open Go.RowKit Go.Shelf
theorem speed_yes (w : World) : Calls Tryz.prog 75 #[.agg #[.int .i64 10000, .int .i64 10000]] w fun e w' => e = .returned (.bool true) ∧ Below w.heap.size w w' := by
  go_enter Tryz.func75, Tryz.ntmps75
  go_wp2
  go_ret
  refine ⟨rfl, ?_⟩
  repeat (first | exact Below.refl _ _ | assumption | refine bl_drew ?_ | refine bl_drewN ?_ _ | refine Below.setCell ?_ (by first | assumption | omega | (simp; done) | (simp; omega)) _ | refine Below.alloc ?_ (by first | assumption | omega | (simp; done) | (simp; omega)) _)
theorem floor_hour (w : World) : Calls Tryz.prog 76 #[.int .i64 36000000000, .int .i64 3600000] w fun e w' => e = .returned (.int .i64 10000) ∧ w' = w := by
  go_enter Tryz.func76, Tryz.ntmps76
  go_wp2
  go_ret
  exact ⟨rfl, rfl⟩
theorem ceil_hour (w : World) : Calls Tryz.prog 77 #[.int .i64 36000000000, .int .i64 3600000] w fun e w' => e = .returned (.int .i64 10000) ∧ w' = w := by
  go_enter Tryz.func77, Tryz.ntmps77
  go_wp2
  go_ret
  exact ⟨rfl, rfl⟩
set_option maxHeartbeats 4000000 in
set_option maxRecDepth 100000 in
theorem Leg_hour (w : World) : Calls Tryz.prog 44 #[.agg #[.int .i64 0, .int .i64 0, .int .i64 10000, .int .i64 10000], .agg #[.int .i64 0, .int .i64 0], .agg #[.int .i64 3600000, .int .i64 3600000]] w fun e w' => e = .returned (.tuple #[.agg #[.int .i64 0, .int .i64 0, .int .i64 10000, .int .i64 10000], .int .i64 0]) ∧ Below w.heap.size w w' := by
  have K1 := Lib.hid speed_yes
  have K2 := Lib.hid (fun W => aValid_any 0 0 W)
  rw [show avB 0 0 = true from rfl] at K2
  have K3 := Lib.hid (fun W => clock_any 0 0 W)
  rw [show clkB 0 0 = true from rfl] at K3
  have K4 := Lib.hid (fun W => clock_any 3600000 3600000 W)
  rw [show clkB 3600000 3600000 = true from rfl] at K4
  have K5 := Lib.hid floor_hour
  have K6 := Lib.hid ceil_hour
  have b0 : Below w.heap.size w ((((w.alloc (.cells #[.int .i64 0, .int .i64 0, .int .i64 10000, .int .i64 10000] 28)).alloc (.cells #[.int .i64 0, .int .i64 0] 23)).alloc (.cells #[.int .i64 3600000, .int .i64 3600000] 23)).alloc (.cells #[.int .i64 0, .int .i64 0, .int .i64 0, .int .i64 0] 112)) :=
    ((((Below.refl _ _).alloc (Nat.le_refl _) _).alloc (by simp) _).alloc (by simp; omega) _).alloc (by simp; omega) _
  have A0 := Lib.hid ((((Blk.new w 28 #[.int .i64 0, .int .i64 0, .int .i64 10000, .int .i64 10000]).alloc (.cells #[.int .i64 0, .int .i64 0] 23)).alloc (.cells #[.int .i64 3600000, .int .i64 3600000] 23)).alloc (.cells #[.int .i64 0, .int .i64 0, .int .i64 0, .int .i64 0] 112))
  have A1 := Lib.hid (((Blk.new (w.alloc (.cells #[.int .i64 0, .int .i64 0, .int .i64 10000, .int .i64 10000] 28)) 23 #[.int .i64 0, .int .i64 0]).alloc (.cells #[.int .i64 3600000, .int .i64 3600000] 23)).alloc (.cells #[.int .i64 0, .int .i64 0, .int .i64 0, .int .i64 0] 112))
  have A2 := Lib.hid ((Blk.new ((w.alloc (.cells #[.int .i64 0, .int .i64 0, .int .i64 10000, .int .i64 10000] 28)).alloc (.cells #[.int .i64 0, .int .i64 0] 23)) 23 #[.int .i64 3600000, .int .i64 3600000]).alloc (.cells #[.int .i64 0, .int .i64 0, .int .i64 0, .int .i64 0] 112))
  have A3 := Lib.hid (Blk.new (((w.alloc (.cells #[.int .i64 0, .int .i64 0, .int .i64 10000, .int .i64 10000] 28)).alloc (.cells #[.int .i64 0, .int .i64 0] 23)).alloc (.cells #[.int .i64 3600000, .int .i64 3600000] 23)) 112 #[.int .i64 0, .int .i64 0, .int .i64 0, .int .i64 0])
  simp only [World.size_alloc] at A1 A2 A3
  go_enter Tryz.func44, Tryz.ntmps44
  go_upto_region 1 with fail
  generalize ((((w.alloc (.cells #[.int .i64 0, .int .i64 0, .int .i64 10000, .int .i64 10000] 28)).alloc (.cells #[.int .i64 0, .int .i64 0] 23)).alloc (.cells #[.int .i64 3600000, .int .i64 3600000] 23)).alloc (.cells #[.int .i64 0, .int .i64 0, .int .i64 0, .int .i64 0] 112)) = wa at *
  have x0 : ∀ i, wa.cell? ⟨w.heap.size, i, none⟩ = (#[.int .i64 0, .int .i64 0, .int .i64 10000, .int .i64 10000] : Array Value)[i]? := fun i => A0.out.cell i
  go_wp2_with fail
  (with_reducible refine (K1.out _).mono ?_)
  rintro e w1 ⟨rfl, hb1⟩
  have B0 := Lib.hid (A0.out.below hb1 A0.out.lt)
  have B1 := Lib.hid (A1.out.below hb1 A1.out.lt)
  have B2 := Lib.hid (A2.out.below hb1 A2.out.lt)
  have B3 := Lib.hid (A3.out.below hb1 A3.out.lt)
  have b1 := Lib.hid (b0.trans (hb1.mono b0.size))
  clear hb1 b0 A0 A1 A2 A3 x0
  have x0 : ∀ i, w1.cell? ⟨w.heap.size, i, none⟩ = (#[.int .i64 0, .int .i64 0, .int .i64 10000, .int .i64 10000] : Array Value)[i]? := fun i => B0.out.cell i
  go_wp2_with fail
  (with_reducible refine (K2.out _).mono ?_)
  rintro e w2 ⟨rfl, hb1⟩
  have C0 := Lib.hid (B0.out.below hb1 B0.out.lt)
  have C1 := Lib.hid (B1.out.below hb1 B1.out.lt)
  have C2 := Lib.hid (B2.out.below hb1 B2.out.lt)
  have C3 := Lib.hid (B3.out.below hb1 B3.out.lt)
  have c1 := Lib.hid (b1.out.trans (hb1.mono b1.out.size))
  clear hb1 b1 B0 B1 B2 B3 x0
  have x1 : ∀ i, w2.cell? ⟨w.heap.size + 1, i, none⟩ = (#[.int .i64 0, .int .i64 0] : Array Value)[i]? := fun i => C1.out.cell i
  go_wp2_with fail
  (with_reducible refine (K3.out _).mono ?_)
  rintro e w3 ⟨rfl, hb1⟩
  have D0 := Lib.hid (C0.out.below hb1 C0.out.lt)
  have D1 := Lib.hid (C1.out.below hb1 C1.out.lt)
  have D2 := Lib.hid (C2.out.below hb1 C2.out.lt)
  have D3 := Lib.hid (C3.out.below hb1 C3.out.lt)
  have d1 := Lib.hid (c1.out.trans (hb1.mono c1.out.size))
  clear hb1 c1 C0 C1 C2 C3 x1
  have x2 : ∀ i, w3.cell? ⟨w.heap.size + 1 + 1, i, none⟩ = (#[.int .i64 3600000, .int .i64 3600000] : Array Value)[i]? := fun i => D2.out.cell i
  go_wp2_with fail
  (with_reducible refine (K4.out _).mono ?_)
  rintro e w4 ⟨rfl, hb1⟩
  have E0 := Lib.hid (D0.out.below hb1 D0.out.lt)
  have E1 := Lib.hid (D1.out.below hb1 D1.out.lt)
  have E2 := Lib.hid (D2.out.below hb1 D2.out.lt)
  have E3 := Lib.hid (D3.out.below hb1 D3.out.lt)
  have e1 := Lib.hid (d1.out.trans (hb1.mono d1.out.size))
  clear hb1 d1 D0 D1 D2 D3 x2
  have x0 : ∀ i, w4.cell? ⟨w.heap.size, i, none⟩ = (#[.int .i64 0, .int .i64 0, .int .i64 10000, .int .i64 10000] : Array Value)[i]? := fun i => E0.out.cell i
  have x1 : ∀ i, w4.cell? ⟨w.heap.size + 1, i, none⟩ = (#[.int .i64 0, .int .i64 0] : Array Value)[i]? := fun i => E1.out.cell i
  have x2 : ∀ i, w4.cell? ⟨w.heap.size + 1 + 1, i, none⟩ = (#[.int .i64 3600000, .int .i64 3600000] : Array Value)[i]? := fun i => E2.out.cell i
  have m1 : (max 0 3600000 : Int) = 3600000 := by omega
  go_upto_region 7 with fail
  go_region
  clear x0 x1 x2
  have F0 := Lib.hid E0.out.drew
  have F3 := Lib.hid E3.out.drew
  have f1 := Lib.hid (bl_drew e1.out)
  clear E0 E1 E2 E3 e1
  generalize w4.drew = w5 at *
  go_upto_region 8 with fail
  have y0 : w5.cell? ⟨w.heap.size, 0, none⟩ = some (.int .i64 0) := F0.out.cell 0
  have y1 : w5.cell? ⟨w.heap.size, 1, none⟩ = some (.int .i64 0) := F0.out.cell 1
  have y2 : w5.cell? ⟨w.heap.size, 2, none⟩ = some (.int .i64 10000) := F0.out.cell 2
  have y3 : w5.cell? ⟨w.heap.size, 3, none⟩ = some (.int .i64 10000) := F0.out.cell 3
  have z0 : w5.cell? ⟨w.heap.size + 1 + 1 + 1, 0, none⟩ = some (.int .i64 0) := F3.out.cell 0
  have z1 : w5.cell? ⟨w.heap.size + 1 + 1 + 1, 1, none⟩ = some (.int .i64 0) := F3.out.cell 1
  have z2 : w5.cell? ⟨w.heap.size + 1 + 1 + 1, 2, none⟩ = some (.int .i64 0) := F3.out.cell 2
  have z3 : w5.cell? ⟨w.heap.size + 1 + 1 + 1, 3, none⟩ = some (.int .i64 0) := F3.out.cell 3
  have f0 := F3.out.frozen 0
  have f2 := F3.out.frozen 1
  have f3 := F3.out.frozen 2
  have f4 := F3.out.frozen 3
  have nb : ∀ i j : Nat, (⟨w.heap.size + 1 + 1 + 1, j, none⟩ : Addr) ≠ ⟨w.heap.size, i, none⟩ := fun i j e => by injection e; omega
  go_region_held3 (fun w' => w'.cell? ⟨w.heap.size, 0, none⟩ = some (.int .i64 0) ∧ w'.cell? ⟨w.heap.size, 1, none⟩ = some (.int .i64 0) ∧ w'.cell? ⟨w.heap.size, 2, none⟩ = some (.int .i64 10000) ∧ w'.cell? ⟨w.heap.size, 3, none⟩ = some (.int .i64 10000)) (simp [*, World.cell?_setCell_other]) (first | (go_at_call 76; (refine (K5.out _).mono ?_); rintro e w9 ⟨rfl, rfl⟩) | (go_at_call 77; (refine (K6.out _).mono ?_); rintro e w9 ⟨rfl, rfl⟩))
  all_goals
    go_wp2
    refine bodyPost_ret (v := .tuple #[.agg #[.int .i64 0, .int .i64 0, .int .i64 10000, .int .i64 10000], .int .i64 0]) (by simp [results, Tryz.results44, go_sem, *]; done) rfl ⟨rfl, ?_⟩
    exact bl_drew ((((f1.out.setCell (by simp; omega) _).setCell (by simp; omega) _).setCell (by simp; omega) _).setCell (by simp; omega) _)
end Go.Proofs.YthfndnmfnijpeaaGreat
