/- Proved: the law CorrectLimbs of layer 22 returns true for all its arguments (CorrectLimbsCardSaid: the row's listed tables tied to the program's text). No condition. -/
import Derived.Test.YtbpnacacnncopaaGreatDoorProg
import Derived.Test.YtbpnacacnncopaaGreatDoorRows
import Derived.Test.YtbpnacacnncopaaGreatDoorCards
import Derived.Test.YtbpnacacnncopaaGreatDoorTie
import Derived.Deep.Slices
import Derived.SevenTiedAt
import Derived.ShutString
import Derived.ChangeMaps5
import Derived.Test.YtbpnacacnncopaaGreatDoorHIa
import Derived.Test.YtbpnacacnncopaaGreatDoorHShelfT
import Derived.Test.YtbpnacacnncopaaGreatDoorHTb
import Derived.Test.YtbpnacacnncopaaGreatDoorHTe
import Derived.Test.YtbpnacacnncopaaGreatDoorHUc
import Derived.Test.YtbpnacacnncopaaGreatDoorHUe
import Derived.Test.YtbpnacacnncopaaGreatDoorHUh
import Derived.Test.YtbpnacacnncopaaGreatDoorHVa
import Derived.Test.YtbpnacacnncopaaGreatDoorHMn
import Derived.Test.YtbpnacacnncopaaGreatDoorHTo
import Derived.Test.YtbpnacacnncopaaGreatDoorHTx
import Derived.Test.YtbpnacacnncopaaGreatDoorHYl
import Derived.Test.YtbpnacacnncopaaGreatDoorHYn
import Derived.Test.YtbpnacacnncopaaGreatDoorHYp
import Derived.Test.YtbpnacacnncopaaGreatDoorHTu
import Derived.Test.YtbpnacacnncopaaGreatDoorHYq
import Derived.Test.YtbpnacacnncopaaGreatDoorHIc
import Derived.Test.YtbpnacacnncopaaGreatDoorHXe
import Derived.Test.YtbpnacacnncopaaGreatDoorHLp
import Derived.Test.YtbpnacacnncopaaGreatDoorHYs
import Derived.Test.YtbpnacacnncopaaGreatDoorHXg
import Derived.Test.YtbpnacacnncopaaGreatDoorHYu
import Derived.Test.YtbpnacacnncopaaGreatDoorHXf
import Derived.Test.YtbpnacacnncopaaGreatDoorHXl
import Derived.Test.YtbpnacacnncopaaGreatDoorHYw
import Derived.Test.YtbpnacacnncopaaGreatDoorHYx
import Derived.Test.YtbpnacacnncopaaGreatDoorHZq
import Derived.Test.YtbpnacacnncopaaGreatDoorHClose
import Derived.Test.YtbpnacacnncopaaGreatDoorHZt
import Derived.Test.YtbpnacacnncopaaGreatDoorHXm
import Derived.Test.YtbpnacacnncopaaGreatDoorHZu
set_option linter.unusedVariables false
set_option linter.unusedSimpArgs false
namespace Go.Proofs.YtbpnacacnncopaaGreatDoor
open Go.RowKit Frm
theorem ret_cl {tmps : Array Value} {w : World} {g : Nat} {cs : Array Value} (hp : tmps.getD 5 undef = .pointer (some ⟨g, 0, none⟩)) (h : Blk w g 46 cs) (hs : cs.size = 14) :
    (results Tryz.f15 tmps).run Tryz.prog w = .ok (.tuple #[.agg cs, tmps.getD 6 undef]) w := by
  have hi : (Tryz.prog.info? 46).map (·.size) = some 14 := by kernel_rfl
  rw [results_cell_tmp Tryz.results15, hp]
  have := run_loadVar_row (P := Tryz.prog) w g 46 46 cs (0, 0) (.struct (Tryz.prog.fieldsOf 46)) h (by kernel_rfl) rfl (by rw [hs]; exact hi)
  simp [asAddr, this, Result.andThen]
set_option maxHeartbeats 4000000 in
set_option maxRecDepth 100000 in
theorem limb_cl (k E v0 v1 v2 v3 v4 v5 v6 v7 v8 v9 v10 v11 v12 v13 ix limb tlo thi hs by_ hor eye shore temp press g0 g1 g2 g3 e0 e1 p0 p1 : Int) (A : Option Addr) (n c : Nat) (body : Bs) (t1 t2 t3 : Nat) (w : World)
    (hI : Blk w t2 40 #[.int .i64 ix, .slice A n c]) (hB : Blk w t1 25 #[txb body, .int .i64 limb, .int .i64 tlo, .int .i64 thi, .int .i64 hs, .int .i64 by_, .int .i64 hor, .int .i64 eye, .int .i64 shore, .int .i64 temp, .int .i64 press])
    (hE : Blk w t3 43 #[.int .i64 g0, .int .i64 g1, .int .i64 g2, .int .i64 g3, .int .i64 e0, .int .i64 e1, .int .i64 p0, .int .i64 p1])
    (hW : ∀ W, Below w.heap.size w W → Calls Tryz.prog 16 #[.agg #[.int .i64 ix, .slice A n c], sgv body k tlo thi hs by_ hor eye shore temp press, .agg #[.int .i64 g0, .int .i64 g1, .int .i64 g2, .int .i64 g3, .int .i64 e0, .int .i64 e1, .int .i64 p0, .int .i64 p1]] W fun e w' => e = .returned (.tuple #[wkV v0 v1 v2 v3 v4 v5 v6 v7 v8 v9 v10 v11 v12 v13, .int .i64 E]) ∧ Below W.heap.size W w') :
    Calls Tryz.prog 15 #[.int .i64 k, .pointer (some ⟨t1, 0, none⟩), .pointer (some ⟨t2, 0, none⟩), .pointer (some ⟨t3, 0, none⟩)] w fun e w' => e = .returned (.tuple #[wkV v0 v1 v2 v3 v4 v5 v6 v7 v8 v9 v10 v11 v12 v13, .int .i64 E]) ∧ Below w.heap.size w w' := by
  have KW := Lib.hid hW
  have I9 := Lib.hid hI
  have B9 := Lib.hid hB
  have E9 := Lib.hid hE
  have lI : t2 < w.heap.size := hI.lt
  have lB : t1 < w.heap.size := hB.lt
  have lE : t3 < w.heap.size := hE.lt
  have hR1 : w.heap.size < (w.alloc (.cells #[.int .i64 0, .int .i64 0, .int .i64 0, .int .i64 0, .int .i64 0, .int .i64 0, .int .i64 0, .int .i64 0, .int .i64 0, .int .i64 0, .int .i64 0, .int .i64 0, .int .i64 0, .int .i64 0] 46)).heap.size := by simp
  clear hW hI hB hE
  have b9 := Lib.hid (Below.refl w.heap.size w)
  have o1 := B9.out.lt
  have I1 := Lib.hid (I9.out.alloc (.cells #[.int .i64 0, .int .i64 0, .int .i64 0, .int .i64 0, .int .i64 0, .int .i64 0, .int .i64 0, .int .i64 0, .int .i64 0, .int .i64 0, .int .i64 0, .int .i64 0, .int .i64 0, .int .i64 0] 46))
  have B1 := Lib.hid (B9.out.alloc (.cells #[.int .i64 0, .int .i64 0, .int .i64 0, .int .i64 0, .int .i64 0, .int .i64 0, .int .i64 0, .int .i64 0, .int .i64 0, .int .i64 0, .int .i64 0, .int .i64 0, .int .i64 0, .int .i64 0] 46))
  have E1 := Lib.hid (E9.out.alloc (.cells #[.int .i64 0, .int .i64 0, .int .i64 0, .int .i64 0, .int .i64 0, .int .i64 0, .int .i64 0, .int .i64 0, .int .i64 0, .int .i64 0, .int .i64 0, .int .i64 0, .int .i64 0, .int .i64 0] 46))
  have R1 := Lib.hid (Blk.new w 46 #[.int .i64 0, .int .i64 0, .int .i64 0, .int .i64 0, .int .i64 0, .int .i64 0, .int .i64 0, .int .i64 0, .int .i64 0, .int .i64 0, .int .i64 0, .int .i64 0, .int .i64 0, .int .i64 0])
  have b1 := Lib.hid (b9.out.trans ((bl_alloc w (.cells #[.int .i64 0, .int .i64 0, .int .i64 0, .int .i64 0, .int .i64 0, .int .i64 0, .int .i64 0, .int .i64 0, .int .i64 0, .int .i64 0, .int .i64 0, .int .i64 0, .int .i64 0, .int .i64 0] 46)).mono b9.out.size))
  clear I9 B9 E9 b9
  go_enter Tryz.func15, Tryz.ntmps15
  go_upto_region 1 with fail
  generalize w.alloc (.cells #[.int .i64 0, .int .i64 0, .int .i64 0, .int .i64 0, .int .i64 0, .int .i64 0, .int .i64 0, .int .i64 0, .int .i64 0, .int .i64 0, .int .i64 0, .int .i64 0, .int .i64 0, .int .i64 0] 46) = w2 at *
  have yB : ∀ i, w2.cell? ⟨t1, i, none⟩ = (#[txb body, .int .i64 limb, .int .i64 tlo, .int .i64 thi, .int .i64 hs, .int .i64 by_, .int .i64 hor, .int .i64 eye, .int .i64 shore, .int .i64 temp, .int .i64 press] : Array Value)[i]? := fun i => B1.out.cell i
  have I3 := Lib.hid (I1.out.alloc (.cells #[txb body, .int .i64 limb, .int .i64 tlo, .int .i64 thi, .int .i64 hs, .int .i64 by_, .int .i64 hor, .int .i64 eye, .int .i64 shore, .int .i64 temp, .int .i64 press] 25))
  have B3 := Lib.hid (B1.out.alloc (.cells #[txb body, .int .i64 limb, .int .i64 tlo, .int .i64 thi, .int .i64 hs, .int .i64 by_, .int .i64 hor, .int .i64 eye, .int .i64 shore, .int .i64 temp, .int .i64 press] 25))
  have E3 := Lib.hid (E1.out.alloc (.cells #[txb body, .int .i64 limb, .int .i64 tlo, .int .i64 thi, .int .i64 hs, .int .i64 by_, .int .i64 hor, .int .i64 eye, .int .i64 shore, .int .i64 temp, .int .i64 press] 25))
  have R3 := Lib.hid (R1.out.alloc (.cells #[txb body, .int .i64 limb, .int .i64 tlo, .int .i64 thi, .int .i64 hs, .int .i64 by_, .int .i64 hor, .int .i64 eye, .int .i64 shore, .int .i64 temp, .int .i64 press] 25))
  have T3 := Lib.hid (Blk.new w2 25 #[txb body, .int .i64 limb, .int .i64 tlo, .int .i64 thi, .int .i64 hs, .int .i64 by_, .int .i64 hor, .int .i64 eye, .int .i64 shore, .int .i64 temp, .int .i64 press])
  have b3 := Lib.hid (b1.out.trans ((bl_alloc w2 (.cells #[txb body, .int .i64 limb, .int .i64 tlo, .int .i64 thi, .int .i64 hs, .int .i64 by_, .int .i64 hor, .int .i64 eye, .int .i64 shore, .int .i64 temp, .int .i64 press] 25)).mono b1.out.size))
  clear I1 B1 E1 R1 b1
  go_upto_region 2 with fail
  generalize w2.alloc (.cells #[txb body, .int .i64 limb, .int .i64 tlo, .int .i64 thi, .int .i64 hs, .int .i64 by_, .int .i64 hor, .int .i64 eye, .int .i64 shore, .int .i64 temp, .int .i64 press] 25) = w4 at *
  obtain ⟨aT, haT⟩ : ∃ a, w2.heap.size = a := ⟨_, rfl⟩
  have oT : w.heap.size < aT := by rw [← haT]; exact hR1
  rw [haT] at T3 ⊢
  clear haT
  have yT : ∀ i, w4.cell? ⟨aT, i, none⟩ = (#[txb body, .int .i64 limb, .int .i64 tlo, .int .i64 thi, .int .i64 hs, .int .i64 by_, .int .i64 hor, .int .i64 eye, .int .i64 shore, .int .i64 temp, .int .i64 press] : Array Value)[i]? := fun i => T3.out.cell i
  have zT : ∀ i, w4.frozen? ⟨aT, i, none⟩ = false := fun i => T3.out.frozen i
  have I5 := Lib.hid (I3.out.far (p := ⟨aT, 1, none⟩) (show t2 ≠ aT by omega) (.int .i64 k))
  have B5 := Lib.hid (B3.out.far (p := ⟨aT, 1, none⟩) (show t1 ≠ aT by omega) (.int .i64 k))
  have E5 := Lib.hid (E3.out.far (p := ⟨aT, 1, none⟩) (show t3 ≠ aT by omega) (.int .i64 k))
  have R5 := Lib.hid (R3.out.far (p := ⟨aT, 1, none⟩) (show w.heap.size ≠ aT by omega) (.int .i64 k))
  have T5 := Lib.hid ((show Blk (w4.setCell ⟨aT, 1, none⟩ (.int .i64 k)) aT 25 #[txb body, .int .i64 k, .int .i64 tlo, .int .i64 thi, .int .i64 hs, .int .i64 by_, .int .i64 hor, .int .i64 eye, .int .i64 shore, .int .i64 temp, .int .i64 press] from by simpa using T3.out.set_ 1 (.int .i64 k)))
  have b5 := Lib.hid (b3.out.setCell (p := ⟨aT, 1, none⟩) (show w.heap.size ≤ aT by omega) (.int .i64 k))
  clear I3 B3 E3 R3 T3 b3
  go_upto_region 3 with fail
  clear yB yT zT
  generalize (w4.setCell ⟨aT, 1, none⟩ (.int .i64 k)) = w6 at *
  have yI : ∀ i, w6.cell? ⟨t2, i, none⟩ = (#[.int .i64 ix, .slice A n c] : Array Value)[i]? := fun i => I5.out.cell i
  have yT : ∀ i, w6.cell? ⟨aT, i, none⟩ = (#[txb body, .int .i64 k, .int .i64 tlo, .int .i64 thi, .int .i64 hs, .int .i64 by_, .int .i64 hor, .int .i64 eye, .int .i64 shore, .int .i64 temp, .int .i64 press] : Array Value)[i]? := fun i => T5.out.cell i
  have yE : ∀ i, w6.cell? ⟨t3, i, none⟩ = (#[.int .i64 g0, .int .i64 g1, .int .i64 g2, .int .i64 g3, .int .i64 e0, .int .i64 e1, .int .i64 p0, .int .i64 p1] : Array Value)[i]? := fun i => E5.out.cell i
  go_wp2_with fail
  (with_reducible refine (KW.out _ b5.out).mono ?_)
  rintro e w7 ⟨rfl, hb⟩
  have I7 := Lib.hid (I5.out.below hb I5.out.lt)
  have B7 := Lib.hid (B5.out.below hb B5.out.lt)
  have E7 := Lib.hid (E5.out.below hb E5.out.lt)
  have R7 := Lib.hid (R5.out.below hb R5.out.lt)
  have T7 := Lib.hid (T5.out.below hb T5.out.lt)
  have b7 := Lib.hid (b5.out.trans (hb.mono b5.out.size))
  clear hb I5 B5 E5 R5 T5 b5 yI yT yE
  rename_i hq
  refine hq _ _ ?_
  iterate 2 go_step
  rename_i hq
  refine hq _ _ ?_
  iterate 2 go_step
  rename_i hq
  refine hq _ _ ?_
  refine wpList_store_row rfl _ (.tmp 5) (.tmp 15) rfl _ _ rfl rfl _ _ R7.out (by kernel_rfl) (by rfl) (by simp [Value.oneCell']) ?_
  simp only [Act.put, List.setIfInBounds_toArray, List.set_cons_zero, List.set_cons_succ]
  have ZZ := Lib.hid (Blk.rowW R7.out #[.int .i64 v0, .int .i64 v1, .int .i64 v2, .int .i64 v3, .int .i64 v4, .int .i64 v5, .int .i64 v6, .int .i64 v7, .int .i64 v8, .int .i64 v9, .int .i64 v10, .int .i64 v11, .int .i64 v12, .int .i64 v13])
  have BB := Lib.hid (bl_setRowW (g := w.heap.size) b7.out (by omega) #[.int .i64 v0, .int .i64 v1, .int .i64 v2, .int .i64 v3, .int .i64 v4, .int .i64 v5, .int .i64 v6, .int .i64 v7, .int .i64 v8, .int .i64 v9, .int .i64 v10, .int .i64 v11, .int .i64 v12, .int .i64 v13])
  generalize w7.setRow w.heap.size #[.int .i64 v0, .int .i64 v1, .int .i64 v2, .int .i64 v3, .int .i64 v4, .int .i64 v5, .int .i64 v6, .int .i64 v7, .int .i64 v8, .int .i64 v9, .int .i64 v10, .int .i64 v11, .int .i64 v12, .int .i64 v13] = wz at *
  go_wp2
  exact bodyPost_ret_by (ret_cl (by rfl) ZZ.out rfl) rfl ⟨rfl, BB.out⟩
theorem short22_any (i : Int) (A : Option Addr) (n c : Nat) (x : Bs) (a b d e f g h j k l : Int) (w : World) : Calls Tryz.prog 14 #[.agg #[.int .i64 i, .slice A n c], sgv x a b d e f g h j k l] w fun e w' => e = .returned (.bool (decide (n ≤ 60) && decide (x.length ≤ 100))) ∧ Below w.heap.size w w' := by
  have hs := txb_size x
  by_cases h1 : n ≤ 60
  · have d1 : decide ((n : Int) ≤ 60) = true := decide_eq_true (by omega)
    by_cases h2 : x.length ≤ 100
    · have d2 : decide ((x.length : Int) ≤ 100) = true := decide_eq_true (by omega)
      rw [decide_eq_true h1, decide_eq_true h2]
      clear h1 h2
      go_enter Tryz.func14, Tryz.ntmps14
      go_wp2
      go_ret
      refine ⟨rfl, ?_⟩
      repeat (first | exact Below.refl _ _ | assumption | refine bl_drew ?_ | refine bl_drewN ?_ _ | refine Below.setCell ?_ (by first | assumption | omega | (simp; done) | (simp; omega)) _ | refine Below.alloc ?_ (by first | assumption | omega | (simp; done) | (simp; omega)) _)
    · have d2 : decide ((x.length : Int) ≤ 100) = false := decide_eq_false (by omega)
      rw [decide_eq_true h1, decide_eq_false h2]
      clear h1 h2
      go_enter Tryz.func14, Tryz.ntmps14
      go_wp2
      go_ret
      refine ⟨rfl, ?_⟩
      repeat (first | exact Below.refl _ _ | assumption | refine bl_drew ?_ | refine bl_drewN ?_ _ | refine Below.setCell ?_ (by first | assumption | omega | (simp; done) | (simp; omega)) _ | refine Below.alloc ?_ (by first | assumption | omega | (simp; done) | (simp; omega)) _)
  · have d1 : decide ((n : Int) ≤ 60) = false := decide_eq_false (by omega)
    rw [decide_eq_false h1]
    clear h1
    go_enter Tryz.func14, Tryz.ntmps14
    go_wp2
    go_ret
    refine ⟨rfl, ?_⟩
    repeat (first | exact Below.refl _ _ | assumption | refine bl_drew ?_ | refine bl_drewN ?_ _ | refine Below.setCell ?_ (by first | assumption | omega | (simp; done) | (simp; omega)) _ | refine Below.alloc ?_ (by first | assumption | omega | (simp; done) | (simp; omega)) _)
/-- the work at a limb -/
theorem limbs_all (ix : Int) (T : List Ent) (A : Option Addr) (n c : Nat) (s : Sgt) (g0 g1 g2 g3 e0 e1 p0 p1 : Int) (w : World) (hT : TabAt w w.heap.size A T) (hn : T.length = n) (hn1 : n ≤ 1000) (hl : s.body.length ≤ 100000) :
    (∃ E : Int, ¬ E = 0 ∧ ∀ k : Int, k = 1 ∨ k = 2 ∨ k = 3 → ∀ W, Below w.heap.size w W → Calls Tryz.prog 16 #[.agg #[.int .i64 ix, .slice A n c], sgv s.body k s.lo s.hi s.hs s.by_ s.hor s.eye s.shore s.temp s.press, .agg #[.int .i64 g0, .int .i64 g1, .int .i64 g2, .int .i64 g3, .int .i64 e0, .int .i64 e1, .int .i64 p0, .int .i64 p1]] W fun e w' => e = .returned (.tuple #[wk0, .int .i64 E]) ∧ Below W.heap.size W w') ∨
    (∃ c0 c1 d0 d1 r0 r1 x0 x1 a0 a1 h0 h1 m0 m1 n0 n1 l0 l1 u0 u1 : Int, (0 ≤ m0 ∧ m0 ≤ m1 ∧ m1 ≤ 240000) ∧ (n0 = -m1 ∧ n1 = -m0) ∧ (l0 = h0 + m0 ∧ l1 = h1 + m1) ∧ (u0 = h0 + n0 ∧ u1 = h1 + n1) ∧ 
      (∀ W, Below w.heap.size w W → Calls Tryz.prog 16 #[.agg #[.int .i64 ix, .slice A n c], sgv s.body 1 s.lo s.hi s.hs s.by_ s.hor s.eye s.shore s.temp s.press, .agg #[.int .i64 g0, .int .i64 g1, .int .i64 g2, .int .i64 g3, .int .i64 e0, .int .i64 e1, .int .i64 p0, .int .i64 p1]] W fun e w' => e = .returned (.tuple #[wkV c0 c1 d0 d1 r0 r1 x0 x1 0 0 a0 a1 h0 h1, .int .i64 0]) ∧ Below W.heap.size W w') ∧
      (∀ W, Below w.heap.size w W → Calls Tryz.prog 16 #[.agg #[.int .i64 ix, .slice A n c], sgv s.body 2 s.lo s.hi s.hs s.by_ s.hor s.eye s.shore s.temp s.press, .agg #[.int .i64 g0, .int .i64 g1, .int .i64 g2, .int .i64 g3, .int .i64 e0, .int .i64 e1, .int .i64 p0, .int .i64 p1]] W fun e w' => e = .returned (.tuple #[wkV c0 c1 d0 d1 r0 r1 x0 x1 m0 m1 a0 a1 l0 l1, .int .i64 0]) ∧ Below W.heap.size W w') ∧
      (∀ W, Below w.heap.size w W → Calls Tryz.prog 16 #[.agg #[.int .i64 ix, .slice A n c], sgv s.body 3 s.lo s.hi s.hs s.by_ s.hor s.eye s.shore s.temp s.press, .agg #[.int .i64 g0, .int .i64 g1, .int .i64 g2, .int .i64 g3, .int .i64 e0, .int .i64 e1, .int .i64 p0, .int .i64 p1]] W fun e w' => e = .returned (.tuple #[wkV c0 c1 d0 d1 r0 r1 x0 x1 n0 n1 a0 a1 u0 u1, .int .i64 0]) ∧ Below W.heap.size W w')) := by
  obtain ⟨q, hq⟩ : ∃ q : Int → Sgt, q = fun k => ⟨s.body, k, s.lo, s.hi, s.hs, s.by_, s.hor, s.eye, s.shore, s.temp, s.press⟩ := ⟨_, rfl⟩
  have hW : ∀ (k : Int) W, Below w.heap.size w W → Calls Tryz.prog 16 #[.agg #[.int .i64 ix, .slice A n c], sgv s.body k s.lo s.hi s.hs s.by_ s.hor s.eye s.shore s.temp s.press, .agg #[.int .i64 g0, .int .i64 g1, .int .i64 g2, .int .i64 g3, .int .i64 e0, .int .i64 e1, .int .i64 p0, .int .i64 p1]] W fun e w' => WkR ix T (q k) e0 e1 p0 p1 e ∧ Below W.heap.size W w' := fun k W hb => by
    subst hq
    exact Work_any ix T A n c ⟨s.body, k, s.lo, s.hi, s.hs, s.by_, s.hor, s.eye, s.shore, s.temp, s.press⟩ g0 g1 g2 g3 e0 e1 p0 p1 W (hT.up hb) hn hn1 hl
  have hsi : ∀ k : Int, k = 1 ∨ k = 2 ∨ k = 3 → siS (q k) = siS (q 1) := fun k hk => by
    subst hq
    unfold siS siB
    rcases hk with rfl | rfl | rfl <;> rfl
  have hgi : ∀ k : Int, k = 1 ∨ k = 2 ∨ k = 3 → givB ix T (q k) e0 e1 p0 p1 = givB ix T (q 1) e0 e1 p0 p1 := fun k hk => by unfold givB; rw [hsi k hk]
  have hin : ∀ k : Int, inHa ix T (q k) = inHa ix T (q 1) := fun k => by subst hq; rfl
  cases hg : givB ix T (q 1) e0 e1 p0 p1 with
  | false =>
    refine .inl ⟨1, by omega, fun k hk W hb => (hW k W hb).mono fun e w' ⟨hr, hb⟩ => ⟨?_, hb⟩⟩
    rcases hr with ⟨_, h⟩ | ⟨h, _⟩ | ⟨h, _⟩
    · exact h
    · rw [hgi k hk, hg] at h; cases h
    · rw [hgi k hk, hg] at h; cases h
  | true =>
    cases hi : inHa ix T (q 1) with
    | false =>
      refine .inl ⟨2, by omega, fun k hk W hb => (hW k W hb).mono fun e w' ⟨hr, hb⟩ => ⟨?_, hb⟩⟩
      rcases hr with ⟨h, _⟩ | ⟨_, _, h⟩ | ⟨_, h, _⟩
      · rw [hgi k hk, hg] at h; cases h
      · exact h
      · rw [hin k, hi] at h; cases h
    | true =>
      have hsm : smP e0 e1 = true := by
        unfold givB at hg
        simp only [Bool.and_eq_true] at hg
        exact hg.2.2.1
      have hau := au_bd p0 p1 (haA ix T (q 1)) (haB ix T (q 1)) hsm
      have h00 : 0 ≤ e0 := by unfold smP at hsm; rw [decide_eq_true_eq] at hsm; exact hsm.1
      have hK : ∀ k : Int, k = 1 ∨ k = 2 ∨ k = 3 → ∀ W, Below w.heap.size w W → Calls Tryz.prog 16 #[.agg #[.int .i64 ix, .slice A n c], sgv s.body k s.lo s.hi s.hs s.by_ s.hor s.eye s.shore s.temp s.press, .agg #[.int .i64 g0, .int .i64 g1, .int .i64 g2, .int .i64 g3, .int .i64 e0, .int .i64 e1, .int .i64 p0, .int .i64 p1]] W fun e w' => e = .returned (.tuple #[wkS ix T (q k) e0 e1 p0 p1, .int .i64 0]) ∧ Below W.heap.size W w' := fun k hk W hb => (hW k W hb).mono fun e w' ⟨hr, hb⟩ => ⟨by
        rcases hr with ⟨h, _⟩ | ⟨_, h, _⟩ | ⟨_, _, h⟩
        · rw [hgi k hk, hg] at h; cases h
        · rw [hin k, hi] at h; cases h
        · exact h, hb⟩
      have k1 := hK 1 (.inl rfl)
      have k2 := hK 2 (.inr (.inl rfl))
      have k3 := hK 3 (.inr (.inr rfl))
      clear hK hW hsi hgi hin hg hi
      subst hq
      refine .inr ⟨coA ix T s.hs, coB ix T s.hs, depA ⟨s.body, 1, s.lo, s.hi, s.hs, s.by_, s.hor, s.eye, s.shore, s.temp, s.press⟩, depB ⟨s.body, 1, s.lo, s.hi, s.hs, s.by_, s.hor, s.eye, s.shore, s.temp, s.press⟩, rfL (haB ix T ⟨s.body, 1, s.lo, s.hi, s.hs, s.by_, s.hor, s.eye, s.shore, s.temp, s.press⟩) s.temp s.press, rfH (haA ix T ⟨s.body, 1, s.lo, s.hi, s.hs, s.by_, s.hor, s.eye, s.shore, s.temp, s.press⟩) s.temp s.press,
        pxA p0 p1 (haA ix T ⟨s.body, 1, s.lo, s.hi, s.hs, s.by_, s.hor, s.eye, s.shore, s.temp, s.press⟩) (haB ix T ⟨s.body, 1, s.lo, s.hi, s.hs, s.by_, s.hor, s.eye, s.shore, s.temp, s.press⟩), pxB p0 p1 (haA ix T ⟨s.body, 1, s.lo, s.hi, s.hs, s.by_, s.hor, s.eye, s.shore, s.temp, s.press⟩) (haB ix T ⟨s.body, 1, s.lo, s.hi, s.hs, s.by_, s.hor, s.eye, s.shore, s.temp, s.press⟩),
        haA ix T ⟨s.body, 1, s.lo, s.hi, s.hs, s.by_, s.hor, s.eye, s.shore, s.temp, s.press⟩, haB ix T ⟨s.body, 1, s.lo, s.hi, s.hs, s.by_, s.hor, s.eye, s.shore, s.temp, s.press⟩, hoA ix T ⟨s.body, 1, s.lo, s.hi, s.hs, s.by_, s.hor, s.eye, s.shore, s.temp, s.press⟩ e0 e1 p0 p1, hoB ix T ⟨s.body, 1, s.lo, s.hi, s.hs, s.by_, s.hor, s.eye, s.shore, s.temp, s.press⟩ e0 e1 p0 p1, auA e0 e1 p0 p1 _ _, auB e0 e1 p0 p1 _ _, -auB e0 e1 p0 p1 _ _, -auA e0 e1 p0 p1 _ _,
        hoA ix T ⟨s.body, 2, s.lo, s.hi, s.hs, s.by_, s.hor, s.eye, s.shore, s.temp, s.press⟩ e0 e1 p0 p1, hoB ix T ⟨s.body, 2, s.lo, s.hi, s.hs, s.by_, s.hor, s.eye, s.shore, s.temp, s.press⟩ e0 e1 p0 p1, hoA ix T ⟨s.body, 3, s.lo, s.hi, s.hs, s.by_, s.hor, s.eye, s.shore, s.temp, s.press⟩ e0 e1 p0 p1, hoB ix T ⟨s.body, 3, s.lo, s.hi, s.hs, s.by_, s.hor, s.eye, s.shore, s.temp, s.press⟩ e0 e1 p0 p1, ⟨by omega, hau.2.1, hau.2.2⟩, ⟨rfl, rfl⟩, ?_, ?_, k1, k2, k3⟩
      · constructor
        · show _ + auA _ _ _ _ _ _ = _ + (0 : Int) + _; rw [Int.add_zero]; rfl
        · show _ + auB _ _ _ _ _ _ = _ + (0 : Int) + _; rw [Int.add_zero]; rfl
      · constructor
        · show _ + -auB _ _ _ _ _ _ = _ + (0 : Int) + _; rw [Int.add_zero]; rfl
        · show _ + -auA _ _ _ _ _ _ = _ + (0 : Int) + _; rw [Int.add_zero]; rfl
set_option maxHeartbeats 8000000 in
set_option maxRecDepth 100000 in
theorem limbs22_any (ix : Int) (T : List Ent) (A : Option Addr) (n c : Nat) (s : Sgt) (g0 g1 g2 g3 e0 e1 p0 p1 : Int) (w : World) (hT : TabAt w w.heap.size A T) (hn : T.length = n) (he : En w) :
    Calls Tryz.prog 5 #[.agg #[.int .i64 ix, .slice A n c], sgS s, .agg #[.int .i64 g0, .int .i64 g1, .int .i64 g2, .int .i64 g3, .int .i64 e0, .int .i64 e1, .int .i64 p0, .int .i64 p1]] w fun e w' => e = .returned (.bool true) ∧ Below w.heap.size w w' := by
  have KA := Lib.hid awake22_any
  have KS := Lib.hid (fun W => short22_any ix A n c s.body s.limb s.lo s.hi s.hs s.by_ s.hor s.eye s.shore s.temp s.press W)
  have N9 := Lib.hid he
  cases hsh : decide (n ≤ 60) && decide (s.body.length ≤ 100) with
  | false =>
    rw [hsh] at KS
    clear hsh hT hn he
    obtain ⟨body, limb, tlo, thi, hs, by_, hor, eye, shore, temp, press⟩ := s
    simp only [] at *
    have I0 := Lib.hid (((Blk.new w 40 #[.int .i64 ix, .slice A n c]).alloc (.cells #[txb body, .int .i64 limb, .int .i64 tlo, .int .i64 thi, .int .i64 hs, .int .i64 by_, .int .i64 hor, .int .i64 eye, .int .i64 shore, .int .i64 temp, .int .i64 press] 25)).alloc (.cells #[.int .i64 g0, .int .i64 g1, .int .i64 g2, .int .i64 g3, .int .i64 e0, .int .i64 e1, .int .i64 p0, .int .i64 p1] 43))
    have B0 := Lib.hid ((Blk.new (w.alloc (.cells #[.int .i64 ix, .slice A n c] 40)) 25 #[txb body, .int .i64 limb, .int .i64 tlo, .int .i64 thi, .int .i64 hs, .int .i64 by_, .int .i64 hor, .int .i64 eye, .int .i64 shore, .int .i64 temp, .int .i64 press]).alloc (.cells #[.int .i64 g0, .int .i64 g1, .int .i64 g2, .int .i64 g3, .int .i64 e0, .int .i64 e1, .int .i64 p0, .int .i64 p1] 43))
    simp only [World.size_alloc] at B0
    have E0 := Lib.hid (Blk.new ((w.alloc (.cells #[.int .i64 ix, .slice A n c] 40)).alloc (.cells #[txb body, .int .i64 limb, .int .i64 tlo, .int .i64 thi, .int .i64 hs, .int .i64 by_, .int .i64 hor, .int .i64 eye, .int .i64 shore, .int .i64 temp, .int .i64 press] 25)) 43 #[.int .i64 g0, .int .i64 g1, .int .i64 g2, .int .i64 g3, .int .i64 e0, .int .i64 e1, .int .i64 p0, .int .i64 p1])
    simp only [World.size_alloc] at E0
    have N0 := Lib.hid ((((N9.out).bl (bl_alloc w (.cells #[.int .i64 ix, .slice A n c] 40))).bl (bl_alloc (w.alloc (.cells #[.int .i64 ix, .slice A n c] 40)) (.cells #[txb body, .int .i64 limb, .int .i64 tlo, .int .i64 thi, .int .i64 hs, .int .i64 by_, .int .i64 hor, .int .i64 eye, .int .i64 shore, .int .i64 temp, .int .i64 press] 25))).bl (bl_alloc ((w.alloc (.cells #[.int .i64 ix, .slice A n c] 40)).alloc (.cells #[txb body, .int .i64 limb, .int .i64 tlo, .int .i64 thi, .int .i64 hs, .int .i64 by_, .int .i64 hor, .int .i64 eye, .int .i64 shore, .int .i64 temp, .int .i64 press] 25)) (.cells #[.int .i64 g0, .int .i64 g1, .int .i64 g2, .int .i64 g3, .int .i64 e0, .int .i64 e1, .int .i64 p0, .int .i64 p1] 43)))
    have b0 := Lib.hid ((((Below.refl w.heap.size w).alloc (Nat.le_refl _) (.cells #[.int .i64 ix, .slice A n c] 40)).alloc (by simp) (.cells #[txb body, .int .i64 limb, .int .i64 tlo, .int .i64 thi, .int .i64 hs, .int .i64 by_, .int .i64 hor, .int .i64 eye, .int .i64 shore, .int .i64 temp, .int .i64 press] 25)).alloc (by simp; omega) (.cells #[.int .i64 g0, .int .i64 g1, .int .i64 g2, .int .i64 g3, .int .i64 e0, .int .i64 e1, .int .i64 p0, .int .i64 p1] 43))
    go_enter Tryz.func5, Tryz.ntmps5
    go_upto_region 1 with fail
    generalize (((w.alloc (.cells #[.int .i64 ix, .slice A n c] 40)).alloc (.cells #[txb body, .int .i64 limb, .int .i64 tlo, .int .i64 thi, .int .i64 hs, .int .i64 by_, .int .i64 hor, .int .i64 eye, .int .i64 shore, .int .i64 temp, .int .i64 press] 25)).alloc (.cells #[.int .i64 g0, .int .i64 g1, .int .i64 g2, .int .i64 g3, .int .i64 e0, .int .i64 e1, .int .i64 p0, .int .i64 p1] 43)) = w1 at *
    go_wp2_with fail
    (with_reducible refine (KA.out _ N0.out).mono ?_)
    rintro e w2 ⟨rfl, hb⟩
    have I2 := Lib.hid (I0.out.below hb I0.out.lt)
    have B2 := Lib.hid (B0.out.below hb B0.out.lt)
    have E2 := Lib.hid (E0.out.below hb E0.out.lt)
    have N2 := Lib.hid (N0.out.bl hb)
    have b2 := Lib.hid (b0.out.trans (hb.mono b0.out.size))
    clear hb I0 B0 E0 N0 b0
    go_upto_region 3 with fail
    have yI : ∀ i, w2.cell? ⟨w.heap.size, i, none⟩ = (#[.int .i64 ix, .slice A n c] : Array Value)[i]? := fun i => I2.out.cell i
    have yB : ∀ i, w2.cell? ⟨w.heap.size + 1, i, none⟩ = (#[txb body, .int .i64 limb, .int .i64 tlo, .int .i64 thi, .int .i64 hs, .int .i64 by_, .int .i64 hor, .int .i64 eye, .int .i64 shore, .int .i64 temp, .int .i64 press] : Array Value)[i]? := fun i => B2.out.cell i
    go_wp2_with fail
    (with_reducible refine (KS.out _).mono ?_)
    rintro e w3 ⟨rfl, hb⟩
    have I3 := Lib.hid (I2.out.below hb I2.out.lt)
    have B3 := Lib.hid (B2.out.below hb B2.out.lt)
    have E3 := Lib.hid (E2.out.below hb E2.out.lt)
    have N3 := Lib.hid (N2.out.bl hb)
    have b3 := Lib.hid (b2.out.trans (hb.mono b2.out.size))
    clear hb I2 B2 E2 N2 b2 yI yB
    go_upto_region 4 with fail
    go_wp2
    go_ret
    exact ⟨rfl, b3.out⟩
  | true =>
    rw [hsh] at KS
    simp only [Bool.and_eq_true, decide_eq_true_eq] at hsh
    rcases limbs_all ix T A n c s g0 g1 g2 g3 e0 e1 p0 p1 w hT hn (by omega) (by omega) with ⟨E, hE, hW⟩ | ⟨c0, c1, d0, d1, r0, r1, x0, x1, a0, a1, h0, h1, m0, m1, n0, n1, l0, l1, u0, u1, hm, hn0, hl0, hu0, hW1, hW2, hW3⟩
    · have KC1 := Lib.hid (fun W (hb : Below w.heap.size w W) hI hB hE => limb_cl 1 E 0 0 0 0 0 0 0 0 0 0 0 0 0 0 ix s.limb s.lo s.hi s.hs s.by_ s.hor s.eye s.shore s.temp s.press g0 g1 g2 g3 e0 e1 p0 p1 A n c s.body (w.heap.size + 1) w.heap.size (w.heap.size + 1 + 1) W hI hB hE (fun W' h' => hW 1 (.inl rfl) W' (hb.trans (h'.mono hb.size))))
      have KC2 := Lib.hid (fun W (hb : Below w.heap.size w W) hI hB hE => limb_cl 2 E 0 0 0 0 0 0 0 0 0 0 0 0 0 0 ix s.limb s.lo s.hi s.hs s.by_ s.hor s.eye s.shore s.temp s.press g0 g1 g2 g3 e0 e1 p0 p1 A n c s.body (w.heap.size + 1) w.heap.size (w.heap.size + 1 + 1) W hI hB hE (fun W' h' => hW 2 (.inr (.inl rfl)) W' (hb.trans (h'.mono hb.size))))
      have KC3 := Lib.hid (fun W (hb : Below w.heap.size w W) hI hB hE => limb_cl 3 E 0 0 0 0 0 0 0 0 0 0 0 0 0 0 ix s.limb s.lo s.hi s.hs s.by_ s.hor s.eye s.shore s.temp s.press g0 g1 g2 g3 e0 e1 p0 p1 A n c s.body (w.heap.size + 1) w.heap.size (w.heap.size + 1 + 1) W hI hB hE (fun W' h' => hW 3 (.inr (.inr rfl)) W' (hb.trans (h'.mono hb.size))))
      have hE1 : ((E : Int) == 0) = false := by simpa using hE
      have hE2 : ((E : Int) != 0) = true := by simpa using hE
      clear hsh hT hn he hW
      obtain ⟨body, limb, tlo, thi, hs, by_, hor, eye, shore, temp, press⟩ := s
      simp only [] at *
      have I0 := Lib.hid (((Blk.new w 40 #[.int .i64 ix, .slice A n c]).alloc (.cells #[txb body, .int .i64 limb, .int .i64 tlo, .int .i64 thi, .int .i64 hs, .int .i64 by_, .int .i64 hor, .int .i64 eye, .int .i64 shore, .int .i64 temp, .int .i64 press] 25)).alloc (.cells #[.int .i64 g0, .int .i64 g1, .int .i64 g2, .int .i64 g3, .int .i64 e0, .int .i64 e1, .int .i64 p0, .int .i64 p1] 43))
      have B0 := Lib.hid ((Blk.new (w.alloc (.cells #[.int .i64 ix, .slice A n c] 40)) 25 #[txb body, .int .i64 limb, .int .i64 tlo, .int .i64 thi, .int .i64 hs, .int .i64 by_, .int .i64 hor, .int .i64 eye, .int .i64 shore, .int .i64 temp, .int .i64 press]).alloc (.cells #[.int .i64 g0, .int .i64 g1, .int .i64 g2, .int .i64 g3, .int .i64 e0, .int .i64 e1, .int .i64 p0, .int .i64 p1] 43))
      simp only [World.size_alloc] at B0
      have E0 := Lib.hid (Blk.new ((w.alloc (.cells #[.int .i64 ix, .slice A n c] 40)).alloc (.cells #[txb body, .int .i64 limb, .int .i64 tlo, .int .i64 thi, .int .i64 hs, .int .i64 by_, .int .i64 hor, .int .i64 eye, .int .i64 shore, .int .i64 temp, .int .i64 press] 25)) 43 #[.int .i64 g0, .int .i64 g1, .int .i64 g2, .int .i64 g3, .int .i64 e0, .int .i64 e1, .int .i64 p0, .int .i64 p1])
      simp only [World.size_alloc] at E0
      have N0 := Lib.hid ((((N9.out).bl (bl_alloc w (.cells #[.int .i64 ix, .slice A n c] 40))).bl (bl_alloc (w.alloc (.cells #[.int .i64 ix, .slice A n c] 40)) (.cells #[txb body, .int .i64 limb, .int .i64 tlo, .int .i64 thi, .int .i64 hs, .int .i64 by_, .int .i64 hor, .int .i64 eye, .int .i64 shore, .int .i64 temp, .int .i64 press] 25))).bl (bl_alloc ((w.alloc (.cells #[.int .i64 ix, .slice A n c] 40)).alloc (.cells #[txb body, .int .i64 limb, .int .i64 tlo, .int .i64 thi, .int .i64 hs, .int .i64 by_, .int .i64 hor, .int .i64 eye, .int .i64 shore, .int .i64 temp, .int .i64 press] 25)) (.cells #[.int .i64 g0, .int .i64 g1, .int .i64 g2, .int .i64 g3, .int .i64 e0, .int .i64 e1, .int .i64 p0, .int .i64 p1] 43)))
      have b0 := Lib.hid ((((Below.refl w.heap.size w).alloc (Nat.le_refl _) (.cells #[.int .i64 ix, .slice A n c] 40)).alloc (by simp) (.cells #[txb body, .int .i64 limb, .int .i64 tlo, .int .i64 thi, .int .i64 hs, .int .i64 by_, .int .i64 hor, .int .i64 eye, .int .i64 shore, .int .i64 temp, .int .i64 press] 25)).alloc (by simp; omega) (.cells #[.int .i64 g0, .int .i64 g1, .int .i64 g2, .int .i64 g3, .int .i64 e0, .int .i64 e1, .int .i64 p0, .int .i64 p1] 43))
      go_enter Tryz.func5, Tryz.ntmps5
      go_upto_region 1 with fail
      generalize (((w.alloc (.cells #[.int .i64 ix, .slice A n c] 40)).alloc (.cells #[txb body, .int .i64 limb, .int .i64 tlo, .int .i64 thi, .int .i64 hs, .int .i64 by_, .int .i64 hor, .int .i64 eye, .int .i64 shore, .int .i64 temp, .int .i64 press] 25)).alloc (.cells #[.int .i64 g0, .int .i64 g1, .int .i64 g2, .int .i64 g3, .int .i64 e0, .int .i64 e1, .int .i64 p0, .int .i64 p1] 43)) = w1 at *
      go_wp2_with fail
      (with_reducible refine (KA.out _ N0.out).mono ?_)
      rintro e w2 ⟨rfl, hb⟩
      have I2 := Lib.hid (I0.out.below hb I0.out.lt)
      have B2 := Lib.hid (B0.out.below hb B0.out.lt)
      have E2 := Lib.hid (E0.out.below hb E0.out.lt)
      have N2 := Lib.hid (N0.out.bl hb)
      have b2 := Lib.hid (b0.out.trans (hb.mono b0.out.size))
      clear hb I0 B0 E0 N0 b0
      go_upto_region 3 with fail
      have yI : ∀ i, w2.cell? ⟨w.heap.size, i, none⟩ = (#[.int .i64 ix, .slice A n c] : Array Value)[i]? := fun i => I2.out.cell i
      have yB : ∀ i, w2.cell? ⟨w.heap.size + 1, i, none⟩ = (#[txb body, .int .i64 limb, .int .i64 tlo, .int .i64 thi, .int .i64 hs, .int .i64 by_, .int .i64 hor, .int .i64 eye, .int .i64 shore, .int .i64 temp, .int .i64 press] : Array Value)[i]? := fun i => B2.out.cell i
      go_wp2_with fail
      (with_reducible refine (KS.out _).mono ?_)
      rintro e w3 ⟨rfl, hb⟩
      have I3 := Lib.hid (I2.out.below hb I2.out.lt)
      have B3 := Lib.hid (B2.out.below hb B2.out.lt)
      have E3 := Lib.hid (E2.out.below hb E2.out.lt)
      have N3 := Lib.hid (N2.out.bl hb)
      have b3 := Lib.hid (b2.out.trans (hb.mono b2.out.size))
      clear hb I2 B2 E2 N2 b2 yI yB
      go_upto_region 6 with fail
      go_wp2_with fail
      (with_reducible refine (KC1.out _ b3.out I3.out B3.out E3.out).mono ?_)
      rintro e w4 ⟨rfl, hb⟩
      have I4 := Lib.hid (I3.out.below hb I3.out.lt)
      have B4 := Lib.hid (B3.out.below hb B3.out.lt)
      have E4 := Lib.hid (E3.out.below hb E3.out.lt)
      have N4 := Lib.hid (N3.out.bl hb)
      have b4 := Lib.hid (b3.out.trans (hb.mono b3.out.size))
      clear hb I3 B3 E3 N3 b3
      have I5 := Lib.hid (I4.out.alloc (.cells #[.int .i64 0, .int .i64 0, .int .i64 0, .int .i64 0, .int .i64 0, .int .i64 0, .int .i64 0, .int .i64 0, .int .i64 0, .int .i64 0, .int .i64 0, .int .i64 0, .int .i64 0, .int .i64 0] 46))
      have B5 := Lib.hid (B4.out.alloc (.cells #[.int .i64 0, .int .i64 0, .int .i64 0, .int .i64 0, .int .i64 0, .int .i64 0, .int .i64 0, .int .i64 0, .int .i64 0, .int .i64 0, .int .i64 0, .int .i64 0, .int .i64 0, .int .i64 0] 46))
      have E5 := Lib.hid (E4.out.alloc (.cells #[.int .i64 0, .int .i64 0, .int .i64 0, .int .i64 0, .int .i64 0, .int .i64 0, .int .i64 0, .int .i64 0, .int .i64 0, .int .i64 0, .int .i64 0, .int .i64 0, .int .i64 0, .int .i64 0] 46))
      have C5 := Lib.hid (Blk.new w4 46 #[.int .i64 0, .int .i64 0, .int .i64 0, .int .i64 0, .int .i64 0, .int .i64 0, .int .i64 0, .int .i64 0, .int .i64 0, .int .i64 0, .int .i64 0, .int .i64 0, .int .i64 0, .int .i64 0])
      have N5 := Lib.hid (N4.out.bl (bl_alloc w4 (.cells #[.int .i64 0, .int .i64 0, .int .i64 0, .int .i64 0, .int .i64 0, .int .i64 0, .int .i64 0, .int .i64 0, .int .i64 0, .int .i64 0, .int .i64 0, .int .i64 0, .int .i64 0, .int .i64 0] 46)))
      have b5 := Lib.hid (b4.out.trans ((bl_alloc w4 (.cells #[.int .i64 0, .int .i64 0, .int .i64 0, .int .i64 0, .int .i64 0, .int .i64 0, .int .i64 0, .int .i64 0, .int .i64 0, .int .i64 0, .int .i64 0, .int .i64 0, .int .i64 0, .int .i64 0] 46)).mono b4.out.size))
      clear I4 B4 E4 N4 b4
      go_upto_region 7 with fail
      generalize w4.alloc (.cells #[.int .i64 0, .int .i64 0, .int .i64 0, .int .i64 0, .int .i64 0, .int .i64 0, .int .i64 0, .int .i64 0, .int .i64 0, .int .i64 0, .int .i64 0, .int .i64 0, .int .i64 0, .int .i64 0] 46) = w6 at *
      go_wp2_with fail
      (with_reducible refine (KC2.out _ b5.out I5.out B5.out E5.out).mono ?_)
      rintro e w7 ⟨rfl, hb⟩
      have I7 := Lib.hid (I5.out.below hb I5.out.lt)
      have B7 := Lib.hid (B5.out.below hb B5.out.lt)
      have E7 := Lib.hid (E5.out.below hb E5.out.lt)
      have C7 := Lib.hid (C5.out.below hb C5.out.lt)
      have N7 := Lib.hid (N5.out.bl hb)
      have b7 := Lib.hid (b5.out.trans (hb.mono b5.out.size))
      clear hb I5 B5 E5 C5 N5 b5
      have I8 := Lib.hid (I7.out.alloc (.cells #[.int .i64 0, .int .i64 0, .int .i64 0, .int .i64 0, .int .i64 0, .int .i64 0, .int .i64 0, .int .i64 0, .int .i64 0, .int .i64 0, .int .i64 0, .int .i64 0, .int .i64 0, .int .i64 0] 46))
      have B8 := Lib.hid (B7.out.alloc (.cells #[.int .i64 0, .int .i64 0, .int .i64 0, .int .i64 0, .int .i64 0, .int .i64 0, .int .i64 0, .int .i64 0, .int .i64 0, .int .i64 0, .int .i64 0, .int .i64 0, .int .i64 0, .int .i64 0] 46))
      have E8 := Lib.hid (E7.out.alloc (.cells #[.int .i64 0, .int .i64 0, .int .i64 0, .int .i64 0, .int .i64 0, .int .i64 0, .int .i64 0, .int .i64 0, .int .i64 0, .int .i64 0, .int .i64 0, .int .i64 0, .int .i64 0, .int .i64 0] 46))
      have C8 := Lib.hid (C7.out.alloc (.cells #[.int .i64 0, .int .i64 0, .int .i64 0, .int .i64 0, .int .i64 0, .int .i64 0, .int .i64 0, .int .i64 0, .int .i64 0, .int .i64 0, .int .i64 0, .int .i64 0, .int .i64 0, .int .i64 0] 46))
      have D8 := Lib.hid (Blk.new w7 46 #[.int .i64 0, .int .i64 0, .int .i64 0, .int .i64 0, .int .i64 0, .int .i64 0, .int .i64 0, .int .i64 0, .int .i64 0, .int .i64 0, .int .i64 0, .int .i64 0, .int .i64 0, .int .i64 0])
      have N8 := Lib.hid (N7.out.bl (bl_alloc w7 (.cells #[.int .i64 0, .int .i64 0, .int .i64 0, .int .i64 0, .int .i64 0, .int .i64 0, .int .i64 0, .int .i64 0, .int .i64 0, .int .i64 0, .int .i64 0, .int .i64 0, .int .i64 0, .int .i64 0] 46)))
      have b8 := Lib.hid (b7.out.trans ((bl_alloc w7 (.cells #[.int .i64 0, .int .i64 0, .int .i64 0, .int .i64 0, .int .i64 0, .int .i64 0, .int .i64 0, .int .i64 0, .int .i64 0, .int .i64 0, .int .i64 0, .int .i64 0, .int .i64 0, .int .i64 0] 46)).mono b7.out.size))
      clear I7 B7 E7 C7 N7 b7
      go_upto_region 8 with fail
      generalize w7.alloc (.cells #[.int .i64 0, .int .i64 0, .int .i64 0, .int .i64 0, .int .i64 0, .int .i64 0, .int .i64 0, .int .i64 0, .int .i64 0, .int .i64 0, .int .i64 0, .int .i64 0, .int .i64 0, .int .i64 0] 46) = w9 at *
      go_wp2_with fail
      (with_reducible refine (KC3.out _ b8.out I8.out B8.out E8.out).mono ?_)
      rintro e w10 ⟨rfl, hb⟩
      have I10 := Lib.hid (I8.out.below hb I8.out.lt)
      have B10 := Lib.hid (B8.out.below hb B8.out.lt)
      have E10 := Lib.hid (E8.out.below hb E8.out.lt)
      have C10 := Lib.hid (C8.out.below hb C8.out.lt)
      have D10 := Lib.hid (D8.out.below hb D8.out.lt)
      have N10 := Lib.hid (N8.out.bl hb)
      have b10 := Lib.hid (b8.out.trans (hb.mono b8.out.size))
      clear hb I8 B8 E8 C8 D8 N8 b8
      have I11 := Lib.hid (I10.out.alloc (.cells #[.int .i64 0, .int .i64 0, .int .i64 0, .int .i64 0, .int .i64 0, .int .i64 0, .int .i64 0, .int .i64 0, .int .i64 0, .int .i64 0, .int .i64 0, .int .i64 0, .int .i64 0, .int .i64 0] 46))
      have B11 := Lib.hid (B10.out.alloc (.cells #[.int .i64 0, .int .i64 0, .int .i64 0, .int .i64 0, .int .i64 0, .int .i64 0, .int .i64 0, .int .i64 0, .int .i64 0, .int .i64 0, .int .i64 0, .int .i64 0, .int .i64 0, .int .i64 0] 46))
      have E11 := Lib.hid (E10.out.alloc (.cells #[.int .i64 0, .int .i64 0, .int .i64 0, .int .i64 0, .int .i64 0, .int .i64 0, .int .i64 0, .int .i64 0, .int .i64 0, .int .i64 0, .int .i64 0, .int .i64 0, .int .i64 0, .int .i64 0] 46))
      have C11 := Lib.hid (C10.out.alloc (.cells #[.int .i64 0, .int .i64 0, .int .i64 0, .int .i64 0, .int .i64 0, .int .i64 0, .int .i64 0, .int .i64 0, .int .i64 0, .int .i64 0, .int .i64 0, .int .i64 0, .int .i64 0, .int .i64 0] 46))
      have D11 := Lib.hid (D10.out.alloc (.cells #[.int .i64 0, .int .i64 0, .int .i64 0, .int .i64 0, .int .i64 0, .int .i64 0, .int .i64 0, .int .i64 0, .int .i64 0, .int .i64 0, .int .i64 0, .int .i64 0, .int .i64 0, .int .i64 0] 46))
      have U11 := Lib.hid (Blk.new w10 46 #[.int .i64 0, .int .i64 0, .int .i64 0, .int .i64 0, .int .i64 0, .int .i64 0, .int .i64 0, .int .i64 0, .int .i64 0, .int .i64 0, .int .i64 0, .int .i64 0, .int .i64 0, .int .i64 0])
      have N11 := Lib.hid (N10.out.bl (bl_alloc w10 (.cells #[.int .i64 0, .int .i64 0, .int .i64 0, .int .i64 0, .int .i64 0, .int .i64 0, .int .i64 0, .int .i64 0, .int .i64 0, .int .i64 0, .int .i64 0, .int .i64 0, .int .i64 0, .int .i64 0] 46)))
      have b11 := Lib.hid (b10.out.trans ((bl_alloc w10 (.cells #[.int .i64 0, .int .i64 0, .int .i64 0, .int .i64 0, .int .i64 0, .int .i64 0, .int .i64 0, .int .i64 0, .int .i64 0, .int .i64 0, .int .i64 0, .int .i64 0, .int .i64 0, .int .i64 0] 46)).mono b10.out.size))
      clear I10 B10 E10 C10 D10 N10 b10
      go_upto_region 9 with fail
      generalize w10.alloc (.cells #[.int .i64 0, .int .i64 0, .int .i64 0, .int .i64 0, .int .i64 0, .int .i64 0, .int .i64 0, .int .i64 0, .int .i64 0, .int .i64 0, .int .i64 0, .int .i64 0, .int .i64 0, .int .i64 0] 46) = w12 at *
      go_upto_region 10 with fail
      go_wp2
      go_ret
      exact ⟨rfl, b11.out⟩
    · have KC1 := Lib.hid (fun W (hb : Below w.heap.size w W) hI hB hE => limb_cl 1 0 c0 c1 d0 d1 r0 r1 x0 x1 0 0 a0 a1 h0 h1 ix s.limb s.lo s.hi s.hs s.by_ s.hor s.eye s.shore s.temp s.press g0 g1 g2 g3 e0 e1 p0 p1 A n c s.body (w.heap.size + 1) w.heap.size (w.heap.size + 1 + 1) W hI hB hE (fun W' h' => hW1 W' (hb.trans (h'.mono hb.size))))
      have KC2 := Lib.hid (fun W (hb : Below w.heap.size w W) hI hB hE => limb_cl 2 0 c0 c1 d0 d1 r0 r1 x0 x1 m0 m1 a0 a1 l0 l1 ix s.limb s.lo s.hi s.hs s.by_ s.hor s.eye s.shore s.temp s.press g0 g1 g2 g3 e0 e1 p0 p1 A n c s.body (w.heap.size + 1) w.heap.size (w.heap.size + 1 + 1) W hI hB hE (fun W' h' => hW2 W' (hb.trans (h'.mono hb.size))))
      have KC3 := Lib.hid (fun W (hb : Below w.heap.size w W) hI hB hE => limb_cl 3 0 c0 c1 d0 d1 r0 r1 x0 x1 n0 n1 a0 a1 u0 u1 ix s.limb s.lo s.hi s.hs s.by_ s.hor s.eye s.shore s.temp s.press g0 g1 g2 g3 e0 e1 p0 p1 A n c s.body (w.heap.size + 1) w.heap.size (w.heap.size + 1 + 1) W hI hB hE (fun W' h' => hW3 W' (hb.trans (h'.mono hb.size))))
      have f1 : wrap64 (-n1) = m0 := by rw [IntWalk.wrap64_in _ (by omega)]; omega
      have f2 : wrap64 (-n0) = m1 := by rw [IntWalk.wrap64_in _ (by omega)]; omega
      have f3 : wrap64 (l0 - h0) = m0 := by rw [IntWalk.wrap64_in _ (by omega)]; omega
      have f4 : wrap64 (l1 - h1) = m1 := by rw [IntWalk.wrap64_in _ (by omega)]; omega
      have f5 : wrap64 (u0 - h0) = n0 := by rw [IntWalk.wrap64_in _ (by omega)]; omega
      have f6 : decide (l0 ≥ h0) = true := decide_eq_true (by omega)
      have f7 : decide (u1 ≤ h1) = true := decide_eq_true (by omega)
      have hA : ∀ a b W, (binOp .neq 41 (tiv a b) (tiv a b)).run Tryz.prog W = .ok (.bool false) W := fun a b W => by rw [run_neq_struct, show (10000 : Nat) = 9998 + 1 + 1 from rfl, eqInArc]; simp [Result.andThen]
      clear hsh hT hn he hW1 hW2 hW3 hm hn0 hl0 hu0
      obtain ⟨body, limb, tlo, thi, hs, by_, hor, eye, shore, temp, press⟩ := s
      simp only [] at *
      have I0 := Lib.hid (((Blk.new w 40 #[.int .i64 ix, .slice A n c]).alloc (.cells #[txb body, .int .i64 limb, .int .i64 tlo, .int .i64 thi, .int .i64 hs, .int .i64 by_, .int .i64 hor, .int .i64 eye, .int .i64 shore, .int .i64 temp, .int .i64 press] 25)).alloc (.cells #[.int .i64 g0, .int .i64 g1, .int .i64 g2, .int .i64 g3, .int .i64 e0, .int .i64 e1, .int .i64 p0, .int .i64 p1] 43))
      have B0 := Lib.hid ((Blk.new (w.alloc (.cells #[.int .i64 ix, .slice A n c] 40)) 25 #[txb body, .int .i64 limb, .int .i64 tlo, .int .i64 thi, .int .i64 hs, .int .i64 by_, .int .i64 hor, .int .i64 eye, .int .i64 shore, .int .i64 temp, .int .i64 press]).alloc (.cells #[.int .i64 g0, .int .i64 g1, .int .i64 g2, .int .i64 g3, .int .i64 e0, .int .i64 e1, .int .i64 p0, .int .i64 p1] 43))
      simp only [World.size_alloc] at B0
      have E0 := Lib.hid (Blk.new ((w.alloc (.cells #[.int .i64 ix, .slice A n c] 40)).alloc (.cells #[txb body, .int .i64 limb, .int .i64 tlo, .int .i64 thi, .int .i64 hs, .int .i64 by_, .int .i64 hor, .int .i64 eye, .int .i64 shore, .int .i64 temp, .int .i64 press] 25)) 43 #[.int .i64 g0, .int .i64 g1, .int .i64 g2, .int .i64 g3, .int .i64 e0, .int .i64 e1, .int .i64 p0, .int .i64 p1])
      simp only [World.size_alloc] at E0
      have N0 := Lib.hid ((((N9.out).bl (bl_alloc w (.cells #[.int .i64 ix, .slice A n c] 40))).bl (bl_alloc (w.alloc (.cells #[.int .i64 ix, .slice A n c] 40)) (.cells #[txb body, .int .i64 limb, .int .i64 tlo, .int .i64 thi, .int .i64 hs, .int .i64 by_, .int .i64 hor, .int .i64 eye, .int .i64 shore, .int .i64 temp, .int .i64 press] 25))).bl (bl_alloc ((w.alloc (.cells #[.int .i64 ix, .slice A n c] 40)).alloc (.cells #[txb body, .int .i64 limb, .int .i64 tlo, .int .i64 thi, .int .i64 hs, .int .i64 by_, .int .i64 hor, .int .i64 eye, .int .i64 shore, .int .i64 temp, .int .i64 press] 25)) (.cells #[.int .i64 g0, .int .i64 g1, .int .i64 g2, .int .i64 g3, .int .i64 e0, .int .i64 e1, .int .i64 p0, .int .i64 p1] 43)))
      have b0 := Lib.hid ((((Below.refl w.heap.size w).alloc (Nat.le_refl _) (.cells #[.int .i64 ix, .slice A n c] 40)).alloc (by simp) (.cells #[txb body, .int .i64 limb, .int .i64 tlo, .int .i64 thi, .int .i64 hs, .int .i64 by_, .int .i64 hor, .int .i64 eye, .int .i64 shore, .int .i64 temp, .int .i64 press] 25)).alloc (by simp; omega) (.cells #[.int .i64 g0, .int .i64 g1, .int .i64 g2, .int .i64 g3, .int .i64 e0, .int .i64 e1, .int .i64 p0, .int .i64 p1] 43))
      go_enter Tryz.func5, Tryz.ntmps5
      go_upto_region 1 with fail
      generalize (((w.alloc (.cells #[.int .i64 ix, .slice A n c] 40)).alloc (.cells #[txb body, .int .i64 limb, .int .i64 tlo, .int .i64 thi, .int .i64 hs, .int .i64 by_, .int .i64 hor, .int .i64 eye, .int .i64 shore, .int .i64 temp, .int .i64 press] 25)).alloc (.cells #[.int .i64 g0, .int .i64 g1, .int .i64 g2, .int .i64 g3, .int .i64 e0, .int .i64 e1, .int .i64 p0, .int .i64 p1] 43)) = w1 at *
      go_wp2_with fail
      (with_reducible refine (KA.out _ N0.out).mono ?_)
      rintro e w2 ⟨rfl, hb⟩
      have I2 := Lib.hid (I0.out.below hb I0.out.lt)
      have B2 := Lib.hid (B0.out.below hb B0.out.lt)
      have E2 := Lib.hid (E0.out.below hb E0.out.lt)
      have N2 := Lib.hid (N0.out.bl hb)
      have b2 := Lib.hid (b0.out.trans (hb.mono b0.out.size))
      clear hb I0 B0 E0 N0 b0
      go_upto_region 3 with fail
      have yI : ∀ i, w2.cell? ⟨w.heap.size, i, none⟩ = (#[.int .i64 ix, .slice A n c] : Array Value)[i]? := fun i => I2.out.cell i
      have yB : ∀ i, w2.cell? ⟨w.heap.size + 1, i, none⟩ = (#[txb body, .int .i64 limb, .int .i64 tlo, .int .i64 thi, .int .i64 hs, .int .i64 by_, .int .i64 hor, .int .i64 eye, .int .i64 shore, .int .i64 temp, .int .i64 press] : Array Value)[i]? := fun i => B2.out.cell i
      go_wp2_with fail
      (with_reducible refine (KS.out _).mono ?_)
      rintro e w3 ⟨rfl, hb⟩
      have I3 := Lib.hid (I2.out.below hb I2.out.lt)
      have B3 := Lib.hid (B2.out.below hb B2.out.lt)
      have E3 := Lib.hid (E2.out.below hb E2.out.lt)
      have N3 := Lib.hid (N2.out.bl hb)
      have b3 := Lib.hid (b2.out.trans (hb.mono b2.out.size))
      clear hb I2 B2 E2 N2 b2 yI yB
      go_upto_region 6 with fail
      go_wp2_with fail
      (with_reducible refine (KC1.out _ b3.out I3.out B3.out E3.out).mono ?_)
      rintro e w4 ⟨rfl, hb⟩
      have I4 := Lib.hid (I3.out.below hb I3.out.lt)
      have B4 := Lib.hid (B3.out.below hb B3.out.lt)
      have E4 := Lib.hid (E3.out.below hb E3.out.lt)
      have N4 := Lib.hid (N3.out.bl hb)
      have b4 := Lib.hid (b3.out.trans (hb.mono b3.out.size))
      clear hb I3 B3 E3 N3 b3
      have I5 := Lib.hid (I4.out.alloc (.cells #[.int .i64 c0, .int .i64 c1, .int .i64 d0, .int .i64 d1, .int .i64 r0, .int .i64 r1, .int .i64 x0, .int .i64 x1, .int .i64 0, .int .i64 0, .int .i64 a0, .int .i64 a1, .int .i64 h0, .int .i64 h1] 46))
      have B5 := Lib.hid (B4.out.alloc (.cells #[.int .i64 c0, .int .i64 c1, .int .i64 d0, .int .i64 d1, .int .i64 r0, .int .i64 r1, .int .i64 x0, .int .i64 x1, .int .i64 0, .int .i64 0, .int .i64 a0, .int .i64 a1, .int .i64 h0, .int .i64 h1] 46))
      have E5 := Lib.hid (E4.out.alloc (.cells #[.int .i64 c0, .int .i64 c1, .int .i64 d0, .int .i64 d1, .int .i64 r0, .int .i64 r1, .int .i64 x0, .int .i64 x1, .int .i64 0, .int .i64 0, .int .i64 a0, .int .i64 a1, .int .i64 h0, .int .i64 h1] 46))
      have C5 := Lib.hid (Blk.new w4 46 #[.int .i64 c0, .int .i64 c1, .int .i64 d0, .int .i64 d1, .int .i64 r0, .int .i64 r1, .int .i64 x0, .int .i64 x1, .int .i64 0, .int .i64 0, .int .i64 a0, .int .i64 a1, .int .i64 h0, .int .i64 h1])
      have N5 := Lib.hid (N4.out.bl (bl_alloc w4 (.cells #[.int .i64 c0, .int .i64 c1, .int .i64 d0, .int .i64 d1, .int .i64 r0, .int .i64 r1, .int .i64 x0, .int .i64 x1, .int .i64 0, .int .i64 0, .int .i64 a0, .int .i64 a1, .int .i64 h0, .int .i64 h1] 46)))
      have b5 := Lib.hid (b4.out.trans ((bl_alloc w4 (.cells #[.int .i64 c0, .int .i64 c1, .int .i64 d0, .int .i64 d1, .int .i64 r0, .int .i64 r1, .int .i64 x0, .int .i64 x1, .int .i64 0, .int .i64 0, .int .i64 a0, .int .i64 a1, .int .i64 h0, .int .i64 h1] 46)).mono b4.out.size))
      clear I4 B4 E4 N4 b4
      go_upto_region 7 with fail
      generalize w4.alloc (.cells #[.int .i64 c0, .int .i64 c1, .int .i64 d0, .int .i64 d1, .int .i64 r0, .int .i64 r1, .int .i64 x0, .int .i64 x1, .int .i64 0, .int .i64 0, .int .i64 a0, .int .i64 a1, .int .i64 h0, .int .i64 h1] 46) = w6 at *
      go_wp2_with fail
      (with_reducible refine (KC2.out _ b5.out I5.out B5.out E5.out).mono ?_)
      rintro e w7 ⟨rfl, hb⟩
      have I7 := Lib.hid (I5.out.below hb I5.out.lt)
      have B7 := Lib.hid (B5.out.below hb B5.out.lt)
      have E7 := Lib.hid (E5.out.below hb E5.out.lt)
      have C7 := Lib.hid (C5.out.below hb C5.out.lt)
      have N7 := Lib.hid (N5.out.bl hb)
      have b7 := Lib.hid (b5.out.trans (hb.mono b5.out.size))
      clear hb I5 B5 E5 C5 N5 b5
      have I8 := Lib.hid (I7.out.alloc (.cells #[.int .i64 c0, .int .i64 c1, .int .i64 d0, .int .i64 d1, .int .i64 r0, .int .i64 r1, .int .i64 x0, .int .i64 x1, .int .i64 m0, .int .i64 m1, .int .i64 a0, .int .i64 a1, .int .i64 l0, .int .i64 l1] 46))
      have B8 := Lib.hid (B7.out.alloc (.cells #[.int .i64 c0, .int .i64 c1, .int .i64 d0, .int .i64 d1, .int .i64 r0, .int .i64 r1, .int .i64 x0, .int .i64 x1, .int .i64 m0, .int .i64 m1, .int .i64 a0, .int .i64 a1, .int .i64 l0, .int .i64 l1] 46))
      have E8 := Lib.hid (E7.out.alloc (.cells #[.int .i64 c0, .int .i64 c1, .int .i64 d0, .int .i64 d1, .int .i64 r0, .int .i64 r1, .int .i64 x0, .int .i64 x1, .int .i64 m0, .int .i64 m1, .int .i64 a0, .int .i64 a1, .int .i64 l0, .int .i64 l1] 46))
      have C8 := Lib.hid (C7.out.alloc (.cells #[.int .i64 c0, .int .i64 c1, .int .i64 d0, .int .i64 d1, .int .i64 r0, .int .i64 r1, .int .i64 x0, .int .i64 x1, .int .i64 m0, .int .i64 m1, .int .i64 a0, .int .i64 a1, .int .i64 l0, .int .i64 l1] 46))
      have D8 := Lib.hid (Blk.new w7 46 #[.int .i64 c0, .int .i64 c1, .int .i64 d0, .int .i64 d1, .int .i64 r0, .int .i64 r1, .int .i64 x0, .int .i64 x1, .int .i64 m0, .int .i64 m1, .int .i64 a0, .int .i64 a1, .int .i64 l0, .int .i64 l1])
      have N8 := Lib.hid (N7.out.bl (bl_alloc w7 (.cells #[.int .i64 c0, .int .i64 c1, .int .i64 d0, .int .i64 d1, .int .i64 r0, .int .i64 r1, .int .i64 x0, .int .i64 x1, .int .i64 m0, .int .i64 m1, .int .i64 a0, .int .i64 a1, .int .i64 l0, .int .i64 l1] 46)))
      have b8 := Lib.hid (b7.out.trans ((bl_alloc w7 (.cells #[.int .i64 c0, .int .i64 c1, .int .i64 d0, .int .i64 d1, .int .i64 r0, .int .i64 r1, .int .i64 x0, .int .i64 x1, .int .i64 m0, .int .i64 m1, .int .i64 a0, .int .i64 a1, .int .i64 l0, .int .i64 l1] 46)).mono b7.out.size))
      clear I7 B7 E7 C7 N7 b7
      go_upto_region 8 with fail
      generalize w7.alloc (.cells #[.int .i64 c0, .int .i64 c1, .int .i64 d0, .int .i64 d1, .int .i64 r0, .int .i64 r1, .int .i64 x0, .int .i64 x1, .int .i64 m0, .int .i64 m1, .int .i64 a0, .int .i64 a1, .int .i64 l0, .int .i64 l1] 46) = w9 at *
      go_wp2_with fail
      (with_reducible refine (KC3.out _ b8.out I8.out B8.out E8.out).mono ?_)
      rintro e w10 ⟨rfl, hb⟩
      have I10 := Lib.hid (I8.out.below hb I8.out.lt)
      have B10 := Lib.hid (B8.out.below hb B8.out.lt)
      have E10 := Lib.hid (E8.out.below hb E8.out.lt)
      have C10 := Lib.hid (C8.out.below hb C8.out.lt)
      have D10 := Lib.hid (D8.out.below hb D8.out.lt)
      have N10 := Lib.hid (N8.out.bl hb)
      have b10 := Lib.hid (b8.out.trans (hb.mono b8.out.size))
      clear hb I8 B8 E8 C8 D8 N8 b8
      have I11 := Lib.hid (I10.out.alloc (.cells #[.int .i64 c0, .int .i64 c1, .int .i64 d0, .int .i64 d1, .int .i64 r0, .int .i64 r1, .int .i64 x0, .int .i64 x1, .int .i64 n0, .int .i64 n1, .int .i64 a0, .int .i64 a1, .int .i64 u0, .int .i64 u1] 46))
      have B11 := Lib.hid (B10.out.alloc (.cells #[.int .i64 c0, .int .i64 c1, .int .i64 d0, .int .i64 d1, .int .i64 r0, .int .i64 r1, .int .i64 x0, .int .i64 x1, .int .i64 n0, .int .i64 n1, .int .i64 a0, .int .i64 a1, .int .i64 u0, .int .i64 u1] 46))
      have E11 := Lib.hid (E10.out.alloc (.cells #[.int .i64 c0, .int .i64 c1, .int .i64 d0, .int .i64 d1, .int .i64 r0, .int .i64 r1, .int .i64 x0, .int .i64 x1, .int .i64 n0, .int .i64 n1, .int .i64 a0, .int .i64 a1, .int .i64 u0, .int .i64 u1] 46))
      have C11 := Lib.hid (C10.out.alloc (.cells #[.int .i64 c0, .int .i64 c1, .int .i64 d0, .int .i64 d1, .int .i64 r0, .int .i64 r1, .int .i64 x0, .int .i64 x1, .int .i64 n0, .int .i64 n1, .int .i64 a0, .int .i64 a1, .int .i64 u0, .int .i64 u1] 46))
      have D11 := Lib.hid (D10.out.alloc (.cells #[.int .i64 c0, .int .i64 c1, .int .i64 d0, .int .i64 d1, .int .i64 r0, .int .i64 r1, .int .i64 x0, .int .i64 x1, .int .i64 n0, .int .i64 n1, .int .i64 a0, .int .i64 a1, .int .i64 u0, .int .i64 u1] 46))
      have U11 := Lib.hid (Blk.new w10 46 #[.int .i64 c0, .int .i64 c1, .int .i64 d0, .int .i64 d1, .int .i64 r0, .int .i64 r1, .int .i64 x0, .int .i64 x1, .int .i64 n0, .int .i64 n1, .int .i64 a0, .int .i64 a1, .int .i64 u0, .int .i64 u1])
      have N11 := Lib.hid (N10.out.bl (bl_alloc w10 (.cells #[.int .i64 c0, .int .i64 c1, .int .i64 d0, .int .i64 d1, .int .i64 r0, .int .i64 r1, .int .i64 x0, .int .i64 x1, .int .i64 n0, .int .i64 n1, .int .i64 a0, .int .i64 a1, .int .i64 u0, .int .i64 u1] 46)))
      have b11 := Lib.hid (b10.out.trans ((bl_alloc w10 (.cells #[.int .i64 c0, .int .i64 c1, .int .i64 d0, .int .i64 d1, .int .i64 r0, .int .i64 r1, .int .i64 x0, .int .i64 x1, .int .i64 n0, .int .i64 n1, .int .i64 a0, .int .i64 a1, .int .i64 u0, .int .i64 u1] 46)).mono b10.out.size))
      clear I10 B10 E10 C10 D10 N10 b10
      go_upto_region 9 with fail
      generalize w10.alloc (.cells #[.int .i64 c0, .int .i64 c1, .int .i64 d0, .int .i64 d1, .int .i64 r0, .int .i64 r1, .int .i64 x0, .int .i64 x1, .int .i64 n0, .int .i64 n1, .int .i64 a0, .int .i64 a1, .int .i64 u0, .int .i64 u1] 46) = w12 at *
      go_upto_region 11 with fail
      have yC : ∀ i, w12.cell? ⟨w4.heap.size, i, none⟩ = (#[.int .i64 c0, .int .i64 c1, .int .i64 d0, .int .i64 d1, .int .i64 r0, .int .i64 r1, .int .i64 x0, .int .i64 x1, .int .i64 0, .int .i64 0, .int .i64 a0, .int .i64 a1, .int .i64 h0, .int .i64 h1] : Array Value)[i]? := fun i => C11.out.cell i
      have yD : ∀ i, w12.cell? ⟨w7.heap.size, i, none⟩ = (#[.int .i64 c0, .int .i64 c1, .int .i64 d0, .int .i64 d1, .int .i64 r0, .int .i64 r1, .int .i64 x0, .int .i64 x1, .int .i64 m0, .int .i64 m1, .int .i64 a0, .int .i64 a1, .int .i64 l0, .int .i64 l1] : Array Value)[i]? := fun i => D11.out.cell i
      have yU : ∀ i, w12.cell? ⟨w10.heap.size, i, none⟩ = (#[.int .i64 c0, .int .i64 c1, .int .i64 d0, .int .i64 d1, .int .i64 r0, .int .i64 r1, .int .i64 x0, .int .i64 x1, .int .i64 n0, .int .i64 n1, .int .i64 a0, .int .i64 a1, .int .i64 u0, .int .i64 u1] : Array Value)[i]? := fun i => U11.out.cell i
      go_upto_region 13 with fail
      go_wp2
      go_ret
      exact ⟨rfl, b11.out⟩
end Go.Proofs.YtbpnacacnncopaaGreatDoor
namespace Go.Proofs.YtbpnacacnncopaaGreatDoor
open Go.ChangeShapes Go.WideShapes Go.ChangeAt Go.RowKit Go.Joins Go.Deep
section
variable {H : Type} {enc : TypeId × Value → H} {W : World} {n : Nat}
theorem cell_spot {w : World} {a : Addr} {v : Value} (h : w.cell? a = some v) : a.spot = none := by
  unfold World.cell? at h
  cases hs : a.spot with
  | none => rfl
  | some s =>
    rw [hs] at h
    split at h
    · simp at h
    · cases h
theorem add_pl (b off i : Nat) : (⟨b, off, none⟩ : Addr).add i = ⟨b, off + i, none⟩ := by simp [Addr.add]
theorem Tryz.cellsEr : Tryz.prog.cellsOf 135 = 2 := by kernel_rfl
theorem list2 {l : List Value} (h : l.length = 2) : ∃ c0 c1, l = [c0, c1] := by
  match l, h with
  | [c0, c1], _ => exact ⟨c0, c1, rfl⟩
theorem tErr {c d : Value} {x : DataW H × List MemPlace} (h : DataW.trod enc Tryz.prog W 0 (fun _ => true) true n 135 [c, d] = some x) : ∃ a b : Int, c = .int .i64 a ∧ d = .int .i64 b := by
  obtain ⟨m0, y0, h0⟩ := fld Tryz.underlying135 h 0 _ rfl 1 (by kernel_rfl)
  obtain ⟨m1, y1, h1⟩ := fld Tryz.underlying135 h 1 _ rfl 1 (by kernel_rfl)
  obtain ⟨a, ha⟩ := tI (n := m0) (c := c) h0
  obtain ⟨b, hb⟩ := tI (n := m1) (c := d) h1
  exact ⟨a, b, ha, hb⟩
set_option maxRecDepth 100000 in
theorem tTab {c : Value} {x : DataW H × List MemPlace} (h : DataW.trod enc Tryz.prog W 0 (fun _ => true) true n 38 [c] = some x) : ∃ (A : Option Addr) (k ca : Nat) (T : List Ent), c = .slice A k ca ∧ TabAt W W.heap.size A T ∧ T.length = k := by
  rcases open_slice Tryz.underlying38 h with ⟨h0, -⟩ | ⟨a, len, cap, m, n, D, Pl, hcs, hb, hl, hm, hmm, hx, hi⟩
  · cases h0
    exact ⟨none, 0, 0, [], rfl, .inl rfl, rfl⟩
  · cases hcs
    simp only [if_true] at hmm
    subst hmm
    have one : ∀ i, i < len → ∃ x : Ent, W.cell? (a.add (i * 2)) = some (.int .i64 x.1) ∧ W.cell? (a.add (i * 2 + 1)) = some (.int .i64 x.2) := by
      intro i hil
      obtain ⟨cs, hc, ht⟩ := hi i (by omega)
      rw [Tryz.cellsEr] at hc
      obtain ⟨_, hcl, hat⟩ := World.cells?_some hc
      obtain ⟨c0, c1, rfl⟩ := list2 hcl
      obtain ⟨p, q, rfl, rfl⟩ := tErr (c := c0) (d := c1) ht
      refine ⟨(p, q), ?_, ?_⟩
      · have := hat 0 (by omega)
        rw [Go.Deep.add_add] at this
        exact this
      · have := hat 1 (by omega)
        rw [Go.Deep.add_add] at this
        exact this
    obtain ⟨f, hf⟩ := choose_lt one
    refine ⟨some a, len, _, (List.range len).map f, rfl, ?_, by simp⟩
    by_cases h0 : len = 0
    · subst h0; exact .inl (by simp)
    · have h1 := (hf 0 (by omega)).1
      have hlt := World.block_lt_of_cell? W _ h1
      rw [show a.add (0 * 2) = a by simp [Addr.add]] at h1 hlt
      have hs := cell_spot h1
      obtain ⟨b, off, sp⟩ := a
      simp only at hs hlt
      subst hs
      refine .inr ⟨b, off, rfl, hlt, fun j x hj => ?_⟩
      by_cases hjl : j < len
      · rw [List.getElem?_map, List.getElem?_range hjl] at hj
        cases hj
        have := hf j hjl
        rw [add_pl, add_pl] at this
        exact this
      · rw [List.getElem?_eq_none (by simp; omega)] at hj
        cases hj
set_option maxRecDepth 100000 in
theorem open_instrument {v : Value} {d : DataW H} {p : List MemPlace} {base : Nat} (hv : Value.okWide Tryz.prog W .any base 40 v) (h : DataW.Trod enc Tryz.prog W 0 (fun _ => true) true 40 v d p) :
    ∃ (ix : Int) (A : Option Addr) (k c : Nat) (T : List Ent), v = .agg #[.int .i64 ix, .slice A k c] ∧ TabAt W W.heap.size A T ∧ T.length = k := by
  obtain ⟨cs, rfl, hsz⟩ := okWide_struct Tryz.underlying40 hv
  have hl : cs.toList.length = 2 := by rw [Array.length_toList, hsz]; kernel_rfl
  obtain ⟨c0, c1, hcs⟩ := list2 hl
  have hcs' : cs = #[c0, c1] := by rw [← Array.toArray_toList (xs := cs), hcs]
  subst hcs'
  obtain ⟨f0, hf0⟩ := h
  have hf : DataW.trod enc Tryz.prog W 0 (fun _ => true) true f0 40 [c0, c1] = some (d, p) := by simpa [Value.cells] using hf0
  obtain ⟨m0, y0, h0⟩ := fld Tryz.underlying40 hf 0 _ rfl 1 (by kernel_rfl)
  obtain ⟨m1, y1, h1⟩ := fld Tryz.underlying40 hf 1 _ rfl 1 (by kernel_rfl)
  obtain ⟨ix, rfl⟩ := tI (n := m0) (c := c0) h0
  obtain ⟨A, k, ca, T, rfl, hT, hn⟩ := tTab (n := m1) (c := c1) h1
  exact ⟨ix, A, k, ca, T, rfl, hT, hn⟩
theorem list8 {l : List Value} (h : l.length = 8) : ∃ c0 c1 c2 c3 c4 c5 c6 c7, l = [c0, c1, c2, c3, c4, c5, c6, c7] := by
  match l, h with
  | [c0, c1, c2, c3, c4, c5, c6, c7], _ => exact ⟨c0, c1, c2, c3, c4, c5, c6, c7, rfl⟩
set_option maxRecDepth 100000 in
theorem open_geo {v : Value} {d : DataW H} {p : List MemPlace} {base : Nat} (hv : Value.okWide Tryz.prog W .any base 43 v) (h : DataW.Trod enc Tryz.prog W 0 (fun _ => true) true 43 v d p) :
    ∃ g0 g1 g2 g3 e0 e1 p0 p1 : Int, v = .agg #[.int .i64 g0, .int .i64 g1, .int .i64 g2, .int .i64 g3, .int .i64 e0, .int .i64 e1, .int .i64 p0, .int .i64 p1] := by
  obtain ⟨cs, rfl, hsz⟩ := okWide_struct Tryz.underlying43 hv
  have hl : cs.toList.length = 8 := by rw [Array.length_toList, hsz]; kernel_rfl
  obtain ⟨c0, c1, c2, c3, c4, c5, c6, c7, hcs⟩ := list8 hl
  have hcs' : cs = #[c0, c1, c2, c3, c4, c5, c6, c7] := by rw [← Array.toArray_toList (xs := cs), hcs]
  subst hcs'
  obtain ⟨f0, hf0⟩ := h
  have hf : DataW.trod enc Tryz.prog W 0 (fun _ => true) true f0 43 [c0, c1, c2, c3, c4, c5, c6, c7] = some (d, p) := by simpa [Value.cells] using hf0
  obtain ⟨m0, y0, h0⟩ := fld Tryz.underlying43 hf 0 _ rfl 2 (by kernel_rfl)
  obtain ⟨m1, y1, h1⟩ := fld Tryz.underlying43 hf 1 _ rfl 2 (by kernel_rfl)
  obtain ⟨m2, y2, h2⟩ := fld Tryz.underlying43 hf 2 _ rfl 2 (by kernel_rfl)
  obtain ⟨m3, y3, h3⟩ := fld Tryz.underlying43 hf 3 _ rfl 2 (by kernel_rfl)
  obtain ⟨g0, g1, rfl, rfl⟩ := tArc (n := m0) (c := c0) (d := c1) h0
  obtain ⟨g2, g3, rfl, rfl⟩ := tArc (n := m1) (c := c2) (d := c3) h1
  obtain ⟨e0, e1, rfl, rfl⟩ := tArc (n := m2) (c := c4) (d := c5) h2
  obtain ⟨p0, p1, rfl, rfl⟩ := tArc (n := m3) (c := c6) (d := c7) h3
  exact ⟨g0, g1, g2, g3, e0, e1, p0, p1, rfl⟩
end
end Go.Proofs.YtbpnacacnncopaaGreatDoor
namespace Go.Proofs.YtbpnacacnncopaaGreatDoor
open Go.ChangeShapes Go.WideShapes Go.ChangeAt Go.RowKit Go.Joins Go.Deep
set_option maxRecDepth 100000 in
theorem correctLimbs_lifted (os : Os) (started : os.Started) (H : Type) (enc : TypeId × Value → H) :
    ReturnsInHanded {} Tryz.checked os 5 .any (fun w args => (Rows.correctLimbsSpec.pre enc Tryz.prog Tryz.f5 [] false w args ∧ laidMetH Tryz.prog laid22 w) ∧ sizedMet enc Tryz.prog Tryz.f5 (OpenSpec.ofChange Rows.correctLimbsSpec) false w args)
      (Rows.correctLimbsSpec.post enc Tryz.prog Tryz.f5 false true false false) := by
  refine handed_and_shaped (C := Tryz.checked) (X := fun w _ => laidMetH Tryz.prog laid22 w) (fun _ _ _ hh h => h.of_heap hh) Tryz.own started (by kernel_rfl) Tryz.func5
    (ChangeSpec.witness_shaped (enc := enc) (C := Tryz.checked) (os := os) (X := fun w _ => laidMetH Tryz.prog laid22 w) false (doorW os) #[.agg #[.int .i64 0, .slice none 0 0], .agg #[.string ⟨#[]⟩, .int .i64 0, .int .i64 0, .int .i64 0, .int .i64 0, .int .i64 0, .int .i64 0, .int .i64 0, .int .i64 0, .int .i64 0, .int .i64 0], .agg #[.int .i64 0, .int .i64 0, .int .i64 0, .int .i64 0, .int .i64 0, .int .i64 0, .int .i64 0, .int .i64 0]] 8 rfl (World.shaped_of_RefB (by kernel_rfl) (by kernel_rfl)) (by kernel_rfl) (by kernel_rfl) (by kernel_rfl) (door22 os _)) ?_
  intro W base args ds gs before hval0 hW hL hsh
  have hval : ∀ (j : Nat) t v, Tryz.f5.params[j]? = some t → args[j]? = some v → Value.okWide Tryz.prog W .any base t v := hval0
  have hW' := hW
  obtain ⟨p, q, hA0, hV, rfl, _, _⟩ := hW
  have hA : DataW.TrodAll enc Tryz.prog W 0 (fun _ => true) true Tryz.f5.params.toList args.toList ds p := hA0
  rw [Tryz.params5] at hA hval
  obtain ⟨v0, v1, v2, d0, d1, d2, p0, p1, p2, rfl, rfl, rfl, h0, h1, h2⟩ := trodAll_three hA
  obtain ⟨rfl, rfl⟩ := trodVars_none hV
  have he := en_of_laid hL hsh
  have k0 := h0
  have k1 := h1
  have k2 := h2
  obtain ⟨ix0, A0, n0, c0, T0, rfl, hT0, hn0⟩ := open_instrument (hval 0 40 v0 rfl rfl) h0
  obtain ⟨s1, rfl⟩ := open_sight (hval 1 25 v1 rfl rfl) h1
  obtain ⟨g0, g1, g2, g3, e0, e1, p0', p1', rfl⟩ := open_geo (hval 2 43 v2 rfl rfl) h2
  clear hA0 hval0
  simp only [List.append_nil] at hW'
  have hlt : ∀ x ∈ (p0 ++ p1 ++ p2), x.block < W.heap.size := fun x hx => hW'.lt x (by simpa using hx)
  refine (limbs22_any ix0 T0 A0 n0 c0 s1 g0 g1 g2 g3 e0 e1 p0' p1' W hT0 hn0 he).mono fun e W' ⟨he, hb⟩ => ?_
  subst he
  refine ⟨_, rfl, post_of_below (pa := (p0 ++ p1 ++ p2)) (pv := []) hW' (fun _ _ _ => trodAll_mk1 (shut_bool Tryz.underlying4 true)) (fun sp hsp => ?_) (fun _ _ => rfl) (by simp) hb (ok_one (by kernel_rfl) rfl (okWide_bool_mk Tryz.underlying4 true))⟩
  have s0' := WideElems.Trod_stays (W' := W') (sp' := sp) Tryz.laidOutB (by kernel_rfl) (of_decide_eq_true (by kernel_rfl)) k0 (fun x hx => hb.same (hlt x (by simp [hx]))) (fun x hx => hsp x (by simp [hx]))
  have s1' := WideElems.Trod_stays (W' := W') (sp' := sp) Tryz.laidOutB (by kernel_rfl) (of_decide_eq_true (by kernel_rfl)) k1 (fun x hx => hb.same (hlt x (by simp [hx]))) (fun x hx => hsp x (by simp [hx]))
  have s2' := WideElems.Trod_stays (W' := W') (sp' := sp) Tryz.laidOutB (by kernel_rfl) (of_decide_eq_true (by kernel_rfl)) k2 (fun x hx => hb.same (hlt x (by simp [hx]))) (fun x hx => hsp x (by simp [hx]))
  rw [List.append_assoc]
  exact trodAll_mk3 s0' s1' s2'
theorem correctLimbs_named : Tryz.pinned.checked.prog.funcNamed Rows.correctLimbsRow.func = some 5 := by kernel_rfl
theorem correctLimbs_facts : joinedFacts Tryz.pinned.checked.prog 5 Tryz.f5 Rows.correctLimbsSpec Rows.correctLimbsRow = true := by kernel_rfl
theorem correctLimbs_row : Rows.CorrectLimbsSaid :=
  OpenClaim.holds_of_wide 5 Tryz.f5 rfl rfl rfl rfl rfl rfl rfl ⟨rfl, rfl, rfl, rfl, rfl⟩ rfl rfl rfl rfl rfl correctLimbs_named Tryz.func5 correctLimbs_facts
    (of_decide_eq_true (by kernel_rfl)) (by unfold Func.isWrapper; first | (rw [if_pos (by decide +kernel)]; kernel_rfl) | (rw [if_neg (by decide +kernel)]; exact ⟨rfl, rfl⟩))
    (fun os started H enc _ => correctLimbs_lifted os started H enc)
theorem correctLimbs_holds : Rows.CorrectLimbsCardSaid :=
  Claim7.holds_tied_plain_at .later [] [.data, .data, .data, .data, .sentinel, .sentinel, .pinned] true Rows.correctLimbsCard.stood.harness true
    correctLimbs_row (fun _ h => by cases h) (by kernel_rfl) (fun _ h => by cases h) correctLimbs_row_tie rfl ⟨rfl, rfl⟩ (by kernel_rfl) rfl
    (fun f fn hf hfn => by
      obtain rfl : f = 5 := Option.some.inj (correctLimbs_named.symm.trans hf) |>.symm
      obtain rfl : fn = Tryz.f5 := (Option.some.inj (Tryz.func5.symm.trans hfn)).symm
      exact ⟨by kernel_rfl, fun j t ht => by
        rw [Tryz.params5] at ht
        have hm : t ∈ [40, 25, 43] := by simpa using Array.mem_of_getElem? ht
        have hall : ([40, 25, 43].all fun u => !Tryz.prog.wantsStandIn u) = true := by kernel_rfl
        exact (show Tryz.prog.wantsStandIn t = false by simpa using List.all_eq_true.1 hall t hm)⟩)
    (by kernel_rfl)
#print axioms correctLimbs_holds
end Go.Proofs.YtbpnacacnncopaaGreatDoor
