/- Sums of a passage of one leg due north: reckoning.given, (*sums).sail. -/
import Derived.Test.YthfndnmfnijpeaaGreatHMn
import Derived.Test.YthfndnmfnijpeaaGreatHMp
import Derived.Test.YthfndnmfnijpeaaGreatHRin
set_option linter.unusedVariables false
set_option linter.unusedSimpArgs false
namespace Go.Proofs.YthfndnmfnijpeaaGreat
open Go.RowKit
theorem scale_enc (x : Int) (w : World) (h0 : 0 ≤ x) (h1 : x ≤ 1073741824) : Calls Tryz.prog 146 #[.int .i64 x, .int .i64 10000, .int .i64 1073741824] w fun e w' => e = .returned (.tuple #[.int .i64 (qup false (x * 10000) 1073741824), .int .i64 (qup true (x * 10000) 1073741824), .int .i64 0]) ∧ Below w.heap.size w w' :=
  enclose_any x 10000 1073741824 w (by omega) (by omega) (by omega) (by omega) (by omega) (by omega) (by decide) (by decide) (by
    rw [show wab 1073741824 = 1073741824 from rfl]
    have := wab_le (n := x * 10000) (B := 10737418240000) (by omega) (by omega)
    omega)
theorem enc_one (w : World) : Calls Tryz.prog 146 #[.int .i64 1073741824, .int .i64 10000, .int .i64 1073741824] w fun e w' => e = .returned (.tuple #[.int .i64 10000, .int .i64 10000, .int .i64 0]) ∧ Below w.heap.size w w' := by
  have h := scale_enc 1073741824 w (by omega) (by omega)
  rw [qup_down (by omega), qup_up (by omega)] at h
  exact h
theorem enc_nil (w : World) : Calls Tryz.prog 146 #[.int .i64 0, .int .i64 10000, .int .i64 1073741824] w fun e w' => e = .returned (.tuple #[.int .i64 0, .int .i64 0, .int .i64 0]) ∧ Below w.heap.size w w' := by
  have h := scale_enc 0 w (by omega) (by omega)
  rw [qup_down (by omega), qup_up (by omega)] at h
  exact h
/-- the number c of a leg of 10000: 1073741824 (north) or 0 (east) -/
theorem Scale_any (c d : Int) (w : World) (hc : (c = 1073741824 ∧ d = 10000) ∨ (c = 0 ∧ d = 0)) : Calls Tryz.prog 161 #[.agg #[.int .i64 c, .int .i64 c], .int .i64 10000] w fun e w' => e = .returned (.tuple #[.int .i64 d, .int .i64 d, .int .i64 0]) ∧ Below w.heap.size w w' := by
  have KE : ∀ W, Calls Tryz.prog 146 #[.int .i64 c, .int .i64 10000, .int .i64 1073741824] W fun e w' => e = .returned (.tuple #[.int .i64 d, .int .i64 d, .int .i64 0]) ∧ Below W.heap.size W w' := by
    rcases hc with ⟨rfl, rfl⟩ | ⟨rfl, rfl⟩
    · exact enc_one
    · exact enc_nil
  replace KE := Lib.hid KE
  have KV := Lib.hid (fun W => fValid_any c c W)
  rw [show fvB c c = true from by rw [fv_iff]; omega] at KV
  have KF := Lib.hid (fun W => factor_any 10000 W)
  rw [show rchB 10000 = true from rfl] at KF
  clear hc
  have L0 := Lib.hid (D2.new w c c 171)
  have b0 := bl_alloc w (.cells #[.int .i64 c, .int .i64 c] 171)
  go_enter Tryz.func161, Tryz.ntmps161
  go_wp2_with fail
  (with_reducible refine (KV.out _).mono ?_)
  rintro e w1 ⟨rfl, hb1⟩
  have L1 := Lib.hid (L0.out.below hb1 L0.out.lt)
  have b1 := b0.trans (hb1.mono b0.size)
  clear hb1 b0 L0
  go_wp2_with fail
  (with_reducible refine (KF.out _).mono ?_)
  rintro e w2 ⟨rfl, rfl⟩
  obtain ⟨lt1, c0, c1, cf0, cf1⟩ := L1.out
  go_wp2_with fail
  (with_reducible refine (KE.out _).mono ?_)
  rintro e w3 ⟨rfl, hb3⟩
  have L3 := Lib.hid (L1.out.below hb3 L1.out.lt)
  have b3 := b1.trans (hb3.mono b1.size)
  clear hb3 b1 L1 lt1 c0 c1 cf0 cf1
  obtain ⟨lt1, c0, c1, cf0, cf1⟩ := L3.out
  go_wp2_with fail
  (with_reducible refine (KE.out _).mono ?_)
  rintro e w4 ⟨rfl, hb4⟩
  have b4 := b3.trans (hb4.mono b3.size)
  go_wp2
  refine bodyPost_ret (v := .tuple #[.int .i64 d, .int .i64 d, .int .i64 0]) (by simp [results, Tryz.results161, go_sem, *]; done) rfl ⟨rfl, b4⟩
theorem product1_any (c d : Int) (g : Nat) (w : World) (hg : D2 w g c c) (hc : (c = 1073741824 ∧ d = 10000) ∨ (c = 0 ∧ d = 0)) : Calls Tryz.prog 160 #[.int .i64 10000, .pointer (some ⟨g, 0, none⟩)] w fun e w' => e = .returned (.tuple #[.int .i64 d, .int .i64 d, .int .i64 0]) ∧ Below w.heap.size w w' := by
  have K := Lib.hid (fun W => Scale_any c d W hc)
  obtain ⟨at1, a0, a1, af0, af1⟩ := hg
  clear hc
  go_enter Tryz.func160, Tryz.ntmps160
  go_wp2_with fail
  (with_reducible refine (K.out _).mono ?_)
  rintro e w1 ⟨rfl, hb1⟩
  go_wp2
  refine bodyPost_ret (v := .tuple #[.int .i64 d, .int .i64 d, .int .i64 0]) (by simp [results, Tryz.results160, go_sem, *]; done) rfl ⟨rfl, hb1⟩
set_option maxHeartbeats 4000000 in
set_option maxRecDepth 100000 in
theorem both_prod (c d : Int) (g : Nat) (w : World) (hg : D2 w g c c) (hc : (c = 1073741824 ∧ d = 10000) ∨ (c = 0 ∧ d = 0)) :
    Calls Tryz.prog 107 #[.agg #[.int .i64 10000, .int .i64 10000], .func (.func 160) #[] #[.pointer (some ⟨g, 0, none⟩)]] w fun e w' => e = .returned (.tuple #[.agg #[.int .i64 d, .int .i64 d], .int .i64 0]) ∧ Below w.heap.size w w' := by
  have KA := Lib.hid (fun W (hW : Below w.heap.size w W) => product1_any c d g W (hg.below hW hg.lt) hc)
  have KV := Lib.hid (fun W => aValid_any d d W)
  rw [show avB d d = true from by rw [avB_true]; omega] at KV
  have e1 : min d d = d := by omega
  have e2 : max d d = d := by omega
  clear hg hc
  have i0 : ∀ w, (Instr.index 208 (.agg #[.int .i64 10000, .int .i64 10000]) (.int .i64 0)).run Tryz.prog w = .ok (.int .i64 10000) w := fun _ => by kernel_rfl
  have i1 : ∀ w, (Instr.index 208 (.agg #[.int .i64 10000, .int .i64 10000]) (.int .i64 1)).run Tryz.prog w = .ok (.int .i64 10000) w := fun _ => by kernel_rfl
  go_enter Tryz.func107, Tryz.ntmps107
  go_wp2_with fail
  go_loopw [17] (fun s17 wr => ∃ k : Nat, k ≤ 2 ∧ s17 = .int .i64 k ∧ D2 wr (w.heap.size + 1) 0 0 ∧ D2 wr (w.heap.size + 1 + 1) (oA d d k) (oB d d k) ∧ Below w.heap.size w wr) (fun s17 _ => 3 - (intOf s17).toNat)
  case atStart =>
    refine ⟨0, by omega, rfl, ?_, ?_, by repeat (first | exact Below.refl _ _ | assumption | refine bl_drew ?_ | refine bl_drewN ?_ _ | refine Below.setCell ?_ (by first | assumption | omega | (simp; done) | (simp; omega)) _ | refine Below.alloc ?_ (by first | assumption | omega | (simp; done) | (simp; omega)) _)⟩
    · have := ((D2.new (w.alloc (.cells #[.int .i64 10000, .int .i64 10000] 24)) 0 0 24).alloc (.cells #[.int .i64 0, .int .i64 0] 24))
      simpa using this
    · have := (D2.new ((w.alloc (.cells #[.int .i64 10000, .int .i64 10000] 24)).alloc (.cells #[.int .i64 0, .int .i64 0] 24)) 0 0 24)
      simpa [oA, oB] using this
  case round =>
    obtain ⟨k, hk, rfl, hR, hO, hbr⟩ := hrel
    have hcase : k = 0 ∨ k = 1 ∨ k = 2 := by omega
    clear hk
    rcases hcase with rfl | rfl | rfl
    · go_wp2_with fail
      (with_reducible refine (KA.out _ hbr).mono ?_)
      rintro e w1 ⟨rfl, hb1⟩
      have R1 := Lib.hid (hR.below hb1 hR.lt)
      have O1 := Lib.hid (hO.below hb1 hO.lt)
      have hbl1 := hbr.trans (hb1.mono hbr.size)
      clear hb1 hR hO
      obtain ⟨rt, r0, r1, rf0, rf1⟩ := O1.out
      go_wp2
      go_roundw
      case rel =>
        refine ⟨1, by omega, by go_num, ?_, ?_, ?_⟩
        · exact (((R1.out.far (by simp) _).far (by simp) _).far (by simp) _).far (by simp) _
        · have := (((O1.out.set0 d).set1 d).set0 d).set1 d
          simpa [oA, oB] using this
        · exact (((hbl1.setCell (by simp; omega) _).setCell (by simp; omega) _).setCell (by simp; omega) _).setCell (by simp; omega) _
      case measure => simp [intOf]
    · go_wp2_with fail
      (with_reducible refine (KA.out _ hbr).mono ?_)
      rintro e w1 ⟨rfl, hb1⟩
      have R1 := Lib.hid (hR.below hb1 hR.lt)
      have O1 : Hid (D2 w1 (w.heap.size + 1 + 1) d d) := Lib.hid (hO.below hb1 hO.lt)
      have hbl1 := hbr.trans (hb1.mono hbr.size)
      clear hb1 hR hO
      obtain ⟨rt, r0, r1, rf0, rf1⟩ := O1.out
      go_wp2
      go_roundw
      case rel =>
        refine ⟨2, by omega, by go_num, ?_, ?_, ?_⟩
        · exact (R1.out.far (by simp) _).far (by simp) _
        · have := (O1.out.set0 (min d d)).set1 (max d d)
          simpa [oA, oB] using this
        · exact (hbl1.setCell (by simp; omega) _).setCell (by simp; omega) _
      case measure => simp [intOf]
    · have O1 : D2 wr (w.heap.size + 1 + 1) (min d d) (max d d) := hO
      have R1 := Lib.hid hR
      have O1' := Lib.hid O1
      clear hR hO
      obtain ⟨rt, r0, r1, rf0, rf1⟩ := O1
      go_wp2_with fail
      (with_reducible refine (KV.out _).mono ?_)
      rintro e w1 ⟨rfl, hb1⟩
      have R2 := R1.out.below hb1 R1.out.lt
      have O2 := O1'.out.below hb1 O1'.out.lt
      have hbl1 := hbr.trans (hb1.mono hbr.size)
      clear hb1 rt r0 r1 rf0 rf1 R1 O1'
      obtain ⟨rt, r0, r1, rf0, rf1⟩ := R2
      obtain ⟨ot, o0, o1, of0, of1⟩ := O2
      go_wp2
      refine bodyPost_ret (v := .tuple #[.agg #[.int .i64 (min d d), .int .i64 (max d d)], .int .i64 0]) (by simp [results, Tryz.results107, go_sem, *]; done) rfl ⟨by rw [e1, e2], ?_⟩
      exact (hbl1.setCell (by simp) _).setCell (by simp) _
theorem product_any (c d : Int) (w : World) (hc : (c = 1073741824 ∧ d = 10000) ∨ (c = 0 ∧ d = 0)) : Calls Tryz.prog 139 #[.agg #[.int .i64 c, .int .i64 c], .agg #[.int .i64 10000, .int .i64 10000]] w fun e w' => e = .returned (.tuple #[.agg #[.int .i64 d, .int .i64 d], .int .i64 0]) ∧ Below w.heap.size w w' := by
  have KB := Lib.hid (both_prod c d w.heap.size (((w.alloc (.cells #[.int .i64 c, .int .i64 c] 171)).alloc (.cells #[.int .i64 10000, .int .i64 10000] 24)).alloc (.cells #[.int .i64 0, .int .i64 0] 24)) (((D2.new w c c 171).alloc _).alloc _) hc)
  have R0 := Lib.hid (D2.new ((w.alloc (.cells #[.int .i64 c, .int .i64 c] 171)).alloc (.cells #[.int .i64 10000, .int .i64 10000] 24)) 0 0 24)
  have b0 : Below w.heap.size w (((w.alloc (.cells #[.int .i64 c, .int .i64 c] 171)).alloc (.cells #[.int .i64 10000, .int .i64 10000] 24)).alloc (.cells #[.int .i64 0, .int .i64 0] 24)) :=
    (((Below.refl _ _).alloc (Nat.le_refl _) _).alloc (by simp) _).alloc (by simp; omega) _
  clear hc
  go_enter Tryz.func139, Tryz.ntmps139
  go_wp2_with fail
  (with_reducible refine (KB.out).mono ?_)
  rintro e w1 ⟨rfl, hb1⟩
  have R1 := R0.out.below hb1 R0.out.lt
  simp only [World.size_alloc] at R1
  have b1 := b0.trans (hb1.mono b0.size)
  clear hb1 b0 R0
  obtain ⟨rt, r0, r1, rf0, rf1⟩ := R1
  go_wp2
  refine bodyPost_ret (v := .tuple #[.agg #[.int .i64 d, .int .i64 d], .int .i64 0]) (by simp [results, Tryz.results139, go_sem, *]; done) rfl ⟨rfl, ?_⟩
  exact (b1.setCell (by simp; omega) _).setCell (by simp; omega) _
theorem cosZ : Trig.enLo (0 + 5400000) (0 + 5400000) = 1073741824 ∧ Trig.enHi (0 + 5400000) (0 + 5400000) = 1073741824 := by decide +kernel
theorem sinZ : Trig.enLo 0 0 = 0 ∧ Trig.enHi 0 0 = 0 := by decide +kernel
theorem pvalid_any (w : World) : Calls Tryz.prog 137 #[.agg #[.int .i64 0, .int .i64 0, .int .i64 10000, .int .i64 10000]] w fun e w' => e = .returned (.bool true) ∧ Below w.heap.size w w' := by
  have K1 := Lib.hid (fun W => aValid_any 0 0 W)
  have K2 := Lib.hid (fun W => aValid_any 10000 10000 W)
  rw [show avB 0 0 = true from rfl] at K1
  rw [show avB 10000 10000 = true from rfl] at K2
  have L0 := Lib.hid (Blk.new w 112 #[.int .i64 0, .int .i64 0, .int .i64 10000, .int .i64 10000])
  have b0 := bl_alloc w (.cells #[.int .i64 0, .int .i64 0, .int .i64 10000, .int .i64 10000] 112)
  go_enter Tryz.func137, Tryz.ntmps137
  go_wp2_with fail
  (with_reducible refine (K1.out _).mono ?_)
  rintro e w1 ⟨rfl, hb1⟩
  have L1 := Lib.hid (L0.out.below hb1 L0.out.lt)
  have b1 := b0.trans (hb1.mono b0.size)
  clear hb1 b0 L0
  have y2 : w1.cell? ⟨w.heap.size, 2, none⟩ = some (.int .i64 10000) := L1.out.cell 2
  have y3 : w1.cell? ⟨w.heap.size, 3, none⟩ = some (.int .i64 10000) := L1.out.cell 3
  go_wp2_with fail
  (with_reducible refine (K2.out _).mono ?_)
  rintro e w2 ⟨rfl, hb2⟩
  have b2 := b1.trans (hb2.mono b1.size)
  have y2 : w2.cell? ⟨w.heap.size, 2, none⟩ = some (.int .i64 10000) := (L1.out.below hb2 L1.out.lt).cell 2
  clear hb2 b1 L1
  go_wp2
  go_ret
  exact ⟨rfl, b2⟩
/-- the parts that are known after k rounds -/
def prtP : Nat → Array Value
  | 0 => #[.int .i64 0, .int .i64 0, .int .i64 0, .int .i64 0]
  | _ => #[.int .i64 10000, .int .i64 10000, .int .i64 0, .int .i64 0]
set_option maxHeartbeats 4000000 in
set_option maxRecDepth 100000 in
theorem Plane_north (w : World) : Calls Tryz.prog 104 #[.agg #[.int .i64 0, .int .i64 0, .int .i64 10000, .int .i64 10000]] w fun e w' => e = .returned (.tuple #[.agg #[.int .i64 10000, .int .i64 10000], .agg #[.int .i64 0, .int .i64 0], .int .i64 0]) ∧ Below w.heap.size w w' := by
  have KV := Lib.hid pvalid_any
  have KC := Lib.hid (fun W => Cos_yes 0 0 W rfl)
  have KS := Lib.hid (fun W => Sin_yes 0 0 W rfl)
  rw [cosZ.1, cosZ.2] at KC
  rw [sinZ.1, sinZ.2] at KS
  have KP := Lib.hid (fun W => product_any 1073741824 10000 W (.inl ⟨rfl, rfl⟩))
  have KQ := Lib.hid (fun W => product_any 0 0 W (.inr ⟨rfl, rfl⟩))
  have i0 : ∀ w, (Instr.index 205 (.agg #[.func (.func 106) #[] #[], .func (.func 138) #[] #[]]) (.int .i64 0)).run Tryz.prog w = .ok (.func (.func 106) #[] #[]) w := fun _ => by kernel_rfl
  have i1 : ∀ w, (Instr.index 205 (.agg #[.func (.func 106) #[] #[], .func (.func 138) #[] #[]]) (.int .i64 1)).run Tryz.prog w = .ok (.func (.func 138) #[] #[]) w := fun _ => by kernel_rfl
  have A0 := Lib.hid (((Blk.new w 112 #[.int .i64 0, .int .i64 0, .int .i64 10000, .int .i64 10000]).alloc (.cells #[.int .i64 0, .int .i64 0] 24)).alloc (.cells #[.int .i64 0, .int .i64 0] 24))
  have A1 := Lib.hid (((Blk.new (w.alloc (.cells #[.int .i64 0, .int .i64 0, .int .i64 10000, .int .i64 10000] 112)) 24 #[.int .i64 0, .int .i64 0]).alloc (.cells #[.int .i64 0, .int .i64 0] 24)))
  have A2 := Lib.hid (Blk.new ((w.alloc (.cells #[.int .i64 0, .int .i64 0, .int .i64 10000, .int .i64 10000] 112)).alloc (.cells #[.int .i64 0, .int .i64 0] 24)) 24 #[.int .i64 0, .int .i64 0])
  have b0 : Below w.heap.size w (((w.alloc (.cells #[.int .i64 0, .int .i64 0, .int .i64 10000, .int .i64 10000] 112)).alloc (.cells #[.int .i64 0, .int .i64 0] 24)).alloc (.cells #[.int .i64 0, .int .i64 0] 24)) :=
    (((Below.refl _ _).alloc (Nat.le_refl _) _).alloc (by simp) _).alloc (by simp; omega) _
  simp only [World.size_alloc] at A1 A2
  go_enter Tryz.func104, Tryz.ntmps104
  go_upto_region 1 with fail
  generalize (((w.alloc (.cells #[.int .i64 0, .int .i64 0, .int .i64 10000, .int .i64 10000] 112)).alloc (.cells #[.int .i64 0, .int .i64 0] 24)).alloc (.cells #[.int .i64 0, .int .i64 0] 24)) = wa at *
  have x0 : ∀ i, wa.cell? ⟨w.heap.size, i, none⟩ = (#[.int .i64 0, .int .i64 0, .int .i64 10000, .int .i64 10000] : Array Value)[i]? := fun i => A0.out.cell i
  go_wp2_with fail
  (with_reducible refine (KV.out _).mono ?_)
  rintro e w1 ⟨rfl, hb1⟩
  have B0 := Lib.hid (A0.out.below hb1 A0.out.lt)
  have B1 := Lib.hid (A1.out.below hb1 A1.out.lt)
  have B2 := Lib.hid (A2.out.below hb1 A2.out.lt)
  have b1 := b0.trans (hb1.mono b0.size)
  clear hb1 b0 A0 A1 A2 x0
  have C0 := Lib.hid (B0.out.alloc (.cells #[.int .i64 0, .int .i64 0, .int .i64 0, .int .i64 0] 204))
  have C1 := Lib.hid (B1.out.alloc (.cells #[.int .i64 0, .int .i64 0, .int .i64 0, .int .i64 0] 204))
  have C2 := Lib.hid (B2.out.alloc (.cells #[.int .i64 0, .int .i64 0, .int .i64 0, .int .i64 0] 204))
  have C3 := Lib.hid (Blk.new w1 204 #[.int .i64 0, .int .i64 0, .int .i64 0, .int .i64 0])
  have c1 := Lib.hid (b1.trans ((bl_alloc w1 (.cells #[.int .i64 0, .int .i64 0, .int .i64 0, .int .i64 0] 204)).mono b1.size))
  have z1 := b1.size
  have z0 := B2.out.lt
  go_upto_region 4 with fail
  generalize w1.alloc (.cells #[.int .i64 0, .int .i64 0, .int .i64 0, .int .i64 0] 204) = w2 at *
  clear B0 B1 B2 b1
  go_wp2_with fail
  go_loopw [16] (fun s16 wr => ∃ k : Nat, k ≤ 2 ∧ s16 = .int .i64 k ∧ Blk wr w.heap.size 112 #[.int .i64 0, .int .i64 0, .int .i64 10000, .int .i64 10000] ∧ Blk wr (w.heap.size + 1) 24 #[.int .i64 0, .int .i64 0] ∧ Blk wr (w.heap.size + 1 + 1) 24 #[.int .i64 0, .int .i64 0] ∧ Blk wr w1.heap.size 204 (prtP k) ∧ Below w.heap.size w wr) (fun s16 _ => 3 - (intOf s16).toNat)
  case atStart => exact ⟨0, by omega, rfl, C0.out, C1.out, C2.out, C3.out, c1.out⟩
  case round =>
    clear C0 C1 C2 C3 c1
    obtain ⟨k, hk, rfl, h0, h1, h2, h3, hbr⟩ := hrel
    have hcase : k = 0 ∨ k = 1 ∨ k = 2 := by omega
    have E0 := Lib.hid h0
    have E1 := Lib.hid h1
    have E2 := Lib.hid h2
    have E3 := Lib.hid h3
    have EB := Lib.hid hbr
    clear hk h0 h1 h2 h3 hbr
    rcases hcase with rfl | rfl | rfl
    · have x0 : ∀ i, wr.cell? ⟨w.heap.size, i, none⟩ = (#[.int .i64 0, .int .i64 0, .int .i64 10000, .int .i64 10000] : Array Value)[i]? := fun i => E0.out.cell i
      go_wp2_with fail
      (with_reducible refine (KC.out _).mono ?_)
      rintro e w3 ⟨rfl, hb3⟩
      have F0 := Lib.hid ((E0.out.below hb3 E0.out.lt).alloc (.cells #[.int .i64 1073741824, .int .i64 1073741824] 171))
      have F1 := Lib.hid ((E1.out.below hb3 E1.out.lt).alloc (.cells #[.int .i64 1073741824, .int .i64 1073741824] 171))
      have F2 := Lib.hid ((E2.out.below hb3 E2.out.lt).alloc (.cells #[.int .i64 1073741824, .int .i64 1073741824] 171))
      have F3 := Lib.hid ((E3.out.below hb3 E3.out.lt).alloc (.cells #[.int .i64 1073741824, .int .i64 1073741824] 171))
      have f1 := Lib.hid ((EB.out.trans (hb3.mono EB.out.size)).trans ((bl_alloc w3 (.cells #[.int .i64 1073741824, .int .i64 1073741824] 171)).mono (Nat.le_trans EB.out.size hb3.size)))
      clear hb3 E0 E1 E2 E3 EB x0
      go_upto_region 10 with fail
      have D0 := Blk.new w3 171 #[.int .i64 1073741824, .int .i64 1073741824]
      generalize w3.alloc (.cells #[.int .i64 1073741824, .int .i64 1073741824] 171) = w4 at *
      have x0 : ∀ i, w4.cell? ⟨w.heap.size, i, none⟩ = (#[.int .i64 0, .int .i64 0, .int .i64 10000, .int .i64 10000] : Array Value)[i]? := fun i => F0.out.cell i
      have x1 : ∀ i, w4.cell? ⟨w3.heap.size, i, none⟩ = (#[.int .i64 1073741824, .int .i64 1073741824] : Array Value)[i]? := fun i => D0.cell i
      clear D0
      go_wp2_with fail
      (with_reducible refine (KP.out _).mono ?_)
      rintro e w5 ⟨rfl, hb5⟩
      have G0 := Lib.hid (F0.out.below hb5 F0.out.lt)
      have G1 := Lib.hid (F1.out.below hb5 F1.out.lt)
      have G2 := Lib.hid (F2.out.below hb5 F2.out.lt)
      have G3 := Lib.hid (F3.out.below hb5 F3.out.lt)
      have g1 := Lib.hid (f1.out.trans (hb5.mono f1.out.size))
      clear hb5 F0 F1 F2 F3 f1 x0 x1
      have y2 : ∀ i, w5.cell? ⟨w1.heap.size, i, none⟩ = (prtP 0)[i]? := fun i => G3.out.cell i
      have f2 : ∀ i, w5.frozen? ⟨w1.heap.size, i, none⟩ = false := fun i => G3.out.frozen i
      unfold prtP at y2
      go_wp2
      go_roundw
      case rel =>
        refine ⟨1, by omega, by go_num, ?_, ?_, ?_, ?_, ?_⟩
        · exact (G0.out.far (by simp; omega) _).far (by simp; omega) _
        · exact (G1.out.far (by simp; omega) _).far (by simp; omega) _
        · exact (G2.out.far (by simp; omega) _).far (by simp; omega) _
        · exact (G3.out.set_ 0 (.int .i64 10000)).set_ 1 (.int .i64 10000)
        · exact (g1.out.setCell (by simp; omega) _).setCell (by simp; omega) _
      case measure => simp [intOf]
    · have x0 : ∀ i, wr.cell? ⟨w.heap.size, i, none⟩ = (#[.int .i64 0, .int .i64 0, .int .i64 10000, .int .i64 10000] : Array Value)[i]? := fun i => E0.out.cell i
      go_wp2_with fail
      (with_reducible refine (KS.out _).mono ?_)
      rintro e w3 ⟨rfl, hb3⟩
      have F0 := Lib.hid ((E0.out.below hb3 E0.out.lt).alloc (.cells #[.int .i64 0, .int .i64 0] 171))
      have F1 := Lib.hid ((E1.out.below hb3 E1.out.lt).alloc (.cells #[.int .i64 0, .int .i64 0] 171))
      have F2 := Lib.hid ((E2.out.below hb3 E2.out.lt).alloc (.cells #[.int .i64 0, .int .i64 0] 171))
      have F3 := Lib.hid ((E3.out.below hb3 E3.out.lt).alloc (.cells #[.int .i64 0, .int .i64 0] 171))
      have f1 := Lib.hid ((EB.out.trans (hb3.mono EB.out.size)).trans ((bl_alloc w3 (.cells #[.int .i64 0, .int .i64 0] 171)).mono (Nat.le_trans EB.out.size hb3.size)))
      clear hb3 E0 E1 E2 E3 EB x0
      go_upto_region 10 with fail
      have D0 := Blk.new w3 171 #[.int .i64 0, .int .i64 0]
      generalize w3.alloc (.cells #[.int .i64 0, .int .i64 0] 171) = w4 at *
      have x0 : ∀ i, w4.cell? ⟨w.heap.size, i, none⟩ = (#[.int .i64 0, .int .i64 0, .int .i64 10000, .int .i64 10000] : Array Value)[i]? := fun i => F0.out.cell i
      have x1 : ∀ i, w4.cell? ⟨w3.heap.size, i, none⟩ = (#[.int .i64 0, .int .i64 0] : Array Value)[i]? := fun i => D0.cell i
      clear D0
      go_wp2_with fail
      (with_reducible refine (KQ.out _).mono ?_)
      rintro e w5 ⟨rfl, hb5⟩
      have G0 := Lib.hid (F0.out.below hb5 F0.out.lt)
      have G1 := Lib.hid (F1.out.below hb5 F1.out.lt)
      have G2 := Lib.hid (F2.out.below hb5 F2.out.lt)
      have G3 := Lib.hid (F3.out.below hb5 F3.out.lt)
      have g1 := Lib.hid (f1.out.trans (hb5.mono f1.out.size))
      clear hb5 F0 F1 F2 F3 f1 x0 x1
      have y2 : ∀ i, w5.cell? ⟨w1.heap.size, i, none⟩ = (prtP 1)[i]? := fun i => G3.out.cell i
      have f2 : ∀ i, w5.frozen? ⟨w1.heap.size, i, none⟩ = false := fun i => G3.out.frozen i
      unfold prtP at y2
      go_wp2
      go_roundw
      case rel =>
        refine ⟨2, by omega, by go_num, ?_, ?_, ?_, ?_, ?_⟩
        · exact (G0.out.far (by simp; omega) _).far (by simp; omega) _
        · exact (G1.out.far (by simp; omega) _).far (by simp; omega) _
        · exact (G2.out.far (by simp; omega) _).far (by simp; omega) _
        · exact (G3.out.set_ 2 (.int .i64 0)).set_ 3 (.int .i64 0)
        · exact (g1.out.setCell (by simp; omega) _).setCell (by simp; omega) _
      case measure => simp [intOf]
    · have y1 : ∀ i, wr.cell? ⟨w.heap.size + 1, i, none⟩ = (#[.int .i64 0, .int .i64 0] : Array Value)[i]? := fun i => E1.out.cell i
      have y2 : ∀ i, wr.cell? ⟨w.heap.size + 1 + 1, i, none⟩ = (#[.int .i64 0, .int .i64 0] : Array Value)[i]? := fun i => E2.out.cell i
      have y3 : ∀ i, wr.cell? ⟨w1.heap.size, i, none⟩ = (prtP 2)[i]? := fun i => E3.out.cell i
      have f1 : ∀ i, wr.frozen? ⟨w.heap.size + 1, i, none⟩ = false := fun i => E1.out.frozen i
      have f2 : ∀ i, wr.frozen? ⟨w.heap.size + 1 + 1, i, none⟩ = false := fun i => E2.out.frozen i
      unfold prtP at y3
      go_upto_region 14 with fail
      go_region
      all_goals
        go_wp2
        refine bodyPost_ret (v := .tuple #[.agg #[.int .i64 10000, .int .i64 10000], .agg #[.int .i64 0, .int .i64 0], .int .i64 0]) (by simp [results, Tryz.results104, go_sem, *]; done) rfl ⟨rfl, ?_⟩
        exact bl_drew ((((EB.out.setCell (by first | (simp; done) | (simp; omega)) _).setCell (by first | (simp; done) | (simp; omega)) _).setCell (by first | (simp; done) | (simp; omega)) _).setCell (by first | (simp; done) | (simp; omega)) _)
end Go.Proofs.YthfndnmfnijpeaaGreat
namespace Go.Proofs.YthfndnmfnijpeaaGreat
open Go.RowKit Go.Shelf
theorem mkd_of {M : Nat → Bool} {i j : Nat} (h : M j = true) : mkd M i j = true := by
  unfold mkd
  split
  · rfl
  · exact h
theorem dk1 {M : Nat → Bool} {i j a : Nat} (D : Hid (M j = true → M a = true)) (hne : (j == i) = false) : mkd M i j = true → mkd M i a = true := fun h => mkd_of (kq D hne h)
theorem dk2 {M : Nat → Bool} {i j a b : Nat} (D : Hid (M j = true → M a = true ∧ M b = true)) (hne : (j == i) = false) : mkd M i j = true → mkd M i a = true ∧ mkd M i b = true := fun h => ⟨mkd_of (kq D hne h).1, mkd_of (kq D hne h).2⟩
theorem wrong_no (w : World) : Calls Tryz.prog 103 #[.agg #[.int .i64 0, .int .i64 0, .int .i64 10000, .int .i64 10000]] w fun e w' => e = .returned (.bool false) ∧ Below w.heap.size w w' := by
  have K1 := Lib.hid (fun W => aValid_any 0 0 W)
  rw [show avB 0 0 = true from rfl] at K1
  have L0 := Lib.hid (Blk.new w 112 #[.int .i64 0, .int .i64 0, .int .i64 10000, .int .i64 10000])
  have b0 := bl_alloc w (.cells #[.int .i64 0, .int .i64 0, .int .i64 10000, .int .i64 10000] 112)
  go_enter Tryz.func103, Tryz.ntmps103
  go_wp2_with fail
  (with_reducible refine (K1.out _).mono ?_)
  rintro e w1 ⟨rfl, hb1⟩
  have L1 := Lib.hid (L0.out.below hb1 L0.out.lt)
  have b1 := b0.trans (hb1.mono b0.size)
  clear hb1 b0 L0
  have y2 : w1.cell? ⟨w.heap.size, 2, none⟩ = some (.int .i64 10000) := L1.out.cell 2
  have y3 : w1.cell? ⟨w.heap.size, 3, none⟩ = some (.int .i64 10000) := L1.out.cell 3
  go_wp2
  go_ret
  exact ⟨rfl, b1⟩
theorem ixLeg (g c : Nat) (w : World) (hg : g < w.heap.size) (h : ∀ j : Nat, j < 4 → w.cell? ⟨g, j, none⟩ = (#[.int .i64 0, .int .i64 0, .int .i64 10000, .int .i64 10000] : Array Value)[j]?) : Calls Tryz.prog 136 #[.slice (some ⟨g, 0, none⟩) 1 c, .func (.func 103) #[] #[]] w fun e w' => e = .returned (.int .i64 (-1)) ∧ Below w.heap.size w w' := by
  have K1 := Lib.hid wrong_no
  have H := Lib.hid h
  clear h
  go_enter Tryz.func136, Tryz.ntmps136
  go_wp2_with fail
  go_loopw [8] (fun s8 wr => ∃ k : Nat, k ≤ 1 ∧ s8 = .int .i64 k ∧ Below w.heap.size w wr) (fun s8 _ => 2 - (intOf s8).toNat)
  case atStart => exact ⟨0, by omega, rfl, Below.refl _ _⟩
  case round =>
    obtain ⟨k, hk, rfl, hbr⟩ := hrel
    have hcase : k = 0 ∨ k = 1 := by omega
    clear hk
    rcases hcase with rfl | rfl
    · have y0 : wr.cell? ⟨g, 0, none⟩ = some (.int .i64 0) := (hbr.cell (p := ⟨g, 0, none⟩) hg).trans (H.out 0 (by omega))
      have y1 : wr.cell? ⟨g, 1, none⟩ = some (.int .i64 0) := (hbr.cell (p := ⟨g, 1, none⟩) hg).trans (H.out 1 (by omega))
      have y2 : wr.cell? ⟨g, 2, none⟩ = some (.int .i64 10000) := (hbr.cell (p := ⟨g, 2, none⟩) hg).trans (H.out 2 (by omega))
      have y3 : wr.cell? ⟨g, 3, none⟩ = some (.int .i64 10000) := (hbr.cell (p := ⟨g, 3, none⟩) hg).trans (H.out 3 (by omega))
      go_wp2_with fail
      (with_reducible refine (K1.out _).mono ?_)
      rintro e w1 ⟨rfl, hb1⟩
      have hb2 := hbr.trans (hb1.mono hbr.size)
      clear hb1 y0 y1 y2 y3 hbr
      go_wp2
      go_roundw
      case rel => exact ⟨1, by omega, by go_num, hb2⟩
      case measure => simp [intOf]
    · go_wp2
      go_ret
      exact ⟨rfl, hbr⟩
theorem coLeg (g c : Nat) (w : World) (hg : g < w.heap.size) (h : ∀ j : Nat, j < 4 → w.cell? ⟨g, j, none⟩ = (#[.int .i64 0, .int .i64 0, .int .i64 10000, .int .i64 10000] : Array Value)[j]?) : Calls Tryz.prog 102 #[.slice (some ⟨g, 0, none⟩) 1 c, .func (.func 103) #[] #[]] w fun e w' => e = .returned (.bool false) ∧ Below w.heap.size w w' := by
  have K := Lib.hid (ixLeg g c w hg h)
  clear h
  go_enter Tryz.func102, Tryz.ntmps102
  go_wp2_with (go_at_call 136; (with_reducible refine (K.out).mono ?_); rintro e w1 ⟨rfl, hb⟩)
  go_ret
  exact ⟨rfl, hb⟩
theorem given_one (g c : Nat) (w : World) (hg : g < w.heap.size) (h : ∀ j : Nat, j < 4 → w.cell? ⟨g, j, none⟩ = (#[.int .i64 0, .int .i64 0, .int .i64 10000, .int .i64 10000] : Array Value)[j]?) : Calls Tryz.prog 78 #[.slice (some ⟨g, 0, none⟩) 1 c] w fun e w' => e = .returned (.int .i64 0) ∧ Below w.heap.size w w' := by
  have K := Lib.hid (coLeg g c w hg h)
  clear h
  go_enter Tryz.func78, Tryz.ntmps78
  go_wp2_with (go_at_call 102; (with_reducible refine (K.out).mono ?_); rintro e w1 ⟨rfl, hb⟩)
  go_ret
  exact ⟨rfl, hb⟩
end Go.Proofs.YthfndnmfnijpeaaGreat
