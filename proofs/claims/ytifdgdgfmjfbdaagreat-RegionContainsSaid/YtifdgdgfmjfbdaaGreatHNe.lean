/- The walks of region.sine and of region.sure at valid circles and cells. -/
import Derived.Test.YtifdgdgfmjfbdaaGreatHNd
set_option linter.unusedVariables false
set_option linter.unusedSimpArgs false
namespace Go.Proofs.YtifdgdgfmjfbdaaGreat
open Go.RowKit
def SnI4 (W2 : World) (x0 x1 x2 x3 x4 x5 x6 x7 x8 x9 x10 x11 x12 x13 x14 x15 x16 x17 x18 : Value) (v : Nat → Int × Int) (a : Act) (L : Nat → Bool) (a' : Act) (w' : World) : Prop :=
  ∃ (v28 v29 v30 v31 v32 v33 v34 v35 v36 v37 v38 v39 v40 v41 v42 v43 v44 v45 v46 v9 : Value) (g : Nat → Nat), a' = ((((((((((((((((((((a.put (some 28) v28).put (some 29) v29).put (some 30) v30).put (some 31) v31).put (some 32) v32).put (some 33) v33).put (some 34) v34).put (some 35) v35).put (some 36) v36).put (some 37) v37).put (some 38) v38).put (some 39) v39).put (some 40) v40).put (some 41) v41).put (some 42) v42).put (some 43) v43).put (some 44) v44).put (some 45) v45).put (some 46) v46).put (some 9) v9) ∧ MJ W2 w' L 1 19 20 g v ∧
    (L 0 = true → v28 = x0) ∧ (L 1 = true → v29 = x1) ∧ (L 2 = true → v30 = x2) ∧ (L 3 = true → v31 = x3) ∧ (L 4 = true → v32 = x4) ∧ (L 5 = true → v33 = x5) ∧ (L 6 = true → v34 = x6) ∧ (L 7 = true → v35 = x7) ∧ (L 8 = true → v36 = x8) ∧ (L 9 = true → v37 = x9) ∧ (L 10 = true → v38 = x10) ∧ (L 11 = true → v39 = x11) ∧ (L 12 = true → v40 = x12) ∧ (L 13 = true → v41 = x13) ∧ (L 14 = true → v42 = x14) ∧ (L 15 = true → v43 = x15) ∧ (L 16 = true → v44 = x16) ∧ (L 17 = true → v45 = x17) ∧ (L 18 = true → v46 = x18) ∧ (L 19 = true → v9 = .pointer (some ⟨g 0, 0, none⟩))
theorem SnI4.start (W2 : World) (x0 x1 x2 x3 x4 x5 x6 x7 x8 x9 x10 x11 x12 x13 x14 x15 x16 x17 x18 : Value) (v : Nat → Int × Int) (a : Act) : SnI4 W2 x0 x1 x2 x3 x4 x5 x6 x7 x8 x9 x10 x11 x12 x13 x14 x15 x16 x17 x18 v a (fun _ => false) a W2.drew :=
  ⟨_, _, _, _, _, _, _, _, _, _, _, _, _, _, _, _, _, _, _, _, fun _ => 0, by rw [putQ_self a 28, putQ_self a 29, putQ_self a 30, putQ_self a 31, putQ_self a 32, putQ_self a 33, putQ_self a 34, putQ_self a 35, putQ_self a 36, putQ_self a 37, putQ_self a 38, putQ_self a 39, putQ_self a 40, putQ_self a 41, putQ_self a 42, putQ_self a 43, putQ_self a 44, putQ_self a 45, putQ_self a 46, putQ_self a 9], MJ.start W2 1 19 20 _ v, fun h => (by cases h), fun h => (by cases h), fun h => (by cases h), fun h => (by cases h), fun h => (by cases h), fun h => (by cases h), fun h => (by cases h), fun h => (by cases h), fun h => (by cases h), fun h => (by cases h), fun h => (by cases h), fun h => (by cases h), fun h => (by cases h), fun h => (by cases h), fun h => (by cases h), fun h => (by cases h), fun h => (by cases h), fun h => (by cases h), fun h => (by cases h), fun h => (by cases h)⟩
def SnI5 (W2 : World) (x0 x1 x2 x3 x4 x5 x6 x7 x8 x9 x10 x11 x12 x13 x14 x15 x16 x17 x18 x19 x20 x21 x22 x23 x24 x25 x26 x27 x28 x29 : Value) (v : Nat → Int × Int) (a : Act) (L : Nat → Bool) (a' : Act) (w' : World) : Prop :=
  ∃ (v47 v48 v49 v50 v51 v52 v53 v54 v55 v56 v57 v58 v59 v60 v61 v62 v63 v64 v65 v66 v67 v68 v69 v70 v71 v72 v73 v74 v75 v76 v10 : Value) (g : Nat → Nat), a' = (((((((((((((((((((((((((((((((a.put (some 47) v47).put (some 48) v48).put (some 49) v49).put (some 50) v50).put (some 51) v51).put (some 52) v52).put (some 53) v53).put (some 54) v54).put (some 55) v55).put (some 56) v56).put (some 57) v57).put (some 58) v58).put (some 59) v59).put (some 60) v60).put (some 61) v61).put (some 62) v62).put (some 63) v63).put (some 64) v64).put (some 65) v65).put (some 66) v66).put (some 67) v67).put (some 68) v68).put (some 69) v69).put (some 70) v70).put (some 71) v71).put (some 72) v72).put (some 73) v73).put (some 74) v74).put (some 75) v75).put (some 76) v76).put (some 10) v10) ∧ MJ W2 w' L 1 30 31 g v ∧
    (L 0 = true → v47 = x0) ∧ (L 1 = true → v48 = x1) ∧ (L 2 = true → v49 = x2) ∧ (L 3 = true → v50 = x3) ∧ (L 4 = true → v51 = x4) ∧ (L 5 = true → v52 = x5) ∧ (L 6 = true → v53 = x6) ∧ (L 7 = true → v54 = x7) ∧ (L 8 = true → v55 = x8) ∧ (L 9 = true → v56 = x9) ∧ (L 10 = true → v57 = x10) ∧ (L 11 = true → v58 = x11) ∧ (L 12 = true → v59 = x12) ∧ (L 13 = true → v60 = x13) ∧ (L 14 = true → v61 = x14) ∧ (L 15 = true → v62 = x15) ∧ (L 16 = true → v63 = x16) ∧ (L 17 = true → v64 = x17) ∧ (L 18 = true → v65 = x18) ∧ (L 19 = true → v66 = x19) ∧ (L 20 = true → v67 = x20) ∧ (L 21 = true → v68 = x21) ∧ (L 22 = true → v69 = x22) ∧ (L 23 = true → v70 = x23) ∧ (L 24 = true → v71 = x24) ∧ (L 25 = true → v72 = x25) ∧ (L 26 = true → v73 = x26) ∧ (L 27 = true → v74 = x27) ∧ (L 28 = true → v75 = x28) ∧ (L 29 = true → v76 = x29) ∧ (L 30 = true → v10 = .pointer (some ⟨g 0, 0, none⟩))
theorem SnI5.start (W2 : World) (x0 x1 x2 x3 x4 x5 x6 x7 x8 x9 x10 x11 x12 x13 x14 x15 x16 x17 x18 x19 x20 x21 x22 x23 x24 x25 x26 x27 x28 x29 : Value) (v : Nat → Int × Int) (a : Act) : SnI5 W2 x0 x1 x2 x3 x4 x5 x6 x7 x8 x9 x10 x11 x12 x13 x14 x15 x16 x17 x18 x19 x20 x21 x22 x23 x24 x25 x26 x27 x28 x29 v a (fun _ => false) a W2.drew :=
  ⟨_, _, _, _, _, _, _, _, _, _, _, _, _, _, _, _, _, _, _, _, _, _, _, _, _, _, _, _, _, _, _, fun _ => 0, by rw [putQ_self a 47, putQ_self a 48, putQ_self a 49, putQ_self a 50, putQ_self a 51, putQ_self a 52, putQ_self a 53, putQ_self a 54, putQ_self a 55, putQ_self a 56, putQ_self a 57, putQ_self a 58, putQ_self a 59, putQ_self a 60, putQ_self a 61, putQ_self a 62, putQ_self a 63, putQ_self a 64, putQ_self a 65, putQ_self a 66, putQ_self a 67, putQ_self a 68, putQ_self a 69, putQ_self a 70, putQ_self a 71, putQ_self a 72, putQ_self a 73, putQ_self a 74, putQ_self a 75, putQ_self a 76, putQ_self a 10], MJ.start W2 1 30 31 _ v, fun h => (by cases h), fun h => (by cases h), fun h => (by cases h), fun h => (by cases h), fun h => (by cases h), fun h => (by cases h), fun h => (by cases h), fun h => (by cases h), fun h => (by cases h), fun h => (by cases h), fun h => (by cases h), fun h => (by cases h), fun h => (by cases h), fun h => (by cases h), fun h => (by cases h), fun h => (by cases h), fun h => (by cases h), fun h => (by cases h), fun h => (by cases h), fun h => (by cases h), fun h => (by cases h), fun h => (by cases h), fun h => (by cases h), fun h => (by cases h), fun h => (by cases h), fun h => (by cases h), fun h => (by cases h), fun h => (by cases h), fun h => (by cases h), fun h => (by cases h), fun h => (by cases h)⟩
set_option maxHeartbeats 16000000 in
set_option maxRecDepth 100000 in
theorem sine39_any (a0 a1 o0 o1 r0 r1 q0 q1 q2 q3 : Int) (w : World) (hc : VC a0 a1 o0 o1 r0 r1) (hq : VP (q0, q1, q2, q3)) :
    Calls Tryz.prog 254 #[.agg #[.int .i64 a0, .int .i64 a1, .int .i64 o0, .int .i64 o1, .int .i64 r0, .int .i64 r1], .agg #[.int .i64 q0, .int .i64 q1, .int .i64 q2, .int .i64 q3]] w fun e w' => e = .returned (.tuple #[.agg #[.int .i64 (Trig.sinT (q0, q1) (a0, a1) (q2 - o1, q3 - o0)).1, .int .i64 (Trig.sinT (q0, q1) (a0, a1) (q2 - o1, q3 - o0)).2], .int .i64 0]) ∧ Below w.heap.size w w' := by
  have bq := vp_bd hq
  have bp := vp_bd hc.p
  have e0 : wrap64 (q2 - o1) = q2 - o1 := IntWalk.wrap64_in _ (by omega)
  have e1 : wrap64 (q3 - o0) = q3 - o0 := IntWalk.wrap64_in _ (by omega)
  have KSA := fun W => sin_yes (q0, q1) (avB_true.2 (by simp only []; omega)) W
  have KSB := fun W => sin_yes (a0, a1) (avB_true.2 (by simp only []; omega)) W
  have KCA := fun W => cos_yes (q0, q1) (avB_true.2 (by simp only []; omega)) W
  have KCB := fun W => cos_yes (a0, a1) (avB_true.2 (by simp only []; omega)) W
  have KCC := fun W => cos_yes (q2 - o1, q3 - o0) (avB_true.2 (by simp only []; omega)) W
  have hsa := Trig.snP_small (q0, q1)
  have hsb := Trig.snP_small (a0, a1)
  have hca := Trig.csP_small (q0, q1)
  have hcb := Trig.csP_small (a0, a1)
  have hcc := Trig.csP_small (q2 - o1, q3 - o0)
  have hS : Trig.sinT (q0, q1) (a0, a1) (q2 - o1, q3 - o0) = Trig.addP (Trig.mulP (Trig.snP (q0, q1)) (Trig.snP (a0, a1))) (Trig.mulP (Trig.mulP (Trig.csP (q0, q1)) (Trig.csP (a0, a1))) (Trig.csP (q2 - o1, q3 - o0))) := rfl
  rw [hS]
  clear hS hc hq bq bp
  generalize Trig.snP (q0, q1) = sa at *
  generalize Trig.snP (a0, a1) = sb at *
  generalize Trig.csP (q0, q1) = ca at *
  generalize Trig.csP (a0, a1) = cb at *
  generalize Trig.csP (q2 - o1, q3 - o0) = cc at *
  have KM1 := fun W => mul_yes sa sb hsa hsb W
  have hma := Trig.mulP_small hsa hsb
  generalize Trig.mulP sa sb = ma at *
  have KM2 := fun W => mul_yes ca cb hca hcb W
  have hmb := Trig.mulP_small hca hcb
  generalize Trig.mulP ca cb = mb at *
  have KM3 := fun W => mul_yes mb cc hmb hcc W
  have hmc := Trig.mulP_small hmb hcc
  generalize Trig.mulP mb cc = mc at *
  have KPL := fun W => add_yes ma mc hma hmc W
  generalize Trig.addP ma mc = s at *
  obtain ⟨sa0, sa1⟩ := sa
  obtain ⟨sb0, sb1⟩ := sb
  obtain ⟨ca0, ca1⟩ := ca
  obtain ⟨cb0, cb1⟩ := cb
  obtain ⟨cc0, cc1⟩ := cc
  obtain ⟨ma0, ma1⟩ := ma
  obtain ⟨mb0, mb1⟩ := mb
  obtain ⟨mc0, mc1⟩ := mc
  obtain ⟨s0, s1⟩ := s
  simp only [] at KSA KSB KCA KCB KCC KM1 KM2 KM3 KPL ⊢
  obtain ⟨c0, ec0⟩ : ∃ v, q2 - o1 = v := ⟨_, rfl⟩
  obtain ⟨c1, ec1⟩ : ∃ v, q3 - o0 = v := ⟨_, rfl⟩
  rw [ec0, ec1] at KCC
  rw [ec0] at e0
  rw [ec1] at e1
  have e0' : wrap64 c0 = c0 := e0
  have KSA := Lib.hid KSA
  have KSB := Lib.hid KSB
  have KCA := Lib.hid KCA
  have KCB := Lib.hid KCB
  have KCC := Lib.hid KCC
  have KM1 := Lib.hid KM1
  have KM2 := Lib.hid KM2
  have KM3 := Lib.hid KM3
  have KPL := Lib.hid KPL
  have KKP := Lib.hid (fun (g : Nat) (lo hi : Int) (W : World) (h : Blk W g 32 #[.int .i64 0]) => keepS_any g lo hi W h)
  clear hsa hsb hca hcb hcc hma hmb hmc
  have cc := ((((Blk.new w 39 #[.int .i64 a0, .int .i64 a1, .int .i64 o0, .int .i64 o1, .int .i64 r0, .int .i64 r1]).alloc (.cells #[.int .i64 q0, .int .i64 q1, .int .i64 q2, .int .i64 q3] 31)).alloc (.cells #[.int .i64 0, .int .i64 0] 97)).alloc (.cells #[.int .i64 0] 32)).alloc (.cells #[.int .i64 c0, .int .i64 c1] 29)
  have pp := (((Blk.new (w.alloc (.cells #[.int .i64 a0, .int .i64 a1, .int .i64 o0, .int .i64 o1, .int .i64 r0, .int .i64 r1] 39)) 31 #[.int .i64 q0, .int .i64 q1, .int .i64 q2, .int .i64 q3]).alloc (.cells #[.int .i64 0, .int .i64 0] 97)).alloc (.cells #[.int .i64 0] 32)).alloc (.cells #[.int .i64 c0, .int .i64 c1] 29)
  have rr := ((D2.new ((w.alloc (.cells #[.int .i64 a0, .int .i64 a1, .int .i64 o0, .int .i64 o1, .int .i64 r0, .int .i64 r1] 39)).alloc (.cells #[.int .i64 q0, .int .i64 q1, .int .i64 q2, .int .i64 q3] 31)) 0 0 97).alloc (.cells #[.int .i64 0] 32)).alloc (.cells #[.int .i64 c0, .int .i64 c1] 29)
  have kk := (Blk.new (((w.alloc (.cells #[.int .i64 a0, .int .i64 a1, .int .i64 o0, .int .i64 o1, .int .i64 r0, .int .i64 r1] 39)).alloc (.cells #[.int .i64 q0, .int .i64 q1, .int .i64 q2, .int .i64 q3] 31)).alloc (.cells #[.int .i64 0, .int .i64 0] 97)) 32 #[.int .i64 0]).alloc (.cells #[.int .i64 c0, .int .i64 c1] 29)
  have aa := D2.new ((((w.alloc (.cells #[.int .i64 a0, .int .i64 a1, .int .i64 o0, .int .i64 o1, .int .i64 r0, .int .i64 r1] 39)).alloc (.cells #[.int .i64 q0, .int .i64 q1, .int .i64 q2, .int .i64 q3] 31)).alloc (.cells #[.int .i64 0, .int .i64 0] 97)).alloc (.cells #[.int .i64 0] 32)) c0 c1 29
  simp only [World.size_alloc] at pp rr kk aa
  have bb : Below w.heap.size w (((((w.alloc (.cells #[.int .i64 a0, .int .i64 a1, .int .i64 o0, .int .i64 o1, .int .i64 r0, .int .i64 r1] 39)).alloc (.cells #[.int .i64 q0, .int .i64 q1, .int .i64 q2, .int .i64 q3] 31)).alloc (.cells #[.int .i64 0, .int .i64 0] 97)).alloc (.cells #[.int .i64 0] 32)).alloc (.cells #[.int .i64 c0, .int .i64 c1] 29)) := (((((Below.refl _ _).alloc (Nat.le_refl _) _).alloc (by simp) _).alloc (by simp; omega) _).alloc (by simp; omega) _).alloc (by simp; omega) _
  go_enter Tryz.func254, Tryz.ntmps254
  go_upto_region 4 with (fail)
  obtain ⟨w3, hw3⟩ : ∃ w3, (((((w.alloc (.cells #[.int .i64 a0, .int .i64 a1, .int .i64 o0, .int .i64 o1, .int .i64 r0, .int .i64 r1] 39)).alloc (.cells #[.int .i64 q0, .int .i64 q1, .int .i64 q2, .int .i64 q3] 31)).alloc (.cells #[.int .i64 0, .int .i64 0] 97)).alloc (.cells #[.int .i64 0] 32)).alloc (.cells #[.int .i64 c0, .int .i64 c1] 29)) = w3 := ⟨_, rfl⟩
  rw [hw3] at cc pp rr kk aa bb ⊢
  clear hw3
  obtain ⟨gk, hgk⟩ : ∃ g, w.heap.size + 3 = g := ⟨_, rfl⟩
  rw [show w.heap.size + 1 + 1 + 1 = w.heap.size + 3 from rfl, hgk] at kk aa ⊢
  have CC := Lib.hid cc
  have PP := Lib.hid pp
  have RR := Lib.hid rr
  have KK := Lib.hid kk
  have AA := Lib.hid aa
  have B0 := Lib.hid bb
  have HGK := Lib.hid hgk
  clear cc pp rr kk aa bb hgk e0 e1 e0'
  refine wp_region_inv3 (by kernel_rfl) (SnI4 w3 (.func (.func 283) #[] #[.pointer (some ⟨gk, 0, none⟩)]) (.func (.func 283) #[] #[.pointer (some ⟨gk, 0, none⟩)]) (.pointer (some ⟨w.heap.size + 1, 0, none⟩)) (.agg #[.int .i64 q0, .int .i64 q1]) (.tuple #[.agg #[.int .i64 sa0, .int .i64 sa1], .int .i64 0]) (.agg #[.int .i64 sa0, .int .i64 sa1]) (.int .i64 0) (.agg #[.int .i64 sa0, .int .i64 sa1]) (.func (.func 283) #[] #[.pointer (some ⟨gk, 0, none⟩)]) (.pointer (some ⟨w.heap.size, 0, none⟩)) (.agg #[.int .i64 a0, .int .i64 a1]) (.tuple #[.agg #[.int .i64 sb0, .int .i64 sb1], .int .i64 0]) (.agg #[.int .i64 sb0, .int .i64 sb1]) (.int .i64 0) (.agg #[.int .i64 sb0, .int .i64 sb1]) (.tuple #[.agg #[.int .i64 ma0, .int .i64 ma1], .int .i64 0]) (.agg #[.int .i64 ma0, .int .i64 ma1]) (.int .i64 0) (.agg #[.int .i64 ma0, .int .i64 ma1]) (fun _ => ((ma0 : Int), (ma1 : Int)))) (waits_bind (by kernel_rfl)) ?start ?step ?fin
  case start => exact SnI4.start w3 _ _ _ _ _ _ _ _ _ _ _ _ _ _ _ _ _ _ _ _ _
  case step =>
    rintro L i o a1' w' ho hL haf ⟨v28, v29, v30, v31, v32, v33, v34, v35, v36, v37, v38, v39, v40, v41, v42, v43, v44, v45, v46, v9, g, rfl, hT, e0, e1, e2, e3, e4, e5, e6, e7, e8, e9, e10, e11, e12, e13, e14, e15, e16, e17, e18, e19⟩
    have HT := Lib.hid hT
    clear hT
    have E0 := Lib.hid e0
    have E1 := Lib.hid e1
    have E2 := Lib.hid e2
    have E3 := Lib.hid e3
    have E4 := Lib.hid e4
    have E5 := Lib.hid e5
    have E6 := Lib.hid e6
    have E7 := Lib.hid e7
    have E8 := Lib.hid e8
    have E9 := Lib.hid e9
    have E10 := Lib.hid e10
    have E11 := Lib.hid e11
    have E12 := Lib.hid e12
    have E13 := Lib.hid e13
    have E14 := Lib.hid e14
    have E15 := Lib.hid e15
    have E16 := Lib.hid e16
    have E17 := Lib.hid e17
    have E18 := Lib.hid e18
    have E19 := Lib.hid e19
    clear e0 e1 e2 e3 e4 e5 e6 e7 e8 e9 e10 e11 e12 e13 e14 e15 e16 e17 e18 e19
    rcases i with _ | _ | _ | _ | _ | _ | _ | _ | _ | _ | _ | _ | _ | _ | _ | _ | _ | _ | _ | _ | _ | i
    all_goals (simp at ho; try subst ho)
    all_goals (try simp [Region.binds] at haf)
    · go_wp2
      unfold SnI4
      exact ⟨(.func (.func 283) #[] #[.pointer (some ⟨gk, 0, none⟩)]), v29, v30, v31, v32, v33, v34, v35, v36, v37, v38, v39, v40, v41, v42, v43, v44, v45, v46, v9, g, by simp only [Act.put, List.setIfInBounds_toArray, List.set_cons_zero, List.set_cons_succ], HT.out.mark 0 (by decide), fun _ => rfl, kq E1, kq E2, kq E3, kq E4, kq E5, kq E6, kq E7, kq E8, kq E9, kq E10, kq E11, kq E12, kq E13, kq E14, kq E15, kq E16, kq E17, kq E18, kq E19⟩
    · go_wp2
      unfold SnI4
      exact ⟨v28, (.func (.func 283) #[] #[.pointer (some ⟨gk, 0, none⟩)]), v30, v31, v32, v33, v34, v35, v36, v37, v38, v39, v40, v41, v42, v43, v44, v45, v46, v9, g, by simp only [Act.put, List.setIfInBounds_toArray, List.set_cons_zero, List.set_cons_succ], HT.out.mark 1 (by decide), kq E0, fun _ => rfl, kq E2, kq E3, kq E4, kq E5, kq E6, kq E7, kq E8, kq E9, kq E10, kq E11, kq E12, kq E13, kq E14, kq E15, kq E16, kq E17, kq E18, kq E19⟩
    · go_wp2
      unfold SnI4
      exact ⟨v28, v29, (.pointer (some ⟨w.heap.size + 1, 0, none⟩)), v31, v32, v33, v34, v35, v36, v37, v38, v39, v40, v41, v42, v43, v44, v45, v46, v9, g, by simp only [Act.put, List.setIfInBounds_toArray, List.set_cons_zero, List.set_cons_succ], HT.out.mark 2 (by decide), kq E0, kq E1, fun _ => rfl, kq E3, kq E4, kq E5, kq E6, kq E7, kq E8, kq E9, kq E10, kq E11, kq E12, kq E13, kq E14, kq E15, kq E16, kq E17, kq E18, kq E19⟩
    · have z9 := PP.out.below HT.out.bl PP.out.lt
      have k0 : w'.cell? ⟨w.heap.size + 1, 0, none⟩ = some (.int .i64 q0) := z9.cell 0
      have k1 : w'.cell? ⟨w.heap.size + 1, 1, none⟩ = some (.int .i64 q1) := z9.cell 1
      clear z9
      obtain rfl := E2.out (by simp [haf])
      go_wp2
      unfold SnI4
      exact ⟨v28, v29, (.pointer (some ⟨w.heap.size + 1, 0, none⟩)), (.agg #[.int .i64 q0, .int .i64 q1]), v32, v33, v34, v35, v36, v37, v38, v39, v40, v41, v42, v43, v44, v45, v46, v9, g, by simp only [Act.put, List.setIfInBounds_toArray, List.set_cons_zero, List.set_cons_succ], HT.out.mark 3 (by decide), kq E0, kq E1, fun _ => rfl, fun _ => rfl, kq E4, kq E5, kq E6, kq E7, kq E8, kq E9, kq E10, kq E11, kq E12, kq E13, kq E14, kq E15, kq E16, kq E17, kq E18, kq E19⟩
    · obtain rfl := E3.out (by simp [haf])
      go_wp2_with fail
      (with_reducible refine (KSA.out _).mono ?_)
      rintro e w9 ⟨rfl, hb9⟩
      go_wp2
      unfold SnI4
      exact ⟨v28, v29, v30, (.agg #[.int .i64 q0, .int .i64 q1]), (.tuple #[.agg #[.int .i64 sa0, .int .i64 sa1], .int .i64 0]), v33, v34, v35, v36, v37, v38, v39, v40, v41, v42, v43, v44, v45, v46, v9, g, by simp only [Act.put, List.setIfInBounds_toArray, List.set_cons_zero, List.set_cons_succ], (HT.out.call hb9).mark 4 (by decide), kq E0, kq E1, kq E2, fun _ => rfl, fun _ => rfl, kq E5, kq E6, kq E7, kq E8, kq E9, kq E10, kq E11, kq E12, kq E13, kq E14, kq E15, kq E16, kq E17, kq E18, kq E19⟩
    · obtain rfl := E4.out (by simp [haf])
      go_wp2
      unfold SnI4
      exact ⟨v28, v29, v30, v31, (.tuple #[.agg #[.int .i64 sa0, .int .i64 sa1], .int .i64 0]), (.agg #[.int .i64 sa0, .int .i64 sa1]), v34, v35, v36, v37, v38, v39, v40, v41, v42, v43, v44, v45, v46, v9, g, by simp only [Act.put, List.setIfInBounds_toArray, List.set_cons_zero, List.set_cons_succ], HT.out.mark 5 (by decide), kq E0, kq E1, kq E2, kq E3, fun _ => rfl, fun _ => rfl, kq E6, kq E7, kq E8, kq E9, kq E10, kq E11, kq E12, kq E13, kq E14, kq E15, kq E16, kq E17, kq E18, kq E19⟩
    · obtain rfl := E4.out (by simp [haf])
      go_wp2
      unfold SnI4
      exact ⟨v28, v29, v30, v31, (.tuple #[.agg #[.int .i64 sa0, .int .i64 sa1], .int .i64 0]), v33, (.int .i64 0), v35, v36, v37, v38, v39, v40, v41, v42, v43, v44, v45, v46, v9, g, by simp only [Act.put, List.setIfInBounds_toArray, List.set_cons_zero, List.set_cons_succ], HT.out.mark 6 (by decide), kq E0, kq E1, kq E2, kq E3, fun _ => rfl, kq E5, fun _ => rfl, kq E7, kq E8, kq E9, kq E10, kq E11, kq E12, kq E13, kq E14, kq E15, kq E16, kq E17, kq E18, kq E19⟩
    · have K9 := Lib.hid (KK.out.below HT.out.bl KK.out.lt)
      obtain rfl := E1.out (by simp [haf])
      obtain rfl := E5.out (by simp [haf])
      obtain rfl := E6.out (by simp [haf])
      go_wp2_with fail
      (with_reducible refine (KKP.out _ _ _ _ K9.out).mono ?_)
      rintro e w9 ⟨rfl, hb9⟩
      go_wp2
      unfold SnI4
      exact ⟨v28, (.func (.func 283) #[] #[.pointer (some ⟨gk, 0, none⟩)]), v30, v31, v32, (.agg #[.int .i64 sa0, .int .i64 sa1]), (.int .i64 0), (.agg #[.int .i64 sa0, .int .i64 sa1]), v36, v37, v38, v39, v40, v41, v42, v43, v44, v45, v46, v9, g, by simp only [Act.put, List.setIfInBounds_toArray, List.set_cons_zero, List.set_cons_succ], (HT.out.call hb9).mark 7 (by decide), kq E0, fun _ => rfl, kq E2, kq E3, kq E4, fun _ => rfl, fun _ => rfl, fun _ => rfl, kq E8, kq E9, kq E10, kq E11, kq E12, kq E13, kq E14, kq E15, kq E16, kq E17, kq E18, kq E19⟩
    · go_wp2
      unfold SnI4
      exact ⟨v28, v29, v30, v31, v32, v33, v34, v35, (.func (.func 283) #[] #[.pointer (some ⟨gk, 0, none⟩)]), v37, v38, v39, v40, v41, v42, v43, v44, v45, v46, v9, g, by simp only [Act.put, List.setIfInBounds_toArray, List.set_cons_zero, List.set_cons_succ], HT.out.mark 8 (by decide), kq E0, kq E1, kq E2, kq E3, kq E4, kq E5, kq E6, kq E7, fun _ => rfl, kq E9, kq E10, kq E11, kq E12, kq E13, kq E14, kq E15, kq E16, kq E17, kq E18, kq E19⟩
    · go_wp2
      unfold SnI4
      exact ⟨v28, v29, v30, v31, v32, v33, v34, v35, v36, (.pointer (some ⟨w.heap.size, 0, none⟩)), v38, v39, v40, v41, v42, v43, v44, v45, v46, v9, g, by simp only [Act.put, List.setIfInBounds_toArray, List.set_cons_zero, List.set_cons_succ], HT.out.mark 9 (by decide), kq E0, kq E1, kq E2, kq E3, kq E4, kq E5, kq E6, kq E7, kq E8, fun _ => rfl, kq E10, kq E11, kq E12, kq E13, kq E14, kq E15, kq E16, kq E17, kq E18, kq E19⟩
    · have z9 := CC.out.below HT.out.bl CC.out.lt
      have k0 : w'.cell? ⟨w.heap.size, 0, none⟩ = some (.int .i64 a0) := z9.cell 0
      have k1 : w'.cell? ⟨w.heap.size, 1, none⟩ = some (.int .i64 a1) := z9.cell 1
      clear z9
      obtain rfl := E9.out (by simp [haf])
      go_wp2
      unfold SnI4
      exact ⟨v28, v29, v30, v31, v32, v33, v34, v35, v36, (.pointer (some ⟨w.heap.size, 0, none⟩)), (.agg #[.int .i64 a0, .int .i64 a1]), v39, v40, v41, v42, v43, v44, v45, v46, v9, g, by simp only [Act.put, List.setIfInBounds_toArray, List.set_cons_zero, List.set_cons_succ], HT.out.mark 10 (by decide), kq E0, kq E1, kq E2, kq E3, kq E4, kq E5, kq E6, kq E7, kq E8, fun _ => rfl, fun _ => rfl, kq E11, kq E12, kq E13, kq E14, kq E15, kq E16, kq E17, kq E18, kq E19⟩
    · obtain rfl := E10.out (by simp [haf])
      go_wp2_with fail
      (with_reducible refine (KSB.out _).mono ?_)
      rintro e w9 ⟨rfl, hb9⟩
      go_wp2
      unfold SnI4
      exact ⟨v28, v29, v30, v31, v32, v33, v34, v35, v36, v37, (.agg #[.int .i64 a0, .int .i64 a1]), (.tuple #[.agg #[.int .i64 sb0, .int .i64 sb1], .int .i64 0]), v40, v41, v42, v43, v44, v45, v46, v9, g, by simp only [Act.put, List.setIfInBounds_toArray, List.set_cons_zero, List.set_cons_succ], (HT.out.call hb9).mark 11 (by decide), kq E0, kq E1, kq E2, kq E3, kq E4, kq E5, kq E6, kq E7, kq E8, kq E9, fun _ => rfl, fun _ => rfl, kq E12, kq E13, kq E14, kq E15, kq E16, kq E17, kq E18, kq E19⟩
    · obtain rfl := E11.out (by simp [haf])
      go_wp2
      unfold SnI4
      exact ⟨v28, v29, v30, v31, v32, v33, v34, v35, v36, v37, v38, (.tuple #[.agg #[.int .i64 sb0, .int .i64 sb1], .int .i64 0]), (.agg #[.int .i64 sb0, .int .i64 sb1]), v41, v42, v43, v44, v45, v46, v9, g, by simp only [Act.put, List.setIfInBounds_toArray, List.set_cons_zero, List.set_cons_succ], HT.out.mark 12 (by decide), kq E0, kq E1, kq E2, kq E3, kq E4, kq E5, kq E6, kq E7, kq E8, kq E9, kq E10, fun _ => rfl, fun _ => rfl, kq E13, kq E14, kq E15, kq E16, kq E17, kq E18, kq E19⟩
    · obtain rfl := E11.out (by simp [haf])
      go_wp2
      unfold SnI4
      exact ⟨v28, v29, v30, v31, v32, v33, v34, v35, v36, v37, v38, (.tuple #[.agg #[.int .i64 sb0, .int .i64 sb1], .int .i64 0]), v40, (.int .i64 0), v42, v43, v44, v45, v46, v9, g, by simp only [Act.put, List.setIfInBounds_toArray, List.set_cons_zero, List.set_cons_succ], HT.out.mark 13 (by decide), kq E0, kq E1, kq E2, kq E3, kq E4, kq E5, kq E6, kq E7, kq E8, kq E9, kq E10, fun _ => rfl, kq E12, fun _ => rfl, kq E14, kq E15, kq E16, kq E17, kq E18, kq E19⟩
    · have K9 := Lib.hid (KK.out.below HT.out.bl KK.out.lt)
      obtain rfl := E8.out (by simp [haf])
      obtain rfl := E12.out (by simp [haf])
      obtain rfl := E13.out (by simp [haf])
      go_wp2_with fail
      (with_reducible refine (KKP.out _ _ _ _ K9.out).mono ?_)
      rintro e w9 ⟨rfl, hb9⟩
      go_wp2
      unfold SnI4
      exact ⟨v28, v29, v30, v31, v32, v33, v34, v35, (.func (.func 283) #[] #[.pointer (some ⟨gk, 0, none⟩)]), v37, v38, v39, (.agg #[.int .i64 sb0, .int .i64 sb1]), (.int .i64 0), (.agg #[.int .i64 sb0, .int .i64 sb1]), v43, v44, v45, v46, v9, g, by simp only [Act.put, List.setIfInBounds_toArray, List.set_cons_zero, List.set_cons_succ], (HT.out.call hb9).mark 14 (by decide), kq E0, kq E1, kq E2, kq E3, kq E4, kq E5, kq E6, kq E7, fun _ => rfl, kq E9, kq E10, kq E11, fun _ => rfl, fun _ => rfl, fun _ => rfl, kq E15, kq E16, kq E17, kq E18, kq E19⟩
    · obtain rfl := E7.out (by simp [haf])
      obtain rfl := E14.out (by simp [haf])
      go_wp2_with fail
      (with_reducible refine (KM1.out _).mono ?_)
      rintro e w9 ⟨rfl, hb9⟩
      go_wp2
      unfold SnI4
      exact ⟨v28, v29, v30, v31, v32, v33, v34, (.agg #[.int .i64 sa0, .int .i64 sa1]), v36, v37, v38, v39, v40, v41, (.agg #[.int .i64 sb0, .int .i64 sb1]), (.tuple #[.agg #[.int .i64 ma0, .int .i64 ma1], .int .i64 0]), v44, v45, v46, v9, g, by simp only [Act.put, List.setIfInBounds_toArray, List.set_cons_zero, List.set_cons_succ], (HT.out.call hb9).mark 15 (by decide), kq E0, kq E1, kq E2, kq E3, kq E4, kq E5, kq E6, fun _ => rfl, kq E8, kq E9, kq E10, kq E11, kq E12, kq E13, fun _ => rfl, fun _ => rfl, kq E16, kq E17, kq E18, kq E19⟩
    · obtain rfl := E15.out (by simp [haf])
      go_wp2
      unfold SnI4
      exact ⟨v28, v29, v30, v31, v32, v33, v34, v35, v36, v37, v38, v39, v40, v41, v42, (.tuple #[.agg #[.int .i64 ma0, .int .i64 ma1], .int .i64 0]), (.agg #[.int .i64 ma0, .int .i64 ma1]), v45, v46, v9, g, by simp only [Act.put, List.setIfInBounds_toArray, List.set_cons_zero, List.set_cons_succ], HT.out.mark 16 (by decide), kq E0, kq E1, kq E2, kq E3, kq E4, kq E5, kq E6, kq E7, kq E8, kq E9, kq E10, kq E11, kq E12, kq E13, kq E14, fun _ => rfl, fun _ => rfl, kq E17, kq E18, kq E19⟩
    · obtain rfl := E15.out (by simp [haf])
      go_wp2
      unfold SnI4
      exact ⟨v28, v29, v30, v31, v32, v33, v34, v35, v36, v37, v38, v39, v40, v41, v42, (.tuple #[.agg #[.int .i64 ma0, .int .i64 ma1], .int .i64 0]), v44, (.int .i64 0), v46, v9, g, by simp only [Act.put, List.setIfInBounds_toArray, List.set_cons_zero, List.set_cons_succ], HT.out.mark 17 (by decide), kq E0, kq E1, kq E2, kq E3, kq E4, kq E5, kq E6, kq E7, kq E8, kq E9, kq E10, kq E11, kq E12, kq E13, kq E14, fun _ => rfl, kq E16, fun _ => rfl, kq E18, kq E19⟩
    · have K9 := Lib.hid (KK.out.below HT.out.bl KK.out.lt)
      obtain rfl := E0.out (by simp [haf])
      obtain rfl := E16.out (by simp [haf])
      obtain rfl := E17.out (by simp [haf])
      go_wp2_with fail
      (with_reducible refine (KKP.out _ _ _ _ K9.out).mono ?_)
      rintro e w9 ⟨rfl, hb9⟩
      go_wp2
      unfold SnI4
      exact ⟨(.func (.func 283) #[] #[.pointer (some ⟨gk, 0, none⟩)]), v29, v30, v31, v32, v33, v34, v35, v36, v37, v38, v39, v40, v41, v42, v43, (.agg #[.int .i64 ma0, .int .i64 ma1]), (.int .i64 0), (.agg #[.int .i64 ma0, .int .i64 ma1]), v9, g, by simp only [Act.put, List.setIfInBounds_toArray, List.set_cons_zero, List.set_cons_succ], (HT.out.call hb9).mark 18 (by decide), fun _ => rfl, kq E1, kq E2, kq E3, kq E4, kq E5, kq E6, kq E7, kq E8, kq E9, kq E10, kq E11, kq E12, kq E13, kq E14, kq E15, fun _ => rfl, fun _ => rfl, fun _ => rfl, kq E19⟩
    · go_wp2
      unfold SnI4
      exact ⟨v28, v29, v30, v31, v32, v33, v34, v35, v36, v37, v38, v39, v40, v41, v42, v43, v44, v45, v46, (.pointer (some ⟨w'.heap.size, 0, none⟩)), (fun j => if j = 0 then w'.heap.size else g j), by simp only [Act.put, List.setIfInBounds_toArray, List.set_cons_zero, List.set_cons_succ], HT.out.al 0 (by decide) (by decide) hL _, kq E0, kq E1, kq E2, kq E3, kq E4, kq E5, kq E6, kq E7, kq E8, kq E9, kq E10, kq E11, kq E12, kq E13, kq E14, kq E15, kq E16, kq E17, kq E18, fun _ => rfl⟩
    · obtain rfl := E19.out (by simp [haf])
      obtain rfl := E18.out (by simp [haf])
      have hA : L 19 = true := by simp [haf]
      obtain ⟨zt, z0, z1, zf0, zf1⟩ := HT.out.z 0 (by decide) hA hL
      have HS := Lib.hid (HT.out.st 0 (by decide) (by decide) hA hL rfl)
      go_wp2
      unfold SnI4
      exact ⟨v28, v29, v30, v31, v32, v33, v34, v35, v36, v37, v38, v39, v40, v41, v42, v43, v44, v45, (.agg #[.int .i64 ma0, .int .i64 ma1]), (.pointer (some ⟨g 0, 0, none⟩)), g, by simp only [Act.put, List.setIfInBounds_toArray, List.set_cons_zero, List.set_cons_succ], HS.out, kq E0, kq E1, kq E2, kq E3, kq E4, kq E5, kq E6, kq E7, kq E8, kq E9, kq E10, kq E11, kq E12, kq E13, kq E14, kq E15, kq E16, kq E17, fun _ => rfl, fun _ => rfl⟩
  case fin =>
    rintro L a1' w4 hall ⟨v28, v29, v30, v31, v32, v33, v34, v35, v36, v37, v38, v39, v40, v41, v42, v43, v44, v45, v46, v9, g, rfl, hT, e0, e1, e2, e3, e4, e5, e6, e7, e8, e9, e10, e11, e12, e13, e14, e15, e16, e17, e18, e19⟩
    obtain rfl := e0 (hall 0 (by decide))
    obtain rfl := e1 (hall 1 (by decide))
    obtain rfl := e2 (hall 2 (by decide))
    obtain rfl := e3 (hall 3 (by decide))
    obtain rfl := e4 (hall 4 (by decide))
    obtain rfl := e5 (hall 5 (by decide))
    obtain rfl := e6 (hall 6 (by decide))
    obtain rfl := e7 (hall 7 (by decide))
    obtain rfl := e8 (hall 8 (by decide))
    obtain rfl := e9 (hall 9 (by decide))
    obtain rfl := e10 (hall 10 (by decide))
    obtain rfl := e11 (hall 11 (by decide))
    obtain rfl := e12 (hall 12 (by decide))
    obtain rfl := e13 (hall 13 (by decide))
    obtain rfl := e14 (hall 14 (by decide))
    obtain rfl := e15 (hall 15 (by decide))
    obtain rfl := e16 (hall 16 (by decide))
    obtain rfl := e17 (hall 17 (by decide))
    obtain rfl := e18 (hall 18 (by decide))
    obtain rfl := e19 (hall 19 (by decide))
    have D9 : Hid (D2 w4 (g 0) ma0 ma1) := Lib.hid (hT.k 0 (by decide) (hall 20 (by decide)))
    have CC4 := Lib.hid (CC.out.below hT.bl CC.out.lt)
    have PP4 := Lib.hid (PP.out.below hT.bl PP.out.lt)
    have RR4 := Lib.hid (RR.out.below hT.bl RR.out.lt)
    have KK4 := Lib.hid (KK.out.below hT.bl KK.out.lt)
    have AA4 := Lib.hid (AA.out.below hT.bl AA.out.lt)
    have B4 := Lib.hid (B0.out.trans (hT.bl.mono B0.out.size))
    clear hT hall CC PP RR KK AA B0 KSA KSB KM1
    have CC := CC4
    have PP := PP4
    have KK := KK4
    have AA := AA4
    generalize g 0 = g9 at *
    clear g CC4 PP4 KK4 AA4
    go_upto_region 5 with (fail)
    refine wp_region_inv3 (by kernel_rfl) (SnI5 w4 (.func (.func 283) #[] #[.pointer (some ⟨gk, 0, none⟩)]) (.func (.func 283) #[] #[.pointer (some ⟨gk, 0, none⟩)]) (.func (.func 283) #[] #[.pointer (some ⟨gk, 0, none⟩)]) (.pointer (some ⟨w.heap.size + 1, 0, none⟩)) (.agg #[.int .i64 q0, .int .i64 q1]) (.tuple #[.agg #[.int .i64 ca0, .int .i64 ca1], .int .i64 0]) (.agg #[.int .i64 ca0, .int .i64 ca1]) (.int .i64 0) (.agg #[.int .i64 ca0, .int .i64 ca1]) (.func (.func 283) #[] #[.pointer (some ⟨gk, 0, none⟩)]) (.pointer (some ⟨w.heap.size, 0, none⟩)) (.agg #[.int .i64 a0, .int .i64 a1]) (.tuple #[.agg #[.int .i64 cb0, .int .i64 cb1], .int .i64 0]) (.agg #[.int .i64 cb0, .int .i64 cb1]) (.int .i64 0) (.agg #[.int .i64 cb0, .int .i64 cb1]) (.tuple #[.agg #[.int .i64 mb0, .int .i64 mb1], .int .i64 0]) (.agg #[.int .i64 mb0, .int .i64 mb1]) (.int .i64 0) (.agg #[.int .i64 mb0, .int .i64 mb1]) (.func (.func 283) #[] #[.pointer (some ⟨gk, 0, none⟩)]) (.agg #[.int .i64 c0, .int .i64 c1]) (.tuple #[.agg #[.int .i64 cc0, .int .i64 cc1], .int .i64 0]) (.agg #[.int .i64 cc0, .int .i64 cc1]) (.int .i64 0) (.agg #[.int .i64 cc0, .int .i64 cc1]) (.tuple #[.agg #[.int .i64 mc0, .int .i64 mc1], .int .i64 0]) (.agg #[.int .i64 mc0, .int .i64 mc1]) (.int .i64 0) (.agg #[.int .i64 mc0, .int .i64 mc1]) (fun _ => ((mc0 : Int), (mc1 : Int)))) (waits_bind (by kernel_rfl)) ?start ?step ?fin
    case start => exact SnI5.start w4 _ _ _ _ _ _ _ _ _ _ _ _ _ _ _ _ _ _ _ _ _ _ _ _ _ _ _ _ _ _ _ _
    case step =>
      rintro L i o a1' w' ho hL haf ⟨v47, v48, v49, v50, v51, v52, v53, v54, v55, v56, v57, v58, v59, v60, v61, v62, v63, v64, v65, v66, v67, v68, v69, v70, v71, v72, v73, v74, v75, v76, v10, g, rfl, hT, e0, e1, e2, e3, e4, e5, e6, e7, e8, e9, e10, e11, e12, e13, e14, e15, e16, e17, e18, e19, e20, e21, e22, e23, e24, e25, e26, e27, e28, e29, e30⟩
      have HT := Lib.hid hT
      clear hT
      have E0 := Lib.hid e0
      have E1 := Lib.hid e1
      have E2 := Lib.hid e2
      have E3 := Lib.hid e3
      have E4 := Lib.hid e4
      have E5 := Lib.hid e5
      have E6 := Lib.hid e6
      have E7 := Lib.hid e7
      have E8 := Lib.hid e8
      have E9 := Lib.hid e9
      have E10 := Lib.hid e10
      have E11 := Lib.hid e11
      have E12 := Lib.hid e12
      have E13 := Lib.hid e13
      have E14 := Lib.hid e14
      have E15 := Lib.hid e15
      have E16 := Lib.hid e16
      have E17 := Lib.hid e17
      have E18 := Lib.hid e18
      have E19 := Lib.hid e19
      have E20 := Lib.hid e20
      have E21 := Lib.hid e21
      have E22 := Lib.hid e22
      have E23 := Lib.hid e23
      have E24 := Lib.hid e24
      have E25 := Lib.hid e25
      have E26 := Lib.hid e26
      have E27 := Lib.hid e27
      have E28 := Lib.hid e28
      have E29 := Lib.hid e29
      have E30 := Lib.hid e30
      clear e0 e1 e2 e3 e4 e5 e6 e7 e8 e9 e10 e11 e12 e13 e14 e15 e16 e17 e18 e19 e20 e21 e22 e23 e24 e25 e26 e27 e28 e29 e30
      rcases i with _ | _ | _ | _ | _ | _ | _ | _ | _ | _ | _ | _ | _ | _ | _ | _ | _ | _ | _ | _ | _ | _ | _ | _ | _ | _ | _ | _ | _ | _ | _ | _ | i
      all_goals (simp at ho; try subst ho)
      all_goals (try simp [Region.binds] at haf)
      · go_wp2
        unfold SnI5
        exact ⟨(.func (.func 283) #[] #[.pointer (some ⟨gk, 0, none⟩)]), v48, v49, v50, v51, v52, v53, v54, v55, v56, v57, v58, v59, v60, v61, v62, v63, v64, v65, v66, v67, v68, v69, v70, v71, v72, v73, v74, v75, v76, v10, g, by simp only [Act.put, List.setIfInBounds_toArray, List.set_cons_zero, List.set_cons_succ], HT.out.mark 0 (by decide), fun _ => rfl, kq E1, kq E2, kq E3, kq E4, kq E5, kq E6, kq E7, kq E8, kq E9, kq E10, kq E11, kq E12, kq E13, kq E14, kq E15, kq E16, kq E17, kq E18, kq E19, kq E20, kq E21, kq E22, kq E23, kq E24, kq E25, kq E26, kq E27, kq E28, kq E29, kq E30⟩
      · go_wp2
        unfold SnI5
        exact ⟨v47, (.func (.func 283) #[] #[.pointer (some ⟨gk, 0, none⟩)]), v49, v50, v51, v52, v53, v54, v55, v56, v57, v58, v59, v60, v61, v62, v63, v64, v65, v66, v67, v68, v69, v70, v71, v72, v73, v74, v75, v76, v10, g, by simp only [Act.put, List.setIfInBounds_toArray, List.set_cons_zero, List.set_cons_succ], HT.out.mark 1 (by decide), kq E0, fun _ => rfl, kq E2, kq E3, kq E4, kq E5, kq E6, kq E7, kq E8, kq E9, kq E10, kq E11, kq E12, kq E13, kq E14, kq E15, kq E16, kq E17, kq E18, kq E19, kq E20, kq E21, kq E22, kq E23, kq E24, kq E25, kq E26, kq E27, kq E28, kq E29, kq E30⟩
      · go_wp2
        unfold SnI5
        exact ⟨v47, v48, (.func (.func 283) #[] #[.pointer (some ⟨gk, 0, none⟩)]), v50, v51, v52, v53, v54, v55, v56, v57, v58, v59, v60, v61, v62, v63, v64, v65, v66, v67, v68, v69, v70, v71, v72, v73, v74, v75, v76, v10, g, by simp only [Act.put, List.setIfInBounds_toArray, List.set_cons_zero, List.set_cons_succ], HT.out.mark 2 (by decide), kq E0, kq E1, fun _ => rfl, kq E3, kq E4, kq E5, kq E6, kq E7, kq E8, kq E9, kq E10, kq E11, kq E12, kq E13, kq E14, kq E15, kq E16, kq E17, kq E18, kq E19, kq E20, kq E21, kq E22, kq E23, kq E24, kq E25, kq E26, kq E27, kq E28, kq E29, kq E30⟩
      · go_wp2
        unfold SnI5
        exact ⟨v47, v48, v49, (.pointer (some ⟨w.heap.size + 1, 0, none⟩)), v51, v52, v53, v54, v55, v56, v57, v58, v59, v60, v61, v62, v63, v64, v65, v66, v67, v68, v69, v70, v71, v72, v73, v74, v75, v76, v10, g, by simp only [Act.put, List.setIfInBounds_toArray, List.set_cons_zero, List.set_cons_succ], HT.out.mark 3 (by decide), kq E0, kq E1, kq E2, fun _ => rfl, kq E4, kq E5, kq E6, kq E7, kq E8, kq E9, kq E10, kq E11, kq E12, kq E13, kq E14, kq E15, kq E16, kq E17, kq E18, kq E19, kq E20, kq E21, kq E22, kq E23, kq E24, kq E25, kq E26, kq E27, kq E28, kq E29, kq E30⟩
      · have z9 := PP.out.below HT.out.bl PP.out.lt
        have k0 : w'.cell? ⟨w.heap.size + 1, 0, none⟩ = some (.int .i64 q0) := z9.cell 0
        have k1 : w'.cell? ⟨w.heap.size + 1, 1, none⟩ = some (.int .i64 q1) := z9.cell 1
        clear z9
        obtain rfl := E3.out (by simp [haf])
        go_wp2
        unfold SnI5
        exact ⟨v47, v48, v49, (.pointer (some ⟨w.heap.size + 1, 0, none⟩)), (.agg #[.int .i64 q0, .int .i64 q1]), v52, v53, v54, v55, v56, v57, v58, v59, v60, v61, v62, v63, v64, v65, v66, v67, v68, v69, v70, v71, v72, v73, v74, v75, v76, v10, g, by simp only [Act.put, List.setIfInBounds_toArray, List.set_cons_zero, List.set_cons_succ], HT.out.mark 4 (by decide), kq E0, kq E1, kq E2, fun _ => rfl, fun _ => rfl, kq E5, kq E6, kq E7, kq E8, kq E9, kq E10, kq E11, kq E12, kq E13, kq E14, kq E15, kq E16, kq E17, kq E18, kq E19, kq E20, kq E21, kq E22, kq E23, kq E24, kq E25, kq E26, kq E27, kq E28, kq E29, kq E30⟩
      · obtain rfl := E4.out (by simp [haf])
        go_wp2_with fail
        (with_reducible refine (KCA.out _).mono ?_)
        rintro e w9 ⟨rfl, hb9⟩
        go_wp2
        unfold SnI5
        exact ⟨v47, v48, v49, v50, (.agg #[.int .i64 q0, .int .i64 q1]), (.tuple #[.agg #[.int .i64 ca0, .int .i64 ca1], .int .i64 0]), v53, v54, v55, v56, v57, v58, v59, v60, v61, v62, v63, v64, v65, v66, v67, v68, v69, v70, v71, v72, v73, v74, v75, v76, v10, g, by simp only [Act.put, List.setIfInBounds_toArray, List.set_cons_zero, List.set_cons_succ], (HT.out.call hb9).mark 5 (by decide), kq E0, kq E1, kq E2, kq E3, fun _ => rfl, fun _ => rfl, kq E6, kq E7, kq E8, kq E9, kq E10, kq E11, kq E12, kq E13, kq E14, kq E15, kq E16, kq E17, kq E18, kq E19, kq E20, kq E21, kq E22, kq E23, kq E24, kq E25, kq E26, kq E27, kq E28, kq E29, kq E30⟩
      · obtain rfl := E5.out (by simp [haf])
        go_wp2
        unfold SnI5
        exact ⟨v47, v48, v49, v50, v51, (.tuple #[.agg #[.int .i64 ca0, .int .i64 ca1], .int .i64 0]), (.agg #[.int .i64 ca0, .int .i64 ca1]), v54, v55, v56, v57, v58, v59, v60, v61, v62, v63, v64, v65, v66, v67, v68, v69, v70, v71, v72, v73, v74, v75, v76, v10, g, by simp only [Act.put, List.setIfInBounds_toArray, List.set_cons_zero, List.set_cons_succ], HT.out.mark 6 (by decide), kq E0, kq E1, kq E2, kq E3, kq E4, fun _ => rfl, fun _ => rfl, kq E7, kq E8, kq E9, kq E10, kq E11, kq E12, kq E13, kq E14, kq E15, kq E16, kq E17, kq E18, kq E19, kq E20, kq E21, kq E22, kq E23, kq E24, kq E25, kq E26, kq E27, kq E28, kq E29, kq E30⟩
      · obtain rfl := E5.out (by simp [haf])
        go_wp2
        unfold SnI5
        exact ⟨v47, v48, v49, v50, v51, (.tuple #[.agg #[.int .i64 ca0, .int .i64 ca1], .int .i64 0]), v53, (.int .i64 0), v55, v56, v57, v58, v59, v60, v61, v62, v63, v64, v65, v66, v67, v68, v69, v70, v71, v72, v73, v74, v75, v76, v10, g, by simp only [Act.put, List.setIfInBounds_toArray, List.set_cons_zero, List.set_cons_succ], HT.out.mark 7 (by decide), kq E0, kq E1, kq E2, kq E3, kq E4, fun _ => rfl, kq E6, fun _ => rfl, kq E8, kq E9, kq E10, kq E11, kq E12, kq E13, kq E14, kq E15, kq E16, kq E17, kq E18, kq E19, kq E20, kq E21, kq E22, kq E23, kq E24, kq E25, kq E26, kq E27, kq E28, kq E29, kq E30⟩
      · have K9 := Lib.hid (KK.out.below HT.out.bl KK.out.lt)
        obtain rfl := E2.out (by simp [haf])
        obtain rfl := E6.out (by simp [haf])
        obtain rfl := E7.out (by simp [haf])
        go_wp2_with fail
        (with_reducible refine (KKP.out _ _ _ _ K9.out).mono ?_)
        rintro e w9 ⟨rfl, hb9⟩
        go_wp2
        unfold SnI5
        exact ⟨v47, v48, (.func (.func 283) #[] #[.pointer (some ⟨gk, 0, none⟩)]), v50, v51, v52, (.agg #[.int .i64 ca0, .int .i64 ca1]), (.int .i64 0), (.agg #[.int .i64 ca0, .int .i64 ca1]), v56, v57, v58, v59, v60, v61, v62, v63, v64, v65, v66, v67, v68, v69, v70, v71, v72, v73, v74, v75, v76, v10, g, by simp only [Act.put, List.setIfInBounds_toArray, List.set_cons_zero, List.set_cons_succ], (HT.out.call hb9).mark 8 (by decide), kq E0, kq E1, fun _ => rfl, kq E3, kq E4, kq E5, fun _ => rfl, fun _ => rfl, fun _ => rfl, kq E9, kq E10, kq E11, kq E12, kq E13, kq E14, kq E15, kq E16, kq E17, kq E18, kq E19, kq E20, kq E21, kq E22, kq E23, kq E24, kq E25, kq E26, kq E27, kq E28, kq E29, kq E30⟩
      · go_wp2
        unfold SnI5
        exact ⟨v47, v48, v49, v50, v51, v52, v53, v54, v55, (.func (.func 283) #[] #[.pointer (some ⟨gk, 0, none⟩)]), v57, v58, v59, v60, v61, v62, v63, v64, v65, v66, v67, v68, v69, v70, v71, v72, v73, v74, v75, v76, v10, g, by simp only [Act.put, List.setIfInBounds_toArray, List.set_cons_zero, List.set_cons_succ], HT.out.mark 9 (by decide), kq E0, kq E1, kq E2, kq E3, kq E4, kq E5, kq E6, kq E7, kq E8, fun _ => rfl, kq E10, kq E11, kq E12, kq E13, kq E14, kq E15, kq E16, kq E17, kq E18, kq E19, kq E20, kq E21, kq E22, kq E23, kq E24, kq E25, kq E26, kq E27, kq E28, kq E29, kq E30⟩
      · go_wp2
        unfold SnI5
        exact ⟨v47, v48, v49, v50, v51, v52, v53, v54, v55, v56, (.pointer (some ⟨w.heap.size, 0, none⟩)), v58, v59, v60, v61, v62, v63, v64, v65, v66, v67, v68, v69, v70, v71, v72, v73, v74, v75, v76, v10, g, by simp only [Act.put, List.setIfInBounds_toArray, List.set_cons_zero, List.set_cons_succ], HT.out.mark 10 (by decide), kq E0, kq E1, kq E2, kq E3, kq E4, kq E5, kq E6, kq E7, kq E8, kq E9, fun _ => rfl, kq E11, kq E12, kq E13, kq E14, kq E15, kq E16, kq E17, kq E18, kq E19, kq E20, kq E21, kq E22, kq E23, kq E24, kq E25, kq E26, kq E27, kq E28, kq E29, kq E30⟩
      · have z9 := CC.out.below HT.out.bl CC.out.lt
        have k0 : w'.cell? ⟨w.heap.size, 0, none⟩ = some (.int .i64 a0) := z9.cell 0
        have k1 : w'.cell? ⟨w.heap.size, 1, none⟩ = some (.int .i64 a1) := z9.cell 1
        clear z9
        obtain rfl := E10.out (by simp [haf])
        go_wp2
        unfold SnI5
        exact ⟨v47, v48, v49, v50, v51, v52, v53, v54, v55, v56, (.pointer (some ⟨w.heap.size, 0, none⟩)), (.agg #[.int .i64 a0, .int .i64 a1]), v59, v60, v61, v62, v63, v64, v65, v66, v67, v68, v69, v70, v71, v72, v73, v74, v75, v76, v10, g, by simp only [Act.put, List.setIfInBounds_toArray, List.set_cons_zero, List.set_cons_succ], HT.out.mark 11 (by decide), kq E0, kq E1, kq E2, kq E3, kq E4, kq E5, kq E6, kq E7, kq E8, kq E9, fun _ => rfl, fun _ => rfl, kq E12, kq E13, kq E14, kq E15, kq E16, kq E17, kq E18, kq E19, kq E20, kq E21, kq E22, kq E23, kq E24, kq E25, kq E26, kq E27, kq E28, kq E29, kq E30⟩
      · obtain rfl := E11.out (by simp [haf])
        go_wp2_with fail
        (with_reducible refine (KCB.out _).mono ?_)
        rintro e w9 ⟨rfl, hb9⟩
        go_wp2
        unfold SnI5
        exact ⟨v47, v48, v49, v50, v51, v52, v53, v54, v55, v56, v57, (.agg #[.int .i64 a0, .int .i64 a1]), (.tuple #[.agg #[.int .i64 cb0, .int .i64 cb1], .int .i64 0]), v60, v61, v62, v63, v64, v65, v66, v67, v68, v69, v70, v71, v72, v73, v74, v75, v76, v10, g, by simp only [Act.put, List.setIfInBounds_toArray, List.set_cons_zero, List.set_cons_succ], (HT.out.call hb9).mark 12 (by decide), kq E0, kq E1, kq E2, kq E3, kq E4, kq E5, kq E6, kq E7, kq E8, kq E9, kq E10, fun _ => rfl, fun _ => rfl, kq E13, kq E14, kq E15, kq E16, kq E17, kq E18, kq E19, kq E20, kq E21, kq E22, kq E23, kq E24, kq E25, kq E26, kq E27, kq E28, kq E29, kq E30⟩
      · obtain rfl := E12.out (by simp [haf])
        go_wp2
        unfold SnI5
        exact ⟨v47, v48, v49, v50, v51, v52, v53, v54, v55, v56, v57, v58, (.tuple #[.agg #[.int .i64 cb0, .int .i64 cb1], .int .i64 0]), (.agg #[.int .i64 cb0, .int .i64 cb1]), v61, v62, v63, v64, v65, v66, v67, v68, v69, v70, v71, v72, v73, v74, v75, v76, v10, g, by simp only [Act.put, List.setIfInBounds_toArray, List.set_cons_zero, List.set_cons_succ], HT.out.mark 13 (by decide), kq E0, kq E1, kq E2, kq E3, kq E4, kq E5, kq E6, kq E7, kq E8, kq E9, kq E10, kq E11, fun _ => rfl, fun _ => rfl, kq E14, kq E15, kq E16, kq E17, kq E18, kq E19, kq E20, kq E21, kq E22, kq E23, kq E24, kq E25, kq E26, kq E27, kq E28, kq E29, kq E30⟩
      · obtain rfl := E12.out (by simp [haf])
        go_wp2
        unfold SnI5
        exact ⟨v47, v48, v49, v50, v51, v52, v53, v54, v55, v56, v57, v58, (.tuple #[.agg #[.int .i64 cb0, .int .i64 cb1], .int .i64 0]), v60, (.int .i64 0), v62, v63, v64, v65, v66, v67, v68, v69, v70, v71, v72, v73, v74, v75, v76, v10, g, by simp only [Act.put, List.setIfInBounds_toArray, List.set_cons_zero, List.set_cons_succ], HT.out.mark 14 (by decide), kq E0, kq E1, kq E2, kq E3, kq E4, kq E5, kq E6, kq E7, kq E8, kq E9, kq E10, kq E11, fun _ => rfl, kq E13, fun _ => rfl, kq E15, kq E16, kq E17, kq E18, kq E19, kq E20, kq E21, kq E22, kq E23, kq E24, kq E25, kq E26, kq E27, kq E28, kq E29, kq E30⟩
      · have K9 := Lib.hid (KK.out.below HT.out.bl KK.out.lt)
        obtain rfl := E9.out (by simp [haf])
        obtain rfl := E13.out (by simp [haf])
        obtain rfl := E14.out (by simp [haf])
        go_wp2_with fail
        (with_reducible refine (KKP.out _ _ _ _ K9.out).mono ?_)
        rintro e w9 ⟨rfl, hb9⟩
        go_wp2
        unfold SnI5
        exact ⟨v47, v48, v49, v50, v51, v52, v53, v54, v55, (.func (.func 283) #[] #[.pointer (some ⟨gk, 0, none⟩)]), v57, v58, v59, (.agg #[.int .i64 cb0, .int .i64 cb1]), (.int .i64 0), (.agg #[.int .i64 cb0, .int .i64 cb1]), v63, v64, v65, v66, v67, v68, v69, v70, v71, v72, v73, v74, v75, v76, v10, g, by simp only [Act.put, List.setIfInBounds_toArray, List.set_cons_zero, List.set_cons_succ], (HT.out.call hb9).mark 15 (by decide), kq E0, kq E1, kq E2, kq E3, kq E4, kq E5, kq E6, kq E7, kq E8, fun _ => rfl, kq E10, kq E11, kq E12, fun _ => rfl, fun _ => rfl, fun _ => rfl, kq E16, kq E17, kq E18, kq E19, kq E20, kq E21, kq E22, kq E23, kq E24, kq E25, kq E26, kq E27, kq E28, kq E29, kq E30⟩
      · obtain rfl := E8.out (by simp [haf])
        obtain rfl := E15.out (by simp [haf])
        go_wp2_with fail
        (with_reducible refine (KM2.out _).mono ?_)
        rintro e w9 ⟨rfl, hb9⟩
        go_wp2
        unfold SnI5
        exact ⟨v47, v48, v49, v50, v51, v52, v53, v54, (.agg #[.int .i64 ca0, .int .i64 ca1]), v56, v57, v58, v59, v60, v61, (.agg #[.int .i64 cb0, .int .i64 cb1]), (.tuple #[.agg #[.int .i64 mb0, .int .i64 mb1], .int .i64 0]), v64, v65, v66, v67, v68, v69, v70, v71, v72, v73, v74, v75, v76, v10, g, by simp only [Act.put, List.setIfInBounds_toArray, List.set_cons_zero, List.set_cons_succ], (HT.out.call hb9).mark 16 (by decide), kq E0, kq E1, kq E2, kq E3, kq E4, kq E5, kq E6, kq E7, fun _ => rfl, kq E9, kq E10, kq E11, kq E12, kq E13, kq E14, fun _ => rfl, fun _ => rfl, kq E17, kq E18, kq E19, kq E20, kq E21, kq E22, kq E23, kq E24, kq E25, kq E26, kq E27, kq E28, kq E29, kq E30⟩
      · obtain rfl := E16.out (by simp [haf])
        go_wp2
        unfold SnI5
        exact ⟨v47, v48, v49, v50, v51, v52, v53, v54, v55, v56, v57, v58, v59, v60, v61, v62, (.tuple #[.agg #[.int .i64 mb0, .int .i64 mb1], .int .i64 0]), (.agg #[.int .i64 mb0, .int .i64 mb1]), v65, v66, v67, v68, v69, v70, v71, v72, v73, v74, v75, v76, v10, g, by simp only [Act.put, List.setIfInBounds_toArray, List.set_cons_zero, List.set_cons_succ], HT.out.mark 17 (by decide), kq E0, kq E1, kq E2, kq E3, kq E4, kq E5, kq E6, kq E7, kq E8, kq E9, kq E10, kq E11, kq E12, kq E13, kq E14, kq E15, fun _ => rfl, fun _ => rfl, kq E18, kq E19, kq E20, kq E21, kq E22, kq E23, kq E24, kq E25, kq E26, kq E27, kq E28, kq E29, kq E30⟩
      · obtain rfl := E16.out (by simp [haf])
        go_wp2
        unfold SnI5
        exact ⟨v47, v48, v49, v50, v51, v52, v53, v54, v55, v56, v57, v58, v59, v60, v61, v62, (.tuple #[.agg #[.int .i64 mb0, .int .i64 mb1], .int .i64 0]), v64, (.int .i64 0), v66, v67, v68, v69, v70, v71, v72, v73, v74, v75, v76, v10, g, by simp only [Act.put, List.setIfInBounds_toArray, List.set_cons_zero, List.set_cons_succ], HT.out.mark 18 (by decide), kq E0, kq E1, kq E2, kq E3, kq E4, kq E5, kq E6, kq E7, kq E8, kq E9, kq E10, kq E11, kq E12, kq E13, kq E14, kq E15, fun _ => rfl, kq E17, fun _ => rfl, kq E19, kq E20, kq E21, kq E22, kq E23, kq E24, kq E25, kq E26, kq E27, kq E28, kq E29, kq E30⟩
      · have K9 := Lib.hid (KK.out.below HT.out.bl KK.out.lt)
        obtain rfl := E1.out (by simp [haf])
        obtain rfl := E17.out (by simp [haf])
        obtain rfl := E18.out (by simp [haf])
        go_wp2_with fail
        (with_reducible refine (KKP.out _ _ _ _ K9.out).mono ?_)
        rintro e w9 ⟨rfl, hb9⟩
        go_wp2
        unfold SnI5
        exact ⟨v47, (.func (.func 283) #[] #[.pointer (some ⟨gk, 0, none⟩)]), v49, v50, v51, v52, v53, v54, v55, v56, v57, v58, v59, v60, v61, v62, v63, (.agg #[.int .i64 mb0, .int .i64 mb1]), (.int .i64 0), (.agg #[.int .i64 mb0, .int .i64 mb1]), v67, v68, v69, v70, v71, v72, v73, v74, v75, v76, v10, g, by simp only [Act.put, List.setIfInBounds_toArray, List.set_cons_zero, List.set_cons_succ], (HT.out.call hb9).mark 19 (by decide), kq E0, fun _ => rfl, kq E2, kq E3, kq E4, kq E5, kq E6, kq E7, kq E8, kq E9, kq E10, kq E11, kq E12, kq E13, kq E14, kq E15, kq E16, fun _ => rfl, fun _ => rfl, fun _ => rfl, kq E20, kq E21, kq E22, kq E23, kq E24, kq E25, kq E26, kq E27, kq E28, kq E29, kq E30⟩
      · go_wp2
        unfold SnI5
        exact ⟨v47, v48, v49, v50, v51, v52, v53, v54, v55, v56, v57, v58, v59, v60, v61, v62, v63, v64, v65, v66, (.func (.func 283) #[] #[.pointer (some ⟨gk, 0, none⟩)]), v68, v69, v70, v71, v72, v73, v74, v75, v76, v10, g, by simp only [Act.put, List.setIfInBounds_toArray, List.set_cons_zero, List.set_cons_succ], HT.out.mark 20 (by decide), kq E0, kq E1, kq E2, kq E3, kq E4, kq E5, kq E6, kq E7, kq E8, kq E9, kq E10, kq E11, kq E12, kq E13, kq E14, kq E15, kq E16, kq E17, kq E18, kq E19, fun _ => rfl, kq E21, kq E22, kq E23, kq E24, kq E25, kq E26, kq E27, kq E28, kq E29, kq E30⟩
      · obtain ⟨-, k0, k1, -, -⟩ := AA.out.below HT.out.bl AA.out.lt
        go_wp2
        unfold SnI5
        exact ⟨v47, v48, v49, v50, v51, v52, v53, v54, v55, v56, v57, v58, v59, v60, v61, v62, v63, v64, v65, v66, v67, (.agg #[.int .i64 c0, .int .i64 c1]), v69, v70, v71, v72, v73, v74, v75, v76, v10, g, by simp only [Act.put, List.setIfInBounds_toArray, List.set_cons_zero, List.set_cons_succ], HT.out.mark 21 (by decide), kq E0, kq E1, kq E2, kq E3, kq E4, kq E5, kq E6, kq E7, kq E8, kq E9, kq E10, kq E11, kq E12, kq E13, kq E14, kq E15, kq E16, kq E17, kq E18, kq E19, kq E20, fun _ => rfl, kq E22, kq E23, kq E24, kq E25, kq E26, kq E27, kq E28, kq E29, kq E30⟩
      · obtain rfl := E21.out (by simp [haf])
        go_wp2_with fail
        (with_reducible refine (KCC.out _).mono ?_)
        rintro e w9 ⟨rfl, hb9⟩
        go_wp2
        unfold SnI5
        exact ⟨v47, v48, v49, v50, v51, v52, v53, v54, v55, v56, v57, v58, v59, v60, v61, v62, v63, v64, v65, v66, v67, (.agg #[.int .i64 c0, .int .i64 c1]), (.tuple #[.agg #[.int .i64 cc0, .int .i64 cc1], .int .i64 0]), v70, v71, v72, v73, v74, v75, v76, v10, g, by simp only [Act.put, List.setIfInBounds_toArray, List.set_cons_zero, List.set_cons_succ], (HT.out.call hb9).mark 22 (by decide), kq E0, kq E1, kq E2, kq E3, kq E4, kq E5, kq E6, kq E7, kq E8, kq E9, kq E10, kq E11, kq E12, kq E13, kq E14, kq E15, kq E16, kq E17, kq E18, kq E19, kq E20, fun _ => rfl, fun _ => rfl, kq E23, kq E24, kq E25, kq E26, kq E27, kq E28, kq E29, kq E30⟩
      · obtain rfl := E22.out (by simp [haf])
        go_wp2
        unfold SnI5
        exact ⟨v47, v48, v49, v50, v51, v52, v53, v54, v55, v56, v57, v58, v59, v60, v61, v62, v63, v64, v65, v66, v67, v68, (.tuple #[.agg #[.int .i64 cc0, .int .i64 cc1], .int .i64 0]), (.agg #[.int .i64 cc0, .int .i64 cc1]), v71, v72, v73, v74, v75, v76, v10, g, by simp only [Act.put, List.setIfInBounds_toArray, List.set_cons_zero, List.set_cons_succ], HT.out.mark 23 (by decide), kq E0, kq E1, kq E2, kq E3, kq E4, kq E5, kq E6, kq E7, kq E8, kq E9, kq E10, kq E11, kq E12, kq E13, kq E14, kq E15, kq E16, kq E17, kq E18, kq E19, kq E20, kq E21, fun _ => rfl, fun _ => rfl, kq E24, kq E25, kq E26, kq E27, kq E28, kq E29, kq E30⟩
      · obtain rfl := E22.out (by simp [haf])
        go_wp2
        unfold SnI5
        exact ⟨v47, v48, v49, v50, v51, v52, v53, v54, v55, v56, v57, v58, v59, v60, v61, v62, v63, v64, v65, v66, v67, v68, (.tuple #[.agg #[.int .i64 cc0, .int .i64 cc1], .int .i64 0]), v70, (.int .i64 0), v72, v73, v74, v75, v76, v10, g, by simp only [Act.put, List.setIfInBounds_toArray, List.set_cons_zero, List.set_cons_succ], HT.out.mark 24 (by decide), kq E0, kq E1, kq E2, kq E3, kq E4, kq E5, kq E6, kq E7, kq E8, kq E9, kq E10, kq E11, kq E12, kq E13, kq E14, kq E15, kq E16, kq E17, kq E18, kq E19, kq E20, kq E21, fun _ => rfl, kq E23, fun _ => rfl, kq E25, kq E26, kq E27, kq E28, kq E29, kq E30⟩
      · have K9 := Lib.hid (KK.out.below HT.out.bl KK.out.lt)
        obtain rfl := E20.out (by simp [haf])
        obtain rfl := E23.out (by simp [haf])
        obtain rfl := E24.out (by simp [haf])
        go_wp2_with fail
        (with_reducible refine (KKP.out _ _ _ _ K9.out).mono ?_)
        rintro e w9 ⟨rfl, hb9⟩
        go_wp2
        unfold SnI5
        exact ⟨v47, v48, v49, v50, v51, v52, v53, v54, v55, v56, v57, v58, v59, v60, v61, v62, v63, v64, v65, v66, (.func (.func 283) #[] #[.pointer (some ⟨gk, 0, none⟩)]), v68, v69, (.agg #[.int .i64 cc0, .int .i64 cc1]), (.int .i64 0), (.agg #[.int .i64 cc0, .int .i64 cc1]), v73, v74, v75, v76, v10, g, by simp only [Act.put, List.setIfInBounds_toArray, List.set_cons_zero, List.set_cons_succ], (HT.out.call hb9).mark 25 (by decide), kq E0, kq E1, kq E2, kq E3, kq E4, kq E5, kq E6, kq E7, kq E8, kq E9, kq E10, kq E11, kq E12, kq E13, kq E14, kq E15, kq E16, kq E17, kq E18, kq E19, fun _ => rfl, kq E21, kq E22, fun _ => rfl, fun _ => rfl, fun _ => rfl, kq E26, kq E27, kq E28, kq E29, kq E30⟩
      · obtain rfl := E19.out (by simp [haf])
        obtain rfl := E25.out (by simp [haf])
        go_wp2_with fail
        (with_reducible refine (KM3.out _).mono ?_)
        rintro e w9 ⟨rfl, hb9⟩
        go_wp2
        unfold SnI5
        exact ⟨v47, v48, v49, v50, v51, v52, v53, v54, v55, v56, v57, v58, v59, v60, v61, v62, v63, v64, v65, (.agg #[.int .i64 mb0, .int .i64 mb1]), v67, v68, v69, v70, v71, (.agg #[.int .i64 cc0, .int .i64 cc1]), (.tuple #[.agg #[.int .i64 mc0, .int .i64 mc1], .int .i64 0]), v74, v75, v76, v10, g, by simp only [Act.put, List.setIfInBounds_toArray, List.set_cons_zero, List.set_cons_succ], (HT.out.call hb9).mark 26 (by decide), kq E0, kq E1, kq E2, kq E3, kq E4, kq E5, kq E6, kq E7, kq E8, kq E9, kq E10, kq E11, kq E12, kq E13, kq E14, kq E15, kq E16, kq E17, kq E18, fun _ => rfl, kq E20, kq E21, kq E22, kq E23, kq E24, fun _ => rfl, fun _ => rfl, kq E27, kq E28, kq E29, kq E30⟩
      · obtain rfl := E26.out (by simp [haf])
        go_wp2
        unfold SnI5
        exact ⟨v47, v48, v49, v50, v51, v52, v53, v54, v55, v56, v57, v58, v59, v60, v61, v62, v63, v64, v65, v66, v67, v68, v69, v70, v71, v72, (.tuple #[.agg #[.int .i64 mc0, .int .i64 mc1], .int .i64 0]), (.agg #[.int .i64 mc0, .int .i64 mc1]), v75, v76, v10, g, by simp only [Act.put, List.setIfInBounds_toArray, List.set_cons_zero, List.set_cons_succ], HT.out.mark 27 (by decide), kq E0, kq E1, kq E2, kq E3, kq E4, kq E5, kq E6, kq E7, kq E8, kq E9, kq E10, kq E11, kq E12, kq E13, kq E14, kq E15, kq E16, kq E17, kq E18, kq E19, kq E20, kq E21, kq E22, kq E23, kq E24, kq E25, fun _ => rfl, fun _ => rfl, kq E28, kq E29, kq E30⟩
      · obtain rfl := E26.out (by simp [haf])
        go_wp2
        unfold SnI5
        exact ⟨v47, v48, v49, v50, v51, v52, v53, v54, v55, v56, v57, v58, v59, v60, v61, v62, v63, v64, v65, v66, v67, v68, v69, v70, v71, v72, (.tuple #[.agg #[.int .i64 mc0, .int .i64 mc1], .int .i64 0]), v74, (.int .i64 0), v76, v10, g, by simp only [Act.put, List.setIfInBounds_toArray, List.set_cons_zero, List.set_cons_succ], HT.out.mark 28 (by decide), kq E0, kq E1, kq E2, kq E3, kq E4, kq E5, kq E6, kq E7, kq E8, kq E9, kq E10, kq E11, kq E12, kq E13, kq E14, kq E15, kq E16, kq E17, kq E18, kq E19, kq E20, kq E21, kq E22, kq E23, kq E24, kq E25, fun _ => rfl, kq E27, fun _ => rfl, kq E29, kq E30⟩
      · have K9 := Lib.hid (KK.out.below HT.out.bl KK.out.lt)
        obtain rfl := E0.out (by simp [haf])
        obtain rfl := E27.out (by simp [haf])
        obtain rfl := E28.out (by simp [haf])
        go_wp2_with fail
        (with_reducible refine (KKP.out _ _ _ _ K9.out).mono ?_)
        rintro e w9 ⟨rfl, hb9⟩
        go_wp2
        unfold SnI5
        exact ⟨(.func (.func 283) #[] #[.pointer (some ⟨gk, 0, none⟩)]), v48, v49, v50, v51, v52, v53, v54, v55, v56, v57, v58, v59, v60, v61, v62, v63, v64, v65, v66, v67, v68, v69, v70, v71, v72, v73, (.agg #[.int .i64 mc0, .int .i64 mc1]), (.int .i64 0), (.agg #[.int .i64 mc0, .int .i64 mc1]), v10, g, by simp only [Act.put, List.setIfInBounds_toArray, List.set_cons_zero, List.set_cons_succ], (HT.out.call hb9).mark 29 (by decide), fun _ => rfl, kq E1, kq E2, kq E3, kq E4, kq E5, kq E6, kq E7, kq E8, kq E9, kq E10, kq E11, kq E12, kq E13, kq E14, kq E15, kq E16, kq E17, kq E18, kq E19, kq E20, kq E21, kq E22, kq E23, kq E24, kq E25, kq E26, fun _ => rfl, fun _ => rfl, fun _ => rfl, kq E30⟩
      · go_wp2
        unfold SnI5
        exact ⟨v47, v48, v49, v50, v51, v52, v53, v54, v55, v56, v57, v58, v59, v60, v61, v62, v63, v64, v65, v66, v67, v68, v69, v70, v71, v72, v73, v74, v75, v76, (.pointer (some ⟨w'.heap.size, 0, none⟩)), (fun j => if j = 0 then w'.heap.size else g j), by simp only [Act.put, List.setIfInBounds_toArray, List.set_cons_zero, List.set_cons_succ], HT.out.al 0 (by decide) (by decide) hL _, kq E0, kq E1, kq E2, kq E3, kq E4, kq E5, kq E6, kq E7, kq E8, kq E9, kq E10, kq E11, kq E12, kq E13, kq E14, kq E15, kq E16, kq E17, kq E18, kq E19, kq E20, kq E21, kq E22, kq E23, kq E24, kq E25, kq E26, kq E27, kq E28, kq E29, fun _ => rfl⟩
      · obtain rfl := E30.out (by simp [haf])
        obtain rfl := E29.out (by simp [haf])
        have hA : L 30 = true := by simp [haf]
        obtain ⟨zt, z0, z1, zf0, zf1⟩ := HT.out.z 0 (by decide) hA hL
        have HS := Lib.hid (HT.out.st 0 (by decide) (by decide) hA hL rfl)
        go_wp2
        unfold SnI5
        exact ⟨v47, v48, v49, v50, v51, v52, v53, v54, v55, v56, v57, v58, v59, v60, v61, v62, v63, v64, v65, v66, v67, v68, v69, v70, v71, v72, v73, v74, v75, (.agg #[.int .i64 mc0, .int .i64 mc1]), (.pointer (some ⟨g 0, 0, none⟩)), g, by simp only [Act.put, List.setIfInBounds_toArray, List.set_cons_zero, List.set_cons_succ], HS.out, kq E0, kq E1, kq E2, kq E3, kq E4, kq E5, kq E6, kq E7, kq E8, kq E9, kq E10, kq E11, kq E12, kq E13, kq E14, kq E15, kq E16, kq E17, kq E18, kq E19, kq E20, kq E21, kq E22, kq E23, kq E24, kq E25, kq E26, kq E27, kq E28, fun _ => rfl, fun _ => rfl⟩
    case fin =>
      rintro L a1' w5 hall ⟨v47, v48, v49, v50, v51, v52, v53, v54, v55, v56, v57, v58, v59, v60, v61, v62, v63, v64, v65, v66, v67, v68, v69, v70, v71, v72, v73, v74, v75, v76, v10, g, rfl, hT, e0, e1, e2, e3, e4, e5, e6, e7, e8, e9, e10, e11, e12, e13, e14, e15, e16, e17, e18, e19, e20, e21, e22, e23, e24, e25, e26, e27, e28, e29, e30⟩
      obtain rfl := e0 (hall 0 (by decide))
      obtain rfl := e1 (hall 1 (by decide))
      obtain rfl := e2 (hall 2 (by decide))
      obtain rfl := e3 (hall 3 (by decide))
      obtain rfl := e4 (hall 4 (by decide))
      obtain rfl := e5 (hall 5 (by decide))
      obtain rfl := e6 (hall 6 (by decide))
      obtain rfl := e7 (hall 7 (by decide))
      obtain rfl := e8 (hall 8 (by decide))
      obtain rfl := e9 (hall 9 (by decide))
      obtain rfl := e10 (hall 10 (by decide))
      obtain rfl := e11 (hall 11 (by decide))
      obtain rfl := e12 (hall 12 (by decide))
      obtain rfl := e13 (hall 13 (by decide))
      obtain rfl := e14 (hall 14 (by decide))
      obtain rfl := e15 (hall 15 (by decide))
      obtain rfl := e16 (hall 16 (by decide))
      obtain rfl := e17 (hall 17 (by decide))
      obtain rfl := e18 (hall 18 (by decide))
      obtain rfl := e19 (hall 19 (by decide))
      obtain rfl := e20 (hall 20 (by decide))
      obtain rfl := e21 (hall 21 (by decide))
      obtain rfl := e22 (hall 22 (by decide))
      obtain rfl := e23 (hall 23 (by decide))
      obtain rfl := e24 (hall 24 (by decide))
      obtain rfl := e25 (hall 25 (by decide))
      obtain rfl := e26 (hall 26 (by decide))
      obtain rfl := e27 (hall 27 (by decide))
      obtain rfl := e28 (hall 28 (by decide))
      obtain rfl := e29 (hall 29 (by decide))
      obtain rfl := e30 (hall 30 (by decide))
      have D10 : Hid (D2 w5 (g 0) mc0 mc1) := Lib.hid (hT.k 0 (by decide) (hall 31 (by decide)))
      have D95 := Lib.hid (D9.out.below hT.bl D9.out.lt)
      have RR5 := Lib.hid (RR4.out.below hT.bl RR4.out.lt)
      have KK5 := Lib.hid (KK.out.below hT.bl KK.out.lt)
      have B5 := Lib.hid (B4.out.trans (hT.bl.mono B4.out.size))
      clear hT hall CC PP RR4 KK AA B4 D9 KCA KCB KCC KM2 KM3
      generalize g 0 = g10 at *
      clear g
      obtain ⟨-, u0, u1, -, -⟩ := D95.out
      obtain ⟨-, u2, u3, -, -⟩ := D10.out
      go_wp2_with fail
      (with_reducible refine (KPL.out _).mono ?_)
      rintro e w6 ⟨rfl, hb6⟩
      have RR6 := Lib.hid (RR5.out.below hb6 RR5.out.lt)
      have KK6 := Lib.hid (KK5.out.below hb6 KK5.out.lt)
      have B6 := Lib.hid (B5.out.trans (hb6.mono B5.out.size))
      clear hb6 u0 u1 u2 u3 RR5 KK5 B5 D95 D10
      go_wp2_with fail
      (with_reducible refine (KKP.out _ _ _ _ KK6.out).mono ?_)
      rintro e w7 ⟨rfl, hb7⟩
      have RR7 := Lib.hid ((RR6.out.below hb7 RR6.out.lt).alloc (.cells #[.int .i64 s0, .int .i64 s1] 97))
      have KK7 := Lib.hid ((KK6.out.below hb7 KK6.out.lt).alloc (.cells #[.int .i64 s0, .int .i64 s1] 97))
      have DS7 := Lib.hid (D2.new w7 s0 s1 97)
      have b7 := B6.out.trans (hb7.mono B6.out.size)
      have B7 := Lib.hid (b7.alloc b7.size (.cells #[.int .i64 s0, .int .i64 s1] 97))
      clear hb7 b7 RR6 KK6 B6
      go_upto_region 7 with (fail)
      generalize w7.alloc (.cells #[.int .i64 s0, .int .i64 s1] 97) = w8 at *
      obtain ⟨-, u0, u1, -, -⟩ := DS7.out
      obtain ⟨-, z0, z1, zf0, zf1⟩ := RR7.out
      have kc : w8.cell? ⟨gk, 0, none⟩ = some (.int .i64 0) := KK7.out.cell 0
      have hne1 : ¬ gk = w.heap.size + 1 + 1 := by have := HGK.out; omega
      have hne2 : ¬ w.heap.size + 1 + 1 = gk := by have := HGK.out; omega
      go_region
      all_goals
        go_wp2
        refine bodyPost_ret (v := .tuple #[.agg #[.int .i64 s0, .int .i64 s1], .int .i64 0]) (by simp [results, Tryz.results254, go_sem, *]; done) rfl ⟨rfl, ?_⟩
        exact (bl_drew B7.out |>.setCell (by simp only []; omega) _).setCell (by simp only []; omega) _
end Go.Proofs.YtifdgdgfmjfbdaaGreat
