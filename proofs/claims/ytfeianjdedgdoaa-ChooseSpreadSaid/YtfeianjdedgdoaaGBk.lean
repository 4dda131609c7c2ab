/- The walk of circles.At at the example's circle. -/
import Derived.Test.YtfeianjdedgdoaaGBj
import Derived.Test.YtfeianjdedgdoaaGBh
import Derived.Test.YtfeianjdedgdoaaGBl
set_option linter.unusedVariables false
set_option linter.unusedSimpArgs false
namespace Go.Proofs.Ytfeianjdedgdoaa
open Go.RowKit
def AtI4 (W2 : World) (x0 x1 x2 x3 x4 x5 x6 x7 x8 x9 x10 x11 x12 x13 x14 x15 : Value) (v : Nat → Int × Int) (a : Act) (L : Nat → Bool) (a' : Act) (w' : World) : Prop :=
  ∃ (v28 v29 v30 v31 v32 v33 v34 v35 v36 v37 v38 v39 v40 v41 v42 v43 v7 v8 v9 v10 : Value) (g : Nat → Nat), a' = ((((((((((((((((((((a.put (some 28) v28).put (some 29) v29).put (some 30) v30).put (some 31) v31).put (some 32) v32).put (some 33) v33).put (some 34) v34).put (some 35) v35).put (some 36) v36).put (some 37) v37).put (some 38) v38).put (some 39) v39).put (some 40) v40).put (some 41) v41).put (some 42) v42).put (some 43) v43).put (some 7) v7).put (some 8) v8).put (some 9) v9).put (some 10) v10) ∧ MI W2 w' L 4 16 20 g v ∧
    (L 0 = true → v28 = x0) ∧ (L 1 = true → v29 = x1) ∧ (L 2 = true → v30 = x2) ∧ (L 3 = true → v31 = x3) ∧ (L 4 = true → v32 = x4) ∧ (L 5 = true → v33 = x5) ∧ (L 6 = true → v34 = x6) ∧ (L 7 = true → v35 = x7) ∧ (L 8 = true → v36 = x8) ∧ (L 9 = true → v37 = x9) ∧ (L 10 = true → v38 = x10) ∧ (L 11 = true → v39 = x11) ∧ (L 12 = true → v40 = x12) ∧ (L 13 = true → v41 = x13) ∧ (L 14 = true → v42 = x14) ∧ (L 15 = true → v43 = x15) ∧ (L 16 = true → v7 = .pointer (some ⟨g 0, 0, none⟩)) ∧ (L 17 = true → v8 = .pointer (some ⟨g 1, 0, none⟩)) ∧ (L 18 = true → v9 = .pointer (some ⟨g 2, 0, none⟩)) ∧ (L 19 = true → v10 = .pointer (some ⟨g 3, 0, none⟩))
theorem AtI4.start (W2 : World) (x0 x1 x2 x3 x4 x5 x6 x7 x8 x9 x10 x11 x12 x13 x14 x15 : Value) (v : Nat → Int × Int) (a : Act) : AtI4 W2 x0 x1 x2 x3 x4 x5 x6 x7 x8 x9 x10 x11 x12 x13 x14 x15 v a (fun _ => false) a W2.drew :=
  ⟨_, _, _, _, _, _, _, _, _, _, _, _, _, _, _, _, _, _, _, _, fun _ => 0, by rw [putQ_self a 28, putQ_self a 29, putQ_self a 30, putQ_self a 31, putQ_self a 32, putQ_self a 33, putQ_self a 34, putQ_self a 35, putQ_self a 36, putQ_self a 37, putQ_self a 38, putQ_self a 39, putQ_self a 40, putQ_self a 41, putQ_self a 42, putQ_self a 43, putQ_self a 7, putQ_self a 8, putQ_self a 9, putQ_self a 10], MI.start W2 4 16 20 _ v, fun h => (by cases h), fun h => (by cases h), fun h => (by cases h), fun h => (by cases h), fun h => (by cases h), fun h => (by cases h), fun h => (by cases h), fun h => (by cases h), fun h => (by cases h), fun h => (by cases h), fun h => (by cases h), fun h => (by cases h), fun h => (by cases h), fun h => (by cases h), fun h => (by cases h), fun h => (by cases h), fun h => (by cases h), fun h => (by cases h), fun h => (by cases h), fun h => (by cases h)⟩
def AtI5 (W2 : World) (x0 x1 x2 x3 x4 x5 : Value) (v : Nat → Int × Int) (a : Act) (L : Nat → Bool) (a' : Act) (w' : World) : Prop :=
  ∃ (v44 v45 v46 v47 v48 v49 v11 v12 : Value) (g : Nat → Nat), a' = ((((((((a.put (some 44) v44).put (some 45) v45).put (some 46) v46).put (some 47) v47).put (some 48) v48).put (some 49) v49).put (some 11) v11).put (some 12) v12) ∧ MI W2 w' L 2 6 8 g v ∧
    (L 0 = true → v44 = x0) ∧ (L 1 = true → v45 = x1) ∧ (L 2 = true → v46 = x2) ∧ (L 3 = true → v47 = x3) ∧ (L 4 = true → v48 = x4) ∧ (L 5 = true → v49 = x5) ∧ (L 6 = true → v11 = .pointer (some ⟨g 0, 0, none⟩)) ∧ (L 7 = true → v12 = .pointer (some ⟨g 1, 0, none⟩))
theorem AtI5.start (W2 : World) (x0 x1 x2 x3 x4 x5 : Value) (v : Nat → Int × Int) (a : Act) : AtI5 W2 x0 x1 x2 x3 x4 x5 v a (fun _ => false) a W2.drew :=
  ⟨_, _, _, _, _, _, _, _, fun _ => 0, by rw [putQ_self a 44, putQ_self a 45, putQ_self a 46, putQ_self a 47, putQ_self a 48, putQ_self a 49, putQ_self a 11, putQ_self a 12], MI.start W2 2 6 8 _ v, fun h => (by cases h), fun h => (by cases h), fun h => (by cases h), fun h => (by cases h), fun h => (by cases h), fun h => (by cases h), fun h => (by cases h), fun h => (by cases h)⟩
def AtI6 (W2 : World) (x0 x1 x2 x3 x4 x5 x6 x7 x8 x9 x10 x11 x12 x13 x14 x15 x16 x19 : Value) (v : Nat → Int × Int) (a : Act) (L : Nat → Bool) (a' : Act) (w' : World) : Prop :=
  ∃ (v51 v52 v53 v54 v55 v56 v57 v58 v59 v60 v61 v62 v63 v64 v50 v65 v66 v13 v14 : Value) (g : Nat → Nat), a' = (((((((((((((((((((a.put (some 51) v51).put (some 52) v52).put (some 53) v53).put (some 54) v54).put (some 55) v55).put (some 56) v56).put (some 57) v57).put (some 58) v58).put (some 59) v59).put (some 60) v60).put (some 61) v61).put (some 62) v62).put (some 63) v63).put (some 64) v64).put (some 50) v50).put (some 65) v65).put (some 66) v66).put (some 13) v13).put (some 14) v14) ∧ MI W2 w' L 1 17 18 g v ∧
    (L 0 = true → v51 = x0) ∧ (L 1 = true → v52 = x1) ∧ (L 2 = true → v53 = x2) ∧ (L 3 = true → v54 = x3) ∧ (L 4 = true → v55 = x4) ∧ (L 5 = true → v56 = x5) ∧ (L 6 = true → v57 = x6) ∧ (L 7 = true → v58 = x7) ∧ (L 8 = true → v59 = x8) ∧ (L 9 = true → v60 = x9) ∧ (L 10 = true → v61 = x10) ∧ (L 11 = true → v62 = x11) ∧ (L 12 = true → v63 = x12) ∧ (L 13 = true → v64 = x13) ∧ (L 14 = true → v50 = x14) ∧ (L 15 = true → v65 = x15) ∧ (L 16 = true → v66 = x16) ∧ (L 17 = true → v13 = .pointer (some ⟨g 0, 0, none⟩)) ∧ (L 19 = true → v14 = x19)
theorem AtI6.start (W2 : World) (x0 x1 x2 x3 x4 x5 x6 x7 x8 x9 x10 x11 x12 x13 x14 x15 x16 x19 : Value) (v : Nat → Int × Int) (a : Act) : AtI6 W2 x0 x1 x2 x3 x4 x5 x6 x7 x8 x9 x10 x11 x12 x13 x14 x15 x16 x19 v a (fun _ => false) a W2.drew :=
  ⟨_, _, _, _, _, _, _, _, _, _, _, _, _, _, _, _, _, _, _, fun _ => 0, by rw [putQ_self a 51, putQ_self a 52, putQ_self a 53, putQ_self a 54, putQ_self a 55, putQ_self a 56, putQ_self a 57, putQ_self a 58, putQ_self a 59, putQ_self a 60, putQ_self a 61, putQ_self a 62, putQ_self a 63, putQ_self a 64, putQ_self a 50, putQ_self a 65, putQ_self a 66, putQ_self a 13, putQ_self a 14], MI.start W2 1 17 18 _ v, fun h => (by cases h), fun h => (by cases h), fun h => (by cases h), fun h => (by cases h), fun h => (by cases h), fun h => (by cases h), fun h => (by cases h), fun h => (by cases h), fun h => (by cases h), fun h => (by cases h), fun h => (by cases h), fun h => (by cases h), fun h => (by cases h), fun h => (by cases h), fun h => (by cases h), fun h => (by cases h), fun h => (by cases h), fun h => (by cases h), fun h => (by cases h)⟩
def AtI8 (W2 : World) (x0 x1 x2 x3 x4 x5 x6 x7 x8 x9 x10 x11 x12 x13 x14 x15 x16 x20 x23 : Value) (a : Act) (L : Nat → Bool) (a' : Act) (w' : World) : Prop :=
  ∃ (v72 v73 v74 v75 v76 v77 v78 v79 v80 v81 v82 v83 v84 v85 v86 v87 v88 v89 v71 v90 v91 v15 v14 : Value) (g : Nat → Nat) (lo hi : Int), a' = (((((((((((((((((((((((a.put (some 72) v72).put (some 73) v73).put (some 74) v74).put (some 75) v75).put (some 76) v76).put (some 77) v77).put (some 78) v78).put (some 79) v79).put (some 80) v80).put (some 81) v81).put (some 82) v82).put (some 83) v83).put (some 84) v84).put (some 85) v85).put (some 86) v86).put (some 87) v87).put (some 88) v88).put (some 89) v89).put (some 71) v71).put (some 90) v90).put (some 91) v91).put (some 15) v15).put (some 14) v14) ∧ MI W2 w' L 1 21 22 g (fun _ => (lo, hi)) ∧ (L 17 = true → (0 ≤ lo ∧ lo < 5400000 ∧ lo ≤ hi ∧ hi ≤ lo + 27000001)) ∧ (L 22 = true → L 17 = true) ∧
    (L 0 = true → v72 = x0) ∧ (L 1 = true → v73 = x1) ∧ (L 2 = true → v74 = x2) ∧ (L 3 = true → v75 = x3) ∧ (L 4 = true → v76 = x4) ∧ (L 5 = true → v77 = x5) ∧ (L 6 = true → v78 = x6) ∧ (L 7 = true → v79 = x7) ∧ (L 8 = true → v80 = x8) ∧ (L 9 = true → v81 = x9) ∧ (L 10 = true → v82 = x10) ∧ (L 11 = true → v83 = x11) ∧ (L 12 = true → v84 = x12) ∧ (L 13 = true → v85 = x13) ∧ (L 14 = true → v86 = x14) ∧ (L 15 = true → v87 = x15) ∧ (L 16 = true → v88 = x16) ∧ (L 17 = true → v89 = .tuple #[.agg #[.int .i64 lo, .int .i64 hi], .int .i64 0]) ∧ (L 18 = true → L 17 = true ∧ v71 = .tuple #[.agg #[.int .i64 lo, .int .i64 hi], .int .i64 0]) ∧ (L 19 = true → L 17 = true ∧ v90 = .agg #[.int .i64 lo, .int .i64 hi]) ∧ (L 20 = true → v91 = x20) ∧ (L 21 = true → v15 = .pointer (some ⟨g 0, 0, none⟩)) ∧ (L 23 = true → v14 = x23)
theorem AtI8.start (W2 : World) (x0 x1 x2 x3 x4 x5 x6 x7 x8 x9 x10 x11 x12 x13 x14 x15 x16 x20 x23 : Value) (a : Act) : AtI8 W2 x0 x1 x2 x3 x4 x5 x6 x7 x8 x9 x10 x11 x12 x13 x14 x15 x16 x20 x23 a (fun _ => false) a W2.drew :=
  ⟨_, _, _, _, _, _, _, _, _, _, _, _, _, _, _, _, _, _, _, _, _, _, _, fun _ => 0, 0, 0, by rw [putQ_self a 72, putQ_self a 73, putQ_self a 74, putQ_self a 75, putQ_self a 76, putQ_self a 77, putQ_self a 78, putQ_self a 79, putQ_self a 80, putQ_self a 81, putQ_self a 82, putQ_self a 83, putQ_self a 84, putQ_self a 85, putQ_self a 86, putQ_self a 87, putQ_self a 88, putQ_self a 89, putQ_self a 71, putQ_self a 90, putQ_self a 91, putQ_self a 15, putQ_self a 14], MI.start W2 1 21 22 _ _, fun h => (by cases h), fun h => (by cases h), fun h => (by cases h), fun h => (by cases h), fun h => (by cases h), fun h => (by cases h), fun h => (by cases h), fun h => (by cases h), fun h => (by cases h), fun h => (by cases h), fun h => (by cases h), fun h => (by cases h), fun h => (by cases h), fun h => (by cases h), fun h => (by cases h), fun h => (by cases h), fun h => (by cases h), fun h => (by cases h), fun h => (by cases h), fun h => (by cases h), fun h => (by cases h), fun h => (by cases h), fun h => (by cases h), fun h => (by cases h), fun h => (by cases h)⟩
set_option maxHeartbeats 20000000 in
set_option maxRecDepth 100000 in
theorem At_num (s0 s1 c0 c1 p q : Int) (w : World)
    (KVC : ∀ W, Calls Try.prog 26 #[.agg #[.int .i64 7, .int .i64 7, .int .i64 0, .int .i64 0, .int .i64 0, .int .i64 0]] W fun e w' => e = .returned (.bool true) ∧ Below W.heap.size W w')
    (KS7 : ∀ (g : Nat) (W : World), Blk W g 62 #[.int .i64 0] → Calls Try.prog 27 #[.pointer (some ⟨g, 0, none⟩), .agg #[.int .i64 7, .int .i64 7]] W fun e w' => e = .returned (.agg #[.int .i64 s0, .int .i64 s1]) ∧ Below W.heap.size W w')
    (KC7 : ∀ (g : Nat) (W : World), Blk W g 62 #[.int .i64 0] → Calls Try.prog 28 #[.pointer (some ⟨g, 0, none⟩), .agg #[.int .i64 7, .int .i64 7]] W fun e w' => e = .returned (.agg #[.int .i64 c0, .int .i64 c1]) ∧ Below W.heap.size W w')
    (KS0 : ∀ (g : Nat) (W : World), Blk W g 62 #[.int .i64 0] → Calls Try.prog 27 #[.pointer (some ⟨g, 0, none⟩), .agg #[.int .i64 0, .int .i64 0]] W fun e w' => e = .returned (.agg #[.int .i64 0, .int .i64 0]) ∧ Below W.heap.size W w')
    (KC0 : ∀ (g : Nat) (W : World), Blk W g 62 #[.int .i64 0] → Calls Try.prog 28 #[.pointer (some ⟨g, 0, none⟩), .agg #[.int .i64 0, .int .i64 0]] W fun e w' => e = .returned (.agg #[.int .i64 1073741824, .int .i64 1073741824]) ∧ Below W.heap.size W w')
    (KMU : ∀ (g : Nat) (W : World), Blk W g 62 #[.int .i64 0] → Calls Try.prog 31 #[.pointer (some ⟨g, 0, none⟩), .agg #[.int .i64 s0, .int .i64 s1], .agg #[.int .i64 1073741824, .int .i64 1073741824]] W fun e w' => e = .returned (.agg #[.int .i64 s0, .int .i64 s1]) ∧ Below W.heap.size W w')
    (KMV : ∀ (g : Nat) (W : World), Blk W g 62 #[.int .i64 0] → Calls Try.prog 31 #[.pointer (some ⟨g, 0, none⟩), .agg #[.int .i64 c0, .int .i64 c1], .agg #[.int .i64 0, .int .i64 0]] W fun e w' => e = .returned (.agg #[.int .i64 0, .int .i64 0]) ∧ Below W.heap.size W w')
    (KMZ : ∀ (g : Nat) (W : World), Blk W g 62 #[.int .i64 0] → Calls Try.prog 31 #[.pointer (some ⟨g, 0, none⟩), .agg #[.int .i64 0, .int .i64 0], .agg #[.int .i64 1073741824, .int .i64 1073741824]] W fun e w' => e = .returned (.agg #[.int .i64 0, .int .i64 0]) ∧ Below W.heap.size W w')
    (KPL : ∀ (g : Nat) (W : World), Blk W g 62 #[.int .i64 0] → Calls Try.prog 30 #[.pointer (some ⟨g, 0, none⟩), .agg #[.int .i64 s0, .int .i64 s1], .agg #[.int .i64 0, .int .i64 0]] W fun e w' => e = .returned (.agg #[.int .i64 s0, .int .i64 s1]) ∧ Below W.heap.size W w')
    (KMY : ∀ (g : Nat) (W : World), Blk W g 62 #[.int .i64 0] → Calls Try.prog 31 #[.pointer (some ⟨g, 0, none⟩), .agg #[.int .i64 0, .int .i64 0], .agg #[.int .i64 0, .int .i64 0]] W fun e w' => e = .returned (.agg #[.int .i64 0, .int .i64 0]) ∧ Below W.heap.size W w')
    (KMX : ∀ (g : Nat) (W : World), Blk W g 62 #[.int .i64 0] → Calls Try.prog 31 #[.pointer (some ⟨g, 0, none⟩), .agg #[.int .i64 1073741824, .int .i64 1073741824], .agg #[.int .i64 c0, .int .i64 c1]] W fun e w' => e = .returned (.agg #[.int .i64 c0, .int .i64 c1]) ∧ Below W.heap.size W w')
    (KMW : ∀ (g : Nat) (W : World), Blk W g 62 #[.int .i64 0] → Calls Try.prog 31 #[.pointer (some ⟨g, 0, none⟩), .agg #[.int .i64 0, .int .i64 0], .agg #[.int .i64 s0, .int .i64 s1]] W fun e w' => e = .returned (.agg #[.int .i64 0, .int .i64 0]) ∧ Below W.heap.size W w')
    (KMI : ∀ (g : Nat) (W : World), Blk W g 62 #[.int .i64 0] → Calls Try.prog 34 #[.pointer (some ⟨g, 0, none⟩), .agg #[.int .i64 c0, .int .i64 c1], .agg #[.int .i64 0, .int .i64 0]] W fun e w' => e = .returned (.agg #[.int .i64 c0, .int .i64 c1]) ∧ Below W.heap.size W w')
    (KBE : ∀ (W : World), Calls Try.prog 33 #[.agg #[.int .i64 0, .int .i64 0], .agg #[.int .i64 c0, .int .i64 c1]] W fun e w' => BearR e ∧ Below W.heap.size W w')
    (KAS : ∀ (W : World), Calls Try.prog 29 #[.agg #[.int .i64 s0, .int .i64 s1]] W fun e w' => e = .returned (.tuple #[.agg #[.int .i64 p, .int .i64 q], .int .i64 0]) ∧ Below W.heap.size W w') :
    Calls Try.prog 19 #[.agg #[.int .i64 7, .int .i64 7, .int .i64 0, .int .i64 0, .int .i64 0, .int .i64 0], .agg #[.int .i64 0, .int .i64 0]] w fun e w' => (∃ a b : Int, e = .returned (.tuple #[.agg #[.int .i64 p, .int .i64 q, .int .i64 a, .int .i64 b], .int .i64 0])) ∧ Below w.heap.size w w' := by
  have KVC := Lib.hid KVC
  have KS7 := Lib.hid KS7
  have KC7 := Lib.hid KC7
  have KS0 := Lib.hid KS0
  have KC0 := Lib.hid KC0
  have KMU := Lib.hid KMU
  have KMV := Lib.hid KMV
  have KMZ := Lib.hid KMZ
  have KPL := Lib.hid KPL
  have KAS := Lib.hid KAS
  have KMY := Lib.hid KMY
  have KMX := Lib.hid KMX
  have KMW := Lib.hid KMW
  have KMI := Lib.hid KMI
  have KBE := Lib.hid KBE
  have KKA := Lib.hid (fun (g : Nat) (lo hi : Int) (W : World) (h : Blk W g 62 #[.int .i64 0]) => keptA_any g lo hi W h)
  have KVA := fun W => aVal_any 0 0 W
  rw [show avB 0 0 = true from avB_true.2 (by omega)] at KVA
  have KVA := Lib.hid KVA
  have C0 := Lib.hid (((Blk.new w 40 #[.int .i64 7, .int .i64 7, .int .i64 0, .int .i64 0, .int .i64 0, .int .i64 0]).alloc (.cells #[.int .i64 0, .int .i64 0] 26)).alloc (.cells #[.int .i64 0, .int .i64 0, .int .i64 0, .int .i64 0] 52))
  have aa := (Blk.new (w.alloc (.cells #[.int .i64 7, .int .i64 7, .int .i64 0, .int .i64 0, .int .i64 0, .int .i64 0] 40)) 26 #[.int .i64 0, .int .i64 0]).alloc (.cells #[.int .i64 0, .int .i64 0, .int .i64 0, .int .i64 0] 52)
  have zz := Blk.new ((w.alloc (.cells #[.int .i64 7, .int .i64 7, .int .i64 0, .int .i64 0, .int .i64 0, .int .i64 0] 40)).alloc (.cells #[.int .i64 0, .int .i64 0] 26)) 52 #[.int .i64 0, .int .i64 0, .int .i64 0, .int .i64 0]
  rw [World.size_alloc] at aa
  rw [World.size_alloc, World.size_alloc] at zz
  have A0 := Lib.hid aa
  have Z0 := Lib.hid zz
  have B0 := Lib.hid (((bl_alloc w (.cells #[.int .i64 7, .int .i64 7, .int .i64 0, .int .i64 0, .int .i64 0, .int .i64 0] 40)).alloc (by simp) (.cells #[.int .i64 0, .int .i64 0] 26)).alloc (by simp; omega) (.cells #[.int .i64 0, .int .i64 0, .int .i64 0, .int .i64 0] 52))
  clear aa zz
  go_enter Try.func19, Try.ntmps19
  go_wp2_with fail
  (with_reducible refine (KVC.out _).mono ?_)
  rintro e w1 ⟨rfl, hb1⟩
  have C1 := Lib.hid (C0.out.below hb1 C0.out.lt)
  have A1 := Lib.hid (A0.out.below hb1 A0.out.lt)
  have Z1 := Lib.hid (Z0.out.below hb1 Z0.out.lt)
  have B1 := Lib.hid (B0.out.trans (hb1.mono B0.out.size))
  clear hb1 C0 A0 Z0 B0 KVC
  have a0 : w1.cell? ⟨w.heap.size + 1, 0, none⟩ = some (.int .i64 0) := A1.out.cell 0
  have a1 : w1.cell? ⟨w.heap.size + 1, 1, none⟩ = some (.int .i64 0) := A1.out.cell 1
  go_wp2_with fail
  (with_reducible refine (KVA.out _).mono ?_)
  rintro e w2 ⟨rfl, hb2⟩
  clear a0 a1
  have C2 := Lib.hid ((C1.out.below hb2 C1.out.lt).alloc (.cells #[.int .i64 0] 62))
  have A2 := Lib.hid ((A1.out.below hb2 A1.out.lt).alloc (.cells #[.int .i64 0] 62))
  have Z2 := Lib.hid ((Z1.out.below hb2 Z1.out.lt).alloc (.cells #[.int .i64 0] 62))
  have B2 := Lib.hid ((B1.out.trans (hb2.mono B1.out.size)).alloc (by have := B1.out.size; have := hb2.size; omega) (.cells #[.int .i64 0] 62))
  have K2 := Lib.hid (Blk.new w2 62 #[.int .i64 0])
  have hgk : w.heap.size + 1 + 1 < w2.heap.size := by have := Z1.out.lt; have := hb2.size; omega
  clear hb2 C1 A1 Z1 B1 KVA
  go_upto_region 4 with (fail)
  obtain ⟨w3, hw3⟩ : ∃ w3, w2.alloc (.cells #[.int .i64 0] 62) = w3 := ⟨_, rfl⟩
  rw [hw3] at C2 A2 Z2 B2 K2 ⊢
  clear hw3
  generalize w2.heap.size = gk at *
  refine wp_region_inv3 (by kernel_rfl) (AtI4 w3 (.pointer (some ⟨gk, 0, none⟩)) (.pointer (some ⟨w.heap.size, 0, none⟩)) (.agg #[.int .i64 7, .int .i64 7]) (.agg #[.int .i64 s0, .int .i64 s1]) (.pointer (some ⟨gk, 0, none⟩)) (.pointer (some ⟨w.heap.size, 0, none⟩)) (.agg #[.int .i64 7, .int .i64 7]) (.agg #[.int .i64 c0, .int .i64 c1]) (.pointer (some ⟨gk, 0, none⟩)) (.pointer (some ⟨w.heap.size, 4, none⟩)) (.agg #[.int .i64 0, .int .i64 0]) (.agg #[.int .i64 0, .int .i64 0]) (.pointer (some ⟨gk, 0, none⟩)) (.pointer (some ⟨w.heap.size, 4, none⟩)) (.agg #[.int .i64 0, .int .i64 0]) (.agg #[.int .i64 1073741824, .int .i64 1073741824]) (fun i => [((s0 : Int), (s1 : Int)), (c0, c1), (0, 0), (1073741824, 1073741824)].getD i (0, 0))) (waits_bind (by kernel_rfl)) ?start ?step ?fin
  case start => exact AtI4.start w3 _ _ _ _ _ _ _ _ _ _ _ _ _ _ _ _ _ _
  case step =>
    rintro L i o a1' w' ho hL haf ⟨v28, v29, v30, v31, v32, v33, v34, v35, v36, v37, v38, v39, v40, v41, v42, v43, v7, v8, v9, v10, g, rfl, hT, e0, e1, e2, e3, e4, e5, e6, e7, e8, e9, e10, e11, e12, e13, e14, e15, e16, e17, e18, e19⟩
    have HT := Lib.hid hT
    clear hT
    have E0 := Lib.hid e0
    have E1 := Lib.hid e1
    have E2 := Lib.hid e2
    have E3 := Lib.hid e3
    have E4 := Lib.hid e4
    have E5 := Lib.hid e5
    have E6 := Lib.hid e6
    have E7 := Lib.hid e7
    have E8 := Lib.hid e8
    have E9 := Lib.hid e9
    have E10 := Lib.hid e10
    have E11 := Lib.hid e11
    have E12 := Lib.hid e12
    have E13 := Lib.hid e13
    have E14 := Lib.hid e14
    have E15 := Lib.hid e15
    have E16 := Lib.hid e16
    have E17 := Lib.hid e17
    have E18 := Lib.hid e18
    have E19 := Lib.hid e19
    clear e0 e1 e2 e3 e4 e5 e6 e7 e8 e9 e10 e11 e12 e13 e14 e15 e16 e17 e18 e19
    rcases i with _ | _ | _ | _ | _ | _ | _ | _ | _ | _ | _ | _ | _ | _ | _ | _ | _ | _ | _ | _ | _ | _ | _ | _ | i
    all_goals (simp at ho; try subst ho)
    all_goals (try simp [Region.binds] at haf)
    · go_wp2
      unfold AtI4
      exact ⟨(.pointer (some ⟨gk, 0, none⟩)), v29, v30, v31, v32, v33, v34, v35, v36, v37, v38, v39, v40, v41, v42, v43, v7, v8, v9, v10, g, by simp only [Act.put, List.setIfInBounds_toArray, List.set_cons_zero, List.set_cons_succ], HT.out.mark 0 (by decide), fun _ => rfl, fun h => E1.out (by simpa [mkd] using h), fun h => E2.out (by simpa [mkd] using h), fun h => E3.out (by simpa [mkd] using h), fun h => E4.out (by simpa [mkd] using h), fun h => E5.out (by simpa [mkd] using h), fun h => E6.out (by simpa [mkd] using h), fun h => E7.out (by simpa [mkd] using h), fun h => E8.out (by simpa [mkd] using h), fun h => E9.out (by simpa [mkd] using h), fun h => E10.out (by simpa [mkd] using h), fun h => E11.out (by simpa [mkd] using h), fun h => E12.out (by simpa [mkd] using h), fun h => E13.out (by simpa [mkd] using h), fun h => E14.out (by simpa [mkd] using h), fun h => E15.out (by simpa [mkd] using h), fun h => E16.out (by simpa [mkd] using h), fun h => E17.out (by simpa [mkd] using h), fun h => E18.out (by simpa [mkd] using h), fun h => E19.out (by simpa [mkd] using h)⟩
    · go_wp2
      unfold AtI4
      exact ⟨v28, (.pointer (some ⟨w.heap.size, 0, none⟩)), v30, v31, v32, v33, v34, v35, v36, v37, v38, v39, v40, v41, v42, v43, v7, v8, v9, v10, g, by simp only [Act.put, List.setIfInBounds_toArray, List.set_cons_zero, List.set_cons_succ], HT.out.mark 1 (by decide), fun h => E0.out (by simpa [mkd] using h), fun _ => rfl, fun h => E2.out (by simpa [mkd] using h), fun h => E3.out (by simpa [mkd] using h), fun h => E4.out (by simpa [mkd] using h), fun h => E5.out (by simpa [mkd] using h), fun h => E6.out (by simpa [mkd] using h), fun h => E7.out (by simpa [mkd] using h), fun h => E8.out (by simpa [mkd] using h), fun h => E9.out (by simpa [mkd] using h), fun h => E10.out (by simpa [mkd] using h), fun h => E11.out (by simpa [mkd] using h), fun h => E12.out (by simpa [mkd] using h), fun h => E13.out (by simpa [mkd] using h), fun h => E14.out (by simpa [mkd] using h), fun h => E15.out (by simpa [mkd] using h), fun h => E16.out (by simpa [mkd] using h), fun h => E17.out (by simpa [mkd] using h), fun h => E18.out (by simpa [mkd] using h), fun h => E19.out (by simpa [mkd] using h)⟩
    · have C9 := C2.out.below HT.out.bl C2.out.lt
      have k0 : w'.cell? ⟨w.heap.size, 0, none⟩ = some (.int .i64 7) := C9.cell 0
      have k1 : w'.cell? ⟨w.heap.size, 1, none⟩ = some (.int .i64 7) := C9.cell 1
      clear C9
      obtain rfl := E1.out (by simp [haf])
      go_wp2
      unfold AtI4
      exact ⟨v28, (.pointer (some ⟨w.heap.size, 0, none⟩)), (.agg #[.int .i64 7, .int .i64 7]), v31, v32, v33, v34, v35, v36, v37, v38, v39, v40, v41, v42, v43, v7, v8, v9, v10, g, by simp only [Act.put, List.setIfInBounds_toArray, List.set_cons_zero, List.set_cons_succ], HT.out.mark 2 (by decide), fun h => E0.out (by simpa [mkd] using h), fun _ => rfl, fun _ => rfl, fun h => E3.out (by simpa [mkd] using h), fun h => E4.out (by simpa [mkd] using h), fun h => E5.out (by simpa [mkd] using h), fun h => E6.out (by simpa [mkd] using h), fun h => E7.out (by simpa [mkd] using h), fun h => E8.out (by simpa [mkd] using h), fun h => E9.out (by simpa [mkd] using h), fun h => E10.out (by simpa [mkd] using h), fun h => E11.out (by simpa [mkd] using h), fun h => E12.out (by simpa [mkd] using h), fun h => E13.out (by simpa [mkd] using h), fun h => E14.out (by simpa [mkd] using h), fun h => E15.out (by simpa [mkd] using h), fun h => E16.out (by simpa [mkd] using h), fun h => E17.out (by simpa [mkd] using h), fun h => E18.out (by simpa [mkd] using h), fun h => E19.out (by simpa [mkd] using h)⟩
    · have K9 := Lib.hid (K2.out.below HT.out.bl K2.out.lt)
      obtain rfl := E0.out (by simp [haf])
      obtain rfl := E2.out (by simp [haf])
      go_wp2_with fail
      (with_reducible refine (KS7.out _ _ K9.out).mono ?_)
      rintro e w9 ⟨rfl, hb9⟩
      go_wp2
      unfold AtI4
      exact ⟨(.pointer (some ⟨gk, 0, none⟩)), v29, (.agg #[.int .i64 7, .int .i64 7]), (.agg #[.int .i64 s0, .int .i64 s1]), v32, v33, v34, v35, v36, v37, v38, v39, v40, v41, v42, v43, v7, v8, v9, v10, g, by simp only [Act.put, List.setIfInBounds_toArray, List.set_cons_zero, List.set_cons_succ], (HT.out.call hb9).mark 3 (by decide), fun _ => rfl, fun h => E1.out (by simpa [mkd] using h), fun _ => rfl, fun _ => rfl, fun h => E4.out (by simpa [mkd] using h), fun h => E5.out (by simpa [mkd] using h), fun h => E6.out (by simpa [mkd] using h), fun h => E7.out (by simpa [mkd] using h), fun h => E8.out (by simpa [mkd] using h), fun h => E9.out (by simpa [mkd] using h), fun h => E10.out (by simpa [mkd] using h), fun h => E11.out (by simpa [mkd] using h), fun h => E12.out (by simpa [mkd] using h), fun h => E13.out (by simpa [mkd] using h), fun h => E14.out (by simpa [mkd] using h), fun h => E15.out (by simpa [mkd] using h), fun h => E16.out (by simpa [mkd] using h), fun h => E17.out (by simpa [mkd] using h), fun h => E18.out (by simpa [mkd] using h), fun h => E19.out (by simpa [mkd] using h)⟩
    · go_wp2
      unfold AtI4
      exact ⟨v28, v29, v30, v31, (.pointer (some ⟨gk, 0, none⟩)), v33, v34, v35, v36, v37, v38, v39, v40, v41, v42, v43, v7, v8, v9, v10, g, by simp only [Act.put, List.setIfInBounds_toArray, List.set_cons_zero, List.set_cons_succ], HT.out.mark 4 (by decide), fun h => E0.out (by simpa [mkd] using h), fun h => E1.out (by simpa [mkd] using h), fun h => E2.out (by simpa [mkd] using h), fun h => E3.out (by simpa [mkd] using h), fun _ => rfl, fun h => E5.out (by simpa [mkd] using h), fun h => E6.out (by simpa [mkd] using h), fun h => E7.out (by simpa [mkd] using h), fun h => E8.out (by simpa [mkd] using h), fun h => E9.out (by simpa [mkd] using h), fun h => E10.out (by simpa [mkd] using h), fun h => E11.out (by simpa [mkd] using h), fun h => E12.out (by simpa [mkd] using h), fun h => E13.out (by simpa [mkd] using h), fun h => E14.out (by simpa [mkd] using h), fun h => E15.out (by simpa [mkd] using h), fun h => E16.out (by simpa [mkd] using h), fun h => E17.out (by simpa [mkd] using h), fun h => E18.out (by simpa [mkd] using h), fun h => E19.out (by simpa [mkd] using h)⟩
    · go_wp2
      unfold AtI4
      exact ⟨v28, v29, v30, v31, v32, (.pointer (some ⟨w.heap.size, 0, none⟩)), v34, v35, v36, v37, v38, v39, v40, v41, v42, v43, v7, v8, v9, v10, g, by simp only [Act.put, List.setIfInBounds_toArray, List.set_cons_zero, List.set_cons_succ], HT.out.mark 5 (by decide), fun h => E0.out (by simpa [mkd] using h), fun h => E1.out (by simpa [mkd] using h), fun h => E2.out (by simpa [mkd] using h), fun h => E3.out (by simpa [mkd] using h), fun h => E4.out (by simpa [mkd] using h), fun _ => rfl, fun h => E6.out (by simpa [mkd] using h), fun h => E7.out (by simpa [mkd] using h), fun h => E8.out (by simpa [mkd] using h), fun h => E9.out (by simpa [mkd] using h), fun h => E10.out (by simpa [mkd] using h), fun h => E11.out (by simpa [mkd] using h), fun h => E12.out (by simpa [mkd] using h), fun h => E13.out (by simpa [mkd] using h), fun h => E14.out (by simpa [mkd] using h), fun h => E15.out (by simpa [mkd] using h), fun h => E16.out (by simpa [mkd] using h), fun h => E17.out (by simpa [mkd] using h), fun h => E18.out (by simpa [mkd] using h), fun h => E19.out (by simpa [mkd] using h)⟩
    · have C9 := C2.out.below HT.out.bl C2.out.lt
      have k0 : w'.cell? ⟨w.heap.size, 0, none⟩ = some (.int .i64 7) := C9.cell 0
      have k1 : w'.cell? ⟨w.heap.size, 1, none⟩ = some (.int .i64 7) := C9.cell 1
      clear C9
      obtain rfl := E5.out (by simp [haf])
      go_wp2
      unfold AtI4
      exact ⟨v28, v29, v30, v31, v32, (.pointer (some ⟨w.heap.size, 0, none⟩)), (.agg #[.int .i64 7, .int .i64 7]), v35, v36, v37, v38, v39, v40, v41, v42, v43, v7, v8, v9, v10, g, by simp only [Act.put, List.setIfInBounds_toArray, List.set_cons_zero, List.set_cons_succ], HT.out.mark 6 (by decide), fun h => E0.out (by simpa [mkd] using h), fun h => E1.out (by simpa [mkd] using h), fun h => E2.out (by simpa [mkd] using h), fun h => E3.out (by simpa [mkd] using h), fun h => E4.out (by simpa [mkd] using h), fun _ => rfl, fun _ => rfl, fun h => E7.out (by simpa [mkd] using h), fun h => E8.out (by simpa [mkd] using h), fun h => E9.out (by simpa [mkd] using h), fun h => E10.out (by simpa [mkd] using h), fun h => E11.out (by simpa [mkd] using h), fun h => E12.out (by simpa [mkd] using h), fun h => E13.out (by simpa [mkd] using h), fun h => E14.out (by simpa [mkd] using h), fun h => E15.out (by simpa [mkd] using h), fun h => E16.out (by simpa [mkd] using h), fun h => E17.out (by simpa [mkd] using h), fun h => E18.out (by simpa [mkd] using h), fun h => E19.out (by simpa [mkd] using h)⟩
    · have K9 := Lib.hid (K2.out.below HT.out.bl K2.out.lt)
      obtain rfl := E4.out (by simp [haf])
      obtain rfl := E6.out (by simp [haf])
      go_wp2_with fail
      (with_reducible refine (KC7.out _ _ K9.out).mono ?_)
      rintro e w9 ⟨rfl, hb9⟩
      go_wp2
      unfold AtI4
      exact ⟨v28, v29, v30, v31, (.pointer (some ⟨gk, 0, none⟩)), v33, (.agg #[.int .i64 7, .int .i64 7]), (.agg #[.int .i64 c0, .int .i64 c1]), v36, v37, v38, v39, v40, v41, v42, v43, v7, v8, v9, v10, g, by simp only [Act.put, List.setIfInBounds_toArray, List.set_cons_zero, List.set_cons_succ], (HT.out.call hb9).mark 7 (by decide), fun h => E0.out (by simpa [mkd] using h), fun h => E1.out (by simpa [mkd] using h), fun h => E2.out (by simpa [mkd] using h), fun h => E3.out (by simpa [mkd] using h), fun _ => rfl, fun h => E5.out (by simpa [mkd] using h), fun _ => rfl, fun _ => rfl, fun h => E8.out (by simpa [mkd] using h), fun h => E9.out (by simpa [mkd] using h), fun h => E10.out (by simpa [mkd] using h), fun h => E11.out (by simpa [mkd] using h), fun h => E12.out (by simpa [mkd] using h), fun h => E13.out (by simpa [mkd] using h), fun h => E14.out (by simpa [mkd] using h), fun h => E15.out (by simpa [mkd] using h), fun h => E16.out (by simpa [mkd] using h), fun h => E17.out (by simpa [mkd] using h), fun h => E18.out (by simpa [mkd] using h), fun h => E19.out (by simpa [mkd] using h)⟩
    · go_wp2
      unfold AtI4
      exact ⟨v28, v29, v30, v31, v32, v33, v34, v35, (.pointer (some ⟨gk, 0, none⟩)), v37, v38, v39, v40, v41, v42, v43, v7, v8, v9, v10, g, by simp only [Act.put, List.setIfInBounds_toArray, List.set_cons_zero, List.set_cons_succ], HT.out.mark 8 (by decide), fun h => E0.out (by simpa [mkd] using h), fun h => E1.out (by simpa [mkd] using h), fun h => E2.out (by simpa [mkd] using h), fun h => E3.out (by simpa [mkd] using h), fun h => E4.out (by simpa [mkd] using h), fun h => E5.out (by simpa [mkd] using h), fun h => E6.out (by simpa [mkd] using h), fun h => E7.out (by simpa [mkd] using h), fun _ => rfl, fun h => E9.out (by simpa [mkd] using h), fun h => E10.out (by simpa [mkd] using h), fun h => E11.out (by simpa [mkd] using h), fun h => E12.out (by simpa [mkd] using h), fun h => E13.out (by simpa [mkd] using h), fun h => E14.out (by simpa [mkd] using h), fun h => E15.out (by simpa [mkd] using h), fun h => E16.out (by simpa [mkd] using h), fun h => E17.out (by simpa [mkd] using h), fun h => E18.out (by simpa [mkd] using h), fun h => E19.out (by simpa [mkd] using h)⟩
    · go_wp2
      unfold AtI4
      exact ⟨v28, v29, v30, v31, v32, v33, v34, v35, v36, (.pointer (some ⟨w.heap.size, 4, none⟩)), v38, v39, v40, v41, v42, v43, v7, v8, v9, v10, g, by simp only [Act.put, List.setIfInBounds_toArray, List.set_cons_zero, List.set_cons_succ], HT.out.mark 9 (by decide), fun h => E0.out (by simpa [mkd] using h), fun h => E1.out (by simpa [mkd] using h), fun h => E2.out (by simpa [mkd] using h), fun h => E3.out (by simpa [mkd] using h), fun h => E4.out (by simpa [mkd] using h), fun h => E5.out (by simpa [mkd] using h), fun h => E6.out (by simpa [mkd] using h), fun h => E7.out (by simpa [mkd] using h), fun h => E8.out (by simpa [mkd] using h), fun _ => rfl, fun h => E10.out (by simpa [mkd] using h), fun h => E11.out (by simpa [mkd] using h), fun h => E12.out (by simpa [mkd] using h), fun h => E13.out (by simpa [mkd] using h), fun h => E14.out (by simpa [mkd] using h), fun h => E15.out (by simpa [mkd] using h), fun h => E16.out (by simpa [mkd] using h), fun h => E17.out (by simpa [mkd] using h), fun h => E18.out (by simpa [mkd] using h), fun h => E19.out (by simpa [mkd] using h)⟩
    · have C9 := C2.out.below HT.out.bl C2.out.lt
      have k4 : w'.cell? ⟨w.heap.size, 4, none⟩ = some (.int .i64 0) := C9.cell 4
      have k5 : w'.cell? ⟨w.heap.size, 5, none⟩ = some (.int .i64 0) := C9.cell 5
      clear C9
      obtain rfl := E9.out (by simp [haf])
      go_wp2
      unfold AtI4
      exact ⟨v28, v29, v30, v31, v32, v33, v34, v35, v36, (.pointer (some ⟨w.heap.size, 4, none⟩)), (.agg #[.int .i64 0, .int .i64 0]), v39, v40, v41, v42, v43, v7, v8, v9, v10, g, by simp only [Act.put, List.setIfInBounds_toArray, List.set_cons_zero, List.set_cons_succ], HT.out.mark 10 (by decide), fun h => E0.out (by simpa [mkd] using h), fun h => E1.out (by simpa [mkd] using h), fun h => E2.out (by simpa [mkd] using h), fun h => E3.out (by simpa [mkd] using h), fun h => E4.out (by simpa [mkd] using h), fun h => E5.out (by simpa [mkd] using h), fun h => E6.out (by simpa [mkd] using h), fun h => E7.out (by simpa [mkd] using h), fun h => E8.out (by simpa [mkd] using h), fun _ => rfl, fun _ => rfl, fun h => E11.out (by simpa [mkd] using h), fun h => E12.out (by simpa [mkd] using h), fun h => E13.out (by simpa [mkd] using h), fun h => E14.out (by simpa [mkd] using h), fun h => E15.out (by simpa [mkd] using h), fun h => E16.out (by simpa [mkd] using h), fun h => E17.out (by simpa [mkd] using h), fun h => E18.out (by simpa [mkd] using h), fun h => E19.out (by simpa [mkd] using h)⟩
    · have K9 := Lib.hid (K2.out.below HT.out.bl K2.out.lt)
      obtain rfl := E8.out (by simp [haf])
      obtain rfl := E10.out (by simp [haf])
      go_wp2_with fail
      (with_reducible refine (KS0.out _ _ K9.out).mono ?_)
      rintro e w9 ⟨rfl, hb9⟩
      go_wp2
      unfold AtI4
      exact ⟨v28, v29, v30, v31, v32, v33, v34, v35, (.pointer (some ⟨gk, 0, none⟩)), v37, (.agg #[.int .i64 0, .int .i64 0]), (.agg #[.int .i64 0, .int .i64 0]), v40, v41, v42, v43, v7, v8, v9, v10, g, by simp only [Act.put, List.setIfInBounds_toArray, List.set_cons_zero, List.set_cons_succ], (HT.out.call hb9).mark 11 (by decide), fun h => E0.out (by simpa [mkd] using h), fun h => E1.out (by simpa [mkd] using h), fun h => E2.out (by simpa [mkd] using h), fun h => E3.out (by simpa [mkd] using h), fun h => E4.out (by simpa [mkd] using h), fun h => E5.out (by simpa [mkd] using h), fun h => E6.out (by simpa [mkd] using h), fun h => E7.out (by simpa [mkd] using h), fun _ => rfl, fun h => E9.out (by simpa [mkd] using h), fun _ => rfl, fun _ => rfl, fun h => E12.out (by simpa [mkd] using h), fun h => E13.out (by simpa [mkd] using h), fun h => E14.out (by simpa [mkd] using h), fun h => E15.out (by simpa [mkd] using h), fun h => E16.out (by simpa [mkd] using h), fun h => E17.out (by simpa [mkd] using h), fun h => E18.out (by simpa [mkd] using h), fun h => E19.out (by simpa [mkd] using h)⟩
    · go_wp2
      unfold AtI4
      exact ⟨v28, v29, v30, v31, v32, v33, v34, v35, v36, v37, v38, v39, (.pointer (some ⟨gk, 0, none⟩)), v41, v42, v43, v7, v8, v9, v10, g, by simp only [Act.put, List.setIfInBounds_toArray, List.set_cons_zero, List.set_cons_succ], HT.out.mark 12 (by decide), fun h => E0.out (by simpa [mkd] using h), fun h => E1.out (by simpa [mkd] using h), fun h => E2.out (by simpa [mkd] using h), fun h => E3.out (by simpa [mkd] using h), fun h => E4.out (by simpa [mkd] using h), fun h => E5.out (by simpa [mkd] using h), fun h => E6.out (by simpa [mkd] using h), fun h => E7.out (by simpa [mkd] using h), fun h => E8.out (by simpa [mkd] using h), fun h => E9.out (by simpa [mkd] using h), fun h => E10.out (by simpa [mkd] using h), fun h => E11.out (by simpa [mkd] using h), fun _ => rfl, fun h => E13.out (by simpa [mkd] using h), fun h => E14.out (by simpa [mkd] using h), fun h => E15.out (by simpa [mkd] using h), fun h => E16.out (by simpa [mkd] using h), fun h => E17.out (by simpa [mkd] using h), fun h => E18.out (by simpa [mkd] using h), fun h => E19.out (by simpa [mkd] using h)⟩
    · go_wp2
      unfold AtI4
      exact ⟨v28, v29, v30, v31, v32, v33, v34, v35, v36, v37, v38, v39, v40, (.pointer (some ⟨w.heap.size, 4, none⟩)), v42, v43, v7, v8, v9, v10, g, by simp only [Act.put, List.setIfInBounds_toArray, List.set_cons_zero, List.set_cons_succ], HT.out.mark 13 (by decide), fun h => E0.out (by simpa [mkd] using h), fun h => E1.out (by simpa [mkd] using h), fun h => E2.out (by simpa [mkd] using h), fun h => E3.out (by simpa [mkd] using h), fun h => E4.out (by simpa [mkd] using h), fun h => E5.out (by simpa [mkd] using h), fun h => E6.out (by simpa [mkd] using h), fun h => E7.out (by simpa [mkd] using h), fun h => E8.out (by simpa [mkd] using h), fun h => E9.out (by simpa [mkd] using h), fun h => E10.out (by simpa [mkd] using h), fun h => E11.out (by simpa [mkd] using h), fun h => E12.out (by simpa [mkd] using h), fun _ => rfl, fun h => E14.out (by simpa [mkd] using h), fun h => E15.out (by simpa [mkd] using h), fun h => E16.out (by simpa [mkd] using h), fun h => E17.out (by simpa [mkd] using h), fun h => E18.out (by simpa [mkd] using h), fun h => E19.out (by simpa [mkd] using h)⟩
    · have C9 := C2.out.below HT.out.bl C2.out.lt
      have k4 : w'.cell? ⟨w.heap.size, 4, none⟩ = some (.int .i64 0) := C9.cell 4
      have k5 : w'.cell? ⟨w.heap.size, 5, none⟩ = some (.int .i64 0) := C9.cell 5
      clear C9
      obtain rfl := E13.out (by simp [haf])
      go_wp2
      unfold AtI4
      exact ⟨v28, v29, v30, v31, v32, v33, v34, v35, v36, v37, v38, v39, v40, (.pointer (some ⟨w.heap.size, 4, none⟩)), (.agg #[.int .i64 0, .int .i64 0]), v43, v7, v8, v9, v10, g, by simp only [Act.put, List.setIfInBounds_toArray, List.set_cons_zero, List.set_cons_succ], HT.out.mark 14 (by decide), fun h => E0.out (by simpa [mkd] using h), fun h => E1.out (by simpa [mkd] using h), fun h => E2.out (by simpa [mkd] using h), fun h => E3.out (by simpa [mkd] using h), fun h => E4.out (by simpa [mkd] using h), fun h => E5.out (by simpa [mkd] using h), fun h => E6.out (by simpa [mkd] using h), fun h => E7.out (by simpa [mkd] using h), fun h => E8.out (by simpa [mkd] using h), fun h => E9.out (by simpa [mkd] using h), fun h => E10.out (by simpa [mkd] using h), fun h => E11.out (by simpa [mkd] using h), fun h => E12.out (by simpa [mkd] using h), fun _ => rfl, fun _ => rfl, fun h => E15.out (by simpa [mkd] using h), fun h => E16.out (by simpa [mkd] using h), fun h => E17.out (by simpa [mkd] using h), fun h => E18.out (by simpa [mkd] using h), fun h => E19.out (by simpa [mkd] using h)⟩
    · have K9 := Lib.hid (K2.out.below HT.out.bl K2.out.lt)
      obtain rfl := E12.out (by simp [haf])
      obtain rfl := E14.out (by simp [haf])
      go_wp2_with fail
      (with_reducible refine (KC0.out _ _ K9.out).mono ?_)
      rintro e w9 ⟨rfl, hb9⟩
      go_wp2
      unfold AtI4
      exact ⟨v28, v29, v30, v31, v32, v33, v34, v35, v36, v37, v38, v39, (.pointer (some ⟨gk, 0, none⟩)), v41, (.agg #[.int .i64 0, .int .i64 0]), (.agg #[.int .i64 1073741824, .int .i64 1073741824]), v7, v8, v9, v10, g, by simp only [Act.put, List.setIfInBounds_toArray, List.set_cons_zero, List.set_cons_succ], (HT.out.call hb9).mark 15 (by decide), fun h => E0.out (by simpa [mkd] using h), fun h => E1.out (by simpa [mkd] using h), fun h => E2.out (by simpa [mkd] using h), fun h => E3.out (by simpa [mkd] using h), fun h => E4.out (by simpa [mkd] using h), fun h => E5.out (by simpa [mkd] using h), fun h => E6.out (by simpa [mkd] using h), fun h => E7.out (by simpa [mkd] using h), fun h => E8.out (by simpa [mkd] using h), fun h => E9.out (by simpa [mkd] using h), fun h => E10.out (by simpa [mkd] using h), fun h => E11.out (by simpa [mkd] using h), fun _ => rfl, fun h => E13.out (by simpa [mkd] using h), fun _ => rfl, fun _ => rfl, fun h => E16.out (by simpa [mkd] using h), fun h => E17.out (by simpa [mkd] using h), fun h => E18.out (by simpa [mkd] using h), fun h => E19.out (by simpa [mkd] using h)⟩
    · go_wp2
      unfold AtI4
      exact ⟨v28, v29, v30, v31, v32, v33, v34, v35, v36, v37, v38, v39, v40, v41, v42, v43, (.pointer (some ⟨w'.heap.size, 0, none⟩)), v8, v9, v10, (fun j => if j = 0 then w'.heap.size else g j), by simp only [Act.put, List.setIfInBounds_toArray, List.set_cons_zero, List.set_cons_succ], HT.out.al 0 (by decide) (by decide) hL _, fun h => E0.out (by simpa [mkd] using h), fun h => E1.out (by simpa [mkd] using h), fun h => E2.out (by simpa [mkd] using h), fun h => E3.out (by simpa [mkd] using h), fun h => E4.out (by simpa [mkd] using h), fun h => E5.out (by simpa [mkd] using h), fun h => E6.out (by simpa [mkd] using h), fun h => E7.out (by simpa [mkd] using h), fun h => E8.out (by simpa [mkd] using h), fun h => E9.out (by simpa [mkd] using h), fun h => E10.out (by simpa [mkd] using h), fun h => E11.out (by simpa [mkd] using h), fun h => E12.out (by simpa [mkd] using h), fun h => E13.out (by simpa [mkd] using h), fun h => E14.out (by simpa [mkd] using h), fun h => E15.out (by simpa [mkd] using h), fun _ => rfl, fun h => E17.out (by simpa [mkd] using h), fun h => E18.out (by simpa [mkd] using h), fun h => E19.out (by simpa [mkd] using h)⟩
    · go_wp2
      unfold AtI4
      exact ⟨v28, v29, v30, v31, v32, v33, v34, v35, v36, v37, v38, v39, v40, v41, v42, v43, v7, (.pointer (some ⟨w'.heap.size, 0, none⟩)), v9, v10, (fun j => if j = 1 then w'.heap.size else g j), by simp only [Act.put, List.setIfInBounds_toArray, List.set_cons_zero, List.set_cons_succ], HT.out.al 1 (by decide) (by decide) hL _, fun h => E0.out (by simpa [mkd] using h), fun h => E1.out (by simpa [mkd] using h), fun h => E2.out (by simpa [mkd] using h), fun h => E3.out (by simpa [mkd] using h), fun h => E4.out (by simpa [mkd] using h), fun h => E5.out (by simpa [mkd] using h), fun h => E6.out (by simpa [mkd] using h), fun h => E7.out (by simpa [mkd] using h), fun h => E8.out (by simpa [mkd] using h), fun h => E9.out (by simpa [mkd] using h), fun h => E10.out (by simpa [mkd] using h), fun h => E11.out (by simpa [mkd] using h), fun h => E12.out (by simpa [mkd] using h), fun h => E13.out (by simpa [mkd] using h), fun h => E14.out (by simpa [mkd] using h), fun h => E15.out (by simpa [mkd] using h), fun h => E16.out (by simpa [mkd] using h), fun _ => rfl, fun h => E18.out (by simpa [mkd] using h), fun h => E19.out (by simpa [mkd] using h)⟩
    · go_wp2
      unfold AtI4
      exact ⟨v28, v29, v30, v31, v32, v33, v34, v35, v36, v37, v38, v39, v40, v41, v42, v43, v7, v8, (.pointer (some ⟨w'.heap.size, 0, none⟩)), v10, (fun j => if j = 2 then w'.heap.size else g j), by simp only [Act.put, List.setIfInBounds_toArray, List.set_cons_zero, List.set_cons_succ], HT.out.al 2 (by decide) (by decide) hL _, fun h => E0.out (by simpa [mkd] using h), fun h => E1.out (by simpa [mkd] using h), fun h => E2.out (by simpa [mkd] using h), fun h => E3.out (by simpa [mkd] using h), fun h => E4.out (by simpa [mkd] using h), fun h => E5.out (by simpa [mkd] using h), fun h => E6.out (by simpa [mkd] using h), fun h => E7.out (by simpa [mkd] using h), fun h => E8.out (by simpa [mkd] using h), fun h => E9.out (by simpa [mkd] using h), fun h => E10.out (by simpa [mkd] using h), fun h => E11.out (by simpa [mkd] using h), fun h => E12.out (by simpa [mkd] using h), fun h => E13.out (by simpa [mkd] using h), fun h => E14.out (by simpa [mkd] using h), fun h => E15.out (by simpa [mkd] using h), fun h => E16.out (by simpa [mkd] using h), fun h => E17.out (by simpa [mkd] using h), fun _ => rfl, fun h => E19.out (by simpa [mkd] using h)⟩
    · go_wp2
      unfold AtI4
      exact ⟨v28, v29, v30, v31, v32, v33, v34, v35, v36, v37, v38, v39, v40, v41, v42, v43, v7, v8, v9, (.pointer (some ⟨w'.heap.size, 0, none⟩)), (fun j => if j = 3 then w'.heap.size else g j), by simp only [Act.put, List.setIfInBounds_toArray, List.set_cons_zero, List.set_cons_succ], HT.out.al 3 (by decide) (by decide) hL _, fun h => E0.out (by simpa [mkd] using h), fun h => E1.out (by simpa [mkd] using h), fun h => E2.out (by simpa [mkd] using h), fun h => E3.out (by simpa [mkd] using h), fun h => E4.out (by simpa [mkd] using h), fun h => E5.out (by simpa [mkd] using h), fun h => E6.out (by simpa [mkd] using h), fun h => E7.out (by simpa [mkd] using h), fun h => E8.out (by simpa [mkd] using h), fun h => E9.out (by simpa [mkd] using h), fun h => E10.out (by simpa [mkd] using h), fun h => E11.out (by simpa [mkd] using h), fun h => E12.out (by simpa [mkd] using h), fun h => E13.out (by simpa [mkd] using h), fun h => E14.out (by simpa [mkd] using h), fun h => E15.out (by simpa [mkd] using h), fun h => E16.out (by simpa [mkd] using h), fun h => E17.out (by simpa [mkd] using h), fun h => E18.out (by simpa [mkd] using h), fun _ => rfl⟩
    · obtain rfl := E16.out (by simp [haf])
      obtain rfl := E3.out (by simp [haf])
      have hA : L 16 = true := by simp [haf]
      obtain ⟨zt, z0, z1, zf0, zf1⟩ := HT.out.z 0 (by decide) hA hL
      have HS := Lib.hid (HT.out.st 0 (by decide) (by decide) hA hL rfl)
      go_wp2
      unfold AtI4
      exact ⟨v28, v29, v30, (.agg #[.int .i64 s0, .int .i64 s1]), v32, v33, v34, v35, v36, v37, v38, v39, v40, v41, v42, v43, (.pointer (some ⟨g 0, 0, none⟩)), v8, v9, v10, g, by simp only [Act.put, List.setIfInBounds_toArray, List.set_cons_zero, List.set_cons_succ], HS.out, fun h => E0.out (by simpa [mkd] using h), fun h => E1.out (by simpa [mkd] using h), fun h => E2.out (by simpa [mkd] using h), fun _ => rfl, fun h => E4.out (by simpa [mkd] using h), fun h => E5.out (by simpa [mkd] using h), fun h => E6.out (by simpa [mkd] using h), fun h => E7.out (by simpa [mkd] using h), fun h => E8.out (by simpa [mkd] using h), fun h => E9.out (by simpa [mkd] using h), fun h => E10.out (by simpa [mkd] using h), fun h => E11.out (by simpa [mkd] using h), fun h => E12.out (by simpa [mkd] using h), fun h => E13.out (by simpa [mkd] using h), fun h => E14.out (by simpa [mkd] using h), fun h => E15.out (by simpa [mkd] using h), fun _ => rfl, fun h => E17.out (by simpa [mkd] using h), fun h => E18.out (by simpa [mkd] using h), fun h => E19.out (by simpa [mkd] using h)⟩
    · obtain rfl := E17.out (by simp [haf])
      obtain rfl := E7.out (by simp [haf])
      have hA : L 17 = true := by simp [haf]
      obtain ⟨zt, z0, z1, zf0, zf1⟩ := HT.out.z 1 (by decide) hA hL
      have HS := Lib.hid (HT.out.st 1 (by decide) (by decide) hA hL rfl)
      go_wp2
      unfold AtI4
      exact ⟨v28, v29, v30, v31, v32, v33, v34, (.agg #[.int .i64 c0, .int .i64 c1]), v36, v37, v38, v39, v40, v41, v42, v43, v7, (.pointer (some ⟨g 1, 0, none⟩)), v9, v10, g, by simp only [Act.put, List.setIfInBounds_toArray, List.set_cons_zero, List.set_cons_succ], HS.out, fun h => E0.out (by simpa [mkd] using h), fun h => E1.out (by simpa [mkd] using h), fun h => E2.out (by simpa [mkd] using h), fun h => E3.out (by simpa [mkd] using h), fun h => E4.out (by simpa [mkd] using h), fun h => E5.out (by simpa [mkd] using h), fun h => E6.out (by simpa [mkd] using h), fun _ => rfl, fun h => E8.out (by simpa [mkd] using h), fun h => E9.out (by simpa [mkd] using h), fun h => E10.out (by simpa [mkd] using h), fun h => E11.out (by simpa [mkd] using h), fun h => E12.out (by simpa [mkd] using h), fun h => E13.out (by simpa [mkd] using h), fun h => E14.out (by simpa [mkd] using h), fun h => E15.out (by simpa [mkd] using h), fun h => E16.out (by simpa [mkd] using h), fun _ => rfl, fun h => E18.out (by simpa [mkd] using h), fun h => E19.out (by simpa [mkd] using h)⟩
    · obtain rfl := E18.out (by simp [haf])
      obtain rfl := E11.out (by simp [haf])
      have hA : L 18 = true := by simp [haf]
      obtain ⟨zt, z0, z1, zf0, zf1⟩ := HT.out.z 2 (by decide) hA hL
      have HS := Lib.hid (HT.out.st 2 (by decide) (by decide) hA hL rfl)
      go_wp2
      unfold AtI4
      exact ⟨v28, v29, v30, v31, v32, v33, v34, v35, v36, v37, v38, (.agg #[.int .i64 0, .int .i64 0]), v40, v41, v42, v43, v7, v8, (.pointer (some ⟨g 2, 0, none⟩)), v10, g, by simp only [Act.put, List.setIfInBounds_toArray, List.set_cons_zero, List.set_cons_succ], HS.out, fun h => E0.out (by simpa [mkd] using h), fun h => E1.out (by simpa [mkd] using h), fun h => E2.out (by simpa [mkd] using h), fun h => E3.out (by simpa [mkd] using h), fun h => E4.out (by simpa [mkd] using h), fun h => E5.out (by simpa [mkd] using h), fun h => E6.out (by simpa [mkd] using h), fun h => E7.out (by simpa [mkd] using h), fun h => E8.out (by simpa [mkd] using h), fun h => E9.out (by simpa [mkd] using h), fun h => E10.out (by simpa [mkd] using h), fun _ => rfl, fun h => E12.out (by simpa [mkd] using h), fun h => E13.out (by simpa [mkd] using h), fun h => E14.out (by simpa [mkd] using h), fun h => E15.out (by simpa [mkd] using h), fun h => E16.out (by simpa [mkd] using h), fun h => E17.out (by simpa [mkd] using h), fun _ => rfl, fun h => E19.out (by simpa [mkd] using h)⟩
    · obtain rfl := E19.out (by simp [haf])
      obtain rfl := E15.out (by simp [haf])
      have hA : L 19 = true := by simp [haf]
      obtain ⟨zt, z0, z1, zf0, zf1⟩ := HT.out.z 3 (by decide) hA hL
      have HS := Lib.hid (HT.out.st 3 (by decide) (by decide) hA hL rfl)
      go_wp2
      unfold AtI4
      exact ⟨v28, v29, v30, v31, v32, v33, v34, v35, v36, v37, v38, v39, v40, v41, v42, (.agg #[.int .i64 1073741824, .int .i64 1073741824]), v7, v8, v9, (.pointer (some ⟨g 3, 0, none⟩)), g, by simp only [Act.put, List.setIfInBounds_toArray, List.set_cons_zero, List.set_cons_succ], HS.out, fun h => E0.out (by simpa [mkd] using h), fun h => E1.out (by simpa [mkd] using h), fun h => E2.out (by simpa [mkd] using h), fun h => E3.out (by simpa [mkd] using h), fun h => E4.out (by simpa [mkd] using h), fun h => E5.out (by simpa [mkd] using h), fun h => E6.out (by simpa [mkd] using h), fun h => E7.out (by simpa [mkd] using h), fun h => E8.out (by simpa [mkd] using h), fun h => E9.out (by simpa [mkd] using h), fun h => E10.out (by simpa [mkd] using h), fun h => E11.out (by simpa [mkd] using h), fun h => E12.out (by simpa [mkd] using h), fun h => E13.out (by simpa [mkd] using h), fun h => E14.out (by simpa [mkd] using h), fun _ => rfl, fun h => E16.out (by simpa [mkd] using h), fun h => E17.out (by simpa [mkd] using h), fun h => E18.out (by simpa [mkd] using h), fun _ => rfl⟩
  case fin =>
    rintro L a1' w4 hall ⟨v28, v29, v30, v31, v32, v33, v34, v35, v36, v37, v38, v39, v40, v41, v42, v43, v7, v8, v9, v10, g, rfl, hT, e0, e1, e2, e3, e4, e5, e6, e7, e8, e9, e10, e11, e12, e13, e14, e15, e16, e17, e18, e19⟩
    obtain rfl := e0 (hall 0 (by decide))
    obtain rfl := e1 (hall 1 (by decide))
    obtain rfl := e2 (hall 2 (by decide))
    obtain rfl := e3 (hall 3 (by decide))
    obtain rfl := e4 (hall 4 (by decide))
    obtain rfl := e5 (hall 5 (by decide))
    obtain rfl := e6 (hall 6 (by decide))
    obtain rfl := e7 (hall 7 (by decide))
    obtain rfl := e8 (hall 8 (by decide))
    obtain rfl := e9 (hall 9 (by decide))
    obtain rfl := e10 (hall 10 (by decide))
    obtain rfl := e11 (hall 11 (by decide))
    obtain rfl := e12 (hall 12 (by decide))
    obtain rfl := e13 (hall 13 (by decide))
    obtain rfl := e14 (hall 14 (by decide))
    obtain rfl := e15 (hall 15 (by decide))
    obtain rfl := e16 (hall 16 (by decide))
    obtain rfl := e17 (hall 17 (by decide))
    obtain rfl := e18 (hall 18 (by decide))
    obtain rfl := e19 (hall 19 (by decide))
    have D7 : Hid (D2 w4 (g 0) s0 s1) := Lib.hid (hT.k 0 (by decide) (hall 20 (by decide)))
    have D8 : Hid (D2 w4 (g 1) c0 c1) := Lib.hid (hT.k 1 (by decide) (hall 21 (by decide)))
    have D9 : Hid (D2 w4 (g 2) 0 0) := Lib.hid (hT.k 2 (by decide) (hall 22 (by decide)))
    have D10 : Hid (D2 w4 (g 3) 1073741824 1073741824) := Lib.hid (hT.k 3 (by decide) (hall 23 (by decide)))
    have C4 := Lib.hid (C2.out.below hT.bl C2.out.lt)
    have A4 := Lib.hid (A2.out.below hT.bl A2.out.lt)
    have Z4 := Lib.hid (Z2.out.below hT.bl Z2.out.lt)
    have K4 := Lib.hid (K2.out.below hT.bl K2.out.lt)
    have B4 := Lib.hid (B2.out.trans (hT.bl.mono B2.out.size))
    clear hT hall C2 A2 Z2 K2 B2 e0 e1 e2 e3 e4 e5 e6 e7 e8 e9 e10 e11 e12 e13 e14 e15 e16 e17 e18 e19
    generalize g 0 = g7 at *
    generalize g 1 = g8 at *
    generalize g 2 = g9 at *
    generalize g 3 = g10 at *
    clear g
    go_upto_region 5 with (fail)
    refine wp_region_inv3 (by kernel_rfl) (AtI5 w4 (.pointer (some ⟨gk, 0, none⟩)) (.agg #[.int .i64 0, .int .i64 0]) (.agg #[.int .i64 0, .int .i64 0]) (.pointer (some ⟨gk, 0, none⟩)) (.agg #[.int .i64 0, .int .i64 0]) (.agg #[.int .i64 1073741824, .int .i64 1073741824]) (fun i => [((0 : Int), (0 : Int)), (1073741824, 1073741824)].getD i (0, 0))) (waits_bind (by kernel_rfl)) ?start ?step ?fin
    case start => exact AtI5.start w4 _ _ _ _ _ _ _ _
    case step =>
      rintro L i o a1' w' ho hL haf ⟨v44, v45, v46, v47, v48, v49, v11, v12, g, rfl, hT, e0, e1, e2, e3, e4, e5, e6, e7⟩
      have HT := Lib.hid hT
      clear hT
      have E0 := Lib.hid e0
      have E1 := Lib.hid e1
      have E2 := Lib.hid e2
      have E3 := Lib.hid e3
      have E4 := Lib.hid e4
      have E5 := Lib.hid e5
      have E6 := Lib.hid e6
      have E7 := Lib.hid e7
      clear e0 e1 e2 e3 e4 e5 e6 e7
      rcases i with _ | _ | _ | _ | _ | _ | _ | _ | _ | _ | i
      all_goals (simp at ho; try subst ho)
      all_goals (try simp [Region.binds] at haf)
      · go_wp2
        unfold AtI5
        exact ⟨(.pointer (some ⟨gk, 0, none⟩)), v45, v46, v47, v48, v49, v11, v12, g, by simp only [Act.put, List.setIfInBounds_toArray, List.set_cons_zero, List.set_cons_succ], HT.out.mark 0 (by decide), fun _ => rfl, fun h => E1.out (by simpa [mkd] using h), fun h => E2.out (by simpa [mkd] using h), fun h => E3.out (by simpa [mkd] using h), fun h => E4.out (by simpa [mkd] using h), fun h => E5.out (by simpa [mkd] using h), fun h => E6.out (by simpa [mkd] using h), fun h => E7.out (by simpa [mkd] using h)⟩
      · have A9 := A4.out.below HT.out.bl A4.out.lt
        have k0 : w'.cell? ⟨w.heap.size + 1, 0, none⟩ = some (.int .i64 0) := A9.cell 0
        have k1 : w'.cell? ⟨w.heap.size + 1, 1, none⟩ = some (.int .i64 0) := A9.cell 1
        clear A9
        go_wp2
        unfold AtI5
        exact ⟨v44, (.agg #[.int .i64 0, .int .i64 0]), v46, v47, v48, v49, v11, v12, g, by simp only [Act.put, List.setIfInBounds_toArray, List.set_cons_zero, List.set_cons_succ], HT.out.mark 1 (by decide), fun h => E0.out (by simpa [mkd] using h), fun _ => rfl, fun h => E2.out (by simpa [mkd] using h), fun h => E3.out (by simpa [mkd] using h), fun h => E4.out (by simpa [mkd] using h), fun h => E5.out (by simpa [mkd] using h), fun h => E6.out (by simpa [mkd] using h), fun h => E7.out (by simpa [mkd] using h)⟩
      · have K9 := Lib.hid (K4.out.below HT.out.bl K4.out.lt)
        obtain rfl := E0.out (by simp [haf])
        obtain rfl := E1.out (by simp [haf])
        go_wp2_with fail
        (with_reducible refine (KS0.out _ _ K9.out).mono ?_)
        rintro e w9 ⟨rfl, hb9⟩
        go_wp2
        unfold AtI5
        exact ⟨(.pointer (some ⟨gk, 0, none⟩)), (.agg #[.int .i64 0, .int .i64 0]), (.agg #[.int .i64 0, .int .i64 0]), v47, v48, v49, v11, v12, g, by simp only [Act.put, List.setIfInBounds_toArray, List.set_cons_zero, List.set_cons_succ], (HT.out.call hb9).mark 2 (by decide), fun _ => rfl, fun _ => rfl, fun _ => rfl, fun h => E3.out (by simpa [mkd] using h), fun h => E4.out (by simpa [mkd] using h), fun h => E5.out (by simpa [mkd] using h), fun h => E6.out (by simpa [mkd] using h), fun h => E7.out (by simpa [mkd] using h)⟩
      · go_wp2
        unfold AtI5
        exact ⟨v44, v45, v46, (.pointer (some ⟨gk, 0, none⟩)), v48, v49, v11, v12, g, by simp only [Act.put, List.setIfInBounds_toArray, List.set_cons_zero, List.set_cons_succ], HT.out.mark 3 (by decide), fun h => E0.out (by simpa [mkd] using h), fun h => E1.out (by simpa [mkd] using h), fun h => E2.out (by simpa [mkd] using h), fun _ => rfl, fun h => E4.out (by simpa [mkd] using h), fun h => E5.out (by simpa [mkd] using h), fun h => E6.out (by simpa [mkd] using h), fun h => E7.out (by simpa [mkd] using h)⟩
      · have A9 := A4.out.below HT.out.bl A4.out.lt
        have k0 : w'.cell? ⟨w.heap.size + 1, 0, none⟩ = some (.int .i64 0) := A9.cell 0
        have k1 : w'.cell? ⟨w.heap.size + 1, 1, none⟩ = some (.int .i64 0) := A9.cell 1
        clear A9
        go_wp2
        unfold AtI5
        exact ⟨v44, v45, v46, v47, (.agg #[.int .i64 0, .int .i64 0]), v49, v11, v12, g, by simp only [Act.put, List.setIfInBounds_toArray, List.set_cons_zero, List.set_cons_succ], HT.out.mark 4 (by decide), fun h => E0.out (by simpa [mkd] using h), fun h => E1.out (by simpa [mkd] using h), fun h => E2.out (by simpa [mkd] using h), fun h => E3.out (by simpa [mkd] using h), fun _ => rfl, fun h => E5.out (by simpa [mkd] using h), fun h => E6.out (by simpa [mkd] using h), fun h => E7.out (by simpa [mkd] using h)⟩
      · have K9 := Lib.hid (K4.out.below HT.out.bl K4.out.lt)
        obtain rfl := E3.out (by simp [haf])
        obtain rfl := E4.out (by simp [haf])
        go_wp2_with fail
        (with_reducible refine (KC0.out _ _ K9.out).mono ?_)
        rintro e w9 ⟨rfl, hb9⟩
        go_wp2
        unfold AtI5
        exact ⟨v44, v45, v46, (.pointer (some ⟨gk, 0, none⟩)), (.agg #[.int .i64 0, .int .i64 0]), (.agg #[.int .i64 1073741824, .int .i64 1073741824]), v11, v12, g, by simp only [Act.put, List.setIfInBounds_toArray, List.set_cons_zero, List.set_cons_succ], (HT.out.call hb9).mark 5 (by decide), fun h => E0.out (by simpa [mkd] using h), fun h => E1.out (by simpa [mkd] using h), fun h => E2.out (by simpa [mkd] using h), fun _ => rfl, fun _ => rfl, fun _ => rfl, fun h => E6.out (by simpa [mkd] using h), fun h => E7.out (by simpa [mkd] using h)⟩
      · go_wp2
        unfold AtI5
        exact ⟨v44, v45, v46, v47, v48, v49, (.pointer (some ⟨w'.heap.size, 0, none⟩)), v12, (fun j => if j = 0 then w'.heap.size else g j), by simp only [Act.put, List.setIfInBounds_toArray, List.set_cons_zero, List.set_cons_succ], HT.out.al 0 (by decide) (by decide) hL _, fun h => E0.out (by simpa [mkd] using h), fun h => E1.out (by simpa [mkd] using h), fun h => E2.out (by simpa [mkd] using h), fun h => E3.out (by simpa [mkd] using h), fun h => E4.out (by simpa [mkd] using h), fun h => E5.out (by simpa [mkd] using h), fun _ => rfl, fun h => E7.out (by simpa [mkd] using h)⟩
      · go_wp2
        unfold AtI5
        exact ⟨v44, v45, v46, v47, v48, v49, v11, (.pointer (some ⟨w'.heap.size, 0, none⟩)), (fun j => if j = 1 then w'.heap.size else g j), by simp only [Act.put, List.setIfInBounds_toArray, List.set_cons_zero, List.set_cons_succ], HT.out.al 1 (by decide) (by decide) hL _, fun h => E0.out (by simpa [mkd] using h), fun h => E1.out (by simpa [mkd] using h), fun h => E2.out (by simpa [mkd] using h), fun h => E3.out (by simpa [mkd] using h), fun h => E4.out (by simpa [mkd] using h), fun h => E5.out (by simpa [mkd] using h), fun h => E6.out (by simpa [mkd] using h), fun _ => rfl⟩
      · obtain rfl := E6.out (by simp [haf])
        obtain rfl := E2.out (by simp [haf])
        have hA : L 6 = true := by simp [haf]
        obtain ⟨zt, z0, z1, zf0, zf1⟩ := HT.out.z 0 (by decide) hA hL
        have HS := Lib.hid (HT.out.st 0 (by decide) (by decide) hA hL rfl)
        go_wp2
        unfold AtI5
        exact ⟨v44, v45, (.agg #[.int .i64 0, .int .i64 0]), v47, v48, v49, (.pointer (some ⟨g 0, 0, none⟩)), v12, g, by simp only [Act.put, List.setIfInBounds_toArray, List.set_cons_zero, List.set_cons_succ], HS.out, fun h => E0.out (by simpa [mkd] using h), fun h => E1.out (by simpa [mkd] using h), fun _ => rfl, fun h => E3.out (by simpa [mkd] using h), fun h => E4.out (by simpa [mkd] using h), fun h => E5.out (by simpa [mkd] using h), fun _ => rfl, fun h => E7.out (by simpa [mkd] using h)⟩
      · obtain rfl := E7.out (by simp [haf])
        obtain rfl := E5.out (by simp [haf])
        have hA : L 7 = true := by simp [haf]
        obtain ⟨zt, z0, z1, zf0, zf1⟩ := HT.out.z 1 (by decide) hA hL
        have HS := Lib.hid (HT.out.st 1 (by decide) (by decide) hA hL rfl)
        go_wp2
        unfold AtI5
        exact ⟨v44, v45, v46, v47, v48, (.agg #[.int .i64 1073741824, .int .i64 1073741824]), v11, (.pointer (some ⟨g 1, 0, none⟩)), g, by simp only [Act.put, List.setIfInBounds_toArray, List.set_cons_zero, List.set_cons_succ], HS.out, fun h => E0.out (by simpa [mkd] using h), fun h => E1.out (by simpa [mkd] using h), fun h => E2.out (by simpa [mkd] using h), fun h => E3.out (by simpa [mkd] using h), fun h => E4.out (by simpa [mkd] using h), fun _ => rfl, fun h => E6.out (by simpa [mkd] using h), fun _ => rfl⟩
    case fin =>
      rintro L a1' w5 hall ⟨v44, v45, v46, v47, v48, v49, v11, v12, g, rfl, hT, e0, e1, e2, e3, e4, e5, e6, e7⟩
      obtain rfl := e0 (hall 0 (by decide))
      obtain rfl := e1 (hall 1 (by decide))
      obtain rfl := e2 (hall 2 (by decide))
      obtain rfl := e3 (hall 3 (by decide))
      obtain rfl := e4 (hall 4 (by decide))
      obtain rfl := e5 (hall 5 (by decide))
      obtain rfl := e6 (hall 6 (by decide))
      obtain rfl := e7 (hall 7 (by decide))
      have D11 : Hid (D2 w5 (g 0) 0 0) := Lib.hid (hT.k 0 (by decide) (hall 8 (by decide)))
      have D12 : Hid (D2 w5 (g 1) 1073741824 1073741824) := Lib.hid (hT.k 1 (by decide) (hall 9 (by decide)))
      have C5 := Lib.hid (C4.out.below hT.bl C4.out.lt)
      have Z5 := Lib.hid (Z4.out.below hT.bl Z4.out.lt)
      have K5 := Lib.hid (K4.out.below hT.bl K4.out.lt)
      have B5 := Lib.hid (B4.out.trans (hT.bl.mono B4.out.size))
      have Q7 := Lib.hid (D7.out.below hT.bl D7.out.lt)
      have Q8 := Lib.hid (D8.out.below hT.bl D8.out.lt)
      have Q9 := Lib.hid (D9.out.below hT.bl D9.out.lt)
      have Q10 := Lib.hid (D10.out.below hT.bl D10.out.lt)
      clear hT hall C4 A4 Z4 K4 B4 D7 D8 D9 D10 e0 e1 e2 e3 e4 e5 e6 e7 KS7 KC7 KS0 KC0
      generalize g 0 = g11 at *
      generalize g 1 = g12 at *
      clear g
      go_upto_region 6 with (fail)
      refine wp_region_inv3 (by kernel_rfl) (AtI6 w5 (.pointer (some ⟨gk, 0, none⟩)) (.pointer (some ⟨gk, 0, none⟩)) (.agg #[.int .i64 s0, .int .i64 s1]) (.agg #[.int .i64 1073741824, .int .i64 1073741824]) (.agg #[.int .i64 s0, .int .i64 s1]) (.pointer (some ⟨gk, 0, none⟩)) (.pointer (some ⟨gk, 0, none⟩)) (.agg #[.int .i64 c0, .int .i64 c1]) (.agg #[.int .i64 0, .int .i64 0]) (.agg #[.int .i64 0, .int .i64 0]) (.agg #[.int .i64 1073741824, .int .i64 1073741824]) (.agg #[.int .i64 0, .int .i64 0]) (.agg #[.int .i64 s0, .int .i64 s1]) (.tuple #[.agg #[.int .i64 p, .int .i64 q], .int .i64 0]) (.tuple #[.agg #[.int .i64 p, .int .i64 q], .int .i64 0]) (.agg #[.int .i64 p, .int .i64 q]) (.int .i64 0) (.int .i64 0) (fun _ => ((p : Int), (q : Int)))) (waits_bind (by kernel_rfl)) ?start ?step ?fin
      case start => exact AtI6.start w5 _ _ _ _ _ _ _ _ _ _ _ _ _ _ _ _ _ _ _ _
      case step =>
        rintro L i o a1' w' ho hL haf ⟨v51, v52, v53, v54, v55, v56, v57, v58, v59, v60, v61, v62, v63, v64, v50, v65, v66, v13, v14, g, rfl, hT, e0, e1, e2, e3, e4, e5, e6, e7, e8, e9, e10, e11, e12, e13, e14, e15, e16, e17, e19⟩
        have HT := Lib.hid hT
        clear hT
        have E0 := Lib.hid e0
        have E1 := Lib.hid e1
        have E2 := Lib.hid e2
        have E3 := Lib.hid e3
        have E4 := Lib.hid e4
        have E5 := Lib.hid e5
        have E6 := Lib.hid e6
        have E7 := Lib.hid e7
        have E8 := Lib.hid e8
        have E9 := Lib.hid e9
        have E10 := Lib.hid e10
        have E11 := Lib.hid e11
        have E12 := Lib.hid e12
        have E13 := Lib.hid e13
        have E14 := Lib.hid e14
        have E15 := Lib.hid e15
        have E16 := Lib.hid e16
        have E17 := Lib.hid e17
        have E19 := Lib.hid e19
        clear e0 e1 e2 e3 e4 e5 e6 e7 e8 e9 e10 e11 e12 e13 e14 e15 e16 e17 e19
        rcases i with _ | _ | _ | _ | _ | _ | _ | _ | _ | _ | _ | _ | _ | _ | _ | _ | _ | _ | _ | _ | i
        all_goals (simp at ho; try subst ho)
        all_goals (try simp [Region.binds] at haf)
        · go_wp2
          unfold AtI6
          exact ⟨(.pointer (some ⟨gk, 0, none⟩)), v52, v53, v54, v55, v56, v57, v58, v59, v60, v61, v62, v63, v64, v50, v65, v66, v13, v14, g, by simp only [Act.put, List.setIfInBounds_toArray, List.set_cons_zero, List.set_cons_succ], HT.out.mark 0 (by decide), fun _ => rfl, fun h => E1.out (by simpa [mkd] using h), fun h => E2.out (by simpa [mkd] using h), fun h => E3.out (by simpa [mkd] using h), fun h => E4.out (by simpa [mkd] using h), fun h => E5.out (by simpa [mkd] using h), fun h => E6.out (by simpa [mkd] using h), fun h => E7.out (by simpa [mkd] using h), fun h => E8.out (by simpa [mkd] using h), fun h => E9.out (by simpa [mkd] using h), fun h => E10.out (by simpa [mkd] using h), fun h => E11.out (by simpa [mkd] using h), fun h => E12.out (by simpa [mkd] using h), fun h => E13.out (by simpa [mkd] using h), fun h => E14.out (by simpa [mkd] using h), fun h => E15.out (by simpa [mkd] using h), fun h => E16.out (by simpa [mkd] using h), fun h => E17.out (by simpa [mkd] using h), fun h => E19.out (by simpa [mkd] using h)⟩
        · go_wp2
          unfold AtI6
          exact ⟨v51, (.pointer (some ⟨gk, 0, none⟩)), v53, v54, v55, v56, v57, v58, v59, v60, v61, v62, v63, v64, v50, v65, v66, v13, v14, g, by simp only [Act.put, List.setIfInBounds_toArray, List.set_cons_zero, List.set_cons_succ], HT.out.mark 1 (by decide), fun h => E0.out (by simpa [mkd] using h), fun _ => rfl, fun h => E2.out (by simpa [mkd] using h), fun h => E3.out (by simpa [mkd] using h), fun h => E4.out (by simpa [mkd] using h), fun h => E5.out (by simpa [mkd] using h), fun h => E6.out (by simpa [mkd] using h), fun h => E7.out (by simpa [mkd] using h), fun h => E8.out (by simpa [mkd] using h), fun h => E9.out (by simpa [mkd] using h), fun h => E10.out (by simpa [mkd] using h), fun h => E11.out (by simpa [mkd] using h), fun h => E12.out (by simpa [mkd] using h), fun h => E13.out (by simpa [mkd] using h), fun h => E14.out (by simpa [mkd] using h), fun h => E15.out (by simpa [mkd] using h), fun h => E16.out (by simpa [mkd] using h), fun h => E17.out (by simpa [mkd] using h), fun h => E19.out (by simpa [mkd] using h)⟩
        · obtain ⟨-, fa, fb, -, -⟩ := Q7.out.below HT.out.bl Q7.out.lt
          go_wp2
          unfold AtI6
          exact ⟨v51, v52, (.agg #[.int .i64 s0, .int .i64 s1]), v54, v55, v56, v57, v58, v59, v60, v61, v62, v63, v64, v50, v65, v66, v13, v14, g, by simp only [Act.put, List.setIfInBounds_toArray, List.set_cons_zero, List.set_cons_succ], HT.out.mark 2 (by decide), fun h => E0.out (by simpa [mkd] using h), fun h => E1.out (by simpa [mkd] using h), fun _ => rfl, fun h => E3.out (by simpa [mkd] using h), fun h => E4.out (by simpa [mkd] using h), fun h => E5.out (by simpa [mkd] using h), fun h => E6.out (by simpa [mkd] using h), fun h => E7.out (by simpa [mkd] using h), fun h => E8.out (by simpa [mkd] using h), fun h => E9.out (by simpa [mkd] using h), fun h => E10.out (by simpa [mkd] using h), fun h => E11.out (by simpa [mkd] using h), fun h => E12.out (by simpa [mkd] using h), fun h => E13.out (by simpa [mkd] using h), fun h => E14.out (by simpa [mkd] using h), fun h => E15.out (by simpa [mkd] using h), fun h => E16.out (by simpa [mkd] using h), fun h => E17.out (by simpa [mkd] using h), fun h => E19.out (by simpa [mkd] using h)⟩
        · obtain ⟨-, fa, fb, -, -⟩ := Q10.out.below HT.out.bl Q10.out.lt
          go_wp2
          unfold AtI6
          exact ⟨v51, v52, v53, (.agg #[.int .i64 1073741824, .int .i64 1073741824]), v55, v56, v57, v58, v59, v60, v61, v62, v63, v64, v50, v65, v66, v13, v14, g, by simp only [Act.put, List.setIfInBounds_toArray, List.set_cons_zero, List.set_cons_succ], HT.out.mark 3 (by decide), fun h => E0.out (by simpa [mkd] using h), fun h => E1.out (by simpa [mkd] using h), fun h => E2.out (by simpa [mkd] using h), fun _ => rfl, fun h => E4.out (by simpa [mkd] using h), fun h => E5.out (by simpa [mkd] using h), fun h => E6.out (by simpa [mkd] using h), fun h => E7.out (by simpa [mkd] using h), fun h => E8.out (by simpa [mkd] using h), fun h => E9.out (by simpa [mkd] using h), fun h => E10.out (by simpa [mkd] using h), fun h => E11.out (by simpa [mkd] using h), fun h => E12.out (by simpa [mkd] using h), fun h => E13.out (by simpa [mkd] using h), fun h => E14.out (by simpa [mkd] using h), fun h => E15.out (by simpa [mkd] using h), fun h => E16.out (by simpa [mkd] using h), fun h => E17.out (by simpa [mkd] using h), fun h => E19.out (by simpa [mkd] using h)⟩
        · have K9 := Lib.hid (K5.out.below HT.out.bl K5.out.lt)
          obtain rfl := E1.out (by simp [haf])
          obtain rfl := E2.out (by simp [haf])
          obtain rfl := E3.out (by simp [haf])
          go_wp2_with fail
          (with_reducible refine (KMU.out _ _ K9.out).mono ?_)
          rintro e w9 ⟨rfl, hb9⟩
          go_wp2
          unfold AtI6
          exact ⟨v51, (.pointer (some ⟨gk, 0, none⟩)), (.agg #[.int .i64 s0, .int .i64 s1]), (.agg #[.int .i64 1073741824, .int .i64 1073741824]), (.agg #[.int .i64 s0, .int .i64 s1]), v56, v57, v58, v59, v60, v61, v62, v63, v64, v50, v65, v66, v13, v14, g, by simp only [Act.put, List.setIfInBounds_toArray, List.set_cons_zero, List.set_cons_succ], (HT.out.call hb9).mark 4 (by decide), fun h => E0.out (by simpa [mkd] using h), fun _ => rfl, fun _ => rfl, fun _ => rfl, fun _ => rfl, fun h => E5.out (by simpa [mkd] using h), fun h => E6.out (by simpa [mkd] using h), fun h => E7.out (by simpa [mkd] using h), fun h => E8.out (by simpa [mkd] using h), fun h => E9.out (by simpa [mkd] using h), fun h => E10.out (by simpa [mkd] using h), fun h => E11.out (by simpa [mkd] using h), fun h => E12.out (by simpa [mkd] using h), fun h => E13.out (by simpa [mkd] using h), fun h => E14.out (by simpa [mkd] using h), fun h => E15.out (by simpa [mkd] using h), fun h => E16.out (by simpa [mkd] using h), fun h => E17.out (by simpa [mkd] using h), fun h => E19.out (by simpa [mkd] using h)⟩
        · go_wp2
          unfold AtI6
          exact ⟨v51, v52, v53, v54, v55, (.pointer (some ⟨gk, 0, none⟩)), v57, v58, v59, v60, v61, v62, v63, v64, v50, v65, v66, v13, v14, g, by simp only [Act.put, List.setIfInBounds_toArray, List.set_cons_zero, List.set_cons_succ], HT.out.mark 5 (by decide), fun h => E0.out (by simpa [mkd] using h), fun h => E1.out (by simpa [mkd] using h), fun h => E2.out (by simpa [mkd] using h), fun h => E3.out (by simpa [mkd] using h), fun h => E4.out (by simpa [mkd] using h), fun _ => rfl, fun h => E6.out (by simpa [mkd] using h), fun h => E7.out (by simpa [mkd] using h), fun h => E8.out (by simpa [mkd] using h), fun h => E9.out (by simpa [mkd] using h), fun h => E10.out (by simpa [mkd] using h), fun h => E11.out (by simpa [mkd] using h), fun h => E12.out (by simpa [mkd] using h), fun h => E13.out (by simpa [mkd] using h), fun h => E14.out (by simpa [mkd] using h), fun h => E15.out (by simpa [mkd] using h), fun h => E16.out (by simpa [mkd] using h), fun h => E17.out (by simpa [mkd] using h), fun h => E19.out (by simpa [mkd] using h)⟩
        · go_wp2
          unfold AtI6
          exact ⟨v51, v52, v53, v54, v55, v56, (.pointer (some ⟨gk, 0, none⟩)), v58, v59, v60, v61, v62, v63, v64, v50, v65, v66, v13, v14, g, by simp only [Act.put, List.setIfInBounds_toArray, List.set_cons_zero, List.set_cons_succ], HT.out.mark 6 (by decide), fun h => E0.out (by simpa [mkd] using h), fun h => E1.out (by simpa [mkd] using h), fun h => E2.out (by simpa [mkd] using h), fun h => E3.out (by simpa [mkd] using h), fun h => E4.out (by simpa [mkd] using h), fun h => E5.out (by simpa [mkd] using h), fun _ => rfl, fun h => E7.out (by simpa [mkd] using h), fun h => E8.out (by simpa [mkd] using h), fun h => E9.out (by simpa [mkd] using h), fun h => E10.out (by simpa [mkd] using h), fun h => E11.out (by simpa [mkd] using h), fun h => E12.out (by simpa [mkd] using h), fun h => E13.out (by simpa [mkd] using h), fun h => E14.out (by simpa [mkd] using h), fun h => E15.out (by simpa [mkd] using h), fun h => E16.out (by simpa [mkd] using h), fun h => E17.out (by simpa [mkd] using h), fun h => E19.out (by simpa [mkd] using h)⟩
        · obtain ⟨-, fa, fb, -, -⟩ := Q8.out.below HT.out.bl Q8.out.lt
          go_wp2
          unfold AtI6
          exact ⟨v51, v52, v53, v54, v55, v56, v57, (.agg #[.int .i64 c0, .int .i64 c1]), v59, v60, v61, v62, v63, v64, v50, v65, v66, v13, v14, g, by simp only [Act.put, List.setIfInBounds_toArray, List.set_cons_zero, List.set_cons_succ], HT.out.mark 7 (by decide), fun h => E0.out (by simpa [mkd] using h), fun h => E1.out (by simpa [mkd] using h), fun h => E2.out (by simpa [mkd] using h), fun h => E3.out (by simpa [mkd] using h), fun h => E4.out (by simpa [mkd] using h), fun h => E5.out (by simpa [mkd] using h), fun h => E6.out (by simpa [mkd] using h), fun _ => rfl, fun h => E8.out (by simpa [mkd] using h), fun h => E9.out (by simpa [mkd] using h), fun h => E10.out (by simpa [mkd] using h), fun h => E11.out (by simpa [mkd] using h), fun h => E12.out (by simpa [mkd] using h), fun h => E13.out (by simpa [mkd] using h), fun h => E14.out (by simpa [mkd] using h), fun h => E15.out (by simpa [mkd] using h), fun h => E16.out (by simpa [mkd] using h), fun h => E17.out (by simpa [mkd] using h), fun h => E19.out (by simpa [mkd] using h)⟩
        · obtain ⟨-, fa, fb, -, -⟩ := Q9.out.below HT.out.bl Q9.out.lt
          go_wp2
          unfold AtI6
          exact ⟨v51, v52, v53, v54, v55, v56, v57, v58, (.agg #[.int .i64 0, .int .i64 0]), v60, v61, v62, v63, v64, v50, v65, v66, v13, v14, g, by simp only [Act.put, List.setIfInBounds_toArray, List.set_cons_zero, List.set_cons_succ], HT.out.mark 8 (by decide), fun h => E0.out (by simpa [mkd] using h), fun h => E1.out (by simpa [mkd] using h), fun h => E2.out (by simpa [mkd] using h), fun h => E3.out (by simpa [mkd] using h), fun h => E4.out (by simpa [mkd] using h), fun h => E5.out (by simpa [mkd] using h), fun h => E6.out (by simpa [mkd] using h), fun h => E7.out (by simpa [mkd] using h), fun _ => rfl, fun h => E9.out (by simpa [mkd] using h), fun h => E10.out (by simpa [mkd] using h), fun h => E11.out (by simpa [mkd] using h), fun h => E12.out (by simpa [mkd] using h), fun h => E13.out (by simpa [mkd] using h), fun h => E14.out (by simpa [mkd] using h), fun h => E15.out (by simpa [mkd] using h), fun h => E16.out (by simpa [mkd] using h), fun h => E17.out (by simpa [mkd] using h), fun h => E19.out (by simpa [mkd] using h)⟩
        · have K9 := Lib.hid (K5.out.below HT.out.bl K5.out.lt)
          obtain rfl := E6.out (by simp [haf])
          obtain rfl := E7.out (by simp [haf])
          obtain rfl := E8.out (by simp [haf])
          go_wp2_with fail
          (with_reducible refine (KMV.out _ _ K9.out).mono ?_)
          rintro e w9 ⟨rfl, hb9⟩
          go_wp2
          unfold AtI6
          exact ⟨v51, v52, v53, v54, v55, v56, (.pointer (some ⟨gk, 0, none⟩)), (.agg #[.int .i64 c0, .int .i64 c1]), (.agg #[.int .i64 0, .int .i64 0]), (.agg #[.int .i64 0, .int .i64 0]), v61, v62, v63, v64, v50, v65, v66, v13, v14, g, by simp only [Act.put, List.setIfInBounds_toArray, List.set_cons_zero, List.set_cons_succ], (HT.out.call hb9).mark 9 (by decide), fun h => E0.out (by simpa [mkd] using h), fun h => E1.out (by simpa [mkd] using h), fun h => E2.out (by simpa [mkd] using h), fun h => E3.out (by simpa [mkd] using h), fun h => E4.out (by simpa [mkd] using h), fun h => E5.out (by simpa [mkd] using h), fun _ => rfl, fun _ => rfl, fun _ => rfl, fun _ => rfl, fun h => E10.out (by simpa [mkd] using h), fun h => E11.out (by simpa [mkd] using h), fun h => E12.out (by simpa [mkd] using h), fun h => E13.out (by simpa [mkd] using h), fun h => E14.out (by simpa [mkd] using h), fun h => E15.out (by simpa [mkd] using h), fun h => E16.out (by simpa [mkd] using h), fun h => E17.out (by simpa [mkd] using h), fun h => E19.out (by simpa [mkd] using h)⟩
        · obtain ⟨-, fa, fb, -, -⟩ := D12.out.below HT.out.bl D12.out.lt
          go_wp2
          unfold AtI6
          exact ⟨v51, v52, v53, v54, v55, v56, v57, v58, v59, v60, (.agg #[.int .i64 1073741824, .int .i64 1073741824]), v62, v63, v64, v50, v65, v66, v13, v14, g, by simp only [Act.put, List.setIfInBounds_toArray, List.set_cons_zero, List.set_cons_succ], HT.out.mark 10 (by decide), fun h => E0.out (by simpa [mkd] using h), fun h => E1.out (by simpa [mkd] using h), fun h => E2.out (by simpa [mkd] using h), fun h => E3.out (by simpa [mkd] using h), fun h => E4.out (by simpa [mkd] using h), fun h => E5.out (by simpa [mkd] using h), fun h => E6.out (by simpa [mkd] using h), fun h => E7.out (by simpa [mkd] using h), fun h => E8.out (by simpa [mkd] using h), fun h => E9.out (by simpa [mkd] using h), fun _ => rfl, fun h => E11.out (by simpa [mkd] using h), fun h => E12.out (by simpa [mkd] using h), fun h => E13.out (by simpa [mkd] using h), fun h => E14.out (by simpa [mkd] using h), fun h => E15.out (by simpa [mkd] using h), fun h => E16.out (by simpa [mkd] using h), fun h => E17.out (by simpa [mkd] using h), fun h => E19.out (by simpa [mkd] using h)⟩
        · have K9 := Lib.hid (K5.out.below HT.out.bl K5.out.lt)
          obtain rfl := E5.out (by simp [haf])
          obtain rfl := E9.out (by simp [haf])
          obtain rfl := E10.out (by simp [haf])
          go_wp2_with fail
          (with_reducible refine (KMZ.out _ _ K9.out).mono ?_)
          rintro e w9 ⟨rfl, hb9⟩
          go_wp2
          unfold AtI6
          exact ⟨v51, v52, v53, v54, v55, (.pointer (some ⟨gk, 0, none⟩)), v57, v58, v59, (.agg #[.int .i64 0, .int .i64 0]), (.agg #[.int .i64 1073741824, .int .i64 1073741824]), (.agg #[.int .i64 0, .int .i64 0]), v63, v64, v50, v65, v66, v13, v14, g, by simp only [Act.put, List.setIfInBounds_toArray, List.set_cons_zero, List.set_cons_succ], (HT.out.call hb9).mark 11 (by decide), fun h => E0.out (by simpa [mkd] using h), fun h => E1.out (by simpa [mkd] using h), fun h => E2.out (by simpa [mkd] using h), fun h => E3.out (by simpa [mkd] using h), fun h => E4.out (by simpa [mkd] using h), fun _ => rfl, fun h => E6.out (by simpa [mkd] using h), fun h => E7.out (by simpa [mkd] using h), fun h => E8.out (by simpa [mkd] using h), fun _ => rfl, fun _ => rfl, fun _ => rfl, fun h => E12.out (by simpa [mkd] using h), fun h => E13.out (by simpa [mkd] using h), fun h => E14.out (by simpa [mkd] using h), fun h => E15.out (by simpa [mkd] using h), fun h => E16.out (by simpa [mkd] using h), fun h => E17.out (by simpa [mkd] using h), fun h => E19.out (by simpa [mkd] using h)⟩
        · have K9 := Lib.hid (K5.out.below HT.out.bl K5.out.lt)
          obtain rfl := E0.out (by simp [haf])
          obtain rfl := E4.out (by simp [haf])
          obtain rfl := E11.out (by simp [haf])
          go_wp2_with fail
          (with_reducible refine (KPL.out _ _ K9.out).mono ?_)
          rintro e w9 ⟨rfl, hb9⟩
          go_wp2
          unfold AtI6
          exact ⟨(.pointer (some ⟨gk, 0, none⟩)), v52, v53, v54, (.agg #[.int .i64 s0, .int .i64 s1]), v56, v57, v58, v59, v60, v61, (.agg #[.int .i64 0, .int .i64 0]), (.agg #[.int .i64 s0, .int .i64 s1]), v64, v50, v65, v66, v13, v14, g, by simp only [Act.put, List.setIfInBounds_toArray, List.set_cons_zero, List.set_cons_succ], (HT.out.call hb9).mark 12 (by decide), fun _ => rfl, fun h => E1.out (by simpa [mkd] using h), fun h => E2.out (by simpa [mkd] using h), fun h => E3.out (by simpa [mkd] using h), fun _ => rfl, fun h => E5.out (by simpa [mkd] using h), fun h => E6.out (by simpa [mkd] using h), fun h => E7.out (by simpa [mkd] using h), fun h => E8.out (by simpa [mkd] using h), fun h => E9.out (by simpa [mkd] using h), fun h => E10.out (by simpa [mkd] using h), fun _ => rfl, fun _ => rfl, fun h => E13.out (by simpa [mkd] using h), fun h => E14.out (by simpa [mkd] using h), fun h => E15.out (by simpa [mkd] using h), fun h => E16.out (by simpa [mkd] using h), fun h => E17.out (by simpa [mkd] using h), fun h => E19.out (by simpa [mkd] using h)⟩
        · have K9 := Lib.hid (K5.out.below HT.out.bl K5.out.lt)
          obtain rfl := E12.out (by simp [haf])
          go_wp2_with fail
          (with_reducible refine (KAS.out _).mono ?_)
          rintro e w9 ⟨rfl, hb9⟩
          go_wp2
          unfold AtI6
          exact ⟨v51, v52, v53, v54, v55, v56, v57, v58, v59, v60, v61, v62, (.agg #[.int .i64 s0, .int .i64 s1]), (.tuple #[.agg #[.int .i64 p, .int .i64 q], .int .i64 0]), v50, v65, v66, v13, v14, g, by simp only [Act.put, List.setIfInBounds_toArray, List.set_cons_zero, List.set_cons_succ], (HT.out.call hb9).mark 13 (by decide), fun h => E0.out (by simpa [mkd] using h), fun h => E1.out (by simpa [mkd] using h), fun h => E2.out (by simpa [mkd] using h), fun h => E3.out (by simpa [mkd] using h), fun h => E4.out (by simpa [mkd] using h), fun h => E5.out (by simpa [mkd] using h), fun h => E6.out (by simpa [mkd] using h), fun h => E7.out (by simpa [mkd] using h), fun h => E8.out (by simpa [mkd] using h), fun h => E9.out (by simpa [mkd] using h), fun h => E10.out (by simpa [mkd] using h), fun h => E11.out (by simpa [mkd] using h), fun _ => rfl, fun _ => rfl, fun h => E14.out (by simpa [mkd] using h), fun h => E15.out (by simpa [mkd] using h), fun h => E16.out (by simpa [mkd] using h), fun h => E17.out (by simpa [mkd] using h), fun h => E19.out (by simpa [mkd] using h)⟩
        · obtain rfl := E13.out (by simp [haf])
          go_wp2
          unfold AtI6
          exact ⟨v51, v52, v53, v54, v55, v56, v57, v58, v59, v60, v61, v62, v63, (.tuple #[.agg #[.int .i64 p, .int .i64 q], .int .i64 0]), (.tuple #[.agg #[.int .i64 p, .int .i64 q], .int .i64 0]), v65, v66, v13, v14, g, by simp only [Act.put, List.setIfInBounds_toArray, List.set_cons_zero, List.set_cons_succ], HT.out.mark 14 (by decide), fun h => E0.out (by simpa [mkd] using h), fun h => E1.out (by simpa [mkd] using h), fun h => E2.out (by simpa [mkd] using h), fun h => E3.out (by simpa [mkd] using h), fun h => E4.out (by simpa [mkd] using h), fun h => E5.out (by simpa [mkd] using h), fun h => E6.out (by simpa [mkd] using h), fun h => E7.out (by simpa [mkd] using h), fun h => E8.out (by simpa [mkd] using h), fun h => E9.out (by simpa [mkd] using h), fun h => E10.out (by simpa [mkd] using h), fun h => E11.out (by simpa [mkd] using h), fun h => E12.out (by simpa [mkd] using h), fun _ => rfl, fun _ => rfl, fun h => E15.out (by simpa [mkd] using h), fun h => E16.out (by simpa [mkd] using h), fun h => E17.out (by simpa [mkd] using h), fun h => E19.out (by simpa [mkd] using h)⟩
        · obtain rfl := E14.out (by simp [haf])
          go_wp2
          unfold AtI6
          exact ⟨v51, v52, v53, v54, v55, v56, v57, v58, v59, v60, v61, v62, v63, v64, (.tuple #[.agg #[.int .i64 p, .int .i64 q], .int .i64 0]), (.agg #[.int .i64 p, .int .i64 q]), v66, v13, v14, g, by simp only [Act.put, List.setIfInBounds_toArray, List.set_cons_zero, List.set_cons_succ], HT.out.mark 15 (by decide), fun h => E0.out (by simpa [mkd] using h), fun h => E1.out (by simpa [mkd] using h), fun h => E2.out (by simpa [mkd] using h), fun h => E3.out (by simpa [mkd] using h), fun h => E4.out (by simpa [mkd] using h), fun h => E5.out (by simpa [mkd] using h), fun h => E6.out (by simpa [mkd] using h), fun h => E7.out (by simpa [mkd] using h), fun h => E8.out (by simpa [mkd] using h), fun h => E9.out (by simpa [mkd] using h), fun h => E10.out (by simpa [mkd] using h), fun h => E11.out (by simpa [mkd] using h), fun h => E12.out (by simpa [mkd] using h), fun h => E13.out (by simpa [mkd] using h), fun _ => rfl, fun _ => rfl, fun h => E16.out (by simpa [mkd] using h), fun h => E17.out (by simpa [mkd] using h), fun h => E19.out (by simpa [mkd] using h)⟩
        · obtain rfl := E14.out (by simp [haf])
          go_wp2
          unfold AtI6
          exact ⟨v51, v52, v53, v54, v55, v56, v57, v58, v59, v60, v61, v62, v63, v64, (.tuple #[.agg #[.int .i64 p, .int .i64 q], .int .i64 0]), v65, (.int .i64 0), v13, v14, g, by simp only [Act.put, List.setIfInBounds_toArray, List.set_cons_zero, List.set_cons_succ], HT.out.mark 16 (by decide), fun h => E0.out (by simpa [mkd] using h), fun h => E1.out (by simpa [mkd] using h), fun h => E2.out (by simpa [mkd] using h), fun h => E3.out (by simpa [mkd] using h), fun h => E4.out (by simpa [mkd] using h), fun h => E5.out (by simpa [mkd] using h), fun h => E6.out (by simpa [mkd] using h), fun h => E7.out (by simpa [mkd] using h), fun h => E8.out (by simpa [mkd] using h), fun h => E9.out (by simpa [mkd] using h), fun h => E10.out (by simpa [mkd] using h), fun h => E11.out (by simpa [mkd] using h), fun h => E12.out (by simpa [mkd] using h), fun h => E13.out (by simpa [mkd] using h), fun _ => rfl, fun h => E15.out (by simpa [mkd] using h), fun _ => rfl, fun h => E17.out (by simpa [mkd] using h), fun h => E19.out (by simpa [mkd] using h)⟩
        · go_wp2
          unfold AtI6
          exact ⟨v51, v52, v53, v54, v55, v56, v57, v58, v59, v60, v61, v62, v63, v64, v50, v65, v66, (.pointer (some ⟨w'.heap.size, 0, none⟩)), v14, (fun j => if j = 0 then w'.heap.size else g j), by simp only [Act.put, List.setIfInBounds_toArray, List.set_cons_zero, List.set_cons_succ], HT.out.al 0 (by decide) (by decide) hL _, fun h => E0.out (by simpa [mkd] using h), fun h => E1.out (by simpa [mkd] using h), fun h => E2.out (by simpa [mkd] using h), fun h => E3.out (by simpa [mkd] using h), fun h => E4.out (by simpa [mkd] using h), fun h => E5.out (by simpa [mkd] using h), fun h => E6.out (by simpa [mkd] using h), fun h => E7.out (by simpa [mkd] using h), fun h => E8.out (by simpa [mkd] using h), fun h => E9.out (by simpa [mkd] using h), fun h => E10.out (by simpa [mkd] using h), fun h => E11.out (by simpa [mkd] using h), fun h => E12.out (by simpa [mkd] using h), fun h => E13.out (by simpa [mkd] using h), fun h => E14.out (by simpa [mkd] using h), fun h => E15.out (by simpa [mkd] using h), fun h => E16.out (by simpa [mkd] using h), fun _ => rfl, fun h => E19.out (by simpa [mkd] using h)⟩
        · obtain rfl := E17.out (by simp [haf])
          obtain rfl := E15.out (by simp [haf])
          have hA : L 17 = true := by simp [haf]
          obtain ⟨zt, z0, z1, zf0, zf1⟩ := HT.out.z 0 (by decide) hA hL
          have HS := Lib.hid (HT.out.st 0 (by decide) (by decide) hA hL rfl)
          go_wp2
          unfold AtI6
          exact ⟨v51, v52, v53, v54, v55, v56, v57, v58, v59, v60, v61, v62, v63, v64, v50, (.agg #[.int .i64 p, .int .i64 q]), v66, (.pointer (some ⟨g 0, 0, none⟩)), v14, g, by simp only [Act.put, List.setIfInBounds_toArray, List.set_cons_zero, List.set_cons_succ], HS.out, fun h => E0.out (by simpa [mkd] using h), fun h => E1.out (by simpa [mkd] using h), fun h => E2.out (by simpa [mkd] using h), fun h => E3.out (by simpa [mkd] using h), fun h => E4.out (by simpa [mkd] using h), fun h => E5.out (by simpa [mkd] using h), fun h => E6.out (by simpa [mkd] using h), fun h => E7.out (by simpa [mkd] using h), fun h => E8.out (by simpa [mkd] using h), fun h => E9.out (by simpa [mkd] using h), fun h => E10.out (by simpa [mkd] using h), fun h => E11.out (by simpa [mkd] using h), fun h => E12.out (by simpa [mkd] using h), fun h => E13.out (by simpa [mkd] using h), fun h => E14.out (by simpa [mkd] using h), fun _ => rfl, fun h => E16.out (by simpa [mkd] using h), fun _ => rfl, fun h => E19.out (by simpa [mkd] using h)⟩
        · obtain rfl := E16.out (by simp [haf])
          go_wp2
          unfold AtI6
          exact ⟨v51, v52, v53, v54, v55, v56, v57, v58, v59, v60, v61, v62, v63, v64, v50, v65, (.int .i64 0), v13, (.int .i64 0), g, by simp only [Act.put, List.setIfInBounds_toArray, List.set_cons_zero, List.set_cons_succ], HT.out.mark 19 (by decide), fun h => E0.out (by simpa [mkd] using h), fun h => E1.out (by simpa [mkd] using h), fun h => E2.out (by simpa [mkd] using h), fun h => E3.out (by simpa [mkd] using h), fun h => E4.out (by simpa [mkd] using h), fun h => E5.out (by simpa [mkd] using h), fun h => E6.out (by simpa [mkd] using h), fun h => E7.out (by simpa [mkd] using h), fun h => E8.out (by simpa [mkd] using h), fun h => E9.out (by simpa [mkd] using h), fun h => E10.out (by simpa [mkd] using h), fun h => E11.out (by simpa [mkd] using h), fun h => E12.out (by simpa [mkd] using h), fun h => E13.out (by simpa [mkd] using h), fun h => E14.out (by simpa [mkd] using h), fun h => E15.out (by simpa [mkd] using h), fun _ => rfl, fun h => E17.out (by simpa [mkd] using h), fun _ => rfl⟩
      case fin =>
        rintro L a1' w6 hall ⟨v51, v52, v53, v54, v55, v56, v57, v58, v59, v60, v61, v62, v63, v64, v50, v65, v66, v13, v14, g, rfl, hT, e0, e1, e2, e3, e4, e5, e6, e7, e8, e9, e10, e11, e12, e13, e14, e15, e16, e17, e19⟩
        obtain rfl := e0 (hall 0 (by decide))
        obtain rfl := e1 (hall 1 (by decide))
        obtain rfl := e2 (hall 2 (by decide))
        obtain rfl := e3 (hall 3 (by decide))
        obtain rfl := e4 (hall 4 (by decide))
        obtain rfl := e5 (hall 5 (by decide))
        obtain rfl := e6 (hall 6 (by decide))
        obtain rfl := e7 (hall 7 (by decide))
        obtain rfl := e8 (hall 8 (by decide))
        obtain rfl := e9 (hall 9 (by decide))
        obtain rfl := e10 (hall 10 (by decide))
        obtain rfl := e11 (hall 11 (by decide))
        obtain rfl := e12 (hall 12 (by decide))
        obtain rfl := e13 (hall 13 (by decide))
        obtain rfl := e14 (hall 14 (by decide))
        obtain rfl := e15 (hall 15 (by decide))
        obtain rfl := e16 (hall 16 (by decide))
        obtain rfl := e17 (hall 17 (by decide))
        obtain rfl := e19 (hall 19 (by decide))
        have D13 : Hid (D2 w6 (g 0) p q) := Lib.hid (hT.k 0 (by decide) (hall 18 (by decide)))
        have C6 := Lib.hid (C5.out.below hT.bl C5.out.lt)
        have Z6 := Lib.hid (Z5.out.below hT.bl Z5.out.lt)
        have K6 := Lib.hid (K5.out.below hT.bl K5.out.lt)
        have B6 := Lib.hid (B5.out.trans (hT.bl.mono B5.out.size))
        have G7 := Lib.hid (Q7.out.below hT.bl Q7.out.lt)
        have G8 := Lib.hid (Q8.out.below hT.bl Q8.out.lt)
        have G9 := Lib.hid (Q9.out.below hT.bl Q9.out.lt)
        have G10 := Lib.hid (Q10.out.below hT.bl Q10.out.lt)
        have G11 := Lib.hid (D11.out.below hT.bl D11.out.lt)
        have G12 := Lib.hid (D12.out.below hT.bl D12.out.lt)
        have hg13 := hT.lo 0 (by decide) (hall 17 (by decide))
        have l7 := Q7.out.lt
        have l8 := Q8.out.lt
        have l9 := Q9.out.lt
        have l10 := Q10.out.lt
        have l11 := D11.out.lt
        have l12 := D12.out.lt
        have lk := K5.out.lt
        have lz := Z5.out.lt
        clear hT hall C5 Z5 K5 B5 Q7 Q8 Q9 Q10 D11 D12 e0 e1 e2 e3 e4 e5 e6 e7 e8 e9 e10 e11 e12 e13 e14 e15 e16 e17 e19 KMU KMV KPL KAS
        generalize g 0 = g13 at *
        clear g
        obtain ⟨dt, d0, d1, -, -⟩ := D13.out
        go_wp2_with fail
        (with_reducible refine (KKA.out _ _ _ _ K6.out).mono ?_)
        rintro e w7 ⟨rfl, hb7⟩
        clear dt d0 d1
        have D13a := D13.out.below hb7 D13.out.lt
        have D13b := Lib.hid ((D13a.set0 p).set1 q)
        obtain ⟨dt, d0, d1, df0, df1⟩ := D13a
        have C7 := Lib.hid (((C6.out.below hb7 C6.out.lt).far (p := ⟨g13, 0, none⟩) (by simp only []; omega) (.int .i64 p)).far (p := ⟨g13, 1, none⟩) (by simp only []; omega) (.int .i64 q))
        have Z7 := Lib.hid (((Z6.out.below hb7 Z6.out.lt).far (p := ⟨g13, 0, none⟩) (by simp only []; omega) (.int .i64 p)).far (p := ⟨g13, 1, none⟩) (by simp only []; omega) (.int .i64 q))
        have K7 := Lib.hid (((K6.out.below hb7 K6.out.lt).far (p := ⟨g13, 0, none⟩) (by simp only []; omega) (.int .i64 p)).far (p := ⟨g13, 1, none⟩) (by simp only []; omega) (.int .i64 q))
        have H7 := Lib.hid (((G7.out.below hb7 G7.out.lt).far (p := ⟨g13, 0, none⟩) (by simp only []; omega) (.int .i64 p)).far (p := ⟨g13, 1, none⟩) (by simp only []; omega) (.int .i64 q))
        have H8 := Lib.hid (((G8.out.below hb7 G8.out.lt).far (p := ⟨g13, 0, none⟩) (by simp only []; omega) (.int .i64 p)).far (p := ⟨g13, 1, none⟩) (by simp only []; omega) (.int .i64 q))
        have H9 := Lib.hid (((G9.out.below hb7 G9.out.lt).far (p := ⟨g13, 0, none⟩) (by simp only []; omega) (.int .i64 p)).far (p := ⟨g13, 1, none⟩) (by simp only []; omega) (.int .i64 q))
        have H10 := Lib.hid (((G10.out.below hb7 G10.out.lt).far (p := ⟨g13, 0, none⟩) (by simp only []; omega) (.int .i64 p)).far (p := ⟨g13, 1, none⟩) (by simp only []; omega) (.int .i64 q))
        have H11 := Lib.hid (((G11.out.below hb7 G11.out.lt).far (p := ⟨g13, 0, none⟩) (by simp only []; omega) (.int .i64 p)).far (p := ⟨g13, 1, none⟩) (by simp only []; omega) (.int .i64 q))
        have H12 := Lib.hid (((G12.out.below hb7 G12.out.lt).far (p := ⟨g13, 0, none⟩) (by simp only []; omega) (.int .i64 p)).far (p := ⟨g13, 1, none⟩) (by simp only []; omega) (.int .i64 q))
        have B7 := Lib.hid (((B6.out.trans (hb7.mono B6.out.size)).setCell (p := ⟨g13, 0, none⟩) (by simp only []; omega) (.int .i64 p)).setCell (p := ⟨g13, 1, none⟩) (by simp only []; omega) (.int .i64 q))
        clear C6 Z6 K6 B6 G7 G8 G9 G10 G11 G12 D13
        go_upto_region 8 with (fail)
        generalize (w7.setCell ⟨g13, 0, none⟩ (.int .i64 p)).setCell ⟨g13, 1, none⟩ (.int .i64 q) = w8 at *
        clear hb7 dt d0 d1 df0 df1
        refine wp_region_inv3 (by kernel_rfl) (AtI8 w8 (.pointer (some ⟨gk, 0, none⟩)) (.agg #[.int .i64 0, .int .i64 0]) (.agg #[.int .i64 0, .int .i64 0]) (.agg #[.int .i64 0, .int .i64 0]) (.pointer (some ⟨gk, 0, none⟩)) (.pointer (some ⟨gk, 0, none⟩)) (.agg #[.int .i64 1073741824, .int .i64 1073741824]) (.agg #[.int .i64 c0, .int .i64 c1]) (.agg #[.int .i64 c0, .int .i64 c1]) (.pointer (some ⟨gk, 0, none⟩)) (.pointer (some ⟨gk, 0, none⟩)) (.agg #[.int .i64 0, .int .i64 0]) (.agg #[.int .i64 s0, .int .i64 s1]) (.agg #[.int .i64 0, .int .i64 0]) (.agg #[.int .i64 1073741824, .int .i64 1073741824]) (.agg #[.int .i64 0, .int .i64 0]) (.agg #[.int .i64 c0, .int .i64 c1]) (.int .i64 0) (.int .i64 0)) (waits_bind (by kernel_rfl)) ?start ?step ?fin
        case start => exact AtI8.start w8 _ _ _ _ _ _ _ _ _ _ _ _ _ _ _ _ _ _ _ _
        case step =>
          rintro L i o a1' w' ho hL haf ⟨v72, v73, v74, v75, v76, v77, v78, v79, v80, v81, v82, v83, v84, v85, v86, v87, v88, v89, v71, v90, v91, v15, v14, g, lo, hi, rfl, hT, ebf, ese, e0, e1, e2, e3, e4, e5, e6, e7, e8, e9, e10, e11, e12, e13, e14, e15, e16, e17, e18, e19, e20, e21, e23⟩
          have HT := Lib.hid hT
          have EBF := Lib.hid ebf
          have ESE := Lib.hid ese
          clear hT ebf ese
          have E0 := Lib.hid e0
          have E1 := Lib.hid e1
          have E2 := Lib.hid e2
          have E3 := Lib.hid e3
          have E4 := Lib.hid e4
          have E5 := Lib.hid e5
          have E6 := Lib.hid e6
          have E7 := Lib.hid e7
          have E8 := Lib.hid e8
          have E9 := Lib.hid e9
          have E10 := Lib.hid e10
          have E11 := Lib.hid e11
          have E12 := Lib.hid e12
          have E13 := Lib.hid e13
          have E14 := Lib.hid e14
          have E15 := Lib.hid e15
          have E16 := Lib.hid e16
          have E17 := Lib.hid e17
          have E18 := Lib.hid e18
          have E19 := Lib.hid e19
          have E20 := Lib.hid e20
          have E21 := Lib.hid e21
          have E23 := Lib.hid e23
          clear e0 e1 e2 e3 e4 e5 e6 e7 e8 e9 e10 e11 e12 e13 e14 e15 e16 e17 e18 e19 e20 e21 e23
          rcases i with _ | _ | _ | _ | _ | _ | _ | _ | _ | _ | _ | _ | _ | _ | _ | _ | _ | _ | _ | _ | _ | _ | _ | _ | i
          all_goals (simp at ho; try subst ho)
          all_goals (try simp [Region.binds] at haf)
          · go_wp2
            unfold AtI8
            exact ⟨(.pointer (some ⟨gk, 0, none⟩)), v73, v74, v75, v76, v77, v78, v79, v80, v81, v82, v83, v84, v85, v86, v87, v88, v89, v71, v90, v91, v15, v14, g, lo, hi, by simp only [Act.put, List.setIfInBounds_toArray, List.set_cons_zero, List.set_cons_succ], HT.out.mark 0 (by decide), fun h => EBF.out (by simpa [mkd] using h), fun h => (by have q := ESE.out (by simpa [mkd] using h); simpa [mkd] using q), fun _ => rfl, fun h => E1.out (by simpa [mkd] using h), fun h => E2.out (by simpa [mkd] using h), fun h => E3.out (by simpa [mkd] using h), fun h => E4.out (by simpa [mkd] using h), fun h => E5.out (by simpa [mkd] using h), fun h => E6.out (by simpa [mkd] using h), fun h => E7.out (by simpa [mkd] using h), fun h => E8.out (by simpa [mkd] using h), fun h => E9.out (by simpa [mkd] using h), fun h => E10.out (by simpa [mkd] using h), fun h => E11.out (by simpa [mkd] using h), fun h => E12.out (by simpa [mkd] using h), fun h => E13.out (by simpa [mkd] using h), fun h => E14.out (by simpa [mkd] using h), fun h => E15.out (by simpa [mkd] using h), fun h => E16.out (by simpa [mkd] using h), fun h => E17.out (by simpa [mkd] using h), fun h => (by have q := E18.out (by simpa [mkd] using h); exact ⟨by simpa [mkd] using q.1, q.2⟩), fun h => (by have q := E19.out (by simpa [mkd] using h); exact ⟨by simpa [mkd] using q.1, q.2⟩), fun h => E20.out (by simpa [mkd] using h), fun h => E21.out (by simpa [mkd] using h), fun h => E23.out (by simpa [mkd] using h)⟩
          · obtain ⟨-, fa, fb, -, -⟩ := H9.out.below HT.out.bl H9.out.lt
            go_wp2
            unfold AtI8
            exact ⟨v72, (.agg #[.int .i64 0, .int .i64 0]), v74, v75, v76, v77, v78, v79, v80, v81, v82, v83, v84, v85, v86, v87, v88, v89, v71, v90, v91, v15, v14, g, lo, hi, by simp only [Act.put, List.setIfInBounds_toArray, List.set_cons_zero, List.set_cons_succ], HT.out.mark 1 (by decide), fun h => EBF.out (by simpa [mkd] using h), fun h => (by have q := ESE.out (by simpa [mkd] using h); simpa [mkd] using q), fun h => E0.out (by simpa [mkd] using h), fun _ => rfl, fun h => E2.out (by simpa [mkd] using h), fun h => E3.out (by simpa [mkd] using h), fun h => E4.out (by simpa [mkd] using h), fun h => E5.out (by simpa [mkd] using h), fun h => E6.out (by simpa [mkd] using h), fun h => E7.out (by simpa [mkd] using h), fun h => E8.out (by simpa [mkd] using h), fun h => E9.out (by simpa [mkd] using h), fun h => E10.out (by simpa [mkd] using h), fun h => E11.out (by simpa [mkd] using h), fun h => E12.out (by simpa [mkd] using h), fun h => E13.out (by simpa [mkd] using h), fun h => E14.out (by simpa [mkd] using h), fun h => E15.out (by simpa [mkd] using h), fun h => E16.out (by simpa [mkd] using h), fun h => E17.out (by simpa [mkd] using h), fun h => (by have q := E18.out (by simpa [mkd] using h); exact ⟨by simpa [mkd] using q.1, q.2⟩), fun h => (by have q := E19.out (by simpa [mkd] using h); exact ⟨by simpa [mkd] using q.1, q.2⟩), fun h => E20.out (by simpa [mkd] using h), fun h => E21.out (by simpa [mkd] using h), fun h => E23.out (by simpa [mkd] using h)⟩
          · obtain ⟨-, fa, fb, -, -⟩ := H11.out.below HT.out.bl H11.out.lt
            go_wp2
            unfold AtI8
            exact ⟨v72, v73, (.agg #[.int .i64 0, .int .i64 0]), v75, v76, v77, v78, v79, v80, v81, v82, v83, v84, v85, v86, v87, v88, v89, v71, v90, v91, v15, v14, g, lo, hi, by simp only [Act.put, List.setIfInBounds_toArray, List.set_cons_zero, List.set_cons_succ], HT.out.mark 2 (by decide), fun h => EBF.out (by simpa [mkd] using h), fun h => (by have q := ESE.out (by simpa [mkd] using h); simpa [mkd] using q), fun h => E0.out (by simpa [mkd] using h), fun h => E1.out (by simpa [mkd] using h), fun _ => rfl, fun h => E3.out (by simpa [mkd] using h), fun h => E4.out (by simpa [mkd] using h), fun h => E5.out (by simpa [mkd] using h), fun h => E6.out (by simpa [mkd] using h), fun h => E7.out (by simpa [mkd] using h), fun h => E8.out (by simpa [mkd] using h), fun h => E9.out (by simpa [mkd] using h), fun h => E10.out (by simpa [mkd] using h), fun h => E11.out (by simpa [mkd] using h), fun h => E12.out (by simpa [mkd] using h), fun h => E13.out (by simpa [mkd] using h), fun h => E14.out (by simpa [mkd] using h), fun h => E15.out (by simpa [mkd] using h), fun h => E16.out (by simpa [mkd] using h), fun h => E17.out (by simpa [mkd] using h), fun h => (by have q := E18.out (by simpa [mkd] using h); exact ⟨by simpa [mkd] using q.1, q.2⟩), fun h => (by have q := E19.out (by simpa [mkd] using h); exact ⟨by simpa [mkd] using q.1, q.2⟩), fun h => E20.out (by simpa [mkd] using h), fun h => E21.out (by simpa [mkd] using h), fun h => E23.out (by simpa [mkd] using h)⟩
          · have K9 := Lib.hid (K7.out.below HT.out.bl K7.out.lt)
            obtain rfl := E0.out (by simp [haf])
            obtain rfl := E1.out (by simp [haf])
            obtain rfl := E2.out (by simp [haf])
            go_wp2_with fail
            (with_reducible refine (KMY.out _ _ K9.out).mono ?_)
            rintro e w9 ⟨rfl, hb9⟩
            go_wp2
            unfold AtI8
            exact ⟨(.pointer (some ⟨gk, 0, none⟩)), (.agg #[.int .i64 0, .int .i64 0]), (.agg #[.int .i64 0, .int .i64 0]), (.agg #[.int .i64 0, .int .i64 0]), v76, v77, v78, v79, v80, v81, v82, v83, v84, v85, v86, v87, v88, v89, v71, v90, v91, v15, v14, g, lo, hi, by simp only [Act.put, List.setIfInBounds_toArray, List.set_cons_zero, List.set_cons_succ], (HT.out.call hb9).mark 3 (by decide), fun h => EBF.out (by simpa [mkd] using h), fun h => (by have q := ESE.out (by simpa [mkd] using h); simpa [mkd] using q), fun _ => rfl, fun _ => rfl, fun _ => rfl, fun _ => rfl, fun h => E4.out (by simpa [mkd] using h), fun h => E5.out (by simpa [mkd] using h), fun h => E6.out (by simpa [mkd] using h), fun h => E7.out (by simpa [mkd] using h), fun h => E8.out (by simpa [mkd] using h), fun h => E9.out (by simpa [mkd] using h), fun h => E10.out (by simpa [mkd] using h), fun h => E11.out (by simpa [mkd] using h), fun h => E12.out (by simpa [mkd] using h), fun h => E13.out (by simpa [mkd] using h), fun h => E14.out (by simpa [mkd] using h), fun h => E15.out (by simpa [mkd] using h), fun h => E16.out (by simpa [mkd] using h), fun h => E17.out (by simpa [mkd] using h), fun h => (by have q := E18.out (by simpa [mkd] using h); exact ⟨by simpa [mkd] using q.1, q.2⟩), fun h => (by have q := E19.out (by simpa [mkd] using h); exact ⟨by simpa [mkd] using q.1, q.2⟩), fun h => E20.out (by simpa [mkd] using h), fun h => E21.out (by simpa [mkd] using h), fun h => E23.out (by simpa [mkd] using h)⟩
          · go_wp2
            unfold AtI8
            exact ⟨v72, v73, v74, v75, (.pointer (some ⟨gk, 0, none⟩)), v77, v78, v79, v80, v81, v82, v83, v84, v85, v86, v87, v88, v89, v71, v90, v91, v15, v14, g, lo, hi, by simp only [Act.put, List.setIfInBounds_toArray, List.set_cons_zero, List.set_cons_succ], HT.out.mark 4 (by decide), fun h => EBF.out (by simpa [mkd] using h), fun h => (by have q := ESE.out (by simpa [mkd] using h); simpa [mkd] using q), fun h => E0.out (by simpa [mkd] using h), fun h => E1.out (by simpa [mkd] using h), fun h => E2.out (by simpa [mkd] using h), fun h => E3.out (by simpa [mkd] using h), fun _ => rfl, fun h => E5.out (by simpa [mkd] using h), fun h => E6.out (by simpa [mkd] using h), fun h => E7.out (by simpa [mkd] using h), fun h => E8.out (by simpa [mkd] using h), fun h => E9.out (by simpa [mkd] using h), fun h => E10.out (by simpa [mkd] using h), fun h => E11.out (by simpa [mkd] using h), fun h => E12.out (by simpa [mkd] using h), fun h => E13.out (by simpa [mkd] using h), fun h => E14.out (by simpa [mkd] using h), fun h => E15.out (by simpa [mkd] using h), fun h => E16.out (by simpa [mkd] using h), fun h => E17.out (by simpa [mkd] using h), fun h => (by have q := E18.out (by simpa [mkd] using h); exact ⟨by simpa [mkd] using q.1, q.2⟩), fun h => (by have q := E19.out (by simpa [mkd] using h); exact ⟨by simpa [mkd] using q.1, q.2⟩), fun h => E20.out (by simpa [mkd] using h), fun h => E21.out (by simpa [mkd] using h), fun h => E23.out (by simpa [mkd] using h)⟩
          · go_wp2
            unfold AtI8
            exact ⟨v72, v73, v74, v75, v76, (.pointer (some ⟨gk, 0, none⟩)), v78, v79, v80, v81, v82, v83, v84, v85, v86, v87, v88, v89, v71, v90, v91, v15, v14, g, lo, hi, by simp only [Act.put, List.setIfInBounds_toArray, List.set_cons_zero, List.set_cons_succ], HT.out.mark 5 (by decide), fun h => EBF.out (by simpa [mkd] using h), fun h => (by have q := ESE.out (by simpa [mkd] using h); simpa [mkd] using q), fun h => E0.out (by simpa [mkd] using h), fun h => E1.out (by simpa [mkd] using h), fun h => E2.out (by simpa [mkd] using h), fun h => E3.out (by simpa [mkd] using h), fun h => E4.out (by simpa [mkd] using h), fun _ => rfl, fun h => E6.out (by simpa [mkd] using h), fun h => E7.out (by simpa [mkd] using h), fun h => E8.out (by simpa [mkd] using h), fun h => E9.out (by simpa [mkd] using h), fun h => E10.out (by simpa [mkd] using h), fun h => E11.out (by simpa [mkd] using h), fun h => E12.out (by simpa [mkd] using h), fun h => E13.out (by simpa [mkd] using h), fun h => E14.out (by simpa [mkd] using h), fun h => E15.out (by simpa [mkd] using h), fun h => E16.out (by simpa [mkd] using h), fun h => E17.out (by simpa [mkd] using h), fun h => (by have q := E18.out (by simpa [mkd] using h); exact ⟨by simpa [mkd] using q.1, q.2⟩), fun h => (by have q := E19.out (by simpa [mkd] using h); exact ⟨by simpa [mkd] using q.1, q.2⟩), fun h => E20.out (by simpa [mkd] using h), fun h => E21.out (by simpa [mkd] using h), fun h => E23.out (by simpa [mkd] using h)⟩
          · obtain ⟨-, fa, fb, -, -⟩ := H10.out.below HT.out.bl H10.out.lt
            go_wp2
            unfold AtI8
            exact ⟨v72, v73, v74, v75, v76, v77, (.agg #[.int .i64 1073741824, .int .i64 1073741824]), v79, v80, v81, v82, v83, v84, v85, v86, v87, v88, v89, v71, v90, v91, v15, v14, g, lo, hi, by simp only [Act.put, List.setIfInBounds_toArray, List.set_cons_zero, List.set_cons_succ], HT.out.mark 6 (by decide), fun h => EBF.out (by simpa [mkd] using h), fun h => (by have q := ESE.out (by simpa [mkd] using h); simpa [mkd] using q), fun h => E0.out (by simpa [mkd] using h), fun h => E1.out (by simpa [mkd] using h), fun h => E2.out (by simpa [mkd] using h), fun h => E3.out (by simpa [mkd] using h), fun h => E4.out (by simpa [mkd] using h), fun h => E5.out (by simpa [mkd] using h), fun _ => rfl, fun h => E7.out (by simpa [mkd] using h), fun h => E8.out (by simpa [mkd] using h), fun h => E9.out (by simpa [mkd] using h), fun h => E10.out (by simpa [mkd] using h), fun h => E11.out (by simpa [mkd] using h), fun h => E12.out (by simpa [mkd] using h), fun h => E13.out (by simpa [mkd] using h), fun h => E14.out (by simpa [mkd] using h), fun h => E15.out (by simpa [mkd] using h), fun h => E16.out (by simpa [mkd] using h), fun h => E17.out (by simpa [mkd] using h), fun h => (by have q := E18.out (by simpa [mkd] using h); exact ⟨by simpa [mkd] using q.1, q.2⟩), fun h => (by have q := E19.out (by simpa [mkd] using h); exact ⟨by simpa [mkd] using q.1, q.2⟩), fun h => E20.out (by simpa [mkd] using h), fun h => E21.out (by simpa [mkd] using h), fun h => E23.out (by simpa [mkd] using h)⟩
          · obtain ⟨-, fa, fb, -, -⟩ := H8.out.below HT.out.bl H8.out.lt
            go_wp2
            unfold AtI8
            exact ⟨v72, v73, v74, v75, v76, v77, v78, (.agg #[.int .i64 c0, .int .i64 c1]), v80, v81, v82, v83, v84, v85, v86, v87, v88, v89, v71, v90, v91, v15, v14, g, lo, hi, by simp only [Act.put, List.setIfInBounds_toArray, List.set_cons_zero, List.set_cons_succ], HT.out.mark 7 (by decide), fun h => EBF.out (by simpa [mkd] using h), fun h => (by have q := ESE.out (by simpa [mkd] using h); simpa [mkd] using q), fun h => E0.out (by simpa [mkd] using h), fun h => E1.out (by simpa [mkd] using h), fun h => E2.out (by simpa [mkd] using h), fun h => E3.out (by simpa [mkd] using h), fun h => E4.out (by simpa [mkd] using h), fun h => E5.out (by simpa [mkd] using h), fun h => E6.out (by simpa [mkd] using h), fun _ => rfl, fun h => E8.out (by simpa [mkd] using h), fun h => E9.out (by simpa [mkd] using h), fun h => E10.out (by simpa [mkd] using h), fun h => E11.out (by simpa [mkd] using h), fun h => E12.out (by simpa [mkd] using h), fun h => E13.out (by simpa [mkd] using h), fun h => E14.out (by simpa [mkd] using h), fun h => E15.out (by simpa [mkd] using h), fun h => E16.out (by simpa [mkd] using h), fun h => E17.out (by simpa [mkd] using h), fun h => (by have q := E18.out (by simpa [mkd] using h); exact ⟨by simpa [mkd] using q.1, q.2⟩), fun h => (by have q := E19.out (by simpa [mkd] using h); exact ⟨by simpa [mkd] using q.1, q.2⟩), fun h => E20.out (by simpa [mkd] using h), fun h => E21.out (by simpa [mkd] using h), fun h => E23.out (by simpa [mkd] using h)⟩
          · have K9 := Lib.hid (K7.out.below HT.out.bl K7.out.lt)
            obtain rfl := E5.out (by simp [haf])
            obtain rfl := E6.out (by simp [haf])
            obtain rfl := E7.out (by simp [haf])
            go_wp2_with fail
            (with_reducible refine (KMX.out _ _ K9.out).mono ?_)
            rintro e w9 ⟨rfl, hb9⟩
            go_wp2
            unfold AtI8
            exact ⟨v72, v73, v74, v75, v76, (.pointer (some ⟨gk, 0, none⟩)), (.agg #[.int .i64 1073741824, .int .i64 1073741824]), (.agg #[.int .i64 c0, .int .i64 c1]), (.agg #[.int .i64 c0, .int .i64 c1]), v81, v82, v83, v84, v85, v86, v87, v88, v89, v71, v90, v91, v15, v14, g, lo, hi, by simp only [Act.put, List.setIfInBounds_toArray, List.set_cons_zero, List.set_cons_succ], (HT.out.call hb9).mark 8 (by decide), fun h => EBF.out (by simpa [mkd] using h), fun h => (by have q := ESE.out (by simpa [mkd] using h); simpa [mkd] using q), fun h => E0.out (by simpa [mkd] using h), fun h => E1.out (by simpa [mkd] using h), fun h => E2.out (by simpa [mkd] using h), fun h => E3.out (by simpa [mkd] using h), fun h => E4.out (by simpa [mkd] using h), fun _ => rfl, fun _ => rfl, fun _ => rfl, fun _ => rfl, fun h => E9.out (by simpa [mkd] using h), fun h => E10.out (by simpa [mkd] using h), fun h => E11.out (by simpa [mkd] using h), fun h => E12.out (by simpa [mkd] using h), fun h => E13.out (by simpa [mkd] using h), fun h => E14.out (by simpa [mkd] using h), fun h => E15.out (by simpa [mkd] using h), fun h => E16.out (by simpa [mkd] using h), fun h => E17.out (by simpa [mkd] using h), fun h => (by have q := E18.out (by simpa [mkd] using h); exact ⟨by simpa [mkd] using q.1, q.2⟩), fun h => (by have q := E19.out (by simpa [mkd] using h); exact ⟨by simpa [mkd] using q.1, q.2⟩), fun h => E20.out (by simpa [mkd] using h), fun h => E21.out (by simpa [mkd] using h), fun h => E23.out (by simpa [mkd] using h)⟩
          · go_wp2
            unfold AtI8
            exact ⟨v72, v73, v74, v75, v76, v77, v78, v79, v80, (.pointer (some ⟨gk, 0, none⟩)), v82, v83, v84, v85, v86, v87, v88, v89, v71, v90, v91, v15, v14, g, lo, hi, by simp only [Act.put, List.setIfInBounds_toArray, List.set_cons_zero, List.set_cons_succ], HT.out.mark 9 (by decide), fun h => EBF.out (by simpa [mkd] using h), fun h => (by have q := ESE.out (by simpa [mkd] using h); simpa [mkd] using q), fun h => E0.out (by simpa [mkd] using h), fun h => E1.out (by simpa [mkd] using h), fun h => E2.out (by simpa [mkd] using h), fun h => E3.out (by simpa [mkd] using h), fun h => E4.out (by simpa [mkd] using h), fun h => E5.out (by simpa [mkd] using h), fun h => E6.out (by simpa [mkd] using h), fun h => E7.out (by simpa [mkd] using h), fun h => E8.out (by simpa [mkd] using h), fun _ => rfl, fun h => E10.out (by simpa [mkd] using h), fun h => E11.out (by simpa [mkd] using h), fun h => E12.out (by simpa [mkd] using h), fun h => E13.out (by simpa [mkd] using h), fun h => E14.out (by simpa [mkd] using h), fun h => E15.out (by simpa [mkd] using h), fun h => E16.out (by simpa [mkd] using h), fun h => E17.out (by simpa [mkd] using h), fun h => (by have q := E18.out (by simpa [mkd] using h); exact ⟨by simpa [mkd] using q.1, q.2⟩), fun h => (by have q := E19.out (by simpa [mkd] using h); exact ⟨by simpa [mkd] using q.1, q.2⟩), fun h => E20.out (by simpa [mkd] using h), fun h => E21.out (by simpa [mkd] using h), fun h => E23.out (by simpa [mkd] using h)⟩
          · go_wp2
            unfold AtI8
            exact ⟨v72, v73, v74, v75, v76, v77, v78, v79, v80, v81, (.pointer (some ⟨gk, 0, none⟩)), v83, v84, v85, v86, v87, v88, v89, v71, v90, v91, v15, v14, g, lo, hi, by simp only [Act.put, List.setIfInBounds_toArray, List.set_cons_zero, List.set_cons_succ], HT.out.mark 10 (by decide), fun h => EBF.out (by simpa [mkd] using h), fun h => (by have q := ESE.out (by simpa [mkd] using h); simpa [mkd] using q), fun h => E0.out (by simpa [mkd] using h), fun h => E1.out (by simpa [mkd] using h), fun h => E2.out (by simpa [mkd] using h), fun h => E3.out (by simpa [mkd] using h), fun h => E4.out (by simpa [mkd] using h), fun h => E5.out (by simpa [mkd] using h), fun h => E6.out (by simpa [mkd] using h), fun h => E7.out (by simpa [mkd] using h), fun h => E8.out (by simpa [mkd] using h), fun h => E9.out (by simpa [mkd] using h), fun _ => rfl, fun h => E11.out (by simpa [mkd] using h), fun h => E12.out (by simpa [mkd] using h), fun h => E13.out (by simpa [mkd] using h), fun h => E14.out (by simpa [mkd] using h), fun h => E15.out (by simpa [mkd] using h), fun h => E16.out (by simpa [mkd] using h), fun h => E17.out (by simpa [mkd] using h), fun h => (by have q := E18.out (by simpa [mkd] using h); exact ⟨by simpa [mkd] using q.1, q.2⟩), fun h => (by have q := E19.out (by simpa [mkd] using h); exact ⟨by simpa [mkd] using q.1, q.2⟩), fun h => E20.out (by simpa [mkd] using h), fun h => E21.out (by simpa [mkd] using h), fun h => E23.out (by simpa [mkd] using h)⟩
          · obtain ⟨-, fa, fb, -, -⟩ := H9.out.below HT.out.bl H9.out.lt
            go_wp2
            unfold AtI8
            exact ⟨v72, v73, v74, v75, v76, v77, v78, v79, v80, v81, v82, (.agg #[.int .i64 0, .int .i64 0]), v84, v85, v86, v87, v88, v89, v71, v90, v91, v15, v14, g, lo, hi, by simp only [Act.put, List.setIfInBounds_toArray, List.set_cons_zero, List.set_cons_succ], HT.out.mark 11 (by decide), fun h => EBF.out (by simpa [mkd] using h), fun h => (by have q := ESE.out (by simpa [mkd] using h); simpa [mkd] using q), fun h => E0.out (by simpa [mkd] using h), fun h => E1.out (by simpa [mkd] using h), fun h => E2.out (by simpa [mkd] using h), fun h => E3.out (by simpa [mkd] using h), fun h => E4.out (by simpa [mkd] using h), fun h => E5.out (by simpa [mkd] using h), fun h => E6.out (by simpa [mkd] using h), fun h => E7.out (by simpa [mkd] using h), fun h => E8.out (by simpa [mkd] using h), fun h => E9.out (by simpa [mkd] using h), fun h => E10.out (by simpa [mkd] using h), fun _ => rfl, fun h => E12.out (by simpa [mkd] using h), fun h => E13.out (by simpa [mkd] using h), fun h => E14.out (by simpa [mkd] using h), fun h => E15.out (by simpa [mkd] using h), fun h => E16.out (by simpa [mkd] using h), fun h => E17.out (by simpa [mkd] using h), fun h => (by have q := E18.out (by simpa [mkd] using h); exact ⟨by simpa [mkd] using q.1, q.2⟩), fun h => (by have q := E19.out (by simpa [mkd] using h); exact ⟨by simpa [mkd] using q.1, q.2⟩), fun h => E20.out (by simpa [mkd] using h), fun h => E21.out (by simpa [mkd] using h), fun h => E23.out (by simpa [mkd] using h)⟩
          · obtain ⟨-, fa, fb, -, -⟩ := H7.out.below HT.out.bl H7.out.lt
            go_wp2
            unfold AtI8
            exact ⟨v72, v73, v74, v75, v76, v77, v78, v79, v80, v81, v82, v83, (.agg #[.int .i64 s0, .int .i64 s1]), v85, v86, v87, v88, v89, v71, v90, v91, v15, v14, g, lo, hi, by simp only [Act.put, List.setIfInBounds_toArray, List.set_cons_zero, List.set_cons_succ], HT.out.mark 12 (by decide), fun h => EBF.out (by simpa [mkd] using h), fun h => (by have q := ESE.out (by simpa [mkd] using h); simpa [mkd] using q), fun h => E0.out (by simpa [mkd] using h), fun h => E1.out (by simpa [mkd] using h), fun h => E2.out (by simpa [mkd] using h), fun h => E3.out (by simpa [mkd] using h), fun h => E4.out (by simpa [mkd] using h), fun h => E5.out (by simpa [mkd] using h), fun h => E6.out (by simpa [mkd] using h), fun h => E7.out (by simpa [mkd] using h), fun h => E8.out (by simpa [mkd] using h), fun h => E9.out (by simpa [mkd] using h), fun h => E10.out (by simpa [mkd] using h), fun h => E11.out (by simpa [mkd] using h), fun _ => rfl, fun h => E13.out (by simpa [mkd] using h), fun h => E14.out (by simpa [mkd] using h), fun h => E15.out (by simpa [mkd] using h), fun h => E16.out (by simpa [mkd] using h), fun h => E17.out (by simpa [mkd] using h), fun h => (by have q := E18.out (by simpa [mkd] using h); exact ⟨by simpa [mkd] using q.1, q.2⟩), fun h => (by have q := E19.out (by simpa [mkd] using h); exact ⟨by simpa [mkd] using q.1, q.2⟩), fun h => E20.out (by simpa [mkd] using h), fun h => E21.out (by simpa [mkd] using h), fun h => E23.out (by simpa [mkd] using h)⟩
          · have K9 := Lib.hid (K7.out.below HT.out.bl K7.out.lt)
            obtain rfl := E10.out (by simp [haf])
            obtain rfl := E11.out (by simp [haf])
            obtain rfl := E12.out (by simp [haf])
            go_wp2_with fail
            (with_reducible refine (KMW.out _ _ K9.out).mono ?_)
            rintro e w9 ⟨rfl, hb9⟩
            go_wp2
            unfold AtI8
            exact ⟨v72, v73, v74, v75, v76, v77, v78, v79, v80, v81, (.pointer (some ⟨gk, 0, none⟩)), (.agg #[.int .i64 0, .int .i64 0]), (.agg #[.int .i64 s0, .int .i64 s1]), (.agg #[.int .i64 0, .int .i64 0]), v86, v87, v88, v89, v71, v90, v91, v15, v14, g, lo, hi, by simp only [Act.put, List.setIfInBounds_toArray, List.set_cons_zero, List.set_cons_succ], (HT.out.call hb9).mark 13 (by decide), fun h => EBF.out (by simpa [mkd] using h), fun h => (by have q := ESE.out (by simpa [mkd] using h); simpa [mkd] using q), fun h => E0.out (by simpa [mkd] using h), fun h => E1.out (by simpa [mkd] using h), fun h => E2.out (by simpa [mkd] using h), fun h => E3.out (by simpa [mkd] using h), fun h => E4.out (by simpa [mkd] using h), fun h => E5.out (by simpa [mkd] using h), fun h => E6.out (by simpa [mkd] using h), fun h => E7.out (by simpa [mkd] using h), fun h => E8.out (by simpa [mkd] using h), fun h => E9.out (by simpa [mkd] using h), fun _ => rfl, fun _ => rfl, fun _ => rfl, fun _ => rfl, fun h => E14.out (by simpa [mkd] using h), fun h => E15.out (by simpa [mkd] using h), fun h => E16.out (by simpa [mkd] using h), fun h => E17.out (by simpa [mkd] using h), fun h => (by have q := E18.out (by simpa [mkd] using h); exact ⟨by simpa [mkd] using q.1, q.2⟩), fun h => (by have q := E19.out (by simpa [mkd] using h); exact ⟨by simpa [mkd] using q.1, q.2⟩), fun h => E20.out (by simpa [mkd] using h), fun h => E21.out (by simpa [mkd] using h), fun h => E23.out (by simpa [mkd] using h)⟩
          · obtain ⟨-, fa, fb, -, -⟩ := H12.out.below HT.out.bl H12.out.lt
            go_wp2
            unfold AtI8
            exact ⟨v72, v73, v74, v75, v76, v77, v78, v79, v80, v81, v82, v83, v84, v85, (.agg #[.int .i64 1073741824, .int .i64 1073741824]), v87, v88, v89, v71, v90, v91, v15, v14, g, lo, hi, by simp only [Act.put, List.setIfInBounds_toArray, List.set_cons_zero, List.set_cons_succ], HT.out.mark 14 (by decide), fun h => EBF.out (by simpa [mkd] using h), fun h => (by have q := ESE.out (by simpa [mkd] using h); simpa [mkd] using q), fun h => E0.out (by simpa [mkd] using h), fun h => E1.out (by simpa [mkd] using h), fun h => E2.out (by simpa [mkd] using h), fun h => E3.out (by simpa [mkd] using h), fun h => E4.out (by simpa [mkd] using h), fun h => E5.out (by simpa [mkd] using h), fun h => E6.out (by simpa [mkd] using h), fun h => E7.out (by simpa [mkd] using h), fun h => E8.out (by simpa [mkd] using h), fun h => E9.out (by simpa [mkd] using h), fun h => E10.out (by simpa [mkd] using h), fun h => E11.out (by simpa [mkd] using h), fun h => E12.out (by simpa [mkd] using h), fun h => E13.out (by simpa [mkd] using h), fun _ => rfl, fun h => E15.out (by simpa [mkd] using h), fun h => E16.out (by simpa [mkd] using h), fun h => E17.out (by simpa [mkd] using h), fun h => (by have q := E18.out (by simpa [mkd] using h); exact ⟨by simpa [mkd] using q.1, q.2⟩), fun h => (by have q := E19.out (by simpa [mkd] using h); exact ⟨by simpa [mkd] using q.1, q.2⟩), fun h => E20.out (by simpa [mkd] using h), fun h => E21.out (by simpa [mkd] using h), fun h => E23.out (by simpa [mkd] using h)⟩
          · have K9 := Lib.hid (K7.out.below HT.out.bl K7.out.lt)
            obtain rfl := E9.out (by simp [haf])
            obtain rfl := E13.out (by simp [haf])
            obtain rfl := E14.out (by simp [haf])
            go_wp2_with fail
            (with_reducible refine (KMZ.out _ _ K9.out).mono ?_)
            rintro e w9 ⟨rfl, hb9⟩
            go_wp2
            unfold AtI8
            exact ⟨v72, v73, v74, v75, v76, v77, v78, v79, v80, (.pointer (some ⟨gk, 0, none⟩)), v82, v83, v84, (.agg #[.int .i64 0, .int .i64 0]), (.agg #[.int .i64 1073741824, .int .i64 1073741824]), (.agg #[.int .i64 0, .int .i64 0]), v88, v89, v71, v90, v91, v15, v14, g, lo, hi, by simp only [Act.put, List.setIfInBounds_toArray, List.set_cons_zero, List.set_cons_succ], (HT.out.call hb9).mark 15 (by decide), fun h => EBF.out (by simpa [mkd] using h), fun h => (by have q := ESE.out (by simpa [mkd] using h); simpa [mkd] using q), fun h => E0.out (by simpa [mkd] using h), fun h => E1.out (by simpa [mkd] using h), fun h => E2.out (by simpa [mkd] using h), fun h => E3.out (by simpa [mkd] using h), fun h => E4.out (by simpa [mkd] using h), fun h => E5.out (by simpa [mkd] using h), fun h => E6.out (by simpa [mkd] using h), fun h => E7.out (by simpa [mkd] using h), fun h => E8.out (by simpa [mkd] using h), fun _ => rfl, fun h => E10.out (by simpa [mkd] using h), fun h => E11.out (by simpa [mkd] using h), fun h => E12.out (by simpa [mkd] using h), fun _ => rfl, fun _ => rfl, fun _ => rfl, fun h => E16.out (by simpa [mkd] using h), fun h => E17.out (by simpa [mkd] using h), fun h => (by have q := E18.out (by simpa [mkd] using h); exact ⟨by simpa [mkd] using q.1, q.2⟩), fun h => (by have q := E19.out (by simpa [mkd] using h); exact ⟨by simpa [mkd] using q.1, q.2⟩), fun h => E20.out (by simpa [mkd] using h), fun h => E21.out (by simpa [mkd] using h), fun h => E23.out (by simpa [mkd] using h)⟩
          · have K9 := Lib.hid (K7.out.below HT.out.bl K7.out.lt)
            obtain rfl := E4.out (by simp [haf])
            obtain rfl := E8.out (by simp [haf])
            obtain rfl := E15.out (by simp [haf])
            go_wp2_with fail
            (with_reducible refine (KMI.out _ _ K9.out).mono ?_)
            rintro e w9 ⟨rfl, hb9⟩
            go_wp2
            unfold AtI8
            exact ⟨v72, v73, v74, v75, (.pointer (some ⟨gk, 0, none⟩)), v77, v78, v79, (.agg #[.int .i64 c0, .int .i64 c1]), v81, v82, v83, v84, v85, v86, (.agg #[.int .i64 0, .int .i64 0]), (.agg #[.int .i64 c0, .int .i64 c1]), v89, v71, v90, v91, v15, v14, g, lo, hi, by simp only [Act.put, List.setIfInBounds_toArray, List.set_cons_zero, List.set_cons_succ], (HT.out.call hb9).mark 16 (by decide), fun h => EBF.out (by simpa [mkd] using h), fun h => (by have q := ESE.out (by simpa [mkd] using h); simpa [mkd] using q), fun h => E0.out (by simpa [mkd] using h), fun h => E1.out (by simpa [mkd] using h), fun h => E2.out (by simpa [mkd] using h), fun h => E3.out (by simpa [mkd] using h), fun _ => rfl, fun h => E5.out (by simpa [mkd] using h), fun h => E6.out (by simpa [mkd] using h), fun h => E7.out (by simpa [mkd] using h), fun _ => rfl, fun h => E9.out (by simpa [mkd] using h), fun h => E10.out (by simpa [mkd] using h), fun h => E11.out (by simpa [mkd] using h), fun h => E12.out (by simpa [mkd] using h), fun h => E13.out (by simpa [mkd] using h), fun h => E14.out (by simpa [mkd] using h), fun _ => rfl, fun _ => rfl, fun h => E17.out (by simpa [mkd] using h), fun h => (by have q := E18.out (by simpa [mkd] using h); exact ⟨by simpa [mkd] using q.1, q.2⟩), fun h => (by have q := E19.out (by simpa [mkd] using h); exact ⟨by simpa [mkd] using q.1, q.2⟩), fun h => E20.out (by simpa [mkd] using h), fun h => E21.out (by simpa [mkd] using h), fun h => E23.out (by simpa [mkd] using h)⟩
          · have K9 := Lib.hid (K7.out.below HT.out.bl K7.out.lt)
            obtain rfl := E3.out (by simp [haf])
            obtain rfl := E16.out (by simp [haf])
            go_wp2_with fail
            (with_reducible refine (KBE.out _).mono ?_)
            rintro e w9 ⟨⟨lo', hi', rfl, hbf⟩, hb9⟩
            go_wp2
            have hS : ∀ k, k < 1 → L (22 + k) = false := fun k hk => by
              obtain rfl : k = 0 := by omega
              cases q : L (22 + 0) with
              | false => rfl
              | true => have := ESE.out q; rw [hL] at this; cases this
            unfold AtI8
            exact ⟨v72, v73, v74, (.agg #[.int .i64 0, .int .i64 0]), v76, v77, v78, v79, v80, v81, v82, v83, v84, v85, v86, v87, (.agg #[.int .i64 c0, .int .i64 c1]), (.tuple #[.agg #[.int .i64 lo', .int .i64 hi'], .int .i64 0]), v71, v90, v91, v15, v14, g, lo', hi', by simp only [Act.put, List.setIfInBounds_toArray, List.set_cons_zero, List.set_cons_succ], ((HT.out.call hb9).setv hS _).mark 17 (by decide), fun _ => hbf, fun _ => mkd_same _ _, fun h => E0.out (by simpa [mkd] using h), fun h => E1.out (by simpa [mkd] using h), fun h => E2.out (by simpa [mkd] using h), fun _ => rfl, fun h => E4.out (by simpa [mkd] using h), fun h => E5.out (by simpa [mkd] using h), fun h => E6.out (by simpa [mkd] using h), fun h => E7.out (by simpa [mkd] using h), fun h => E8.out (by simpa [mkd] using h), fun h => E9.out (by simpa [mkd] using h), fun h => E10.out (by simpa [mkd] using h), fun h => E11.out (by simpa [mkd] using h), fun h => E12.out (by simpa [mkd] using h), fun h => E13.out (by simpa [mkd] using h), fun h => E14.out (by simpa [mkd] using h), fun h => E15.out (by simpa [mkd] using h), fun _ => rfl, fun _ => rfl, fun h => (by have q := (E18.out (by simpa [mkd] using h)).1; rw [hL] at q; cases q), fun h => (by have q := (E19.out (by simpa [mkd] using h)).1; rw [hL] at q; cases q), fun h => E20.out (by simpa [mkd] using h), fun h => E21.out (by simpa [mkd] using h), fun h => E23.out (by simpa [mkd] using h)⟩
          · obtain rfl := E17.out (by simp [haf])
            go_wp2
            unfold AtI8
            exact ⟨v72, v73, v74, v75, v76, v77, v78, v79, v80, v81, v82, v83, v84, v85, v86, v87, v88, (.tuple #[.agg #[.int .i64 lo, .int .i64 hi], .int .i64 0]), (.tuple #[.agg #[.int .i64 lo, .int .i64 hi], .int .i64 0]), v90, v91, v15, v14, g, lo, hi, by simp only [Act.put, List.setIfInBounds_toArray, List.set_cons_zero, List.set_cons_succ], HT.out.mark 18 (by decide), fun h => EBF.out (by simpa [mkd] using h), fun h => (by have q := ESE.out (by simpa [mkd] using h); simpa [mkd] using q), fun h => E0.out (by simpa [mkd] using h), fun h => E1.out (by simpa [mkd] using h), fun h => E2.out (by simpa [mkd] using h), fun h => E3.out (by simpa [mkd] using h), fun h => E4.out (by simpa [mkd] using h), fun h => E5.out (by simpa [mkd] using h), fun h => E6.out (by simpa [mkd] using h), fun h => E7.out (by simpa [mkd] using h), fun h => E8.out (by simpa [mkd] using h), fun h => E9.out (by simpa [mkd] using h), fun h => E10.out (by simpa [mkd] using h), fun h => E11.out (by simpa [mkd] using h), fun h => E12.out (by simpa [mkd] using h), fun h => E13.out (by simpa [mkd] using h), fun h => E14.out (by simpa [mkd] using h), fun h => E15.out (by simpa [mkd] using h), fun h => E16.out (by simpa [mkd] using h), fun _ => rfl, fun _ => ⟨by have q : L 17 = true := (by simp [haf]); simpa [mkd] using q, rfl⟩, fun h => (by have q := E19.out (by simpa [mkd] using h); exact ⟨by simpa [mkd] using q.1, q.2⟩), fun h => E20.out (by simpa [mkd] using h), fun h => E21.out (by simpa [mkd] using h), fun h => E23.out (by simpa [mkd] using h)⟩
          · obtain ⟨-, rfl⟩ := E18.out (by simp [haf])
            go_wp2
            unfold AtI8
            exact ⟨v72, v73, v74, v75, v76, v77, v78, v79, v80, v81, v82, v83, v84, v85, v86, v87, v88, v89, (.tuple #[.agg #[.int .i64 lo, .int .i64 hi], .int .i64 0]), (.agg #[.int .i64 lo, .int .i64 hi]), v91, v15, v14, g, lo, hi, by simp only [Act.put, List.setIfInBounds_toArray, List.set_cons_zero, List.set_cons_succ], HT.out.mark 19 (by decide), fun h => EBF.out (by simpa [mkd] using h), fun h => (by have q := ESE.out (by simpa [mkd] using h); simpa [mkd] using q), fun h => E0.out (by simpa [mkd] using h), fun h => E1.out (by simpa [mkd] using h), fun h => E2.out (by simpa [mkd] using h), fun h => E3.out (by simpa [mkd] using h), fun h => E4.out (by simpa [mkd] using h), fun h => E5.out (by simpa [mkd] using h), fun h => E6.out (by simpa [mkd] using h), fun h => E7.out (by simpa [mkd] using h), fun h => E8.out (by simpa [mkd] using h), fun h => E9.out (by simpa [mkd] using h), fun h => E10.out (by simpa [mkd] using h), fun h => E11.out (by simpa [mkd] using h), fun h => E12.out (by simpa [mkd] using h), fun h => E13.out (by simpa [mkd] using h), fun h => E14.out (by simpa [mkd] using h), fun h => E15.out (by simpa [mkd] using h), fun h => E16.out (by simpa [mkd] using h), fun h => E17.out (by simpa [mkd] using h), fun _ => ⟨by have q := (E18.out (by simp [haf])).1; simpa [mkd] using q, rfl⟩, fun _ => ⟨by have q := (E18.out (by simp [haf])).1; simpa [mkd] using q, rfl⟩, fun h => E20.out (by simpa [mkd] using h), fun h => E21.out (by simpa [mkd] using h), fun h => E23.out (by simpa [mkd] using h)⟩
          · obtain ⟨-, rfl⟩ := E18.out (by simp [haf])
            go_wp2
            unfold AtI8
            exact ⟨v72, v73, v74, v75, v76, v77, v78, v79, v80, v81, v82, v83, v84, v85, v86, v87, v88, v89, (.tuple #[.agg #[.int .i64 lo, .int .i64 hi], .int .i64 0]), v90, (.int .i64 0), v15, v14, g, lo, hi, by simp only [Act.put, List.setIfInBounds_toArray, List.set_cons_zero, List.set_cons_succ], HT.out.mark 20 (by decide), fun h => EBF.out (by simpa [mkd] using h), fun h => (by have q := ESE.out (by simpa [mkd] using h); simpa [mkd] using q), fun h => E0.out (by simpa [mkd] using h), fun h => E1.out (by simpa [mkd] using h), fun h => E2.out (by simpa [mkd] using h), fun h => E3.out (by simpa [mkd] using h), fun h => E4.out (by simpa [mkd] using h), fun h => E5.out (by simpa [mkd] using h), fun h => E6.out (by simpa [mkd] using h), fun h => E7.out (by simpa [mkd] using h), fun h => E8.out (by simpa [mkd] using h), fun h => E9.out (by simpa [mkd] using h), fun h => E10.out (by simpa [mkd] using h), fun h => E11.out (by simpa [mkd] using h), fun h => E12.out (by simpa [mkd] using h), fun h => E13.out (by simpa [mkd] using h), fun h => E14.out (by simpa [mkd] using h), fun h => E15.out (by simpa [mkd] using h), fun h => E16.out (by simpa [mkd] using h), fun h => E17.out (by simpa [mkd] using h), fun _ => ⟨by have q := (E18.out (by simp [haf])).1; simpa [mkd] using q, rfl⟩, fun h => (by have q := E19.out (by simpa [mkd] using h); exact ⟨by simpa [mkd] using q.1, q.2⟩), fun _ => rfl, fun h => E21.out (by simpa [mkd] using h), fun h => E23.out (by simpa [mkd] using h)⟩
          · go_wp2
            unfold AtI8
            exact ⟨v72, v73, v74, v75, v76, v77, v78, v79, v80, v81, v82, v83, v84, v85, v86, v87, v88, v89, v71, v90, v91, (.pointer (some ⟨w'.heap.size, 0, none⟩)), v14, (fun j => if j = 0 then w'.heap.size else g j), lo, hi, by simp only [Act.put, List.setIfInBounds_toArray, List.set_cons_zero, List.set_cons_succ], HT.out.al 0 (by decide) (by decide) hL _, fun h => EBF.out (by simpa [mkd] using h), fun h => (by have q := ESE.out (by simpa [mkd] using h); simpa [mkd] using q), fun h => E0.out (by simpa [mkd] using h), fun h => E1.out (by simpa [mkd] using h), fun h => E2.out (by simpa [mkd] using h), fun h => E3.out (by simpa [mkd] using h), fun h => E4.out (by simpa [mkd] using h), fun h => E5.out (by simpa [mkd] using h), fun h => E6.out (by simpa [mkd] using h), fun h => E7.out (by simpa [mkd] using h), fun h => E8.out (by simpa [mkd] using h), fun h => E9.out (by simpa [mkd] using h), fun h => E10.out (by simpa [mkd] using h), fun h => E11.out (by simpa [mkd] using h), fun h => E12.out (by simpa [mkd] using h), fun h => E13.out (by simpa [mkd] using h), fun h => E14.out (by simpa [mkd] using h), fun h => E15.out (by simpa [mkd] using h), fun h => E16.out (by simpa [mkd] using h), fun h => E17.out (by simpa [mkd] using h), fun h => (by have q := E18.out (by simpa [mkd] using h); exact ⟨by simpa [mkd] using q.1, q.2⟩), fun h => (by have q := E19.out (by simpa [mkd] using h); exact ⟨by simpa [mkd] using q.1, q.2⟩), fun h => E20.out (by simpa [mkd] using h), fun _ => rfl, fun h => E23.out (by simpa [mkd] using h)⟩
          · obtain rfl := E21.out (by simp [haf])
            obtain ⟨-, rfl⟩ := E19.out (by simp [haf])
            have hA : L 21 = true := by simp [haf]
            have hE : L 17 = true := by simp [haf]
            obtain ⟨zt, z0, z1, zf0, zf1⟩ := HT.out.z 0 (by decide) hA hL
            have HS := Lib.hid (HT.out.st 0 (by decide) (by decide) hA hL rfl)
            go_wp2
            unfold AtI8
            exact ⟨v72, v73, v74, v75, v76, v77, v78, v79, v80, v81, v82, v83, v84, v85, v86, v87, v88, v89, v71, (.agg #[.int .i64 lo, .int .i64 hi]), v91, (.pointer (some ⟨g 0, 0, none⟩)), v14, g, lo, hi, by simp only [Act.put, List.setIfInBounds_toArray, List.set_cons_zero, List.set_cons_succ], HS.out, fun h => EBF.out (by simpa [mkd] using h), fun _ => (by simpa [mkd] using hE), fun h => E0.out (by simpa [mkd] using h), fun h => E1.out (by simpa [mkd] using h), fun h => E2.out (by simpa [mkd] using h), fun h => E3.out (by simpa [mkd] using h), fun h => E4.out (by simpa [mkd] using h), fun h => E5.out (by simpa [mkd] using h), fun h => E6.out (by simpa [mkd] using h), fun h => E7.out (by simpa [mkd] using h), fun h => E8.out (by simpa [mkd] using h), fun h => E9.out (by simpa [mkd] using h), fun h => E10.out (by simpa [mkd] using h), fun h => E11.out (by simpa [mkd] using h), fun h => E12.out (by simpa [mkd] using h), fun h => E13.out (by simpa [mkd] using h), fun h => E14.out (by simpa [mkd] using h), fun h => E15.out (by simpa [mkd] using h), fun h => E16.out (by simpa [mkd] using h), fun h => E17.out (by simpa [mkd] using h), fun h => (by have q := E18.out (by simpa [mkd] using h); exact ⟨by simpa [mkd] using q.1, q.2⟩), fun _ => ⟨by have q := (E19.out (by simp [haf])).1; simpa [mkd] using q, rfl⟩, fun h => E20.out (by simpa [mkd] using h), fun _ => rfl, fun h => E23.out (by simpa [mkd] using h)⟩
          · obtain rfl := E20.out (by simp [haf])
            go_wp2
            unfold AtI8
            exact ⟨v72, v73, v74, v75, v76, v77, v78, v79, v80, v81, v82, v83, v84, v85, v86, v87, v88, v89, v71, v90, (.int .i64 0), v15, (.int .i64 0), g, lo, hi, by simp only [Act.put, List.setIfInBounds_toArray, List.set_cons_zero, List.set_cons_succ], HT.out.mark 23 (by decide), fun h => EBF.out (by simpa [mkd] using h), fun h => (by have q := ESE.out (by simpa [mkd] using h); simpa [mkd] using q), fun h => E0.out (by simpa [mkd] using h), fun h => E1.out (by simpa [mkd] using h), fun h => E2.out (by simpa [mkd] using h), fun h => E3.out (by simpa [mkd] using h), fun h => E4.out (by simpa [mkd] using h), fun h => E5.out (by simpa [mkd] using h), fun h => E6.out (by simpa [mkd] using h), fun h => E7.out (by simpa [mkd] using h), fun h => E8.out (by simpa [mkd] using h), fun h => E9.out (by simpa [mkd] using h), fun h => E10.out (by simpa [mkd] using h), fun h => E11.out (by simpa [mkd] using h), fun h => E12.out (by simpa [mkd] using h), fun h => E13.out (by simpa [mkd] using h), fun h => E14.out (by simpa [mkd] using h), fun h => E15.out (by simpa [mkd] using h), fun h => E16.out (by simpa [mkd] using h), fun h => E17.out (by simpa [mkd] using h), fun h => (by have q := E18.out (by simpa [mkd] using h); exact ⟨by simpa [mkd] using q.1, q.2⟩), fun h => (by have q := E19.out (by simpa [mkd] using h); exact ⟨by simpa [mkd] using q.1, q.2⟩), fun _ => rfl, fun h => E21.out (by simpa [mkd] using h), fun _ => rfl⟩
        case fin =>
          rintro L a1' w9 hall ⟨v72, v73, v74, v75, v76, v77, v78, v79, v80, v81, v82, v83, v84, v85, v86, v87, v88, v89, v71, v90, v91, v15, v14, g, lo, hi, rfl, hT, ebf, ese, e0, e1, e2, e3, e4, e5, e6, e7, e8, e9, e10, e11, e12, e13, e14, e15, e16, e17, e18, e19, e20, e21, e23⟩
          obtain rfl := e0 (hall 0 (by decide))
          obtain rfl := e1 (hall 1 (by decide))
          obtain rfl := e2 (hall 2 (by decide))
          obtain rfl := e3 (hall 3 (by decide))
          obtain rfl := e4 (hall 4 (by decide))
          obtain rfl := e5 (hall 5 (by decide))
          obtain rfl := e6 (hall 6 (by decide))
          obtain rfl := e7 (hall 7 (by decide))
          obtain rfl := e8 (hall 8 (by decide))
          obtain rfl := e9 (hall 9 (by decide))
          obtain rfl := e10 (hall 10 (by decide))
          obtain rfl := e11 (hall 11 (by decide))
          obtain rfl := e12 (hall 12 (by decide))
          obtain rfl := e13 (hall 13 (by decide))
          obtain rfl := e14 (hall 14 (by decide))
          obtain rfl := e15 (hall 15 (by decide))
          obtain rfl := e16 (hall 16 (by decide))
          obtain rfl := e17 (hall 17 (by decide))
          obtain ⟨-, rfl⟩ := e18 (hall 18 (by decide))
          obtain ⟨-, rfl⟩ := e19 (hall 19 (by decide))
          obtain rfl := e20 (hall 20 (by decide))
          obtain rfl := e21 (hall 21 (by decide))
          obtain rfl := e23 (hall 23 (by decide))
          have D15 : Hid (D2 w9 (g 0) lo hi) := Lib.hid (hT.k 0 (by decide) (hall 22 (by decide)))
          have hbf := ebf (hall 17 (by decide))
          have C9 := Lib.hid (C7.out.below hT.bl C7.out.lt)
          have Z9 := Lib.hid (Z7.out.below hT.bl Z7.out.lt)
          have K9 := Lib.hid (K7.out.below hT.bl K7.out.lt)
          have B9 := Lib.hid (B7.out.trans (hT.bl.mono B7.out.size))
          have D13c := Lib.hid (D13b.out.below hT.bl D13b.out.lt)
          have hg15 := hT.lo 0 (by decide) (hall 21 (by decide))
          have l13 := D13b.out.lt
          have lk8 := K7.out.lt
          have lz8 := Z7.out.lt
          clear hT hall C7 Z7 K7 B7 H7 H8 H9 H10 H11 H12 D13b e0 e1 e2 e3 e4 e5 e6 e7 e8 e9 e10 e11 e12 e13 e14 e15 e16 e20 e21 e23 KMY KMX KMW KMI KBE KMZ ebf ese
          generalize g 0 = g15 at *
          clear g
          obtain ⟨dt, d0, d1, -, -⟩ := D15.out
          go_wp2_with fail
          (with_reducible refine (KKA.out _ _ _ _ K9.out).mono ?_)
          rintro e wA ⟨rfl, hbA⟩
          clear dt d0 d1
          have D15a := D15.out.below hbA D15.out.lt
          have D15b := Lib.hid ((D15a.set0 lo).set1 hi)
          have D13d := Lib.hid (((D13c.out.below hbA D13c.out.lt).far (p := ⟨g15, 0, none⟩) (by simp only []; omega) (.int .i64 lo)).far (p := ⟨g15, 1, none⟩) (by simp only []; omega) (.int .i64 hi))
          have CA := Lib.hid (((C9.out.below hbA C9.out.lt).far (p := ⟨g15, 0, none⟩) (by simp only []; omega) (.int .i64 lo)).far (p := ⟨g15, 1, none⟩) (by simp only []; omega) (.int .i64 hi))
          have ZA := Lib.hid (((Z9.out.below hbA Z9.out.lt).far (p := ⟨g15, 0, none⟩) (by simp only []; omega) (.int .i64 lo)).far (p := ⟨g15, 1, none⟩) (by simp only []; omega) (.int .i64 hi))
          have KA := Lib.hid (((K9.out.below hbA K9.out.lt).far (p := ⟨g15, 0, none⟩) (by simp only []; omega) (.int .i64 lo)).far (p := ⟨g15, 1, none⟩) (by simp only []; omega) (.int .i64 hi))
          have BA := Lib.hid (((B9.out.trans (hbA.mono B9.out.size)).setCell (p := ⟨g15, 0, none⟩) (by simp only []; omega) (.int .i64 lo)).setCell (p := ⟨g15, 1, none⟩) (by simp only []; omega) (.int .i64 hi))
          obtain ⟨dt, d0, d1, df0, df1⟩ := D15a
          clear D13c C9 Z9 K9 B9 D15
          go_upto_region 10 with (fail)
          generalize (wA.setCell ⟨g15, 0, none⟩ (.int .i64 lo)).setCell ⟨g15, 1, none⟩ (.int .i64 hi) = wB at *
          clear hbA dt d0 d1 df0 df1
          have k2 : wB.cell? ⟨w.heap.size, 2, none⟩ = some (.int .i64 0) := CA.out.cell 2
          have k3 : wB.cell? ⟨w.heap.size, 3, none⟩ = some (.int .i64 0) := CA.out.cell 3
          obtain ⟨dt, d0, d1, -, -⟩ := D15b.out
          have KSM := Lib.hid (fun (W : World) (h : Blk W gk 62 #[.int .i64 0]) => ksum_any gk (0, 0) (lo, hi) W ⟨by decide, by decide, by decide⟩ ⟨by simp only []; omega, by simp only []; omega, by simp only []; omega⟩ h)
          simp only [Trig.addP, Int.zero_add] at KSM
          go_wp2_with fail
          (with_reducible refine (KSM.out _ KA.out).mono ?_)
          rintro e wC ⟨rfl, hbC⟩
          clear dt d0 d1 k2 k3 CA D15b
          have D16 := Lib.hid (D2.new wC lo hi 26)
          have D13e := Lib.hid ((D13d.out.below hbC D13d.out.lt).alloc (.cells #[.int .i64 lo, .int .i64 hi] 26))
          have ZC := Lib.hid ((ZA.out.below hbC ZA.out.lt).alloc (.cells #[.int .i64 lo, .int .i64 hi] 26))
          have KC := Lib.hid ((KA.out.below hbC KA.out.lt).alloc (.cells #[.int .i64 lo, .int .i64 hi] 26))
          have BC := Lib.hid ((BA.out.trans (hbC.mono BA.out.size)).alloc (by have := BA.out.size; have := hbC.size; omega) (.cells #[.int .i64 lo, .int .i64 hi] 26))
          have hz16 : w.heap.size + 1 + 1 < wC.heap.size := by have := ZA.out.lt; have := hbC.size; omega
          clear hbC D13d ZA KA BA KSM
          have kk0 : (wC.alloc (.cells #[.int .i64 lo, .int .i64 hi] 26)).cell? ⟨gk, 0, none⟩ = some (.int .i64 0) := KC.out.cell 0
          go_upto_region 13 with (fail)
          clear kk0
          obtain ⟨wD, hwD⟩ : ∃ wD, wC.alloc (.cells #[.int .i64 lo, .int .i64 hi] 26) = wD := ⟨_, rfl⟩
          rw [hwD] at D16 D13e ZC BC ⊢
          clear hwD KC
          generalize wC.heap.size = g16 at *
          have KLO := Lib.hid (fun W => longitudesQ_any lo hi W (by omega) (by omega) (by omega))
          have hn1 : ¬ w.heap.size + 1 + 1 = g13 := by omega
          have hn2 : ¬ w.heap.size + 1 + 1 = g16 := by omega
          obtain ⟨-, d0, d1, -, -⟩ := D13e.out
          obtain ⟨-, f0, f1, -, -⟩ := D16.out
          go_region_held3 (fun w' => w'.cell? ⟨g13, 0, none⟩ = some (.int .i64 p) ∧ w'.cell? ⟨g13, 1, none⟩ = some (.int .i64 q) ∧ w'.cell? ⟨g16, 0, none⟩ = some (.int .i64 lo) ∧ w'.cell? ⟨g16, 1, none⟩ = some (.int .i64 hi)) (simp [*, World.cell?_setCell_other]) (first
            | (go_at_call 36; (with_reducible refine (KLO.out _).mono ?_); rintro e wE ⟨⟨la, lb, rfl⟩, hbE⟩; (first | (replace hbE := first_b4 hbE) | skip); clear d0 d1 f0 f1; obtain ⟨-, d0, d1, -, -⟩ := D13e.out.below hbE D13e.out.lt; obtain ⟨-, f0, f1, -, -⟩ := D16.out.below hbE D16.out.lt; have ZE := Lib.hid (ZC.out.below hbE ZC.out.lt); have BE := Lib.hid (BC.out.trans (hbE.mono BC.out.size)); have zc := fun i => ZE.out.cell i; have zf := fun i => ZE.out.frozen i)
            | fail)
          all_goals
            have z0 : wE.cell? ⟨w.heap.size + 1 + 1, 0, none⟩ = some (.int .i64 0) := zc 0
            have z1 : wE.cell? ⟨w.heap.size + 1 + 1, 1, none⟩ = some (.int .i64 0) := zc 1
            have z2 : wE.cell? ⟨w.heap.size + 1 + 1, 2, none⟩ = some (.int .i64 0) := zc 2
            have z3 : wE.cell? ⟨w.heap.size + 1 + 1, 3, none⟩ = some (.int .i64 0) := zc 3
            go_wp2
            refine bodyPost_ret (v := .tuple #[.agg #[.int .i64 p, .int .i64 q, .int .i64 la, .int .i64 lb], .int .i64 0]) (by simp [results, Try.results19, go_sem, *]) rfl ⟨⟨la, lb, rfl⟩, ?_⟩
            exact bl_put4' BE.out (by omega) _ _ _ _
end Go.Proofs.Ytfeianjdedgdoaa
