/- Two regions of (*sums).sail that draw their order. -/
import Derived.Test.YthfndnmfnijpeaaGreatHMr
import Derived.Test.YthfndnmfnijpeaaGreatHRin
set_option linter.unusedVariables false
set_option linter.unusedSimpArgs false
namespace Go.Proofs.YthfndnmfnijpeaaGreat
open Go.RowKit Go.Shelf
structure SaI6V where
  v63 : Value
  v64 : Value
  v65 : Value
  v66 : Value
  v67 : Value
  v68 : Value
  v69 : Value
  v70 : Value
  v71 : Value
  v72 : Value
  v73 : Value
  v74 : Value
  v75 : Value
  v76 : Value
  v77 : Value
  v78 : Value
  v79 : Value
  v80 : Value
  v81 : Value
  v82 : Value
  v83 : Value
  v84 : Value
structure SaI6P (W W2 : World) (g q : Nat) (p : Int) (a : Act) (M : Nat → Bool) (a' : Act) (w' : World) (s : SaI6V) : Prop where
  eq : a' = ((((((((((((((((((((((a.put (some 63) s.v63).put (some 64) s.v64).put (some 65) s.v65).put (some 66) s.v66).put (some 67) s.v67).put (some 68) s.v68).put (some 69) s.v69).put (some 70) s.v70).put (some 71) s.v71).put (some 72) s.v72).put (some 73) s.v73).put (some 74) s.v74).put (some 75) s.v75).put (some 76) s.v76).put (some 77) s.v77).put (some 78) s.v78).put (some 79) s.v79).put (some 80) s.v80).put (some 81) s.v81).put (some 82) s.v82).put (some 83) s.v83).put (some 84) s.v84)
  hW : (M 22 = false → w' = W)
  hX : (M 22 = true → w' = W2)
  d2 : (M 2 = true → M 1 = true)
  d3 : (M 3 = true → M 2 = true)
  d4 : (M 4 = true → M 3 = true)
  d5 : (M 5 = true → M 4 = true)
  d7 : (M 7 = true → M 6 = true)
  d8 : (M 8 = true → M 7 = true)
  d9 : (M 9 = true → M 5 = true ∧ M 8 = true)
  d11 : (M 11 = true → M 10 = true)
  d12 : (M 12 = true → M 11 = true)
  d13 : (M 13 = true → M 12 = true)
  d14 : (M 14 = true → M 13 = true)
  d16 : (M 16 = true → M 15 = true)
  d17 : (M 17 = true → M 16 = true)
  d18 : (M 18 = true → M 14 = true ∧ M 17 = true)
  d19 : (M 19 = true → M 9 = true ∧ M 18 = true)
  d20 : (M 20 = true → M 0 = true)
  d21 : (M 21 = true → M 20 = true)
  d22 : (M 22 = true → M 19 = true ∧ M 21 = true)
  e0 : (M 0 = true → s.v63 = .pointer (some ⟨g, 0, none⟩))
  e1 : (M 1 = true → s.v64 = .pointer (some ⟨g, 0, none⟩))
  e2 : (M 2 = true → s.v65 = .pointer (some ⟨g, 0, none⟩))
  e3 : (M 3 = true → s.v66 = .pointer (some ⟨g, 4, none⟩))
  e4 : (M 4 = true → s.v67 = .pointer (some ⟨g, 4, none⟩))
  e5 : (M 5 = true → s.v68 = .int .i64 0)
  e6 : (M 6 = true → s.v69 = .pointer (some ⟨q, 0, none⟩))
  e7 : (M 7 = true → s.v70 = .int .i64 p)
  e8 : (M 8 = true → s.v71 = .int .i64 0)
  e9 : (M 9 = true → s.v72 = .int .i64 0)
  e10 : (M 10 = true → s.v73 = .pointer (some ⟨g, 0, none⟩))
  e11 : (M 11 = true → s.v74 = .pointer (some ⟨g, 0, none⟩))
  e12 : (M 12 = true → s.v75 = .pointer (some ⟨g, 4, none⟩))
  e13 : (M 13 = true → s.v76 = .pointer (some ⟨g, 5, none⟩))
  e14 : (M 14 = true → s.v77 = .int .i64 0)
  e15 : (M 15 = true → s.v78 = .pointer (some ⟨q, 1, none⟩))
  e16 : (M 16 = true → s.v79 = .int .i64 p)
  e17 : (M 17 = true → s.v80 = .int .i64 0)
  e18 : (M 18 = true → s.v81 = .int .i64 0)
  e19 : (M 19 = true → s.v82 = .agg #[.int .i64 0, .int .i64 0])
  e20 : (M 20 = true → s.v83 = .pointer (some ⟨g, 0, none⟩))
  e21 : (M 21 = true → s.v84 = .pointer (some ⟨g, 4, none⟩))
def SaI6 (W W2 : World) (g q : Nat) (p : Int) (a : Act) (M : Nat → Bool) (a' : Act) (w' : World) : Prop := ∃ s : SaI6V, SaI6P W W2 g q p a M a' w' s
theorem SaI6.start (W W2 : World) (g q : Nat) (p : Int) (a : Act) : SaI6 W W2 g q p a (fun _ => false) a W :=
  ⟨⟨a.tmps.getD 63 undef, a.tmps.getD 64 undef, a.tmps.getD 65 undef, a.tmps.getD 66 undef, a.tmps.getD 67 undef, a.tmps.getD 68 undef, a.tmps.getD 69 undef, a.tmps.getD 70 undef, a.tmps.getD 71 undef, a.tmps.getD 72 undef, a.tmps.getD 73 undef, a.tmps.getD 74 undef, a.tmps.getD 75 undef, a.tmps.getD 76 undef, a.tmps.getD 77 undef, a.tmps.getD 78 undef, a.tmps.getD 79 undef, a.tmps.getD 80 undef, a.tmps.getD 81 undef, a.tmps.getD 82 undef, a.tmps.getD 83 undef, a.tmps.getD 84 undef⟩, ⟨by simp only []; rw [putQ_self a 63, putQ_self a 64, putQ_self a 65, putQ_self a 66, putQ_self a 67, putQ_self a 68, putQ_self a 69, putQ_self a 70, putQ_self a 71, putQ_self a 72, putQ_self a 73, putQ_self a 74, putQ_self a 75, putQ_self a 76, putQ_self a 77, putQ_self a 78, putQ_self a 79, putQ_self a 80, putQ_self a 81, putQ_self a 82, putQ_self a 83, putQ_self a 84], fun _ => rfl, nofun, nofun, nofun, nofun, nofun, nofun, nofun, nofun, nofun, nofun, nofun, nofun, nofun, nofun, nofun, nofun, nofun, nofun, nofun, nofun, nofun, nofun, nofun, nofun, nofun, nofun, nofun, nofun, nofun, nofun, nofun, nofun, nofun, nofun, nofun, nofun, nofun, nofun, nofun, nofun, nofun⟩⟩
set_option maxHeartbeats 8000000 in
set_option maxRecDepth 100000 in
theorem sailR6 (g q : Nat) (p : Int) {W : World} {x1 x2 x3 x4 x5 x7 x8 x9 x10 x11 x12 x13 x14 x15 x16 x17 x18 x19 x20 x21 x22 x23 x24 x25 x26 x27 x28 x29 x30 x31 x32 x33 x34 x35 x36 x37 x38 x39 x40 x41 x42 x43 x44 x45 x46 x47 x48 x49 x50 x51 x52 x53 x54 x55 x56 x57 x58 x59 x60 x61 x62 x63 x64 x65 x66 x67 x68 x69 x70 x71 x72 x73 x74 x75 x76 x77 x78 x79 x80 x81 x82 x83 x84 x85 x86 x87 x88 x89 x90 x91 x92 x93 x94 x95 x96 x97 x98 x99 x100 x101 x102 x103 x104 x105 x106 : Value} {Q : Exit → Act → World → Prop} (m3 : max 0 p = 0) (wr0 : IntKind.i64.wrap 0 = 0)
    (xs : ∀ i, W.drew.cell? ⟨g, i, none⟩ = (#[.int .i64 3010000, .int .i64 3010000, .int .i64 3000000, .int .i64 3010000, .int .i64 0, .int .i64 0, .int .i64 0, .int .i64 0] : Array Value)[i]?) (fs : ∀ i, W.drew.frozen? ⟨g, i, none⟩ = false) (zs : ∀ i, W.drew.cell? ⟨q, i, none⟩ = (#[.int .i64 p, .int .i64 p] : Array Value)[i]?)
    (h : ∀ y63 y64 y65 y66 y67 y68 y69 y70 y71 y72 y73 y74 y75 y76 y77 y78 y79 y80 y81 y82 y83 y84 : Value, Q .normal { tmps := #[.pointer (some ⟨g, 0, none⟩), x1, x2, x3, x4, x5, .pointer (some ⟨q, 0, none⟩), x7, x8, x9, x10, x11, x12, x13, x14, x15, x16, x17, x18, x19, x20, x21, x22, x23, x24, x25, x26, x27, x28, x29, x30, x31, x32, x33, x34, x35, x36, x37, x38, x39, x40, x41, x42, x43, x44, x45, x46, x47, x48, x49, x50, x51, x52, x53, x54, x55, x56, x57, x58, x59, x60, x61, x62, y63, y64, y65, y66, y67, y68, y69, y70, y71, y72, y73, y74, y75, y76, y77, y78, y79, y80, y81, y82, y83, y84, x85, x86, x87, x88, x89, x90, x91, x92, x93, x94, x95, x96, x97, x98, x99, x100, x101, x102, x103, x104, x105, x106], defers := [] } ((W.drew.setCell ⟨g, 4, none⟩ (.int .i64 0)).setCell ⟨g, 5, none⟩ (.int .i64 0))) :
    (Code.region 6 #[{ dst := some 63, op := Op.move (Operand.tmp 0), type := 168, pos := "reckoning.go:94", after := #[], guard := none }, { dst := some 64, op := Op.move (Operand.tmp 0), type := 168, pos := "reckoning.go:94", after := #[], guard := none }, { dst := some 65, op := Op.nilCheck (Operand.tmp 64), type := 0, pos := "reckoning.go:94", after := #[{ on := 1, ground := Ground.data }], guard := none }, { dst := some 66, op := Op.fieldAddr 151 (Operand.tmp 65) 2, type := 0, pos := "reckoning.go:94", after := #[{ on := 2, ground := Ground.data }], guard := none }, { dst := some 67, op := Op.fieldAddr 24 (Operand.tmp 66) 0, type := 0, pos := "reckoning.go:94", after := #[{ on := 3, ground := Ground.data }], guard := none }, { dst := some 68, op := Op.load 3 (Operand.tmp 67), type := 3, pos := "reckoning.go:94", after := #[{ on := 4, ground := Ground.data }], guard := none }, { dst := some 69, op := Op.fieldAddr 24 (Operand.tmp 6) 0, type := 0, pos := "reckoning.go:94", after := #[], guard := none }, { dst := some 70, op := Op.load 3 (Operand.tmp 69), type := 3, pos := "reckoning.go:94", after := #[{ on := 6, ground := Ground.data }], guard := none }, { dst := some 71, op := Op.call { callee := Callee.builtin Builtin.max, args := #[Operand.const (Value.int IntKind.i64 0), Operand.tmp 70], argTypes := #[3, 3] }, type := 3, pos := "reckoning.go:94", after := #[{ on := 7, ground := Ground.data }], guard := none }, { dst := some 72, op := Op.binOp BinOp.add 3 (Operand.tmp 68) (Operand.tmp 71) 3, type := 3, pos := "reckoning.go:94", after := #[{ on := 5, ground := Ground.data }, { on := 8, ground := Ground.data }], guard := none }, { dst := some 73, op := Op.move (Operand.tmp 0), type := 168, pos := "reckoning.go:94", after := #[], guard := none }, { dst := some 74, op := Op.nilCheck (Operand.tmp 73), type := 0, pos := "reckoning.go:94", after := #[{ on := 10, ground := Ground.data }], guard := none }, { dst := some 75, op := Op.fieldAddr 151 (Operand.tmp 74) 2, type := 0, pos := "reckoning.go:94", after := #[{ on := 11, ground := Ground.data }], guard := none }, { dst := some 76, op := Op.fieldAddr 24 (Operand.tmp 75) 1, type := 0, pos := "reckoning.go:94", after := #[{ on := 12, ground := Ground.data }], guard := none }, { dst := some 77, op := Op.load 3 (Operand.tmp 76), type := 3, pos := "reckoning.go:94", after := #[{ on := 13, ground := Ground.data }], guard := none }, { dst := some 78, op := Op.fieldAddr 24 (Operand.tmp 6) 1, type := 0, pos := "reckoning.go:94", after := #[], guard := none }, { dst := some 79, op := Op.load 3 (Operand.tmp 78), type := 3, pos := "reckoning.go:94", after := #[{ on := 15, ground := Ground.data }], guard := none }, { dst := some 80, op := Op.call { callee := Callee.builtin Builtin.max, args := #[Operand.const (Value.int IntKind.i64 0), Operand.tmp 79], argTypes := #[3, 3] }, type := 3, pos := "reckoning.go:94", after := #[{ on := 16, ground := Ground.data }], guard := none }, { dst := some 81, op := Op.binOp BinOp.add 3 (Operand.tmp 77) (Operand.tmp 80) 3, type := 3, pos := "reckoning.go:94", after := #[{ on := 14, ground := Ground.data }, { on := 17, ground := Ground.data }], guard := none }, { dst := some 82, op := Op.build 24 #[(0, Operand.tmp 72), (1, Operand.tmp 81)], type := 24, pos := "reckoning.go:94", after := #[{ on := 9, ground := Ground.data }, { on := 18, ground := Ground.data }], guard := none }, { dst := some 83, op := Op.nilCheck (Operand.tmp 63), type := 0, pos := "reckoning.go:94", after := #[{ on := 0, ground := Ground.data }, { on := 0, ground := Ground.phase }, { on := 1, ground := Ground.phase }, { on := 2, ground := Ground.phase }, { on := 3, ground := Ground.phase }, { on := 4, ground := Ground.phase }, { on := 5, ground := Ground.phase }, { on := 6, ground := Ground.phase }, { on := 7, ground := Ground.phase }, { on := 8, ground := Ground.phase }, { on := 9, ground := Ground.phase }, { on := 10, ground := Ground.phase }, { on := 11, ground := Ground.phase }, { on := 12, ground := Ground.phase }, { on := 13, ground := Ground.phase }, { on := 14, ground := Ground.phase }, { on := 15, ground := Ground.phase }, { on := 16, ground := Ground.phase }, { on := 17, ground := Ground.phase }, { on := 18, ground := Ground.phase }, { on := 19, ground := Ground.phase }], guard := none }, { dst := some 84, op := Op.fieldAddr 151 (Operand.tmp 83) 2, type := 0, pos := "reckoning.go:94", after := #[{ on := 20, ground := Ground.data }, { on := 0, ground := Ground.phase }, { on := 1, ground := Ground.phase }, { on := 2, ground := Ground.phase }, { on := 3, ground := Ground.phase }, { on := 4, ground := Ground.phase }, { on := 5, ground := Ground.phase }, { on := 6, ground := Ground.phase }, { on := 7, ground := Ground.phase }, { on := 8, ground := Ground.phase }, { on := 9, ground := Ground.phase }, { on := 10, ground := Ground.phase }, { on := 11, ground := Ground.phase }, { on := 12, ground := Ground.phase }, { on := 13, ground := Ground.phase }, { on := 14, ground := Ground.phase }, { on := 15, ground := Ground.phase }, { on := 16, ground := Ground.phase }, { on := 17, ground := Ground.phase }, { on := 18, ground := Ground.phase }, { on := 19, ground := Ground.phase }], guard := none }, { dst := none, op := Op.store 24 (Operand.tmp 84) (Operand.tmp 82), type := 0, pos := "reckoning.go:94", after := #[{ on := 21, ground := Ground.data }, { on := 19, ground := Ground.data }, { on := 0, ground := Ground.phase }, { on := 1, ground := Ground.phase }, { on := 2, ground := Ground.phase }, { on := 3, ground := Ground.phase }, { on := 4, ground := Ground.phase }, { on := 5, ground := Ground.phase }, { on := 6, ground := Ground.phase }, { on := 7, ground := Ground.phase }, { on := 8, ground := Ground.phase }, { on := 9, ground := Ground.phase }, { on := 10, ground := Ground.phase }, { on := 11, ground := Ground.phase }, { on := 12, ground := Ground.phase }, { on := 13, ground := Ground.phase }, { on := 14, ground := Ground.phase }, { on := 15, ground := Ground.phase }, { on := 16, ground := Ground.phase }, { on := 17, ground := Ground.phase }, { on := 18, ground := Ground.phase }, { on := 19, ground := Ground.phase }], guard := none }] true).wp Tryz.prog Q { tmps := #[.pointer (some ⟨g, 0, none⟩), x1, x2, x3, x4, x5, .pointer (some ⟨q, 0, none⟩), x7, x8, x9, x10, x11, x12, x13, x14, x15, x16, x17, x18, x19, x20, x21, x22, x23, x24, x25, x26, x27, x28, x29, x30, x31, x32, x33, x34, x35, x36, x37, x38, x39, x40, x41, x42, x43, x44, x45, x46, x47, x48, x49, x50, x51, x52, x53, x54, x55, x56, x57, x58, x59, x60, x61, x62, x63, x64, x65, x66, x67, x68, x69, x70, x71, x72, x73, x74, x75, x76, x77, x78, x79, x80, x81, x82, x83, x84, x85, x86, x87, x88, x89, x90, x91, x92, x93, x94, x95, x96, x97, x98, x99, x100, x101, x102, x103, x104, x105, x106], defers := [] } W := by
  have H := Lib.hid h
  clear h
  obtain ⟨W9, hW9⟩ : ∃ W9, W.drew = W9 := ⟨_, rfl⟩
  rw [hW9] at xs fs zs H
  have HW9 := Lib.hid hW9
  clear hW9
  refine wp_region_inv3 (by kernel_rfl) (SaI6 W9 ((W9.setCell ⟨g, 4, none⟩ (.int .i64 0)).setCell ⟨g, 5, none⟩ (.int .i64 0)) g q p) (waits_bind (by kernel_rfl)) ?start ?step ?fin
  case start => rw [HW9.out]; exact SaI6.start _ _ _ _ _ _
  case step =>
    intro M i o a1' w' ho hL haf h
    obtain ⟨⟨v63, v64, v65, v66, v67, v68, v69, v70, v71, v72, v73, v74, v75, v76, v77, v78, v79, v80, v81, v82, v83, v84⟩, h⟩ := h
    have hA := h.eq
    dsimp only at hA
    subst hA
    have HW := Lib.hid h.hW
    have HX := Lib.hid h.hX
    have D2 := Lib.hid h.d2
    have D3 := Lib.hid h.d3
    have D4 := Lib.hid h.d4
    have D5 := Lib.hid h.d5
    have D7 := Lib.hid h.d7
    have D8 := Lib.hid h.d8
    have D9 := Lib.hid h.d9
    have D11 := Lib.hid h.d11
    have D12 := Lib.hid h.d12
    have D13 := Lib.hid h.d13
    have D14 := Lib.hid h.d14
    have D16 := Lib.hid h.d16
    have D17 := Lib.hid h.d17
    have D18 := Lib.hid h.d18
    have D19 := Lib.hid h.d19
    have D20 := Lib.hid h.d20
    have D21 := Lib.hid h.d21
    have D22 := Lib.hid h.d22
    have E0 := Lib.hid h.e0
    have E1 := Lib.hid h.e1
    have E2 := Lib.hid h.e2
    have E3 := Lib.hid h.e3
    have E4 := Lib.hid h.e4
    have E5 := Lib.hid h.e5
    have E6 := Lib.hid h.e6
    have E7 := Lib.hid h.e7
    have E8 := Lib.hid h.e8
    have E9 := Lib.hid h.e9
    have E10 := Lib.hid h.e10
    have E11 := Lib.hid h.e11
    have E12 := Lib.hid h.e12
    have E13 := Lib.hid h.e13
    have E14 := Lib.hid h.e14
    have E15 := Lib.hid h.e15
    have E16 := Lib.hid h.e16
    have E17 := Lib.hid h.e17
    have E18 := Lib.hid h.e18
    have E19 := Lib.hid h.e19
    have E20 := Lib.hid h.e20
    have E21 := Lib.hid h.e21
    clear h
    dsimp only at HW HX D2 D3 D4 D5 D7 D8 D9 D11 D12 D13 D14 D16 D17 D18 D19 D20 D21 D22 E0 E1 E2 E3 E4 E5 E6 E7 E8 E9 E10 E11 E12 E13 E14 E15 E16 E17 E18 E19 E20 E21
    rcases i with _ | _ | _ | _ | _ | _ | _ | _ | _ | _ | _ | _ | _ | _ | _ | _ | _ | _ | _ | _ | _ | _ | _ | i
    all_goals (simp at ho; try subst ho)
    all_goals (try simp [Region.binds] at haf)
    · have n8 : M 22 = false := by cases h8 : M 22 with | false => rfl | true => exact absurd (D20.out (D21.out (D22.out h8).2)) (by simp [hL])
      obtain rfl := (HW.out n8).symm
      go_wp2
      exact ⟨⟨(.pointer (some ⟨g, 0, none⟩)), v64, v65, v66, v67, v68, v69, v70, v71, v72, v73, v74, v75, v76, v77, v78, v79, v80, v81, v82, v83, v84⟩, ⟨pu_, fun _ => rfl, fun h => absurd h (by simp [mkd, n8]), dk1 D2 (by decide), dk1 D3 (by decide), dk1 D4 (by decide), dk1 D5 (by decide), dk1 D7 (by decide), dk1 D8 (by decide), dk2 D9 (by decide), dk1 D11 (by decide), dk1 D12 (by decide), dk1 D13 (by decide), dk1 D14 (by decide), dk1 D16 (by decide), dk1 D17 (by decide), dk2 D18 (by decide), dk2 D19 (by decide), dk1 D20 (by decide), dk1 D21 (by decide), dk2 D22 (by decide), fun _ => rfl, kq E1, kq E2, kq E3, kq E4, kq E5, kq E6, kq E7, kq E8, kq E9, kq E10, kq E11, kq E12, kq E13, kq E14, kq E15, kq E16, kq E17, kq E18, kq E19, kq E20, kq E21⟩⟩
    · have n8 : M 22 = false := by cases h8 : M 22 with | false => rfl | true => exact absurd (D2.out (D3.out (D4.out (D5.out (D9.out (D19.out (D22.out h8).1).1).1)))) (by simp [hL])
      obtain rfl := (HW.out n8).symm
      go_wp2
      exact ⟨⟨v63, (.pointer (some ⟨g, 0, none⟩)), v65, v66, v67, v68, v69, v70, v71, v72, v73, v74, v75, v76, v77, v78, v79, v80, v81, v82, v83, v84⟩, ⟨pu_, fun _ => rfl, fun h => absurd h (by simp [mkd, n8]), dk1 D2 (by decide), dk1 D3 (by decide), dk1 D4 (by decide), dk1 D5 (by decide), dk1 D7 (by decide), dk1 D8 (by decide), dk2 D9 (by decide), dk1 D11 (by decide), dk1 D12 (by decide), dk1 D13 (by decide), dk1 D14 (by decide), dk1 D16 (by decide), dk1 D17 (by decide), dk2 D18 (by decide), dk2 D19 (by decide), dk1 D20 (by decide), dk1 D21 (by decide), dk2 D22 (by decide), kq E0, fun _ => rfl, kq E2, kq E3, kq E4, kq E5, kq E6, kq E7, kq E8, kq E9, kq E10, kq E11, kq E12, kq E13, kq E14, kq E15, kq E16, kq E17, kq E18, kq E19, kq E20, kq E21⟩⟩
    · have n8 : M 22 = false := by cases h8 : M 22 with | false => rfl | true => exact absurd (D3.out (D4.out (D5.out (D9.out (D19.out (D22.out h8).1).1).1))) (by simp [hL])
      obtain rfl := (HW.out n8).symm
      obtain rfl := (E1.out (by simp [haf])).symm
      go_wp2
      exact ⟨⟨v63, (.pointer (some ⟨g, 0, none⟩)), (.pointer (some ⟨g, 0, none⟩)), v66, v67, v68, v69, v70, v71, v72, v73, v74, v75, v76, v77, v78, v79, v80, v81, v82, v83, v84⟩, ⟨pu_, fun _ => rfl, fun h => absurd h (by simp [mkd, n8]), fun _ => by simp [mkd, haf], dk1 D3 (by decide), dk1 D4 (by decide), dk1 D5 (by decide), dk1 D7 (by decide), dk1 D8 (by decide), dk2 D9 (by decide), dk1 D11 (by decide), dk1 D12 (by decide), dk1 D13 (by decide), dk1 D14 (by decide), dk1 D16 (by decide), dk1 D17 (by decide), dk2 D18 (by decide), dk2 D19 (by decide), dk1 D20 (by decide), dk1 D21 (by decide), dk2 D22 (by decide), kq E0, fun _ => rfl, fun _ => rfl, kq E3, kq E4, kq E5, kq E6, kq E7, kq E8, kq E9, kq E10, kq E11, kq E12, kq E13, kq E14, kq E15, kq E16, kq E17, kq E18, kq E19, kq E20, kq E21⟩⟩
    · have n8 : M 22 = false := by cases h8 : M 22 with | false => rfl | true => exact absurd (D4.out (D5.out (D9.out (D19.out (D22.out h8).1).1).1)) (by simp [hL])
      obtain rfl := (HW.out n8).symm
      obtain rfl := (E2.out (by simp [haf])).symm
      go_wp2
      exact ⟨⟨v63, v64, (.pointer (some ⟨g, 0, none⟩)), (.pointer (some ⟨g, 4, none⟩)), v67, v68, v69, v70, v71, v72, v73, v74, v75, v76, v77, v78, v79, v80, v81, v82, v83, v84⟩, ⟨pu_, fun _ => rfl, fun h => absurd h (by simp [mkd, n8]), dk1 D2 (by decide), fun _ => by simp [mkd, haf], dk1 D4 (by decide), dk1 D5 (by decide), dk1 D7 (by decide), dk1 D8 (by decide), dk2 D9 (by decide), dk1 D11 (by decide), dk1 D12 (by decide), dk1 D13 (by decide), dk1 D14 (by decide), dk1 D16 (by decide), dk1 D17 (by decide), dk2 D18 (by decide), dk2 D19 (by decide), dk1 D20 (by decide), dk1 D21 (by decide), dk2 D22 (by decide), kq E0, kq E1, fun _ => rfl, fun _ => rfl, kq E4, kq E5, kq E6, kq E7, kq E8, kq E9, kq E10, kq E11, kq E12, kq E13, kq E14, kq E15, kq E16, kq E17, kq E18, kq E19, kq E20, kq E21⟩⟩
    · have n8 : M 22 = false := by cases h8 : M 22 with | false => rfl | true => exact absurd (D5.out (D9.out (D19.out (D22.out h8).1).1).1) (by simp [hL])
      obtain rfl := (HW.out n8).symm
      obtain rfl := (E3.out (by simp [haf])).symm
      go_wp2
      exact ⟨⟨v63, v64, v65, (.pointer (some ⟨g, 4, none⟩)), (.pointer (some ⟨g, 4, none⟩)), v68, v69, v70, v71, v72, v73, v74, v75, v76, v77, v78, v79, v80, v81, v82, v83, v84⟩, ⟨pu_, fun _ => rfl, fun h => absurd h (by simp [mkd, n8]), dk1 D2 (by decide), dk1 D3 (by decide), fun _ => by simp [mkd, haf], dk1 D5 (by decide), dk1 D7 (by decide), dk1 D8 (by decide), dk2 D9 (by decide), dk1 D11 (by decide), dk1 D12 (by decide), dk1 D13 (by decide), dk1 D14 (by decide), dk1 D16 (by decide), dk1 D17 (by decide), dk2 D18 (by decide), dk2 D19 (by decide), dk1 D20 (by decide), dk1 D21 (by decide), dk2 D22 (by decide), kq E0, kq E1, kq E2, fun _ => rfl, fun _ => rfl, kq E5, kq E6, kq E7, kq E8, kq E9, kq E10, kq E11, kq E12, kq E13, kq E14, kq E15, kq E16, kq E17, kq E18, kq E19, kq E20, kq E21⟩⟩
    · have n8 : M 22 = false := by cases h8 : M 22 with | false => rfl | true => exact absurd (D9.out (D19.out (D22.out h8).1).1).1 (by simp [hL])
      obtain rfl := (HW.out n8).symm
      obtain rfl := (E4.out (by simp [haf])).symm
      go_wp2
      exact ⟨⟨v63, v64, v65, v66, (.pointer (some ⟨g, 4, none⟩)), (.int .i64 0), v69, v70, v71, v72, v73, v74, v75, v76, v77, v78, v79, v80, v81, v82, v83, v84⟩, ⟨pu_, fun _ => rfl, fun h => absurd h (by simp [mkd, n8]), dk1 D2 (by decide), dk1 D3 (by decide), dk1 D4 (by decide), fun _ => by simp [mkd, haf], dk1 D7 (by decide), dk1 D8 (by decide), dk2 D9 (by decide), dk1 D11 (by decide), dk1 D12 (by decide), dk1 D13 (by decide), dk1 D14 (by decide), dk1 D16 (by decide), dk1 D17 (by decide), dk2 D18 (by decide), dk2 D19 (by decide), dk1 D20 (by decide), dk1 D21 (by decide), dk2 D22 (by decide), kq E0, kq E1, kq E2, kq E3, fun _ => rfl, fun _ => rfl, kq E6, kq E7, kq E8, kq E9, kq E10, kq E11, kq E12, kq E13, kq E14, kq E15, kq E16, kq E17, kq E18, kq E19, kq E20, kq E21⟩⟩
    · have n8 : M 22 = false := by cases h8 : M 22 with | false => rfl | true => exact absurd (D7.out (D8.out (D9.out (D19.out (D22.out h8).1).1).2)) (by simp [hL])
      obtain rfl := (HW.out n8).symm
      go_wp2
      exact ⟨⟨v63, v64, v65, v66, v67, v68, (.pointer (some ⟨q, 0, none⟩)), v70, v71, v72, v73, v74, v75, v76, v77, v78, v79, v80, v81, v82, v83, v84⟩, ⟨pu_, fun _ => rfl, fun h => absurd h (by simp [mkd, n8]), dk1 D2 (by decide), dk1 D3 (by decide), dk1 D4 (by decide), dk1 D5 (by decide), dk1 D7 (by decide), dk1 D8 (by decide), dk2 D9 (by decide), dk1 D11 (by decide), dk1 D12 (by decide), dk1 D13 (by decide), dk1 D14 (by decide), dk1 D16 (by decide), dk1 D17 (by decide), dk2 D18 (by decide), dk2 D19 (by decide), dk1 D20 (by decide), dk1 D21 (by decide), dk2 D22 (by decide), kq E0, kq E1, kq E2, kq E3, kq E4, kq E5, fun _ => rfl, kq E7, kq E8, kq E9, kq E10, kq E11, kq E12, kq E13, kq E14, kq E15, kq E16, kq E17, kq E18, kq E19, kq E20, kq E21⟩⟩
    · have n8 : M 22 = false := by cases h8 : M 22 with | false => rfl | true => exact absurd (D8.out (D9.out (D19.out (D22.out h8).1).1).2) (by simp [hL])
      obtain rfl := (HW.out n8).symm
      obtain rfl := (E6.out (by simp [haf])).symm
      go_wp2
      exact ⟨⟨v63, v64, v65, v66, v67, v68, (.pointer (some ⟨q, 0, none⟩)), (.int .i64 p), v71, v72, v73, v74, v75, v76, v77, v78, v79, v80, v81, v82, v83, v84⟩, ⟨pu_, fun _ => rfl, fun h => absurd h (by simp [mkd, n8]), dk1 D2 (by decide), dk1 D3 (by decide), dk1 D4 (by decide), dk1 D5 (by decide), fun _ => by simp [mkd, haf], dk1 D8 (by decide), dk2 D9 (by decide), dk1 D11 (by decide), dk1 D12 (by decide), dk1 D13 (by decide), dk1 D14 (by decide), dk1 D16 (by decide), dk1 D17 (by decide), dk2 D18 (by decide), dk2 D19 (by decide), dk1 D20 (by decide), dk1 D21 (by decide), dk2 D22 (by decide), kq E0, kq E1, kq E2, kq E3, kq E4, kq E5, fun _ => rfl, fun _ => rfl, kq E8, kq E9, kq E10, kq E11, kq E12, kq E13, kq E14, kq E15, kq E16, kq E17, kq E18, kq E19, kq E20, kq E21⟩⟩
    · have n8 : M 22 = false := by cases h8 : M 22 with | false => rfl | true => exact absurd (D9.out (D19.out (D22.out h8).1).1).2 (by simp [hL])
      obtain rfl := (HW.out n8).symm
      obtain rfl := (E7.out (by simp [haf])).symm
      go_wp2
      exact ⟨⟨v63, v64, v65, v66, v67, v68, v69, (.int .i64 p), (.int .i64 0), v72, v73, v74, v75, v76, v77, v78, v79, v80, v81, v82, v83, v84⟩, ⟨pu_, fun _ => rfl, fun h => absurd h (by simp [mkd, n8]), dk1 D2 (by decide), dk1 D3 (by decide), dk1 D4 (by decide), dk1 D5 (by decide), dk1 D7 (by decide), fun _ => by simp [mkd, haf], dk2 D9 (by decide), dk1 D11 (by decide), dk1 D12 (by decide), dk1 D13 (by decide), dk1 D14 (by decide), dk1 D16 (by decide), dk1 D17 (by decide), dk2 D18 (by decide), dk2 D19 (by decide), dk1 D20 (by decide), dk1 D21 (by decide), dk2 D22 (by decide), kq E0, kq E1, kq E2, kq E3, kq E4, kq E5, kq E6, fun _ => rfl, fun _ => rfl, kq E9, kq E10, kq E11, kq E12, kq E13, kq E14, kq E15, kq E16, kq E17, kq E18, kq E19, kq E20, kq E21⟩⟩
    · have n8 : M 22 = false := by cases h8 : M 22 with | false => rfl | true => exact absurd (D19.out (D22.out h8).1).1 (by simp [hL])
      obtain rfl := (HW.out n8).symm
      obtain rfl := (E5.out (by simp [haf])).symm
      obtain rfl := (E8.out (by simp [haf])).symm
      go_wp2
      exact ⟨⟨v63, v64, v65, v66, v67, (.int .i64 0), v69, v70, (.int .i64 0), (.int .i64 0), v73, v74, v75, v76, v77, v78, v79, v80, v81, v82, v83, v84⟩, ⟨pu_, fun _ => rfl, fun h => absurd h (by simp [mkd, n8]), dk1 D2 (by decide), dk1 D3 (by decide), dk1 D4 (by decide), dk1 D5 (by decide), dk1 D7 (by decide), dk1 D8 (by decide), fun _ => by simp [mkd, haf], dk1 D11 (by decide), dk1 D12 (by decide), dk1 D13 (by decide), dk1 D14 (by decide), dk1 D16 (by decide), dk1 D17 (by decide), dk2 D18 (by decide), dk2 D19 (by decide), dk1 D20 (by decide), dk1 D21 (by decide), dk2 D22 (by decide), kq E0, kq E1, kq E2, kq E3, kq E4, fun _ => rfl, kq E6, kq E7, fun _ => rfl, fun _ => rfl, kq E10, kq E11, kq E12, kq E13, kq E14, kq E15, kq E16, kq E17, kq E18, kq E19, kq E20, kq E21⟩⟩
    · have n8 : M 22 = false := by cases h8 : M 22 with | false => rfl | true => exact absurd (D11.out (D12.out (D13.out (D14.out (D18.out (D19.out (D22.out h8).1).2).1)))) (by simp [hL])
      obtain rfl := (HW.out n8).symm
      go_wp2
      exact ⟨⟨v63, v64, v65, v66, v67, v68, v69, v70, v71, v72, (.pointer (some ⟨g, 0, none⟩)), v74, v75, v76, v77, v78, v79, v80, v81, v82, v83, v84⟩, ⟨pu_, fun _ => rfl, fun h => absurd h (by simp [mkd, n8]), dk1 D2 (by decide), dk1 D3 (by decide), dk1 D4 (by decide), dk1 D5 (by decide), dk1 D7 (by decide), dk1 D8 (by decide), dk2 D9 (by decide), dk1 D11 (by decide), dk1 D12 (by decide), dk1 D13 (by decide), dk1 D14 (by decide), dk1 D16 (by decide), dk1 D17 (by decide), dk2 D18 (by decide), dk2 D19 (by decide), dk1 D20 (by decide), dk1 D21 (by decide), dk2 D22 (by decide), kq E0, kq E1, kq E2, kq E3, kq E4, kq E5, kq E6, kq E7, kq E8, kq E9, fun _ => rfl, kq E11, kq E12, kq E13, kq E14, kq E15, kq E16, kq E17, kq E18, kq E19, kq E20, kq E21⟩⟩
    · have n8 : M 22 = false := by cases h8 : M 22 with | false => rfl | true => exact absurd (D12.out (D13.out (D14.out (D18.out (D19.out (D22.out h8).1).2).1))) (by simp [hL])
      obtain rfl := (HW.out n8).symm
      obtain rfl := (E10.out (by simp [haf])).symm
      go_wp2
      exact ⟨⟨v63, v64, v65, v66, v67, v68, v69, v70, v71, v72, (.pointer (some ⟨g, 0, none⟩)), (.pointer (some ⟨g, 0, none⟩)), v75, v76, v77, v78, v79, v80, v81, v82, v83, v84⟩, ⟨pu_, fun _ => rfl, fun h => absurd h (by simp [mkd, n8]), dk1 D2 (by decide), dk1 D3 (by decide), dk1 D4 (by decide), dk1 D5 (by decide), dk1 D7 (by decide), dk1 D8 (by decide), dk2 D9 (by decide), fun _ => by simp [mkd, haf], dk1 D12 (by decide), dk1 D13 (by decide), dk1 D14 (by decide), dk1 D16 (by decide), dk1 D17 (by decide), dk2 D18 (by decide), dk2 D19 (by decide), dk1 D20 (by decide), dk1 D21 (by decide), dk2 D22 (by decide), kq E0, kq E1, kq E2, kq E3, kq E4, kq E5, kq E6, kq E7, kq E8, kq E9, fun _ => rfl, fun _ => rfl, kq E12, kq E13, kq E14, kq E15, kq E16, kq E17, kq E18, kq E19, kq E20, kq E21⟩⟩
    · have n8 : M 22 = false := by cases h8 : M 22 with | false => rfl | true => exact absurd (D13.out (D14.out (D18.out (D19.out (D22.out h8).1).2).1)) (by simp [hL])
      obtain rfl := (HW.out n8).symm
      obtain rfl := (E11.out (by simp [haf])).symm
      go_wp2
      exact ⟨⟨v63, v64, v65, v66, v67, v68, v69, v70, v71, v72, v73, (.pointer (some ⟨g, 0, none⟩)), (.pointer (some ⟨g, 4, none⟩)), v76, v77, v78, v79, v80, v81, v82, v83, v84⟩, ⟨pu_, fun _ => rfl, fun h => absurd h (by simp [mkd, n8]), dk1 D2 (by decide), dk1 D3 (by decide), dk1 D4 (by decide), dk1 D5 (by decide), dk1 D7 (by decide), dk1 D8 (by decide), dk2 D9 (by decide), dk1 D11 (by decide), fun _ => by simp [mkd, haf], dk1 D13 (by decide), dk1 D14 (by decide), dk1 D16 (by decide), dk1 D17 (by decide), dk2 D18 (by decide), dk2 D19 (by decide), dk1 D20 (by decide), dk1 D21 (by decide), dk2 D22 (by decide), kq E0, kq E1, kq E2, kq E3, kq E4, kq E5, kq E6, kq E7, kq E8, kq E9, kq E10, fun _ => rfl, fun _ => rfl, kq E13, kq E14, kq E15, kq E16, kq E17, kq E18, kq E19, kq E20, kq E21⟩⟩
    · have n8 : M 22 = false := by cases h8 : M 22 with | false => rfl | true => exact absurd (D14.out (D18.out (D19.out (D22.out h8).1).2).1) (by simp [hL])
      obtain rfl := (HW.out n8).symm
      obtain rfl := (E12.out (by simp [haf])).symm
      go_wp2
      exact ⟨⟨v63, v64, v65, v66, v67, v68, v69, v70, v71, v72, v73, v74, (.pointer (some ⟨g, 4, none⟩)), (.pointer (some ⟨g, 5, none⟩)), v77, v78, v79, v80, v81, v82, v83, v84⟩, ⟨pu_, fun _ => rfl, fun h => absurd h (by simp [mkd, n8]), dk1 D2 (by decide), dk1 D3 (by decide), dk1 D4 (by decide), dk1 D5 (by decide), dk1 D7 (by decide), dk1 D8 (by decide), dk2 D9 (by decide), dk1 D11 (by decide), dk1 D12 (by decide), fun _ => by simp [mkd, haf], dk1 D14 (by decide), dk1 D16 (by decide), dk1 D17 (by decide), dk2 D18 (by decide), dk2 D19 (by decide), dk1 D20 (by decide), dk1 D21 (by decide), dk2 D22 (by decide), kq E0, kq E1, kq E2, kq E3, kq E4, kq E5, kq E6, kq E7, kq E8, kq E9, kq E10, kq E11, fun _ => rfl, fun _ => rfl, kq E14, kq E15, kq E16, kq E17, kq E18, kq E19, kq E20, kq E21⟩⟩
    · have n8 : M 22 = false := by cases h8 : M 22 with | false => rfl | true => exact absurd (D18.out (D19.out (D22.out h8).1).2).1 (by simp [hL])
      obtain rfl := (HW.out n8).symm
      obtain rfl := (E13.out (by simp [haf])).symm
      go_wp2
      exact ⟨⟨v63, v64, v65, v66, v67, v68, v69, v70, v71, v72, v73, v74, v75, (.pointer (some ⟨g, 5, none⟩)), (.int .i64 0), v78, v79, v80, v81, v82, v83, v84⟩, ⟨pu_, fun _ => rfl, fun h => absurd h (by simp [mkd, n8]), dk1 D2 (by decide), dk1 D3 (by decide), dk1 D4 (by decide), dk1 D5 (by decide), dk1 D7 (by decide), dk1 D8 (by decide), dk2 D9 (by decide), dk1 D11 (by decide), dk1 D12 (by decide), dk1 D13 (by decide), fun _ => by simp [mkd, haf], dk1 D16 (by decide), dk1 D17 (by decide), dk2 D18 (by decide), dk2 D19 (by decide), dk1 D20 (by decide), dk1 D21 (by decide), dk2 D22 (by decide), kq E0, kq E1, kq E2, kq E3, kq E4, kq E5, kq E6, kq E7, kq E8, kq E9, kq E10, kq E11, kq E12, fun _ => rfl, fun _ => rfl, kq E15, kq E16, kq E17, kq E18, kq E19, kq E20, kq E21⟩⟩
    · have n8 : M 22 = false := by cases h8 : M 22 with | false => rfl | true => exact absurd (D16.out (D17.out (D18.out (D19.out (D22.out h8).1).2).2)) (by simp [hL])
      obtain rfl := (HW.out n8).symm
      go_wp2
      exact ⟨⟨v63, v64, v65, v66, v67, v68, v69, v70, v71, v72, v73, v74, v75, v76, v77, (.pointer (some ⟨q, 1, none⟩)), v79, v80, v81, v82, v83, v84⟩, ⟨pu_, fun _ => rfl, fun h => absurd h (by simp [mkd, n8]), dk1 D2 (by decide), dk1 D3 (by decide), dk1 D4 (by decide), dk1 D5 (by decide), dk1 D7 (by decide), dk1 D8 (by decide), dk2 D9 (by decide), dk1 D11 (by decide), dk1 D12 (by decide), dk1 D13 (by decide), dk1 D14 (by decide), dk1 D16 (by decide), dk1 D17 (by decide), dk2 D18 (by decide), dk2 D19 (by decide), dk1 D20 (by decide), dk1 D21 (by decide), dk2 D22 (by decide), kq E0, kq E1, kq E2, kq E3, kq E4, kq E5, kq E6, kq E7, kq E8, kq E9, kq E10, kq E11, kq E12, kq E13, kq E14, fun _ => rfl, kq E16, kq E17, kq E18, kq E19, kq E20, kq E21⟩⟩
    · have n8 : M 22 = false := by cases h8 : M 22 with | false => rfl | true => exact absurd (D17.out (D18.out (D19.out (D22.out h8).1).2).2) (by simp [hL])
      obtain rfl := (HW.out n8).symm
      obtain rfl := (E15.out (by simp [haf])).symm
      go_wp2
      exact ⟨⟨v63, v64, v65, v66, v67, v68, v69, v70, v71, v72, v73, v74, v75, v76, v77, (.pointer (some ⟨q, 1, none⟩)), (.int .i64 p), v80, v81, v82, v83, v84⟩, ⟨pu_, fun _ => rfl, fun h => absurd h (by simp [mkd, n8]), dk1 D2 (by decide), dk1 D3 (by decide), dk1 D4 (by decide), dk1 D5 (by decide), dk1 D7 (by decide), dk1 D8 (by decide), dk2 D9 (by decide), dk1 D11 (by decide), dk1 D12 (by decide), dk1 D13 (by decide), dk1 D14 (by decide), fun _ => by simp [mkd, haf], dk1 D17 (by decide), dk2 D18 (by decide), dk2 D19 (by decide), dk1 D20 (by decide), dk1 D21 (by decide), dk2 D22 (by decide), kq E0, kq E1, kq E2, kq E3, kq E4, kq E5, kq E6, kq E7, kq E8, kq E9, kq E10, kq E11, kq E12, kq E13, kq E14, fun _ => rfl, fun _ => rfl, kq E17, kq E18, kq E19, kq E20, kq E21⟩⟩
    · have n8 : M 22 = false := by cases h8 : M 22 with | false => rfl | true => exact absurd (D18.out (D19.out (D22.out h8).1).2).2 (by simp [hL])
      obtain rfl := (HW.out n8).symm
      obtain rfl := (E16.out (by simp [haf])).symm
      go_wp2
      exact ⟨⟨v63, v64, v65, v66, v67, v68, v69, v70, v71, v72, v73, v74, v75, v76, v77, v78, (.int .i64 p), (.int .i64 0), v81, v82, v83, v84⟩, ⟨pu_, fun _ => rfl, fun h => absurd h (by simp [mkd, n8]), dk1 D2 (by decide), dk1 D3 (by decide), dk1 D4 (by decide), dk1 D5 (by decide), dk1 D7 (by decide), dk1 D8 (by decide), dk2 D9 (by decide), dk1 D11 (by decide), dk1 D12 (by decide), dk1 D13 (by decide), dk1 D14 (by decide), dk1 D16 (by decide), fun _ => by simp [mkd, haf], dk2 D18 (by decide), dk2 D19 (by decide), dk1 D20 (by decide), dk1 D21 (by decide), dk2 D22 (by decide), kq E0, kq E1, kq E2, kq E3, kq E4, kq E5, kq E6, kq E7, kq E8, kq E9, kq E10, kq E11, kq E12, kq E13, kq E14, kq E15, fun _ => rfl, fun _ => rfl, kq E18, kq E19, kq E20, kq E21⟩⟩
    · have n8 : M 22 = false := by cases h8 : M 22 with | false => rfl | true => exact absurd (D19.out (D22.out h8).1).2 (by simp [hL])
      obtain rfl := (HW.out n8).symm
      obtain rfl := (E14.out (by simp [haf])).symm
      obtain rfl := (E17.out (by simp [haf])).symm
      go_wp2
      exact ⟨⟨v63, v64, v65, v66, v67, v68, v69, v70, v71, v72, v73, v74, v75, v76, (.int .i64 0), v78, v79, (.int .i64 0), (.int .i64 0), v82, v83, v84⟩, ⟨pu_, fun _ => rfl, fun h => absurd h (by simp [mkd, n8]), dk1 D2 (by decide), dk1 D3 (by decide), dk1 D4 (by decide), dk1 D5 (by decide), dk1 D7 (by decide), dk1 D8 (by decide), dk2 D9 (by decide), dk1 D11 (by decide), dk1 D12 (by decide), dk1 D13 (by decide), dk1 D14 (by decide), dk1 D16 (by decide), dk1 D17 (by decide), fun _ => by simp [mkd, haf], dk2 D19 (by decide), dk1 D20 (by decide), dk1 D21 (by decide), dk2 D22 (by decide), kq E0, kq E1, kq E2, kq E3, kq E4, kq E5, kq E6, kq E7, kq E8, kq E9, kq E10, kq E11, kq E12, kq E13, fun _ => rfl, kq E15, kq E16, fun _ => rfl, fun _ => rfl, kq E19, kq E20, kq E21⟩⟩
    · have n8 : M 22 = false := by cases h8 : M 22 with | false => rfl | true => exact absurd (D22.out h8).1 (by simp [hL])
      obtain rfl := (HW.out n8).symm
      obtain rfl := (E9.out (by simp [haf])).symm
      obtain rfl := (E18.out (by simp [haf])).symm
      go_wp2
      exact ⟨⟨v63, v64, v65, v66, v67, v68, v69, v70, v71, (.int .i64 0), v73, v74, v75, v76, v77, v78, v79, v80, (.int .i64 0), (.agg #[.int .i64 0, .int .i64 0]), v83, v84⟩, ⟨pu_, fun _ => rfl, fun h => absurd h (by simp [mkd, n8]), dk1 D2 (by decide), dk1 D3 (by decide), dk1 D4 (by decide), dk1 D5 (by decide), dk1 D7 (by decide), dk1 D8 (by decide), dk2 D9 (by decide), dk1 D11 (by decide), dk1 D12 (by decide), dk1 D13 (by decide), dk1 D14 (by decide), dk1 D16 (by decide), dk1 D17 (by decide), dk2 D18 (by decide), fun _ => by simp [mkd, haf], dk1 D20 (by decide), dk1 D21 (by decide), dk2 D22 (by decide), kq E0, kq E1, kq E2, kq E3, kq E4, kq E5, kq E6, kq E7, kq E8, fun _ => rfl, kq E10, kq E11, kq E12, kq E13, kq E14, kq E15, kq E16, kq E17, fun _ => rfl, fun _ => rfl, kq E20, kq E21⟩⟩
    · have n8 : M 22 = false := by cases h8 : M 22 with | false => rfl | true => exact absurd (D21.out (D22.out h8).2) (by simp [hL])
      obtain rfl := (HW.out n8).symm
      obtain rfl := (E0.out (by simp [haf])).symm
      go_wp2
      exact ⟨⟨(.pointer (some ⟨g, 0, none⟩)), v64, v65, v66, v67, v68, v69, v70, v71, v72, v73, v74, v75, v76, v77, v78, v79, v80, v81, v82, (.pointer (some ⟨g, 0, none⟩)), v84⟩, ⟨pu_, fun _ => rfl, fun h => absurd h (by simp [mkd, n8]), dk1 D2 (by decide), dk1 D3 (by decide), dk1 D4 (by decide), dk1 D5 (by decide), dk1 D7 (by decide), dk1 D8 (by decide), dk2 D9 (by decide), dk1 D11 (by decide), dk1 D12 (by decide), dk1 D13 (by decide), dk1 D14 (by decide), dk1 D16 (by decide), dk1 D17 (by decide), dk2 D18 (by decide), dk2 D19 (by decide), fun _ => by simp [mkd, haf], dk1 D21 (by decide), dk2 D22 (by decide), fun _ => rfl, kq E1, kq E2, kq E3, kq E4, kq E5, kq E6, kq E7, kq E8, kq E9, kq E10, kq E11, kq E12, kq E13, kq E14, kq E15, kq E16, kq E17, kq E18, kq E19, fun _ => rfl, kq E21⟩⟩
    · have n8 : M 22 = false := by cases h8 : M 22 with | false => rfl | true => exact absurd (D22.out h8).2 (by simp [hL])
      obtain rfl := (HW.out n8).symm
      obtain rfl := (E20.out (by simp [haf])).symm
      go_wp2
      exact ⟨⟨v63, v64, v65, v66, v67, v68, v69, v70, v71, v72, v73, v74, v75, v76, v77, v78, v79, v80, v81, v82, (.pointer (some ⟨g, 0, none⟩)), (.pointer (some ⟨g, 4, none⟩))⟩, ⟨pu_, fun _ => rfl, fun h => absurd h (by simp [mkd, n8]), dk1 D2 (by decide), dk1 D3 (by decide), dk1 D4 (by decide), dk1 D5 (by decide), dk1 D7 (by decide), dk1 D8 (by decide), dk2 D9 (by decide), dk1 D11 (by decide), dk1 D12 (by decide), dk1 D13 (by decide), dk1 D14 (by decide), dk1 D16 (by decide), dk1 D17 (by decide), dk2 D18 (by decide), dk2 D19 (by decide), dk1 D20 (by decide), fun _ => by simp [mkd, haf], dk2 D22 (by decide), kq E0, kq E1, kq E2, kq E3, kq E4, kq E5, kq E6, kq E7, kq E8, kq E9, kq E10, kq E11, kq E12, kq E13, kq E14, kq E15, kq E16, kq E17, kq E18, kq E19, fun _ => rfl, fun _ => rfl⟩⟩
    · obtain rfl := (HW.out hL).symm
      obtain rfl := (E19.out (by simp [haf])).symm
      obtain rfl := (E21.out (by simp [haf])).symm
      go_wp2
      exact ⟨⟨v63, v64, v65, v66, v67, v68, v69, v70, v71, v72, v73, v74, v75, v76, v77, v78, v79, v80, v81, (.agg #[.int .i64 0, .int .i64 0]), v83, (.pointer (some ⟨g, 4, none⟩))⟩, ⟨pu_, fun h => absurd h (by simp [mkd]), fun _ => rfl, dk1 D2 (by decide), dk1 D3 (by decide), dk1 D4 (by decide), dk1 D5 (by decide), dk1 D7 (by decide), dk1 D8 (by decide), dk2 D9 (by decide), dk1 D11 (by decide), dk1 D12 (by decide), dk1 D13 (by decide), dk1 D14 (by decide), dk1 D16 (by decide), dk1 D17 (by decide), dk2 D18 (by decide), dk2 D19 (by decide), dk1 D20 (by decide), dk1 D21 (by decide), fun _ => by simp [mkd, haf], kq E0, kq E1, kq E2, kq E3, kq E4, kq E5, kq E6, kq E7, kq E8, kq E9, kq E10, kq E11, kq E12, kq E13, kq E14, kq E15, kq E16, kq E17, kq E18, fun _ => rfl, kq E20, fun _ => rfl⟩⟩
  case fin =>
    intro M a1' w' hall h
    obtain ⟨⟨v63, v64, v65, v66, v67, v68, v69, v70, v71, v72, v73, v74, v75, v76, v77, v78, v79, v80, v81, v82, v83, v84⟩, h⟩ := h
    have hA := h.eq
    dsimp only at hA
    subst hA
    obtain rfl := h.hX (hall 22 (by simp))
    clear h hall
    simp only [Act.put, List.setIfInBounds_toArray, List.set_cons_zero, List.set_cons_succ]
    exact H.out _ _ _ _ _ _ _ _ _ _ _ _ _ _ _ _ _ _ _ _ _ _
structure SaI7V where
  v85 : Value
  v86 : Value
  v87 : Value
  v88 : Value
  v89 : Value
  v90 : Value
  v91 : Value
  v92 : Value
  v93 : Value
  v94 : Value
  v95 : Value
  v96 : Value
  v97 : Value
  v98 : Value
  v99 : Value
  v100 : Value
  v101 : Value
  v102 : Value
  v103 : Value
  v104 : Value
  v105 : Value
  v106 : Value
structure SaI7P (W W2 : World) (g q : Nat) (p : Int) (a : Act) (M : Nat → Bool) (a' : Act) (w' : World) (s : SaI7V) : Prop where
  eq : a' = ((((((((((((((((((((((a.put (some 85) s.v85).put (some 86) s.v86).put (some 87) s.v87).put (some 88) s.v88).put (some 89) s.v89).put (some 90) s.v90).put (some 91) s.v91).put (some 92) s.v92).put (some 93) s.v93).put (some 94) s.v94).put (some 95) s.v95).put (some 96) s.v96).put (some 97) s.v97).put (some 98) s.v98).put (some 99) s.v99).put (some 100) s.v100).put (some 101) s.v101).put (some 102) s.v102).put (some 103) s.v103).put (some 104) s.v104).put (some 105) s.v105).put (some 106) s.v106)
  hW : (M 22 = false → w' = W)
  hX : (M 22 = true → w' = W2)
  d2 : (M 2 = true → M 1 = true)
  d3 : (M 3 = true → M 2 = true)
  d4 : (M 4 = true → M 3 = true)
  d5 : (M 5 = true → M 4 = true)
  d7 : (M 7 = true → M 6 = true)
  d8 : (M 8 = true → M 7 = true)
  d9 : (M 9 = true → M 5 = true ∧ M 8 = true)
  d11 : (M 11 = true → M 10 = true)
  d12 : (M 12 = true → M 11 = true)
  d13 : (M 13 = true → M 12 = true)
  d14 : (M 14 = true → M 13 = true)
  d16 : (M 16 = true → M 15 = true)
  d17 : (M 17 = true → M 16 = true)
  d18 : (M 18 = true → M 14 = true ∧ M 17 = true)
  d19 : (M 19 = true → M 9 = true ∧ M 18 = true)
  d20 : (M 20 = true → M 0 = true)
  d21 : (M 21 = true → M 20 = true)
  d22 : (M 22 = true → M 19 = true ∧ M 21 = true)
  e0 : (M 0 = true → s.v85 = .pointer (some ⟨g, 0, none⟩))
  e1 : (M 1 = true → s.v86 = .pointer (some ⟨g, 0, none⟩))
  e2 : (M 2 = true → s.v87 = .pointer (some ⟨g, 0, none⟩))
  e3 : (M 3 = true → s.v88 = .pointer (some ⟨g, 6, none⟩))
  e4 : (M 4 = true → s.v89 = .pointer (some ⟨g, 6, none⟩))
  e5 : (M 5 = true → s.v90 = .int .i64 0)
  e6 : (M 6 = true → s.v91 = .pointer (some ⟨q, 0, none⟩))
  e7 : (M 7 = true → s.v92 = .int .i64 p)
  e8 : (M 8 = true → s.v93 = .int .i64 0)
  e9 : (M 9 = true → s.v94 = .int .i64 0)
  e10 : (M 10 = true → s.v95 = .pointer (some ⟨g, 0, none⟩))
  e11 : (M 11 = true → s.v96 = .pointer (some ⟨g, 0, none⟩))
  e12 : (M 12 = true → s.v97 = .pointer (some ⟨g, 6, none⟩))
  e13 : (M 13 = true → s.v98 = .pointer (some ⟨g, 7, none⟩))
  e14 : (M 14 = true → s.v99 = .int .i64 0)
  e15 : (M 15 = true → s.v100 = .pointer (some ⟨q, 1, none⟩))
  e16 : (M 16 = true → s.v101 = .int .i64 p)
  e17 : (M 17 = true → s.v102 = .int .i64 0)
  e18 : (M 18 = true → s.v103 = .int .i64 0)
  e19 : (M 19 = true → s.v104 = .agg #[.int .i64 0, .int .i64 0])
  e20 : (M 20 = true → s.v105 = .pointer (some ⟨g, 0, none⟩))
  e21 : (M 21 = true → s.v106 = .pointer (some ⟨g, 6, none⟩))
def SaI7 (W W2 : World) (g q : Nat) (p : Int) (a : Act) (M : Nat → Bool) (a' : Act) (w' : World) : Prop := ∃ s : SaI7V, SaI7P W W2 g q p a M a' w' s
theorem SaI7.start (W W2 : World) (g q : Nat) (p : Int) (a : Act) : SaI7 W W2 g q p a (fun _ => false) a W :=
  ⟨⟨a.tmps.getD 85 undef, a.tmps.getD 86 undef, a.tmps.getD 87 undef, a.tmps.getD 88 undef, a.tmps.getD 89 undef, a.tmps.getD 90 undef, a.tmps.getD 91 undef, a.tmps.getD 92 undef, a.tmps.getD 93 undef, a.tmps.getD 94 undef, a.tmps.getD 95 undef, a.tmps.getD 96 undef, a.tmps.getD 97 undef, a.tmps.getD 98 undef, a.tmps.getD 99 undef, a.tmps.getD 100 undef, a.tmps.getD 101 undef, a.tmps.getD 102 undef, a.tmps.getD 103 undef, a.tmps.getD 104 undef, a.tmps.getD 105 undef, a.tmps.getD 106 undef⟩, ⟨by simp only []; rw [putQ_self a 85, putQ_self a 86, putQ_self a 87, putQ_self a 88, putQ_self a 89, putQ_self a 90, putQ_self a 91, putQ_self a 92, putQ_self a 93, putQ_self a 94, putQ_self a 95, putQ_self a 96, putQ_self a 97, putQ_self a 98, putQ_self a 99, putQ_self a 100, putQ_self a 101, putQ_self a 102, putQ_self a 103, putQ_self a 104, putQ_self a 105, putQ_self a 106], fun _ => rfl, nofun, nofun, nofun, nofun, nofun, nofun, nofun, nofun, nofun, nofun, nofun, nofun, nofun, nofun, nofun, nofun, nofun, nofun, nofun, nofun, nofun, nofun, nofun, nofun, nofun, nofun, nofun, nofun, nofun, nofun, nofun, nofun, nofun, nofun, nofun, nofun, nofun, nofun, nofun, nofun, nofun⟩⟩
set_option maxHeartbeats 8000000 in
set_option maxRecDepth 100000 in
theorem sailR7 (g q : Nat) (p : Int) {W : World} {x1 x2 x3 x4 x5 x7 x8 x9 x10 x11 x12 x13 x14 x15 x16 x17 x18 x19 x20 x21 x22 x23 x24 x25 x26 x27 x28 x29 x30 x31 x32 x33 x34 x35 x36 x37 x38 x39 x40 x41 x42 x43 x44 x45 x46 x47 x48 x49 x50 x51 x52 x53 x54 x55 x56 x57 x58 x59 x60 x61 x62 x63 x64 x65 x66 x67 x68 x69 x70 x71 x72 x73 x74 x75 x76 x77 x78 x79 x80 x81 x82 x83 x84 x85 x86 x87 x88 x89 x90 x91 x92 x93 x94 x95 x96 x97 x98 x99 x100 x101 x102 x103 x104 x105 x106 : Value} {Q : Exit → Act → World → Prop} (m3 : min 0 p = 0) (wr0 : IntKind.i64.wrap 0 = 0)
    (xs : ∀ i, W.drew.cell? ⟨g, i, none⟩ = (#[.int .i64 3010000, .int .i64 3010000, .int .i64 3000000, .int .i64 3010000, .int .i64 0, .int .i64 0, .int .i64 0, .int .i64 0] : Array Value)[i]?) (fs : ∀ i, W.drew.frozen? ⟨g, i, none⟩ = false) (zs : ∀ i, W.drew.cell? ⟨q, i, none⟩ = (#[.int .i64 p, .int .i64 p] : Array Value)[i]?)
    (h : ∀ y85 y86 y87 y88 y89 y90 y91 y92 y93 y94 y95 y96 y97 y98 y99 y100 y101 y102 y103 y104 y105 y106 : Value, Q .normal { tmps := #[.pointer (some ⟨g, 0, none⟩), x1, x2, x3, x4, x5, .pointer (some ⟨q, 0, none⟩), x7, x8, x9, x10, x11, x12, x13, x14, x15, x16, x17, x18, x19, x20, x21, x22, x23, x24, x25, x26, x27, x28, x29, x30, x31, x32, x33, x34, x35, x36, x37, x38, x39, x40, x41, x42, x43, x44, x45, x46, x47, x48, x49, x50, x51, x52, x53, x54, x55, x56, x57, x58, x59, x60, x61, x62, x63, x64, x65, x66, x67, x68, x69, x70, x71, x72, x73, x74, x75, x76, x77, x78, x79, x80, x81, x82, x83, x84, y85, y86, y87, y88, y89, y90, y91, y92, y93, y94, y95, y96, y97, y98, y99, y100, y101, y102, y103, y104, y105, y106], defers := [] } ((W.drew.setCell ⟨g, 6, none⟩ (.int .i64 0)).setCell ⟨g, 7, none⟩ (.int .i64 0))) :
    (Code.region 7 #[{ dst := some 85, op := Op.move (Operand.tmp 0), type := 168, pos := "reckoning.go:95", after := #[], guard := none }, { dst := some 86, op := Op.move (Operand.tmp 0), type := 168, pos := "reckoning.go:95", after := #[], guard := none }, { dst := some 87, op := Op.nilCheck (Operand.tmp 86), type := 0, pos := "reckoning.go:95", after := #[{ on := 1, ground := Ground.data }], guard := none }, { dst := some 88, op := Op.fieldAddr 151 (Operand.tmp 87) 3, type := 0, pos := "reckoning.go:95", after := #[{ on := 2, ground := Ground.data }], guard := none }, { dst := some 89, op := Op.fieldAddr 24 (Operand.tmp 88) 0, type := 0, pos := "reckoning.go:95", after := #[{ on := 3, ground := Ground.data }], guard := none }, { dst := some 90, op := Op.load 3 (Operand.tmp 89), type := 3, pos := "reckoning.go:95", after := #[{ on := 4, ground := Ground.data }], guard := none }, { dst := some 91, op := Op.fieldAddr 24 (Operand.tmp 6) 0, type := 0, pos := "reckoning.go:95", after := #[], guard := none }, { dst := some 92, op := Op.load 3 (Operand.tmp 91), type := 3, pos := "reckoning.go:95", after := #[{ on := 6, ground := Ground.data }], guard := none }, { dst := some 93, op := Op.call { callee := Callee.builtin Builtin.min, args := #[Operand.const (Value.int IntKind.i64 0), Operand.tmp 92], argTypes := #[3, 3] }, type := 3, pos := "reckoning.go:95", after := #[{ on := 7, ground := Ground.data }], guard := none }, { dst := some 94, op := Op.binOp BinOp.add 3 (Operand.tmp 90) (Operand.tmp 93) 3, type := 3, pos := "reckoning.go:95", after := #[{ on := 5, ground := Ground.data }, { on := 8, ground := Ground.data }], guard := none }, { dst := some 95, op := Op.move (Operand.tmp 0), type := 168, pos := "reckoning.go:95", after := #[], guard := none }, { dst := some 96, op := Op.nilCheck (Operand.tmp 95), type := 0, pos := "reckoning.go:95", after := #[{ on := 10, ground := Ground.data }], guard := none }, { dst := some 97, op := Op.fieldAddr 151 (Operand.tmp 96) 3, type := 0, pos := "reckoning.go:95", after := #[{ on := 11, ground := Ground.data }], guard := none }, { dst := some 98, op := Op.fieldAddr 24 (Operand.tmp 97) 1, type := 0, pos := "reckoning.go:95", after := #[{ on := 12, ground := Ground.data }], guard := none }, { dst := some 99, op := Op.load 3 (Operand.tmp 98), type := 3, pos := "reckoning.go:95", after := #[{ on := 13, ground := Ground.data }], guard := none }, { dst := some 100, op := Op.fieldAddr 24 (Operand.tmp 6) 1, type := 0, pos := "reckoning.go:95", after := #[], guard := none }, { dst := some 101, op := Op.load 3 (Operand.tmp 100), type := 3, pos := "reckoning.go:95", after := #[{ on := 15, ground := Ground.data }], guard := none }, { dst := some 102, op := Op.call { callee := Callee.builtin Builtin.min, args := #[Operand.const (Value.int IntKind.i64 0), Operand.tmp 101], argTypes := #[3, 3] }, type := 3, pos := "reckoning.go:95", after := #[{ on := 16, ground := Ground.data }], guard := none }, { dst := some 103, op := Op.binOp BinOp.add 3 (Operand.tmp 99) (Operand.tmp 102) 3, type := 3, pos := "reckoning.go:95", after := #[{ on := 14, ground := Ground.data }, { on := 17, ground := Ground.data }], guard := none }, { dst := some 104, op := Op.build 24 #[(0, Operand.tmp 94), (1, Operand.tmp 103)], type := 24, pos := "reckoning.go:95", after := #[{ on := 9, ground := Ground.data }, { on := 18, ground := Ground.data }], guard := none }, { dst := some 105, op := Op.nilCheck (Operand.tmp 85), type := 0, pos := "reckoning.go:95", after := #[{ on := 0, ground := Ground.data }, { on := 0, ground := Ground.phase }, { on := 1, ground := Ground.phase }, { on := 2, ground := Ground.phase }, { on := 3, ground := Ground.phase }, { on := 4, ground := Ground.phase }, { on := 5, ground := Ground.phase }, { on := 6, ground := Ground.phase }, { on := 7, ground := Ground.phase }, { on := 8, ground := Ground.phase }, { on := 9, ground := Ground.phase }, { on := 10, ground := Ground.phase }, { on := 11, ground := Ground.phase }, { on := 12, ground := Ground.phase }, { on := 13, ground := Ground.phase }, { on := 14, ground := Ground.phase }, { on := 15, ground := Ground.phase }, { on := 16, ground := Ground.phase }, { on := 17, ground := Ground.phase }, { on := 18, ground := Ground.phase }, { on := 19, ground := Ground.phase }], guard := none }, { dst := some 106, op := Op.fieldAddr 151 (Operand.tmp 105) 3, type := 0, pos := "reckoning.go:95", after := #[{ on := 20, ground := Ground.data }, { on := 0, ground := Ground.phase }, { on := 1, ground := Ground.phase }, { on := 2, ground := Ground.phase }, { on := 3, ground := Ground.phase }, { on := 4, ground := Ground.phase }, { on := 5, ground := Ground.phase }, { on := 6, ground := Ground.phase }, { on := 7, ground := Ground.phase }, { on := 8, ground := Ground.phase }, { on := 9, ground := Ground.phase }, { on := 10, ground := Ground.phase }, { on := 11, ground := Ground.phase }, { on := 12, ground := Ground.phase }, { on := 13, ground := Ground.phase }, { on := 14, ground := Ground.phase }, { on := 15, ground := Ground.phase }, { on := 16, ground := Ground.phase }, { on := 17, ground := Ground.phase }, { on := 18, ground := Ground.phase }, { on := 19, ground := Ground.phase }], guard := none }, { dst := none, op := Op.store 24 (Operand.tmp 106) (Operand.tmp 104), type := 0, pos := "reckoning.go:95", after := #[{ on := 21, ground := Ground.data }, { on := 19, ground := Ground.data }, { on := 0, ground := Ground.phase }, { on := 1, ground := Ground.phase }, { on := 2, ground := Ground.phase }, { on := 3, ground := Ground.phase }, { on := 4, ground := Ground.phase }, { on := 5, ground := Ground.phase }, { on := 6, ground := Ground.phase }, { on := 7, ground := Ground.phase }, { on := 8, ground := Ground.phase }, { on := 9, ground := Ground.phase }, { on := 10, ground := Ground.phase }, { on := 11, ground := Ground.phase }, { on := 12, ground := Ground.phase }, { on := 13, ground := Ground.phase }, { on := 14, ground := Ground.phase }, { on := 15, ground := Ground.phase }, { on := 16, ground := Ground.phase }, { on := 17, ground := Ground.phase }, { on := 18, ground := Ground.phase }, { on := 19, ground := Ground.phase }], guard := none }] true).wp Tryz.prog Q { tmps := #[.pointer (some ⟨g, 0, none⟩), x1, x2, x3, x4, x5, .pointer (some ⟨q, 0, none⟩), x7, x8, x9, x10, x11, x12, x13, x14, x15, x16, x17, x18, x19, x20, x21, x22, x23, x24, x25, x26, x27, x28, x29, x30, x31, x32, x33, x34, x35, x36, x37, x38, x39, x40, x41, x42, x43, x44, x45, x46, x47, x48, x49, x50, x51, x52, x53, x54, x55, x56, x57, x58, x59, x60, x61, x62, x63, x64, x65, x66, x67, x68, x69, x70, x71, x72, x73, x74, x75, x76, x77, x78, x79, x80, x81, x82, x83, x84, x85, x86, x87, x88, x89, x90, x91, x92, x93, x94, x95, x96, x97, x98, x99, x100, x101, x102, x103, x104, x105, x106], defers := [] } W := by
  have H := Lib.hid h
  clear h
  obtain ⟨W9, hW9⟩ : ∃ W9, W.drew = W9 := ⟨_, rfl⟩
  rw [hW9] at xs fs zs H
  have HW9 := Lib.hid hW9
  clear hW9
  refine wp_region_inv3 (by kernel_rfl) (SaI7 W9 ((W9.setCell ⟨g, 6, none⟩ (.int .i64 0)).setCell ⟨g, 7, none⟩ (.int .i64 0)) g q p) (waits_bind (by kernel_rfl)) ?start ?step ?fin
  case start => rw [HW9.out]; exact SaI7.start _ _ _ _ _ _
  case step =>
    intro M i o a1' w' ho hL haf h
    obtain ⟨⟨v85, v86, v87, v88, v89, v90, v91, v92, v93, v94, v95, v96, v97, v98, v99, v100, v101, v102, v103, v104, v105, v106⟩, h⟩ := h
    have hA := h.eq
    dsimp only at hA
    subst hA
    have HW := Lib.hid h.hW
    have HX := Lib.hid h.hX
    have D2 := Lib.hid h.d2
    have D3 := Lib.hid h.d3
    have D4 := Lib.hid h.d4
    have D5 := Lib.hid h.d5
    have D7 := Lib.hid h.d7
    have D8 := Lib.hid h.d8
    have D9 := Lib.hid h.d9
    have D11 := Lib.hid h.d11
    have D12 := Lib.hid h.d12
    have D13 := Lib.hid h.d13
    have D14 := Lib.hid h.d14
    have D16 := Lib.hid h.d16
    have D17 := Lib.hid h.d17
    have D18 := Lib.hid h.d18
    have D19 := Lib.hid h.d19
    have D20 := Lib.hid h.d20
    have D21 := Lib.hid h.d21
    have D22 := Lib.hid h.d22
    have E0 := Lib.hid h.e0
    have E1 := Lib.hid h.e1
    have E2 := Lib.hid h.e2
    have E3 := Lib.hid h.e3
    have E4 := Lib.hid h.e4
    have E5 := Lib.hid h.e5
    have E6 := Lib.hid h.e6
    have E7 := Lib.hid h.e7
    have E8 := Lib.hid h.e8
    have E9 := Lib.hid h.e9
    have E10 := Lib.hid h.e10
    have E11 := Lib.hid h.e11
    have E12 := Lib.hid h.e12
    have E13 := Lib.hid h.e13
    have E14 := Lib.hid h.e14
    have E15 := Lib.hid h.e15
    have E16 := Lib.hid h.e16
    have E17 := Lib.hid h.e17
    have E18 := Lib.hid h.e18
    have E19 := Lib.hid h.e19
    have E20 := Lib.hid h.e20
    have E21 := Lib.hid h.e21
    clear h
    dsimp only at HW HX D2 D3 D4 D5 D7 D8 D9 D11 D12 D13 D14 D16 D17 D18 D19 D20 D21 D22 E0 E1 E2 E3 E4 E5 E6 E7 E8 E9 E10 E11 E12 E13 E14 E15 E16 E17 E18 E19 E20 E21
    rcases i with _ | _ | _ | _ | _ | _ | _ | _ | _ | _ | _ | _ | _ | _ | _ | _ | _ | _ | _ | _ | _ | _ | _ | i
    all_goals (simp at ho; try subst ho)
    all_goals (try simp [Region.binds] at haf)
    · have n8 : M 22 = false := by cases h8 : M 22 with | false => rfl | true => exact absurd (D20.out (D21.out (D22.out h8).2)) (by simp [hL])
      obtain rfl := (HW.out n8).symm
      go_wp2
      exact ⟨⟨(.pointer (some ⟨g, 0, none⟩)), v86, v87, v88, v89, v90, v91, v92, v93, v94, v95, v96, v97, v98, v99, v100, v101, v102, v103, v104, v105, v106⟩, ⟨pu_, fun _ => rfl, fun h => absurd h (by simp [mkd, n8]), dk1 D2 (by decide), dk1 D3 (by decide), dk1 D4 (by decide), dk1 D5 (by decide), dk1 D7 (by decide), dk1 D8 (by decide), dk2 D9 (by decide), dk1 D11 (by decide), dk1 D12 (by decide), dk1 D13 (by decide), dk1 D14 (by decide), dk1 D16 (by decide), dk1 D17 (by decide), dk2 D18 (by decide), dk2 D19 (by decide), dk1 D20 (by decide), dk1 D21 (by decide), dk2 D22 (by decide), fun _ => rfl, kq E1, kq E2, kq E3, kq E4, kq E5, kq E6, kq E7, kq E8, kq E9, kq E10, kq E11, kq E12, kq E13, kq E14, kq E15, kq E16, kq E17, kq E18, kq E19, kq E20, kq E21⟩⟩
    · have n8 : M 22 = false := by cases h8 : M 22 with | false => rfl | true => exact absurd (D2.out (D3.out (D4.out (D5.out (D9.out (D19.out (D22.out h8).1).1).1)))) (by simp [hL])
      obtain rfl := (HW.out n8).symm
      go_wp2
      exact ⟨⟨v85, (.pointer (some ⟨g, 0, none⟩)), v87, v88, v89, v90, v91, v92, v93, v94, v95, v96, v97, v98, v99, v100, v101, v102, v103, v104, v105, v106⟩, ⟨pu_, fun _ => rfl, fun h => absurd h (by simp [mkd, n8]), dk1 D2 (by decide), dk1 D3 (by decide), dk1 D4 (by decide), dk1 D5 (by decide), dk1 D7 (by decide), dk1 D8 (by decide), dk2 D9 (by decide), dk1 D11 (by decide), dk1 D12 (by decide), dk1 D13 (by decide), dk1 D14 (by decide), dk1 D16 (by decide), dk1 D17 (by decide), dk2 D18 (by decide), dk2 D19 (by decide), dk1 D20 (by decide), dk1 D21 (by decide), dk2 D22 (by decide), kq E0, fun _ => rfl, kq E2, kq E3, kq E4, kq E5, kq E6, kq E7, kq E8, kq E9, kq E10, kq E11, kq E12, kq E13, kq E14, kq E15, kq E16, kq E17, kq E18, kq E19, kq E20, kq E21⟩⟩
    · have n8 : M 22 = false := by cases h8 : M 22 with | false => rfl | true => exact absurd (D3.out (D4.out (D5.out (D9.out (D19.out (D22.out h8).1).1).1))) (by simp [hL])
      obtain rfl := (HW.out n8).symm
      obtain rfl := (E1.out (by simp [haf])).symm
      go_wp2
      exact ⟨⟨v85, (.pointer (some ⟨g, 0, none⟩)), (.pointer (some ⟨g, 0, none⟩)), v88, v89, v90, v91, v92, v93, v94, v95, v96, v97, v98, v99, v100, v101, v102, v103, v104, v105, v106⟩, ⟨pu_, fun _ => rfl, fun h => absurd h (by simp [mkd, n8]), fun _ => by simp [mkd, haf], dk1 D3 (by decide), dk1 D4 (by decide), dk1 D5 (by decide), dk1 D7 (by decide), dk1 D8 (by decide), dk2 D9 (by decide), dk1 D11 (by decide), dk1 D12 (by decide), dk1 D13 (by decide), dk1 D14 (by decide), dk1 D16 (by decide), dk1 D17 (by decide), dk2 D18 (by decide), dk2 D19 (by decide), dk1 D20 (by decide), dk1 D21 (by decide), dk2 D22 (by decide), kq E0, fun _ => rfl, fun _ => rfl, kq E3, kq E4, kq E5, kq E6, kq E7, kq E8, kq E9, kq E10, kq E11, kq E12, kq E13, kq E14, kq E15, kq E16, kq E17, kq E18, kq E19, kq E20, kq E21⟩⟩
    · have n8 : M 22 = false := by cases h8 : M 22 with | false => rfl | true => exact absurd (D4.out (D5.out (D9.out (D19.out (D22.out h8).1).1).1)) (by simp [hL])
      obtain rfl := (HW.out n8).symm
      obtain rfl := (E2.out (by simp [haf])).symm
      go_wp2
      exact ⟨⟨v85, v86, (.pointer (some ⟨g, 0, none⟩)), (.pointer (some ⟨g, 6, none⟩)), v89, v90, v91, v92, v93, v94, v95, v96, v97, v98, v99, v100, v101, v102, v103, v104, v105, v106⟩, ⟨pu_, fun _ => rfl, fun h => absurd h (by simp [mkd, n8]), dk1 D2 (by decide), fun _ => by simp [mkd, haf], dk1 D4 (by decide), dk1 D5 (by decide), dk1 D7 (by decide), dk1 D8 (by decide), dk2 D9 (by decide), dk1 D11 (by decide), dk1 D12 (by decide), dk1 D13 (by decide), dk1 D14 (by decide), dk1 D16 (by decide), dk1 D17 (by decide), dk2 D18 (by decide), dk2 D19 (by decide), dk1 D20 (by decide), dk1 D21 (by decide), dk2 D22 (by decide), kq E0, kq E1, fun _ => rfl, fun _ => rfl, kq E4, kq E5, kq E6, kq E7, kq E8, kq E9, kq E10, kq E11, kq E12, kq E13, kq E14, kq E15, kq E16, kq E17, kq E18, kq E19, kq E20, kq E21⟩⟩
    · have n8 : M 22 = false := by cases h8 : M 22 with | false => rfl | true => exact absurd (D5.out (D9.out (D19.out (D22.out h8).1).1).1) (by simp [hL])
      obtain rfl := (HW.out n8).symm
      obtain rfl := (E3.out (by simp [haf])).symm
      go_wp2
      exact ⟨⟨v85, v86, v87, (.pointer (some ⟨g, 6, none⟩)), (.pointer (some ⟨g, 6, none⟩)), v90, v91, v92, v93, v94, v95, v96, v97, v98, v99, v100, v101, v102, v103, v104, v105, v106⟩, ⟨pu_, fun _ => rfl, fun h => absurd h (by simp [mkd, n8]), dk1 D2 (by decide), dk1 D3 (by decide), fun _ => by simp [mkd, haf], dk1 D5 (by decide), dk1 D7 (by decide), dk1 D8 (by decide), dk2 D9 (by decide), dk1 D11 (by decide), dk1 D12 (by decide), dk1 D13 (by decide), dk1 D14 (by decide), dk1 D16 (by decide), dk1 D17 (by decide), dk2 D18 (by decide), dk2 D19 (by decide), dk1 D20 (by decide), dk1 D21 (by decide), dk2 D22 (by decide), kq E0, kq E1, kq E2, fun _ => rfl, fun _ => rfl, kq E5, kq E6, kq E7, kq E8, kq E9, kq E10, kq E11, kq E12, kq E13, kq E14, kq E15, kq E16, kq E17, kq E18, kq E19, kq E20, kq E21⟩⟩
    · have n8 : M 22 = false := by cases h8 : M 22 with | false => rfl | true => exact absurd (D9.out (D19.out (D22.out h8).1).1).1 (by simp [hL])
      obtain rfl := (HW.out n8).symm
      obtain rfl := (E4.out (by simp [haf])).symm
      go_wp2
      exact ⟨⟨v85, v86, v87, v88, (.pointer (some ⟨g, 6, none⟩)), (.int .i64 0), v91, v92, v93, v94, v95, v96, v97, v98, v99, v100, v101, v102, v103, v104, v105, v106⟩, ⟨pu_, fun _ => rfl, fun h => absurd h (by simp [mkd, n8]), dk1 D2 (by decide), dk1 D3 (by decide), dk1 D4 (by decide), fun _ => by simp [mkd, haf], dk1 D7 (by decide), dk1 D8 (by decide), dk2 D9 (by decide), dk1 D11 (by decide), dk1 D12 (by decide), dk1 D13 (by decide), dk1 D14 (by decide), dk1 D16 (by decide), dk1 D17 (by decide), dk2 D18 (by decide), dk2 D19 (by decide), dk1 D20 (by decide), dk1 D21 (by decide), dk2 D22 (by decide), kq E0, kq E1, kq E2, kq E3, fun _ => rfl, fun _ => rfl, kq E6, kq E7, kq E8, kq E9, kq E10, kq E11, kq E12, kq E13, kq E14, kq E15, kq E16, kq E17, kq E18, kq E19, kq E20, kq E21⟩⟩
    · have n8 : M 22 = false := by cases h8 : M 22 with | false => rfl | true => exact absurd (D7.out (D8.out (D9.out (D19.out (D22.out h8).1).1).2)) (by simp [hL])
      obtain rfl := (HW.out n8).symm
      go_wp2
      exact ⟨⟨v85, v86, v87, v88, v89, v90, (.pointer (some ⟨q, 0, none⟩)), v92, v93, v94, v95, v96, v97, v98, v99, v100, v101, v102, v103, v104, v105, v106⟩, ⟨pu_, fun _ => rfl, fun h => absurd h (by simp [mkd, n8]), dk1 D2 (by decide), dk1 D3 (by decide), dk1 D4 (by decide), dk1 D5 (by decide), dk1 D7 (by decide), dk1 D8 (by decide), dk2 D9 (by decide), dk1 D11 (by decide), dk1 D12 (by decide), dk1 D13 (by decide), dk1 D14 (by decide), dk1 D16 (by decide), dk1 D17 (by decide), dk2 D18 (by decide), dk2 D19 (by decide), dk1 D20 (by decide), dk1 D21 (by decide), dk2 D22 (by decide), kq E0, kq E1, kq E2, kq E3, kq E4, kq E5, fun _ => rfl, kq E7, kq E8, kq E9, kq E10, kq E11, kq E12, kq E13, kq E14, kq E15, kq E16, kq E17, kq E18, kq E19, kq E20, kq E21⟩⟩
    · have n8 : M 22 = false := by cases h8 : M 22 with | false => rfl | true => exact absurd (D8.out (D9.out (D19.out (D22.out h8).1).1).2) (by simp [hL])
      obtain rfl := (HW.out n8).symm
      obtain rfl := (E6.out (by simp [haf])).symm
      go_wp2
      exact ⟨⟨v85, v86, v87, v88, v89, v90, (.pointer (some ⟨q, 0, none⟩)), (.int .i64 p), v93, v94, v95, v96, v97, v98, v99, v100, v101, v102, v103, v104, v105, v106⟩, ⟨pu_, fun _ => rfl, fun h => absurd h (by simp [mkd, n8]), dk1 D2 (by decide), dk1 D3 (by decide), dk1 D4 (by decide), dk1 D5 (by decide), fun _ => by simp [mkd, haf], dk1 D8 (by decide), dk2 D9 (by decide), dk1 D11 (by decide), dk1 D12 (by decide), dk1 D13 (by decide), dk1 D14 (by decide), dk1 D16 (by decide), dk1 D17 (by decide), dk2 D18 (by decide), dk2 D19 (by decide), dk1 D20 (by decide), dk1 D21 (by decide), dk2 D22 (by decide), kq E0, kq E1, kq E2, kq E3, kq E4, kq E5, fun _ => rfl, fun _ => rfl, kq E8, kq E9, kq E10, kq E11, kq E12, kq E13, kq E14, kq E15, kq E16, kq E17, kq E18, kq E19, kq E20, kq E21⟩⟩
    · have n8 : M 22 = false := by cases h8 : M 22 with | false => rfl | true => exact absurd (D9.out (D19.out (D22.out h8).1).1).2 (by simp [hL])
      obtain rfl := (HW.out n8).symm
      obtain rfl := (E7.out (by simp [haf])).symm
      go_wp2
      exact ⟨⟨v85, v86, v87, v88, v89, v90, v91, (.int .i64 p), (.int .i64 0), v94, v95, v96, v97, v98, v99, v100, v101, v102, v103, v104, v105, v106⟩, ⟨pu_, fun _ => rfl, fun h => absurd h (by simp [mkd, n8]), dk1 D2 (by decide), dk1 D3 (by decide), dk1 D4 (by decide), dk1 D5 (by decide), dk1 D7 (by decide), fun _ => by simp [mkd, haf], dk2 D9 (by decide), dk1 D11 (by decide), dk1 D12 (by decide), dk1 D13 (by decide), dk1 D14 (by decide), dk1 D16 (by decide), dk1 D17 (by decide), dk2 D18 (by decide), dk2 D19 (by decide), dk1 D20 (by decide), dk1 D21 (by decide), dk2 D22 (by decide), kq E0, kq E1, kq E2, kq E3, kq E4, kq E5, kq E6, fun _ => rfl, fun _ => rfl, kq E9, kq E10, kq E11, kq E12, kq E13, kq E14, kq E15, kq E16, kq E17, kq E18, kq E19, kq E20, kq E21⟩⟩
    · have n8 : M 22 = false := by cases h8 : M 22 with | false => rfl | true => exact absurd (D19.out (D22.out h8).1).1 (by simp [hL])
      obtain rfl := (HW.out n8).symm
      obtain rfl := (E5.out (by simp [haf])).symm
      obtain rfl := (E8.out (by simp [haf])).symm
      go_wp2
      exact ⟨⟨v85, v86, v87, v88, v89, (.int .i64 0), v91, v92, (.int .i64 0), (.int .i64 0), v95, v96, v97, v98, v99, v100, v101, v102, v103, v104, v105, v106⟩, ⟨pu_, fun _ => rfl, fun h => absurd h (by simp [mkd, n8]), dk1 D2 (by decide), dk1 D3 (by decide), dk1 D4 (by decide), dk1 D5 (by decide), dk1 D7 (by decide), dk1 D8 (by decide), fun _ => by simp [mkd, haf], dk1 D11 (by decide), dk1 D12 (by decide), dk1 D13 (by decide), dk1 D14 (by decide), dk1 D16 (by decide), dk1 D17 (by decide), dk2 D18 (by decide), dk2 D19 (by decide), dk1 D20 (by decide), dk1 D21 (by decide), dk2 D22 (by decide), kq E0, kq E1, kq E2, kq E3, kq E4, fun _ => rfl, kq E6, kq E7, fun _ => rfl, fun _ => rfl, kq E10, kq E11, kq E12, kq E13, kq E14, kq E15, kq E16, kq E17, kq E18, kq E19, kq E20, kq E21⟩⟩
    · have n8 : M 22 = false := by cases h8 : M 22 with | false => rfl | true => exact absurd (D11.out (D12.out (D13.out (D14.out (D18.out (D19.out (D22.out h8).1).2).1)))) (by simp [hL])
      obtain rfl := (HW.out n8).symm
      go_wp2
      exact ⟨⟨v85, v86, v87, v88, v89, v90, v91, v92, v93, v94, (.pointer (some ⟨g, 0, none⟩)), v96, v97, v98, v99, v100, v101, v102, v103, v104, v105, v106⟩, ⟨pu_, fun _ => rfl, fun h => absurd h (by simp [mkd, n8]), dk1 D2 (by decide), dk1 D3 (by decide), dk1 D4 (by decide), dk1 D5 (by decide), dk1 D7 (by decide), dk1 D8 (by decide), dk2 D9 (by decide), dk1 D11 (by decide), dk1 D12 (by decide), dk1 D13 (by decide), dk1 D14 (by decide), dk1 D16 (by decide), dk1 D17 (by decide), dk2 D18 (by decide), dk2 D19 (by decide), dk1 D20 (by decide), dk1 D21 (by decide), dk2 D22 (by decide), kq E0, kq E1, kq E2, kq E3, kq E4, kq E5, kq E6, kq E7, kq E8, kq E9, fun _ => rfl, kq E11, kq E12, kq E13, kq E14, kq E15, kq E16, kq E17, kq E18, kq E19, kq E20, kq E21⟩⟩
    · have n8 : M 22 = false := by cases h8 : M 22 with | false => rfl | true => exact absurd (D12.out (D13.out (D14.out (D18.out (D19.out (D22.out h8).1).2).1))) (by simp [hL])
      obtain rfl := (HW.out n8).symm
      obtain rfl := (E10.out (by simp [haf])).symm
      go_wp2
      exact ⟨⟨v85, v86, v87, v88, v89, v90, v91, v92, v93, v94, (.pointer (some ⟨g, 0, none⟩)), (.pointer (some ⟨g, 0, none⟩)), v97, v98, v99, v100, v101, v102, v103, v104, v105, v106⟩, ⟨pu_, fun _ => rfl, fun h => absurd h (by simp [mkd, n8]), dk1 D2 (by decide), dk1 D3 (by decide), dk1 D4 (by decide), dk1 D5 (by decide), dk1 D7 (by decide), dk1 D8 (by decide), dk2 D9 (by decide), fun _ => by simp [mkd, haf], dk1 D12 (by decide), dk1 D13 (by decide), dk1 D14 (by decide), dk1 D16 (by decide), dk1 D17 (by decide), dk2 D18 (by decide), dk2 D19 (by decide), dk1 D20 (by decide), dk1 D21 (by decide), dk2 D22 (by decide), kq E0, kq E1, kq E2, kq E3, kq E4, kq E5, kq E6, kq E7, kq E8, kq E9, fun _ => rfl, fun _ => rfl, kq E12, kq E13, kq E14, kq E15, kq E16, kq E17, kq E18, kq E19, kq E20, kq E21⟩⟩
    · have n8 : M 22 = false := by cases h8 : M 22 with | false => rfl | true => exact absurd (D13.out (D14.out (D18.out (D19.out (D22.out h8).1).2).1)) (by simp [hL])
      obtain rfl := (HW.out n8).symm
      obtain rfl := (E11.out (by simp [haf])).symm
      go_wp2
      exact ⟨⟨v85, v86, v87, v88, v89, v90, v91, v92, v93, v94, v95, (.pointer (some ⟨g, 0, none⟩)), (.pointer (some ⟨g, 6, none⟩)), v98, v99, v100, v101, v102, v103, v104, v105, v106⟩, ⟨pu_, fun _ => rfl, fun h => absurd h (by simp [mkd, n8]), dk1 D2 (by decide), dk1 D3 (by decide), dk1 D4 (by decide), dk1 D5 (by decide), dk1 D7 (by decide), dk1 D8 (by decide), dk2 D9 (by decide), dk1 D11 (by decide), fun _ => by simp [mkd, haf], dk1 D13 (by decide), dk1 D14 (by decide), dk1 D16 (by decide), dk1 D17 (by decide), dk2 D18 (by decide), dk2 D19 (by decide), dk1 D20 (by decide), dk1 D21 (by decide), dk2 D22 (by decide), kq E0, kq E1, kq E2, kq E3, kq E4, kq E5, kq E6, kq E7, kq E8, kq E9, kq E10, fun _ => rfl, fun _ => rfl, kq E13, kq E14, kq E15, kq E16, kq E17, kq E18, kq E19, kq E20, kq E21⟩⟩
    · have n8 : M 22 = false := by cases h8 : M 22 with | false => rfl | true => exact absurd (D14.out (D18.out (D19.out (D22.out h8).1).2).1) (by simp [hL])
      obtain rfl := (HW.out n8).symm
      obtain rfl := (E12.out (by simp [haf])).symm
      go_wp2
      exact ⟨⟨v85, v86, v87, v88, v89, v90, v91, v92, v93, v94, v95, v96, (.pointer (some ⟨g, 6, none⟩)), (.pointer (some ⟨g, 7, none⟩)), v99, v100, v101, v102, v103, v104, v105, v106⟩, ⟨pu_, fun _ => rfl, fun h => absurd h (by simp [mkd, n8]), dk1 D2 (by decide), dk1 D3 (by decide), dk1 D4 (by decide), dk1 D5 (by decide), dk1 D7 (by decide), dk1 D8 (by decide), dk2 D9 (by decide), dk1 D11 (by decide), dk1 D12 (by decide), fun _ => by simp [mkd, haf], dk1 D14 (by decide), dk1 D16 (by decide), dk1 D17 (by decide), dk2 D18 (by decide), dk2 D19 (by decide), dk1 D20 (by decide), dk1 D21 (by decide), dk2 D22 (by decide), kq E0, kq E1, kq E2, kq E3, kq E4, kq E5, kq E6, kq E7, kq E8, kq E9, kq E10, kq E11, fun _ => rfl, fun _ => rfl, kq E14, kq E15, kq E16, kq E17, kq E18, kq E19, kq E20, kq E21⟩⟩
    · have n8 : M 22 = false := by cases h8 : M 22 with | false => rfl | true => exact absurd (D18.out (D19.out (D22.out h8).1).2).1 (by simp [hL])
      obtain rfl := (HW.out n8).symm
      obtain rfl := (E13.out (by simp [haf])).symm
      go_wp2
      exact ⟨⟨v85, v86, v87, v88, v89, v90, v91, v92, v93, v94, v95, v96, v97, (.pointer (some ⟨g, 7, none⟩)), (.int .i64 0), v100, v101, v102, v103, v104, v105, v106⟩, ⟨pu_, fun _ => rfl, fun h => absurd h (by simp [mkd, n8]), dk1 D2 (by decide), dk1 D3 (by decide), dk1 D4 (by decide), dk1 D5 (by decide), dk1 D7 (by decide), dk1 D8 (by decide), dk2 D9 (by decide), dk1 D11 (by decide), dk1 D12 (by decide), dk1 D13 (by decide), fun _ => by simp [mkd, haf], dk1 D16 (by decide), dk1 D17 (by decide), dk2 D18 (by decide), dk2 D19 (by decide), dk1 D20 (by decide), dk1 D21 (by decide), dk2 D22 (by decide), kq E0, kq E1, kq E2, kq E3, kq E4, kq E5, kq E6, kq E7, kq E8, kq E9, kq E10, kq E11, kq E12, fun _ => rfl, fun _ => rfl, kq E15, kq E16, kq E17, kq E18, kq E19, kq E20, kq E21⟩⟩
    · have n8 : M 22 = false := by cases h8 : M 22 with | false => rfl | true => exact absurd (D16.out (D17.out (D18.out (D19.out (D22.out h8).1).2).2)) (by simp [hL])
      obtain rfl := (HW.out n8).symm
      go_wp2
      exact ⟨⟨v85, v86, v87, v88, v89, v90, v91, v92, v93, v94, v95, v96, v97, v98, v99, (.pointer (some ⟨q, 1, none⟩)), v101, v102, v103, v104, v105, v106⟩, ⟨pu_, fun _ => rfl, fun h => absurd h (by simp [mkd, n8]), dk1 D2 (by decide), dk1 D3 (by decide), dk1 D4 (by decide), dk1 D5 (by decide), dk1 D7 (by decide), dk1 D8 (by decide), dk2 D9 (by decide), dk1 D11 (by decide), dk1 D12 (by decide), dk1 D13 (by decide), dk1 D14 (by decide), dk1 D16 (by decide), dk1 D17 (by decide), dk2 D18 (by decide), dk2 D19 (by decide), dk1 D20 (by decide), dk1 D21 (by decide), dk2 D22 (by decide), kq E0, kq E1, kq E2, kq E3, kq E4, kq E5, kq E6, kq E7, kq E8, kq E9, kq E10, kq E11, kq E12, kq E13, kq E14, fun _ => rfl, kq E16, kq E17, kq E18, kq E19, kq E20, kq E21⟩⟩
    · have n8 : M 22 = false := by cases h8 : M 22 with | false => rfl | true => exact absurd (D17.out (D18.out (D19.out (D22.out h8).1).2).2) (by simp [hL])
      obtain rfl := (HW.out n8).symm
      obtain rfl := (E15.out (by simp [haf])).symm
      go_wp2
      exact ⟨⟨v85, v86, v87, v88, v89, v90, v91, v92, v93, v94, v95, v96, v97, v98, v99, (.pointer (some ⟨q, 1, none⟩)), (.int .i64 p), v102, v103, v104, v105, v106⟩, ⟨pu_, fun _ => rfl, fun h => absurd h (by simp [mkd, n8]), dk1 D2 (by decide), dk1 D3 (by decide), dk1 D4 (by decide), dk1 D5 (by decide), dk1 D7 (by decide), dk1 D8 (by decide), dk2 D9 (by decide), dk1 D11 (by decide), dk1 D12 (by decide), dk1 D13 (by decide), dk1 D14 (by decide), fun _ => by simp [mkd, haf], dk1 D17 (by decide), dk2 D18 (by decide), dk2 D19 (by decide), dk1 D20 (by decide), dk1 D21 (by decide), dk2 D22 (by decide), kq E0, kq E1, kq E2, kq E3, kq E4, kq E5, kq E6, kq E7, kq E8, kq E9, kq E10, kq E11, kq E12, kq E13, kq E14, fun _ => rfl, fun _ => rfl, kq E17, kq E18, kq E19, kq E20, kq E21⟩⟩
    · have n8 : M 22 = false := by cases h8 : M 22 with | false => rfl | true => exact absurd (D18.out (D19.out (D22.out h8).1).2).2 (by simp [hL])
      obtain rfl := (HW.out n8).symm
      obtain rfl := (E16.out (by simp [haf])).symm
      go_wp2
      exact ⟨⟨v85, v86, v87, v88, v89, v90, v91, v92, v93, v94, v95, v96, v97, v98, v99, v100, (.int .i64 p), (.int .i64 0), v103, v104, v105, v106⟩, ⟨pu_, fun _ => rfl, fun h => absurd h (by simp [mkd, n8]), dk1 D2 (by decide), dk1 D3 (by decide), dk1 D4 (by decide), dk1 D5 (by decide), dk1 D7 (by decide), dk1 D8 (by decide), dk2 D9 (by decide), dk1 D11 (by decide), dk1 D12 (by decide), dk1 D13 (by decide), dk1 D14 (by decide), dk1 D16 (by decide), fun _ => by simp [mkd, haf], dk2 D18 (by decide), dk2 D19 (by decide), dk1 D20 (by decide), dk1 D21 (by decide), dk2 D22 (by decide), kq E0, kq E1, kq E2, kq E3, kq E4, kq E5, kq E6, kq E7, kq E8, kq E9, kq E10, kq E11, kq E12, kq E13, kq E14, kq E15, fun _ => rfl, fun _ => rfl, kq E18, kq E19, kq E20, kq E21⟩⟩
    · have n8 : M 22 = false := by cases h8 : M 22 with | false => rfl | true => exact absurd (D19.out (D22.out h8).1).2 (by simp [hL])
      obtain rfl := (HW.out n8).symm
      obtain rfl := (E14.out (by simp [haf])).symm
      obtain rfl := (E17.out (by simp [haf])).symm
      go_wp2
      exact ⟨⟨v85, v86, v87, v88, v89, v90, v91, v92, v93, v94, v95, v96, v97, v98, (.int .i64 0), v100, v101, (.int .i64 0), (.int .i64 0), v104, v105, v106⟩, ⟨pu_, fun _ => rfl, fun h => absurd h (by simp [mkd, n8]), dk1 D2 (by decide), dk1 D3 (by decide), dk1 D4 (by decide), dk1 D5 (by decide), dk1 D7 (by decide), dk1 D8 (by decide), dk2 D9 (by decide), dk1 D11 (by decide), dk1 D12 (by decide), dk1 D13 (by decide), dk1 D14 (by decide), dk1 D16 (by decide), dk1 D17 (by decide), fun _ => by simp [mkd, haf], dk2 D19 (by decide), dk1 D20 (by decide), dk1 D21 (by decide), dk2 D22 (by decide), kq E0, kq E1, kq E2, kq E3, kq E4, kq E5, kq E6, kq E7, kq E8, kq E9, kq E10, kq E11, kq E12, kq E13, fun _ => rfl, kq E15, kq E16, fun _ => rfl, fun _ => rfl, kq E19, kq E20, kq E21⟩⟩
    · have n8 : M 22 = false := by cases h8 : M 22 with | false => rfl | true => exact absurd (D22.out h8).1 (by simp [hL])
      obtain rfl := (HW.out n8).symm
      obtain rfl := (E9.out (by simp [haf])).symm
      obtain rfl := (E18.out (by simp [haf])).symm
      go_wp2
      exact ⟨⟨v85, v86, v87, v88, v89, v90, v91, v92, v93, (.int .i64 0), v95, v96, v97, v98, v99, v100, v101, v102, (.int .i64 0), (.agg #[.int .i64 0, .int .i64 0]), v105, v106⟩, ⟨pu_, fun _ => rfl, fun h => absurd h (by simp [mkd, n8]), dk1 D2 (by decide), dk1 D3 (by decide), dk1 D4 (by decide), dk1 D5 (by decide), dk1 D7 (by decide), dk1 D8 (by decide), dk2 D9 (by decide), dk1 D11 (by decide), dk1 D12 (by decide), dk1 D13 (by decide), dk1 D14 (by decide), dk1 D16 (by decide), dk1 D17 (by decide), dk2 D18 (by decide), fun _ => by simp [mkd, haf], dk1 D20 (by decide), dk1 D21 (by decide), dk2 D22 (by decide), kq E0, kq E1, kq E2, kq E3, kq E4, kq E5, kq E6, kq E7, kq E8, fun _ => rfl, kq E10, kq E11, kq E12, kq E13, kq E14, kq E15, kq E16, kq E17, fun _ => rfl, fun _ => rfl, kq E20, kq E21⟩⟩
    · have n8 : M 22 = false := by cases h8 : M 22 with | false => rfl | true => exact absurd (D21.out (D22.out h8).2) (by simp [hL])
      obtain rfl := (HW.out n8).symm
      obtain rfl := (E0.out (by simp [haf])).symm
      go_wp2
      exact ⟨⟨(.pointer (some ⟨g, 0, none⟩)), v86, v87, v88, v89, v90, v91, v92, v93, v94, v95, v96, v97, v98, v99, v100, v101, v102, v103, v104, (.pointer (some ⟨g, 0, none⟩)), v106⟩, ⟨pu_, fun _ => rfl, fun h => absurd h (by simp [mkd, n8]), dk1 D2 (by decide), dk1 D3 (by decide), dk1 D4 (by decide), dk1 D5 (by decide), dk1 D7 (by decide), dk1 D8 (by decide), dk2 D9 (by decide), dk1 D11 (by decide), dk1 D12 (by decide), dk1 D13 (by decide), dk1 D14 (by decide), dk1 D16 (by decide), dk1 D17 (by decide), dk2 D18 (by decide), dk2 D19 (by decide), fun _ => by simp [mkd, haf], dk1 D21 (by decide), dk2 D22 (by decide), fun _ => rfl, kq E1, kq E2, kq E3, kq E4, kq E5, kq E6, kq E7, kq E8, kq E9, kq E10, kq E11, kq E12, kq E13, kq E14, kq E15, kq E16, kq E17, kq E18, kq E19, fun _ => rfl, kq E21⟩⟩
    · have n8 : M 22 = false := by cases h8 : M 22 with | false => rfl | true => exact absurd (D22.out h8).2 (by simp [hL])
      obtain rfl := (HW.out n8).symm
      obtain rfl := (E20.out (by simp [haf])).symm
      go_wp2
      exact ⟨⟨v85, v86, v87, v88, v89, v90, v91, v92, v93, v94, v95, v96, v97, v98, v99, v100, v101, v102, v103, v104, (.pointer (some ⟨g, 0, none⟩)), (.pointer (some ⟨g, 6, none⟩))⟩, ⟨pu_, fun _ => rfl, fun h => absurd h (by simp [mkd, n8]), dk1 D2 (by decide), dk1 D3 (by decide), dk1 D4 (by decide), dk1 D5 (by decide), dk1 D7 (by decide), dk1 D8 (by decide), dk2 D9 (by decide), dk1 D11 (by decide), dk1 D12 (by decide), dk1 D13 (by decide), dk1 D14 (by decide), dk1 D16 (by decide), dk1 D17 (by decide), dk2 D18 (by decide), dk2 D19 (by decide), dk1 D20 (by decide), fun _ => by simp [mkd, haf], dk2 D22 (by decide), kq E0, kq E1, kq E2, kq E3, kq E4, kq E5, kq E6, kq E7, kq E8, kq E9, kq E10, kq E11, kq E12, kq E13, kq E14, kq E15, kq E16, kq E17, kq E18, kq E19, fun _ => rfl, fun _ => rfl⟩⟩
    · obtain rfl := (HW.out hL).symm
      obtain rfl := (E19.out (by simp [haf])).symm
      obtain rfl := (E21.out (by simp [haf])).symm
      go_wp2
      exact ⟨⟨v85, v86, v87, v88, v89, v90, v91, v92, v93, v94, v95, v96, v97, v98, v99, v100, v101, v102, v103, (.agg #[.int .i64 0, .int .i64 0]), v105, (.pointer (some ⟨g, 6, none⟩))⟩, ⟨pu_, fun h => absurd h (by simp [mkd]), fun _ => rfl, dk1 D2 (by decide), dk1 D3 (by decide), dk1 D4 (by decide), dk1 D5 (by decide), dk1 D7 (by decide), dk1 D8 (by decide), dk2 D9 (by decide), dk1 D11 (by decide), dk1 D12 (by decide), dk1 D13 (by decide), dk1 D14 (by decide), dk1 D16 (by decide), dk1 D17 (by decide), dk2 D18 (by decide), dk2 D19 (by decide), dk1 D20 (by decide), dk1 D21 (by decide), fun _ => by simp [mkd, haf], kq E0, kq E1, kq E2, kq E3, kq E4, kq E5, kq E6, kq E7, kq E8, kq E9, kq E10, kq E11, kq E12, kq E13, kq E14, kq E15, kq E16, kq E17, kq E18, fun _ => rfl, kq E20, fun _ => rfl⟩⟩
  case fin =>
    intro M a1' w' hall h
    obtain ⟨⟨v85, v86, v87, v88, v89, v90, v91, v92, v93, v94, v95, v96, v97, v98, v99, v100, v101, v102, v103, v104, v105, v106⟩, h⟩ := h
    have hA := h.eq
    dsimp only at hA
    subst hA
    obtain rfl := h.hX (hall 22 (by simp))
    clear h hall
    simp only [Act.put, List.setIfInBounds_toArray, List.set_cons_zero, List.set_cons_succ]
    exact H.out _ _ _ _ _ _ _ _ _ _ _ _ _ _ _ _ _ _ _ _ _ _
end Go.Proofs.YthfndnmfnijpeaaGreat
