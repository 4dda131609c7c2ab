/- Plain: polynomials of sine and cosine over the rationals, and how they change. No program in sight. -/
import Derived.Test.YtbpnacacnncopaaGreatDoorProg
import Derived.Shelf.Spec.BitsCarry
import Derived.Ground.Names7Prog
import Derived.Shelf.Bits.Mul64
import Derived.Ground.NamesProg
import Derived.Shelf.Small.Bits
import Derived.LoopN
import Derived.Deep.RegionHeld3
import Derived.Deep.RegionLaw
import Derived.Deep.DeepCutAuto
import Derived.Deep.CutBlock
import Derived.Test.YtbpnacacnncopaaGreatDoorHIa
set_option linter.unusedVariables false
set_option linter.unusedSimpArgs false
namespace Go.Proofs
open Go.Shelf
def Tryz.lays25_ren : Go.Shelf.Ren := ⟨fun | 25 => 256 | n => n, fun | 22 => 175 | n => n, fun | n => n⟩
theorem Tryz.lays25 : Go.Proofs.Lays7.n25 Tryz.prog Tryz.lays25_ren := {
  mixed := by kernel_rfl
  f25 := Tryz.func256.trans (congrArg some (by kernel_rfl))
  t22 := Tryz.underlying175
  a22 := Tryz.isAgg175
  z22 := Tryz.sizeOf175
  v22 := Tryz.zeroValue175
  i22 := by kernel_rfl }
def Tryz.lays26_ren : Go.Shelf.Ren := ⟨fun | 26 => 258 | n => n, fun | 22 => 175 | n => n, fun | n => n⟩
theorem Tryz.lays26 : Go.Proofs.Lays7.n26 Tryz.prog Tryz.lays26_ren := {
  mixed := by kernel_rfl
  f26 := Tryz.func258.trans (congrArg some (by kernel_rfl))
  t22 := Tryz.underlying175
  a22 := Tryz.isAgg175
  z22 := Tryz.sizeOf175
  v22 := Tryz.zeroValue175
  i22 := by kernel_rfl }
def Tryz.mul64_ren : Go.Shelf.Ren := ⟨fun | 264 => 228 | n => n, fun | 53 => 175 | 46 => 90 | n => n, fun | n => n⟩
theorem Tryz.mul64 : Go.Proofs.Lays.n264 Tryz.prog Tryz.mul64_ren := {
  mixed := by kernel_rfl
  f264 := Tryz.func228.trans (congrArg some (by kernel_rfl))
  t46 := Tryz.underlying90
  a46 := Tryz.isAgg90
  z46 := Tryz.sizeOf90
  v46 := Tryz.zeroValue90
  t53 := Tryz.underlying175
  a53 := Tryz.isAgg175
  z53 := Tryz.sizeOf175
  v53 := Tryz.zeroValue175 }
def Tryz.lz64_ren : Go.Shelf.Ren := ⟨fun | 134 => 255 | 129 => 202 | n => n, fun | 53 => 175 | 3 => 3 | 4 => 4 | 46 => 90 | 5 => 5 | 9 => 9 | n => n, fun | n => n⟩
theorem Tryz.lz64 : Go.Proofs.Lays.n134 Tryz.prog Tryz.lz64_ren := {
  mixed := by kernel_rfl
  f129 := Tryz.func202.trans (congrArg some (by kernel_rfl))
  f134 := Tryz.func255.trans (congrArg some (by kernel_rfl))
  t3 := Tryz.underlying3
  a3 := Tryz.isAgg3
  z3 := Tryz.sizeOf3
  v3 := Tryz.zeroValue3
  t4 := Tryz.underlying4
  a4 := Tryz.isAgg4
  z4 := Tryz.sizeOf4
  v4 := Tryz.zeroValue4
  t5 := Tryz.underlying5
  a5 := Tryz.isAgg5
  z5 := Tryz.sizeOf5
  v5 := Tryz.zeroValue5
  t9 := Tryz.underlying9
  a9 := Tryz.isAgg9
  z9 := Tryz.sizeOf9
  v9 := Tryz.zeroValue9
  t46 := Tryz.underlying90
  a46 := Tryz.isAgg90
  z46 := Tryz.sizeOf90
  v46 := Tryz.zeroValue90
  t53 := Tryz.underlying175
  a53 := Tryz.isAgg175
  z53 := Tryz.sizeOf175
  v53 := Tryz.zeroValue175 }
end Go.Proofs
namespace Go.Proofs.YtbpnacacnncopaaGreatDoor
open Go.RowKit Go.Shelf
/-- a word -/
def U64 (x : Int) : Prop := 0 ≤ x ∧ x < 18446744073709551616
def adS (x y c : Int) : Int := (x + y + c) % 18446744073709551616
def adC (x y c : Int) : Int := (x + y + c) / 18446744073709551616
def suD (x y b : Int) : Int := (x - y - b) % 18446744073709551616
def suB (x y b : Int) : Int := if x < y + b then 1 else 0
def muH (x y : Int) : Int := x * y / 18446744073709551616
def muL (x y : Int) : Int := x * y % 18446744073709551616
theorem ad_eq (x y c : Int) : adS x y c + 18446744073709551616 * adC x y c = x + y + c := by unfold adS adC; omega
theorem adS_u (x y c : Int) : U64 (adS x y c) := by unfold adS U64; omega
theorem adC_bd {x y c : Int} (hx : U64 x) (hy : U64 y) (h0 : 0 ≤ c) (h1 : c ≤ 1) : 0 ≤ adC x y c ∧ adC x y c ≤ 1 := by unfold adC U64 at *; omega
theorem suD_u (x y b : Int) : U64 (suD x y b) := by unfold suD U64; omega
theorem suB_bd (x y b : Int) : 0 ≤ suB x y b ∧ suB x y b ≤ 1 := by unfold suB; split <;> omega
theorem su_eq {x y b : Int} (hx : U64 x) (hy : U64 y) (h0 : 0 ≤ b) (h1 : b ≤ 1) : suD x y b = x - y - b + 18446744073709551616 * suB x y b := by
  unfold suD suB U64 at *
  split <;> omega
theorem mu_eq (x y : Int) : muH x y * 18446744073709551616 + muL x y = x * y := by unfold muH muL; omega
theorem muL_u (x y : Int) : U64 (muL x y) := by unfold muL U64; omega
theorem mul_lt {x y : Int} (hx : U64 x) (hy : U64 y) : 0 ≤ x * y ∧ x * y ≤ 340282366920938463426481119284349108225 := by
  obtain ⟨x0, x1⟩ := hx
  obtain ⟨y0, y1⟩ := hy
  have h1 : x * y ≤ 18446744073709551615 * 18446744073709551615 := Int.mul_le_mul (by omega) (by omega) y0 (by omega)
  exact ⟨Int.mul_nonneg x0 y0, by omega⟩
theorem muH_bd {x y : Int} (hx : U64 x) (hy : U64 y) : 0 ≤ muH x y ∧ muH x y ≤ 18446744073709551614 := by
  have := mul_lt hx hy
  unfold muH
  omega
theorem add64 (x y c : Int) (hx : U64 x) (hy : U64 y) (h0 : 0 ≤ c) (h1 : c ≤ 1) (w : World) :
    (callFunc 256 #[.int .u64 x, .int .u64 y, .int .u64 c]).run Tryz.prog w = .ok (.value (.tuple #[.int .u64 (adS x y c), .int .u64 (adC x y c)])) w := by
  have h := Any7.bits_Add64 Tryz.lays25 x.toNat y.toNat c.toNat (by omega) w
  change (callFunc 256 _).run _ _ = _ at h
  have ex : ((x.toNat : Nat) : Int) = x := Int.toNat_of_nonneg hx.1
  have ey : ((y.toNat : Nat) : Int) = y := Int.toNat_of_nonneg hy.1
  have ec : ((c.toNat : Nat) : Int) = c := Int.toNat_of_nonneg h0
  rw [ex, ey, ec] at h
  rw [h]
  obtain ⟨x0, x1⟩ := hx
  obtain ⟨y0, y1⟩ := hy
  have e1 : (((x.toNat + y.toNat + c.toNat) % 18446744073709551616 : Nat) : Int) = adS x y c := by unfold adS; omega
  have e2 : (((x.toNat + y.toNat + c.toNat) / 18446744073709551616 : Nat) : Int) = adC x y c := by unfold adC; omega
  rw [e1, e2]
theorem add64_0 (x y : Int) (hx : U64 x) (hy : U64 y) (w : World) :
    (callFunc 256 #[.int .u64 x, .int .u64 y, .int .u64 0]).run Tryz.prog w = .ok (.value (.tuple #[.int .u64 (adS x y 0), .int .u64 (adC x y 0)])) w := add64 x y 0 hx hy (by omega) (by omega) w
theorem sub64 (x y b : Int) (hx : U64 x) (hy : U64 y) (h0 : 0 ≤ b) (h1 : b ≤ 1) (w : World) :
    (callFunc 258 #[.int .u64 x, .int .u64 y, .int .u64 b]).run Tryz.prog w = .ok (.value (.tuple #[.int .u64 (suD x y b), .int .u64 (suB x y b)])) w := by
  have h := Any7.bits_Sub64 Tryz.lays26 x.toNat y.toNat b.toNat (by omega) w
  change (callFunc 258 _).run _ _ = _ at h
  have ex : ((x.toNat : Nat) : Int) = x := Int.toNat_of_nonneg hx.1
  have ey : ((y.toNat : Nat) : Int) = y := Int.toNat_of_nonneg hy.1
  have eb : ((b.toNat : Nat) : Int) = b := Int.toNat_of_nonneg h0
  rw [ex, ey, eb] at h
  rw [h]
  obtain ⟨x0, x1⟩ := hx
  obtain ⟨y0, y1⟩ := hy
  have e1 : (((x.toNat + 18446744073709551616 - y.toNat - b.toNat) % 18446744073709551616 : Nat) : Int) = suD x y b := by unfold suD; omega
  have e2 : ((if x.toNat < y.toNat + b.toNat then 1 else 0 : Nat) : Int) = suB x y b := by unfold suB; split <;> split <;> omega
  rw [e1, e2]
theorem mul64 (x y : Int) (hx : U64 x) (hy : U64 y) (w : World) :
    Calls Tryz.prog 228 #[.int .u64 x, .int .u64 y] w fun e w' => e = .returned (.tuple #[.int .u64 (muH x y), .int .u64 (muL x y)]) ∧ w' = w := by
  obtain ⟨x0, x1⟩ := hx
  obtain ⟨y0, y1⟩ := hy
  have h := Any.bits_Mul64 Tryz.mul64 x.toNat y.toNat (by omega) (by omega) w
  change Calls Tryz.prog 228 _ _ _ at h
  have ex : ((x.toNat : Nat) : Int) = x := Int.toNat_of_nonneg x0
  have ey : ((y.toNat : Nat) : Int) = y := Int.toNat_of_nonneg y0
  have em : ((x.toNat * y.toNat : Nat) : Int) = x * y := by push_cast; rw [ex, ey]
  rw [ex, ey] at h
  have e1 : ((x.toNat * y.toNat / 18446744073709551616 : Nat) : Int) = muH x y := by unfold muH; rw [← em]; omega
  have e2 : ((x.toNat * y.toNat % 18446744073709551616 : Nat) : Int) = muL x y := by unfold muL; rw [← em]; omega
  rw [e1, e2] at h
  exact h
/-- the value of four words -/
def nv (a0 a1 a2 a3 : Int) : Int := a0 * 6277101735386680763835789423207666416102355444464034512896 + a1 * 340282366920938463463374607431768211456 + a2 * 18446744073709551616 + a3
abbrev num4 (a0 a1 a2 a3 : Int) : Value := .agg #[.int .u64 a0, .int .u64 a1, .int .u64 a2, .int .u64 a3]
end Go.Proofs.YtbpnacacnncopaaGreatDoor
namespace Go.Proofs.YtbpnacacnncopaaGreatDoor
open Go.RowKit
abbrev arr4 (a0 a1 a2 a3 : Int) : Array Value := #[.int .u64 a0, .int .u64 a1, .int .u64 a2, .int .u64 a3]
/-- three blocks of four words, at the end of the memory that was there -/
structure Two4 (w wx : World) (a0 a1 a2 a3 b0 b1 b2 b3 : Int) : Prop where
  bl : Below w.heap.size w wx
  A : Blk wx w.heap.size 254 (arr4 a0 a1 a2 a3)
  B : Blk wx (w.heap.size + 1) 254 (arr4 b0 b1 b2 b3)
  C : Blk wx (w.heap.size + 1 + 1) 254 (arr4 0 0 0 0)
theorem Two4.drew {w wx : World} {a0 a1 a2 a3 b0 b1 b2 b3 : Int} (h : Two4 w wx a0 a1 a2 a3 b0 b1 b2 b3) : Two4 w wx.drew a0 a1 a2 a3 b0 b1 b2 b3 := ⟨bl_drew h.bl, h.A, h.B, h.C⟩
theorem Two4.start (w : World) (a0 a1 a2 a3 b0 b1 b2 b3 : Int) : Two4 w (((w.alloc (.cells (arr4 a0 a1 a2 a3) 254)).alloc (.cells (arr4 b0 b1 b2 b3) 254)).alloc (.cells (arr4 0 0 0 0) 254)) a0 a1 a2 a3 b0 b1 b2 b3 := by
  refine ⟨?_, ?_, ?_, ?_⟩
  · exact (((Below.refl _ _).alloc (Nat.le_refl _) _).alloc (by simp) _).alloc (by simp; omega) _
  · exact ((Blk.new w 254 (arr4 a0 a1 a2 a3)).alloc _).alloc _
  · have := (Blk.new (w.alloc (.cells (arr4 a0 a1 a2 a3) 254)) 254 (arr4 b0 b1 b2 b3)).alloc (.cells (arr4 0 0 0 0) 254)
    simpa using this
  · have := Blk.new ((w.alloc (.cells (arr4 a0 a1 a2 a3) 254)).alloc (.cells (arr4 b0 b1 b2 b3) 254)) 254 (arr4 0 0 0 0)
    simpa using this
theorem Two4.set_ {w wx : World} {a0 a1 a2 a3 b0 b1 b2 b3 : Int} (h : Two4 w wx a0 a1 a2 a3 b0 b1 b2 b3) (i : Nat) (u : Value) : 
    Below w.heap.size w (wx.setCell ⟨w.heap.size, i, none⟩ u) ∧ Blk (wx.setCell ⟨w.heap.size, i, none⟩ u) w.heap.size 254 ((arr4 a0 a1 a2 a3).setIfInBounds i u) ∧ Blk (wx.setCell ⟨w.heap.size, i, none⟩ u) (w.heap.size + 1) 254 (arr4 b0 b1 b2 b3) ∧ Blk (wx.setCell ⟨w.heap.size, i, none⟩ u) (w.heap.size + 1 + 1) 254 (arr4 0 0 0 0) :=
  ⟨h.bl.setCell (Nat.le_refl _) _, h.A.set_ i u, h.B.far (by simp) u, h.C.far (by simp; omega) u⟩

theorem Two4.set0 {w wx : World} {a0 a1 a2 a3 b0 b1 b2 b3 d : Int} (h : Two4 w wx a0 a1 a2 a3 b0 b1 b2 b3) : Two4 w (wx.setCell ⟨w.heap.size, 0, none⟩ (.int .u64 d)) d a1 a2 a3 b0 b1 b2 b3 := by
  obtain ⟨h1, h2, h3, h4⟩ := h.set_ 0 (.int .u64 d)
  exact ⟨h1, h2, h3, h4⟩
theorem Two4.set1 {w wx : World} {a0 a1 a2 a3 b0 b1 b2 b3 d : Int} (h : Two4 w wx a0 a1 a2 a3 b0 b1 b2 b3) : Two4 w (wx.setCell ⟨w.heap.size, 1, none⟩ (.int .u64 d)) a0 d a2 a3 b0 b1 b2 b3 := by
  obtain ⟨h1, h2, h3, h4⟩ := h.set_ 1 (.int .u64 d)
  exact ⟨h1, h2, h3, h4⟩
theorem Two4.set2 {w wx : World} {a0 a1 a2 a3 b0 b1 b2 b3 d : Int} (h : Two4 w wx a0 a1 a2 a3 b0 b1 b2 b3) : Two4 w (wx.setCell ⟨w.heap.size, 2, none⟩ (.int .u64 d)) a0 a1 d a3 b0 b1 b2 b3 := by
  obtain ⟨h1, h2, h3, h4⟩ := h.set_ 2 (.int .u64 d)
  exact ⟨h1, h2, h3, h4⟩
theorem Two4.set3 {w wx : World} {a0 a1 a2 a3 b0 b1 b2 b3 d : Int} (h : Two4 w wx a0 a1 a2 a3 b0 b1 b2 b3) : Two4 w (wx.setCell ⟨w.heap.size, 3, none⟩ (.int .u64 d)) a0 a1 a2 d b0 b1 b2 b3 := by
  obtain ⟨h1, h2, h3, h4⟩ := h.set_ 3 (.int .u64 d)
  exact ⟨h1, h2, h3, h4⟩
set_option maxHeartbeats 2000000 in
set_option maxRecDepth 100000 in
theorem subN_any (a0 a1 a2 a3 b0 b1 b2 b3 : Int) (w : World) (ha0 : U64 a0) (ha1 : U64 a1) (ha2 : U64 a2) (ha3 : U64 a3) (hb0 : U64 b0) (hb1 : U64 b1) (hb2 : U64 b2) (hb3 : U64 b3) :
    Calls Tryz.prog 252 #[num4 a0 a1 a2 a3, num4 b0 b1 b2 b3] w fun e w' => e = .returned (num4 (suD a0 b0 (suB a1 b1 (suB a2 b2 (suB a3 b3 0)))) (suD a1 b1 (suB a2 b2 (suB a3 b3 0))) (suD a2 b2 (suB a3 b3 0)) (suD a3 b3 0)) ∧ Below w.heap.size w w' := by
  have s3 := Lib.hid (sub64 a3 b3 0 ha3 hb3 (by omega) (by omega))
  have c3 := suB_bd a3 b3 0
  generalize suB a3 b3 0 = k3 at *
  generalize suD a3 b3 0 = d3 at *
  have s2 := Lib.hid (sub64 a2 b2 k3 ha2 hb2 c3.1 c3.2)
  have c2 := suB_bd a2 b2 k3
  generalize suB a2 b2 k3 = k2 at *
  generalize suD a2 b2 k3 = d2 at *
  have s1 := Lib.hid (sub64 a1 b1 k2 ha1 hb1 c2.1 c2.2)
  have c1 := suB_bd a1 b1 k2
  generalize suB a1 b1 k2 = k1 at *
  generalize suD a1 b1 k2 = d1 at *
  have s0 := Lib.hid (sub64 a0 b0 k1 ha0 hb0 c1.1 c1.2)
  generalize suB a0 b0 k1 = k0 at *
  generalize suD a0 b0 k1 = d0 at *
  clear ha0 ha1 ha2 ha3 hb0 hb1 hb2 hb3 c1 c2 c3
  go_enter Tryz.func252, Tryz.ntmps252
  go_wp2
  have T4 := Lib.hid (Two4.start w a0 a1 a2 a3 b0 b1 b2 b3)
  unfold arr4 at T4
  generalize ((w.alloc (.cells #[.int .u64 a0, .int .u64 a1, .int .u64 a2, .int .u64 a3] 254)).alloc (.cells #[.int .u64 b0, .int .u64 b1, .int .u64 b2, .int .u64 b3] 254)).alloc (.cells #[.int .u64 0, .int .u64 0, .int .u64 0, .int .u64 0] 254) = w4 at *
  refine wp_loop_rounds 5 ?_
  rw [rounds_succ]
  have x := T4.out.A.cell 3
  have f := T4.out.A.frozen 3
  have y := T4.out.B.cell 3
  simp at x y
  go_upto_block 1 with (fail)
  go_cut [5] (fun s5 wy => s5 = .int .u64 k3 ∧ Two4 w wy a0 a1 a2 d3 b0 b1 b2 b3)
  case first =>
    have q := s3.out
    go_wp2
    go_region_law (fail)
    all_goals
      go_wp2_with fail
      go_meet
      case rel => exact ⟨rfl, T4.out.drew.set3⟩
  case rest =>
  obtain ⟨rfl, T⟩ := hcut
  rename World => w3
  have T3 := Lib.hid T
  clear x f y T T4
  go_wp2
  rw [rounds_succ]
  have x := T3.out.A.cell 2
  have f := T3.out.A.frozen 2
  have y := T3.out.B.cell 2
  simp at x y
  go_upto_block 1 with (fail)
  go_cut [5] (fun s5 wy => s5 = .int .u64 k2 ∧ Two4 w wy a0 a1 d2 d3 b0 b1 b2 b3)
  case first =>
    have q := s2.out
    go_wp2
    go_region_law (fail)
    all_goals
      go_wp2_with fail
      go_meet
      case rel => exact ⟨rfl, T3.out.drew.set2⟩
  case rest =>
  obtain ⟨rfl, T⟩ := hcut
  rename World => w2
  have T2 := Lib.hid T
  clear x f y T T3
  go_wp2
  rw [rounds_succ]
  have x := T2.out.A.cell 1
  have f := T2.out.A.frozen 1
  have y := T2.out.B.cell 1
  simp at x y
  go_upto_block 1 with (fail)
  go_cut [5] (fun s5 wy => s5 = .int .u64 k1 ∧ Two4 w wy a0 d1 d2 d3 b0 b1 b2 b3)
  case first =>
    have q := s1.out
    go_wp2
    go_region_law (fail)
    all_goals
      go_wp2_with fail
      go_meet
      case rel => exact ⟨rfl, T2.out.drew.set1⟩
  case rest =>
  obtain ⟨rfl, T⟩ := hcut
  rename World => w1
  have T1 := Lib.hid T
  clear x f y T T2
  go_wp2
  rw [rounds_succ]
  have x := T1.out.A.cell 0
  have f := T1.out.A.frozen 0
  have y := T1.out.B.cell 0
  simp at x y
  go_upto_block 1 with (fail)
  go_cut [5] (fun s5 wy => s5 = .int .u64 k0 ∧ Two4 w wy d0 d1 d2 d3 b0 b1 b2 b3)
  case first =>
    have q := s0.out
    go_wp2
    go_region_law (fail)
    all_goals
      go_wp2_with fail
      go_meet
      case rel => exact ⟨rfl, T1.out.drew.set0⟩
  case rest =>
  obtain ⟨rfl, T⟩ := hcut
  rename World => w0
  have T0 := Lib.hid T
  clear x f y T T1
  go_wp2
  rw [rounds_succ]
  have x0 := T0.out.A.cell 0
  have x1 := T0.out.A.cell 1
  have x2 := T0.out.A.cell 2
  have x3 := T0.out.A.cell 3
  have z0 := T0.out.C.cell 0
  have z1 := T0.out.C.cell 1
  have z2 := T0.out.C.cell 2
  have z3 := T0.out.C.cell 3
  have f0 := T0.out.C.frozen 0
  have f1 := T0.out.C.frozen 1
  have f2 := T0.out.C.frozen 2
  have f3 := T0.out.C.frozen 3
  simp at x0 x1 x2 x3 z0 z1 z2 z3
  go_wp2
  refine bodyPost_ret (v := num4 d0 d1 d2 d3) (by simp [results, Tryz.results252, go_sem, *]) rfl ⟨rfl, ?_⟩
  exact (((T0.out.bl.setCell (by simp; omega) _).setCell (by simp; omega) _).setCell (by simp; omega) _).setCell (by simp; omega) _
end Go.Proofs.YtbpnacacnncopaaGreatDoor
namespace Go.Proofs.YtbpnacacnncopaaGreatDoor.Trig
/-- a sum of the first terms -/
def Sm (f : Nat → Rat) : Nat → Rat
  | 0 => 0
  | n + 1 => Sm f n + f n
/-- x^i / i! -/
def mo (x : Rat) : Nat → Rat
  | 0 => 1
  | i + 1 => mo x i * x / ((i : Rat) + 1)
/-- 1, 0, -1, 0, .. -/
def sg : Nat → Rat
  | 0 => 1
  | 1 => 0
  | n + 2 => - sg n
/-- the cosine (o = 0), minus the sine (1), minus the cosine (2), the sine (3) -/
def Fs (o M : Nat) (x : Rat) : Rat := Sm (fun i => sg (i + o) * mo x i) M
/-- two numbers are near -/
def Nr (a b e : Rat) : Prop := a - b ≤ e ∧ b - a ≤ e
theorem c0 (i : Nat) : (0 : Rat) ≤ (i : Rat) := by exact_mod_cast Nat.zero_le i
theorem mo_succ (x : Rat) (i : Nat) : mo x (i + 1) * ((i : Rat) + 1) = mo x i * x := by
  have := c0 i
  rw [mo, Rat.div_mul_cancel (by grind)]
theorem nn_of_mul {a b : Rat} (h : 0 ≤ a * b) (hb : 0 < b) : 0 ≤ a := Rat.le_of_mul_le_mul_right (c := b) (by simpa using h) hb
theorem mo_nonneg {x : Rat} (h : 0 ≤ x) : ∀ i, 0 ≤ mo x i
  | 0 => by simp [mo]; decide
  | i + 1 => by
    have h1 := mo_nonneg h i
    have h2 := c0 i
    have h3 := mo_succ x i
    have h4 : 0 ≤ mo x i * x := Rat.mul_nonneg h1 h
    rw [← h3] at h4
    exact nn_of_mul h4 (by grind)
/-- every second of the numbers is at most half of the one before -/
theorem mo_half {x : Rat} (h : 0 ≤ x) (h1 : x ≤ 1) (i : Nat) : mo x (i + 1) ≤ mo x i ∧ (1 ≤ i → 2 * mo x (i + 1) ≤ mo x i) := by
  have h0 := mo_nonneg h i
  have h2 := mo_nonneg h (i + 1)
  have h3 := mo_succ x i
  have h4 : 0 ≤ mo x i * (1 - x) := Rat.mul_nonneg h0 (by grind)
  have hi := c0 i
  have h5 : 0 ≤ mo x (i + 1) * (i : Rat) := Rat.mul_nonneg h2 hi
  refine ⟨by grind, fun hi1 => ?_⟩
  have h6 : (1 : Rat) ≤ (i : Rat) := by exact_mod_cast hi1
  have h7 : 0 ≤ mo x (i + 1) * ((i : Rat) - 1) := Rat.mul_nonneg h2 (by grind)
  grind
theorem mo_le1 {x : Rat} (h : 0 ≤ x) (h1 : x ≤ 1) : ∀ i, mo x i ≤ 1
  | 0 => by simp [mo]
  | i + 1 => Rat.le_trans (mo_half h h1 i).1 (mo_le1 h h1 i)
/-- the i-th number, k places on -/
def mk (x : Rat) (k i : Nat) : Rat := if i < k then 0 else mo x (i - k)
theorem mk_zero (x : Rat) (i : Nat) : mk x 0 i = mo x i := by simp [mk]
theorem mk_succ (x : Rat) (k i : Nat) : mk x (k + 1) (i + 1) = mk x k i := by
  unfold mk
  by_cases h : i < k
  · rw [if_pos h, if_pos (by omega)]
  · rw [if_neg h, if_neg (by omega)]; congr 1; omega
theorem mk_first (x : Rat) (k : Nat) : mk x (k + 1) 0 = 0 := by simp [mk]
theorem mk_bd {x : Rat} (h : 0 ≤ x) (h1 : x ≤ 1) (k i : Nat) : 0 ≤ mk x k i ∧ mk x k i ≤ 1 := by
  unfold mk
  split
  · exact ⟨by decide, by decide⟩
  · exact ⟨mo_nonneg h _, mo_le1 h h1 _⟩
theorem mk_x (x : Rat) (k i : Nat) : mk x (k + 1) i * x = ((i : Rat) - (k : Rat)) * mk x k i := by
  unfold mk
  by_cases h : i < k
  · rw [if_pos h, if_pos (by omega)]; grind
  · by_cases h2 : i = k
    · subst h2
      rw [if_pos (by omega)]
      grind
    · obtain ⟨j, rfl⟩ : ∃ j, i = k + 1 + j := ⟨i - (k + 1), by omega⟩
      rw [if_neg (by omega), if_neg (by omega)]
      rw [show k + 1 + j - (k + 1) = j by omega, show k + 1 + j - k = j + 1 by omega]
      have := mo_succ x j
      push_cast
      grind
/-- what is left of the i-th number at x + h behind four terms, times 24 / h^4 -/
def be : Nat → Rat
  | 0 => 0
  | i + 1 => (be i + (if i < 3 then 0 else 1 / 6)) / ((i : Rat) + 1)
def Ti (x h : Rat) (i : Nat) : Rat := mk x 0 i + h * mk x 1 i + h * h / 2 * mk x 2 i + h * h * h / 6 * mk x 3 i
theorem be_nonneg : ∀ i, 0 ≤ be i
  | 0 => by simp [be]
  | i + 1 => by
    have h := be_nonneg i
    have h2 := c0 i
    have h3 : be (i + 1) * ((i : Rat) + 1) = be i + (if i < 3 then 0 else 1 / 6) := by rw [be, Rat.div_mul_cancel (by grind)]
    refine nn_of_mul (b := (i : Rat) + 1) ?_ (by grind)
    rw [h3]
    split <;> grind
theorem step_fin {X m m' T T' H b b' s k I : Rat} (e1 : m' * I = m * X) (hT : X * T = I * T' + H / 6 * k) (hb : H * (b' * I) = H * (b + s)) (hI : 0 < I)
    (k1 : 0 ≤ X * (H * b - (m - T))) (k2 : 0 ≤ X * (H * b - (T - m))) (k3 : 0 ≤ (1 - X) * (H * b)) (k4 : 0 ≤ H * (s - k / 6)) (k5 : 0 ≤ H * k) : Nr m' T' (H * b') := by
  constructor
  · refine Rat.le_of_mul_le_mul_right (c := I) ?_ hI
    grind_linarith
  · refine Rat.le_of_mul_le_mul_right (c := I) ?_ hI
    grind_linarith
theorem Ti_succ (x h : Rat) (i : Nat) : (x + h) * Ti x h i = ((i : Rat) + 1) * Ti x h (i + 1) + h * h * h * h / 6 * mk x 3 i := by
  have a1 := mk_succ x 0 i
  have a2 := mk_succ x 1 i
  have a3 := mk_succ x 2 i
  have x0 := mk_x x 0 i
  have x1 := mk_x x 1 i
  have x2 := mk_x x 2 i
  have z0 : mk x 0 (i + 1) * ((i : Rat) + 1) = mk x 0 i * x := by rw [mk_zero, mk_zero]; exact mo_succ x i
  unfold Ti
  rw [a1, a2, a3]
  push_cast at x0 x1 x2
  grind
theorem shift_mo {x h : Rat} (hx : 0 ≤ x) (hh : 0 ≤ h) (h1 : x + h ≤ 1) : ∀ i, Nr (mo (x + h) i) (Ti x h i) (h * h * h * h * be i)
  | 0 => by
    simp [Nr, Ti, mk, mo, be]
    grind
  | i + 1 => by
    obtain ⟨i1, i2⟩ := shift_mo hx hh h1 i
    have hi := c0 i
    have hb : be (i + 1) * ((i : Rat) + 1) = be i + (if i < 3 then 0 else 1 / 6) := by rw [be, Rat.div_mul_cancel (by grind)]
    have m3 : mk x 3 i / 6 ≤ (if i < 3 then 0 else 1 / 6) := by
      have := (mk_bd hx (by grind) 3 i).2
      by_cases h3 : i < 3
      · rw [if_pos h3, mk, if_pos h3]; grind
      · rw [if_neg h3]; grind
    have m0 := (mk_bd hx (by grind) 3 i).1
    have hH : 0 ≤ h * h * h * h := Rat.mul_nonneg (Rat.mul_nonneg (Rat.mul_nonneg hh hh) hh) hh
    have hbn := be_nonneg i
    refine step_fin (mo_succ (x + h) i) (Ti_succ x h i) (by rw [hb]) (by grind) (Rat.mul_nonneg (by grind) (by grind)) (Rat.mul_nonneg (by grind) (by grind)) (Rat.mul_nonneg (by grind) (Rat.mul_nonneg hH hbn)) (Rat.mul_nonneg hH ?_) (Rat.mul_nonneg hH m0)
    grind_linarith
/-! ### sums -/
theorem Sm_front (f : Nat → Rat) : ∀ n, Sm f (n + 1) = f 0 + Sm (fun i => f (i + 1)) n
  | 0 => by simp [Sm]; grind
  | n + 1 => by rw [Sm, Sm_front f n]; simp only [Sm]; grind
theorem Sm_nr {a b e : Nat → Rat} (h : ∀ i, Nr (a i) (b i) (e i)) : ∀ n, Nr (Sm a n) (Sm b n) (Sm e n)
  | 0 => by simp [Sm, Nr]; grind
  | n + 1 => by
    have h1 := Sm_nr h n
    have h2 := h n
    unfold Nr at *
    simp only [Sm]
    grind
theorem Sm_congr {a b : Nat → Rat} (h : ∀ i, a i = b i) (n : Nat) : Sm a n = Sm b n := by rw [show a = b from funext h]
theorem sg_two (i : Nat) : sg (i + 2) = - sg i := by rw [sg]
theorem sg_bd : ∀ i, sg i = 0 ∨ sg i = 1 ∨ sg i = -1
  | 0 => .inr (.inl rfl)
  | 1 => .inl rfl
  | n + 2 => by
    rw [sg_two]
    rcases sg_bd n with h | h | h <;> rw [h] <;> simp
def Gk (x : Rat) (k o M : Nat) : Rat := Sm (fun i => sg (i + o) * mk x k i) M
theorem Gk_eq (x : Rat) : ∀ k o M, Gk x k o M = Fs (o + k) (M - k) x
  | 0, o, M => by
    unfold Gk Fs
    exact Sm_congr (fun i => by rw [mk_zero]; simp) _
  | k + 1, o, 0 => by simp [Gk, Fs, Sm]
  | k + 1, o, M + 1 => by
    have e : Gk x (k + 1) o (M + 1) = Gk x k (o + 1) M := by
      unfold Gk
      rw [Sm_front, mk_first]
      have := Sm_congr (a := fun i => sg (i + 1 + o) * mk x (k + 1) (i + 1)) (b := fun i => sg (i + (o + 1)) * mk x k i) (fun i => by rw [mk_succ, show i + 1 + o = i + (o + 1) by omega]) M
      rw [this]
      grind
    rw [e, Gk_eq x k (o + 1) M, show o + 1 + k = o + (k + 1) by omega, show M + 1 - (k + 1) = M - k by omega]
theorem Sm_lin (f0 f1 f2 f3 : Nat → Rat) (a b c : Rat) : ∀ n, Sm (fun i => f0 i + a * f1 i + b * f2 i + c * f3 i) n = Sm f0 n + a * Sm f1 n + b * Sm f2 n + c * Sm f3 n
  | 0 => by simp [Sm]; grind
  | n + 1 => by
    rw [Sm, Sm_lin f0 f1 f2 f3 a b c n]
    simp only [Sm]
    grind
theorem Sm_scale (f : Nat → Rat) (a : Rat) : ∀ n, Sm (fun i => a * f i) n = a * Sm f n
  | 0 => by simp [Sm]
  | n + 1 => by rw [Sm, Sm_scale f a n, Sm]; grind
/-- the values a little further on -/
theorem shift_F {x h : Rat} (hx : 0 ≤ x) (hh : 0 ≤ h) (h1 : x + h ≤ 1) (o M : Nat) :
    Nr (Fs o M (x + h)) (Fs o M x + h * Fs (o + 1) (M - 1) x + h * h / 2 * Fs (o + 2) (M - 2) x + h * h * h / 6 * Fs (o + 3) (M - 3) x) (h * h * h * h * Sm be M) := by
  have H0 := Sm_nr (a := fun i => sg (i + o) * mo (x + h) i) (b := fun i => sg (i + o) * Ti x h i) (e := fun i => h * h * h * h * be i) (fun i => by
    obtain ⟨a, b⟩ := shift_mo hx hh h1 i
    have hn : 0 ≤ h * h * h * h * be i := Rat.mul_nonneg (Rat.mul_nonneg (Rat.mul_nonneg (Rat.mul_nonneg hh hh) hh) hh) (be_nonneg i)
    generalize h * h * h * h * be i = e at *
    rcases sg_bd (i + o) with s | s | s <;> simp only [s] <;> constructor <;> grind) M
  rw [Sm_scale] at H0
  have e : Sm (fun i => sg (i + o) * Ti x h i) M = Gk x 0 o M + h * Gk x 1 o M + h * h / 2 * Gk x 2 o M + h * h * h / 6 * Gk x 3 o M := by
    unfold Gk
    rw [← Sm_lin]
    refine Sm_congr (fun i => ?_) M
    unfold Ti
    grind
  rw [e, Gk_eq, Gk_eq, Gk_eq, Gk_eq] at H0
  exact H0
theorem Fs_two (o M : Nat) (x : Rat) : Fs (o + 2) M x = - Fs o M x := by
  unfold Fs
  have := Sm_scale (fun i => sg (i + o) * mo x i) (-1) M
  rw [show -Sm (fun i => sg (i + o) * mo x i) M = -1 * Sm (fun i => sg (i + o) * mo x i) M by grind, ← this]
  exact Sm_congr (fun i => by rw [show i + (o + 2) = i + o + 2 by omega, sg_two]; grind) M
/-- small numbers: the i-th one is at most 2^(1 - i) -/
theorem mo_small {x : Rat} (h : 0 ≤ x) (h1 : x ≤ 1) : ∀ i, mo x (i + 1) * (2 : Rat) ^ i ≤ 1
  | 0 => by
    have := mo_le1 h h1 1
    rw [Rat.pow_zero]
    grind
  | i + 1 => by
    have ih := mo_small h h1 i
    have h2 := (mo_half h h1 (i + 1)).2 (by omega)
    have hp : 0 ≤ (2 : Rat) ^ i := Rat.pow_nonneg (by decide)
    have h3 := Rat.mul_le_mul_of_nonneg_right h2 hp
    rw [Rat.pow_succ]
    grind
theorem mo_mono {x : Rat} (h : 0 ≤ x) (h1 : x ≤ 1) (i : Nat) : ∀ j, mo x (i + j) ≤ mo x i
  | 0 => Rat.le_refl
  | j + 1 => Rat.le_trans (mo_half h h1 (i + j)).1 (mo_mono h h1 i j)
theorem mo_66 {x : Rat} (h : 0 ≤ x) (h1 : x ≤ 1) {M : Nat} (hM : 66 ≤ M) : mo x M ≤ 1 / 2 ^ 65 := by
  have h3 := mo_mono h h1 66 (M - 66)
  rw [show 66 + (M - 66) = M by omega] at h3
  refine Rat.le_trans h3 ?_
  refine Rat.le_of_mul_le_mul_right (c := 2 ^ 65) ?_ (by decide +kernel)
  rw [Rat.div_mul_cancel (by decide +kernel)]
  exact mo_small h h1 65
theorem Fs_step {x : Rat} (h : 0 ≤ x) (h1 : x ≤ 1) (o M : Nat) (hM : 66 ≤ M) : Nr (Fs o (M + 1) x) (Fs o M x) (1 / 2 ^ 65) := by
  have e : Fs o (M + 1) x = Fs o M x + sg (M + o) * mo x M := rfl
  have h3 := mo_nonneg h M
  have h6 := mo_66 h h1 hM
  rw [e]
  rcases sg_bd (M + o) with s | s | s <;> rw [s] <;> constructor <;> grind
/-- the sine, and the cosine -/
def sinP (x : Rat) : Rat := Fs 3 70 x
def cosP (x : Rat) : Rat := Fs 0 70 x
theorem Sm_be : Sm be 70 ≤ 3 / 5 := by decide +kernel
theorem nr_mul {a b e h K : Rat} (hn : Nr a b e) (h0 : 0 ≤ h) (hK : h ≤ K) (he : 0 ≤ e) : Nr (h * a) (h * b) (K * e) := by
  obtain ⟨h1, h2⟩ := hn
  have k1 : 0 ≤ h * (e - (a - b)) := Rat.mul_nonneg h0 (by grind)
  have k2 : 0 ≤ h * (e - (b - a)) := Rat.mul_nonneg h0 (by grind)
  have k3 : 0 ≤ (K - h) * e := Rat.mul_nonneg (by grind) he
  constructor <;> grind_linarith
theorem nr_comb {v s c c69 s68 c67 h sb e : Rat} (hh : 0 ≤ h) (hs : h ≤ 1 / 10000) (he : 0 ≤ e) (H : Nr v (s + h * c69 + h * h / 2 * -s68 + h * h * h / 6 * -c67) (h * h * h * h * sb))
    (hb : 0 ≤ h * h * h * h * (3 / 5 - sb)) (n1 : Nr c69 c e) (n2 : Nr s68 s (2 * e)) (n3 : Nr c67 c (3 * e)) :
    Nr v (s + h * c - h * h / 2 * s - h * h * h / 6 * c) (h * h * h * h * (3 / 5) + e / 2) := by
  have q2 : h * h ≤ 1 / 10000 := by
    have := Rat.mul_nonneg (a := h) (b := 1 / 10000 - h) hh (by grind)
    grind_linarith
  have q20 : 0 ≤ h * h := Rat.mul_nonneg hh hh
  have q3 : h * h * h ≤ 1 / 10000 := by
    have := Rat.mul_nonneg (a := h * h) (b := 1 / 10000 - h) q20 (by grind)
    grind_linarith
  have q30 : 0 ≤ h * h * h := Rat.mul_nonneg q20 hh
  obtain ⟨a1, a2⟩ := nr_mul n1 hh hs he
  obtain ⟨b1, b2⟩ := nr_mul n2 q20 q2 (by grind)
  obtain ⟨d1, d2⟩ := nr_mul n3 q30 q3 (by grind)
  obtain ⟨H1, H2⟩ := H
  constructor <;> grind_linarith
theorem nr_trans {a b c e f : Rat} (h1 : Nr a b e) (h2 : Nr b c f) : Nr a c (e + f) := by unfold Nr at *; constructor <;> grind
theorem nr_neg {a b e : Rat} (h : Nr a b e) : Nr (-a) (-b) e := by unfold Nr at *; constructor <;> grind
theorem nr_symm {a b e : Rat} (h : Nr a b e) : Nr b a e := ⟨h.2, h.1⟩
theorem nr_mono {a b e f : Rat} (h : Nr a b e) (hf : e ≤ f) : Nr a b f := by unfold Nr at *; constructor <;> grind
theorem be_bd {h : Rat} (hh : 0 ≤ h) : 0 ≤ h * h * h * h * (3 / 5 - Sm be 70) := Rat.mul_nonneg (Rat.mul_nonneg (Rat.mul_nonneg (Rat.mul_nonneg hh hh) hh) hh) (by have := Sm_be; grind)
/-- the sine a little further on -/
theorem sin_shift {x h : Rat} (hx : 0 ≤ x) (hh : 0 ≤ h) (h1 : x + h ≤ 1) (hs : h ≤ 1 / 10000) :
    Nr (sinP (x + h)) (sinP x + h * cosP x - h * h / 2 * sinP x - h * h * h / 6 * cosP x) (h * h * h * h * (3 / 5) + 1 / 2 ^ 65 / 2) := by
  have hx1 : x ≤ 1 := by grind
  have s1 := Fs_step hx hx1 0 69 (by omega)
  have s2 := Fs_step hx hx1 3 69 (by omega)
  have s3 := Fs_step hx hx1 3 68 (by omega)
  have s4 := Fs_step hx hx1 0 68 (by omega)
  have s5 := Fs_step hx hx1 0 67 (by omega)
  refine nr_comb hh hs (by decide +kernel) ?_ (be_bd hh) (nr_symm s1) (nr_mono (nr_trans (nr_symm s3) (nr_symm s2)) (by decide +kernel)) (nr_mono (nr_trans (nr_symm s5) (nr_trans (nr_symm s4) (nr_symm s1))) (by decide +kernel))
  have H := shift_F hx hh h1 3 70
  have e1 : Fs 4 69 x = Fs 0 69 x := by rw [Fs_two 2, Fs_two 0]; grind
  have e2 : Fs 5 68 x = - Fs 3 68 x := Fs_two 3 68 x
  have e3 : Fs 6 67 x = - Fs 0 67 x := by rw [Fs_two 4, Fs_two 2, Fs_two 0]; grind
  rw [show 3 + 1 = 4 from rfl, show 3 + 2 = 5 from rfl, show 3 + 3 = 6 from rfl, show 70 - 1 = 69 from rfl, show 70 - 2 = 68 from rfl, show 70 - 3 = 67 from rfl, e1, e2, e3] at H
  exact H
/-- the cosine a little further on -/
theorem cos_shift {x h : Rat} (hx : 0 ≤ x) (hh : 0 ≤ h) (h1 : x + h ≤ 1) (hs : h ≤ 1 / 10000) :
    Nr (cosP (x + h)) (cosP x - h * sinP x - h * h / 2 * cosP x + h * h * h / 6 * sinP x) (h * h * h * h * (3 / 5) + 1 / 2 ^ 65 / 2) := by
  have hx1 : x ≤ 1 := by grind
  have s1 := Fs_step hx hx1 3 69 (by omega)
  have s2 := Fs_step hx hx1 0 69 (by omega)
  have s3 := Fs_step hx hx1 0 68 (by omega)
  have s4 := Fs_step hx hx1 3 68 (by omega)
  have s5 := Fs_step hx hx1 3 67 (by omega)
  have K := nr_comb (v := cosP (x + h)) (s := cosP x) (c := - sinP x) (c69 := - Fs 3 69 x) (s68 := Fs 0 68 x) (c67 := - Fs 3 67 x) hh hs (e := 1 / 2 ^ 65) (by decide +kernel) ?_ (be_bd hh) (nr_neg (nr_symm s1)) (nr_mono (nr_trans (nr_symm s3) (nr_symm s2)) (by decide +kernel)) (nr_mono (nr_neg (nr_trans (nr_symm s5) (nr_trans (nr_symm s4) (nr_symm s1)))) (by decide +kernel))
  · rw [show cosP x - h * sinP x - h * h / 2 * cosP x + h * h * h / 6 * sinP x = cosP x + h * -sinP x - h * h / 2 * cosP x - h * h * h / 6 * -sinP x by grind]
    exact K
  · have H := shift_F hx hh h1 0 70
    have e1 : Fs 1 69 x = - Fs 3 69 x := by rw [Fs_two 1]; grind
    have e2 : Fs 2 68 x = - Fs 0 68 x := Fs_two 0 68 x
    rw [show 0 + 1 = 1 from rfl, show 0 + 2 = 2 from rfl, show 0 + 3 = 3 from rfl, show 70 - 1 = 69 from rfl, show 70 - 2 = 68 from rfl, show 70 - 3 = 67 from rfl, e1, e2] at H
    rw [show - - Fs 3 67 x = Fs 3 67 x by grind]
    exact H
end Go.Proofs.YtbpnacacnncopaaGreatDoor.Trig
