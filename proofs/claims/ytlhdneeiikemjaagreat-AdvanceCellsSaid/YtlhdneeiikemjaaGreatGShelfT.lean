/- The walk of trig's difference of numbers. -/
import Derived.Test.YtlhdneeiikemjaaGreatProg
import Derived.Shelf.Spec.BitsCarry
import Derived.Ground.Names7Prog
import Derived.Shelf.Bits.Mul64
import Derived.Ground.NamesProg
import Derived.Shelf.Small.Bits
import Derived.LoopN
import Derived.Deep.RegionHeld3
import Derived.Deep.RegionLaw
import Derived.Deep.DeepCutAuto
import Derived.Deep.CutBlock
import Derived.Test.YtlhdneeiikemjaaGreatGBase
import Derived.Test.YtlhdneeiikemjaaGreatGWords
set_option linter.unusedVariables false
set_option linter.unusedSimpArgs false
/- Contracts of Go's library at this seat's numbers, laid by the kit's tools. -/
namespace Go.Proofs
open Go.Shelf
def Tryz.lays25_ren : Go.Shelf.Ren := ⟨fun | 25 => 275 | n => n, fun | 22 => 148 | n => n, fun | n => n⟩
theorem Tryz.lays25 : Go.Proofs.Lays7.n25 Tryz.prog Tryz.lays25_ren := {
  mixed := by kernel_rfl
  f25 := Tryz.func275.trans (congrArg some (by kernel_rfl))
  t22 := Tryz.underlying148
  a22 := Tryz.isAgg148
  z22 := Tryz.sizeOf148
  v22 := Tryz.zeroValue148
  i22 := by kernel_rfl }
def Tryz.lays26_ren : Go.Shelf.Ren := ⟨fun | 26 => 280 | n => n, fun | 22 => 148 | n => n, fun | n => n⟩
theorem Tryz.lays26 : Go.Proofs.Lays7.n26 Tryz.prog Tryz.lays26_ren := {
  mixed := by kernel_rfl
  f26 := Tryz.func280.trans (congrArg some (by kernel_rfl))
  t22 := Tryz.underlying148
  a22 := Tryz.isAgg148
  z22 := Tryz.sizeOf148
  v22 := Tryz.zeroValue148
  i22 := by kernel_rfl }
def Tryz.mul64_ren : Go.Shelf.Ren := ⟨fun | 264 => 223 | n => n, fun | 53 => 148 | 46 => 150 | n => n, fun | n => n⟩
theorem Tryz.mul64 : Go.Proofs.Lays.n264 Tryz.prog Tryz.mul64_ren := {
  mixed := by kernel_rfl
  f264 := Tryz.func223.trans (congrArg some (by kernel_rfl))
  t46 := Tryz.underlying150
  a46 := Tryz.isAgg150
  z46 := Tryz.sizeOf150
  v46 := Tryz.zeroValue150
  t53 := Tryz.underlying148
  a53 := Tryz.isAgg148
  z53 := Tryz.sizeOf148
  v53 := Tryz.zeroValue148 }
def Tryz.lz64_ren : Go.Shelf.Ren := ⟨fun | 134 => 281 | 129 => 208 | n => n, fun | 53 => 148 | 3 => 3 | 4 => 4 | 46 => 150 | 5 => 5 | 9 => 9 | n => n, fun | n => n⟩
theorem Tryz.lz64 : Go.Proofs.Lays.n134 Tryz.prog Tryz.lz64_ren := {
  mixed := by kernel_rfl
  f129 := Tryz.func208.trans (congrArg some (by kernel_rfl))
  f134 := Tryz.func281.trans (congrArg some (by kernel_rfl))
  t3 := Tryz.underlying3
  a3 := Tryz.isAgg3
  z3 := Tryz.sizeOf3
  v3 := Tryz.zeroValue3
  t4 := Tryz.underlying4
  a4 := Tryz.isAgg4
  z4 := Tryz.sizeOf4
  v4 := Tryz.zeroValue4
  t5 := Tryz.underlying5
  a5 := Tryz.isAgg5
  z5 := Tryz.sizeOf5
  v5 := Tryz.zeroValue5
  t9 := Tryz.underlying9
  a9 := Tryz.isAgg9
  z9 := Tryz.sizeOf9
  v9 := Tryz.zeroValue9
  t46 := Tryz.underlying150
  a46 := Tryz.isAgg150
  z46 := Tryz.sizeOf150
  v46 := Tryz.zeroValue150
  t53 := Tryz.underlying148
  a53 := Tryz.isAgg148
  z53 := Tryz.sizeOf148
  v53 := Tryz.zeroValue148 }
end Go.Proofs
/- Sums, differences and products of words of 64 digits; numbers of four words. -/
namespace Go.Proofs.YtlhdneeiikemjaaGreat
open Go.RowKit Go.Shelf
abbrev M64 : Int := 18446744073709551616
/-- a word -/
def U64 (x : Int) : Prop := 0 ≤ x ∧ x < 18446744073709551616
def adS (x y c : Int) : Int := (x + y + c) % 18446744073709551616
def adC (x y c : Int) : Int := (x + y + c) / 18446744073709551616
def suD (x y b : Int) : Int := (x - y - b) % 18446744073709551616
def suB (x y b : Int) : Int := if x < y + b then 1 else 0
def muH (x y : Int) : Int := x * y / 18446744073709551616
def muL (x y : Int) : Int := x * y % 18446744073709551616
theorem ad_eq (x y c : Int) : adS x y c + 18446744073709551616 * adC x y c = x + y + c := by unfold adS adC; omega
theorem adS_u (x y c : Int) : U64 (adS x y c) := by unfold adS U64; omega
theorem adC_bd {x y c : Int} (hx : U64 x) (hy : U64 y) (h0 : 0 ≤ c) (h1 : c ≤ 1) : 0 ≤ adC x y c ∧ adC x y c ≤ 1 := by unfold adC U64 at *; omega
theorem suD_u (x y b : Int) : U64 (suD x y b) := by unfold suD U64; omega
theorem suB_bd (x y b : Int) : 0 ≤ suB x y b ∧ suB x y b ≤ 1 := by unfold suB; split <;> omega
theorem su_eq {x y b : Int} (hx : U64 x) (hy : U64 y) (h0 : 0 ≤ b) (h1 : b ≤ 1) : suD x y b = x - y - b + 18446744073709551616 * suB x y b := by
  unfold suD suB U64 at *
  split <;> omega
theorem mu_eq (x y : Int) : muH x y * 18446744073709551616 + muL x y = x * y := by unfold muH muL; omega
theorem muL_u (x y : Int) : U64 (muL x y) := by unfold muL U64; omega
theorem mul_lt {x y : Int} (hx : U64 x) (hy : U64 y) : 0 ≤ x * y ∧ x * y ≤ 340282366920938463426481119284349108225 := by
  obtain ⟨x0, x1⟩ := hx
  obtain ⟨y0, y1⟩ := hy
  have h1 : x * y ≤ 18446744073709551615 * 18446744073709551615 := Int.mul_le_mul (by omega) (by omega) y0 (by omega)
  exact ⟨Int.mul_nonneg x0 y0, by omega⟩
theorem muH_bd {x y : Int} (hx : U64 x) (hy : U64 y) : 0 ≤ muH x y ∧ muH x y ≤ 18446744073709551614 := by
  have := mul_lt hx hy
  unfold muH
  omega
theorem add64 (x y c : Int) (hx : U64 x) (hy : U64 y) (h0 : 0 ≤ c) (h1 : c ≤ 1) (w : World) :
    (callFunc 275 #[.int .u64 x, .int .u64 y, .int .u64 c]).run Tryz.prog w = .ok (.value (.tuple #[.int .u64 (adS x y c), .int .u64 (adC x y c)])) w := by
  have h := Any7.bits_Add64 Tryz.lays25 x.toNat y.toNat c.toNat (by omega) w
  change (callFunc 275 _).run _ _ = _ at h
  have ex : ((x.toNat : Nat) : Int) = x := Int.toNat_of_nonneg hx.1
  have ey : ((y.toNat : Nat) : Int) = y := Int.toNat_of_nonneg hy.1
  have ec : ((c.toNat : Nat) : Int) = c := Int.toNat_of_nonneg h0
  rw [ex, ey, ec] at h
  rw [h]
  obtain ⟨x0, x1⟩ := hx
  obtain ⟨y0, y1⟩ := hy
  have e1 : (((x.toNat + y.toNat + c.toNat) % 18446744073709551616 : Nat) : Int) = adS x y c := by unfold adS; omega
  have e2 : (((x.toNat + y.toNat + c.toNat) / 18446744073709551616 : Nat) : Int) = adC x y c := by unfold adC; omega
  rw [e1, e2]
theorem add64_0 (x y : Int) (hx : U64 x) (hy : U64 y) (w : World) :
    (callFunc 275 #[.int .u64 x, .int .u64 y, .int .u64 0]).run Tryz.prog w = .ok (.value (.tuple #[.int .u64 (adS x y 0), .int .u64 (adC x y 0)])) w := add64 x y 0 hx hy (by omega) (by omega) w
theorem sub64 (x y b : Int) (hx : U64 x) (hy : U64 y) (h0 : 0 ≤ b) (h1 : b ≤ 1) (w : World) :
    (callFunc 280 #[.int .u64 x, .int .u64 y, .int .u64 b]).run Tryz.prog w = .ok (.value (.tuple #[.int .u64 (suD x y b), .int .u64 (suB x y b)])) w := by
  have h := Any7.bits_Sub64 Tryz.lays26 x.toNat y.toNat b.toNat (by omega) w
  change (callFunc 280 _).run _ _ = _ at h
  have ex : ((x.toNat : Nat) : Int) = x := Int.toNat_of_nonneg hx.1
  have ey : ((y.toNat : Nat) : Int) = y := Int.toNat_of_nonneg hy.1
  have eb : ((b.toNat : Nat) : Int) = b := Int.toNat_of_nonneg h0
  rw [ex, ey, eb] at h
  rw [h]
  obtain ⟨x0, x1⟩ := hx
  obtain ⟨y0, y1⟩ := hy
  have e1 : (((x.toNat + 18446744073709551616 - y.toNat - b.toNat) % 18446744073709551616 : Nat) : Int) = suD x y b := by unfold suD; omega
  have e2 : ((if x.toNat < y.toNat + b.toNat then 1 else 0 : Nat) : Int) = suB x y b := by unfold suB; split <;> split <;> omega
  rw [e1, e2]
theorem mul64 (x y : Int) (hx : U64 x) (hy : U64 y) (w : World) :
    Calls Tryz.prog 223 #[.int .u64 x, .int .u64 y] w fun e w' => e = .returned (.tuple #[.int .u64 (muH x y), .int .u64 (muL x y)]) ∧ w' = w := by
  obtain ⟨x0, x1⟩ := hx
  obtain ⟨y0, y1⟩ := hy
  have h := Any.bits_Mul64 Tryz.mul64 x.toNat y.toNat (by omega) (by omega) w
  change Calls Tryz.prog 223 _ _ _ at h
  have ex : ((x.toNat : Nat) : Int) = x := Int.toNat_of_nonneg x0
  have ey : ((y.toNat : Nat) : Int) = y := Int.toNat_of_nonneg y0
  have em : ((x.toNat * y.toNat : Nat) : Int) = x * y := by push_cast; rw [ex, ey]
  rw [ex, ey] at h
  have e1 : ((x.toNat * y.toNat / 18446744073709551616 : Nat) : Int) = muH x y := by unfold muH; rw [← em]; omega
  have e2 : ((x.toNat * y.toNat % 18446744073709551616 : Nat) : Int) = muL x y := by unfold muL; rw [← em]; omega
  rw [e1, e2] at h
  exact h
/-- the value of four words -/
def nv (a0 a1 a2 a3 : Int) : Int := a0 * 6277101735386680763835789423207666416102355444464034512896 + a1 * 340282366920938463463374607431768211456 + a2 * 18446744073709551616 + a3
abbrev num4 (a0 a1 a2 a3 : Int) : Value := .agg #[.int .u64 a0, .int .u64 a1, .int .u64 a2, .int .u64 a3]
end Go.Proofs.YtlhdneeiikemjaaGreat
namespace Go.Proofs.YtlhdneeiikemjaaGreat
open Go.RowKit
abbrev arr4 (a0 a1 a2 a3 : Int) : Array Value := #[.int .u64 a0, .int .u64 a1, .int .u64 a2, .int .u64 a3]
/-- three blocks of four words, at the end of the memory that was there -/
structure Two4 (w wx : World) (a0 a1 a2 a3 b0 b1 b2 b3 : Int) : Prop where
  bl : Below w.heap.size w wx
  A : Blk wx w.heap.size 229 (arr4 a0 a1 a2 a3)
  B : Blk wx (w.heap.size + 1) 229 (arr4 b0 b1 b2 b3)
  C : Blk wx (w.heap.size + 1 + 1) 229 (arr4 0 0 0 0)
theorem Two4.drew {w wx : World} {a0 a1 a2 a3 b0 b1 b2 b3 : Int} (h : Two4 w wx a0 a1 a2 a3 b0 b1 b2 b3) : Two4 w wx.drew a0 a1 a2 a3 b0 b1 b2 b3 := ⟨bl_drew h.bl, h.A, h.B, h.C⟩
theorem Two4.start (w : World) (a0 a1 a2 a3 b0 b1 b2 b3 : Int) : Two4 w (((w.alloc (.cells (arr4 a0 a1 a2 a3) 229)).alloc (.cells (arr4 b0 b1 b2 b3) 229)).alloc (.cells (arr4 0 0 0 0) 229)) a0 a1 a2 a3 b0 b1 b2 b3 := by
  refine ⟨?_, ?_, ?_, ?_⟩
  · exact (((Below.refl _ _).alloc (Nat.le_refl _) _).alloc (by simp) _).alloc (by simp; omega) _
  · exact ((Blk.new w 229 (arr4 a0 a1 a2 a3)).alloc _).alloc _
  · have := (Blk.new (w.alloc (.cells (arr4 a0 a1 a2 a3) 229)) 229 (arr4 b0 b1 b2 b3)).alloc (.cells (arr4 0 0 0 0) 229)
    simpa using this
  · have := Blk.new ((w.alloc (.cells (arr4 a0 a1 a2 a3) 229)).alloc (.cells (arr4 b0 b1 b2 b3) 229)) 229 (arr4 0 0 0 0)
    simpa using this
theorem Two4.set_ {w wx : World} {a0 a1 a2 a3 b0 b1 b2 b3 : Int} (h : Two4 w wx a0 a1 a2 a3 b0 b1 b2 b3) (i : Nat) (u : Value) : 
    Below w.heap.size w (wx.setCell ⟨w.heap.size, i, none⟩ u) ∧ Blk (wx.setCell ⟨w.heap.size, i, none⟩ u) w.heap.size 229 ((arr4 a0 a1 a2 a3).setIfInBounds i u) ∧ Blk (wx.setCell ⟨w.heap.size, i, none⟩ u) (w.heap.size + 1) 229 (arr4 b0 b1 b2 b3) ∧ Blk (wx.setCell ⟨w.heap.size, i, none⟩ u) (w.heap.size + 1 + 1) 229 (arr4 0 0 0 0) :=
  ⟨h.bl.setCell (Nat.le_refl _) _, h.A.set_ i u, h.B.far (by simp) u, h.C.far (by simp; omega) u⟩

theorem Two4.set0 {w wx : World} {a0 a1 a2 a3 b0 b1 b2 b3 d : Int} (h : Two4 w wx a0 a1 a2 a3 b0 b1 b2 b3) : Two4 w (wx.setCell ⟨w.heap.size, 0, none⟩ (.int .u64 d)) d a1 a2 a3 b0 b1 b2 b3 := by
  obtain ⟨h1, h2, h3, h4⟩ := h.set_ 0 (.int .u64 d)
  exact ⟨h1, h2, h3, h4⟩
theorem Two4.set1 {w wx : World} {a0 a1 a2 a3 b0 b1 b2 b3 d : Int} (h : Two4 w wx a0 a1 a2 a3 b0 b1 b2 b3) : Two4 w (wx.setCell ⟨w.heap.size, 1, none⟩ (.int .u64 d)) a0 d a2 a3 b0 b1 b2 b3 := by
  obtain ⟨h1, h2, h3, h4⟩ := h.set_ 1 (.int .u64 d)
  exact ⟨h1, h2, h3, h4⟩
theorem Two4.set2 {w wx : World} {a0 a1 a2 a3 b0 b1 b2 b3 d : Int} (h : Two4 w wx a0 a1 a2 a3 b0 b1 b2 b3) : Two4 w (wx.setCell ⟨w.heap.size, 2, none⟩ (.int .u64 d)) a0 a1 d a3 b0 b1 b2 b3 := by
  obtain ⟨h1, h2, h3, h4⟩ := h.set_ 2 (.int .u64 d)
  exact ⟨h1, h2, h3, h4⟩
theorem Two4.set3 {w wx : World} {a0 a1 a2 a3 b0 b1 b2 b3 d : Int} (h : Two4 w wx a0 a1 a2 a3 b0 b1 b2 b3) : Two4 w (wx.setCell ⟨w.heap.size, 3, none⟩ (.int .u64 d)) a0 a1 a2 d b0 b1 b2 b3 := by
  obtain ⟨h1, h2, h3, h4⟩ := h.set_ 3 (.int .u64 d)
  exact ⟨h1, h2, h3, h4⟩
set_option maxHeartbeats 2000000 in
set_option maxRecDepth 100000 in
theorem subN_any (a0 a1 a2 a3 b0 b1 b2 b3 : Int) (w : World) (ha0 : U64 a0) (ha1 : U64 a1) (ha2 : U64 a2) (ha3 : U64 a3) (hb0 : U64 b0) (hb1 : U64 b1) (hb2 : U64 b2) (hb3 : U64 b3) :
    Calls Tryz.prog 249 #[num4 a0 a1 a2 a3, num4 b0 b1 b2 b3] w fun e w' => e = .returned (num4 (suD a0 b0 (suB a1 b1 (suB a2 b2 (suB a3 b3 0)))) (suD a1 b1 (suB a2 b2 (suB a3 b3 0))) (suD a2 b2 (suB a3 b3 0)) (suD a3 b3 0)) ∧ Below w.heap.size w w' := by
  have s3 := Lib.hid (sub64 a3 b3 0 ha3 hb3 (by omega) (by omega))
  have c3 := suB_bd a3 b3 0
  generalize suB a3 b3 0 = k3 at *
  generalize suD a3 b3 0 = d3 at *
  have s2 := Lib.hid (sub64 a2 b2 k3 ha2 hb2 c3.1 c3.2)
  have c2 := suB_bd a2 b2 k3
  generalize suB a2 b2 k3 = k2 at *
  generalize suD a2 b2 k3 = d2 at *
  have s1 := Lib.hid (sub64 a1 b1 k2 ha1 hb1 c2.1 c2.2)
  have c1 := suB_bd a1 b1 k2
  generalize suB a1 b1 k2 = k1 at *
  generalize suD a1 b1 k2 = d1 at *
  have s0 := Lib.hid (sub64 a0 b0 k1 ha0 hb0 c1.1 c1.2)
  generalize suB a0 b0 k1 = k0 at *
  generalize suD a0 b0 k1 = d0 at *
  clear ha0 ha1 ha2 ha3 hb0 hb1 hb2 hb3 c1 c2 c3
  go_enter Tryz.func249, Tryz.ntmps249
  go_wp2
  have T4 := Lib.hid (Two4.start w a0 a1 a2 a3 b0 b1 b2 b3)
  unfold arr4 at T4
  generalize ((w.alloc (.cells #[.int .u64 a0, .int .u64 a1, .int .u64 a2, .int .u64 a3] 229)).alloc (.cells #[.int .u64 b0, .int .u64 b1, .int .u64 b2, .int .u64 b3] 229)).alloc (.cells #[.int .u64 0, .int .u64 0, .int .u64 0, .int .u64 0] 229) = w4 at *
  refine wp_loop_rounds 5 ?_
  rw [rounds_succ]
  have x := T4.out.A.cell 3
  have f := T4.out.A.frozen 3
  have y := T4.out.B.cell 3
  simp at x y
  go_upto_block 1 with (fail)
  go_cut [5] (fun s5 wy => s5 = .int .u64 k3 ∧ Two4 w wy a0 a1 a2 d3 b0 b1 b2 b3)
  case first =>
    have q := s3.out
    go_wp2
    go_region_law (fail)
    all_goals
      go_wp2_with fail
      go_meet
      case rel => exact ⟨rfl, T4.out.drew.set3⟩
  case rest =>
  obtain ⟨rfl, T⟩ := hcut
  rename World => w3
  have T3 := Lib.hid T
  clear x f y T T4
  go_wp2
  rw [rounds_succ]
  have x := T3.out.A.cell 2
  have f := T3.out.A.frozen 2
  have y := T3.out.B.cell 2
  simp at x y
  go_upto_block 1 with (fail)
  go_cut [5] (fun s5 wy => s5 = .int .u64 k2 ∧ Two4 w wy a0 a1 d2 d3 b0 b1 b2 b3)
  case first =>
    have q := s2.out
    go_wp2
    go_region_law (fail)
    all_goals
      go_wp2_with fail
      go_meet
      case rel => exact ⟨rfl, T3.out.drew.set2⟩
  case rest =>
  obtain ⟨rfl, T⟩ := hcut
  rename World => w2
  have T2 := Lib.hid T
  clear x f y T T3
  go_wp2
  rw [rounds_succ]
  have x := T2.out.A.cell 1
  have f := T2.out.A.frozen 1
  have y := T2.out.B.cell 1
  simp at x y
  go_upto_block 1 with (fail)
  go_cut [5] (fun s5 wy => s5 = .int .u64 k1 ∧ Two4 w wy a0 d1 d2 d3 b0 b1 b2 b3)
  case first =>
    have q := s1.out
    go_wp2
    go_region_law (fail)
    all_goals
      go_wp2_with fail
      go_meet
      case rel => exact ⟨rfl, T2.out.drew.set1⟩
  case rest =>
  obtain ⟨rfl, T⟩ := hcut
  rename World => w1
  have T1 := Lib.hid T
  clear x f y T T2
  go_wp2
  rw [rounds_succ]
  have x := T1.out.A.cell 0
  have f := T1.out.A.frozen 0
  have y := T1.out.B.cell 0
  simp at x y
  go_upto_block 1 with (fail)
  go_cut [5] (fun s5 wy => s5 = .int .u64 k0 ∧ Two4 w wy d0 d1 d2 d3 b0 b1 b2 b3)
  case first =>
    have q := s0.out
    go_wp2
    go_region_law (fail)
    all_goals
      go_wp2_with fail
      go_meet
      case rel => exact ⟨rfl, T1.out.drew.set0⟩
  case rest =>
  obtain ⟨rfl, T⟩ := hcut
  rename World => w0
  have T0 := Lib.hid T
  clear x f y T T1
  go_wp2
  rw [rounds_succ]
  have x0 := T0.out.A.cell 0
  have x1 := T0.out.A.cell 1
  have x2 := T0.out.A.cell 2
  have x3 := T0.out.A.cell 3
  have z0 := T0.out.C.cell 0
  have z1 := T0.out.C.cell 1
  have z2 := T0.out.C.cell 2
  have z3 := T0.out.C.cell 3
  have f0 := T0.out.C.frozen 0
  have f1 := T0.out.C.frozen 1
  have f2 := T0.out.C.frozen 2
  have f3 := T0.out.C.frozen 3
  simp at x0 x1 x2 x3 z0 z1 z2 z3
  go_wp2
  refine bodyPost_ret (v := num4 d0 d1 d2 d3) (by simp [results, Tryz.results249, go_sem, *]) rfl ⟨rfl, ?_⟩
  exact (((T0.out.bl.setCell (by simp; omega) _).setCell (by simp; omega) _).setCell (by simp; omega) _).setCell (by simp; omega) _
end Go.Proofs.YtlhdneeiikemjaaGreat
