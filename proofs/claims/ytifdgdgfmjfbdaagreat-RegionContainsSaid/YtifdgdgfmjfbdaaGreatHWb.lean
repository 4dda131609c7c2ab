/- Words for memory: slices that read as lists of cells; append onto a row of the call's own. -/
import Derived.LoopN
import Derived.Test.YtifdgdgfmjfbdaaGreatHTf
set_option linter.unusedVariables false
set_option linter.unusedSimpArgs false
namespace Go.Proofs.YtifdgdgfmjfbdaaGreat
open Go.RowKit
theorem ret_int {k : IntKind} {a b : Int} (h : a = b) : Ending.returned (.int k a) = .returned (.int k b) := by rw [h]
def edg (i l : Int) : Int := i * 10800000 / pw l
theorem edg_bd {i l : Int} (h1 : l ≤ 16) (h2 : 0 ≤ i) (h3 : i ≤ 2 * pw l) : 0 ≤ edg i l ∧ edg i l ≤ 21600000 := by
  have hp := pw_bd h1
  unfold edg
  refine ⟨Int.ediv_nonneg (by omega) (by omega), ?_⟩
  have : i * 10800000 / pw l ≤ (21600000 * pw l) / pw l := Int.ediv_le_ediv (by omega) (by omega)
  rwa [Int.mul_ediv_cancel _ (by omega)] at this

set_option maxHeartbeats 400000 in
theorem edge_any (i l : Int) (w : World) (h0 : 0 ≤ l) (h1 : l ≤ 16) (h2 : 0 ≤ i) (h3 : i ≤ 131072) :
    Calls Tryz.prog 118 #[.int .i64 i, .int .i64 l] w fun e w' => e = .returned (.int .i64 (edg i l)) ∧ w' = w := by
  go_enter Tryz.func118, Tryz.ntmps118
  go_wp2
  go_ret
  exact ⟨rfl, rfl⟩
set_option maxHeartbeats 400000 in
theorem bound_any (i l : Int) (w : World) (h0 : 0 ≤ l) (h1 : l ≤ 16) (h2 : 0 ≤ i) (h3 : i ≤ 131072) :
    Calls Tryz.prog 218 #[.int .i64 i, .int .i64 l] w fun e w' => e = .returned (.int .i64 (edg i l)) ∧ w' = w := by
  go_enter Tryz.func218, Tryz.ntmps218
  go_wp2
  go_ret
  exact ⟨rfl, rfl⟩

/-- the box of a cell, as a value -/
def boxV (l r c : Int) : Value := .agg #[.int .i64 (edg r l - 5400000), .int .i64 (edg (r + 1) l - 5400000), .int .i64 (edg c l - 10800000), .int .i64 (edg (c + 1) l - 10800000)]

set_option maxHeartbeats 400000 in
set_option maxRecDepth 100000 in
theorem box_any (l r c : Int) (w : World) (hv : vldB l r c = true) :
    Calls Tryz.prog 56 #[.agg #[.int .i64 l, .int .i64 r, .int .i64 c]] w fun e w' => e = .returned (boxV l r c) ∧ Below w.heap.size w w' := by
  obtain ⟨h0, h1, h2, h3, h4, h5⟩ := vldB_true.1 hv
  clear hv
  have hp := pw_bd h1
  have b1 := edg_bd (i := r) h1 (by omega) (by omega)
  have b2 := edg_bd (i := r + 1) h1 (by omega) (by omega)
  have b3 := edg_bd (i := c) h1 (by omega) (by omega)
  have b4 := edg_bd (i := c + 1) h1 (by omega) (by omega)
  have r1 : r ≤ 131072 := by omega
  have r2 : 0 ≤ r + 1 := by omega
  have r3 : r + 1 ≤ 131072 := by omega
  have c1 : c ≤ 131072 := by omega
  have c2 : 0 ≤ c + 1 := by omega
  have c3 : c + 1 ≤ 131072 := by omega
  have s1 : IntKind.i64.wrap (r + 1) = r + 1 := IntWalk.i64_in _ (by omega)
  have s2 : IntKind.i64.wrap (c + 1) = c + 1 := IntWalk.i64_in _ (by clear s1; omega)
  have s3 : IntKind.i64.wrap (edg r l - 5400000) = edg r l - 5400000 := IntWalk.i64_in _ (by clear s1 s2; omega)
  have s4 : IntKind.i64.wrap (edg (r + 1) l - 5400000) = edg (r + 1) l - 5400000 := IntWalk.i64_in _ (by clear s1 s2 s3; omega)
  have s5 : IntKind.i64.wrap (edg c l - 10800000) = edg c l - 10800000 := IntWalk.i64_in _ (by clear s1 s2 s3 s4; omega)
  have s6 : IntKind.i64.wrap (edg (c + 1) l - 10800000) = edg (c + 1) l - 10800000 := IntWalk.i64_in _ (by clear s1 s2 s3 s4 s5; omega)
  clear b1 b2 b3 b4 hp h3 h5
  go_enter Tryz.func56, Tryz.ntmps56
  go_wp2
  refine wp_still_tail 29 (by kernel_rfl) (by kernel_rfl) ?_
  simp only [List.take_succ_cons, List.take_zero, List.drop_succ_cons, List.drop_zero]
  repeat (first | still_step | still_call (edge_any _ _ _ h0 h1 (by assumption) (by assumption)))
  refine wpStill_nil ?_
  go_wp2
  refine bodyPost_ret (v := boxV l r c) (by simp [results, Tryz.results56, go_sem, boxV]) rfl ⟨rfl, ?_⟩
  repeat (first | exact Below.refl _ _ | refine bl_drew ?_ | refine bl_drewN ?_ _ | refine Below.setCell ?_ (by simp <;> omega) _ | refine Below.alloc ?_ (by simp <;> omega) _)
set_option maxHeartbeats 400000 in
set_option maxRecDepth 100000 in
theorem refBox_any (l r c : Int) (w : World) (hv : vldB l r c = true) :
    Calls Tryz.prog 166 #[.agg #[.int .i64 l, .int .i64 r, .int .i64 c]] w fun e w' => e = .returned (boxV l r c) ∧ Below w.heap.size w w' := by
  obtain ⟨h0, h1, h2, h3, h4, h5⟩ := vldB_true.1 hv
  clear hv
  have hp := pw_bd h1
  have b1 := edg_bd (i := r) h1 (by omega) (by omega)
  have b2 := edg_bd (i := r + 1) h1 (by omega) (by omega)
  have b3 := edg_bd (i := c) h1 (by omega) (by omega)
  have b4 := edg_bd (i := c + 1) h1 (by omega) (by omega)
  have r1 : r ≤ 131072 := by omega
  have r2 : 0 ≤ r + 1 := by omega
  have r3 : r + 1 ≤ 131072 := by omega
  have c1 : c ≤ 131072 := by omega
  have c2 : 0 ≤ c + 1 := by omega
  have c3 : c + 1 ≤ 131072 := by omega
  have s1 : IntKind.i64.wrap (r + 1) = r + 1 := IntWalk.i64_in _ (by omega)
  have s2 : IntKind.i64.wrap (c + 1) = c + 1 := IntWalk.i64_in _ (by clear s1; omega)
  have s3 : IntKind.i64.wrap (edg r l - 5400000) = edg r l - 5400000 := IntWalk.i64_in _ (by clear s1 s2; omega)
  have s4 : IntKind.i64.wrap (edg (r + 1) l - 5400000) = edg (r + 1) l - 5400000 := IntWalk.i64_in _ (by clear s1 s2 s3; omega)
  have s5 : IntKind.i64.wrap (edg c l - 10800000) = edg c l - 10800000 := IntWalk.i64_in _ (by clear s1 s2 s3 s4; omega)
  have s6 : IntKind.i64.wrap (edg (c + 1) l - 10800000) = edg (c + 1) l - 10800000 := IntWalk.i64_in _ (by clear s1 s2 s3 s4 s5; omega)
  clear b1 b2 b3 b4 hp h3 h5
  go_enter Tryz.func166, Tryz.ntmps166
  go_wp2
  refine wp_still_tail 29 (by kernel_rfl) (by kernel_rfl) ?_
  simp only [List.take_succ_cons, List.take_zero, List.drop_succ_cons, List.drop_zero]
  repeat (first | still_step | still_call (bound_any _ _ _ h0 h1 (by assumption) (by assumption)))
  refine wpStill_nil ?_
  go_wp2
  refine bodyPost_ret (v := boxV l r c) (by simp [results, Tryz.results166, go_sem, boxV]) rfl ⟨rfl, ?_⟩
  repeat (first | exact Below.refl _ _ | refine bl_drew ?_ | refine bl_drewN ?_ _ | refine Below.setCell ?_ (by simp <;> omega) _ | refine Below.alloc ?_ (by simp <;> omega) _)
end Go.Proofs.YtifdgdgfmjfbdaaGreat
namespace Go.Proofs.YtifdgdgfmjfbdaaGreat
open Go.RowKit
theorem bcell {W w1 : World} (hb : Below W.heap.size W w1) : (∀ b o, b < W.heap.size → w1.cell? ⟨b, o, none⟩ = W.cell? ⟨b, o, none⟩) ∧ (∀ b o, b < W.heap.size → w1.frozen? ⟨b, o, none⟩ = W.frozen? ⟨b, o, none⟩) :=
  ⟨fun b o h => hb.cell (p := ⟨b, o, none⟩) h, fun b o h => hb.frozen (p := ⟨b, o, none⟩) h⟩
theorem valid_yes (l r c : Int) (hv : vldB l r c = true) (w : World) : Calls Tryz.prog 140 #[.agg #[.int .i64 l, .int .i64 r, .int .i64 c]] w fun e w' => e = .returned (.bool true) ∧ Below w.heap.size w w' := by
  rw [← hv]; exact valid_any l r c w
theorem valid_no (l r c : Int) (hv : vldB l r c = false) (w : World) : Calls Tryz.prog 140 #[.agg #[.int .i64 l, .int .i64 r, .int .i64 c]] w fun e w' => e = .returned (.bool false) ∧ Below w.heap.size w w' := by
  rw [← hv]; exact valid_any l r c w

/-- what the caller's two first blocks keep -/
theorem two_lt {w w1 : World} {o1 o2 : Obj} (hb : Below ((w.alloc o1).alloc o2).heap.size ((w.alloc o1).alloc o2) w1) : w.heap.size < w1.heap.size ∧ w.heap.size + 1 < w1.heap.size := by
  have := hb.size
  simp at this
  omega
theorem two_bl {w w1 : World} {o1 o2 : Obj} (hb : Below ((w.alloc o1).alloc o2).heap.size ((w.alloc o1).alloc o2) w1) : Below w.heap.size w w1 :=
  (((Below.refl _ _).alloc (Nat.le_refl _) _).alloc (by simp) _).trans (hb.mono (by simp; omega))

theorem one_lt {w w1 : World} {o1 : Obj} (hb : Below (w.alloc o1).heap.size (w.alloc o1) w1) : w.heap.size < w1.heap.size := by
  have := hb.size
  simp at this
  omega
theorem one_bl {w w1 : World} {o1 : Obj} (hb : Below (w.alloc o1).heap.size (w.alloc o1) w1) : Below w.heap.size w w1 :=
  ((Below.refl _ _).alloc (Nat.le_refl _) _).trans (hb.mono (by simp))
set_option maxHeartbeats 400000 in
theorem Box_no (l r c : Int) (w : World) (hv : vldB l r c = false) :
    Calls Tryz.prog 132 #[.agg #[.int .i64 l, .int .i64 r, .int .i64 c]] w fun e w' => e = .returned (.tuple #[.agg #[.int .i64 0, .int .i64 0, .int .i64 0, .int .i64 0], .int .i64 1]) ∧ Below w.heap.size w w' := by
  have V := Lib.hid (valid_no l r c hv)
  clear hv
  go_enter Tryz.func132, Tryz.ntmps132
  go_wp2_with (go_at_call 140; refine (V.out _).mono ?_; rintro e w1 ⟨rfl, hb⟩; obtain ⟨hc, hf⟩ := bcell hb; obtain ⟨hz0, hz1⟩ := two_lt hb)
  refine bodyPost_ret (v := .tuple #[.agg #[.int .i64 0, .int .i64 0, .int .i64 0, .int .i64 0], .int .i64 1]) (by simp [results, Tryz.results132, go_sem, hc]) rfl ⟨rfl, ?_⟩
  have hb1 := two_bl hb
  repeat (first | exact Below.refl _ _ | assumption | refine bl_drew ?_ | refine bl_drewN ?_ _ | refine Below.setCell ?_ (by first | assumption | omega | (simp; done) | (simp; omega)) _ | refine Below.alloc ?_ (by first | assumption | omega | (simp; done) | (simp; omega)) _)
set_option maxHeartbeats 400000 in
theorem Box_yes (l r c : Int) (w : World) (hv : vldB l r c = true) :
    Calls Tryz.prog 132 #[.agg #[.int .i64 l, .int .i64 r, .int .i64 c]] w fun e w' => e = .returned (.tuple #[boxV l r c, .int .i64 0]) ∧ Below w.heap.size w w' := by
  have V := Lib.hid (valid_yes l r c hv)
  have B := Lib.hid (fun w => box_any l r c w hv)
  clear hv
  unfold boxV at B ⊢
  go_enter Tryz.func132, Tryz.ntmps132
  go_wp2_with (first | (go_at_call 140; refine (V.out _).mono ?_; rintro e w1 ⟨rfl, hb⟩; obtain ⟨hc, hf⟩ := bcell hb; obtain ⟨hz0, hz1⟩ := two_lt hb) | (go_at_call 56; refine (B.out _).mono ?_; rintro e w2 ⟨rfl, hb2⟩; obtain ⟨hc2, hf2⟩ := bcell hb2))
  refine bodyPost_ret (v := .tuple #[.agg #[.int .i64 (edg r l - 5400000), .int .i64 (edg (r + 1) l - 5400000), .int .i64 (edg c l - 10800000), .int .i64 (edg (c + 1) l - 10800000)], .int .i64 0]) (by simp [results, Tryz.results132, go_sem, hc, hc2, hz1]) rfl ⟨rfl, ?_⟩
  have hb1 := (two_bl hb).trans (hb2.mono (by omega))
  repeat (first | exact Below.refl _ _ | assumption | refine bl_drew ?_ | refine bl_drewN ?_ _ | refine Below.setCell ?_ (by first | assumption | omega | (simp; done) | (simp; omega)) _ | refine Below.alloc ?_ (by first | assumption | omega | (simp; done) | (simp; omega)) _)
end Go.Proofs.YtifdgdgfmjfbdaaGreat
namespace Go.Proofs.YtifdgdgfmjfbdaaGreat
open Go.RowKit Go.Shelf
/-- a word -/
def U64 (x : Int) : Prop := 0 ≤ x ∧ x < 18446744073709551616
def adS (x y c : Int) : Int := (x + y + c) % 18446744073709551616
def adC (x y c : Int) : Int := (x + y + c) / 18446744073709551616
def suD (x y b : Int) : Int := (x - y - b) % 18446744073709551616
def suB (x y b : Int) : Int := if x < y + b then 1 else 0
def muH (x y : Int) : Int := x * y / 18446744073709551616
def muL (x y : Int) : Int := x * y % 18446744073709551616
theorem ad_eq (x y c : Int) : adS x y c + 18446744073709551616 * adC x y c = x + y + c := by unfold adS adC; omega
theorem adS_u (x y c : Int) : U64 (adS x y c) := by unfold adS U64; omega
theorem adC_bd {x y c : Int} (hx : U64 x) (hy : U64 y) (h0 : 0 ≤ c) (h1 : c ≤ 1) : 0 ≤ adC x y c ∧ adC x y c ≤ 1 := by unfold adC U64 at *; omega
theorem suD_u (x y b : Int) : U64 (suD x y b) := by unfold suD U64; omega
theorem suB_bd (x y b : Int) : 0 ≤ suB x y b ∧ suB x y b ≤ 1 := by unfold suB; split <;> omega
theorem su_eq {x y b : Int} (hx : U64 x) (hy : U64 y) (h0 : 0 ≤ b) (h1 : b ≤ 1) : suD x y b = x - y - b + 18446744073709551616 * suB x y b := by
  unfold suD suB U64 at *
  split <;> omega
theorem mu_eq (x y : Int) : muH x y * 18446744073709551616 + muL x y = x * y := by unfold muH muL; omega
theorem muL_u (x y : Int) : U64 (muL x y) := by unfold muL U64; omega
theorem mul_lt {x y : Int} (hx : U64 x) (hy : U64 y) : 0 ≤ x * y ∧ x * y ≤ 340282366920938463426481119284349108225 := by
  obtain ⟨x0, x1⟩ := hx
  obtain ⟨y0, y1⟩ := hy
  have h1 : x * y ≤ 18446744073709551615 * 18446744073709551615 := Int.mul_le_mul (by omega) (by omega) y0 (by omega)
  exact ⟨Int.mul_nonneg x0 y0, by omega⟩
theorem muH_bd {x y : Int} (hx : U64 x) (hy : U64 y) : 0 ≤ muH x y ∧ muH x y ≤ 18446744073709551614 := by
  have := mul_lt hx hy
  unfold muH
  omega
theorem add64 (x y c : Int) (hx : U64 x) (hy : U64 y) (h0 : 0 ≤ c) (h1 : c ≤ 1) (w : World) :
    (callFunc 278 #[.int .u64 x, .int .u64 y, .int .u64 c]).run Tryz.prog w = .ok (.value (.tuple #[.int .u64 (adS x y c), .int .u64 (adC x y c)])) w := by
  have h := Any7.bits_Add64 Tryz.lays25 x.toNat y.toNat c.toNat (by omega) w
  change (callFunc 278 _).run _ _ = _ at h
  have ex : ((x.toNat : Nat) : Int) = x := Int.toNat_of_nonneg hx.1
  have ey : ((y.toNat : Nat) : Int) = y := Int.toNat_of_nonneg hy.1
  have ec : ((c.toNat : Nat) : Int) = c := Int.toNat_of_nonneg h0
  rw [ex, ey, ec] at h
  rw [h]
  obtain ⟨x0, x1⟩ := hx
  obtain ⟨y0, y1⟩ := hy
  have e1 : (((x.toNat + y.toNat + c.toNat) % 18446744073709551616 : Nat) : Int) = adS x y c := by unfold adS; omega
  have e2 : (((x.toNat + y.toNat + c.toNat) / 18446744073709551616 : Nat) : Int) = adC x y c := by unfold adC; omega
  rw [e1, e2]
theorem add64_0 (x y : Int) (hx : U64 x) (hy : U64 y) (w : World) :
    (callFunc 278 #[.int .u64 x, .int .u64 y, .int .u64 0]).run Tryz.prog w = .ok (.value (.tuple #[.int .u64 (adS x y 0), .int .u64 (adC x y 0)])) w := add64 x y 0 hx hy (by omega) (by omega) w
theorem sub64 (x y b : Int) (hx : U64 x) (hy : U64 y) (h0 : 0 ≤ b) (h1 : b ≤ 1) (w : World) :
    (callFunc 315 #[.int .u64 x, .int .u64 y, .int .u64 b]).run Tryz.prog w = .ok (.value (.tuple #[.int .u64 (suD x y b), .int .u64 (suB x y b)])) w := by
  have h := Any7.bits_Sub64 Tryz.lays26 x.toNat y.toNat b.toNat (by omega) w
  change (callFunc 315 _).run _ _ = _ at h
  have ex : ((x.toNat : Nat) : Int) = x := Int.toNat_of_nonneg hx.1
  have ey : ((y.toNat : Nat) : Int) = y := Int.toNat_of_nonneg hy.1
  have eb : ((b.toNat : Nat) : Int) = b := Int.toNat_of_nonneg h0
  rw [ex, ey, eb] at h
  rw [h]
  obtain ⟨x0, x1⟩ := hx
  obtain ⟨y0, y1⟩ := hy
  have e1 : (((x.toNat + 18446744073709551616 - y.toNat - b.toNat) % 18446744073709551616 : Nat) : Int) = suD x y b := by unfold suD; omega
  have e2 : ((if x.toNat < y.toNat + b.toNat then 1 else 0 : Nat) : Int) = suB x y b := by unfold suB; split <;> split <;> omega
  rw [e1, e2]
theorem mul64 (x y : Int) (hx : U64 x) (hy : U64 y) (w : World) :
    Calls Tryz.prog 277 #[.int .u64 x, .int .u64 y] w fun e w' => e = .returned (.tuple #[.int .u64 (muH x y), .int .u64 (muL x y)]) ∧ w' = w := by
  obtain ⟨x0, x1⟩ := hx
  obtain ⟨y0, y1⟩ := hy
  have h := Any.bits_Mul64 Tryz.mul64 x.toNat y.toNat (by omega) (by omega) w
  change Calls Tryz.prog 277 _ _ _ at h
  have ex : ((x.toNat : Nat) : Int) = x := Int.toNat_of_nonneg x0
  have ey : ((y.toNat : Nat) : Int) = y := Int.toNat_of_nonneg y0
  have em : ((x.toNat * y.toNat : Nat) : Int) = x * y := by push_cast; rw [ex, ey]
  rw [ex, ey] at h
  have e1 : ((x.toNat * y.toNat / 18446744073709551616 : Nat) : Int) = muH x y := by unfold muH; rw [← em]; omega
  have e2 : ((x.toNat * y.toNat % 18446744073709551616 : Nat) : Int) = muL x y := by unfold muL; rw [← em]; omega
  rw [e1, e2] at h
  exact h
/-- the value of four words -/
def nv (a0 a1 a2 a3 : Int) : Int := a0 * 6277101735386680763835789423207666416102355444464034512896 + a1 * 340282366920938463463374607431768211456 + a2 * 18446744073709551616 + a3
abbrev num4 (a0 a1 a2 a3 : Int) : Value := .agg #[.int .u64 a0, .int .u64 a1, .int .u64 a2, .int .u64 a3]
end Go.Proofs.YtifdgdgfmjfbdaaGreat
namespace Go.Proofs.YtifdgdgfmjfbdaaGreat
open Go.RowKit
theorem block_of_add (a : Addr) (n : Nat) : (a.add n).block = a.block := by unfold Addr.add; split <;> rfl
def Reads (w : World) (B size : Nat) (A : Option Addr) (n : Nat) (xs : List Value) : Prop :=
  xs.length = n * size ∧ (0 < n → ∃ ad, A = some ad ∧ ad.block < B ∧ ∀ j u, xs[j]? = some u → w.cell? (ad.add j) = some u)

section
variable {w w' : World} {B B' size n : Nat} {A : Option Addr} {xs : List Value}
theorem Reads.none_ : Reads w B size A 0 [] := ⟨by simp, fun h => absurd h (by omega)⟩
theorem Reads.keep (h : Reads w B size A n xs) (hk : ∀ p : Addr, p.block < B → w'.cell? p = w.cell? p) : Reads w' B size A n xs :=
  ⟨h.1, fun hn => by
    obtain ⟨ad, e, hb, hc⟩ := h.2 hn
    exact ⟨ad, e, hb, fun j u hu => (hk _ (by rw [block_of_add]; exact hb)).trans (hc j u hu)⟩⟩
theorem Reads.more (h : Reads w B size A n xs) (hB : B ≤ B') : Reads w B' size A n xs :=
  ⟨h.1, fun hn => by
    obtain ⟨ad, e, hb, hc⟩ := h.2 hn
    exact ⟨ad, e, by omega, hc⟩⟩
theorem Reads.below (h : Reads w B size A n xs) (hb : Below B w w') : Reads w' B size A n xs := h.keep fun _ hp => hb.cell hp
theorem Reads.drew (h : Reads w B size A n xs) : Reads w.drew B size A n xs := h
theorem Reads.drewN (h : Reads w B size A n xs) (k : Nat) : Reads (w.drewN k) B size A n xs := h
theorem Reads.alloc (h : Reads w B size A n xs) (hB : B ≤ w.heap.size) (o : Obj) : Reads (w.alloc o) B size A n xs := h.keep fun p hp => World.cell?_alloc_lt w o p (by omega)
theorem Reads.setCell (h : Reads w B size A n xs) {p : Addr} (hB : B ≤ p.block) (u : Value) : Reads (w.setCell p u) B size A n xs :=
  h.keep fun q hq => World.cell?_setCell_other w p q u (fun e => by subst e; omega)
theorem Reads.of_own {base : Nat} {e : TypeId} {c : Nat} (h : w.ownsRow base e size (.slice A n c) n xs) : Reads w w.heap.size size A n xs := by
  refine ⟨h.1, fun hn => ?_⟩
  obtain ⟨g, cap, hv, _, hlt⟩ := h.form hn
  have hA : A = some ⟨g, 0, none⟩ := by injection hv
  subst hA
  exact ⟨_, rfl, hlt, h.cells (g := g) rfl⟩
end

section
variable {P : Program} (w : World)
theorem run_append_of_nil (base : Nat) (t ty e : TypeId) (i : TypeInfo) (size : Nat) (ht : P.underlying t = some (.slice e)) (hi : P.info? e = some i)
    (v : Value) (n : Nat) (xs : List Value) (hown : w.ownsRow base e size v n xs) (c : Nat) : (Builtin.append_ #[t, t] ty #[v, .slice none 0 c]).run P w = .ok v w := by
  rcases hown.2 with ⟨rfl, rfl⟩ | ⟨g, cap, cur, rfl, _, _, hnc, _⟩
  · simp [Builtin.append_, run_underlying ht, sizeOf, typeInfo, hi, Builtin.lenOf, Builtin.firstCells]
  · simp [Builtin.append_, run_underlying ht, sizeOf, typeInfo, hi, Builtin.lenOf, Builtin.firstCells, hnc, storeCells]

theorem run_append_any (base : Nat) (t ty e : TypeId) (i : TypeInfo) (z : Value) (size bytes : Nat) (ht : P.underlying t = some (.slice e)) (hi : P.info? e = some i) (hz : i.zero = some z)
    (hsize : i.size = size) (hby : i.bytes = bytes) (hzs : z.cells.size = size) (hsz : 0 < size)
    (v : Value) (n : Nat) (xs : List Value) (hown : w.ownsRow base e size v n xs)
    (B : Nat) (A : Option Addr) (m c : Nat) (news : List Value) (hr : Reads w B size A m news) (h1 : ∀ u ∈ news, u.oneCell' = true)
    (h63 : n + m ≤ maxLen) (hbytes : (n + m) * bytes ≤ 140737488355328) (hbase : base ≤ w.heap.size) :
    ∃ v' w', (Builtin.append_ #[t, t] ty #[v, .slice A m c]).run P w = .ok v' w' ∧ w'.ownsRow base e size v' (n + m) (xs ++ news) ∧ w.grownBy w' v.ownBlock ∧
      (v'.ownBlock = v.ownBlock ∨ v'.ownBlock = some w.heap.size) := by
  rcases A with _ | ad
  · have hm : m = 0 := by
      rcases Nat.eq_zero_or_pos m with h0 | h0
      · exact h0
      · obtain ⟨ad, h, _⟩ := hr.2 h0
        cases h
    subst hm
    have hn : news = [] := List.eq_nil_of_length_eq_zero (by simpa using hr.1)
    subst hn
    exact ⟨v, w, run_append_of_nil w base t ty e i size ht hi v n xs hown c, by simpa using hown, World.grownBy.refl w _, .inl rfl⟩
  · have hcells : ∀ j u, news[j]? = some u → w.cell? (ad.add j) = some u := by
      intro j u hu
      rcases Nat.eq_zero_or_pos m with h0 | h0
      · subst h0
        have hn : news = [] := List.eq_nil_of_length_eq_zero (by simpa using hr.1)
        subst hn
        simp at hu
      · obtain ⟨ad', h, _, hc⟩ := hr.2 h0
        injection h with h
        subst h
        exact hc j u hu
    obtain ⟨v', w', hrun, h2, h3, _, h5⟩ := run_append_own_at (P := P) w base t ty e i z size bytes ht hi hz hsize hby hzs hsz v n xs hown ad m c news hr.1 hcells h1 h63 hbytes hbase
    exact ⟨v', w', hrun, h2, h3, h5⟩

theorem wp_append_any {o : Oper} {a : Act} {K : Act → World → Prop} {Q : Exit → Act → World → Prop} (s x : Operand) (t : TypeId)
    (ho : o.op = .call { callee := .builtin .append, args := #[s, x], argTypes := #[t, t] })
    (base : Nat) (e : TypeId) (i : TypeInfo) (z : Value) (size bytes : Nat) (ht : P.underlying t = some (.slice e)) (hi : P.info? e = some i) (hz : i.zero = some z)
    (hsize : i.size = size) (hby : i.bytes = bytes) (hzs : z.cells.size = size) (hsz : 0 < size)
    (v : Value) (n : Nat) (xs : List Value) (hs : a.eval s = v) (hown : w.ownsRow base e size v n xs)
    (B : Nat) (A : Option Addr) (m c : Nat) (news : List Value) (hx : a.eval x = .slice A m c) (hr : Reads w B size A m news) (h1 : ∀ u ∈ news, u.oneCell' = true)
    (h63 : n + m ≤ maxLen) (hbytes : (n + m) * bytes ≤ 140737488355328) (hbase : base ≤ w.heap.size)
    (h : ∀ v' w', w'.ownsRow base e size v' (n + m) (xs ++ news) → w.grownBy w' v.ownBlock → (v'.ownBlock = v.ownBlock ∨ v'.ownBlock = some w.heap.size) → K (a.put o.dst v') w') : o.wp P a w K Q := by
  obtain ⟨v', w', hrun, h2, h3, h4⟩ := run_append_any (P := P) w base t o.type e i z size bytes ht hi hz hsize hby hzs hsz v n xs hown B A m c news hr h1 h63 hbytes hbase
  unfold Oper.wp execOp
  simp only [ho, resolve, invoke, builtin, Sem.run_bind, Sem.run_pure, Result.andThen_ok, List.map_toArray, List.map_cons, List.map_nil, hs, hx, hrun]
  exact h v' w' h2 h3 h4

theorem wpList_append_any {ops : Array Oper} {rest : List Oper} {o : Oper} {a : Act} {Q : Exit → Act → World → Prop} (hgd : o.guard = none) (s x : Operand) (t : TypeId)
    (ho : o.op = .call { callee := .builtin .append, args := #[s, x], argTypes := #[t, t] })
    (base : Nat) (e : TypeId) (i : TypeInfo) (z : Value) (size bytes : Nat) (ht : P.underlying t = some (.slice e)) (hi : P.info? e = some i) (hz : i.zero = some z)
    (hsize : i.size = size) (hby : i.bytes = bytes) (hzs : z.cells.size = size) (hsz : 0 < size)
    (v : Value) (n : Nat) (xs : List Value) (hs : a.eval s = v) (hown : w.ownsRow base e size v n xs)
    (B : Nat) (A : Option Addr) (m c : Nat) (news : List Value) (hx : a.eval x = .slice A m c) (hr : Reads w B size A m news) (h1 : ∀ u ∈ news, u.oneCell' = true)
    (h63 : n + m ≤ maxLen) (hbytes : (n + m) * bytes ≤ 140737488355328) (hbase : base ≤ w.heap.size)
    (h : ∀ v' w', w'.ownsRow base e size v' (n + m) (xs ++ news) → w.grownBy w' v.ownBlock → (v'.ownBlock = v.ownBlock ∨ v'.ownBlock = some w.heap.size) → wpList P ops Q rest (a.put o.dst v') w') : wpList P ops Q (o :: rest) a w :=
  wpList_plain hgd fun _ hK => wp_append_any w s x t ho base e i z size bytes ht hi hz hsize hby hzs hsz v n xs hs hown B A m c news hx hr h1 h63 hbytes hbase fun v' w' h2 h3 h4 => hK _ _ (h v' w' h2 h3 h4)
end

theorem own_base {w : World} {base : Nat} {e : TypeId} {size n : Nat} {v : Value} {xs : List Value} (h : w.ownsRow base e size v n xs) (k : Nat) (hk : v.ownBlock = some k) : base ≤ k := by
  rcases h.2 with ⟨rfl, _⟩ | ⟨g, cap, cur, rfl, hg, _⟩
  · simp [Value.ownBlock] at hk
  · simp [Value.ownBlock] at hk; omega
theorem own_mono {w : World} {base base' : Nat} {e : TypeId} {size n : Nat} {v : Value} {xs : List Value} (h : w.ownsRow base e size v n xs) (hb : base' ≤ base) : w.ownsRow base' e size v n xs := by
  refine ⟨h.1, ?_⟩
  rcases h.2 with h | ⟨g, cap, cur, hv, hg, hr⟩
  · exact .inl h
  · exact .inr ⟨g, cap, cur, hv, by omega, hr⟩
theorem own_nil (w : World) (base : Nat) (e : TypeId) (size : Nat) : w.ownsRow base e size (.slice none 0 0) 0 [] := ⟨by simp, .inl ⟨rfl, rfl⟩⟩
theorem own_form {w : World} {base : Nat} {e : TypeId} {size n : Nat} {v : Value} {xs : List Value} (h : w.ownsRow base e size v n xs) : ∃ A c, v = .slice A n c ∧ Reads w w.heap.size size A n xs ∧ n ≤ c ∧ c ≤ maxLen := by
  rcases h.2 with ⟨rfl, rfl⟩ | ⟨g, cap, cur, rfl, hg, h1, h2, h3, _⟩
  · exact ⟨_, _, rfl, Reads.of_own h, by omega, by simp [maxLen]⟩
  · exact ⟨_, _, rfl, Reads.of_own h, h2, h3⟩

theorem own_new (w : World) (base : Nat) (e : TypeId) (size n g : Nat) (cur : Array Value) (hg : g = w.heap.size) (hb : base ≤ w.heap.size) (hs : cur.size = n * size) (hn : n ≤ maxLen) :
    (w.alloc (.cells cur e)).ownsRow base e size (.slice (some ⟨g, 0, none⟩) n n) n cur.toList := by
  subst hg
  refine ⟨by simpa using hs, .inr ⟨_, n, cur, rfl, hb, heap_alloc_new w _, Nat.le_refl _, hn, hs, ?_⟩⟩
  rw [← hs]
  exact List.take_of_length_le (by simp)

theorem set_new (W : World) (cs : Array Value) (t : TypeId) (q i g : Nat) (v : Value) (hg : g = W.heap.size) : ((W.alloc (.cells cs t)).drewN q).setCell ⟨g, i, none⟩ v = (W.alloc (.cells (cs.setIfInBounds i v) t)).drewN q := by
  show ((W.alloc (.cells cs t)).setCell ⟨g, i, none⟩ v).drewN q = _
  rw [World.setCell_alloc_at _ _ _ _ _ hg]

/-- a block that is known whole -/
def Blk (w : World) (g : Nat) (t : TypeId) (cs : Array Value) : Prop := w.heap[g]? = some (.cells cs t (0, 0))
section
variable {w w' : World} {g : Nat} {t : TypeId} {cs : Array Value}
theorem Blk.lt (h : Blk w g t cs) : g < w.heap.size := by
  rcases Nat.lt_or_ge g w.heap.size with hlt | hge
  · exact hlt
  · unfold Blk at h; rw [Array.getElem?_eq_none hge] at h; cases h
theorem Blk.cell (h : Blk w g t cs) (i : Nat) : w.cell? ⟨g, i, none⟩ = cs[i]? := by
  unfold Blk at h
  simp [World.cell?, h]
theorem Blk.frozen (h : Blk w g t cs) (i : Nat) : w.frozen? ⟨g, i, none⟩ = false := by
  unfold Blk at h
  simp [World.frozen?, h]
theorem Blk.new (w : World) (t : TypeId) (cs : Array Value) : Blk (w.alloc (.cells cs t)) w.heap.size t cs := heap_alloc_new w _
theorem Blk.drew (h : Blk w g t cs) : Blk w.drew g t cs := h
theorem Blk.drewN (h : Blk w g t cs) (n : Nat) : Blk (w.drewN n) g t cs := h
theorem Blk.alloc (h : Blk w g t cs) (o : Obj) : Blk (w.alloc o) g t cs := (Below.heap_alloc w o g h.lt).trans h
theorem Blk.set_ (h : Blk w g t cs) (i : Nat) (u : Value) : Blk (w.setCell ⟨g, i, none⟩ u) g t (cs.setIfInBounds i u) := by
  unfold Blk at h ⊢
  simp [World.setCell, Array.getElem?_modify, h]
theorem Blk.far (h : Blk w g t cs) {p : Addr} (hp : g ≠ p.block) (u : Value) : Blk (w.setCell p u) g t cs := (Below.heap_setCell w p u g hp).trans h
theorem Blk.below {B : Nat} (h : Blk w g t cs) (hb : Below B w w') (hg : g < B) : Blk w' g t cs := (hb.block g hg).trans h
theorem Blk.grown {row : Option Nat} (h : Blk w g t cs) (hb : w.grownBy w' row) (hg : some g ≠ row) : Blk w' g t cs := (hb.block g h.lt hg).trans h
theorem Blk.ne_ {g' : Nat} {t' : TypeId} {cs' : Array Value} (h : Blk w g t cs) (h' : Blk w g' t' cs') (hne : t ≠ t') : g ≠ g' := by
  rintro rfl
  unfold Blk at h h'
  rw [h] at h'
  injection h' with h'
  injection h' with _ ht
  exact hne ht
theorem own_blk_ne {base : Nat} {e : TypeId} {size n : Nat} {v : Value} {xs : List Value} (h : w.ownsRow base e size v n xs) (hg : Blk w g t cs) (hne : e ≠ t) : v.ownBlock ≠ some g := by
  rcases h.2 with ⟨rfl, _⟩ | ⟨g', cap, cur, rfl, _, hh, _⟩
  · simp [Value.ownBlock]
  · intro he
    have : g' = g := by simpa [Value.ownBlock] using he
    subst this
    exact Blk.ne_ (t := e) hh hg hne rfl
end

/-- a cell: its level, its row, its column -/
abbrev Cl := Int × Int × Int
def cv (x : Cl) : List Value := [.int .i64 x.1, .int .i64 x.2.1, .int .i64 x.2.2]
def cvs (L : List Cl) : List Value := L.flatMap cv
theorem cvs_length (L : List Cl) : (cvs L).length = L.length * 3 := by
  induction L with
  | nil => rfl
  | cons x r ih => simp [cvs, cv] at ih ⊢; omega
theorem cvs_append (L M : List Cl) : cvs (L ++ M) = cvs L ++ cvs M := by simp [cvs]
theorem cvs_one (L : List Cl) : ∀ u ∈ cvs L, u.oneCell' = true := by
  intro u hu
  simp only [cvs, List.mem_flatMap, cv] at hu
  obtain ⟨x, _, hx⟩ := hu
  simp at hx
  rcases hx with rfl | rfl | rfl <;> rfl
theorem Tryz.infoCell : (Tryz.prog.info? 102).map (fun i => (i.zero, i.size, i.bytes)) = some (some (.agg #[.int .i64 0, .int .i64 0, .int .i64 0]), 3, 24) := by kernel_rfl

/-- the ending of a function that returns a list of cells of its own, and an error number -/
def RetCells (w : World) (L : List Cl) (n : Int) (e : Ending) (w' : World) : Prop :=
  ∃ v, e = .returned (.tuple #[v, .int .i64 n]) ∧ w'.ownsRow w.heap.size 102 3 v L.length (cvs L) ∧ Below w.heap.size w w'
/-- the ending of a function that returns a list of cells of its own -/
def RetCells1 (w : World) (L : List Cl) (e : Ending) (w' : World) : Prop :=
  ∃ v, e = .returned v ∧ w'.ownsRow w.heap.size 102 3 v L.length (cvs L) ∧ Below w.heap.size w w'
/-- the children of a cell -/
def kids (l r c : Int) : List Cl := [(l + 1, 2 * r, 2 * c), (l + 1, 2 * r, 2 * c + 1), (l + 1, 2 * r + 1, 2 * c), (l + 1, 2 * r + 1, 2 * c + 1)]
theorem reads_new (w : World) (a b c : Int) (t : TypeId) : Reads (w.alloc (.cells #[.int .i64 a, .int .i64 b, .int .i64 c] t)) (w.heap.size + 1) 3 (some ⟨w.heap.size, 0, none⟩) 1 (cv (a, b, c)) := by
  refine ⟨rfl, fun _ => ⟨_, rfl, by simp, fun j u hu => ?_⟩⟩
  match j, hu with
  | 0, hu => simp [cv] at hu; subst hu; simp [Addr.add]
  | 1, hu => simp [cv] at hu; subst hu; simp [Addr.add]
  | 2, hu => simp [cv] at hu; subst hu; simp [Addr.add]
  | j + 3, hu => simp [cv] at hu
theorem cv_one (x : Cl) : ∀ u ∈ cv x, u.oneCell' = true := by
  intro u hu
  simp [cv] at hu
  rcases hu with rfl | rfl | rfl <;> rfl
theorem kids_take (l r c : Int) {j : Nat} (hj : j < 4) : cvs ((kids l r c).take (j + 1)) = cvs ((kids l r c).take j) ++ cv (l + 1, 2 * r + (j : Int) / 2, 2 * c + (j : Int) % 2) := by
  match j, hj with
  | 0, _ => simp [kids, cvs]
  | 1, _ => simp [kids, cvs]
  | 2, _ => simp [kids, cvs]
  | 3, _ => simp [kids, cvs]
theorem own_bl {w w' : World} {base B : Nat} {e : TypeId} {size n : Nat} {v : Value} {xs : List Value} (h : w.ownsRow base e size v n xs) (hb : Below B w w') (hB : w.heap.size ≤ B) : w'.ownsRow base e size v n xs := by
  refine ⟨h.1, ?_⟩
  rcases h.2 with h1 | ⟨g, cap, cur, hv, hg, hh, hr⟩
  · exact .inl h1
  · have hlt : g < w.heap.size := by
      rcases Nat.lt_or_ge g w.heap.size with hlt | hge
      · exact hlt
      · rw [Array.getElem?_eq_none hge] at hh; cases hh
    exact .inr ⟨g, cap, cur, hv, hg, (hb.block g (by omega)).trans hh, hr⟩
theorem own_set {w : World} {base g cap : Nat} {e : TypeId} {size n : Nat} {xs : List Value} (h : w.ownsRow base e size (.slice (some ⟨g, 0, none⟩) n cap) n xs) (i : Nat) (u : Value) (hi : i < n * size) :
    (w.setCell ⟨g, i, none⟩ u).ownsRow base e size (.slice (some ⟨g, 0, none⟩) n cap) n (xs.set i u) := by
  refine ⟨by simpa using h.1, ?_⟩
  rcases h.2 with ⟨h1, _⟩ | ⟨g', cap', cur, hv, hg, hh, hnc, hcm, hcs, htk⟩
  · cases h1
  · injection hv with e1 e2 e3
    injection e1 with e1
    injection e1 with e1
    subst e1 e3
    refine .inr ⟨g, cap, cur.setIfInBounds i u, rfl, hg, ?_, hnc, hcm, by simpa using hcs, ?_⟩
    · simp [World.setCell, Array.getElem?_modify, hh]
    · rw [← htk]
      simp [List.take_set]
theorem own_cell {w : World} {base g cap : Nat} {e : TypeId} {size n : Nat} {xs : List Value} (h : w.ownsRow base e size (.slice (some ⟨g, 0, none⟩) n cap) n xs) (i : Nat) (u : Value) (hu : xs[i]? = some u) :
    w.cell? ⟨g, i, none⟩ = some u ∧ w.frozen? ⟨g, i, none⟩ = false := by
  rcases h.2 with ⟨h1, _⟩ | ⟨g', cap', cur, hv, hg, hh, hnc, hcm, hcs, htk⟩
  · cases h1
  · injection hv with e1 e2 e3
    injection e1 with e1
    injection e1 with e1
    subst e1 e3
    have hi : i < xs.length := by
      rcases Nat.lt_or_ge i xs.length with hlt | hge
      · exact hlt
      · rw [List.getElem?_eq_none hge] at hu; cases hu
    rw [← htk] at hu
    rw [h.1] at hi
    rw [List.getElem?_take, if_pos hi, Array.getElem?_toList] at hu
    exact ⟨by simp [World.cell?, hh, hu], by simp [World.frozen?, hh]⟩
theorem ownsRow_far {w : World} {base g : Nat} {e t : TypeId} {size n : Nat} {v : Value} {xs : List Value} {cs : Array Value} {i : Nat} {u : Value} (h : w.ownsRow base e size v n xs) (hB : Blk w g t cs) (hne : e ≠ t) : (w.setCell ⟨g, i, none⟩ u).ownsRow base e size v n xs := by
  refine ⟨h.1, ?_⟩
  have hn := own_blk_ne h hB hne
  rcases h.2 with h1 | ⟨g', cap, cur, rfl, hg, hh, hr⟩
  · exact .inl h1
  · refine .inr ⟨g', cap, cur, rfl, hg, (Below.heap_setCell w ⟨g, i, none⟩ u g' ?_).trans hh, hr⟩
    intro he
    exact hn (by simp [Value.ownBlock, he])
end Go.Proofs.YtifdgdgfmjfbdaaGreat
