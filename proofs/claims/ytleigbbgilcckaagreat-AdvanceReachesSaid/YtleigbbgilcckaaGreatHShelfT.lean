/- Sums, differences and products of words of 64 digits; numbers of four words. -/
import Derived.Test.YtleigbbgilcckaaGreatProg
import Derived.Shelf.Spec.BitsCarry
import Derived.Ground.Names7Prog
import Derived.Shelf.Bits.Mul64
import Derived.Ground.NamesProg
import Derived.Shelf.Small.Bits
import Derived.WalkKit
import Derived.WalkSpells
import Derived.WalkLawsBesides
import Derived.Deep.QuietTactic
import Derived.BigQuiet
import Derived.Lib.Hide
import Derived.IntWalk
import Derived.Deep.AppendLies
import Derived.Maps.AppendAt
import Derived.RegionTactic
import Derived.OwnWalk
import Derived.Laws.OwnMore
import Derived.Deep.Draws
import Derived.Laws.BitsAllLaws
import Derived.Laws.BitsLemmas
import Derived.StillTailTactics
import Derived.Deep.LoopGhost
import Derived.LoopN
set_option linter.unusedVariables false
set_option linter.unusedSimpArgs false
namespace Go.Proofs
open Go.Shelf
def Tryz.lays25_ren : Go.Shelf.Ren := ⟨fun | 25 => 186 | n => n, fun | 22 => 155 | n => n, fun | n => n⟩
theorem Tryz.lays25 : Go.Proofs.Lays7.n25 Tryz.prog Tryz.lays25_ren := {
  mixed := by kernel_rfl
  f25 := Tryz.func186.trans (congrArg some (by kernel_rfl))
  t22 := Tryz.underlying155
  a22 := Tryz.isAgg155
  z22 := Tryz.sizeOf155
  v22 := Tryz.zeroValue155
  i22 := by kernel_rfl }
def Tryz.lays26_ren : Go.Shelf.Ren := ⟨fun | 26 => 188 | n => n, fun | 22 => 155 | n => n, fun | n => n⟩
theorem Tryz.lays26 : Go.Proofs.Lays7.n26 Tryz.prog Tryz.lays26_ren := {
  mixed := by kernel_rfl
  f26 := Tryz.func188.trans (congrArg some (by kernel_rfl))
  t22 := Tryz.underlying155
  a22 := Tryz.isAgg155
  z22 := Tryz.sizeOf155
  v22 := Tryz.zeroValue155
  i22 := by kernel_rfl }
def Tryz.mul64_ren : Go.Shelf.Ren := ⟨fun | 264 => 140 | n => n, fun | 53 => 155 | 46 => 104 | n => n, fun | n => n⟩
theorem Tryz.mul64 : Go.Proofs.Lays.n264 Tryz.prog Tryz.mul64_ren := {
  mixed := by kernel_rfl
  f264 := Tryz.func140.trans (congrArg some (by kernel_rfl))
  t46 := Tryz.underlying104
  a46 := Tryz.isAgg104
  z46 := Tryz.sizeOf104
  v46 := Tryz.zeroValue104
  t53 := Tryz.underlying155
  a53 := Tryz.isAgg155
  z53 := Tryz.sizeOf155
  v53 := Tryz.zeroValue155 }
def Tryz.lz64_ren : Go.Shelf.Ren := ⟨fun | 134 => 189 | 129 => 158 | n => n, fun | 53 => 155 | 3 => 3 | 4 => 4 | 46 => 104 | 5 => 5 | 9 => 9 | n => n, fun | n => n⟩
theorem Tryz.lz64 : Go.Proofs.Lays.n134 Tryz.prog Tryz.lz64_ren := {
  mixed := by kernel_rfl
  f129 := Tryz.func158.trans (congrArg some (by kernel_rfl))
  f134 := Tryz.func189.trans (congrArg some (by kernel_rfl))
  t3 := Tryz.underlying3
  a3 := Tryz.isAgg3
  z3 := Tryz.sizeOf3
  v3 := Tryz.zeroValue3
  t4 := Tryz.underlying4
  a4 := Tryz.isAgg4
  z4 := Tryz.sizeOf4
  v4 := Tryz.zeroValue4
  t5 := Tryz.underlying5
  a5 := Tryz.isAgg5
  z5 := Tryz.sizeOf5
  v5 := Tryz.zeroValue5
  t9 := Tryz.underlying9
  a9 := Tryz.isAgg9
  z9 := Tryz.sizeOf9
  v9 := Tryz.zeroValue9
  t46 := Tryz.underlying104
  a46 := Tryz.isAgg104
  z46 := Tryz.sizeOf104
  v46 := Tryz.zeroValue104
  t53 := Tryz.underlying155
  a53 := Tryz.isAgg155
  z53 := Tryz.sizeOf155
  v53 := Tryz.zeroValue155 }
end Go.Proofs
namespace Go.Proofs.YtleigbbgilcckaaGreat
open Go.RowKit
def pw (l : Int) : Int := 2 ^ l.toNat
theorem pw_bd {l : Int} (h1 : l ≤ 16) : 1 ≤ pw l ∧ pw l ≤ 65536 := by
  unfold pw
  have h : l.toNat ≤ 16 := by omega
  have h2 : (2 : Int) ^ l.toNat ≤ 2 ^ 16 := by exact_mod_cast Nat.pow_le_pow_right (by omega : 0 < 2) h
  have h3 : 0 < (2 : Int) ^ l.toNat := Int.pow_pos (by omega)
  omega
theorem pw_wrap {l : Int} (h1 : l ≤ 16) : IntKind.i64.wrap (2 ^ l.toNat) = pw l := by
  have := pw_bd h1
  exact IntWalk.i64_in _ (by unfold pw at this; omega)
theorem pw_wrap2 {l : Int} (h1 : l ≤ 16) : IntKind.i64.wrap (2 * 2 ^ l.toNat) = 2 * pw l := by
  have := pw_bd h1
  exact IntWalk.i64_in _ (by unfold pw at this; omega)
theorem bl_drewN {B : Nat} {a w : World} (h : Below B a w) (n : Nat) : Below B a (w.drewN n) := ⟨h.os, h.tape, h.output, h.size, h.block⟩
theorem bl_drew {B : Nat} {a w : World} (h : Below B a w) : Below B a w.drew := ⟨h.os, h.tape, h.output, h.size, h.block⟩
theorem bl_alloc (w : World) (o : Obj) : Below w.heap.size w (w.alloc o) := (Below.refl _ _).alloc (Nat.le_refl _) _

/-- a region whose operations but the last ones only read: the world with one draw more, under its name -/
theorem wp_still_tail {P : Program} {id : Nat} {Q : Exit → Act → World → Prop} {a : Act} {w : World} {l : List Oper} (n : Nat) (hm : P.follows .mixedOrders = true) (hB : Region.lexTailB .any l.toArray n = true)
    (h : wpStill P l.toArray w.drew (fun a' => wpList P l.toArray Q (l.drop n) a' w.drew) (l.take n) a) : (Code.region id l.toArray true).wp P Q a w :=
  wp_region_still_tail n hm hB h

/-- which cells are valid -/
def vldB (l r c : Int) : Bool := decide (0 ≤ l ∧ l ≤ 16 ∧ 0 ≤ r ∧ r < pw l ∧ 0 ≤ c ∧ c < 2 * pw l)
theorem vldB_true {l r c : Int} : vldB l r c = true ↔ (0 ≤ l ∧ l ≤ 16 ∧ 0 ≤ r ∧ r < pw l ∧ 0 ≤ c ∧ c < 2 * pw l) := by simp [vldB]
end Go.Proofs.YtleigbbgilcckaaGreat
namespace Go.Proofs.YtleigbbgilcckaaGreat
open Go.RowKit

set_option maxHeartbeats 1000000 in
theorem valid_any (l r c : Int) (w : World) :
    Calls Tryz.prog 39 #[.agg #[.int .i64 l, .int .i64 r, .int .i64 c]] w fun e w' => e = .returned (.bool (vldB l r c)) ∧ Below w.heap.size w w' := by
  have fin : ∀ b : Bool, vldB l r c = b → (Calls Tryz.prog 39 #[.agg #[.int .i64 l, .int .i64 r, .int .i64 c]] w fun e w' => e = .returned (.bool b) ∧ Below w.heap.size w w') →
      Calls Tryz.prog 39 #[.agg #[.int .i64 l, .int .i64 r, .int .i64 c]] w fun e w' => e = .returned (.bool (vldB l r c)) ∧ Below w.heap.size w w' := fun b h hc => by rw [h]; exact hc
  by_cases h0 : 0 ≤ l
  · by_cases h1 : l ≤ 16
    · have e1 := pw_wrap h1
      have e2 := pw_wrap2 h1
      by_cases h2 : 0 ≤ r
      · by_cases h3 : r < pw l
        · by_cases h4 : 0 ≤ c
          · by_cases h5 : c < 2 * pw l
            · refine fin true (by simp [vldB, h0, h1, h2, h3, h4, h5]) ?_
              clear fin
              go_enter Tryz.func39, Tryz.ntmps39
              go_wp2
              go_quiet (fail)
              go_wp2
              go_ret
              exact ⟨rfl, bl_drewN (bl_alloc _ _) _⟩
            · refine fin false (by simp [vldB, h0, h1, h2, h3, h4, h5]) ?_
              clear fin
              have hd := decide_eq_false h5
              go_enter Tryz.func39, Tryz.ntmps39
              go_wp2
              go_quiet (fail)
              go_wp2
              go_ret
              exact ⟨rfl, bl_drewN (bl_alloc _ _) _⟩
          · refine fin false (by simp [vldB, h0, h1, h2, h3, h4]) ?_
            clear fin
            have hd := decide_eq_false h4
            go_enter Tryz.func39, Tryz.ntmps39
            go_wp2
            go_quiet (fail)
            go_wp2
            go_ret
            exact ⟨rfl, bl_drewN (bl_alloc _ _) _⟩
        · refine fin false (by simp [vldB, h0, h1, h2, h3]) ?_
          clear fin
          have hd := decide_eq_false h3
          go_enter Tryz.func39, Tryz.ntmps39
          go_wp2
          go_quiet (fail)
          go_wp2
          go_ret
          exact ⟨rfl, bl_drewN (bl_alloc _ _) _⟩
      · refine fin false (by simp [vldB, h0, h1, h2]) ?_
        clear fin
        have hd := decide_eq_false h2
        go_enter Tryz.func39, Tryz.ntmps39
        go_wp2
        go_quiet (fail)
        go_wp2
        go_ret
        exact ⟨rfl, bl_drewN (bl_alloc _ _) _⟩
    · refine fin false (by simp [vldB, h0, h1]) ?_
      clear fin
      have hd := decide_eq_false h1
      go_enter Tryz.func39, Tryz.ntmps39
      go_wp2
      go_quiet (fail)
      go_wp2
      go_ret
      exact ⟨rfl, bl_drewN (bl_alloc _ _) _⟩
  · refine fin false (by simp [vldB, h0]) ?_
    clear fin
    have hd := decide_eq_false h0
    go_enter Tryz.func39, Tryz.ntmps39
    go_wp2
    go_quiet (fail)
    go_wp2
    go_ret
    exact ⟨rfl, bl_drewN (bl_alloc _ _) _⟩
end Go.Proofs.YtleigbbgilcckaaGreat
namespace Go.Proofs.YtleigbbgilcckaaGreat
open Go.RowKit
theorem ret_int {k : IntKind} {a b : Int} (h : a = b) : Ending.returned (.int k a) = .returned (.int k b) := by rw [h]
def edg (i l : Int) : Int := i * 10800000 / pw l
theorem edg_bd {i l : Int} (h1 : l ≤ 16) (h2 : 0 ≤ i) (h3 : i ≤ 2 * pw l) : 0 ≤ edg i l ∧ edg i l ≤ 21600000 := by
  have hp := pw_bd h1
  unfold edg
  refine ⟨Int.ediv_nonneg (by omega) (by omega), ?_⟩
  have : i * 10800000 / pw l ≤ (21600000 * pw l) / pw l := Int.ediv_le_ediv (by omega) (by omega)
  rwa [Int.mul_ediv_cancel _ (by omega)] at this

set_option maxHeartbeats 400000 in
theorem edge_any (i l : Int) (w : World) (h0 : 0 ≤ l) (h1 : l ≤ 16) (h2 : 0 ≤ i) (h3 : i ≤ 131072) :
    Calls Tryz.prog 62 #[.int .i64 i, .int .i64 l] w fun e w' => e = .returned (.int .i64 (edg i l)) ∧ w' = w := by
  go_enter Tryz.func62, Tryz.ntmps62
  go_wp2
  go_ret
  exact ⟨rfl, rfl⟩
set_option maxHeartbeats 400000 in
theorem bound_any (i l : Int) (w : World) (h0 : 0 ≤ l) (h1 : l ≤ 16) (h2 : 0 ≤ i) (h3 : i ≤ 131072) :
    Calls Tryz.prog 80 #[.int .i64 i, .int .i64 l] w fun e w' => e = .returned (.int .i64 (edg i l)) ∧ w' = w := by
  go_enter Tryz.func80, Tryz.ntmps80
  go_wp2
  go_ret
  exact ⟨rfl, rfl⟩

/-- the box of a cell, as a value -/
def boxV (l r c : Int) : Value := .agg #[.int .i64 (edg r l - 5400000), .int .i64 (edg (r + 1) l - 5400000), .int .i64 (edg c l - 10800000), .int .i64 (edg (c + 1) l - 10800000)]

set_option maxHeartbeats 400000 in
set_option maxRecDepth 100000 in
theorem box_any (l r c : Int) (w : World) (hv : vldB l r c = true) :
    Calls Tryz.prog 26 #[.agg #[.int .i64 l, .int .i64 r, .int .i64 c]] w fun e w' => e = .returned (boxV l r c) ∧ Below w.heap.size w w' := by
  obtain ⟨h0, h1, h2, h3, h4, h5⟩ := vldB_true.1 hv
  clear hv
  have hp := pw_bd h1
  have b1 := edg_bd (i := r) h1 (by omega) (by omega)
  have b2 := edg_bd (i := r + 1) h1 (by omega) (by omega)
  have b3 := edg_bd (i := c) h1 (by omega) (by omega)
  have b4 := edg_bd (i := c + 1) h1 (by omega) (by omega)
  have r1 : r ≤ 131072 := by omega
  have r2 : 0 ≤ r + 1 := by omega
  have r3 : r + 1 ≤ 131072 := by omega
  have c1 : c ≤ 131072 := by omega
  have c2 : 0 ≤ c + 1 := by omega
  have c3 : c + 1 ≤ 131072 := by omega
  have s1 : IntKind.i64.wrap (r + 1) = r + 1 := IntWalk.i64_in _ (by omega)
  have s2 : IntKind.i64.wrap (c + 1) = c + 1 := IntWalk.i64_in _ (by clear s1; omega)
  have s3 : IntKind.i64.wrap (edg r l - 5400000) = edg r l - 5400000 := IntWalk.i64_in _ (by clear s1 s2; omega)
  have s4 : IntKind.i64.wrap (edg (r + 1) l - 5400000) = edg (r + 1) l - 5400000 := IntWalk.i64_in _ (by clear s1 s2 s3; omega)
  have s5 : IntKind.i64.wrap (edg c l - 10800000) = edg c l - 10800000 := IntWalk.i64_in _ (by clear s1 s2 s3 s4; omega)
  have s6 : IntKind.i64.wrap (edg (c + 1) l - 10800000) = edg (c + 1) l - 10800000 := IntWalk.i64_in _ (by clear s1 s2 s3 s4 s5; omega)
  clear b1 b2 b3 b4 hp h3 h5
  go_enter Tryz.func26, Tryz.ntmps26
  go_wp2
  refine wp_still_tail 29 (by kernel_rfl) (by kernel_rfl) ?_
  simp only [List.take_succ_cons, List.take_zero, List.drop_succ_cons, List.drop_zero]
  repeat (first | still_step | still_call (edge_any _ _ _ h0 h1 (by assumption) (by assumption)))
  refine wpStill_nil ?_
  go_wp2
  refine bodyPost_ret (v := boxV l r c) (by simp [results, Tryz.results26, go_sem, boxV]) rfl ⟨rfl, ?_⟩
  repeat (first | exact Below.refl _ _ | refine bl_drew ?_ | refine bl_drewN ?_ _ | refine Below.setCell ?_ (by simp <;> omega) _ | refine Below.alloc ?_ (by simp <;> omega) _)
set_option maxHeartbeats 400000 in
set_option maxRecDepth 100000 in
theorem refBox_any (l r c : Int) (w : World) (hv : vldB l r c = true) :
    Calls Tryz.prog 48 #[.agg #[.int .i64 l, .int .i64 r, .int .i64 c]] w fun e w' => e = .returned (boxV l r c) ∧ Below w.heap.size w w' := by
  obtain ⟨h0, h1, h2, h3, h4, h5⟩ := vldB_true.1 hv
  clear hv
  have hp := pw_bd h1
  have b1 := edg_bd (i := r) h1 (by omega) (by omega)
  have b2 := edg_bd (i := r + 1) h1 (by omega) (by omega)
  have b3 := edg_bd (i := c) h1 (by omega) (by omega)
  have b4 := edg_bd (i := c + 1) h1 (by omega) (by omega)
  have r1 : r ≤ 131072 := by omega
  have r2 : 0 ≤ r + 1 := by omega
  have r3 : r + 1 ≤ 131072 := by omega
  have c1 : c ≤ 131072 := by omega
  have c2 : 0 ≤ c + 1 := by omega
  have c3 : c + 1 ≤ 131072 := by omega
  have s1 : IntKind.i64.wrap (r + 1) = r + 1 := IntWalk.i64_in _ (by omega)
  have s2 : IntKind.i64.wrap (c + 1) = c + 1 := IntWalk.i64_in _ (by clear s1; omega)
  have s3 : IntKind.i64.wrap (edg r l - 5400000) = edg r l - 5400000 := IntWalk.i64_in _ (by clear s1 s2; omega)
  have s4 : IntKind.i64.wrap (edg (r + 1) l - 5400000) = edg (r + 1) l - 5400000 := IntWalk.i64_in _ (by clear s1 s2 s3; omega)
  have s5 : IntKind.i64.wrap (edg c l - 10800000) = edg c l - 10800000 := IntWalk.i64_in _ (by clear s1 s2 s3 s4; omega)
  have s6 : IntKind.i64.wrap (edg (c + 1) l - 10800000) = edg (c + 1) l - 10800000 := IntWalk.i64_in _ (by clear s1 s2 s3 s4 s5; omega)
  clear b1 b2 b3 b4 hp h3 h5
  go_enter Tryz.func48, Tryz.ntmps48
  go_wp2
  refine wp_still_tail 29 (by kernel_rfl) (by kernel_rfl) ?_
  simp only [List.take_succ_cons, List.take_zero, List.drop_succ_cons, List.drop_zero]
  repeat (first | still_step | still_call (bound_any _ _ _ h0 h1 (by assumption) (by assumption)))
  refine wpStill_nil ?_
  go_wp2
  refine bodyPost_ret (v := boxV l r c) (by simp [results, Tryz.results48, go_sem, boxV]) rfl ⟨rfl, ?_⟩
  repeat (first | exact Below.refl _ _ | refine bl_drew ?_ | refine bl_drewN ?_ _ | refine Below.setCell ?_ (by simp <;> omega) _ | refine Below.alloc ?_ (by simp <;> omega) _)
end Go.Proofs.YtleigbbgilcckaaGreat
namespace Go.Proofs.YtleigbbgilcckaaGreat
open Go.RowKit
theorem bcell {W w1 : World} (hb : Below W.heap.size W w1) : (∀ b o, b < W.heap.size → w1.cell? ⟨b, o, none⟩ = W.cell? ⟨b, o, none⟩) ∧ (∀ b o, b < W.heap.size → w1.frozen? ⟨b, o, none⟩ = W.frozen? ⟨b, o, none⟩) :=
  ⟨fun b o h => hb.cell (p := ⟨b, o, none⟩) h, fun b o h => hb.frozen (p := ⟨b, o, none⟩) h⟩
theorem valid_yes (l r c : Int) (hv : vldB l r c = true) (w : World) : Calls Tryz.prog 39 #[.agg #[.int .i64 l, .int .i64 r, .int .i64 c]] w fun e w' => e = .returned (.bool true) ∧ Below w.heap.size w w' := by
  rw [← hv]; exact valid_any l r c w
/-- what the caller's two first blocks keep -/
theorem two_lt {w w1 : World} {o1 o2 : Obj} (hb : Below ((w.alloc o1).alloc o2).heap.size ((w.alloc o1).alloc o2) w1) : w.heap.size < w1.heap.size ∧ w.heap.size + 1 < w1.heap.size := by
  have := hb.size
  simp at this
  omega
theorem two_bl {w w1 : World} {o1 o2 : Obj} (hb : Below ((w.alloc o1).alloc o2).heap.size ((w.alloc o1).alloc o2) w1) : Below w.heap.size w w1 :=
  (((Below.refl _ _).alloc (Nat.le_refl _) _).alloc (by simp) _).trans (hb.mono (by simp; omega))

theorem one_lt {w w1 : World} {o1 : Obj} (hb : Below (w.alloc o1).heap.size (w.alloc o1) w1) : w.heap.size < w1.heap.size := by
  have := hb.size
  simp at this
  omega
theorem one_bl {w w1 : World} {o1 : Obj} (hb : Below (w.alloc o1).heap.size (w.alloc o1) w1) : Below w.heap.size w w1 :=
  ((Below.refl _ _).alloc (Nat.le_refl _) _).trans (hb.mono (by simp))
set_option maxHeartbeats 400000 in
theorem Box_yes (l r c : Int) (w : World) (hv : vldB l r c = true) :
    Calls Tryz.prog 15 #[.agg #[.int .i64 l, .int .i64 r, .int .i64 c]] w fun e w' => e = .returned (.tuple #[boxV l r c, .int .i64 0]) ∧ Below w.heap.size w w' := by
  have V := Lib.hid (valid_yes l r c hv)
  have B := Lib.hid (fun w => box_any l r c w hv)
  clear hv
  unfold boxV at B ⊢
  go_enter Tryz.func15, Tryz.ntmps15
  go_wp2_with (first | (go_at_call 39; refine (V.out _).mono ?_; rintro e w1 ⟨rfl, hb⟩; obtain ⟨hc, hf⟩ := bcell hb; obtain ⟨hz0, hz1⟩ := two_lt hb) | (go_at_call 26; refine (B.out _).mono ?_; rintro e w2 ⟨rfl, hb2⟩; obtain ⟨hc2, hf2⟩ := bcell hb2))
  refine bodyPost_ret (v := .tuple #[.agg #[.int .i64 (edg r l - 5400000), .int .i64 (edg (r + 1) l - 5400000), .int .i64 (edg c l - 10800000), .int .i64 (edg (c + 1) l - 10800000)], .int .i64 0]) (by simp [results, Tryz.results15, go_sem, hc, hc2, hz1]) rfl ⟨rfl, ?_⟩
  have hb1 := (two_bl hb).trans (hb2.mono (by omega))
  repeat (first | exact Below.refl _ _ | assumption | refine bl_drew ?_ | refine bl_drewN ?_ _ | refine Below.setCell ?_ (by first | assumption | omega | (simp; done) | (simp; omega)) _ | refine Below.alloc ?_ (by first | assumption | omega | (simp; done) | (simp; omega)) _)
end Go.Proofs.YtleigbbgilcckaaGreat
namespace Go.Proofs.YtleigbbgilcckaaGreat
open Go.RowKit Go.Shelf
/-- a word -/
def U64 (x : Int) : Prop := 0 ≤ x ∧ x < 18446744073709551616
def adS (x y c : Int) : Int := (x + y + c) % 18446744073709551616
def adC (x y c : Int) : Int := (x + y + c) / 18446744073709551616
def suD (x y b : Int) : Int := (x - y - b) % 18446744073709551616
def suB (x y b : Int) : Int := if x < y + b then 1 else 0
def muH (x y : Int) : Int := x * y / 18446744073709551616
def muL (x y : Int) : Int := x * y % 18446744073709551616
theorem ad_eq (x y c : Int) : adS x y c + 18446744073709551616 * adC x y c = x + y + c := by unfold adS adC; omega
theorem adS_u (x y c : Int) : U64 (adS x y c) := by unfold adS U64; omega
theorem adC_bd {x y c : Int} (hx : U64 x) (hy : U64 y) (h0 : 0 ≤ c) (h1 : c ≤ 1) : 0 ≤ adC x y c ∧ adC x y c ≤ 1 := by unfold adC U64 at *; omega
theorem suD_u (x y b : Int) : U64 (suD x y b) := by unfold suD U64; omega
theorem suB_bd (x y b : Int) : 0 ≤ suB x y b ∧ suB x y b ≤ 1 := by unfold suB; split <;> omega
theorem su_eq {x y b : Int} (hx : U64 x) (hy : U64 y) (h0 : 0 ≤ b) (h1 : b ≤ 1) : suD x y b = x - y - b + 18446744073709551616 * suB x y b := by
  unfold suD suB U64 at *
  split <;> omega
theorem mu_eq (x y : Int) : muH x y * 18446744073709551616 + muL x y = x * y := by unfold muH muL; omega
theorem muL_u (x y : Int) : U64 (muL x y) := by unfold muL U64; omega
theorem mul_lt {x y : Int} (hx : U64 x) (hy : U64 y) : 0 ≤ x * y ∧ x * y ≤ 340282366920938463426481119284349108225 := by
  obtain ⟨x0, x1⟩ := hx
  obtain ⟨y0, y1⟩ := hy
  have h1 : x * y ≤ 18446744073709551615 * 18446744073709551615 := Int.mul_le_mul (by omega) (by omega) y0 (by omega)
  exact ⟨Int.mul_nonneg x0 y0, by omega⟩
theorem muH_bd {x y : Int} (hx : U64 x) (hy : U64 y) : 0 ≤ muH x y ∧ muH x y ≤ 18446744073709551614 := by
  have := mul_lt hx hy
  unfold muH
  omega
theorem add64 (x y c : Int) (hx : U64 x) (hy : U64 y) (h0 : 0 ≤ c) (h1 : c ≤ 1) (w : World) :
    (callFunc 186 #[.int .u64 x, .int .u64 y, .int .u64 c]).run Tryz.prog w = .ok (.value (.tuple #[.int .u64 (adS x y c), .int .u64 (adC x y c)])) w := by
  have h := Any7.bits_Add64 Tryz.lays25 x.toNat y.toNat c.toNat (by omega) w
  change (callFunc 186 _).run _ _ = _ at h
  have ex : ((x.toNat : Nat) : Int) = x := Int.toNat_of_nonneg hx.1
  have ey : ((y.toNat : Nat) : Int) = y := Int.toNat_of_nonneg hy.1
  have ec : ((c.toNat : Nat) : Int) = c := Int.toNat_of_nonneg h0
  rw [ex, ey, ec] at h
  rw [h]
  obtain ⟨x0, x1⟩ := hx
  obtain ⟨y0, y1⟩ := hy
  have e1 : (((x.toNat + y.toNat + c.toNat) % 18446744073709551616 : Nat) : Int) = adS x y c := by unfold adS; omega
  have e2 : (((x.toNat + y.toNat + c.toNat) / 18446744073709551616 : Nat) : Int) = adC x y c := by unfold adC; omega
  rw [e1, e2]
theorem add64_0 (x y : Int) (hx : U64 x) (hy : U64 y) (w : World) :
    (callFunc 186 #[.int .u64 x, .int .u64 y, .int .u64 0]).run Tryz.prog w = .ok (.value (.tuple #[.int .u64 (adS x y 0), .int .u64 (adC x y 0)])) w := add64 x y 0 hx hy (by omega) (by omega) w
theorem sub64 (x y b : Int) (hx : U64 x) (hy : U64 y) (h0 : 0 ≤ b) (h1 : b ≤ 1) (w : World) :
    (callFunc 188 #[.int .u64 x, .int .u64 y, .int .u64 b]).run Tryz.prog w = .ok (.value (.tuple #[.int .u64 (suD x y b), .int .u64 (suB x y b)])) w := by
  have h := Any7.bits_Sub64 Tryz.lays26 x.toNat y.toNat b.toNat (by omega) w
  change (callFunc 188 _).run _ _ = _ at h
  have ex : ((x.toNat : Nat) : Int) = x := Int.toNat_of_nonneg hx.1
  have ey : ((y.toNat : Nat) : Int) = y := Int.toNat_of_nonneg hy.1
  have eb : ((b.toNat : Nat) : Int) = b := Int.toNat_of_nonneg h0
  rw [ex, ey, eb] at h
  rw [h]
  obtain ⟨x0, x1⟩ := hx
  obtain ⟨y0, y1⟩ := hy
  have e1 : (((x.toNat + 18446744073709551616 - y.toNat - b.toNat) % 18446744073709551616 : Nat) : Int) = suD x y b := by unfold suD; omega
  have e2 : ((if x.toNat < y.toNat + b.toNat then 1 else 0 : Nat) : Int) = suB x y b := by unfold suB; split <;> split <;> omega
  rw [e1, e2]
theorem mul64 (x y : Int) (hx : U64 x) (hy : U64 y) (w : World) :
    Calls Tryz.prog 140 #[.int .u64 x, .int .u64 y] w fun e w' => e = .returned (.tuple #[.int .u64 (muH x y), .int .u64 (muL x y)]) ∧ w' = w := by
  obtain ⟨x0, x1⟩ := hx
  obtain ⟨y0, y1⟩ := hy
  have h := Any.bits_Mul64 Tryz.mul64 x.toNat y.toNat (by omega) (by omega) w
  change Calls Tryz.prog 140 _ _ _ at h
  have ex : ((x.toNat : Nat) : Int) = x := Int.toNat_of_nonneg x0
  have ey : ((y.toNat : Nat) : Int) = y := Int.toNat_of_nonneg y0
  have em : ((x.toNat * y.toNat : Nat) : Int) = x * y := by push_cast; rw [ex, ey]
  rw [ex, ey] at h
  have e1 : ((x.toNat * y.toNat / 18446744073709551616 : Nat) : Int) = muH x y := by unfold muH; rw [← em]; omega
  have e2 : ((x.toNat * y.toNat % 18446744073709551616 : Nat) : Int) = muL x y := by unfold muL; rw [← em]; omega
  rw [e1, e2] at h
  exact h
/-- the value of four words -/
def nv (a0 a1 a2 a3 : Int) : Int := a0 * 6277101735386680763835789423207666416102355444464034512896 + a1 * 340282366920938463463374607431768211456 + a2 * 18446744073709551616 + a3
abbrev num4 (a0 a1 a2 a3 : Int) : Value := .agg #[.int .u64 a0, .int .u64 a1, .int .u64 a2, .int .u64 a3]
end Go.Proofs.YtleigbbgilcckaaGreat
