/- Walks of Box, Parent, the reference's Parent and Valid, both ValidPoints, index. -/
import Derived.Test.YtienkfcliocjgaaGreatProg
import Derived.WalkKit
import Derived.WalkSpells
import Derived.WalkLawsBesides
import Derived.Deep.QuietTactic
import Derived.BigQuiet
import Derived.Lib.Hide
import Derived.IntWalk
import Derived.Deep.AppendLies
import Derived.Maps.AppendAt
import Derived.RegionTactic
import Derived.OwnWalk
import Derived.Laws.OwnMore
import Derived.Deep.Draws
import Derived.Laws.BitsAllLaws
import Derived.Laws.BitsLemmas
import Derived.StillTailTactics
import Derived.Deep.LoopGhost
set_option linter.unusedVariables false
set_option linter.unusedSimpArgs false
/- Plain words shared by all walks of this seat: powers of two, draws over Below, slices that read as lists. -/
namespace Go.Proofs.YtienkfcliocjgaaGreat
open Go.RowKit
def pw (l : Int) : Int := 2 ^ l.toNat
theorem pw_bd {l : Int} (h1 : l ≤ 16) : 1 ≤ pw l ∧ pw l ≤ 65536 := by
  unfold pw
  have h : l.toNat ≤ 16 := by omega
  have h2 : (2 : Int) ^ l.toNat ≤ 2 ^ 16 := by exact_mod_cast Nat.pow_le_pow_right (by omega : 0 < 2) h
  have h3 : 0 < (2 : Int) ^ l.toNat := Int.pow_pos (by omega)
  omega
theorem pw_wrap {l : Int} (h1 : l ≤ 16) : IntKind.i64.wrap (2 ^ l.toNat) = pw l := by
  have := pw_bd h1
  exact IntWalk.i64_in _ (by unfold pw at this; omega)
theorem pw_wrap2 {l : Int} (h1 : l ≤ 16) : IntKind.i64.wrap (2 * 2 ^ l.toNat) = 2 * pw l := by
  have := pw_bd h1
  exact IntWalk.i64_in _ (by unfold pw at this; omega)
theorem bl_drewN {B : Nat} {a w : World} (h : Below B a w) (n : Nat) : Below B a (w.drewN n) := ⟨h.os, h.tape, h.output, h.size, h.block⟩
theorem bl_drew {B : Nat} {a w : World} (h : Below B a w) : Below B a w.drew := ⟨h.os, h.tape, h.output, h.size, h.block⟩
theorem bl_alloc (w : World) (o : Obj) : Below w.heap.size w (w.alloc o) := (Below.refl _ _).alloc (Nat.le_refl _) _

/-- a region whose operations but the last ones only read: the world with one draw more, under its name -/
theorem wp_still_tail {P : Program} {id : Nat} {Q : Exit → Act → World → Prop} {a : Act} {w : World} {l : List Oper} (n : Nat) (hm : P.follows .mixedOrders = true) (hB : Region.lexTailB .any l.toArray n = true)
    (h : wpStill P l.toArray w.drew (fun a' => wpList P l.toArray Q (l.drop n) a' w.drew) (l.take n) a) : (Code.region id l.toArray true).wp P Q a w :=
  wp_region_still_tail n hm hB h

theorem quiet_add {P : Program} {f : FuncId} {args : Array Value} {w : World} {a n : Nat} {v : Value}
    (h : Calls P f args (w.drewN (a + n)) fun e w' => e = .returned v ∧ ∃ m, w' = (w.drewN (a + n)).drewN m) :
    Calls P f args (w.drewN (a + n)) fun e w'' => e = .returned v ∧ ∃ m, w'' = w.drewN (a + m) :=
  h.mono fun _ _ ⟨he, m, hm⟩ => ⟨he, n + m, by rw [hm, World.drewN_drewN, Nat.add_assoc]⟩
theorem quiet_add_same {P : Program} {f : FuncId} {args : Array Value} {w : World} {a n : Nat} {v : Value}
    (h : Calls P f args (w.drewN (a + n)) fun e w' => e = .returned v ∧ w' = w.drewN (a + n)) :
    Calls P f args (w.drewN (a + n)) fun e w'' => e = .returned v ∧ ∃ m, w'' = w.drewN (a + m) :=
  h.mono fun _ _ ⟨he, hm⟩ => ⟨he, n, hm⟩

/-- which cells are valid -/
def vldB (l r c : Int) : Bool := decide (0 ≤ l ∧ l ≤ 16 ∧ 0 ≤ r ∧ r < pw l ∧ 0 ≤ c ∧ c < 2 * pw l)
theorem vldB_true {l r c : Int} : vldB l r c = true ↔ (0 ≤ l ∧ l ≤ 16 ∧ 0 ≤ r ∧ r < pw l ∧ 0 ≤ c ∧ c < 2 * pw l) := by simp [vldB]
end Go.Proofs.YtienkfcliocjgaaGreat
/- Walks of the small functions on one cell: Valid, edge, box, Box, Parent, and the reference's. -/
namespace Go.Proofs.YtienkfcliocjgaaGreat
open Go.RowKit

set_option maxHeartbeats 1000000 in
theorem valid_any (l r c : Int) (w : World) :
    Calls Tryz.prog 47 #[.agg #[.int .i64 l, .int .i64 r, .int .i64 c]] w fun e w' => e = .returned (.bool (vldB l r c)) ∧ Below w.heap.size w w' := by
  have fin : ∀ b : Bool, vldB l r c = b → (Calls Tryz.prog 47 #[.agg #[.int .i64 l, .int .i64 r, .int .i64 c]] w fun e w' => e = .returned (.bool b) ∧ Below w.heap.size w w') →
      Calls Tryz.prog 47 #[.agg #[.int .i64 l, .int .i64 r, .int .i64 c]] w fun e w' => e = .returned (.bool (vldB l r c)) ∧ Below w.heap.size w w' := fun b h hc => by rw [h]; exact hc
  by_cases h0 : 0 ≤ l
  · by_cases h1 : l ≤ 16
    · have e1 := pw_wrap h1
      have e2 := pw_wrap2 h1
      by_cases h2 : 0 ≤ r
      · by_cases h3 : r < pw l
        · by_cases h4 : 0 ≤ c
          · by_cases h5 : c < 2 * pw l
            · refine fin true (by simp [vldB, h0, h1, h2, h3, h4, h5]) ?_
              clear fin
              go_enter Tryz.func47, Tryz.ntmps47
              go_wp2
              go_quiet (fail)
              go_wp2
              go_ret
              exact ⟨rfl, bl_drewN (bl_alloc _ _) _⟩
            · refine fin false (by simp [vldB, h0, h1, h2, h3, h4, h5]) ?_
              clear fin
              have hd := decide_eq_false h5
              go_enter Tryz.func47, Tryz.ntmps47
              go_wp2
              go_quiet (fail)
              go_wp2
              go_ret
              exact ⟨rfl, bl_drewN (bl_alloc _ _) _⟩
          · refine fin false (by simp [vldB, h0, h1, h2, h3, h4]) ?_
            clear fin
            have hd := decide_eq_false h4
            go_enter Tryz.func47, Tryz.ntmps47
            go_wp2
            go_quiet (fail)
            go_wp2
            go_ret
            exact ⟨rfl, bl_drewN (bl_alloc _ _) _⟩
        · refine fin false (by simp [vldB, h0, h1, h2, h3]) ?_
          clear fin
          have hd := decide_eq_false h3
          go_enter Tryz.func47, Tryz.ntmps47
          go_wp2
          go_quiet (fail)
          go_wp2
          go_ret
          exact ⟨rfl, bl_drewN (bl_alloc _ _) _⟩
      · refine fin false (by simp [vldB, h0, h1, h2]) ?_
        clear fin
        have hd := decide_eq_false h2
        go_enter Tryz.func47, Tryz.ntmps47
        go_wp2
        go_quiet (fail)
        go_wp2
        go_ret
        exact ⟨rfl, bl_drewN (bl_alloc _ _) _⟩
    · refine fin false (by simp [vldB, h0, h1]) ?_
      clear fin
      have hd := decide_eq_false h1
      go_enter Tryz.func47, Tryz.ntmps47
      go_wp2
      go_quiet (fail)
      go_wp2
      go_ret
      exact ⟨rfl, bl_drewN (bl_alloc _ _) _⟩
  · refine fin false (by simp [vldB, h0]) ?_
    clear fin
    have hd := decide_eq_false h0
    go_enter Tryz.func47, Tryz.ntmps47
    go_wp2
    go_quiet (fail)
    go_wp2
    go_ret
    exact ⟨rfl, bl_drewN (bl_alloc _ _) _⟩
end Go.Proofs.YtienkfcliocjgaaGreat
/- Walks of edge, bound, box and the reference's Box. -/
namespace Go.Proofs.YtienkfcliocjgaaGreat
open Go.RowKit
theorem ret_int {k : IntKind} {a b : Int} (h : a = b) : Ending.returned (.int k a) = .returned (.int k b) := by rw [h]
def edg (i l : Int) : Int := i * 10800000 / pw l
theorem edg_bd {i l : Int} (h1 : l ≤ 16) (h2 : 0 ≤ i) (h3 : i ≤ 2 * pw l) : 0 ≤ edg i l ∧ edg i l ≤ 21600000 := by
  have hp := pw_bd h1
  unfold edg
  refine ⟨Int.ediv_nonneg (by omega) (by omega), ?_⟩
  have : i * 10800000 / pw l ≤ (21600000 * pw l) / pw l := Int.ediv_le_ediv (by omega) (by omega)
  rwa [Int.mul_ediv_cancel _ (by omega)] at this

set_option maxHeartbeats 400000 in
theorem edge_any (i l : Int) (w : World) (h0 : 0 ≤ l) (h1 : l ≤ 16) (h2 : 0 ≤ i) (h3 : i ≤ 131072) :
    Calls Tryz.prog 68 #[.int .i64 i, .int .i64 l] w fun e w' => e = .returned (.int .i64 (edg i l)) ∧ w' = w := by
  go_enter Tryz.func68, Tryz.ntmps68
  go_wp2
  go_ret
  exact ⟨rfl, rfl⟩
set_option maxHeartbeats 400000 in
theorem bound_any (i l : Int) (w : World) (h0 : 0 ≤ l) (h1 : l ≤ 16) (h2 : 0 ≤ i) (h3 : i ≤ 131072) :
    Calls Tryz.prog 36 #[.int .i64 i, .int .i64 l] w fun e w' => e = .returned (.int .i64 (edg i l)) ∧ w' = w := by
  go_enter Tryz.func36, Tryz.ntmps36
  go_wp2
  go_ret
  exact ⟨rfl, rfl⟩

/-- the box of a cell, as a value -/
def boxV (l r c : Int) : Value := .agg #[.int .i64 (edg r l - 5400000), .int .i64 (edg (r + 1) l - 5400000), .int .i64 (edg c l - 10800000), .int .i64 (edg (c + 1) l - 10800000)]

set_option maxHeartbeats 400000 in
set_option maxRecDepth 100000 in
theorem box_any (l r c : Int) (w : World) (hv : vldB l r c = true) :
    Calls Tryz.prog 48 #[.agg #[.int .i64 l, .int .i64 r, .int .i64 c]] w fun e w' => e = .returned (boxV l r c) ∧ Below w.heap.size w w' := by
  obtain ⟨h0, h1, h2, h3, h4, h5⟩ := vldB_true.1 hv
  clear hv
  have hp := pw_bd h1
  have b1 := edg_bd (i := r) h1 (by omega) (by omega)
  have b2 := edg_bd (i := r + 1) h1 (by omega) (by omega)
  have b3 := edg_bd (i := c) h1 (by omega) (by omega)
  have b4 := edg_bd (i := c + 1) h1 (by omega) (by omega)
  have r1 : r ≤ 131072 := by omega
  have r2 : 0 ≤ r + 1 := by omega
  have r3 : r + 1 ≤ 131072 := by omega
  have c1 : c ≤ 131072 := by omega
  have c2 : 0 ≤ c + 1 := by omega
  have c3 : c + 1 ≤ 131072 := by omega
  have s1 : IntKind.i64.wrap (r + 1) = r + 1 := IntWalk.i64_in _ (by omega)
  have s2 : IntKind.i64.wrap (c + 1) = c + 1 := IntWalk.i64_in _ (by clear s1; omega)
  have s3 : IntKind.i64.wrap (edg r l - 5400000) = edg r l - 5400000 := IntWalk.i64_in _ (by clear s1 s2; omega)
  have s4 : IntKind.i64.wrap (edg (r + 1) l - 5400000) = edg (r + 1) l - 5400000 := IntWalk.i64_in _ (by clear s1 s2 s3; omega)
  have s5 : IntKind.i64.wrap (edg c l - 10800000) = edg c l - 10800000 := IntWalk.i64_in _ (by clear s1 s2 s3 s4; omega)
  have s6 : IntKind.i64.wrap (edg (c + 1) l - 10800000) = edg (c + 1) l - 10800000 := IntWalk.i64_in _ (by clear s1 s2 s3 s4 s5; omega)
  clear b1 b2 b3 b4 hp h3 h5
  go_enter Tryz.func48, Tryz.ntmps48
  go_wp2
  refine wp_still_tail 29 (by kernel_rfl) (by kernel_rfl) ?_
  simp only [List.take_succ_cons, List.take_zero, List.drop_succ_cons, List.drop_zero]
  repeat (first | still_step | still_call (edge_any _ _ _ h0 h1 (by assumption) (by assumption)))
  refine wpStill_nil ?_
  go_wp2
  refine bodyPost_ret (v := boxV l r c) (by simp [results, Tryz.results48, go_sem, boxV]) rfl ⟨rfl, ?_⟩
  repeat (first | exact Below.refl _ _ | refine bl_drew ?_ | refine bl_drewN ?_ _ | refine Below.setCell ?_ (by simp <;> omega) _ | refine Below.alloc ?_ (by simp <;> omega) _)
set_option maxHeartbeats 400000 in
set_option maxRecDepth 100000 in
theorem refBox_any (l r c : Int) (w : World) (hv : vldB l r c = true) :
    Calls Tryz.prog 22 #[.agg #[.int .i64 l, .int .i64 r, .int .i64 c]] w fun e w' => e = .returned (boxV l r c) ∧ Below w.heap.size w w' := by
  obtain ⟨h0, h1, h2, h3, h4, h5⟩ := vldB_true.1 hv
  clear hv
  have hp := pw_bd h1
  have b1 := edg_bd (i := r) h1 (by omega) (by omega)
  have b2 := edg_bd (i := r + 1) h1 (by omega) (by omega)
  have b3 := edg_bd (i := c) h1 (by omega) (by omega)
  have b4 := edg_bd (i := c + 1) h1 (by omega) (by omega)
  have r1 : r ≤ 131072 := by omega
  have r2 : 0 ≤ r + 1 := by omega
  have r3 : r + 1 ≤ 131072 := by omega
  have c1 : c ≤ 131072 := by omega
  have c2 : 0 ≤ c + 1 := by omega
  have c3 : c + 1 ≤ 131072 := by omega
  have s1 : IntKind.i64.wrap (r + 1) = r + 1 := IntWalk.i64_in _ (by omega)
  have s2 : IntKind.i64.wrap (c + 1) = c + 1 := IntWalk.i64_in _ (by clear s1; omega)
  have s3 : IntKind.i64.wrap (edg r l - 5400000) = edg r l - 5400000 := IntWalk.i64_in _ (by clear s1 s2; omega)
  have s4 : IntKind.i64.wrap (edg (r + 1) l - 5400000) = edg (r + 1) l - 5400000 := IntWalk.i64_in _ (by clear s1 s2 s3; omega)
  have s5 : IntKind.i64.wrap (edg c l - 10800000) = edg c l - 10800000 := IntWalk.i64_in _ (by clear s1 s2 s3 s4; omega)
  have s6 : IntKind.i64.wrap (edg (c + 1) l - 10800000) = edg (c + 1) l - 10800000 := IntWalk.i64_in _ (by clear s1 s2 s3 s4 s5; omega)
  clear b1 b2 b3 b4 hp h3 h5
  go_enter Tryz.func22, Tryz.ntmps22
  go_wp2
  refine wp_still_tail 29 (by kernel_rfl) (by kernel_rfl) ?_
  simp only [List.take_succ_cons, List.take_zero, List.drop_succ_cons, List.drop_zero]
  repeat (first | still_step | still_call (bound_any _ _ _ h0 h1 (by assumption) (by assumption)))
  refine wpStill_nil ?_
  go_wp2
  refine bodyPost_ret (v := boxV l r c) (by simp [results, Tryz.results22, go_sem, boxV]) rfl ⟨rfl, ?_⟩
  repeat (first | exact Below.refl _ _ | refine bl_drew ?_ | refine bl_drewN ?_ _ | refine Below.setCell ?_ (by simp <;> omega) _ | refine Below.alloc ?_ (by simp <;> omega) _)
end Go.Proofs.YtienkfcliocjgaaGreat
namespace Go.Proofs.YtienkfcliocjgaaGreat
open Go.RowKit
theorem bcell {W w1 : World} (hb : Below W.heap.size W w1) : (∀ b o, b < W.heap.size → w1.cell? ⟨b, o, none⟩ = W.cell? ⟨b, o, none⟩) ∧ (∀ b o, b < W.heap.size → w1.frozen? ⟨b, o, none⟩ = W.frozen? ⟨b, o, none⟩) :=
  ⟨fun b o h => hb.cell (p := ⟨b, o, none⟩) h, fun b o h => hb.frozen (p := ⟨b, o, none⟩) h⟩
theorem valid_yes (l r c : Int) (hv : vldB l r c = true) (w : World) : Calls Tryz.prog 47 #[.agg #[.int .i64 l, .int .i64 r, .int .i64 c]] w fun e w' => e = .returned (.bool true) ∧ Below w.heap.size w w' := by
  rw [← hv]; exact valid_any l r c w
theorem valid_no (l r c : Int) (hv : vldB l r c = false) (w : World) : Calls Tryz.prog 47 #[.agg #[.int .i64 l, .int .i64 r, .int .i64 c]] w fun e w' => e = .returned (.bool false) ∧ Below w.heap.size w w' := by
  rw [← hv]; exact valid_any l r c w

/-- what the caller's two first blocks keep -/
theorem two_lt {w w1 : World} {o1 o2 : Obj} (hb : Below ((w.alloc o1).alloc o2).heap.size ((w.alloc o1).alloc o2) w1) : w.heap.size < w1.heap.size ∧ w.heap.size + 1 < w1.heap.size := by
  have := hb.size
  simp at this
  omega
theorem two_bl {w w1 : World} {o1 o2 : Obj} (hb : Below ((w.alloc o1).alloc o2).heap.size ((w.alloc o1).alloc o2) w1) : Below w.heap.size w w1 :=
  (((Below.refl _ _).alloc (Nat.le_refl _) _).alloc (by simp) _).trans (hb.mono (by simp; omega))

theorem one_lt {w w1 : World} {o1 : Obj} (hb : Below (w.alloc o1).heap.size (w.alloc o1) w1) : w.heap.size < w1.heap.size := by
  have := hb.size
  simp at this
  omega
theorem one_bl {w w1 : World} {o1 : Obj} (hb : Below (w.alloc o1).heap.size (w.alloc o1) w1) : Below w.heap.size w w1 :=
  ((Below.refl _ _).alloc (Nat.le_refl _) _).trans (hb.mono (by simp))
set_option maxHeartbeats 400000 in
theorem Box_no (l r c : Int) (w : World) (hv : vldB l r c = false) :
    Calls Tryz.prog 29 #[.agg #[.int .i64 l, .int .i64 r, .int .i64 c]] w fun e w' => e = .returned (.tuple #[.agg #[.int .i64 0, .int .i64 0, .int .i64 0, .int .i64 0], .int .i64 1]) ∧ Below w.heap.size w w' := by
  have V := Lib.hid (valid_no l r c hv)
  clear hv
  go_enter Tryz.func29, Tryz.ntmps29
  go_wp2_with (go_at_call 47; refine (V.out _).mono ?_; rintro e w1 ⟨rfl, hb⟩; obtain ⟨hc, hf⟩ := bcell hb; obtain ⟨hz0, hz1⟩ := two_lt hb)
  refine bodyPost_ret (v := .tuple #[.agg #[.int .i64 0, .int .i64 0, .int .i64 0, .int .i64 0], .int .i64 1]) (by simp [results, Tryz.results29, go_sem, hc]) rfl ⟨rfl, ?_⟩
  have hb1 := two_bl hb
  repeat (first | exact Below.refl _ _ | assumption | refine bl_drew ?_ | refine bl_drewN ?_ _ | refine Below.setCell ?_ (by first | assumption | omega | (simp; done) | (simp; omega)) _ | refine Below.alloc ?_ (by first | assumption | omega | (simp; done) | (simp; omega)) _)
set_option maxHeartbeats 400000 in
theorem Box_yes (l r c : Int) (w : World) (hv : vldB l r c = true) :
    Calls Tryz.prog 29 #[.agg #[.int .i64 l, .int .i64 r, .int .i64 c]] w fun e w' => e = .returned (.tuple #[boxV l r c, .int .i64 0]) ∧ Below w.heap.size w w' := by
  have V := Lib.hid (valid_yes l r c hv)
  have B := Lib.hid (fun w => box_any l r c w hv)
  clear hv
  unfold boxV at B ⊢
  go_enter Tryz.func29, Tryz.ntmps29
  go_wp2_with (first | (go_at_call 47; refine (V.out _).mono ?_; rintro e w1 ⟨rfl, hb⟩; obtain ⟨hc, hf⟩ := bcell hb; obtain ⟨hz0, hz1⟩ := two_lt hb) | (go_at_call 48; refine (B.out _).mono ?_; rintro e w2 ⟨rfl, hb2⟩; obtain ⟨hc2, hf2⟩ := bcell hb2))
  refine bodyPost_ret (v := .tuple #[.agg #[.int .i64 (edg r l - 5400000), .int .i64 (edg (r + 1) l - 5400000), .int .i64 (edg c l - 10800000), .int .i64 (edg (c + 1) l - 10800000)], .int .i64 0]) (by simp [results, Tryz.results29, go_sem, hc, hc2, hz1]) rfl ⟨rfl, ?_⟩
  have hb1 := (two_bl hb).trans (hb2.mono (by omega))
  repeat (first | exact Below.refl _ _ | assumption | refine bl_drew ?_ | refine bl_drewN ?_ _ | refine Below.setCell ?_ (by first | assumption | omega | (simp; done) | (simp; omega)) _ | refine Below.alloc ?_ (by first | assumption | omega | (simp; done) | (simp; omega)) _)
end Go.Proofs.YtienkfcliocjgaaGreat
