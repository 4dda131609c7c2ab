/- The walk of the reference's within. -/
import Derived.Deep.RegionHeld3
import Derived.Deep.Cut
import Derived.Deep.DeepCutAuto
import Derived.Test.YtopfnffabaiceaaGWo
set_option linter.unusedVariables false
set_option linter.unusedSimpArgs false
/- Walks of the reference's before. -/
namespace Go.Proofs.Ytopfnffabaiceaa
open Go.RowKit
/-- a number at a level of its ancestors -/
def anc (r l : Int) (k : Nat) : Int := r / 2 ^ (l.toNat - k)
/-- the first difference of the ancestors, from a level on -/
def befF (x y : Cl) : Nat → Nat → Bool
  | 0, _ => false
  | f + 1, k =>
    if anc x.2.1 x.1 k = anc y.2.1 y.1 k then
      if anc x.2.2 x.1 k = anc y.2.2 y.1 k then befF x y f (k + 1) else decide (anc x.2.2 x.1 k < anc y.2.2 y.1 k)
    else decide (anc x.2.1 x.1 k < anc y.2.1 y.1 k)
def befB (x y : Cl) : Bool := befF x y ((min x.1 y.1).toNat + 1) 0
set_option maxHeartbeats 1000000 in
set_option maxRecDepth 100000 in
theorem before_any (l r c l' r' c' : Int) (w : World) (h0 : 0 ≤ l) (h1 : l ≤ 16) (h2 : 0 ≤ l') (h3 : l' ≤ 16) :
    Calls Try.prog 28 #[.agg #[.int .i64 l, .int .i64 r, .int .i64 c], .agg #[.int .i64 l', .int .i64 r', .int .i64 c']] w fun e w' => e = .returned (.bool (befB (l, r, c) (l', r', c'))) ∧ Below w.heap.size w w' := by
  go_enter Try.func28, Try.ntmps28
  go_wp2
  go_loopw [5] (fun i wr => ∃ k q : Nat, k ≤ (min l l').toNat + 1 ∧ i = .int .i64 k ∧ befF (l, r, c) (l', r', c') ((min l l').toNat + 1 - k) k = befB (l, r, c) (l', r', c') ∧ wr = ((w.alloc (.cells #[.int .i64 l, .int .i64 r, .int .i64 c] 33)).alloc (.cells #[.int .i64 l', .int .i64 r', .int .i64 c'] 33)).drewN q) (fun i _ => 20 - (intOf i).toNat)
  case atStart => exact ⟨0, 0, Nat.zero_le _, rfl, rfl, rfl⟩
  case round =>
    obtain ⟨k, q, hk, rfl, hh, rfl⟩ := hrel
    by_cases g1 : (k : Int) ≤ l
    · by_cases g2 : (k : Int) ≤ l'
      · have hf : (min l l').toNat + 1 - k = ((min l l').toNat + 1 - (k + 1)) + 1 := by omega
        rw [hf] at hh
        unfold befF at hh
        simp only [] at hh
        have hk2 : k + 1 ≤ (min l l').toNat + 1 := by omega
        have HK := Lib.hid hk2
        clear hk hf hk2
        have s1 : IntKind.i64.wrap (l - k) = l - k := IntWalk.i64_in _ (by omega)
        have s2 : IntKind.i64.wrap (l' - k) = l' - k := IntWalk.i64_in _ (by omega)
        have p1 : 0 ≤ l - (k : Int) := by clear s1 s2; omega
        have p2 : 0 ≤ l' - (k : Int) := by clear s1 s2; omega
        have p3 : l - (k : Int) ≤ 64 := by clear s1 s2; omega
        have p4 : l' - (k : Int) ≤ 64 := by clear s1 s2; omega
        have d1 : anc r l k = r / 2 ^ (l.toNat - k) := rfl
        have d2 : anc r' l' k = r' / 2 ^ (l'.toNat - k) := rfl
        have d3 : anc c l k = c / 2 ^ (l.toNat - k) := rfl
        have d4 : anc c' l' k = c' / 2 ^ (l'.toNat - k) := rfl
        have D := Lib.hid (And.intro d1 (And.intro d2 (And.intro d3 d4)))
        clear d1 d2 d3 d4
        by_cases g3 : anc r l k = anc r' l' k
        · rw [if_pos g3] at hh
          have e3 : (r / 2 ^ (l.toNat - k) != r' / 2 ^ (l'.toNat - k)) = false := by rw [← D.out.1, ← D.out.2.1]; simp [g3]
          by_cases g4 : anc c l k = anc c' l' k
          · rw [if_pos g4] at hh
            have HH := Lib.hid hh
            clear hh
            have e4 : (c / 2 ^ (l.toNat - k) != c' / 2 ^ (l'.toNat - k)) = false := by rw [← D.out.2.2.1, ← D.out.2.2.2]; simp [g4]
            clear g3 g4
            go_wp2
            go_quiet (fail)
            go_wp2
            go_quiet (fail)
            go_wp2
            go_roundw
            case rel => exact ⟨k + 1, _, HK.out, by go_num, HH.out, rfl⟩
            case measure => clear s1 s2 p1 p2 p3 p4; simp [intOf]; omega
          · rw [if_neg g4] at hh
            have e4 : (c / 2 ^ (l.toNat - k) != c' / 2 ^ (l'.toNat - k)) = true := by rw [← D.out.2.2.1, ← D.out.2.2.2]; simp [g4]
            rw [D.out.2.2.1, D.out.2.2.2] at hh
            have HH := Lib.hid hh
            clear hh g3 g4
            go_wp2
            go_quiet (fail)
            go_wp2
            go_quiet (fail)
            go_wp2
            go_ret
            refine ⟨ret_bool HH.out, ?_⟩
            clear s1 s2
            repeat (first | exact Below.refl _ _ | assumption | refine bl_drew ?_ | refine bl_drewN ?_ _ | refine Below.setCell ?_ (by first | assumption | omega | (simp; done) | (simp; omega)) _ | refine Below.alloc ?_ (by first | assumption | omega | (simp; done) | (simp; omega)) _)
        · rw [if_neg g3] at hh
          have e3 : (r / 2 ^ (l.toNat - k) != r' / 2 ^ (l'.toNat - k)) = true := by rw [← D.out.1, ← D.out.2.1]; simp [g3]
          rw [D.out.1, D.out.2.1] at hh
          have HH := Lib.hid hh
          clear hh g3
          go_wp2
          go_quiet (fail)
          go_wp2
          go_quiet (fail)
          go_wp2
          go_ret
          refine ⟨ret_bool HH.out, ?_⟩
          clear s1 s2
          repeat (first | exact Below.refl _ _ | assumption | refine bl_drew ?_ | refine bl_drewN ?_ _ | refine Below.setCell ?_ (by first | assumption | omega | (simp; done) | (simp; omega)) _ | refine Below.alloc ?_ (by first | assumption | omega | (simp; done) | (simp; omega)) _)
      · have hf : (min l l').toNat + 1 - k = 0 := by omega
        rw [hf] at hh
        have HH := Lib.hid hh
        clear hh hf
        have d2 := decide_eq_false g2
        go_wp2
        go_ret
        refine ⟨ret_bool HH.out, ?_⟩
        repeat (first | exact Below.refl _ _ | assumption | refine bl_drew ?_ | refine bl_drewN ?_ _ | refine Below.setCell ?_ (by first | assumption | omega | (simp; done) | (simp; omega)) _ | refine Below.alloc ?_ (by first | assumption | omega | (simp; done) | (simp; omega)) _)
    · have hf : (min l l').toNat + 1 - k = 0 := by omega
      rw [hf] at hh
      have HH := Lib.hid hh
      clear hh hf
      have d2 := decide_eq_false g1
      go_wp2
      go_ret
      refine ⟨ret_bool HH.out, ?_⟩
      repeat (first | exact Below.refl _ _ | assumption | refine bl_drew ?_ | refine bl_drewN ?_ _ | refine Below.setCell ?_ (by first | assumption | omega | (simp; done) | (simp; omega)) _ | refine Below.alloc ?_ (by first | assumption | omega | (simp; done) | (simp; omega)) _)
end Go.Proofs.Ytopfnffabaiceaa
/- Walks of the reference's below. -/
namespace Go.Proofs.Ytopfnffabaiceaa
open Go.RowKit
theorem take_gt (L : List Cl) (k : Nat) (hk : k < L.length) : L.take (k + 1) = L.take k ++ [gt L k] := by
  rw [List.take_succ_eq_append_getElem hk]
  simp [gt, hk]
theorem gt_mem (L : List Cl) (k : Nat) (hk : k < L.length) : gt L k ∈ L := by
  simp [gt, hk]
/-- the cells of a list that are inside a cell, and not this -/
def belL (L : List Cl) (x : Cl) : List Cl := L.filter fun y => !ceq y x && wiB y x
theorem belL_yes (L : List Cl) (x : Cl) (k : Nat) (hk : k < L.length) (h : ceq (gt L k) x = false) (h2 : wiB (gt L k) x = true) : belL (L.take (k + 1)) x = belL (L.take k) x ++ [gt L k] := by
  have e : L.take (k + 1) = L.take k ++ [gt L k] := take_gt L k hk
  rw [e, belL, List.filter_append]
  simp [belL, h, h2]
theorem belL_no (L : List Cl) (x : Cl) (k : Nat) (hk : k < L.length) (h : (!ceq (gt L k) x && wiB (gt L k) x) = false) : belL (L.take (k + 1)) x = belL (L.take k) x := by
  have e : L.take (k + 1) = L.take k ++ [gt L k] := take_gt L k hk
  rw [e, belL, List.filter_append]
  simp only [List.filter_cons, h, List.filter_nil]
  simp [belL]
theorem belL_len (L : List Cl) (x : Cl) (k : Nat) : (belL (L.take k) x).length ≤ k := by
  have := List.length_filter_le (fun y => !ceq y x && wiB y x) (L.take k)
  have h2 := List.length_take_le k L
  unfold belL
  omega
end Go.Proofs.Ytopfnffabaiceaa
namespace Go.Proofs.Ytopfnffabaiceaa
open Go.RowKit
def kidsC (c : Cl) : List Cl := kids c.1 c.2.1 c.2.2
def wthS (op : Int) (a b : List Cl) (c : Cl) (x y : Bool) (out : List Cl) : List Cl :=
  if a.length = 0 ∧ b.length = 0 then (if opB op x y = true then [c] else []) else if out = kidsC c then [c] else out
/-- what is left of a list inside of a cell -/
def leftL (x : Bool) (a : List Cl) (c : Cl) : List Cl := belL (if x = true then [] else a) c
/-- the reference's recursion -/
def wthL (op : Int) : Nat → List Cl → List Cl → Cl → Bool → Bool → List Cl
  | 0, _, _, _, _, _ => []
  | f + 1, a, b, c, x, y =>
    wthS op (leftL (x || hasB a c) a c) (leftL (y || hasB b c) b c) c (x || hasB a c) (y || hasB b c)
      ((kidsC c).flatMap fun d => wthL op f (leftL (x || hasB a c) a c) (leftL (y || hasB b c) b c) d (x || hasB a c) (y || hasB b c))
theorem wthS_length (op : Int) (a b : List Cl) (c : Cl) (x y : Bool) (out : List Cl) (n : Nat) (h1 : 1 ≤ n) (h : out.length ≤ n) : (wthS op a b c x y out).length ≤ n := by
  unfold wthS
  repeat' split
  all_goals first | exact h | (simp; try omega)
theorem wthL_length (op : Int) (f : Nat) (a b : List Cl) (c : Cl) (x y : Bool) : (wthL op f a b c x y).length ≤ 4 ^ f := by
  induction f generalizing a b c x y with
  | zero => simp [wthL]
  | succ f ih =>
    have h4 : 1 ≤ 4 ^ f := Nat.pow_pos (by omega)
    unfold wthL
    generalize leftL (x || hasB a c) a c = a'
    generalize leftL (y || hasB b c) b c = b'
    generalize (x || hasB a c) = x'
    generalize (y || hasB b c) = y'
    refine wthS_length _ _ _ _ _ _ _ _ (by rw [Nat.pow_succ]; omega) ?_
    simp only [kidsC, kids, List.flatMap_cons, List.flatMap_nil, List.length_append, List.length_nil]
    have h1 := fun d => ih a' b' d x' y'
    have e1 := h1 (c.1 + 1, 2 * c.2.1, 2 * c.2.2)
    have e2 := h1 (c.1 + 1, 2 * c.2.1, 2 * c.2.2 + 1)
    have e3 := h1 (c.1 + 1, 2 * c.2.1 + 1, 2 * c.2.2)
    have e4 := h1 (c.1 + 1, 2 * c.2.1 + 1, 2 * c.2.2 + 1)
    rw [Nat.pow_succ]
    omega
end Go.Proofs.Ytopfnffabaiceaa
