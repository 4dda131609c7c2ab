/- The walk of the reference's within. -/
import Derived.Test.YtlglalemhfjmhaaRd
import Derived.Deep.DeepCutAuto
import Derived.Deep.RegionHeld3
namespace Go.Proofs.Ytlglalemhfjmhaa
open Go.RowKit
def kidsC (c : Cl) : List Cl := kids c.1 c.2.1 c.2.2
def wthS (op : Int) (a b : List Cl) (c : Cl) (x y : Bool) (out : List Cl) : List Cl :=
  if a.length = 0 ∧ b.length = 0 then (if opB op x y = true then [c] else []) else if out = kidsC c then [c] else out
/-- what is left of a list inside of a cell -/
def leftL (x : Bool) (a : List Cl) (c : Cl) : List Cl := belL (if x = true then [] else a) c
/-- the reference's recursion -/
def wthL (op : Int) : Nat → List Cl → List Cl → Cl → Bool → Bool → List Cl
  | 0, _, _, _, _, _ => []
  | f + 1, a, b, c, x, y =>
    wthS op (leftL (x || hasB a c) a c) (leftL (y || hasB b c) b c) c (x || hasB a c) (y || hasB b c)
      ((kidsC c).flatMap fun d => wthL op f (leftL (x || hasB a c) a c) (leftL (y || hasB b c) b c) d (x || hasB a c) (y || hasB b c))
theorem wthS_length (op : Int) (a b : List Cl) (c : Cl) (x y : Bool) (out : List Cl) (n : Nat) (h1 : 1 ≤ n) (h : out.length ≤ n) : (wthS op a b c x y out).length ≤ n := by
  unfold wthS
  repeat' split
  all_goals first | exact h | (simp; try omega)
theorem wthL_length (op : Int) (f : Nat) (a b : List Cl) (c : Cl) (x y : Bool) : (wthL op f a b c x y).length ≤ 4 ^ f := by
  induction f generalizing a b c x y with
  | zero => simp [wthL]
  | succ f ih =>
    have h4 : 1 ≤ 4 ^ f := Nat.pow_pos (by omega)
    unfold wthL
    generalize leftL (x || hasB a c) a c = a'
    generalize leftL (y || hasB b c) b c = b'
    generalize (x || hasB a c) = x'
    generalize (y || hasB b c) = y'
    refine wthS_length _ _ _ _ _ _ _ _ (by rw [Nat.pow_succ]; omega) ?_
    simp only [kidsC, kids, List.flatMap_cons, List.flatMap_nil, List.length_append, List.length_nil]
    have h1 := fun d => ih a' b' d x' y'
    have e1 := h1 (c.1 + 1, 2 * c.2.1, 2 * c.2.2)
    have e2 := h1 (c.1 + 1, 2 * c.2.1, 2 * c.2.2 + 1)
    have e3 := h1 (c.1 + 1, 2 * c.2.1 + 1, 2 * c.2.2)
    have e4 := h1 (c.1 + 1, 2 * c.2.1 + 1, 2 * c.2.2 + 1)
    rw [Nat.pow_succ]
    omega
end Go.Proofs.Ytlglalemhfjmhaa
