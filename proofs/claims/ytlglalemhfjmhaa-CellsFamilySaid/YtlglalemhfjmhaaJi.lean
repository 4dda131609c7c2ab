/- Plain: the extents of the boxes of a cell and of its children. No program in sight. -/
import Derived.Test.YtlglalemhfjmhaaJh
namespace Go.Proofs.Ytlglalemhfjmhaa
open Canon
/-- the extent of a box -/
def wid (x : Cl) : Int := (edg (x.2.1 + 1) x.1 - edg x.2.1 x.1) * (edg (x.2.2 + 1) x.1 - edg x.2.2 x.1)
theorem edg_odd (i : Int) (l : Nat) : edg (2 * i + 1 + 1) ((l + 1 : Nat) : Int) = edg (i + 1) (l : Int) := by
  rw [show 2 * i + 1 + 1 = 2 * (i + 1) by omega, edg_even]
theorem wid_kids (l : Nat) (r c : Int) : wid (((l + 1 : Nat) : Int), 2 * r, 2 * c) + wid (((l + 1 : Nat) : Int), 2 * r, 2 * c + 1) + wid (((l + 1 : Nat) : Int), 2 * r + 1, 2 * c) + wid (((l + 1 : Nat) : Int), 2 * r + 1, 2 * c + 1) = wid ((l : Int), r, c) := by
  unfold wid
  simp only [edg_even, edg_odd]
  generalize edg (2 * r + 1) ((l + 1 : Nat) : Int) = M
  generalize edg (2 * c + 1) ((l + 1 : Nat) : Int) = N
  generalize edg r (l : Int) = A
  generalize edg (r + 1) (l : Int) = B
  generalize edg c (l : Int) = C
  generalize edg (c + 1) (l : Int) = D
  grind
/-- the box of a child lies in that of its parent -/
theorem kid_box (l : Nat) (r c i j : Int) (hi : i = 0 ∨ i = 1) (hj : j = 0 ∨ j = 1) :
    edg r (l : Int) ≤ edg (2 * r + i) ((l + 1 : Nat) : Int) ∧ edg (2 * r + i + 1) ((l + 1 : Nat) : Int) ≤ edg (r + 1) (l : Int) ∧ edg c (l : Int) ≤ edg (2 * c + j) ((l + 1 : Nat) : Int) ∧ edg (2 * c + j + 1) ((l + 1 : Nat) : Int) ≤ edg (c + 1) (l : Int) := by
  rw [← edg_even r, ← edg_even (r + 1), ← edg_even c, ← edg_even (c + 1)]
  exact ⟨edg_mono _ (by omega), edg_mono _ (by omega), edg_mono _ (by omega), edg_mono _ (by omega)⟩
theorem wid_bd {x : Cl} (hx : Vl x) : 0 ≤ wid x ∧ wid x ≤ 116640021600001 := by
  obtain ⟨h1, h2, h3, h4, h5, h6, h7, h8⟩ := box_nums hx
  unfold wid
  refine ⟨Int.mul_nonneg (by omega) (by omega), ?_⟩
  have : (edg (x.2.1 + 1) x.1 - edg x.2.1 x.1) * (edg (x.2.2 + 1) x.1 - edg x.2.2 x.1) ≤ 10800000 * 10800001 := Int.mul_le_mul (by omega) (by omega) (by omega) (by omega)
  omega
end Go.Proofs.Ytlglalemhfjmhaa
