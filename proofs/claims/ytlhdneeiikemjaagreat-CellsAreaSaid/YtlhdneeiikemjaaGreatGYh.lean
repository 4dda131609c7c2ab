/- The walk of the law CellsPoints. -/
import Derived.Test.YtlhdneeiikemjaaGreatGYc
import Derived.Test.YtlhdneeiikemjaaGreatGSg
import Derived.Test.YtlhdneeiikemjaaGreatGOpen
set_option linter.unusedVariables false
set_option linter.unusedSimpArgs false
/- What the law CellsArea says of the areas of regions: numbers alone. No walk. -/
namespace Go.Proofs.YtlhdneeiikemjaaGreat
open Go.RowKit
/-- what is known of the area of a region of n cells -/
structure ArN (a b : Int) (n : Nat) : Prop where
  le : a ≤ b
  few : b - a ≤ 2 * (n : Int)
  pos : 0 ≤ b
  top : a ≤ 1073741824
  lo : -100000 ≤ a
  hi : b ≤ 2000000000
theorem arN_reg {L : List Cl} (h : vrB L = true) : ArN (arL L) (arH L) L.length := by
  obtain ⟨h1, h2, -⟩ := (vrB_iff L).1 h
  have hm := reg_mu h
  obtain ⟨a, b, c, d, e⟩ := ar_facts L h2
  constructor <;> omega
theorem ar_cross (s t : Nat → Bool) : arL (regB s) + arL (regB t) ≤ arH (regB fun q => opB 1 (s q) (t q)) + arH (regB fun q => opB 2 (s q) (t q)) ∧
    arL (regB fun q => opB 1 (s q) (t q)) + arL (regB fun q => opB 2 (s q) (t q)) ≤ arH (regB s) + arH (regB t) ∧
    arL (regB fun q => opB 2 (s q) (t q)) ≤ arH (regB s) ∧ arL (regB s) ≤ arH (regB fun q => opB 1 (s q) (t q)) := by
  have e1 : (fun q => opB 1 (s q) (t q)) = fun q => s q || t q := funext fun q => opB_one _ _
  have e2 : (fun q => opB 2 (s q) (t q)) = fun q => s q && t q := funext fun q => opB_two _ _
  rw [e1, e2]
  have hm := mu_two fA s t
  have m1 := mu_sub fA_up (s := fun q => s q && t q) (t := s) (fun q h => by simp at h; exact h.1)
  have m2 := mu_sub fA_up (s := s) (t := fun q => s q || t q) (fun q h => by simp [h])
  obtain ⟨a1, a2, -⟩ := ar_facts _ (reg_v s)
  obtain ⟨b1, b2, -⟩ := ar_facts _ (reg_v t)
  obtain ⟨u1, u2, -⟩ := ar_facts _ (reg_v fun q => s q || t q)
  obtain ⟨v1, v2, -⟩ := ar_facts _ (reg_v fun q => s q && t q)
  refine ⟨?_, ?_, ?_, ?_⟩ <;> omega
/-- the whole sphere -/
def allL : List Cl := [(0, 0, 0), (0, 0, 1)]
theorem all_vr : vrB allL = true := by
  show vrB [(0, 0, 0), (0, 0, 1)] = true
  rw [← reg_whole]
  exact reg_vr _ (by rw [reg_whole]; simp)
theorem all_ar : arL allL ≤ 1073741824 ∧ 1073741824 ≤ arH allL ∧ arH allL - arL allL ≤ 4 ∧ -100000 ≤ arL allL := by
  have h2 := (vr_parts all_vr).2.2
  obtain ⟨a, b, c, d, e⟩ := ar_facts allL h2
  have hm : muS fA allL = 1073741824 * 43200000 := (mu_whole fA).trans fA_all
  have hl : (allL.length : Int) = 2 := rfl
  rw [hm] at a b e
  rw [hl] at c e
  omega
end Go.Proofs.YtlhdneeiikemjaaGreat
namespace Go.Proofs.YtlhdneeiikemjaaGreat
open Go.RowKit
section
variable {A0 : List Canon.Blk2} (hA : A0.length ≤ 100)
include hA
theorem opr (op : Int) (u : FuncId) (hu : OpC op u) {W : World} {v1 v2 : Value} {s t : Nat → Bool} (h1 : RdL A0 W v1 s) (h2 : RdL A0 W v2 t) :
    Calls Tryz.prog u #[v1, v2] W fun e w' => ∃ v, e = .returned (.tuple #[v, .int .i64 0]) ∧ RdL A0 w' v (fun q => opB op (s q) (t q)) ∧ Below W.heap.size W w' := by
  obtain ⟨hs, A, n, ca, rfl, n1, c1, r1⟩ := h1
  obtain ⟨ht, B, m, cb, rfl, n2, c2, r2⟩ := h2
  have K := hu A B n m ca cb _ _ W r1 r2 (Nat.le_trans n1 c1) (Nat.le_trans n2 c2)
  obtain ⟨k1, k2⟩ := mk_reg op hs ht hA
  rw [k1, k2] at K
  refine K.mono ?_
  rintro e w' ⟨v, rfl, ho, hb⟩
  exact ⟨v, rfl, RdL.of_own (homog_op (opB op) hs ht) ho, hb⟩
theorem conr {W : World} {v : Value} {s : Nat → Bool} (h : RdL A0 W v s) {a b : Int} (hp : vptB a b = true) :
    Calls Tryz.prog 9 #[v, .agg #[.int .i64 a, .int .i64 b]] W fun e w' => e = .returned (.tuple #[.bool (conB (regB s) a b), .int .i64 0]) ∧ Below W.heap.size W w' := by
  obtain ⟨hs, A, n, ca, rfl, n1, c1, r1⟩ := h
  exact Contains_any A n ca _ a b W r1 (Nat.le_trans n1 c1) (reg_vr s (reg_few hs hA)) hp
end
theorem pcells {w w1 : World} {a b : Int} {t : TypeId} (hb : Below (w.alloc (.cells #[.int .i64 a, .int .i64 b] t)).heap.size (w.alloc (.cells #[.int .i64 a, .int .i64 b] t)) w1) :
    w1.cell? ⟨w.heap.size, 0, none⟩ = some (.int .i64 a) ∧ w1.cell? ⟨w.heap.size, 1, none⟩ = some (.int .i64 b) :=
  ⟨(hb.cell (p := ⟨w.heap.size, 0, none⟩) (by simp)).trans (by simp), (hb.cell (p := ⟨w.heap.size, 1, none⟩) (by simp)).trans (by simp)⟩
end Go.Proofs.YtlhdneeiikemjaaGreat
