/- The walk of law38's awake; comparison of places. -/
import Derived.Test.YtlglalemhfjmhaaWo
namespace Go.Proofs.Ytlglalemhfjmhaa
open Go.RowKit
def peq (a b c d a' b' c' d' : Int) : Bool := decide (a = a' ∧ b = b' ∧ c = c' ∧ d = d')
theorem equalInPlace (a b c d a' b' c' d' : Int) (w : World) : (Op.equalIn 10000 39 (.agg #[.int .i64 a, .int .i64 b, .int .i64 c, .int .i64 d]) (.agg #[.int .i64 a', .int .i64 b', .int .i64 c', .int .i64 d'])).run Try.prog w = .ok (peq a b c d a' b' c' d') w := by
  have u3 := Try.underlying3
  have a3 := Try.isAgg3
  have z3 := Try.sizeOf3
  have hS : Try.prog.underlying 39 = some (.struct (Try.prog.fieldsOf 39)) := by kernel_rfl
  have hp : Try.prog.stoodInHeld 39 = false := by kernel_rfl
  have hS2 : Try.prog.underlying 37 = some (.struct (Try.prog.fieldsOf 37)) := by kernel_rfl
  have hp2 : Try.prog.stoodInHeld 37 = false := by kernel_rfl
  have hA : ∀ (x y x' y' : Int) (w : World), (Op.equalIn 9999 37 (.agg #[.int .i64 x, .int .i64 y]) (.agg #[.int .i64 x', .int .i64 y'])).run Try.prog w = .ok (decide (x = x' ∧ y = y')) w := by
    intro x y x' y' w
    rw [show (9999 : Nat) = 9998 + 1 from rfl, run_equalIn_agg w 9998 37 _ _ hS2 hp2]
    simp only [Program.fieldsOf, Try.underlying37]
    go_simp
    by_cases h1 : x = x' <;> by_cases h2 : y = y' <;> simp [h1, h2]
  rw [show (10000 : Nat) = 9999 + 1 from rfl, run_equalIn_agg w 9999 39 _ _ hS hp]
  simp only [Program.fieldsOf, Try.underlying39]
  go_simp
  by_cases h1 : a = a' <;> by_cases h2 : b = b' <;> by_cases h3 : c = c' <;> by_cases h4 : d = d' <;> simp [peq, h1, h2, h3, h4]
theorem eqlPlace (a b c d a' b' c' d' : Int) (w : World) : (binOp .eql 39 (.agg #[.int .i64 a, .int .i64 b, .int .i64 c, .int .i64 d]) (.agg #[.int .i64 a', .int .i64 b', .int .i64 c', .int .i64 d'])).run Try.prog w = .ok (.bool (peq a b c d a' b' c' d')) w := by
  rw [run_eql_struct, equalInPlace]; rfl
theorem neqPlace (a b c d a' b' c' d' : Int) (w : World) : (binOp .neq 39 (.agg #[.int .i64 a, .int .i64 b, .int .i64 c, .int .i64 d]) (.agg #[.int .i64 a', .int .i64 b', .int .i64 c', .int .i64 d'])).run Try.prog w = .ok (.bool (!(peq a b c d a' b' c' d'))) w := by
  rw [run_neq_struct, equalInPlace]; rfl
/-- a sorted list with the same members is the sorted one -/
theorem sortS_eq (D S : List Sp) (hp : S.Perm D) (hs : S.Pairwise fun x y => (!(ltOf cmpS) y x) = true) : sortS D = S := by
  refine List.Perm.eq_of_pairwise (le := fun x y => (!(ltOf cmpS) y x) = true) ?_ ?_ hs ((List.mergeSort_perm _ _).trans hp.symm)
  · intro a b _ _ h1 h2
    simp only [Bool.not_eq_true', ltOf_cmpS, decide_eq_false_iff_not] at h1 h2
    exact Prod.ext (by omega) (by omega)
  · refine List.pairwise_mergeSort ?_ ?_ _
    · intro a b c h1 h2
      simp only [Bool.not_eq_true', ltOf_cmpS, decide_eq_false_iff_not] at h1 h2 ⊢
      omega
    · intro a b
      simp only [Bool.or_eq_true, Bool.not_eq_true', ltOf_cmpS, decide_eq_false_iff_not]
      omega
def exL : List Cl := [(1, 1, 0), (1, 0, 0), (1, 0, 1), (1, 1, 1)]
theorem exL_sort : sortS (exL.map spI) = [(0, 1073741824), (1073741824, 2147483648), (2147483648, 3221225472), (3221225472, 4294967296)] := by
  refine sortS_eq _ _ ?_ (by decide +kernel)
  decide +kernel
theorem exL_cover : coverL exL = [(0, 4294967296)] := by
  unfold coverL
  rw [exL_sort]
  decide +kernel
theorem exL_tidy : tidyL (coverL exL) = [(0, 0, 0)] := by
  rw [exL_cover]
  decide +kernel
theorem tidyEx : tidyR exL = [(0, 0, 0)] := by
  have h1 : badL exL = false := by decide +kernel
  have h2 : exL.length = 4 := rfl
  simp [tidyR, h1, h2, exL_tidy]
theorem tidyExE : tidyE exL = 0 := by
  have h1 : badL exL = false := by decide +kernel
  have h2 : exL.length = 4 := rfl
  simp [tidyE, h1, h2, exL_tidy]
theorem box112 : boxV 1 1 2 = .agg #[.int .i64 0, .int .i64 5400000, .int .i64 0, .int .i64 5400000] := by
  have e1 : edg 1 1 - 5400000 = 0 := by decide +kernel
  have e2 : edg (1 + 1) 1 - 5400000 = 5400000 := by decide +kernel
  have e3 : edg 2 1 - 10800000 = 0 := by decide +kernel
  have e4 : edg (2 + 1) 1 - 10800000 = 5400000 := by decide +kernel
  unfold boxV
  rw [e1, e2, e3, e4]
theorem idxa : idx (0 + 5400000) 1 (pw 1 - 1) = 1 := by decide +kernel
theorem idxb : idx (0 + 10800000) 1 (2 * pw 1 - 1) = 2 := by decide +kernel
theorem Box112 (w : World) : Calls Try.prog 20 #[.agg #[.int .i64 1, .int .i64 1, .int .i64 2]] w fun e w' => e = .returned (.tuple #[.agg #[.int .i64 0, .int .i64 5400000, .int .i64 0, .int .i64 5400000], .int .i64 0]) ∧ Below w.heap.size w w' := by
  rw [← box112]
  exact Box_yes 1 1 2 w (by decide +kernel)
theorem Of001 (w : World) : Calls Try.prog 23 #[.agg #[.int .i64 0, .int .i64 0], .int .i64 1] w fun e w' => e = .returned (.tuple #[.agg #[.int .i64 1, .int .i64 1, .int .i64 2], .int .i64 0]) ∧ Below w.heap.size w w' := by
  have h := Of_yes 0 0 1 w (by decide +kernel) (by omega) (by omega)
  rw [idxa, idxb] at h
  exact h
theorem reads_new12 (w : World) (t : TypeId) : Reads (w.alloc (.cells (cvs exL).toArray t)) (w.heap.size + 1) 3 (some ⟨w.heap.size, 0, none⟩) 4 (cvs exL) := by
  refine ⟨rfl, fun _ => ⟨_, rfl, by simp, fun j u hu => ?_⟩⟩
  rw [Go.WideShapes.add_plain]
  simp [hu]
theorem TidyEx (w : World) (g : Nat) (hg : g = w.heap.size) : Calls Try.prog 15 #[.slice (some ⟨g, 0, none⟩) 4 4] (w.alloc (.cells #[.int .i64 1, .int .i64 1, .int .i64 0, .int .i64 1, .int .i64 0, .int .i64 0, .int .i64 1, .int .i64 0, .int .i64 1, .int .i64 1, .int .i64 1, .int .i64 1] 32)) (RetCells (w.alloc (.cells #[.int .i64 1, .int .i64 1, .int .i64 0, .int .i64 1, .int .i64 0, .int .i64 0, .int .i64 1, .int .i64 0, .int .i64 1, .int .i64 1, .int .i64 1, .int .i64 1] 32)) [(0, 0, 0)] 0) := by
  subst hg
  have h := Tidy_any (some ⟨w.heap.size, 0, none⟩) 4 4 exL (w.alloc (.cells (cvs exL).toArray 32)) ((reads_new12 w _).more (by simp)) (by simp [maxLen])
  rw [tidyEx, tidyExE] at h
  exact h
theorem reads_new3 (w : World) (a b c : Int) (t : TypeId) (B : Nat) (hB : w.heap.size < B) : Reads (w.alloc (.cells #[.int .i64 a, .int .i64 b, .int .i64 c] t)) B 3 (some ⟨w.heap.size, 0, none⟩) 1 (cvs [(a, b, c)]) := (reads_new w a b c t).more hB

set_option maxHeartbeats 1000000 in
set_option maxRecDepth 100000 in
theorem awake38 (w : World) : Calls Try.prog 11 #[] w fun e w' => e = .returned (.bool true) ∧ Below w.heap.size w w' := by
  have hq := eqlPlace
  have hq2 := eqlCell
  have k1 : peq 0 5400000 0 5400000 0 5400000 0 5400000 = true := by decide
  have k2 : ceq (1, 1, 2) (1, 1, 2) = true := by decide
  go_enter Try.func11, Try.ntmps11
  go_wp2_with fail
  (with_reducible refine (Box112 _).mono ?_)
  rintro e w1 ⟨rfl, hb1⟩
  go_wp2_with fail
  (with_reducible refine (Of001 _).mono ?_)
  rintro e w2 ⟨rfl, hb2⟩
  have z1 := one_lt hb2
  have B1 := (Blk.new w1 39 #[.int .i64 0, .int .i64 5400000, .int .i64 0, .int .i64 5400000]).below hb2 (by simp)
  have hb12 := hb1.trans ((one_bl hb2).mono hb1.size)
  clear hb2
  go_wp2_with fail
  (with_reducible refine (TidyEx _ _ (by simp)).mono ?_)
  rintro e w3 ⟨v, rfl, hown, hb3⟩
  obtain ⟨z2, z3⟩ := two_lt hb3
  have B1' := ((B1.alloc (.cells #[.int .i64 1, .int .i64 1, .int .i64 2] 32)).alloc (.cells #[.int .i64 1, .int .i64 1, .int .i64 0, .int .i64 1, .int .i64 0, .int .i64 0, .int .i64 1, .int .i64 0, .int .i64 1, .int .i64 1, .int .i64 1, .int .i64 1] 32)).below hb3 (by simp; omega)
  have B2' := ((Blk.new w2 32 #[.int .i64 1, .int .i64 1, .int .i64 2]).alloc (.cells #[.int .i64 1, .int .i64 1, .int .i64 0, .int .i64 1, .int .i64 0, .int .i64 0, .int .i64 1, .int .i64 0, .int .i64 1, .int .i64 1, .int .i64 1, .int .i64 1] 32)).below hb3 (by simp; omega)
  have hb123 := hb12.trans ((two_bl hb3).mono hb12.size)
  have b0 : w3.cell? ⟨w1.heap.size, 0, none⟩ = some (.int .i64 0) := B1'.cell 0
  have b1 : w3.cell? ⟨w1.heap.size, 1, none⟩ = some (.int .i64 5400000) := B1'.cell 1
  have b2 : w3.cell? ⟨w1.heap.size, 2, none⟩ = some (.int .i64 0) := B1'.cell 2
  have b3 : w3.cell? ⟨w1.heap.size, 3, none⟩ = some (.int .i64 5400000) := B1'.cell 3
  have c0 : w3.cell? ⟨w2.heap.size, 0, none⟩ = some (.int .i64 1) := B2'.cell 0
  have c1 : w3.cell? ⟨w2.heap.size, 1, none⟩ = some (.int .i64 1) := B2'.cell 1
  have c2 : w3.cell? ⟨w2.heap.size, 2, none⟩ = some (.int .i64 2) := B2'.cell 2
  obtain ⟨A3, c3, hv3, hr3, hc3, hc3'⟩ := own_form hown
  subst hv3
  clear B1 B1' B2' hb3 hb12 hown z2 z3 z1
  have HR := Lib.hid hr3
  go_wp2_with fail
  (with_reducible refine (Same_any A3 (some ⟨w3.heap.size, 0, none⟩) 1 1 c3 1 [(0, 0, 0)] [(0, 0, 0)] _ w3.heap.size (w3.heap.size + 1) (HR.out.alloc (Nat.le_refl _) _) (reads_new3 w3 0 0 0 _ _ (by omega)) (by simp [maxLen]) (by simp [maxLen])).mono ?_)
  rintro e w4 ⟨rfl, q, rfl⟩
  go_wp2
  go_ret
  refine ⟨ret_bool (by simp), ?_⟩
  have hz := hb123.size
  repeat (first | exact Below.refl _ _ | assumption | refine bl_drew ?_ | refine bl_drewN ?_ _ | refine Below.setCell ?_ (by first | assumption | omega | (simp; done) | (simp; omega)) _ | refine Below.alloc ?_ (by first | assumption | omega | (simp; done) | (simp; omega)) _)
end Go.Proofs.Ytlglalemhfjmhaa
