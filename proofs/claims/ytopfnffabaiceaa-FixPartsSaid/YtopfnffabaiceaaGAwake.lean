/- Walks of place: all, Valid, Contains; angle.Wrap. -/
import Derived.Test.YtopfnffabaiceaaGWo
import Derived.Test.YtopfnffabaiceaaGJg
set_option linter.unusedVariables false
set_option linter.unusedSimpArgs false
/- The walk of law38's awake; comparison of places. -/
namespace Go.Proofs.Ytopfnffabaiceaa
open Go.RowKit
def peq (a b c d a' b' c' d' : Int) : Bool := decide (a = a' ∧ b = b' ∧ c = c' ∧ d = d')
theorem equalInPlace (a b c d a' b' c' d' : Int) (w : World) : (Op.equalIn 10000 52 (.agg #[.int .i64 a, .int .i64 b, .int .i64 c, .int .i64 d]) (.agg #[.int .i64 a', .int .i64 b', .int .i64 c', .int .i64 d'])).run Try.prog w = .ok (peq a b c d a' b' c' d') w := by
  have u3 := Try.underlying3
  have a3 := Try.isAgg3
  have z3 := Try.sizeOf3
  have hS : Try.prog.underlying 52 = some (.struct (Try.prog.fieldsOf 52)) := by kernel_rfl
  have hp : Try.prog.stoodInHeld 52 = false := by kernel_rfl
  have hS2 : Try.prog.underlying 42 = some (.struct (Try.prog.fieldsOf 42)) := by kernel_rfl
  have hp2 : Try.prog.stoodInHeld 42 = false := by kernel_rfl
  have hA : ∀ (x y x' y' : Int) (w : World), (Op.equalIn 9999 42 (.agg #[.int .i64 x, .int .i64 y]) (.agg #[.int .i64 x', .int .i64 y'])).run Try.prog w = .ok (decide (x = x' ∧ y = y')) w := by
    intro x y x' y' w
    rw [show (9999 : Nat) = 9998 + 1 from rfl, run_equalIn_agg w 9998 42 _ _ hS2 hp2]
    simp only [Program.fieldsOf, Try.underlying42]
    go_simp
    by_cases h1 : x = x' <;> by_cases h2 : y = y' <;> simp [h1, h2]
  rw [show (10000 : Nat) = 9999 + 1 from rfl, run_equalIn_agg w 9999 52 _ _ hS hp]
  simp only [Program.fieldsOf, Try.underlying52]
  go_simp
  by_cases h1 : a = a' <;> by_cases h2 : b = b' <;> by_cases h3 : c = c' <;> by_cases h4 : d = d' <;> simp [peq, h1, h2, h3, h4]
theorem eqlPlace (a b c d a' b' c' d' : Int) (w : World) : (binOp .eql 52 (.agg #[.int .i64 a, .int .i64 b, .int .i64 c, .int .i64 d]) (.agg #[.int .i64 a', .int .i64 b', .int .i64 c', .int .i64 d'])).run Try.prog w = .ok (.bool (peq a b c d a' b' c' d')) w := by
  rw [run_eql_struct, equalInPlace]; rfl
theorem neqPlace (a b c d a' b' c' d' : Int) (w : World) : (binOp .neq 52 (.agg #[.int .i64 a, .int .i64 b, .int .i64 c, .int .i64 d]) (.agg #[.int .i64 a', .int .i64 b', .int .i64 c', .int .i64 d'])).run Try.prog w = .ok (.bool (!(peq a b c d a' b' c' d'))) w := by
  rw [run_neq_struct, equalInPlace]; rfl
/-- a sorted list with the same members is the sorted one -/
theorem sortS_eq (D S : List Sp) (hp : S.Perm D) (hs : S.Pairwise fun x y => (!(ltOf cmpS) y x) = true) : sortS D = S := by
  refine List.Perm.eq_of_pairwise (le := fun x y => (!(ltOf cmpS) y x) = true) ?_ ?_ hs ((List.mergeSort_perm _ _).trans hp.symm)
  · intro a b _ _ h1 h2
    simp only [Bool.not_eq_true', ltOf_cmpS, decide_eq_false_iff_not] at h1 h2
    exact Prod.ext (by omega) (by omega)
  · refine List.pairwise_mergeSort ?_ ?_ _
    · intro a b c h1 h2
      simp only [Bool.not_eq_true', ltOf_cmpS, decide_eq_false_iff_not] at h1 h2 ⊢
      omega
    · intro a b
      simp only [Bool.or_eq_true, Bool.not_eq_true', ltOf_cmpS, decide_eq_false_iff_not]
      omega
def exL : List Cl := [(1, 1, 0), (1, 0, 0), (1, 0, 1), (1, 1, 1)]
theorem exL_sort : sortS (exL.map spI) = [(0, 1073741824), (1073741824, 2147483648), (2147483648, 3221225472), (3221225472, 4294967296)] := by
  refine sortS_eq _ _ ?_ (by decide +kernel)
  decide +kernel
theorem exL_cover : coverL exL = [(0, 4294967296)] := by
  unfold coverL
  rw [exL_sort]
  decide +kernel
theorem exL_tidy : tidyL (coverL exL) = [(0, 0, 0)] := by
  rw [exL_cover]
  decide +kernel
theorem tidyEx : tidyR exL = [(0, 0, 0)] := by
  have h1 : badL exL = false := by decide +kernel
  have h2 : exL.length = 4 := rfl
  simp [tidyR, h1, h2, exL_tidy]
theorem tidyExE : tidyE exL = 0 := by
  have h1 : badL exL = false := by decide +kernel
  have h2 : exL.length = 4 := rfl
  simp [tidyE, h1, h2, exL_tidy]
theorem box112 : boxV 1 1 2 = .agg #[.int .i64 0, .int .i64 5400000, .int .i64 0, .int .i64 5400000] := by
  have e1 : edg 1 1 - 5400000 = 0 := by decide +kernel
  have e2 : edg (1 + 1) 1 - 5400000 = 5400000 := by decide +kernel
  have e3 : edg 2 1 - 10800000 = 0 := by decide +kernel
  have e4 : edg (2 + 1) 1 - 10800000 = 5400000 := by decide +kernel
  unfold boxV
  rw [e1, e2, e3, e4]
theorem idxa : idx (0 + 5400000) 1 (pw 1 - 1) = 1 := by decide +kernel
theorem idxb : idx (0 + 10800000) 1 (2 * pw 1 - 1) = 2 := by decide +kernel
theorem Box112 (w : World) : Calls Try.prog 47 #[.agg #[.int .i64 1, .int .i64 1, .int .i64 2]] w fun e w' => e = .returned (.tuple #[.agg #[.int .i64 0, .int .i64 5400000, .int .i64 0, .int .i64 5400000], .int .i64 0]) ∧ Below w.heap.size w w' := by
  rw [← box112]
  exact Box_yes 1 1 2 w (by decide +kernel)
theorem reads_new12 (w : World) (t : TypeId) : Reads (w.alloc (.cells (cvs exL).toArray t)) (w.heap.size + 1) 3 (some ⟨w.heap.size, 0, none⟩) 4 (cvs exL) := by
  refine ⟨rfl, fun _ => ⟨_, rfl, by simp, fun j u hu => ?_⟩⟩
  rw [Go.WideShapes.add_plain]
  simp [hu]
theorem TidyEx (w : World) (g : Nat) (hg : g = w.heap.size) : Calls Try.prog 14 #[.slice (some ⟨g, 0, none⟩) 4 4] (w.alloc (.cells #[.int .i64 1, .int .i64 1, .int .i64 0, .int .i64 1, .int .i64 0, .int .i64 0, .int .i64 1, .int .i64 0, .int .i64 1, .int .i64 1, .int .i64 1, .int .i64 1] 33)) (RetCells (w.alloc (.cells #[.int .i64 1, .int .i64 1, .int .i64 0, .int .i64 1, .int .i64 0, .int .i64 0, .int .i64 1, .int .i64 0, .int .i64 1, .int .i64 1, .int .i64 1, .int .i64 1] 33)) [(0, 0, 0)] 0) := by
  subst hg
  have h := Tidy_any (some ⟨w.heap.size, 0, none⟩) 4 4 exL (w.alloc (.cells (cvs exL).toArray 33)) ((reads_new12 w _).more (by simp)) (by simp [maxLen])
  rw [tidyEx, tidyExE] at h
  exact h
theorem reads_new3 (w : World) (a b c : Int) (t : TypeId) (B : Nat) (hB : w.heap.size < B) : Reads (w.alloc (.cells #[.int .i64 a, .int .i64 b, .int .i64 c] t)) B 3 (some ⟨w.heap.size, 0, none⟩) 1 (cvs [(a, b, c)]) := (reads_new w a b c t).more hB

end Go.Proofs.Ytopfnffabaiceaa
namespace Go.Proofs.Ytopfnffabaiceaa
open Go.RowKit
def aeq (a b a' b' : Int) : Bool := decide (a = a' ∧ b = b')
theorem equalInArc (a b a' b' : Int) (w : World) : (Op.equalIn 10000 42 (.agg #[.int .i64 a, .int .i64 b]) (.agg #[.int .i64 a', .int .i64 b'])).run Try.prog w = .ok (aeq a b a' b') w := by
  have u3 := Try.underlying3
  have a3 := Try.isAgg3
  have z3 := Try.sizeOf3
  have hS : Try.prog.underlying 42 = some (.struct (Try.prog.fieldsOf 42)) := by kernel_rfl
  have hp : Try.prog.stoodInHeld 42 = false := by kernel_rfl
  rw [show (10000 : Nat) = 9999 + 1 from rfl, run_equalIn_agg w 9999 42 _ _ hS hp]
  simp only [Program.fieldsOf, Try.underlying42]
  go_simp
  by_cases h1 : a = a' <;> by_cases h2 : b = b' <;> simp [aeq, h1, h2]
theorem eqlArc (a b a' b' : Int) (w : World) : (binOp .eql 42 (.agg #[.int .i64 a, .int .i64 b]) (.agg #[.int .i64 a', .int .i64 b'])).run Try.prog w = .ok (.bool (aeq a b a' b')) w := by
  rw [run_eql_struct, equalInArc]; rfl
theorem tmod_cases (n : Int) : (0 ≤ n ∧ n.tmod 21600000 = n % 21600000) ∨ (n < 0 ∧ n.tmod 21600000 = -((-n) % 21600000)) := by
  by_cases h : 0 ≤ n
  · exact .inl ⟨h, Int.tmod_eq_emod_of_nonneg h⟩
  · refine .inr ⟨by omega, ?_⟩
    have h1 : (-n).tmod 21600000 = (-n) % 21600000 := Int.tmod_eq_emod_of_nonneg (by omega)
    rw [Int.neg_tmod] at h1
    omega
theorem tmod_pos {n : Int} (h : 0 ≤ n.tmod 21600000) : n.tmod 21600000 = n % 21600000 := by
  rcases tmod_cases n with ⟨h1, h2⟩ | ⟨h1, h2⟩ <;> omega
theorem tmod_neg {n : Int} (h : n.tmod 21600000 < 0) : n.tmod 21600000 + 21600000 = n % 21600000 := by
  rcases tmod_cases n with ⟨h1, h2⟩ | ⟨h1, h2⟩ <;> omega
theorem everywhere_any (w : World) : Calls Try.prog 101 #[] w fun e w' => e = .returned (.agg #[.int .i64 (-10800000), .int .i64 10800000]) ∧ Below w.heap.size w w' := by
  go_enter Try.func101, Try.ntmps101
  go_wp2
  refine bodyPost_ret (v := .agg #[.int .i64 (-10800000), .int .i64 10800000]) (by simp [results, Try.results101, go_sem]) rfl ⟨rfl, ?_⟩
  repeat (first | exact Below.refl _ _ | assumption | refine bl_drew ?_ | refine bl_drewN ?_ _ | refine Below.setCell ?_ (by first | assumption | omega | (simp; done) | (simp; omega)) _ | refine Below.alloc ?_ (by first | assumption | omega | (simp; done) | (simp; omega)) _)
/-- a world that left what was there alone -/
structure BV (w0 : World) where
  w : World
  hb : Below w0.heap.size w0 w
instance bvSome (w0 : World) : Nonempty (BV w0) := ⟨⟨w0, Below.refl _ _⟩⟩
theorem wp_region_bv {P : Program} {id : Nat} {Q : Exit → Act → World → Prop} {a : Act} {w : World} {l : List Oper} (w0 : World) (hm : P.follows .mixedOrders = true) (hB : Region.lexB .any l.toArray = true) (h0 : Below w0.heap.size w0 w)
    (h : wpQuiet P l.toArray (fun w' => ∃ s : BV w0, w' = s.w) (fun a' => ∀ w9, Below w0.heap.size w0 w9 → Q .normal a' w9) l a) : (Code.region id l.toArray true).wp P Q a w := by
  have e : (fun a' => ∀ w9, Below w0.heap.size w0 w9 → Q .normal a' w9) = (fun a' : Act => ∀ w', (∃ s : BV w0, w' = s.w) → Q .normal a' w') :=
    funext fun a' => propext ⟨fun h w' ⟨s, hs⟩ => hs ▸ h s.w s.hb, fun h w9 hb => h w9 ⟨⟨w9, hb⟩, rfl⟩⟩
  rw [e] at h
  exact wp_region_quiet (C := fun w' => ∃ s : BV w0, w' = s.w) hm hB ⟨⟨_, bl_drew h0⟩, rfl⟩ (by simpa using h)
theorem quiet_bv {P : Program} {f : FuncId} {args : Array Value} {w0 : World} {s : BV w0} {v : Value} (h : Calls P f args s.w fun e w' => e = .returned v ∧ Below s.w.heap.size s.w w') :
    Calls P f args s.w fun e w'' => e = .returned v ∧ ∃ s' : BV w0, w'' = s'.w :=
  h.mono fun _ w' ⟨he, hb⟩ => ⟨he, ⟨w', s.hb.trans (hb.mono s.hb.size)⟩, rfl⟩
set_option maxHeartbeats 400000 in
theorem all_any (x y : Int) (w : World) : Calls Try.prog 99 #[.agg #[.int .i64 x, .int .i64 y]] w fun e w' => e = .returned (.bool (aeq x y (-10800000) 10800000)) ∧ Below w.heap.size w w' := by
  have K := Lib.hid everywhere_any
  have hq := eqlArc
  go_enter Try.func99, Try.ntmps99
  go_upto_region 1 with fail
  have b0 := bl_alloc w (.cells #[.int .i64 x, .int .i64 y] 42)
  have x1 : ∀ s : BV (w.alloc (.cells #[.int .i64 x, .int .i64 y] 42)), s.w.cell? ⟨w.heap.size, 0, none⟩ = some (.int .i64 x) := fun s => (s.hb.cell (p := ⟨w.heap.size, 0, none⟩) (by simp)).trans (by simp)
  have x2 : ∀ s : BV (w.alloc (.cells #[.int .i64 x, .int .i64 y] 42)), s.w.cell? ⟨w.heap.size, 1, none⟩ = some (.int .i64 y) := fun s => (s.hb.cell (p := ⟨w.heap.size, 1, none⟩) (by simp)).trans (by simp)
  refine wp_region_bv (w.alloc (.cells #[.int .i64 x, .int .i64 y] 42)) (by kernel_rfl) (by kernel_rfl) (Below.refl _ _) ?_
  (repeat (go_big_quiet_step (first | (go_at_call 101; with_reducible exact quiet_bv (K.out _)) | fail)))
  refine wpQuiet_nil ?_
  intro w9 hb9
  clear x1 x2
  go_wp2
  go_ret
  exact ⟨rfl, b0.trans (hb9.mono (by simp))⟩
set_option maxHeartbeats 400000 in
theorem Wrap_any (n : Int) (w : World) (h0 : -1000000000000 ≤ n) (h1 : n ≤ 1000000000000) : Calls Try.prog 41 #[.int .i64 n] w fun e w' => e = .returned (.int .i64 (n % 21600000)) ∧ Below w.heap.size w w' := by
  go_enter Try.func41, Try.ntmps41
  go_wp2
  all_goals
    go_ret
    refine ⟨ret_int ?_, ?_⟩
    · first | (exact tmod_pos (by assumption)) | (rw [IntWalk.wrap64_in _ (by have := tmod_neg (n := n) (by assumption); omega)]; exact tmod_neg (by assumption))
    · repeat (first | exact Below.refl _ _ | assumption | refine bl_drew ?_ | refine bl_drewN ?_ _ | refine Below.setCell ?_ (by first | assumption | omega | (simp; done) | (simp; omega)) _ | refine Below.alloc ?_ (by first | assumption | omega | (simp; done) | (simp; omega)) _)
set_option maxHeartbeats 400000 in
theorem beyond_any (x y n : Int) (w : World) (h0 : -100000000 ≤ n) (h1 : n ≤ 100000000) (h2 : -100000000 ≤ x) (h3 : x ≤ 100000000) : Calls Try.prog 100 #[.agg #[.int .i64 x, .int .i64 y], .int .i64 n] w fun e w' => e = .returned (.int .i64 ((n - x) % 21600000)) ∧ Below w.heap.size w w' := by
  have K := Lib.hid (fun W => Wrap_any (n - x) W (by omega) (by omega))
  go_enter Try.func100, Try.ntmps100
  go_wp2_with (go_at_call 41; (with_reducible refine (K.out _).mono ?_); rintro e w1 ⟨rfl, hb1⟩)
  go_ret
  exact ⟨rfl, one_bl hb1⟩
end Go.Proofs.Ytopfnffabaiceaa
