/- The walk of place.around. -/
import Derived.Test.YtienkfcliocjgaaGreatGJf
import Derived.Test.YtienkfcliocjgaaGreatGWn
import Derived.Test.YtienkfcliocjgaaGreatGHj
set_option linter.unusedVariables false
set_option linter.unusedSimpArgs false
/- Plain: parents and children of cells. No program in sight. -/
namespace Go.Proofs.YtienkfcliocjgaaGreat
open Canon
/-! ### parents and children -/
theorem idx_half {l : Nat} {N m : Int} (h1 : (l : Int) + 1 ≤ 16) (h2 : 0 ≤ N) (hm : 0 ≤ m) : idx N ((l + 1 : Nat) : Int) (2 * m + 1) / 2 = idx N (l : Int) m := by
  obtain ⟨g1, g2, g3, g4⟩ := idx_in (l := ((l + 1 : Nat) : Int)) (N := N) (m := 2 * m + 1) (by omega) h2 (by omega)
  generalize idx N ((l + 1 : Nat) : Int) (2 * m + 1) = k at *
  symm
  refine idx_char (by omega) (by omega) ?_ ?_
  · rw [← edg_even]
    exact Int.le_trans (edg_mono _ (by omega)) g3
  · rcases g4 with g4 | g4
    · left; omega
    · right
      rw [← edg_even]
      exact Int.lt_of_lt_of_le g4 (edg_mono _ (by omega))
theorem of_half {a b : Int} {l : Nat} (hv : vptB a b = true) (h1 : (l : Int) + 1 ≤ 16) : (ofC a b ((l + 1 : Nat) : Int)).2.1 / 2 = (ofC a b (l : Int)).2.1 ∧ (ofC a b ((l + 1 : Nat) : Int)).2.2 / 2 = (ofC a b (l : Int)).2.2 := by
  obtain ⟨a1, a2, b1, b2⟩ := vptB_true.1 hv
  have hp := pw_pos (l : Int)
  unfold ofC
  simp only []
  rw [pw_succ]
  have e1 : 2 * pw (l : Int) - 1 = 2 * (pw (l : Int) - 1) + 1 := by omega
  have e2 : 2 * (2 * pw (l : Int)) - 1 = 2 * (2 * pw (l : Int) - 1) + 1 := by omega
  refine ⟨?_, ?_⟩
  · rw [e1]
    exact idx_half h1 (by omega) (by omega)
  · rw [e2]
    exact idx_half h1 (by omega) (by omega)
theorem blk_par {x y : Cl} (hx : Vl x) (hy : Vl y) (hl : x.1 = y.1 + 1) (hr : x.2.1 / 2 = y.2.1) (hc : x.2.2 / 2 = y.2.2) {q : Nat} (h : covB [blkOf x] q = true) : covB [blkOf y] q = true := by
  obtain ⟨b, hb, h1, h2⟩ := covS.1 h
  rw [List.mem_singleton] at hb
  subst hb
  refine covS.2 ⟨blkOf y, by simp, ?_⟩
  have hx0 := hx.l0
  have hx1 := hx.l1
  have hy0 := hy.l0
  have e1 : (blkOf y).1 = (blkOf x).1 + 1 := by simp only [blkOf]; omega
  have e2 : (blkOf y).2 = (blkOf x).2 / 4 := by
    simp only [blkOf, mortI]
    have el : x.1.toNat = y.1.toNat + 1 := by omega
    have er : y.2.1.toNat = x.2.1.toNat / 2 := by omega
    have ec : y.2.2.toNat = x.2.2.toNat / 2 := by omega
    have := mort_step y.1.toNat x.2.1.toNat x.2.2.toNat 0
    simp only [Nat.pow_zero, Nat.div_one, Nat.zero_add, Nat.pow_one] at this
    rw [el, er, ec, this]
    omega
  have hp := par_bounds (blkOf x).1 (blkOf x).2
  rw [e1, e2]
  omega
theorem of_sub {a b : Int} (hv : vptB a b = true) (l : Nat) : ∀ (d : Nat), l + d ≤ 16 → ∀ q, covB [blkOf (ofC a b ((l + d : Nat) : Int))] q = true → covB [blkOf (ofC a b (l : Int))] q = true
  | 0, _, q, h => h
  | d + 1, hd, q, h => by
    have h1 := (of_in hv (l := ((l + d + 1 : Nat) : Int)) (by omega) (by omega)).1
    have h2 := (of_in hv (l := ((l + d : Nat) : Int)) (by omega) (by omega)).1
    obtain ⟨e1, e2⟩ := of_half (l := l + d) hv (by omega)
    exact of_sub hv l d (by omega) q (blk_par h1 h2 (by unfold ofC; simp only []; omega) e1 e2 h)
theorem of_ins {a b : Int} (hv : vptB a b = true) {l k : Nat} (hl : l ≤ k) (hk : k ≤ 16) : insL [ofC a b (k : Int)] [ofC a b (l : Int)] = true := by
  have h1 := (of_in hv (l := (k : Int)) (by omega) (by omega)).1
  have h2 := (of_in hv (l := (l : Int)) (by omega) (by omega)).1
  rw [← one_reg h1, ← one_reg h2, ins_reg]
  intro q _ h
  rw [show k = l + (k - l) by omega] at h
  exact of_sub hv l (k - l) (by omega) q h
/-- the children of a cell, last one first, are tidied to it -/
theorem kids_tidy {x : Cl} (hx : Vl x) (h : x.1 < 16) (L : List Cl) (hL : ∀ y, y ∈ L ↔ y ∈ kidsC x) (hn : L.length ≤ 4000) : tidyR L = [x] ∧ tidyE L = 0 := by
  have kv := kids_vl hx h
  have hv : AllV L := fun y hy => kv y ((hL y).1 hy)
  obtain ⟨h1, h2⟩ := tidyR_made (badL_of hv) hn
  refine ⟨?_, h2⟩
  rw [h1, made_or L hv]
  refine Eq.trans ?_ ((vrB_iff _).1 (one_vr hx)).2.2
  refine canonC_congr fun q => ?_
  have k1 := covB_map (kidsC x) q
  have hh : (blkOf x).1 = ((blkOf x).1 - 1) + 1 := by
    have := hx.l0
    simp only [blkOf]
    omega
  have e : covL L q ↔ covL (kidsC x) q := by
    unfold covL
    constructor
    · rintro ⟨y, hy, g⟩; exact ⟨y, (hL y).1 hy, g⟩
    · rintro ⟨y, hy, g⟩; exact ⟨y, (hL y).2 hy, g⟩
  rw [e]
  have e2 : covL (kidsC x) q ↔ covB ((kidsC x).map blkOf) q = true := k1.symm
  have e3 : covL [x] q ↔ covB ([x].map blkOf) q = true := (covB_map [x] q).symm
  rw [e2, e3, kids_blk hx h, covS, covS]
  generalize (blkOf x).1 - 1 = k at hh ⊢
  have ex : blkOf x = (k + 1, (blkOf x).2) := Prod.ext hh rfl
  rw [List.map_cons, List.map_nil, ex]
  generalize (blkOf x).2 = n
  have e : ∀ m : Nat, m * 4 ^ (k + 1) = 4 * m * 4 ^ k := fun m => by rw [Nat.pow_succ]; rw [Nat.mul_comm 4 m, Nat.mul_assoc, Nat.mul_comm 4]
  have e1 : (4 * n + 1) * 4 ^ k = 4 * n * 4 ^ k + 4 ^ k := by rw [Nat.add_mul]; omega
  have e2 : (4 * n + 2) * 4 ^ k = 4 * n * 4 ^ k + 2 * 4 ^ k := by rw [Nat.add_mul]
  have e3 : (4 * n + 3) * 4 ^ k = 4 * n * 4 ^ k + 3 * 4 ^ k := by rw [Nat.add_mul]
  have e4 : (4 * n + 1 + 1) * 4 ^ k = 4 * n * 4 ^ k + 2 * 4 ^ k := by rw [show 4 * n + 1 + 1 = 4 * n + 2 by omega, e2]
  have e5 : (4 * n + 2 + 1) * 4 ^ k = 4 * n * 4 ^ k + 3 * 4 ^ k := by rw [show 4 * n + 2 + 1 = 4 * n + 3 by omega, e3]
  have e6 : (4 * n + 3 + 1) * 4 ^ k = 4 * n * 4 ^ k + 4 * 4 ^ k := by rw [show 4 * n + 3 + 1 = 4 * n + 4 by omega, Nat.add_mul]
  have e7 : 4 * (n + 1) * 4 ^ k = 4 * n * 4 ^ k + 4 * 4 ^ k := by rw [show 4 * (n + 1) = 4 * n + 4 by omega, Nat.add_mul]
  simp only [kidsB, List.mem_cons, List.not_mem_nil, or_false, exists_eq_or_imp, exists_eq_left, e]
  omega
/-- the edges of the boxes of a cell and of its children -/
theorem box_nums {x : Cl} (hx : Vl x) : -5400000 ≤ edg x.2.1 x.1 - 5400000 ∧ edg x.2.1 x.1 ≤ edg (x.2.1 + 1) x.1 ∧ edg (x.2.1 + 1) x.1 - 5400000 ≤ 5400000 ∧ 0 ≤ edg x.2.2 x.1 ∧ edg x.2.2 x.1 < 21600000 ∧ edg x.2.2 x.1 ≤ edg (x.2.2 + 1) x.1 ∧ edg (x.2.2 + 1) x.1 ≤ 21600000 ∧ edg (x.2.2 + 1) x.1 - edg x.2.2 x.1 ≤ 10800001 := by
  obtain ⟨h0, h1, h2, h3, h4, h5⟩ := vldB_true.1 ((vl_iff x).2 hx)
  have hp := pw_pos x.1
  have hb := pw_bd h1
  have r0 := edg_bd (i := x.2.1) h1 h2 (by omega)
  have c0 := edg_bd (i := x.2.2) h1 h4 (by omega)
  have c1 := edg_bd (i := x.2.2 + 1) h1 (by omega) (by omega)
  have rm := edg_mono x.1 (show x.2.1 ≤ x.2.1 + 1 by omega)
  have cm := edg_mono x.1 (show x.2.2 ≤ x.2.2 + 1 by omega)
  have rt := edg_mono x.1 (show x.2.1 + 1 ≤ pw x.1 by omega)
  rw [edg_all] at rt
  have ct : edg x.2.2 x.1 < 21600000 := by
    unfold edg
    rw [Int.ediv_lt_iff_lt_mul hp]
    omega
  have cw : edg (x.2.2 + 1) x.1 - edg x.2.2 x.1 ≤ 10800001 := by
    unfold edg
    have : (x.2.2 + 1) * 10800000 / pw x.1 ≤ x.2.2 * 10800000 / pw x.1 + 10800001 := by
      rw [← Int.add_mul_ediv_right _ _ (show pw x.1 ≠ 0 by omega)]
      refine Int.ediv_le_ediv hp ?_
      omega
    omega
  omega
end Go.Proofs.YtienkfcliocjgaaGreat
/- The walk of law38's awake; comparison of places. -/
namespace Go.Proofs.YtienkfcliocjgaaGreat
open Go.RowKit
def peq (a b c d a' b' c' d' : Int) : Bool := decide (a = a' ∧ b = b' ∧ c = c' ∧ d = d')
theorem equalInPlace (a b c d a' b' c' d' : Int) (w : World) : (Op.equalIn 10000 29 (.agg #[.int .i64 a, .int .i64 b, .int .i64 c, .int .i64 d]) (.agg #[.int .i64 a', .int .i64 b', .int .i64 c', .int .i64 d'])).run Tryz.prog w = .ok (peq a b c d a' b' c' d') w := by
  have u3 := Tryz.underlying3
  have a3 := Tryz.isAgg3
  have z3 := Tryz.sizeOf3
  have hS : Tryz.prog.underlying 29 = some (.struct (Tryz.prog.fieldsOf 29)) := by kernel_rfl
  have hp : Tryz.prog.stoodInHeld 29 = false := by kernel_rfl
  have hS2 : Tryz.prog.underlying 27 = some (.struct (Tryz.prog.fieldsOf 27)) := by kernel_rfl
  have hp2 : Tryz.prog.stoodInHeld 27 = false := by kernel_rfl
  have hA : ∀ (x y x' y' : Int) (w : World), (Op.equalIn 9999 27 (.agg #[.int .i64 x, .int .i64 y]) (.agg #[.int .i64 x', .int .i64 y'])).run Tryz.prog w = .ok (decide (x = x' ∧ y = y')) w := by
    intro x y x' y' w
    rw [show (9999 : Nat) = 9998 + 1 from rfl, run_equalIn_agg w 9998 27 _ _ hS2 hp2]
    simp only [Program.fieldsOf, Tryz.underlying27]
    go_simp
    by_cases h1 : x = x' <;> by_cases h2 : y = y' <;> simp [h1, h2]
  rw [show (10000 : Nat) = 9999 + 1 from rfl, run_equalIn_agg w 9999 29 _ _ hS hp]
  simp only [Program.fieldsOf, Tryz.underlying29]
  go_simp
  by_cases h1 : a = a' <;> by_cases h2 : b = b' <;> by_cases h3 : c = c' <;> by_cases h4 : d = d' <;> simp [peq, h1, h2, h3, h4]
theorem eqlPlace (a b c d a' b' c' d' : Int) (w : World) : (binOp .eql 29 (.agg #[.int .i64 a, .int .i64 b, .int .i64 c, .int .i64 d]) (.agg #[.int .i64 a', .int .i64 b', .int .i64 c', .int .i64 d'])).run Tryz.prog w = .ok (.bool (peq a b c d a' b' c' d')) w := by
  rw [run_eql_struct, equalInPlace]; rfl
theorem neqPlace (a b c d a' b' c' d' : Int) (w : World) : (binOp .neq 29 (.agg #[.int .i64 a, .int .i64 b, .int .i64 c, .int .i64 d]) (.agg #[.int .i64 a', .int .i64 b', .int .i64 c', .int .i64 d'])).run Tryz.prog w = .ok (.bool (!(peq a b c d a' b' c' d'))) w := by
  rw [run_neq_struct, equalInPlace]; rfl
/-- a sorted list with the same members is the sorted one -/
theorem sortS_eq (D S : List Sp) (hp : S.Perm D) (hs : S.Pairwise fun x y => (!(ltOf cmpS) y x) = true) : sortS D = S := by
  refine List.Perm.eq_of_pairwise (le := fun x y => (!(ltOf cmpS) y x) = true) ?_ ?_ hs ((List.mergeSort_perm _ _).trans hp.symm)
  · intro a b _ _ h1 h2
    simp only [Bool.not_eq_true', ltOf_cmpS, decide_eq_false_iff_not] at h1 h2
    exact Prod.ext (by omega) (by omega)
  · refine List.pairwise_mergeSort ?_ ?_ _
    · intro a b c h1 h2
      simp only [Bool.not_eq_true', ltOf_cmpS, decide_eq_false_iff_not] at h1 h2 ⊢
      omega
    · intro a b
      simp only [Bool.or_eq_true, Bool.not_eq_true', ltOf_cmpS, decide_eq_false_iff_not]
      omega
def exL : List Cl := [(1, 1, 0), (1, 0, 0), (1, 0, 1), (1, 1, 1)]
theorem exL_sort : sortS (exL.map spI) = [(0, 1073741824), (1073741824, 2147483648), (2147483648, 3221225472), (3221225472, 4294967296)] := by
  refine sortS_eq _ _ ?_ (by decide +kernel)
  decide +kernel
theorem exL_cover : coverL exL = [(0, 4294967296)] := by
  unfold coverL
  rw [exL_sort]
  decide +kernel
theorem exL_tidy : tidyL (coverL exL) = [(0, 0, 0)] := by
  rw [exL_cover]
  decide +kernel
theorem tidyEx : tidyR exL = [(0, 0, 0)] := by
  have h1 : badL exL = false := by decide +kernel
  have h2 : exL.length = 4 := rfl
  simp [tidyR, h1, h2, exL_tidy]
theorem tidyExE : tidyE exL = 0 := by
  have h1 : badL exL = false := by decide +kernel
  have h2 : exL.length = 4 := rfl
  simp [tidyE, h1, h2, exL_tidy]
theorem box112 : boxV 1 1 2 = .agg #[.int .i64 0, .int .i64 5400000, .int .i64 0, .int .i64 5400000] := by
  have e1 : edg 1 1 - 5400000 = 0 := by decide +kernel
  have e2 : edg (1 + 1) 1 - 5400000 = 5400000 := by decide +kernel
  have e3 : edg 2 1 - 10800000 = 0 := by decide +kernel
  have e4 : edg (2 + 1) 1 - 10800000 = 5400000 := by decide +kernel
  unfold boxV
  rw [e1, e2, e3, e4]
theorem idxa : idx (0 + 5400000) 1 (pw 1 - 1) = 1 := by decide +kernel
theorem idxb : idx (0 + 10800000) 1 (2 * pw 1 - 1) = 2 := by decide +kernel
theorem Box112 (w : World) : Calls Tryz.prog 29 #[.agg #[.int .i64 1, .int .i64 1, .int .i64 2]] w fun e w' => e = .returned (.tuple #[.agg #[.int .i64 0, .int .i64 5400000, .int .i64 0, .int .i64 5400000], .int .i64 0]) ∧ Below w.heap.size w w' := by
  rw [← box112]
  exact Box_yes 1 1 2 w (by decide +kernel)
theorem reads_new12 (w : World) (t : TypeId) : Reads (w.alloc (.cells (cvs exL).toArray t)) (w.heap.size + 1) 3 (some ⟨w.heap.size, 0, none⟩) 4 (cvs exL) := by
  refine ⟨rfl, fun _ => ⟨_, rfl, by simp, fun j u hu => ?_⟩⟩
  rw [Go.WideShapes.add_plain]
  simp [hu]
theorem reads_new3 (w : World) (a b c : Int) (t : TypeId) (B : Nat) (hB : w.heap.size < B) : Reads (w.alloc (.cells #[.int .i64 a, .int .i64 b, .int .i64 c] t)) B 3 (some ⟨w.heap.size, 0, none⟩) 1 (cvs [(a, b, c)]) := (reads_new w a b c t).more hB

end Go.Proofs.YtienkfcliocjgaaGreat
/- Walks of place: all, Valid, Contains; angle.Wrap. -/
namespace Go.Proofs.YtienkfcliocjgaaGreat
open Go.RowKit
def aeq (a b a' b' : Int) : Bool := decide (a = a' ∧ b = b')
theorem equalInArc (a b a' b' : Int) (w : World) : (Op.equalIn 10000 27 (.agg #[.int .i64 a, .int .i64 b]) (.agg #[.int .i64 a', .int .i64 b'])).run Tryz.prog w = .ok (aeq a b a' b') w := by
  have u3 := Tryz.underlying3
  have a3 := Tryz.isAgg3
  have z3 := Tryz.sizeOf3
  have hS : Tryz.prog.underlying 27 = some (.struct (Tryz.prog.fieldsOf 27)) := by kernel_rfl
  have hp : Tryz.prog.stoodInHeld 27 = false := by kernel_rfl
  rw [show (10000 : Nat) = 9999 + 1 from rfl, run_equalIn_agg w 9999 27 _ _ hS hp]
  simp only [Program.fieldsOf, Tryz.underlying27]
  go_simp
  by_cases h1 : a = a' <;> by_cases h2 : b = b' <;> simp [aeq, h1, h2]
theorem eqlArc (a b a' b' : Int) (w : World) : (binOp .eql 27 (.agg #[.int .i64 a, .int .i64 b]) (.agg #[.int .i64 a', .int .i64 b'])).run Tryz.prog w = .ok (.bool (aeq a b a' b')) w := by
  rw [run_eql_struct, equalInArc]; rfl
theorem tmod_cases (n : Int) : (0 ≤ n ∧ n.tmod 21600000 = n % 21600000) ∨ (n < 0 ∧ n.tmod 21600000 = -((-n) % 21600000)) := by
  by_cases h : 0 ≤ n
  · exact .inl ⟨h, Int.tmod_eq_emod_of_nonneg h⟩
  · refine .inr ⟨by omega, ?_⟩
    have h1 : (-n).tmod 21600000 = (-n) % 21600000 := Int.tmod_eq_emod_of_nonneg (by omega)
    rw [Int.neg_tmod] at h1
    omega
theorem tmod_pos {n : Int} (h : 0 ≤ n.tmod 21600000) : n.tmod 21600000 = n % 21600000 := by
  rcases tmod_cases n with ⟨h1, h2⟩ | ⟨h1, h2⟩ <;> omega
theorem tmod_neg {n : Int} (h : n.tmod 21600000 < 0) : n.tmod 21600000 + 21600000 = n % 21600000 := by
  rcases tmod_cases n with ⟨h1, h2⟩ | ⟨h1, h2⟩ <;> omega
/-- a world that left what was there alone -/
structure BV (w0 : World) where
  w : World
  hb : Below w0.heap.size w0 w
instance bvSome (w0 : World) : Nonempty (BV w0) := ⟨⟨w0, Below.refl _ _⟩⟩
theorem wp_region_bv {P : Program} {id : Nat} {Q : Exit → Act → World → Prop} {a : Act} {w : World} {l : List Oper} (w0 : World) (hm : P.follows .mixedOrders = true) (hB : Region.lexB .any l.toArray = true) (h0 : Below w0.heap.size w0 w)
    (h : wpQuiet P l.toArray (fun w' => ∃ s : BV w0, w' = s.w) (fun a' => ∀ w9, Below w0.heap.size w0 w9 → Q .normal a' w9) l a) : (Code.region id l.toArray true).wp P Q a w := by
  have e : (fun a' => ∀ w9, Below w0.heap.size w0 w9 → Q .normal a' w9) = (fun a' : Act => ∀ w', (∃ s : BV w0, w' = s.w) → Q .normal a' w') :=
    funext fun a' => propext ⟨fun h w' ⟨s, hs⟩ => hs ▸ h s.w s.hb, fun h w9 hb => h w9 ⟨⟨w9, hb⟩, rfl⟩⟩
  rw [e] at h
  exact wp_region_quiet (C := fun w' => ∃ s : BV w0, w' = s.w) hm hB ⟨⟨_, bl_drew h0⟩, rfl⟩ (by simpa using h)
theorem quiet_bv {P : Program} {f : FuncId} {args : Array Value} {w0 : World} {s : BV w0} {v : Value} (h : Calls P f args s.w fun e w' => e = .returned v ∧ Below s.w.heap.size s.w w') :
    Calls P f args s.w fun e w'' => e = .returned v ∧ ∃ s' : BV w0, w'' = s'.w :=
  h.mono fun _ w' ⟨he, hb⟩ => ⟨he, ⟨w', s.hb.trans (hb.mono s.hb.size)⟩, rfl⟩
set_option maxHeartbeats 400000 in
theorem Wrap_any (n : Int) (w : World) (h0 : -1000000000000 ≤ n) (h1 : n ≤ 1000000000000) : Calls Tryz.prog 31 #[.int .i64 n] w fun e w' => e = .returned (.int .i64 (n % 21600000)) ∧ Below w.heap.size w w' := by
  go_enter Tryz.func31, Tryz.ntmps31
  go_wp2
  all_goals
    go_ret
    refine ⟨ret_int ?_, ?_⟩
    · first | (exact tmod_pos (by assumption)) | (rw [IntWalk.wrap64_in _ (by have := tmod_neg (n := n) (by assumption); omega)]; exact tmod_neg (by assumption))
    · repeat (first | exact Below.refl _ _ | assumption | refine bl_drew ?_ | refine bl_drewN ?_ _ | refine Below.setCell ?_ (by first | assumption | omega | (simp; done) | (simp; omega)) _ | refine Below.alloc ?_ (by first | assumption | omega | (simp; done) | (simp; omega)) _)
end Go.Proofs.YtienkfcliocjgaaGreat
namespace Go.Proofs.YtienkfcliocjgaaGreat
open Go.RowKit
/-- two cells that are known -/
structure K2 (W : World) (g : Nat) (a b : Int) : Prop where
  lt : g < W.heap.size
  c0 : W.cell? ⟨g, 0, none⟩ = some (.int .i64 a)
  c1 : W.cell? ⟨g, 1, none⟩ = some (.int .i64 b)
  f0 : W.frozen? ⟨g, 0, none⟩ = false
  f1 : W.frozen? ⟨g, 1, none⟩ = false
section
variable {W W' : World} {g : Nat} {a b : Int}
theorem K2.below {B : Nat} (h : K2 W g a b) (hb : Below B W W') (hB : g < B) : K2 W' g a b :=
  ⟨Nat.lt_of_lt_of_le h.lt hb.size, (hb.cell (p := ⟨g, 0, none⟩) hB).trans h.c0, (hb.cell (p := ⟨g, 1, none⟩) hB).trans h.c1, (hb.frozen (p := ⟨g, 0, none⟩) hB).trans h.f0, (hb.frozen (p := ⟨g, 1, none⟩) hB).trans h.f1⟩
theorem K2.alloc (h : K2 W g a b) (o : Obj) : K2 (W.alloc o) g a b := h.below (bl_alloc W o) h.lt
theorem K2.new (W : World) (a b : Int) (t : TypeId) : K2 (W.alloc (.cells #[.int .i64 a, .int .i64 b] t)) W.heap.size a b := ⟨by simp, by simp, by simp, by simp, by simp⟩
theorem K2.far (h : K2 W g a b) {p : Addr} (hp : g ≠ p.block) (u : Value) : K2 (W.setCell p u) g a b := by
  have hne : ∀ i, p ≠ (⟨g, i, none⟩ : Addr) := fun i e => hp (by rw [e])
  refine ⟨by simpa using h.lt, ?_, ?_, ?_, ?_⟩
  · rw [World.cell?_setCell_other _ _ _ _ (hne 0)]; exact h.c0
  · rw [World.cell?_setCell_other _ _ _ _ (hne 1)]; exact h.c1
  · simpa using h.f0
  · simpa using h.f1
theorem K2.set0 (h : K2 W g a b) (v : Int) : K2 (W.setCell ⟨g, 0, none⟩ (.int .i64 v)) g v b := by
  refine ⟨by simpa using h.lt, World.cell?_setCell_same _ _ _ h.c0, ?_, by simpa using h.f0, by simpa using h.f1⟩
  rw [World.cell?_setCell_other _ _ _ _ (by simp)]
  exact h.c1
theorem K2.set1 (h : K2 W g a b) (v : Int) : K2 (W.setCell ⟨g, 1, none⟩ (.int .i64 v)) g a v := by
  refine ⟨by simpa using h.lt, ?_, World.cell?_setCell_same _ _ _ h.c1, by simpa using h.f0, by simpa using h.f1⟩
  rw [World.cell?_setCell_other _ _ _ _ (by simp)]
  exact h.c0
end
/-- the width that arcs need from a beginning on -/
def wdt (D : List Sp) (a : Int) (k : Nat) : Int := (D.take k).foldl (fun w b => max w ((b.1 - a) % 21600000 + b.2 - b.1)) 0
def OkA (D : List Sp) : Prop := ∀ x ∈ D, -10800000 ≤ x.1 ∧ x.1 ≤ 10800000 ∧ x.1 ≤ x.2 ∧ x.2 ≤ x.1 + 21600000
theorem wdt_succ (D : List Sp) (a : Int) (k : Nat) (hk : k < D.length) : wdt D a (k + 1) = max (wdt D a k) (((gs D k).1 - a) % 21600000 + (gs D k).2 - (gs D k).1) := by
  unfold wdt
  rw [List.take_succ_eq_append_getElem hk, List.foldl_append]
  simp [gs, hk]
theorem wdt_bd (D : List Sp) (a : Int) (hD : OkA D) (k : Nat) (hk : k ≤ D.length) : 0 ≤ wdt D a k ∧ wdt D a k < 43200000 := by
  induction k with
  | zero => simp [wdt]
  | succ k ih =>
    have h := ih (by omega)
    rw [wdt_succ D a k (by omega)]
    have := hD (gs D k) (by have : k < D.length := by omega
                            simp [gs, this])
    omega
def isAll (x : Sp) : Bool := aeq x.1 x.2 (-10800000) 10800000
/-- the best arc and its width, one arc more looked at -/
def stepA (D : List Sp) (s : Sp × Int) (a : Sp) : Sp × Int := if wdt D a.1 D.length < s.2 ∨ (wdt D a.1 D.length = s.2 ∧ wdt D a.1 D.length < 21600000 ∧ a.1 < s.1.1) then ((a.1, a.1 + wdt D a.1 D.length), wdt D a.1 D.length) else s
def foldA (D : List Sp) (k : Nat) : Sp × Int := (D.take k).foldl (stepA D) (((-10800000 : Int), (10800000 : Int)), (21600000 : Int))
/-- what place.around returns -/
def arnd (D : List Sp) : Sp := (foldA D (D.findIdx isAll)).1
theorem foldA_succ (D : List Sp) (k : Nat) (hk : k < D.length) : foldA D (k + 1) = stepA D (foldA D k) (gs D k) := by
  unfold foldA
  rw [List.take_succ_eq_append_getElem hk, List.foldl_append]
  simp [gs, hk]
theorem foldA_bd (D : List Sp) (hD : OkA D) (k : Nat) (hk : k ≤ D.length) : -10800000 ≤ (foldA D k).1.1 ∧ (foldA D k).1.1 ≤ 10800000 ∧ 0 ≤ (foldA D k).2 ∧ (foldA D k).2 ≤ 21600000 := by
  induction k with
  | zero => simp [foldA]
  | succ k ih =>
    have h := ih (by omega)
    rw [foldA_succ D k (by omega)]
    have h1 := hD (gs D k) (by have : k < D.length := by omega
                               simp [gs, this])
    have h2 := wdt_bd D (gs D k).1 hD D.length (Nat.le_refl _)
    unfold stepA
    split
    · simp only []
      omega
    · exact h
end Go.Proofs.YtienkfcliocjgaaGreat
