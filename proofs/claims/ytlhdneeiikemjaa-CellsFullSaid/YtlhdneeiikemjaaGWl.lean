/- The sort of spans: its contract over a row of the call's own. -/
import Derived.Test.YtlhdneeiikemjaaGWj
set_option linter.unusedVariables false
set_option linter.unusedSimpArgs false
namespace Go.Proofs.Ytlhdneeiikemjaa
open Go.RowKit Go.Sort Go.Shelf
abbrev Sp := Int × Int
def spv (x : Sp) : List Value := [.int .i64 x.1, .int .i64 x.2]
def spvs (D : List Sp) : List Value := D.flatMap spv
theorem spvs_length (D : List Sp) : (spvs D).length = D.length * 2 := by
  induction D with
  | nil => rfl
  | cons x r ih => simp [spvs, spv] at ih ⊢; omega
theorem spvs_append (L M : List Sp) : spvs (L ++ M) = spvs L ++ spvs M := by simp [spvs]
theorem spv_one (x : Sp) : ∀ u ∈ spv x, u.oneCell' = true := by
  intro u hu
  simp [spv] at hu
  rcases hu with rfl | rfl <;> rfl
def gs (L : List Sp) (k : Nat) : Sp := L.getD k (0, 0)
theorem spvs_at (L : List Sp) (k : Nat) (hk : k < L.length) : (spvs L)[k * 2]? = some (.int .i64 (gs L k).1) ∧ (spvs L)[k * 2 + 1]? = some (.int .i64 (gs L k).2) := by
  induction L generalizing k with
  | nil => simp at hk
  | cons x r ih =>
    have hc : spvs (x :: r) = .int .i64 x.1 :: .int .i64 x.2 :: spvs r := rfl
    rw [hc]
    match k with
    | 0 => simp [gs]
    | k + 1 =>
      have := ih k (by simpa using hk)
      have e1 : (k + 1) * 2 = k * 2 + 2 := by omega
      have e2 : (k + 1) * 2 + 1 = (k * 2 + 1) + 2 := by omega
      rw [e2, e1]
      simpa [gs] using this
theorem ltOf_cmpS (x y : Sp) : ltOf cmpS x y = decide (x.1 < y.1 ∨ x.1 = y.1 ∧ y.2 < x.2) := by
  unfold ltOf cmpS orI Lib.compareInt
  by_cases h1 : x.1 < y.1
  · simp [h1]
  · by_cases h2 : y.1 < x.1
    · have : ¬ x.1 = y.1 := by omega
      simp [h1, h2, this]
    · have h3 : x.1 = y.1 := by omega
      by_cases h4 : y.2 < x.2
      · simp [h3, h4]
      · by_cases h5 : x.2 < y.2 <;> simp [h3, h4, h5]
theorem swo_cmpS : SWO (ltOf cmpS) where
  irrefl x := by rw [ltOf_cmpS]; simp
  trans x y z h1 h2 := by rw [ltOf_cmpS] at *; simp only [decide_eq_true_eq] at *; omega
  ntrans x y z h1 h2 := by rw [ltOf_cmpS] at *; simp only [decide_eq_false_iff_not] at *; omega
theorem total_cmpS (x y : Sp) (h1 : ltOf cmpS x y = false) (h2 : ltOf cmpS y x = false) : x = y := by
  rw [ltOf_cmpS] at *
  simp only [decide_eq_false_iff_not] at *
  exact Prod.ext (by omega) (by omega)
/-- spans in their order -/
def sortS (D : List Sp) : List Sp := D.mergeSort fun x y => !(ltOf cmpS) y x
theorem sortS_length (D : List Sp) : (sortS D).length = D.length := List.length_mergeSort _

theorem flat2 (D : List Sp) : flatK spv 2 D.toArray = (spvs D).toArray := by
  refine ext_get! (by simp [spvs_length]) fun t ht => ?_
  have ht' : t < D.toArray.size * 2 := by simpa using ht
  rw [get_flatK _ _ _ _ ht']
  have hk : t / 2 < D.length := by simp at ht'; omega
  obtain ⟨a1, a2⟩ := spvs_at D (t / 2) hk
  have hg : D.toArray[t / 2]! = gs D (t / 2) := by simp [gs, hk]
  rw [hg]
  rcases Nat.mod_two_eq_zero_or_one t with h | h
  · have e : t / 2 * 2 = t := by omega
    rw [e] at a1
    simp [spv, a1, h]
  · have e : t / 2 * 2 + 1 = t := by omega
    rw [e] at a2
    simp [spv, a2, h]

theorem own_row (w : World) (base : Nat) (t : TypeId) (size n cap g m : Nat) (xs : List Value) (F : Array Value) (os : Array Obj) (h : w.ownsRow base t size (.slice (some ⟨g, 0, none⟩) n cap) n xs) (hF : F.size = n * size) :
    (grow (putRow id (Sort.ahead w m) g 0 F) os).ownsRow base t size (.slice (some ⟨g, 0, none⟩) n cap) n F.toList ∧ w.grownBy (grow (putRow id (Sort.ahead w m) g 0 F) os) (some g) := by
  rcases h.2 with ⟨h1, _⟩ | ⟨g', cap', cur, hv, hg, hh, hnc, hcm, hcs, htk⟩
  · cases h1
  · injection hv with e1 e2 e3
    injection e1 with e1
    injection e1 with e1
    subst e1 e3
    have hlt : g < w.heap.size := by
      rcases Nat.lt_or_ge g w.heap.size with hlt | hge
      · exact hlt
      · rw [Array.getElem?_eq_none hge] at hh; cases hh
    have hnew : (grow (putRow id (Sort.ahead w m) g 0 F) os).heap[g]? = some (.cells (putCells id 0 F cur) t (0, 0)) := by
      rw [heap_grow_old _ _ (by simpa using hlt)]
      simp [putRow, mapBlock, Array.getElem?_modify, hh, onCells]
    refine ⟨⟨by simpa using hF, .inr ⟨g, cap, putCells id 0 F cur, rfl, hg, hnew, hnc, hcm, by simpa [putCells] using hcs, ?_⟩⟩, ⟨rfl, rfl, rfl, by simp, fun i hi hne => ?_⟩⟩
    · apply List.ext_getElem?
      intro i
      rw [List.getElem?_take]
      by_cases hi : i < n * size
      · have h2 : n * size ≤ cap * size := Nat.mul_le_mul_right _ hnc
        simp [hi, putCells, hF, hcs, show i < cap * size by omega]
      · simp only [hi, if_false]
        rw [List.getElem?_eq_none]
        simp [hF]; omega
    · rw [heap_grow_old _ _ (by simpa using hi)]
      have hne' : ¬ g = i := fun e => hne (by rw [e])
      simp [putRow, mapBlock, Array.getElem?_modify, hne']

theorem sortSpan_any (base : Nat) (v : Value) (D : List Sp) (w : World) (h : w.ownsRow base 98 2 v D.length (spvs D)) (hn : D.length < 4611686018427387904) :
    Calls Try.prog 63 #[v, .func (.func 64) #[] #[]] w fun e w' => e = .returned (.tuple #[]) ∧ w'.ownsRow base 98 2 v D.length (spvs (sortS D)) ∧ w.grownBy w' v.ownBlock := by
  rcases Nat.eq_zero_or_pos D.length with h0 | h0
  · have hD : D = [] := List.eq_nil_of_length_eq_zero h0
    subst hD
    have hs : sortS [] = [] := by simp [sortS]
    rw [hs]
    obtain ⟨A, c, rfl, _⟩ := own_form h
    have hcon := AnyF.slices_SortFunc_none Try.sortSpan A c (.func (.func 64) #[] #[]) w
    change Calls Try.prog 63 _ _ _ at hcon
    refine hcon.mono ?_
    rintro e w' ⟨rfl, rfl⟩
    exact ⟨rfl, h, World.grownBy.refl _ _⟩
  · obtain ⟨g, cap, rfl, hg, hlt⟩ := h.form h0
    have eg : ∀ args w, (callFunc 64 args).run Try.prog w = .ok (.enter 64 args) w := enters_of Try.func64 (by kernel_rfl) rfl
    have hH : HoldsK spv 2 w g 0 D.toArray := by
      intro j hj
      rw [flat2] at hj ⊢
      rcases h.2 with ⟨h1, _⟩ | ⟨g', cap', cur, hv, _, hh, hnc, hcm, hcs, htk⟩
      · cases h1
      · injection hv with e1 e2 e3
        injection e1 with e1
        injection e1 with e1
        subst e1
        have hj' : j < (spvs D).length := by simpa using hj
        have hc : cur[j]? = some ((spvs D)[j]) := by
          have := congrArg (·[j]?) htk
          simp only [List.getElem?_take] at this
          rw [spvs_length] at hj'
          rw [if_pos hj'] at this
          rw [spvs_length] at *
          rw [Array.getElem?_toList] at this
          rw [this, List.getElem?_eq_getElem]
        refine ⟨?_, ?_⟩
        · simp [World.cell?, hh, hc, hj']
        · simp [World.frozen?, hh]
    have hcon := AnyQ.slices_SortFunc_total Try.sortSpan 2 Try.isAgg98 Try.sizeOf98 spv (fun _ => rfl) (fun x v hv => spv_one x v hv) cmpS swo_cmpS 64 #[] g 0 cap D.toArray w eg (fun _ _ _ _ x y => coverCmp_any x y _) hH hlt (by simpa using hn) total_cmpS
    change Calls Try.prog 63 _ _ _ at hcon
    simp only [List.size_toArray] at hcon
    refine hcon.mono ?_
    rintro e w' ⟨rfl, m, os, rfl⟩
    have hF := flat2 (sortS D)
    have hr := own_row w base _ 2 D.length cap g m _ (flatK spv 2 (sortS D).toArray) os h (by simp [sortS_length])
    refine ⟨rfl, ?_, hr.2⟩
    have e : spvs (sortS D) = (flatK spv 2 (sortS D).toArray).toList := by rw [hF]
    rw [e]
    exact hr.1
end Go.Proofs.Ytlhdneeiikemjaa
