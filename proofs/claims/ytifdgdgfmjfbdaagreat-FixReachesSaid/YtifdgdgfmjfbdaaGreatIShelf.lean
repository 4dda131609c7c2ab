/- slices.SortFunc and slices.SortedFunc at arcs, by their beginnings. -/
import Derived.Test.YtifdgdgfmjfbdaaGreatProg
import Derived.Shelf.SlGeneric
import Derived.Shelf.SlSortCmp.WholeK
import Derived.Shelf.SlSortCmp.NoneTotal
import Derived.Ground.SlsfProg
import Derived.RangeFuncNested
import Derived.RangeFuncBound
import Derived.RangeFuncCalls
import Derived.RangeFuncLeaves
import Derived.RangeFuncBox
import Derived.Shelf.Abstract
import Derived.Shelf.RegionOpen
import Derived.WalkKit
import Derived.OwnWalkIn
import Derived.TacticsInMore
import Derived.LoopNIn
import Derived.LoopIn
import Derived.Maps.AppendAt
import Derived.Test.YtifdgdgfmjfbdaaGreatIMort
set_option linter.unusedVariables false
set_option linter.unusedSimpArgs false
namespace Go.Proofs
open Go.Shelf
def Tryz.sortSpan_ren : Go.Shelf.Ren := ⟨fun | 6 => 178 | 15 => 225 | 14 => 224 | 28 => 264 | 29 => 265 | 20 => 256 | 21 => 257 | 22 => 258 | 23 => 259 | 24 => 260 | 25 => 261 | 26 => 262 | 27 => 263 | 46 => 284 | 47 => 285 | 48 => 286 | 49 => 287 | 50 => 288 | 57 => 316 | n => n, fun | 22 => 156 | 24 => 194 | 25 => 199 | 3 => 3 | 39 => 118 | 0 => 0 | 53 => 254 | 55 => 236 | 4 => 4 | 46 => 248 | 45 => 247 | 50 => 181 | 5 => 5 | 9 => 9 | 66 => 271 | 70 => 275 | 76 => 296 | 77 => 45 | n => n, fun | n => n⟩
theorem Tryz.sortSpan : Go.Proofs.SlLaysF0.n6 Tryz.prog Tryz.sortSpan_ren := {
  mixed := by kernel_rfl
  f6 := ⟨Tryz.f178.name, by decide, Tryz.func178.trans (congrArg some (by kernel_rfl))⟩
  f14 := ⟨Tryz.f224.name, by decide, Tryz.func224.trans (congrArg some (by kernel_rfl))⟩
  f15 := Tryz.func225.trans (congrArg some (by kernel_rfl))
  f20 := ⟨Tryz.f256.name, by decide, Tryz.func256.trans (congrArg some (by kernel_rfl))⟩
  f21 := ⟨Tryz.f257.name, by decide, Tryz.func257.trans (congrArg some (by kernel_rfl))⟩
  f22 := ⟨Tryz.f258.name, by decide, Tryz.func258.trans (congrArg some (by kernel_rfl))⟩
  f23 := ⟨Tryz.f259.name, by decide, Tryz.func259.trans (congrArg some (by kernel_rfl))⟩
  f24 := ⟨Tryz.f260.name, by decide, Tryz.func260.trans (congrArg some (by kernel_rfl))⟩
  f25 := ⟨Tryz.f261.name, by decide, Tryz.func261.trans (congrArg some (by kernel_rfl))⟩
  f26 := ⟨Tryz.f262.name, by decide, Tryz.func262.trans (congrArg some (by kernel_rfl))⟩
  f27 := ⟨Tryz.f263.name, by decide, Tryz.func263.trans (congrArg some (by kernel_rfl))⟩
  f28 := Tryz.func264.trans (congrArg some (by kernel_rfl))
  f29 := Tryz.func265.trans (congrArg some (by kernel_rfl))
  f46 := ⟨Tryz.f284.name, by decide, Tryz.func284.trans (congrArg some (by kernel_rfl))⟩
  f47 := Tryz.func285.trans (congrArg some (by kernel_rfl))
  f48 := Tryz.func286.trans (congrArg some (by kernel_rfl))
  f49 := ⟨Tryz.f287.name, by decide, Tryz.func287.trans (congrArg some (by kernel_rfl))⟩
  f50 := ⟨Tryz.f288.name, by decide, Tryz.func288.trans (congrArg some (by kernel_rfl))⟩
  f57 := ⟨Tryz.f316.name, by decide, Tryz.func316.trans (congrArg some (by kernel_rfl))⟩
  t0 := Tryz.underlying0
  a0 := Tryz.isAgg0
  z0 := Tryz.sizeOf0
  v0 := Tryz.zeroValue0
  t3 := Tryz.underlying3
  a3 := Tryz.isAgg3
  z3 := Tryz.sizeOf3
  v3 := Tryz.zeroValue3
  t4 := Tryz.underlying4
  a4 := Tryz.isAgg4
  z4 := Tryz.sizeOf4
  v4 := Tryz.zeroValue4
  t5 := Tryz.underlying5
  a5 := Tryz.isAgg5
  z5 := Tryz.sizeOf5
  v5 := Tryz.zeroValue5
  t9 := Tryz.underlying9
  a9 := Tryz.isAgg9
  z9 := Tryz.sizeOf9
  v9 := Tryz.zeroValue9
  t22 := Tryz.underlying156
  a22 := Tryz.isAgg156
  z22 := Tryz.sizeOf156
  v22 := Tryz.zeroValue156
  t25 := Tryz.underlying199
  a25 := Tryz.isAgg199
  z25 := Tryz.sizeOf199
  v25 := Tryz.zeroValue199
  t39 := Tryz.underlying118
  a39 := Tryz.isAgg118
  z39 := Tryz.sizeOf118
  v39 := Tryz.zeroValue118
  t45 := Tryz.underlying247
  a45 := Tryz.isAgg247
  z45 := Tryz.sizeOf247
  v45 := Tryz.zeroValue247
  t46 := Tryz.underlying248
  a46 := Tryz.isAgg248
  z46 := Tryz.sizeOf248
  v46 := Tryz.zeroValue248
  t50 := Tryz.underlying181
  a50 := Tryz.isAgg181
  z50 := Tryz.sizeOf181
  v50 := Tryz.zeroValue181
  t53 := Tryz.underlying254
  a53 := Tryz.isAgg254
  z53 := Tryz.sizeOf254
  v53 := Tryz.zeroValue254
  t55 := Tryz.underlying236
  a55 := Tryz.isAgg236
  z55 := Tryz.sizeOf236
  v55 := Tryz.zeroValue236
  t66 := Tryz.underlying271
  a66 := Tryz.isAgg271
  z66 := Tryz.sizeOf271
  v66 := Tryz.zeroValue271
  t70 := Tryz.underlying275
  a70 := Tryz.isAgg275
  z70 := Tryz.sizeOf275
  v70 := Tryz.zeroValue275
  t76 := Tryz.underlying296
  a76 := Tryz.isAgg296
  z76 := Tryz.sizeOf296
  v76 := Tryz.zeroValue296
  t77 := Tryz.underlying45
  a77 := Tryz.isAgg45
  z77 := Tryz.sizeOf45
  v77 := Tryz.zeroValue45 }
def Tryz.sortArc_ren : Go.Shelf.Ren := ⟨fun | 6 => 238 | 15 => 225 | 14 => 271 | 28 => 264 | 29 => 265 | 20 => 303 | 21 => 304 | 22 => 305 | 23 => 306 | 24 => 307 | 25 => 308 | 26 => 309 | 27 => 310 | 46 => 324 | 47 => 285 | 48 => 286 | 49 => 325 | 50 => 326 | 57 => 334 | n => n, fun | 22 => 57 | 24 => 29 | 25 => 211 | 3 => 3 | 39 => 118 | 0 => 0 | 53 => 254 | 55 => 236 | 4 => 4 | 46 => 248 | 45 => 247 | 50 => 181 | 5 => 5 | 9 => 9 | 66 => 271 | 70 => 275 | 76 => 296 | 77 => 45 | n => n, fun | n => n⟩
theorem Tryz.sortArc : Go.Proofs.SlLaysF0.n6 Tryz.prog Tryz.sortArc_ren := {
  mixed := by kernel_rfl
  f6 := ⟨Tryz.f238.name, by decide, Tryz.func238.trans (congrArg some (by kernel_rfl))⟩
  f14 := ⟨Tryz.f271.name, by decide, Tryz.func271.trans (congrArg some (by kernel_rfl))⟩
  f15 := Tryz.func225.trans (congrArg some (by kernel_rfl))
  f20 := ⟨Tryz.f303.name, by decide, Tryz.func303.trans (congrArg some (by kernel_rfl))⟩
  f21 := ⟨Tryz.f304.name, by decide, Tryz.func304.trans (congrArg some (by kernel_rfl))⟩
  f22 := ⟨Tryz.f305.name, by decide, Tryz.func305.trans (congrArg some (by kernel_rfl))⟩
  f23 := ⟨Tryz.f306.name, by decide, Tryz.func306.trans (congrArg some (by kernel_rfl))⟩
  f24 := ⟨Tryz.f307.name, by decide, Tryz.func307.trans (congrArg some (by kernel_rfl))⟩
  f25 := ⟨Tryz.f308.name, by decide, Tryz.func308.trans (congrArg some (by kernel_rfl))⟩
  f26 := ⟨Tryz.f309.name, by decide, Tryz.func309.trans (congrArg some (by kernel_rfl))⟩
  f27 := ⟨Tryz.f310.name, by decide, Tryz.func310.trans (congrArg some (by kernel_rfl))⟩
  f28 := Tryz.func264.trans (congrArg some (by kernel_rfl))
  f29 := Tryz.func265.trans (congrArg some (by kernel_rfl))
  f46 := ⟨Tryz.f324.name, by decide, Tryz.func324.trans (congrArg some (by kernel_rfl))⟩
  f47 := Tryz.func285.trans (congrArg some (by kernel_rfl))
  f48 := Tryz.func286.trans (congrArg some (by kernel_rfl))
  f49 := ⟨Tryz.f325.name, by decide, Tryz.func325.trans (congrArg some (by kernel_rfl))⟩
  f50 := ⟨Tryz.f326.name, by decide, Tryz.func326.trans (congrArg some (by kernel_rfl))⟩
  f57 := ⟨Tryz.f334.name, by decide, Tryz.func334.trans (congrArg some (by kernel_rfl))⟩
  t0 := Tryz.underlying0
  a0 := Tryz.isAgg0
  z0 := Tryz.sizeOf0
  v0 := Tryz.zeroValue0
  t3 := Tryz.underlying3
  a3 := Tryz.isAgg3
  z3 := Tryz.sizeOf3
  v3 := Tryz.zeroValue3
  t4 := Tryz.underlying4
  a4 := Tryz.isAgg4
  z4 := Tryz.sizeOf4
  v4 := Tryz.zeroValue4
  t5 := Tryz.underlying5
  a5 := Tryz.isAgg5
  z5 := Tryz.sizeOf5
  v5 := Tryz.zeroValue5
  t9 := Tryz.underlying9
  a9 := Tryz.isAgg9
  z9 := Tryz.sizeOf9
  v9 := Tryz.zeroValue9
  t22 := Tryz.underlying57
  a22 := Tryz.isAgg57
  z22 := Tryz.sizeOf57
  v22 := Tryz.zeroValue57
  t25 := Tryz.underlying211
  a25 := Tryz.isAgg211
  z25 := Tryz.sizeOf211
  v25 := Tryz.zeroValue211
  t39 := Tryz.underlying118
  a39 := Tryz.isAgg118
  z39 := Tryz.sizeOf118
  v39 := Tryz.zeroValue118
  t45 := Tryz.underlying247
  a45 := Tryz.isAgg247
  z45 := Tryz.sizeOf247
  v45 := Tryz.zeroValue247
  t46 := Tryz.underlying248
  a46 := Tryz.isAgg248
  z46 := Tryz.sizeOf248
  v46 := Tryz.zeroValue248
  t50 := Tryz.underlying181
  a50 := Tryz.isAgg181
  z50 := Tryz.sizeOf181
  v50 := Tryz.zeroValue181
  t53 := Tryz.underlying254
  a53 := Tryz.isAgg254
  z53 := Tryz.sizeOf254
  v53 := Tryz.zeroValue254
  t55 := Tryz.underlying236
  a55 := Tryz.isAgg236
  z55 := Tryz.sizeOf236
  v55 := Tryz.zeroValue236
  t66 := Tryz.underlying271
  a66 := Tryz.isAgg271
  z66 := Tryz.sizeOf271
  v66 := Tryz.zeroValue271
  t70 := Tryz.underlying275
  a70 := Tryz.isAgg275
  z70 := Tryz.sizeOf275
  v70 := Tryz.zeroValue275
  t76 := Tryz.underlying296
  a76 := Tryz.isAgg296
  z76 := Tryz.sizeOf296
  v76 := Tryz.zeroValue296
  t77 := Tryz.underlying45
  a77 := Tryz.isAgg45
  z77 := Tryz.sizeOf45
  v77 := Tryz.zeroValue45 }
end Go.Proofs
namespace Go.Proofs.YtifdgdgfmjfbdaaGreat
open Go.RowKit Go.Sort Go.Shelf
abbrev Sp := Int × Int
def spv (x : Sp) : List Value := [.int .i64 x.1, .int .i64 x.2]
def spvs (D : List Sp) : List Value := D.flatMap spv
theorem spvs_length (D : List Sp) : (spvs D).length = D.length * 2 := by
  induction D with
  | nil => rfl
  | cons x r ih => simp [spvs, spv] at ih ⊢; omega
theorem spvs_append (L M : List Sp) : spvs (L ++ M) = spvs L ++ spvs M := by simp [spvs]
theorem spv_one (x : Sp) : ∀ u ∈ spv x, u.oneCell' = true := by
  intro u hu
  simp [spv] at hu
  rcases hu with rfl | rfl <;> rfl
def gs (L : List Sp) (k : Nat) : Sp := L.getD k (0, 0)
theorem spvs_at (L : List Sp) (k : Nat) (hk : k < L.length) : (spvs L)[k * 2]? = some (.int .i64 (gs L k).1) ∧ (spvs L)[k * 2 + 1]? = some (.int .i64 (gs L k).2) := by
  induction L generalizing k with
  | nil => simp at hk
  | cons x r ih =>
    have hc : spvs (x :: r) = .int .i64 x.1 :: .int .i64 x.2 :: spvs r := rfl
    rw [hc]
    match k with
    | 0 => simp [gs]
    | k + 1 =>
      have := ih k (by simpa using hk)
      have e1 : (k + 1) * 2 = k * 2 + 2 := by omega
      have e2 : (k + 1) * 2 + 1 = (k * 2 + 1) + 2 := by omega
      rw [e2, e1]
      simpa [gs] using this
theorem ltOf_cmpS (x y : Sp) : ltOf cmpS x y = decide (x.1 < y.1 ∨ x.1 = y.1 ∧ y.2 < x.2) := by
  unfold ltOf cmpS orI Lib.compareInt
  by_cases h1 : x.1 < y.1
  · simp [h1]
  · by_cases h2 : y.1 < x.1
    · have : ¬ x.1 = y.1 := by omega
      simp [h1, h2, this]
    · have h3 : x.1 = y.1 := by omega
      by_cases h4 : y.2 < x.2
      · simp [h3, h4]
      · by_cases h5 : x.2 < y.2 <;> simp [h3, h4, h5]
theorem swo_cmpS : SWO (ltOf cmpS) where
  irrefl x := by rw [ltOf_cmpS]; simp
  trans x y z h1 h2 := by rw [ltOf_cmpS] at *; simp only [decide_eq_true_eq] at *; omega
  ntrans x y z h1 h2 := by rw [ltOf_cmpS] at *; simp only [decide_eq_false_iff_not] at *; omega
theorem total_cmpS (x y : Sp) (h1 : ltOf cmpS x y = false) (h2 : ltOf cmpS y x = false) : x = y := by
  rw [ltOf_cmpS] at *
  simp only [decide_eq_false_iff_not] at *
  exact Prod.ext (by omega) (by omega)
/-- spans in their order -/
def sortS (D : List Sp) : List Sp := D.mergeSort fun x y => !(ltOf cmpS) y x
theorem sortS_length (D : List Sp) : (sortS D).length = D.length := List.length_mergeSort _

theorem flat2 (D : List Sp) : flatK spv 2 D.toArray = (spvs D).toArray := by
  refine ext_get! (by simp [spvs_length]) fun t ht => ?_
  have ht' : t < D.toArray.size * 2 := by simpa using ht
  rw [get_flatK _ _ _ _ ht']
  have hk : t / 2 < D.length := by simp at ht'; omega
  obtain ⟨a1, a2⟩ := spvs_at D (t / 2) hk
  have hg : D.toArray[t / 2]! = gs D (t / 2) := by simp [gs, hk]
  rw [hg]
  rcases Nat.mod_two_eq_zero_or_one t with h | h
  · have e : t / 2 * 2 = t := by omega
    rw [e] at a1
    simp [spv, a1, h]
  · have e : t / 2 * 2 + 1 = t := by omega
    rw [e] at a2
    simp [spv, a2, h]

theorem own_row (w : World) (base : Nat) (t : TypeId) (size n cap g m : Nat) (xs : List Value) (F : Array Value) (os : Array Obj) (h : w.ownsRow base t size (.slice (some ⟨g, 0, none⟩) n cap) n xs) (hF : F.size = n * size) :
    (grow (putRow id (Sort.ahead w m) g 0 F) os).ownsRow base t size (.slice (some ⟨g, 0, none⟩) n cap) n F.toList ∧ w.grownBy (grow (putRow id (Sort.ahead w m) g 0 F) os) (some g) := by
  rcases h.2 with ⟨h1, _⟩ | ⟨g', cap', cur, hv, hg, hh, hnc, hcm, hcs, htk⟩
  · cases h1
  · injection hv with e1 e2 e3
    injection e1 with e1
    injection e1 with e1
    subst e1 e3
    have hlt : g < w.heap.size := by
      rcases Nat.lt_or_ge g w.heap.size with hlt | hge
      · exact hlt
      · rw [Array.getElem?_eq_none hge] at hh; cases hh
    have hnew : (grow (putRow id (Sort.ahead w m) g 0 F) os).heap[g]? = some (.cells (putCells id 0 F cur) t (0, 0)) := by
      rw [heap_grow_old _ _ (by simpa using hlt)]
      simp [putRow, mapBlock, Array.getElem?_modify, hh, onCells]
    refine ⟨⟨by simpa using hF, .inr ⟨g, cap, putCells id 0 F cur, rfl, hg, hnew, hnc, hcm, by simpa [putCells] using hcs, ?_⟩⟩, ⟨rfl, rfl, rfl, by simp, fun i hi hne => ?_⟩⟩
    · apply List.ext_getElem?
      intro i
      rw [List.getElem?_take]
      by_cases hi : i < n * size
      · have h2 : n * size ≤ cap * size := Nat.mul_le_mul_right _ hnc
        simp [hi, putCells, hF, hcs, show i < cap * size by omega]
      · simp only [hi, if_false]
        rw [List.getElem?_eq_none]
        simp [hF]; omega
    · rw [heap_grow_old _ _ (by simpa using hi)]
      have hne' : ¬ g = i := fun e => hne (by rw [e])
      simp [putRow, mapBlock, Array.getElem?_modify, hne']

theorem sortSpan_any (base : Nat) (v : Value) (D : List Sp) (w : World) (h : w.ownsRow base 194 2 v D.length (spvs D)) (hn : D.length < 4611686018427387904) :
    Calls Tryz.prog 178 #[v, .func (.func 179) #[] #[]] w fun e w' => e = .returned (.tuple #[]) ∧ w'.ownsRow base 194 2 v D.length (spvs (sortS D)) ∧ w.grownBy w' v.ownBlock := by
  rcases Nat.eq_zero_or_pos D.length with h0 | h0
  · have hD : D = [] := List.eq_nil_of_length_eq_zero h0
    subst hD
    have hs : sortS [] = [] := by simp [sortS]
    rw [hs]
    obtain ⟨A, c, rfl, _⟩ := own_form h
    have hcon := AnyF.slices_SortFunc_none Tryz.sortSpan A c (.func (.func 179) #[] #[]) w
    change Calls Tryz.prog 178 _ _ _ at hcon
    refine hcon.mono ?_
    rintro e w' ⟨rfl, rfl⟩
    exact ⟨rfl, h, World.grownBy.refl _ _⟩
  · obtain ⟨g, cap, rfl, hg, hlt⟩ := h.form h0
    have eg : ∀ args w, (callFunc 179 args).run Tryz.prog w = .ok (.enter 179 args) w := enters_of Tryz.func179 (by kernel_rfl) rfl
    have hH : HoldsK spv 2 w g 0 D.toArray := by
      intro j hj
      rw [flat2] at hj ⊢
      rcases h.2 with ⟨h1, _⟩ | ⟨g', cap', cur, hv, _, hh, hnc, hcm, hcs, htk⟩
      · cases h1
      · injection hv with e1 e2 e3
        injection e1 with e1
        injection e1 with e1
        subst e1
        have hj' : j < (spvs D).length := by simpa using hj
        have hc : cur[j]? = some ((spvs D)[j]) := by
          have := congrArg (·[j]?) htk
          simp only [List.getElem?_take] at this
          rw [spvs_length] at hj'
          rw [if_pos hj'] at this
          rw [spvs_length] at *
          rw [Array.getElem?_toList] at this
          rw [this, List.getElem?_eq_getElem]
        refine ⟨?_, ?_⟩
        · simp [World.cell?, hh, hc, hj']
        · simp [World.frozen?, hh]
    have hcon := AnyQ.slices_SortFunc_total Tryz.sortSpan 2 Tryz.isAgg194 Tryz.sizeOf194 spv (fun _ => rfl) (fun x v hv => spv_one x v hv) cmpS swo_cmpS 179 #[] g 0 cap D.toArray w eg (fun _ _ _ _ x y => coverCmp_any x y _) hH hlt (by simpa using hn) total_cmpS
    change Calls Tryz.prog 178 _ _ _ at hcon
    simp only [List.size_toArray] at hcon
    refine hcon.mono ?_
    rintro e w' ⟨rfl, m, os, rfl⟩
    have hF := flat2 (sortS D)
    have hr := own_row w base _ 2 D.length cap g m _ (flatK spv 2 (sortS D).toArray) os h (by simp [sortS_length])
    refine ⟨rfl, ?_, hr.2⟩
    have e : spvs (sortS D) = (flatK spv 2 (sortS D).toArray).toList := by rw [hF]
    rw [e]
    exact hr.1
end Go.Proofs.YtifdgdgfmjfbdaaGreat
namespace Go.Proofs.YtifdgdgfmjfbdaaGreat
open Go.RowKit Go.Shelf
theorem take_gs (D : List Sp) {k : Nat} (h : k < D.length) : D.take (k + 1) = D.take k ++ [gs D k] := by
  rw [List.take_succ_eq_append_getElem h]; simp [gs, h]
theorem arc_cells (W : World) (x : Sp) (t : TypeId) : ∀ (j : Nat) (u : Value), [Value.int .i64 x.1, .int .i64 x.2][j]? = some u → (W.alloc (.cells #[.int .i64 x.1, .int .i64 x.2] t)).cell? ((⟨W.heap.size, 0, none⟩ : Addr).add j) = some u := fun j u hu => by
  match j, hu with
  | 0, hu => simp at hu; subst hu; simp [Addr.add]
  | 1, hu => simp at hu; subst hu; simp [Addr.add]
  | j + 2, hu => simp at hu
set_option maxRecDepth 100000 in
set_option maxHeartbeats 4000000 in
/-- the iterator of slices.Values at arcs, for every body that keeps what lay below n₀ -/
theorem values1_in (F : Fence) (n : Nat) (h7 : F.fn 239) (hro : F.round = none) (hn : 1 ≤ n) (l Bs n₀ b off len cap : Nat) (D : List Sp) (hlen : D.length = len) (hreach : len * 16 ≤ 140737488351232) (hb : b < n₀) (J Jx : List Sp → World → Prop)
    (hY : ∀ pre x W, J pre W → pre.length < len → YieldAt F (n - 1) Tryz.prog l #[.agg #[.int .i64 x.1, .int .i64 x.2]] W fun e W' =>
      (e = .returned (.bool true) ∧ J (pre ++ [x]) W' ∧ Below n₀ W W') ∨ (e = .returned (.bool false) ∧ Jx (pre ++ [x]) W'))
    (W : World) (hJ : AbidesFrom W.heap.size J) (hn₀ : n₀ ≤ W.heap.size) (hBs : W.cell? ⟨Bs, 0, none⟩ = some (.slice (some ⟨b, off, none⟩) len cap)) (hc : ∀ j, j < len → W.cell? ⟨b, off + j * 2, none⟩ = some (.int .i64 (gs D j).1) ∧ W.cell? ⟨b, off + j * 2 + 1, none⟩ = some (.int .i64 (gs D j).2)) (h0 : J [] W) :
    CallsIn F n Tryz.prog 239 #[.func (.yield l) #[] #[], .pointer (some ⟨Bs, 0, none⟩)] W fun e W' => (∃ v, e = .returned v) ∧
      ((∃ ys, ys = D ∧ J ys W') ∨ (∃ pre, pre <+: D ∧ Jx pre W')) := by
  have hsa := @Oper.semAt_some
  refine callsIn_of_wp Tryz.func239 rfl h7 ?_ hro
  simp only [Tryz.ntmps239, List.size_toArray, List.length_cons, List.length_nil, Nat.reduceAdd, Nat.reduceSub, Array.replicate_succ, Array.replicate_zero, List.push_toArray, List.append_toArray, List.nil_append, List.cons_append]
  gi_wp2
  gi_loopw [7] (fun i wr => ∃ k : Nat, k ≤ len ∧ i = .int .i64 k ∧ J (D.take k) wr ∧ Below n₀ W wr)
    (fun i _ => len - (intOf i).toNat)
  case atStart => exact ⟨0, Nat.zero_le _, rfl, h0, Below.refl _ _⟩
  case round =>
    obtain ⟨k, hk, rfl, hJs, hnx⟩ := hrel
    by_cases hlt : k < len
    · obtain ⟨c1, c2⟩ := hc k hlt
      have d1 := (hnx.cell (p := ⟨b, off + k * 2, none⟩) hb).trans c1
      have d2 := (hnx.cell (p := ⟨b, off + k * 2 + 1, none⟩) hb).trans c2
      have hJ2 := hJ _ wr (wr.alloc (.cells #[.int .i64 (gs D k).1, .int .i64 (gs D k).2] 29)) none hJs (World.grownBy_alloc wr _ none) (fun r e => by cases e)
      have hnx2 := hnx.alloc (by have := hnx.size; omega) (.cells #[.int .i64 (gs D k).1, .int .i64 (gs D k).2] 29)
      obtain ⟨fn, tmps, assign, body, hy, hR⟩ := hY _ (gs D k) _ hJ2 (by rw [List.length_take]; omega)
      (try dsimp only at hy)
      gi_wp2
      refine hR.mono ?_
      rintro e W3 (⟨rfl, hJ3, hk3⟩ | ⟨rfl, hJx3⟩)
      · gi_wp2
        go_roundw
        case rel => exact ⟨k + 1, by omega, by simp, by rw [take_gs D (by omega)]; exact hJ3, hnx2.trans hk3⟩
        case measure => simp [intOf]; omega
      · gi_wp2
        refine bodyPost_ret (results_none rfl _ _ _) rfl ?_
        exact ⟨⟨_, rfl⟩, .inr ⟨_, by rw [← take_gs D (by omega)]; exact List.take_prefix _ _, hJx3⟩⟩
    · obtain rfl : k = len := by omega
      gi_wp2
      go_end0
      exact ⟨⟨_, rfl⟩, .inl ⟨_, List.take_of_length_le (by omega), hJs⟩⟩
set_option maxHeartbeats 1000000 in
/-- slices.Values at arcs: the slice is boxed; the function value captures the box -/
theorem values_in (F : Fence) (n : Nat) (h5 : F.fn 196) (hro : F.round = none) (a : Option Addr) (len cap : Nat) (w : World) :
    CallsIn F n Tryz.prog 196 #[.slice a len cap] w fun e w' => e = .returned (.func (.func 239) #[] #[.pointer (some ⟨w.heap.size, 0, none⟩)]) ∧ w' = w.alloc (.cells #[.slice a len cap] 57) := by
  refine callsIn_of_wp Tryz.func196 rfl h5 ?_ hro
  simp only [Tryz.ntmps196, List.size_toArray, List.length_cons, List.length_nil, Nat.reduceAdd, Nat.reduceSub, Array.replicate_succ, Array.replicate_zero, List.push_toArray, List.append_toArray, List.nil_append, List.cons_append]
  gi_wp2
  go_ret
  exact ⟨rfl, rfl⟩
theorem values_stops (F : Fence) (n : Nat) (h7 : F.fn 239) (hro : F.round = none) (hn : 1 ≤ n) (Bs n₀ : Nat) (b off cap : Nat) (D : List Sp) (hreach : D.length * 16 ≤ 140737488351232) (w : World) (hBs : Bs < w.heap.size) (hn₀ : n₀ ≤ w.heap.size)
    (hc : w.cell? ⟨Bs, 0, none⟩ = some (.slice (some ⟨b, off, none⟩) D.length cap)) (hb : b < n₀) (hI : ∀ j, j < D.length → w.cell? ⟨b, off + j * 2, none⟩ = some (.int .i64 (gs D j).1) ∧ w.cell? ⟨b, off + j * 2 + 1, none⟩ = some (.int .i64 (gs D j).2)) :
    SeqStopsK F n Tryz.prog 239 #[.pointer (some ⟨Bs, 0, none⟩)] (fun x : Sp => #[.agg #[.int .i64 x.1, .int .i64 x.2]]) (Below n₀) (fun ys => ys = D) (fun pre => pre <+: D) D.length w := fun l J Jx W hW hJ _ hY h0 =>
  values1_in F n h7 hro hn l Bs n₀ b off D.length cap D rfl hreach hb J Jx hY W hJ (by have := hW.size; omega) ((hW.cell (p := ⟨Bs, 0, none⟩) hBs).trans hc) (fun j hj => ⟨(hW.cell (p := ⟨b, off + j * 2, none⟩) (by simp only []; omega)).trans (hI j hj).1, (hW.cell (p := ⟨b, off + j * 2 + 1, none⟩) (by simp only []; omega)).trans (hI j hj).2⟩) h0
theorem blk_own (B : Nat) (t : TypeId) (cs : Array Value) : Own (fun (_ : Unit) W => Blk W B t cs) := fun s X Y row hs hg hrow => Blk.grown hs hg (fun e' => by
  obtain ⟨o, ho, hc⟩ := hrow B e'.symm
  rw [show X.heap[B]? = _ from hs] at ho; cases ho; cases hc)
set_option maxRecDepth 100000 in
set_option maxHeartbeats 4000000 in
/-- slices.AppendSeq at arcs, onto nothing -/
theorem appendSeq_in (F : Fence) (n : Nat) (h4 : F.fn 270) (hro : F.round = none) (hn : 2 ≤ n) (g : Nat) (lb : Array Value) (hFg : F.fn g) (eg : ∀ args w, (callFunc g args).run Tryz.prog w = .ok (.enter g args) w)
    (D : List Sp) (n₀ : Nat) (w0 w : World) (hseq : SeqStopsK F (n - 1) Tryz.prog g lb (fun x : Sp => #[.agg #[.int .i64 x.1, .int .i64 x.2]]) (Below n₀) (fun ys => ys = D) (fun pre => pre <+: D) D.length w0) (hb0 : Below w0.heap.size w0 w) (hn₀ : n₀ ≤ w.heap.size) (hlen : D.length ≤ 100000) :
    CallsIn F n Tryz.prog 270 #[.slice none 0 0, .func (.func g) #[] lb] w fun e W' => ∃ v, e = .returned v ∧ W'.ownsRow w.heap.size 29 2 v D.length (spvs D) ∧ Below w.heap.size w W' := by
  have h1 : 1 ≤ n := by omega
  have hsa := @Oper.semAt_some
  obtain ⟨i0, hi, hz0, hz1, hz2⟩ : ∃ i0, Tryz.prog.info? 29 = some i0 ∧ i0.zero = some (.agg #[.int .i64 0, .int .i64 0]) ∧ i0.size = 2 ∧ i0.bytes = 16 := by
    have h : (Tryz.prog.info? 29).map (fun i => (i.zero, i.size, i.bytes)) = some (some (.agg #[.int .i64 0, .int .i64 0]), 2, 16) := by kernel_rfl
    obtain ⟨i0, a, b, c, d⟩ := info_parts h
    exact ⟨i0, a, b, c, d⟩
  refine callsIn_of_wp_marks Tryz.func270 rfl h4 ?_ hro
  simp only [Tryz.ntmps270, List.size_toArray, List.length_cons, List.length_nil, Nat.reduceAdd, Nat.reduceSub, Array.replicate_succ, Array.replicate_zero, List.push_toArray, List.append_toArray, List.nil_append, List.cons_append]
  gi_wp2
  have bO := Boxed.new w 57 (.slice none 0 0)
  have hB0 : Below w.heap.size w (w.alloc (.cells #[.slice none 0 0] 57)) := (Below.refl _ w).alloc (Nat.le_refl _) _
  have hsz : (w.alloc (.cells #[.slice none 0 0] 57)).heap.size = w.heap.size + 1 := by simp
  obtain ⟨W0, hW0⟩ : ∃ W0, w.alloc (.cells #[.slice none 0 0] 57) = W0 := ⟨_, rfl⟩
  rw [hW0] at bO hB0 hsz ⊢
  clear hW0
  refine wpIn_rangeFunc_ownH hro h1 (gf := g) (lb := lb) rfl hFg eg hseq belowK_t (belowK_b (by omega)) (hb0.trans (hB0.mono hb0.size)) (fun _ => rfl)
    (fun pre W => (∃ v, Boxed W w.heap.size 57 v ∧ W.ownsRow w.heap.size 29 2 v pre.length (spvs pre) ∧ True) ∧ Below w.heap.size w W)
    (fun _ _ _ => False)
    (OwnFrom.and (Own.from (holdsRow_own w.heap.size w.heap.size 57 29 2 (fun pre : List Sp => pre.length) (fun pre => spvs pre) (fun _ _ => True)) _) (ownFrom_below (Nat.le_refl _) (by omega)))
    (fun _ _ _ _ _ hs _ _ => hs)
    ⟨⟨_, bO, World.ownsRow_nil _ _ _ _, trivial⟩, hB0⟩
    (fun x a' W => ∃ Bx, w.heap.size < Bx ∧ Blk W Bx 29 #[.int .i64 x.1, .int .i64 x.2] ∧ a' = { tmps := #[.slice none 0 0, .func (.func g) #[] lb, .pointer (some ⟨w.heap.size, 0, none⟩), undef, .slice none 0 0, .pointer (some ⟨Bx, 0, none⟩), .func (.func g) #[] lb, .agg #[.int .i64 x.1, .int .i64 x.2], undef, undef, undef, undef, undef], defers := [] })
    (fun x a' _ X Y row hs hg hr => by obtain ⟨Bx, h1, h2, h3⟩ := hs; exact ⟨Bx, h1, blk_own Bx 29 #[.int .i64 x.1, .int .i64 x.2] () X Y row h2 hg (fun r e => (hr r e).2), h3⟩)
    ?assign ?body ?done ?stop
  case assign =>
    rintro l pre x W K ⟨⟨v, hv, hrow, -⟩, hB⟩ hK
    gi_wp2
    exact hK _ _ ((KeepsOthers.alloc _ _).from _) ((Below.refl _ W).alloc (by have := hB.size; omega) _) ⟨⟨v, hv.alloc _, hrow.alloc _, trivial⟩, hB.alloc hB.size _⟩ ⟨W.heap.size, hv.lt, Blk.new W _ _, rfl⟩
  case body =>
    rintro l pre x a' W hl ⟨r, hr⟩ ⟨⟨v, hv, hrow, -⟩, hB⟩ ⟨Bx, hBx, bX, rfl⟩ hlt
    have hc := hv.cell
    have x0 := bX.cell 0
    have x1 := bX.cell 1
    simp only [List.getElem?_toArray, List.getElem?_cons_zero, List.getElem?_cons_succ] at x0 x1
    gi_wp2_with (gi_at_builtin; refine wpListIn_append_own _ rfl _ _ 57 rfl w.heap.size 29 i0 (.agg #[.int .i64 0, .int .i64 0]) 2 16 Tryz.underlying57 hi hz0 hz1 hz2 rfl (by decide) _ _ _ rfl (hrow.alloc _) ⟨W.heap.size, 0, none⟩ 1 1 [.int .i64 x.1, .int .i64 x.2] rfl rfl (arc_cells _ _ _) (by simp [Value.oneCell']) (by simp only [maxLen]; omega) (by omega) (by have := hB.size; simp; omega) ?_; intro v' w1 hown' hgrow _; obtain ⟨g', cap', rfl⟩ := ownsRow_succ hown'; obtain ⟨hv1, hv2, hr2, hk2, hb2⟩ := hv.appended (by decide) hrow hB.size (Nat.le_refl _) hown' hgrow; have hc1 := hv1.cell; have hf1 := hv1.frozen)
    exact ⟨hk2.from _, hb2.mono hn₀, ⟨_, hv2, by simpa [spvs_append, spvs, spv] using hr2, trivial⟩, hB.trans hb2⟩
  case done =>
    rintro D' ys W hD rfl ⟨⟨v, hv, hrow, -⟩, hB⟩ hK
    have hc := hv.cell
    gi_wp2
    refine ⟨by simp, .inl ⟨_, _, rfl, run_takeDeferred hK, ?_⟩⟩
    exact ⟨_, results_tmp rfl _ _ _, v, rfl, ownsRow_putObj hrow _ hK rfl, hB.trans (belowK_b (w := w) (Nat.le_refl _) W D' _ _ (by omega) hK rfl rfl)⟩
  case stop =>
    rintro D' c pre W _ _ h _
    exact h.elim
set_option maxRecDepth 100000 in
set_option maxHeartbeats 1000000 in
theorem collect_in (F : Fence) (n : Nat) (h6 : F.fn 237) (h4 : F.fn 270) (hro : F.round = none) (hn : 3 ≤ n) (g : Nat) (lb : Array Value) (hFg : F.fn g) (eg : ∀ args w, (callFunc g args).run Tryz.prog w = .ok (.enter g args) w)
    (D : List Sp) (n₀ : Nat) (w0 w : World) (hseq : SeqStopsK F (n - 1 - 1) Tryz.prog g lb (fun x : Sp => #[.agg #[.int .i64 x.1, .int .i64 x.2]]) (Below n₀) (fun ys => ys = D) (fun pre => pre <+: D) D.length w0) (hb0 : Below w0.heap.size w0 w) (hn₀ : n₀ ≤ w.heap.size) (hlen : D.length ≤ 100000) :
    CallsIn F n Tryz.prog 237 #[.func (.func g) #[] lb] w fun e W' => ∃ v, e = .returned v ∧ W'.ownsRow w.heap.size 29 2 v D.length (spvs D) ∧ Below w.heap.size w W' := by
  have h1 : 1 ≤ n := by omega
  have e4 := enters_of Tryz.func270 (by kernel_rfl) rfl
  refine callsIn_of_wp Tryz.func237 rfl h6 ?_ hro
  simp only [Tryz.ntmps237, List.size_toArray, List.length_cons, List.length_nil, Nat.reduceAdd, Nat.reduceSub, Array.replicate_succ, Array.replicate_zero, List.push_toArray, List.append_toArray, List.nil_append, List.cons_append]
  gi_wp2_with (gi_at_call 270; refine (appendSeq_in F (n - 1) h4 hro (by omega) g lb hFg eg D n₀ w0 _ hseq hb0 hn₀ hlen).mono ?_; rintro e w' ⟨v, rfl, hrow, hb⟩)
  go_ret
  exact ⟨v, rfl, hrow, hb⟩
end Go.Proofs.YtifdgdgfmjfbdaaGreat
namespace Go.Proofs.YtifdgdgfmjfbdaaGreat
open Go.RowKit Go.Sort Go.Shelf
def cmpA (x y : Sp) : Int := Lib.compareInt x.1 y.1
set_option maxHeartbeats 1000000 in
set_option maxRecDepth 100000 in
theorem arcCmp_any (x y : Sp) (W : World) : Calls Tryz.prog 197 #[.agg #[.int .i64 x.1, .int .i64 x.2], .agg #[.int .i64 y.1, .int .i64 y.2]] W fun e w' => e = .returned (.int .i64 (cmpA x y)) ∧ ∃ q os', w' = grow (W.drewN q) os' := by
  have C1 := fun W => compare_any x.1 y.1 W
  unfold cmpA
  generalize Lib.compareInt x.1 y.1 = u at C1 ⊢
  have C1 := Lib.hid C1
  go_enter Tryz.func197, Tryz.ntmps197
  go_wp2_with (go_at_call 181; refine (C1.out _).mono ?_; rintro e w' ⟨rfl, rfl⟩)
  go_ret
  refine ⟨rfl, 0, #[.cells #[.int .i64 x.1, .int .i64 x.2] 29, .cells #[.int .i64 y.1, .int .i64 y.2] 29], ?_⟩
  rw [alloc_eq_grow, alloc_eq_grow, grow_grow]
  rfl
theorem ltOf_cmpA (x y : Sp) : ltOf cmpA x y = decide (x.1 < y.1) := by
  unfold ltOf cmpA Lib.compareInt
  by_cases h1 : x.1 < y.1
  · simp [h1]
  · by_cases h2 : y.1 < x.1 <;> simp [h1, h2]
theorem swo_cmpA : SWO (ltOf cmpA) where
  irrefl x := by rw [ltOf_cmpA]; simp
  trans x y z h1 h2 := by rw [ltOf_cmpA] at *; simp only [decide_eq_true_eq] at *; omega
  ntrans x y z h1 h2 := by rw [ltOf_cmpA] at *; simp only [decide_eq_false_iff_not] at *; omega
theorem sortArc_any (base : Nat) (v : Value) (D : List Sp) (w : World) (h : w.ownsRow base 29 2 v D.length (spvs D)) (hn : D.length < 4611686018427387904) (h0 : 0 < D.length) :
    Calls Tryz.prog 238 #[v, .func (.func 197) #[] #[]] w fun e w' => e = .returned (.tuple #[]) ∧ (∃ D' : List Sp, D'.Perm D ∧ (∀ i j, i < j → j < D'.length → (gs D' i).1 ≤ (gs D' j).1) ∧ w'.ownsRow base 29 2 v D.length (spvs D')) ∧ w.grownBy w' v.ownBlock := by
  obtain ⟨g, cap, rfl, hg, hlt⟩ := h.form h0
  have eg : ∀ args w, (callFunc 197 args).run Tryz.prog w = .ok (.enter 197 args) w := enters_of Tryz.func197 (by kernel_rfl) rfl
  have hH : HoldsK spv 2 w g 0 D.toArray := by
    intro j hj
    rw [flat2] at hj ⊢
    rcases h.2 with ⟨h1, _⟩ | ⟨g', cap', cur, hv, _, hh, hnc, hcm, hcs, htk⟩
    · cases h1
    · injection hv with e1 e2 e3
      injection e1 with e1
      injection e1 with e1
      subst e1
      have hj' : j < (spvs D).length := by simpa using hj
      have hc : cur[j]? = some ((spvs D)[j]) := by
        have := congrArg (·[j]?) htk
        simp only [List.getElem?_take] at this
        rw [spvs_length] at hj'
        rw [if_pos hj'] at this
        rw [spvs_length] at *
        rw [Array.getElem?_toList] at this
        rw [this, List.getElem?_eq_getElem]
      refine ⟨?_, ?_⟩
      · simp [World.cell?, hh, hc, hj']
      · simp [World.frozen?, hh]
  have hcon := AnyQ.slices_SortFunc Tryz.sortArc 2 Tryz.isAgg29 Tryz.sizeOf29 spv (fun _ => rfl) (fun x v hv => spv_one x v hv) cmpA swo_cmpA 197 #[] g 0 cap D.toArray w eg (fun _ _ _ _ x y => arcCmp_any x y _) hH hlt (by simpa using hn)
  change Calls Tryz.prog 238 _ _ _ at hcon
  simp only [List.size_toArray] at hcon
  refine hcon.mono ?_
  rintro e w' ⟨rfl, d', m, os, ⟨hsz, -, hperm⟩, hso, rfl⟩
  have hsz' : d'.size = D.length := by simpa using hsz
  have hp : d'.toList.Perm D := by
    have e1 : d'.extract 0 D.length = d' := by rw [← hsz']; exact Array.extract_size
    have e2 : D.toArray.extract 0 D.length = D.toArray := by
      have : D.length = D.toArray.size := by simp
      rw [this]; exact Array.extract_size
    rw [e1, e2] at hperm
    simpa using hperm
  have hF := flat2 d'.toList
  rw [Array.toArray_toList] at hF
  have hl : d'.toList.length = D.length := by simpa using hsz'
  have hr := own_row w base _ 2 D.length cap g m _ (flatK spv 2 d') os h (by rw [hF]; simp [spvs_length, hl])
  refine ⟨rfl, ⟨d'.toList, hp, fun i j hij hj => ?_, ?_⟩, hr.2⟩
  · have hj' : j < d'.size := by simpa using hj
    have := hso i j (Nat.zero_le _) hij (by omega)
    rw [ltOf_cmpA, decide_eq_false_iff_not] at this
    have g1 : gs d'.toList i = d'[i]! := by simp [gs, show i < d'.size by omega]
    have g2 : gs d'.toList j = d'[j]! := by simp [gs, hj']
    rw [g1, g2]; omega
  · have e : spvs d'.toList = (flatK spv 2 d').toList := by rw [hF]
    rw [e]
    exact hr.1
set_option maxHeartbeats 1000000 in
set_option maxRecDepth 100000 in
/-- slices.SortedFunc at what slices.Values has handed back -/
theorem sorted_any (Bs b off cap : Nat) (D : List Sp) (w : World) (h0 : 0 < D.length) (hlen : D.length ≤ 100000) (hBs : Bs < w.heap.size) (hc : w.cell? ⟨Bs, 0, none⟩ = some (.slice (some ⟨b, off, none⟩) D.length cap)) (hb : b < w.heap.size)
    (hI : ∀ j, j < D.length → w.cell? ⟨b, off + j * 2, none⟩ = some (.int .i64 (gs D j).1) ∧ w.cell? ⟨b, off + j * 2 + 1, none⟩ = some (.int .i64 (gs D j).2)) :
    Calls Tryz.prog 195 #[.func (.func 239) #[] #[.pointer (some ⟨Bs, 0, none⟩)], .func (.func 197) #[] #[]] w fun e w' => ∃ (v : Value) (D' : List Sp), e = .returned v ∧ D'.Perm D ∧ (∀ i j, i < j → j < D'.length → (gs D' i).1 ≤ (gs D' j).1) ∧ w'.ownsRow w.heap.size 29 2 v D.length (spvs D') ∧ Below w.heap.size w w' := by
  have hseq := values_stops Fence.wide 4 trivial rfl (by omega) Bs w.heap.size b off cap D (by omega) w hBs (Nat.le_refl _) hc hb hI
  have KC := Lib.hid (callsIn_wide.1 (collect_in Fence.wide 6 trivial trivial rfl (by omega) _ _ trivial (enters_of Tryz.func239 (by kernel_rfl) rfl) D w.heap.size w w hseq (Below.refl _ _) (Nat.le_refl _) hlen))
  have KS := Lib.hid (fun v W h => sortArc_any w.heap.size v D W h (by omega) h0)
  obtain ⟨N, hN⟩ : ∃ N, N = D.length := ⟨_, rfl⟩
  have HN := Lib.hid hN
  rw [← hN]
  rw [← hN] at KC KS
  clear hseq hI hc hlen h0 hN
  go_enter Tryz.func195, Tryz.ntmps195
  go_wp2_with fail
  (with_reducible refine KC.out.mono ?_)
  rintro e w1 ⟨v, rfl, hrow, hb1⟩
  obtain ⟨A1, c1, rfl, -, -, -⟩ := own_form hrow
  have HROW := Lib.hid hrow
  have HB1 := Lib.hid hb1
  clear hrow hb1
  go_wp2_with fail
  (with_reducible refine (KS.out _ _ HROW.out).mono ?_)
  rintro e w2 ⟨rfl, ⟨D', hp, hs, hrow2⟩, hg⟩
  go_wp2
  go_ret
  exact ⟨_, D', rfl, hp, hs, hrow2, HB1.out.grown hg HB1.out.size (own_base HROW.out)⟩
end Go.Proofs.YtifdgdgfmjfbdaaGreat
