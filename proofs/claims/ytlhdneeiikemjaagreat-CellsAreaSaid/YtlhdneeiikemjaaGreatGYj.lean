/- Proved: the law CellsArea of layer 38 returns true for both lists of cells (CellsAreaSaid). No condition. -/
import Derived.SizedLaws
import Derived.Test.YtlhdneeiikemjaaGreatGYi
import Derived.Test.YtlhdneeiikemjaaGreatGOpen
set_option linter.unusedVariables false
set_option linter.unusedSimpArgs false
namespace Go.Proofs.YtlhdneeiikemjaaGreat
open Go.ChangeShapes Go.WideShapes Go.ChangeAt Go.RowKit Go.Joins Go.Deep
theorem area_any (A B : Option Addr) (n m ca cb : Nat) (L M : List Cl) (w : World) (ra : Reads w w.heap.size 3 A n (cvs L)) (rb : Reads w w.heap.size 3 B m (cvs M)) (bn : n ≤ 140737488355328) (bm : m ≤ 140737488355328) :
    Calls Tryz.prog 4 #[.slice A n ca, .slice B m cb] w fun e w' => e = .returned (.bool true) ∧ Below w.heap.size w w' := by
  have l1 := ra.len
  have l2 := rb.len
  by_cases hl : n + m ≤ 100
  · have k1 : ∀ W, Below w.heap.size w W → Calls Tryz.prog 15 #[.slice A n ca] W (RetCells W (tidyR L) (tidyE L)) := fun W hW => Tidy_any A n ca L W ((ra.below hW).more hW.size) (by simp only [maxLen]; omega)
    have k2 : ∀ W, Below w.heap.size w W → Calls Tryz.prog 15 #[.slice B m cb] W (RetCells W (tidyR M) (tidyE M)) := fun W hW => Tidy_any B m cb M W ((rb.below hW).more hW.size) (by simp only [maxLen]; omega)
    rcases tidy_two (L := L) (by omega) with ⟨-, a1⟩ | ⟨a0, a1, a2⟩
    · exact area_bad A B n m ca cb w hl _ _ _ _ (.inr a1) (by rcases tidy_two (L := M) (by omega) with h | h <;> simp [h.2]) (by rw [a1]; simp) k1 k2
    · rcases tidy_two (L := M) (by omega) with ⟨-, b1⟩ | ⟨b0, b1, b2⟩
      · exact area_bad A B n m ca cb w hl _ _ _ _ (.inl a1) (.inr b1) (by rw [b1]; simp) k1 k2
      · rw [a1, a2] at k1
        rw [b1, b2] at k2
        refine area_good A B n m ca cb w hl ((L ++ M).map blkOf) (by rw [List.length_map, List.length_append]; omega) _ _ (homog_cov ?_) (homog_cov ?_) k1 k2
        · intro x hx
          rw [List.map_append, List.mem_append]
          exact .inl hx
        · intro x hx
          rw [List.map_append, List.mem_append]
          exact .inr hx
  · exact area_early A B n m ca cb w bn bm hl
set_option maxRecDepth 100000 in
theorem area_lifted (os : Os) (started : os.Started) (H : Type) (enc : TypeId × Value → H) :
    ReturnsInHanded {} Tryz.checked os 4 .any (Rows.cellsAreaSpec.pre6 enc Tryz.prog Tryz.f4 Rows.cellsAreaRow.domain false) (Rows.cellsAreaSpec.post enc Tryz.prog Tryz.f4 false true false false) := by
  refine returnsInHanded_of_change_sized (C := Tryz.checked) Tryz.own started (by kernel_rfl) Tryz.func4
    (ChangeSpec.witness6 (enc := enc) (C := Tryz.checked) false ⟨#[], #[.slice none 0 0, .slice none 0 0], []⟩ 8 (by kernel_rfl) (by kernel_rfl) (by kernel_rfl) (by kernel_rfl)) ?_
  intro W base args ds gs before hval0 hW _ hsz _
  have hval : ∀ (j : Nat) t v, Tryz.f4.params[j]? = some t → args[j]? = some v → Value.okWide Tryz.prog W .any base t v := hval0
  have hW' := hW
  obtain ⟨p, q, hA0, hV, rfl, _, _⟩ := hW
  have hA : DataW.TrodAll enc Tryz.prog W 0 (fun _ => true) true Tryz.f4.params.toList args.toList ds p := hA0
  have hsz' : (DataW.weightsEach Tryz.prog (Tryz.f4.params.toList ++ Rows.cellsAreaSpec.plain.varTypes Tryz.prog) (ds ++ gs)).all (· ≤ reachBytes) = true := hsz
  rw [Tryz.params4] at hA hval hsz'
  obtain ⟨v0, v1, d0, d1, p0, p1, rfl, rfl, rfl, h0, h1⟩ := trodAll_two hA
  obtain ⟨rfl, rfl⟩ := trodVars_none hV
  obtain ⟨A, n, ca, L, rfl, ra, hn, hca⟩ := open_cells (hval 0 22 v0 rfl rfl) h0
  obtain ⟨B, m, cb, M, rfl, rb, hm, hcb⟩ := open_cells (hval 1 22 v1 rfl rfl) h1
  have bn := clen (j := 0) h0 hsz' rfl rfl
  have bm := clen (j := 1) h1 hsz' rfl rfl
  clear hA0 hval0 hsz hsz'
  simp only [List.append_nil] at hW'
  have hlt : ∀ x ∈ p0 ++ p1, x.block < W.heap.size := fun x hx => hW'.lt x hx
  refine (area_any A B n m ca cb L M W ra rb bn bm).mono fun e W' ⟨he, hb⟩ => ?_
  subst he
  exact ⟨_, rfl, post_of_below (pa := p0 ++ p1) (pv := []) hW' (fun _ _ _ => trodAll_mk1 (shut_bool Tryz.underlying4 true)) (fun sp hsp => by
    exact trodAll_mk2 (cells_stay h0 hb (fun x hx => hlt x (by simp [hx])) (fun p hp => hsp p (by simp [hp]))) (cells_stay h1 hb (fun x hx => hlt x (by simp [hx])) (fun p hp => hsp p (by simp [hp])))) (fun _ _ => rfl) (by simp) hb (ok_one (by kernel_rfl) rfl (okWide_bool_mk Tryz.underlying4 true))⟩
theorem area_holds : Rows.CellsAreaSaid :=
  OpenClaim.holds_of_wide 4 Tryz.f4 rfl rfl rfl rfl rfl rfl rfl ⟨rfl, rfl, rfl, rfl, rfl⟩ rfl rfl rfl rfl rfl (by kernel_rfl) Tryz.func4 (by kernel_rfl)
    (of_decide_eq_true (by kernel_rfl)) (by unfold Func.isWrapper; first | (rw [if_pos (by decide +kernel)]; kernel_rfl) | (rw [if_neg (by decide +kernel)]; exact ⟨rfl, rfl⟩))
    (fun os started H enc _ => area_lifted os started H enc)
#print axioms area_holds
end Go.Proofs.YtlhdneeiikemjaaGreat
