/- Proved: the law CellsPoints of layer 38 returns true for both lists of cells and every point (CellsPointsSaid). No condition. -/
import Derived.Test.YtlglalemhfjmhaaPd
import Derived.Test.YtlglalemhfjmhaaCo
namespace Go.Proofs.Ytlglalemhfjmhaa
open Go.ChangeShapes Go.WideShapes Go.ChangeAt Go.RowKit Go.Joins Go.Deep
theorem points_any (A B : Option Addr) (n m ca cb : Nat) (L M : List Cl) (a b : Int) (w : World) (ra : Reads w w.heap.size 3 A n (cvs L)) (rb : Reads w w.heap.size 3 B m (cvs M)) (bn : n ≤ 140737488355328) (bm : m ≤ 140737488355328) :
    Calls Try.prog 6 #[.slice A n ca, .slice B m cb, .agg #[.int .i64 a, .int .i64 b]] w fun e w' => e = .returned (.bool true) ∧ Below w.heap.size w w' := by
  have l1 := ra.len
  have l2 := rb.len
  by_cases hl : n + m ≤ 100
  · cases hp : vptB a b with
    | false => exact points_early A B n m ca cb a b w bn bm (.inr hp)
    | true =>
      have k1 : ∀ W, Below w.heap.size w W → Calls Try.prog 15 #[.slice A n ca] W (RetCells W (tidyR L) (tidyE L)) := fun W hW => Tidy_any A n ca L W ((ra.below hW).more hW.size) (by simp only [maxLen]; omega)
      have k2 : ∀ W, Below w.heap.size w W → Calls Try.prog 15 #[.slice B m cb] W (RetCells W (tidyR M) (tidyE M)) := fun W hW => Tidy_any B m cb M W ((rb.below hW).more hW.size) (by simp only [maxLen]; omega)
      rcases tidy_two (L := L) (by omega) with ⟨-, a1⟩ | ⟨a0, a1, a2⟩
      · exact points_bad A B n m ca cb a b w hl hp _ _ _ _ (.inr a1) (by rcases tidy_two (L := M) (by omega) with h | h <;> simp [h.2]) (by rw [a1]; simp) k1 k2
      · rcases tidy_two (L := M) (by omega) with ⟨-, b1⟩ | ⟨b0, b1, b2⟩
        · exact points_bad A B n m ca cb a b w hl hp _ _ _ _ (.inl a1) (.inr b1) (by rw [b1]; simp) k1 k2
        · rw [a1, a2] at k1
          rw [b1, b2] at k2
          refine points_good A B n m ca cb a b w hl hp ((L ++ M).map blkOf) (by rw [List.length_map, List.length_append]; omega) _ _ (homog_cov ?_) (homog_cov ?_) k1 k2
          · intro x hx
            rw [List.map_append, List.mem_append]
            exact .inl hx
          · intro x hx
            rw [List.map_append, List.mem_append]
            exact .inr hx
  · exact points_early A B n m ca cb a b w bn bm (.inl hl)
set_option maxRecDepth 100000 in
theorem points_lifted (os : Os) (started : os.Started) (H : Type) (enc : TypeId × Value → H) :
    ReturnsInHanded {} Try.checked os 6 .any (Rows.cellsPointsSpec.pre6 enc Try.prog Try.f6 Rows.cellsPointsRow.domain false) (Rows.cellsPointsSpec.post enc Try.prog Try.f6 false true false false) := by
  refine returnsInHanded_of_change_sized (C := Try.checked) Try.own started (by kernel_rfl) Try.func6
    (ChangeSpec.witness6 (enc := enc) (C := Try.checked) false ⟨#[], #[.slice none 0 0, .slice none 0 0, .agg #[.int .i64 0, .int .i64 0]], []⟩ 8 (by kernel_rfl) (by kernel_rfl) (by kernel_rfl) (by kernel_rfl)) ?_
  intro W base args ds gs before hval0 hW _ hsz _
  have hval : ∀ (j : Nat) t v, Try.f6.params[j]? = some t → args[j]? = some v → Value.okWide Try.prog W .any base t v := hval0
  have hW' := hW
  obtain ⟨p, q, hA0, hV, rfl, _, _⟩ := hW
  have hA : DataW.TrodAll enc Try.prog W 0 (fun _ => true) true Try.f6.params.toList args.toList ds p := hA0
  have hsz' : (DataW.weightsEach Try.prog (Try.f6.params.toList ++ Rows.cellsPointsSpec.plain.varTypes Try.prog) (ds ++ gs)).all (· ≤ reachBytes) = true := hsz
  rw [Try.params6] at hA hval hsz'
  obtain ⟨v0, v1, v2, d0, d1, d2, p0, p1, p2, rfl, rfl, rfl, h0, h1, h2⟩ := trodAll_three hA
  obtain ⟨rfl, rfl⟩ := trodVars_none hV
  obtain ⟨A, n, ca, L, rfl, ra, hn, hca⟩ := open_cells (hval 0 22 v0 rfl rfl) h0
  obtain ⟨B, m, cb, M, rfl, rb, hm, hcb⟩ := open_cells (hval 1 22 v1 rfl rfl) h1
  have bn := clen (j := 0) h0 hsz' rfl rfl
  have bm := clen (j := 1) h1 hsz' rfl rfl
  obtain ⟨g0, g1, z0, z1, n2, rfl, rfl, rfl, hz0, hz1⟩ := open_agg2 Try.underlying34 (by kernel_rfl) Try.cells2 (hval 2 34 v2 rfl rfl) h2
  obtain ⟨a, e3, rfl, wa⟩ := DataW.trod_int Try.underlying3 hz0
  obtain ⟨b, e4, rfl, wb⟩ := DataW.trod_int Try.underlying3 hz1
  simp at e3 e4
  subst e3 e4
  clear hA0 hval0 hsz hsz'
  simp only [List.append_nil] at hW'
  have hlt : ∀ x ∈ p0 ++ p1, x.block < W.heap.size := fun x hx => hW'.lt x hx
  have rd2 : ∀ (W' : World) (sp : Nat → Bool), DataW.Trod enc Try.prog W' 0 sp true 34 (.agg #[.int .i64 a, .int .i64 b]) (.agg [.lit (.int .i64 a), .lit (.int .i64 b)]) [] := fun W' sp =>
    shut_agg2 (y0 := (.lit (.int .i64 a), [])) (y1 := (.lit (.int .i64 b), [])) Try.underlying34 (by kernel_rfl) Try.cells2 ⟨1, by simp [DataW.trod, Try.underlying3, wa]⟩ ⟨1, by simp [DataW.trod, Try.underlying3, wb]⟩
  refine (points_any A B n m ca cb L M a b W ra rb bn bm).mono fun e W' ⟨he, hb⟩ => ?_
  subst he
  exact ⟨_, rfl, post_of_below (pa := p0 ++ p1) (pv := []) hW' (fun _ _ _ => trodAll_mk1 (shut_bool Try.underlying4 true)) (fun sp hsp => by
    have := trodAll_mk3 (cells_stay h0 hb (fun x hx => hlt x (by simp [hx])) (fun p hp => hsp p (by simp [hp]))) (cells_stay h1 hb (fun x hx => hlt x (by simp [hx])) (fun p hp => hsp p (by simp [hp]))) (rd2 W' sp)
    rw [List.append_nil] at this
    exact this) (fun _ _ => rfl) (by simp) hb (ok_one (by kernel_rfl) rfl (okWide_bool_mk Try.underlying4 true))⟩
theorem points_holds : Rows.CellsPointsSaid :=
  OpenClaim.holds_of_wide 6 Try.f6 rfl rfl rfl rfl rfl rfl rfl ⟨rfl, rfl, rfl, rfl, rfl⟩ rfl rfl rfl rfl rfl (by kernel_rfl) Try.func6 (by kernel_rfl)
    (of_decide_eq_true (by kernel_rfl)) (by unfold Func.isWrapper; first | (rw [if_pos (by decide +kernel)]; kernel_rfl) | (rw [if_neg (by decide +kernel)]; exact ⟨rfl, rfl⟩))
    (fun os started H enc _ => points_lifted os started H enc)
#print axioms points_holds
end Go.Proofs.Ytlglalemhfjmhaa
