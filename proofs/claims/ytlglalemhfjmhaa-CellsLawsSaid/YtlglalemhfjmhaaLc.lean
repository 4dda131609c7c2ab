/- Proved: the law CellsLaws of layer 38 returns true for all three lists of cells (CellsLawsSaid). No condition. -/
import Derived.Test.YtlglalemhfjmhaaLb
import Derived.Test.YtlglalemhfjmhaaOpen
import Derived.SizedLaws
namespace Go.Proofs.Ytlglalemhfjmhaa
open Go.ChangeShapes Go.WideShapes Go.ChangeAt Go.RowKit Go.Joins Go.Deep
theorem tidy_or {L : List Cl} (h : L.length ≤ 100) : (badL L = true ∧ tidyE L = 1) ∨ (badL L = false ∧ tidyE L = 0 ∧ tidyR L = regB (fun q => Canon.covB (L.map blkOf) q)) := by
  cases hb : badL L with
  | true => exact .inl ⟨rfl, (tidyR_bad' hb).2⟩
  | false => exact .inr ⟨rfl, (tidy_reg hb (by omega)).2, (tidy_reg hb (by omega)).1⟩
set_option maxHeartbeats 1000000 in
set_option maxRecDepth 100000 in
theorem laws_any (A B C : Option Addr) (n m l ca cb cc : Nat) (L M K : List Cl) (w : World) (ra : Reads w w.heap.size 3 A n (cvs L)) (rb : Reads w w.heap.size 3 B m (cvs M)) (rc : Reads w w.heap.size 3 C l (cvs K)) (bn : n ≤ 140737488355328) (bm : m ≤ 140737488355328) (bl : l ≤ 140737488355328) :
    Calls Try.prog 5 #[.slice A n ca, .slice B m cb, .slice C l cc] w fun e w' => e = .returned (.bool true) ∧ Below w.heap.size w w' := by
  have l1 := ra.len
  have l2 := rb.len
  have l3 := rc.len
  by_cases hl : n + m + l ≤ 100
  · have k1 : ∀ W, Below w.heap.size w W → Calls Try.prog 15 #[.slice A n ca] W (RetCells W (tidyR L) (tidyE L)) := fun W hW => Tidy_any A n ca L W ((ra.below hW).more hW.size) (by simp only [maxLen]; omega)
    have k2 : ∀ W, Below w.heap.size w W → Calls Try.prog 15 #[.slice B m cb] W (RetCells W (tidyR M) (tidyE M)) := fun W hW => Tidy_any B m cb M W ((rb.below hW).more hW.size) (by simp only [maxLen]; omega)
    have k3 : ∀ W, Below w.heap.size w W → Calls Try.prog 15 #[.slice C l cc] W (RetCells W (tidyR K) (tidyE K)) := fun W hW => Tidy_any C l cc K W ((rc.below hW).more hW.size) (by simp only [maxLen]; omega)
    rcases tidy_or (L := L) (by omega) with ⟨-, a1⟩ | ⟨a0, a1, a2⟩
    · exact laws_bad A B C n m l ca cb cc w hl _ _ _ _ _ _ (.inr a1) (by rcases tidy_or (L := M) (by omega) with h | h <;> simp [h.2]) (by rcases tidy_or (L := K) (by omega) with h | h <;> simp [h.2]) (by rw [a1]; simp) k1 k2 k3
    · rcases tidy_or (L := M) (by omega) with ⟨-, b1⟩ | ⟨b0, b1, b2⟩
      · exact laws_bad A B C n m l ca cb cc w hl _ _ _ _ _ _ (.inl a1) (.inr b1) (by rcases tidy_or (L := K) (by omega) with h | h <;> simp [h.2]) (by rw [b1]; simp) k1 k2 k3
      · rcases tidy_or (L := K) (by omega) with ⟨-, c1⟩ | ⟨c0, c1, c2⟩
        · exact laws_bad A B C n m l ca cb cc w hl _ _ _ _ _ _ (.inl a1) (.inl b1) (.inr c1) (by rw [c1]; simp) k1 k2 k3
        · rw [a1, a2] at k1
          rw [b1, b2] at k2
          rw [c1, c2] at k3
          refine laws_good A B C n m l ca cb cc w hl (((L ++ M) ++ K).map blkOf) (by rw [List.length_map, List.length_append, List.length_append]; omega) _ _ _ (homog_cov ?_) (homog_cov ?_) (homog_cov ?_) k1 k2 k3
          · intro b hb
            rw [List.map_append, List.map_append, List.mem_append, List.mem_append]
            exact .inl (.inl hb)
          · intro b hb
            rw [List.map_append, List.map_append, List.mem_append, List.mem_append]
            exact .inl (.inr hb)
          · intro b hb
            rw [List.map_append, List.map_append, List.mem_append]
            exact .inr hb
  · have KA := Lib.hid (fun W => awake38 W)
    have hl2 : (100 : Int) < (n : Int) + (m : Int) + (l : Int) := by omega
    clear ra rb rc l1 l2 l3
    go_enter Try.func5, Try.ntmps5
    go_wp2_with fail
    (with_reducible refine (KA.out _).mono ?_)
    rintro e w1 ⟨rfl, hb1⟩
    go_wp2
    go_ret
    exact ⟨rfl, hb1⟩
theorem Try.bytesCell : Try.prog.bytesOf 32 = 24 := by kernel_rfl
/-- how long a slice of cells is, by its bytes -/
theorem cells_len {H : Type} {enc : TypeId × Value → H} {W : World} {A : Option Addr} {n ca : Nat} {d : DataW H} {ps : List MemPlace} {ts : List TypeId} {ds : List (DataW H)} {j : Nat}
    (h : DataW.Trod enc Try.prog W 0 (fun _ => true) true 22 (.slice A n ca) d ps) (hw : (DataW.weightsEach Try.prog ts ds).all (· ≤ reachBytes) = true) (ht : ts[j]? = some 22) (hd : ds[j]? = some d) : n ≤ 140737488355328 := by
  obtain ⟨fu, hf⟩ := h
  have hf' : DataW.trod enc Try.prog W 0 (fun _ => true) true fu 22 [.slice A n ca] = some (d, ps) := by simpa [Value.cells] using hf
  rcases open_slice Try.underlying22 hf' with ⟨h0, -⟩ | ⟨a', len', cap', m, n', D, Pl, hcs, hb, hl, hm, hmm, hx, hi⟩
  · cases h0
    omega
  · cases hcs
    injection hx with hx1 hx2
    subst hx1
    have := sized_slice hw ht hd Try.underlying22
    rw [Try.bytesCell, List.length_map, List.length_range] at this
    have h2 := reachBytes_lt
    omega
set_option maxRecDepth 100000 in
theorem laws_lifted (os : Os) (started : os.Started) (H : Type) (enc : TypeId × Value → H) :
    ReturnsInHanded {} Try.checked os 5 .any (Rows.cellsLawsSpec.pre6 enc Try.prog Try.f5 Rows.cellsLawsRow.domain false) (Rows.cellsLawsSpec.post enc Try.prog Try.f5 false true false false) := by
  refine returnsInHanded_of_change_sized (C := Try.checked) Try.own started (by kernel_rfl) Try.func5
    (ChangeSpec.witness6 (enc := enc) (C := Try.checked) false ⟨#[], #[.slice none 0 0, .slice none 0 0, .slice none 0 0], []⟩ 8 (by kernel_rfl) (by kernel_rfl) (by kernel_rfl) (by kernel_rfl)) ?_
  intro W base args ds gs before hval0 hW _ hsz _
  have hval : ∀ (j : Nat) t v, Try.f5.params[j]? = some t → args[j]? = some v → Value.okWide Try.prog W .any base t v := hval0
  have hW' := hW
  obtain ⟨p, q, hA0, hV, rfl, _, _⟩ := hW
  have hA : DataW.TrodAll enc Try.prog W 0 (fun _ => true) true Try.f5.params.toList args.toList ds p := hA0
  have hsz' : (DataW.weightsEach Try.prog (Try.f5.params.toList ++ Rows.cellsLawsSpec.plain.varTypes Try.prog) (ds ++ gs)).all (· ≤ reachBytes) = true := hsz
  rw [Try.params5] at hA hval hsz'
  obtain ⟨v0, v1, v2, d0, d1, d2, p0, p1, p2, rfl, rfl, rfl, h0, h1, h2⟩ := trodAll_three hA
  obtain ⟨rfl, rfl⟩ := trodVars_none hV
  obtain ⟨A, n, ca, L, rfl, ra, hn, hca⟩ := open_cells (hval 0 22 v0 rfl rfl) h0
  obtain ⟨B, m, cb, M, rfl, rb, hm, hcb⟩ := open_cells (hval 1 22 v1 rfl rfl) h1
  obtain ⟨C, l, cc, K, rfl, rc, hl, hcc⟩ := open_cells (hval 2 22 v2 rfl rfl) h2
  have bn := cells_len (j := 0) h0 hsz' rfl rfl
  have bm := cells_len (j := 1) h1 hsz' rfl rfl
  have bl := cells_len (j := 2) h2 hsz' rfl rfl
  clear hA0 hval0 hsz hsz'
  simp only [List.append_nil, List.append_assoc] at hW'
  have hlt : ∀ x ∈ p0 ++ (p1 ++ p2), x.block < W.heap.size := fun x hx => hW'.lt x hx
  refine (laws_any A B C n m l ca cb cc L M K W ra rb rc bn bm bl).mono fun e W' ⟨he, hb⟩ => ?_
  subst he
  exact ⟨_, rfl, post_of_below (pa := p0 ++ (p1 ++ p2)) (pv := []) hW' (fun _ _ _ => trodAll_mk1 (shut_bool Try.underlying4 true)) (fun sp hsp => trodAll_mk3 (cells_stay h0 hb (fun x hx => hlt x (by simp [hx])) (fun p hp => hsp p (by simp [hp]))) (cells_stay h1 hb (fun x hx => hlt x (by simp [hx])) (fun p hp => hsp p (by simp [hp]))) (cells_stay h2 hb (fun x hx => hlt x (by simp [hx])) (fun p hp => hsp p (by simp [hp])))) (fun _ _ => rfl) (by simp) hb (ok_one (by kernel_rfl) rfl (okWide_bool_mk Try.underlying4 true))⟩
theorem laws_holds : Rows.CellsLawsSaid :=
  OpenClaim.holds_of_wide 5 Try.f5 rfl rfl rfl rfl rfl rfl rfl ⟨rfl, rfl, rfl, rfl, rfl⟩ rfl rfl rfl rfl rfl (by kernel_rfl) Try.func5 (by kernel_rfl)
    (of_decide_eq_true (by kernel_rfl)) (by unfold Func.isWrapper; first | (rw [if_pos (by decide +kernel)]; kernel_rfl) | (rw [if_neg (by decide +kernel)]; exact ⟨rfl, rfl⟩))
    (fun os started H enc _ => laws_lifted os started H enc)
#print axioms laws_holds
end Go.Proofs.Ytlglalemhfjmhaa
