/- Proved: the law FixReaches of layer 40 returns true for every list of cells and all points (FixReachesSaid). No condition. -/
import Derived.Carry
import Derived.DataShut
import Derived.SizedLaws
import Derived.Test.YtifdgdgfmjfbdaaGreatIHr
set_option linter.unusedVariables false
set_option linter.unusedSimpArgs false
namespace Go.Proofs.YtifdgdgfmjfbdaaGreat
open Go.ChangeShapes Go.WideShapes Go.ChangeAt Go.RowKit Go.Joins Go.Deep
theorem Tryz.cellsPt8 : Tryz.prog.cellsOf 24 = 2 := by kernel_rfl
set_option maxRecDepth 100000 in
theorem fixReaches_lifted (os : Os) (started : os.Started) (H : Type) (enc : TypeId × Value → H) :
    ReturnsInHanded {} Tryz.checked os 6 .any (Rows.fixReachesSpec.pre6 enc Tryz.prog Tryz.f6 Rows.fixReachesRow.domain false) (Rows.fixReachesSpec.post enc Tryz.prog Tryz.f6 false true false false) := by
  refine returnsInHanded_of_change (C := Tryz.checked) Tryz.own started (by kernel_rfl) Tryz.func6
    (ChangeSpec.witness6 (enc := enc) (C := Tryz.checked) false ⟨#[], #[.slice none 0 0, .agg #[.int .i64 0, .int .i64 0], .agg #[.int .i64 0, .int .i64 0]], []⟩ 8 (by kernel_rfl) (by kernel_rfl) (by kernel_rfl) (by kernel_rfl)) ?_
  intro W base args ds gs before hval0 hW _ _
  have hval : ∀ (j : Nat) t v, Tryz.f6.params[j]? = some t → args[j]? = some v → Value.okWide Tryz.prog W .any base t v := hval0
  have hW' := hW
  obtain ⟨p, q, hA0, hV, rfl, _, _⟩ := hW
  have hA : DataW.TrodAll enc Tryz.prog W 0 (fun _ => true) true Tryz.f6.params.toList args.toList ds p := hA0
  rw [Tryz.params6] at hA hval
  obtain ⟨v0, v1, v2, d0, d1, d2, p0, p1, p2, rfl, rfl, rfl, h0, h1, h2⟩ := trodAll_three hA
  obtain ⟨rfl, rfl⟩ := trodVars_none hV
  obtain ⟨B, m, cb, L, rfl, rb, hm, hcb⟩ := open_cells (hval 0 48 v0 rfl rfl) h0
  obtain ⟨g0, g1, z0, z1, n2, hv1, -, -, hz0, hz1⟩ := open_agg2 Tryz.underlying24 (by kernel_rfl) Tryz.cellsPt8 (hval 1 24 v1 rfl rfl) h1
  obtain ⟨a, e1, -, -⟩ := DataW.trod_int Tryz.underlying3 hz0
  obtain ⟨b, e2, -, -⟩ := DataW.trod_int Tryz.underlying3 hz1
  simp at e1 e2
  subst e1 e2 hv1
  obtain ⟨g0', g1', z0', z1', n2', hv2, -, -, hz0', hz1'⟩ := open_agg2 Tryz.underlying24 (by kernel_rfl) Tryz.cellsPt8 (hval 2 24 v2 rfl rfl) h2
  obtain ⟨a', e1, -, -⟩ := DataW.trod_int Tryz.underlying3 hz0'
  obtain ⟨b', e2, -, -⟩ := DataW.trod_int Tryz.underlying3 hz1'
  simp at e1 e2
  subst e1 e2 hv2
  clear hA0 hval0
  simp only [List.append_nil, List.append_assoc] at hW'
  have hlt : ∀ x ∈ p0 ++ (p1 ++ p2), x.block < W.heap.size := fun x hx => hW'.lt x hx
  refine (fixReaches_any B m cb L a b a' b' W rb (Nat.le_trans hm hcb)).mono fun e W' ⟨he, hb⟩ => ?_
  subst he
  exact ⟨_, rfl, post_of_below (pa := p0 ++ (p1 ++ p2)) (pv := []) hW' (fun _ _ _ => trodAll_mk1 (shut_bool Tryz.underlying4 true)) (fun sp hsp => trodAll_mk3 (cells_stay h0 hb (fun x hx => hlt x (by simp [hx])) (fun p hp => hsp p (by simp [hp]))) (point_stay h1 hb (fun x hx => hlt x (by simp [hx])) (fun p hp => hsp p (by simp [hp]))) (point_stay h2 hb (fun x hx => hlt x (by simp [hx])) (fun p hp => hsp p (by simp [hp])))) (fun _ _ => rfl) (by simp) hb (ok_one (by kernel_rfl) rfl (okWide_bool_mk Tryz.underlying4 true))⟩
theorem fixReaches_named : Tryz.pinned.checked.prog.funcNamed Rows.fixReachesRow.func = some 6 := by kernel_rfl
theorem fixReaches_facts : joinedFacts Tryz.pinned.checked.prog 6 Tryz.f6 Rows.fixReachesSpec Rows.fixReachesRow = true := by kernel_rfl
theorem fixReaches_holds : Rows.FixReachesSaid :=
  OpenClaim.holds_of_wide 6 Tryz.f6 rfl rfl rfl rfl rfl rfl rfl ⟨rfl, rfl, rfl, rfl, rfl⟩ rfl rfl rfl rfl rfl fixReaches_named Tryz.func6 fixReaches_facts
    (of_decide_eq_true (by kernel_rfl)) (by unfold Func.isWrapper; first | (rw [if_pos (by decide +kernel)]; kernel_rfl) | (rw [if_neg (by decide +kernel)]; exact ⟨rfl, rfl⟩))
    (fun os started H enc _ => fixReaches_lifted os started H enc)
#print axioms fixReaches_holds
end Go.Proofs.YtifdgdgfmjfbdaaGreat
