/- Proved: the law RegionLevels of layer 39 returns true for every list of circles, every start, and all levels (RegionLevelsSaid). No condition. -/
import Derived.Carry
import Derived.DataShut
import Derived.SizedLaws
import Derived.Test.YtpemohoibeipfaaGreatHNq
set_option linter.unusedVariables false
set_option linter.unusedSimpArgs false
namespace Go.Proofs.YtpemohoibeipfaaGreat
open Go.ChangeShapes Go.WideShapes Go.ChangeAt Go.RowKit Go.Joins Go.Deep
set_option maxRecDepth 100000 in
theorem regionLevels_lifted (os : Os) (started : os.Started) (H : Type) (enc : TypeId × Value → H) :
    ReturnsInHanded {} Tryz.checked os 5 .any (Rows.regionLevelsSpec.pre6 enc Tryz.prog Tryz.f5 Rows.regionLevelsRow.domain false) (Rows.regionLevelsSpec.post enc Tryz.prog Tryz.f5 false true false false) := by
  refine returnsInHanded_of_change (C := Tryz.checked) Tryz.own started (by kernel_rfl) Tryz.func5
    (ChangeSpec.witness6 (enc := enc) (C := Tryz.checked) false ⟨#[], #[.slice none 0 0, .slice none 0 0, .int .u8 0, .int .u8 0], []⟩ 8 (by kernel_rfl) (by kernel_rfl) (by kernel_rfl) (by kernel_rfl)) ?_
  intro W base args ds gs before hval0 hW _ _
  have hval : ∀ (j : Nat) t v, Tryz.f5.params[j]? = some t → args[j]? = some v → Value.okWide Tryz.prog W .any base t v := hval0
  have hW' := hW
  obtain ⟨p, q, hA0, hV, rfl, _, _⟩ := hW
  have hA : DataW.TrodAll enc Tryz.prog W 0 (fun _ => true) true Tryz.f5.params.toList args.toList ds p := hA0
  rw [Tryz.params5] at hA hval
  obtain ⟨v0, v1, v2, v3, d0, d1, d2, d3, p0, p1, p2, p3, rfl, rfl, rfl, h0, h1, h2, h3⟩ := trodAll_four hA
  obtain ⟨rfl, rfl⟩ := trodVars_none hV
  obtain ⟨A, n, ca, K, rfl, ra, hn, hca⟩ := open_circles (hval 0 30 v0 rfl rfl) h0
  obtain ⟨B, m, cb, L, rfl, rb, hm, hcb⟩ := open_cells (hval 1 26 v1 rfl rfl) h1
  obtain ⟨lev, rfl, rfl, rfl, wlev⟩ := open_int Tryz.underlying5 (hval 2 5 v2 rfl rfl) h2
  have blev : 0 ≤ lev ∧ lev ≤ 255 := by have := (Lit.wf_int_iff _ _).1 wlev; rw [show IntKind.u8.min = 0 from rfl, show IntKind.u8.max = 255 from rfl] at this; exact this
  obtain ⟨fn, rfl, rfl, rfl, wfn⟩ := open_int Tryz.underlying5 (hval 3 5 v3 rfl rfl) h3
  have bfn : 0 ≤ fn ∧ fn ≤ 255 := by have := (Lit.wf_int_iff _ _).1 wfn; rw [show IntKind.u8.min = 0 from rfl, show IntKind.u8.max = 255 from rfl] at this; exact this
  clear hA0 hval0
  simp only [List.append_nil] at hW'
  have hlt : ∀ x ∈ p0 ++ p1, x.block < W.heap.size := fun x hx => hW'.lt x hx
  refine (regionLevels_any A n ca K B m cb L lev fn W ra hn hca rb hm hcb blev.1 blev.2 bfn.1 bfn.2).mono fun e W' ⟨he, hb⟩ => ?_
  subst he
  exact ⟨_, rfl, post_of_below (pa := p0 ++ p1) (pv := []) hW' (fun _ _ _ => trodAll_mk1 (shut_bool Tryz.underlying4 true)) (fun sp hsp => by
    have := trodAll_mk4 (circles_stay h0 hb (fun x hx => hlt x (by simp [hx])) (fun p hp => hsp p (by simp [hp]))) (cells_stay h1 hb (fun x hx => hlt x (by simp [hx])) (fun p hp => hsp p (by simp [hp]))) (shut_int (enc := enc) (w := W') (base := 0) (spare := sp) (held := true) Tryz.underlying5 wlev) (shut_int (enc := enc) (w := W') (base := 0) (spare := sp) (held := true) Tryz.underlying5 wfn)
    rw [show p0 ++ (p1 ++ ([] ++ [])) = p0 ++ p1 by simp] at this
    exact this) (fun _ _ => rfl) (by simp) hb (ok_one (by kernel_rfl) rfl (okWide_bool_mk Tryz.underlying4 true))⟩
theorem regionLevels_named : Tryz.pinned.checked.prog.funcNamed Rows.regionLevelsRow.func = some 5 := by kernel_rfl
theorem regionLevels_facts : joinedFacts Tryz.pinned.checked.prog 5 Tryz.f5 Rows.regionLevelsSpec Rows.regionLevelsRow = true := by kernel_rfl
theorem regionLevels_holds : Rows.RegionLevelsSaid :=
  OpenClaim.holds_of_wide 5 Tryz.f5 rfl rfl rfl rfl rfl rfl rfl ⟨rfl, rfl, rfl, rfl, rfl⟩ rfl rfl rfl rfl rfl regionLevels_named Tryz.func5 regionLevels_facts
    (of_decide_eq_true (by kernel_rfl)) (by unfold Func.isWrapper; first | (rw [if_pos (by decide +kernel)]; kernel_rfl) | (rw [if_neg (by decide +kernel)]; exact ⟨rfl, rfl⟩))
    (fun os started H enc _ => regionLevels_lifted os started H enc)
#print axioms regionLevels_holds
end Go.Proofs.YtpemohoibeipfaaGreat
