/- Proved: the law AdvanceCells of layer 47 returns true for every cell and every movement (AdvanceCellsSaid). No condition. -/
import Derived.Test.YtlhdneeiikemjaaGreatGZo
import Derived.Test.YtlhdneeiikemjaaGreatGYf
set_option linter.unusedVariables false
set_option linter.unusedSimpArgs false
namespace Go.Proofs.YtlhdneeiikemjaaGreat
open Go.ChangeShapes Go.WideShapes Go.ChangeAt Go.RowKit Go.Joins
theorem Tryz.cellsCell : Tryz.prog.cellsOf 39 = 3 := by kernel_rfl
theorem Tryz.cellsArc : Tryz.prog.cellsOf 46 = 2 := by kernel_rfl
set_option maxRecDepth 100000 in
theorem advance_lifted (os : Os) (started : os.Started) (H : Type) (enc : TypeId × Value → H) :
    ReturnsInHanded {} Tryz.checked os 5 .any (Rows.advanceCellsSpec.pre6 enc Tryz.prog Tryz.f5 Rows.advanceCellsRow.domain false) (Rows.advanceCellsSpec.post enc Tryz.prog Tryz.f5 false true false false) := by
  refine returnsInHanded_of_change (C := Tryz.checked) Tryz.own started (by kernel_rfl) Tryz.func5
    (ChangeSpec.witness6 (enc := enc) (C := Tryz.checked) false ⟨#[], #[.agg #[.int .i64 0, .int .i64 0, .int .i64 0], .agg #[.int .i64 0, .int .i64 0], .agg #[.int .i64 0, .int .i64 0]], []⟩ 8 (by kernel_rfl) (by kernel_rfl) (by kernel_rfl) (by kernel_rfl)) ?_
  intro W base args ds gs before hval0 hW _ _
  have hval : ∀ (j : Nat) t v, Tryz.f5.params[j]? = some t → args[j]? = some v → Value.okWide Tryz.prog W .any base t v := hval0
  have hW' := hW
  obtain ⟨p, q, hA0, hV, rfl, _, _⟩ := hW
  have hA : DataW.TrodAll enc Tryz.prog W 0 (fun _ => true) true Tryz.f5.params.toList args.toList ds p := hA0
  rw [Tryz.params5] at hA hval
  obtain ⟨v0, v1, v2, d0, d1, d2, p0, p1, p2, rfl, rfl, rfl, h0, h1, h2⟩ := trodAll_three hA
  obtain ⟨rfl, rfl⟩ := trodVars_none hV
  obtain ⟨c0, c1, c2, y0, y1, y2, m, rfl, rfl, rfl, hy0, hy1, hy2⟩ := open_agg3 Tryz.underlying39 (by kernel_rfl) Tryz.cellsCell (hval 0 39 v0 rfl rfl) h0
  obtain ⟨l, e0, rfl, wl⟩ := DataW.trod_int Tryz.underlying3 hy0
  obtain ⟨r, e1, rfl, wr⟩ := DataW.trod_int Tryz.underlying3 hy1
  obtain ⟨c, e2, rfl, wc⟩ := DataW.trod_int Tryz.underlying3 hy2
  obtain ⟨g0, g1, z0, z1, n, rfl, rfl, rfl, hz0, hz1⟩ := open_agg2 Tryz.underlying46 (by kernel_rfl) Tryz.cellsArc (hval 1 46 v1 rfl rfl) h1
  obtain ⟨a, e3, rfl, wa⟩ := DataW.trod_int Tryz.underlying3 hz0
  obtain ⟨b, e4, rfl, wb⟩ := DataW.trod_int Tryz.underlying3 hz1
  obtain ⟨g2, g3, z2, z3, n2, rfl, rfl, rfl, hz2, hz3⟩ := open_agg2 Tryz.underlying46 (by kernel_rfl) Tryz.cellsArc (hval 2 46 v2 rfl rfl) h2
  obtain ⟨x, e5, rfl, wx⟩ := DataW.trod_int Tryz.underlying3 hz2
  obtain ⟨y, e6, rfl, wy⟩ := DataW.trod_int Tryz.underlying3 hz3
  simp at e0 e1 e2 e3 e4 e5 e6
  subst e0 e1 e2 e3 e4 e5 e6
  clear hA0 hval0
  simp only [List.append_nil] at hW'
  have rd1 : ∀ (W' : World) (sp : Nat → Bool), DataW.Trod enc Tryz.prog W' 0 sp true 39 (.agg #[.int .i64 l, .int .i64 r, .int .i64 c]) (.agg [.lit (.int .i64 l), .lit (.int .i64 r), .lit (.int .i64 c)]) [] := fun W' sp =>
    shut_agg3 (y0 := (.lit (.int .i64 l), [])) (y1 := (.lit (.int .i64 r), [])) (y2 := (.lit (.int .i64 c), [])) Tryz.underlying39 (by kernel_rfl) Tryz.cellsCell ⟨1, by simp [DataW.trod, Tryz.underlying3, wl]⟩ ⟨1, by simp [DataW.trod, Tryz.underlying3, wr]⟩ ⟨1, by simp [DataW.trod, Tryz.underlying3, wc]⟩
  have rd2 : ∀ (W' : World) (sp : Nat → Bool), DataW.Trod enc Tryz.prog W' 0 sp true 46 (.agg #[.int .i64 a, .int .i64 b]) (.agg [.lit (.int .i64 a), .lit (.int .i64 b)]) [] := fun W' sp =>
    shut_agg2 (y0 := (.lit (.int .i64 a), [])) (y1 := (.lit (.int .i64 b), [])) Tryz.underlying46 (by kernel_rfl) Tryz.cellsArc ⟨1, by simp [DataW.trod, Tryz.underlying3, wa]⟩ ⟨1, by simp [DataW.trod, Tryz.underlying3, wb]⟩
  have rd3 : ∀ (W' : World) (sp : Nat → Bool), DataW.Trod enc Tryz.prog W' 0 sp true 46 (.agg #[.int .i64 x, .int .i64 y]) (.agg [.lit (.int .i64 x), .lit (.int .i64 y)]) [] := fun W' sp =>
    shut_agg2 (y0 := (.lit (.int .i64 x), [])) (y1 := (.lit (.int .i64 y), [])) Tryz.underlying46 (by kernel_rfl) Tryz.cellsArc ⟨1, by simp [DataW.trod, Tryz.underlying3, wx]⟩ ⟨1, by simp [DataW.trod, Tryz.underlying3, wy]⟩
  refine (adv_any l r c a b x y W).mono fun e W' ⟨he, hb⟩ => ?_
  subst he
  exact ⟨_, rfl, post_of_below (pa := []) (pv := []) hW' (fun _ _ _ => trodAll_mk1 (shut_bool Tryz.underlying4 true)) (fun sp _ => trodAll_mk3 (rd1 _ sp) (rd2 _ sp) (rd3 _ sp)) (fun _ _ => rfl) rfl hb (ok_one (by kernel_rfl) rfl (okWide_bool_mk Tryz.underlying4 true))⟩
theorem advance_holds : Rows.AdvanceCellsSaid :=
  OpenClaim.holds_of_wide 5 Tryz.f5 rfl rfl rfl rfl rfl rfl rfl ⟨rfl, rfl, rfl, rfl, rfl⟩ rfl rfl rfl rfl rfl (by kernel_rfl) Tryz.func5 (by kernel_rfl)
    (of_decide_eq_true (by kernel_rfl)) (by unfold Func.isWrapper; first | (rw [if_pos (by decide +kernel)]; kernel_rfl) | (rw [if_neg (by decide +kernel)]; exact ⟨rfl, rfl⟩))
    (fun os started H enc _ => advance_lifted os started H enc)
#print axioms advance_holds
end Go.Proofs.YtlhdneeiikemjaaGreat
