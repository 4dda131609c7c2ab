/- Proved: the law CellsFamily of layer 38 returns true for every cell, point and both levels (CellsFamilySaid). No condition. -/
import Derived.Test.YtlglalemhfjmhaaQc
import Derived.Test.YtlglalemhfjmhaaClose
import Derived.DataShut
namespace Go.Proofs.Ytlglalemhfjmhaa
open Go.ChangeShapes Go.WideShapes Go.ChangeAt Go.RowKit Go.Joins
theorem Try.cellsCellQ : Try.prog.cellsOf 32 = 3 := by kernel_rfl
theorem Try.cellsPointQ : Try.prog.cellsOf 34 = 2 := by kernel_rfl
set_option maxRecDepth 100000 in
theorem family_lifted (os : Os) (started : os.Started) (H : Type) (enc : TypeId × Value → H) :
    ReturnsInHanded {} Try.checked os 7 .any (Rows.cellsFamilySpec.pre6 enc Try.prog Try.f7 Rows.cellsFamilyRow.domain false) (Rows.cellsFamilySpec.post enc Try.prog Try.f7 false true false false) := by
  refine returnsInHanded_of_change (C := Try.checked) Try.own started (by kernel_rfl) Try.func7
    (ChangeSpec.witness6 (enc := enc) (C := Try.checked) false ⟨#[], #[.agg #[.int .i64 0, .int .i64 0, .int .i64 0], .agg #[.int .i64 0, .int .i64 0], .int .u8 0, .int .u8 0], []⟩ 8 (by kernel_rfl) (by kernel_rfl) (by kernel_rfl) (by kernel_rfl)) ?_
  intro W base args ds gs before hval0 hW _ _
  have hval : ∀ (j : Nat) t v, Try.f7.params[j]? = some t → args[j]? = some v → Value.okWide Try.prog W .any base t v := hval0
  have hW' := hW
  obtain ⟨p, q, hA0, hV, rfl, _, _⟩ := hW
  have hA : DataW.TrodAll enc Try.prog W 0 (fun _ => true) true Try.f7.params.toList args.toList ds p := hA0
  rw [Try.params7] at hA hval
  obtain ⟨v0, v1, v2, v3, d0, d1, d2, d3, p0, p1, p2, p3, rfl, rfl, rfl, h0, h1, h2, h3⟩ := trodAll_four hA
  obtain ⟨rfl, rfl⟩ := trodVars_none hV
  obtain ⟨c0, c1, c2, y0, y1, y2, m, rfl, rfl, rfl, hy0, hy1, hy2⟩ := open_agg3 Try.underlying32 (by kernel_rfl) Try.cellsCellQ (hval 0 32 v0 rfl rfl) h0
  obtain ⟨l, e0, rfl, wl⟩ := DataW.trod_int Try.underlying3 hy0
  obtain ⟨r, e1, rfl, wr⟩ := DataW.trod_int Try.underlying3 hy1
  obtain ⟨c, e2, rfl, wc⟩ := DataW.trod_int Try.underlying3 hy2
  obtain ⟨g0, g1, z0, z1, n, rfl, rfl, rfl, hz0, hz1⟩ := open_agg2 Try.underlying34 (by kernel_rfl) Try.cellsPointQ (hval 1 34 v1 rfl rfl) h1
  obtain ⟨a, e3, rfl, wa⟩ := DataW.trod_int Try.underlying3 hz0
  obtain ⟨b, e4, rfl, wb⟩ := DataW.trod_int Try.underlying3 hz1
  obtain ⟨x, rfl, rfl, rfl, wx⟩ := open_int Try.underlying5 (hval 2 5 v2 rfl rfl) h2
  obtain ⟨y, rfl, rfl, rfl, wy⟩ := open_int Try.underlying5 (hval 3 5 v3 rfl rfl) h3
  simp at e0 e1 e2 e3 e4
  subst e0 e1 e2 e3 e4
  clear hA0 hval0
  simp only [List.append_nil] at hW'
  have bx : 0 ≤ x ∧ x ≤ 255 := by have := (Lit.wf_int_iff _ _).1 wx; rw [show IntKind.u8.min = 0 from rfl, show IntKind.u8.max = 255 from rfl] at this; exact this
  have by' : 0 ≤ y ∧ y ≤ 255 := by have := (Lit.wf_int_iff _ _).1 wy; rw [show IntKind.u8.min = 0 from rfl, show IntKind.u8.max = 255 from rfl] at this; exact this
  have rd1 : ∀ (W' : World) (sp : Nat → Bool), DataW.Trod enc Try.prog W' 0 sp true 32 (.agg #[.int .i64 l, .int .i64 r, .int .i64 c]) (.agg [.lit (.int .i64 l), .lit (.int .i64 r), .lit (.int .i64 c)]) [] := fun W' sp =>
    shut_agg3 (y0 := (.lit (.int .i64 l), [])) (y1 := (.lit (.int .i64 r), [])) (y2 := (.lit (.int .i64 c), [])) Try.underlying32 (by kernel_rfl) Try.cellsCellQ ⟨1, by simp [DataW.trod, Try.underlying3, wl]⟩ ⟨1, by simp [DataW.trod, Try.underlying3, wr]⟩ ⟨1, by simp [DataW.trod, Try.underlying3, wc]⟩
  have rd2 : ∀ (W' : World) (sp : Nat → Bool), DataW.Trod enc Try.prog W' 0 sp true 34 (.agg #[.int .i64 a, .int .i64 b]) (.agg [.lit (.int .i64 a), .lit (.int .i64 b)]) [] := fun W' sp =>
    shut_agg2 (y0 := (.lit (.int .i64 a), [])) (y1 := (.lit (.int .i64 b), [])) Try.underlying34 (by kernel_rfl) Try.cellsPointQ ⟨1, by simp [DataW.trod, Try.underlying3, wa]⟩ ⟨1, by simp [DataW.trod, Try.underlying3, wb]⟩
  refine (family_any l r c a b x y W bx.1 bx.2 by'.1 by'.2).mono fun e W' ⟨he, hb⟩ => ?_
  subst he
  exact ⟨_, rfl, post_of_below (pa := []) (pv := []) hW' (fun _ _ _ => trodAll_mk1 (shut_bool Try.underlying4 true)) (fun sp _ => trodAll_mk4 (rd1 _ sp) (rd2 _ sp) (shut_int Try.underlying5 wx) (shut_int Try.underlying5 wy)) (fun _ _ => rfl) rfl hb (ok_one (by kernel_rfl) rfl (okWide_bool_mk Try.underlying4 true))⟩
theorem family_holds : Rows.CellsFamilySaid :=
  OpenClaim.holds_of_wide 7 Try.f7 rfl rfl rfl rfl rfl rfl rfl ⟨rfl, rfl, rfl, rfl, rfl⟩ rfl rfl rfl rfl rfl (by kernel_rfl) Try.func7 (by kernel_rfl)
    (of_decide_eq_true (by kernel_rfl)) (by unfold Func.isWrapper; first | (rw [if_pos (by decide +kernel)]; kernel_rfl) | (rw [if_neg (by decide +kernel)]; exact ⟨rfl, rfl⟩))
    (fun os started H enc _ => family_lifted os started H enc)
#print axioms family_holds
end Go.Proofs.Ytlglalemhfjmhaa
