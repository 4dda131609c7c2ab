/- Proved: the law CellsForms of layer 38 returns true for every cell, point and level (CellsFormsSaid). No condition. -/
import Derived.Test.YtlglalemhfjmhaaFormsNo
import Derived.Test.YtlglalemhfjmhaaFormsTop
import Derived.Test.YtlglalemhfjmhaaFormsMid
import Derived.Test.YtlglalemhfjmhaaFormsLow
import Derived.Test.YtlglalemhfjmhaaClose
namespace Go.Proofs.Ytlglalemhfjmhaa
open Go.ChangeShapes Go.WideShapes Go.ChangeAt Go.RowKit Go.Joins
theorem forms_any (l r c a b l' : Int) (w : World) :
    Calls Try.prog 4 #[.agg #[.int .i64 l, .int .i64 r, .int .i64 c], .agg #[.int .i64 a, .int .i64 b], .int .i64 l'] w fun e w' => e = .returned (.bool true) ∧ Below w.heap.size w w' := by
  obtain ⟨z2, z3, hP⟩ := ptCase_any a b l'
  cases hv : vldB l r c with
  | false => exact forms_no l r c a b l' z2 z3 w hv hP
  | true =>
    cases h0 : (l == 0) with
    | true => exact forms_top l r c a b l' z2 z3 w hv h0 hP
    | false =>
      cases h1 : (l == 16) with
      | true => exact forms_low l r c a b l' z2 z3 w hv h0 h1 hP
      | false => exact forms_mid l r c a b l' z2 z3 w hv h0 h1 hP
theorem Try.cellsCell : Try.prog.cellsOf 32 = 3 := by kernel_rfl
theorem Try.cellsPoint : Try.prog.cellsOf 34 = 2 := by kernel_rfl
set_option maxRecDepth 100000 in
theorem forms_lifted (os : Os) (started : os.Started) (H : Type) (enc : TypeId × Value → H) :
    ReturnsInHanded {} Try.checked os 4 .any (Rows.cellsFormsSpec.pre6 enc Try.prog Try.f4 Rows.cellsFormsRow.domain false) (Rows.cellsFormsSpec.post enc Try.prog Try.f4 false true false false) := by
  refine returnsInHanded_of_change (C := Try.checked) Try.own started (by kernel_rfl) Try.func4
    (ChangeSpec.witness6 (enc := enc) (C := Try.checked) false ⟨#[], #[.agg #[.int .i64 0, .int .i64 0, .int .i64 0], .agg #[.int .i64 0, .int .i64 0], .int .i64 0], []⟩ 8 (by kernel_rfl) (by kernel_rfl) (by kernel_rfl) (by kernel_rfl)) ?_
  intro W base args ds gs before hval0 hW _ _
  have hval : ∀ (j : Nat) t v, Try.f4.params[j]? = some t → args[j]? = some v → Value.okWide Try.prog W .any base t v := hval0
  have hW' := hW
  obtain ⟨p, q, hA0, hV, rfl, _, _⟩ := hW
  have hA : DataW.TrodAll enc Try.prog W 0 (fun _ => true) true Try.f4.params.toList args.toList ds p := hA0
  rw [Try.params4] at hA hval
  obtain ⟨v0, v1, v2, d0, d1, d2, p0, p1, p2, rfl, rfl, rfl, h0, h1, h2⟩ := trodAll_three hA
  obtain ⟨rfl, rfl⟩ := trodVars_none hV
  obtain ⟨c0, c1, c2, y0, y1, y2, m, rfl, rfl, rfl, hy0, hy1, hy2⟩ := open_agg3 Try.underlying32 (by kernel_rfl) Try.cellsCell (hval 0 32 v0 rfl rfl) h0
  obtain ⟨l, e0, rfl, wl⟩ := DataW.trod_int Try.underlying3 hy0
  obtain ⟨r, e1, rfl, wr⟩ := DataW.trod_int Try.underlying3 hy1
  obtain ⟨c, e2, rfl, wc⟩ := DataW.trod_int Try.underlying3 hy2
  obtain ⟨g0, g1, z0, z1, n, rfl, rfl, rfl, hz0, hz1⟩ := open_agg2 Try.underlying34 (by kernel_rfl) Try.cellsPoint (hval 1 34 v1 rfl rfl) h1
  obtain ⟨a, e3, rfl, wa⟩ := DataW.trod_int Try.underlying3 hz0
  obtain ⟨b, e4, rfl, wb⟩ := DataW.trod_int Try.underlying3 hz1
  obtain ⟨x, rfl, rfl, rfl, wx⟩ := open_int Try.underlying3 (hval 2 3 v2 rfl rfl) h2
  simp at e0 e1 e2 e3 e4
  subst e0 e1 e2 e3 e4
  clear hA0 hval0
  simp only [List.append_nil] at hW'
  have rd1 : ∀ (W' : World) (sp : Nat → Bool), DataW.Trod enc Try.prog W' 0 sp true 32 (.agg #[.int .i64 l, .int .i64 r, .int .i64 c]) (.agg [.lit (.int .i64 l), .lit (.int .i64 r), .lit (.int .i64 c)]) [] := fun W' sp =>
    shut_agg3 (y0 := (.lit (.int .i64 l), [])) (y1 := (.lit (.int .i64 r), [])) (y2 := (.lit (.int .i64 c), [])) Try.underlying32 (by kernel_rfl) Try.cellsCell ⟨1, by simp [DataW.trod, Try.underlying3, wl]⟩ ⟨1, by simp [DataW.trod, Try.underlying3, wr]⟩ ⟨1, by simp [DataW.trod, Try.underlying3, wc]⟩
  have rd2 : ∀ (W' : World) (sp : Nat → Bool), DataW.Trod enc Try.prog W' 0 sp true 34 (.agg #[.int .i64 a, .int .i64 b]) (.agg [.lit (.int .i64 a), .lit (.int .i64 b)]) [] := fun W' sp =>
    shut_agg2 (y0 := (.lit (.int .i64 a), [])) (y1 := (.lit (.int .i64 b), [])) Try.underlying34 (by kernel_rfl) Try.cellsPoint ⟨1, by simp [DataW.trod, Try.underlying3, wa]⟩ ⟨1, by simp [DataW.trod, Try.underlying3, wb]⟩
  refine (forms_any l r c a b x W).mono fun e W' ⟨he, hb⟩ => ?_
  subst he
  exact ⟨_, rfl, post_of_below (pa := []) (pv := []) hW' (fun _ _ _ => trodAll_mk1 (shut_bool Try.underlying4 true)) (fun sp _ => trodAll_mk3 (rd1 _ sp) (rd2 _ sp) (shut_int Try.underlying3 wx)) (fun _ _ => rfl) rfl hb (ok_one (by kernel_rfl) rfl (okWide_bool_mk Try.underlying4 true))⟩
theorem forms_holds : Rows.CellsFormsSaid :=
  OpenClaim.holds_of_wide 4 Try.f4 rfl rfl rfl rfl rfl rfl rfl ⟨rfl, rfl, rfl, rfl, rfl⟩ rfl rfl rfl rfl rfl (by kernel_rfl) Try.func4 (by kernel_rfl)
    (of_decide_eq_true (by kernel_rfl)) (by unfold Func.isWrapper; first | (rw [if_pos (by decide +kernel)]; kernel_rfl) | (rw [if_neg (by decide +kernel)]; exact ⟨rfl, rfl⟩))
    (fun os started H enc _ => forms_lifted os started H enc)
#print axioms forms_holds
end Go.Proofs.Ytlglalemhfjmhaa
