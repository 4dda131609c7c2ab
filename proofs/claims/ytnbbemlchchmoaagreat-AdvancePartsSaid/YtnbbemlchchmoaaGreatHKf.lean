/- Proved: the law AdvanceParts of layer 47 returns true for every list of cells, every movement, every level, and every part (AdvancePartsSaid). No condition. -/
import Derived.Carry
import Derived.DataShut
import Derived.SizedLaws
import Derived.Test.YtnbbemlchchmoaaGreatHKe
import Derived.Test.YtnbbemlchchmoaaGreatHKg
import Derived.Test.YtnbbemlchchmoaaGreatHOpen
import Derived.Test.YtnbbemlchchmoaaGreatHJc
set_option linter.unusedVariables false
set_option linter.unusedSimpArgs false
namespace Go.Proofs.YtnbbemlchchmoaaGreat
open Go.ChangeShapes Go.WideShapes Go.ChangeAt Go.RowKit Go.Joins Go.Deep
section
variable {H : Type} {enc : TypeId × Value → H} {P : Program} {w : World} {base : Nat} {spare : Nat → Bool} {held : Bool}
theorem trod6 {t0 t1 t2 t3 t4 t5 : TypeId} {args : Array Value} {ds : List (DataW H)} {ps : List MemPlace} (h : DataW.TrodAll enc P w base spare held [t0, t1, t2, t3, t4, t5] args.toList ds ps) :
    ∃ v0 v1 v2 v3 v4 v5 d0 d1 d2 d3 d4 d5 p0 p1 p2 p3 p4 p5, args = #[v0, v1, v2, v3, v4, v5] ∧ ds = [d0, d1, d2, d3, d4, d5] ∧ ps = p0 ++ (p1 ++ (p2 ++ (p3 ++ (p4 ++ p5)))) ∧ DataW.Trod enc P w base spare held t0 v0 d0 p0 ∧ DataW.Trod enc P w base spare held t1 v1 d1 p1 ∧ DataW.Trod enc P w base spare held t2 v2 d2 p2 ∧ DataW.Trod enc P w base spare held t3 v3 d3 p3 ∧ DataW.Trod enc P w base spare held t4 v4 d4 p4 ∧ DataW.Trod enc P w base spare held t5 v5 d5 p5 := by
  obtain ⟨v0, vs, d0, ds', p0, q, hargs, rfl, rfl, h0, hr⟩ := trodAll_cons h
  obtain ⟨v1, vs', d1, ds'', p1, q1, rfl, rfl, rfl, h1, hr1⟩ := trodAll_cons hr
  obtain ⟨v2, vs', d2, ds'', p2, q2, rfl, rfl, rfl, h2, hr2⟩ := trodAll_cons hr1
  obtain ⟨v3, vs', d3, ds'', p3, q3, rfl, rfl, rfl, h3, hr3⟩ := trodAll_cons hr2
  obtain ⟨v4, vs', d4, ds'', p4, q4, rfl, rfl, rfl, h4, hr4⟩ := trodAll_cons hr3
  obtain ⟨v5, vs', d5, ds'', p5, q5, rfl, rfl, rfl, h5, hr5⟩ := trodAll_cons hr4
  obtain ⟨rfl, rfl, rfl⟩ := trodAll_nil hr5
  exact ⟨v0, v1, v2, v3, v4, v5, d0, d1, d2, d3, d4, d5, p0, p1, p2, p3, p4, p5, by cases args; simp_all, rfl, by simp, h0, h1, h2, h3, h4, h5⟩
theorem trod6_mk {t0 t1 t2 t3 t4 t5 : TypeId} {v0 v1 v2 v3 v4 v5 : Value} {d0 d1 d2 d3 d4 d5 : DataW H} {p0 : List MemPlace} (h0 : DataW.Trod enc P w base spare held t0 v0 d0 p0) (h1 : DataW.Trod enc P w base spare held t1 v1 d1 []) (h2 : DataW.Trod enc P w base spare held t2 v2 d2 []) (h3 : DataW.Trod enc P w base spare held t3 v3 d3 []) (h4 : DataW.Trod enc P w base spare held t4 v4 d4 []) (h5 : DataW.Trod enc P w base spare held t5 v5 d5 []) :
    DataW.TrodAll enc P w base spare held [t0, t1, t2, t3, t4, t5] [v0, v1, v2, v3, v4, v5] [d0, d1, d2, d3, d4, d5] p0 := by
  have := (show DataW.TrodAll enc P w base spare held [t0, t1, t2, t3, t4, t5] [v0, v1, v2, v3, v4, v5] [d0, d1, d2, d3, d4, d5] (p0 ++ ([] ++ ([] ++ ([] ++ ([] ++ []))))) from ⟨p0, _, h0, ⟨[], _, h1, trodAll_mk4 h2 h3 h4 h5, rfl⟩, rfl⟩)
  simpa using this
end
theorem Tryz.cellsAp : Tryz.prog.cellsOf 32 = 2 := by kernel_rfl
set_option maxRecDepth 100000 in
theorem advanceParts_lifted (os : Os) (started : os.Started) (H : Type) (enc : TypeId × Value → H) :
    ReturnsInHanded {} Tryz.checked os 7 .any (Rows.advancePartsSpec.pre6 enc Tryz.prog Tryz.f7 Rows.advancePartsRow.domain false) (Rows.advancePartsSpec.post enc Tryz.prog Tryz.f7 false true false false) := by
  refine returnsInHanded_of_change (C := Tryz.checked) Tryz.own started (by kernel_rfl) Tryz.func7
    (ChangeSpec.witness6 (enc := enc) (C := Tryz.checked) false ⟨#[], #[.slice none 0 0, .agg #[.int .i64 0, .int .i64 0], .agg #[.int .i64 0, .int .i64 0], .int .u8 0, .int .u32 0, .int .u32 0], []⟩ 8 (by kernel_rfl) (by kernel_rfl) (by kernel_rfl) (by kernel_rfl)) ?_
  intro W base args ds gs before hval0 hW _ _
  have hval : ∀ (j : Nat) t v, Tryz.f7.params[j]? = some t → args[j]? = some v → Value.okWide Tryz.prog W .any base t v := hval0
  have hW' := hW
  obtain ⟨p, q, hA0, hV, rfl, _, _⟩ := hW
  have hA : DataW.TrodAll enc Tryz.prog W 0 (fun _ => true) true Tryz.f7.params.toList args.toList ds p := hA0
  rw [Tryz.params7] at hA hval
  obtain ⟨v0, v1, v2, v3, v4, v5, d0, d1, d2, d3, d4, d5, p0, p1, p2, p3, p4, p5, rfl, rfl, rfl, h0, h1, h2, h3, h4, h5⟩ := trod6 hA
  obtain ⟨rfl, rfl⟩ := trodVars_none hV
  obtain ⟨A, n, ca, L, rfl, ra, hn, hca⟩ := open_cells (hval 0 26 v0 rfl rfl) h0
  obtain ⟨g0, g1, z0, z1, n2, rfl, rfl, rfl, hz0, hz1⟩ := open_agg2 Tryz.underlying32 (by kernel_rfl) Tryz.cellsAp (hval 1 32 v1 rfl rfl) h1
  obtain ⟨a, e3, rfl, wa⟩ := DataW.trod_int Tryz.underlying3 hz0
  obtain ⟨b, e4, rfl, wb⟩ := DataW.trod_int Tryz.underlying3 hz1
  obtain ⟨g2, g3, z2, z3, n3, rfl, rfl, rfl, hz2, hz3⟩ := open_agg2 Tryz.underlying32 (by kernel_rfl) Tryz.cellsAp (hval 2 32 v2 rfl rfl) h2
  obtain ⟨x, e5, rfl, wx⟩ := DataW.trod_int Tryz.underlying3 hz2
  obtain ⟨y, e6, rfl, wy⟩ := DataW.trod_int Tryz.underlying3 hz3
  simp at e3 e4 e5 e6
  subst e3 e4 e5 e6
  obtain ⟨lev, rfl, rfl, rfl, wlev⟩ := open_int Tryz.underlying5 (hval 3 5 v3 rfl rfl) h3
  have blev : 0 ≤ lev ∧ lev ≤ 255 := by have := (Lit.wf_int_iff _ _).1 wlev; rw [show IntKind.u8.min = 0 from rfl, show IntKind.u8.max = 255 from rfl] at this; exact this
  obtain ⟨lo, rfl, rfl, rfl, wlo⟩ := open_int Tryz.underlying71 (hval 4 71 v4 rfl rfl) h4
  obtain ⟨hi, rfl, rfl, rfl, whi⟩ := open_int Tryz.underlying71 (hval 5 71 v5 rfl rfl) h5
  have blo : 0 ≤ lo ∧ lo ≤ 4294967295 := by have := (Lit.wf_int_iff _ _).1 wlo; rw [show IntKind.u32.min = 0 from rfl, show IntKind.u32.max = 4294967295 from rfl] at this; exact this
  have bhi : 0 ≤ hi ∧ hi ≤ 4294967295 := by have := (Lit.wf_int_iff _ _).1 whi; rw [show IntKind.u32.min = 0 from rfl, show IntKind.u32.max = 4294967295 from rfl] at this; exact this
  clear hA0 hval0
  simp only [List.append_nil] at hW'
  have hlt : ∀ x ∈ p0, x.block < W.heap.size := fun x hx => hW'.lt x hx
  have rd1 : ∀ (W' : World) (sp : Nat → Bool), DataW.Trod enc Tryz.prog W' 0 sp true 32 (.agg #[.int .i64 a, .int .i64 b]) (.agg [.lit (.int .i64 a), .lit (.int .i64 b)]) [] := fun W' sp =>
    shut_agg2 (y0 := (.lit (.int .i64 a), [])) (y1 := (.lit (.int .i64 b), [])) Tryz.underlying32 (by kernel_rfl) Tryz.cellsAp ⟨1, by simp [DataW.trod, Tryz.underlying3, wa]⟩ ⟨1, by simp [DataW.trod, Tryz.underlying3, wb]⟩
  have rd2 : ∀ (W' : World) (sp : Nat → Bool), DataW.Trod enc Tryz.prog W' 0 sp true 32 (.agg #[.int .i64 x, .int .i64 y]) (.agg [.lit (.int .i64 x), .lit (.int .i64 y)]) [] := fun W' sp =>
    shut_agg2 (y0 := (.lit (.int .i64 x), [])) (y1 := (.lit (.int .i64 y), [])) Tryz.underlying32 (by kernel_rfl) Tryz.cellsAp ⟨1, by simp [DataW.trod, Tryz.underlying3, wx]⟩ ⟨1, by simp [DataW.trod, Tryz.underlying3, wy]⟩
  refine (advParts_any A n ca L a b x y lev lo hi W ra hn hca blev.1 blev.2 blo.1 blo.2 bhi.1 bhi.2).mono fun e W' ⟨he, hb⟩ => ?_
  subst he
  exact ⟨_, rfl, post_of_below (pa := p0) (pv := []) hW' (fun _ _ _ => trodAll_mk1 (shut_bool Tryz.underlying4 true)) (fun sp hsp => by
    exact trod6_mk (cells_stay h0 hb hlt hsp) (rd1 W' sp) (rd2 W' sp) (shut_int Tryz.underlying5 wlev) (shut_int Tryz.underlying71 wlo) (shut_int Tryz.underlying71 whi)) (fun _ _ => rfl) (by simp) hb (ok_one (by kernel_rfl) rfl (okWide_bool_mk Tryz.underlying4 true))⟩
theorem advanceParts_named : Tryz.pinned.checked.prog.funcNamed Rows.advancePartsRow.func = some 7 := by kernel_rfl
theorem advanceParts_facts : joinedFacts Tryz.pinned.checked.prog 7 Tryz.f7 Rows.advancePartsSpec Rows.advancePartsRow = true := by kernel_rfl
theorem advanceParts_holds : Rows.AdvancePartsSaid :=
  OpenClaim.holds_of_wide 7 Tryz.f7 rfl rfl rfl rfl rfl rfl rfl ⟨rfl, rfl, rfl, rfl, rfl⟩ rfl rfl rfl rfl rfl advanceParts_named Tryz.func7 advanceParts_facts
    (of_decide_eq_true (by kernel_rfl)) (by unfold Func.isWrapper; first | (rw [if_pos (by decide +kernel)]; kernel_rfl) | (rw [if_neg (by decide +kernel)]; exact ⟨rfl, rfl⟩))
    (fun os started H enc _ => advanceParts_lifted os started H enc)
#print axioms advanceParts_holds
end Go.Proofs.YtnbbemlchchmoaaGreat
