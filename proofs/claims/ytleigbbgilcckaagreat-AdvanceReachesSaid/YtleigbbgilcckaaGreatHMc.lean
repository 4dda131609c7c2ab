/- Proved: the law AdvanceReaches of layer 47 returns true for every list of cells, every point, every movement, every level, and all numbers (AdvanceReachesSaid). No condition. -/
import Derived.Carry
import Derived.DataShut
import Derived.SizedLaws
import Derived.Test.YtleigbbgilcckaaGreatHMb
import Derived.Test.YtleigbbgilcckaaGreatHClose
import Derived.Test.YtleigbbgilcckaaGreatHJc
set_option linter.unusedVariables false
set_option linter.unusedSimpArgs false
namespace Go.Proofs.YtleigbbgilcckaaGreat
open Go.ChangeShapes Go.WideShapes Go.ChangeAt Go.RowKit Go.Joins Go.Deep
section
variable {H : Type} {enc : TypeId × Value → H} {P : Program} {w : World} {base : Nat} {spare : Nat → Bool} {held : Bool}
theorem trod9 {t0 t1 t2 t3 t4 t5 t6 t7 t8 : TypeId} {args : Array Value} {ds : List (DataW H)} {ps : List MemPlace} (h : DataW.TrodAll enc P w base spare held [t0, t1, t2, t3, t4, t5, t6, t7, t8] args.toList ds ps) :
    ∃ v0 v1 v2 v3 v4 v5 v6 v7 v8 d0 d1 d2 d3 d4 d5 d6 d7 d8 p0 p1 p2 p3 p4 p5 p6 p7 p8, args = #[v0, v1, v2, v3, v4, v5, v6, v7, v8] ∧ ds = [d0, d1, d2, d3, d4, d5, d6, d7, d8] ∧ ps = p0 ++ (p1 ++ (p2 ++ (p3 ++ (p4 ++ (p5 ++ (p6 ++ (p7 ++ p8))))))) ∧ DataW.Trod enc P w base spare held t0 v0 d0 p0 ∧ DataW.Trod enc P w base spare held t1 v1 d1 p1 ∧ DataW.Trod enc P w base spare held t2 v2 d2 p2 ∧ DataW.Trod enc P w base spare held t3 v3 d3 p3 ∧ DataW.Trod enc P w base spare held t4 v4 d4 p4 ∧ DataW.Trod enc P w base spare held t5 v5 d5 p5 ∧ DataW.Trod enc P w base spare held t6 v6 d6 p6 ∧ DataW.Trod enc P w base spare held t7 v7 d7 p7 ∧ DataW.Trod enc P w base spare held t8 v8 d8 p8 := by
  obtain ⟨v0, vs, d0, ds', p0, q, hargs, rfl, rfl, h0, hr⟩ := trodAll_cons h
  obtain ⟨v1, vs', d1, ds'', p1, q1, rfl, rfl, rfl, h1, hr1⟩ := trodAll_cons hr
  obtain ⟨v2, vs', d2, ds'', p2, q2, rfl, rfl, rfl, h2, hr2⟩ := trodAll_cons hr1
  obtain ⟨v3, vs', d3, ds'', p3, q3, rfl, rfl, rfl, h3, hr3⟩ := trodAll_cons hr2
  obtain ⟨v4, vs', d4, ds'', p4, q4, rfl, rfl, rfl, h4, hr4⟩ := trodAll_cons hr3
  obtain ⟨v5, vs', d5, ds'', p5, q5, rfl, rfl, rfl, h5, hr5⟩ := trodAll_cons hr4
  obtain ⟨v6, vs', d6, ds'', p6, q6, rfl, rfl, rfl, h6, hr6⟩ := trodAll_cons hr5
  obtain ⟨v7, vs', d7, ds'', p7, q7, rfl, rfl, rfl, h7, hr7⟩ := trodAll_cons hr6
  obtain ⟨v8, vs', d8, ds'', p8, q8, rfl, rfl, rfl, h8, hr8⟩ := trodAll_cons hr7
  obtain ⟨rfl, rfl, rfl⟩ := trodAll_nil hr8
  exact ⟨v0, v1, v2, v3, v4, v5, v6, v7, v8, d0, d1, d2, d3, d4, d5, d6, d7, d8, p0, p1, p2, p3, p4, p5, p6, p7, p8, by cases args; simp_all, rfl, by simp, h0, h1, h2, h3, h4, h5, h6, h7, h8⟩
theorem trod9_mk {t0 t1 t2 t3 t4 t5 t6 t7 t8 : TypeId} {v0 v1 v2 v3 v4 v5 v6 v7 v8 : Value} {d0 d1 d2 d3 d4 d5 d6 d7 d8 : DataW H} {p0 : List MemPlace} (h0 : DataW.Trod enc P w base spare held t0 v0 d0 p0) (h1 : DataW.Trod enc P w base spare held t1 v1 d1 []) (h2 : DataW.Trod enc P w base spare held t2 v2 d2 []) (h3 : DataW.Trod enc P w base spare held t3 v3 d3 []) (h4 : DataW.Trod enc P w base spare held t4 v4 d4 []) (h5 : DataW.Trod enc P w base spare held t5 v5 d5 []) (h6 : DataW.Trod enc P w base spare held t6 v6 d6 []) (h7 : DataW.Trod enc P w base spare held t7 v7 d7 []) (h8 : DataW.Trod enc P w base spare held t8 v8 d8 []) :
    DataW.TrodAll enc P w base spare held [t0, t1, t2, t3, t4, t5, t6, t7, t8] [v0, v1, v2, v3, v4, v5, v6, v7, v8] [d0, d1, d2, d3, d4, d5, d6, d7, d8] p0 := by
  have := (show DataW.TrodAll enc P w base spare held [t0, t1, t2, t3, t4, t5, t6, t7, t8] [v0, v1, v2, v3, v4, v5, v6, v7, v8] [d0, d1, d2, d3, d4, d5, d6, d7, d8] (p0 ++ ([] ++ ([] ++ ([] ++ ([] ++ ([] ++ ([] ++ ([] ++ [])))))))) from ⟨p0, _, h0, ⟨[], _, h1, ⟨[], _, h2, ⟨[], _, h3, ⟨[], _, h4, trodAll_mk4 h5 h6 h7 h8, rfl⟩, rfl⟩, rfl⟩, rfl⟩, rfl⟩)
  simpa using this
end
theorem Tryz.cellsPr : Tryz.prog.cellsOf 24 = 2 := by kernel_rfl
theorem Tryz.cellsAr : Tryz.prog.cellsOf 26 = 2 := by kernel_rfl
set_option maxRecDepth 100000 in
theorem advanceReaches_lifted (os : Os) (started : os.Started) (H : Type) (enc : TypeId × Value → H) :
    ReturnsInHanded {} Tryz.checked os 3 .any (Rows.advanceReachesSpec.pre6 enc Tryz.prog Tryz.f3 Rows.advanceReachesRow.domain false) (Rows.advanceReachesSpec.post enc Tryz.prog Tryz.f3 false true false false) := by
  refine returnsInHanded_of_change (C := Tryz.checked) Tryz.own started (by kernel_rfl) Tryz.func3
    (ChangeSpec.witness6 (enc := enc) (C := Tryz.checked) false ⟨#[], #[.slice none 0 0, .agg #[.int .i64 0, .int .i64 0], .agg #[.int .i64 0, .int .i64 0], .agg #[.int .i64 0, .int .i64 0], .int .u8 0, .int .u32 0, .int .u32 0, .int .u32 0, .int .u32 0], []⟩ 8 (by kernel_rfl) (by kernel_rfl) (by kernel_rfl) (by kernel_rfl)) ?_
  intro W base args ds gs before hval0 hW _ _
  have hval : ∀ (j : Nat) t v, Tryz.f3.params[j]? = some t → args[j]? = some v → Value.okWide Tryz.prog W .any base t v := hval0
  have hW' := hW
  obtain ⟨p, q, hA0, hV, rfl, _, _⟩ := hW
  have hA : DataW.TrodAll enc Tryz.prog W 0 (fun _ => true) true Tryz.f3.params.toList args.toList ds p := hA0
  rw [Tryz.params3] at hA hval
  obtain ⟨v0, v1, v2, v3, v4, v5, v6, v7, v8, d0, d1, d2, d3, d4, d5, d6, d7, d8, p0, p1, p2, p3, p4, p5, p6, p7, p8, rfl, rfl, rfl, h0, h1, h2, h3, h4, h5, h6, h7, h8⟩ := trod9 hA
  obtain ⟨rfl, rfl⟩ := trodVars_none hV
  obtain ⟨A, n, ca, L, rfl, ra, hn, hca⟩ := open_cells (hval 0 22 v0 rfl rfl) h0
  obtain ⟨g0, g1, z0, z1, n2, rfl, rfl, rfl, hz0, hz1⟩ := open_agg2 Tryz.underlying24 (by kernel_rfl) Tryz.cellsPr (hval 1 24 v1 rfl rfl) h1
  obtain ⟨c0, e1, rfl, wc0⟩ := DataW.trod_int Tryz.underlying3 hz0
  obtain ⟨c1, e2, rfl, wc1⟩ := DataW.trod_int Tryz.underlying3 hz1
  obtain ⟨g2, g3, z2, z3, n3, rfl, rfl, rfl, hz2, hz3⟩ := open_agg2 Tryz.underlying26 (by kernel_rfl) Tryz.cellsAr (hval 2 26 v2 rfl rfl) h2
  obtain ⟨a, e3, rfl, wa⟩ := DataW.trod_int Tryz.underlying3 hz2
  obtain ⟨b, e4, rfl, wb⟩ := DataW.trod_int Tryz.underlying3 hz3
  obtain ⟨g4, g5, z4, z5, n4, rfl, rfl, rfl, hz4, hz5⟩ := open_agg2 Tryz.underlying26 (by kernel_rfl) Tryz.cellsAr (hval 3 26 v3 rfl rfl) h3
  obtain ⟨x, e5, rfl, wx⟩ := DataW.trod_int Tryz.underlying3 hz4
  obtain ⟨y, e6, rfl, wy⟩ := DataW.trod_int Tryz.underlying3 hz5
  simp at e1 e2 e3 e4 e5 e6
  subst e1 e2 e3 e4 e5 e6
  obtain ⟨lev, rfl, rfl, rfl, wlev⟩ := open_int Tryz.underlying5 (hval 4 5 v4 rfl rfl) h4
  have blev : 0 ≤ lev ∧ lev ≤ 255 := by have := (Lit.wf_int_iff _ _).1 wlev; rw [show IntKind.u8.min = 0 from rfl, show IntKind.u8.max = 255 from rfl] at this; exact this
  obtain ⟨ki, rfl, rfl, rfl, wki⟩ := open_int Tryz.underlying27 (hval 5 27 v5 rfl rfl) h5
  have bki : 0 ≤ ki ∧ ki ≤ 4294967295 := by have := (Lit.wf_int_iff _ _).1 wki; rw [show IntKind.u32.min = 0 from rfl, show IntKind.u32.max = 4294967295 from rfl] at this; exact this
  obtain ⟨kk, rfl, rfl, rfl, wkk⟩ := open_int Tryz.underlying27 (hval 6 27 v6 rfl rfl) h6
  have bkk : 0 ≤ kk ∧ kk ≤ 4294967295 := by have := (Lit.wf_int_iff _ _).1 wkk; rw [show IntKind.u32.min = 0 from rfl, show IntKind.u32.max = 4294967295 from rfl] at this; exact this
  obtain ⟨km, rfl, rfl, rfl, wkm⟩ := open_int Tryz.underlying27 (hval 7 27 v7 rfl rfl) h7
  have bkm : 0 ≤ km ∧ km ≤ 4294967295 := by have := (Lit.wf_int_iff _ _).1 wkm; rw [show IntKind.u32.min = 0 from rfl, show IntKind.u32.max = 4294967295 from rfl] at this; exact this
  obtain ⟨kn, rfl, rfl, rfl, wkn⟩ := open_int Tryz.underlying27 (hval 8 27 v8 rfl rfl) h8
  have bkn : 0 ≤ kn ∧ kn ≤ 4294967295 := by have := (Lit.wf_int_iff _ _).1 wkn; rw [show IntKind.u32.min = 0 from rfl, show IntKind.u32.max = 4294967295 from rfl] at this; exact this
  clear hA0 hval0
  simp only [List.append_nil] at hW'
  have hlt : ∀ x ∈ p0, x.block < W.heap.size := fun x hx => hW'.lt x hx
  have rd0 : ∀ (W' : World) (sp : Nat → Bool), DataW.Trod enc Tryz.prog W' 0 sp true 24 (.agg #[.int .i64 c0, .int .i64 c1]) (.agg [.lit (.int .i64 c0), .lit (.int .i64 c1)]) [] := fun W' sp =>
    shut_agg2 (y0 := (.lit (.int .i64 c0), [])) (y1 := (.lit (.int .i64 c1), [])) Tryz.underlying24 (by kernel_rfl) Tryz.cellsPr ⟨1, by simp [DataW.trod, Tryz.underlying3, wc0]⟩ ⟨1, by simp [DataW.trod, Tryz.underlying3, wc1]⟩
  have rd1 : ∀ (W' : World) (sp : Nat → Bool), DataW.Trod enc Tryz.prog W' 0 sp true 26 (.agg #[.int .i64 a, .int .i64 b]) (.agg [.lit (.int .i64 a), .lit (.int .i64 b)]) [] := fun W' sp =>
    shut_agg2 (y0 := (.lit (.int .i64 a), [])) (y1 := (.lit (.int .i64 b), [])) Tryz.underlying26 (by kernel_rfl) Tryz.cellsAr ⟨1, by simp [DataW.trod, Tryz.underlying3, wa]⟩ ⟨1, by simp [DataW.trod, Tryz.underlying3, wb]⟩
  have rd2 : ∀ (W' : World) (sp : Nat → Bool), DataW.Trod enc Tryz.prog W' 0 sp true 26 (.agg #[.int .i64 x, .int .i64 y]) (.agg [.lit (.int .i64 x), .lit (.int .i64 y)]) [] := fun W' sp =>
    shut_agg2 (y0 := (.lit (.int .i64 x), [])) (y1 := (.lit (.int .i64 y), [])) Tryz.underlying26 (by kernel_rfl) Tryz.cellsAr ⟨1, by simp [DataW.trod, Tryz.underlying3, wx]⟩ ⟨1, by simp [DataW.trod, Tryz.underlying3, wy]⟩
  refine (advReach_any A n ca L c0 c1 a b x y lev ki kk km kn W ra hn hca blev.1 blev.2 bki.1 bki.2 bkk.1 bkk.2 bkm.1 bkm.2 bkn.1 bkn.2).mono fun e W' ⟨he, hb⟩ => ?_
  subst he
  exact ⟨_, rfl, post_of_below (pa := p0) (pv := []) hW' (fun _ _ _ => trodAll_mk1 (shut_bool Tryz.underlying4 true)) (fun sp hsp => by
    exact trod9_mk (cells_stay h0 hb hlt hsp) (rd0 W' sp) (rd1 W' sp) (rd2 W' sp) (shut_int Tryz.underlying5 wlev) (shut_int Tryz.underlying27 wki) (shut_int Tryz.underlying27 wkk) (shut_int Tryz.underlying27 wkm) (shut_int Tryz.underlying27 wkn)) (fun _ _ => rfl) (by simp) hb (ok_one (by kernel_rfl) rfl (okWide_bool_mk Tryz.underlying4 true))⟩
theorem advanceReaches_named : Tryz.pinned.checked.prog.funcNamed Rows.advanceReachesRow.func = some 3 := by kernel_rfl
theorem advanceReaches_facts : joinedFacts Tryz.pinned.checked.prog 3 Tryz.f3 Rows.advanceReachesSpec Rows.advanceReachesRow = true := by kernel_rfl
theorem advanceReaches_holds : Rows.AdvanceReachesSaid :=
  OpenClaim.holds_of_wide 3 Tryz.f3 rfl rfl rfl rfl rfl rfl rfl ⟨rfl, rfl, rfl, rfl, rfl⟩ rfl rfl rfl rfl rfl advanceReaches_named Tryz.func3 advanceReaches_facts
    (of_decide_eq_true (by kernel_rfl)) (by unfold Func.isWrapper; first | (rw [if_pos (by decide +kernel)]; kernel_rfl) | (rw [if_neg (by decide +kernel)]; exact ⟨rfl, rfl⟩))
    (fun os started H enc _ => advanceReaches_lifted os started H enc)
#print axioms advanceReaches_holds
end Go.Proofs.YtleigbbgilcckaaGreat
