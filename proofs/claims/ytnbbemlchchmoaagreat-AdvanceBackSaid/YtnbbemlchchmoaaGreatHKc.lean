/- Proved: the law AdvanceBack of layer 47 returns true for every list of cells, every movement, and every level (AdvanceBackSaid). No condition. -/
import Derived.Carry
import Derived.DataShut
import Derived.SizedLaws
import Derived.Test.YtnbbemlchchmoaaGreatHKb
import Derived.Test.YtnbbemlchchmoaaGreatHKg
import Derived.Test.YtnbbemlchchmoaaGreatHOpen
import Derived.Test.YtnbbemlchchmoaaGreatHJc
set_option linter.unusedVariables false
set_option linter.unusedSimpArgs false
namespace Go.Proofs.YtnbbemlchchmoaaGreat
open Go.ChangeShapes Go.WideShapes Go.ChangeAt Go.RowKit Go.Joins Go.Deep
theorem Tryz.cellsAb : Tryz.prog.cellsOf 32 = 2 := by kernel_rfl
set_option maxRecDepth 100000 in
theorem advanceBack_lifted (os : Os) (started : os.Started) (H : Type) (enc : TypeId × Value → H) :
    ReturnsInHanded {} Tryz.checked os 9 .any (Rows.advanceBackSpec.pre6 enc Tryz.prog Tryz.f9 Rows.advanceBackRow.domain false) (Rows.advanceBackSpec.post enc Tryz.prog Tryz.f9 false true false false) := by
  refine returnsInHanded_of_change (C := Tryz.checked) Tryz.own started (by kernel_rfl) Tryz.func9
    (ChangeSpec.witness6 (enc := enc) (C := Tryz.checked) false ⟨#[], #[.slice none 0 0, .agg #[.int .i64 0, .int .i64 0], .agg #[.int .i64 0, .int .i64 0], .int .u8 0], []⟩ 8 (by kernel_rfl) (by kernel_rfl) (by kernel_rfl) (by kernel_rfl)) ?_
  intro W base args ds gs before hval0 hW _ _
  have hval : ∀ (j : Nat) t v, Tryz.f9.params[j]? = some t → args[j]? = some v → Value.okWide Tryz.prog W .any base t v := hval0
  have hW' := hW
  obtain ⟨p, q, hA0, hV, rfl, _, _⟩ := hW
  have hA : DataW.TrodAll enc Tryz.prog W 0 (fun _ => true) true Tryz.f9.params.toList args.toList ds p := hA0
  rw [Tryz.params9] at hA hval
  obtain ⟨v0, v1, v2, v3, d0, d1, d2, d3, p0, p1, p2, p3, rfl, rfl, rfl, h0, h1, h2, h3⟩ := trodAll_four hA
  obtain ⟨rfl, rfl⟩ := trodVars_none hV
  obtain ⟨A, n, ca, L, rfl, ra, hn, hca⟩ := open_cells (hval 0 26 v0 rfl rfl) h0
  obtain ⟨g0, g1, z0, z1, n2, rfl, rfl, rfl, hz0, hz1⟩ := open_agg2 Tryz.underlying32 (by kernel_rfl) Tryz.cellsAb (hval 1 32 v1 rfl rfl) h1
  obtain ⟨a, e3, rfl, wa⟩ := DataW.trod_int Tryz.underlying3 hz0
  obtain ⟨b, e4, rfl, wb⟩ := DataW.trod_int Tryz.underlying3 hz1
  obtain ⟨g2, g3, z2, z3, n3, rfl, rfl, rfl, hz2, hz3⟩ := open_agg2 Tryz.underlying32 (by kernel_rfl) Tryz.cellsAb (hval 2 32 v2 rfl rfl) h2
  obtain ⟨x, e5, rfl, wx⟩ := DataW.trod_int Tryz.underlying3 hz2
  obtain ⟨y, e6, rfl, wy⟩ := DataW.trod_int Tryz.underlying3 hz3
  simp at e3 e4 e5 e6
  subst e3 e4 e5 e6
  obtain ⟨lev, rfl, rfl, rfl, wlev⟩ := open_int Tryz.underlying5 (hval 3 5 v3 rfl rfl) h3
  have blev : 0 ≤ lev ∧ lev ≤ 255 := by have := (Lit.wf_int_iff _ _).1 wlev; rw [show IntKind.u8.min = 0 from rfl, show IntKind.u8.max = 255 from rfl] at this; exact this
  clear hA0 hval0
  simp only [List.append_nil] at hW'
  have hlt : ∀ x ∈ p0, x.block < W.heap.size := fun x hx => hW'.lt x hx
  have rd1 : ∀ (W' : World) (sp : Nat → Bool), DataW.Trod enc Tryz.prog W' 0 sp true 32 (.agg #[.int .i64 a, .int .i64 b]) (.agg [.lit (.int .i64 a), .lit (.int .i64 b)]) [] := fun W' sp =>
    shut_agg2 (y0 := (.lit (.int .i64 a), [])) (y1 := (.lit (.int .i64 b), [])) Tryz.underlying32 (by kernel_rfl) Tryz.cellsAb ⟨1, by simp [DataW.trod, Tryz.underlying3, wa]⟩ ⟨1, by simp [DataW.trod, Tryz.underlying3, wb]⟩
  have rd2 : ∀ (W' : World) (sp : Nat → Bool), DataW.Trod enc Tryz.prog W' 0 sp true 32 (.agg #[.int .i64 x, .int .i64 y]) (.agg [.lit (.int .i64 x), .lit (.int .i64 y)]) [] := fun W' sp =>
    shut_agg2 (y0 := (.lit (.int .i64 x), [])) (y1 := (.lit (.int .i64 y), [])) Tryz.underlying32 (by kernel_rfl) Tryz.cellsAb ⟨1, by simp [DataW.trod, Tryz.underlying3, wx]⟩ ⟨1, by simp [DataW.trod, Tryz.underlying3, wy]⟩
  refine (advBack_any A n ca L a b x y lev W ra hn hca blev.1 blev.2).mono fun e W' ⟨he, hb⟩ => ?_
  subst he
  exact ⟨_, rfl, post_of_below (pa := p0) (pv := []) hW' (fun _ _ _ => trodAll_mk1 (shut_bool Tryz.underlying4 true)) (fun sp hsp => by
    have := trodAll_mk4 (cells_stay h0 hb hlt hsp) (rd1 W' sp) (rd2 W' sp) (shut_int Tryz.underlying5 wlev)
    simp only [List.append_nil] at this
    exact this) (fun _ _ => rfl) (by simp) hb (ok_one (by kernel_rfl) rfl (okWide_bool_mk Tryz.underlying4 true))⟩
theorem advanceBack_named : Tryz.pinned.checked.prog.funcNamed Rows.advanceBackRow.func = some 9 := by kernel_rfl
theorem advanceBack_facts : joinedFacts Tryz.pinned.checked.prog 9 Tryz.f9 Rows.advanceBackSpec Rows.advanceBackRow = true := by kernel_rfl
theorem advanceBack_holds : Rows.AdvanceBackSaid :=
  OpenClaim.holds_of_wide 9 Tryz.f9 rfl rfl rfl rfl rfl rfl rfl ⟨rfl, rfl, rfl, rfl, rfl⟩ rfl rfl rfl rfl rfl advanceBack_named Tryz.func9 advanceBack_facts
    (of_decide_eq_true (by kernel_rfl)) (by unfold Func.isWrapper; first | (rw [if_pos (by decide +kernel)]; kernel_rfl) | (rw [if_neg (by decide +kernel)]; exact ⟨rfl, rfl⟩))
    (fun os started H enc _ => advanceBack_lifted os started H enc)
#print axioms advanceBack_holds
end Go.Proofs.YtnbbemlchchmoaaGreat
