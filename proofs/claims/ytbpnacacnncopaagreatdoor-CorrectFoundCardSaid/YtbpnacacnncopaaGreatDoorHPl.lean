/- Proved: the law CorrectFound of layer 22 returns true for all its arguments (CorrectFoundCardSaid: the row's listed tables tied to the program's text). No condition. -/
import Derived.Test.YtbpnacacnncopaaGreatDoorCards
import Derived.Test.YtbpnacacnncopaaGreatDoorTie
import Derived.SevenTiedAt
import Derived.ShutString
import Derived.ChangeMaps5
import Derived.Carry
import Derived.Test.YtbpnacacnncopaaGreatDoorHPk
import Derived.Test.YtbpnacacnncopaaGreatDoorHZx
import Derived.Test.YtbpnacacnncopaaGreatDoorHZt
import Derived.Test.YtbpnacacnncopaaGreatDoorHZu
set_option linter.unusedVariables false
set_option linter.unusedSimpArgs false
namespace Go.Proofs.YtbpnacacnncopaaGreatDoor
open Go.ChangeShapes Go.WideShapes Go.ChangeAt Go.RowKit Go.Joins Go.Deep
set_option maxRecDepth 100000 in
theorem open_u16 {H : Type} {enc : TypeId × Value → H} {W : World} {v : Value} {d : DataW H} {p : List MemPlace} {base : Nat} (hv : Value.okWide Tryz.prog W .any base 51 v) (h : DataW.Trod enc Tryz.prog W 0 (fun _ => true) true 51 v d p) : ∃ l : Int, v = .int .u16 l ∧ 0 ≤ l ∧ l ≤ 65535 := by
  obtain ⟨l, rfl, rfl, rfl, wl⟩ := open_int Tryz.underlying51 hv h
  have hl : 0 ≤ l ∧ l ≤ 65535 := by have := (Lit.wf_int_iff _ _).1 wl; rw [show IntKind.u16.min = 0 from rfl, show IntKind.u16.max = 65535 from rfl] at this; exact this
  exact ⟨l, rfl, hl.1, hl.2⟩
set_option maxRecDepth 100000 in
theorem correctFound_lifted (os : Os) (started : os.Started) (H : Type) (enc : TypeId × Value → H) :
    ReturnsInHanded {} Tryz.checked os 6 .any (fun w args => (Rows.correctFoundSpec.pre enc Tryz.prog Tryz.f6 [] false w args ∧ laidMetH Tryz.prog laid22 w) ∧ sizedMet enc Tryz.prog Tryz.f6 (OpenSpec.ofChange Rows.correctFoundSpec) false w args)
      (Rows.correctFoundSpec.post enc Tryz.prog Tryz.f6 false true false false) := by
  refine handed_and_shaped (C := Tryz.checked) (X := fun w _ => laidMetH Tryz.prog laid22 w) (fun _ _ _ hh h => h.of_heap hh) Tryz.own started (by kernel_rfl) Tryz.func6
    (ChangeSpec.witness_shaped (enc := enc) (C := Tryz.checked) (os := os) (X := fun w _ => laidMetH Tryz.prog laid22 w) false (doorW os) #[.agg #[.int .i64 0, .slice none 0 0], .agg #[.string ⟨#[]⟩, .int .i64 0, .int .i64 0, .int .i64 0, .int .i64 0, .int .i64 0, .int .i64 0, .int .i64 0, .int .i64 0, .int .i64 0, .int .i64 0], .agg #[.int .i64 0, .int .i64 0, .int .i64 0, .int .i64 0, .int .i64 0, .int .i64 0, .int .i64 0, .int .i64 0], .int .u16 0] 8 rfl (World.shaped_of_RefB (by kernel_rfl) (by kernel_rfl)) (by kernel_rfl) (by kernel_rfl) (by kernel_rfl) (door22 os _)) ?_
  intro W base args ds gs before hval0 hW hL hsh
  have hval : ∀ (j : Nat) t v, Tryz.f6.params[j]? = some t → args[j]? = some v → Value.okWide Tryz.prog W .any base t v := hval0
  have hW' := hW
  obtain ⟨p, q, hA0, hV, rfl, _, _⟩ := hW
  have hA : DataW.TrodAll enc Tryz.prog W 0 (fun _ => true) true Tryz.f6.params.toList args.toList ds p := hA0
  rw [Tryz.params6] at hA hval
  obtain ⟨v0, vs0, d0, ds0, p0, q0, hargs, rfl, rfl, h0, hr0⟩ := trodAll_cons hA
  obtain ⟨v1, vs1, d1, ds1, p1, q1, rfl, rfl, rfl, h1, hr1⟩ := trodAll_cons hr0
  obtain ⟨v2, vs2, d2, ds2, p2, q2, rfl, rfl, rfl, h2, hr2⟩ := trodAll_cons hr1
  obtain ⟨v3, vs3, d3, ds3, p3, q3, rfl, rfl, rfl, h3, hr3⟩ := trodAll_cons hr2
  obtain ⟨rfl, rfl, rfl⟩ := trodAll_nil hr3
  obtain rfl : args = #[v0, v1, v2, v3] := by cases args; simp_all
  obtain ⟨rfl, rfl⟩ := trodVars_none hV
  have he := en_of_laid hL hsh
  have k0 := h0
  have k1 := h1
  have k2 := h2
  have k3 := h3
  obtain ⟨ix0, A0, n0, c0, T0, rfl, hT0, hn0⟩ := open_instrument (hval 0 40 v0 rfl rfl) h0
  obtain ⟨s1, rfl⟩ := open_sight (hval 1 25 v1 rfl rfl) h1
  obtain ⟨g0, g1, g2, g3, e0, e1, p0', p1', rfl⟩ := open_geo (hval 2 43 v2 rfl rfl) h2
  obtain ⟨l3, rfl, hl3a, hl3b⟩ := open_u16 (hval 3 51 v3 rfl rfl) h3
  clear hA0 hval0
  simp only [List.append_nil] at hW'
  have hlt : ∀ x ∈ (p0 ++ (p1 ++ (p2 ++ p3))), x.block < W.heap.size := fun x hx => hW'.lt x (by simpa using hx)
  refine (found_any ix0 T0 A0 n0 c0 s1 g0 g1 g2 g3 e0 e1 p0' p1' l3 W hT0 hn0 hl3a hl3b he).mono fun e W' ⟨he, hb⟩ => ?_
  subst he
  refine ⟨_, rfl, post_of_below (pa := (p0 ++ (p1 ++ (p2 ++ p3)))) (pv := []) hW' (fun _ _ _ => trodAll_mk1 (shut_bool Tryz.underlying4 true)) (fun sp hsp => ?_) (fun _ _ => rfl) (by simp) hb (ok_one (by kernel_rfl) rfl (okWide_bool_mk Tryz.underlying4 true))⟩
  have s0' := WideElems.Trod_stays (W' := W') (sp' := sp) Tryz.laidOutB (by kernel_rfl) (of_decide_eq_true (by kernel_rfl)) k0 (fun x hx => hb.same (hlt x (by simp [hx]))) (fun x hx => hsp x (by simp [hx]))
  have s1' := WideElems.Trod_stays (W' := W') (sp' := sp) Tryz.laidOutB (by kernel_rfl) (of_decide_eq_true (by kernel_rfl)) k1 (fun x hx => hb.same (hlt x (by simp [hx]))) (fun x hx => hsp x (by simp [hx]))
  have s2' := WideElems.Trod_stays (W' := W') (sp' := sp) Tryz.laidOutB (by kernel_rfl) (of_decide_eq_true (by kernel_rfl)) k2 (fun x hx => hb.same (hlt x (by simp [hx]))) (fun x hx => hsp x (by simp [hx]))
  have s3' := WideElems.Trod_stays (W' := W') (sp' := sp) Tryz.laidOutB (by kernel_rfl) (of_decide_eq_true (by kernel_rfl)) k3 (fun x hx => hb.same (hlt x (by simp [hx]))) (fun x hx => hsp x (by simp [hx]))
  exact trodAll_mk4 s0' s1' s2' s3'
theorem correctFound_named : Tryz.pinned.checked.prog.funcNamed Rows.correctFoundRow.func = some 6 := by kernel_rfl
theorem correctFound_facts : joinedFacts Tryz.pinned.checked.prog 6 Tryz.f6 Rows.correctFoundSpec Rows.correctFoundRow = true := by kernel_rfl
theorem correctFound_row : Rows.CorrectFoundSaid :=
  OpenClaim.holds_of_wide 6 Tryz.f6 rfl rfl rfl rfl rfl rfl rfl ⟨rfl, rfl, rfl, rfl, rfl⟩ rfl rfl rfl rfl rfl correctFound_named Tryz.func6 correctFound_facts
    (of_decide_eq_true (by kernel_rfl)) (by unfold Func.isWrapper; first | (rw [if_pos (by decide +kernel)]; kernel_rfl) | (rw [if_neg (by decide +kernel)]; exact ⟨rfl, rfl⟩))
    (fun os started H enc _ => correctFound_lifted os started H enc)
theorem correctFound_holds : Rows.CorrectFoundCardSaid :=
  Claim7.holds_tied_plain_at .later [] [.data, .data, .data, .data, .sentinel, .sentinel, .pinned] true Rows.correctFoundCard.stood.harness true
    correctFound_row (fun _ h => by cases h) (by kernel_rfl) (fun _ h => by cases h) correctFound_row_tie rfl ⟨rfl, rfl⟩ (by kernel_rfl) rfl
    (fun f fn hf hfn => by
      obtain rfl : f = 6 := Option.some.inj (correctFound_named.symm.trans hf) |>.symm
      obtain rfl : fn = Tryz.f6 := (Option.some.inj (Tryz.func6.symm.trans hfn)).symm
      exact ⟨by kernel_rfl, fun j t ht => by
        rw [Tryz.params6] at ht
        have hm : t ∈ [40, 25, 43, 51] := by simpa using Array.mem_of_getElem? ht
        have hall : ([40, 25, 43, 51].all fun u => !Tryz.prog.wantsStandIn u) = true := by kernel_rfl
        exact (show Tryz.prog.wantsStandIn t = false by simpa using List.all_eq_true.1 hall t hm)⟩)
    (by kernel_rfl)
#print axioms correctFound_holds
end Go.Proofs.YtbpnacacnncopaaGreatDoor
