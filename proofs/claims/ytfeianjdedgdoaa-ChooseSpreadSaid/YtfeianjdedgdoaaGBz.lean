/- Proved: the law ChooseSpread of layer 52 returns true for every list of azimuths and every turn (ChooseSpreadSaid). No condition. -/
import Derived.Deep.Slices
import Derived.Deep.Strs
import Derived.Deep.Fields
import Derived.ChangeSame
import Derived.Carry
import Derived.SizedLaws
import Derived.Test.YtfeianjdedgdoaaGBy
import Derived.Test.YtfeianjdedgdoaaGClose
set_option linter.unusedVariables false
set_option linter.unusedSimpArgs false
namespace Go.Proofs.Ytfeianjdedgdoaa
open Go.ChangeShapes Go.WideShapes Go.ChangeAt Go.RowKit Go.Joins Go.Deep Spd
section
variable {H : Type} {enc : TypeId × Value → H} {P : Program} {w : World} {base : Nat} {spare : Nat → Bool} {held : Bool}
theorem open_two {t : TypeId} {f0 f1 : Field} {cs : List Value} {x : DataW H × List MemPlace} {fuel : Nat} (hs : P.underlying t = some (.struct #[f0, f1])) (hone : oneCellFields P #[f0, f1] = true)
    (h : DataW.trod enc P w base spare held fuel t cs = some x) (hl : cs.length = 2) :
    ∃ c0 c1 y0 y1 n, cs = [c0, c1] ∧ DataW.trod enc P w base spare held n f0.type [c0] = some y0 ∧ DataW.trod enc P w base spare held n f1.type [c1] = some y1 := by
  obtain ⟨y0, y1, n, _, _, h0, h1⟩ := trod_struct2 hs h
  obtain ⟨o0, k0⟩ := hone_of hone 0 f0 rfl
  obtain ⟨o1, k1⟩ := hone_of hone 1 f1 rfl
  match cs, hl with
  | [c0, c1], _ => exact ⟨c0, c1, y0, y1, n, rfl, by simpa [o0, k0] using h0, by simpa [o1, k1] using h1⟩
end
theorem Try.cellsArc : Try.prog.cellsOf 26 = 2 := by kernel_rfl
theorem aqvs_map (f : Nat → Sp) : ∀ (n j : Nat), (aqvs ((List.range n).map f))[j]? = if j < n * 2 then (aqv (f (j / 2)))[j % 2]? else none := by
  intro n
  induction n with
  | zero => intro j; simp [aqvs]
  | succ n ih =>
    intro j
    rw [List.range_succ, List.map_append, aqvs_append, List.getElem?_append, aqvs_length, List.length_map, List.length_range]
    by_cases h : j < n * 2
    · rw [if_pos h, ih, if_pos h, if_pos (by omega)]
    · rw [if_neg h]
      by_cases h2 : j < (n + 1) * 2
      · rw [if_pos h2]
        have e1 : j / 2 = n := by omega
        have e2 : j - n * 2 = j % 2 := by omega
        rw [e1, e2]
        simp [aqvs]
      · rw [if_neg h2]
        simp [aqvs, aqv]
        omega
set_option maxRecDepth 100000 in
theorem open_arcs {H : Type} {enc : TypeId × Value → H} {W : World} {v : Value} {d : DataW H} {ps : List MemPlace} {r : Reach} {b0 : Nat} (hv : Value.okWide Try.prog W r b0 22 v)
    (h : DataW.Trod enc Try.prog W 0 (fun _ => true) true 22 v d ps) :
    ∃ A n ca L, v = .slice A n ca ∧ Reads W W.heap.size 2 A n (aqvs L) ∧ n ≤ ca ∧ ca ≤ maxLen := by
  obtain ⟨a, len, cap, rfl⟩ := okWide_slice Try.underlying22 hv
  obtain ⟨fu, hf⟩ := h
  have hf' : DataW.trod enc Try.prog W 0 (fun _ => true) true fu 22 [.slice a len cap] = some (d, ps) := by simpa [Value.cells] using hf
  rcases open_slice Try.underlying22 hf' with ⟨h0, -⟩ | ⟨a', len', cap', m, n, D, Pl, hcs, hb, hl, hm, hmm, hx, hi⟩
  · cases h0
    exact ⟨none, 0, 0, [], rfl, Reads.none_, Nat.le_refl _, by simp [maxLen]⟩
  · cases hcs
    simp only [if_true] at hmm
    subst hmm
    have one : ∀ i, i < len → ∃ x : Sp, ∀ j, j < 2 → W.cell? (a'.add (i * 2 + j)) = (aqv x)[j]? := by
      intro i hil
      obtain ⟨cs, hc, ht⟩ := hi i (by omega)
      rw [Try.cellsArc] at hc
      obtain ⟨_, hcl, hat⟩ := World.cells?_some hc
      obtain ⟨c0, c1, y0, y1, n', rfl, h0, h1⟩ := open_two Try.underlying26 (by kernel_rfl) ht hcl
      obtain ⟨l, e0, -, -⟩ := DataW.trod_int Try.underlying3 h0
      obtain ⟨r, e1, -, -⟩ := DataW.trod_int Try.underlying3 h1
      cases e0
      cases e1
      refine ⟨(l, r), fun j hj => ?_⟩
      rw [← Go.Deep.add_add, hat j hj]
      rfl
    obtain ⟨f, hf2⟩ := choose_lt one
    refine ⟨some a', len, _, (List.range len).map f, rfl, ⟨by simp [aqvs_length], fun h0 => ⟨a', rfl, ?_, ?_⟩⟩, hl, hm⟩
    · have h1 := hf2 0 h0 0 (by omega)
      have h2 := World.block_lt_of_cell? W _ h1
      exact h2
    · intro j u hu
      rw [aqvs_map] at hu
      by_cases hj : j < len * 2
      · rw [if_pos hj] at hu
        have h1 := hf2 (j / 2) (by omega) (j % 2) (Nat.mod_lt _ (by omega))
        rw [show j / 2 * 2 + j % 2 = j by omega] at h1
        rw [h1, hu]
      · rw [if_neg hj] at hu
        cases hu
theorem Try.laidOutB : laidOutB Try.prog = true := by kernel_rfl
theorem Try.readArcs : Try.prog.readableRec 22 = true := by kernel_rfl
theorem Try.rowArcs : 22 < Try.prog.types.size := of_decide_eq_true (by kernel_rfl)
theorem arcs_stay {H : Type} {enc : TypeId × Value → H} {W W' : World} {sp : Nat → Bool} {v : Value} {d : DataW H} {ps : List MemPlace} (h : DataW.Trod enc Try.prog W 0 (fun _ => true) true 22 v d ps)
    (hb : Below W.heap.size W W') (hlt : ∀ x ∈ ps, x.block < W.heap.size) (hsp : ∀ p ∈ ps, sp p.block = true) : DataW.Trod enc Try.prog W' 0 sp true 22 v d ps :=
  WideElems.Trod_stays Try.laidOutB Try.readArcs Try.rowArcs h (fun x hx => hb.same (hlt x hx)) hsp
theorem wf_i32 {x : Int} (h : (Lit.int .i32 x).wf = true) : -2147483648 ≤ x ∧ x ≤ 2147483647 := by
  simp only [Lit.wf, Bool.and_eq_true, decide_eq_true_eq] at h
  have h1 : IntKind.min .i32 = -2147483648 := by decide
  have h2 : IntKind.max .i32 = 2147483647 := by decide
  rw [h1, h2] at h
  exact h
set_option maxRecDepth 100000 in
theorem chooseSpread_lifted (os : Os) (started : os.Started) (H : Type) (enc : TypeId × Value → H) :
    ReturnsInHanded {} Try.checked os 3 .any (Rows.chooseSpreadSpec.pre6 enc Try.prog Try.f3 Rows.chooseSpreadRow.domain false) (Rows.chooseSpreadSpec.post enc Try.prog Try.f3 false true false false) := by
  refine returnsInHanded_of_change (C := Try.checked) Try.own started (by kernel_rfl) Try.func3
    (ChangeSpec.witness6 (enc := enc) (C := Try.checked) false ⟨#[], #[.slice none 0 0, .int .i32 0], []⟩ 8 (by kernel_rfl) (by kernel_rfl) (by kernel_rfl) (by kernel_rfl)) ?_
  intro W base args ds gs before hval0 hW _ _
  have hval : ∀ (j : Nat) t v, Try.f3.params[j]? = some t → args[j]? = some v → Value.okWide Try.prog W .any base t v := hval0
  have hW' := hW
  obtain ⟨p, q, hA0, hV, rfl, _, _⟩ := hW
  have hA : DataW.TrodAll enc Try.prog W 0 (fun _ => true) true Try.f3.params.toList args.toList ds p := hA0
  rw [Try.params3] at hA hval
  obtain ⟨v0, v2, d0, d2, p0, p2, rfl, rfl, rfl, h0, h2⟩ := trodAll_two hA
  obtain ⟨rfl, rfl⟩ := trodVars_none hV
  obtain ⟨A, n, ca, L, rfl, ra, hn, hca⟩ := open_arcs (hval 0 22 v0 rfl rfl) h0
  obtain ⟨x, rfl, rfl, rfl, wx⟩ := open_int Try.underlying21 (hval 1 21 v2 rfl rfl) h2
  obtain ⟨x0, x1⟩ := wf_i32 wx
  clear hA0 hval0
  simp only [List.append_nil] at hW'
  have hlt : ∀ x ∈ p0, x.block < W.heap.size := fun x hx => hW'.lt x hx
  refine (chooseSpread_any A n ca L x W ra hn hca x0 x1).mono fun e W' ⟨he, hb⟩ => ?_
  subst he
  exact ⟨_, rfl, post_of_below (pa := p0) (pv := []) hW' (fun _ _ _ => trodAll_mk1 (shut_bool Try.underlying4 true)) (fun sp hsp => by
    have := trodAll_mk2 (arcs_stay h0 hb hlt hsp) (shut_int (enc := enc) (w := W') (base := 0) (spare := sp) (held := true) Try.underlying21 wx)
    rw [List.append_nil] at this
    exact this) (fun _ _ => rfl) (by simp) hb (ok_one (by kernel_rfl) rfl (okWide_bool_mk Try.underlying4 true))⟩
theorem chooseSpread_holds : Rows.ChooseSpreadSaid :=
  OpenClaim.holds_of_wide 3 Try.f3 rfl rfl rfl rfl rfl rfl rfl ⟨rfl, rfl, rfl, rfl, rfl⟩ rfl rfl rfl rfl rfl (by kernel_rfl) Try.func3 (by kernel_rfl)
    (of_decide_eq_true (by kernel_rfl)) (by unfold Func.isWrapper; first | (rw [if_pos (by decide +kernel)]; kernel_rfl) | (rw [if_neg (by decide +kernel)]; exact ⟨rfl, rfl⟩))
    (fun os started H enc _ => chooseSpread_lifted os started H enc)
#print axioms chooseSpread_holds
end Go.Proofs.Ytfeianjdedgdoaa
