/- The last step of a row where the call left nothing changed that was there. -/
import Derived.Test.YtlhdneeiikemjaaRows
import Derived.LoopN
import Derived.Below
import Derived.ProofKit
import Derived.Lib.SmallJoins
import Derived.Test.YtlhdneeiikemjaaGWords
import Derived.Test.YtlhdneeiikemjaaGSg
import Derived.Test.YtlhdneeiikemjaaGWo
import Derived.Test.YtlhdneeiikemjaaGRc
import Derived.Test.YtlhdneeiikemjaaGJg
set_option linter.unusedVariables false
set_option linter.unusedSimpArgs false
/- The walks of slices.Grow and slices.Concat at cells. -/
namespace Go.Proofs.Ytlhdneeiikemjaa
open Go.RowKit
theorem Grow_any (K : Nat) (w : World) (h0 : 0 < K) (hK : K ≤ 40000) :
    Calls Try.prog 35 #[.slice none 0 0, .int .i64 K] w (RetCells1 w []) := by
  obtain ⟨i0, hi0, hz0, hz1, hzb⟩ := info_parts Try.infoCell
  have h := Any8.slices_Grow_grow Try.growCell i0 _ hi0 hz0 (by omega) none 0 0 K [] w (Nat.le_refl _) (by omega) (by rw [hzb]; omega) (by omega) (by simp) (fun _ => rfl) (by simp)
  refine Calls.mono h ?_
  rintro e w' ⟨rfl, rfl⟩
  refine ⟨_, rfl, ⟨by simp [cvs], .inr ⟨_, _, _, rfl, by simp, heap_alloc_new _ _, Nat.zero_le _, ?_, ?_, by simp [cvs]⟩⟩, (bl_drew (Below.refl _ _)).alloc (Nat.le_refl _) _⟩
  · exact grownCap_le_maxLen w _ _ _ (by unfold maxLen; omega)
  · have := grownCap_ge w K 0 (Try.growCell_ren.t 25)
    simp [Builtin.zeroCells, Value.cells]
    omega
set_option maxHeartbeats 4000000 in
set_option maxRecDepth 100000 in
theorem Concat_any (g : Nat) (A B : Option Addr) (n m ca cb : Nat) (L M : List Cl) (w : World) (hg : g < w.heap.size) (x0 : w.cell? ⟨g, 0, none⟩ = some (.slice A n ca)) (x1 : w.cell? ⟨g, 1, none⟩ = some (.slice B m cb))
    (ra : Reads w w.heap.size 3 A n (cvs L)) (rb : Reads w w.heap.size 3 B m (cvs M)) (h0 : 0 < n + m) (hn : n + m ≤ 40000) :
    Calls Try.prog 10 #[.slice (some ⟨g, 0, none⟩) 2 2] w (RetCells1 w (L ++ M)) := by
  have hG := fun W => Grow_any (n + m) W h0 hn
  rw [Int.natCast_add] at hG
  have HG := Lib.hid hG
  clear hG
  have RA := Lib.hid ra
  have RB := Lib.hid rb
  have X := Lib.hid (And.intro x0 x1)
  have l1 : L.length = n := by have := ra.1; rw [cvs_length] at this; omega
  have l2 : M.length = m := by have := rb.1; rw [cvs_length] at this; omega
  obtain ⟨i0, hi0, hz0, hz1, hzb⟩ := info_parts Try.infoCell
  clear ra rb x0 x1
  obtain ⟨x0, x1⟩ := X.out
  have n1 : wrap64 (0 + (n : Int)) = n := by rw [IntWalk.wrap64_in _ (by omega)]; omega
  have n2 : wrap64 ((n : Int) + (m : Int)) = ((n + m : Nat) : Int) := by rw [IntWalk.wrap64_in _ (by omega)]; omega
  have n3 : ¬ (n : Int) < 0 := by omega
  have n4 : ¬ ((n + m : Nat) : Int) < 0 := by omega
  have HL := Lib.hid l1
  have HM := Lib.hid l2
  clear l1 l2
  go_enter Try.func10, Try.ntmps10
  go_wp2
  refine wp_loop_rounds 3 ?_
  iterate 3 (rw [rounds_succ]; go_wp2_with (first | (go_at_call 35; (with_reducible refine (HG.out _).mono ?_); rintro e w1 ⟨v1, rfl, hown1, hb1⟩)))
  go_wp2_with (go_at_call 35; (with_reducible refine (HG.out _).mono ?_); rintro e w1 ⟨v1, rfl, hown1, hb1⟩)
  have y0 := (hb1.cell (p := ⟨g, 0, none⟩) hg).trans x0
  have y1 := (hb1.cell (p := ⟨g, 1, none⟩) hg).trans x1
  have RA1 := Lib.hid (RA.out.below hb1)
  have RB1 := Lib.hid (RB.out.below hb1)
  have hz := hb1.size
  clear x0 x1
  have HO := Lib.hid hown1
  obtain ⟨A3, c3, hv3, -, -⟩ := own_form hown1
  subst hv3
  clear hown1
  go_wp2
  refine wp_loop_rounds 3 ?_
  rw [rounds_succ]
  go_wp2_with (at_builtin; (refine wpList_append_any _ rfl (.tmp 31) (.tmp 32) _ rfl w.heap.size 25 i0 _ 3 24 Try.underlying23 hi0 hz0 hz1 hzb rfl (by decide) _ 0 (cvs []) rfl HO.out w.heap.size A n ca (cvs L) rfl RA1.out (cvs_one _) (by simp only [maxLen]; omega) (by omega) hz ?_); intro v2 w2 hown2 hg2 hat2)
  have b2 : Below w.heap.size w w2 := hb1.grown hg2 hz (own_base HO.out)
  have y2 := (b2.cell (p := ⟨g, 1, none⟩) hg).trans X.out.2
  have RB2 := Lib.hid (RB.out.below b2)
  have hz2 := b2.size
  rw [Nat.zero_add] at hown2
  have HO2 := Lib.hid hown2
  obtain ⟨A4, c4, hv4, -, -⟩ := own_form hown2
  subst hv4
  clear hown2 y0 y1 RA1 RB1 HO hg2 hat2 hb1
  rw [rounds_succ]
  go_wp2_with (at_builtin; (refine wpList_append_any _ rfl (.tmp 31) (.tmp 32) _ rfl w.heap.size 25 i0 _ 3 24 Try.underlying23 hi0 hz0 hz1 hzb rfl (by decide) _ n _ rfl HO2.out w.heap.size B m cb (cvs M) rfl RB2.out (cvs_one _) (by simp only [maxLen]; omega) (by omega) hz2 ?_); intro v3 w3 hown3 hg3 hat3)
  have b3 : Below w.heap.size w w3 := b2.grown hg3 hz2 (own_base HO2.out)
  have HO3 := Lib.hid hown3
  obtain ⟨A5, c5, hv5, -, -⟩ := own_form hown3
  subst hv5
  clear hown3 hg3 hat3
  rw [rounds_succ]
  go_wp2
  go_ret
  refine ⟨_, rfl, ?_, b3⟩
  rw [List.length_append, HL.out, HM.out, cvs_append]
  simpa [cvs] using HO3.out
end Go.Proofs.Ytlhdneeiikemjaa
/- The walk of CellsFull. -/
namespace Go.Proofs.Ytlhdneeiikemjaa
open Go.RowKit
theorem own_lt {w : World} {base : Nat} {e : TypeId} {size n : Nat} {v : Value} {xs : List Value} (h : w.ownsRow base e size v n xs) {q : Nat} (hq : v.ownBlock = some q) : q < w.heap.size := by
  rcases h.2 with ⟨rfl, _⟩ | ⟨g, cap, cur, rfl, _, hh, _⟩
  · simp [Value.ownBlock] at hq
  · have : g = q := by simpa [Value.ownBlock] using hq
    subst this
    rcases Nat.lt_or_ge g w.heap.size with hlt | hge
    · exact hlt
    · rw [Array.getElem?_eq_none hge] at hh; cases hh
theorem own_grown {w w' : World} {base : Nat} {e : TypeId} {size n : Nat} {v : Value} {xs : List Value} {row : Option Nat} (h : w.ownsRow base e size v n xs) (hg : w.grownBy w' row) (hne : ∀ q, v.ownBlock = some q → row ≠ some q) : w'.ownsRow base e size v n xs := by
  refine ⟨h.1, ?_⟩
  have hlt := @own_lt w base e size n v xs h
  rcases h.2 with h1 | ⟨g, cap, cur, rfl, hb, hh, hr⟩
  · exact .inl h1
  · have hq : (Value.slice (some ⟨g, 0, none⟩) n cap).ownBlock = some g := by simp [Value.ownBlock]
    exact .inr ⟨g, cap, cur, rfl, hb, (hg.block g (hlt hq) (fun e => hne g hq e.symm)).trans hh, hr⟩
theorem rowN_succ (r k : Nat) : rowN r (k + 1) = rowN r k ++ [((16 : Int), (r : Int), ((2 * k : Nat) : Int))] := by
  simp [rowN, List.range_succ]
theorem rowN_cvs (r k : Nat) : cvs (rowN r (k + 1)) = cvs (rowN r k) ++ cv ((16 : Int), (r : Int), 2 * (k : Int)) := by
  rw [rowN_succ, cvs_append]
  simp [cvs]
/-- two rows that grow side by side -/
structure Two (B : Nat) (W : World) (a b : Value) (k : Nat) : Prop where
  oa : W.ownsRow B 25 3 a k (cvs (rowN 5 k))
  ob : W.ownsRow B 25 3 b k (cvs (rowN 9 k))
  ne : ∀ q, a.ownBlock = some q → b.ownBlock ≠ some q
set_option maxHeartbeats 4000000 in
set_option maxRecDepth 100000 in
theorem full_any (m : Nat) (w : World) (hm : m < 256) :
    Calls Try.prog 3 #[.int .u8 m] w fun e w' => e = .returned (.bool true) ∧ Below w.heap.size w w' := by
  have KA := Lib.hid awake38
  have vx : Vl ((3 : Int), (0 : Int), (0 : Int)) := by constructor <;> simp
  obtain ⟨RM, hRM⟩ : ∃ R, R = List.replicate (16001 + m) ((3 : Int), (0 : Int), (0 : Int)) := ⟨_, rfl⟩
  obtain ⟨RO, hRO⟩ : ∃ R, R = List.replicate 16000 ((3 : Int), (0 : Int), (0 : Int)) := ⟨_, rfl⟩
  have PM : Hid (∀ A c W, Reads W W.heap.size 3 A 1 (cv (3, 0, 0)) → Calls Try.prog 11 #[.slice A 1 c, .int .i64 (16001 + (m : Int))] W (RetCells1 W RM)) := Lib.hid fun A c W h => by
    have := Repeat_any (3, 0, 0) A c (16001 + m) W h (by omega) (by omega)
    rw [← hRM, show ((16001 + m : Nat) : Int) = 16001 + (m : Int) by omega] at this
    exact this
  have PO : Hid (∀ A c W, Reads W W.heap.size 3 A 1 (cv (3, 0, 0)) → Calls Try.prog 11 #[.slice A 1 c, .int .i64 16000] W (RetCells1 W RO)) := Lib.hid fun A c W h => by
    have := Repeat_any (3, 0, 0) A c 16000 W h (by omega) (by omega)
    rw [← hRO] at this
    exact this
  have TM : Hid (∀ A c W, Reads W W.heap.size 3 A (16001 + m) (cvs RM) → Calls Try.prog 7 #[.slice A (16001 + m) c] W (RetCells W [] 4)) := Lib.hid fun A c W h => by
    have := Tidy_any A (16001 + m) c _ W h (by simp only [maxLen]; omega)
    rw [hRM, (rep_many _ _ vx (by omega)).1, (rep_many _ _ vx (by omega)).2] at this
    exact this
  have TO : Hid (∀ A c W, Reads W W.heap.size 3 A 16000 (cvs RO) → Calls Try.prog 7 #[.slice A 16000 c] W (RetCells W [(3, 0, 0)] 0)) := Lib.hid fun A c W h => by
    have := Tidy_any A 16000 c _ W h (by simp only [maxLen]; omega)
    rw [hRO, (rep_one _ _ vx (by omega) (by omega)).1, (rep_one _ _ vx (by omega) (by omega)).2] at this
    exact this
  have LM : Hid (RM.length = 16001 + m) := Lib.hid (by rw [hRM, List.length_replicate])
  have LO : Hid (RO.length = 16000) := Lib.hid (by rw [hRO, List.length_replicate])
  clear hRM hRO vx
  have mw : IntKind.i64.wrap (m : Int) = m := by rw [IntKind.wrap_i64]; omega
  have mw2 : wrap64 (16001 + (m : Int)) = 16001 + (m : Int) := IntWalk.wrap64_in _ (by omega)
  obtain ⟨i0, hi0, hz0, hz1, hzb⟩ := info_parts Try.infoCell
  go_enter Try.func3, Try.ntmps3
  go_wp2_with fail
  (with_reducible refine (KA.out _).mono ?_)
  rintro e w1 ⟨rfl, hb1⟩
  clear KA
  go_wp2
  go_loopw [3, 4, 16] (fun a b i wr => ∃ k : Nat, k ≤ 4000 ∧ i = .int .i64 k ∧ Two w.heap.size wr a b k ∧ Below w.heap.size w wr) (fun _ _ i _ => 4000 - (intOf i).toNat)
  case atStart => exact ⟨0, by omega, rfl, ⟨own_nil _ _ _ _, own_nil _ _ _ _, by simp [Value.ownBlock]⟩, hb1⟩
  case round =>
    obtain ⟨k, hk, rfl, hT, hbr⟩ := hrel
    clear hb1
    by_cases hlt : k < 4000
    · have HT := Lib.hid hT
      clear hT
      have m1 : (k : Int) < 4000 := by omega
      have m2 : wrap64 (2 * (k : Int)) = ((2 * k : Nat) : Int) := by rw [IntWalk.wrap64_in _ (by omega)]; omega
      have hz := hbr.size
      have H5 : Hid (cvs (rowN 5 (k + 1)) = cvs (rowN 5 k) ++ cv (16, 5, 2 * (k : Int))) := Lib.hid (rowN_cvs 5 k)
      have H9 : Hid (cvs (rowN 9 (k + 1)) = cvs (rowN 9 k) ++ cv (16, 9, 2 * (k : Int))) := Lib.hid (rowN_cvs 9 k)
      go_wp2_with (at_builtin; first
        | (refine wpList_append_any _ rfl (.tmp 19) (.tmp 23) _ rfl w.heap.size 25 i0 _ 3 24 Try.underlying23 hi0 hz0 hz1 hzb rfl (by decide) u3 k (cvs (rowN 5 k)) rfl (HT.out.oa.alloc _) (wr.heap.size + 1) (some ⟨wr.heap.size, 0, none⟩) 1 1 (cv (16, 5, 2 * (k : Int))) rfl (reads_new wr _ _ _ _) (cv_one _) (by simp only [maxLen]; omega) (by omega) (by simp; omega) ?_; intro v2 w2 hown2 hg2 hat2; have HO2 := Lib.hid hown2; have HB2 := Lib.hid (own_grown (HT.out.ob.alloc _) hg2 (fun q hq e => HT.out.ne q e hq)); have b2 := (hbr.alloc hz (.cells #[.int .i64 16, .int .i64 5, .int .i64 (2 * (k : Int))] 25)).grown hg2 (by simp; omega) (own_base HT.out.oa); have hz2 := b2.size; have hzz := hg2.size; have HD := Lib.hid (fun q (h : u4.ownBlock = some q) => own_lt HT.out.ob h); obtain ⟨A2, c2, hv2, -, -⟩ := own_form hown2; have HA2 := Lib.hid hat2; subst hv2; clear hown2 hg2 hat2)
        | (refine wpList_append_any _ rfl (.tmp 25) (.tmp 29) _ rfl w.heap.size 25 i0 _ 3 24 Try.underlying23 hi0 hz0 hz1 hzb rfl (by decide) u4 k (cvs (rowN 9 k)) rfl (HB2.out.alloc _) (w2.heap.size + 1) (some ⟨w2.heap.size, 0, none⟩) 1 1 (cv (16, 9, 2 * (k : Int))) rfl (reads_new w2 _ _ _ _) (cv_one _) (by simp only [maxLen]; omega) (by omega) (by simp; omega) ?_; intro v3 w3 hown3 hg3 hat3))
      go_roundw
      case rel =>
        have hne : ∀ q, (Value.slice A2 (k + 1) c2).ownBlock = some q → u4.ownBlock ≠ some q := by
          intro q hq e
          rcases HA2.out with h | h
          · exact HT.out.ne q (h ▸ hq) e
          · rw [h] at hq
            injection hq with hq
            have := HD.out q e
            simp at hq
            omega
        refine ⟨k + 1, by omega, by go_num, ⟨?_, ?_, ?_⟩, (b2.alloc hz2 _).grown hg3 (by simp; omega) (own_base HT.out.ob)⟩
        · rw [H5.out]
          exact own_grown (HO2.out.alloc _) hg3 (fun q hq => hne q hq)
        · rw [H9.out]
          exact hown3
        · intro q hq
          rcases hat3 with h | h
          · rw [h]; exact hne q hq
          · rw [h]
            intro e
            injection e with e
            have := own_lt HO2.out hq
            simp at e
            omega
      case measure => simp [intOf]; omega
    · obtain rfl : k = 4000 := by omega
      obtain ⟨oa, ob, -⟩ := hT
      have T5 : ∀ A c W, Reads W W.heap.size 3 A 4000 (cvs (rowN 5 4000)) → Calls Try.prog 7 #[.slice A 4000 c] W (RetCells W (rowN 5 4000) 0) := fun A c W h => by
        have := Tidy_any A 4000 c _ W h (by simp [maxLen])
        rw [(row_tidy 5 (by omega)).1, (row_tidy 5 (by omega)).2.1] at this
        exact this
      have T9 : ∀ A c W, Reads W W.heap.size 3 A 4000 (cvs (rowN 9 4000)) → Calls Try.prog 7 #[.slice A 4000 c] W (RetCells W (rowN 9 4000) 0) := fun A c W h => by
        have := Tidy_any A 4000 c _ W h (by simp [maxLen])
        rw [(row_tidy 9 (by omega)).1, (row_tidy 9 (by omega)).2.1] at this
        exact this
      have TB : ∀ A c W, Reads W W.heap.size 3 A 8000 (cvs (rowN 5 4000 ++ rowN 9 4000)) → Calls Try.prog 7 #[.slice A 8000 c] W (RetCells W [] 4) := fun A c W h => by
        have := Tidy_any A 8000 c _ W h (by simp [maxLen])
        rw [row_both.1, row_both.2] at this
        exact this
      have TU : ∀ A B c d W, Reads W W.heap.size 3 A 4000 (cvs (rowN 5 4000)) → Reads W W.heap.size 3 B 4000 (cvs (rowN 9 4000)) → Calls Try.prog 9 #[.slice A 4000 c, .slice B 4000 d] W (RetCells W [] 4) := fun A B c d W h1 h2 => by
        have := Union_any A B 4000 4000 c d _ _ W h1 h2 (by simp [maxLen]) (by simp [maxLen])
        rw [row_union.1, row_union.2] at this
        exact this
      have TV : ∀ A c W, Reads W W.heap.size 3 A 4000 (cvs (rowN 5 4000)) → Calls Try.prog 8 #[.slice A 4000 c] W fun e w' => e = .returned (.bool true) ∧ Below W.heap.size W w' := fun A c W h => by
        have := ValidRegion_any A 4000 c _ W h (by simp [maxLen])
        rw [(row_tidy 5 (by omega)).2.2] at this
        exact this
      have L5 : (rowN 5 4000).length = 4000 := rowN_len 5 4000
      have L9 : (rowN 9 4000).length = 4000 := rowN_len 9 4000
      generalize rowN 5 4000 = R5 at *
      generalize rowN 9 4000 = R9 at *
      have HT5 := Lib.hid T5
      have HT9 := Lib.hid T9
      have HTB := Lib.hid TB
      have HTU := Lib.hid TU
      have HTV := Lib.hid TV
      have HL5 := Lib.hid L5
      have HL9 := Lib.hid L9
      clear T5 T9 TB TU TV L5 L9
      obtain ⟨A3, c3, hv3, ra, -⟩ := own_form oa
      obtain ⟨A4, c4, hv4, rb, -⟩ := own_form ob
      subst hv3 hv4
      have RA := Lib.hid ra
      have RB := Lib.hid rb
      clear oa ob ra rb
      go_wp2_with fail
      (with_reducible refine (HT5.out _ _ _ RA.out).mono ?_)
      rintro e w2 ⟨v2, rfl, own2, hb2⟩
      rw [HL5.out] at own2
      have b2 := hbr.trans (hb2.mono hbr.size)
      have RB2 := Lib.hid ((RB.out.below hb2).more hb2.size)
      have HO2 := Lib.hid own2
      obtain ⟨A5, c5, hv5, -, -⟩ := own_form own2
      subst hv5
      clear own2 hb2 hbr RA RB
      go_wp2_with fail
      (with_reducible refine (HT9.out _ _ _ RB2.out).mono ?_)
      rintro e w3 ⟨v3, rfl, own3, hb3⟩
      rw [HL9.out] at own3
      have b3 := b2.trans (hb3.mono b2.size)
      have RA3 := Lib.hid (((Reads.of_own HO2.out).below hb3).more hb3.size)
      obtain ⟨A6, c6, hv6, rb3, -⟩ := own_form own3
      have RB3 := Lib.hid rb3
      subst hv6
      clear own3 hb3 b2 RB2 HO2 rb3
      go_wp2_with fail
      (with_reducible refine (HTV.out _ _ _ RA3.out).mono ?_)
      rintro e w4 ⟨rfl, hb4⟩
      have b4 := b3.trans (hb4.mono b3.size)
      have RA4 := Lib.hid ((RA3.out.below hb4).more hb4.size)
      have RB4 := Lib.hid ((RB3.out.below hb4).more hb4.size)
      clear hb4 b3 RA3 RB3
      go_wp2_with fail
      (with_reducible refine (HTU.out _ _ _ _ _ RA4.out RB4.out).mono ?_)
      rintro e w5 ⟨v5, rfl, own5, hb5⟩
      simp only [List.length_nil] at own5
      have b5 := b4.trans (hb5.mono b4.size)
      obtain ⟨ob5, hob5⟩ : ∃ o : Obj, o = .cells #[.slice A5 4000 c5, .slice A6 4000 c6] 23 := ⟨_, rfl⟩
      have RA5 := Lib.hid ((((RA4.out.below hb5).more hb5.size).alloc (Nat.le_refl _) ob5).more (show w5.heap.size ≤ (w5.alloc ob5).heap.size by simp))
      have RB5 := Lib.hid ((((RB4.out.below hb5).more hb5.size).alloc (Nat.le_refl _) ob5).more (show w5.heap.size ≤ (w5.alloc ob5).heap.size by simp))
      subst hob5
      obtain ⟨A7, c7, hv7, -, -⟩ := own_form own5
      subst hv7
      clear own5 hb5 b4 RA4 RB4
      go_wp2_with fail
      (with_reducible refine (Concat_any w5.heap.size A5 A6 4000 4000 c5 c6 R5 R9 _ (by simp) (by simp) (by simp) RA5.out RB5.out (by omega) (by omega)).mono ?_)
      rintro e w6 ⟨v6, rfl, own6, hb6⟩
      have hl6 : (R5 ++ R9).length = 8000 := by rw [List.length_append, HL5.out, HL9.out]
      rw [hl6] at own6
      have b6 := b5.trans ((one_bl hb6).mono b5.size)
      obtain ⟨A8, c8, hv8, r8, -⟩ := own_form own6
      subst hv8
      have R8 := Lib.hid r8
      clear own6 hb6 b5 RA5 RB5 r8 hl6
      go_wp2_with fail
      (with_reducible refine (HTB.out _ _ _ R8.out).mono ?_)
      rintro e w7 ⟨v7, rfl, own7, hb7⟩
      simp only [List.length_nil] at own7
      have b7 := b6.trans (hb7.mono b6.size)
      obtain ⟨A9, c9, hv9, -, -⟩ := own_form own7
      subst hv9
      clear own7 hb7 b6 R8
      go_wp2_with fail
      (with_reducible refine (PM.out _ _ _ ((reads_new w7 3 0 0 25).more (by simp))).mono ?_)
      rintro e w8 ⟨v8, rfl, own8, hb8⟩
      rw [LM.out] at own8
      have b8 := b7.trans ((one_bl hb8).mono b7.size)
      obtain ⟨A10, c10, hv10, r10, -⟩ := own_form own8
      subst hv10
      have R10 := Lib.hid r10
      clear own8 hb8 b7 r10
      go_wp2_with fail
      (with_reducible refine (TM.out _ _ _ R10.out).mono ?_)
      rintro e w9 ⟨v9, rfl, own9, hb9⟩
      simp only [List.length_nil] at own9
      have b9 := b8.trans (hb9.mono b8.size)
      obtain ⟨A11, c11, hv11, -, -⟩ := own_form own9
      subst hv11
      clear own9 hb9 b8 R10
      go_wp2_with fail
      (with_reducible refine (PO.out _ _ _ ((reads_new w9 3 0 0 25).more (by simp))).mono ?_)
      rintro e w10 ⟨v10, rfl, own10, hb10⟩
      rw [LO.out] at own10
      have b10 := b9.trans ((one_bl hb10).mono b9.size)
      obtain ⟨A12, c12, hv12, r12, -⟩ := own_form own10
      subst hv12
      have R12 := Lib.hid r12
      clear own10 hb10 b9 r12
      go_wp2_with fail
      (with_reducible refine (TO.out _ _ _ R12.out).mono ?_)
      rintro e w11 ⟨v11, rfl, own11, hb11⟩
      simp only [List.length_cons, List.length_nil, Nat.zero_add] at own11
      have b11 := b10.trans (hb11.mono b10.size)
      obtain ⟨A13, c13, hv13, r13, -⟩ := own_form own11
      subst hv13
      have R13 := Lib.hid r13
      clear own11 hb11 b10 R12 r13
      go_wp2_with fail
      (with_reducible refine (Same_any A13 (some ⟨w11.heap.size, 0, none⟩) 1 1 c13 1 [(3, 0, 0)] [(3, 0, 0)] _ w11.heap.size (w11.heap.size + 1) (R13.out.alloc (Nat.le_refl _) _) (reads_new3 w11 3 0 0 _ _ (by omega)) (by simp [maxLen]) (by simp [maxLen])).mono ?_)
      rintro e w12 ⟨rfl, q, rfl⟩
      go_wp2
      go_ret
      refine ⟨ret_bool (by simp), ?_⟩
      have hz := b11.size
      repeat (first | exact Below.refl _ _ | assumption | refine bl_drew ?_ | refine bl_drewN ?_ _ | refine Below.setCell ?_ (by first | assumption | omega | (simp; done) | (simp; omega)) _ | refine Below.alloc ?_ (by first | assumption | omega | (simp; done) | (simp; omega)) _)
end Go.Proofs.Ytlhdneeiikemjaa
namespace Go.Proofs.Ytlhdneeiikemjaa
open Go.ChangeShapes Go.WideShapes Go.ChangeAt Go.RowKit
theorem Try.own : ownKnob Try.prog.godebug = none := by kernel_rfl
section
variable {H : Type} {enc : TypeId × Value → H} {P : Program}
theorem post_of_below {f : Func} {s : ChangeSpec} {apart fresh handsOn again : Bool} {W W' : World} {args : Array Value} {v : Value} {ds gs : List (DataW H)} {before pa pv : List MemPlace}
    (hW : DataW.Whole enc P f.params.toList s.vars apart W args.toList ds gs before)
    (hres : ∀ (b : Nat) (sp : Nat → Bool) (hd : Bool), DataW.TrodAll enc P W' b sp hd f.resultTypes.toList (v.resultList f.resultTypes.size) (s.fn H (ds ++ gs)).results [])
    (hargs : ∀ sp : Nat → Bool, (∀ p ∈ before, sp p.block = true) → DataW.TrodAll enc P W' 0 sp true f.params.toList args.toList (s.fn H (ds ++ gs)).args pa)
    (hvars : ∀ sp : Nat → Bool, (∀ p ∈ before, sp p.block = true) → DataW.TrodVars enc P W' sp s.vars (s.fn H (ds ++ gs)).vars pv)
    (hps : before = pa ++ pv) (hb : Below W.heap.size W W')
    (hok : ∀ (j : Nat) (t : TypeId) (r : Value), f.resultTypes[j]? = some t → (v.resultList f.resultTypes.size)[j]? = some r → Value.okWide P W' .any 0 t r) :
    s.post enc P f apart fresh handsOn again W args v W' := by
  have hlt : ∀ p ∈ before, p.block < W.heap.size := fun p hp => hW.lt p hp
  have hold : ∀ p ∈ before, (fun b => decide (b < W.heap.size)) p.block = true := fun p hp => by simpa using hlt p hp
  refine ⟨ds, gs, before, [], pa, pv, hW, hres _ _ _, hargs _ hold, hvars _ hold, World.keptBut_mono (fun p hp => ⟨hp, ?_⟩) (hb.frame (· ∈ before)), fun _ => ?_⟩
  · rw [hps, List.mem_append] at hp
    exact Or.inr hp
  · obtain ⟨_, _, _, _, _, hz, hn⟩ := hW
    refine ⟨hok, _, _, ([] ++ pa) ++ pv, ⟨[] ++ pa, pv, trodAll_append (hargs _ (fun _ _ => rfl)) (hres _ _ _), hvars _ (fun _ _ => rfl), rfl, ?_, ?_⟩, ?_⟩
    · intro b off hp
      have hin : MemPlace.cell b off ∈ before := by rw [hps]; simpa using hp
      rw [hb.frozen (hlt _ hin)]
      exact hz b off hin
    · intro ha
      have := hn ha
      rw [hps] at this
      simpa using this
    · intro p hp _
      rw [hps]
      simpa using hp
end
end Go.Proofs.Ytlhdneeiikemjaa
