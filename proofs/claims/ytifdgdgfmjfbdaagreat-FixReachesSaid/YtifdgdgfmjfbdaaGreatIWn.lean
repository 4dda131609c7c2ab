/- The walk of Tidy. -/
import Derived.Deep.Cut
import Derived.Test.YtifdgdgfmjfbdaaGreatIWm
set_option linter.unusedVariables false
set_option linter.unusedSimpArgs false
namespace Go.Proofs.YtifdgdgfmjfbdaaGreat
open Go.RowKit
/-- the least level of a cell that begins at f and ends by t, from a level on downward -/
def lv (f t : Nat) : Nat → Nat
  | 0 => 0
  | l + 1 => if f % csz l ≠ 0 ∨ t < f + csz l then l + 1 else lv f t l
theorem lv_le (f t : Nat) : ∀ l, lv f t l ≤ l
  | 0 => Nat.le_refl _
  | l + 1 => by
    unfold lv
    split
    · exact Nat.le_refl _
    · have := lv_le f t l; omega
/-- a cell of a level by its number -/
def cellN (n l : Nat) : Cl := ((l : Int), ((rwTo l n : Nat) : Int), ((colOf l n : Nat) : Int))
def cutFu : Nat → Nat → Nat → List Cl
  | 0, _, _ => []
  | fu + 1, f, t => if f < t then cellN (f / csz (lv f t 16)) (lv f t 16) :: cutFu fu (f + csz (lv f t 16)) t else []
theorem cutFu_more : ∀ (a b f t : Nat), t - f ≤ a → t - f ≤ b → cutFu a f t = cutFu b f t
  | 0, 0, _, _, _, _ => rfl
  | 0, b + 1, f, t, h, _ => by
    have : ¬ f < t := by omega
    simp [cutFu, this]
  | a + 1, 0, f, t, _, h => by
    have : ¬ f < t := by omega
    simp [cutFu, this]
  | a + 1, b + 1, f, t, h1, h2 => by
    unfold cutFu
    by_cases h : f < t
    · have hp := csz_pos (lv f t 16)
      rw [if_pos h, if_pos h, cutFu_more a b _ t (by omega) (by omega)]
    · rw [if_neg h, if_neg h]
/-- the cells of a span -/
def cut (f t : Nat) : List Cl := cutFu (t - f) f t
theorem cut_no {f t : Nat} (h : ¬ f < t) : cut f t = [] := by
  unfold cut
  rw [show t - f = 0 by omega]
  rfl
theorem cut_yes {f t : Nat} (h : f < t) : cut f t = cellN (f / csz (lv f t 16)) (lv f t 16) :: cut (f + csz (lv f t 16)) t := by
  unfold cut
  obtain ⟨k, hk⟩ : ∃ k, t - f = k + 1 := ⟨t - f - 1, by omega⟩
  have hp := csz_pos (lv f t 16)
  rw [hk, cutFu, if_pos h, cutFu_more k (t - (f + csz (lv f t 16))) _ t (by omega) (by omega)]
def cutS (s : Sp) : List Cl := cut s.1.toNat s.2.toNat
/-- what tidy returns, whatever its length -/
def tidyL (D : List Sp) : List Cl := D.flatMap cutS

theorem tidyL_take (D : List Sp) (k : Nat) (hk : k < D.length) : tidyL (D.take (k + 1)) = tidyL (D.take k) ++ cutS (gs D k) := by
  rw [List.take_succ_eq_append_getElem hk]
  unfold tidyL
  rw [List.flatMap_append]
  simp [gs, hk]
theorem lv_pos (f t l : Nat) (h : 1 ≤ l) : lv f t l = if f % csz (l - 1) ≠ 0 ∨ t < f + csz (l - 1) then l else lv f t (l - 1) := by
  obtain ⟨k, rfl⟩ : ∃ k, l = k + 1 := ⟨l - 1, by omega⟩
  rfl
theorem csz16 : csz 16 = 1 := rfl
theorem lv_fit' (f t : Nat) : ∀ l, f + csz l ≤ t → f + csz (lv f t l) ≤ t
  | 0, h => h
  | l + 1, h => by
    unfold lv
    split
    · exact h
    · rename_i hc
      exact lv_fit' f t l (by omega)
theorem lv_fit {f t : Nat} (h : f < t) : f + csz (lv f t 16) ≤ t := lv_fit' f t 16 (by rw [csz16]; omega)
theorem csz_up (l : Nat) (h1 : 1 ≤ l) (h2 : l ≤ 16) : (2 : Int) ^ (2 * (16 - l + 1)) = (csz (l - 1) : Int) := by
  rw [← csz_shift' (l - 1)]
  congr 2
  omega

def RetTidy (w : World) (D : List Sp) (e : Ending) (w' : World) : Prop :=
  Below w.heap.size w w' ∧
  (((tidyL D).length ≤ 4000 ∧ ∃ v, e = .returned (.tuple #[v, .bool true]) ∧ w'.ownsRow w.heap.size 102 3 v (tidyL D).length (cvs (tidyL D))) ∨
   (4000 < (tidyL D).length ∧ e = .returned (.tuple #[.slice none 0 0, .bool false])))
def qI (f l : Nat) : Int := (f / csz l : Nat)
theorem qI_eq (f l : Nat) (h : f < 8589934592) : wrap64 ((f : Int) / (csz l : Int)) = qI f l := by
  have e : (f : Int) / (csz l : Int) = qI f l := by unfold qI; simp
  have h2 := Nat.div_le_self f (csz l)
  rw [e]
  refine IntWalk.wrap64_in _ ?_
  unfold qI
  generalize f / csz l = z at *
  omega
theorem cellOf_q (f l : Nat) (w : World) (h1 : l ≤ 16) (h2 : f < 8589934592) :
    Calls Tryz.prog 176 #[.int .i64 (qI f l), .int .i64 l] w fun e w' => e = .returned (.agg #[.int .i64 (cellN (f / csz l) l).1, .int .i64 (cellN (f / csz l) l).2.1, .int .i64 (cellN (f / csz l) l).2.2]) ∧ Below w.heap.size w w' := by
  refine cellOf_nat (f / csz l) l w h1 ?_
  rw [Nat.div_lt_iff_lt_mul (csz_pos l), Nat.mul_assoc, csz_mul l h1]
  exact h2

set_option maxHeartbeats 8000000 in
set_option maxRecDepth 100000 in
theorem tidy_any (A : Option Addr) (n c : Nat) (D : List Sp) (w : World) (hr : Reads w w.heap.size 2 A n (spvs D)) (hn : n ≤ 1000000) (hok : SpOk D) :
    Calls Tryz.prog 116 #[.slice A n c] w (RetTidy w D) := by
  have hl : D.length = n := by have := hr.1; rw [spvs_length] at this; omega
  have HL := Lib.hid hl
  have HR := Lib.hid hr
  have HO := Lib.hid hok
  clear hr hok hl
  obtain ⟨i0, hi0, hz0, hz1, hzb⟩ := info_parts Tryz.infoCell
  go_enter Tryz.func116, Tryz.ntmps116
  go_wp2
  go_loopw [4, 12] (fun v i wr => ∃ k : Nat, k ≤ n ∧ i = .int .i64 k ∧ (tidyL (D.take k)).length ≤ 4000 ∧ wr.ownsRow w.heap.size 102 3 v (tidyL (D.take k)).length (cvs (tidyL (D.take k))) ∧ Below w.heap.size w wr) (fun _ i _ => n - (intOf i).toNat)
  case atStart => exact ⟨0, Nat.zero_le _, rfl, by simp [tidyL], own_nil _ _ _ _, Below.refl _ _⟩
  case round =>
    obtain ⟨k, hk, rfl, hln, hown, hbr⟩ := hrel
    have hz := hbr.size
    by_cases hlt : k < n
    · obtain ⟨b, off, rfl, hb, x1, x2⟩ := SReads.elem HR.out hlt
      have y1 := (hbr.cell (p := ⟨b, off + k * 2, none⟩) hb).trans x1
      have y2 := (hbr.cell (p := ⟨b, off + k * 2 + 1, none⟩) hb).trans x2
      clear x1 x2
      have hkl : k < D.length := by rw [HL.out]; exact hlt
      have hos := HO.out (gs D k) (by simp [gs, hkl])
      have hts := tidyL_take D k hkl
      have hpre : ∃ R, tidyL D = tidyL (D.take (k + 1)) ++ R := ⟨tidyL (D.drop (k + 1)), by simp only [tidyL]; rw [← List.flatMap_append, List.take_append_drop]⟩
      have HP := Lib.hid hpre
      clear hpre hkl
      generalize gs D k = s at y1 y2 hos hts
      obtain ⟨sf, st⟩ := s
      obtain ⟨o1, o2, o3⟩ := hos
      simp only [] at y1 y2 o1 o2 o3
      obtain ⟨f0, rfl⟩ := Int.eq_ofNat_of_zero_le o1
      obtain ⟨t0, rfl⟩ := Int.eq_ofNat_of_zero_le (show 0 ≤ st by omega)
      have hcs : cutS ((f0 : Int), (t0 : Int)) = cut f0 t0 := rfl
      rw [hcs] at hts
      clear hcs
      generalize hP1 : tidyL (D.take (k + 1)) = P1 at hts HP
      have HP1 := Lib.hid hP1
      clear hP1
      generalize tidyL (D.take k) = P0 at hts hln hown
      have HT := Lib.hid hts
      clear hts
      go_wp2
      have hB := Blk.new wr 194 #[.int .i64 (f0 : Int), .int .i64 (t0 : Int)]
      have hown4 := hown.alloc (.cells #[.int .i64 (f0 : Int), .int .i64 (t0 : Int)] 194)
      have hb4 := hbr.alloc hz (.cells #[.int .i64 (f0 : Int), .int .i64 (t0 : Int)] 194)
      have hz4 : w.heap.size ≤ wr.heap.size := hz
      generalize wr.alloc (.cells #[.int .i64 (f0 : Int), .int .i64 (t0 : Int)] 194) = w4 at hB hown4 hb4 ⊢
      generalize wr.heap.size = bS at hB hz4 ⊢
      clear hown hbr hz y1 y2
      go_loopg [4] (t0 - f0) (fun gg v wq => ∃ (f : Nat) (M : List Cl), gg = t0 - f ∧ Blk wq bS 194 #[.int .i64 (f : Int), .int .i64 (t0 : Int)] ∧ M.length ≤ 4000 ∧ wq.ownsRow w.heap.size 102 3 v M.length (cvs M) ∧ RowKit.Below w.heap.size w wq ∧ f ≤ t0 ∧ M ++ cut f t0 = P1)
      case atStart => exact ⟨f0, P0, rfl, hB, hln, hown4, hb4, by omega, HT.out.symm⟩
      case round =>
        clear hown4 hb4 hB HT hln
        obtain ⟨f, M, hg, hB, hM, hown, hbq, hft, hcut⟩ := hrel
        have HC := Lib.hid hcut
        have HG := Lib.hid hg
        clear hcut hg
        have q0 : wr.cell? ⟨bS, 0, none⟩ = some (.int .i64 (f : Int)) := hB.cell 0
        have q1 : wr.cell? ⟨bS, 1, none⟩ = some (.int .i64 (t0 : Int)) := hB.cell 1
        have q2 : wr.frozen? ⟨bS, 0, none⟩ = false := hB.frozen 0
        have hzq := hbq.size
        by_cases hlt2 : f < t0
        · go_wp2
          have hzc := fun l => csz_le l
          have HZ := Lib.hid hzc
          clear hzc
          go_loop [7] (fun v7 => ∃ l : Nat, l ≤ 16 ∧ v7 = .int .i64 l ∧ lv f t0 16 = lv f t0 l) (fun v7 => (intOf v7).toNat)
          case atStart => exact ⟨16, by omega, rfl, rfl⟩
          case round =>
            obtain ⟨l, hl16, rfl, hlv⟩ := hrel
            have HLV := Lib.hid hlv
            clear hlv
            have hzl := HZ.out (l - 1)
            have hzl' := HZ.out l
            by_cases hc : 1 ≤ l ∧ f % csz (l - 1) = 0 ∧ f + csz (l - 1) ≤ t0
            · obtain ⟨c1, c2, c3⟩ := hc
              have hlv2 := lv_pos f t0 l c1
              rw [if_neg (by omega)] at hlv2
              have HLV2 := Lib.hid hlv2
              clear hlv2
              have hl0 : 0 < l := c1
              have hcp := csz_pos (l - 1)
              have hc0 : ¬ csz (l - 1) = 0 := by omega
              have c4 : (f : Int) + (csz (l - 1) : Int) ≤ (t0 : Int) := by omega
              have e1 : wrap64 ((2 : Int) ^ (2 * (16 - l + 1))) = (csz (l - 1) : Int) := by rw [csz_up l c1 hl16]; exact IntWalk.wrap64_in _ (by omega)
              have E1 := Lib.hid e1
              clear e1
              go_upto_region 9 with fail
              rw [E1.out]
              clear E1
              have e2 : ((f : Int) % (csz (l - 1) : Int) != 0) = false := by
                rw [bne_eq_false_iff_eq]
                exact_mod_cast c2
              clear c2 c3
              go_wp2
              clear e2
              go_round
              case rel => exact ⟨l - 1, by omega, by congr 1; omega, by rw [HLV.out, HLV2.out]⟩
              case measure => simp [intOf]; omega
            · have hL : lv f t0 16 = l := by
                rw [HLV.out]
                rcases Nat.eq_zero_or_pos l with h | h
                · subst h; rfl
                · rw [lv_pos f t0 l h, if_pos]
                  by_cases h2 : f % csz (l - 1) = 0
                  · exact .inr (by
                      have : ¬ f + csz (l - 1) ≤ t0 := fun h3 => hc ⟨h, h2, h3⟩
                      omega)
                  · exact .inl h2
              have hfit := lv_fit hlt2
              have hcy := cut_yes hlt2
              rw [hL] at hfit hcy
              have hcy := Lib.hid hcy
              have hcell := Lib.hid (fun W => cellOf_q f l W hl16 (by omega))
              have hzl2 := csz_pos l
              generalize cellN (f / csz l) l = x at hcy hcell
              obtain ⟨xa, xb, xc⟩ := x
              simp only [] at hcell
              have hcz : ¬ csz l = 0 := by omega
              have E2 := Lib.hid (show wrap64 ((2 : Int) ^ (2 * (16 - l))) = (csz l : Int) from by rw [csz_shift' l]; exact IntWalk.wrap64_in _ (by omega))
              clear hL HLV
              have hways : (¬ 0 < l) ∨ (1 ≤ l ∧ ¬ f % csz (l - 1) = 0) ∨ (1 ≤ l ∧ f % csz (l - 1) = 0 ∧ t0 < f + csz (l - 1)) := by
                rcases Nat.eq_zero_or_pos l with h | h
                · exact .inl (by omega)
                · by_cases h2 : f % csz (l - 1) = 0
                  · exact .inr (.inr ⟨h, h2, by
                      have : ¬ f + csz (l - 1) ≤ t0 := fun h3 => hc ⟨h, h2, h3⟩
                      omega⟩)
                  · exact .inr (.inl ⟨h, h2⟩)
              rcases hways with hl0 | ⟨c1, c2⟩ | ⟨c1, c2, c3⟩
              · skip
                go_upto_region 12 with fail
                rw [E2.out]
                have F1 := Lib.hid (qI_eq f l (by omega))
                clear hc E2
                go_wp2_with fail
                rw [F1.out]
                with_reducible refine (hcell.out _).mono ?_
                rintro e w5 ⟨rfl, hb5⟩
                have hown5 := own_bl hown hb5 (Nat.le_refl _)
                have hz5 := hb5.size
                have hB5 := hB.below hb5 hB.lt
                by_cases hov : M.length + 1 ≤ 4000
                · have hov' : M.length ≤ 3999 := by omega
                  go_wp2_with ((at_builtin; (refine wpList_append_any _ rfl (.tmp 48) (.tmp 55) _ rfl w.heap.size 102 i0 _ 3 24 Tryz.underlying48 hi0 hz0 hz1 hzb rfl (by decide) u4 M.length (cvs M) rfl (hown5.alloc _) (w5.heap.size + 1) (some ⟨w5.heap.size, 0, none⟩) 1 1 (cv (xa, xb, xc)) rfl (reads_new w5 _ _ _ _) (cv_one _) (by simp only [maxLen]; omega) (by omega) (by simp; omega) ?_); intro v2 w6 hown6 hg6 hat6; have hB6 := (hB5.alloc (.cells #[.int .i64 xa, .int .i64 xb, .int .i64 xc] 102)).grown hg6 (fun e => own_blk_ne hown5 hB5 (by decide) e.symm); have r0 : w6.cell? ⟨bS, 0, none⟩ = some (.int .i64 (f : Int)) := hB6.cell 0; have r2 := hB6.frozen 0; obtain ⟨A6, c6, rfl, -, -⟩ := own_form hown6))
                  go_roundg (t0 - (f + csz l))
                  case measure => have := HG.out; omega
                  case rel =>
                    refine ⟨f + csz l, M ++ [(xa, xb, xc)], rfl, ?_, by simp; omega, ?_, ?_, by omega, ?_⟩
                    · have := hB6.set_ 0 (.int .i64 ((f : Int) + (csz l : Int)))
                      simpa using this
                    · rw [cvs_append, List.length_append]
                      exact ownsRow_far hown6 hB6 (by decide)
                    · exact (((hbq.trans (hb5.mono hzq)).alloc (by omega) _).grown hg6 (by simp; omega) (own_base hown)).setCell hz4 _
                    · rw [← HC.out, hcy.out]
                      simp
                · have hov' : 4000 ≤ M.length := by omega
                  have hov2 : ¬ M.length ≤ 3999 := by omega
                  go_wp2_with ((at_builtin; (refine wpList_append_any _ rfl (.tmp 48) (.tmp 55) _ rfl w.heap.size 102 i0 _ 3 24 Tryz.underlying48 hi0 hz0 hz1 hzb rfl (by decide) u4 M.length (cvs M) rfl (hown5.alloc _) (w5.heap.size + 1) (some ⟨w5.heap.size, 0, none⟩) 1 1 (cv (xa, xb, xc)) rfl (reads_new w5 _ _ _ _) (cv_one _) (by simp only [maxLen]; omega) (by omega) (by simp; omega) ?_); intro v2 w6 hown6 hg6 hat6; obtain ⟨A6, c6, rfl, -, -⟩ := own_form hown6))
                  go_ret2
                  refine ⟨((hbq.trans (hb5.mono hzq)).alloc (by omega) _).grown hg6 (by simp; omega) (own_base hown), .inr ⟨?_, rfl⟩⟩
                  obtain ⟨R, hR⟩ := HP.out
                  rw [hR, ← HC.out, hcy.out]
                  simp
                  omega
              · skip
                have e1 : wrap64 ((2 : Int) ^ (2 * (16 - l + 1))) = (csz (l - 1) : Int) := by rw [csz_up l c1 hl16]; exact IntWalk.wrap64_in _ (by omega)
                have E1 := Lib.hid e1
                clear e1
                have hl0 : 0 < l := c1
                have hcp := csz_pos (l - 1)
                have hc0 : ¬ csz (l - 1) = 0 := by omega
                go_upto_region 9 with fail
                rw [E1.out]
                clear E1
                have e2 : ((f : Int) % (csz (l - 1) : Int) != 0) = true := by
                  rw [bne_iff_ne]
                  exact_mod_cast c2
                clear c2
                go_upto_region 12 with fail
                clear e2
                rw [E2.out]
                have F1 := Lib.hid (qI_eq f l (by omega))
                clear hc E2
                go_wp2_with fail
                rw [F1.out]
                with_reducible refine (hcell.out _).mono ?_
                rintro e w5 ⟨rfl, hb5⟩
                have hown5 := own_bl hown hb5 (Nat.le_refl _)
                have hz5 := hb5.size
                have hB5 := hB.below hb5 hB.lt
                by_cases hov : M.length + 1 ≤ 4000
                · have hov' : M.length ≤ 3999 := by omega
                  go_wp2_with ((at_builtin; (refine wpList_append_any _ rfl (.tmp 48) (.tmp 55) _ rfl w.heap.size 102 i0 _ 3 24 Tryz.underlying48 hi0 hz0 hz1 hzb rfl (by decide) u4 M.length (cvs M) rfl (hown5.alloc _) (w5.heap.size + 1) (some ⟨w5.heap.size, 0, none⟩) 1 1 (cv (xa, xb, xc)) rfl (reads_new w5 _ _ _ _) (cv_one _) (by simp only [maxLen]; omega) (by omega) (by simp; omega) ?_); intro v2 w6 hown6 hg6 hat6; have hB6 := (hB5.alloc (.cells #[.int .i64 xa, .int .i64 xb, .int .i64 xc] 102)).grown hg6 (fun e => own_blk_ne hown5 hB5 (by decide) e.symm); have r0 : w6.cell? ⟨bS, 0, none⟩ = some (.int .i64 (f : Int)) := hB6.cell 0; have r2 := hB6.frozen 0; obtain ⟨A6, c6, rfl, -, -⟩ := own_form hown6))
                  go_roundg (t0 - (f + csz l))
                  case measure => have := HG.out; omega
                  case rel =>
                    refine ⟨f + csz l, M ++ [(xa, xb, xc)], rfl, ?_, by simp; omega, ?_, ?_, by omega, ?_⟩
                    · have := hB6.set_ 0 (.int .i64 ((f : Int) + (csz l : Int)))
                      simpa using this
                    · rw [cvs_append, List.length_append]
                      exact ownsRow_far hown6 hB6 (by decide)
                    · exact (((hbq.trans (hb5.mono hzq)).alloc (by omega) _).grown hg6 (by simp; omega) (own_base hown)).setCell hz4 _
                    · rw [← HC.out, hcy.out]
                      simp
                · have hov' : 4000 ≤ M.length := by omega
                  have hov2 : ¬ M.length ≤ 3999 := by omega
                  go_wp2_with ((at_builtin; (refine wpList_append_any _ rfl (.tmp 48) (.tmp 55) _ rfl w.heap.size 102 i0 _ 3 24 Tryz.underlying48 hi0 hz0 hz1 hzb rfl (by decide) u4 M.length (cvs M) rfl (hown5.alloc _) (w5.heap.size + 1) (some ⟨w5.heap.size, 0, none⟩) 1 1 (cv (xa, xb, xc)) rfl (reads_new w5 _ _ _ _) (cv_one _) (by simp only [maxLen]; omega) (by omega) (by simp; omega) ?_); intro v2 w6 hown6 hg6 hat6; obtain ⟨A6, c6, rfl, -, -⟩ := own_form hown6))
                  go_ret2
                  refine ⟨((hbq.trans (hb5.mono hzq)).alloc (by omega) _).grown hg6 (by simp; omega) (own_base hown), .inr ⟨?_, rfl⟩⟩
                  obtain ⟨R, hR⟩ := HP.out
                  rw [hR, ← HC.out, hcy.out]
                  simp
                  omega
              · skip
                have e1 : wrap64 ((2 : Int) ^ (2 * (16 - l + 1))) = (csz (l - 1) : Int) := by rw [csz_up l c1 hl16]; exact IntWalk.wrap64_in _ (by omega)
                have E1 := Lib.hid e1
                clear e1
                have hl0 : 0 < l := c1
                have hcp := csz_pos (l - 1)
                have hc0 : ¬ csz (l - 1) = 0 := by omega
                go_upto_region 9 with fail
                rw [E1.out]
                clear E1
                have e2 : ((f : Int) % (csz (l - 1) : Int) != 0) = false := by
                  rw [bne_eq_false_iff_eq]
                  exact_mod_cast c2
                have c4 : (t0 : Int) < (f : Int) + (csz (l - 1) : Int) := by clear e2; omega
                clear c2 c3
                go_upto_region 12 with fail
                clear e2
                rw [E2.out]
                have F1 := Lib.hid (qI_eq f l (by omega))
                clear hc E2
                go_wp2_with fail
                rw [F1.out]
                with_reducible refine (hcell.out _).mono ?_
                rintro e w5 ⟨rfl, hb5⟩
                have hown5 := own_bl hown hb5 (Nat.le_refl _)
                have hz5 := hb5.size
                have hB5 := hB.below hb5 hB.lt
                by_cases hov : M.length + 1 ≤ 4000
                · have hov' : M.length ≤ 3999 := by omega
                  go_wp2_with ((at_builtin; (refine wpList_append_any _ rfl (.tmp 48) (.tmp 55) _ rfl w.heap.size 102 i0 _ 3 24 Tryz.underlying48 hi0 hz0 hz1 hzb rfl (by decide) u4 M.length (cvs M) rfl (hown5.alloc _) (w5.heap.size + 1) (some ⟨w5.heap.size, 0, none⟩) 1 1 (cv (xa, xb, xc)) rfl (reads_new w5 _ _ _ _) (cv_one _) (by simp only [maxLen]; omega) (by omega) (by simp; omega) ?_); intro v2 w6 hown6 hg6 hat6; have hB6 := (hB5.alloc (.cells #[.int .i64 xa, .int .i64 xb, .int .i64 xc] 102)).grown hg6 (fun e => own_blk_ne hown5 hB5 (by decide) e.symm); have r0 : w6.cell? ⟨bS, 0, none⟩ = some (.int .i64 (f : Int)) := hB6.cell 0; have r2 := hB6.frozen 0; obtain ⟨A6, c6, rfl, -, -⟩ := own_form hown6))
                  go_roundg (t0 - (f + csz l))
                  case measure => have := HG.out; omega
                  case rel =>
                    refine ⟨f + csz l, M ++ [(xa, xb, xc)], rfl, ?_, by simp; omega, ?_, ?_, by omega, ?_⟩
                    · have := hB6.set_ 0 (.int .i64 ((f : Int) + (csz l : Int)))
                      simpa using this
                    · rw [cvs_append, List.length_append]
                      exact ownsRow_far hown6 hB6 (by decide)
                    · exact (((hbq.trans (hb5.mono hzq)).alloc (by omega) _).grown hg6 (by simp; omega) (own_base hown)).setCell hz4 _
                    · rw [← HC.out, hcy.out]
                      simp
                · have hov' : 4000 ≤ M.length := by omega
                  have hov2 : ¬ M.length ≤ 3999 := by omega
                  go_wp2_with ((at_builtin; (refine wpList_append_any _ rfl (.tmp 48) (.tmp 55) _ rfl w.heap.size 102 i0 _ 3 24 Tryz.underlying48 hi0 hz0 hz1 hzb rfl (by decide) u4 M.length (cvs M) rfl (hown5.alloc _) (w5.heap.size + 1) (some ⟨w5.heap.size, 0, none⟩) 1 1 (cv (xa, xb, xc)) rfl (reads_new w5 _ _ _ _) (cv_one _) (by simp only [maxLen]; omega) (by omega) (by simp; omega) ?_); intro v2 w6 hown6 hg6 hat6; obtain ⟨A6, c6, rfl, -, -⟩ := own_form hown6))
                  go_ret2
                  refine ⟨((hbq.trans (hb5.mono hzq)).alloc (by omega) _).grown hg6 (by simp; omega) (own_base hown), .inr ⟨?_, rfl⟩⟩
                  obtain ⟨R, hR⟩ := HP.out
                  rw [hR, ← HC.out, hcy.out]
                  simp
                  omega
        · have hcn := Lib.hid (cut_no hlt2)
          go_wp2
          go_roundw
          case rel =>
            have h1 := HC.out
            rw [hcn.out, List.append_nil] at h1
            rw [← HP1.out] at h1
            exact ⟨k + 1, by omega, by go_num, by rw [← h1]; exact hM, by rw [← h1]; exact hown, hbq⟩
          case measure => simp [intOf]; omega
    · have hkk : k = n := by omega
      subst hkk
      rw [List.take_of_length_le (by rw [HL.out]; omega)] at hown hln
      go_wp2
      go_ret2
      exact ⟨hbr, .inl ⟨hln, _, rfl, hown⟩⟩
end Go.Proofs.YtifdgdgfmjfbdaaGreat
namespace Go.Proofs.YtifdgdgfmjfbdaaGreat
open Go.RowKit
theorem spOk_spI (x : Cl) (hv : vldB x.1 x.2.1 x.2.2 = true) : 0 ≤ (spI x).1 ∧ (spI x).1 < (spI x).2 ∧ (spI x).2 ≤ 8589934592 := by
  obtain ⟨h0, h1, h2, h3, h4, h5⟩ := vldB_true.1 hv
  obtain ⟨l, r, c⟩ := x
  obtain ⟨l, rfl⟩ := Int.eq_ofNat_of_zero_le h0
  obtain ⟨r, rfl⟩ := Int.eq_ofNat_of_zero_le h2
  obtain ⟨c, rfl⟩ := Int.eq_ofNat_of_zero_le h4
  simp only [pw, Int.toNat_natCast] at h3 h5
  have h5' : c < 2 * 2 ^ l := by exact_mod_cast h5
  have hb := sp_bd l r c (by simp only [] at h1; omega) h5'
  have hp := csz_pos l
  have h6 : (mort l r c + 1) * csz l = mort l r c * csz l + csz l := by rw [Nat.add_mul]; simp
  simp only [spI, spF, spT, mortI, Int.toNat_natCast]
  omega
theorem spOk_mrg (M : List Sp) (s : Sp) (hM : SpOk M) (hs : 0 ≤ s.1 ∧ s.1 < s.2 ∧ s.2 ≤ 8589934592) : SpOk (mrg M s) := by
  rcases snoc_cases M with rfl | ⟨M', t, rfl⟩
  · rw [mrg_nil]
    intro x hx
    simp at hx
    subst hx
    exact hs
  · have ht := hM t (by simp)
    by_cases h : s.1 ≤ t.2
    · rw [mrg_in _ _ _ h]
      intro x hx
      simp at hx
      rcases hx with hx | rfl
      · exact hM x (by simp [hx])
      · simp only []
        omega
    · rw [mrg_out _ _ _ h]
      intro x hx
      simp only [List.mem_append, List.mem_singleton] at hx
      rcases hx with hx | rfl
      · exact hM x (by simpa using hx)
      · exact hs
theorem spOk_merge (D : List Sp) (hD : SpOk D) : SpOk (mergeS D) := by
  have : ∀ (D M : List Sp), SpOk D → SpOk M → SpOk (D.foldl mrg M) := by
    intro D
    induction D with
    | nil => intro M _ hM; exact hM
    | cons x r ih =>
      intro M hD hM
      exact ih _ (fun y hy => hD y (by simp [hy])) (spOk_mrg M x hM (hD x (by simp)))
  exact this D [] hD (fun _ h => by simp at h)
theorem spOk_cover (L : List Cl) (hv : ∀ x ∈ L, vldB x.1 x.2.1 x.2.2 = true) : SpOk (coverL L) := by
  refine spOk_merge _ fun s hs => ?_
  have h := (List.mem_mergeSort).1 hs
  simp only [List.mem_map] at h
  obtain ⟨x, hx, rfl⟩ := h
  exact spOk_spI x (hv x hx)
def badL (L : List Cl) : Bool := L.any fun x => !(vldB x.1 x.2.1 x.2.2)
theorem badL_false {L : List Cl} (h : badL L = false) : ∀ x ∈ L, vldB x.1 x.2.1 x.2.2 = true := by
  intro x hx
  unfold badL at h
  rw [List.any_eq_false] at h
  simpa using h x hx
theorem coverL_length (L : List Cl) : (coverL L).length ≤ L.length := by
  have h1 := mergeS_length (sortS (L.map spI))
  rw [sortS_length, List.length_map] at h1
  exact h1

end Go.Proofs.YtifdgdgfmjfbdaaGreat
