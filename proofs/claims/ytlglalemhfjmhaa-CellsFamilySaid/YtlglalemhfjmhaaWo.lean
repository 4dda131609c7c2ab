/- The walk of Tidy. -/
import Derived.Test.YtlglalemhfjmhaaWn
namespace Go.Proofs.Ytlglalemhfjmhaa
open Go.RowKit
theorem spOk_spI (x : Cl) (hv : vldB x.1 x.2.1 x.2.2 = true) : 0 ≤ (spI x).1 ∧ (spI x).1 < (spI x).2 ∧ (spI x).2 ≤ 8589934592 := by
  obtain ⟨h0, h1, h2, h3, h4, h5⟩ := vldB_true.1 hv
  obtain ⟨l, r, c⟩ := x
  obtain ⟨l, rfl⟩ := Int.eq_ofNat_of_zero_le h0
  obtain ⟨r, rfl⟩ := Int.eq_ofNat_of_zero_le h2
  obtain ⟨c, rfl⟩ := Int.eq_ofNat_of_zero_le h4
  simp only [pw, Int.toNat_natCast] at h3 h5
  have h5' : c < 2 * 2 ^ l := by exact_mod_cast h5
  have hb := sp_bd l r c (by simp only [] at h1; omega) h5'
  have hp := csz_pos l
  have h6 : (mort l r c + 1) * csz l = mort l r c * csz l + csz l := by rw [Nat.add_mul]; simp
  simp only [spI, spF, spT, mortI, Int.toNat_natCast]
  omega
theorem spOk_mrg (M : List Sp) (s : Sp) (hM : SpOk M) (hs : 0 ≤ s.1 ∧ s.1 < s.2 ∧ s.2 ≤ 8589934592) : SpOk (mrg M s) := by
  rcases snoc_cases M with rfl | ⟨M', t, rfl⟩
  · rw [mrg_nil]
    intro x hx
    simp at hx
    subst hx
    exact hs
  · have ht := hM t (by simp)
    by_cases h : s.1 ≤ t.2
    · rw [mrg_in _ _ _ h]
      intro x hx
      simp at hx
      rcases hx with hx | rfl
      · exact hM x (by simp [hx])
      · simp only []
        omega
    · rw [mrg_out _ _ _ h]
      intro x hx
      simp only [List.mem_append, List.mem_singleton] at hx
      rcases hx with hx | rfl
      · exact hM x (by simpa using hx)
      · exact hs
theorem spOk_merge (D : List Sp) (hD : SpOk D) : SpOk (mergeS D) := by
  have : ∀ (D M : List Sp), SpOk D → SpOk M → SpOk (D.foldl mrg M) := by
    intro D
    induction D with
    | nil => intro M _ hM; exact hM
    | cons x r ih =>
      intro M hD hM
      exact ih _ (fun y hy => hD y (by simp [hy])) (spOk_mrg M x hM (hD x (by simp)))
  exact this D [] hD (fun _ h => by simp at h)
theorem spOk_cover (L : List Cl) (hv : ∀ x ∈ L, vldB x.1 x.2.1 x.2.2 = true) : SpOk (coverL L) := by
  refine spOk_merge _ fun s hs => ?_
  have h := (List.mem_mergeSort).1 hs
  simp only [List.mem_map] at h
  obtain ⟨x, hx, rfl⟩ := h
  exact spOk_spI x (hv x hx)
def badL (L : List Cl) : Bool := L.any fun x => !(vldB x.1 x.2.1 x.2.2)
theorem badL_false {L : List Cl} (h : badL L = false) : ∀ x ∈ L, vldB x.1 x.2.1 x.2.2 = true := by
  intro x hx
  unfold badL at h
  rw [List.any_eq_false] at h
  simpa using h x hx
/-- what Tidy returns -/
def tidyR (L : List Cl) : List Cl := if badL L = true then [] else if 16000 < L.length then [] else if (tidyL (coverL L)).length ≤ 4000 then tidyL (coverL L) else []
def tidyE (L : List Cl) : Int := if badL L = true then 1 else if 16000 < L.length then 4 else if (tidyL (coverL L)).length ≤ 4000 then 0 else 4
theorem coverL_length (L : List Cl) : (coverL L).length ≤ L.length := by
  have h1 := mergeS_length (sortS (L.map spI))
  rw [sortS_length, List.length_map] at h1
  exact h1

set_option maxHeartbeats 1000000 in
theorem Tidy_any (A : Option Addr) (n c : Nat) (L : List Cl) (w : World) (hr : Reads w w.heap.size 3 A n (cvs L)) (hn : n ≤ maxLen) :
    Calls Try.prog 15 #[.slice A n c] w (RetCells w (tidyR L) (tidyE L)) := by
  have hl := hr.len
  have hbad := allValid_any A n c L w hr hn
  unfold maxLen at hn
  cases hb : badL L with
  | true =>
    have e1 : tidyR L = [] := by simp [tidyR, hb]
    have e2 : tidyE L = 1 := by simp [tidyE, hb]
    rw [e1, e2]
    change Calls _ _ _ _ fun e w' => e = .returned (.bool (badL L)) ∧ _ at hbad
    rw [hb] at hbad
    have hbad := Lib.hid hbad
    clear hb e1 e2 hl hr
    go_enter Try.func15, Try.ntmps15
    go_wp2_with (go_at_call 52; refine hbad.out.mono ?_; rintro e w1 ⟨rfl, hb1⟩)
    go_ret2
    exact ⟨_, rfl, own_nil _ _ _ _, hb1⟩
  | false =>
    have hv := badL_false hb
    change Calls _ _ _ _ fun e w' => e = .returned (.bool (badL L)) ∧ _ at hbad
    rw [hb] at hbad
    have hbad := Lib.hid hbad
    by_cases hbig : 16000 < n
    · have e1 : tidyR L = [] := by simp [tidyR, hb, hl, hbig]
      have e2 : tidyE L = 4 := by simp [tidyE, hb, hl, hbig]
      rw [e1, e2]
      clear hb e1 e2 hl hr
      go_enter Try.func15, Try.ntmps15
      go_wp2_with (go_at_call 52; refine hbad.out.mono ?_; rintro e w1 ⟨rfl, hb1⟩)
      go_ret2
      exact ⟨_, rfl, own_nil _ _ _ _, hb1⟩
    · have hok := spOk_cover L hv
      have hcl := coverL_length L
      rw [hl] at hcl
      have HR := Lib.hid hr
      have HV := Lib.hid hv
      have HO := Lib.hid hok
      by_cases hT : (tidyL (coverL L)).length ≤ 4000
      · have e1 : tidyR L = tidyL (coverL L) := by simp [tidyR, hb, hl, hbig, hT]
        have e2 : tidyE L = 0 := by simp [tidyE, hb, hl, hbig, hT]
        rw [e1, e2]
        clear hb e1 e2 hl hr hv hok
        go_enter Try.func15, Try.ntmps15
        go_wp2_with fail
        refine hbad.out.mono ?_
        rintro e w1 ⟨rfl, hb1⟩
        go_wp2_with fail
        (with_reducible refine (cover_any A n c L w1 ((HR.out.below hb1).more hb1.size) (by omega) HV.out).mono ?_)
        rintro e w2 ⟨v, rfl, hown, hb2⟩
        obtain ⟨A2, c2, hv2, hr2, -⟩ := own_form hown
        subst hv2
        have hb12 := hb1.trans (hb2.mono hb1.size)
        go_wp2_with fail
        (with_reducible refine (tidy_any A2 (coverL L).length c2 (coverL L) w2 hr2 (by omega) HO.out).mono ?_)
        rintro e w3 ⟨hb3, hcase⟩
        rcases hcase with ⟨_, v3, rfl, hown3⟩ | ⟨hx, _⟩
        · go_wp2
          go_ret2
          exact ⟨_, rfl, own_mono hown3 hb12.size, hb12.trans (hb3.mono hb12.size)⟩
        · omega
      · have e1 : tidyR L = [] := by simp [tidyR, hb, hl, hbig, hT]
        have e2 : tidyE L = 4 := by simp [tidyE, hb, hl, hbig, hT]
        rw [e1, e2]
        clear hb e1 e2 hl hr hv hok
        go_enter Try.func15, Try.ntmps15
        go_wp2_with fail
        refine hbad.out.mono ?_
        rintro e w1 ⟨rfl, hb1⟩
        go_wp2_with fail
        (with_reducible refine (cover_any A n c L w1 ((HR.out.below hb1).more hb1.size) (by omega) HV.out).mono ?_)
        rintro e w2 ⟨v, rfl, hown, hb2⟩
        obtain ⟨A2, c2, hv2, hr2, -⟩ := own_form hown
        subst hv2
        have hb12 := hb1.trans (hb2.mono hb1.size)
        go_wp2_with fail
        (with_reducible refine (tidy_any A2 (coverL L).length c2 (coverL L) w2 hr2 (by omega) HO.out).mono ?_)
        rintro e w3 ⟨hb3, hcase⟩
        rcases hcase with ⟨hx, _⟩ | ⟨_, rfl⟩
        · omega
        · go_wp2
          go_ret2
          exact ⟨_, rfl, own_nil _ _ _ _, hb12.trans (hb3.mono hb12.size)⟩
end Go.Proofs.Ytlglalemhfjmhaa
