/- The walk of ValidRegion, of law38's valid. -/
import Derived.Test.YtlglalemhfjmhaaRf
import Derived.Test.YtlglalemhfjmhaaWo
namespace Go.Proofs.Ytlglalemhfjmhaa
open Go.RowKit
/-- what ValidRegion says -/
def vrB (L : List Cl) : Bool := decide (L.length ≤ 4000) && !badL L && decide (tidyL (coverL L) = L)
set_option maxHeartbeats 1000000 in
theorem ValidRegion_any (A : Option Addr) (n c : Nat) (L : List Cl) (w : World) (hr : Reads w w.heap.size 3 A n (cvs L)) (hn : n ≤ maxLen) :
    Calls Try.prog 13 #[.slice A n c] w fun e w' => e = .returned (.bool (vrB L)) ∧ Below w.heap.size w w' := by
  have hl := hr.len
  have hbad := allValid_any A n c L w hr hn
  change Calls _ _ _ _ fun e w' => e = .returned (.bool (badL L)) ∧ _ at hbad
  have hn2 : n ≤ maxLen := hn
  unfold maxLen at hn
  by_cases hbig : 4000 < n
  · have e1 : vrB L = false := by simp [vrB, hl]; omega
    rw [e1]
    clear e1 hl hr hbad hn2
    go_enter Try.func13, Try.ntmps13
    go_wp2
    go_ret
    exact ⟨rfl, Below.refl _ _⟩
  · cases hb : badL L with
    | true =>
      have e1 : vrB L = false := by simp [vrB, hb]
      rw [e1]
      rw [hb] at hbad
      have hbad := Lib.hid hbad
      clear hb e1 hl hr hn2
      go_enter Try.func13, Try.ntmps13
      go_wp2_with (go_at_call 52; refine hbad.out.mono ?_; rintro e w1 ⟨rfl, hb1⟩)
      go_ret
      exact ⟨rfl, hb1⟩
    | false =>
      have hv := badL_false hb
      rw [hb] at hbad
      have hbad := Lib.hid hbad
      have hok := spOk_cover L hv
      have hcl := coverL_length L
      rw [hl] at hcl
      have HR := Lib.hid hr
      have HV := Lib.hid hv
      have HO := Lib.hid hok
      have HN := Lib.hid hn2
      have e1 : vrB L = decide (tidyL (coverL L) = L) := by simp [vrB, hb, hl]; omega
      rw [e1]
      have HL := Lib.hid hl
      clear hb e1 hl hr hv hok hn2
      go_enter Try.func13, Try.ntmps13
      go_wp2_with fail
      refine hbad.out.mono ?_
      rintro e w1 ⟨rfl, hb1⟩
      go_wp2_with fail
      (with_reducible refine (cover_any A n c L w1 ((HR.out.below hb1).more hb1.size) (by omega) HV.out).mono ?_)
      rintro e w2 ⟨v, rfl, hown, hb2⟩
      obtain ⟨A2, c2, hv2, hr2, -⟩ := own_form hown
      subst hv2
      have hb12 := hb1.trans (hb2.mono hb1.size)
      go_wp2_with fail
      (with_reducible refine (tidy_any A2 (coverL L).length c2 (coverL L) w2 hr2 (by omega) HO.out).mono ?_)
      rintro e w3 ⟨hb3, hcase⟩
      have hb13 := hb12.trans (hb3.mono hb12.size)
      rcases hcase with ⟨hT, v3, rfl, hown3⟩ | ⟨hx, rfl⟩
      · obtain ⟨A4, c4, hv4, hr4, hc4, hc5⟩ := own_form hown3
        subst hv4
        go_wp2_with fail
        (with_reducible refine (Equal_any A4 A _ n c4 c (tidyL (coverL L)) L w3 _ _ hr4 (HR.out.below hb13) (by unfold maxLen; omega) HN.out).mono ?_)
        rintro e w4 ⟨rfl, q, rfl⟩
        go_wp2
        go_ret
        exact ⟨rfl, bl_drewN hb13 _⟩
      · have hne : decide (tidyL (coverL L) = L) = false := decide_eq_false (fun h => by have := HL.out; rw [← h] at this; omega)
        have HE := Lib.hid hne
        clear hne
        go_wp2
        go_ret
        exact ⟨ret_bool HE.out.symm, hb13⟩
end Go.Proofs.Ytlglalemhfjmhaa
