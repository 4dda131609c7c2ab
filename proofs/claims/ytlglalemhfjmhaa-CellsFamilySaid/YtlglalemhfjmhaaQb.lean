/- slices.Reverse at cells. -/
import Derived.Test.YtlglalemhfjmhaaShelfB
import Derived.Test.YtlglalemhfjmhaaWl
namespace Go.Proofs.Ytlglalemhfjmhaa
open Go.RowKit Go.Sort Go.Shelf
theorem flat3 (L : List Cl) : flatK cv 3 L.toArray = (cvs L).toArray := by
  refine ext_get! (by simp [cvs_length]) fun t ht => ?_
  have ht' : t < L.toArray.size * 3 := by simpa using ht
  rw [get_flatK _ _ _ _ ht']
  have hk : t / 3 < L.length := by simp at ht'; omega
  obtain ⟨a1, a2, a3⟩ := cvs_at L (t / 3) hk
  have hg : L.toArray[t / 3]! = gt L (t / 3) := by simp [gt, hk]
  have h3 : t % 3 = 0 ∨ t % 3 = 1 ∨ t % 3 = 2 := by omega
  rw [hg]
  rcases h3 with h | h | h
  · have e : t / 3 * 3 = t := by omega
    rw [e] at a1
    simp [cv, a1, h]
  · have e : t / 3 * 3 + 1 = t := by omega
    rw [e] at a2
    simp [cv, a2, h]
  · have e : t / 3 * 3 + 2 = t := by omega
    rw [e] at a3
    simp [cv, a3, h]
theorem Reverse_any (base : Nat) (v : Value) (L : List Cl) (w : World) (h : w.ownsRow base 32 3 v L.length (cvs L)) (h0 : 0 < L.length) (hn : L.length ≤ 9223372036854775807) :
    Calls Try.prog 38 #[v] w fun e w' => e = .returned (.tuple #[]) ∧ w'.ownsRow base 32 3 v L.length (cvs L.reverse) ∧ w.grownBy w' v.ownBlock := by
  obtain ⟨g, cap, rfl, hg, hlt⟩ := h.form h0
  have hH : HoldsK cv 3 w g 0 L.toArray := by
    intro j hj
    rw [flat3] at hj ⊢
    have hj' : j < (cvs L).length := by simpa using hj
    have hu : (cvs L)[j]? = some ((cvs L).toArray[j]!) := by simp [hj']
    have := own_cell h j _ hu
    simpa using this
  have hcon := AnyQ.slices_Reverse Try.reverseCell 3 Try.isAgg32 Try.sizeOf32 cv (fun _ => rfl) (fun x v hv => cv_one x v hv) g 0 cap L.toArray w hH (by simpa using hn)
  change Calls Try.prog 38 _ _ _ at hcon
  simp only [List.size_toArray] at hcon
  refine hcon.mono ?_
  rintro e w' ⟨rfl, m, rfl⟩
  have hF := flat3 L.reverse
  have hr := own_row w base _ 3 L.length cap g m _ (flatK cv 3 L.reverse.toArray) #[] h (by simp)
  have hgr : ∀ W : World, grow W #[] = W := fun W => by simp [grow]
  rw [hgr] at hr
  have e1 : L.toArray.reverse = L.reverse.toArray := by simp
  rw [e1]
  refine ⟨rfl, ?_, hr.2⟩
  have e : cvs L.reverse = (flatK cv 3 L.reverse.toArray).toList := by rw [hF]
  rw [e]
  exact hr.1
end Go.Proofs.Ytlglalemhfjmhaa
