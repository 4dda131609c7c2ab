/- What several laws share: Tidy of a short list, the length of a slice of cells by its bytes. -/
import Derived.Test.YtlglalemhfjmhaaLa
import Derived.Test.YtlglalemhfjmhaaOpen
import Derived.SizedLaws
namespace Go.Proofs.Ytlglalemhfjmhaa
open Go.ChangeShapes Go.WideShapes Go.ChangeAt Go.RowKit Go.Joins Go.Deep
theorem tidy_two {L : List Cl} (h : L.length ≤ 100) : (badL L = true ∧ tidyE L = 1) ∨ (badL L = false ∧ tidyE L = 0 ∧ tidyR L = regB (fun q => Canon.covB (L.map blkOf) q)) := by
  cases hb : badL L with
  | true => exact .inl ⟨rfl, (tidyR_bad' hb).2⟩
  | false => exact .inr ⟨rfl, (tidy_reg hb (by omega)).2, (tidy_reg hb (by omega)).1⟩
theorem Try.bytesCl : Try.prog.bytesOf 32 = 24 := by kernel_rfl
/-- how long a slice of cells is, by its bytes -/
theorem clen {H : Type} {enc : TypeId × Value → H} {W : World} {A : Option Addr} {n ca : Nat} {d : DataW H} {ps : List MemPlace} {ts : List TypeId} {ds : List (DataW H)} {j : Nat}
    (h : DataW.Trod enc Try.prog W 0 (fun _ => true) true 22 (.slice A n ca) d ps) (hw : (DataW.weightsEach Try.prog ts ds).all (· ≤ reachBytes) = true) (ht : ts[j]? = some 22) (hd : ds[j]? = some d) : n ≤ 140737488355328 := by
  obtain ⟨fu, hf⟩ := h
  have hf' : DataW.trod enc Try.prog W 0 (fun _ => true) true fu 22 [.slice A n ca] = some (d, ps) := by simpa [Value.cells] using hf
  rcases open_slice Try.underlying22 hf' with ⟨h0, -⟩ | ⟨a', len', cap', m, n', D, Pl, hcs, hb, hl, hm, hmm, hx, hi⟩
  · cases h0
    omega
  · cases hcs
    injection hx with hx1 hx2
    subst hx1
    have := sized_slice hw ht hd Try.underlying22
    rw [Try.bytesCl, List.length_map, List.length_range] at this
    have h2 := reachBytes_lt
    omega
theorem Try.cells2 : Try.prog.cellsOf 34 = 2 := by kernel_rfl
end Go.Proofs.Ytlglalemhfjmhaa
