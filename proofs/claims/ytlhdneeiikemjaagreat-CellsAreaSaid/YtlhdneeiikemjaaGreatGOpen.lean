/- What several laws share: Tidy of a short list, the length of a slice of cells by its bytes. -/
import Derived.Deep.Slices
import Derived.Deep.Strs
import Derived.Deep.Fields
import Derived.ChangeSame
import Derived.Carry
import Derived.SizedLaws
import Derived.Test.YtlhdneeiikemjaaGreatGWords
import Derived.Test.YtlhdneeiikemjaaGreatGYf
import Derived.Test.YtlhdneeiikemjaaGreatGSg
import Derived.Test.YtlhdneeiikemjaaGreatGAwake
set_option linter.unusedVariables false
set_option linter.unusedSimpArgs false
/- An argument that is a slice of cells. -/
namespace Go.Proofs.YtlhdneeiikemjaaGreat
open Go.ChangeShapes Go.WideShapes Go.ChangeAt Go.RowKit Go.Deep
section
variable {H : Type} {enc : TypeId × Value → H} {P : Program} {w : World} {base : Nat} {spare : Nat → Bool} {held : Bool}
theorem open_three {t : TypeId} {f0 f1 f2 : Field} {cs : List Value} {x : DataW H × List MemPlace} {fuel : Nat} (hs : P.underlying t = some (.struct #[f0, f1, f2])) (hone : oneCellFields P #[f0, f1, f2] = true)
    (h : DataW.trod enc P w base spare held fuel t cs = some x) (hl : cs.length = 3) :
    ∃ c0 c1 c2 y0 y1 y2 n, cs = [c0, c1, c2] ∧ DataW.trod enc P w base spare held n f0.type [c0] = some y0 ∧ DataW.trod enc P w base spare held n f1.type [c1] = some y1 ∧ DataW.trod enc P w base spare held n f2.type [c2] = some y2 := by
  obtain ⟨y0, y1, y2, n, _, _, h0, h1, h2⟩ := trod_struct3 hs h
  obtain ⟨o0, k0⟩ := hone_of hone 0 f0 rfl
  obtain ⟨o1, k1⟩ := hone_of hone 1 f1 rfl
  obtain ⟨o2, k2⟩ := hone_of hone 2 f2 rfl
  match cs, hl with
  | [c0, c1, c2], _ => exact ⟨c0, c1, c2, y0, y1, y2, n, rfl, by simpa [o0, k0] using h0, by simpa [o1, k1] using h1, by simpa [o2, k2] using h2⟩
end
theorem Tryz.cells3 : Tryz.prog.cellsOf 39 = 3 := by kernel_rfl
theorem cvs_map (f : Nat → Cl) : ∀ (n j : Nat), (cvs ((List.range n).map f))[j]? = if j < n * 3 then (cv (f (j / 3)))[j % 3]? else none := by
  intro n
  induction n with
  | zero => intro j; simp [cvs]
  | succ n ih =>
    intro j
    rw [List.range_succ, List.map_append, cvs_append, List.getElem?_append, cvs_length, List.length_map, List.length_range]
    by_cases h : j < n * 3
    · rw [if_pos h, ih, if_pos h, if_pos (by omega)]
    · rw [if_neg h]
      by_cases h2 : j < (n + 1) * 3
      · rw [if_pos h2]
        have e1 : j / 3 = n := by omega
        have e2 : j - n * 3 = j % 3 := by omega
        rw [e1, e2]
        simp [cvs]
      · rw [if_neg h2]
        simp [cvs, cv]
        omega
set_option maxRecDepth 100000 in
theorem open_cells {H : Type} {enc : TypeId × Value → H} {W : World} {v : Value} {d : DataW H} {ps : List MemPlace} {r : Reach} {b0 : Nat} (hv : Value.okWide Tryz.prog W r b0 22 v)
    (h : DataW.Trod enc Tryz.prog W 0 (fun _ => true) true 22 v d ps) :
    ∃ A n ca L, v = .slice A n ca ∧ Reads W W.heap.size 3 A n (cvs L) ∧ n ≤ ca ∧ ca ≤ maxLen := by
  obtain ⟨a, len, cap, rfl⟩ := okWide_slice Tryz.underlying22 hv
  obtain ⟨fu, hf⟩ := h
  have hf' : DataW.trod enc Tryz.prog W 0 (fun _ => true) true fu 22 [.slice a len cap] = some (d, ps) := by simpa [Value.cells] using hf
  rcases open_slice Tryz.underlying22 hf' with ⟨h0, -⟩ | ⟨a', len', cap', m, n, D, Pl, hcs, hb, hl, hm, hmm, hx, hi⟩
  · cases h0
    exact ⟨none, 0, 0, [], rfl, Reads.none_, Nat.le_refl _, by simp [maxLen]⟩
  · cases hcs
    simp only [if_true] at hmm
    subst hmm
    have one : ∀ i, i < len → ∃ x : Cl, ∀ j, j < 3 → W.cell? (a'.add (i * 3 + j)) = (cv x)[j]? := by
      intro i hil
      obtain ⟨cs, hc, ht⟩ := hi i (by omega)
      rw [Tryz.cells3] at hc
      obtain ⟨_, hcl, hat⟩ := World.cells?_some hc
      obtain ⟨c0, c1, c2, y0, y1, y2, n', rfl, h0, h1, h2⟩ := open_three Tryz.underlying39 (by kernel_rfl) ht hcl
      obtain ⟨l, e0, -, -⟩ := DataW.trod_int Tryz.underlying3 h0
      obtain ⟨r, e1, -, -⟩ := DataW.trod_int Tryz.underlying3 h1
      obtain ⟨c, e2, -, -⟩ := DataW.trod_int Tryz.underlying3 h2
      cases e0
      cases e1
      cases e2
      refine ⟨(l, r, c), fun j hj => ?_⟩
      rw [← Go.Deep.add_add, hat j hj]
      rfl
    obtain ⟨f, hf2⟩ := choose_lt one
    refine ⟨some a', len, _, (List.range len).map f, rfl, ⟨by simp [cvs_length], fun h0 => ⟨a', rfl, ?_, ?_⟩⟩, hl, hm⟩
    · have h1 := hf2 0 h0 0 (by omega)
      have h2 := World.block_lt_of_cell? W _ h1
      exact h2
    · intro j u hu
      rw [cvs_map] at hu
      by_cases hj : j < len * 3
      · rw [if_pos hj] at hu
        have h1 := hf2 (j / 3) (by omega) (j % 3) (Nat.mod_lt _ (by omega))
        rw [show j / 3 * 3 + j % 3 = j by omega] at h1
        rw [h1, hu]
      · rw [if_neg hj] at hu
        cases hu
theorem Tryz.laidOutB : laidOutB Tryz.prog = true := by kernel_rfl
theorem Tryz.readCells : Tryz.prog.readableRec 22 = true := by kernel_rfl
theorem Tryz.rowCells : 22 < Tryz.prog.types.size := of_decide_eq_true (by kernel_rfl)
theorem cells_stay {H : Type} {enc : TypeId × Value → H} {W W' : World} {sp : Nat → Bool} {v : Value} {d : DataW H} {ps : List MemPlace} (h : DataW.Trod enc Tryz.prog W 0 (fun _ => true) true 22 v d ps)
    (hb : Below W.heap.size W W') (hlt : ∀ x ∈ ps, x.block < W.heap.size) (hsp : ∀ p ∈ ps, sp p.block = true) : DataW.Trod enc Tryz.prog W' 0 sp true 22 v d ps :=
  WideElems.Trod_stays Tryz.laidOutB Tryz.readCells Tryz.rowCells h (fun x hx => hb.same (hlt x hx)) hsp
end Go.Proofs.YtlhdneeiikemjaaGreat
/- The law CellsLaws: words, and the walk of its closure. -/
namespace Go.Proofs.YtlhdneeiikemjaaGreat
open Go.RowKit
theorem tidyR_bad' {L : List Cl} (h : badL L = true) : tidyR L = [] ∧ tidyE L = 1 := by simp [tidyR, tidyE, h]
/-- a slice that reads as the region of a set which changes only inside of few blocks -/
structure RdL (A0 : List Canon.Blk2) (W : World) (v : Value) (s : Nat → Bool) : Prop where
  hom : Homog A0 s
  rd : ∃ A n ca, v = .slice A n ca ∧ n ≤ ca ∧ ca ≤ maxLen ∧ Reads W W.heap.size 3 A n (cvs (regB s))
theorem RdL.below {A0 : List Canon.Blk2} {W W' : World} {v : Value} {s : Nat → Bool} (h : RdL A0 W v s) (hb : Below W.heap.size W W') : RdL A0 W' v s := by
  obtain ⟨h0, A, n, ca, h1, h2, h3, h4⟩ := h
  exact ⟨h0, A, n, ca, h1, h2, h3, (h4.below hb).more hb.size⟩
theorem RdL.of_own {A0 : List Canon.Blk2} {W : World} {v : Value} {s : Nat → Bool} {base : Nat} (h0 : Homog A0 s) (h : W.ownsRow base 39 3 v (regB s).length (cvs (regB s))) : RdL A0 W v s := by
  obtain ⟨A, c, rfl, hr, h2, h3⟩ := own_form h
  exact ⟨h0, A, _, c, rfl, h2, h3, hr⟩
/-- what is known in the midst of the law -/
structure LSt (A0 : List Canon.Blk2) (w W : World) (g : Nat) (ps : List (Value × (Nat → Bool))) : Prop where
  bl : Below w.heap.size w W
  blk : Blk W g 4 #[.bool false]
  all : ∀ p ∈ ps, RdL A0 W p.1 p.2
theorem LSt.step {A0 : List Canon.Blk2} {w W W' : World} {g : Nat} {ps : List (Value × (Nat → Bool))} (h : LSt A0 w W g ps) (hb : Below W.heap.size W W') : LSt A0 w W' g ps :=
  ⟨h.bl.trans (hb.mono h.bl.size), h.blk.below hb h.blk.lt, fun p hp => (h.all p hp).below hb⟩
theorem LSt.add {A0 : List Canon.Blk2} {w W : World} {g : Nat} {ps : List (Value × (Nat → Bool))} (h : LSt A0 w W g ps) {v : Value} {s : Nat → Bool} (hr : RdL A0 W v s) : LSt A0 w W g ((v, s) :: ps) :=
  ⟨h.bl, h.blk, fun p hp => by
    rcases List.mem_cons.1 hp with rfl | hp
    · exact hr
    · exact h.all p hp⟩
theorem set_same {w : World} {g : Nat} {t : TypeId} {u : Value} (h : Blk w g t #[u]) (i : Nat) : (w.setCell ⟨g, 0, none⟩ u).heap[i]? = w.heap[i]? := by
  by_cases hi : i = g
  · subst hi
    have h2 := h.set_ 0 u
    unfold Blk at h h2
    rw [h2, h]
    simp
  · exact Below.heap_setCell w ⟨g, 0, none⟩ u i hi
theorem bl_set_same {B : Nat} {a w : World} {g : Nat} {t : TypeId} {u : Value} (hb : Below B a w) (h : Blk w g t #[u]) : Below B a (w.setCell ⟨g, 0, none⟩ u) :=
  ⟨hb.os, hb.tape, hb.output, by have := hb.size; simpa [World.setCell] using this, fun i hi => (set_same h i).trans (hb.block i hi)⟩
/-- the contract of Union, Meet, or Minus -/
def OpC (op : Int) (u : FuncId) : Prop := ∀ (A B : Option Addr) (n m ca cb : Nat) (L M : List Cl) (W : World), Reads W W.heap.size 3 A n (cvs L) → Reads W W.heap.size 3 B m (cvs M) → n ≤ maxLen → m ≤ maxLen → Calls Tryz.prog u #[.slice A n ca, .slice B m cb] W (RetCells W (mkR op L M) (mkE op L M))
theorem opc1 : OpC 1 16 := fun A B n m ca cb L M W => Union_any A B n m ca cb L M W
theorem opc2 : OpC 2 17 := fun A B n m ca cb L M W => Meet_any A B n m ca cb L M W
section
variable {A0 : List Canon.Blk2} {w W : World} {g : Nat} {ps : List (Value × (Nat → Bool))}
theorem same_any (h : LSt A0 w W g ps) {v1 v2 : Value} {s t : Nat → Bool} (m1 : (v1, s) ∈ ps) (m2 : (v2, t) ∈ ps) (he : ∀ q, s q = t q) :
    Calls Tryz.prog 34 #[v1, v2] W fun e w' => e = .returned (.bool true) ∧ LSt A0 w w' g ps := by
  obtain ⟨hs, A, n, ca, e1, n1, c1, r1⟩ := h.all _ m1
  obtain ⟨ht, B, m, cb, e2, n2, c2, r2⟩ := h.all _ m2
  simp only [] at e1 e2 hs ht r1 r2
  subst e1 e2
  have hst : s = t := funext he
  refine (Same_any A B n m ca cb _ _ W _ _ r1 r2 (Nat.le_trans n1 c1) (Nat.le_trans n2 c2)).mono ?_
  rintro e w' ⟨rfl, q, rfl⟩
  exact ⟨by rw [hst]; simp, h.step (bl_drewN (Below.refl _ _) _)⟩
/-- the length of a slice that is known -/
theorem LSt.len (h : LSt A0 w W g ps) {v : Value} {s : Nat → Bool} (m : (v, s) ∈ ps) : ∃ A n ca, v = .slice A n ca ∧ n = (regB s).length ∧ n ≤ ca ∧ ca ≤ maxLen := by
  obtain ⟨hs, A, n, ca, e1, n1, c1, r1⟩ := h.all _ m
  exact ⟨A, n, ca, e1, r1.len.symm, n1, c1⟩
end
end Go.Proofs.YtlhdneeiikemjaaGreat
namespace Go.Proofs.YtlhdneeiikemjaaGreat
open Go.ChangeShapes Go.WideShapes Go.ChangeAt Go.RowKit Go.Joins Go.Deep
theorem tidy_two {L : List Cl} (h : L.length ≤ 100) : (badL L = true ∧ tidyE L = 1) ∨ (badL L = false ∧ tidyE L = 0 ∧ tidyR L = regB (fun q => Canon.covB (L.map blkOf) q)) := by
  cases hb : badL L with
  | true => exact .inl ⟨rfl, (tidyR_bad' hb).2⟩
  | false => exact .inr ⟨rfl, (tidy_reg hb (by omega)).2, (tidy_reg hb (by omega)).1⟩
theorem Tryz.bytesCl : Tryz.prog.bytesOf 39 = 24 := by kernel_rfl
/-- how long a slice of cells is, by its bytes -/
theorem clen {H : Type} {enc : TypeId × Value → H} {W : World} {A : Option Addr} {n ca : Nat} {d : DataW H} {ps : List MemPlace} {ts : List TypeId} {ds : List (DataW H)} {j : Nat}
    (h : DataW.Trod enc Tryz.prog W 0 (fun _ => true) true 22 (.slice A n ca) d ps) (hw : (DataW.weightsEach Tryz.prog ts ds).all (· ≤ reachBytes) = true) (ht : ts[j]? = some 22) (hd : ds[j]? = some d) : n ≤ 140737488355328 := by
  obtain ⟨fu, hf⟩ := h
  have hf' : DataW.trod enc Tryz.prog W 0 (fun _ => true) true fu 22 [.slice A n ca] = some (d, ps) := by simpa [Value.cells] using hf
  rcases open_slice Tryz.underlying22 hf' with ⟨h0, -⟩ | ⟨a', len', cap', m, n', D, Pl, hcs, hb, hl, hm, hmm, hx, hi⟩
  · cases h0
    omega
  · cases hcs
    injection hx with hx1 hx2
    subst hx1
    have := sized_slice hw ht hd Tryz.underlying22
    rw [Tryz.bytesCl, List.length_map, List.length_range] at this
    have h2 := reachBytes_lt
    omega
theorem Tryz.cells2 : Tryz.prog.cellsOf 24 = 2 := by kernel_rfl
end Go.Proofs.YtlhdneeiikemjaaGreat
