/- Words: the search of a region, as a struct in one block, and what a step of the search leaves alone. -/
import Derived.Test.YtpemohoibeipfaaGreatHNh
import Derived.Test.YtpemohoibeipfaaGreatHKx
import Derived.Test.YtpemohoibeipfaaGreatHHs
import Derived.Test.YtpemohoibeipfaaGreatHJw
set_option linter.unusedVariables false
set_option linter.unusedSimpArgs false
namespace Go.Proofs.YtpemohoibeipfaaGreat
open Go.RowKit
theorem Blk.not_row {W : World} {B : Nat} {t e : TypeId} {cs : Array Value} (h : Blk W B t cs) (hte : t ≠ e) {base size k : Nat} {v : Value} {xs : List Value} (hr : W.ownsRow base e size v k xs) : some B ≠ v.ownBlock := by
  rcases hr.2 with ⟨rfl, _⟩ | ⟨g, cap, cur, rfl, _, hgb, _⟩
  · simp [Value.ownBlock]
  · intro e'
    obtain rfl : B = g := by simpa [Value.ownBlock] using e'
    have := (show W.heap[B]? = _ from h).symm.trans hgb
    simp at this
    exact hte this.2
theorem grownBy_setAt (W : World) (b i : Nat) (v : Value) : W.grownBy (W.setCell ⟨b, i, none⟩ v) (some b) :=
  ⟨rfl, rfl, rfl, (KeepsWalks.setCell W _ v).size, fun k _ hk => Below.heap_setCell _ _ _ k (fun e => hk (by rw [e]))⟩
theorem XK.setAt {B : Nat} {v : Value} {W W1 : World} (h : XK B v W W1) (i : Nat) (u : Value) : XK B v W (W1.setCell ⟨B, i, none⟩ u) :=
  ⟨h.os, h.tape, h.output, by simpa [World.setCell] using h.size, fun k hk hB hv => (Below.heap_setCell W1 _ _ k (fun e => hB (by rw [e]))).trans (h.block k hk hB hv)⟩
/-- the search in block B: the circles, the level, how many cells were looked at, and a slice that owns the cells L -/
structure SS (n₀ B : Nat) (W : World) (vc : Value) (lev lk : Int) (v : Value) (L : List Cl) : Prop where
  box : Blk W B 120 #[vc, .int .i64 lev, .int .i64 lk, v]
  row : W.ownsRow n₀ 58 3 v L.length (cvs L)
theorem SS.below {n₀ B : Nat} {W W' : World} {vc : Value} {lev lk : Int} {v : Value} {L : List Cl} (h : SS n₀ B W vc lev lk v L) (hb : Below W.heap.size W W') : SS n₀ B W' vc lev lk v L :=
  ⟨(hb.block B h.box.lt).trans h.box, own_bl h.row hb (Nat.le_refl _)⟩
theorem SS.count {n₀ B : Nat} {W : World} {vc : Value} {lev lk : Int} {v : Value} {L : List Cl} (h : SS n₀ B W vc lev lk v L) (lk' : Int) : SS n₀ B (W.setCell ⟨B, 2, none⟩ (.int .i64 lk')) vc lev lk' v L :=
  ⟨h.box.set_ 2 _, h.row.kept (grownBy_setAt W B 2 _) (.inr (h.box.not_row (by decide) h.row).symm)⟩
theorem SS.put {n₀ B : Nat} {W : World} {vc : Value} {lev lk : Int} {v u : Value} {L : List Cl} (h : Blk W B 120 #[vc, .int .i64 lev, .int .i64 lk, v]) (hr : W.ownsRow n₀ 58 3 u L.length (cvs L)) : SS n₀ B (W.setCell ⟨B, 3, none⟩ u) vc lev lk u L :=
  ⟨h.set_ 3 _, hr.kept (grownBy_setAt W B 3 _) (.inr (h.not_row (by decide) hr).symm)⟩
def GoS (n₀ B : Nat) (vc : Value) (lev lk : Int) (v : Value) (W : World) (L : List Cl) (W' : World) : Prop := ∃ v', SS n₀ B W' vc lev lk v' L ∧ XK B v W W' ∧ Nx W v v'
theorem GoS.after {n₀ B : Nat} {vc : Value} {lev lk : Int} {v : Value} {W W1 W2 : World} {L : List Cl} (hx : XK B v W W1) (h : GoS n₀ B vc lev lk v W1 L W2) : GoS n₀ B vc lev lk v W L W2 := by
  obtain ⟨v', st, xk, nx⟩ := h
  exact ⟨v', st, hx.trans (Nx.refl _ _) xk, (Nx.refl _ _).trans hx.size nx⟩
def agP (K : List Ci) (x : Cl) : Bool := K.all fun k => agC k x
def suP (K : List Ci) (x : Cl) : Bool := K.all fun k => suC k x
/-- the sum over the first k -/
def lkT (p : Cl → Nat) (K : List Cl) (k : Nat) : Nat := ((K.take k).map p).sum
def otT (p : Cl → List Cl) (K : List Cl) (k : Nat) : List Cl := (K.take k).flatMap p
theorem lkT_succ (p : Cl → Nat) (K : List Cl) (k : Nat) (hk : k < K.length) : lkT p K (k + 1) = lkT p K k + p (gt K k) := by
  unfold lkT
  rw [List.take_succ_eq_append_getElem hk, List.map_append, List.sum_append]
  simp [gt, hk]
theorem otT_succ (p : Cl → List Cl) (K : List Cl) (k : Nat) (hk : k < K.length) : otT p K (k + 1) = otT p K k ++ p (gt K k) := by
  unfold otT
  rw [List.take_succ_eq_append_getElem hk, List.flatMap_append]
  simp [gt, hk]
theorem lkT_all (p : Cl → Nat) (K : List Cl) : lkT p K K.length = (K.map p).sum := by unfold lkT; rw [List.take_length]
theorem otT_all (p : Cl → List Cl) (K : List Cl) : otT p K K.length = K.flatMap p := by unfold otT; rw [List.take_length]
theorem lkT_le (p : Cl → Nat) (K : List Cl) (k : Nat) (hk : k < K.length) : lkT p K k + p (gt K k) ≤ (K.map p).sum := by
  have h : ∀ j, k + 1 + j ≤ K.length → lkT p K (k + 1) ≤ lkT p K (k + 1 + j) := by
    intro j
    induction j with
    | zero => intro _; exact Nat.le_refl _
    | succ j ih =>
      intro hj
      have := ih (by omega)
      rw [show k + 1 + (j + 1) = (k + 1 + j) + 1 from rfl, lkT_succ p K (k + 1 + j) (by omega)]
      omega
  have := h (K.length - (k + 1)) (by omega)
  rw [show k + 1 + (K.length - (k + 1)) = K.length by omega, lkT_all, lkT_succ p K k hk] at this
  exact this
theorem otT_len {p : Cl → List Cl} {q : Cl → Nat} {K : List Cl} (h : ∀ x ∈ K, (p x).length ≤ q x) : ∀ k, k ≤ K.length → (otT p K k).length ≤ lkT q K k := by
  intro k
  induction k with
  | zero => intro _; simp [otT]
  | succ k ih =>
    intro hk
    have := ih (by omega)
    rw [otT_succ p K k (by omega), lkT_succ q K k (by omega), List.length_append]
    have := h (gt K k) (by simp [gt, show k < K.length by omega])
    omega
end Go.Proofs.YtpemohoibeipfaaGreat
