/- A region that draws its order, each operation looked at once: an invariant over the set of the operations that have been done. -/
import Derived.Orders
import Derived.Test.YtienkfcliocjgaaGreatGBase
import Derived.Test.YtienkfcliocjgaaGreatGPq
set_option linter.unusedVariables false
set_option linter.unusedSimpArgs false
namespace Go.Proofs.YtienkfcliocjgaaGreat
open Go.RowKit
/-- one operation more has been done -/
def mkd (L : Nat → Bool) (i : Nat) : Nat → Bool := fun j => if j = i then true else L j
theorem mkd_ne {L : Nat → Bool} {i j : Nat} (h : ¬ j = i) : mkd L i j = L j := if_neg h
theorem mkd_same (L : Nat → Bool) (i : Nat) : mkd L i i = true := if_pos rfl
theorem wpOp_of_list {P : Program} {ops : Array Oper} {Q : Exit → Act → World → Prop} {i : Nat} {o : Oper} {K : Act → World → Prop} {a : Act} {w : World} (hi : ops[i]? = some o) (h : wpList P ops (Exit.then K Q) [o] a w) : wpOp P ops Q i K a w := by
  unfold wpOp
  rw [hi]
  simp only [wpList] at h
  simp only []
  split
  · rename_i hw
    rw [if_pos hw] at h
    refine h.imp (fun h1 => ?_) id
    unfold Oper.wp at *
    generalize (execOp a.eval o).run P w = r at *
    cases r with
    | ok n w' => cases n <;> exact h1
    | halt x w' => cases x <;> exact h1
  · rename_i hw
    rw [if_neg hw] at h
    exact h
theorem wp_region_inv {P : Program} {id : Nat} {ops : Array Oper} {Q : Exit → Act → World → Prop} {a : Act} {w : World} (hm : P.follows .mixedOrders = true) (Inv : (Nat → Bool) → Act → World → Prop)
    (hwf : ∀ (i : Nat) (o : Oper), ops[i]? = some o → ∀ e ∈ o.after, e.on < i)
    (h0 : Inv (fun _ => false) a w.drew)
    (hstep : ∀ (L : Nat → Bool) (i : Nat) (o : Oper) (a : Act) (w : World), ops[i]? = some o → L i = false → (∀ e ∈ o.after, Region.binds .any e = true → L e.on = true) → Inv L a w → wpList P ops (Exit.then (fun a' w' => Inv (fun j => if j = i then true else L j) a' w') Q) [o] a w)
    (hend : ∀ (L : Nat → Bool) (a : Act) (w : World), (∀ i, i < ops.size → L i = true) → Inv L a w → Q .normal a w) : (Code.region id ops true).wp P Q a w := by
  have key : ∀ (fuel : Nat) (listed : Array Bool) (L : Nat → Bool) (a : Act) (w : World), listed.size = ops.size → (∀ i, i < ops.size → listed.getD i true = L i ∧ listed.getD i false = L i) → PQ.unm (fun j => if L j = true then 1 else 0) ops.size ≤ fuel → Inv L a w → wpAny P .any ops Q fuel listed a w := by
    intro fuel
    have all : ∀ (listed : Array Bool) (L : Nat → Bool), (∀ i, i < ops.size → listed.getD i true = L i ∧ listed.getD i false = L i) → Region.ready .any ops listed = [] → ∀ n i, i < n → i < ops.size → L i = true := by
      intro listed L hL hr n
      induction n with
      | zero => intro i h; omega
      | succ n ih =>
        intro i hi his
        by_cases e : i < n
        · exact ih i e his
        · obtain rfl : i = n := by omega
          cases hl : L i with
          | true => rfl
          | false =>
            exfalso
            have : i ∈ Region.ready .any ops listed := by
              rw [mem_ready]
              refine ⟨by rw [(hL i his).1, hl], ops[i], by rw [Array.getElem?_eq_getElem his], fun e he _ => ?_⟩
              have := hwf i _ (by rw [Array.getElem?_eq_getElem his]) e he
              rw [(hL e.on (by omega)).2]
              exact ih e.on this (by omega)
            rw [hr] at this
            cases this
    induction fuel with
    | zero =>
      intro listed L a w hs hL hu hI
      have hall : ∀ i, i < ops.size → L i = true := by
        intro i hi
        cases hl : L i with
        | true => rfl
        | false =>
          exfalso
          have := PQ.unm_upd (pt := fun j => if L j = true then 1 else 0) (v := 1) hi (by simp [hl]) (by omega)
          omega
      refine ⟨?_, hend L a w hall hI⟩
      cases hr : Region.ready .any ops listed with
      | nil => rfl
      | cons i rs =>
        have hi : i ∈ Region.ready .any ops listed := by rw [hr]; exact List.mem_cons_self ..
        obtain ⟨h1, o, ho, -⟩ := mem_ready.1 hi
        have his : i < ops.size := by
          rcases Nat.lt_or_ge i ops.size with g | g
          · exact g
          · rw [Array.getElem?_eq_none g] at ho; cases ho
        rw [(hL i his).1, hall i his] at h1
        cases h1
    | succ fuel ih =>
      intro listed L a w hs hL hu hI
      refine ⟨fun hr => hend L a w (fun i hi => all listed L hL hr ops.size i hi hi) hI, fun i hi => ?_⟩
      obtain ⟨h1, o, ho, haf⟩ := mem_ready.1 hi
      have his : i < ops.size := by
        rcases Nat.lt_or_ge i ops.size with g | g
        · exact g
        · rw [Array.getElem?_eq_none g] at ho; cases ho
      rw [(hL i his).1] at h1
      have hst := hstep L i o a w ho h1 (fun e he hb => by
        have := haf e he hb
        rwa [(hL e.on (by have := hwf i o ho e he; omega)).2] at this) hI
      refine wpOp_mono (fun a' w' h => ?_) (wpOp_of_list ho hst)
      refine ih _ _ a' w' (by simpa using hs) (fun j hj => ?_) ?_ h
      · by_cases e : j = i
        · subst e
          simp [hs, his]
        · have := hL j hj
          have e' : ¬ i = j := fun h => e h.symm
          simp only [if_neg e]
          simp only [Array.getD_eq_getD_getElem?, Array.getElem?_setIfInBounds, if_neg e'] at this ⊢
          exact this
      · have := PQ.unm_upd (pt := fun j => if L j = true then 1 else 0) (v := 1) his (by simp [h1]) (by omega)
        have e2 : (fun j => if (if j = i then true else L j) = true then 1 else 0) = PQ.upd (fun j => if L j = true then 1 else 0) i 1 := by
          funext j
          unfold PQ.upd
          by_cases e : j = i
          · simp [e]
          · simp [e]
        rw [e2]
        omega
  refine wp_region_any hm (key ops.size _ (fun _ => false) a _ (by simp) (fun i hi => by simp [hi]) ?_ h0)
  exact Nat.le_trans (by unfold PQ.unm; exact List.length_filter_le _ _) (by simp)
/-- the same, the invariant told of the state at the region's beginning -/
theorem wp_region_inv2 {P : Program} {id : Nat} {ops : Array Oper} {Q : Exit → Act → World → Prop} {a : Act} {w : World} (hm : P.follows .mixedOrders = true) (Inv : Act → (Nat → Bool) → Act → World → Prop)
    (hwf : ∀ (i : Nat) (o : Oper), ops[i]? = some o → ∀ e ∈ o.after, e.on < i)
    (h0 : Inv a (fun _ => false) a w.drew)
    (hstep : ∀ (L : Nat → Bool) (i : Nat) (o : Oper) (a1 : Act) (w : World), ops[i]? = some o → L i = false → (∀ e ∈ o.after, Region.binds .any e = true → L e.on = true) → Inv a L a1 w → wpList P ops (Exit.then (fun a' w' => Inv a (mkd L i) a' w') Q) [o] a1 w)
    (hend : ∀ (L : Nat → Bool) (a1 : Act) (w : World), (∀ i, i < ops.size → L i = true) → Inv a L a1 w → Q .normal a1 w) : (Code.region id ops true).wp P Q a w :=
  wp_region_inv hm (Inv a) hwf h0 hstep hend
/-- every operation waits for earlier ones alone, as a Bool -/
def waitsBack (ops : Array Oper) : Bool := (List.range ops.size).all fun i => (ops[i]?.map fun o => o.after.all fun e => decide (e.on < i)).getD true
theorem waits_of {ops : Array Oper} (h : waitsBack ops = true) : ∀ (i : Nat) (o : Oper), ops[i]? = some o → ∀ e ∈ o.after, e.on < i := by
  intro i o ho e he
  have his : i < ops.size := by
    rcases Nat.lt_or_ge i ops.size with g | g
    · exact g
    · rw [Array.getElem?_eq_none g] at ho; cases ho
  have h1 := (List.all_eq_true.1 h) i (List.mem_range.2 his)
  rw [ho] at h1
  simp only [Option.map_some, Option.getD_some] at h1
  have := Array.all_eq_true'.1 h1 e he
  simpa using this
end Go.Proofs.YtienkfcliocjgaaGreat
