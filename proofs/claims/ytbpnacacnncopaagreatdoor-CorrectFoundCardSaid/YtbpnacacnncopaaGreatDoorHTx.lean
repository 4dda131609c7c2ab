/- The clock: floor, Split, Text. -/
import Derived.Orders
import Derived.Test.YtbpnacacnncopaaGreatDoorHTm
import Derived.Test.YtbpnacacnncopaaGreatDoorHTv
set_option linter.unusedVariables false
set_option linter.unusedSimpArgs false
namespace Go.Proofs.YtbpnacacnncopaaGreatDoor
open Go.RowKit
/-- operation i waits for operation j -/
def waitsFor (ops : Array Oper) (i j : Nat) : Bool := match ops[i]? with
  | none => false
  | some o => o.after.any fun e => (e.on == j) && Region.binds .any e
/-- every operation waits for earlier ones alone; those from n on wait, at the end of a chain, for all ahead of them; the guards of those ahead of n lie ahead of n -/
def tailB (ops : Array Oper) (n : Nat) : Bool :=
  ((List.range ops.size).all fun i => match ops[i]? with
    | none => true
    | some o => o.after.all fun e => !(Region.binds .any e) || decide (e.on < i)) &&
  ((List.range ops.size).all fun i => decide (i < n) || ((List.range i).all fun j => (List.range (i + 1)).any fun k => decide (j < k) && waitsFor ops k j)) &&
  ((List.range n).all fun i => match ops[i]? with
    | none => true
    | some o => match o.guard with
      | none => true
      | some (k, _) => decide (k < n))
section
variable {ops : Array Oper} {n : Nat}
theorem tail_early (h : tailB ops n = true) {i : Nat} {o : Oper} (ho : ops[i]? = some o) : ∀ e ∈ o.after, Region.binds .any e = true → e.on < i := by
  unfold tailB at h
  rw [Bool.and_eq_true, Bool.and_eq_true] at h
  have his : i < ops.size := by
    rcases Nat.lt_or_ge i ops.size with g | g
    · exact g
    · rw [Array.getElem?_eq_none g] at ho; cases ho
  have h1 := List.all_eq_true.1 h.1.1 i (List.mem_range.2 his)
  rw [ho] at h1
  intro e he hb
  have h2 := Array.all_eq_true'.1 h1 e he
  rw [hb] at h2
  simpa using h2
theorem tail_chain (h : tailB ops n = true) {i j : Nat} (hi : i < ops.size) (hn : n ≤ i) (hj : j < i) : ∃ k o, j < k ∧ k ≤ i ∧ ops[k]? = some o ∧ ∃ e ∈ o.after, e.on = j ∧ Region.binds .any e = true := by
  unfold tailB at h
  rw [Bool.and_eq_true, Bool.and_eq_true] at h
  have h1 := List.all_eq_true.1 h.1.2 i (List.mem_range.2 hi)
  rw [Bool.or_eq_true, decide_eq_true_eq] at h1
  rcases h1 with h1 | h1
  · omega
  · have h2 := List.all_eq_true.1 h1 j (List.mem_range.2 hj)
    obtain ⟨k, hk, h3⟩ := List.any_eq_true.1 h2
    rw [Bool.and_eq_true, decide_eq_true_eq] at h3
    have hki := List.mem_range.1 hk
    obtain ⟨hjk, h4⟩ := h3
    unfold waitsFor at h4
    cases ho : ops[k]? with
    | none => rw [ho] at h4; cases h4
    | some o =>
      rw [ho] at h4
      simp only [] at h4
      rw [Array.any_eq_true'] at h4
      obtain ⟨e, he, hh⟩ := h4
      rw [Bool.and_eq_true] at hh
      exact ⟨k, o, hjk, by omega, ho, e, he, by simpa using hh.1, hh.2⟩
/-- what has come up waits for nothing -/
def ClosedL (ops : Array Oper) (listed : Array Bool) : Prop := ∀ (k : Nat) (o : Oper), ops[k]? = some o → listed.getD k false = true → ∀ e ∈ o.after, Region.binds .any e = true → listed.getD e.on false = true
theorem ready_all (h : tailB ops n = true) {listed : Array Bool} (hc : ClosedL ops listed) {i : Nat} {o : Oper} (ho : ops[i]? = some o) (hn : n ≤ i) (hall : ∀ e ∈ o.after, Region.binds .any e = true → listed.getD e.on false = true) : ∀ m j, i - j ≤ m → j < i → listed.getD j false = true := by
  have his : i < ops.size := by
    rcases Nat.lt_or_ge i ops.size with g | g
    · exact g
    · rw [Array.getElem?_eq_none g] at ho; cases ho
  intro m
  induction m with
  | zero => intro j h1 h2; omega
  | succ m ih =>
    intro j h1 h2
    obtain ⟨k, o', hjk, hki, hk, e, he, he1, he2⟩ := tail_chain h his hn h2
    by_cases g : k = i
    · subst g
      obtain rfl : o = o' := Option.some.inj (ho.symm.trans hk)
      have := hall e he he2
      rwa [he1] at this
    · have := hc k o' hk (ih k (by omega) (by omega)) e he he2
      rwa [he1] at this
theorem tail_guard (h : tailB ops n = true) {i : Nat} {o : Oper} (ho : ops[i]? = some o) (hn : i < n) {k : Nat} {b : Bool} (hg : o.guard = some (k, b)) : k < n := by
  unfold tailB at h
  rw [Bool.and_eq_true] at h
  have h1 := List.all_eq_true.1 h.2 i (List.mem_range.2 hn)
  rw [ho] at h1
  simp only [hg] at h1
  simpa using h1
end
section
variable {P : Program} {l : List Oper} {n : Nat} {Q : Exit → Act → World → Prop}
theorem take_at (l : List Oper) (n i : Nat) (hi : i < n) : (l.take n).toArray[i]? = l.toArray[i]? := by
  simp [hi]
theorem wanted_take (h : tailB l.toArray n = true) {i : Nat} {o : Oper} (ho : l.toArray[i]? = some o) (hn : i < n) (t : Array Value) : Region.wanted o (yielded (l.take n).toArray t) = Region.wanted o (yielded l.toArray t) := by
  unfold Region.wanted
  cases hg : o.guard with
  | none => rfl
  | some p =>
    obtain ⟨k, b⟩ := p
    have hk := tail_guard h ho hn hg
    simp only []
    unfold yielded
    rw [take_at l n k hk]
/-- behind the quiet part: one operation after the other -/
theorem tail_run (h : tailB l.toArray n = true) : ∀ (rest : List Oper) (k fuel : Nat) (listed : Array Bool) (a : Act) (w : World), l.drop k = rest → n ≤ k → k ≤ l.length → listed.size = l.length → (∀ j, j < l.length → listed[j]? = some (decide (j < k))) →
    rest.length ≤ fuel → wpList P l.toArray Q rest a w → wpAny P .any l.toArray Q fuel listed a w := by
  intro rest
  induction rest with
  | nil =>
    intro k fuel listed a w hd hn hkl hs hL hf hw
    have hk : k = l.length := by
      have := congrArg List.length hd
      simp at this
      omega
    have hr : Region.ready .any l.toArray listed = [] := by
      rw [List.eq_nil_iff_forall_not_mem]
      intro i hi
      obtain ⟨h1, o, ho, -⟩ := mem_ready.1 hi
      have his : i < l.length := by
        rcases Nat.lt_or_ge i l.length with g | g
        · exact g
        · rw [Array.getElem?_eq_none (by simpa using g)] at ho; cases ho
      have := hL i his
      rw [Array.getD_eq_getD_getElem?, this] at h1
      simp at h1
      omega
    cases fuel with
    | zero => exact ⟨hr, hw⟩
    | succ f => exact ⟨fun _ => hw, fun i hi => by rw [hr] at hi; cases hi⟩
  | cons o rest ih =>
    intro k fuel listed a w hd hn hkl hs hL hf hw
    have hk : k < l.length := by
      have := congrArg List.length hd
      simp at this
      omega
    have ho : l.toArray[k]? = some o := by
      have h1 : (l.drop k)[0]? = some o := by rw [hd]; rfl
      rw [List.getElem?_drop] at h1
      simpa using h1
    obtain ⟨f, rfl⟩ : ∃ f, fuel = f + 1 := ⟨fuel - 1, by simp at hf; omega⟩
    have hkr : k ∈ Region.ready .any l.toArray listed := by
      rw [mem_ready]
      refine ⟨by rw [Array.getD_eq_getD_getElem?, hL k hk]; simp, o, ho, fun e he hb => ?_⟩
      have := tail_early h ho e he hb
      rw [Array.getD_eq_getD_getElem?, hL e.on (by omega)]
      simpa using this
    refine ⟨fun h0 => (by rw [h0] at hkr; cases hkr), fun i hi => ?_⟩
    obtain ⟨h1, o', ho', hall⟩ := mem_ready.1 hi
    have his : i < l.length := by
      rcases Nat.lt_or_ge i l.length with g | g
      · exact g
      · rw [Array.getElem?_eq_none (by simpa using g)] at ho'; cases ho'
    have hik : i = k := by
      rw [Array.getD_eq_getD_getElem?, hL i his] at h1
      simp at h1
      rcases Nat.lt_or_ge k i with g | g
      · have hc : ClosedL l.toArray listed := fun q oq hq hl e he hb => by
          have hqs : q < l.length := by
            rcases Nat.lt_or_ge q l.length with g | g
            · exact g
            · rw [Array.getElem?_eq_none (by simpa using g)] at hq; cases hq
          have hlt := tail_early h hq e he hb
          rw [Array.getD_eq_getD_getElem?, hL q hqs] at hl
          rw [Array.getD_eq_getD_getElem?, hL e.on (by omega)]
          simp at hl ⊢
          omega
        have := ready_all h hc ho' (by omega) hall (i - k) k (Nat.le_refl _) g
        rw [Array.getD_eq_getD_getElem?, hL k hk] at this
        simp at this
      · omega
    subst hik
    have hd' : l.drop (i + 1) = rest := by
      rw [← List.drop_drop, hd]
      rfl
    have hnx : ∀ a' w', wpList P l.toArray Q rest a' w' → wpAny P .any l.toArray Q f (listed.setIfInBounds i true) a' w' := fun a' w' hw' =>
      ih (i + 1) f _ a' w' hd' (by omega) hk (by simpa using hs) (fun j hj => by
        rw [Array.getElem?_setIfInBounds]
        by_cases e : i = j
        · subst e
          simp [hs, hk]
        · rw [if_neg e, hL j hj]
          congr 1
          by_cases g : j < i
          · rw [decide_eq_true g, decide_eq_true (by omega)]
          · rw [decide_eq_false g, decide_eq_false (by omega)]) (by simp at hf; omega) hw'
    unfold wpOp
    rw [ho]
    simp only []
    unfold wpList at hw
    split
    · rename_i hwt
      rw [if_pos hwt] at hw
      exact hw.imp (fun h2 => Oper.wp_mono hnx h2) id
    · rename_i hwt
      rw [if_neg hwt] at hw
      exact hnx _ _ hw
theorem wp_then {o : Oper} {a : Act} {w : World} {K : Act → World → Prop} {next : Act → World → Prop} (h : o.wp P a w K (Exit.then next Q)) : o.wp P a w K Q := by
  unfold Oper.wp at *
  generalize (execOp a.eval o).run P w = r at *
  cases r with
  | ok x w' => cases x <;> exact h
  | halt x w' => cases x <;> exact h
theorem lets_then {next : Act → World → Prop} (h : LetsOut (Exit.then next Q)) : LetsOut Q := h
theorem tail_any (h : tailB l.toArray n = true) (hn : n < l.length) : ∀ (fuel : Nat) (L listed : Array Bool) (a : Act) (w : World), L.size = n → listed.size = l.length → (∀ j, j < n → listed[j]? = L[j]?) → (∀ j, n ≤ j → j < l.length → listed[j]? = some false) → ClosedL l.toArray listed →
    wpAny P .any (l.take n).toArray (Exit.then (wpList P l.toArray Q (l.drop n)) Q) fuel L a w → wpAny P .any l.toArray Q (fuel + (l.length - n)) listed a w := by
  intro fuel
  have key : ∀ (L listed : Array Bool), L.size = n → listed.size = l.length → (∀ j, j < n → listed[j]? = L[j]?) → (∀ j, n ≤ j → j < l.length → listed[j]? = some false) → ∀ i, i < n → (i ∈ Region.ready .any l.toArray listed ↔ i ∈ Region.ready .any (l.take n).toArray L) := by
    intro L listed hs hs2 hL hF i hi
    rw [mem_ready, mem_ready, take_at l n i hi]
    have e1 : listed.getD i true = L.getD i true := by rw [Array.getD_eq_getD_getElem?, Array.getD_eq_getD_getElem?, hL i hi]
    rw [e1]
    refine and_congr_right fun _ => exists_congr fun o => and_congr_right fun ho => ?_
    refine forall_congr' fun e => forall_congr' fun he => forall_congr' fun hb => ?_
    have := tail_early h ho e he hb
    rw [Array.getD_eq_getD_getElem?, Array.getD_eq_getD_getElem?, hL e.on (by omega)]
  have full : ∀ (listed : Array Bool), listed.size = l.length → (∀ j, j < n → listed[j]? ≠ some false) → ∀ j, j < n → listed[j]? = some true := by
    intro listed hs hh j hj
    have := hh j hj
    rw [Array.getElem?_eq_getElem (by omega)] at this ⊢
    cases hv : listed[j] with
    | true => rfl
    | false => rw [hv] at this; exact absurd rfl this
  have done : ∀ (L : Array Bool), L.size = n → Region.ready .any (l.take n).toArray L = [] → ∀ m j, j < m → j < n → L[j]? = some true := by
    intro L hs hr m
    induction m with
    | zero => intro j h1; omega
    | succ m ih =>
      intro j h1 h2
      by_cases e : j < m
      · exact ih j e h2
      · obtain rfl : j = m := by omega
        rw [Array.getElem?_eq_getElem (by omega)]
        cases hv : L[j] with
        | true => rfl
        | false =>
          exfalso
          have hjl : j < l.length := by omega
          have : j ∈ Region.ready .any (l.take n).toArray L := by
            rw [mem_ready, take_at l n j h2]
            refine ⟨by rw [Array.getD_eq_getD_getElem?, Array.getElem?_eq_getElem (by omega), hv]; rfl, l[j], by simp [hjl], fun e he hb => ?_⟩
            have hlt := tail_early h (i := j) (o := l[j]) (by simp [hjl]) e he hb
            rw [Array.getD_eq_getD_getElem?, ih e.on hlt (by omega)]
            rfl
          rw [hr] at this
          cases this
  have run : ∀ (f : Nat) (listed : Array Bool) (a : Act) (w : World), listed.size = l.length → (∀ j, j < n → listed[j]? = some true) → (∀ j, n ≤ j → j < l.length → listed[j]? = some false) → l.length - n ≤ f → wpList P l.toArray Q (l.drop n) a w → wpAny P .any l.toArray Q f listed a w := by
    intro f listed a w hs h1 h2 hf hw
    refine tail_run h (l.drop n) n f listed a w rfl (Nat.le_refl _) (by omega) hs (fun j hj => ?_) (by simpa using hf) hw
    by_cases g : j < n
    · rw [h1 j g, decide_eq_true g]
    · rw [h2 j (by omega) hj, decide_eq_false g]
  induction fuel with
  | zero =>
    intro L listed a w hs hs2 hL hF _ hw
    exact run _ listed a w hs2 (fun j hj => by rw [hL j hj]; exact done L hs hw.1 n j hj hj) hF (by omega) hw.2
  | succ fuel ih =>
    intro L listed a w hs hs2 hL hF hc hw
    rw [show fuel + 1 + (l.length - n) = (fuel + (l.length - n)) + 1 by omega]
    cases hr : Region.ready .any (l.take n).toArray L with
    | nil => exact run _ listed a w hs2 (fun j hj => by rw [hL j hj]; exact done L hs hr n j hj hj) hF (by omega) (hw.1 hr)
    | cons r0 rs =>
      have hr0 : r0 ∈ Region.ready .any (l.take n).toArray L := by rw [hr]; exact List.mem_cons_self ..
      have hr0n : r0 < n := by
        obtain ⟨-, o, ho, -⟩ := mem_ready.1 hr0
        rcases Nat.lt_or_ge r0 n with g | g
        · exact g
        · rw [Array.getElem?_eq_none (by simp; omega)] at ho; cases ho
      have hrf : r0 ∈ Region.ready .any l.toArray listed := (key L listed hs hs2 hL hF r0 hr0n).2 hr0
      refine ⟨fun h0 => (by rw [h0] at hrf; cases hrf), fun i hi => ?_⟩
      obtain ⟨h1, o, ho, hall⟩ := mem_ready.1 hi
      have his : i < l.length := by
        rcases Nat.lt_or_ge i l.length with g | g
        · exact g
        · rw [Array.getElem?_eq_none (by simpa using g)] at ho; cases ho
      rcases Nat.lt_or_ge i n with g | g
      · have h2 := hw.2 i ((key L listed hs hs2 hL hF i g).1 hi)
        have hnx : ∀ a' w', wpAny P .any (l.take n).toArray (Exit.then (wpList P l.toArray Q (l.drop n)) Q) fuel (L.setIfInBounds i true) a' w' → wpAny P .any l.toArray Q (fuel + (l.length - n)) (listed.setIfInBounds i true) a' w' := fun a' w' hw' => by
          refine ih _ _ a' w' (by simpa using hs) (by simpa using hs2) (fun j hj => ?_) (fun j hj hj2 => ?_) ?_ hw'
          · rw [Array.getElem?_setIfInBounds, Array.getElem?_setIfInBounds]
            by_cases e : i = j
            · subst e
              simp [hs, hs2, g, his]
            · rw [if_neg e, if_neg e, hL j hj]
          · rw [Array.getElem?_setIfInBounds, if_neg (by omega)]
            exact hF j hj hj2
          · intro q oq hq hl e he hb
            have up : ∀ t, listed.getD t false = true → (listed.setIfInBounds i true).getD t false = true := fun t ht => by
              rw [Array.getD_eq_getD_getElem?, Array.getElem?_setIfInBounds]
              split
              · rename_i e5
                subst e5
                simp [hs2, his]
              · rw [Array.getD_eq_getD_getElem?] at ht
                exact ht
            by_cases e5 : i = q
            · subst e5
              obtain rfl : o = oq := Option.some.inj (ho.symm.trans hq)
              exact up _ (hall e he hb)
            · refine up _ (hc q oq hq ?_ e he hb)
              rw [Array.getD_eq_getD_getElem?, Array.getElem?_setIfInBounds, if_neg e5] at hl
              rw [Array.getD_eq_getD_getElem?]
              exact hl
        unfold wpOp at h2 ⊢
        rw [take_at l n i g, ho] at h2
        rw [ho]
        simp only [] at h2 ⊢
        rw [wanted_take h ho g] at h2
        split
        · rename_i hwt
          rw [if_pos hwt] at h2
          exact h2.imp (fun h3 => wp_then (Oper.wp_mono hnx h3)) (fun h3 => ⟨h3.1, lets_then h3.2⟩)
        · rename_i hwt
          rw [if_neg hwt] at h2
          exact hnx _ _ h2
      · exfalso
        have h3 := ready_all h hc ho g hall (i - r0) r0 (Nat.le_refl _) (by omega)
        have h4 := (mem_ready.1 hr0).1
        rw [Array.getD_eq_getD_getElem?, hL r0 hr0n] at h3
        rw [Array.getD_eq_getD_getElem?] at h4
        rw [Array.getElem?_eq_getElem (by omega)] at h3 h4
        simp at h3 h4
        rw [h3] at h4
        cases h4
/-- a drawn region: a quiet part, then stores and results -/
theorem wp_region_tail {id : Nat} {a : Act} {w : World} {C : World → Prop} (n : Nat) (hm : P.follows .mixedOrders = true) (hT : tailB l.toArray n = true) (hn : n < l.length) (hB : Region.lexB .any (l.take n).toArray = true) (hC : C w.drew)
    (h : wpQuiet P (l.take n).toArray C (fun a' => ∀ w', C w' → wpList P l.toArray Q (l.drop n) a' w') (l.take n) a) : (Code.region id l.toArray true).wp P Q a w := by
  simp only [Region.lexB, Bool.and_eq_true] at hB
  refine wp_region_any hm ?_
  have h1 := wpAnyQ_lex (C := C) (md := .any) hB.1 (l.take n) 0 (Array.replicate (l.take n).toArray.size false) a (by simp) (by simpa using hB.2) h
  have h2 := wpAny_of_quiet (Q' := Exit.then (wpList P l.toArray Q (l.drop n)) Q) (fun a' w' hw' hh => hh w' hw') _ _ _ _ hC h1
  have h3 := tail_any (Q := Q) hT hn (l.take n).length (Array.replicate n false) (Array.replicate l.length false) a w.drew (by simp) (by simp) (fun j hj => by simp [hj, show j < l.length by omega]) (fun j hj hj2 => by simp [hj2]) (fun k o hk hl => by rw [Array.getD_eq_getD_getElem?] at hl; simp [Array.getElem?_replicate] at hl; split at hl <;> simp at hl) (by simpa [Nat.min_eq_left (Nat.le_of_lt hn)] using h2)
  rw [List.length_take, Nat.min_eq_left (Nat.le_of_lt hn), show n + (l.length - n) = l.length by omega] at h3
  simpa using h3
theorem wp_region_bqt {id : Nat} {a : Act} {w : World} (n : Nat) (w0 : World) (hm : P.follows .mixedOrders = true) (hT : tailB l.toArray n = true) (hn : decide (n < l.length) = true) (hB : Region.lexB .any (l.take n).toArray = true) (h0 : Below w0.heap.size w0 w)
    (h : wpQuiet P (l.take n).toArray (fun w' => ∃ s : BQ w0, w' = s.w) (fun a' => ∀ w9, Below w0.heap.size w0 w9 → wpList P l.toArray Q (l.drop n) a' w9) (l.take n) a) : (Code.region id l.toArray true).wp P Q a w := by
  have e : (fun a' => ∀ w9, Below w0.heap.size w0 w9 → wpList P l.toArray Q (l.drop n) a' w9) = (fun a' : Act => ∀ w', (∃ s : BQ w0, w' = s.w) → wpList P l.toArray Q (l.drop n) a' w') :=
    funext fun a' => propext ⟨fun h w' ⟨s, hs⟩ => hs ▸ h s.w s.hb, fun h w9 hb => h w9 ⟨⟨w9, hb⟩, rfl⟩⟩
  rw [e] at h
  exact wp_region_tail (C := fun w' => ∃ s : BQ w0, w' = s.w) n hm hT (of_decide_eq_true hn) hB ⟨⟨_, bl_drew h0⟩, rfl⟩ h
end
end Go.Proofs.YtbpnacacnncopaaGreatDoor
namespace Go.Proofs.YtbpnacacnncopaaGreatDoor
open Go.RowKit Go.Shelf Frm
open Lib (decDigits)
theorem mod_td (a : Int) {d : Int} (hd : 0 < d) : (if a.tmod d < 0 then a.tmod d + d else a.tmod d) = a % d ∧ (if a.tmod d < 0 then a.tdiv d - 1 else a.tdiv d) = a / d := by
  have h1 := Int.tmod_add_mul_tdiv a d
  have h2 := Int.tmod_lt_of_pos a hd
  have h3 := Int.lt_tmod_of_pos a hd
  split
  · have := (Int.ediv_emod_unique (a := a) (q := a.tdiv d - 1) (r := a.tmod d + d) hd).2 ⟨by rw [Int.mul_sub]; omega, by omega, by omega⟩
    exact ⟨this.2.symm, this.1.symm⟩
  · have := (Int.ediv_emod_unique (a := a) (q := a.tdiv d) (r := a.tmod d) hd).2 ⟨h1, by omega, h2⟩
    exact ⟨this.2.symm, this.1.symm⟩
theorem ckFloor_any (a : Int) (w : World) (h0 : -70368744177664 ≤ a) (h1 : a ≤ 70368744177664) : Calls Tryz.prog 104 #[.int .i64 a, .int .i64 86400000] w fun e w' => e = .returned (.tuple #[.int .i64 (a / 86400000), .int .i64 (a % 86400000)]) ∧ Below w.heap.size w w' := by
  obtain ⟨hr, hq⟩ := mod_td a (show (0 : Int) < 86400000 by omega)
  rw [← hr, ← hq]
  have q1 := Int.natAbs_tdiv_le_natAbs a 86400000
  have q2 := Int.tmod_lt_of_pos a (show (0 : Int) < 86400000 by omega)
  have q3 := Int.lt_tmod_of_pos a (show (0 : Int) < 86400000 by omega)
  clear hr hq
  obtain ⟨q, hq⟩ : ∃ q, a.tdiv 86400000 = q := ⟨_, rfl⟩
  obtain ⟨r, hr⟩ : ∃ r, a.tmod 86400000 = r := ⟨_, rfl⟩
  rw [hq] at q1 ⊢
  rw [hr] at q2 q3 ⊢
  have q0 : -70368744177664 ≤ q := by omega
  have q9 : q ≤ 70368744177664 := by omega
  have e3 : IntKind.i64.wrap q = q := IntWalk.i64_in q (by omega)
  clear q1
  by_cases h : r < 0
  · rw [if_pos h, if_pos h]
    have d0 : decide (r < 0) = true := decide_eq_true h
    go_enter Tryz.func104, Tryz.ntmps104
    go_upto_region 1 with fail
    refine wp_region_bq w (by kernel_rfl) (by kernel_rfl) (Below.refl _ _) ?_
    repeat (go_big_quiet_step (first | fail))
    refine wpQuiet_nil ?_
    intro w1 hb
    go_wp2
    go_ret2
    exact ⟨rfl, hb⟩
  · rw [if_neg h, if_neg h]
    have d0 : decide (r < 0) = false := decide_eq_false h
    go_enter Tryz.func104, Tryz.ntmps104
    go_upto_region 1 with fail
    refine wp_region_bq w (by kernel_rfl) (by kernel_rfl) (Below.refl _ _) ?_
    repeat (go_big_quiet_step (first | fail))
    refine wpQuiet_nil ?_
    intro w1 hb
    go_wp2
    go_ret2
    exact ⟨rfl, hb⟩
/-- what clock.Split returns -/
def CsR (t : Int) (e : Ending) : Prop := (∃ (y d : Int) (m : Nat), CA.vld ⟨y, m, d⟩ ∧ CA.num ⟨y, m, d⟩ = t / 86400000 ∧ e = .returned (.tuple #[.agg #[.int .i64 y, .int .i64 (m : Int), .int .i64 d], .int .i64 (t % 86400000), .int .i64 0])) ∨ ((¬ ∃ x, CA.vld x ∧ CA.num x = t / 86400000) ∧ e = .returned (.tuple #[.agg #[.int .i64 0, .int .i64 0, .int .i64 0], .int .i64 0, .int .i64 20]))
set_option maxHeartbeats 1000000 in
set_option maxRecDepth 100000 in
theorem ckSplit_any (t : Int) (w : World) (ht : insB t = true) : Calls Tryz.prog 64 #[.int .i64 t] w fun e w' => CsR t e ∧ Below w.heap.size w w' := by
  have KI := Lib.hid (fun W => instant_any t W)
  rw [ht] at KI
  unfold insB at ht
  rw [decide_eq_true_eq] at ht
  have KF := Lib.hid (fun W => ckFloor_any t W ht.1 ht.2)
  have hno := fun (h : t / 86400000 < -730119 ∨ 2921940 ≤ t / 86400000) => (show ¬ ∃ x, CA.vld x ∧ CA.num x = t / 86400000 from fun ⟨x, h1, h2⟩ => by have := num_range h1; omega)
  unfold CsR
  have hms : 0 ≤ t % 86400000 := by omega
  have hms2 : t % 86400000 < 86400000 := by omega
  generalize t / 86400000 = n at *
  generalize t % 86400000 = ms at *
  clear ht
  by_cases hn : n < -730119 ∨ 2921940 ≤ n
  · have KD := Lib.hid (fun W => DateOf_no n W hn)
    simp only [dtv] at KD
    have HNO := Lib.hid (hno hn)
    clear hno hn
    have R0 := Lib.hid (Blk.new w 100 #[.int .i64 0, .int .i64 0, .int .i64 0])
    have b0 := Lib.hid ((Below.refl w.heap.size w).alloc (Nat.le_refl _) (.cells #[.int .i64 0, .int .i64 0, .int .i64 0] 100))
    go_enter Tryz.func64, Tryz.ntmps64
    go_upto_region 1 with fail
    generalize (w.alloc (.cells #[.int .i64 0, .int .i64 0, .int .i64 0] 100)) = w1 at *
    go_wp2_with fail
    (with_reducible refine (KI.out _).mono ?_)
    rintro e w2 ⟨rfl, rfl⟩
    go_wp2_with fail
    (with_reducible refine (KF.out _).mono ?_)
    rintro e w3 ⟨rfl, hb⟩
    have R3 := Lib.hid (R0.out.below hb R0.out.lt)
    have b3 := Lib.hid (b0.out.trans (hb.mono b0.out.size))
    clear hb R0 b0
    go_wp2_with fail
    (with_reducible refine (KD.out _).mono ?_)
    rintro e w4 ⟨rfl, hb⟩
    have R4 := Lib.hid (R3.out.below hb R3.out.lt)
    have b4 := Lib.hid (b3.out.trans (hb.mono b3.out.size))
    clear hb R3 b3
    have R5 := Lib.hid (R4.out.alloc (.cells #[.int .i64 0, .int .i64 0, .int .i64 0] 100))
    have D5 := Lib.hid (Blk.new w4 100 #[.int .i64 0, .int .i64 0, .int .i64 0])
    have b5 := Lib.hid (b4.out.trans ((bl_alloc w4 (.cells #[.int .i64 0, .int .i64 0, .int .i64 0] 100)).mono b4.out.size))
    clear R4 b4
    go_upto_region 5 with fail
    generalize w4.alloc (.cells #[.int .i64 0, .int .i64 0, .int .i64 0] 100) = w6 at *
    have yR : ∀ i, w6.cell? ⟨w.heap.size, i, none⟩ = (#[.int .i64 0, .int .i64 0, .int .i64 0] : Array Value)[i]? := fun i => R5.out.cell i
    have zR : ∀ i, w6.frozen? ⟨w.heap.size, i, none⟩ = false := fun i => R5.out.frozen i
    go_wp2
    refine bodyPost_ret (v := .tuple #[.agg #[.int .i64 0, .int .i64 0, .int .i64 0], .int .i64 0, .int .i64 20]) (by simp [results, Tryz.results64, go_sem, *]; done) rfl ⟨.inr ⟨HNO.out, rfl⟩, ?_⟩
    exact ((b5.out.setCell (by simp) _).setCell (by simp) _).setCell (by simp) _
  · have KD := Lib.hid (fun W => DateOf_yes n W (by omega) (by omega))
    simp only [dtv] at KD
    clear hno hn
    have R0 := Lib.hid (Blk.new w 100 #[.int .i64 0, .int .i64 0, .int .i64 0])
    have b0 := Lib.hid ((Below.refl w.heap.size w).alloc (Nat.le_refl _) (.cells #[.int .i64 0, .int .i64 0, .int .i64 0] 100))
    go_enter Tryz.func64, Tryz.ntmps64
    go_upto_region 1 with fail
    generalize (w.alloc (.cells #[.int .i64 0, .int .i64 0, .int .i64 0] 100)) = w1 at *
    go_wp2_with fail
    (with_reducible refine (KI.out _).mono ?_)
    rintro e w2 ⟨rfl, rfl⟩
    go_wp2_with fail
    (with_reducible refine (KF.out _).mono ?_)
    rintro e w3 ⟨rfl, hb⟩
    have R3 := Lib.hid (R0.out.below hb R0.out.lt)
    have b3 := Lib.hid (b0.out.trans (hb.mono b0.out.size))
    clear hb R0 b0
    go_wp2_with fail
    (with_reducible refine (KD.out _).mono ?_)
    rintro e w4 ⟨⟨y, d, m, hv, hnn, rfl⟩, hb⟩
    have R4 := Lib.hid (R3.out.below hb R3.out.lt)
    have b4 := Lib.hid (b3.out.trans (hb.mono b3.out.size))
    clear hb R3 b3
    have HV := Lib.hid hv
    have HN := Lib.hid hnn
    clear hv hnn
    have R5 := Lib.hid (R4.out.alloc (.cells #[.int .i64 y, .int .i64 ((m : Int)), .int .i64 d] 100))
    have D5 := Lib.hid (Blk.new w4 100 #[.int .i64 y, .int .i64 ((m : Int)), .int .i64 d])
    have b5 := Lib.hid (b4.out.trans ((bl_alloc w4 (.cells #[.int .i64 y, .int .i64 ((m : Int)), .int .i64 d] 100)).mono b4.out.size))
    clear R4 b4
    go_upto_region 5 with fail
    generalize w4.alloc (.cells #[.int .i64 y, .int .i64 ((m : Int)), .int .i64 d] 100) = w6 at *
    have yR : ∀ i, w6.cell? ⟨w.heap.size, i, none⟩ = (#[.int .i64 0, .int .i64 0, .int .i64 0] : Array Value)[i]? := fun i => R5.out.cell i
    have yD : ∀ i, w6.cell? ⟨w4.heap.size, i, none⟩ = (#[.int .i64 y, .int .i64 ((m : Int)), .int .i64 d] : Array Value)[i]? := fun i => D5.out.cell i
    have zR : ∀ i, w6.frozen? ⟨w.heap.size, i, none⟩ = false := fun i => R5.out.frozen i
    go_wp2
    refine bodyPost_ret (v := .tuple #[.agg #[.int .i64 y, .int .i64 ((m : Int)), .int .i64 d], .int .i64 ms, .int .i64 0]) (by simp [results, Tryz.results64, go_sem, *]; done) rfl ⟨.inl ⟨y, d, m, HV.out, HN.out, rfl⟩, ?_⟩
    exact ((b5.out.setCell (by simp) _).setCell (by simp) _).setCell (by simp) _
/-- what clock.Text returns -/
def CtR (t : Int) (e : Ending) : Prop := (∃ s, IsInst t s ∧ e = .returned (.tuple #[tx s, .int .i64 0])) ∨ ((¬ ∃ s, IsInst t s) ∧ e = .returned (.tuple #[tx [], .int .i64 20]))
theorem inst_len {t : Int} {s : Bs} (h : IsInst t s) : s.length ≤ 40 := by
  obtain ⟨x, h1, h2, rfl⟩ := h
  have := dateT_len h1
  have l1 : ∀ n, n < 100 → (dgs n 2).length = 2 := fun n hn => dgs_len 2 n hn
  have l2 : ∀ n, n < 1000 → (dgs n 3).length = 3 := fun n hn => dgs_len 3 n hn
  have hms : (t % 86400000).toNat < 86400000 := by omega
  generalize (t % 86400000).toNat = ms at *
  unfold CT.clockT
  split
  · simp [l1 (ms / 3600000) (by omega), l1 (ms / 60000 % 60) (by omega), l1 (ms / 1000 % 60) (by omega)]
    omega
  · simp [l1 (ms / 3600000) (by omega), l1 (ms / 60000 % 60) (by omega), l1 (ms / 1000 % 60) (by omega), l2 (ms % 1000) (by omega)]
    omega
set_option maxHeartbeats 4000000 in
set_option maxRecDepth 100000 in
theorem ckText_any (t : Int) (w : World) (ht : insB t = true) (he : En w) : Calls Tryz.prog 21 #[.int .i64 t] w fun e w' => CtR t e ∧ Below w.heap.size w w' := by
  have KS := Lib.hid (ckSplit_any t w ht)
  have HE := Lib.hid he
  clear he ht
  go_enter Tryz.func21, Tryz.ntmps21
  go_wp2_with fail
  (with_reducible refine (KS.out).mono ?_)
  rintro e w1 ⟨hcs, hb⟩
  have E1 := Lib.hid (HE.out.bl hb)
  have b1 := Lib.hid hb
  clear hb HE KS
  rcases hcs with ⟨y, d, m, hv, hn, rfl⟩ | ⟨hno, rfl⟩
  · have HV := Lib.hid hv
    have HN := Lib.hid hn
    have hms : t % 86400000 < 86400000 := by omega
    obtain ⟨ms, hms0⟩ : ∃ ms : Nat, t % 86400000 = ms := ⟨(t % 86400000).toNat, by omega⟩
    rw [hms0] at hms ⊢
    have HI : Hid (IsInst t (dateT ⟨y, m, d⟩ ++ 32 :: CT.clockT ms)) := Lib.hid ⟨_, hv, hn, by rw [hms0, Int.toNat_natCast]⟩
    have KT := Lib.hid (fun (W : World) (h : En W) => show Calls Tryz.prog 65 #[.agg #[.int .i64 y, .int .i64 (m : Int), .int .i64 d]] W _ from dText_yes ⟨y, m, d⟩ W hv h)
    have lD := dateT_len hv
    obtain ⟨D, hD⟩ : ∃ D, dateT ⟨y, m, d⟩ = D := ⟨_, rfl⟩
    simp only [hD] at KT HI lD
    clear hv hn hD hms0
    have D1 := Lib.hid (fun W => dig2_any (ms / 3600000) W (by omega))
    have D2 := Lib.hid (fun W => dig2_any (ms / 60000 % 60) W (by omega))
    have D3 := Lib.hid (fun W => dig2_any (ms / 1000 % 60) W (by omega))
    have D4 := Lib.hid (fun W => dig3_any (ms % 1000) W (by omega))
    have l1 : (dgs (ms / 3600000) 2).length = 2 := dgs_len 2 _ (by omega)
    have l2 : (dgs (ms / 60000 % 60) 2).length = 2 := dgs_len 2 _ (by omega)
    have l3 : (dgs (ms / 1000 % 60) 2).length = 2 := dgs_len 2 _ (by omega)
    have l4 : (dgs (ms % 1000) 3).length = 3 := dgs_len 3 _ (by omega)
    have hc0 : CT.clockT ms = dgs (ms / 3600000) 2 ++ 58 :: (dgs (ms / 60000 % 60) 2 ++ 58 :: (dgs (ms / 1000 % 60) 2 ++ (if ms % 1000 = 0 then [] else 46 :: dgs (ms % 1000) 3))) := rfl
    obtain ⟨S1, hS1⟩ : ∃ S1, ms / 1000 = S1 := ⟨_, rfl⟩
    obtain ⟨h1, hh1⟩ : ∃ z, ms / 3600000 = z := ⟨_, rfl⟩
    obtain ⟨h2, hh2⟩ : ∃ z, ms / 60000 = z := ⟨_, rfl⟩
    obtain ⟨h3, hh3⟩ : ∃ z, h2 % 60 = z := ⟨_, rfl⟩
    obtain ⟨h4, hh4⟩ : ∃ z, S1 % 60 = z := ⟨_, rfl⟩
    obtain ⟨h5, hh5⟩ : ∃ z, ms % 1000 = z := ⟨_, rfl⟩
    have q1 : ((ms : Nat) : Int).tdiv 1000 = (S1 : Int) := by rw [Int.tdiv_eq_ediv_of_nonneg (by omega)]; omega
    have q2 : ((S1 : Nat) : Int).tdiv 3600 = (h1 : Int) := by rw [Int.tdiv_eq_ediv_of_nonneg (by omega)]; omega
    have q3 : ((S1 : Nat) : Int).tdiv 60 = (h2 : Int) := by rw [Int.tdiv_eq_ediv_of_nonneg (by omega)]; omega
    have q4 : ((h2 : Nat) : Int).tmod 60 = (h3 : Int) := by rw [Int.tmod_eq_emod_of_nonneg (by omega)]; omega
    have q5 : ((S1 : Nat) : Int).tmod 60 = (h4 : Int) := by rw [Int.tmod_eq_emod_of_nonneg (by omega)]; omega
    have q6 : ((ms : Nat) : Int).tmod 1000 = (h5 : Int) := by rw [Int.tmod_eq_emod_of_nonneg (by omega)]; omega
    rw [hh1] at D1 l1 hc0
    rw [hh2, hh3] at D2 l2 hc0
    rw [hS1, hh4] at D3 l3 hc0
    rw [hh5] at D4 l4 hc0
    have k1 : S1 < 100000 := by omega
    have k2 : h1 < 100000 := by omega
    have k3 : h2 < 100000 := by omega
    have k4 : h5 < 100000 := by omega
    clear hS1 hh1 hh2 hh3 hh4 hh5
    generalize dgs h1 2 = A at *
    generalize dgs h3 2 = B at *
    generalize dgs h4 2 = C at *
    generalize dgs h5 3 = F at *
    have a1 := tx_add D [32] (by omega) (by simp)
    have a2 := tx_add (D ++ [32]) A (by simp; omega) (by omega)
    have a3 := tx_add (D ++ [32] ++ A) [58] (by simp; omega) (by simp)
    have a4 := tx_add (D ++ [32] ++ A ++ [58]) B (by simp; omega) (by omega)
    have a5 := tx_add (D ++ [32] ++ A ++ [58] ++ B) [58] (by simp; omega) (by simp)
    have a6 := tx_add (D ++ [32] ++ A ++ [58] ++ B ++ [58]) C (by simp; omega) (by omega)
    have a7 := tx_add [46] F (by simp) (by omega)
    have a8 := tx_add (D ++ [32] ++ A ++ [58] ++ B ++ [58] ++ C) ([46] ++ F) (by simp; omega) (by simp; omega)
    have hfin : D ++ 32 :: CT.clockT ms = if h5 = 0 then D ++ [32] ++ A ++ [58] ++ B ++ [58] ++ C else D ++ [32] ++ A ++ [58] ++ B ++ [58] ++ C ++ ([46] ++ F) := by
      rw [hc0]
      split <;> simp
    rw [hfin] at HI
    clear hfin hc0 l1 l2 l3 l4 lD HV HN
    generalize D ++ [32] = E01 at *
    generalize E01 ++ A = E02 at *
    generalize E02 ++ [58] = E03 at *
    generalize E03 ++ B = E04 at *
    generalize E04 ++ [58] = E05 at *
    generalize E05 ++ C = E06 at *
    generalize [46] ++ F = E07 at *
    have D2 := Lib.hid (Blk.new w1 100 #[.int .i64 y, .int .i64 ((m : Int)), .int .i64 d])
    have E2 := Lib.hid (E1.out.bl (bl_alloc w1 (.cells #[.int .i64 y, .int .i64 ((m : Int)), .int .i64 d] 100)))
    have b2 := Lib.hid (b1.out.trans ((bl_alloc w1 (.cells #[.int .i64 y, .int .i64 ((m : Int)), .int .i64 d] 100)).mono b1.out.size))
    clear E1 b1
    go_upto_region 2 with fail
    generalize w1.alloc (.cells #[.int .i64 y, .int .i64 ((m : Int)), .int .i64 d] 100) = w3 at *
    have yD : ∀ i, w3.cell? ⟨w1.heap.size, i, none⟩ = (#[.int .i64 y, .int .i64 ((m : Int)), .int .i64 d] : Array Value)[i]? := fun i => D2.out.cell i
    go_wp2_with fail
    (with_reducible refine (KT.out _ E2.out).mono ?_)
    rintro e w4 ⟨rfl, hb⟩
    have D4 := Lib.hid (D2.out.below hb D2.out.lt)
    have E4 := Lib.hid (E2.out.bl hb)
    have b4 := Lib.hid (b2.out.trans (hb.mono b2.out.size))
    clear hb D2 E2 b2 yD
    go_wp2_with fail
    (with_reducible refine (D1.out _).mono ?_)
    rintro e w5 ⟨rfl, hb⟩
    have D5 := Lib.hid (D4.out.below hb D4.out.lt)
    have E5 := Lib.hid (E4.out.bl hb)
    have b5 := Lib.hid (b4.out.trans (hb.mono b4.out.size))
    clear hb D4 E4 b4
    go_wp2_with fail
    (with_reducible refine (D2.out _).mono ?_)
    rintro e w6 ⟨rfl, hb⟩
    have D6 := Lib.hid (D5.out.below hb D5.out.lt)
    have E6 := Lib.hid (E5.out.bl hb)
    have b6 := Lib.hid (b5.out.trans (hb.mono b5.out.size))
    clear hb D5 E5 b5
    go_wp2_with fail
    (with_reducible refine (D3.out _).mono ?_)
    rintro e w7 ⟨rfl, hb⟩
    have D7 := Lib.hid (D6.out.below hb D6.out.lt)
    have E7 := Lib.hid (E6.out.bl hb)
    have b7 := Lib.hid (b6.out.trans (hb.mono b6.out.size))
    clear hb D6 E6 b6
    by_cases h0 : h5 = 0
    · subst h0
      rw [if_pos rfl] at HI
      go_wp2
      go_ret2
      exact ⟨.inl ⟨_, HI.out, rfl⟩, b7.out⟩
    · have dd : decide ((0 : Int) < (h5 : Int)) = true := decide_eq_true (by omega)
      have de : decide (0 < h5) = true := decide_eq_true (by omega)
      rw [if_neg h0] at HI
      clear h0
      go_wp2_with fail
      (with_reducible refine (D4.out _).mono ?_)
      rintro e w8 ⟨rfl, hb⟩
      have D8 := Lib.hid (D7.out.below hb D7.out.lt)
      have b8 := Lib.hid (b7.out.trans (hb.mono b7.out.size))
      clear hb D7 b7
      go_wp2
      go_ret2
      exact ⟨.inl ⟨_, HI.out, rfl⟩, b8.out⟩
  · have HNO : Hid (¬ ∃ s, IsInst t s) := Lib.hid fun ⟨s, x, h1, h2, _⟩ => hno ⟨x, h1, h2⟩
    clear hno
    have D2 := Lib.hid (Blk.new w1 100 #[.int .i64 0, .int .i64 0, .int .i64 0])
    have E2 := Lib.hid (E1.out.bl (bl_alloc w1 (.cells #[.int .i64 0, .int .i64 0, .int .i64 0] 100)))
    have b2 := Lib.hid (b1.out.trans ((bl_alloc w1 (.cells #[.int .i64 0, .int .i64 0, .int .i64 0] 100)).mono b1.out.size))
    clear E1 b1
    go_upto_region 2 with fail
    generalize w1.alloc (.cells #[.int .i64 0, .int .i64 0, .int .i64 0] 100) = w3 at *
    go_wp2
    go_ret2
    exact ⟨.inr ⟨HNO.out, rfl⟩, b2.out⟩
end Go.Proofs.YtbpnacacnncopaaGreatDoor
