/- A drawn region that makes some intervals, each in a block of its own: what it leaves. -/
import Derived.Test.YtfeianjdedgdoaaGPq
import Derived.Test.YtfeianjdedgdoaaGBi
set_option linter.unusedVariables false
set_option linter.unusedSimpArgs false
namespace Go.Proofs.Ytfeianjdedgdoaa
open Go.RowKit
/-- some blocks of two numbers: made by the operations from A on, written by those from S on -/
structure MI (W2 w : World) (L : Nat → Bool) (n A S : Nat) (g : Nat → Nat) (v : Nat → Int × Int) : Prop where
  bl : Below W2.heap.size W2 w
  d : ∀ i, i < n → L (S + i) = true → L (A + i) = true
  lo : ∀ i, i < n → L (A + i) = true → W2.heap.size ≤ g i
  z : ∀ i, i < n → L (A + i) = true → L (S + i) = false → D2 w (g i) 0 0
  k : ∀ i, i < n → L (S + i) = true → D2 w (g i) (v i).1 (v i).2
  ne : ∀ i j, i < n → j < n → i ≠ j → L (A + i) = true → L (A + j) = true → g i ≠ g j
section
variable {W2 w w' : World} {L : Nat → Bool} {n A S : Nat} {g : Nat → Nat} {v : Nat → Int × Int}
theorem MI.start (W2 : World) (n A S : Nat) (g : Nat → Nat) (v : Nat → Int × Int) : MI W2 W2.drew (fun _ => false) n A S g v :=
  ⟨bl_drew (Below.refl _ _), fun _ _ h => (by cases h), fun _ _ h => (by cases h), fun _ _ h => (by cases h), fun _ _ h => (by cases h), fun _ _ _ _ _ h => (by cases h)⟩
theorem MI.l (h : MI W2 w L n A S g v) {i : Nat} (hi : i < n) (hA : L (A + i) = true) : g i < w.heap.size := by
  cases e : L (S + i) with
  | false => exact (h.z i hi hA e).lt
  | true => exact (h.k i hi e).lt
theorem MI.call (h : MI W2 w L n A S g v) (hb : Below w.heap.size w w') : MI W2 w' L n A S g v :=
  ⟨h.bl.trans (hb.mono h.bl.size), h.d, h.lo, fun i hi p q => (h.z i hi p q).below hb (h.z i hi p q).lt, fun i hi p => (h.k i hi p).below hb (h.k i hi p).lt, h.ne⟩
theorem MI.mark (h : MI W2 w L n A S g v) (m : Nat) (hm : (m < A ∧ m < S) ∨ (A + n ≤ m ∧ m < S) ∨ (A + n ≤ m ∧ S + n ≤ m)) : MI W2 w (mkd L m) n A S g v := by
  have e : ∀ i, i < n → mkd L m (A + i) = L (A + i) := fun i hi => mkd_ne (by omega)
  have f : ∀ i, i < n → mkd L m (S + i) = L (S + i) := fun i hi => mkd_ne (by omega)
  constructor
  · exact h.bl
  · intro i hi p; rw [f i hi] at p; rw [e i hi]; exact h.d i hi p
  · intro i hi p; rw [e i hi] at p; exact h.lo i hi p
  · intro i hi p q; rw [e i hi] at p; rw [f i hi] at q; exact h.z i hi p q
  · intro i hi p; rw [f i hi] at p; exact h.k i hi p
  · intro i j hi hj hij p q; rw [e i hi] at p; rw [e j hj] at q; exact h.ne i j hi hj hij p q
theorem MI.setv (h : MI W2 w L n A S g v) (hS : ∀ i, i < n → L (S + i) = false) (v' : Nat → Int × Int) : MI W2 w L n A S g v' :=
  ⟨h.bl, h.d, h.lo, h.z, fun i hi p => (by rw [hS i hi] at p; cases p), h.ne⟩
theorem MI.al (h : MI W2 w L n A S g v) (m : Nat) (hm : m < n) (hAS : A + n ≤ S) (hL : L (A + m) = false) (t : TypeId) : MI W2 (w.alloc (.cells #[.int .i64 0, .int .i64 0] t)) (mkd L (A + m)) n A S (fun j => if j = m then w.heap.size else g j) v := by
  have c := h.call (bl_alloc w (.cells #[.int .i64 0, .int .i64 0] t))
  have hS : L (S + m) = false := by
    cases e : L (S + m) with
    | false => rfl
    | true => rw [h.d m hm e] at hL; cases hL
  have f : ∀ i, i < n → mkd L (A + m) (S + i) = L (S + i) := fun i hi => mkd_ne (by omega)
  have e : ∀ i, i < n → i ≠ m → mkd L (A + m) (A + i) = L (A + i) := fun i hi him => mkd_ne (by omega)
  constructor
  · exact c.bl
  · intro i hi p
    rw [f i hi] at p
    by_cases him : i = m
    · subst him; exact mkd_same _ _
    · rw [e i hi him]; exact h.d i hi p
  · intro i hi p
    by_cases him : i = m
    · simp only [him, if_true]; exact h.bl.size
    · simp only [if_neg him]; rw [e i hi him] at p; exact h.lo i hi p
  · intro i hi p q
    by_cases him : i = m
    · simp only [him, if_true]; exact D2.new w 0 0 t
    · simp only [if_neg him]; rw [e i hi him] at p; rw [f i hi] at q; exact c.z i hi p q
  · intro i hi p
    rw [f i hi] at p
    by_cases him : i = m
    · subst him; rw [hS] at p; cases p
    · simp only [if_neg him]; exact c.k i hi p
  · intro i j hi hj hij p q
    by_cases him : i = m
    · have hjm : j ≠ m := fun e => hij (him.trans e.symm)
      simp only [him, if_true, if_neg hjm]
      rw [e j hj hjm] at q
      have := h.l hj q
      omega
    · simp only [if_neg him]
      rw [e i hi him] at p
      by_cases hjm : j = m
      · simp only [hjm, if_true]
        have := h.l hi p
        omega
      · simp only [if_neg hjm]; rw [e j hj hjm] at q; exact h.ne i j hi hj hij p q
theorem MI.st (h : MI W2 w L n A S g v) (m : Nat) (hm : m < n) (hAS : A + n ≤ S) (hA : L (A + m) = true) (hL : L (S + m) = false) {a b : Int} (hv : v m = (a, b)) : MI W2 ((w.setCell ⟨g m, 0, none⟩ (.int .i64 a)).setCell ⟨g m, 1, none⟩ (.int .i64 b)) (mkd L (S + m)) n A S g v := by
  have e : ∀ i, i < n → mkd L (S + m) (A + i) = L (A + i) := fun i hi => mkd_ne (by omega)
  have f : ∀ i, i < n → i ≠ m → mkd L (S + m) (S + i) = L (S + i) := fun i hi him => mkd_ne (by omega)
  have hg := h.lo m hm hA
  have z := h.z m hm hA hL
  constructor
  · exact (h.bl.setCell hg _).setCell hg _
  · intro i hi p
    rw [e i hi]
    by_cases him : i = m
    · subst him; exact hA
    · rw [f i hi him] at p; exact h.d i hi p
  · intro i hi p; rw [e i hi] at p; exact h.lo i hi p
  · intro i hi p q
    rw [e i hi] at p
    by_cases him : i = m
    · subst him; rw [mkd_same] at q; cases q
    · rw [f i hi him] at q
      have hne := h.ne i m hi hm him p hA
      exact ((h.z i hi p q).far (p := ⟨g m, 0, none⟩) hne _).far (p := ⟨g m, 1, none⟩) hne _
  · intro i hi p
    by_cases him : i = m
    · subst him; rw [hv]; exact (z.set0 a).set1 b
    · rw [f i hi him] at p
      have hne := h.ne i m hi hm him (h.d i hi p) hA
      exact ((h.k i hi p).far (p := ⟨g m, 0, none⟩) hne _).far (p := ⟨g m, 1, none⟩) hne _
  · intro i j hi hj hij p q; rw [e i hi] at p; rw [e j hj] at q; exact h.ne i j hi hj hij p q
end
theorem putQ_self (a : Act) (i : Nat) : a.put (some i) (a.tmps.getD i undef) = a := by
  cases a with
  | mk t d =>
    have : t.setIfInBounds i (t.getD i undef) = t := by
      apply Array.ext
      · simp
      · intro j h1 h2
        rw [Array.getElem_setIfInBounds]
        split
        · rename_i e
          subst e
          simp [Array.getD, h2]
        · rfl
    show Act.mk (t.setIfInBounds i (t.getD i undef)) d = _
    rw [this]
theorem wp_region_invB {P : Program} {id : Nat} {ops : Array Oper} {Q : Exit → Act → World → Prop} {a : Act} {w : World} (hm : P.follows .mixedOrders = true) (Inv : (Nat → Bool) → Act → World → Prop)
    (hwf : ∀ (i : Nat) (o : Oper), ops[i]? = some o → ∀ e ∈ o.after, Region.binds .any e = true → e.on < i)
    (h0 : Inv (fun _ => false) a w.drew)
    (hstep : ∀ (L : Nat → Bool) (i : Nat) (o : Oper) (a : Act) (w : World), ops[i]? = some o → L i = false → (∀ e ∈ o.after, Region.binds .any e = true → L e.on = true) → Inv L a w → wpList P ops (Exit.then (fun a' w' => Inv (fun j => if j = i then true else L j) a' w') Q) [o] a w)
    (hend : ∀ (L : Nat → Bool) (a : Act) (w : World), (∀ i, i < ops.size → L i = true) → Inv L a w → Q .normal a w) : (Code.region id ops true).wp P Q a w := by
  have key : ∀ (fuel : Nat) (listed : Array Bool) (L : Nat → Bool) (a : Act) (w : World), listed.size = ops.size → (∀ i, i < ops.size → listed.getD i true = L i ∧ listed.getD i false = L i) → PQ.unm (fun j => if L j = true then 1 else 0) ops.size ≤ fuel → Inv L a w → wpAny P .any ops Q fuel listed a w := by
    intro fuel
    have all : ∀ (listed : Array Bool) (L : Nat → Bool), (∀ i, i < ops.size → listed.getD i true = L i ∧ listed.getD i false = L i) → Region.ready .any ops listed = [] → ∀ n i, i < n → i < ops.size → L i = true := by
      intro listed L hL hr n
      induction n with
      | zero => intro i h; omega
      | succ n ih =>
        intro i hi his
        by_cases e : i < n
        · exact ih i e his
        · obtain rfl : i = n := by omega
          cases hl : L i with
          | true => rfl
          | false =>
            exfalso
            have : i ∈ Region.ready .any ops listed := by
              rw [mem_ready]
              refine ⟨by rw [(hL i his).1, hl], ops[i], by rw [Array.getElem?_eq_getElem his], fun e he hbd => ?_⟩
              have := hwf i _ (by rw [Array.getElem?_eq_getElem his]) e he hbd
              rw [(hL e.on (by omega)).2]
              exact ih e.on this (by omega)
            rw [hr] at this
            cases this
    induction fuel with
    | zero =>
      intro listed L a w hs hL hu hI
      have hall : ∀ i, i < ops.size → L i = true := by
        intro i hi
        cases hl : L i with
        | true => rfl
        | false =>
          exfalso
          have := PQ.unm_upd (pt := fun j => if L j = true then 1 else 0) (v := 1) hi (by simp [hl]) (by omega)
          omega
      refine ⟨?_, hend L a w hall hI⟩
      cases hr : Region.ready .any ops listed with
      | nil => rfl
      | cons i rs =>
        have hi : i ∈ Region.ready .any ops listed := by rw [hr]; exact List.mem_cons_self ..
        obtain ⟨h1, o, ho, -⟩ := mem_ready.1 hi
        have his : i < ops.size := by
          rcases Nat.lt_or_ge i ops.size with g | g
          · exact g
          · rw [Array.getElem?_eq_none g] at ho; cases ho
        rw [(hL i his).1, hall i his] at h1
        cases h1
    | succ fuel ih =>
      intro listed L a w hs hL hu hI
      refine ⟨fun hr => hend L a w (fun i hi => all listed L hL hr ops.size i hi hi) hI, fun i hi => ?_⟩
      obtain ⟨h1, o, ho, haf⟩ := mem_ready.1 hi
      have his : i < ops.size := by
        rcases Nat.lt_or_ge i ops.size with g | g
        · exact g
        · rw [Array.getElem?_eq_none g] at ho; cases ho
      rw [(hL i his).1] at h1
      have hst := hstep L i o a w ho h1 (fun e he hb => by
        have := haf e he hb
        rwa [(hL e.on (by have := hwf i o ho e he hb; omega)).2] at this) hI
      refine wpOp_mono (fun a' w' h => ?_) (wpOp_of_list ho hst)
      refine ih _ _ a' w' (by simpa using hs) (fun j hj => ?_) ?_ h
      · by_cases e : j = i
        · subst e
          simp [hs, his]
        · have := hL j hj
          have e' : ¬ i = j := fun h => e h.symm
          simp only [if_neg e]
          simp only [Array.getD_eq_getD_getElem?, Array.getElem?_setIfInBounds, if_neg e'] at this ⊢
          exact this
      · have := PQ.unm_upd (pt := fun j => if L j = true then 1 else 0) (v := 1) his (by simp [h1]) (by omega)
        have e2 : (fun j => if (if j = i then true else L j) = true then 1 else 0) = PQ.upd (fun j => if L j = true then 1 else 0) i 1 := by
          funext j
          unfold PQ.upd
          by_cases e : j = i
          · simp [e]
          · simp [e]
        rw [e2]
        omega
  refine wp_region_any hm (key ops.size _ (fun _ => false) a _ (by simp) (fun i hi => by simp [hi]) ?_ h0)
  exact Nat.le_trans (by unfold PQ.unm; exact List.length_filter_le _ _) (by simp)
theorem wp_region_inv3 {P : Program} {id : Nat} {ops : Array Oper} {Q : Exit → Act → World → Prop} {a : Act} {w : World} (hm : P.follows .mixedOrders = true) (Inv : Act → (Nat → Bool) → Act → World → Prop)
    (hwf : ∀ (i : Nat) (o : Oper), ops[i]? = some o → ∀ e ∈ o.after, Region.binds .any e = true → e.on < i)
    (h0 : Inv a (fun _ => false) a w.drew)
    (hstep : ∀ (L : Nat → Bool) (i : Nat) (o : Oper) (a1 : Act) (w : World), ops[i]? = some o → L i = false → (∀ e ∈ o.after, Region.binds .any e = true → L e.on = true) → Inv a L a1 w → wpList P ops (Exit.then (fun a' w' => Inv a (mkd L i) a' w') Q) [o] a1 w)
    (hend : ∀ (L : Nat → Bool) (a1 : Act) (w : World), (∀ i, i < ops.size → L i = true) → Inv a L a1 w → Q .normal a1 w) : (Code.region id ops true).wp P Q a w :=
  wp_region_invB hm (Inv a) hwf h0 hstep hend
/-- every operation waits for earlier ones alone, as far as it must, as a Bool -/
def waitsBind (ops : Array Oper) : Bool := (List.range ops.size).all fun i => (ops[i]?.map fun o => o.after.all fun e => !(Region.binds .any e) || decide (e.on < i)).getD true
theorem waits_bind {ops : Array Oper} (h : waitsBind ops = true) : ∀ (i : Nat) (o : Oper), ops[i]? = some o → ∀ e ∈ o.after, Region.binds .any e = true → e.on < i := by
  intro i o ho e he hb
  have his : i < ops.size := by
    rcases Nat.lt_or_ge i ops.size with g | g
    · exact g
    · rw [Array.getElem?_eq_none g] at ho; cases ho
  have h1 := (List.all_eq_true.1 h) i (List.mem_range.2 his)
  rw [ho] at h1
  simp only [Option.map_some, Option.getD_some] at h1
  have := Array.all_eq_true'.1 h1 e he
  rw [hb] at this
  simpa using this
end Go.Proofs.Ytfeianjdedgdoaa
