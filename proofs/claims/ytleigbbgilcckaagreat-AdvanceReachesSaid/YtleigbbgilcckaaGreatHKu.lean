/- Words: a region that is built in a variable, and what a step of the building leaves alone. -/
import Derived.RangeFuncBox
import Derived.Test.YtleigbbgilcckaaGreatHGd
import Derived.Test.YtleigbbgilcckaaGreatHWords
import Derived.Test.YtleigbbgilcckaaGreatHVd
set_option linter.unusedVariables false
set_option linter.unusedSimpArgs false
namespace Go.Proofs.YtleigbbgilcckaaGreat
open Go.RowKit
theorem putQ_self (a : Act) (i : Nat) : a.put (some i) (a.tmps.getD i undef) = a := by
  cases a with
  | mk t d =>
    have : t.setIfInBounds i (t.getD i undef) = t := by
      apply Array.ext
      · simp
      · intro j h1 h2
        rw [Array.getElem_setIfInBounds]
        split
        · rename_i e
          subst e
          simp [Array.getD, h2]
        · rfl
    show Act.mk (t.setIfInBounds i (t.getD i undef)) d = _
    rw [this]
theorem wp_region_invB {P : Program} {id : Nat} {ops : Array Oper} {Q : Exit → Act → World → Prop} {a : Act} {w : World} (hm : P.follows .mixedOrders = true) (Inv : (Nat → Bool) → Act → World → Prop)
    (hwf : ∀ (i : Nat) (o : Oper), ops[i]? = some o → ∀ e ∈ o.after, Region.binds .any e = true → e.on < i)
    (h0 : Inv (fun _ => false) a w.drew)
    (hstep : ∀ (L : Nat → Bool) (i : Nat) (o : Oper) (a : Act) (w : World), ops[i]? = some o → L i = false → (∀ e ∈ o.after, Region.binds .any e = true → L e.on = true) → Inv L a w → wpList P ops (Exit.then (fun a' w' => Inv (fun j => if j = i then true else L j) a' w') Q) [o] a w)
    (hend : ∀ (L : Nat → Bool) (a : Act) (w : World), (∀ i, i < ops.size → L i = true) → Inv L a w → Q .normal a w) : (Code.region id ops true).wp P Q a w := by
  have key : ∀ (fuel : Nat) (listed : Array Bool) (L : Nat → Bool) (a : Act) (w : World), listed.size = ops.size → (∀ i, i < ops.size → listed.getD i true = L i ∧ listed.getD i false = L i) → PQ.unm (fun j => if L j = true then 1 else 0) ops.size ≤ fuel → Inv L a w → wpAny P .any ops Q fuel listed a w := by
    intro fuel
    have all : ∀ (listed : Array Bool) (L : Nat → Bool), (∀ i, i < ops.size → listed.getD i true = L i ∧ listed.getD i false = L i) → Region.ready .any ops listed = [] → ∀ n i, i < n → i < ops.size → L i = true := by
      intro listed L hL hr n
      induction n with
      | zero => intro i h; omega
      | succ n ih =>
        intro i hi his
        by_cases e : i < n
        · exact ih i e his
        · obtain rfl : i = n := by omega
          cases hl : L i with
          | true => rfl
          | false =>
            exfalso
            have : i ∈ Region.ready .any ops listed := by
              rw [mem_ready]
              refine ⟨by rw [(hL i his).1, hl], ops[i], by rw [Array.getElem?_eq_getElem his], fun e he hbd => ?_⟩
              have := hwf i _ (by rw [Array.getElem?_eq_getElem his]) e he hbd
              rw [(hL e.on (by omega)).2]
              exact ih e.on this (by omega)
            rw [hr] at this
            cases this
    induction fuel with
    | zero =>
      intro listed L a w hs hL hu hI
      have hall : ∀ i, i < ops.size → L i = true := by
        intro i hi
        cases hl : L i with
        | true => rfl
        | false =>
          exfalso
          have := PQ.unm_upd (pt := fun j => if L j = true then 1 else 0) (v := 1) hi (by simp [hl]) (by omega)
          omega
      refine ⟨?_, hend L a w hall hI⟩
      cases hr : Region.ready .any ops listed with
      | nil => rfl
      | cons i rs =>
        have hi : i ∈ Region.ready .any ops listed := by rw [hr]; exact List.mem_cons_self ..
        obtain ⟨h1, o, ho, -⟩ := mem_ready.1 hi
        have his : i < ops.size := by
          rcases Nat.lt_or_ge i ops.size with g | g
          · exact g
          · rw [Array.getElem?_eq_none g] at ho; cases ho
        rw [(hL i his).1, hall i his] at h1
        cases h1
    | succ fuel ih =>
      intro listed L a w hs hL hu hI
      refine ⟨fun hr => hend L a w (fun i hi => all listed L hL hr ops.size i hi hi) hI, fun i hi => ?_⟩
      obtain ⟨h1, o, ho, haf⟩ := mem_ready.1 hi
      have his : i < ops.size := by
        rcases Nat.lt_or_ge i ops.size with g | g
        · exact g
        · rw [Array.getElem?_eq_none g] at ho; cases ho
      rw [(hL i his).1] at h1
      have hst := hstep L i o a w ho h1 (fun e he hb => by
        have := haf e he hb
        rwa [(hL e.on (by have := hwf i o ho e he hb; omega)).2] at this) hI
      refine wpOp_mono (fun a' w' h => ?_) (wpOp_of_list ho hst)
      refine ih _ _ a' w' (by simpa using hs) (fun j hj => ?_) ?_ h
      · by_cases e : j = i
        · subst e
          simp [hs, his]
        · have := hL j hj
          have e' : ¬ i = j := fun h => e h.symm
          simp only [if_neg e]
          simp only [Array.getD_eq_getD_getElem?, Array.getElem?_setIfInBounds, if_neg e'] at this ⊢
          exact this
      · have := PQ.unm_upd (pt := fun j => if L j = true then 1 else 0) (v := 1) his (by simp [h1]) (by omega)
        have e2 : (fun j => if (if j = i then true else L j) = true then 1 else 0) = PQ.upd (fun j => if L j = true then 1 else 0) i 1 := by
          funext j
          unfold PQ.upd
          by_cases e : j = i
          · simp [e]
          · simp [e]
        rw [e2]
        omega
  refine wp_region_any hm (key ops.size _ (fun _ => false) a _ (by simp) (fun i hi => by simp [hi]) ?_ h0)
  exact Nat.le_trans (by unfold PQ.unm; exact List.length_filter_le _ _) (by simp)
theorem wp_region_inv3 {P : Program} {id : Nat} {ops : Array Oper} {Q : Exit → Act → World → Prop} {a : Act} {w : World} (hm : P.follows .mixedOrders = true) (Inv : Act → (Nat → Bool) → Act → World → Prop)
    (hwf : ∀ (i : Nat) (o : Oper), ops[i]? = some o → ∀ e ∈ o.after, Region.binds .any e = true → e.on < i)
    (h0 : Inv a (fun _ => false) a w.drew)
    (hstep : ∀ (L : Nat → Bool) (i : Nat) (o : Oper) (a1 : Act) (w : World), ops[i]? = some o → L i = false → (∀ e ∈ o.after, Region.binds .any e = true → L e.on = true) → Inv a L a1 w → wpList P ops (Exit.then (fun a' w' => Inv a (mkd L i) a' w') Q) [o] a1 w)
    (hend : ∀ (L : Nat → Bool) (a1 : Act) (w : World), (∀ i, i < ops.size → L i = true) → Inv a L a1 w → Q .normal a1 w) : (Code.region id ops true).wp P Q a w :=
  wp_region_invB hm (Inv a) hwf h0 hstep hend
/-- every operation waits for earlier ones alone, as far as it must, as a Bool -/
def waitsBind (ops : Array Oper) : Bool := (List.range ops.size).all fun i => (ops[i]?.map fun o => o.after.all fun e => !(Region.binds .any e) || decide (e.on < i)).getD true
theorem waits_bind {ops : Array Oper} (h : waitsBind ops = true) : ∀ (i : Nat) (o : Oper), ops[i]? = some o → ∀ e ∈ o.after, Region.binds .any e = true → e.on < i := by
  intro i o ho e he hb
  have his : i < ops.size := by
    rcases Nat.lt_or_ge i ops.size with g | g
    · exact g
    · rw [Array.getElem?_eq_none g] at ho; cases ho
  have h1 := (List.all_eq_true.1 h) i (List.mem_range.2 his)
  rw [ho] at h1
  simp only [Option.map_some, Option.getD_some] at h1
  have := Array.all_eq_true'.1 h1 e he
  rw [hb] at this
  simpa using this
end Go.Proofs.YtleigbbgilcckaaGreat
namespace Go.Proofs.YtleigbbgilcckaaGreat
open Go.RowKit
/-- all but the variable and its old row stays as it was -/
structure XK (B : Nat) (v : Value) (W W' : World) : Prop where
  os : W'.os = W.os
  tape : W'.tape = W.tape
  output : W'.output = W.output
  size : W.heap.size ≤ W'.heap.size
  block : ∀ k, k < W.heap.size → k ≠ B → v.ownBlock ≠ some k → W'.heap[k]? = W.heap[k]?
/-- the new row is the old one, or a new block -/
def Nx (W : World) (v v' : Value) : Prop := v'.ownBlock = v.ownBlock ∨ ∀ k, v'.ownBlock = some k → W.heap.size ≤ k
theorem Nx.refl (W : World) (v : Value) : Nx W v v := .inl rfl
theorem XK.refl (B : Nat) (v : Value) (W : World) : XK B v W W := ⟨rfl, rfl, rfl, Nat.le_refl _, fun _ _ _ _ => rfl⟩
theorem Nx.trans {W W1 : World} {v v1 v2 : Value} (h : Nx W v v1) (hs : W.heap.size ≤ W1.heap.size) (k : Nx W1 v1 v2) : Nx W v v2 := by
  rcases k with k | k
  · rcases h with h | h
    · exact .inl (k.trans h)
    · exact .inr fun j hj => h j (by rw [← k]; exact hj)
  · exact .inr fun j hj => Nat.le_trans hs (k j hj)
theorem XK.trans {B : Nat} {v v1 : Value} {W W1 W2 : World} (h : XK B v W W1) (n : Nx W v v1) (k : XK B v1 W1 W2) : XK B v W W2 :=
  ⟨k.os.trans h.os, k.tape.trans h.tape, k.output.trans h.output, Nat.le_trans h.size k.size, fun j hj hB hv => by
    refine (k.block j (Nat.lt_of_lt_of_le hj h.size) hB ?_).trans (h.block j hj hB hv)
    rcases n with n | n
    · rw [n]; exact hv
    · intro e; have := n j e; omega⟩
theorem XK.of_below {B : Nat} {v : Value} {W W' : World} (h : Below W.heap.size W W') : XK B v W W' := ⟨h.os, h.tape, h.output, h.size, fun k hk _ _ => h.block k hk⟩
theorem XK.below {B n₀ : Nat} {v : Value} {W W' : World} (h : XK B v W W') (hB : n₀ ≤ B) (hv : ∀ k, v.ownBlock = some k → n₀ ≤ k) (h0 : n₀ ≤ W.heap.size) : Below n₀ W W' :=
  ⟨h.os, h.tape, h.output, h.size, fun k hk => h.block k (by omega) (by omega) (fun e => by have := hv k e; omega)⟩
theorem XK.grown {B : Nat} {v : Value} {W W1 W2 : World} (h : XK B v W W1) (hg : W1.grownBy W2 v.ownBlock) : XK B v W W2 :=
  ⟨hg.os.trans h.os, hg.tape.trans h.tape, hg.output.trans h.output, Nat.le_trans h.size hg.size, fun k hk hB hv => (hg.block k (Nat.lt_of_lt_of_le hk h.size) (fun e => hv e.symm)).trans (h.block k hk hB hv)⟩
theorem XK.set {B : Nat} {v : Value} {W W1 : World} (h : XK B v W W1) (u : Value) : XK B v W (W1.setCell ⟨B, 0, none⟩ u) :=
  ⟨h.os, h.tape, h.output, by simpa [World.setCell] using h.size, fun k hk hB hv => (Below.heap_setCell W1 _ _ k (fun e => hB (by rw [e]))).trans (h.block k hk hB hv)⟩
theorem XK.blk {B : Nat} {v : Value} {W W' : World} (h : XK B v W W') {g : Nat} {t : TypeId} {cs : Array Value} (hg : Blk W g t cs) (hB : g ≠ B) (hv : v.ownBlock ≠ some g) : Blk W' g t cs := (h.block g hg.lt hB hv).trans hg
theorem own_ltK {W : World} {base : Nat} {e : TypeId} {size n : Nat} {v : Value} {xs : List Value} (h : W.ownsRow base e size v n xs) (k : Nat) (hk : v.ownBlock = some k) : k < W.heap.size := by
  rcases h.2 with ⟨rfl, _⟩ | ⟨g, cap, cur, rfl, hg, hh, _⟩
  · simp [Value.ownBlock] at hk
  · simp [Value.ownBlock] at hk
    subst hk
    exact (Array.getElem?_eq_some_iff.1 hh).1
theorem own_xk {B : Nat} {v u : Value} {W W' : World} {base : Nat} {e : TypeId} {size n : Nat} {xs : List Value} (h : W.ownsRow base e size u n xs) (hx : XK B v W W') (hu : ∀ k, u.ownBlock = some k → k ≠ B ∧ v.ownBlock ≠ some k) : W'.ownsRow base e size u n xs := by
  refine ⟨h.1, ?_⟩
  rcases h.2 with h1 | ⟨g, cap, cur, rfl, hg, hh, hr⟩
  · exact .inl h1
  · obtain ⟨u1, u2⟩ := hu g (by simp [Value.ownBlock])
    exact .inr ⟨g, cap, cur, rfl, hg, (hx.block g (Array.getElem?_eq_some_iff.1 hh).1 u1 u2).trans hh, hr⟩
/-- the variable in block B holds a slice that owns the cells L -/
structure St (n₀ B : Nat) (W : World) (v : Value) (L : List Cl) : Prop where
  box : Boxed W B 22 v
  row : W.ownsRow n₀ 46 3 v L.length (cvs L)
theorem St.below {n₀ B : Nat} {W W' : World} {v : Value} {L : List Cl} (h : St n₀ B W v L) (hb : Below W.heap.size W W') : St n₀ B W' v L :=
  ⟨(hb.block B h.box.lt).trans h.box, own_bl h.row hb (Nat.le_refl _)⟩
/-- from a state to another one -/
def Goes (n₀ B : Nat) (v : Value) (W : World) (L : List Cl) (W' : World) : Prop := ∃ v', St n₀ B W' v' L ∧ XK B v W W' ∧ Nx W v v'
theorem Goes.after {n₀ B : Nat} {v : Value} {W W1 W2 : World} {L : List Cl} (hb : Below W.heap.size W W1) (h : Goes n₀ B v W1 L W2) : Goes n₀ B v W L W2 := by
  obtain ⟨v', st, xk, nx⟩ := h
  exact ⟨v', st, (XK.of_below hb).trans (Nx.refl _ _) xk, (Nx.refl _ _).trans hb.size nx⟩
theorem Goes.then {n₀ B : Nat} {v : Value} {W W1 W2 : World} {L M : List Cl} (h : ∃ u, St n₀ B W1 u L ∧ XK B v W W1 ∧ Nx W v u ∧ Goes n₀ B u W1 M W2) : Goes n₀ B v W M W2 := by
  obtain ⟨u, st, xk, nx, v', st', xk', nx'⟩ := h
  exact ⟨v', st', xk.trans nx xk', nx.trans xk.size nx'⟩
theorem Goes.below {n₀ B : Nat} {v : Value} {W W1 W2 : World} {L : List Cl} (h : Goes n₀ B v W L W1) (hb : Below W1.heap.size W1 W2) : Goes n₀ B v W L W2 := by
  obtain ⟨v', st, xk, nx⟩ := h
  exact ⟨v', st.below hb, xk.trans nx (XK.of_below hb), nx⟩
/-- a slice that owns a row owns its first part, too -/
theorem own_take3 {W : World} {base : Nat} {e : TypeId} {size n g cap : Nat} {xs : List Value} (h : W.ownsRow base e size (.slice (some ⟨g, 0, none⟩) n cap) n xs) (k : Nat) (hk : k ≤ n) : W.ownsRow base e size (.slice (some ⟨g, 0, none⟩) k cap) k (xs.take (k * size)) := by
  have h1 := h.1
  have hm : k * size ≤ n * size := Nat.mul_le_mul_right _ hk
  refine ⟨by rw [List.length_take]; omega, ?_⟩
  rcases h.2 with ⟨e', _⟩ | ⟨g', cap', cur, e', hg, hh, h2, h3, h4, h5⟩
  · cases e'
  · cases e'
    refine .inr ⟨g, cap, cur, rfl, hg, hh, by omega, h3, h4, ?_⟩
    rw [← h5, List.take_take, Nat.min_eq_left hm]
theorem cvs_take (L : List Cl) (k : Nat) : (cvs L).take (k * 3) = cvs (L.take k) := by
  induction L generalizing k with
  | nil => simp [cvs]
  | cons x r ih =>
    cases k with
    | zero => simp [cvs]
    | succ k =>
      have e : (k + 1) * 3 = k * 3 + 3 := by omega
      have hc : cvs (x :: r) = .int .i64 x.1 :: .int .i64 x.2.1 :: .int .i64 x.2.2 :: cvs r := rfl
      have hd : cvs ((x :: r).take (k + 1)) = .int .i64 x.1 :: .int .i64 x.2.1 :: .int .i64 x.2.2 :: cvs (r.take k) := rfl
      rw [hc, hd, e]
      simp only [List.take_succ_cons]
      rw [ih]
/-- reading the last part of a slice of cells -/
theorem Reads.drop {W : World} {B n b off : Nat} {L : List Cl} (h : Reads W B 3 (some ⟨b, off, none⟩) n (cvs L)) (k : Nat) (hk : k < n) : Reads W B 3 (some ⟨b, off + k * 3, none⟩) (n - k) (cvs (L.drop k)) := by
  have hl : L.length = n := by have := h.1; rw [cvs_length] at this; omega
  refine ⟨by rw [cvs_length, List.length_drop, hl], fun _ => ⟨_, rfl, ?_, ?_⟩⟩
  · obtain ⟨ad, e, hb, _⟩ := h.2 (by omega)
    cases e
    exact hb
  · obtain ⟨ad, e, hb, hc⟩ := h.2 (by omega)
    cases e
    intro j u hu
    have hs : (cvs L).drop (k * 3) = cvs (L.drop k) := by
      have h1 := List.take_append_drop (k * 3) (cvs L)
      rw [cvs_take] at h1
      have h2 : cvs L = cvs (L.take k) ++ cvs (L.drop k) := by rw [← cvs_append, List.take_append_drop]
      have h3 : (cvs (L.take k)).length = k * 3 := by rw [cvs_length, List.length_take]; omega
      rw [h2, ← h3, List.drop_left]
    have := hc (k * 3 + j) u (by rw [← List.getElem?_drop, hs]; exact hu)
    rw [Go.WideShapes.add_plain] at this ⊢
    rw [← Nat.add_assoc] at this
    exact this
end Go.Proofs.YtleigbbgilcckaaGreat
