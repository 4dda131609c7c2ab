/- A list of numbers that is taken from at its front and grows at its end: a slice at an offset. -/
import Derived.Deep.LoopGhost
import Derived.Deep.AppendSrc
import Derived.Test.YtienkfcliocjgaaGreatGPq
import Derived.Test.YtienkfcliocjgaaGreatGWords
import Derived.Test.YtienkfcliocjgaaGreatGHk
set_option linter.unusedVariables false
set_option linter.unusedSimpArgs false
/- Lists of lists of cells: rows of slices that are the call's own. -/
namespace Go.Proofs.YtienkfcliocjgaaGreat
open Go.RowKit
theorem step_app {P : Program} (w : World) {ops : Array Oper} {o : Oper} {a : Act} {K : Act → World → Prop} {Q : Exit → Act → World → Prop} {E : Prop} (hgd : o.guard = none) (s x : Operand) (t : TypeId)
    (ho : o.op = .call { callee := .builtin .append, args := #[s, x], argTypes := #[t, t] })
    (base : Nat) (e : TypeId) (i : TypeInfo) (z : Value) (size bytes : Nat) (ht : P.underlying t = some (.slice e)) (hi : P.info? e = some i) (hz : i.zero = some z)
    (hsize : i.size = size) (hby : i.bytes = bytes) (hzs : z.cells.size = size) (hsz : 0 < size)
    (v : Value) (n : Nat) (xs : List Value) (hs : a.eval s = v) (hown : w.ownsRow base e size v n xs)
    (B : Nat) (A : Option Addr) (m c : Nat) (news : List Value) (hx : a.eval x = .slice A m c) (hr : Reads w B size A m news) (h1 : ∀ u ∈ news, u.oneCell' = true)
    (h63 : n + m ≤ maxLen) (hbytes : (n + m) * bytes ≤ 140737488355328) (hbase : base ≤ w.heap.size)
    (h : ∀ v' w', w'.ownsRow base e size v' (n + m) (xs ++ news) → w.grownBy w' v.ownBlock → (v'.ownBlock = v.ownBlock ∨ v'.ownBlock = some w.heap.size) → K (a.put o.dst v') w') :
    if Region.wanted o (yielded ops a.tmps) = true then Oper.wp P o a w K Q else E := by
  have hw : Region.wanted o (yielded ops a.tmps) = true := by simp [Region.wanted, hgd]
  rw [if_pos hw]
  exact wp_append_any w s x t ho base e i z size bytes ht hi hz hsize hby hzs hsz v n xs hs hown B A m c news hx hr h1 h63 hbytes hbase h
def gl (LL : List (List Cl)) (k : Nat) : List Cl := LL.getD k []
theorem own_lt' {w : World} {base : Nat} {e : TypeId} {size n : Nat} {v : Value} {xs : List Value} (h : w.ownsRow base e size v n xs) {q : Nat} (hq : v.ownBlock = some q) : q < w.heap.size := by
  rcases h.2 with ⟨rfl, _⟩ | ⟨g, cap, cur, rfl, _, hh, _⟩
  · simp [Value.ownBlock] at hq
  · have : g = q := by simpa [Value.ownBlock] using hq
    subst this
    rcases Nat.lt_or_ge g w.heap.size with hlt | hge
    · exact hlt
    · rw [Array.getElem?_eq_none hge] at hh; cases hh
theorem own_grown' {w w' : World} {base : Nat} {e : TypeId} {size n : Nat} {v : Value} {xs : List Value} {row : Option Nat} (h : w.ownsRow base e size v n xs) (hg : w.grownBy w' row) (hne : ∀ q, v.ownBlock = some q → row ≠ some q) : w'.ownsRow base e size v n xs := by
  refine ⟨h.1, ?_⟩
  have hlt := @own_lt' w base e size n v xs h
  rcases h.2 with h1 | ⟨g, cap, cur, rfl, hb, hh, hr⟩
  · exact .inl h1
  · have hq : (Value.slice (some ⟨g, 0, none⟩) n cap).ownBlock = some g := by simp [Value.ownBlock]
    exact .inr ⟨g, cap, cur, rfl, hb, (hg.block g (hlt hq) (fun e => hne g hq e.symm)).trans hh, hr⟩
theorem own_own_ne {w : World} {b1 b2 : Nat} {e1 e2 : TypeId} {s1 s2 n1 n2 : Nat} {v1 v2 : Value} {x1 x2 : List Value} (h1 : w.ownsRow b1 e1 s1 v1 n1 x1) (h2 : w.ownsRow b2 e2 s2 v2 n2 x2) (hne : e1 ≠ e2) {q : Nat} (hq : v1.ownBlock = some q) : v2.ownBlock ≠ some q := by
  rcases h1.2 with ⟨rfl, _⟩ | ⟨g, cap, cur, rfl, _, hh, _⟩
  · simp [Value.ownBlock] at hq
  · have : g = q := by simpa [Value.ownBlock] using hq
    subst this
    exact own_blk_ne h2 (show Blk w g e1 cur from hh) (fun e => hne e.symm)
/-- rows of cells, in a row of the call's own, each in a block of its own -/
structure Rws (W : World) (B : Nat) (v : Value) (LL : List (List Cl)) (vs : List Value) : Prop where
  row : W.ownsRow B 22 1 v LL.length vs
  one : ∀ (k : Nat) (u : Value), vs[k]? = some u → W.ownsRow B 44 3 u (gl LL k).length (cvs (gl LL k))
  ne : ∀ (k m : Nat) (u u' : Value), k ≠ m → vs[k]? = some u → vs[m]? = some u' → ∀ q, u.ownBlock = some q → u'.ownBlock ≠ some q
section
variable {W W' : World} {B : Nat} {v : Value} {LL : List (List Cl)} {vs : List Value}
theorem Rws.len (h : Rws W B v LL vs) : vs.length = LL.length := by have := h.row.1; omega
theorem Rws.nil (W : World) (B : Nat) : Rws W B (.slice none 0 0) [] [] := ⟨own_nil _ _ _ _, fun k u h => by simp at h, fun k m u u' _ h => by simp at h⟩
theorem Rws.kept (h : Rws W B v LL vs) {row : Option Nat} (hg : W.grownBy W' row) (hr : ∀ q, row = some q → q < B) : Rws W' B v LL vs :=
  ⟨own_grown' h.row hg (fun q hq e => by have := own_base h.row q hq; have := hr q e; omega), fun k u hk => own_grown' (h.one k u hk) hg (fun q hq e => by have := own_base (h.one k u hk) q hq; have := hr q e; omega), h.ne⟩
theorem Rws.bl (h : Rws W B v LL vs) (hb : Below W.heap.size W W') : Rws W' B v LL vs :=
  ⟨own_bl h.row hb (Nat.le_refl _), fun k u hk => own_bl (h.one k u hk) hb (Nat.le_refl _), h.ne⟩
theorem Rws.alloc (h : Rws W B v LL vs) (o : Obj) : Rws (W.alloc o) B v LL vs := h.bl (bl_alloc W o)
/-- another row of the call's own, of another type, grows -/
theorem Rws.other (h : Rws W B v LL vs) {b : Nat} {e : TypeId} {s n : Nat} {u : Value} {xs : List Value} (ho : W.ownsRow b e s u n xs) (h1 : e ≠ 22) (h2 : e ≠ 44) (hg : W.grownBy W' u.ownBlock) : Rws W' B v LL vs :=
  ⟨own_grown' h.row hg (fun q hq e' => own_own_ne ho h.row h1 e' hq), fun k u' hk => own_grown' (h.one k u' hk) hg (fun q hq e' => own_own_ne ho (h.one k u' hk) h2 e' hq), h.ne⟩
theorem tne : (22 : TypeId) ≠ 44 := by decide
/-- one row more -/
theorem Rws.snoc (h : Rws W B v LL vs) {v' u : Value} {L : List Cl} (hg : W.grownBy W' v.ownBlock) (hrow : W'.ownsRow B 22 1 v' (LL.length + 1) (vs ++ [u])) (hu : W'.ownsRow B 44 3 u L.length (cvs L)) (hf : ∀ (k : Nat) (u' : Value), vs[k]? = some u' → ∀ q, u'.ownBlock = some q → u.ownBlock ≠ some q) : Rws W' B v' (LL ++ [L]) (vs ++ [u]) := by
  have hl := h.len
  have hc : ∀ k x, (vs ++ [u])[k]? = some x → (k < vs.length ∧ vs[k]? = some x) ∨ (k = vs.length ∧ x = u) := fun k x hk => by
    rw [List.getElem?_append] at hk
    split at hk
    · rename_i hlt; exact .inl ⟨hlt, hk⟩
    · rename_i hge
      have : k - vs.length = 0 := by
        rcases Nat.eq_zero_or_pos (k - vs.length) with e | e
        · exact e
        · rw [List.getElem?_eq_none (by simp; omega)] at hk; cases hk
      rw [this] at hk
      have e : u = x := by simpa using hk
      exact .inr ⟨by omega, e.symm⟩
  refine ⟨by simpa using hrow, fun k x hk => ?_, fun k m x y hne hk hm q hq => ?_⟩
  · rcases hc k x hk with ⟨hlt, hk'⟩ | ⟨rfl, rfl⟩
    · have e : gl (LL ++ [L]) k = gl LL k := by unfold gl; simp [List.getElem?_append, show k < LL.length by omega]
      rw [e]
      exact own_grown' (h.one k x hk') hg (fun q hq e' => own_own_ne h.row (h.one k x hk') tne e' hq)
    · have e : gl (LL ++ [L]) vs.length = L := by unfold gl; simp [hl]
      rw [e]; exact hu
  · rcases hc k x hk with ⟨hlt, hk'⟩ | ⟨rfl, rfl⟩ <;> rcases hc m y hm with ⟨hlt2, hm'⟩ | ⟨rfl, rfl⟩
    · exact h.ne k m x y hne hk' hm' q hq
    · exact hf k x hk' q hq
    · exact fun e => hf m y hm' q e hq
    · exact absurd rfl hne
/-- one row grows by itself -/
theorem Rws.grow (h : Rws W B v LL vs) {k g cap : Nat} {u u' : Value} {L : List Cl} (hv : v = .slice (some ⟨g, 0, none⟩) LL.length cap) (hk : vs[k]? = some u) (hg : W.grownBy W' u.ownBlock) (hu : W'.ownsRow B 44 3 u' L.length (cvs L)) (hat : u'.ownBlock = u.ownBlock ∨ u'.ownBlock = some W.heap.size) :
    Rws (W'.setCell ⟨g, k, none⟩ u') B v (LL.set k L) (vs.set k u') := by
  have hl := h.len
  have hkl : k < vs.length := by
    rcases Nat.lt_or_ge k vs.length with e | e
    · exact e
    · rw [List.getElem?_eq_none e] at hk; cases hk
  have hrow' : W'.ownsRow B 22 1 v LL.length vs := own_grown' h.row hg (fun q hq e' => own_own_ne h.row (h.one k u hk) tne hq e')
  have hblk : ∃ cs, Blk W' g 22 cs := by
    rcases hrow'.2 with ⟨e, _⟩ | ⟨g', cap', cur, e, _, hh, _⟩
    · rw [hv] at e; cases e
    · rw [hv] at e
      injection e with e1 e2 e3
      injection e1 with e1
      injection e1 with e1
      subst e1
      exact ⟨cur, hh⟩
  obtain ⟨cs, hblk⟩ := hblk
  subst hv
  refine ⟨?_, fun m x hm => ?_, fun m p x y hne hm hp q hq => ?_⟩
  · have := own_set hrow' k u' (by omega)
    simpa using this
  · by_cases e : k = m
    · subst e
      rw [List.getElem?_set_self (by omega)] at hm
      injection hm with hm
      subst hm
      have e2 : gl (LL.set k L) k = L := by unfold gl; simp [show k < LL.length by omega]
      rw [e2]
      exact ownsRow_far hu hblk (fun e => tne e.symm)
    · rw [List.getElem?_set_ne e] at hm
      have e2 : gl (LL.set k L) m = gl LL m := by unfold gl; simp [List.getElem?_set_ne e]
      rw [e2]
      exact ownsRow_far (own_grown' (h.one m x hm) hg (fun q hq e' => h.ne k m u x e hk hm q e' hq)) hblk (fun e => tne e.symm)
  · have fresh : ∀ m x, vs[m]? = some x → k ≠ m → ∀ q, u'.ownBlock = some q → x.ownBlock ≠ some q := fun m x hm e q hq => by
      rcases hat with h1 | h1
      · exact h.ne k m u x e hk hm q (h1 ▸ hq)
      · intro e'
        have := own_lt' (h.one m x hm) e'
        rw [h1] at hq
        injection hq with hq
        omega
    by_cases e : k = m
    · subst e
      rw [List.getElem?_set_self (by omega)] at hm
      injection hm with hm
      subst hm
      rw [List.getElem?_set_ne hne] at hp
      exact fresh p y hp hne q hq
    · rw [List.getElem?_set_ne e] at hm
      by_cases e2 : k = p
      · subst e2
        rw [List.getElem?_set_self (by omega)] at hp
        injection hp with hp
        subst hp
        intro e'
        exact fresh m x hm e q e' hq
      · rw [List.getElem?_set_ne e2] at hp
        exact h.ne m p x y hne hm hp q hq
end
end Go.Proofs.YtienkfcliocjgaaGreat
/- The walk of fix.Parts. -/
namespace Go.Proofs.YtienkfcliocjgaaGreat
open Go.RowKit
def gb (D : List Bx) (k : Nat) : Bx := D.getD k (0, 0, 0, 0)
theorem bvs_at (L : List Bx) (k : Nat) (hk : k < L.length) : (bvs L)[k * 4]? = some (.int .i64 (gb L k).1) ∧ (bvs L)[k * 4 + 1]? = some (.int .i64 (gb L k).2.1) ∧ (bvs L)[k * 4 + 2]? = some (.int .i64 (gb L k).2.2.1) ∧ (bvs L)[k * 4 + 3]? = some (.int .i64 (gb L k).2.2.2) := by
  induction L generalizing k with
  | nil => simp at hk
  | cons x r ih =>
    have hc : bvs (x :: r) = .int .i64 x.1 :: .int .i64 x.2.1 :: .int .i64 x.2.2.1 :: .int .i64 x.2.2.2 :: bvs r := rfl
    rw [hc]
    match k with
    | 0 => simp [gb]
    | k + 1 =>
      have := ih k (by simpa using hk)
      have e : (k + 1) * 4 = k * 4 + 4 := by omega
      rw [e]
      simpa [gb] using this
theorem BReads.elem {w : World} {B n : Nat} {A : Option Addr} {D : List Bx} (h : Reads w B 4 A n (bvs D)) {k : Nat} (hk : k < n) :
    ∃ b off, A = some ⟨b, off, none⟩ ∧ b < B ∧ w.cell? ⟨b, off + k * 4, none⟩ = some (.int .i64 (gb D k).1) ∧ w.cell? ⟨b, off + k * 4 + 1, none⟩ = some (.int .i64 (gb D k).2.1) ∧ w.cell? ⟨b, off + k * 4 + 2, none⟩ = some (.int .i64 (gb D k).2.2.1) ∧ w.cell? ⟨b, off + k * 4 + 3, none⟩ = some (.int .i64 (gb D k).2.2.2) := by
  have hl : D.length = n := by have := h.1; rw [bvs_length] at this; omega
  obtain ⟨ad, rfl, hb, hc⟩ := h.2 (by omega)
  obtain ⟨b, off, spot⟩ := ad
  obtain ⟨z1, _⟩ := bvs_at D 0 (by omega)
  have hspot : spot = none := by simpa [Addr.add] using World.cell?_spot (hc 0 _ (by simpa using z1))
  subst hspot
  obtain ⟨y1, y2, y3, y4⟩ := bvs_at D k (by omega)
  refine ⟨b, off, rfl, hb, ?_, ?_, ?_, ?_⟩
  · have := hc _ _ y1; rw [Go.WideShapes.add_plain] at this; exact this
  · have := hc _ _ y2; rw [Go.WideShapes.add_plain] at this; exact this
  · have := hc _ _ y3; rw [Go.WideShapes.add_plain] at this; exact this
  · have := hc _ _ y4; rw [Go.WideShapes.add_plain] at this; exact this
theorem Reads.elem1 {w : World} {B n : Nat} {A : Option Addr} {xs : List Value} (h : Reads w B 1 A n xs) {k : Nat} {u : Value} (hk : xs[k]? = some u) :
    ∃ b off, A = some ⟨b, off, none⟩ ∧ b < B ∧ w.cell? ⟨b, off + k, none⟩ = some u := by
  have hl : k < xs.length := by
    rcases Nat.lt_or_ge k xs.length with e | e
    · exact e
    · rw [List.getElem?_eq_none e] at hk; cases hk
  have hn : 0 < n := by have := h.1; omega
  obtain ⟨ad, rfl, hb, hc⟩ := h.2 hn
  obtain ⟨b, off, spot⟩ := ad
  have z1 : xs[0]? = some xs[0] := List.getElem?_eq_getElem (by omega)
  have hspot : spot = none := by simpa [Addr.add] using World.cell?_spot (hc 0 _ z1)
  subst hspot
  refine ⟨b, off, rfl, hb, ?_⟩
  have := hc _ _ hk; rw [Go.WideShapes.add_plain] at this; exact this
/-- boxes of cells that are valid are valid places -/
theorem vp_bx (x : Cl) (hv : Vl x) : VP (bxI x) := by
  obtain ⟨h1, h2, h3, h4, h5, h6, h7, h8⟩ := box_nums hv
  refine ⟨?_, ?_, ?_, .inr ⟨?_, ?_, ?_, ?_⟩⟩ <;> (simp only [bxI]; omega)
/-- whether two cells of a list touch -/
def tL (L : List Cl) : Nat → Nat → Bool := fun i k => tchB (bxI (gt L i)) (bxI (gt L k))
/-- what fix.Parts returns -/
def partsI (L : List Cl) (i : Nat) : List (List Cl) := (PQ.prtI (PQ.cl (tL L) L.length) i).map fun P => P.map (gt L)
def partsL (L : List Cl) : List (List Cl) := partsI L L.length
def RetRws (w : World) (LL : List (List Cl)) (n : Int) (e : Ending) (w' : World) : Prop :=
  ∃ v vs, e = .returned (.tuple #[v, .int .i64 n]) ∧ Rws w' w.heap.size v LL vs ∧ Below w.heap.size w w'
theorem RootAt.congr {W : World} {q g n : Nat} {f f' : Nat → Nat} (h : RootAt W q g n f) (he : ∀ j, j < n → f j = f' j) : RootAt W q g n f' :=
  ⟨h.box, fun j hj => by rw [← he j hj]; exact h.cell j hj, h.fr, h.ne, h.lt, h.ltq⟩
theorem RootAt.made (w : World) (n : Nat) (t t' : TypeId) : RootAt ((w.alloc (.cells (madeCells #[.int .i64 0] n) t)).alloc (.cells #[.slice (some ⟨w.heap.size, 0, none⟩) n n] t')) (w.heap.size + 1) w.heap.size n (fun _ => 0) := by
  have hb : ∀ j, j < n → (w.alloc (.cells (madeCells #[.int .i64 0] n) t)).cell? ⟨w.heap.size, j, none⟩ = some (.int .i64 0) := fun j hj => by
    have h := Blk.cell (Blk.new w t (madeCells #[.int .i64 0] n)) j
    rw [h]
    simp [madeCells, hj, Nat.mod_one]
  refine ⟨by simp, fun j hj => ?_, fun j hj => ?_, by omega, by simp; omega, by simp⟩
  · rw [World.cell?_alloc_lt _ _ _ (by simp)]; exact hb j hj
  · exact Blk.frozen ((Blk.new w t (madeCells #[.int .i64 0] n)).alloc _) j
theorem upd_lt (j k : Nat) : PQ.upd (fun j => if j < k then j else 0) k k j = if j < k + 1 then j else 0 := by
  unfold PQ.upd
  by_cases e : j = k
  · subst e; rw [if_pos rfl, if_pos (by omega)]
  · rw [if_neg e]
    show (if j < k then j else 0) = _
    by_cases h : j < k
    · rw [if_pos h, if_pos (by omega)]
    · rw [if_neg h, if_neg (by omega)]
theorem mrg_same {c : Nat → Nat} {i k : Nat} (h : c i = c k) : PQ.mrg c i k = c := by
  funext j; unfold PQ.mrg; split <;> omega
def ivs (D : List Nat) : List Value := D.map fun (r : Nat) => Value.int .i64 (r : Int)
theorem ivs_at {D : List Nat} {k r : Nat} (h : D[k]? = some r) : (ivs D)[k]? = some (.int .i64 (r : Int)) := by unfold ivs; rw [List.getElem?_map, h]; rfl
theorem reads1_new (w : World) (u : Value) (t : TypeId) : Reads (w.alloc (.cells #[u] t)) (w.heap.size + 1) 1 (some ⟨w.heap.size, 0, none⟩) 1 [u] := by
  refine ⟨rfl, fun _ => ⟨_, rfl, by simp, fun j x hx => ?_⟩⟩
  match j, hx with
  | 0, hx => simp at hx; subst hx; simp [Addr.add]
  | j + 1, hx => simp at hx
theorem own_some {w : World} {base : Nat} {e : TypeId} {size n : Nat} {v : Value} {xs : List Value} (h : w.ownsRow base e size v n xs) (hn : 0 < n) : ∃ g cap, v = .slice (some ⟨g, 0, none⟩) n cap ∧ base ≤ g ∧ g < w.heap.size := by
  rcases h.2 with ⟨_, h0⟩ | ⟨g, cap, cur, rfl, hb, hh, _⟩
  · omega
  · exact ⟨g, cap, rfl, hb, Blk.lt (show Blk w g e cur from hh)⟩
/-- what stands between two steps of the gathering -/
structure PSt (w1 W : World) (i : Nat) (C f : Nat → Nat) (v13 v14 : Value) (LL : List (List Cl)) (vs : List Value) (D : List Nat) : Prop where
  r : RootAt W (w1.heap.size + 1) w1.heap.size i f
  t : Rt C f i
  o : Rws W (w1.heap.size + 2) v13 LL vs
  s : W.ownsRow (w1.heap.size + 2) 3 1 v14 D.length (ivs D)
  b : Below w1.heap.size w1 W
section
variable {w1 W W' : World} {i : Nat} {C f f' : Nat → Nat} {v13 v14 : Value} {LL : List (List Cl)} {vs : List Value} {D : List Nat}
theorem Rws.mono {B B' : Nat} {v : Value} (h : Rws W B v LL vs) (hb : B' ≤ B) : Rws W B' v LL vs := ⟨own_mono h.row hb, fun k u hk => own_mono (h.one k u hk) hb, h.ne⟩
theorem PSt.find (h : PSt w1 W i C f v13 v14 LL vs D) (hr : RootAt W' (w1.heap.size + 1) w1.heap.size i f') (ht : Rt C f' i) (hg : W.grownBy W' (some w1.heap.size)) : PSt w1 W' i C f' v13 v14 LL vs D :=
  ⟨hr, ht, h.o.kept hg (fun q e => by cases e; omega), own_grown' h.s hg (fun q hq e => by have := own_base h.s q hq; cases e; omega), h.b.grown hg h.b.size (fun q e => by cases e; exact Nat.le_refl _)⟩
theorem PSt.bl (h : PSt w1 W i C f v13 v14 LL vs D) (hb : Below W.heap.size W W') : PSt w1 W' i C f v13 v14 LL vs D :=
  ⟨h.r.below hb h.r.lt h.r.ltq, h.t, h.o.bl hb, own_bl h.s hb (Nat.le_refl _), h.b.trans (hb.mono h.b.size)⟩
theorem PSt.alloc (h : PSt w1 W i C f v13 v14 LL vs D) (o : Obj) : PSt w1 (W.alloc o) i C f v13 v14 LL vs D := h.bl (bl_alloc W o)
theorem PSt.drew (h : PSt w1 W i C f v13 v14 LL vs D) : PSt w1 W.drew i C f v13 v14 LL vs D := h.bl (bl_drew (Below.refl _ _))
end
theorem own_Blk {w : World} {base g n cap : Nat} {e : TypeId} {size : Nat} {xs : List Value} (h : w.ownsRow base e size (.slice (some ⟨g, 0, none⟩) n cap) n xs) : ∃ cs, Blk w g e cs := by
  rcases h.2 with ⟨e1, _⟩ | ⟨g', cap', cur, e1, _, hh, _⟩
  · cases e1
  · injection e1 with e1 e2 e3
    injection e1 with e1
    injection e1 with e1
    subst e1
    exact ⟨cur, hh⟩
theorem ldr_pos {C : Nat → Nat} (hC : PQ.IsC C) {p k : Nat} (hk : (PQ.ldr C p)[k]? = some (C p)) (hlt : C p < p) : k = PQ.rnk C (C p) := by
  have h5 := PQ.ldr_get C p (C p) hlt (hC.idem p)
  have l1 : k < (PQ.ldr C p).length := by
    rcases Nat.lt_or_ge k (PQ.ldr C p).length with e | e
    · exact e
    · rw [List.getElem?_eq_none e] at hk; cases hk
  have nd : (PQ.ldr C p).Nodup := List.nodup_range.filter _
  exact (List.getElem?_inj l1 nd).1 (hk.trans h5.symm)
theorem ldr_in {C : Nat → Nat} {p k r : Nat} (hk : (PQ.ldr C p)[k]? = some r) : r < p := (PQ.ldr_lt (List.mem_of_getElem? hk)).1
/-- none of the leaders so far is the one that is sought: it is itself one -/
theorem ldr_none {C : Nat → Nat} (hC : PQ.IsC C) {p : Nat} (h : ∀ k r, k < PQ.rnk C p → (PQ.ldr C p)[k]? = some r → r ≠ C p) : C p = p := by
  rcases Nat.lt_or_ge (C p) p with e | e
  · have h5 := PQ.ldr_get C p (C p) e (hC.idem p)
    exact absurd rfl (h _ _ (PQ.rnk_lt C e (hC.idem p)) h5)
  · have := hC.le p; omega
theorem tL_sym (L : List Cl) (n : Nat) : ∀ x y, x < n → y < n → tL L x y = tL L y x := fun x y _ _ => tchB_comm _ _
end Go.Proofs.YtienkfcliocjgaaGreat
namespace Go.Proofs.YtienkfcliocjgaaGreat
open Go.RowKit
structure Que (W : World) (B : Nat) (A : Option Addr) (n c : Nat) (T : List Nat) : Prop where
  len : T.length = n
  le : n ≤ c
  max : c ≤ maxLen
  spot : 0 < c → ∃ g d, A = some ⟨g, d, none⟩ ∧ B ≤ g ∧ g < W.heap.size ∧ (∀ j, j < c → (W.cell? ⟨g, d + j, none⟩).isSome = true) ∧ (∀ j, j < c → W.frozen? ⟨g, d + j, none⟩ = false) ∧ ∀ (j x : Nat), T[j]? = some x → W.cell? ⟨g, d + j, none⟩ = some (.int .i64 (x : Int))
section
variable {W W' : World} {B : Nat} {A : Option Addr} {n c : Nat} {T : List Nat}
theorem Que.bl (h : Que W B A n c T) (hb : Below W.heap.size W W') : Que W' B A n c T := by
  refine ⟨h.len, h.le, h.max, fun hc => ?_⟩
  obtain ⟨g, d, e, hg, hlt, h1, h2, h3⟩ := h.spot hc
  exact ⟨g, d, e, hg, Nat.lt_of_lt_of_le hlt hb.size, fun j hj => by rw [hb.cell (p := ⟨g, d + j, none⟩) hlt]; exact h1 j hj, fun j hj => (hb.frozen (p := ⟨g, d + j, none⟩) hlt).trans (h2 j hj), fun j x hx => (hb.cell (p := ⟨g, d + j, none⟩) hlt).trans (h3 j x hx)⟩
theorem Que.set (h : Que W B A n c T) {q o : Nat} (hq : q < B) (u : Value) : Que (W.setCell ⟨q, o, none⟩ u) B A n c T := by
  refine ⟨h.len, h.le, h.max, fun hc => ?_⟩
  obtain ⟨g, d, e, hg, hlt, h1, h2, h3⟩ := h.spot hc
  have hne : ∀ j, W.cell? ⟨g, d + j, none⟩ = (W.setCell ⟨q, o, none⟩ u).cell? ⟨g, d + j, none⟩ := fun j => (World.cell?_setCell_other _ _ _ _ (fun e => by injection e with e1; omega)).symm
  exact ⟨g, d, e, hg, by simpa using hlt, fun j hj => by rw [← hne]; exact h1 j hj, fun j hj => by rw [World.frozen?_setCell]; exact h2 j hj, fun j x hx => by rw [← hne]; exact h3 j x hx⟩
theorem Que.head {k : Nat} (h : Que W B A n c (k :: T)) : ∃ g d, A = some ⟨g, d, none⟩ ∧ g < W.heap.size ∧ W.cell? ⟨g, d, none⟩ = some (.int .i64 (k : Int)) := by
  have hl := h.len
  have := h.le
  simp only [List.length_cons] at hl
  obtain ⟨g, d, e, hg, hlt, h1, h2, h3⟩ := h.spot (by omega)
  exact ⟨g, d, e, hlt, by simpa using h3 0 k rfl⟩
theorem Que.tail {g d k : Nat} (h : Que W B (some ⟨g, d, none⟩) n c (k :: T)) {A' : Option Addr} (hA : c ≠ 1 → A' = some ⟨g, d + 1, none⟩) : Que W B A' (n - 1) (c - 1) T := by
  have hl := h.len
  have hle := h.le
  have hmx := h.max
  simp only [List.length_cons] at hl
  refine ⟨by omega, by omega, by omega, fun hc => ?_⟩
  obtain ⟨g', d', e, hg, hlt, h1, h2, h3⟩ := h.spot (by omega)
  injection e with e
  injection e with e1 e2
  subst e1 e2
  refine ⟨g, d + 1, hA (by omega), hg, hlt, fun j hj => ?_, fun j hj => ?_, fun j x hx => ?_⟩
  · have := h1 (j + 1) (by omega); rwa [show d + (j + 1) = d + 1 + j by omega] at this
  · have := h2 (j + 1) (by omega); rwa [show d + (j + 1) = d + 1 + j by omega] at this
  · have := h3 (j + 1) x (by simpa using hx); rwa [show d + (j + 1) = d + 1 + j by omega] at this
theorem Que.mono {B' : Nat} (h : Que W B A n c T) (hb : B' ≤ B) : Que W B' A n c T := ⟨h.len, h.le, h.max, fun hc => by
  obtain ⟨g, d, e, hg, r⟩ := h.spot hc
  exact ⟨g, d, e, by omega, r⟩⟩
theorem Que.one {g k : Nat} (hB : B ≤ g) (hg : g < W.heap.size) (h : W.cell? ⟨g, 0, none⟩ = some (.int .i64 (k : Int))) (hf : W.frozen? ⟨g, 0, none⟩ = false) : Que W B (some ⟨g, 0, none⟩) 1 1 [k] := by
  refine ⟨rfl, Nat.le_refl _, by simp [maxLen], fun _ => ⟨g, 0, rfl, hB, hg, fun j hj => ?_, fun j hj => ?_, fun j x hx => ?_⟩⟩
  · obtain rfl : j = 0 := by omega
    rw [h]; rfl
  · obtain rfl : j = 0 := by omega
    exact hf
  · match j, hx with
    | 0, hx => simp at hx; subst hx; exact h
    | j + 1, hx => simp at hx
end
theorem ivs_get (T : List Nat) (j : Nat) (u : Value) (h : (ivs T)[j]? = some u) : ∃ x, T[j]? = some x ∧ u = .int .i64 (x : Int) := by
  unfold ivs at h
  rw [List.getElem?_map] at h
  cases e : T[j]? with
  | none => rw [e] at h; cases h
  | some x => rw [e] at h; exact ⟨x, rfl, by simpa using h.symm⟩
section
variable {P : Program}
theorem run_que (W : World) (t ty e : TypeId) (i : TypeInfo) (ht : P.underlying t = some (.slice e)) (hi : P.info? e = some i) (hz : i.zero = some (.int .i64 0)) (hsize : i.size = 1) (hby : i.bytes = 8)
    {B n c : Nat} {A : Option Addr} {T : List Nat} (h : Que W B A n c T) (s x c' : Nat) (hx : W.cell? ⟨s, 0, none⟩ = some (.int .i64 (x : Int))) (hB : B ≤ W.heap.size) (hn : n ≤ 100000) :
    ∃ A' c2 W', (Builtin.append_ #[t, t] ty #[.slice A n c, .slice (some ⟨s, 0, none⟩) 1 c']).run P W = .ok (.slice A' (n + 1) c2) W' ∧ Que W' B A' (n + 1) c2 (T ++ [x]) ∧ Below B W W' := by
  have hl := h.len
  have hle := h.le
  have hmx := h.max
  have hs : Src P i.size t (.slice (some ⟨s, 0, none⟩) 1 c') 1 [.int .i64 (x : Int)] W := Src.ofSlice W ht _ 1 c' _ (by simp [hsize]) (fun j u hu => by
    match j, hu with
    | 0, hu => simp at hu; subst hu; simpa [Addr.add] using hx
    | j + 1, hu => simp at hu) (by simp [Value.oneCell'])
  by_cases hroom : n + 1 ≤ c
  · obtain ⟨g, d, rfl, hg, hlt, hc, hf, hT⟩ := h.spot (by omega)
    have hr := run_append_room_src (P := P) W t t ty e i ht hi g d n c _ 1 _ hs hroom (fun j hj => by
      simp only [List.length_cons, List.length_nil] at hj
      obtain rfl : j = 0 := by omega
      rw [hsize]; simpa using hc n (by omega)) (fun j hj => by
      simp only [List.length_cons, List.length_nil] at hj
      obtain rfl : j = 0 := by omega
      rw [hsize, Nat.mul_one, Nat.add_zero]; exact hf n (by omega))
    rw [hsize, Nat.mul_one] at hr
    obtain ⟨u0, hu0⟩ := Option.isSome_iff_exists.1 (hc n (by omega))
    have hsame : (W.setCell ⟨g, d + n, none⟩ (.int .i64 (x : Int))).cell? ⟨g, d + n, none⟩ = some (.int .i64 (x : Int)) := World.cell?_setCell_same _ _ _ hu0
    have hother : ∀ j, j ≠ n → (W.setCell ⟨g, d + n, none⟩ (.int .i64 (x : Int))).cell? ⟨g, d + j, none⟩ = W.cell? ⟨g, d + j, none⟩ := fun j hj => World.cell?_setCell_other _ _ _ _ (fun e => by injection e with _ e2; omega)
    refine ⟨_, _, _, hr, ⟨by simp [hl], hroom, hmx, fun _ => ⟨g, d, rfl, hg, by simpa [World.setCells] using hlt, fun j hj => ?_, fun j hj => by show (W.setCell _ _).frozen? _ = false; rw [World.frozen?_setCell]; exact hf j hj, fun j y hy => ?_⟩⟩, (Below.refl _ _).setCell hg _⟩
    · show ((W.setCell ⟨g, d + n, none⟩ (.int .i64 (x : Int))).cell? ⟨g, d + j, none⟩).isSome = true
      by_cases e : j = n
      · subst e; rw [hsame]; rfl
      · rw [hother j e]; exact hc j hj
    · show (W.setCell ⟨g, d + n, none⟩ (.int .i64 (x : Int))).cell? ⟨g, d + j, none⟩ = _
      by_cases e : j = n
      · subst e
        rw [List.getElem?_append_right (by omega), hl] at hy
        simp at hy
        subst hy; exact hsame
      · rw [hother j e]
        refine hT j y ?_
        by_cases g : j < T.length
        · rwa [List.getElem?_append_left g] at hy
        · rw [List.getElem?_append_right (by omega), List.getElem?_eq_none (by simp; omega)] at hy; cases hy
  · have hold : (Builtin.firstCells i.size n (.slice A n c)).run P W.drew = .ok (ivs T).toArray W.drew := by
      rcases Nat.eq_zero_or_pos n with h0 | h0
      · subst h0
        obtain rfl : T = [] := List.eq_nil_of_length_eq_zero hl
        rcases A with _ | ad
        · exact run_firstCells_none W.drew i.size 0 0 c
        · exact run_firstCells_some W.drew i.size 0 ad 0 c [] (by simp) (fun j u hu => by simp at hu)
      · obtain ⟨g, d, rfl, hg, hlt, hc, hf, hT⟩ := h.spot (by omega)
        refine run_firstCells_some W.drew i.size n _ n c (ivs T) (by simp [ivs, hl, hsize]) (fun j u hu => ?_)
        obtain ⟨y, hy, rfl⟩ := ivs_get T j u hu
        rw [Go.WideShapes.add_plain]
        simpa using hT j y hy
    have hr := run_append_grow_src (P := P) W t t ty e i (.int .i64 0) ht hi hz A n c (ivs T) hold _ 1 _ hs (by omega) (by omega) (growslice_fits (by omega) (by rw [hby]; omega))
    have hge := grownCap_ge W (n + 1) c e
    have hcm : grownCap W (n + 1) c e ≤ maxLen := grownCap_le_maxLen W (n + 1) c e (by simp only [maxLen]; omega)
    have hb := Blk.new W.drew e ((ivs T ++ [Value.int .i64 (x : Int)]).toArray ++ Builtin.zeroCells (Value.int .i64 0).cells (grownCap W (n + 1) c e - (n + 1)))
    have hsz : ((ivs T ++ [Value.int .i64 (x : Int)]).toArray ++ Builtin.zeroCells (Value.int .i64 0).cells (grownCap W (n + 1) c e - (n + 1))).size = grownCap W (n + 1) c e := by
      simp only [Array.size_append, List.size_toArray, List.length_append, size_zeroCells]
      simp [ivs, hl, Value.cells]
      omega
    refine ⟨_, _, _, hr, ⟨by simp [hl], hge, hcm, fun _ => ⟨_, 0, rfl, hB, by simp, fun j hj => ?_, fun j hj => ?_, fun j y hy => ?_⟩⟩, (bl_drew (Below.refl _ _)).alloc (by simpa using hB) _⟩
    · rw [Nat.zero_add]
      have := Blk.cell hb j
      simp only [World.size_drew] at this
      rw [this, Array.getElem?_eq_getElem (by omega)]; rfl
    · rw [Nat.zero_add]
      exact Blk.frozen hb j
    · rw [Nat.zero_add]
      have := Blk.cell hb j
      simp only [World.size_drew] at this
      rw [this]
      have hjl : j < (T ++ [x]).length := by
        rcases Nat.lt_or_ge j (T ++ [x]).length with q | q
        · exact q
        · rw [List.getElem?_eq_none q] at hy; cases hy
      have hjl2 : j < n + 1 := by simpa [hl] using hjl
      rw [Array.getElem?_append_left (by simp [ivs, hl]; omega)]
      simp only [List.getElem?_toArray]
      have e2 : ivs T ++ [Value.int .i64 (x : Int)] = ivs (T ++ [x]) := by simp [ivs]
      rw [e2]
      exact ivs_at hy
theorem wp_que {o : Oper} {a : Act} {K : Act → World → Prop} {Q : Exit → Act → World → Prop} (W : World) (s x : Operand) (t : TypeId)
    (ho : o.op = .call { callee := .builtin .append, args := #[s, x], argTypes := #[t, t] })
    (e : TypeId) (i : TypeInfo) (ht : P.underlying t = some (.slice e)) (hi : P.info? e = some i) (hz : i.zero = some (.int .i64 0)) (hsize : i.size = 1) (hby : i.bytes = 8)
    {B n c : Nat} {A : Option Addr} {T : List Nat} (h : Que W B A n c T) (b y c' : Nat) (hs : a.eval s = .slice A n c) (hx : a.eval x = .slice (some ⟨b, 0, none⟩) 1 c') (hy : W.cell? ⟨b, 0, none⟩ = some (.int .i64 (y : Int))) (hB : B ≤ W.heap.size) (hn : n ≤ 100000)
    (hk : ∀ A' c2 W', Que W' B A' (n + 1) c2 (T ++ [y]) → Below B W W' → K (a.put o.dst (.slice A' (n + 1) c2)) W') : o.wp P a W K Q := by
  obtain ⟨A', c2, W', hrun, h2, h3⟩ := run_que (P := P) W t o.type e i ht hi hz hsize hby h b y c' hy hB hn
  unfold Oper.wp execOp
  simp only [ho, resolve, invoke, builtin, Sem.run_bind, Sem.run_pure, Result.andThen_ok, List.map_toArray, List.map_cons, List.map_nil, hs, hx, hrun]
  exact hk A' c2 W' h2 h3
theorem wpList_que {ops : Array Oper} {rest : List Oper} {o : Oper} {a : Act} {Q : Exit → Act → World → Prop} (W : World) (hgd : o.guard = none) (s x : Operand) (t : TypeId)
    (ho : o.op = .call { callee := .builtin .append, args := #[s, x], argTypes := #[t, t] })
    (e : TypeId) (i : TypeInfo) (ht : P.underlying t = some (.slice e)) (hi : P.info? e = some i) (hz : i.zero = some (.int .i64 0)) (hsize : i.size = 1) (hby : i.bytes = 8)
    {B n c : Nat} {A : Option Addr} {T : List Nat} (h : Que W B A n c T) (b y c' : Nat) (hs : a.eval s = .slice A n c) (hx : a.eval x = .slice (some ⟨b, 0, none⟩) 1 c') (hy : W.cell? ⟨b, 0, none⟩ = some (.int .i64 (y : Int))) (hB : B ≤ W.heap.size) (hn : n ≤ 100000)
    (hk : ∀ A' c2 W', Que W' B A' (n + 1) c2 (T ++ [y]) → Below B W W' → wpList P ops Q rest (a.put o.dst (.slice A' (n + 1) c2)) W') : wpList P ops Q (o :: rest) a W :=
  wpList_plain hgd fun _ hK => wp_que W s x t ho e i ht hi hz hsize hby h b y c' hs hx hy hB hn fun A' c2 W' h2 h3 => hK _ _ (hk A' c2 W' h2 h3)
end
end Go.Proofs.YtienkfcliocjgaaGreat
