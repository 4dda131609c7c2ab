/- Lists of lists of cells: rows of slices that are the call's own. -/
import Derived.Test.YtopfnffabaiceaaGBase
import Derived.Test.YtopfnffabaiceaaGPq
import Derived.Test.YtopfnffabaiceaaGWords
set_option linter.unusedVariables false
set_option linter.unusedSimpArgs false
/- The walk of the closure find of fix.Parts: the least member of a part. -/
namespace Go.Proofs.Ytopfnffabaiceaa
open Go.RowKit
/-- a row of integers that stands in one block, and the variable that holds it -/
structure RootAt (W : World) (q g n : Nat) (f : Nat → Nat) : Prop where
  box : W.cell? ⟨q, 0, none⟩ = some (.slice (some ⟨g, 0, none⟩) n n)
  cell : ∀ j, j < n → W.cell? ⟨g, j, none⟩ = some (.int .i64 (f j))
  fr : ∀ j, j < n → W.frozen? ⟨g, j, none⟩ = false
  ne : g ≠ q
  lt : g < W.heap.size
  ltq : q < W.heap.size
theorem RootAt.set {W : World} {q g n : Nat} {f : Nat → Nat} (h : RootAt W q g n f) (j v : Nat) (hj : j < n) : RootAt (W.setCell ⟨g, j, none⟩ (.int .i64 v)) q g n (PQ.upd f j v) := by
  refine ⟨?_, fun k hk => ?_, fun k hk => by simpa using h.fr k hk, h.ne, by simpa using h.lt, by simpa using h.ltq⟩
  · rw [World.cell?_setCell_other _ _ _ _ (fun e => h.ne (by injection e))]
    exact h.box
  · unfold PQ.upd
    by_cases e : k = j
    · subst e
      rw [if_pos rfl]
      exact World.cell?_setCell_same _ _ _ (h.cell k hk)
    · rw [if_neg e, World.cell?_setCell_other _ _ _ _ (fun e' => e (by injection e' with _ e2; exact e2.symm))]
      exact h.cell k hk
theorem RootAt.below {W W' : World} {B q g n : Nat} {f : Nat → Nat} (h : RootAt W q g n f) (hb : Below B W W') (hg : g < B) (hq : q < B) : RootAt W' q g n f :=
  ⟨(hb.cell (p := ⟨q, 0, none⟩) hq).trans h.box, fun j hj => (hb.cell (p := ⟨g, j, none⟩) hg).trans (h.cell j hj), fun j hj => (hb.frozen (p := ⟨g, j, none⟩) hg).trans (h.fr j hj), h.ne, Nat.lt_of_lt_of_le h.lt hb.size, Nat.lt_of_lt_of_le h.ltq hb.size⟩
theorem RootAt.drew {W : World} {q g n : Nat} {f : Nat → Nat} (h : RootAt W q g n f) : RootAt W.drew q g n f := ⟨h.box, h.cell, h.fr, h.ne, h.lt, h.ltq⟩
/-- what the row of roots says of the least members -/
structure Rt (c f : Nat → Nat) (n : Nat) : Prop where
  le : ∀ j, j < n → f j ≤ j
  up : ∀ j, j < n → c (f j) = c j
  fix : ∀ j, j < n → f j = j → c j = j
theorem Rt.halve {c f : Nat → Nat} {n j : Nat} (h : Rt c f n) (hj : j < n) (hne : f j ≠ j) : Rt c (PQ.upd f j (f (f j))) n ∧ f (f j) < j ∧ c (f (f j)) = c j := by
  have h1 := h.le j hj
  have h2 := h.le (f j) (by omega)
  have h3 : c (f (f j)) = c j := by rw [h.up (f j) (by omega), h.up j hj]
  refine ⟨⟨fun k hk => ?_, fun k hk => ?_, fun k hk => ?_⟩, by omega, h3⟩
  · unfold PQ.upd; split
    · omega
    · exact h.le k hk
  · unfold PQ.upd; split
    · rename_i e; rw [e]; exact h3
    · exact h.up k hk
  · unfold PQ.upd; split
    · intro e; omega
    · exact h.fix k hk
theorem Rt.merge {c f : Nat → Nat} {n i k : Nat} (h : Rt c f n) (hc : PQ.IsC c) (hne : c i ≠ c k) : Rt (PQ.mrg c i k) (PQ.upd f (max (c i) (c k)) (min (c i) (c k))) n := by
  have ii := hc.idem i
  have kk := hc.idem k
  have cmin : c (min (c i) (c k)) = min (c i) (c k) := by
    rcases Nat.le_total (c i) (c k) with g | g
    · rw [Nat.min_eq_left g, ii]
    · rw [Nat.min_eq_right g, kk]
  have cmax : c (max (c i) (c k)) = max (c i) (c k) := by
    rcases Nat.le_total (c i) (c k) with g | g
    · rw [Nat.max_eq_right g, kk]
    · rw [Nat.max_eq_left g, ii]
  refine ⟨fun j hj => ?_, fun j hj => ?_, fun j hj => ?_⟩
  · unfold PQ.upd; split
    · omega
    · exact h.le j hj
  · unfold PQ.upd; split
    · rename_i e
      subst e
      unfold PQ.mrg
      rw [cmin, cmax, if_neg (by omega), if_pos rfl]
    · unfold PQ.mrg
      rw [h.up j hj]
  · unfold PQ.upd; split
    · intro e; omega
    · rename_i e
      intro e2
      have := h.fix j hj e2
      unfold PQ.mrg
      rw [this, if_neg e]
theorem grown_set (w : World) (g j : Nat) (v : Value) : w.grownBy (w.setCell ⟨g, j, none⟩ v) (some g) :=
  ⟨rfl, rfl, rfl, by simp, fun k _ hk => Below.heap_setCell _ _ _ k (fun e => hk (by rw [e]))⟩
theorem grown_drew {w w1 : World} {r : Option Nat} (h : w.grownBy w1 r) : w.grownBy w1.drew r := ⟨h.os, h.tape, h.output, h.size, h.block⟩
theorem grown_trans {w w1 w2 : World} {r : Option Nat} (h1 : w.grownBy w1 r) (h2 : w1.grownBy w2 r) : w.grownBy w2 r :=
  ⟨h2.os.trans h1.os, h2.tape.trans h1.tape, h2.output.trans h1.output, Nat.le_trans h1.size h2.size, fun k hk hr => (h2.block k (Nat.lt_of_lt_of_le hk h1.size) hr).trans (h1.block k hk hr)⟩
set_option maxHeartbeats 1000000 in
theorem find_any (c : Nat → Nat) (n q g i : Nat) (f : Nat → Nat) (w : World) (hi : i < n) (h : RootAt w q g n f) (hr : Rt c f n) :
    Calls Try.prog 24 #[.int .i64 i, .pointer (some ⟨q, 0, none⟩)] w fun e w' => e = .returned (.int .i64 (c i)) ∧ ∃ f', RootAt w' q g n f' ∧ Rt c f' n ∧ w.grownBy w' (some g) := by
  have HR := Lib.hid h
  have HT := Lib.hid hr
  clear h hr
  go_enter Try.func24, Try.ntmps24
  go_wp2
  go_loopw [0] (fun v wr => ∃ (j : Nat) (f' : Nat → Nat), v = .int .i64 j ∧ j < n ∧ c j = c i ∧ RootAt wr q g n f' ∧ Rt c f' n ∧ w.grownBy wr (some g)) (fun v _ => (intOf v).toNat)
  case atStart => exact ⟨i, f, rfl, hi, rfl, HR.out, HT.out, ⟨rfl, rfl, rfl, Nat.le_refl _, fun _ _ _ => rfl⟩⟩
  case round =>
    obtain ⟨j, f', rfl, hj, hcj, hR, hT, hgr⟩ := hrel
    clear HR HT
    have HR := Lib.hid hR
    have HT := Lib.hid hT
    clear hR hT
    have hle := HT.out.le j hj
    have bx := HR.out.box
    have x0 := HR.out.cell j hj
    have fr0 := HR.out.fr j hj
    by_cases hfix : f' j = j
    · have hcc := HT.out.fix j hj hfix
      rw [hfix] at x0
      have hres : c i = j := by rw [← hcj, hcc]
      go_wp2
      go_ret
      exact ⟨ret_int (by omega), f', HR.out, HT.out, hgr⟩
    · obtain ⟨m, hm⟩ : ∃ m, m = f' j := ⟨_, rfl⟩
      rw [← hm] at x0 hfix hle
      have hmn : m < n := by omega
      have x1 := HR.out.cell m hmn
      have HH := Lib.hid (HT.out.halve hj (by rw [← hm]; exact hfix))
      rw [← hm] at HH
      obtain ⟨p, hp⟩ : ∃ p, p = f' m := ⟨_, rfl⟩
      rw [← hp] at HH x1
      have HM := Lib.hid hm
      have HP := Lib.hid hp
      clear hm hp
      have hpj : p < j := HH.out.2.1
      have hne1 : (m : Int) ≠ (j : Int) := by omega
      have hne2 := HR.out.ne
      go_wp2_with (go_region)
      go_roundw
      case rel => exact ⟨p, _, rfl, by omega, by rw [HH.out.2.2, hcj], (HR.out.set j p hj).drew, HH.out.1, grown_trans hgr (grown_drew (grown_set _ _ _ _))⟩
      case measure => simp [intOf]; omega
end Go.Proofs.Ytopfnffabaiceaa
namespace Go.Proofs.Ytopfnffabaiceaa
open Go.RowKit
theorem step_app {P : Program} (w : World) {ops : Array Oper} {o : Oper} {a : Act} {K : Act → World → Prop} {Q : Exit → Act → World → Prop} {E : Prop} (hgd : o.guard = none) (s x : Operand) (t : TypeId)
    (ho : o.op = .call { callee := .builtin .append, args := #[s, x], argTypes := #[t, t] })
    (base : Nat) (e : TypeId) (i : TypeInfo) (z : Value) (size bytes : Nat) (ht : P.underlying t = some (.slice e)) (hi : P.info? e = some i) (hz : i.zero = some z)
    (hsize : i.size = size) (hby : i.bytes = bytes) (hzs : z.cells.size = size) (hsz : 0 < size)
    (v : Value) (n : Nat) (xs : List Value) (hs : a.eval s = v) (hown : w.ownsRow base e size v n xs)
    (B : Nat) (A : Option Addr) (m c : Nat) (news : List Value) (hx : a.eval x = .slice A m c) (hr : Reads w B size A m news) (h1 : ∀ u ∈ news, u.oneCell' = true)
    (h63 : n + m ≤ maxLen) (hbytes : (n + m) * bytes ≤ 140737488355328) (hbase : base ≤ w.heap.size)
    (h : ∀ v' w', w'.ownsRow base e size v' (n + m) (xs ++ news) → w.grownBy w' v.ownBlock → (v'.ownBlock = v.ownBlock ∨ v'.ownBlock = some w.heap.size) → K (a.put o.dst v') w') :
    if Region.wanted o (yielded ops a.tmps) = true then Oper.wp P o a w K Q else E := by
  have hw : Region.wanted o (yielded ops a.tmps) = true := by simp [Region.wanted, hgd]
  rw [if_pos hw]
  exact wp_append_any w s x t ho base e i z size bytes ht hi hz hsize hby hzs hsz v n xs hs hown B A m c news hx hr h1 h63 hbytes hbase h
def gl (LL : List (List Cl)) (k : Nat) : List Cl := LL.getD k []
theorem own_lt' {w : World} {base : Nat} {e : TypeId} {size n : Nat} {v : Value} {xs : List Value} (h : w.ownsRow base e size v n xs) {q : Nat} (hq : v.ownBlock = some q) : q < w.heap.size := by
  rcases h.2 with ⟨rfl, _⟩ | ⟨g, cap, cur, rfl, _, hh, _⟩
  · simp [Value.ownBlock] at hq
  · have : g = q := by simpa [Value.ownBlock] using hq
    subst this
    rcases Nat.lt_or_ge g w.heap.size with hlt | hge
    · exact hlt
    · rw [Array.getElem?_eq_none hge] at hh; cases hh
theorem own_grown' {w w' : World} {base : Nat} {e : TypeId} {size n : Nat} {v : Value} {xs : List Value} {row : Option Nat} (h : w.ownsRow base e size v n xs) (hg : w.grownBy w' row) (hne : ∀ q, v.ownBlock = some q → row ≠ some q) : w'.ownsRow base e size v n xs := by
  refine ⟨h.1, ?_⟩
  have hlt := @own_lt' w base e size n v xs h
  rcases h.2 with h1 | ⟨g, cap, cur, rfl, hb, hh, hr⟩
  · exact .inl h1
  · have hq : (Value.slice (some ⟨g, 0, none⟩) n cap).ownBlock = some g := by simp [Value.ownBlock]
    exact .inr ⟨g, cap, cur, rfl, hb, (hg.block g (hlt hq) (fun e => hne g hq e.symm)).trans hh, hr⟩
theorem own_own_ne {w : World} {b1 b2 : Nat} {e1 e2 : TypeId} {s1 s2 n1 n2 : Nat} {v1 v2 : Value} {x1 x2 : List Value} (h1 : w.ownsRow b1 e1 s1 v1 n1 x1) (h2 : w.ownsRow b2 e2 s2 v2 n2 x2) (hne : e1 ≠ e2) {q : Nat} (hq : v1.ownBlock = some q) : v2.ownBlock ≠ some q := by
  rcases h1.2 with ⟨rfl, _⟩ | ⟨g, cap, cur, rfl, _, hh, _⟩
  · simp [Value.ownBlock] at hq
  · have : g = q := by simpa [Value.ownBlock] using hq
    subst this
    exact own_blk_ne h2 (show Blk w g e1 cur from hh) (fun e => hne e.symm)
/-- rows of cells, in a row of the call's own, each in a block of its own -/
structure Rws (W : World) (B : Nat) (v : Value) (LL : List (List Cl)) (vs : List Value) : Prop where
  row : W.ownsRow B 22 1 v LL.length vs
  one : ∀ (k : Nat) (u : Value), vs[k]? = some u → W.ownsRow B 33 3 u (gl LL k).length (cvs (gl LL k))
  ne : ∀ (k m : Nat) (u u' : Value), k ≠ m → vs[k]? = some u → vs[m]? = some u' → ∀ q, u.ownBlock = some q → u'.ownBlock ≠ some q
section
variable {W W' : World} {B : Nat} {v : Value} {LL : List (List Cl)} {vs : List Value}
theorem Rws.len (h : Rws W B v LL vs) : vs.length = LL.length := by have := h.row.1; omega
theorem Rws.nil (W : World) (B : Nat) : Rws W B (.slice none 0 0) [] [] := ⟨own_nil _ _ _ _, fun k u h => by simp at h, fun k m u u' _ h => by simp at h⟩
theorem Rws.kept (h : Rws W B v LL vs) {row : Option Nat} (hg : W.grownBy W' row) (hr : ∀ q, row = some q → q < B) : Rws W' B v LL vs :=
  ⟨own_grown' h.row hg (fun q hq e => by have := own_base h.row q hq; have := hr q e; omega), fun k u hk => own_grown' (h.one k u hk) hg (fun q hq e => by have := own_base (h.one k u hk) q hq; have := hr q e; omega), h.ne⟩
theorem Rws.bl (h : Rws W B v LL vs) (hb : Below W.heap.size W W') : Rws W' B v LL vs :=
  ⟨own_bl h.row hb (Nat.le_refl _), fun k u hk => own_bl (h.one k u hk) hb (Nat.le_refl _), h.ne⟩
theorem Rws.alloc (h : Rws W B v LL vs) (o : Obj) : Rws (W.alloc o) B v LL vs := h.bl (bl_alloc W o)
/-- another row of the call's own, of another type, grows -/
theorem Rws.other (h : Rws W B v LL vs) {b : Nat} {e : TypeId} {s n : Nat} {u : Value} {xs : List Value} (ho : W.ownsRow b e s u n xs) (h1 : e ≠ 22) (h2 : e ≠ 33) (hg : W.grownBy W' u.ownBlock) : Rws W' B v LL vs :=
  ⟨own_grown' h.row hg (fun q hq e' => own_own_ne ho h.row h1 e' hq), fun k u' hk => own_grown' (h.one k u' hk) hg (fun q hq e' => own_own_ne ho (h.one k u' hk) h2 e' hq), h.ne⟩
theorem tne : (22 : TypeId) ≠ 33 := by decide
/-- one row more -/
theorem Rws.snoc (h : Rws W B v LL vs) {v' u : Value} {L : List Cl} (hg : W.grownBy W' v.ownBlock) (hrow : W'.ownsRow B 22 1 v' (LL.length + 1) (vs ++ [u])) (hu : W'.ownsRow B 33 3 u L.length (cvs L)) (hf : ∀ (k : Nat) (u' : Value), vs[k]? = some u' → ∀ q, u'.ownBlock = some q → u.ownBlock ≠ some q) : Rws W' B v' (LL ++ [L]) (vs ++ [u]) := by
  have hl := h.len
  have hc : ∀ k x, (vs ++ [u])[k]? = some x → (k < vs.length ∧ vs[k]? = some x) ∨ (k = vs.length ∧ x = u) := fun k x hk => by
    rw [List.getElem?_append] at hk
    split at hk
    · rename_i hlt; exact .inl ⟨hlt, hk⟩
    · rename_i hge
      have : k - vs.length = 0 := by
        rcases Nat.eq_zero_or_pos (k - vs.length) with e | e
        · exact e
        · rw [List.getElem?_eq_none (by simp; omega)] at hk; cases hk
      rw [this] at hk
      have e : u = x := by simpa using hk
      exact .inr ⟨by omega, e.symm⟩
  refine ⟨by simpa using hrow, fun k x hk => ?_, fun k m x y hne hk hm q hq => ?_⟩
  · rcases hc k x hk with ⟨hlt, hk'⟩ | ⟨rfl, rfl⟩
    · have e : gl (LL ++ [L]) k = gl LL k := by unfold gl; simp [List.getElem?_append, show k < LL.length by omega]
      rw [e]
      exact own_grown' (h.one k x hk') hg (fun q hq e' => own_own_ne h.row (h.one k x hk') tne e' hq)
    · have e : gl (LL ++ [L]) vs.length = L := by unfold gl; simp [hl]
      rw [e]; exact hu
  · rcases hc k x hk with ⟨hlt, hk'⟩ | ⟨rfl, rfl⟩ <;> rcases hc m y hm with ⟨hlt2, hm'⟩ | ⟨rfl, rfl⟩
    · exact h.ne k m x y hne hk' hm' q hq
    · exact hf k x hk' q hq
    · exact fun e => hf m y hm' q e hq
    · exact absurd rfl hne
/-- one row grows by itself -/
theorem Rws.grow (h : Rws W B v LL vs) {k g cap : Nat} {u u' : Value} {L : List Cl} (hv : v = .slice (some ⟨g, 0, none⟩) LL.length cap) (hk : vs[k]? = some u) (hg : W.grownBy W' u.ownBlock) (hu : W'.ownsRow B 33 3 u' L.length (cvs L)) (hat : u'.ownBlock = u.ownBlock ∨ u'.ownBlock = some W.heap.size) :
    Rws (W'.setCell ⟨g, k, none⟩ u') B v (LL.set k L) (vs.set k u') := by
  have hl := h.len
  have hkl : k < vs.length := by
    rcases Nat.lt_or_ge k vs.length with e | e
    · exact e
    · rw [List.getElem?_eq_none e] at hk; cases hk
  have hrow' : W'.ownsRow B 22 1 v LL.length vs := own_grown' h.row hg (fun q hq e' => own_own_ne h.row (h.one k u hk) tne hq e')
  have hblk : ∃ cs, Blk W' g 22 cs := by
    rcases hrow'.2 with ⟨e, _⟩ | ⟨g', cap', cur, e, _, hh, _⟩
    · rw [hv] at e; cases e
    · rw [hv] at e
      injection e with e1 e2 e3
      injection e1 with e1
      injection e1 with e1
      subst e1
      exact ⟨cur, hh⟩
  obtain ⟨cs, hblk⟩ := hblk
  subst hv
  refine ⟨?_, fun m x hm => ?_, fun m p x y hne hm hp q hq => ?_⟩
  · have := own_set hrow' k u' (by omega)
    simpa using this
  · by_cases e : k = m
    · subst e
      rw [List.getElem?_set_self (by omega)] at hm
      injection hm with hm
      subst hm
      have e2 : gl (LL.set k L) k = L := by unfold gl; simp [show k < LL.length by omega]
      rw [e2]
      exact ownsRow_far hu hblk (fun e => tne e.symm)
    · rw [List.getElem?_set_ne e] at hm
      have e2 : gl (LL.set k L) m = gl LL m := by unfold gl; simp [List.getElem?_set_ne e]
      rw [e2]
      exact ownsRow_far (own_grown' (h.one m x hm) hg (fun q hq e' => h.ne k m u x e hk hm q e' hq)) hblk (fun e => tne e.symm)
  · have fresh : ∀ m x, vs[m]? = some x → k ≠ m → ∀ q, u'.ownBlock = some q → x.ownBlock ≠ some q := fun m x hm e q hq => by
      rcases hat with h1 | h1
      · exact h.ne k m u x e hk hm q (h1 ▸ hq)
      · intro e'
        have := own_lt' (h.one m x hm) e'
        rw [h1] at hq
        injection hq with hq
        omega
    by_cases e : k = m
    · subst e
      rw [List.getElem?_set_self (by omega)] at hm
      injection hm with hm
      subst hm
      rw [List.getElem?_set_ne hne] at hp
      exact fresh p y hp hne q hq
    · rw [List.getElem?_set_ne e] at hm
      by_cases e2 : k = p
      · subst e2
        rw [List.getElem?_set_self (by omega)] at hp
        injection hp with hp
        subst hp
        intro e'
        exact fresh m x hm e q e' hq
      · rw [List.getElem?_set_ne e2] at hp
        exact h.ne m p x y hne hm hp q hq
end
end Go.Proofs.Ytopfnffabaiceaa
