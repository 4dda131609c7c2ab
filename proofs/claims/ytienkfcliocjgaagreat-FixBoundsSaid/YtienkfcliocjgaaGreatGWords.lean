/- The walk of the reference's Of. -/
import Derived.Laws.StructEq
import Derived.Test.YtienkfcliocjgaaGreatGBase
set_option linter.unusedVariables false
set_option linter.unusedSimpArgs false
/- Words for memory: slices that read as lists of cells; append onto a row of the call's own. -/
namespace Go.Proofs.YtienkfcliocjgaaGreat
open Go.RowKit
theorem block_of_add (a : Addr) (n : Nat) : (a.add n).block = a.block := by unfold Addr.add; split <;> rfl
theorem add_of_add (a : Addr) (i j : Nat) : (a.add i).add j = a.add (i + j) := by
  unfold Addr.add
  by_cases hi : i = 0 <;> by_cases hj : j = 0 <;> simp [hi, hj, Nat.add_assoc]

def Reads (w : World) (B size : Nat) (A : Option Addr) (n : Nat) (xs : List Value) : Prop :=
  xs.length = n * size ∧ (0 < n → ∃ ad, A = some ad ∧ ad.block < B ∧ ∀ j u, xs[j]? = some u → w.cell? (ad.add j) = some u)

section
variable {w w' : World} {B B' size n : Nat} {A : Option Addr} {xs : List Value}
theorem Reads.none_ : Reads w B size A 0 [] := ⟨by simp, fun h => absurd h (by omega)⟩
theorem Reads.keep (h : Reads w B size A n xs) (hk : ∀ p : Addr, p.block < B → w'.cell? p = w.cell? p) : Reads w' B size A n xs :=
  ⟨h.1, fun hn => by
    obtain ⟨ad, e, hb, hc⟩ := h.2 hn
    exact ⟨ad, e, hb, fun j u hu => (hk _ (by rw [block_of_add]; exact hb)).trans (hc j u hu)⟩⟩
theorem Reads.more (h : Reads w B size A n xs) (hB : B ≤ B') : Reads w B' size A n xs :=
  ⟨h.1, fun hn => by
    obtain ⟨ad, e, hb, hc⟩ := h.2 hn
    exact ⟨ad, e, by omega, hc⟩⟩
theorem Reads.below (h : Reads w B size A n xs) (hb : Below B w w') : Reads w' B size A n xs := h.keep fun _ hp => hb.cell hp
theorem Reads.drew (h : Reads w B size A n xs) : Reads w.drew B size A n xs := h
theorem Reads.drewN (h : Reads w B size A n xs) (k : Nat) : Reads (w.drewN k) B size A n xs := h
theorem Reads.alloc (h : Reads w B size A n xs) (hB : B ≤ w.heap.size) (o : Obj) : Reads (w.alloc o) B size A n xs := h.keep fun p hp => World.cell?_alloc_lt w o p (by omega)
theorem Reads.setCell (h : Reads w B size A n xs) {p : Addr} (hB : B ≤ p.block) (u : Value) : Reads (w.setCell p u) B size A n xs :=
  h.keep fun q hq => World.cell?_setCell_other w p q u (fun e => by subst e; omega)
theorem Reads.grown (h : Reads w B size A n xs) {row : Option Nat} (hg : w.grownBy w' row) (hB : B ≤ w.heap.size) (hr : ∀ g, row = some g → B ≤ g) : Reads w' B size A n xs :=
  h.keep fun p hp => World.cell?_of_block (hg.block p.block (by omega) (fun e => by have := hr _ e.symm; omega))
theorem Reads.of_own {base : Nat} {e : TypeId} {c : Nat} (h : w.ownsRow base e size (.slice A n c) n xs) : Reads w w.heap.size size A n xs := by
  refine ⟨h.1, fun hn => ?_⟩
  obtain ⟨g, cap, hv, _, hlt⟩ := h.form hn
  have hA : A = some ⟨g, 0, none⟩ := by injection hv
  subst hA
  exact ⟨_, rfl, hlt, h.cells (g := g) rfl⟩
end

section
variable {P : Program} (w : World)
theorem run_append_of_nil (base : Nat) (t ty e : TypeId) (i : TypeInfo) (size : Nat) (ht : P.underlying t = some (.slice e)) (hi : P.info? e = some i)
    (v : Value) (n : Nat) (xs : List Value) (hown : w.ownsRow base e size v n xs) (c : Nat) : (Builtin.append_ #[t, t] ty #[v, .slice none 0 c]).run P w = .ok v w := by
  rcases hown.2 with ⟨rfl, rfl⟩ | ⟨g, cap, cur, rfl, _, _, hnc, _⟩
  · simp [Builtin.append_, run_underlying ht, sizeOf, typeInfo, hi, Builtin.lenOf, Builtin.firstCells]
  · simp [Builtin.append_, run_underlying ht, sizeOf, typeInfo, hi, Builtin.lenOf, Builtin.firstCells, hnc, storeCells]

theorem run_append_any (base : Nat) (t ty e : TypeId) (i : TypeInfo) (z : Value) (size bytes : Nat) (ht : P.underlying t = some (.slice e)) (hi : P.info? e = some i) (hz : i.zero = some z)
    (hsize : i.size = size) (hby : i.bytes = bytes) (hzs : z.cells.size = size) (hsz : 0 < size)
    (v : Value) (n : Nat) (xs : List Value) (hown : w.ownsRow base e size v n xs)
    (B : Nat) (A : Option Addr) (m c : Nat) (news : List Value) (hr : Reads w B size A m news) (h1 : ∀ u ∈ news, u.oneCell' = true)
    (h63 : n + m ≤ maxLen) (hbytes : (n + m) * bytes ≤ 140737488355328) (hbase : base ≤ w.heap.size) :
    ∃ v' w', (Builtin.append_ #[t, t] ty #[v, .slice A m c]).run P w = .ok v' w' ∧ w'.ownsRow base e size v' (n + m) (xs ++ news) ∧ w.grownBy w' v.ownBlock ∧
      (v'.ownBlock = v.ownBlock ∨ v'.ownBlock = some w.heap.size) := by
  rcases A with _ | ad
  · have hm : m = 0 := by
      rcases Nat.eq_zero_or_pos m with h0 | h0
      · exact h0
      · obtain ⟨ad, h, _⟩ := hr.2 h0
        cases h
    subst hm
    have hn : news = [] := List.eq_nil_of_length_eq_zero (by simpa using hr.1)
    subst hn
    exact ⟨v, w, run_append_of_nil w base t ty e i size ht hi v n xs hown c, by simpa using hown, World.grownBy.refl w _, .inl rfl⟩
  · have hcells : ∀ j u, news[j]? = some u → w.cell? (ad.add j) = some u := by
      intro j u hu
      rcases Nat.eq_zero_or_pos m with h0 | h0
      · subst h0
        have hn : news = [] := List.eq_nil_of_length_eq_zero (by simpa using hr.1)
        subst hn
        simp at hu
      · obtain ⟨ad', h, _, hc⟩ := hr.2 h0
        injection h with h
        subst h
        exact hc j u hu
    obtain ⟨v', w', hrun, h2, h3, _, h5⟩ := run_append_own_at (P := P) w base t ty e i z size bytes ht hi hz hsize hby hzs hsz v n xs hown ad m c news hr.1 hcells h1 h63 hbytes hbase
    exact ⟨v', w', hrun, h2, h3, h5⟩

theorem wp_append_any {o : Oper} {a : Act} {K : Act → World → Prop} {Q : Exit → Act → World → Prop} (s x : Operand) (t : TypeId)
    (ho : o.op = .call { callee := .builtin .append, args := #[s, x], argTypes := #[t, t] })
    (base : Nat) (e : TypeId) (i : TypeInfo) (z : Value) (size bytes : Nat) (ht : P.underlying t = some (.slice e)) (hi : P.info? e = some i) (hz : i.zero = some z)
    (hsize : i.size = size) (hby : i.bytes = bytes) (hzs : z.cells.size = size) (hsz : 0 < size)
    (v : Value) (n : Nat) (xs : List Value) (hs : a.eval s = v) (hown : w.ownsRow base e size v n xs)
    (B : Nat) (A : Option Addr) (m c : Nat) (news : List Value) (hx : a.eval x = .slice A m c) (hr : Reads w B size A m news) (h1 : ∀ u ∈ news, u.oneCell' = true)
    (h63 : n + m ≤ maxLen) (hbytes : (n + m) * bytes ≤ 140737488355328) (hbase : base ≤ w.heap.size)
    (h : ∀ v' w', w'.ownsRow base e size v' (n + m) (xs ++ news) → w.grownBy w' v.ownBlock → (v'.ownBlock = v.ownBlock ∨ v'.ownBlock = some w.heap.size) → K (a.put o.dst v') w') : o.wp P a w K Q := by
  obtain ⟨v', w', hrun, h2, h3, h4⟩ := run_append_any (P := P) w base t o.type e i z size bytes ht hi hz hsize hby hzs hsz v n xs hown B A m c news hr h1 h63 hbytes hbase
  unfold Oper.wp execOp
  simp only [ho, resolve, invoke, builtin, Sem.run_bind, Sem.run_pure, Result.andThen_ok, List.map_toArray, List.map_cons, List.map_nil, hs, hx, hrun]
  exact h v' w' h2 h3 h4

theorem wpList_append_any {ops : Array Oper} {rest : List Oper} {o : Oper} {a : Act} {Q : Exit → Act → World → Prop} (hgd : o.guard = none) (s x : Operand) (t : TypeId)
    (ho : o.op = .call { callee := .builtin .append, args := #[s, x], argTypes := #[t, t] })
    (base : Nat) (e : TypeId) (i : TypeInfo) (z : Value) (size bytes : Nat) (ht : P.underlying t = some (.slice e)) (hi : P.info? e = some i) (hz : i.zero = some z)
    (hsize : i.size = size) (hby : i.bytes = bytes) (hzs : z.cells.size = size) (hsz : 0 < size)
    (v : Value) (n : Nat) (xs : List Value) (hs : a.eval s = v) (hown : w.ownsRow base e size v n xs)
    (B : Nat) (A : Option Addr) (m c : Nat) (news : List Value) (hx : a.eval x = .slice A m c) (hr : Reads w B size A m news) (h1 : ∀ u ∈ news, u.oneCell' = true)
    (h63 : n + m ≤ maxLen) (hbytes : (n + m) * bytes ≤ 140737488355328) (hbase : base ≤ w.heap.size)
    (h : ∀ v' w', w'.ownsRow base e size v' (n + m) (xs ++ news) → w.grownBy w' v.ownBlock → (v'.ownBlock = v.ownBlock ∨ v'.ownBlock = some w.heap.size) → wpList P ops Q rest (a.put o.dst v') w') : wpList P ops Q (o :: rest) a w :=
  wpList_plain hgd fun _ hK => wp_append_any w s x t ho base e i z size bytes ht hi hz hsize hby hzs hsz v n xs hs hown B A m c news hx hr h1 h63 hbytes hbase fun v' w' h2 h3 h4 => hK _ _ (h v' w' h2 h3 h4)
end

theorem own_base {w : World} {base : Nat} {e : TypeId} {size n : Nat} {v : Value} {xs : List Value} (h : w.ownsRow base e size v n xs) (k : Nat) (hk : v.ownBlock = some k) : base ≤ k := by
  rcases h.2 with ⟨rfl, _⟩ | ⟨g, cap, cur, rfl, hg, _⟩
  · simp [Value.ownBlock] at hk
  · simp [Value.ownBlock] at hk; omega
theorem own_mono {w : World} {base base' : Nat} {e : TypeId} {size n : Nat} {v : Value} {xs : List Value} (h : w.ownsRow base e size v n xs) (hb : base' ≤ base) : w.ownsRow base' e size v n xs := by
  refine ⟨h.1, ?_⟩
  rcases h.2 with h | ⟨g, cap, cur, hv, hg, hr⟩
  · exact .inl h
  · exact .inr ⟨g, cap, cur, hv, by omega, hr⟩
theorem own_nil (w : World) (base : Nat) (e : TypeId) (size : Nat) : w.ownsRow base e size (.slice none 0 0) 0 [] := ⟨by simp, .inl ⟨rfl, rfl⟩⟩
theorem own_form {w : World} {base : Nat} {e : TypeId} {size n : Nat} {v : Value} {xs : List Value} (h : w.ownsRow base e size v n xs) : ∃ A c, v = .slice A n c ∧ Reads w w.heap.size size A n xs ∧ n ≤ c ∧ c ≤ maxLen := by
  rcases h.2 with ⟨rfl, rfl⟩ | ⟨g, cap, cur, rfl, hg, h1, h2, h3, _⟩
  · exact ⟨_, _, rfl, Reads.of_own h, by omega, by simp [maxLen]⟩
  · exact ⟨_, _, rfl, Reads.of_own h, h2, h3⟩

theorem own_new (w : World) (base : Nat) (e : TypeId) (size n g : Nat) (cur : Array Value) (hg : g = w.heap.size) (hb : base ≤ w.heap.size) (hs : cur.size = n * size) (hn : n ≤ maxLen) :
    (w.alloc (.cells cur e)).ownsRow base e size (.slice (some ⟨g, 0, none⟩) n n) n cur.toList := by
  subst hg
  refine ⟨by simpa using hs, .inr ⟨_, n, cur, rfl, hb, heap_alloc_new w _, Nat.le_refl _, hn, hs, ?_⟩⟩
  rw [← hs]
  exact List.take_of_length_le (by simp)

theorem set_new (W : World) (cs : Array Value) (t : TypeId) (q i g : Nat) (v : Value) (hg : g = W.heap.size) : ((W.alloc (.cells cs t)).drewN q).setCell ⟨g, i, none⟩ v = (W.alloc (.cells (cs.setIfInBounds i v) t)).drewN q := by
  show ((W.alloc (.cells cs t)).setCell ⟨g, i, none⟩ v).drewN q = _
  rw [World.setCell_alloc_at _ _ _ _ _ hg]

/-- a block that is known whole -/
def Blk (w : World) (g : Nat) (t : TypeId) (cs : Array Value) : Prop := w.heap[g]? = some (.cells cs t (0, 0))
section
variable {w w' : World} {g : Nat} {t : TypeId} {cs : Array Value}
theorem Blk.lt (h : Blk w g t cs) : g < w.heap.size := by
  rcases Nat.lt_or_ge g w.heap.size with hlt | hge
  · exact hlt
  · unfold Blk at h; rw [Array.getElem?_eq_none hge] at h; cases h
theorem Blk.cell (h : Blk w g t cs) (i : Nat) : w.cell? ⟨g, i, none⟩ = cs[i]? := by
  unfold Blk at h
  simp [World.cell?, h]
theorem Blk.frozen (h : Blk w g t cs) (i : Nat) : w.frozen? ⟨g, i, none⟩ = false := by
  unfold Blk at h
  simp [World.frozen?, h]
theorem Blk.new (w : World) (t : TypeId) (cs : Array Value) : Blk (w.alloc (.cells cs t)) w.heap.size t cs := heap_alloc_new w _
theorem Blk.drew (h : Blk w g t cs) : Blk w.drew g t cs := h
theorem Blk.drewN (h : Blk w g t cs) (n : Nat) : Blk (w.drewN n) g t cs := h
theorem Blk.alloc (h : Blk w g t cs) (o : Obj) : Blk (w.alloc o) g t cs := (Below.heap_alloc w o g h.lt).trans h
theorem Blk.set_ (h : Blk w g t cs) (i : Nat) (u : Value) : Blk (w.setCell ⟨g, i, none⟩ u) g t (cs.setIfInBounds i u) := by
  unfold Blk at h ⊢
  simp [World.setCell, Array.getElem?_modify, h]
theorem Blk.far (h : Blk w g t cs) {p : Addr} (hp : g ≠ p.block) (u : Value) : Blk (w.setCell p u) g t cs := (Below.heap_setCell w p u g hp).trans h
theorem Blk.below {B : Nat} (h : Blk w g t cs) (hb : Below B w w') (hg : g < B) : Blk w' g t cs := (hb.block g hg).trans h
theorem Blk.grown {row : Option Nat} (h : Blk w g t cs) (hb : w.grownBy w' row) (hg : some g ≠ row) : Blk w' g t cs := (hb.block g h.lt hg).trans h
theorem Blk.ne_ {g' : Nat} {t' : TypeId} {cs' : Array Value} (h : Blk w g t cs) (h' : Blk w g' t' cs') (hne : t ≠ t') : g ≠ g' := by
  rintro rfl
  unfold Blk at h h'
  rw [h] at h'
  injection h' with h'
  injection h' with _ ht
  exact hne ht
theorem own_blk_ne {base : Nat} {e : TypeId} {size n : Nat} {v : Value} {xs : List Value} (h : w.ownsRow base e size v n xs) (hg : Blk w g t cs) (hne : e ≠ t) : v.ownBlock ≠ some g := by
  rcases h.2 with ⟨rfl, _⟩ | ⟨g', cap, cur, rfl, _, hh, _⟩
  · simp [Value.ownBlock]
  · intro he
    have : g' = g := by simpa [Value.ownBlock] using he
    subst this
    exact Blk.ne_ (t := e) hh hg hne rfl
end

/-- a cell: its level, its row, its column -/
abbrev Cl := Int × Int × Int
def cv (x : Cl) : List Value := [.int .i64 x.1, .int .i64 x.2.1, .int .i64 x.2.2]
def cvs (L : List Cl) : List Value := L.flatMap cv
theorem cvs_length (L : List Cl) : (cvs L).length = L.length * 3 := by
  induction L with
  | nil => rfl
  | cons x r ih => simp [cvs, cv] at ih ⊢; omega
theorem cvs_append (L M : List Cl) : cvs (L ++ M) = cvs L ++ cvs M := by simp [cvs]
theorem cvs_one (L : List Cl) : ∀ u ∈ cvs L, u.oneCell' = true := by
  intro u hu
  simp only [cvs, List.mem_flatMap, cv] at hu
  obtain ⟨x, _, hx⟩ := hu
  simp at hx
  rcases hx with rfl | rfl | rfl <;> rfl
theorem Tryz.infoCell : (Tryz.prog.info? 44).map (fun i => (i.zero, i.size, i.bytes)) = some (some (.agg #[.int .i64 0, .int .i64 0, .int .i64 0]), 3, 24) := by kernel_rfl

/-- the ending of a function that returns a list of cells of its own, and an error number -/
def RetCells (w : World) (L : List Cl) (n : Int) (e : Ending) (w' : World) : Prop :=
  ∃ v, e = .returned (.tuple #[v, .int .i64 n]) ∧ w'.ownsRow w.heap.size 44 3 v L.length (cvs L) ∧ Below w.heap.size w w'
/-- the ending of a function that returns a list of cells of its own -/
def RetCells1 (w : World) (L : List Cl) (e : Ending) (w' : World) : Prop :=
  ∃ v, e = .returned v ∧ w'.ownsRow w.heap.size 44 3 v L.length (cvs L) ∧ Below w.heap.size w w'
/-- the children of a cell -/
def kids (l r c : Int) : List Cl := [(l + 1, 2 * r, 2 * c), (l + 1, 2 * r, 2 * c + 1), (l + 1, 2 * r + 1, 2 * c), (l + 1, 2 * r + 1, 2 * c + 1)]
theorem reads_new (w : World) (a b c : Int) (t : TypeId) : Reads (w.alloc (.cells #[.int .i64 a, .int .i64 b, .int .i64 c] t)) (w.heap.size + 1) 3 (some ⟨w.heap.size, 0, none⟩) 1 (cv (a, b, c)) := by
  refine ⟨rfl, fun _ => ⟨_, rfl, by simp, fun j u hu => ?_⟩⟩
  match j, hu with
  | 0, hu => simp [cv] at hu; subst hu; simp [Addr.add]
  | 1, hu => simp [cv] at hu; subst hu; simp [Addr.add]
  | 2, hu => simp [cv] at hu; subst hu; simp [Addr.add]
  | j + 3, hu => simp [cv] at hu
theorem cv_one (x : Cl) : ∀ u ∈ cv x, u.oneCell' = true := by
  intro u hu
  simp [cv] at hu
  rcases hu with rfl | rfl | rfl <;> rfl
theorem kids_take (l r c : Int) {j : Nat} (hj : j < 4) : cvs ((kids l r c).take (j + 1)) = cvs ((kids l r c).take j) ++ cv (l + 1, 2 * r + (j : Int) / 2, 2 * c + (j : Int) % 2) := by
  match j, hj with
  | 0, _ => simp [kids, cvs]
  | 1, _ => simp [kids, cvs]
  | 2, _ => simp [kids, cvs]
  | 3, _ => simp [kids, cvs]
theorem own_bl {w w' : World} {base B : Nat} {e : TypeId} {size n : Nat} {v : Value} {xs : List Value} (h : w.ownsRow base e size v n xs) (hb : Below B w w') (hB : w.heap.size ≤ B) : w'.ownsRow base e size v n xs := by
  refine ⟨h.1, ?_⟩
  rcases h.2 with h1 | ⟨g, cap, cur, hv, hg, hh, hr⟩
  · exact .inl h1
  · have hlt : g < w.heap.size := by
      rcases Nat.lt_or_ge g w.heap.size with hlt | hge
      · exact hlt
      · rw [Array.getElem?_eq_none hge] at hh; cases hh
    exact .inr ⟨g, cap, cur, hv, hg, (hb.block g (by omega)).trans hh, hr⟩
theorem own_set {w : World} {base g cap : Nat} {e : TypeId} {size n : Nat} {xs : List Value} (h : w.ownsRow base e size (.slice (some ⟨g, 0, none⟩) n cap) n xs) (i : Nat) (u : Value) (hi : i < n * size) :
    (w.setCell ⟨g, i, none⟩ u).ownsRow base e size (.slice (some ⟨g, 0, none⟩) n cap) n (xs.set i u) := by
  refine ⟨by simpa using h.1, ?_⟩
  rcases h.2 with ⟨h1, _⟩ | ⟨g', cap', cur, hv, hg, hh, hnc, hcm, hcs, htk⟩
  · cases h1
  · injection hv with e1 e2 e3
    injection e1 with e1
    injection e1 with e1
    subst e1 e3
    refine .inr ⟨g, cap, cur.setIfInBounds i u, rfl, hg, ?_, hnc, hcm, by simpa using hcs, ?_⟩
    · simp [World.setCell, Array.getElem?_modify, hh]
    · rw [← htk]
      simp [List.take_set]
theorem own_cell {w : World} {base g cap : Nat} {e : TypeId} {size n : Nat} {xs : List Value} (h : w.ownsRow base e size (.slice (some ⟨g, 0, none⟩) n cap) n xs) (i : Nat) (u : Value) (hu : xs[i]? = some u) :
    w.cell? ⟨g, i, none⟩ = some u ∧ w.frozen? ⟨g, i, none⟩ = false := by
  rcases h.2 with ⟨h1, _⟩ | ⟨g', cap', cur, hv, hg, hh, hnc, hcm, hcs, htk⟩
  · cases h1
  · injection hv with e1 e2 e3
    injection e1 with e1
    injection e1 with e1
    subst e1 e3
    have hi : i < xs.length := by
      rcases Nat.lt_or_ge i xs.length with hlt | hge
      · exact hlt
      · rw [List.getElem?_eq_none hge] at hu; cases hu
    rw [← htk] at hu
    rw [h.1] at hi
    rw [List.getElem?_take, if_pos hi, Array.getElem?_toList] at hu
    exact ⟨by simp [World.cell?, hh, hu], by simp [World.frozen?, hh]⟩
theorem ownsRow_far {w : World} {base g : Nat} {e t : TypeId} {size n : Nat} {v : Value} {xs : List Value} {cs : Array Value} {i : Nat} {u : Value} (h : w.ownsRow base e size v n xs) (hB : Blk w g t cs) (hne : e ≠ t) : (w.setCell ⟨g, i, none⟩ u).ownsRow base e size v n xs := by
  refine ⟨h.1, ?_⟩
  have hn := own_blk_ne h hB hne
  rcases h.2 with h1 | ⟨g', cap, cur, rfl, hg, hh, hr⟩
  · exact .inl h1
  · refine .inr ⟨g', cap, cur, rfl, hg, (Below.heap_setCell w ⟨g, i, none⟩ u g' ?_).trans hh, hr⟩
    intro he
    exact hn (by simp [Value.ownBlock, he])
end Go.Proofs.YtienkfcliocjgaaGreat
/- Comparison of cells, and the walk of the reference's Same. -/
namespace Go.Proofs.YtienkfcliocjgaaGreat
open Go.RowKit
theorem ret_bool {a b : Bool} (h : a = b) : Ending.returned (.bool a) = .returned (.bool b) := by rw [h]
def ceq (x y : Cl) : Bool := decide (x = y)
theorem ceq_true {x y : Cl} : ceq x y = true ↔ x = y := by simp [ceq]
theorem ceq_false {x y : Cl} : ceq x y = false ↔ x ≠ y := by simp [ceq]
abbrev cva (x : Cl) : Value := .agg #[.int .i64 x.1, .int .i64 x.2.1, .int .i64 x.2.2]
theorem guardCell : Tryz.prog.eqGuardType Tryz.prog.depth 44 = false := by kernel_rfl
theorem equalInCell (a b c a' b' c' : Int) (w : World) : (Op.equalIn 10000 44 (.agg #[.int .i64 a, .int .i64 b, .int .i64 c]) (.agg #[.int .i64 a', .int .i64 b', .int .i64 c'])).run Tryz.prog w = .ok (ceq (a, b, c) (a', b', c')) w := by
  have u3 := Tryz.underlying3
  have a3 := Tryz.isAgg3
  have z3 := Tryz.sizeOf3
  have hS : Tryz.prog.underlying 44 = some (.struct (Tryz.prog.fieldsOf 44)) := by kernel_rfl
  have hp : Tryz.prog.stoodInHeld 44 = false := by kernel_rfl
  rw [show (10000 : Nat) = 9999 + 1 from rfl, run_equalIn_agg w 9999 44 _ _ hS hp]
  simp only [Program.fieldsOf, Tryz.underlying44]
  go_simp
  by_cases h1 : a = a' <;> by_cases h2 : b = b' <;> by_cases h3 : c = c' <;> simp [ceq, h1, h2, h3]
theorem neqCell (a b c a' b' c' : Int) (w : World) : (binOp .neq 44 (.agg #[.int .i64 a, .int .i64 b, .int .i64 c]) (.agg #[.int .i64 a', .int .i64 b', .int .i64 c'])).run Tryz.prog w = .ok (.bool (!(ceq (a, b, c) (a', b', c')))) w := by
  rw [run_neq_struct, equalInCell]; rfl
theorem eqlCell (a b c a' b' c' : Int) (w : World) : (binOp .eql 44 (.agg #[.int .i64 a, .int .i64 b, .int .i64 c]) (.agg #[.int .i64 a', .int .i64 b', .int .i64 c'])).run Tryz.prog w = .ok (.bool (ceq (a, b, c) (a', b', c'))) w := by
  rw [run_eql_struct, equalInCell]; rfl

def gt (L : List Cl) (k : Nat) : Cl := L.getD k (0, 0, 0)
theorem cvs_at (L : List Cl) (k : Nat) (hk : k < L.length) : (cvs L)[k * 3]? = some (.int .i64 (gt L k).1) ∧ (cvs L)[k * 3 + 1]? = some (.int .i64 (gt L k).2.1) ∧ (cvs L)[k * 3 + 2]? = some (.int .i64 (gt L k).2.2) := by
  induction L generalizing k with
  | nil => simp at hk
  | cons x r ih =>
    have hc : cvs (x :: r) = .int .i64 x.1 :: .int .i64 x.2.1 :: .int .i64 x.2.2 :: cvs r := rfl
    rw [hc]
    match k with
    | 0 => simp [gt]
    | k + 1 =>
      have := ih k (by simpa using hk)
      have e1 : (k + 1) * 3 = k * 3 + 3 := by omega
      have e2 : (k + 1) * 3 + 1 = (k * 3 + 1) + 3 := by omega
      have e3 : (k + 1) * 3 + 2 = (k * 3 + 2) + 3 := by omega
      rw [e3, e2, e1]
      simpa [gt] using this
theorem Reads.len {w : World} {B n : Nat} {A : Option Addr} {L : List Cl} (h : Reads w B 3 A n (cvs L)) : L.length = n := by
  have := h.1
  rw [cvs_length] at this
  omega
/-- the cells of one element -/
theorem Reads.elem {w : World} {B n : Nat} {A : Option Addr} {L : List Cl} (h : Reads w B 3 A n (cvs L)) {k : Nat} (hk : k < n) :
    ∃ b off, A = some ⟨b, off, none⟩ ∧ b < B ∧ w.cell? ⟨b, off + k * 3, none⟩ = some (.int .i64 (gt L k).1) ∧ w.cell? ⟨b, off + k * 3 + 1, none⟩ = some (.int .i64 (gt L k).2.1) ∧ w.cell? ⟨b, off + k * 3 + 2, none⟩ = some (.int .i64 (gt L k).2.2) := by
  have hl := h.len
  obtain ⟨ad, rfl, hb, hc⟩ := h.2 (by omega)
  obtain ⟨b, off, spot⟩ := ad
  obtain ⟨z1, _, _⟩ := cvs_at L 0 (by omega)
  have hspot : spot = none := by simpa [Addr.add] using World.cell?_spot (hc 0 _ (by simpa using z1))
  subst hspot
  obtain ⟨y1, y2, y3⟩ := cvs_at L k (by omega)
  refine ⟨b, off, rfl, hb, ?_, ?_, ?_⟩
  · have := hc _ _ y1; rw [Go.WideShapes.add_plain] at this; exact this
  · have := hc _ _ y2; rw [Go.WideShapes.add_plain] at this; exact this
  · have := hc _ _ y3; rw [Go.WideShapes.add_plain] at this; exact this

theorem take_eq_succ {L M : List Cl} {k : Nat} (h : L.take k = M.take k) (h1 : k < L.length) (h2 : k < M.length) (he : gt L k = gt M k) : L.take (k + 1) = M.take (k + 1) := by
  rw [List.take_succ_eq_append_getElem h1, List.take_succ_eq_append_getElem h2, h]
  simp [gt, h1, h2] at he
  rw [he]
theorem ne_of_gt {L M : List Cl} {k : Nat} (he : gt L k ≠ gt M k) : L ≠ M := fun h => he (by rw [h])

end Go.Proofs.YtienkfcliocjgaaGreat
/- Walks of Parent, the reference's Parent and Valid, both ValidPoints, index. -/
namespace Go.Proofs.YtienkfcliocjgaaGreat
open Go.RowKit

set_option maxHeartbeats 400000 in
theorem refParent_any (l r c : Int) (w : World) (h0 : 1 ≤ l) (h1 : l ≤ 16) (h2 : 0 ≤ r) (r1 : r ≤ 131072) (h4 : 0 ≤ c) (c1 : c ≤ 131072) :
    Calls Tryz.prog 35 #[.agg #[.int .i64 l, .int .i64 r, .int .i64 c]] w fun e w' => e = .returned (.agg #[.int .i64 (l - 1), .int .i64 (r / 2), .int .i64 (c / 2)]) ∧ Below w.heap.size w w' := by
  go_enter Tryz.func35, Tryz.ntmps35
  go_wp2
  refine bodyPost_ret (v := .agg #[.int .i64 (l - 1), .int .i64 (r / 2), .int .i64 (c / 2)]) (by simp [results, Tryz.results35, go_sem]) rfl ⟨rfl, ?_⟩
  repeat (first | exact Below.refl _ _ | assumption | refine bl_drew ?_ | refine bl_drewN ?_ _ | refine Below.setCell ?_ (by first | assumption | omega | (simp; done) | (simp; omega)) _ | refine Below.alloc ?_ (by first | assumption | omega | (simp; done) | (simp; omega)) _)

/-- which points are valid -/
def vptB (a b : Int) : Bool := decide (-5400000 ≤ a ∧ a ≤ 5400000 ∧ -10800000 ≤ b ∧ b < 10800000)
theorem vptB_true {a b : Int} : vptB a b = true ↔ (-5400000 ≤ a ∧ a ≤ 5400000 ∧ -10800000 ≤ b ∧ b < 10800000) := by simp [vptB]
set_option maxHeartbeats 400000 in
theorem vpt_any (a b : Int) (w : World) :
    Calls Tryz.prog 16 #[.agg #[.int .i64 a, .int .i64 b]] w fun e w' => e = .returned (.bool (vptB a b)) ∧ Below w.heap.size w w' := by
  unfold vptB
  go_enter Tryz.func16, Tryz.ntmps16
  go_wp2
  all_goals
    go_ret
    refine ⟨ret_bool (by first | (simp_all; done) | (simp_all; omega)), ?_⟩
    repeat (first | exact Below.refl _ _ | assumption | refine bl_drew ?_ | refine bl_drewN ?_ _ | refine Below.setCell ?_ (by first | assumption | omega | (simp; done) | (simp; omega)) _ | refine Below.alloc ?_ (by first | assumption | omega | (simp; done) | (simp; omega)) _)
set_option maxHeartbeats 400000 in
theorem refVpt_any (a b : Int) (w : World) :
    Calls Tryz.prog 9 #[.agg #[.int .i64 a, .int .i64 b]] w fun e w' => e = .returned (.bool (vptB a b)) ∧ Below w.heap.size w w' := by
  unfold vptB
  go_enter Tryz.func9, Tryz.ntmps9
  go_wp2
  all_goals
    go_ret
    refine ⟨ret_bool (by first | (simp_all; done) | (simp_all; omega)), ?_⟩
    repeat (first | exact Below.refl _ _ | assumption | refine bl_drew ?_ | refine bl_drewN ?_ _ | refine Below.setCell ?_ (by first | assumption | omega | (simp; done) | (simp; omega)) _ | refine Below.alloc ?_ (by first | assumption | omega | (simp; done) | (simp; omega)) _)

/-- the reckoning of cells.index -/
def pn (n l : Int) : Int := (n + 1) * pw l
def idx (n l m : Int) : Int := min ((pn n l + 10799999) / 10800000 - 1) m
theorem pn_bd {n l : Int} (h1 : l ≤ 16) (h2 : 0 ≤ n) (h3 : n ≤ 21600000) : 0 ≤ pn n l ∧ pn n l ≤ 1415577665536 := by
  have hp := pw_bd h1
  unfold pn
  have h : (n + 1) * pw l ≤ 21600001 * 65536 := Int.mul_le_mul (by omega) hp.2 (by omega) (by omega)
  have h' : 0 ≤ (n + 1) * pw l := Int.mul_nonneg (by omega) (by omega)
  omega
end Go.Proofs.YtienkfcliocjgaaGreat
/- Walks of Children, and the reference's Children. -/
namespace Go.Proofs.YtienkfcliocjgaaGreat
open Go.RowKit
set_option maxHeartbeats 1000000 in
set_option maxRecDepth 100000 in
theorem refChildren_any (l r c : Int) (w : World) (h0 : 0 ≤ l) (h1 : l ≤ 16) (h2 : 0 ≤ r) (r1 : r ≤ 131072) (h4 : 0 ≤ c) (c1 : c ≤ 131072) :
    Calls Tryz.prog 34 #[.agg #[.int .i64 l, .int .i64 r, .int .i64 c]] w (RetCells1 w (kids l r c)) := by
  have s1 : IntKind.i64.wrap (2 * r) = 2 * r := IntWalk.i64_in _ (by omega)
  have s2 : IntKind.i64.wrap (2 * c) = 2 * c := IntWalk.i64_in _ (by clear s1; omega)
  go_enter Tryz.func34, Tryz.ntmps34
  go_wp2
  go_quiet (fail)
  clear s1 s2
  go_wp2
  go_ret
  refine ⟨.slice (some ⟨w.heap.size + 1, 0, none⟩) 4 4, rfl, own_new _ _ _ 3 4 _ _ (by simp) (by simp) rfl (by simp [maxLen]), ?_⟩
  repeat (first | exact Below.refl _ _ | assumption | refine bl_drew ?_ | refine bl_drewN ?_ _ | refine Below.setCell ?_ (by first | assumption | omega | (simp; done) | (simp; omega)) _ | refine Below.alloc ?_ (by first | assumption | omega | (simp; done) | (simp; omega)) _)
end Go.Proofs.YtienkfcliocjgaaGreat
/- Walks of Of, and the reference's Valid. -/
namespace Go.Proofs.YtienkfcliocjgaaGreat
open Go.RowKit
theorem vpt_yes (a b : Int) (hv : vptB a b = true) (w : World) : Calls Tryz.prog 16 #[.agg #[.int .i64 a, .int .i64 b]] w fun e w' => e = .returned (.bool true) ∧ Below w.heap.size w w' := by
  rw [← hv]; exact vpt_any a b w
theorem vpt_no (a b : Int) (hv : vptB a b = false) (w : World) : Calls Tryz.prog 16 #[.agg #[.int .i64 a, .int .i64 b]] w fun e w' => e = .returned (.bool false) ∧ Below w.heap.size w w' := by
  rw [← hv]; exact vpt_any a b w
set_option maxHeartbeats 1000000 in
theorem refValid_any (l r c : Int) (w : World) :
    Calls Tryz.prog 18 #[.agg #[.int .i64 l, .int .i64 r, .int .i64 c]] w fun e w' => e = .returned (.bool (vldB l r c)) ∧ Below w.heap.size w w' := by
  by_cases h0 : 0 ≤ l
  · by_cases h1 : l ≤ 16
    · have e1 : wrap64 (2 ^ l.toNat) = pw l := by rw [← IntWalk.i64_left]; exact pw_wrap h1
      have hp := pw_bd h1
      have hv : vldB l r c = decide (0 ≤ r ∧ r < pw l ∧ 0 ≤ c ∧ c < 2 * pw l) := by simp [vldB, h0, h1]
      rw [hv]
      clear hv
      have h0' : ¬ l < 0 := by omega
      go_enter Tryz.func18, Tryz.ntmps18
      go_wp2
      all_goals
        go_ret
        refine ⟨ret_bool (by clear e1; first | (simp_all; done) | (simp_all; omega)), ?_⟩
        repeat (first | exact Below.refl _ _ | assumption | refine bl_drew ?_ | refine bl_drewN ?_ _ | refine Below.setCell ?_ (by first | assumption | omega | (simp; done) | (simp; omega)) _ | refine Below.alloc ?_ (by first | assumption | omega | (simp; done) | (simp; omega)) _)
    · have hv : vldB l r c = false := by simp [vldB, h1]
      rw [hv]
      have h0' : ¬ l < 0 := by omega
      have h1' : 16 < l := by omega
      clear hv
      go_enter Tryz.func18, Tryz.ntmps18
      go_wp2
      go_ret
      refine ⟨rfl, ?_⟩
      repeat (first | exact Below.refl _ _ | assumption | refine bl_drew ?_ | refine bl_drewN ?_ _ | refine Below.setCell ?_ (by first | assumption | omega | (simp; done) | (simp; omega)) _ | refine Below.alloc ?_ (by first | assumption | omega | (simp; done) | (simp; omega)) _)
  · have hv : vldB l r c = false := by simp [vldB, h0]
    rw [hv]
    have h0' : l < 0 := by omega
    clear hv
    go_enter Tryz.func18, Tryz.ntmps18
    go_wp2
    go_ret
    refine ⟨rfl, ?_⟩
    repeat (first | exact Below.refl _ _ | assumption | refine bl_drew ?_ | refine bl_drewN ?_ _ | refine Below.setCell ?_ (by first | assumption | omega | (simp; done) | (simp; omega)) _ | refine Below.alloc ?_ (by first | assumption | omega | (simp; done) | (simp; omega)) _)
end Go.Proofs.YtienkfcliocjgaaGreat
namespace Go.Proofs.YtienkfcliocjgaaGreat
open Go.RowKit
theorem edg_zero (l : Int) : edg 0 l = 0 := by simp [edg]
theorem edg_le_iff {k l N : Int} (h1 : l ≤ 16) : edg k l ≤ N ↔ k ≤ (pn N l - 1) / 10800000 := by
  have hp := pw_bd h1
  unfold edg pn
  rw [← Int.lt_add_one_iff, Int.ediv_lt_iff_lt_mul (by omega), Int.le_ediv_iff_mul_le (by omega)]
  omega
theorem idx_char {k l N m : Int} (h1 : l ≤ 16) (hk : k ≤ m) (hle : edg k l ≤ N) (hx : k = m ∨ N < edg (k + 1) l) : idx N l m = k := by
  have a1 := (edg_le_iff h1).1 hle
  have a2 : k = m ∨ (pn N l - 1) / 10800000 < k + 1 := by
    rcases hx with hx | hx
    · exact .inl hx
    · right
      have : ¬ edg (k + 1) l ≤ N := by omega
      rw [edg_le_iff h1] at this
      omega
  unfold idx
  have e : (pn N l + 10799999) / 10800000 - 1 = (pn N l - 1) / 10800000 := by omega
  rw [e]
  generalize (pn N l - 1) / 10800000 = z at *
  omega

end Go.Proofs.YtienkfcliocjgaaGreat
