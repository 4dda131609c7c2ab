/- A list of numbers that is taken from at its front and grows at its end: a slice at an offset. -/
import Derived.Deep.AppendSrc
import Derived.Test.YtopfnffabaiceaaGGi
set_option linter.unusedVariables false
set_option linter.unusedSimpArgs false
namespace Go.Proofs.Ytopfnffabaiceaa
open Go.RowKit
structure Que (W : World) (B : Nat) (A : Option Addr) (n c : Nat) (T : List Nat) : Prop where
  len : T.length = n
  le : n ≤ c
  max : c ≤ maxLen
  spot : 0 < c → ∃ g d, A = some ⟨g, d, none⟩ ∧ B ≤ g ∧ g < W.heap.size ∧ (∀ j, j < c → (W.cell? ⟨g, d + j, none⟩).isSome = true) ∧ (∀ j, j < c → W.frozen? ⟨g, d + j, none⟩ = false) ∧ ∀ (j x : Nat), T[j]? = some x → W.cell? ⟨g, d + j, none⟩ = some (.int .i64 (x : Int))
section
variable {W W' : World} {B : Nat} {A : Option Addr} {n c : Nat} {T : List Nat}
theorem Que.bl (h : Que W B A n c T) (hb : Below W.heap.size W W') : Que W' B A n c T := by
  refine ⟨h.len, h.le, h.max, fun hc => ?_⟩
  obtain ⟨g, d, e, hg, hlt, h1, h2, h3⟩ := h.spot hc
  exact ⟨g, d, e, hg, Nat.lt_of_lt_of_le hlt hb.size, fun j hj => by rw [hb.cell (p := ⟨g, d + j, none⟩) hlt]; exact h1 j hj, fun j hj => (hb.frozen (p := ⟨g, d + j, none⟩) hlt).trans (h2 j hj), fun j x hx => (hb.cell (p := ⟨g, d + j, none⟩) hlt).trans (h3 j x hx)⟩
theorem Que.set (h : Que W B A n c T) {q o : Nat} (hq : q < B) (u : Value) : Que (W.setCell ⟨q, o, none⟩ u) B A n c T := by
  refine ⟨h.len, h.le, h.max, fun hc => ?_⟩
  obtain ⟨g, d, e, hg, hlt, h1, h2, h3⟩ := h.spot hc
  have hne : ∀ j, W.cell? ⟨g, d + j, none⟩ = (W.setCell ⟨q, o, none⟩ u).cell? ⟨g, d + j, none⟩ := fun j => (World.cell?_setCell_other _ _ _ _ (fun e => by injection e with e1; omega)).symm
  exact ⟨g, d, e, hg, by simpa using hlt, fun j hj => by rw [← hne]; exact h1 j hj, fun j hj => by rw [World.frozen?_setCell]; exact h2 j hj, fun j x hx => by rw [← hne]; exact h3 j x hx⟩
theorem Que.head {k : Nat} (h : Que W B A n c (k :: T)) : ∃ g d, A = some ⟨g, d, none⟩ ∧ g < W.heap.size ∧ W.cell? ⟨g, d, none⟩ = some (.int .i64 (k : Int)) := by
  have hl := h.len
  have := h.le
  simp only [List.length_cons] at hl
  obtain ⟨g, d, e, hg, hlt, h1, h2, h3⟩ := h.spot (by omega)
  exact ⟨g, d, e, hlt, by simpa using h3 0 k rfl⟩
theorem Que.tail {g d k : Nat} (h : Que W B (some ⟨g, d, none⟩) n c (k :: T)) {A' : Option Addr} (hA : c ≠ 1 → A' = some ⟨g, d + 1, none⟩) : Que W B A' (n - 1) (c - 1) T := by
  have hl := h.len
  have hle := h.le
  have hmx := h.max
  simp only [List.length_cons] at hl
  refine ⟨by omega, by omega, by omega, fun hc => ?_⟩
  obtain ⟨g', d', e, hg, hlt, h1, h2, h3⟩ := h.spot (by omega)
  injection e with e
  injection e with e1 e2
  subst e1 e2
  refine ⟨g, d + 1, hA (by omega), hg, hlt, fun j hj => ?_, fun j hj => ?_, fun j x hx => ?_⟩
  · have := h1 (j + 1) (by omega); rwa [show d + (j + 1) = d + 1 + j by omega] at this
  · have := h2 (j + 1) (by omega); rwa [show d + (j + 1) = d + 1 + j by omega] at this
  · have := h3 (j + 1) x (by simpa using hx); rwa [show d + (j + 1) = d + 1 + j by omega] at this
theorem Que.mono {B' : Nat} (h : Que W B A n c T) (hb : B' ≤ B) : Que W B' A n c T := ⟨h.len, h.le, h.max, fun hc => by
  obtain ⟨g, d, e, hg, r⟩ := h.spot hc
  exact ⟨g, d, e, by omega, r⟩⟩
theorem Que.one {g k : Nat} (hB : B ≤ g) (hg : g < W.heap.size) (h : W.cell? ⟨g, 0, none⟩ = some (.int .i64 (k : Int))) (hf : W.frozen? ⟨g, 0, none⟩ = false) : Que W B (some ⟨g, 0, none⟩) 1 1 [k] := by
  refine ⟨rfl, Nat.le_refl _, by simp [maxLen], fun _ => ⟨g, 0, rfl, hB, hg, fun j hj => ?_, fun j hj => ?_, fun j x hx => ?_⟩⟩
  · obtain rfl : j = 0 := by omega
    rw [h]; rfl
  · obtain rfl : j = 0 := by omega
    exact hf
  · match j, hx with
    | 0, hx => simp at hx; subst hx; exact h
    | j + 1, hx => simp at hx
end
theorem ivs_get (T : List Nat) (j : Nat) (u : Value) (h : (ivs T)[j]? = some u) : ∃ x, T[j]? = some x ∧ u = .int .i64 (x : Int) := by
  unfold ivs at h
  rw [List.getElem?_map] at h
  cases e : T[j]? with
  | none => rw [e] at h; cases h
  | some x => rw [e] at h; exact ⟨x, rfl, by simpa using h.symm⟩
section
variable {P : Program}
theorem run_que (W : World) (t ty e : TypeId) (i : TypeInfo) (ht : P.underlying t = some (.slice e)) (hi : P.info? e = some i) (hz : i.zero = some (.int .i64 0)) (hsize : i.size = 1) (hby : i.bytes = 8)
    {B n c : Nat} {A : Option Addr} {T : List Nat} (h : Que W B A n c T) (s x c' : Nat) (hx : W.cell? ⟨s, 0, none⟩ = some (.int .i64 (x : Int))) (hB : B ≤ W.heap.size) (hn : n ≤ 100000) :
    ∃ A' c2 W', (Builtin.append_ #[t, t] ty #[.slice A n c, .slice (some ⟨s, 0, none⟩) 1 c']).run P W = .ok (.slice A' (n + 1) c2) W' ∧ Que W' B A' (n + 1) c2 (T ++ [x]) ∧ Below B W W' := by
  have hl := h.len
  have hle := h.le
  have hmx := h.max
  have hs : Src P i.size t (.slice (some ⟨s, 0, none⟩) 1 c') 1 [.int .i64 (x : Int)] W := Src.ofSlice W ht _ 1 c' _ (by simp [hsize]) (fun j u hu => by
    match j, hu with
    | 0, hu => simp at hu; subst hu; simpa [Addr.add] using hx
    | j + 1, hu => simp at hu) (by simp [Value.oneCell'])
  by_cases hroom : n + 1 ≤ c
  · obtain ⟨g, d, rfl, hg, hlt, hc, hf, hT⟩ := h.spot (by omega)
    have hr := run_append_room_src (P := P) W t t ty e i ht hi g d n c _ 1 _ hs hroom (fun j hj => by
      simp only [List.length_cons, List.length_nil] at hj
      obtain rfl : j = 0 := by omega
      rw [hsize]; simpa using hc n (by omega)) (fun j hj => by
      simp only [List.length_cons, List.length_nil] at hj
      obtain rfl : j = 0 := by omega
      rw [hsize, Nat.mul_one, Nat.add_zero]; exact hf n (by omega))
    rw [hsize, Nat.mul_one] at hr
    obtain ⟨u0, hu0⟩ := Option.isSome_iff_exists.1 (hc n (by omega))
    have hsame : (W.setCell ⟨g, d + n, none⟩ (.int .i64 (x : Int))).cell? ⟨g, d + n, none⟩ = some (.int .i64 (x : Int)) := World.cell?_setCell_same _ _ _ hu0
    have hother : ∀ j, j ≠ n → (W.setCell ⟨g, d + n, none⟩ (.int .i64 (x : Int))).cell? ⟨g, d + j, none⟩ = W.cell? ⟨g, d + j, none⟩ := fun j hj => World.cell?_setCell_other _ _ _ _ (fun e => by injection e with _ e2; omega)
    refine ⟨_, _, _, hr, ⟨by simp [hl], hroom, hmx, fun _ => ⟨g, d, rfl, hg, by simpa [World.setCells] using hlt, fun j hj => ?_, fun j hj => by show (W.setCell _ _).frozen? _ = false; rw [World.frozen?_setCell]; exact hf j hj, fun j y hy => ?_⟩⟩, (Below.refl _ _).setCell hg _⟩
    · show ((W.setCell ⟨g, d + n, none⟩ (.int .i64 (x : Int))).cell? ⟨g, d + j, none⟩).isSome = true
      by_cases e : j = n
      · subst e; rw [hsame]; rfl
      · rw [hother j e]; exact hc j hj
    · show (W.setCell ⟨g, d + n, none⟩ (.int .i64 (x : Int))).cell? ⟨g, d + j, none⟩ = _
      by_cases e : j = n
      · subst e
        rw [List.getElem?_append_right (by omega), hl] at hy
        simp at hy
        subst hy; exact hsame
      · rw [hother j e]
        refine hT j y ?_
        by_cases g : j < T.length
        · rwa [List.getElem?_append_left g] at hy
        · rw [List.getElem?_append_right (by omega), List.getElem?_eq_none (by simp; omega)] at hy; cases hy
  · have hold : (Builtin.firstCells i.size n (.slice A n c)).run P W.drew = .ok (ivs T).toArray W.drew := by
      rcases Nat.eq_zero_or_pos n with h0 | h0
      · subst h0
        obtain rfl : T = [] := List.eq_nil_of_length_eq_zero hl
        rcases A with _ | ad
        · exact run_firstCells_none W.drew i.size 0 0 c
        · exact run_firstCells_some W.drew i.size 0 ad 0 c [] (by simp) (fun j u hu => by simp at hu)
      · obtain ⟨g, d, rfl, hg, hlt, hc, hf, hT⟩ := h.spot (by omega)
        refine run_firstCells_some W.drew i.size n _ n c (ivs T) (by simp [ivs, hl, hsize]) (fun j u hu => ?_)
        obtain ⟨y, hy, rfl⟩ := ivs_get T j u hu
        rw [Go.WideShapes.add_plain]
        simpa using hT j y hy
    have hr := run_append_grow_src (P := P) W t t ty e i (.int .i64 0) ht hi hz A n c (ivs T) hold _ 1 _ hs (by omega) (by omega) (growslice_fits (by omega) (by rw [hby]; omega))
    have hge := grownCap_ge W (n + 1) c e
    have hcm : grownCap W (n + 1) c e ≤ maxLen := grownCap_le_maxLen W (n + 1) c e (by simp only [maxLen]; omega)
    have hb := Blk.new W.drew e ((ivs T ++ [Value.int .i64 (x : Int)]).toArray ++ Builtin.zeroCells (Value.int .i64 0).cells (grownCap W (n + 1) c e - (n + 1)))
    have hsz : ((ivs T ++ [Value.int .i64 (x : Int)]).toArray ++ Builtin.zeroCells (Value.int .i64 0).cells (grownCap W (n + 1) c e - (n + 1))).size = grownCap W (n + 1) c e := by
      simp only [Array.size_append, List.size_toArray, List.length_append, size_zeroCells]
      simp [ivs, hl, Value.cells]
      omega
    refine ⟨_, _, _, hr, ⟨by simp [hl], hge, hcm, fun _ => ⟨_, 0, rfl, hB, by simp, fun j hj => ?_, fun j hj => ?_, fun j y hy => ?_⟩⟩, (bl_drew (Below.refl _ _)).alloc (by simpa using hB) _⟩
    · rw [Nat.zero_add]
      have := Blk.cell hb j
      simp only [World.size_drew] at this
      rw [this, Array.getElem?_eq_getElem (by omega)]; rfl
    · rw [Nat.zero_add]
      exact Blk.frozen hb j
    · rw [Nat.zero_add]
      have := Blk.cell hb j
      simp only [World.size_drew] at this
      rw [this]
      have hjl : j < (T ++ [x]).length := by
        rcases Nat.lt_or_ge j (T ++ [x]).length with q | q
        · exact q
        · rw [List.getElem?_eq_none q] at hy; cases hy
      have hjl2 : j < n + 1 := by simpa [hl] using hjl
      rw [Array.getElem?_append_left (by simp [ivs, hl]; omega)]
      simp only [List.getElem?_toArray]
      have e2 : ivs T ++ [Value.int .i64 (x : Int)] = ivs (T ++ [x]) := by simp [ivs]
      rw [e2]
      exact ivs_at hy
theorem wp_que {o : Oper} {a : Act} {K : Act → World → Prop} {Q : Exit → Act → World → Prop} (W : World) (s x : Operand) (t : TypeId)
    (ho : o.op = .call { callee := .builtin .append, args := #[s, x], argTypes := #[t, t] })
    (e : TypeId) (i : TypeInfo) (ht : P.underlying t = some (.slice e)) (hi : P.info? e = some i) (hz : i.zero = some (.int .i64 0)) (hsize : i.size = 1) (hby : i.bytes = 8)
    {B n c : Nat} {A : Option Addr} {T : List Nat} (h : Que W B A n c T) (b y c' : Nat) (hs : a.eval s = .slice A n c) (hx : a.eval x = .slice (some ⟨b, 0, none⟩) 1 c') (hy : W.cell? ⟨b, 0, none⟩ = some (.int .i64 (y : Int))) (hB : B ≤ W.heap.size) (hn : n ≤ 100000)
    (hk : ∀ A' c2 W', Que W' B A' (n + 1) c2 (T ++ [y]) → Below B W W' → K (a.put o.dst (.slice A' (n + 1) c2)) W') : o.wp P a W K Q := by
  obtain ⟨A', c2, W', hrun, h2, h3⟩ := run_que (P := P) W t o.type e i ht hi hz hsize hby h b y c' hy hB hn
  unfold Oper.wp execOp
  simp only [ho, resolve, invoke, builtin, Sem.run_bind, Sem.run_pure, Result.andThen_ok, List.map_toArray, List.map_cons, List.map_nil, hs, hx, hrun]
  exact hk A' c2 W' h2 h3
theorem wpList_que {ops : Array Oper} {rest : List Oper} {o : Oper} {a : Act} {Q : Exit → Act → World → Prop} (W : World) (hgd : o.guard = none) (s x : Operand) (t : TypeId)
    (ho : o.op = .call { callee := .builtin .append, args := #[s, x], argTypes := #[t, t] })
    (e : TypeId) (i : TypeInfo) (ht : P.underlying t = some (.slice e)) (hi : P.info? e = some i) (hz : i.zero = some (.int .i64 0)) (hsize : i.size = 1) (hby : i.bytes = 8)
    {B n c : Nat} {A : Option Addr} {T : List Nat} (h : Que W B A n c T) (b y c' : Nat) (hs : a.eval s = .slice A n c) (hx : a.eval x = .slice (some ⟨b, 0, none⟩) 1 c') (hy : W.cell? ⟨b, 0, none⟩ = some (.int .i64 (y : Int))) (hB : B ≤ W.heap.size) (hn : n ≤ 100000)
    (hk : ∀ A' c2 W', Que W' B A' (n + 1) c2 (T ++ [y]) → Below B W W' → wpList P ops Q rest (a.put o.dst (.slice A' (n + 1) c2)) W') : wpList P ops Q (o :: rest) a W :=
  wpList_plain hgd fun _ hK => wp_que W s x t ho e i ht hi hz hsize hby h b y c' hs hx hy hB hn fun A' c2 W' h2 h3 => hK _ _ (hk A' c2 W' h2 h3)
end
end Go.Proofs.Ytopfnffabaiceaa
