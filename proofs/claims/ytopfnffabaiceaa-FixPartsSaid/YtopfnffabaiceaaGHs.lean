/- The iterator idiom over a slice of arcs: slices.Values, slices.AppendSeq, slices.Collect. -/
import Derived.RangeFuncNested
import Derived.RangeFuncBound
import Derived.RangeFuncCalls
import Derived.RangeFuncLeaves
import Derived.RangeFuncBox
import Derived.Shelf.Abstract
import Derived.Shelf.RegionOpen
import Derived.WalkKit
import Derived.OwnWalkIn
import Derived.TacticsInMore
import Derived.LoopNIn
import Derived.LoopIn
import Derived.Maps.AppendAt
import Derived.Test.YtopfnffabaiceaaGHp
import Derived.Test.YtopfnffabaiceaaGRe
import Derived.Test.YtopfnffabaiceaaGShelf
set_option linter.unusedVariables false
set_option linter.unusedSimpArgs false
/- The walk of slices.EqualFunc at rows of cells, and of the law's closure. -/
namespace Go.Proofs.Ytopfnffabaiceaa
open Go.RowKit
/-- a row of the rows, as a slice of cells -/
theorem Rws.at_ {W : World} {B : Nat} {v : Value} {LL : List (List Cl)} {vs : List Value} (h : Rws W B v LL vs) {k : Nat} (hk : k < LL.length) : ∃ A c, vs[k]? = some (.slice A (gl LL k).length c) ∧ Reads W W.heap.size 3 A (gl LL k).length (cvs (gl LL k)) := by
  have hl := h.len
  have hu : vs[k]? = some vs[k] := List.getElem?_eq_getElem (by omega)
  obtain ⟨A, c, e, hr, -, -⟩ := own_form (h.one k _ hu)
  exact ⟨A, c, by rw [hu, e], hr⟩
set_option maxHeartbeats 4000000 in
set_option maxRecDepth 100000 in
/-- slices.EqualFunc at equal rows, with slices.Equal -/
theorem EqualFunc_yes (v1 v2 : Value) (B1 B2 : Nat) (LL : List (List Cl)) (vs1 vs2 : List Value) (w : World) (h1 : Rws w B1 v1 LL vs1) (h2 : Rws w B2 v2 LL vs2) (hn : LL.length ≤ 4000) (hm : ∀ k, k < LL.length → (gl LL k).length ≤ 4000) :
    Calls Try.prog 8 #[v1, v2, .func (.func 10) #[] #[]] w fun e w' => e = .returned (.bool true) ∧ ∃ q, w' = w.drewN q := by
  have eg := enters_of Try.func10 (by kernel_rfl) rfl
  obtain ⟨A1, c1, hv1, ra1, -, -⟩ := own_form h1.row
  obtain ⟨A2, c2, hv2, ra2, -, -⟩ := own_form h2.row
  subst hv1 hv2
  obtain ⟨N, hN⟩ : ∃ N, LL.length = N := ⟨_, rfl⟩
  rw [hN] at ra1 ra2
  have RA1 := Lib.hid ra1
  have RA2 := Lib.hid ra2
  have H1 := Lib.hid h1
  have H2 := Lib.hid h2
  have HM := Lib.hid hm
  have HN := Lib.hid hN
  simp only [hN] at hn ⊢
  have nb : ((N : Int) != (N : Int)) = false := by simp
  clear ra1 ra2 h1 h2 hm hN
  go_enter Try.func8, Try.ntmps8
  go_wp2
  go_loopw [17] (fun i wr => ∃ k q : Nat, k ≤ N ∧ i = .int .i64 k ∧ wr = w.drewN q) (fun i _ => N - (intOf i).toNat)
  case atStart => exact ⟨0, 0, Nat.zero_le _, rfl, rfl⟩
  case round =>
    obtain ⟨k, q, hk, rfl, rfl⟩ := hrel
    by_cases hlt : k < N
    · obtain ⟨U1, d1, e1, r1⟩ := H1.out.at_ (k := k) (by rw [HN.out]; exact hlt)
      obtain ⟨U2, d2, e2, r2⟩ := H2.out.at_ (k := k) (by rw [HN.out]; exact hlt)
      obtain ⟨b1, o1, rfl, hb1, x1⟩ := Reads.elem1 RA1.out e1
      obtain ⟨b2, o2, rfl, hb2, x2⟩ := Reads.elem1 RA2.out e2
      have hmk := HM.out k (by rw [HN.out]; exact hlt)
      have KE := Lib.hid (Equal_any U1 U2 (gl LL k).length (gl LL k).length d1 d2 (gl LL k) (gl LL k) (w.drewN q) _ _ (r1.drewN q) (r2.drewN q) (by simp only [maxLen]; omega) (by simp only [maxLen]; omega))
      rw [decide_eq_true (rfl : gl LL k = gl LL k)] at KE
      generalize (gl LL k).length = m at *
      clear r1 r2 e1 e2
      go_wp2_with fail
      (with_reducible refine KE.out.mono ?_)
      rintro e w5 ⟨rfl, q5, rfl⟩
      go_wp2
      go_roundw
      case rel => exact ⟨k + 1, _, by omega, by go_num, rfl⟩
      case measure => simp [intOf]; omega
    · obtain rfl : k = N := by omega
      go_wp2
      go_ret
      exact ⟨rfl, q, rfl⟩
set_option maxHeartbeats 1000000 in
set_option maxRecDepth 100000 in
theorem idxIn_any (g : Nat) (lb : Array Value) (p : Cl → Bool) (eg : ∀ args w, (callFunc g args).run Try.prog w = .ok (.enter g args) w) (A : Option Addr) (n c : Nat) (L : List Cl) (w : World)
    (hr : Reads w w.heap.size 3 A n (cvs L)) (hn : n ≤ maxLen) (hp : ∀ (W : World) (x : Cl), x ∈ L → Below w.heap.size w W → Calls Try.prog g (#[cva x] ++ lb) W fun e w' => e = .returned (.bool (p x)) ∧ Below W.heap.size W w') :
    Calls Try.prog 30 #[.slice A n c, .func (.func g) #[] lb] w (IdxPost w (L.any p)) := by
  have HL := Lib.hid hr.len
  have HR := Lib.hid hr
  have HP := Lib.hid hp
  clear hr hp
  unfold maxLen at hn
  go_enter Try.func30, Try.ntmps30
  go_wp2
  go_loopg [8] n (fun gg s8 wr => ∃ kk : Nat, kk ≤ n ∧ n - kk ≤ gg ∧ s8 = .int .i64 kk ∧ Below w.heap.size w wr ∧ (L.take kk).any p = false)
  case atStart => exact ⟨0, Nat.zero_le _, by omega, rfl, Below.refl _ w, rfl⟩
  case round =>
    obtain ⟨kk, hkk, hg, rfl, BW, HA⟩ := hrel
    have HA := Lib.hid HA
    by_cases hlt : kk < n
    · obtain ⟨b, off, rfl, hb, x1, x2, x3⟩ := HR.out.elem hlt
      have y1 := (BW.cell (p := ⟨b, off + kk * 3, none⟩) hb).trans x1
      have y2 := (BW.cell (p := ⟨b, off + kk * 3 + 1, none⟩) hb).trans x2
      have y3 := (BW.cell (p := ⟨b, off + kk * 3 + 2, none⟩) hb).trans x3
      clear x1 x2 x3
      have hcall := HP.out wr (gt L kk) (gt_mem L kk (by rw [HL.out]; exact hlt)) BW
      have h1 := Lib.hid (any_take_succ L p kk (by rw [HL.out]; exact hlt) HA.out)
      have h2 := Lib.hid (any_of_gt L p kk (by rw [HL.out]; exact hlt))
      cases hq : p (gt L kk) with
      | true =>
        have h3 := Lib.hid (h2.out hq)
        rw [hq] at hcall
        have hcall := Lib.hid hcall
        clear hq h1 h2
        go_wp2_with (go_at_fn g; refine hcall.out.mono ?_; rintro e w' ⟨rfl, hb'⟩)
        go_ret
        exact ⟨kk, rfl, by rw [h3.out]; simp, BW.trans (hb'.mono BW.size)⟩
      | false =>
        have h3 := Lib.hid (h1.out hq)
        rw [hq] at hcall
        have hcall := Lib.hid hcall
        clear hq h1 h2
        go_wp2_with (go_at_fn g; refine hcall.out.mono ?_; rintro e w' ⟨rfl, hb'⟩)
        go_roundg (n - (kk + 1))
        case measure => omega
        case rel => exact ⟨kk + 1, by omega, by omega, by go_num, BW.trans (hb'.mono BW.size), h3.out⟩
    · go_wp2
      go_ret
      have h := HA.out
      rw [List.take_of_length_le (by rw [HL.out]; omega)] at h
      exact ⟨-1, rfl, by rw [h]; rfl, BW⟩

set_option maxHeartbeats 1000000 in
theorem contIn_any (g : Nat) (lb : Array Value) (p : Cl → Bool) (eg : ∀ args w, (callFunc g args).run Try.prog w = .ok (.enter g args) w) (A : Option Addr) (n c : Nat) (L : List Cl) (w : World)
    (hr : Reads w w.heap.size 3 A n (cvs L)) (hn : n ≤ maxLen) (hp : ∀ (W : World) (x : Cl), x ∈ L → Below w.heap.size w W → Calls Try.prog g (#[cva x] ++ lb) W fun e w' => e = .returned (.bool (p x)) ∧ Below W.heap.size W w') :
    Calls Try.prog 11 #[.slice A n c, .func (.func g) #[] lb] w fun e w' => e = .returned (.bool (L.any p)) ∧ Below w.heap.size w w' := by
  have H := Lib.hid (idxIn_any g lb p eg A n c L w hr hn hp)
  clear hp hr hn eg
  go_enter Try.func11, Try.ntmps11
  go_wp2_with (go_at_call 30; refine H.out.mono ?_; rintro e w1 ⟨k, rfl, hk, hb⟩; have HK := Lib.hid hk; clear hk)
  go_ret
  exact ⟨ret_bool HK.out, hb⟩
/-- one cell that is known -/
structure K3 (W : World) (g : Nat) (x : Cl) : Prop where
  lt : g < W.heap.size
  c0 : W.cell? ⟨g, 0, none⟩ = some (.int .i64 x.1)
  c1 : W.cell? ⟨g, 1, none⟩ = some (.int .i64 x.2.1)
  c2 : W.cell? ⟨g, 2, none⟩ = some (.int .i64 x.2.2)
theorem K3.below {W W' : World} {g B : Nat} {x : Cl} (h : K3 W g x) (hb : Below B W W') (hB : g < B) : K3 W' g x :=
  ⟨Nat.lt_of_lt_of_le h.lt hb.size, (hb.cell (p := ⟨g, 0, none⟩) hB).trans h.c0, (hb.cell (p := ⟨g, 1, none⟩) hB).trans h.c1, (hb.cell (p := ⟨g, 2, none⟩) hB).trans h.c2⟩
set_option maxHeartbeats 1000000 in
set_option maxRecDepth 100000 in
/-- the law's closure: whether a captured cell touches another -/
theorem clos_any (g : Nat) (x y : Cl) (hx : Vl x) (hy : Vl y) (W : World) (hg : K3 W g x) : Calls Try.prog 12 #[.agg #[.int .i64 y.1, .int .i64 y.2.1, .int .i64 y.2.2], .pointer (some ⟨g, 0, none⟩)] W fun e w' => e = .returned (.bool (tchB (bxI x) (bxI y))) ∧ Below W.heap.size W w' := by
  have KT := Lib.hid (fun W => Touch_any x y hx hy W)
  obtain ⟨x0, x1, x2⟩ := x
  obtain ⟨y0, y1, y2⟩ := y
  obtain ⟨hl, c0, c1, c2⟩ := hg
  generalize tchB (bxI (x0, x1, x2)) (bxI (y0, y1, y2)) = t at *
  simp only [] at KT c0 c1 c2
  have hne : ¬ g = W.heap.size := by omega
  go_enter Try.func12, Try.ntmps12
  go_wp2_with fail
  (with_reducible refine (KT.out _).mono ?_)
  rintro e w5 ⟨rfl, hb5⟩
  go_wp2
  go_ret
  exact ⟨rfl, (bl_alloc W _).trans (hb5.mono (by simp))⟩
end Go.Proofs.Ytopfnffabaiceaa
namespace Go.Proofs.Ytopfnffabaiceaa
open Go.RowKit Go.Shelf
theorem take_gs (D : List Sp) {k : Nat} (h : k < D.length) : D.take (k + 1) = D.take k ++ [gs D k] := by
  rw [List.take_succ_eq_append_getElem h]; simp [gs, h]
theorem arc_cells (W : World) (x : Sp) (t : TypeId) : ∀ (j : Nat) (u : Value), [Value.int .i64 x.1, .int .i64 x.2][j]? = some u → (W.alloc (.cells #[.int .i64 x.1, .int .i64 x.2] t)).cell? ((⟨W.heap.size, 0, none⟩ : Addr).add j) = some u := fun j u hu => by
  match j, hu with
  | 0, hu => simp at hu; subst hu; simp [Addr.add]
  | 1, hu => simp at hu; subst hu; simp [Addr.add]
  | j + 2, hu => simp at hu
set_option maxRecDepth 100000 in
set_option maxHeartbeats 4000000 in
/-- the iterator of slices.Values at arcs, for every body that keeps what lay below n₀ -/
theorem values1_in (F : Fence) (n : Nat) (h7 : F.fn 128) (hro : F.round = none) (hn : 1 ≤ n) (l Bs n₀ b off len cap : Nat) (D : List Sp) (hlen : D.length = len) (hreach : len * 16 ≤ 140737488351232) (hb : b < n₀) (J Jx : List Sp → World → Prop)
    (hY : ∀ pre x W, J pre W → pre.length < len → YieldAt F (n - 1) Try.prog l #[.agg #[.int .i64 x.1, .int .i64 x.2]] W fun e W' =>
      (e = .returned (.bool true) ∧ J (pre ++ [x]) W' ∧ Below n₀ W W') ∨ (e = .returned (.bool false) ∧ Jx (pre ++ [x]) W'))
    (W : World) (hJ : AbidesFrom W.heap.size J) (hn₀ : n₀ ≤ W.heap.size) (hBs : W.cell? ⟨Bs, 0, none⟩ = some (.slice (some ⟨b, off, none⟩) len cap)) (hc : ∀ j, j < len → W.cell? ⟨b, off + j * 2, none⟩ = some (.int .i64 (gs D j).1) ∧ W.cell? ⟨b, off + j * 2 + 1, none⟩ = some (.int .i64 (gs D j).2)) (h0 : J [] W) :
    CallsIn F n Try.prog 128 #[.func (.yield l) #[] #[], .pointer (some ⟨Bs, 0, none⟩)] W fun e W' => (∃ v, e = .returned v) ∧
      ((∃ ys, ys = D ∧ J ys W') ∨ (∃ pre, pre <+: D ∧ Jx pre W')) := by
  have hsa := @Oper.semAt_some
  refine callsIn_of_wp Try.func128 rfl h7 ?_ hro
  simp only [Try.ntmps128, List.size_toArray, List.length_cons, List.length_nil, Nat.reduceAdd, Nat.reduceSub, Array.replicate_succ, Array.replicate_zero, List.push_toArray, List.append_toArray, List.nil_append, List.cons_append]
  gi_wp2
  gi_loopw [7] (fun i wr => ∃ k : Nat, k ≤ len ∧ i = .int .i64 k ∧ J (D.take k) wr ∧ Below n₀ W wr)
    (fun i _ => len - (intOf i).toNat)
  case atStart => exact ⟨0, Nat.zero_le _, rfl, h0, Below.refl _ _⟩
  case round =>
    obtain ⟨k, hk, rfl, hJs, hnx⟩ := hrel
    by_cases hlt : k < len
    · obtain ⟨c1, c2⟩ := hc k hlt
      have d1 := (hnx.cell (p := ⟨b, off + k * 2, none⟩) hb).trans c1
      have d2 := (hnx.cell (p := ⟨b, off + k * 2 + 1, none⟩) hb).trans c2
      have hJ2 := hJ _ wr (wr.alloc (.cells #[.int .i64 (gs D k).1, .int .i64 (gs D k).2] 42)) none hJs (World.grownBy_alloc wr _ none) (fun r e => by cases e)
      have hnx2 := hnx.alloc (by have := hnx.size; omega) (.cells #[.int .i64 (gs D k).1, .int .i64 (gs D k).2] 42)
      obtain ⟨fn, tmps, assign, body, hy, hR⟩ := hY _ (gs D k) _ hJ2 (by rw [List.length_take]; omega)
      (try dsimp only at hy)
      gi_wp2
      refine hR.mono ?_
      rintro e W3 (⟨rfl, hJ3, hk3⟩ | ⟨rfl, hJx3⟩)
      · gi_wp2
        go_roundw
        case rel => exact ⟨k + 1, by omega, by simp, by rw [take_gs D (by omega)]; exact hJ3, hnx2.trans hk3⟩
        case measure => simp [intOf]; omega
      · gi_wp2
        refine bodyPost_ret (results_none rfl _ _ _) rfl ?_
        exact ⟨⟨_, rfl⟩, .inr ⟨_, by rw [← take_gs D (by omega)]; exact List.take_prefix _ _, hJx3⟩⟩
    · obtain rfl : k = len := by omega
      gi_wp2
      go_end0
      exact ⟨⟨_, rfl⟩, .inl ⟨_, List.take_of_length_le (by omega), hJs⟩⟩
set_option maxHeartbeats 1000000 in
/-- slices.Values at arcs: the slice is boxed; the function value captures the box -/
theorem values_in (F : Fence) (n : Nat) (h5 : F.fn 94) (hro : F.round = none) (a : Option Addr) (len cap : Nat) (w : World) :
    CallsIn F n Try.prog 94 #[.slice a len cap] w fun e w' => e = .returned (.func (.func 128) #[] #[.pointer (some ⟨w.heap.size, 0, none⟩)]) ∧ w' = w.alloc (.cells #[.slice a len cap] 39) := by
  refine callsIn_of_wp Try.func94 rfl h5 ?_ hro
  simp only [Try.ntmps94, List.size_toArray, List.length_cons, List.length_nil, Nat.reduceAdd, Nat.reduceSub, Array.replicate_succ, Array.replicate_zero, List.push_toArray, List.append_toArray, List.nil_append, List.cons_append]
  gi_wp2
  go_ret
  exact ⟨rfl, rfl⟩
theorem values_stops (F : Fence) (n : Nat) (h7 : F.fn 128) (hro : F.round = none) (hn : 1 ≤ n) (Bs n₀ : Nat) (b off cap : Nat) (D : List Sp) (hreach : D.length * 16 ≤ 140737488351232) (w : World) (hBs : Bs < w.heap.size) (hn₀ : n₀ ≤ w.heap.size)
    (hc : w.cell? ⟨Bs, 0, none⟩ = some (.slice (some ⟨b, off, none⟩) D.length cap)) (hb : b < n₀) (hI : ∀ j, j < D.length → w.cell? ⟨b, off + j * 2, none⟩ = some (.int .i64 (gs D j).1) ∧ w.cell? ⟨b, off + j * 2 + 1, none⟩ = some (.int .i64 (gs D j).2)) :
    SeqStopsK F n Try.prog 128 #[.pointer (some ⟨Bs, 0, none⟩)] (fun x : Sp => #[.agg #[.int .i64 x.1, .int .i64 x.2]]) (Below n₀) (fun ys => ys = D) (fun pre => pre <+: D) D.length w := fun l J Jx W hW hJ _ hY h0 =>
  values1_in F n h7 hro hn l Bs n₀ b off D.length cap D rfl hreach hb J Jx hY W hJ (by have := hW.size; omega) ((hW.cell (p := ⟨Bs, 0, none⟩) hBs).trans hc) (fun j hj => ⟨(hW.cell (p := ⟨b, off + j * 2, none⟩) (by simp only []; omega)).trans (hI j hj).1, (hW.cell (p := ⟨b, off + j * 2 + 1, none⟩) (by simp only []; omega)).trans (hI j hj).2⟩) h0
theorem blk_own (B : Nat) (t : TypeId) (cs : Array Value) : Own (fun (_ : Unit) W => Blk W B t cs) := fun s X Y row hs hg hrow => Blk.grown hs hg (fun e' => by
  obtain ⟨o, ho, hc⟩ := hrow B e'.symm
  rw [show X.heap[B]? = _ from hs] at ho; cases ho; cases hc)
set_option maxRecDepth 100000 in
set_option maxHeartbeats 4000000 in
/-- slices.AppendSeq at arcs, onto nothing -/
theorem appendSeq_in (F : Fence) (n : Nat) (h4 : F.fn 144) (hro : F.round = none) (hn : 2 ≤ n) (g : Nat) (lb : Array Value) (hFg : F.fn g) (eg : ∀ args w, (callFunc g args).run Try.prog w = .ok (.enter g args) w)
    (D : List Sp) (n₀ : Nat) (w0 w : World) (hseq : SeqStopsK F (n - 1) Try.prog g lb (fun x : Sp => #[.agg #[.int .i64 x.1, .int .i64 x.2]]) (Below n₀) (fun ys => ys = D) (fun pre => pre <+: D) D.length w0) (hb0 : Below w0.heap.size w0 w) (hn₀ : n₀ ≤ w.heap.size) (hlen : D.length ≤ 100000) :
    CallsIn F n Try.prog 144 #[.slice none 0 0, .func (.func g) #[] lb] w fun e W' => ∃ v, e = .returned v ∧ W'.ownsRow w.heap.size 42 2 v D.length (spvs D) ∧ Below w.heap.size w W' := by
  have h1 : 1 ≤ n := by omega
  have hsa := @Oper.semAt_some
  obtain ⟨i0, hi, hz0, hz1, hz2⟩ : ∃ i0, Try.prog.info? 42 = some i0 ∧ i0.zero = some (.agg #[.int .i64 0, .int .i64 0]) ∧ i0.size = 2 ∧ i0.bytes = 16 := by
    have h : (Try.prog.info? 42).map (fun i => (i.zero, i.size, i.bytes)) = some (some (.agg #[.int .i64 0, .int .i64 0]), 2, 16) := by kernel_rfl
    obtain ⟨i0, a, b, c, d⟩ := info_parts h
    exact ⟨i0, a, b, c, d⟩
  refine callsIn_of_wp_marks Try.func144 rfl h4 ?_ hro
  simp only [Try.ntmps144, List.size_toArray, List.length_cons, List.length_nil, Nat.reduceAdd, Nat.reduceSub, Array.replicate_succ, Array.replicate_zero, List.push_toArray, List.append_toArray, List.nil_append, List.cons_append]
  gi_wp2
  have bO := Boxed.new w 39 (.slice none 0 0)
  have hB0 : Below w.heap.size w (w.alloc (.cells #[.slice none 0 0] 39)) := (Below.refl _ w).alloc (Nat.le_refl _) _
  have hsz : (w.alloc (.cells #[.slice none 0 0] 39)).heap.size = w.heap.size + 1 := by simp
  obtain ⟨W0, hW0⟩ : ∃ W0, w.alloc (.cells #[.slice none 0 0] 39) = W0 := ⟨_, rfl⟩
  rw [hW0] at bO hB0 hsz ⊢
  clear hW0
  refine wpIn_rangeFunc_ownH hro h1 (gf := g) (lb := lb) rfl hFg eg hseq belowK_t (belowK_b (by omega)) (hb0.trans (hB0.mono hb0.size)) (fun _ => rfl)
    (fun pre W => (∃ v, Boxed W w.heap.size 39 v ∧ W.ownsRow w.heap.size 42 2 v pre.length (spvs pre) ∧ True) ∧ Below w.heap.size w W)
    (fun _ _ _ => False)
    (OwnFrom.and (Own.from (holdsRow_own w.heap.size w.heap.size 39 42 2 (fun pre : List Sp => pre.length) (fun pre => spvs pre) (fun _ _ => True)) _) (ownFrom_below (Nat.le_refl _) (by omega)))
    (fun _ _ _ _ _ hs _ _ => hs)
    ⟨⟨_, bO, World.ownsRow_nil _ _ _ _, trivial⟩, hB0⟩
    (fun x a' W => ∃ Bx, w.heap.size < Bx ∧ Blk W Bx 42 #[.int .i64 x.1, .int .i64 x.2] ∧ a' = { tmps := #[.slice none 0 0, .func (.func g) #[] lb, .pointer (some ⟨w.heap.size, 0, none⟩), undef, .slice none 0 0, .pointer (some ⟨Bx, 0, none⟩), .func (.func g) #[] lb, .agg #[.int .i64 x.1, .int .i64 x.2], undef, undef, undef, undef, undef], defers := [] })
    (fun x a' _ X Y row hs hg hr => by obtain ⟨Bx, h1, h2, h3⟩ := hs; exact ⟨Bx, h1, blk_own Bx 42 #[.int .i64 x.1, .int .i64 x.2] () X Y row h2 hg (fun r e => (hr r e).2), h3⟩)
    ?assign ?body ?done ?stop
  case assign =>
    rintro l pre x W K ⟨⟨v, hv, hrow, -⟩, hB⟩ hK
    gi_wp2
    exact hK _ _ ((KeepsOthers.alloc _ _).from _) ((Below.refl _ W).alloc (by have := hB.size; omega) _) ⟨⟨v, hv.alloc _, hrow.alloc _, trivial⟩, hB.alloc hB.size _⟩ ⟨W.heap.size, hv.lt, Blk.new W _ _, rfl⟩
  case body =>
    rintro l pre x a' W hl ⟨r, hr⟩ ⟨⟨v, hv, hrow, -⟩, hB⟩ ⟨Bx, hBx, bX, rfl⟩ hlt
    have hc := hv.cell
    have x0 := bX.cell 0
    have x1 := bX.cell 1
    simp only [List.getElem?_toArray, List.getElem?_cons_zero, List.getElem?_cons_succ] at x0 x1
    gi_wp2_with (gi_at_builtin; refine wpListIn_append_own _ rfl _ _ 39 rfl w.heap.size 42 i0 (.agg #[.int .i64 0, .int .i64 0]) 2 16 Try.underlying39 hi hz0 hz1 hz2 rfl (by decide) _ _ _ rfl (hrow.alloc _) ⟨W.heap.size, 0, none⟩ 1 1 [.int .i64 x.1, .int .i64 x.2] rfl rfl (arc_cells _ _ _) (by simp [Value.oneCell']) (by simp only [maxLen]; omega) (by omega) (by have := hB.size; simp; omega) ?_; intro v' w1 hown' hgrow _; obtain ⟨g', cap', rfl⟩ := ownsRow_succ hown'; obtain ⟨hv1, hv2, hr2, hk2, hb2⟩ := hv.appended (by decide) hrow hB.size (Nat.le_refl _) hown' hgrow; have hc1 := hv1.cell; have hf1 := hv1.frozen)
    exact ⟨hk2.from _, hb2.mono hn₀, ⟨_, hv2, by simpa [spvs_append, spvs, spv] using hr2, trivial⟩, hB.trans hb2⟩
  case done =>
    rintro D' ys W hD rfl ⟨⟨v, hv, hrow, -⟩, hB⟩ hK
    have hc := hv.cell
    gi_wp2
    refine ⟨by simp, .inl ⟨_, _, rfl, run_takeDeferred hK, ?_⟩⟩
    exact ⟨_, results_tmp rfl _ _ _, v, rfl, ownsRow_putObj hrow _ hK rfl, hB.trans (belowK_b (w := w) (Nat.le_refl _) W D' _ _ (by omega) hK rfl rfl)⟩
  case stop =>
    rintro D' c pre W _ _ h _
    exact h.elim
set_option maxRecDepth 100000 in
set_option maxHeartbeats 1000000 in
theorem collect_in (F : Fence) (n : Nat) (h6 : F.fn 126) (h4 : F.fn 144) (hro : F.round = none) (hn : 3 ≤ n) (g : Nat) (lb : Array Value) (hFg : F.fn g) (eg : ∀ args w, (callFunc g args).run Try.prog w = .ok (.enter g args) w)
    (D : List Sp) (n₀ : Nat) (w0 w : World) (hseq : SeqStopsK F (n - 1 - 1) Try.prog g lb (fun x : Sp => #[.agg #[.int .i64 x.1, .int .i64 x.2]]) (Below n₀) (fun ys => ys = D) (fun pre => pre <+: D) D.length w0) (hb0 : Below w0.heap.size w0 w) (hn₀ : n₀ ≤ w.heap.size) (hlen : D.length ≤ 100000) :
    CallsIn F n Try.prog 126 #[.func (.func g) #[] lb] w fun e W' => ∃ v, e = .returned v ∧ W'.ownsRow w.heap.size 42 2 v D.length (spvs D) ∧ Below w.heap.size w W' := by
  have h1 : 1 ≤ n := by omega
  have e4 := enters_of Try.func144 (by kernel_rfl) rfl
  refine callsIn_of_wp Try.func126 rfl h6 ?_ hro
  simp only [Try.ntmps126, List.size_toArray, List.length_cons, List.length_nil, Nat.reduceAdd, Nat.reduceSub, Array.replicate_succ, Array.replicate_zero, List.push_toArray, List.append_toArray, List.nil_append, List.cons_append]
  gi_wp2_with (gi_at_call 144; refine (appendSeq_in F (n - 1) h4 hro (by omega) g lb hFg eg D n₀ w0 _ hseq hb0 hn₀ hlen).mono ?_; rintro e w' ⟨v, rfl, hrow, hb⟩)
  go_ret
  exact ⟨v, rfl, hrow, hb⟩
end Go.Proofs.Ytopfnffabaiceaa
