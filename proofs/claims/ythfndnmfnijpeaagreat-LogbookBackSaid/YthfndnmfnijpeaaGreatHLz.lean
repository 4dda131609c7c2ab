/- logbook.Decode. -/
import Derived.Laws.ResultCell
import Derived.Test.YthfndnmfnijpeaaGreatHMe
import Derived.Test.YthfndnmfnijpeaaGreatHLs
set_option linter.unusedVariables false
set_option linter.unusedSimpArgs false
namespace Go.Proofs.YthfndnmfnijpeaaGreat
open Go.RowKit
open LB (Bs Rec St)
theorem BytesAt.cons {w : World} {B : Nat} {A : Option Addr} {a : UInt8} {t : Bs} (h : BytesAt w B A (a :: t)) : ∃ q off, A = some ⟨q, off, none⟩ ∧ q < B ∧ w.cell? ⟨q, off, none⟩ = some (.int .u8 (a.toNat : Int)) ∧ BytesAt w B (some ⟨q, off + 1, none⟩) t := by
  rcases h with h | ⟨q, off, e, hlt, hc⟩
  · cases h
  · refine ⟨q, off, e, hlt, by simpa using hc 0 a rfl, .inr ⟨q, off + 1, rfl, hlt, fun j x hx => ?_⟩⟩
    rw [show off + 1 + j = off + (j + 1) by omega]
    exact hc (j + 1) x (by simpa using hx)
theorem ret_rec {tmps : Array Value} {w : World} {g : Nat} {cs : Array Value} (hp : tmps.getD 2 undef = .pointer (some ⟨g, 0, none⟩)) (h : Blk w g 33 cs) (hs : cs.size = 24) :
    (results Tryz.f6 tmps).run Tryz.prog w = .ok (.tuple #[.agg cs, tmps.getD 3 undef]) w := by
  have hi : (Tryz.prog.info? 33).map (·.size) = some 24 := by kernel_rfl
  rw [results_cell_tmp Tryz.results6, hp]
  have := run_loadVar_row (P := Tryz.prog) w g 33 33 cs (0, 0) (.struct (Tryz.prog.fieldsOf 33)) h (by kernel_rfl) rfl (by rw [hs]; exact hi)
  simp [asAddr, this, Result.andThen]
-- LEMMAS
theorem dec_start (w : World) (Z : Array Value) (A : Option Addr) (n c : Nat) (t : Bs) (hA : BytesAt w w.heap.size A t) (hn : t.length = n) (hc : n ≤ c) (hcm : c ≤ maxLen) :
    Rd ((w.alloc (.cells Z 33)).alloc (.cells #[.slice A n c, .bool false] 61)) w.heap.size (w.heap.size + 1) (t, false) ∧ Blk ((w.alloc (.cells Z 33)).alloc (.cells #[.slice A n c, .bool false] 61)) w.heap.size 33 Z ∧
    Below w.heap.size w ((w.alloc (.cells Z 33)).alloc (.cells #[.slice A n c, .bool false] 61)) ∧ ((w.alloc (.cells Z 33)).alloc (.cells #[.slice A n c, .bool false] 61)).heap.size = w.heap.size + 2 := by
  have hb : Below w.heap.size w ((w.alloc (.cells Z 33)).alloc (.cells #[.slice A n c, .bool false] 61)) := ((Below.refl _ w).alloc (Nat.le_refl _) _).alloc (by simp) _
  refine ⟨⟨A, n, c, ?_, hA.bl hb, hn, hc, hcm, by omega⟩, (Blk.new w _ Z).alloc _, hb, by simp⟩
  have := Blk.new (w.alloc (.cells Z 33)) 61 #[.slice A n c, .bool false]
  simpa using this
theorem dec_bad {kb : UInt8} {t : Bs} {k : Nat} {X : Rec} {lr : Bs} {wr : Bool} (hk : kb.toNat = k) (h1 : 1 ≤ k) (h5 : k ≤ 5) (HB : LB.body (k : Int) (t, false) = (X, (lr, wr))) (h : wr = true ∨ lr ≠ []) : LB.dec vaB (kb :: t) = (Rec.zero, 7) := by
  subst hk
  show (if kb.toNat < 1 ∨ 5 < kb.toNat then (Rec.zero, 7) else if (LB.body kb.toNat (t, false)).2.2 = true ∨ (LB.body kb.toNat (t, false)).2.1 ≠ [] then (Rec.zero, 7) else if vaB (LB.body kb.toNat (t, false)).1 = false then (Rec.zero, 1) else ((LB.body kb.toNat (t, false)).1, 0)) = _
  rw [HB, if_neg (by omega), if_pos h]
theorem dec_arg {kb : UInt8} {t : Bs} {k : Nat} {X : Rec} (hk : kb.toNat = k) (h1 : 1 ≤ k) (h5 : k ≤ 5) (HB : LB.body (k : Int) (t, false) = (X, ([], false))) (hv : vaB X = false) : LB.dec vaB (kb :: t) = (Rec.zero, 1) := by
  subst hk
  show (if kb.toNat < 1 ∨ 5 < kb.toNat then (Rec.zero, 7) else if (LB.body kb.toNat (t, false)).2.2 = true ∨ (LB.body kb.toNat (t, false)).2.1 ≠ [] then (Rec.zero, 7) else if vaB (LB.body kb.toNat (t, false)).1 = false then (Rec.zero, 1) else ((LB.body kb.toNat (t, false)).1, 0)) = _
  rw [HB, if_neg (by omega), if_neg (by simp), if_pos hv]
theorem dec_ok {kb : UInt8} {t : Bs} {k : Nat} {X : Rec} (hk : kb.toNat = k) (h1 : 1 ≤ k) (h5 : k ≤ 5) (HB : LB.body (k : Int) (t, false) = (X, ([], false))) (hv : vaB X = true) : LB.dec vaB (kb :: t) = (X, 0) := by
  subst hk
  show (if kb.toNat < 1 ∨ 5 < kb.toNat then (Rec.zero, 7) else if (LB.body kb.toNat (t, false)).2.2 = true ∨ (LB.body kb.toNat (t, false)).2.1 ≠ [] then (Rec.zero, 7) else if vaB (LB.body kb.toNat (t, false)).1 = false then (Rec.zero, 1) else ((LB.body kb.toNat (t, false)).1, 0)) = _
  rw [HB, if_neg (by omega), if_neg (by simp), if_neg (by simp [hv])]
theorem text_lt (s : St) : (LB.text s).1.length ≤ 65535 := by
  have h := size_lt s
  unfold LB.text LB.take
  split
  · simp
  · rw [List.length_take]; omega
set_option maxHeartbeats 8000000 in
set_option maxRecDepth 100000 in
theorem dec1_any (kb : UInt8) (hkb : kb.toNat = 1) (t : Bs) (A : Option Addr) (n c : Nat) (w : World) (hA : BytesAt w w.heap.size A (kb :: t)) (hn : (kb :: t).length = n) (hc : n ≤ c) (hcm : c ≤ maxLen) (hn1 : n ≤ 1000) :
    Calls Tryz.prog 6 #[.slice A n c] w fun e w' => (∃ A' n' c', e = .returned (.tuple #[recV (LB.dec vaB (kb :: t)).1 (.slice A' n' c'), .int .i64 (LB.dec vaB (kb :: t)).2]) ∧ IntsAt w' A' (LB.dec vaB (kb :: t)).1.list ∧ (LB.dec vaB (kb :: t)).1.list.length = n' ∧ n' ≤ c' ∧ c' ≤ maxLen) ∧ Below w.heap.size w w' := by
  obtain ⟨q, off, rfl, hq, y0, hT⟩ := hA.cons
  rw [hkb] at y0
  have y1 : ∀ o, (w.alloc o).cell? ⟨q, off, none⟩ = some (.int .u8 1) := fun o => (World.cell?_alloc_lt w o ⟨q, off, none⟩ hq).trans y0
  have dn : ((n : Int) == 0) = false := by simp at hn ⊢; omega
  have hn0 : ¬ n = 0 := by simp at hn; omega
  by_cases hc1 : c = 1
  · subst hc1
    obtain rfl : n = 1 := by omega
    have ht0 : t = [] := List.eq_nil_of_length_eq_zero (by simpa using hn)
    go_enter Tryz.func6, Tryz.ntmps6
    go_upto_region 4 with fail
    obtain ⟨hR, hZ, hB, hS⟩ := dec_start w #[.int .i64 0, .int .i64 0, .int .i64 0, .int .i64 0, .int .i64 0, .int .i64 0, .int .i64 0, .int .i64 0, .int .i64 0, .int .i64 0, .int .i64 0, txb [], .int .i64 0, .int .i64 0, .int .i64 0, .int .i64 0, .int .i64 0, .int .i64 0, .int .i64 0, .int .i64 0, .int .i64 0, .int .i64 0, .slice none 0 0, txb []] (some ⟨q, off, none⟩) 0 0 t (.inl ht0) (by rw [ht0]; rfl) (Nat.le_refl _) (by simp [maxLen])
    have yW := (hB.cell (p := ⟨q, off, none⟩) hq).trans y0
    generalize (w.alloc (.cells #[.int .i64 0, .int .i64 0, .int .i64 0, .int .i64 0, .int .i64 0, .int .i64 0, .int .i64 0, .int .i64 0, .int .i64 0, .int .i64 0, .int .i64 0, txb [], .int .i64 0, .int .i64 0, .int .i64 0, .int .i64 0, .int .i64 0, .int .i64 0, .int .i64 0, .int .i64 0, .int .i64 0, .int .i64 0, .slice none 0 0, txb []] 33)).alloc (.cells #[.slice (some ⟨q, off, none⟩) 0 0, .bool false] 61) = wa at hR hZ hB hS yW ⊢
    have HS := Lib.hid hS
    clear hS
    iterate 19 go_step
    refine wpList_store_row rfl _ (.tmp 5) (.tmp 34) rfl _ _ rfl rfl _ _ (heap_alloc_last _ _) (by kernel_rfl) (by rfl) (by simp [Value.oneCell']) ?_
    rw [World.setRow_alloc_new]
    simp only [Act.put, List.setIfInBounds_toArray, List.set_cons_zero, List.set_cons_succ]
    have hS := HS.out
    clear HS
    have Rb := Lib.hid (hR.keeps (Keeps.of_below (g := wa.heap.size) (bl_alloc wa (.cells #[.int .i64 1, .int .i64 0, .int .i64 0, .int .i64 0, .int .i64 0, .int .i64 0, .int .i64 0, .int .i64 0, .int .i64 0, .int .i64 0, .int .i64 0, txb [], .int .i64 0, .int .i64 0, .int .i64 0, .int .i64 0, .int .i64 0, .int .i64 0, .int .i64 0, .int .i64 0, .int .i64 0, .int .i64 0, .slice none 0 0, txb []] 33))) (by omega) (by omega))
    have Zb := Lib.hid (hZ.alloc (.cells #[.int .i64 1, .int .i64 0, .int .i64 0, .int .i64 0, .int .i64 0, .int .i64 0, .int .i64 0, .int .i64 0, .int .i64 0, .int .i64 0, .int .i64 0, txb [], .int .i64 0, .int .i64 0, .int .i64 0, .int .i64 0, .int .i64 0, .int .i64 0, .int .i64 0, .int .i64 0, .int .i64 0, .int .i64 0, .slice none 0 0, txb []] 33))
    have Xb := Lib.hid (Blk.new wa 33 #[.int .i64 1, .int .i64 0, .int .i64 0, .int .i64 0, .int .i64 0, .int .i64 0, .int .i64 0, .int .i64 0, .int .i64 0, .int .i64 0, .int .i64 0, txb [], .int .i64 0, .int .i64 0, .int .i64 0, .int .i64 0, .int .i64 0, .int .i64 0, .int .i64 0, .int .i64 0, .int .i64 0, .int .i64 0, .slice none 0 0, txb []])
    have Bb := Lib.hid (hB.alloc (by omega) (.cells #[.int .i64 1, .int .i64 0, .int .i64 0, .int .i64 0, .int .i64 0, .int .i64 0, .int .i64 0, .int .i64 0, .int .i64 0, .int .i64 0, .int .i64 0, txb [], .int .i64 0, .int .i64 0, .int .i64 0, .int .i64 0, .int .i64 0, .int .i64 0, .int .i64 0, .int .i64 0, .int .i64 0, .int .i64 0, .slice none 0 0, txb []] 33))
    have Sb := Lib.hid (show wa.heap.size + 1 ≤ (wa.alloc (.cells #[.int .i64 1, .int .i64 0, .int .i64 0, .int .i64 0, .int .i64 0, .int .i64 0, .int .i64 0, .int .i64 0, .int .i64 0, .int .i64 0, .int .i64 0, txb [], .int .i64 0, .int .i64 0, .int .i64 0, .int .i64 0, .int .i64 0, .int .i64 0, .int .i64 0, .int .i64 0, .int .i64 0, .int .i64 0, .slice none 0 0, txb []] 33)).heap.size by simp)
    generalize hQ : wa.heap.size = Q at *
    generalize wa.alloc (.cells #[.int .i64 1, .int .i64 0, .int .i64 0, .int .i64 0, .int .i64 0, .int .i64 0, .int .i64 0, .int .i64 0, .int .i64 0, .int .i64 0, .int .i64 0, txb [], .int .i64 0, .int .i64 0, .int .i64 0, .int .i64 0, .int .i64 0, .int .i64 0, .int .i64 0, .int .i64 0, .int .i64 0, .int .i64 0, .slice none 0 0, txb []] 33) = wb at *
    clear hR hZ hB yW y0 y1
    have Q1 : Q ≠ w.heap.size + 1 := by omega
    have Q2 : w.heap.size ≠ Q := by omega
    have Q3 : w.heap.size ≤ Q := by omega
    clear hQ hS
    have xb : ∀ i, wb.cell? ⟨Q, i, none⟩ = (#[.int .i64 1, .int .i64 0, .int .i64 0, .int .i64 0, .int .i64 0, .int .i64 0, .int .i64 0, .int .i64 0, .int .i64 0, .int .i64 0, .int .i64 0, txb [], .int .i64 0, .int .i64 0, .int .i64 0, .int .i64 0, .int .i64 0, .int .i64 0, .int .i64 0, .int .i64 0, .int .i64 0, .int .i64 0, .slice none 0 0, txb []] : Array Value)[i]? := fun i => Xb.out.cell i
    have fb : ∀ i, wb.frozen? ⟨Q, i, none⟩ = false := fun i => Xb.out.frozen i
    obtain ⟨⟨l1, s1⟩, he1⟩ : ∃ p, LB.ints 2 (t, false) = p := ⟨_, rfl⟩
    have hl1 : l1.length = 2 := by have := LB.ints_length 2 (t, false); rw [he1] at this; exact this
    have Kc := Lib.hid (into_any w.heap.size (w.heap.size + 1) Q wb.heap.size 2 2 (t, false) 33 65 (#[.int .i64 1, .int .i64 0, .int .i64 0, .int .i64 0, .int .i64 0, .int .i64 0, .int .i64 0, .int .i64 0, .int .i64 0, .int .i64 0, .int .i64 0, txb [], .int .i64 0, .int .i64 0, .int .i64 0, .int .i64 0, .int .i64 0, .int .i64 0, .int .i64 0, .int .i64 0, .int .i64 0, .int .i64 0, .slice none 0 0, txb []]) [1, 2] (wb.alloc (.cells #[.pointer (some ⟨Q, 1, none⟩), .pointer (some ⟨Q, 2, none⟩)] 65)) (Rb.out.keeps (Keeps.of_below (g := wb.heap.size) (bl_alloc wb _)) (by have := Sb.out; omega) (by have := Sb.out; omega)) (Xb.out.alloc _) Q1 Q3 (show Blk (wb.alloc (.cells #[.pointer (some ⟨Q, 1, none⟩), .pointer (some ⟨Q, 2, none⟩)] 65)) wb.heap.size 65 (ptrs Q [1, 2]) from Blk.new _ _ _) (by have := Sb.out; omega) (by have := Sb.out; omega) (by simp) rfl (by omega))
    rw [he1] at Kc
    go_wp2_with fail
    (with_reducible refine (Kc.out).mono ?_)
    rintro e wc ⟨rfl, hR, hX, hK⟩
    rw [← LB.at2 hl1] at hX
    have Rc := Lib.hid hR
    have Xc := Lib.hid (show Blk wc Q 33 #[.int .i64 1, .int .i64 (LB.at' l1 0), .int .i64 (LB.at' l1 1), .int .i64 0, .int .i64 0, .int .i64 0, .int .i64 0, .int .i64 0, .int .i64 0, .int .i64 0, .int .i64 0, txb [], .int .i64 0, .int .i64 0, .int .i64 0, .int .i64 0, .int .i64 0, .int .i64 0, .int .i64 0, .int .i64 0, .int .i64 0, .int .i64 0, .slice none 0 0, txb []] from hX)
    have Zc := Lib.hid ((Zb.out.alloc (.cells #[.pointer (some ⟨Q, 1, none⟩), .pointer (some ⟨Q, 2, none⟩)] 65)).keeps2 hK (by omega) Q2)
    have hb := hK.below (B := w.heap.size) (by omega) Q3 (by have := Sb.out; simp; omega)
    have Bc := Lib.hid ((Bb.out.alloc (by have := Sb.out; omega) (.cells #[.pointer (some ⟨Q, 1, none⟩), .pointer (some ⟨Q, 2, none⟩)] 65)).trans hb)
    have Sc := Lib.hid (show Q + 1 ≤ wc.heap.size by have := Sb.out; have := hb.size; simp at this; omega)
    have E1 := Lib.hid he1
    clear hR hX hK hb he1 hl1 Kc Rb Xb Zb Bb Sb xb fb
    have xc : ∀ i, wc.cell? ⟨Q, i, none⟩ = (#[.int .i64 1, .int .i64 (LB.at' l1 0), .int .i64 (LB.at' l1 1), .int .i64 0, .int .i64 0, .int .i64 0, .int .i64 0, .int .i64 0, .int .i64 0, .int .i64 0, .int .i64 0, txb [], .int .i64 0, .int .i64 0, .int .i64 0, .int .i64 0, .int .i64 0, .int .i64 0, .int .i64 0, .int .i64 0, .int .i64 0, .int .i64 0, .slice none 0 0, txb []] : Array Value)[i]? := fun i => Xc.out.cell i
    have fc : ∀ i, wc.frozen? ⟨Q, i, none⟩ = false := fun i => Xc.out.frozen i
    obtain ⟨⟨l2, s2⟩, he2⟩ : ∃ p, LB.ints 4 s1 = p := ⟨_, rfl⟩
    have hl2 : l2.length = 4 := by have := LB.ints_length 4 s1; rw [he2] at this; exact this
    have Kd := Lib.hid (into_any w.heap.size (w.heap.size + 1) Q wc.heap.size 4 4 s1 33 65 (#[.int .i64 1, .int .i64 (LB.at' l1 0), .int .i64 (LB.at' l1 1), .int .i64 0, .int .i64 0, .int .i64 0, .int .i64 0, .int .i64 0, .int .i64 0, .int .i64 0, .int .i64 0, txb [], .int .i64 0, .int .i64 0, .int .i64 0, .int .i64 0, .int .i64 0, .int .i64 0, .int .i64 0, .int .i64 0, .int .i64 0, .int .i64 0, .slice none 0 0, txb []]) [3, 4, 5, 6] (wc.alloc (.cells #[.pointer (some ⟨Q, 3, none⟩), .pointer (some ⟨Q, 4, none⟩), .pointer (some ⟨Q, 5, none⟩), .pointer (some ⟨Q, 6, none⟩)] 65)) (Rc.out.keeps (Keeps.of_below (g := wc.heap.size) (bl_alloc wc _)) (by have := Sc.out; omega) (by have := Sc.out; omega)) (Xc.out.alloc _) Q1 Q3 (show Blk (wc.alloc (.cells #[.pointer (some ⟨Q, 3, none⟩), .pointer (some ⟨Q, 4, none⟩), .pointer (some ⟨Q, 5, none⟩), .pointer (some ⟨Q, 6, none⟩)] 65)) wc.heap.size 65 (ptrs Q [3, 4, 5, 6]) from Blk.new _ _ _) (by have := Sc.out; omega) (by have := Sc.out; omega) (by simp) rfl (by omega))
    rw [he2] at Kd
    go_wp2_with fail
    (with_reducible refine (Kd.out).mono ?_)
    rintro e wd ⟨rfl, hR, hX, hK⟩
    rw [← LB.at4 hl2] at hX
    have Rd := Lib.hid hR
    have Xd := Lib.hid (show Blk wd Q 33 #[.int .i64 1, .int .i64 (LB.at' l1 0), .int .i64 (LB.at' l1 1), .int .i64 (LB.at' l2 0), .int .i64 (LB.at' l2 1), .int .i64 (LB.at' l2 2), .int .i64 (LB.at' l2 3), .int .i64 0, .int .i64 0, .int .i64 0, .int .i64 0, txb [], .int .i64 0, .int .i64 0, .int .i64 0, .int .i64 0, .int .i64 0, .int .i64 0, .int .i64 0, .int .i64 0, .int .i64 0, .int .i64 0, .slice none 0 0, txb []] from hX)
    have Zd := Lib.hid ((Zc.out.alloc (.cells #[.pointer (some ⟨Q, 3, none⟩), .pointer (some ⟨Q, 4, none⟩), .pointer (some ⟨Q, 5, none⟩), .pointer (some ⟨Q, 6, none⟩)] 65)).keeps2 hK (by omega) Q2)
    have hb := hK.below (B := w.heap.size) (by omega) Q3 (by have := Sc.out; simp; omega)
    have Bd := Lib.hid ((Bc.out.alloc (by have := Sc.out; omega) (.cells #[.pointer (some ⟨Q, 3, none⟩), .pointer (some ⟨Q, 4, none⟩), .pointer (some ⟨Q, 5, none⟩), .pointer (some ⟨Q, 6, none⟩)] 65)).trans hb)
    have Sd := Lib.hid (show Q + 1 ≤ wd.heap.size by have := Sc.out; have := hb.size; simp at this; omega)
    have E2 := Lib.hid he2
    clear hR hX hK hb he2 hl2 Kd Rc Xc Zc Bc Sc xc fc
    have xd : ∀ i, wd.cell? ⟨Q, i, none⟩ = (#[.int .i64 1, .int .i64 (LB.at' l1 0), .int .i64 (LB.at' l1 1), .int .i64 (LB.at' l2 0), .int .i64 (LB.at' l2 1), .int .i64 (LB.at' l2 2), .int .i64 (LB.at' l2 3), .int .i64 0, .int .i64 0, .int .i64 0, .int .i64 0, txb [], .int .i64 0, .int .i64 0, .int .i64 0, .int .i64 0, .int .i64 0, .int .i64 0, .int .i64 0, .int .i64 0, .int .i64 0, .int .i64 0, .slice none 0 0, txb []] : Array Value)[i]? := fun i => Xd.out.cell i
    have fd : ∀ i, wd.frozen? ⟨Q, i, none⟩ = false := fun i => Xd.out.frozen i
    have HB := Lib.hid (show LB.body 1 (t, false) = (⟨1, (LB.at' l1 0), (LB.at' l1 1), (LB.at' l2 0), (LB.at' l2 1), (LB.at' l2 2), (LB.at' l2 3), 0, 0, 0, 0, [], 0, 0, 0, 0, 0, 0, 0, 0, 0, 0, [], []⟩, s2) by
      unfold LB.body
      simp only [Int.reduceEq, ite_true, ite_false]
      rw [E1.out, E2.out]
      rfl)
    clear E1 E2
    obtain ⟨lr, wr⟩ := s2
    obtain ⟨A1, n1, c1, hG, hA1, hn1', hc1', -, -⟩ := Rd.out
    simp only [] at hG hA1 hn1'
    have g0 : wd.cell? ⟨w.heap.size + 1, 0, none⟩ = some (.slice A1 n1 c1) := hG.cell 0
    have g1 : wd.cell? ⟨w.heap.size + 1, 1, none⟩ = some (.bool wr) := hG.cell 1
    clear hG hA1 Rd
    cases wr with
    | true =>
      go_upto_region 27 with fail
      iterate 4 go_step
      refine wpList_store_row rfl _ (.tmp 2) (.tmp 162) rfl _ _ rfl rfl _ _ Zd.out (by kernel_rfl) (by rfl) (by simp [Value.oneCell']) ?_
      simp only [Act.put, List.setIfInBounds_toArray, List.set_cons_zero, List.set_cons_succ]
      have ZZ := Lib.hid (Blk.row Zd.out #[.int .i64 0, .int .i64 0, .int .i64 0, .int .i64 0, .int .i64 0, .int .i64 0, .int .i64 0, .int .i64 0, .int .i64 0, .int .i64 0, .int .i64 0, txb [], .int .i64 0, .int .i64 0, .int .i64 0, .int .i64 0, .int .i64 0, .int .i64 0, .int .i64 0, .int .i64 0, .int .i64 0, .int .i64 0, .slice none 0 0, txb []])
      have BB := Lib.hid (bl_setRow (g := w.heap.size) Bd.out (Nat.le_refl _) #[.int .i64 0, .int .i64 0, .int .i64 0, .int .i64 0, .int .i64 0, .int .i64 0, .int .i64 0, .int .i64 0, .int .i64 0, .int .i64 0, .int .i64 0, txb [], .int .i64 0, .int .i64 0, .int .i64 0, .int .i64 0, .int .i64 0, .int .i64 0, .int .i64 0, .int .i64 0, .int .i64 0, .int .i64 0, .slice none 0 0, txb []])
      have hd := Lib.hid (dec_bad hkb (by decide) (by decide) HB.out (.inl rfl))
      generalize wd.setRow w.heap.size #[.int .i64 0, .int .i64 0, .int .i64 0, .int .i64 0, .int .i64 0, .int .i64 0, .int .i64 0, .int .i64 0, .int .i64 0, .int .i64 0, .int .i64 0, txb [], .int .i64 0, .int .i64 0, .int .i64 0, .int .i64 0, .int .i64 0, .int .i64 0, .int .i64 0, .int .i64 0, .int .i64 0, .int .i64 0, .slice none 0 0, txb []] = wz at ZZ BB ⊢
      go_wp2
      exact bodyPost_ret_by (ret_rec rfl ZZ.out rfl) rfl ⟨⟨none, 0, 0, by rw [hd.out]; rfl, by rw [hd.out]; exact .inl rfl, by rw [hd.out]; rfl, Nat.le_refl _, by simp [maxLen]⟩, BB.out⟩
    | false =>
      by_cases hl : lr = []
      case neg =>
        have dl : 0 < n1 := by have := List.length_pos_iff.2 hl; omega
        have HL := Lib.hid hl
        clear hl
        go_upto_region 27 with fail
        iterate 4 go_step
        refine wpList_store_row rfl _ (.tmp 2) (.tmp 162) rfl _ _ rfl rfl _ _ Zd.out (by kernel_rfl) (by rfl) (by simp [Value.oneCell']) ?_
        simp only [Act.put, List.setIfInBounds_toArray, List.set_cons_zero, List.set_cons_succ]
        have ZZ := Lib.hid (Blk.row Zd.out #[.int .i64 0, .int .i64 0, .int .i64 0, .int .i64 0, .int .i64 0, .int .i64 0, .int .i64 0, .int .i64 0, .int .i64 0, .int .i64 0, .int .i64 0, txb [], .int .i64 0, .int .i64 0, .int .i64 0, .int .i64 0, .int .i64 0, .int .i64 0, .int .i64 0, .int .i64 0, .int .i64 0, .int .i64 0, .slice none 0 0, txb []])
        have BB := Lib.hid (bl_setRow (g := w.heap.size) Bd.out (Nat.le_refl _) #[.int .i64 0, .int .i64 0, .int .i64 0, .int .i64 0, .int .i64 0, .int .i64 0, .int .i64 0, .int .i64 0, .int .i64 0, .int .i64 0, .int .i64 0, txb [], .int .i64 0, .int .i64 0, .int .i64 0, .int .i64 0, .int .i64 0, .int .i64 0, .int .i64 0, .int .i64 0, .int .i64 0, .int .i64 0, .slice none 0 0, txb []])
        have hd := Lib.hid (dec_bad hkb (by decide) (by decide) HB.out (.inr HL.out))
        generalize wd.setRow w.heap.size #[.int .i64 0, .int .i64 0, .int .i64 0, .int .i64 0, .int .i64 0, .int .i64 0, .int .i64 0, .int .i64 0, .int .i64 0, .int .i64 0, .int .i64 0, txb [], .int .i64 0, .int .i64 0, .int .i64 0, .int .i64 0, .int .i64 0, .int .i64 0, .int .i64 0, .int .i64 0, .int .i64 0, .int .i64 0, .slice none 0 0, txb []] = wz at ZZ BB ⊢
        go_wp2
        exact bodyPost_ret_by (ret_rec rfl ZZ.out rfl) rfl ⟨⟨none, 0, 0, by rw [hd.out]; rfl, by rw [hd.out]; exact .inl rfl, by rw [hd.out]; rfl, Nat.le_refl _, by simp [maxLen]⟩, BB.out⟩
      obtain rfl : n1 = 0 := by rw [← hn1', hl]; rfl
      subst hl
      clear hn1' hc1'
      have KV := Lib.hid (valid_any ⟨1, (LB.at' l1 0), (LB.at' l1 1), (LB.at' l2 0), (LB.at' l2 1), (LB.at' l2 2), (LB.at' l2 3), 0, 0, 0, 0, [], 0, 0, 0, 0, 0, 0, 0, 0, 0, 0, [], []⟩ none 0 0 wd (.inl rfl) rfl (by omega) (Nat.le_refl _) (by simp [maxLen]) (by simp) (by simp))
      go_upto_region 28 with fail
      iterate 2 go_step
      refine wp_load_rec (.tmp 5) rfl rfl Xd.out rfl ?_
      simp only [Act.put, List.setIfInBounds_toArray, List.set_cons_zero, List.set_cons_succ]
      go_wp2_with fail
      (with_reducible refine (KV.out).mono ?_)
      rintro e we ⟨rfl, hbv⟩
      have Xe := Lib.hid (Xd.out.below hbv Xd.out.lt)
      have Ze := Lib.hid (Zd.out.below hbv Zd.out.lt)
      have Be := Lib.hid (Bd.out.trans (hbv.mono (by have := Sd.out; omega)))
      clear hbv KV g0 g1 xd fd
      obtain ⟨v, hv⟩ : ∃ v, vaB ⟨1, (LB.at' l1 0), (LB.at' l1 1), (LB.at' l2 0), (LB.at' l2 1), (LB.at' l2 2), (LB.at' l2 3), 0, 0, 0, 0, [], 0, 0, 0, 0, 0, 0, 0, 0, 0, 0, [], []⟩ = v := ⟨_, rfl⟩
      rw [hv]
      cases v with
      | false =>
        have HV := Lib.hid hv
        clear hv
        go_upto_region 29 with fail
        iterate 4 go_step
        refine wpList_store_row rfl _ (.tmp 2) (.tmp 167) rfl _ _ rfl rfl _ _ Ze.out (by kernel_rfl) (by rfl) (by simp [Value.oneCell']) ?_
        simp only [Act.put, List.setIfInBounds_toArray, List.set_cons_zero, List.set_cons_succ]
        have ZZ := Lib.hid (Blk.row Ze.out #[.int .i64 0, .int .i64 0, .int .i64 0, .int .i64 0, .int .i64 0, .int .i64 0, .int .i64 0, .int .i64 0, .int .i64 0, .int .i64 0, .int .i64 0, txb [], .int .i64 0, .int .i64 0, .int .i64 0, .int .i64 0, .int .i64 0, .int .i64 0, .int .i64 0, .int .i64 0, .int .i64 0, .int .i64 0, .slice none 0 0, txb []])
        have BB := Lib.hid (bl_setRow (g := w.heap.size) Be.out (Nat.le_refl _) #[.int .i64 0, .int .i64 0, .int .i64 0, .int .i64 0, .int .i64 0, .int .i64 0, .int .i64 0, .int .i64 0, .int .i64 0, .int .i64 0, .int .i64 0, txb [], .int .i64 0, .int .i64 0, .int .i64 0, .int .i64 0, .int .i64 0, .int .i64 0, .int .i64 0, .int .i64 0, .int .i64 0, .int .i64 0, .slice none 0 0, txb []])
        have hd := Lib.hid (dec_arg hkb (by decide) (by decide) HB.out HV.out)
        generalize we.setRow w.heap.size #[.int .i64 0, .int .i64 0, .int .i64 0, .int .i64 0, .int .i64 0, .int .i64 0, .int .i64 0, .int .i64 0, .int .i64 0, .int .i64 0, .int .i64 0, txb [], .int .i64 0, .int .i64 0, .int .i64 0, .int .i64 0, .int .i64 0, .int .i64 0, .int .i64 0, .int .i64 0, .int .i64 0, .int .i64 0, .slice none 0 0, txb []] = wz at ZZ BB ⊢
        go_wp2
        exact bodyPost_ret_by (ret_rec rfl ZZ.out rfl) rfl ⟨⟨none, 0, 0, by rw [hd.out]; rfl, by rw [hd.out]; exact .inl rfl, by rw [hd.out]; rfl, Nat.le_refl _, by simp [maxLen]⟩, BB.out⟩
      | true =>
        have hd := Lib.hid (dec_ok hkb (by decide) (by decide) HB.out hv)
        clear hv
        go_upto_region 30 with fail
        iterate 2 go_step
        refine wp_load_rec (.tmp 5) rfl rfl Xe.out rfl ?_
        simp only [Act.put, List.setIfInBounds_toArray, List.set_cons_zero, List.set_cons_succ]
        iterate 1 go_step
        refine wpList_store_row rfl _ (.tmp 2) (.tmp 168) rfl _ _ rfl rfl _ _ Ze.out (by kernel_rfl) (by rfl) (by simp [Value.oneCell']) ?_
        simp only [Act.put, List.setIfInBounds_toArray, List.set_cons_zero, List.set_cons_succ]
        have ZZ := Lib.hid (Blk.row Ze.out #[.int .i64 1, .int .i64 (LB.at' l1 0), .int .i64 (LB.at' l1 1), .int .i64 (LB.at' l2 0), .int .i64 (LB.at' l2 1), .int .i64 (LB.at' l2 2), .int .i64 (LB.at' l2 3), .int .i64 0, .int .i64 0, .int .i64 0, .int .i64 0, txb [], .int .i64 0, .int .i64 0, .int .i64 0, .int .i64 0, .int .i64 0, .int .i64 0, .int .i64 0, .int .i64 0, .int .i64 0, .int .i64 0, .slice none 0 0, txb []])
        have BB := Lib.hid (bl_setRow (g := w.heap.size) Be.out (Nat.le_refl _) #[.int .i64 1, .int .i64 (LB.at' l1 0), .int .i64 (LB.at' l1 1), .int .i64 (LB.at' l2 0), .int .i64 (LB.at' l2 1), .int .i64 (LB.at' l2 2), .int .i64 (LB.at' l2 3), .int .i64 0, .int .i64 0, .int .i64 0, .int .i64 0, txb [], .int .i64 0, .int .i64 0, .int .i64 0, .int .i64 0, .int .i64 0, .int .i64 0, .int .i64 0, .int .i64 0, .int .i64 0, .int .i64 0, .slice none 0 0, txb []])
        generalize we.setRow w.heap.size #[.int .i64 1, .int .i64 (LB.at' l1 0), .int .i64 (LB.at' l1 1), .int .i64 (LB.at' l2 0), .int .i64 (LB.at' l2 1), .int .i64 (LB.at' l2 2), .int .i64 (LB.at' l2 3), .int .i64 0, .int .i64 0, .int .i64 0, .int .i64 0, txb [], .int .i64 0, .int .i64 0, .int .i64 0, .int .i64 0, .int .i64 0, .int .i64 0, .int .i64 0, .int .i64 0, .int .i64 0, .int .i64 0, .slice none 0 0, txb []] = wz at ZZ BB ⊢
        go_wp2
        exact bodyPost_ret_by (ret_rec rfl ZZ.out rfl) rfl ⟨⟨none, 0, 0, by rw [hd.out]; rfl, by rw [hd.out]; exact (.inl rfl), by rw [hd.out]; exact rfl, (Nat.le_refl _), (by simp [maxLen])⟩, BB.out⟩
  · go_enter Tryz.func6, Tryz.ntmps6
    go_upto_region 4 with fail
    obtain ⟨hR, hZ, hB, hS⟩ := dec_start w #[.int .i64 0, .int .i64 0, .int .i64 0, .int .i64 0, .int .i64 0, .int .i64 0, .int .i64 0, .int .i64 0, .int .i64 0, .int .i64 0, .int .i64 0, txb [], .int .i64 0, .int .i64 0, .int .i64 0, .int .i64 0, .int .i64 0, .int .i64 0, .int .i64 0, .int .i64 0, .int .i64 0, .int .i64 0, .slice none 0 0, txb []] (some ⟨q, off + 1, none⟩) (n - 1) (c - 1) t hT (by simp at hn; omega) (by omega) (by omega)
    have yW := (hB.cell (p := ⟨q, off, none⟩) hq).trans y0
    generalize (w.alloc (.cells #[.int .i64 0, .int .i64 0, .int .i64 0, .int .i64 0, .int .i64 0, .int .i64 0, .int .i64 0, .int .i64 0, .int .i64 0, .int .i64 0, .int .i64 0, txb [], .int .i64 0, .int .i64 0, .int .i64 0, .int .i64 0, .int .i64 0, .int .i64 0, .int .i64 0, .int .i64 0, .int .i64 0, .int .i64 0, .slice none 0 0, txb []] 33)).alloc (.cells #[.slice (some ⟨q, off + 1, none⟩) (n - 1) (c - 1), .bool false] 61) = wa at hR hZ hB hS yW ⊢
    have HS := Lib.hid hS
    clear hS
    iterate 19 go_step
    refine wpList_store_row rfl _ (.tmp 5) (.tmp 34) rfl _ _ rfl rfl _ _ (heap_alloc_last _ _) (by kernel_rfl) (by rfl) (by simp [Value.oneCell']) ?_
    rw [World.setRow_alloc_new]
    simp only [Act.put, List.setIfInBounds_toArray, List.set_cons_zero, List.set_cons_succ]
    have hS := HS.out
    clear HS
    have Rb := Lib.hid (hR.keeps (Keeps.of_below (g := wa.heap.size) (bl_alloc wa (.cells #[.int .i64 1, .int .i64 0, .int .i64 0, .int .i64 0, .int .i64 0, .int .i64 0, .int .i64 0, .int .i64 0, .int .i64 0, .int .i64 0, .int .i64 0, txb [], .int .i64 0, .int .i64 0, .int .i64 0, .int .i64 0, .int .i64 0, .int .i64 0, .int .i64 0, .int .i64 0, .int .i64 0, .int .i64 0, .slice none 0 0, txb []] 33))) (by omega) (by omega))
    have Zb := Lib.hid (hZ.alloc (.cells #[.int .i64 1, .int .i64 0, .int .i64 0, .int .i64 0, .int .i64 0, .int .i64 0, .int .i64 0, .int .i64 0, .int .i64 0, .int .i64 0, .int .i64 0, txb [], .int .i64 0, .int .i64 0, .int .i64 0, .int .i64 0, .int .i64 0, .int .i64 0, .int .i64 0, .int .i64 0, .int .i64 0, .int .i64 0, .slice none 0 0, txb []] 33))
    have Xb := Lib.hid (Blk.new wa 33 #[.int .i64 1, .int .i64 0, .int .i64 0, .int .i64 0, .int .i64 0, .int .i64 0, .int .i64 0, .int .i64 0, .int .i64 0, .int .i64 0, .int .i64 0, txb [], .int .i64 0, .int .i64 0, .int .i64 0, .int .i64 0, .int .i64 0, .int .i64 0, .int .i64 0, .int .i64 0, .int .i64 0, .int .i64 0, .slice none 0 0, txb []])
    have Bb := Lib.hid (hB.alloc (by omega) (.cells #[.int .i64 1, .int .i64 0, .int .i64 0, .int .i64 0, .int .i64 0, .int .i64 0, .int .i64 0, .int .i64 0, .int .i64 0, .int .i64 0, .int .i64 0, txb [], .int .i64 0, .int .i64 0, .int .i64 0, .int .i64 0, .int .i64 0, .int .i64 0, .int .i64 0, .int .i64 0, .int .i64 0, .int .i64 0, .slice none 0 0, txb []] 33))
    have Sb := Lib.hid (show wa.heap.size + 1 ≤ (wa.alloc (.cells #[.int .i64 1, .int .i64 0, .int .i64 0, .int .i64 0, .int .i64 0, .int .i64 0, .int .i64 0, .int .i64 0, .int .i64 0, .int .i64 0, .int .i64 0, txb [], .int .i64 0, .int .i64 0, .int .i64 0, .int .i64 0, .int .i64 0, .int .i64 0, .int .i64 0, .int .i64 0, .int .i64 0, .int .i64 0, .slice none 0 0, txb []] 33)).heap.size by simp)
    generalize hQ : wa.heap.size = Q at *
    generalize wa.alloc (.cells #[.int .i64 1, .int .i64 0, .int .i64 0, .int .i64 0, .int .i64 0, .int .i64 0, .int .i64 0, .int .i64 0, .int .i64 0, .int .i64 0, .int .i64 0, txb [], .int .i64 0, .int .i64 0, .int .i64 0, .int .i64 0, .int .i64 0, .int .i64 0, .int .i64 0, .int .i64 0, .int .i64 0, .int .i64 0, .slice none 0 0, txb []] 33) = wb at *
    clear hR hZ hB yW y0 y1
    have Q1 : Q ≠ w.heap.size + 1 := by omega
    have Q2 : w.heap.size ≠ Q := by omega
    have Q3 : w.heap.size ≤ Q := by omega
    clear hQ hS
    have xb : ∀ i, wb.cell? ⟨Q, i, none⟩ = (#[.int .i64 1, .int .i64 0, .int .i64 0, .int .i64 0, .int .i64 0, .int .i64 0, .int .i64 0, .int .i64 0, .int .i64 0, .int .i64 0, .int .i64 0, txb [], .int .i64 0, .int .i64 0, .int .i64 0, .int .i64 0, .int .i64 0, .int .i64 0, .int .i64 0, .int .i64 0, .int .i64 0, .int .i64 0, .slice none 0 0, txb []] : Array Value)[i]? := fun i => Xb.out.cell i
    have fb : ∀ i, wb.frozen? ⟨Q, i, none⟩ = false := fun i => Xb.out.frozen i
    obtain ⟨⟨l1, s1⟩, he1⟩ : ∃ p, LB.ints 2 (t, false) = p := ⟨_, rfl⟩
    have hl1 : l1.length = 2 := by have := LB.ints_length 2 (t, false); rw [he1] at this; exact this
    have Kc := Lib.hid (into_any w.heap.size (w.heap.size + 1) Q wb.heap.size 2 2 (t, false) 33 65 (#[.int .i64 1, .int .i64 0, .int .i64 0, .int .i64 0, .int .i64 0, .int .i64 0, .int .i64 0, .int .i64 0, .int .i64 0, .int .i64 0, .int .i64 0, txb [], .int .i64 0, .int .i64 0, .int .i64 0, .int .i64 0, .int .i64 0, .int .i64 0, .int .i64 0, .int .i64 0, .int .i64 0, .int .i64 0, .slice none 0 0, txb []]) [1, 2] (wb.alloc (.cells #[.pointer (some ⟨Q, 1, none⟩), .pointer (some ⟨Q, 2, none⟩)] 65)) (Rb.out.keeps (Keeps.of_below (g := wb.heap.size) (bl_alloc wb _)) (by have := Sb.out; omega) (by have := Sb.out; omega)) (Xb.out.alloc _) Q1 Q3 (show Blk (wb.alloc (.cells #[.pointer (some ⟨Q, 1, none⟩), .pointer (some ⟨Q, 2, none⟩)] 65)) wb.heap.size 65 (ptrs Q [1, 2]) from Blk.new _ _ _) (by have := Sb.out; omega) (by have := Sb.out; omega) (by simp) rfl (by omega))
    rw [he1] at Kc
    go_wp2_with fail
    (with_reducible refine (Kc.out).mono ?_)
    rintro e wc ⟨rfl, hR, hX, hK⟩
    rw [← LB.at2 hl1] at hX
    have Rc := Lib.hid hR
    have Xc := Lib.hid (show Blk wc Q 33 #[.int .i64 1, .int .i64 (LB.at' l1 0), .int .i64 (LB.at' l1 1), .int .i64 0, .int .i64 0, .int .i64 0, .int .i64 0, .int .i64 0, .int .i64 0, .int .i64 0, .int .i64 0, txb [], .int .i64 0, .int .i64 0, .int .i64 0, .int .i64 0, .int .i64 0, .int .i64 0, .int .i64 0, .int .i64 0, .int .i64 0, .int .i64 0, .slice none 0 0, txb []] from hX)
    have Zc := Lib.hid ((Zb.out.alloc (.cells #[.pointer (some ⟨Q, 1, none⟩), .pointer (some ⟨Q, 2, none⟩)] 65)).keeps2 hK (by omega) Q2)
    have hb := hK.below (B := w.heap.size) (by omega) Q3 (by have := Sb.out; simp; omega)
    have Bc := Lib.hid ((Bb.out.alloc (by have := Sb.out; omega) (.cells #[.pointer (some ⟨Q, 1, none⟩), .pointer (some ⟨Q, 2, none⟩)] 65)).trans hb)
    have Sc := Lib.hid (show Q + 1 ≤ wc.heap.size by have := Sb.out; have := hb.size; simp at this; omega)
    have E1 := Lib.hid he1
    clear hR hX hK hb he1 hl1 Kc Rb Xb Zb Bb Sb xb fb
    have xc : ∀ i, wc.cell? ⟨Q, i, none⟩ = (#[.int .i64 1, .int .i64 (LB.at' l1 0), .int .i64 (LB.at' l1 1), .int .i64 0, .int .i64 0, .int .i64 0, .int .i64 0, .int .i64 0, .int .i64 0, .int .i64 0, .int .i64 0, txb [], .int .i64 0, .int .i64 0, .int .i64 0, .int .i64 0, .int .i64 0, .int .i64 0, .int .i64 0, .int .i64 0, .int .i64 0, .int .i64 0, .slice none 0 0, txb []] : Array Value)[i]? := fun i => Xc.out.cell i
    have fc : ∀ i, wc.frozen? ⟨Q, i, none⟩ = false := fun i => Xc.out.frozen i
    obtain ⟨⟨l2, s2⟩, he2⟩ : ∃ p, LB.ints 4 s1 = p := ⟨_, rfl⟩
    have hl2 : l2.length = 4 := by have := LB.ints_length 4 s1; rw [he2] at this; exact this
    have Kd := Lib.hid (into_any w.heap.size (w.heap.size + 1) Q wc.heap.size 4 4 s1 33 65 (#[.int .i64 1, .int .i64 (LB.at' l1 0), .int .i64 (LB.at' l1 1), .int .i64 0, .int .i64 0, .int .i64 0, .int .i64 0, .int .i64 0, .int .i64 0, .int .i64 0, .int .i64 0, txb [], .int .i64 0, .int .i64 0, .int .i64 0, .int .i64 0, .int .i64 0, .int .i64 0, .int .i64 0, .int .i64 0, .int .i64 0, .int .i64 0, .slice none 0 0, txb []]) [3, 4, 5, 6] (wc.alloc (.cells #[.pointer (some ⟨Q, 3, none⟩), .pointer (some ⟨Q, 4, none⟩), .pointer (some ⟨Q, 5, none⟩), .pointer (some ⟨Q, 6, none⟩)] 65)) (Rc.out.keeps (Keeps.of_below (g := wc.heap.size) (bl_alloc wc _)) (by have := Sc.out; omega) (by have := Sc.out; omega)) (Xc.out.alloc _) Q1 Q3 (show Blk (wc.alloc (.cells #[.pointer (some ⟨Q, 3, none⟩), .pointer (some ⟨Q, 4, none⟩), .pointer (some ⟨Q, 5, none⟩), .pointer (some ⟨Q, 6, none⟩)] 65)) wc.heap.size 65 (ptrs Q [3, 4, 5, 6]) from Blk.new _ _ _) (by have := Sc.out; omega) (by have := Sc.out; omega) (by simp) rfl (by omega))
    rw [he2] at Kd
    go_wp2_with fail
    (with_reducible refine (Kd.out).mono ?_)
    rintro e wd ⟨rfl, hR, hX, hK⟩
    rw [← LB.at4 hl2] at hX
    have Rd := Lib.hid hR
    have Xd := Lib.hid (show Blk wd Q 33 #[.int .i64 1, .int .i64 (LB.at' l1 0), .int .i64 (LB.at' l1 1), .int .i64 (LB.at' l2 0), .int .i64 (LB.at' l2 1), .int .i64 (LB.at' l2 2), .int .i64 (LB.at' l2 3), .int .i64 0, .int .i64 0, .int .i64 0, .int .i64 0, txb [], .int .i64 0, .int .i64 0, .int .i64 0, .int .i64 0, .int .i64 0, .int .i64 0, .int .i64 0, .int .i64 0, .int .i64 0, .int .i64 0, .slice none 0 0, txb []] from hX)
    have Zd := Lib.hid ((Zc.out.alloc (.cells #[.pointer (some ⟨Q, 3, none⟩), .pointer (some ⟨Q, 4, none⟩), .pointer (some ⟨Q, 5, none⟩), .pointer (some ⟨Q, 6, none⟩)] 65)).keeps2 hK (by omega) Q2)
    have hb := hK.below (B := w.heap.size) (by omega) Q3 (by have := Sc.out; simp; omega)
    have Bd := Lib.hid ((Bc.out.alloc (by have := Sc.out; omega) (.cells #[.pointer (some ⟨Q, 3, none⟩), .pointer (some ⟨Q, 4, none⟩), .pointer (some ⟨Q, 5, none⟩), .pointer (some ⟨Q, 6, none⟩)] 65)).trans hb)
    have Sd := Lib.hid (show Q + 1 ≤ wd.heap.size by have := Sc.out; have := hb.size; simp at this; omega)
    have E2 := Lib.hid he2
    clear hR hX hK hb he2 hl2 Kd Rc Xc Zc Bc Sc xc fc
    have xd : ∀ i, wd.cell? ⟨Q, i, none⟩ = (#[.int .i64 1, .int .i64 (LB.at' l1 0), .int .i64 (LB.at' l1 1), .int .i64 (LB.at' l2 0), .int .i64 (LB.at' l2 1), .int .i64 (LB.at' l2 2), .int .i64 (LB.at' l2 3), .int .i64 0, .int .i64 0, .int .i64 0, .int .i64 0, txb [], .int .i64 0, .int .i64 0, .int .i64 0, .int .i64 0, .int .i64 0, .int .i64 0, .int .i64 0, .int .i64 0, .int .i64 0, .int .i64 0, .slice none 0 0, txb []] : Array Value)[i]? := fun i => Xd.out.cell i
    have fd : ∀ i, wd.frozen? ⟨Q, i, none⟩ = false := fun i => Xd.out.frozen i
    have HB := Lib.hid (show LB.body 1 (t, false) = (⟨1, (LB.at' l1 0), (LB.at' l1 1), (LB.at' l2 0), (LB.at' l2 1), (LB.at' l2 2), (LB.at' l2 3), 0, 0, 0, 0, [], 0, 0, 0, 0, 0, 0, 0, 0, 0, 0, [], []⟩, s2) by
      unfold LB.body
      simp only [Int.reduceEq, ite_true, ite_false]
      rw [E1.out, E2.out]
      rfl)
    clear E1 E2
    obtain ⟨lr, wr⟩ := s2
    obtain ⟨A1, n1, c1, hG, hA1, hn1', hc1', -, -⟩ := Rd.out
    simp only [] at hG hA1 hn1'
    have g0 : wd.cell? ⟨w.heap.size + 1, 0, none⟩ = some (.slice A1 n1 c1) := hG.cell 0
    have g1 : wd.cell? ⟨w.heap.size + 1, 1, none⟩ = some (.bool wr) := hG.cell 1
    clear hG hA1 Rd
    cases wr with
    | true =>
      go_upto_region 27 with fail
      iterate 4 go_step
      refine wpList_store_row rfl _ (.tmp 2) (.tmp 162) rfl _ _ rfl rfl _ _ Zd.out (by kernel_rfl) (by rfl) (by simp [Value.oneCell']) ?_
      simp only [Act.put, List.setIfInBounds_toArray, List.set_cons_zero, List.set_cons_succ]
      have ZZ := Lib.hid (Blk.row Zd.out #[.int .i64 0, .int .i64 0, .int .i64 0, .int .i64 0, .int .i64 0, .int .i64 0, .int .i64 0, .int .i64 0, .int .i64 0, .int .i64 0, .int .i64 0, txb [], .int .i64 0, .int .i64 0, .int .i64 0, .int .i64 0, .int .i64 0, .int .i64 0, .int .i64 0, .int .i64 0, .int .i64 0, .int .i64 0, .slice none 0 0, txb []])
      have BB := Lib.hid (bl_setRow (g := w.heap.size) Bd.out (Nat.le_refl _) #[.int .i64 0, .int .i64 0, .int .i64 0, .int .i64 0, .int .i64 0, .int .i64 0, .int .i64 0, .int .i64 0, .int .i64 0, .int .i64 0, .int .i64 0, txb [], .int .i64 0, .int .i64 0, .int .i64 0, .int .i64 0, .int .i64 0, .int .i64 0, .int .i64 0, .int .i64 0, .int .i64 0, .int .i64 0, .slice none 0 0, txb []])
      have hd := Lib.hid (dec_bad hkb (by decide) (by decide) HB.out (.inl rfl))
      generalize wd.setRow w.heap.size #[.int .i64 0, .int .i64 0, .int .i64 0, .int .i64 0, .int .i64 0, .int .i64 0, .int .i64 0, .int .i64 0, .int .i64 0, .int .i64 0, .int .i64 0, txb [], .int .i64 0, .int .i64 0, .int .i64 0, .int .i64 0, .int .i64 0, .int .i64 0, .int .i64 0, .int .i64 0, .int .i64 0, .int .i64 0, .slice none 0 0, txb []] = wz at ZZ BB ⊢
      go_wp2
      exact bodyPost_ret_by (ret_rec rfl ZZ.out rfl) rfl ⟨⟨none, 0, 0, by rw [hd.out]; rfl, by rw [hd.out]; exact .inl rfl, by rw [hd.out]; rfl, Nat.le_refl _, by simp [maxLen]⟩, BB.out⟩
    | false =>
      by_cases hl : lr = []
      case neg =>
        have dl : 0 < n1 := by have := List.length_pos_iff.2 hl; omega
        have HL := Lib.hid hl
        clear hl
        go_upto_region 27 with fail
        iterate 4 go_step
        refine wpList_store_row rfl _ (.tmp 2) (.tmp 162) rfl _ _ rfl rfl _ _ Zd.out (by kernel_rfl) (by rfl) (by simp [Value.oneCell']) ?_
        simp only [Act.put, List.setIfInBounds_toArray, List.set_cons_zero, List.set_cons_succ]
        have ZZ := Lib.hid (Blk.row Zd.out #[.int .i64 0, .int .i64 0, .int .i64 0, .int .i64 0, .int .i64 0, .int .i64 0, .int .i64 0, .int .i64 0, .int .i64 0, .int .i64 0, .int .i64 0, txb [], .int .i64 0, .int .i64 0, .int .i64 0, .int .i64 0, .int .i64 0, .int .i64 0, .int .i64 0, .int .i64 0, .int .i64 0, .int .i64 0, .slice none 0 0, txb []])
        have BB := Lib.hid (bl_setRow (g := w.heap.size) Bd.out (Nat.le_refl _) #[.int .i64 0, .int .i64 0, .int .i64 0, .int .i64 0, .int .i64 0, .int .i64 0, .int .i64 0, .int .i64 0, .int .i64 0, .int .i64 0, .int .i64 0, txb [], .int .i64 0, .int .i64 0, .int .i64 0, .int .i64 0, .int .i64 0, .int .i64 0, .int .i64 0, .int .i64 0, .int .i64 0, .int .i64 0, .slice none 0 0, txb []])
        have hd := Lib.hid (dec_bad hkb (by decide) (by decide) HB.out (.inr HL.out))
        generalize wd.setRow w.heap.size #[.int .i64 0, .int .i64 0, .int .i64 0, .int .i64 0, .int .i64 0, .int .i64 0, .int .i64 0, .int .i64 0, .int .i64 0, .int .i64 0, .int .i64 0, txb [], .int .i64 0, .int .i64 0, .int .i64 0, .int .i64 0, .int .i64 0, .int .i64 0, .int .i64 0, .int .i64 0, .int .i64 0, .int .i64 0, .slice none 0 0, txb []] = wz at ZZ BB ⊢
        go_wp2
        exact bodyPost_ret_by (ret_rec rfl ZZ.out rfl) rfl ⟨⟨none, 0, 0, by rw [hd.out]; rfl, by rw [hd.out]; exact .inl rfl, by rw [hd.out]; rfl, Nat.le_refl _, by simp [maxLen]⟩, BB.out⟩
      obtain rfl : n1 = 0 := by rw [← hn1', hl]; rfl
      subst hl
      clear hn1' hc1'
      have KV := Lib.hid (valid_any ⟨1, (LB.at' l1 0), (LB.at' l1 1), (LB.at' l2 0), (LB.at' l2 1), (LB.at' l2 2), (LB.at' l2 3), 0, 0, 0, 0, [], 0, 0, 0, 0, 0, 0, 0, 0, 0, 0, [], []⟩ none 0 0 wd (.inl rfl) rfl (by omega) (Nat.le_refl _) (by simp [maxLen]) (by simp) (by simp))
      go_upto_region 28 with fail
      iterate 2 go_step
      refine wp_load_rec (.tmp 5) rfl rfl Xd.out rfl ?_
      simp only [Act.put, List.setIfInBounds_toArray, List.set_cons_zero, List.set_cons_succ]
      go_wp2_with fail
      (with_reducible refine (KV.out).mono ?_)
      rintro e we ⟨rfl, hbv⟩
      have Xe := Lib.hid (Xd.out.below hbv Xd.out.lt)
      have Ze := Lib.hid (Zd.out.below hbv Zd.out.lt)
      have Be := Lib.hid (Bd.out.trans (hbv.mono (by have := Sd.out; omega)))
      clear hbv KV g0 g1 xd fd
      obtain ⟨v, hv⟩ : ∃ v, vaB ⟨1, (LB.at' l1 0), (LB.at' l1 1), (LB.at' l2 0), (LB.at' l2 1), (LB.at' l2 2), (LB.at' l2 3), 0, 0, 0, 0, [], 0, 0, 0, 0, 0, 0, 0, 0, 0, 0, [], []⟩ = v := ⟨_, rfl⟩
      rw [hv]
      cases v with
      | false =>
        have HV := Lib.hid hv
        clear hv
        go_upto_region 29 with fail
        iterate 4 go_step
        refine wpList_store_row rfl _ (.tmp 2) (.tmp 167) rfl _ _ rfl rfl _ _ Ze.out (by kernel_rfl) (by rfl) (by simp [Value.oneCell']) ?_
        simp only [Act.put, List.setIfInBounds_toArray, List.set_cons_zero, List.set_cons_succ]
        have ZZ := Lib.hid (Blk.row Ze.out #[.int .i64 0, .int .i64 0, .int .i64 0, .int .i64 0, .int .i64 0, .int .i64 0, .int .i64 0, .int .i64 0, .int .i64 0, .int .i64 0, .int .i64 0, txb [], .int .i64 0, .int .i64 0, .int .i64 0, .int .i64 0, .int .i64 0, .int .i64 0, .int .i64 0, .int .i64 0, .int .i64 0, .int .i64 0, .slice none 0 0, txb []])
        have BB := Lib.hid (bl_setRow (g := w.heap.size) Be.out (Nat.le_refl _) #[.int .i64 0, .int .i64 0, .int .i64 0, .int .i64 0, .int .i64 0, .int .i64 0, .int .i64 0, .int .i64 0, .int .i64 0, .int .i64 0, .int .i64 0, txb [], .int .i64 0, .int .i64 0, .int .i64 0, .int .i64 0, .int .i64 0, .int .i64 0, .int .i64 0, .int .i64 0, .int .i64 0, .int .i64 0, .slice none 0 0, txb []])
        have hd := Lib.hid (dec_arg hkb (by decide) (by decide) HB.out HV.out)
        generalize we.setRow w.heap.size #[.int .i64 0, .int .i64 0, .int .i64 0, .int .i64 0, .int .i64 0, .int .i64 0, .int .i64 0, .int .i64 0, .int .i64 0, .int .i64 0, .int .i64 0, txb [], .int .i64 0, .int .i64 0, .int .i64 0, .int .i64 0, .int .i64 0, .int .i64 0, .int .i64 0, .int .i64 0, .int .i64 0, .int .i64 0, .slice none 0 0, txb []] = wz at ZZ BB ⊢
        go_wp2
        exact bodyPost_ret_by (ret_rec rfl ZZ.out rfl) rfl ⟨⟨none, 0, 0, by rw [hd.out]; rfl, by rw [hd.out]; exact .inl rfl, by rw [hd.out]; rfl, Nat.le_refl _, by simp [maxLen]⟩, BB.out⟩
      | true =>
        have hd := Lib.hid (dec_ok hkb (by decide) (by decide) HB.out hv)
        clear hv
        go_upto_region 30 with fail
        iterate 2 go_step
        refine wp_load_rec (.tmp 5) rfl rfl Xe.out rfl ?_
        simp only [Act.put, List.setIfInBounds_toArray, List.set_cons_zero, List.set_cons_succ]
        iterate 1 go_step
        refine wpList_store_row rfl _ (.tmp 2) (.tmp 168) rfl _ _ rfl rfl _ _ Ze.out (by kernel_rfl) (by rfl) (by simp [Value.oneCell']) ?_
        simp only [Act.put, List.setIfInBounds_toArray, List.set_cons_zero, List.set_cons_succ]
        have ZZ := Lib.hid (Blk.row Ze.out #[.int .i64 1, .int .i64 (LB.at' l1 0), .int .i64 (LB.at' l1 1), .int .i64 (LB.at' l2 0), .int .i64 (LB.at' l2 1), .int .i64 (LB.at' l2 2), .int .i64 (LB.at' l2 3), .int .i64 0, .int .i64 0, .int .i64 0, .int .i64 0, txb [], .int .i64 0, .int .i64 0, .int .i64 0, .int .i64 0, .int .i64 0, .int .i64 0, .int .i64 0, .int .i64 0, .int .i64 0, .int .i64 0, .slice none 0 0, txb []])
        have BB := Lib.hid (bl_setRow (g := w.heap.size) Be.out (Nat.le_refl _) #[.int .i64 1, .int .i64 (LB.at' l1 0), .int .i64 (LB.at' l1 1), .int .i64 (LB.at' l2 0), .int .i64 (LB.at' l2 1), .int .i64 (LB.at' l2 2), .int .i64 (LB.at' l2 3), .int .i64 0, .int .i64 0, .int .i64 0, .int .i64 0, txb [], .int .i64 0, .int .i64 0, .int .i64 0, .int .i64 0, .int .i64 0, .int .i64 0, .int .i64 0, .int .i64 0, .int .i64 0, .int .i64 0, .slice none 0 0, txb []])
        generalize we.setRow w.heap.size #[.int .i64 1, .int .i64 (LB.at' l1 0), .int .i64 (LB.at' l1 1), .int .i64 (LB.at' l2 0), .int .i64 (LB.at' l2 1), .int .i64 (LB.at' l2 2), .int .i64 (LB.at' l2 3), .int .i64 0, .int .i64 0, .int .i64 0, .int .i64 0, txb [], .int .i64 0, .int .i64 0, .int .i64 0, .int .i64 0, .int .i64 0, .int .i64 0, .int .i64 0, .int .i64 0, .int .i64 0, .int .i64 0, .slice none 0 0, txb []] = wz at ZZ BB ⊢
        go_wp2
        exact bodyPost_ret_by (ret_rec rfl ZZ.out rfl) rfl ⟨⟨none, 0, 0, by rw [hd.out]; rfl, by rw [hd.out]; exact (.inl rfl), by rw [hd.out]; exact rfl, (Nat.le_refl _), (by simp [maxLen])⟩, BB.out⟩
set_option maxHeartbeats 8000000 in
set_option maxRecDepth 100000 in
theorem dec2_any (kb : UInt8) (hkb : kb.toNat = 2) (t : Bs) (A : Option Addr) (n c : Nat) (w : World) (hA : BytesAt w w.heap.size A (kb :: t)) (hn : (kb :: t).length = n) (hc : n ≤ c) (hcm : c ≤ maxLen) (hn1 : n ≤ 1000) :
    Calls Tryz.prog 6 #[.slice A n c] w fun e w' => (∃ A' n' c', e = .returned (.tuple #[recV (LB.dec vaB (kb :: t)).1 (.slice A' n' c'), .int .i64 (LB.dec vaB (kb :: t)).2]) ∧ IntsAt w' A' (LB.dec vaB (kb :: t)).1.list ∧ (LB.dec vaB (kb :: t)).1.list.length = n' ∧ n' ≤ c' ∧ c' ≤ maxLen) ∧ Below w.heap.size w w' := by
  obtain ⟨q, off, rfl, hq, y0, hT⟩ := hA.cons
  rw [hkb] at y0
  have y1 : ∀ o, (w.alloc o).cell? ⟨q, off, none⟩ = some (.int .u8 2) := fun o => (World.cell?_alloc_lt w o ⟨q, off, none⟩ hq).trans y0
  have dn : ((n : Int) == 0) = false := by simp at hn ⊢; omega
  have hn0 : ¬ n = 0 := by simp at hn; omega
  by_cases hc1 : c = 1
  · subst hc1
    obtain rfl : n = 1 := by omega
    have ht0 : t = [] := List.eq_nil_of_length_eq_zero (by simpa using hn)
    go_enter Tryz.func6, Tryz.ntmps6
    go_upto_region 4 with fail
    obtain ⟨hR, hZ, hB, hS⟩ := dec_start w #[.int .i64 0, .int .i64 0, .int .i64 0, .int .i64 0, .int .i64 0, .int .i64 0, .int .i64 0, .int .i64 0, .int .i64 0, .int .i64 0, .int .i64 0, txb [], .int .i64 0, .int .i64 0, .int .i64 0, .int .i64 0, .int .i64 0, .int .i64 0, .int .i64 0, .int .i64 0, .int .i64 0, .int .i64 0, .slice none 0 0, txb []] (some ⟨q, off, none⟩) 0 0 t (.inl ht0) (by rw [ht0]; rfl) (Nat.le_refl _) (by simp [maxLen])
    have yW := (hB.cell (p := ⟨q, off, none⟩) hq).trans y0
    generalize (w.alloc (.cells #[.int .i64 0, .int .i64 0, .int .i64 0, .int .i64 0, .int .i64 0, .int .i64 0, .int .i64 0, .int .i64 0, .int .i64 0, .int .i64 0, .int .i64 0, txb [], .int .i64 0, .int .i64 0, .int .i64 0, .int .i64 0, .int .i64 0, .int .i64 0, .int .i64 0, .int .i64 0, .int .i64 0, .int .i64 0, .slice none 0 0, txb []] 33)).alloc (.cells #[.slice (some ⟨q, off, none⟩) 0 0, .bool false] 61) = wa at hR hZ hB hS yW ⊢
    have HS := Lib.hid hS
    clear hS
    iterate 19 go_step
    refine wpList_store_row rfl _ (.tmp 5) (.tmp 34) rfl _ _ rfl rfl _ _ (heap_alloc_last _ _) (by kernel_rfl) (by rfl) (by simp [Value.oneCell']) ?_
    rw [World.setRow_alloc_new]
    simp only [Act.put, List.setIfInBounds_toArray, List.set_cons_zero, List.set_cons_succ]
    have hS := HS.out
    clear HS
    have Rb := Lib.hid (hR.keeps (Keeps.of_below (g := wa.heap.size) (bl_alloc wa (.cells #[.int .i64 2, .int .i64 0, .int .i64 0, .int .i64 0, .int .i64 0, .int .i64 0, .int .i64 0, .int .i64 0, .int .i64 0, .int .i64 0, .int .i64 0, txb [], .int .i64 0, .int .i64 0, .int .i64 0, .int .i64 0, .int .i64 0, .int .i64 0, .int .i64 0, .int .i64 0, .int .i64 0, .int .i64 0, .slice none 0 0, txb []] 33))) (by omega) (by omega))
    have Zb := Lib.hid (hZ.alloc (.cells #[.int .i64 2, .int .i64 0, .int .i64 0, .int .i64 0, .int .i64 0, .int .i64 0, .int .i64 0, .int .i64 0, .int .i64 0, .int .i64 0, .int .i64 0, txb [], .int .i64 0, .int .i64 0, .int .i64 0, .int .i64 0, .int .i64 0, .int .i64 0, .int .i64 0, .int .i64 0, .int .i64 0, .int .i64 0, .slice none 0 0, txb []] 33))
    have Xb := Lib.hid (Blk.new wa 33 #[.int .i64 2, .int .i64 0, .int .i64 0, .int .i64 0, .int .i64 0, .int .i64 0, .int .i64 0, .int .i64 0, .int .i64 0, .int .i64 0, .int .i64 0, txb [], .int .i64 0, .int .i64 0, .int .i64 0, .int .i64 0, .int .i64 0, .int .i64 0, .int .i64 0, .int .i64 0, .int .i64 0, .int .i64 0, .slice none 0 0, txb []])
    have Bb := Lib.hid (hB.alloc (by omega) (.cells #[.int .i64 2, .int .i64 0, .int .i64 0, .int .i64 0, .int .i64 0, .int .i64 0, .int .i64 0, .int .i64 0, .int .i64 0, .int .i64 0, .int .i64 0, txb [], .int .i64 0, .int .i64 0, .int .i64 0, .int .i64 0, .int .i64 0, .int .i64 0, .int .i64 0, .int .i64 0, .int .i64 0, .int .i64 0, .slice none 0 0, txb []] 33))
    have Sb := Lib.hid (show wa.heap.size + 1 ≤ (wa.alloc (.cells #[.int .i64 2, .int .i64 0, .int .i64 0, .int .i64 0, .int .i64 0, .int .i64 0, .int .i64 0, .int .i64 0, .int .i64 0, .int .i64 0, .int .i64 0, txb [], .int .i64 0, .int .i64 0, .int .i64 0, .int .i64 0, .int .i64 0, .int .i64 0, .int .i64 0, .int .i64 0, .int .i64 0, .int .i64 0, .slice none 0 0, txb []] 33)).heap.size by simp)
    generalize hQ : wa.heap.size = Q at *
    generalize wa.alloc (.cells #[.int .i64 2, .int .i64 0, .int .i64 0, .int .i64 0, .int .i64 0, .int .i64 0, .int .i64 0, .int .i64 0, .int .i64 0, .int .i64 0, .int .i64 0, txb [], .int .i64 0, .int .i64 0, .int .i64 0, .int .i64 0, .int .i64 0, .int .i64 0, .int .i64 0, .int .i64 0, .int .i64 0, .int .i64 0, .slice none 0 0, txb []] 33) = wb at *
    clear hR hZ hB yW y0 y1
    have Q1 : Q ≠ w.heap.size + 1 := by omega
    have Q2 : w.heap.size ≠ Q := by omega
    have Q3 : w.heap.size ≤ Q := by omega
    clear hQ hS
    have xb : ∀ i, wb.cell? ⟨Q, i, none⟩ = (#[.int .i64 2, .int .i64 0, .int .i64 0, .int .i64 0, .int .i64 0, .int .i64 0, .int .i64 0, .int .i64 0, .int .i64 0, .int .i64 0, .int .i64 0, txb [], .int .i64 0, .int .i64 0, .int .i64 0, .int .i64 0, .int .i64 0, .int .i64 0, .int .i64 0, .int .i64 0, .int .i64 0, .int .i64 0, .slice none 0 0, txb []] : Array Value)[i]? := fun i => Xb.out.cell i
    have fb : ∀ i, wb.frozen? ⟨Q, i, none⟩ = false := fun i => Xb.out.frozen i
    obtain ⟨⟨l1, s1⟩, he1⟩ : ∃ p, LB.ints 2 (t, false) = p := ⟨_, rfl⟩
    have hl1 : l1.length = 2 := by have := LB.ints_length 2 (t, false); rw [he1] at this; exact this
    have Kc := Lib.hid (into_any w.heap.size (w.heap.size + 1) Q wb.heap.size 2 2 (t, false) 33 65 (#[.int .i64 2, .int .i64 0, .int .i64 0, .int .i64 0, .int .i64 0, .int .i64 0, .int .i64 0, .int .i64 0, .int .i64 0, .int .i64 0, .int .i64 0, txb [], .int .i64 0, .int .i64 0, .int .i64 0, .int .i64 0, .int .i64 0, .int .i64 0, .int .i64 0, .int .i64 0, .int .i64 0, .int .i64 0, .slice none 0 0, txb []]) [1, 2] (wb.alloc (.cells #[.pointer (some ⟨Q, 1, none⟩), .pointer (some ⟨Q, 2, none⟩)] 65)) (Rb.out.keeps (Keeps.of_below (g := wb.heap.size) (bl_alloc wb _)) (by have := Sb.out; omega) (by have := Sb.out; omega)) (Xb.out.alloc _) Q1 Q3 (show Blk (wb.alloc (.cells #[.pointer (some ⟨Q, 1, none⟩), .pointer (some ⟨Q, 2, none⟩)] 65)) wb.heap.size 65 (ptrs Q [1, 2]) from Blk.new _ _ _) (by have := Sb.out; omega) (by have := Sb.out; omega) (by simp) rfl (by omega))
    rw [he1] at Kc
    go_wp2_with fail
    (with_reducible refine (Kc.out).mono ?_)
    rintro e wc ⟨rfl, hR, hX, hK⟩
    rw [← LB.at2 hl1] at hX
    have Rc := Lib.hid hR
    have Xc := Lib.hid (show Blk wc Q 33 #[.int .i64 2, .int .i64 (LB.at' l1 0), .int .i64 (LB.at' l1 1), .int .i64 0, .int .i64 0, .int .i64 0, .int .i64 0, .int .i64 0, .int .i64 0, .int .i64 0, .int .i64 0, txb [], .int .i64 0, .int .i64 0, .int .i64 0, .int .i64 0, .int .i64 0, .int .i64 0, .int .i64 0, .int .i64 0, .int .i64 0, .int .i64 0, .slice none 0 0, txb []] from hX)
    have Zc := Lib.hid ((Zb.out.alloc (.cells #[.pointer (some ⟨Q, 1, none⟩), .pointer (some ⟨Q, 2, none⟩)] 65)).keeps2 hK (by omega) Q2)
    have hb := hK.below (B := w.heap.size) (by omega) Q3 (by have := Sb.out; simp; omega)
    have Bc := Lib.hid ((Bb.out.alloc (by have := Sb.out; omega) (.cells #[.pointer (some ⟨Q, 1, none⟩), .pointer (some ⟨Q, 2, none⟩)] 65)).trans hb)
    have Sc := Lib.hid (show Q + 1 ≤ wc.heap.size by have := Sb.out; have := hb.size; simp at this; omega)
    have E1 := Lib.hid he1
    clear hR hX hK hb he1 hl1 Kc Rb Xb Zb Bb Sb xb fb
    have xc : ∀ i, wc.cell? ⟨Q, i, none⟩ = (#[.int .i64 2, .int .i64 (LB.at' l1 0), .int .i64 (LB.at' l1 1), .int .i64 0, .int .i64 0, .int .i64 0, .int .i64 0, .int .i64 0, .int .i64 0, .int .i64 0, .int .i64 0, txb [], .int .i64 0, .int .i64 0, .int .i64 0, .int .i64 0, .int .i64 0, .int .i64 0, .int .i64 0, .int .i64 0, .int .i64 0, .int .i64 0, .slice none 0 0, txb []] : Array Value)[i]? := fun i => Xc.out.cell i
    have fc : ∀ i, wc.frozen? ⟨Q, i, none⟩ = false := fun i => Xc.out.frozen i
    obtain ⟨⟨l2, s2⟩, he2⟩ : ∃ p, LB.ints 4 s1 = p := ⟨_, rfl⟩
    have hl2 : l2.length = 4 := by have := LB.ints_length 4 s1; rw [he2] at this; exact this
    have Kd := Lib.hid (into_any w.heap.size (w.heap.size + 1) Q wc.heap.size 4 4 s1 33 65 (#[.int .i64 2, .int .i64 (LB.at' l1 0), .int .i64 (LB.at' l1 1), .int .i64 0, .int .i64 0, .int .i64 0, .int .i64 0, .int .i64 0, .int .i64 0, .int .i64 0, .int .i64 0, txb [], .int .i64 0, .int .i64 0, .int .i64 0, .int .i64 0, .int .i64 0, .int .i64 0, .int .i64 0, .int .i64 0, .int .i64 0, .int .i64 0, .slice none 0 0, txb []]) [7, 8, 9, 10] (wc.alloc (.cells #[.pointer (some ⟨Q, 7, none⟩), .pointer (some ⟨Q, 8, none⟩), .pointer (some ⟨Q, 9, none⟩), .pointer (some ⟨Q, 10, none⟩)] 65)) (Rc.out.keeps (Keeps.of_below (g := wc.heap.size) (bl_alloc wc _)) (by have := Sc.out; omega) (by have := Sc.out; omega)) (Xc.out.alloc _) Q1 Q3 (show Blk (wc.alloc (.cells #[.pointer (some ⟨Q, 7, none⟩), .pointer (some ⟨Q, 8, none⟩), .pointer (some ⟨Q, 9, none⟩), .pointer (some ⟨Q, 10, none⟩)] 65)) wc.heap.size 65 (ptrs Q [7, 8, 9, 10]) from Blk.new _ _ _) (by have := Sc.out; omega) (by have := Sc.out; omega) (by simp) rfl (by omega))
    rw [he2] at Kd
    go_wp2_with fail
    (with_reducible refine (Kd.out).mono ?_)
    rintro e wd ⟨rfl, hR, hX, hK⟩
    rw [← LB.at4 hl2] at hX
    have Rd := Lib.hid hR
    have Xd := Lib.hid (show Blk wd Q 33 #[.int .i64 2, .int .i64 (LB.at' l1 0), .int .i64 (LB.at' l1 1), .int .i64 0, .int .i64 0, .int .i64 0, .int .i64 0, .int .i64 (LB.at' l2 0), .int .i64 (LB.at' l2 1), .int .i64 (LB.at' l2 2), .int .i64 (LB.at' l2 3), txb [], .int .i64 0, .int .i64 0, .int .i64 0, .int .i64 0, .int .i64 0, .int .i64 0, .int .i64 0, .int .i64 0, .int .i64 0, .int .i64 0, .slice none 0 0, txb []] from hX)
    have Zd := Lib.hid ((Zc.out.alloc (.cells #[.pointer (some ⟨Q, 7, none⟩), .pointer (some ⟨Q, 8, none⟩), .pointer (some ⟨Q, 9, none⟩), .pointer (some ⟨Q, 10, none⟩)] 65)).keeps2 hK (by omega) Q2)
    have hb := hK.below (B := w.heap.size) (by omega) Q3 (by have := Sc.out; simp; omega)
    have Bd := Lib.hid ((Bc.out.alloc (by have := Sc.out; omega) (.cells #[.pointer (some ⟨Q, 7, none⟩), .pointer (some ⟨Q, 8, none⟩), .pointer (some ⟨Q, 9, none⟩), .pointer (some ⟨Q, 10, none⟩)] 65)).trans hb)
    have Sd := Lib.hid (show Q + 1 ≤ wd.heap.size by have := Sc.out; have := hb.size; simp at this; omega)
    have E2 := Lib.hid he2
    clear hR hX hK hb he2 hl2 Kd Rc Xc Zc Bc Sc xc fc
    have xd : ∀ i, wd.cell? ⟨Q, i, none⟩ = (#[.int .i64 2, .int .i64 (LB.at' l1 0), .int .i64 (LB.at' l1 1), .int .i64 0, .int .i64 0, .int .i64 0, .int .i64 0, .int .i64 (LB.at' l2 0), .int .i64 (LB.at' l2 1), .int .i64 (LB.at' l2 2), .int .i64 (LB.at' l2 3), txb [], .int .i64 0, .int .i64 0, .int .i64 0, .int .i64 0, .int .i64 0, .int .i64 0, .int .i64 0, .int .i64 0, .int .i64 0, .int .i64 0, .slice none 0 0, txb []] : Array Value)[i]? := fun i => Xd.out.cell i
    have fd : ∀ i, wd.frozen? ⟨Q, i, none⟩ = false := fun i => Xd.out.frozen i
    have HB := Lib.hid (show LB.body 2 (t, false) = (⟨2, (LB.at' l1 0), (LB.at' l1 1), 0, 0, 0, 0, (LB.at' l2 0), (LB.at' l2 1), (LB.at' l2 2), (LB.at' l2 3), [], 0, 0, 0, 0, 0, 0, 0, 0, 0, 0, [], []⟩, s2) by
      unfold LB.body
      simp only [Int.reduceEq, ite_true, ite_false]
      rw [E1.out, E2.out]
      rfl)
    clear E1 E2
    obtain ⟨lr, wr⟩ := s2
    obtain ⟨A1, n1, c1, hG, hA1, hn1', hc1', -, -⟩ := Rd.out
    simp only [] at hG hA1 hn1'
    have g0 : wd.cell? ⟨w.heap.size + 1, 0, none⟩ = some (.slice A1 n1 c1) := hG.cell 0
    have g1 : wd.cell? ⟨w.heap.size + 1, 1, none⟩ = some (.bool wr) := hG.cell 1
    clear hG hA1 Rd
    cases wr with
    | true =>
      go_upto_region 27 with fail
      iterate 4 go_step
      refine wpList_store_row rfl _ (.tmp 2) (.tmp 162) rfl _ _ rfl rfl _ _ Zd.out (by kernel_rfl) (by rfl) (by simp [Value.oneCell']) ?_
      simp only [Act.put, List.setIfInBounds_toArray, List.set_cons_zero, List.set_cons_succ]
      have ZZ := Lib.hid (Blk.row Zd.out #[.int .i64 0, .int .i64 0, .int .i64 0, .int .i64 0, .int .i64 0, .int .i64 0, .int .i64 0, .int .i64 0, .int .i64 0, .int .i64 0, .int .i64 0, txb [], .int .i64 0, .int .i64 0, .int .i64 0, .int .i64 0, .int .i64 0, .int .i64 0, .int .i64 0, .int .i64 0, .int .i64 0, .int .i64 0, .slice none 0 0, txb []])
      have BB := Lib.hid (bl_setRow (g := w.heap.size) Bd.out (Nat.le_refl _) #[.int .i64 0, .int .i64 0, .int .i64 0, .int .i64 0, .int .i64 0, .int .i64 0, .int .i64 0, .int .i64 0, .int .i64 0, .int .i64 0, .int .i64 0, txb [], .int .i64 0, .int .i64 0, .int .i64 0, .int .i64 0, .int .i64 0, .int .i64 0, .int .i64 0, .int .i64 0, .int .i64 0, .int .i64 0, .slice none 0 0, txb []])
      have hd := Lib.hid (dec_bad hkb (by decide) (by decide) HB.out (.inl rfl))
      generalize wd.setRow w.heap.size #[.int .i64 0, .int .i64 0, .int .i64 0, .int .i64 0, .int .i64 0, .int .i64 0, .int .i64 0, .int .i64 0, .int .i64 0, .int .i64 0, .int .i64 0, txb [], .int .i64 0, .int .i64 0, .int .i64 0, .int .i64 0, .int .i64 0, .int .i64 0, .int .i64 0, .int .i64 0, .int .i64 0, .int .i64 0, .slice none 0 0, txb []] = wz at ZZ BB ⊢
      go_wp2
      exact bodyPost_ret_by (ret_rec rfl ZZ.out rfl) rfl ⟨⟨none, 0, 0, by rw [hd.out]; rfl, by rw [hd.out]; exact .inl rfl, by rw [hd.out]; rfl, Nat.le_refl _, by simp [maxLen]⟩, BB.out⟩
    | false =>
      by_cases hl : lr = []
      case neg =>
        have dl : 0 < n1 := by have := List.length_pos_iff.2 hl; omega
        have HL := Lib.hid hl
        clear hl
        go_upto_region 27 with fail
        iterate 4 go_step
        refine wpList_store_row rfl _ (.tmp 2) (.tmp 162) rfl _ _ rfl rfl _ _ Zd.out (by kernel_rfl) (by rfl) (by simp [Value.oneCell']) ?_
        simp only [Act.put, List.setIfInBounds_toArray, List.set_cons_zero, List.set_cons_succ]
        have ZZ := Lib.hid (Blk.row Zd.out #[.int .i64 0, .int .i64 0, .int .i64 0, .int .i64 0, .int .i64 0, .int .i64 0, .int .i64 0, .int .i64 0, .int .i64 0, .int .i64 0, .int .i64 0, txb [], .int .i64 0, .int .i64 0, .int .i64 0, .int .i64 0, .int .i64 0, .int .i64 0, .int .i64 0, .int .i64 0, .int .i64 0, .int .i64 0, .slice none 0 0, txb []])
        have BB := Lib.hid (bl_setRow (g := w.heap.size) Bd.out (Nat.le_refl _) #[.int .i64 0, .int .i64 0, .int .i64 0, .int .i64 0, .int .i64 0, .int .i64 0, .int .i64 0, .int .i64 0, .int .i64 0, .int .i64 0, .int .i64 0, txb [], .int .i64 0, .int .i64 0, .int .i64 0, .int .i64 0, .int .i64 0, .int .i64 0, .int .i64 0, .int .i64 0, .int .i64 0, .int .i64 0, .slice none 0 0, txb []])
        have hd := Lib.hid (dec_bad hkb (by decide) (by decide) HB.out (.inr HL.out))
        generalize wd.setRow w.heap.size #[.int .i64 0, .int .i64 0, .int .i64 0, .int .i64 0, .int .i64 0, .int .i64 0, .int .i64 0, .int .i64 0, .int .i64 0, .int .i64 0, .int .i64 0, txb [], .int .i64 0, .int .i64 0, .int .i64 0, .int .i64 0, .int .i64 0, .int .i64 0, .int .i64 0, .int .i64 0, .int .i64 0, .int .i64 0, .slice none 0 0, txb []] = wz at ZZ BB ⊢
        go_wp2
        exact bodyPost_ret_by (ret_rec rfl ZZ.out rfl) rfl ⟨⟨none, 0, 0, by rw [hd.out]; rfl, by rw [hd.out]; exact .inl rfl, by rw [hd.out]; rfl, Nat.le_refl _, by simp [maxLen]⟩, BB.out⟩
      obtain rfl : n1 = 0 := by rw [← hn1', hl]; rfl
      subst hl
      clear hn1' hc1'
      have KV := Lib.hid (valid_any ⟨2, (LB.at' l1 0), (LB.at' l1 1), 0, 0, 0, 0, (LB.at' l2 0), (LB.at' l2 1), (LB.at' l2 2), (LB.at' l2 3), [], 0, 0, 0, 0, 0, 0, 0, 0, 0, 0, [], []⟩ none 0 0 wd (.inl rfl) rfl (by omega) (Nat.le_refl _) (by simp [maxLen]) (by simp) (by simp))
      go_upto_region 28 with fail
      iterate 2 go_step
      refine wp_load_rec (.tmp 5) rfl rfl Xd.out rfl ?_
      simp only [Act.put, List.setIfInBounds_toArray, List.set_cons_zero, List.set_cons_succ]
      go_wp2_with fail
      (with_reducible refine (KV.out).mono ?_)
      rintro e we ⟨rfl, hbv⟩
      have Xe := Lib.hid (Xd.out.below hbv Xd.out.lt)
      have Ze := Lib.hid (Zd.out.below hbv Zd.out.lt)
      have Be := Lib.hid (Bd.out.trans (hbv.mono (by have := Sd.out; omega)))
      clear hbv KV g0 g1 xd fd
      obtain ⟨v, hv⟩ : ∃ v, vaB ⟨2, (LB.at' l1 0), (LB.at' l1 1), 0, 0, 0, 0, (LB.at' l2 0), (LB.at' l2 1), (LB.at' l2 2), (LB.at' l2 3), [], 0, 0, 0, 0, 0, 0, 0, 0, 0, 0, [], []⟩ = v := ⟨_, rfl⟩
      rw [hv]
      cases v with
      | false =>
        have HV := Lib.hid hv
        clear hv
        go_upto_region 29 with fail
        iterate 4 go_step
        refine wpList_store_row rfl _ (.tmp 2) (.tmp 167) rfl _ _ rfl rfl _ _ Ze.out (by kernel_rfl) (by rfl) (by simp [Value.oneCell']) ?_
        simp only [Act.put, List.setIfInBounds_toArray, List.set_cons_zero, List.set_cons_succ]
        have ZZ := Lib.hid (Blk.row Ze.out #[.int .i64 0, .int .i64 0, .int .i64 0, .int .i64 0, .int .i64 0, .int .i64 0, .int .i64 0, .int .i64 0, .int .i64 0, .int .i64 0, .int .i64 0, txb [], .int .i64 0, .int .i64 0, .int .i64 0, .int .i64 0, .int .i64 0, .int .i64 0, .int .i64 0, .int .i64 0, .int .i64 0, .int .i64 0, .slice none 0 0, txb []])
        have BB := Lib.hid (bl_setRow (g := w.heap.size) Be.out (Nat.le_refl _) #[.int .i64 0, .int .i64 0, .int .i64 0, .int .i64 0, .int .i64 0, .int .i64 0, .int .i64 0, .int .i64 0, .int .i64 0, .int .i64 0, .int .i64 0, txb [], .int .i64 0, .int .i64 0, .int .i64 0, .int .i64 0, .int .i64 0, .int .i64 0, .int .i64 0, .int .i64 0, .int .i64 0, .int .i64 0, .slice none 0 0, txb []])
        have hd := Lib.hid (dec_arg hkb (by decide) (by decide) HB.out HV.out)
        generalize we.setRow w.heap.size #[.int .i64 0, .int .i64 0, .int .i64 0, .int .i64 0, .int .i64 0, .int .i64 0, .int .i64 0, .int .i64 0, .int .i64 0, .int .i64 0, .int .i64 0, txb [], .int .i64 0, .int .i64 0, .int .i64 0, .int .i64 0, .int .i64 0, .int .i64 0, .int .i64 0, .int .i64 0, .int .i64 0, .int .i64 0, .slice none 0 0, txb []] = wz at ZZ BB ⊢
        go_wp2
        exact bodyPost_ret_by (ret_rec rfl ZZ.out rfl) rfl ⟨⟨none, 0, 0, by rw [hd.out]; rfl, by rw [hd.out]; exact .inl rfl, by rw [hd.out]; rfl, Nat.le_refl _, by simp [maxLen]⟩, BB.out⟩
      | true =>
        have hd := Lib.hid (dec_ok hkb (by decide) (by decide) HB.out hv)
        clear hv
        go_upto_region 30 with fail
        iterate 2 go_step
        refine wp_load_rec (.tmp 5) rfl rfl Xe.out rfl ?_
        simp only [Act.put, List.setIfInBounds_toArray, List.set_cons_zero, List.set_cons_succ]
        iterate 1 go_step
        refine wpList_store_row rfl _ (.tmp 2) (.tmp 168) rfl _ _ rfl rfl _ _ Ze.out (by kernel_rfl) (by rfl) (by simp [Value.oneCell']) ?_
        simp only [Act.put, List.setIfInBounds_toArray, List.set_cons_zero, List.set_cons_succ]
        have ZZ := Lib.hid (Blk.row Ze.out #[.int .i64 2, .int .i64 (LB.at' l1 0), .int .i64 (LB.at' l1 1), .int .i64 0, .int .i64 0, .int .i64 0, .int .i64 0, .int .i64 (LB.at' l2 0), .int .i64 (LB.at' l2 1), .int .i64 (LB.at' l2 2), .int .i64 (LB.at' l2 3), txb [], .int .i64 0, .int .i64 0, .int .i64 0, .int .i64 0, .int .i64 0, .int .i64 0, .int .i64 0, .int .i64 0, .int .i64 0, .int .i64 0, .slice none 0 0, txb []])
        have BB := Lib.hid (bl_setRow (g := w.heap.size) Be.out (Nat.le_refl _) #[.int .i64 2, .int .i64 (LB.at' l1 0), .int .i64 (LB.at' l1 1), .int .i64 0, .int .i64 0, .int .i64 0, .int .i64 0, .int .i64 (LB.at' l2 0), .int .i64 (LB.at' l2 1), .int .i64 (LB.at' l2 2), .int .i64 (LB.at' l2 3), txb [], .int .i64 0, .int .i64 0, .int .i64 0, .int .i64 0, .int .i64 0, .int .i64 0, .int .i64 0, .int .i64 0, .int .i64 0, .int .i64 0, .slice none 0 0, txb []])
        generalize we.setRow w.heap.size #[.int .i64 2, .int .i64 (LB.at' l1 0), .int .i64 (LB.at' l1 1), .int .i64 0, .int .i64 0, .int .i64 0, .int .i64 0, .int .i64 (LB.at' l2 0), .int .i64 (LB.at' l2 1), .int .i64 (LB.at' l2 2), .int .i64 (LB.at' l2 3), txb [], .int .i64 0, .int .i64 0, .int .i64 0, .int .i64 0, .int .i64 0, .int .i64 0, .int .i64 0, .int .i64 0, .int .i64 0, .int .i64 0, .slice none 0 0, txb []] = wz at ZZ BB ⊢
        go_wp2
        exact bodyPost_ret_by (ret_rec rfl ZZ.out rfl) rfl ⟨⟨none, 0, 0, by rw [hd.out]; rfl, by rw [hd.out]; exact (.inl rfl), by rw [hd.out]; exact rfl, (Nat.le_refl _), (by simp [maxLen])⟩, BB.out⟩
  · go_enter Tryz.func6, Tryz.ntmps6
    go_upto_region 4 with fail
    obtain ⟨hR, hZ, hB, hS⟩ := dec_start w #[.int .i64 0, .int .i64 0, .int .i64 0, .int .i64 0, .int .i64 0, .int .i64 0, .int .i64 0, .int .i64 0, .int .i64 0, .int .i64 0, .int .i64 0, txb [], .int .i64 0, .int .i64 0, .int .i64 0, .int .i64 0, .int .i64 0, .int .i64 0, .int .i64 0, .int .i64 0, .int .i64 0, .int .i64 0, .slice none 0 0, txb []] (some ⟨q, off + 1, none⟩) (n - 1) (c - 1) t hT (by simp at hn; omega) (by omega) (by omega)
    have yW := (hB.cell (p := ⟨q, off, none⟩) hq).trans y0
    generalize (w.alloc (.cells #[.int .i64 0, .int .i64 0, .int .i64 0, .int .i64 0, .int .i64 0, .int .i64 0, .int .i64 0, .int .i64 0, .int .i64 0, .int .i64 0, .int .i64 0, txb [], .int .i64 0, .int .i64 0, .int .i64 0, .int .i64 0, .int .i64 0, .int .i64 0, .int .i64 0, .int .i64 0, .int .i64 0, .int .i64 0, .slice none 0 0, txb []] 33)).alloc (.cells #[.slice (some ⟨q, off + 1, none⟩) (n - 1) (c - 1), .bool false] 61) = wa at hR hZ hB hS yW ⊢
    have HS := Lib.hid hS
    clear hS
    iterate 19 go_step
    refine wpList_store_row rfl _ (.tmp 5) (.tmp 34) rfl _ _ rfl rfl _ _ (heap_alloc_last _ _) (by kernel_rfl) (by rfl) (by simp [Value.oneCell']) ?_
    rw [World.setRow_alloc_new]
    simp only [Act.put, List.setIfInBounds_toArray, List.set_cons_zero, List.set_cons_succ]
    have hS := HS.out
    clear HS
    have Rb := Lib.hid (hR.keeps (Keeps.of_below (g := wa.heap.size) (bl_alloc wa (.cells #[.int .i64 2, .int .i64 0, .int .i64 0, .int .i64 0, .int .i64 0, .int .i64 0, .int .i64 0, .int .i64 0, .int .i64 0, .int .i64 0, .int .i64 0, txb [], .int .i64 0, .int .i64 0, .int .i64 0, .int .i64 0, .int .i64 0, .int .i64 0, .int .i64 0, .int .i64 0, .int .i64 0, .int .i64 0, .slice none 0 0, txb []] 33))) (by omega) (by omega))
    have Zb := Lib.hid (hZ.alloc (.cells #[.int .i64 2, .int .i64 0, .int .i64 0, .int .i64 0, .int .i64 0, .int .i64 0, .int .i64 0, .int .i64 0, .int .i64 0, .int .i64 0, .int .i64 0, txb [], .int .i64 0, .int .i64 0, .int .i64 0, .int .i64 0, .int .i64 0, .int .i64 0, .int .i64 0, .int .i64 0, .int .i64 0, .int .i64 0, .slice none 0 0, txb []] 33))
    have Xb := Lib.hid (Blk.new wa 33 #[.int .i64 2, .int .i64 0, .int .i64 0, .int .i64 0, .int .i64 0, .int .i64 0, .int .i64 0, .int .i64 0, .int .i64 0, .int .i64 0, .int .i64 0, txb [], .int .i64 0, .int .i64 0, .int .i64 0, .int .i64 0, .int .i64 0, .int .i64 0, .int .i64 0, .int .i64 0, .int .i64 0, .int .i64 0, .slice none 0 0, txb []])
    have Bb := Lib.hid (hB.alloc (by omega) (.cells #[.int .i64 2, .int .i64 0, .int .i64 0, .int .i64 0, .int .i64 0, .int .i64 0, .int .i64 0, .int .i64 0, .int .i64 0, .int .i64 0, .int .i64 0, txb [], .int .i64 0, .int .i64 0, .int .i64 0, .int .i64 0, .int .i64 0, .int .i64 0, .int .i64 0, .int .i64 0, .int .i64 0, .int .i64 0, .slice none 0 0, txb []] 33))
    have Sb := Lib.hid (show wa.heap.size + 1 ≤ (wa.alloc (.cells #[.int .i64 2, .int .i64 0, .int .i64 0, .int .i64 0, .int .i64 0, .int .i64 0, .int .i64 0, .int .i64 0, .int .i64 0, .int .i64 0, .int .i64 0, txb [], .int .i64 0, .int .i64 0, .int .i64 0, .int .i64 0, .int .i64 0, .int .i64 0, .int .i64 0, .int .i64 0, .int .i64 0, .int .i64 0, .slice none 0 0, txb []] 33)).heap.size by simp)
    generalize hQ : wa.heap.size = Q at *
    generalize wa.alloc (.cells #[.int .i64 2, .int .i64 0, .int .i64 0, .int .i64 0, .int .i64 0, .int .i64 0, .int .i64 0, .int .i64 0, .int .i64 0, .int .i64 0, .int .i64 0, txb [], .int .i64 0, .int .i64 0, .int .i64 0, .int .i64 0, .int .i64 0, .int .i64 0, .int .i64 0, .int .i64 0, .int .i64 0, .int .i64 0, .slice none 0 0, txb []] 33) = wb at *
    clear hR hZ hB yW y0 y1
    have Q1 : Q ≠ w.heap.size + 1 := by omega
    have Q2 : w.heap.size ≠ Q := by omega
    have Q3 : w.heap.size ≤ Q := by omega
    clear hQ hS
    have xb : ∀ i, wb.cell? ⟨Q, i, none⟩ = (#[.int .i64 2, .int .i64 0, .int .i64 0, .int .i64 0, .int .i64 0, .int .i64 0, .int .i64 0, .int .i64 0, .int .i64 0, .int .i64 0, .int .i64 0, txb [], .int .i64 0, .int .i64 0, .int .i64 0, .int .i64 0, .int .i64 0, .int .i64 0, .int .i64 0, .int .i64 0, .int .i64 0, .int .i64 0, .slice none 0 0, txb []] : Array Value)[i]? := fun i => Xb.out.cell i
    have fb : ∀ i, wb.frozen? ⟨Q, i, none⟩ = false := fun i => Xb.out.frozen i
    obtain ⟨⟨l1, s1⟩, he1⟩ : ∃ p, LB.ints 2 (t, false) = p := ⟨_, rfl⟩
    have hl1 : l1.length = 2 := by have := LB.ints_length 2 (t, false); rw [he1] at this; exact this
    have Kc := Lib.hid (into_any w.heap.size (w.heap.size + 1) Q wb.heap.size 2 2 (t, false) 33 65 (#[.int .i64 2, .int .i64 0, .int .i64 0, .int .i64 0, .int .i64 0, .int .i64 0, .int .i64 0, .int .i64 0, .int .i64 0, .int .i64 0, .int .i64 0, txb [], .int .i64 0, .int .i64 0, .int .i64 0, .int .i64 0, .int .i64 0, .int .i64 0, .int .i64 0, .int .i64 0, .int .i64 0, .int .i64 0, .slice none 0 0, txb []]) [1, 2] (wb.alloc (.cells #[.pointer (some ⟨Q, 1, none⟩), .pointer (some ⟨Q, 2, none⟩)] 65)) (Rb.out.keeps (Keeps.of_below (g := wb.heap.size) (bl_alloc wb _)) (by have := Sb.out; omega) (by have := Sb.out; omega)) (Xb.out.alloc _) Q1 Q3 (show Blk (wb.alloc (.cells #[.pointer (some ⟨Q, 1, none⟩), .pointer (some ⟨Q, 2, none⟩)] 65)) wb.heap.size 65 (ptrs Q [1, 2]) from Blk.new _ _ _) (by have := Sb.out; omega) (by have := Sb.out; omega) (by simp) rfl (by omega))
    rw [he1] at Kc
    go_wp2_with fail
    (with_reducible refine (Kc.out).mono ?_)
    rintro e wc ⟨rfl, hR, hX, hK⟩
    rw [← LB.at2 hl1] at hX
    have Rc := Lib.hid hR
    have Xc := Lib.hid (show Blk wc Q 33 #[.int .i64 2, .int .i64 (LB.at' l1 0), .int .i64 (LB.at' l1 1), .int .i64 0, .int .i64 0, .int .i64 0, .int .i64 0, .int .i64 0, .int .i64 0, .int .i64 0, .int .i64 0, txb [], .int .i64 0, .int .i64 0, .int .i64 0, .int .i64 0, .int .i64 0, .int .i64 0, .int .i64 0, .int .i64 0, .int .i64 0, .int .i64 0, .slice none 0 0, txb []] from hX)
    have Zc := Lib.hid ((Zb.out.alloc (.cells #[.pointer (some ⟨Q, 1, none⟩), .pointer (some ⟨Q, 2, none⟩)] 65)).keeps2 hK (by omega) Q2)
    have hb := hK.below (B := w.heap.size) (by omega) Q3 (by have := Sb.out; simp; omega)
    have Bc := Lib.hid ((Bb.out.alloc (by have := Sb.out; omega) (.cells #[.pointer (some ⟨Q, 1, none⟩), .pointer (some ⟨Q, 2, none⟩)] 65)).trans hb)
    have Sc := Lib.hid (show Q + 1 ≤ wc.heap.size by have := Sb.out; have := hb.size; simp at this; omega)
    have E1 := Lib.hid he1
    clear hR hX hK hb he1 hl1 Kc Rb Xb Zb Bb Sb xb fb
    have xc : ∀ i, wc.cell? ⟨Q, i, none⟩ = (#[.int .i64 2, .int .i64 (LB.at' l1 0), .int .i64 (LB.at' l1 1), .int .i64 0, .int .i64 0, .int .i64 0, .int .i64 0, .int .i64 0, .int .i64 0, .int .i64 0, .int .i64 0, txb [], .int .i64 0, .int .i64 0, .int .i64 0, .int .i64 0, .int .i64 0, .int .i64 0, .int .i64 0, .int .i64 0, .int .i64 0, .int .i64 0, .slice none 0 0, txb []] : Array Value)[i]? := fun i => Xc.out.cell i
    have fc : ∀ i, wc.frozen? ⟨Q, i, none⟩ = false := fun i => Xc.out.frozen i
    obtain ⟨⟨l2, s2⟩, he2⟩ : ∃ p, LB.ints 4 s1 = p := ⟨_, rfl⟩
    have hl2 : l2.length = 4 := by have := LB.ints_length 4 s1; rw [he2] at this; exact this
    have Kd := Lib.hid (into_any w.heap.size (w.heap.size + 1) Q wc.heap.size 4 4 s1 33 65 (#[.int .i64 2, .int .i64 (LB.at' l1 0), .int .i64 (LB.at' l1 1), .int .i64 0, .int .i64 0, .int .i64 0, .int .i64 0, .int .i64 0, .int .i64 0, .int .i64 0, .int .i64 0, txb [], .int .i64 0, .int .i64 0, .int .i64 0, .int .i64 0, .int .i64 0, .int .i64 0, .int .i64 0, .int .i64 0, .int .i64 0, .int .i64 0, .slice none 0 0, txb []]) [7, 8, 9, 10] (wc.alloc (.cells #[.pointer (some ⟨Q, 7, none⟩), .pointer (some ⟨Q, 8, none⟩), .pointer (some ⟨Q, 9, none⟩), .pointer (some ⟨Q, 10, none⟩)] 65)) (Rc.out.keeps (Keeps.of_below (g := wc.heap.size) (bl_alloc wc _)) (by have := Sc.out; omega) (by have := Sc.out; omega)) (Xc.out.alloc _) Q1 Q3 (show Blk (wc.alloc (.cells #[.pointer (some ⟨Q, 7, none⟩), .pointer (some ⟨Q, 8, none⟩), .pointer (some ⟨Q, 9, none⟩), .pointer (some ⟨Q, 10, none⟩)] 65)) wc.heap.size 65 (ptrs Q [7, 8, 9, 10]) from Blk.new _ _ _) (by have := Sc.out; omega) (by have := Sc.out; omega) (by simp) rfl (by omega))
    rw [he2] at Kd
    go_wp2_with fail
    (with_reducible refine (Kd.out).mono ?_)
    rintro e wd ⟨rfl, hR, hX, hK⟩
    rw [← LB.at4 hl2] at hX
    have Rd := Lib.hid hR
    have Xd := Lib.hid (show Blk wd Q 33 #[.int .i64 2, .int .i64 (LB.at' l1 0), .int .i64 (LB.at' l1 1), .int .i64 0, .int .i64 0, .int .i64 0, .int .i64 0, .int .i64 (LB.at' l2 0), .int .i64 (LB.at' l2 1), .int .i64 (LB.at' l2 2), .int .i64 (LB.at' l2 3), txb [], .int .i64 0, .int .i64 0, .int .i64 0, .int .i64 0, .int .i64 0, .int .i64 0, .int .i64 0, .int .i64 0, .int .i64 0, .int .i64 0, .slice none 0 0, txb []] from hX)
    have Zd := Lib.hid ((Zc.out.alloc (.cells #[.pointer (some ⟨Q, 7, none⟩), .pointer (some ⟨Q, 8, none⟩), .pointer (some ⟨Q, 9, none⟩), .pointer (some ⟨Q, 10, none⟩)] 65)).keeps2 hK (by omega) Q2)
    have hb := hK.below (B := w.heap.size) (by omega) Q3 (by have := Sc.out; simp; omega)
    have Bd := Lib.hid ((Bc.out.alloc (by have := Sc.out; omega) (.cells #[.pointer (some ⟨Q, 7, none⟩), .pointer (some ⟨Q, 8, none⟩), .pointer (some ⟨Q, 9, none⟩), .pointer (some ⟨Q, 10, none⟩)] 65)).trans hb)
    have Sd := Lib.hid (show Q + 1 ≤ wd.heap.size by have := Sc.out; have := hb.size; simp at this; omega)
    have E2 := Lib.hid he2
    clear hR hX hK hb he2 hl2 Kd Rc Xc Zc Bc Sc xc fc
    have xd : ∀ i, wd.cell? ⟨Q, i, none⟩ = (#[.int .i64 2, .int .i64 (LB.at' l1 0), .int .i64 (LB.at' l1 1), .int .i64 0, .int .i64 0, .int .i64 0, .int .i64 0, .int .i64 (LB.at' l2 0), .int .i64 (LB.at' l2 1), .int .i64 (LB.at' l2 2), .int .i64 (LB.at' l2 3), txb [], .int .i64 0, .int .i64 0, .int .i64 0, .int .i64 0, .int .i64 0, .int .i64 0, .int .i64 0, .int .i64 0, .int .i64 0, .int .i64 0, .slice none 0 0, txb []] : Array Value)[i]? := fun i => Xd.out.cell i
    have fd : ∀ i, wd.frozen? ⟨Q, i, none⟩ = false := fun i => Xd.out.frozen i
    have HB := Lib.hid (show LB.body 2 (t, false) = (⟨2, (LB.at' l1 0), (LB.at' l1 1), 0, 0, 0, 0, (LB.at' l2 0), (LB.at' l2 1), (LB.at' l2 2), (LB.at' l2 3), [], 0, 0, 0, 0, 0, 0, 0, 0, 0, 0, [], []⟩, s2) by
      unfold LB.body
      simp only [Int.reduceEq, ite_true, ite_false]
      rw [E1.out, E2.out]
      rfl)
    clear E1 E2
    obtain ⟨lr, wr⟩ := s2
    obtain ⟨A1, n1, c1, hG, hA1, hn1', hc1', -, -⟩ := Rd.out
    simp only [] at hG hA1 hn1'
    have g0 : wd.cell? ⟨w.heap.size + 1, 0, none⟩ = some (.slice A1 n1 c1) := hG.cell 0
    have g1 : wd.cell? ⟨w.heap.size + 1, 1, none⟩ = some (.bool wr) := hG.cell 1
    clear hG hA1 Rd
    cases wr with
    | true =>
      go_upto_region 27 with fail
      iterate 4 go_step
      refine wpList_store_row rfl _ (.tmp 2) (.tmp 162) rfl _ _ rfl rfl _ _ Zd.out (by kernel_rfl) (by rfl) (by simp [Value.oneCell']) ?_
      simp only [Act.put, List.setIfInBounds_toArray, List.set_cons_zero, List.set_cons_succ]
      have ZZ := Lib.hid (Blk.row Zd.out #[.int .i64 0, .int .i64 0, .int .i64 0, .int .i64 0, .int .i64 0, .int .i64 0, .int .i64 0, .int .i64 0, .int .i64 0, .int .i64 0, .int .i64 0, txb [], .int .i64 0, .int .i64 0, .int .i64 0, .int .i64 0, .int .i64 0, .int .i64 0, .int .i64 0, .int .i64 0, .int .i64 0, .int .i64 0, .slice none 0 0, txb []])
      have BB := Lib.hid (bl_setRow (g := w.heap.size) Bd.out (Nat.le_refl _) #[.int .i64 0, .int .i64 0, .int .i64 0, .int .i64 0, .int .i64 0, .int .i64 0, .int .i64 0, .int .i64 0, .int .i64 0, .int .i64 0, .int .i64 0, txb [], .int .i64 0, .int .i64 0, .int .i64 0, .int .i64 0, .int .i64 0, .int .i64 0, .int .i64 0, .int .i64 0, .int .i64 0, .int .i64 0, .slice none 0 0, txb []])
      have hd := Lib.hid (dec_bad hkb (by decide) (by decide) HB.out (.inl rfl))
      generalize wd.setRow w.heap.size #[.int .i64 0, .int .i64 0, .int .i64 0, .int .i64 0, .int .i64 0, .int .i64 0, .int .i64 0, .int .i64 0, .int .i64 0, .int .i64 0, .int .i64 0, txb [], .int .i64 0, .int .i64 0, .int .i64 0, .int .i64 0, .int .i64 0, .int .i64 0, .int .i64 0, .int .i64 0, .int .i64 0, .int .i64 0, .slice none 0 0, txb []] = wz at ZZ BB ⊢
      go_wp2
      exact bodyPost_ret_by (ret_rec rfl ZZ.out rfl) rfl ⟨⟨none, 0, 0, by rw [hd.out]; rfl, by rw [hd.out]; exact .inl rfl, by rw [hd.out]; rfl, Nat.le_refl _, by simp [maxLen]⟩, BB.out⟩
    | false =>
      by_cases hl : lr = []
      case neg =>
        have dl : 0 < n1 := by have := List.length_pos_iff.2 hl; omega
        have HL := Lib.hid hl
        clear hl
        go_upto_region 27 with fail
        iterate 4 go_step
        refine wpList_store_row rfl _ (.tmp 2) (.tmp 162) rfl _ _ rfl rfl _ _ Zd.out (by kernel_rfl) (by rfl) (by simp [Value.oneCell']) ?_
        simp only [Act.put, List.setIfInBounds_toArray, List.set_cons_zero, List.set_cons_succ]
        have ZZ := Lib.hid (Blk.row Zd.out #[.int .i64 0, .int .i64 0, .int .i64 0, .int .i64 0, .int .i64 0, .int .i64 0, .int .i64 0, .int .i64 0, .int .i64 0, .int .i64 0, .int .i64 0, txb [], .int .i64 0, .int .i64 0, .int .i64 0, .int .i64 0, .int .i64 0, .int .i64 0, .int .i64 0, .int .i64 0, .int .i64 0, .int .i64 0, .slice none 0 0, txb []])
        have BB := Lib.hid (bl_setRow (g := w.heap.size) Bd.out (Nat.le_refl _) #[.int .i64 0, .int .i64 0, .int .i64 0, .int .i64 0, .int .i64 0, .int .i64 0, .int .i64 0, .int .i64 0, .int .i64 0, .int .i64 0, .int .i64 0, txb [], .int .i64 0, .int .i64 0, .int .i64 0, .int .i64 0, .int .i64 0, .int .i64 0, .int .i64 0, .int .i64 0, .int .i64 0, .int .i64 0, .slice none 0 0, txb []])
        have hd := Lib.hid (dec_bad hkb (by decide) (by decide) HB.out (.inr HL.out))
        generalize wd.setRow w.heap.size #[.int .i64 0, .int .i64 0, .int .i64 0, .int .i64 0, .int .i64 0, .int .i64 0, .int .i64 0, .int .i64 0, .int .i64 0, .int .i64 0, .int .i64 0, txb [], .int .i64 0, .int .i64 0, .int .i64 0, .int .i64 0, .int .i64 0, .int .i64 0, .int .i64 0, .int .i64 0, .int .i64 0, .int .i64 0, .slice none 0 0, txb []] = wz at ZZ BB ⊢
        go_wp2
        exact bodyPost_ret_by (ret_rec rfl ZZ.out rfl) rfl ⟨⟨none, 0, 0, by rw [hd.out]; rfl, by rw [hd.out]; exact .inl rfl, by rw [hd.out]; rfl, Nat.le_refl _, by simp [maxLen]⟩, BB.out⟩
      obtain rfl : n1 = 0 := by rw [← hn1', hl]; rfl
      subst hl
      clear hn1' hc1'
      have KV := Lib.hid (valid_any ⟨2, (LB.at' l1 0), (LB.at' l1 1), 0, 0, 0, 0, (LB.at' l2 0), (LB.at' l2 1), (LB.at' l2 2), (LB.at' l2 3), [], 0, 0, 0, 0, 0, 0, 0, 0, 0, 0, [], []⟩ none 0 0 wd (.inl rfl) rfl (by omega) (Nat.le_refl _) (by simp [maxLen]) (by simp) (by simp))
      go_upto_region 28 with fail
      iterate 2 go_step
      refine wp_load_rec (.tmp 5) rfl rfl Xd.out rfl ?_
      simp only [Act.put, List.setIfInBounds_toArray, List.set_cons_zero, List.set_cons_succ]
      go_wp2_with fail
      (with_reducible refine (KV.out).mono ?_)
      rintro e we ⟨rfl, hbv⟩
      have Xe := Lib.hid (Xd.out.below hbv Xd.out.lt)
      have Ze := Lib.hid (Zd.out.below hbv Zd.out.lt)
      have Be := Lib.hid (Bd.out.trans (hbv.mono (by have := Sd.out; omega)))
      clear hbv KV g0 g1 xd fd
      obtain ⟨v, hv⟩ : ∃ v, vaB ⟨2, (LB.at' l1 0), (LB.at' l1 1), 0, 0, 0, 0, (LB.at' l2 0), (LB.at' l2 1), (LB.at' l2 2), (LB.at' l2 3), [], 0, 0, 0, 0, 0, 0, 0, 0, 0, 0, [], []⟩ = v := ⟨_, rfl⟩
      rw [hv]
      cases v with
      | false =>
        have HV := Lib.hid hv
        clear hv
        go_upto_region 29 with fail
        iterate 4 go_step
        refine wpList_store_row rfl _ (.tmp 2) (.tmp 167) rfl _ _ rfl rfl _ _ Ze.out (by kernel_rfl) (by rfl) (by simp [Value.oneCell']) ?_
        simp only [Act.put, List.setIfInBounds_toArray, List.set_cons_zero, List.set_cons_succ]
        have ZZ := Lib.hid (Blk.row Ze.out #[.int .i64 0, .int .i64 0, .int .i64 0, .int .i64 0, .int .i64 0, .int .i64 0, .int .i64 0, .int .i64 0, .int .i64 0, .int .i64 0, .int .i64 0, txb [], .int .i64 0, .int .i64 0, .int .i64 0, .int .i64 0, .int .i64 0, .int .i64 0, .int .i64 0, .int .i64 0, .int .i64 0, .int .i64 0, .slice none 0 0, txb []])
        have BB := Lib.hid (bl_setRow (g := w.heap.size) Be.out (Nat.le_refl _) #[.int .i64 0, .int .i64 0, .int .i64 0, .int .i64 0, .int .i64 0, .int .i64 0, .int .i64 0, .int .i64 0, .int .i64 0, .int .i64 0, .int .i64 0, txb [], .int .i64 0, .int .i64 0, .int .i64 0, .int .i64 0, .int .i64 0, .int .i64 0, .int .i64 0, .int .i64 0, .int .i64 0, .int .i64 0, .slice none 0 0, txb []])
        have hd := Lib.hid (dec_arg hkb (by decide) (by decide) HB.out HV.out)
        generalize we.setRow w.heap.size #[.int .i64 0, .int .i64 0, .int .i64 0, .int .i64 0, .int .i64 0, .int .i64 0, .int .i64 0, .int .i64 0, .int .i64 0, .int .i64 0, .int .i64 0, txb [], .int .i64 0, .int .i64 0, .int .i64 0, .int .i64 0, .int .i64 0, .int .i64 0, .int .i64 0, .int .i64 0, .int .i64 0, .int .i64 0, .slice none 0 0, txb []] = wz at ZZ BB ⊢
        go_wp2
        exact bodyPost_ret_by (ret_rec rfl ZZ.out rfl) rfl ⟨⟨none, 0, 0, by rw [hd.out]; rfl, by rw [hd.out]; exact .inl rfl, by rw [hd.out]; rfl, Nat.le_refl _, by simp [maxLen]⟩, BB.out⟩
      | true =>
        have hd := Lib.hid (dec_ok hkb (by decide) (by decide) HB.out hv)
        clear hv
        go_upto_region 30 with fail
        iterate 2 go_step
        refine wp_load_rec (.tmp 5) rfl rfl Xe.out rfl ?_
        simp only [Act.put, List.setIfInBounds_toArray, List.set_cons_zero, List.set_cons_succ]
        iterate 1 go_step
        refine wpList_store_row rfl _ (.tmp 2) (.tmp 168) rfl _ _ rfl rfl _ _ Ze.out (by kernel_rfl) (by rfl) (by simp [Value.oneCell']) ?_
        simp only [Act.put, List.setIfInBounds_toArray, List.set_cons_zero, List.set_cons_succ]
        have ZZ := Lib.hid (Blk.row Ze.out #[.int .i64 2, .int .i64 (LB.at' l1 0), .int .i64 (LB.at' l1 1), .int .i64 0, .int .i64 0, .int .i64 0, .int .i64 0, .int .i64 (LB.at' l2 0), .int .i64 (LB.at' l2 1), .int .i64 (LB.at' l2 2), .int .i64 (LB.at' l2 3), txb [], .int .i64 0, .int .i64 0, .int .i64 0, .int .i64 0, .int .i64 0, .int .i64 0, .int .i64 0, .int .i64 0, .int .i64 0, .int .i64 0, .slice none 0 0, txb []])
        have BB := Lib.hid (bl_setRow (g := w.heap.size) Be.out (Nat.le_refl _) #[.int .i64 2, .int .i64 (LB.at' l1 0), .int .i64 (LB.at' l1 1), .int .i64 0, .int .i64 0, .int .i64 0, .int .i64 0, .int .i64 (LB.at' l2 0), .int .i64 (LB.at' l2 1), .int .i64 (LB.at' l2 2), .int .i64 (LB.at' l2 3), txb [], .int .i64 0, .int .i64 0, .int .i64 0, .int .i64 0, .int .i64 0, .int .i64 0, .int .i64 0, .int .i64 0, .int .i64 0, .int .i64 0, .slice none 0 0, txb []])
        generalize we.setRow w.heap.size #[.int .i64 2, .int .i64 (LB.at' l1 0), .int .i64 (LB.at' l1 1), .int .i64 0, .int .i64 0, .int .i64 0, .int .i64 0, .int .i64 (LB.at' l2 0), .int .i64 (LB.at' l2 1), .int .i64 (LB.at' l2 2), .int .i64 (LB.at' l2 3), txb [], .int .i64 0, .int .i64 0, .int .i64 0, .int .i64 0, .int .i64 0, .int .i64 0, .int .i64 0, .int .i64 0, .int .i64 0, .int .i64 0, .slice none 0 0, txb []] = wz at ZZ BB ⊢
        go_wp2
        exact bodyPost_ret_by (ret_rec rfl ZZ.out rfl) rfl ⟨⟨none, 0, 0, by rw [hd.out]; rfl, by rw [hd.out]; exact (.inl rfl), by rw [hd.out]; exact rfl, (Nat.le_refl _), (by simp [maxLen])⟩, BB.out⟩
set_option maxHeartbeats 8000000 in
set_option maxRecDepth 100000 in
theorem dec5_any (kb : UInt8) (hkb : kb.toNat = 5) (t : Bs) (A : Option Addr) (n c : Nat) (w : World) (hA : BytesAt w w.heap.size A (kb :: t)) (hn : (kb :: t).length = n) (hc : n ≤ c) (hcm : c ≤ maxLen) (hn1 : n ≤ 1000) :
    Calls Tryz.prog 6 #[.slice A n c] w fun e w' => (∃ A' n' c', e = .returned (.tuple #[recV (LB.dec vaB (kb :: t)).1 (.slice A' n' c'), .int .i64 (LB.dec vaB (kb :: t)).2]) ∧ IntsAt w' A' (LB.dec vaB (kb :: t)).1.list ∧ (LB.dec vaB (kb :: t)).1.list.length = n' ∧ n' ≤ c' ∧ c' ≤ maxLen) ∧ Below w.heap.size w w' := by
  obtain ⟨q, off, rfl, hq, y0, hT⟩ := hA.cons
  rw [hkb] at y0
  have y1 : ∀ o, (w.alloc o).cell? ⟨q, off, none⟩ = some (.int .u8 5) := fun o => (World.cell?_alloc_lt w o ⟨q, off, none⟩ hq).trans y0
  have dn : ((n : Int) == 0) = false := by simp at hn ⊢; omega
  have hn0 : ¬ n = 0 := by simp at hn; omega
  by_cases hc1 : c = 1
  · subst hc1
    obtain rfl : n = 1 := by omega
    have ht0 : t = [] := List.eq_nil_of_length_eq_zero (by simpa using hn)
    go_enter Tryz.func6, Tryz.ntmps6
    go_upto_region 4 with fail
    obtain ⟨hR, hZ, hB, hS⟩ := dec_start w #[.int .i64 0, .int .i64 0, .int .i64 0, .int .i64 0, .int .i64 0, .int .i64 0, .int .i64 0, .int .i64 0, .int .i64 0, .int .i64 0, .int .i64 0, txb [], .int .i64 0, .int .i64 0, .int .i64 0, .int .i64 0, .int .i64 0, .int .i64 0, .int .i64 0, .int .i64 0, .int .i64 0, .int .i64 0, .slice none 0 0, txb []] (some ⟨q, off, none⟩) 0 0 t (.inl ht0) (by rw [ht0]; rfl) (Nat.le_refl _) (by simp [maxLen])
    have yW := (hB.cell (p := ⟨q, off, none⟩) hq).trans y0
    generalize (w.alloc (.cells #[.int .i64 0, .int .i64 0, .int .i64 0, .int .i64 0, .int .i64 0, .int .i64 0, .int .i64 0, .int .i64 0, .int .i64 0, .int .i64 0, .int .i64 0, txb [], .int .i64 0, .int .i64 0, .int .i64 0, .int .i64 0, .int .i64 0, .int .i64 0, .int .i64 0, .int .i64 0, .int .i64 0, .int .i64 0, .slice none 0 0, txb []] 33)).alloc (.cells #[.slice (some ⟨q, off, none⟩) 0 0, .bool false] 61) = wa at hR hZ hB hS yW ⊢
    have HS := Lib.hid hS
    clear hS
    iterate 19 go_step
    refine wpList_store_row rfl _ (.tmp 5) (.tmp 34) rfl _ _ rfl rfl _ _ (heap_alloc_last _ _) (by kernel_rfl) (by rfl) (by simp [Value.oneCell']) ?_
    rw [World.setRow_alloc_new]
    simp only [Act.put, List.setIfInBounds_toArray, List.set_cons_zero, List.set_cons_succ]
    have hS := HS.out
    clear HS
    have Rb := Lib.hid (hR.keeps (Keeps.of_below (g := wa.heap.size) (bl_alloc wa (.cells #[.int .i64 5, .int .i64 0, .int .i64 0, .int .i64 0, .int .i64 0, .int .i64 0, .int .i64 0, .int .i64 0, .int .i64 0, .int .i64 0, .int .i64 0, txb [], .int .i64 0, .int .i64 0, .int .i64 0, .int .i64 0, .int .i64 0, .int .i64 0, .int .i64 0, .int .i64 0, .int .i64 0, .int .i64 0, .slice none 0 0, txb []] 33))) (by omega) (by omega))
    have Zb := Lib.hid (hZ.alloc (.cells #[.int .i64 5, .int .i64 0, .int .i64 0, .int .i64 0, .int .i64 0, .int .i64 0, .int .i64 0, .int .i64 0, .int .i64 0, .int .i64 0, .int .i64 0, txb [], .int .i64 0, .int .i64 0, .int .i64 0, .int .i64 0, .int .i64 0, .int .i64 0, .int .i64 0, .int .i64 0, .int .i64 0, .int .i64 0, .slice none 0 0, txb []] 33))
    have Xb := Lib.hid (Blk.new wa 33 #[.int .i64 5, .int .i64 0, .int .i64 0, .int .i64 0, .int .i64 0, .int .i64 0, .int .i64 0, .int .i64 0, .int .i64 0, .int .i64 0, .int .i64 0, txb [], .int .i64 0, .int .i64 0, .int .i64 0, .int .i64 0, .int .i64 0, .int .i64 0, .int .i64 0, .int .i64 0, .int .i64 0, .int .i64 0, .slice none 0 0, txb []])
    have Bb := Lib.hid (hB.alloc (by omega) (.cells #[.int .i64 5, .int .i64 0, .int .i64 0, .int .i64 0, .int .i64 0, .int .i64 0, .int .i64 0, .int .i64 0, .int .i64 0, .int .i64 0, .int .i64 0, txb [], .int .i64 0, .int .i64 0, .int .i64 0, .int .i64 0, .int .i64 0, .int .i64 0, .int .i64 0, .int .i64 0, .int .i64 0, .int .i64 0, .slice none 0 0, txb []] 33))
    have Sb := Lib.hid (show wa.heap.size + 1 ≤ (wa.alloc (.cells #[.int .i64 5, .int .i64 0, .int .i64 0, .int .i64 0, .int .i64 0, .int .i64 0, .int .i64 0, .int .i64 0, .int .i64 0, .int .i64 0, .int .i64 0, txb [], .int .i64 0, .int .i64 0, .int .i64 0, .int .i64 0, .int .i64 0, .int .i64 0, .int .i64 0, .int .i64 0, .int .i64 0, .int .i64 0, .slice none 0 0, txb []] 33)).heap.size by simp)
    generalize hQ : wa.heap.size = Q at *
    generalize wa.alloc (.cells #[.int .i64 5, .int .i64 0, .int .i64 0, .int .i64 0, .int .i64 0, .int .i64 0, .int .i64 0, .int .i64 0, .int .i64 0, .int .i64 0, .int .i64 0, txb [], .int .i64 0, .int .i64 0, .int .i64 0, .int .i64 0, .int .i64 0, .int .i64 0, .int .i64 0, .int .i64 0, .int .i64 0, .int .i64 0, .slice none 0 0, txb []] 33) = wb at *
    clear hR hZ hB yW y0 y1
    have Q1 : Q ≠ w.heap.size + 1 := by omega
    have Q2 : w.heap.size ≠ Q := by omega
    have Q3 : w.heap.size ≤ Q := by omega
    clear hQ hS
    have xb : ∀ i, wb.cell? ⟨Q, i, none⟩ = (#[.int .i64 5, .int .i64 0, .int .i64 0, .int .i64 0, .int .i64 0, .int .i64 0, .int .i64 0, .int .i64 0, .int .i64 0, .int .i64 0, .int .i64 0, txb [], .int .i64 0, .int .i64 0, .int .i64 0, .int .i64 0, .int .i64 0, .int .i64 0, .int .i64 0, .int .i64 0, .int .i64 0, .int .i64 0, .slice none 0 0, txb []] : Array Value)[i]? := fun i => Xb.out.cell i
    have fb : ∀ i, wb.frozen? ⟨Q, i, none⟩ = false := fun i => Xb.out.frozen i
    obtain ⟨⟨l1, s1⟩, he1⟩ : ∃ p, LB.ints 2 (t, false) = p := ⟨_, rfl⟩
    have hl1 : l1.length = 2 := by have := LB.ints_length 2 (t, false); rw [he1] at this; exact this
    have Kc := Lib.hid (into_any w.heap.size (w.heap.size + 1) Q wb.heap.size 2 2 (t, false) 33 65 (#[.int .i64 5, .int .i64 0, .int .i64 0, .int .i64 0, .int .i64 0, .int .i64 0, .int .i64 0, .int .i64 0, .int .i64 0, .int .i64 0, .int .i64 0, txb [], .int .i64 0, .int .i64 0, .int .i64 0, .int .i64 0, .int .i64 0, .int .i64 0, .int .i64 0, .int .i64 0, .int .i64 0, .int .i64 0, .slice none 0 0, txb []]) [1, 2] (wb.alloc (.cells #[.pointer (some ⟨Q, 1, none⟩), .pointer (some ⟨Q, 2, none⟩)] 65)) (Rb.out.keeps (Keeps.of_below (g := wb.heap.size) (bl_alloc wb _)) (by have := Sb.out; omega) (by have := Sb.out; omega)) (Xb.out.alloc _) Q1 Q3 (show Blk (wb.alloc (.cells #[.pointer (some ⟨Q, 1, none⟩), .pointer (some ⟨Q, 2, none⟩)] 65)) wb.heap.size 65 (ptrs Q [1, 2]) from Blk.new _ _ _) (by have := Sb.out; omega) (by have := Sb.out; omega) (by simp) rfl (by omega))
    rw [he1] at Kc
    go_wp2_with fail
    (with_reducible refine (Kc.out).mono ?_)
    rintro e wc ⟨rfl, hR, hX, hK⟩
    rw [← LB.at2 hl1] at hX
    have Rc := Lib.hid hR
    have Xc := Lib.hid (show Blk wc Q 33 #[.int .i64 5, .int .i64 (LB.at' l1 0), .int .i64 (LB.at' l1 1), .int .i64 0, .int .i64 0, .int .i64 0, .int .i64 0, .int .i64 0, .int .i64 0, .int .i64 0, .int .i64 0, txb [], .int .i64 0, .int .i64 0, .int .i64 0, .int .i64 0, .int .i64 0, .int .i64 0, .int .i64 0, .int .i64 0, .int .i64 0, .int .i64 0, .slice none 0 0, txb []] from hX)
    have Zc := Lib.hid ((Zb.out.alloc (.cells #[.pointer (some ⟨Q, 1, none⟩), .pointer (some ⟨Q, 2, none⟩)] 65)).keeps2 hK (by omega) Q2)
    have hb := hK.below (B := w.heap.size) (by omega) Q3 (by have := Sb.out; simp; omega)
    have Bc := Lib.hid ((Bb.out.alloc (by have := Sb.out; omega) (.cells #[.pointer (some ⟨Q, 1, none⟩), .pointer (some ⟨Q, 2, none⟩)] 65)).trans hb)
    have Sc := Lib.hid (show Q + 1 ≤ wc.heap.size by have := Sb.out; have := hb.size; simp at this; omega)
    have E1 := Lib.hid he1
    clear hR hX hK hb he1 hl1 Kc Rb Xb Zb Bb Sb xb fb
    have xc : ∀ i, wc.cell? ⟨Q, i, none⟩ = (#[.int .i64 5, .int .i64 (LB.at' l1 0), .int .i64 (LB.at' l1 1), .int .i64 0, .int .i64 0, .int .i64 0, .int .i64 0, .int .i64 0, .int .i64 0, .int .i64 0, .int .i64 0, txb [], .int .i64 0, .int .i64 0, .int .i64 0, .int .i64 0, .int .i64 0, .int .i64 0, .int .i64 0, .int .i64 0, .int .i64 0, .int .i64 0, .slice none 0 0, txb []] : Array Value)[i]? := fun i => Xc.out.cell i
    have fc : ∀ i, wc.frozen? ⟨Q, i, none⟩ = false := fun i => Xc.out.frozen i
    obtain ⟨⟨l2, s2⟩, he2⟩ : ∃ p, LB.text s1 = p := ⟨_, rfl⟩
    have hl2 : l2.length ≤ 65535 := by have := text_lt s1; rw [he2] at this; exact this
    have Kd := Lib.hid (rstr_any w.heap.size (w.heap.size + 1) s1 wc Rc.out)
    rw [he2] at Kd
    go_wp2_with fail
    (with_reducible refine (Kd.out).mono ?_)
    rintro e wm ⟨rfl, hR, hK⟩
    have hX := Xc.out.keeps hK Q1
    have hb := hK.below (B := w.heap.size) (by omega) (by have := Sc.out; omega)
    have Xm := Lib.hid hX
    have Rm := Lib.hid hR
    have Zm := Lib.hid (Zc.out.keeps hK (by omega))
    have Bm := Lib.hid (Bc.out.trans hb)
    have Sm := Lib.hid (show Q + 1 ≤ wm.heap.size by have := Sc.out; have := hb.size; omega)
    have E2 := Lib.hid he2
    have T2 := Lib.hid hl2
    clear hX hR hK hb he2 hl2 Kd Rc Xc Zc Bc Sc xc fc
    have xm : ∀ i, wm.cell? ⟨Q, i, none⟩ = (#[.int .i64 5, .int .i64 (LB.at' l1 0), .int .i64 (LB.at' l1 1), .int .i64 0, .int .i64 0, .int .i64 0, .int .i64 0, .int .i64 0, .int .i64 0, .int .i64 0, .int .i64 0, txb [], .int .i64 0, .int .i64 0, .int .i64 0, .int .i64 0, .int .i64 0, .int .i64 0, .int .i64 0, .int .i64 0, .int .i64 0, .int .i64 0, .slice none 0 0, txb []] : Array Value)[i]? := fun i => Xm.out.cell i
    have fm : ∀ i, wm.frozen? ⟨Q, i, none⟩ = false := fun i => Xm.out.frozen i
    go_upto_region 18 with fail
    have Rd := Lib.hid (Rm.out.keeps (Keeps.set_ Q 23 wm (txb l2)) (Ne.symm Q1) Q3)
    have Xd := Lib.hid (show Blk (wm.setCell ⟨Q, 23, none⟩ (txb l2)) Q 33 #[.int .i64 5, .int .i64 (LB.at' l1 0), .int .i64 (LB.at' l1 1), .int .i64 0, .int .i64 0, .int .i64 0, .int .i64 0, .int .i64 0, .int .i64 0, .int .i64 0, .int .i64 0, txb [], .int .i64 0, .int .i64 0, .int .i64 0, .int .i64 0, .int .i64 0, .int .i64 0, .int .i64 0, .int .i64 0, .int .i64 0, .int .i64 0, .slice none 0 0, txb l2] from Xm.out.set_ 23 (txb l2))
    have Zd := Lib.hid (Zm.out.far (p := ⟨Q, 23, none⟩) Q2 (txb l2))
    have Bd := Lib.hid (Bm.out.setCell (p := ⟨Q, 23, none⟩) Q3 (txb l2))
    have Sd := Lib.hid (show Q + 1 ≤ (wm.setCell ⟨Q, 23, none⟩ (txb l2)).heap.size by have := Sm.out; simpa using this)
    clear xm fm Rm Xm Zm Bm Sm
    generalize wm.setCell ⟨Q, 23, none⟩ (txb l2) = wd at *
    have xd : ∀ i, wd.cell? ⟨Q, i, none⟩ = (#[.int .i64 5, .int .i64 (LB.at' l1 0), .int .i64 (LB.at' l1 1), .int .i64 0, .int .i64 0, .int .i64 0, .int .i64 0, .int .i64 0, .int .i64 0, .int .i64 0, .int .i64 0, txb [], .int .i64 0, .int .i64 0, .int .i64 0, .int .i64 0, .int .i64 0, .int .i64 0, .int .i64 0, .int .i64 0, .int .i64 0, .int .i64 0, .slice none 0 0, txb l2] : Array Value)[i]? := fun i => Xd.out.cell i
    have fd : ∀ i, wd.frozen? ⟨Q, i, none⟩ = false := fun i => Xd.out.frozen i
    have HB := Lib.hid (show LB.body 5 (t, false) = (⟨5, (LB.at' l1 0), (LB.at' l1 1), 0, 0, 0, 0, 0, 0, 0, 0, [], 0, 0, 0, 0, 0, 0, 0, 0, 0, 0, [], l2⟩, s2) by
      unfold LB.body
      simp only [Int.reduceEq, ite_true, ite_false]
      rw [E1.out, E2.out]
      rfl)
    clear E1 E2
    obtain ⟨lr, wr⟩ := s2
    obtain ⟨A1, n1, c1, hG, hA1, hn1', hc1', -, -⟩ := Rd.out
    simp only [] at hG hA1 hn1'
    have g0 : wd.cell? ⟨w.heap.size + 1, 0, none⟩ = some (.slice A1 n1 c1) := hG.cell 0
    have g1 : wd.cell? ⟨w.heap.size + 1, 1, none⟩ = some (.bool wr) := hG.cell 1
    clear hG hA1 Rd
    cases wr with
    | true =>
      go_upto_region 27 with fail
      iterate 4 go_step
      refine wpList_store_row rfl _ (.tmp 2) (.tmp 162) rfl _ _ rfl rfl _ _ Zd.out (by kernel_rfl) (by rfl) (by simp [Value.oneCell']) ?_
      simp only [Act.put, List.setIfInBounds_toArray, List.set_cons_zero, List.set_cons_succ]
      have ZZ := Lib.hid (Blk.row Zd.out #[.int .i64 0, .int .i64 0, .int .i64 0, .int .i64 0, .int .i64 0, .int .i64 0, .int .i64 0, .int .i64 0, .int .i64 0, .int .i64 0, .int .i64 0, txb [], .int .i64 0, .int .i64 0, .int .i64 0, .int .i64 0, .int .i64 0, .int .i64 0, .int .i64 0, .int .i64 0, .int .i64 0, .int .i64 0, .slice none 0 0, txb []])
      have BB := Lib.hid (bl_setRow (g := w.heap.size) Bd.out (Nat.le_refl _) #[.int .i64 0, .int .i64 0, .int .i64 0, .int .i64 0, .int .i64 0, .int .i64 0, .int .i64 0, .int .i64 0, .int .i64 0, .int .i64 0, .int .i64 0, txb [], .int .i64 0, .int .i64 0, .int .i64 0, .int .i64 0, .int .i64 0, .int .i64 0, .int .i64 0, .int .i64 0, .int .i64 0, .int .i64 0, .slice none 0 0, txb []])
      have hd := Lib.hid (dec_bad hkb (by decide) (by decide) HB.out (.inl rfl))
      generalize wd.setRow w.heap.size #[.int .i64 0, .int .i64 0, .int .i64 0, .int .i64 0, .int .i64 0, .int .i64 0, .int .i64 0, .int .i64 0, .int .i64 0, .int .i64 0, .int .i64 0, txb [], .int .i64 0, .int .i64 0, .int .i64 0, .int .i64 0, .int .i64 0, .int .i64 0, .int .i64 0, .int .i64 0, .int .i64 0, .int .i64 0, .slice none 0 0, txb []] = wz at ZZ BB ⊢
      go_wp2
      exact bodyPost_ret_by (ret_rec rfl ZZ.out rfl) rfl ⟨⟨none, 0, 0, by rw [hd.out]; rfl, by rw [hd.out]; exact .inl rfl, by rw [hd.out]; rfl, Nat.le_refl _, by simp [maxLen]⟩, BB.out⟩
    | false =>
      by_cases hl : lr = []
      case neg =>
        have dl : 0 < n1 := by have := List.length_pos_iff.2 hl; omega
        have HL := Lib.hid hl
        clear hl
        go_upto_region 27 with fail
        iterate 4 go_step
        refine wpList_store_row rfl _ (.tmp 2) (.tmp 162) rfl _ _ rfl rfl _ _ Zd.out (by kernel_rfl) (by rfl) (by simp [Value.oneCell']) ?_
        simp only [Act.put, List.setIfInBounds_toArray, List.set_cons_zero, List.set_cons_succ]
        have ZZ := Lib.hid (Blk.row Zd.out #[.int .i64 0, .int .i64 0, .int .i64 0, .int .i64 0, .int .i64 0, .int .i64 0, .int .i64 0, .int .i64 0, .int .i64 0, .int .i64 0, .int .i64 0, txb [], .int .i64 0, .int .i64 0, .int .i64 0, .int .i64 0, .int .i64 0, .int .i64 0, .int .i64 0, .int .i64 0, .int .i64 0, .int .i64 0, .slice none 0 0, txb []])
        have BB := Lib.hid (bl_setRow (g := w.heap.size) Bd.out (Nat.le_refl _) #[.int .i64 0, .int .i64 0, .int .i64 0, .int .i64 0, .int .i64 0, .int .i64 0, .int .i64 0, .int .i64 0, .int .i64 0, .int .i64 0, .int .i64 0, txb [], .int .i64 0, .int .i64 0, .int .i64 0, .int .i64 0, .int .i64 0, .int .i64 0, .int .i64 0, .int .i64 0, .int .i64 0, .int .i64 0, .slice none 0 0, txb []])
        have hd := Lib.hid (dec_bad hkb (by decide) (by decide) HB.out (.inr HL.out))
        generalize wd.setRow w.heap.size #[.int .i64 0, .int .i64 0, .int .i64 0, .int .i64 0, .int .i64 0, .int .i64 0, .int .i64 0, .int .i64 0, .int .i64 0, .int .i64 0, .int .i64 0, txb [], .int .i64 0, .int .i64 0, .int .i64 0, .int .i64 0, .int .i64 0, .int .i64 0, .int .i64 0, .int .i64 0, .int .i64 0, .int .i64 0, .slice none 0 0, txb []] = wz at ZZ BB ⊢
        go_wp2
        exact bodyPost_ret_by (ret_rec rfl ZZ.out rfl) rfl ⟨⟨none, 0, 0, by rw [hd.out]; rfl, by rw [hd.out]; exact .inl rfl, by rw [hd.out]; rfl, Nat.le_refl _, by simp [maxLen]⟩, BB.out⟩
      obtain rfl : n1 = 0 := by rw [← hn1', hl]; rfl
      subst hl
      clear hn1' hc1'
      have KV := Lib.hid (valid_any ⟨5, (LB.at' l1 0), (LB.at' l1 1), 0, 0, 0, 0, 0, 0, 0, 0, [], 0, 0, 0, 0, 0, 0, 0, 0, 0, 0, [], l2⟩ none 0 0 wd (.inl rfl) rfl (by omega) (Nat.le_refl _) (by simp [maxLen]) (by simp) (by exact Nat.le_trans T2.out (by omega)))
      go_upto_region 28 with fail
      iterate 2 go_step
      refine wp_load_rec (.tmp 5) rfl rfl Xd.out rfl ?_
      simp only [Act.put, List.setIfInBounds_toArray, List.set_cons_zero, List.set_cons_succ]
      go_wp2_with fail
      (with_reducible refine (KV.out).mono ?_)
      rintro e we ⟨rfl, hbv⟩
      have Xe := Lib.hid (Xd.out.below hbv Xd.out.lt)
      have Ze := Lib.hid (Zd.out.below hbv Zd.out.lt)
      have Be := Lib.hid (Bd.out.trans (hbv.mono (by have := Sd.out; omega)))
      clear hbv KV g0 g1 xd fd
      obtain ⟨v, hv⟩ : ∃ v, vaB ⟨5, (LB.at' l1 0), (LB.at' l1 1), 0, 0, 0, 0, 0, 0, 0, 0, [], 0, 0, 0, 0, 0, 0, 0, 0, 0, 0, [], l2⟩ = v := ⟨_, rfl⟩
      rw [hv]
      cases v with
      | false =>
        have HV := Lib.hid hv
        clear hv
        go_upto_region 29 with fail
        iterate 4 go_step
        refine wpList_store_row rfl _ (.tmp 2) (.tmp 167) rfl _ _ rfl rfl _ _ Ze.out (by kernel_rfl) (by rfl) (by simp [Value.oneCell']) ?_
        simp only [Act.put, List.setIfInBounds_toArray, List.set_cons_zero, List.set_cons_succ]
        have ZZ := Lib.hid (Blk.row Ze.out #[.int .i64 0, .int .i64 0, .int .i64 0, .int .i64 0, .int .i64 0, .int .i64 0, .int .i64 0, .int .i64 0, .int .i64 0, .int .i64 0, .int .i64 0, txb [], .int .i64 0, .int .i64 0, .int .i64 0, .int .i64 0, .int .i64 0, .int .i64 0, .int .i64 0, .int .i64 0, .int .i64 0, .int .i64 0, .slice none 0 0, txb []])
        have BB := Lib.hid (bl_setRow (g := w.heap.size) Be.out (Nat.le_refl _) #[.int .i64 0, .int .i64 0, .int .i64 0, .int .i64 0, .int .i64 0, .int .i64 0, .int .i64 0, .int .i64 0, .int .i64 0, .int .i64 0, .int .i64 0, txb [], .int .i64 0, .int .i64 0, .int .i64 0, .int .i64 0, .int .i64 0, .int .i64 0, .int .i64 0, .int .i64 0, .int .i64 0, .int .i64 0, .slice none 0 0, txb []])
        have hd := Lib.hid (dec_arg hkb (by decide) (by decide) HB.out HV.out)
        generalize we.setRow w.heap.size #[.int .i64 0, .int .i64 0, .int .i64 0, .int .i64 0, .int .i64 0, .int .i64 0, .int .i64 0, .int .i64 0, .int .i64 0, .int .i64 0, .int .i64 0, txb [], .int .i64 0, .int .i64 0, .int .i64 0, .int .i64 0, .int .i64 0, .int .i64 0, .int .i64 0, .int .i64 0, .int .i64 0, .int .i64 0, .slice none 0 0, txb []] = wz at ZZ BB ⊢
        go_wp2
        exact bodyPost_ret_by (ret_rec rfl ZZ.out rfl) rfl ⟨⟨none, 0, 0, by rw [hd.out]; rfl, by rw [hd.out]; exact .inl rfl, by rw [hd.out]; rfl, Nat.le_refl _, by simp [maxLen]⟩, BB.out⟩
      | true =>
        have hd := Lib.hid (dec_ok hkb (by decide) (by decide) HB.out hv)
        clear hv
        go_upto_region 30 with fail
        iterate 2 go_step
        refine wp_load_rec (.tmp 5) rfl rfl Xe.out rfl ?_
        simp only [Act.put, List.setIfInBounds_toArray, List.set_cons_zero, List.set_cons_succ]
        iterate 1 go_step
        refine wpList_store_row rfl _ (.tmp 2) (.tmp 168) rfl _ _ rfl rfl _ _ Ze.out (by kernel_rfl) (by rfl) (by simp [Value.oneCell']) ?_
        simp only [Act.put, List.setIfInBounds_toArray, List.set_cons_zero, List.set_cons_succ]
        have ZZ := Lib.hid (Blk.row Ze.out #[.int .i64 5, .int .i64 (LB.at' l1 0), .int .i64 (LB.at' l1 1), .int .i64 0, .int .i64 0, .int .i64 0, .int .i64 0, .int .i64 0, .int .i64 0, .int .i64 0, .int .i64 0, txb [], .int .i64 0, .int .i64 0, .int .i64 0, .int .i64 0, .int .i64 0, .int .i64 0, .int .i64 0, .int .i64 0, .int .i64 0, .int .i64 0, .slice none 0 0, txb l2])
        have BB := Lib.hid (bl_setRow (g := w.heap.size) Be.out (Nat.le_refl _) #[.int .i64 5, .int .i64 (LB.at' l1 0), .int .i64 (LB.at' l1 1), .int .i64 0, .int .i64 0, .int .i64 0, .int .i64 0, .int .i64 0, .int .i64 0, .int .i64 0, .int .i64 0, txb [], .int .i64 0, .int .i64 0, .int .i64 0, .int .i64 0, .int .i64 0, .int .i64 0, .int .i64 0, .int .i64 0, .int .i64 0, .int .i64 0, .slice none 0 0, txb l2])
        generalize we.setRow w.heap.size #[.int .i64 5, .int .i64 (LB.at' l1 0), .int .i64 (LB.at' l1 1), .int .i64 0, .int .i64 0, .int .i64 0, .int .i64 0, .int .i64 0, .int .i64 0, .int .i64 0, .int .i64 0, txb [], .int .i64 0, .int .i64 0, .int .i64 0, .int .i64 0, .int .i64 0, .int .i64 0, .int .i64 0, .int .i64 0, .int .i64 0, .int .i64 0, .slice none 0 0, txb l2] = wz at ZZ BB ⊢
        go_wp2
        exact bodyPost_ret_by (ret_rec rfl ZZ.out rfl) rfl ⟨⟨none, 0, 0, by rw [hd.out]; rfl, by rw [hd.out]; exact (.inl rfl), by rw [hd.out]; exact rfl, (Nat.le_refl _), (by simp [maxLen])⟩, BB.out⟩
  · go_enter Tryz.func6, Tryz.ntmps6
    go_upto_region 4 with fail
    obtain ⟨hR, hZ, hB, hS⟩ := dec_start w #[.int .i64 0, .int .i64 0, .int .i64 0, .int .i64 0, .int .i64 0, .int .i64 0, .int .i64 0, .int .i64 0, .int .i64 0, .int .i64 0, .int .i64 0, txb [], .int .i64 0, .int .i64 0, .int .i64 0, .int .i64 0, .int .i64 0, .int .i64 0, .int .i64 0, .int .i64 0, .int .i64 0, .int .i64 0, .slice none 0 0, txb []] (some ⟨q, off + 1, none⟩) (n - 1) (c - 1) t hT (by simp at hn; omega) (by omega) (by omega)
    have yW := (hB.cell (p := ⟨q, off, none⟩) hq).trans y0
    generalize (w.alloc (.cells #[.int .i64 0, .int .i64 0, .int .i64 0, .int .i64 0, .int .i64 0, .int .i64 0, .int .i64 0, .int .i64 0, .int .i64 0, .int .i64 0, .int .i64 0, txb [], .int .i64 0, .int .i64 0, .int .i64 0, .int .i64 0, .int .i64 0, .int .i64 0, .int .i64 0, .int .i64 0, .int .i64 0, .int .i64 0, .slice none 0 0, txb []] 33)).alloc (.cells #[.slice (some ⟨q, off + 1, none⟩) (n - 1) (c - 1), .bool false] 61) = wa at hR hZ hB hS yW ⊢
    have HS := Lib.hid hS
    clear hS
    iterate 19 go_step
    refine wpList_store_row rfl _ (.tmp 5) (.tmp 34) rfl _ _ rfl rfl _ _ (heap_alloc_last _ _) (by kernel_rfl) (by rfl) (by simp [Value.oneCell']) ?_
    rw [World.setRow_alloc_new]
    simp only [Act.put, List.setIfInBounds_toArray, List.set_cons_zero, List.set_cons_succ]
    have hS := HS.out
    clear HS
    have Rb := Lib.hid (hR.keeps (Keeps.of_below (g := wa.heap.size) (bl_alloc wa (.cells #[.int .i64 5, .int .i64 0, .int .i64 0, .int .i64 0, .int .i64 0, .int .i64 0, .int .i64 0, .int .i64 0, .int .i64 0, .int .i64 0, .int .i64 0, txb [], .int .i64 0, .int .i64 0, .int .i64 0, .int .i64 0, .int .i64 0, .int .i64 0, .int .i64 0, .int .i64 0, .int .i64 0, .int .i64 0, .slice none 0 0, txb []] 33))) (by omega) (by omega))
    have Zb := Lib.hid (hZ.alloc (.cells #[.int .i64 5, .int .i64 0, .int .i64 0, .int .i64 0, .int .i64 0, .int .i64 0, .int .i64 0, .int .i64 0, .int .i64 0, .int .i64 0, .int .i64 0, txb [], .int .i64 0, .int .i64 0, .int .i64 0, .int .i64 0, .int .i64 0, .int .i64 0, .int .i64 0, .int .i64 0, .int .i64 0, .int .i64 0, .slice none 0 0, txb []] 33))
    have Xb := Lib.hid (Blk.new wa 33 #[.int .i64 5, .int .i64 0, .int .i64 0, .int .i64 0, .int .i64 0, .int .i64 0, .int .i64 0, .int .i64 0, .int .i64 0, .int .i64 0, .int .i64 0, txb [], .int .i64 0, .int .i64 0, .int .i64 0, .int .i64 0, .int .i64 0, .int .i64 0, .int .i64 0, .int .i64 0, .int .i64 0, .int .i64 0, .slice none 0 0, txb []])
    have Bb := Lib.hid (hB.alloc (by omega) (.cells #[.int .i64 5, .int .i64 0, .int .i64 0, .int .i64 0, .int .i64 0, .int .i64 0, .int .i64 0, .int .i64 0, .int .i64 0, .int .i64 0, .int .i64 0, txb [], .int .i64 0, .int .i64 0, .int .i64 0, .int .i64 0, .int .i64 0, .int .i64 0, .int .i64 0, .int .i64 0, .int .i64 0, .int .i64 0, .slice none 0 0, txb []] 33))
    have Sb := Lib.hid (show wa.heap.size + 1 ≤ (wa.alloc (.cells #[.int .i64 5, .int .i64 0, .int .i64 0, .int .i64 0, .int .i64 0, .int .i64 0, .int .i64 0, .int .i64 0, .int .i64 0, .int .i64 0, .int .i64 0, txb [], .int .i64 0, .int .i64 0, .int .i64 0, .int .i64 0, .int .i64 0, .int .i64 0, .int .i64 0, .int .i64 0, .int .i64 0, .int .i64 0, .slice none 0 0, txb []] 33)).heap.size by simp)
    generalize hQ : wa.heap.size = Q at *
    generalize wa.alloc (.cells #[.int .i64 5, .int .i64 0, .int .i64 0, .int .i64 0, .int .i64 0, .int .i64 0, .int .i64 0, .int .i64 0, .int .i64 0, .int .i64 0, .int .i64 0, txb [], .int .i64 0, .int .i64 0, .int .i64 0, .int .i64 0, .int .i64 0, .int .i64 0, .int .i64 0, .int .i64 0, .int .i64 0, .int .i64 0, .slice none 0 0, txb []] 33) = wb at *
    clear hR hZ hB yW y0 y1
    have Q1 : Q ≠ w.heap.size + 1 := by omega
    have Q2 : w.heap.size ≠ Q := by omega
    have Q3 : w.heap.size ≤ Q := by omega
    clear hQ hS
    have xb : ∀ i, wb.cell? ⟨Q, i, none⟩ = (#[.int .i64 5, .int .i64 0, .int .i64 0, .int .i64 0, .int .i64 0, .int .i64 0, .int .i64 0, .int .i64 0, .int .i64 0, .int .i64 0, .int .i64 0, txb [], .int .i64 0, .int .i64 0, .int .i64 0, .int .i64 0, .int .i64 0, .int .i64 0, .int .i64 0, .int .i64 0, .int .i64 0, .int .i64 0, .slice none 0 0, txb []] : Array Value)[i]? := fun i => Xb.out.cell i
    have fb : ∀ i, wb.frozen? ⟨Q, i, none⟩ = false := fun i => Xb.out.frozen i
    obtain ⟨⟨l1, s1⟩, he1⟩ : ∃ p, LB.ints 2 (t, false) = p := ⟨_, rfl⟩
    have hl1 : l1.length = 2 := by have := LB.ints_length 2 (t, false); rw [he1] at this; exact this
    have Kc := Lib.hid (into_any w.heap.size (w.heap.size + 1) Q wb.heap.size 2 2 (t, false) 33 65 (#[.int .i64 5, .int .i64 0, .int .i64 0, .int .i64 0, .int .i64 0, .int .i64 0, .int .i64 0, .int .i64 0, .int .i64 0, .int .i64 0, .int .i64 0, txb [], .int .i64 0, .int .i64 0, .int .i64 0, .int .i64 0, .int .i64 0, .int .i64 0, .int .i64 0, .int .i64 0, .int .i64 0, .int .i64 0, .slice none 0 0, txb []]) [1, 2] (wb.alloc (.cells #[.pointer (some ⟨Q, 1, none⟩), .pointer (some ⟨Q, 2, none⟩)] 65)) (Rb.out.keeps (Keeps.of_below (g := wb.heap.size) (bl_alloc wb _)) (by have := Sb.out; omega) (by have := Sb.out; omega)) (Xb.out.alloc _) Q1 Q3 (show Blk (wb.alloc (.cells #[.pointer (some ⟨Q, 1, none⟩), .pointer (some ⟨Q, 2, none⟩)] 65)) wb.heap.size 65 (ptrs Q [1, 2]) from Blk.new _ _ _) (by have := Sb.out; omega) (by have := Sb.out; omega) (by simp) rfl (by omega))
    rw [he1] at Kc
    go_wp2_with fail
    (with_reducible refine (Kc.out).mono ?_)
    rintro e wc ⟨rfl, hR, hX, hK⟩
    rw [← LB.at2 hl1] at hX
    have Rc := Lib.hid hR
    have Xc := Lib.hid (show Blk wc Q 33 #[.int .i64 5, .int .i64 (LB.at' l1 0), .int .i64 (LB.at' l1 1), .int .i64 0, .int .i64 0, .int .i64 0, .int .i64 0, .int .i64 0, .int .i64 0, .int .i64 0, .int .i64 0, txb [], .int .i64 0, .int .i64 0, .int .i64 0, .int .i64 0, .int .i64 0, .int .i64 0, .int .i64 0, .int .i64 0, .int .i64 0, .int .i64 0, .slice none 0 0, txb []] from hX)
    have Zc := Lib.hid ((Zb.out.alloc (.cells #[.pointer (some ⟨Q, 1, none⟩), .pointer (some ⟨Q, 2, none⟩)] 65)).keeps2 hK (by omega) Q2)
    have hb := hK.below (B := w.heap.size) (by omega) Q3 (by have := Sb.out; simp; omega)
    have Bc := Lib.hid ((Bb.out.alloc (by have := Sb.out; omega) (.cells #[.pointer (some ⟨Q, 1, none⟩), .pointer (some ⟨Q, 2, none⟩)] 65)).trans hb)
    have Sc := Lib.hid (show Q + 1 ≤ wc.heap.size by have := Sb.out; have := hb.size; simp at this; omega)
    have E1 := Lib.hid he1
    clear hR hX hK hb he1 hl1 Kc Rb Xb Zb Bb Sb xb fb
    have xc : ∀ i, wc.cell? ⟨Q, i, none⟩ = (#[.int .i64 5, .int .i64 (LB.at' l1 0), .int .i64 (LB.at' l1 1), .int .i64 0, .int .i64 0, .int .i64 0, .int .i64 0, .int .i64 0, .int .i64 0, .int .i64 0, .int .i64 0, txb [], .int .i64 0, .int .i64 0, .int .i64 0, .int .i64 0, .int .i64 0, .int .i64 0, .int .i64 0, .int .i64 0, .int .i64 0, .int .i64 0, .slice none 0 0, txb []] : Array Value)[i]? := fun i => Xc.out.cell i
    have fc : ∀ i, wc.frozen? ⟨Q, i, none⟩ = false := fun i => Xc.out.frozen i
    obtain ⟨⟨l2, s2⟩, he2⟩ : ∃ p, LB.text s1 = p := ⟨_, rfl⟩
    have hl2 : l2.length ≤ 65535 := by have := text_lt s1; rw [he2] at this; exact this
    have Kd := Lib.hid (rstr_any w.heap.size (w.heap.size + 1) s1 wc Rc.out)
    rw [he2] at Kd
    go_wp2_with fail
    (with_reducible refine (Kd.out).mono ?_)
    rintro e wm ⟨rfl, hR, hK⟩
    have hX := Xc.out.keeps hK Q1
    have hb := hK.below (B := w.heap.size) (by omega) (by have := Sc.out; omega)
    have Xm := Lib.hid hX
    have Rm := Lib.hid hR
    have Zm := Lib.hid (Zc.out.keeps hK (by omega))
    have Bm := Lib.hid (Bc.out.trans hb)
    have Sm := Lib.hid (show Q + 1 ≤ wm.heap.size by have := Sc.out; have := hb.size; omega)
    have E2 := Lib.hid he2
    have T2 := Lib.hid hl2
    clear hX hR hK hb he2 hl2 Kd Rc Xc Zc Bc Sc xc fc
    have xm : ∀ i, wm.cell? ⟨Q, i, none⟩ = (#[.int .i64 5, .int .i64 (LB.at' l1 0), .int .i64 (LB.at' l1 1), .int .i64 0, .int .i64 0, .int .i64 0, .int .i64 0, .int .i64 0, .int .i64 0, .int .i64 0, .int .i64 0, txb [], .int .i64 0, .int .i64 0, .int .i64 0, .int .i64 0, .int .i64 0, .int .i64 0, .int .i64 0, .int .i64 0, .int .i64 0, .int .i64 0, .slice none 0 0, txb []] : Array Value)[i]? := fun i => Xm.out.cell i
    have fm : ∀ i, wm.frozen? ⟨Q, i, none⟩ = false := fun i => Xm.out.frozen i
    go_upto_region 18 with fail
    have Rd := Lib.hid (Rm.out.keeps (Keeps.set_ Q 23 wm (txb l2)) (Ne.symm Q1) Q3)
    have Xd := Lib.hid (show Blk (wm.setCell ⟨Q, 23, none⟩ (txb l2)) Q 33 #[.int .i64 5, .int .i64 (LB.at' l1 0), .int .i64 (LB.at' l1 1), .int .i64 0, .int .i64 0, .int .i64 0, .int .i64 0, .int .i64 0, .int .i64 0, .int .i64 0, .int .i64 0, txb [], .int .i64 0, .int .i64 0, .int .i64 0, .int .i64 0, .int .i64 0, .int .i64 0, .int .i64 0, .int .i64 0, .int .i64 0, .int .i64 0, .slice none 0 0, txb l2] from Xm.out.set_ 23 (txb l2))
    have Zd := Lib.hid (Zm.out.far (p := ⟨Q, 23, none⟩) Q2 (txb l2))
    have Bd := Lib.hid (Bm.out.setCell (p := ⟨Q, 23, none⟩) Q3 (txb l2))
    have Sd := Lib.hid (show Q + 1 ≤ (wm.setCell ⟨Q, 23, none⟩ (txb l2)).heap.size by have := Sm.out; simpa using this)
    clear xm fm Rm Xm Zm Bm Sm
    generalize wm.setCell ⟨Q, 23, none⟩ (txb l2) = wd at *
    have xd : ∀ i, wd.cell? ⟨Q, i, none⟩ = (#[.int .i64 5, .int .i64 (LB.at' l1 0), .int .i64 (LB.at' l1 1), .int .i64 0, .int .i64 0, .int .i64 0, .int .i64 0, .int .i64 0, .int .i64 0, .int .i64 0, .int .i64 0, txb [], .int .i64 0, .int .i64 0, .int .i64 0, .int .i64 0, .int .i64 0, .int .i64 0, .int .i64 0, .int .i64 0, .int .i64 0, .int .i64 0, .slice none 0 0, txb l2] : Array Value)[i]? := fun i => Xd.out.cell i
    have fd : ∀ i, wd.frozen? ⟨Q, i, none⟩ = false := fun i => Xd.out.frozen i
    have HB := Lib.hid (show LB.body 5 (t, false) = (⟨5, (LB.at' l1 0), (LB.at' l1 1), 0, 0, 0, 0, 0, 0, 0, 0, [], 0, 0, 0, 0, 0, 0, 0, 0, 0, 0, [], l2⟩, s2) by
      unfold LB.body
      simp only [Int.reduceEq, ite_true, ite_false]
      rw [E1.out, E2.out]
      rfl)
    clear E1 E2
    obtain ⟨lr, wr⟩ := s2
    obtain ⟨A1, n1, c1, hG, hA1, hn1', hc1', -, -⟩ := Rd.out
    simp only [] at hG hA1 hn1'
    have g0 : wd.cell? ⟨w.heap.size + 1, 0, none⟩ = some (.slice A1 n1 c1) := hG.cell 0
    have g1 : wd.cell? ⟨w.heap.size + 1, 1, none⟩ = some (.bool wr) := hG.cell 1
    clear hG hA1 Rd
    cases wr with
    | true =>
      go_upto_region 27 with fail
      iterate 4 go_step
      refine wpList_store_row rfl _ (.tmp 2) (.tmp 162) rfl _ _ rfl rfl _ _ Zd.out (by kernel_rfl) (by rfl) (by simp [Value.oneCell']) ?_
      simp only [Act.put, List.setIfInBounds_toArray, List.set_cons_zero, List.set_cons_succ]
      have ZZ := Lib.hid (Blk.row Zd.out #[.int .i64 0, .int .i64 0, .int .i64 0, .int .i64 0, .int .i64 0, .int .i64 0, .int .i64 0, .int .i64 0, .int .i64 0, .int .i64 0, .int .i64 0, txb [], .int .i64 0, .int .i64 0, .int .i64 0, .int .i64 0, .int .i64 0, .int .i64 0, .int .i64 0, .int .i64 0, .int .i64 0, .int .i64 0, .slice none 0 0, txb []])
      have BB := Lib.hid (bl_setRow (g := w.heap.size) Bd.out (Nat.le_refl _) #[.int .i64 0, .int .i64 0, .int .i64 0, .int .i64 0, .int .i64 0, .int .i64 0, .int .i64 0, .int .i64 0, .int .i64 0, .int .i64 0, .int .i64 0, txb [], .int .i64 0, .int .i64 0, .int .i64 0, .int .i64 0, .int .i64 0, .int .i64 0, .int .i64 0, .int .i64 0, .int .i64 0, .int .i64 0, .slice none 0 0, txb []])
      have hd := Lib.hid (dec_bad hkb (by decide) (by decide) HB.out (.inl rfl))
      generalize wd.setRow w.heap.size #[.int .i64 0, .int .i64 0, .int .i64 0, .int .i64 0, .int .i64 0, .int .i64 0, .int .i64 0, .int .i64 0, .int .i64 0, .int .i64 0, .int .i64 0, txb [], .int .i64 0, .int .i64 0, .int .i64 0, .int .i64 0, .int .i64 0, .int .i64 0, .int .i64 0, .int .i64 0, .int .i64 0, .int .i64 0, .slice none 0 0, txb []] = wz at ZZ BB ⊢
      go_wp2
      exact bodyPost_ret_by (ret_rec rfl ZZ.out rfl) rfl ⟨⟨none, 0, 0, by rw [hd.out]; rfl, by rw [hd.out]; exact .inl rfl, by rw [hd.out]; rfl, Nat.le_refl _, by simp [maxLen]⟩, BB.out⟩
    | false =>
      by_cases hl : lr = []
      case neg =>
        have dl : 0 < n1 := by have := List.length_pos_iff.2 hl; omega
        have HL := Lib.hid hl
        clear hl
        go_upto_region 27 with fail
        iterate 4 go_step
        refine wpList_store_row rfl _ (.tmp 2) (.tmp 162) rfl _ _ rfl rfl _ _ Zd.out (by kernel_rfl) (by rfl) (by simp [Value.oneCell']) ?_
        simp only [Act.put, List.setIfInBounds_toArray, List.set_cons_zero, List.set_cons_succ]
        have ZZ := Lib.hid (Blk.row Zd.out #[.int .i64 0, .int .i64 0, .int .i64 0, .int .i64 0, .int .i64 0, .int .i64 0, .int .i64 0, .int .i64 0, .int .i64 0, .int .i64 0, .int .i64 0, txb [], .int .i64 0, .int .i64 0, .int .i64 0, .int .i64 0, .int .i64 0, .int .i64 0, .int .i64 0, .int .i64 0, .int .i64 0, .int .i64 0, .slice none 0 0, txb []])
        have BB := Lib.hid (bl_setRow (g := w.heap.size) Bd.out (Nat.le_refl _) #[.int .i64 0, .int .i64 0, .int .i64 0, .int .i64 0, .int .i64 0, .int .i64 0, .int .i64 0, .int .i64 0, .int .i64 0, .int .i64 0, .int .i64 0, txb [], .int .i64 0, .int .i64 0, .int .i64 0, .int .i64 0, .int .i64 0, .int .i64 0, .int .i64 0, .int .i64 0, .int .i64 0, .int .i64 0, .slice none 0 0, txb []])
        have hd := Lib.hid (dec_bad hkb (by decide) (by decide) HB.out (.inr HL.out))
        generalize wd.setRow w.heap.size #[.int .i64 0, .int .i64 0, .int .i64 0, .int .i64 0, .int .i64 0, .int .i64 0, .int .i64 0, .int .i64 0, .int .i64 0, .int .i64 0, .int .i64 0, txb [], .int .i64 0, .int .i64 0, .int .i64 0, .int .i64 0, .int .i64 0, .int .i64 0, .int .i64 0, .int .i64 0, .int .i64 0, .int .i64 0, .slice none 0 0, txb []] = wz at ZZ BB ⊢
        go_wp2
        exact bodyPost_ret_by (ret_rec rfl ZZ.out rfl) rfl ⟨⟨none, 0, 0, by rw [hd.out]; rfl, by rw [hd.out]; exact .inl rfl, by rw [hd.out]; rfl, Nat.le_refl _, by simp [maxLen]⟩, BB.out⟩
      obtain rfl : n1 = 0 := by rw [← hn1', hl]; rfl
      subst hl
      clear hn1' hc1'
      have KV := Lib.hid (valid_any ⟨5, (LB.at' l1 0), (LB.at' l1 1), 0, 0, 0, 0, 0, 0, 0, 0, [], 0, 0, 0, 0, 0, 0, 0, 0, 0, 0, [], l2⟩ none 0 0 wd (.inl rfl) rfl (by omega) (Nat.le_refl _) (by simp [maxLen]) (by simp) (by exact Nat.le_trans T2.out (by omega)))
      go_upto_region 28 with fail
      iterate 2 go_step
      refine wp_load_rec (.tmp 5) rfl rfl Xd.out rfl ?_
      simp only [Act.put, List.setIfInBounds_toArray, List.set_cons_zero, List.set_cons_succ]
      go_wp2_with fail
      (with_reducible refine (KV.out).mono ?_)
      rintro e we ⟨rfl, hbv⟩
      have Xe := Lib.hid (Xd.out.below hbv Xd.out.lt)
      have Ze := Lib.hid (Zd.out.below hbv Zd.out.lt)
      have Be := Lib.hid (Bd.out.trans (hbv.mono (by have := Sd.out; omega)))
      clear hbv KV g0 g1 xd fd
      obtain ⟨v, hv⟩ : ∃ v, vaB ⟨5, (LB.at' l1 0), (LB.at' l1 1), 0, 0, 0, 0, 0, 0, 0, 0, [], 0, 0, 0, 0, 0, 0, 0, 0, 0, 0, [], l2⟩ = v := ⟨_, rfl⟩
      rw [hv]
      cases v with
      | false =>
        have HV := Lib.hid hv
        clear hv
        go_upto_region 29 with fail
        iterate 4 go_step
        refine wpList_store_row rfl _ (.tmp 2) (.tmp 167) rfl _ _ rfl rfl _ _ Ze.out (by kernel_rfl) (by rfl) (by simp [Value.oneCell']) ?_
        simp only [Act.put, List.setIfInBounds_toArray, List.set_cons_zero, List.set_cons_succ]
        have ZZ := Lib.hid (Blk.row Ze.out #[.int .i64 0, .int .i64 0, .int .i64 0, .int .i64 0, .int .i64 0, .int .i64 0, .int .i64 0, .int .i64 0, .int .i64 0, .int .i64 0, .int .i64 0, txb [], .int .i64 0, .int .i64 0, .int .i64 0, .int .i64 0, .int .i64 0, .int .i64 0, .int .i64 0, .int .i64 0, .int .i64 0, .int .i64 0, .slice none 0 0, txb []])
        have BB := Lib.hid (bl_setRow (g := w.heap.size) Be.out (Nat.le_refl _) #[.int .i64 0, .int .i64 0, .int .i64 0, .int .i64 0, .int .i64 0, .int .i64 0, .int .i64 0, .int .i64 0, .int .i64 0, .int .i64 0, .int .i64 0, txb [], .int .i64 0, .int .i64 0, .int .i64 0, .int .i64 0, .int .i64 0, .int .i64 0, .int .i64 0, .int .i64 0, .int .i64 0, .int .i64 0, .slice none 0 0, txb []])
        have hd := Lib.hid (dec_arg hkb (by decide) (by decide) HB.out HV.out)
        generalize we.setRow w.heap.size #[.int .i64 0, .int .i64 0, .int .i64 0, .int .i64 0, .int .i64 0, .int .i64 0, .int .i64 0, .int .i64 0, .int .i64 0, .int .i64 0, .int .i64 0, txb [], .int .i64 0, .int .i64 0, .int .i64 0, .int .i64 0, .int .i64 0, .int .i64 0, .int .i64 0, .int .i64 0, .int .i64 0, .int .i64 0, .slice none 0 0, txb []] = wz at ZZ BB ⊢
        go_wp2
        exact bodyPost_ret_by (ret_rec rfl ZZ.out rfl) rfl ⟨⟨none, 0, 0, by rw [hd.out]; rfl, by rw [hd.out]; exact .inl rfl, by rw [hd.out]; rfl, Nat.le_refl _, by simp [maxLen]⟩, BB.out⟩
      | true =>
        have hd := Lib.hid (dec_ok hkb (by decide) (by decide) HB.out hv)
        clear hv
        go_upto_region 30 with fail
        iterate 2 go_step
        refine wp_load_rec (.tmp 5) rfl rfl Xe.out rfl ?_
        simp only [Act.put, List.setIfInBounds_toArray, List.set_cons_zero, List.set_cons_succ]
        iterate 1 go_step
        refine wpList_store_row rfl _ (.tmp 2) (.tmp 168) rfl _ _ rfl rfl _ _ Ze.out (by kernel_rfl) (by rfl) (by simp [Value.oneCell']) ?_
        simp only [Act.put, List.setIfInBounds_toArray, List.set_cons_zero, List.set_cons_succ]
        have ZZ := Lib.hid (Blk.row Ze.out #[.int .i64 5, .int .i64 (LB.at' l1 0), .int .i64 (LB.at' l1 1), .int .i64 0, .int .i64 0, .int .i64 0, .int .i64 0, .int .i64 0, .int .i64 0, .int .i64 0, .int .i64 0, txb [], .int .i64 0, .int .i64 0, .int .i64 0, .int .i64 0, .int .i64 0, .int .i64 0, .int .i64 0, .int .i64 0, .int .i64 0, .int .i64 0, .slice none 0 0, txb l2])
        have BB := Lib.hid (bl_setRow (g := w.heap.size) Be.out (Nat.le_refl _) #[.int .i64 5, .int .i64 (LB.at' l1 0), .int .i64 (LB.at' l1 1), .int .i64 0, .int .i64 0, .int .i64 0, .int .i64 0, .int .i64 0, .int .i64 0, .int .i64 0, .int .i64 0, txb [], .int .i64 0, .int .i64 0, .int .i64 0, .int .i64 0, .int .i64 0, .int .i64 0, .int .i64 0, .int .i64 0, .int .i64 0, .int .i64 0, .slice none 0 0, txb l2])
        generalize we.setRow w.heap.size #[.int .i64 5, .int .i64 (LB.at' l1 0), .int .i64 (LB.at' l1 1), .int .i64 0, .int .i64 0, .int .i64 0, .int .i64 0, .int .i64 0, .int .i64 0, .int .i64 0, .int .i64 0, txb [], .int .i64 0, .int .i64 0, .int .i64 0, .int .i64 0, .int .i64 0, .int .i64 0, .int .i64 0, .int .i64 0, .int .i64 0, .int .i64 0, .slice none 0 0, txb l2] = wz at ZZ BB ⊢
        go_wp2
        exact bodyPost_ret_by (ret_rec rfl ZZ.out rfl) rfl ⟨⟨none, 0, 0, by rw [hd.out]; rfl, by rw [hd.out]; exact (.inl rfl), by rw [hd.out]; exact rfl, (Nat.le_refl _), (by simp [maxLen])⟩, BB.out⟩
end Go.Proofs.YthfndnmfnijpeaaGreat
