/- logbook.Decode of a sight. -/
import Derived.Test.YthfndnmfnijpeaaGreatHLz
import Derived.Test.YthfndnmfnijpeaaGreatHRin
set_option linter.unusedVariables false
set_option linter.unusedSimpArgs false
namespace Go.Proofs.YthfndnmfnijpeaaGreat
open Go.RowKit
open LB (Bs Rec St)
set_option maxHeartbeats 8000000 in
set_option maxRecDepth 100000 in
theorem dec3_any (kb : UInt8) (hkb : kb.toNat = 3) (t : Bs) (A : Option Addr) (n c : Nat) (w : World) (hA : BytesAt w w.heap.size A (kb :: t)) (hn : (kb :: t).length = n) (hc : n ≤ c) (hcm : c ≤ maxLen) (hn1 : n ≤ 1000) :
    Calls Tryz.prog 6 #[.slice A n c] w fun e w' => (∃ A' n' c', e = .returned (.tuple #[recV (LB.dec vaB (kb :: t)).1 (.slice A' n' c'), .int .i64 (LB.dec vaB (kb :: t)).2]) ∧ IntsAt w' A' (LB.dec vaB (kb :: t)).1.list ∧ (LB.dec vaB (kb :: t)).1.list.length = n' ∧ n' ≤ c' ∧ c' ≤ maxLen) ∧ Below w.heap.size w w' := by
  obtain ⟨q, off, rfl, hq, y0, hT⟩ := hA.cons
  rw [hkb] at y0
  have y1 : ∀ o, (w.alloc o).cell? ⟨q, off, none⟩ = some (.int .u8 3) := fun o => (World.cell?_alloc_lt w o ⟨q, off, none⟩ hq).trans y0
  have dn : ((n : Int) == 0) = false := by simp at hn ⊢; omega
  have hn0 : ¬ n = 0 := by simp at hn; omega
  by_cases hc1 : c = 1
  · subst hc1
    obtain rfl : n = 1 := by omega
    have ht0 : t = [] := List.eq_nil_of_length_eq_zero (by simpa using hn)
    go_enter Tryz.func6, Tryz.ntmps6
    go_upto_region 4 with fail
    obtain ⟨hR, hZ, hB, hS⟩ := dec_start w #[.int .i64 0, .int .i64 0, .int .i64 0, .int .i64 0, .int .i64 0, .int .i64 0, .int .i64 0, .int .i64 0, .int .i64 0, .int .i64 0, .int .i64 0, txb [], .int .i64 0, .int .i64 0, .int .i64 0, .int .i64 0, .int .i64 0, .int .i64 0, .int .i64 0, .int .i64 0, .int .i64 0, .int .i64 0, .slice none 0 0, txb []] (some ⟨q, off, none⟩) 0 0 t (.inl ht0) (by rw [ht0]; rfl) (Nat.le_refl _) (by simp [maxLen])
    have yW := (hB.cell (p := ⟨q, off, none⟩) hq).trans y0
    generalize (w.alloc (.cells #[.int .i64 0, .int .i64 0, .int .i64 0, .int .i64 0, .int .i64 0, .int .i64 0, .int .i64 0, .int .i64 0, .int .i64 0, .int .i64 0, .int .i64 0, txb [], .int .i64 0, .int .i64 0, .int .i64 0, .int .i64 0, .int .i64 0, .int .i64 0, .int .i64 0, .int .i64 0, .int .i64 0, .int .i64 0, .slice none 0 0, txb []] 33)).alloc (.cells #[.slice (some ⟨q, off, none⟩) 0 0, .bool false] 61) = wa at hR hZ hB hS yW ⊢
    have HS := Lib.hid hS
    clear hS
    iterate 19 go_step
    refine wpList_store_row rfl _ (.tmp 5) (.tmp 34) rfl _ _ rfl rfl _ _ (heap_alloc_last _ _) (by kernel_rfl) (by rfl) (by simp [Value.oneCell']) ?_
    rw [World.setRow_alloc_new]
    simp only [Act.put, List.setIfInBounds_toArray, List.set_cons_zero, List.set_cons_succ]
    have hS := HS.out
    clear HS
    have Rb := Lib.hid (hR.keeps (Keeps.of_below (g := wa.heap.size) (bl_alloc wa (.cells #[.int .i64 3, .int .i64 0, .int .i64 0, .int .i64 0, .int .i64 0, .int .i64 0, .int .i64 0, .int .i64 0, .int .i64 0, .int .i64 0, .int .i64 0, txb [], .int .i64 0, .int .i64 0, .int .i64 0, .int .i64 0, .int .i64 0, .int .i64 0, .int .i64 0, .int .i64 0, .int .i64 0, .int .i64 0, .slice none 0 0, txb []] 33))) (by omega) (by omega))
    have Zb := Lib.hid (hZ.alloc (.cells #[.int .i64 3, .int .i64 0, .int .i64 0, .int .i64 0, .int .i64 0, .int .i64 0, .int .i64 0, .int .i64 0, .int .i64 0, .int .i64 0, .int .i64 0, txb [], .int .i64 0, .int .i64 0, .int .i64 0, .int .i64 0, .int .i64 0, .int .i64 0, .int .i64 0, .int .i64 0, .int .i64 0, .int .i64 0, .slice none 0 0, txb []] 33))
    have Xb := Lib.hid (Blk.new wa 33 #[.int .i64 3, .int .i64 0, .int .i64 0, .int .i64 0, .int .i64 0, .int .i64 0, .int .i64 0, .int .i64 0, .int .i64 0, .int .i64 0, .int .i64 0, txb [], .int .i64 0, .int .i64 0, .int .i64 0, .int .i64 0, .int .i64 0, .int .i64 0, .int .i64 0, .int .i64 0, .int .i64 0, .int .i64 0, .slice none 0 0, txb []])
    have Bb := Lib.hid (hB.alloc (by omega) (.cells #[.int .i64 3, .int .i64 0, .int .i64 0, .int .i64 0, .int .i64 0, .int .i64 0, .int .i64 0, .int .i64 0, .int .i64 0, .int .i64 0, .int .i64 0, txb [], .int .i64 0, .int .i64 0, .int .i64 0, .int .i64 0, .int .i64 0, .int .i64 0, .int .i64 0, .int .i64 0, .int .i64 0, .int .i64 0, .slice none 0 0, txb []] 33))
    have Sb := Lib.hid (show wa.heap.size + 1 ≤ (wa.alloc (.cells #[.int .i64 3, .int .i64 0, .int .i64 0, .int .i64 0, .int .i64 0, .int .i64 0, .int .i64 0, .int .i64 0, .int .i64 0, .int .i64 0, .int .i64 0, txb [], .int .i64 0, .int .i64 0, .int .i64 0, .int .i64 0, .int .i64 0, .int .i64 0, .int .i64 0, .int .i64 0, .int .i64 0, .int .i64 0, .slice none 0 0, txb []] 33)).heap.size by simp)
    generalize hQ : wa.heap.size = Q at *
    generalize wa.alloc (.cells #[.int .i64 3, .int .i64 0, .int .i64 0, .int .i64 0, .int .i64 0, .int .i64 0, .int .i64 0, .int .i64 0, .int .i64 0, .int .i64 0, .int .i64 0, txb [], .int .i64 0, .int .i64 0, .int .i64 0, .int .i64 0, .int .i64 0, .int .i64 0, .int .i64 0, .int .i64 0, .int .i64 0, .int .i64 0, .slice none 0 0, txb []] 33) = wb at *
    clear hR hZ hB yW y0 y1
    have Q1 : Q ≠ w.heap.size + 1 := by omega
    have Q2 : w.heap.size ≠ Q := by omega
    have Q3 : w.heap.size ≤ Q := by omega
    clear hQ hS
    have xb : ∀ i, wb.cell? ⟨Q, i, none⟩ = (#[.int .i64 3, .int .i64 0, .int .i64 0, .int .i64 0, .int .i64 0, .int .i64 0, .int .i64 0, .int .i64 0, .int .i64 0, .int .i64 0, .int .i64 0, txb [], .int .i64 0, .int .i64 0, .int .i64 0, .int .i64 0, .int .i64 0, .int .i64 0, .int .i64 0, .int .i64 0, .int .i64 0, .int .i64 0, .slice none 0 0, txb []] : Array Value)[i]? := fun i => Xb.out.cell i
    have fb : ∀ i, wb.frozen? ⟨Q, i, none⟩ = false := fun i => Xb.out.frozen i
    obtain ⟨⟨l1, s1⟩, he1⟩ : ∃ p, LB.text (t, false) = p := ⟨_, rfl⟩
    have hl1 : l1.length ≤ 65535 := by have := text_lt (t, false); rw [he1] at this; exact this
    have Kc := Lib.hid (rstr_any w.heap.size (w.heap.size + 1) (t, false) wb Rb.out)
    rw [he1] at Kc
    go_wp2_with fail
    (with_reducible refine (Kc.out).mono ?_)
    rintro e wm ⟨rfl, hR, hK⟩
    have hX := Xb.out.keeps hK Q1
    have hb := hK.below (B := w.heap.size) (by omega) (by have := Sb.out; omega)
    have Xm := Lib.hid hX
    have Rm := Lib.hid hR
    have Zm := Lib.hid (Zb.out.keeps hK (by omega))
    have Bm := Lib.hid (Bb.out.trans hb)
    have Sm := Lib.hid (show Q + 1 ≤ wm.heap.size by have := Sb.out; have := hb.size; omega)
    have E1 := Lib.hid he1
    have T1 := Lib.hid hl1
    clear hX hR hK hb he1 hl1 Kc Rb Xb Zb Bb Sb xb fb
    have xm : ∀ i, wm.cell? ⟨Q, i, none⟩ = (#[.int .i64 3, .int .i64 0, .int .i64 0, .int .i64 0, .int .i64 0, .int .i64 0, .int .i64 0, .int .i64 0, .int .i64 0, .int .i64 0, .int .i64 0, txb [], .int .i64 0, .int .i64 0, .int .i64 0, .int .i64 0, .int .i64 0, .int .i64 0, .int .i64 0, .int .i64 0, .int .i64 0, .int .i64 0, .slice none 0 0, txb []] : Array Value)[i]? := fun i => Xm.out.cell i
    have fm : ∀ i, wm.frozen? ⟨Q, i, none⟩ = false := fun i => Xm.out.frozen i
    go_upto_region 8 with fail
    have Rc := Lib.hid (Rm.out.keeps (Keeps.set_ Q 11 wm (txb l1)) (Ne.symm Q1) Q3)
    have Xc := Lib.hid (show Blk (wm.setCell ⟨Q, 11, none⟩ (txb l1)) Q 33 #[.int .i64 3, .int .i64 0, .int .i64 0, .int .i64 0, .int .i64 0, .int .i64 0, .int .i64 0, .int .i64 0, .int .i64 0, .int .i64 0, .int .i64 0, txb l1, .int .i64 0, .int .i64 0, .int .i64 0, .int .i64 0, .int .i64 0, .int .i64 0, .int .i64 0, .int .i64 0, .int .i64 0, .int .i64 0, .slice none 0 0, txb []] from Xm.out.set_ 11 (txb l1))
    have Zc := Lib.hid (Zm.out.far (p := ⟨Q, 11, none⟩) Q2 (txb l1))
    have Bc := Lib.hid (Bm.out.setCell (p := ⟨Q, 11, none⟩) Q3 (txb l1))
    have Sc := Lib.hid (show Q + 1 ≤ (wm.setCell ⟨Q, 11, none⟩ (txb l1)).heap.size by have := Sm.out; simpa using this)
    clear xm fm Rm Xm Zm Bm Sm
    generalize wm.setCell ⟨Q, 11, none⟩ (txb l1) = wc at *
    have xc : ∀ i, wc.cell? ⟨Q, i, none⟩ = (#[.int .i64 3, .int .i64 0, .int .i64 0, .int .i64 0, .int .i64 0, .int .i64 0, .int .i64 0, .int .i64 0, .int .i64 0, .int .i64 0, .int .i64 0, txb l1, .int .i64 0, .int .i64 0, .int .i64 0, .int .i64 0, .int .i64 0, .int .i64 0, .int .i64 0, .int .i64 0, .int .i64 0, .int .i64 0, .slice none 0 0, txb []] : Array Value)[i]? := fun i => Xc.out.cell i
    have fc : ∀ i, wc.frozen? ⟨Q, i, none⟩ = false := fun i => Xc.out.frozen i
    obtain ⟨⟨l2, s2⟩, he2⟩ : ∃ p, LB.ints 10 s1 = p := ⟨_, rfl⟩
    have hl2 : l2.length = 10 := by have := LB.ints_length 10 s1; rw [he2] at this; exact this
    have Kd := Lib.hid (into_any w.heap.size (w.heap.size + 1) Q wc.heap.size 10 10 s1 33 65 (#[.int .i64 3, .int .i64 0, .int .i64 0, .int .i64 0, .int .i64 0, .int .i64 0, .int .i64 0, .int .i64 0, .int .i64 0, .int .i64 0, .int .i64 0, txb l1, .int .i64 0, .int .i64 0, .int .i64 0, .int .i64 0, .int .i64 0, .int .i64 0, .int .i64 0, .int .i64 0, .int .i64 0, .int .i64 0, .slice none 0 0, txb []]) [12, 13, 14, 15, 16, 17, 18, 19, 20, 21] (wc.alloc (.cells #[.pointer (some ⟨Q, 12, none⟩), .pointer (some ⟨Q, 13, none⟩), .pointer (some ⟨Q, 14, none⟩), .pointer (some ⟨Q, 15, none⟩), .pointer (some ⟨Q, 16, none⟩), .pointer (some ⟨Q, 17, none⟩), .pointer (some ⟨Q, 18, none⟩), .pointer (some ⟨Q, 19, none⟩), .pointer (some ⟨Q, 20, none⟩), .pointer (some ⟨Q, 21, none⟩)] 65)).drew ((Rc.out.keeps (Keeps.of_below (g := wc.heap.size) (bl_alloc wc _)) (by have := Sc.out; omega) (by have := Sc.out; omega)).keeps (Keeps.drew wc.heap.size _) (by have := Sc.out; omega) (by have := Sc.out; omega)) (Xc.out.alloc _).drew Q1 Q3 (show Blk (wc.alloc (.cells #[.pointer (some ⟨Q, 12, none⟩), .pointer (some ⟨Q, 13, none⟩), .pointer (some ⟨Q, 14, none⟩), .pointer (some ⟨Q, 15, none⟩), .pointer (some ⟨Q, 16, none⟩), .pointer (some ⟨Q, 17, none⟩), .pointer (some ⟨Q, 18, none⟩), .pointer (some ⟨Q, 19, none⟩), .pointer (some ⟨Q, 20, none⟩), .pointer (some ⟨Q, 21, none⟩)] 65)).drew wc.heap.size 65 (ptrs Q [12, 13, 14, 15, 16, 17, 18, 19, 20, 21]) from (Blk.new _ _ _).drew) (by have := Sc.out; omega) (by have := Sc.out; omega) (by simp) rfl (by omega))
    rw [he2] at Kd
    go_region_with (go_at_call 17; (with_reducible refine (Kd.out).mono ?_); rintro e wd ⟨rfl, hR, hX, hK⟩)
    rw [← LB.at10 hl2] at hX
    simp only [setAll, List.setIfInBounds_toArray, List.set_cons_zero, List.set_cons_succ] at hX
    have Rd := Lib.hid hR
    have Xd := Lib.hid hX
    clear hX
    have hX : True := trivial
    have Zd := Lib.hid ((Zc.out.alloc (.cells #[.pointer (some ⟨Q, 12, none⟩), .pointer (some ⟨Q, 13, none⟩), .pointer (some ⟨Q, 14, none⟩), .pointer (some ⟨Q, 15, none⟩), .pointer (some ⟨Q, 16, none⟩), .pointer (some ⟨Q, 17, none⟩), .pointer (some ⟨Q, 18, none⟩), .pointer (some ⟨Q, 19, none⟩), .pointer (some ⟨Q, 20, none⟩), .pointer (some ⟨Q, 21, none⟩)] 65)).drew.keeps2 hK (by omega) Q2)
    have hb := hK.below (B := w.heap.size) (by omega) Q3 (show w.heap.size ≤ (wc.alloc (.cells #[.pointer (some ⟨Q, 12, none⟩), .pointer (some ⟨Q, 13, none⟩), .pointer (some ⟨Q, 14, none⟩), .pointer (some ⟨Q, 15, none⟩), .pointer (some ⟨Q, 16, none⟩), .pointer (some ⟨Q, 17, none⟩), .pointer (some ⟨Q, 18, none⟩), .pointer (some ⟨Q, 19, none⟩), .pointer (some ⟨Q, 20, none⟩), .pointer (some ⟨Q, 21, none⟩)] 65)).heap.size by have := Sc.out; simp; omega)
    have Bd := Lib.hid ((bl_drew (Bc.out.alloc (by have := Sc.out; omega) (.cells #[.pointer (some ⟨Q, 12, none⟩), .pointer (some ⟨Q, 13, none⟩), .pointer (some ⟨Q, 14, none⟩), .pointer (some ⟨Q, 15, none⟩), .pointer (some ⟨Q, 16, none⟩), .pointer (some ⟨Q, 17, none⟩), .pointer (some ⟨Q, 18, none⟩), .pointer (some ⟨Q, 19, none⟩), .pointer (some ⟨Q, 20, none⟩), .pointer (some ⟨Q, 21, none⟩)] 65))).trans hb)
    have Sd := Lib.hid (show Q + 1 ≤ wd.heap.size by have := Sc.out; have := hb.size; simp at this; omega)
    have E2 := Lib.hid he2
    clear hR hX hK hb he2 hl2 Kd Rc Xc Zc Bc Sc xc fc
    have xd : ∀ i, wd.cell? ⟨Q, i, none⟩ = (#[.int .i64 3, .int .i64 0, .int .i64 0, .int .i64 0, .int .i64 0, .int .i64 0, .int .i64 0, .int .i64 0, .int .i64 0, .int .i64 0, .int .i64 0, txb l1, .int .i64 (LB.at' l2 0), .int .i64 (LB.at' l2 1), .int .i64 (LB.at' l2 2), .int .i64 (LB.at' l2 3), .int .i64 (LB.at' l2 4), .int .i64 (LB.at' l2 5), .int .i64 (LB.at' l2 6), .int .i64 (LB.at' l2 7), .int .i64 (LB.at' l2 8), .int .i64 (LB.at' l2 9), .slice none 0 0, txb []] : Array Value)[i]? := fun i => Xd.out.cell i
    have fd : ∀ i, wd.frozen? ⟨Q, i, none⟩ = false := fun i => Xd.out.frozen i
    have HB := Lib.hid (show LB.body 3 (t, false) = (⟨3, 0, 0, 0, 0, 0, 0, 0, 0, 0, 0, l1, (LB.at' l2 0), (LB.at' l2 1), (LB.at' l2 2), (LB.at' l2 3), (LB.at' l2 4), (LB.at' l2 5), (LB.at' l2 6), (LB.at' l2 7), (LB.at' l2 8), (LB.at' l2 9), [], []⟩, s2) by
      unfold LB.body
      simp only [Int.reduceEq, ite_true, ite_false]
      rw [E1.out, E2.out]
      rfl)
    clear E1 E2
    obtain ⟨lr, wr⟩ := s2
    obtain ⟨A1, n1, c1, hG, hA1, hn1', hc1', -, -⟩ := Rd.out
    simp only [] at hG hA1 hn1'
    have g0 : wd.cell? ⟨w.heap.size + 1, 0, none⟩ = some (.slice A1 n1 c1) := hG.cell 0
    have g1 : wd.cell? ⟨w.heap.size + 1, 1, none⟩ = some (.bool wr) := hG.cell 1
    clear hG hA1 Rd
    cases wr with
    | true =>
      go_upto_region 27 with fail
      iterate 4 go_step
      refine wpList_store_row rfl _ (.tmp 2) (.tmp 162) rfl _ _ rfl rfl _ _ Zd.out (by kernel_rfl) (by rfl) (by simp [Value.oneCell']) ?_
      simp only [Act.put, List.setIfInBounds_toArray, List.set_cons_zero, List.set_cons_succ]
      have ZZ := Lib.hid (Blk.row Zd.out #[.int .i64 0, .int .i64 0, .int .i64 0, .int .i64 0, .int .i64 0, .int .i64 0, .int .i64 0, .int .i64 0, .int .i64 0, .int .i64 0, .int .i64 0, txb [], .int .i64 0, .int .i64 0, .int .i64 0, .int .i64 0, .int .i64 0, .int .i64 0, .int .i64 0, .int .i64 0, .int .i64 0, .int .i64 0, .slice none 0 0, txb []])
      have BB := Lib.hid (bl_setRow (g := w.heap.size) Bd.out (Nat.le_refl _) #[.int .i64 0, .int .i64 0, .int .i64 0, .int .i64 0, .int .i64 0, .int .i64 0, .int .i64 0, .int .i64 0, .int .i64 0, .int .i64 0, .int .i64 0, txb [], .int .i64 0, .int .i64 0, .int .i64 0, .int .i64 0, .int .i64 0, .int .i64 0, .int .i64 0, .int .i64 0, .int .i64 0, .int .i64 0, .slice none 0 0, txb []])
      have hd := Lib.hid (dec_bad hkb (by decide) (by decide) HB.out (.inl rfl))
      generalize wd.setRow w.heap.size #[.int .i64 0, .int .i64 0, .int .i64 0, .int .i64 0, .int .i64 0, .int .i64 0, .int .i64 0, .int .i64 0, .int .i64 0, .int .i64 0, .int .i64 0, txb [], .int .i64 0, .int .i64 0, .int .i64 0, .int .i64 0, .int .i64 0, .int .i64 0, .int .i64 0, .int .i64 0, .int .i64 0, .int .i64 0, .slice none 0 0, txb []] = wz at ZZ BB ⊢
      go_wp2
      exact bodyPost_ret_by (ret_rec rfl ZZ.out rfl) rfl ⟨⟨none, 0, 0, by rw [hd.out]; rfl, by rw [hd.out]; exact .inl rfl, by rw [hd.out]; rfl, Nat.le_refl _, by simp [maxLen]⟩, BB.out⟩
    | false =>
      by_cases hl : lr = []
      case neg =>
        have dl : 0 < n1 := by have := List.length_pos_iff.2 hl; omega
        have HL := Lib.hid hl
        clear hl
        go_upto_region 27 with fail
        iterate 4 go_step
        refine wpList_store_row rfl _ (.tmp 2) (.tmp 162) rfl _ _ rfl rfl _ _ Zd.out (by kernel_rfl) (by rfl) (by simp [Value.oneCell']) ?_
        simp only [Act.put, List.setIfInBounds_toArray, List.set_cons_zero, List.set_cons_succ]
        have ZZ := Lib.hid (Blk.row Zd.out #[.int .i64 0, .int .i64 0, .int .i64 0, .int .i64 0, .int .i64 0, .int .i64 0, .int .i64 0, .int .i64 0, .int .i64 0, .int .i64 0, .int .i64 0, txb [], .int .i64 0, .int .i64 0, .int .i64 0, .int .i64 0, .int .i64 0, .int .i64 0, .int .i64 0, .int .i64 0, .int .i64 0, .int .i64 0, .slice none 0 0, txb []])
        have BB := Lib.hid (bl_setRow (g := w.heap.size) Bd.out (Nat.le_refl _) #[.int .i64 0, .int .i64 0, .int .i64 0, .int .i64 0, .int .i64 0, .int .i64 0, .int .i64 0, .int .i64 0, .int .i64 0, .int .i64 0, .int .i64 0, txb [], .int .i64 0, .int .i64 0, .int .i64 0, .int .i64 0, .int .i64 0, .int .i64 0, .int .i64 0, .int .i64 0, .int .i64 0, .int .i64 0, .slice none 0 0, txb []])
        have hd := Lib.hid (dec_bad hkb (by decide) (by decide) HB.out (.inr HL.out))
        generalize wd.setRow w.heap.size #[.int .i64 0, .int .i64 0, .int .i64 0, .int .i64 0, .int .i64 0, .int .i64 0, .int .i64 0, .int .i64 0, .int .i64 0, .int .i64 0, .int .i64 0, txb [], .int .i64 0, .int .i64 0, .int .i64 0, .int .i64 0, .int .i64 0, .int .i64 0, .int .i64 0, .int .i64 0, .int .i64 0, .int .i64 0, .slice none 0 0, txb []] = wz at ZZ BB ⊢
        go_wp2
        exact bodyPost_ret_by (ret_rec rfl ZZ.out rfl) rfl ⟨⟨none, 0, 0, by rw [hd.out]; rfl, by rw [hd.out]; exact .inl rfl, by rw [hd.out]; rfl, Nat.le_refl _, by simp [maxLen]⟩, BB.out⟩
      obtain rfl : n1 = 0 := by rw [← hn1', hl]; rfl
      subst hl
      clear hn1' hc1'
      have KV := Lib.hid (valid_any ⟨3, 0, 0, 0, 0, 0, 0, 0, 0, 0, 0, l1, (LB.at' l2 0), (LB.at' l2 1), (LB.at' l2 2), (LB.at' l2 3), (LB.at' l2 4), (LB.at' l2 5), (LB.at' l2 6), (LB.at' l2 7), (LB.at' l2 8), (LB.at' l2 9), [], []⟩ none 0 0 wd (.inl rfl) rfl (by omega) (Nat.le_refl _) (by simp [maxLen]) (by exact Nat.le_trans T1.out (by omega)) (by simp))
      go_upto_region 28 with fail
      iterate 2 go_step
      refine wp_load_rec (.tmp 5) rfl rfl Xd.out rfl ?_
      simp only [Act.put, List.setIfInBounds_toArray, List.set_cons_zero, List.set_cons_succ]
      go_wp2_with fail
      (with_reducible refine (KV.out).mono ?_)
      rintro e we ⟨rfl, hbv⟩
      have Xe := Lib.hid (Xd.out.below hbv Xd.out.lt)
      have Ze := Lib.hid (Zd.out.below hbv Zd.out.lt)
      have Be := Lib.hid (Bd.out.trans (hbv.mono (by have := Sd.out; omega)))
      clear hbv KV g0 g1 xd fd
      obtain ⟨v, hv⟩ : ∃ v, vaB ⟨3, 0, 0, 0, 0, 0, 0, 0, 0, 0, 0, l1, (LB.at' l2 0), (LB.at' l2 1), (LB.at' l2 2), (LB.at' l2 3), (LB.at' l2 4), (LB.at' l2 5), (LB.at' l2 6), (LB.at' l2 7), (LB.at' l2 8), (LB.at' l2 9), [], []⟩ = v := ⟨_, rfl⟩
      rw [hv]
      cases v with
      | false =>
        have HV := Lib.hid hv
        clear hv
        go_upto_region 29 with fail
        iterate 4 go_step
        refine wpList_store_row rfl _ (.tmp 2) (.tmp 167) rfl _ _ rfl rfl _ _ Ze.out (by kernel_rfl) (by rfl) (by simp [Value.oneCell']) ?_
        simp only [Act.put, List.setIfInBounds_toArray, List.set_cons_zero, List.set_cons_succ]
        have ZZ := Lib.hid (Blk.row Ze.out #[.int .i64 0, .int .i64 0, .int .i64 0, .int .i64 0, .int .i64 0, .int .i64 0, .int .i64 0, .int .i64 0, .int .i64 0, .int .i64 0, .int .i64 0, txb [], .int .i64 0, .int .i64 0, .int .i64 0, .int .i64 0, .int .i64 0, .int .i64 0, .int .i64 0, .int .i64 0, .int .i64 0, .int .i64 0, .slice none 0 0, txb []])
        have BB := Lib.hid (bl_setRow (g := w.heap.size) Be.out (Nat.le_refl _) #[.int .i64 0, .int .i64 0, .int .i64 0, .int .i64 0, .int .i64 0, .int .i64 0, .int .i64 0, .int .i64 0, .int .i64 0, .int .i64 0, .int .i64 0, txb [], .int .i64 0, .int .i64 0, .int .i64 0, .int .i64 0, .int .i64 0, .int .i64 0, .int .i64 0, .int .i64 0, .int .i64 0, .int .i64 0, .slice none 0 0, txb []])
        have hd := Lib.hid (dec_arg hkb (by decide) (by decide) HB.out HV.out)
        generalize we.setRow w.heap.size #[.int .i64 0, .int .i64 0, .int .i64 0, .int .i64 0, .int .i64 0, .int .i64 0, .int .i64 0, .int .i64 0, .int .i64 0, .int .i64 0, .int .i64 0, txb [], .int .i64 0, .int .i64 0, .int .i64 0, .int .i64 0, .int .i64 0, .int .i64 0, .int .i64 0, .int .i64 0, .int .i64 0, .int .i64 0, .slice none 0 0, txb []] = wz at ZZ BB ⊢
        go_wp2
        exact bodyPost_ret_by (ret_rec rfl ZZ.out rfl) rfl ⟨⟨none, 0, 0, by rw [hd.out]; rfl, by rw [hd.out]; exact .inl rfl, by rw [hd.out]; rfl, Nat.le_refl _, by simp [maxLen]⟩, BB.out⟩
      | true =>
        have hd := Lib.hid (dec_ok hkb (by decide) (by decide) HB.out hv)
        clear hv
        go_upto_region 30 with fail
        iterate 2 go_step
        refine wp_load_rec (.tmp 5) rfl rfl Xe.out rfl ?_
        simp only [Act.put, List.setIfInBounds_toArray, List.set_cons_zero, List.set_cons_succ]
        iterate 1 go_step
        refine wpList_store_row rfl _ (.tmp 2) (.tmp 168) rfl _ _ rfl rfl _ _ Ze.out (by kernel_rfl) (by rfl) (by simp [Value.oneCell']) ?_
        simp only [Act.put, List.setIfInBounds_toArray, List.set_cons_zero, List.set_cons_succ]
        have ZZ := Lib.hid (Blk.row Ze.out #[.int .i64 3, .int .i64 0, .int .i64 0, .int .i64 0, .int .i64 0, .int .i64 0, .int .i64 0, .int .i64 0, .int .i64 0, .int .i64 0, .int .i64 0, txb l1, .int .i64 (LB.at' l2 0), .int .i64 (LB.at' l2 1), .int .i64 (LB.at' l2 2), .int .i64 (LB.at' l2 3), .int .i64 (LB.at' l2 4), .int .i64 (LB.at' l2 5), .int .i64 (LB.at' l2 6), .int .i64 (LB.at' l2 7), .int .i64 (LB.at' l2 8), .int .i64 (LB.at' l2 9), .slice none 0 0, txb []])
        have BB := Lib.hid (bl_setRow (g := w.heap.size) Be.out (Nat.le_refl _) #[.int .i64 3, .int .i64 0, .int .i64 0, .int .i64 0, .int .i64 0, .int .i64 0, .int .i64 0, .int .i64 0, .int .i64 0, .int .i64 0, .int .i64 0, txb l1, .int .i64 (LB.at' l2 0), .int .i64 (LB.at' l2 1), .int .i64 (LB.at' l2 2), .int .i64 (LB.at' l2 3), .int .i64 (LB.at' l2 4), .int .i64 (LB.at' l2 5), .int .i64 (LB.at' l2 6), .int .i64 (LB.at' l2 7), .int .i64 (LB.at' l2 8), .int .i64 (LB.at' l2 9), .slice none 0 0, txb []])
        generalize we.setRow w.heap.size #[.int .i64 3, .int .i64 0, .int .i64 0, .int .i64 0, .int .i64 0, .int .i64 0, .int .i64 0, .int .i64 0, .int .i64 0, .int .i64 0, .int .i64 0, txb l1, .int .i64 (LB.at' l2 0), .int .i64 (LB.at' l2 1), .int .i64 (LB.at' l2 2), .int .i64 (LB.at' l2 3), .int .i64 (LB.at' l2 4), .int .i64 (LB.at' l2 5), .int .i64 (LB.at' l2 6), .int .i64 (LB.at' l2 7), .int .i64 (LB.at' l2 8), .int .i64 (LB.at' l2 9), .slice none 0 0, txb []] = wz at ZZ BB ⊢
        go_wp2
        exact bodyPost_ret_by (ret_rec rfl ZZ.out rfl) rfl ⟨⟨none, 0, 0, by rw [hd.out]; rfl, by rw [hd.out]; exact (.inl rfl), by rw [hd.out]; exact rfl, (Nat.le_refl _), (by simp [maxLen])⟩, BB.out⟩
  · go_enter Tryz.func6, Tryz.ntmps6
    go_upto_region 4 with fail
    obtain ⟨hR, hZ, hB, hS⟩ := dec_start w #[.int .i64 0, .int .i64 0, .int .i64 0, .int .i64 0, .int .i64 0, .int .i64 0, .int .i64 0, .int .i64 0, .int .i64 0, .int .i64 0, .int .i64 0, txb [], .int .i64 0, .int .i64 0, .int .i64 0, .int .i64 0, .int .i64 0, .int .i64 0, .int .i64 0, .int .i64 0, .int .i64 0, .int .i64 0, .slice none 0 0, txb []] (some ⟨q, off + 1, none⟩) (n - 1) (c - 1) t hT (by simp at hn; omega) (by omega) (by omega)
    have yW := (hB.cell (p := ⟨q, off, none⟩) hq).trans y0
    generalize (w.alloc (.cells #[.int .i64 0, .int .i64 0, .int .i64 0, .int .i64 0, .int .i64 0, .int .i64 0, .int .i64 0, .int .i64 0, .int .i64 0, .int .i64 0, .int .i64 0, txb [], .int .i64 0, .int .i64 0, .int .i64 0, .int .i64 0, .int .i64 0, .int .i64 0, .int .i64 0, .int .i64 0, .int .i64 0, .int .i64 0, .slice none 0 0, txb []] 33)).alloc (.cells #[.slice (some ⟨q, off + 1, none⟩) (n - 1) (c - 1), .bool false] 61) = wa at hR hZ hB hS yW ⊢
    have HS := Lib.hid hS
    clear hS
    iterate 19 go_step
    refine wpList_store_row rfl _ (.tmp 5) (.tmp 34) rfl _ _ rfl rfl _ _ (heap_alloc_last _ _) (by kernel_rfl) (by rfl) (by simp [Value.oneCell']) ?_
    rw [World.setRow_alloc_new]
    simp only [Act.put, List.setIfInBounds_toArray, List.set_cons_zero, List.set_cons_succ]
    have hS := HS.out
    clear HS
    have Rb := Lib.hid (hR.keeps (Keeps.of_below (g := wa.heap.size) (bl_alloc wa (.cells #[.int .i64 3, .int .i64 0, .int .i64 0, .int .i64 0, .int .i64 0, .int .i64 0, .int .i64 0, .int .i64 0, .int .i64 0, .int .i64 0, .int .i64 0, txb [], .int .i64 0, .int .i64 0, .int .i64 0, .int .i64 0, .int .i64 0, .int .i64 0, .int .i64 0, .int .i64 0, .int .i64 0, .int .i64 0, .slice none 0 0, txb []] 33))) (by omega) (by omega))
    have Zb := Lib.hid (hZ.alloc (.cells #[.int .i64 3, .int .i64 0, .int .i64 0, .int .i64 0, .int .i64 0, .int .i64 0, .int .i64 0, .int .i64 0, .int .i64 0, .int .i64 0, .int .i64 0, txb [], .int .i64 0, .int .i64 0, .int .i64 0, .int .i64 0, .int .i64 0, .int .i64 0, .int .i64 0, .int .i64 0, .int .i64 0, .int .i64 0, .slice none 0 0, txb []] 33))
    have Xb := Lib.hid (Blk.new wa 33 #[.int .i64 3, .int .i64 0, .int .i64 0, .int .i64 0, .int .i64 0, .int .i64 0, .int .i64 0, .int .i64 0, .int .i64 0, .int .i64 0, .int .i64 0, txb [], .int .i64 0, .int .i64 0, .int .i64 0, .int .i64 0, .int .i64 0, .int .i64 0, .int .i64 0, .int .i64 0, .int .i64 0, .int .i64 0, .slice none 0 0, txb []])
    have Bb := Lib.hid (hB.alloc (by omega) (.cells #[.int .i64 3, .int .i64 0, .int .i64 0, .int .i64 0, .int .i64 0, .int .i64 0, .int .i64 0, .int .i64 0, .int .i64 0, .int .i64 0, .int .i64 0, txb [], .int .i64 0, .int .i64 0, .int .i64 0, .int .i64 0, .int .i64 0, .int .i64 0, .int .i64 0, .int .i64 0, .int .i64 0, .int .i64 0, .slice none 0 0, txb []] 33))
    have Sb := Lib.hid (show wa.heap.size + 1 ≤ (wa.alloc (.cells #[.int .i64 3, .int .i64 0, .int .i64 0, .int .i64 0, .int .i64 0, .int .i64 0, .int .i64 0, .int .i64 0, .int .i64 0, .int .i64 0, .int .i64 0, txb [], .int .i64 0, .int .i64 0, .int .i64 0, .int .i64 0, .int .i64 0, .int .i64 0, .int .i64 0, .int .i64 0, .int .i64 0, .int .i64 0, .slice none 0 0, txb []] 33)).heap.size by simp)
    generalize hQ : wa.heap.size = Q at *
    generalize wa.alloc (.cells #[.int .i64 3, .int .i64 0, .int .i64 0, .int .i64 0, .int .i64 0, .int .i64 0, .int .i64 0, .int .i64 0, .int .i64 0, .int .i64 0, .int .i64 0, txb [], .int .i64 0, .int .i64 0, .int .i64 0, .int .i64 0, .int .i64 0, .int .i64 0, .int .i64 0, .int .i64 0, .int .i64 0, .int .i64 0, .slice none 0 0, txb []] 33) = wb at *
    clear hR hZ hB yW y0 y1
    have Q1 : Q ≠ w.heap.size + 1 := by omega
    have Q2 : w.heap.size ≠ Q := by omega
    have Q3 : w.heap.size ≤ Q := by omega
    clear hQ hS
    have xb : ∀ i, wb.cell? ⟨Q, i, none⟩ = (#[.int .i64 3, .int .i64 0, .int .i64 0, .int .i64 0, .int .i64 0, .int .i64 0, .int .i64 0, .int .i64 0, .int .i64 0, .int .i64 0, .int .i64 0, txb [], .int .i64 0, .int .i64 0, .int .i64 0, .int .i64 0, .int .i64 0, .int .i64 0, .int .i64 0, .int .i64 0, .int .i64 0, .int .i64 0, .slice none 0 0, txb []] : Array Value)[i]? := fun i => Xb.out.cell i
    have fb : ∀ i, wb.frozen? ⟨Q, i, none⟩ = false := fun i => Xb.out.frozen i
    obtain ⟨⟨l1, s1⟩, he1⟩ : ∃ p, LB.text (t, false) = p := ⟨_, rfl⟩
    have hl1 : l1.length ≤ 65535 := by have := text_lt (t, false); rw [he1] at this; exact this
    have Kc := Lib.hid (rstr_any w.heap.size (w.heap.size + 1) (t, false) wb Rb.out)
    rw [he1] at Kc
    go_wp2_with fail
    (with_reducible refine (Kc.out).mono ?_)
    rintro e wm ⟨rfl, hR, hK⟩
    have hX := Xb.out.keeps hK Q1
    have hb := hK.below (B := w.heap.size) (by omega) (by have := Sb.out; omega)
    have Xm := Lib.hid hX
    have Rm := Lib.hid hR
    have Zm := Lib.hid (Zb.out.keeps hK (by omega))
    have Bm := Lib.hid (Bb.out.trans hb)
    have Sm := Lib.hid (show Q + 1 ≤ wm.heap.size by have := Sb.out; have := hb.size; omega)
    have E1 := Lib.hid he1
    have T1 := Lib.hid hl1
    clear hX hR hK hb he1 hl1 Kc Rb Xb Zb Bb Sb xb fb
    have xm : ∀ i, wm.cell? ⟨Q, i, none⟩ = (#[.int .i64 3, .int .i64 0, .int .i64 0, .int .i64 0, .int .i64 0, .int .i64 0, .int .i64 0, .int .i64 0, .int .i64 0, .int .i64 0, .int .i64 0, txb [], .int .i64 0, .int .i64 0, .int .i64 0, .int .i64 0, .int .i64 0, .int .i64 0, .int .i64 0, .int .i64 0, .int .i64 0, .int .i64 0, .slice none 0 0, txb []] : Array Value)[i]? := fun i => Xm.out.cell i
    have fm : ∀ i, wm.frozen? ⟨Q, i, none⟩ = false := fun i => Xm.out.frozen i
    go_upto_region 8 with fail
    have Rc := Lib.hid (Rm.out.keeps (Keeps.set_ Q 11 wm (txb l1)) (Ne.symm Q1) Q3)
    have Xc := Lib.hid (show Blk (wm.setCell ⟨Q, 11, none⟩ (txb l1)) Q 33 #[.int .i64 3, .int .i64 0, .int .i64 0, .int .i64 0, .int .i64 0, .int .i64 0, .int .i64 0, .int .i64 0, .int .i64 0, .int .i64 0, .int .i64 0, txb l1, .int .i64 0, .int .i64 0, .int .i64 0, .int .i64 0, .int .i64 0, .int .i64 0, .int .i64 0, .int .i64 0, .int .i64 0, .int .i64 0, .slice none 0 0, txb []] from Xm.out.set_ 11 (txb l1))
    have Zc := Lib.hid (Zm.out.far (p := ⟨Q, 11, none⟩) Q2 (txb l1))
    have Bc := Lib.hid (Bm.out.setCell (p := ⟨Q, 11, none⟩) Q3 (txb l1))
    have Sc := Lib.hid (show Q + 1 ≤ (wm.setCell ⟨Q, 11, none⟩ (txb l1)).heap.size by have := Sm.out; simpa using this)
    clear xm fm Rm Xm Zm Bm Sm
    generalize wm.setCell ⟨Q, 11, none⟩ (txb l1) = wc at *
    have xc : ∀ i, wc.cell? ⟨Q, i, none⟩ = (#[.int .i64 3, .int .i64 0, .int .i64 0, .int .i64 0, .int .i64 0, .int .i64 0, .int .i64 0, .int .i64 0, .int .i64 0, .int .i64 0, .int .i64 0, txb l1, .int .i64 0, .int .i64 0, .int .i64 0, .int .i64 0, .int .i64 0, .int .i64 0, .int .i64 0, .int .i64 0, .int .i64 0, .int .i64 0, .slice none 0 0, txb []] : Array Value)[i]? := fun i => Xc.out.cell i
    have fc : ∀ i, wc.frozen? ⟨Q, i, none⟩ = false := fun i => Xc.out.frozen i
    obtain ⟨⟨l2, s2⟩, he2⟩ : ∃ p, LB.ints 10 s1 = p := ⟨_, rfl⟩
    have hl2 : l2.length = 10 := by have := LB.ints_length 10 s1; rw [he2] at this; exact this
    have Kd := Lib.hid (into_any w.heap.size (w.heap.size + 1) Q wc.heap.size 10 10 s1 33 65 (#[.int .i64 3, .int .i64 0, .int .i64 0, .int .i64 0, .int .i64 0, .int .i64 0, .int .i64 0, .int .i64 0, .int .i64 0, .int .i64 0, .int .i64 0, txb l1, .int .i64 0, .int .i64 0, .int .i64 0, .int .i64 0, .int .i64 0, .int .i64 0, .int .i64 0, .int .i64 0, .int .i64 0, .int .i64 0, .slice none 0 0, txb []]) [12, 13, 14, 15, 16, 17, 18, 19, 20, 21] (wc.alloc (.cells #[.pointer (some ⟨Q, 12, none⟩), .pointer (some ⟨Q, 13, none⟩), .pointer (some ⟨Q, 14, none⟩), .pointer (some ⟨Q, 15, none⟩), .pointer (some ⟨Q, 16, none⟩), .pointer (some ⟨Q, 17, none⟩), .pointer (some ⟨Q, 18, none⟩), .pointer (some ⟨Q, 19, none⟩), .pointer (some ⟨Q, 20, none⟩), .pointer (some ⟨Q, 21, none⟩)] 65)).drew ((Rc.out.keeps (Keeps.of_below (g := wc.heap.size) (bl_alloc wc _)) (by have := Sc.out; omega) (by have := Sc.out; omega)).keeps (Keeps.drew wc.heap.size _) (by have := Sc.out; omega) (by have := Sc.out; omega)) (Xc.out.alloc _).drew Q1 Q3 (show Blk (wc.alloc (.cells #[.pointer (some ⟨Q, 12, none⟩), .pointer (some ⟨Q, 13, none⟩), .pointer (some ⟨Q, 14, none⟩), .pointer (some ⟨Q, 15, none⟩), .pointer (some ⟨Q, 16, none⟩), .pointer (some ⟨Q, 17, none⟩), .pointer (some ⟨Q, 18, none⟩), .pointer (some ⟨Q, 19, none⟩), .pointer (some ⟨Q, 20, none⟩), .pointer (some ⟨Q, 21, none⟩)] 65)).drew wc.heap.size 65 (ptrs Q [12, 13, 14, 15, 16, 17, 18, 19, 20, 21]) from (Blk.new _ _ _).drew) (by have := Sc.out; omega) (by have := Sc.out; omega) (by simp) rfl (by omega))
    rw [he2] at Kd
    go_region_with (go_at_call 17; (with_reducible refine (Kd.out).mono ?_); rintro e wd ⟨rfl, hR, hX, hK⟩)
    rw [← LB.at10 hl2] at hX
    simp only [setAll, List.setIfInBounds_toArray, List.set_cons_zero, List.set_cons_succ] at hX
    have Rd := Lib.hid hR
    have Xd := Lib.hid hX
    clear hX
    have hX : True := trivial
    have Zd := Lib.hid ((Zc.out.alloc (.cells #[.pointer (some ⟨Q, 12, none⟩), .pointer (some ⟨Q, 13, none⟩), .pointer (some ⟨Q, 14, none⟩), .pointer (some ⟨Q, 15, none⟩), .pointer (some ⟨Q, 16, none⟩), .pointer (some ⟨Q, 17, none⟩), .pointer (some ⟨Q, 18, none⟩), .pointer (some ⟨Q, 19, none⟩), .pointer (some ⟨Q, 20, none⟩), .pointer (some ⟨Q, 21, none⟩)] 65)).drew.keeps2 hK (by omega) Q2)
    have hb := hK.below (B := w.heap.size) (by omega) Q3 (show w.heap.size ≤ (wc.alloc (.cells #[.pointer (some ⟨Q, 12, none⟩), .pointer (some ⟨Q, 13, none⟩), .pointer (some ⟨Q, 14, none⟩), .pointer (some ⟨Q, 15, none⟩), .pointer (some ⟨Q, 16, none⟩), .pointer (some ⟨Q, 17, none⟩), .pointer (some ⟨Q, 18, none⟩), .pointer (some ⟨Q, 19, none⟩), .pointer (some ⟨Q, 20, none⟩), .pointer (some ⟨Q, 21, none⟩)] 65)).heap.size by have := Sc.out; simp; omega)
    have Bd := Lib.hid ((bl_drew (Bc.out.alloc (by have := Sc.out; omega) (.cells #[.pointer (some ⟨Q, 12, none⟩), .pointer (some ⟨Q, 13, none⟩), .pointer (some ⟨Q, 14, none⟩), .pointer (some ⟨Q, 15, none⟩), .pointer (some ⟨Q, 16, none⟩), .pointer (some ⟨Q, 17, none⟩), .pointer (some ⟨Q, 18, none⟩), .pointer (some ⟨Q, 19, none⟩), .pointer (some ⟨Q, 20, none⟩), .pointer (some ⟨Q, 21, none⟩)] 65))).trans hb)
    have Sd := Lib.hid (show Q + 1 ≤ wd.heap.size by have := Sc.out; have := hb.size; simp at this; omega)
    have E2 := Lib.hid he2
    clear hR hX hK hb he2 hl2 Kd Rc Xc Zc Bc Sc xc fc
    have xd : ∀ i, wd.cell? ⟨Q, i, none⟩ = (#[.int .i64 3, .int .i64 0, .int .i64 0, .int .i64 0, .int .i64 0, .int .i64 0, .int .i64 0, .int .i64 0, .int .i64 0, .int .i64 0, .int .i64 0, txb l1, .int .i64 (LB.at' l2 0), .int .i64 (LB.at' l2 1), .int .i64 (LB.at' l2 2), .int .i64 (LB.at' l2 3), .int .i64 (LB.at' l2 4), .int .i64 (LB.at' l2 5), .int .i64 (LB.at' l2 6), .int .i64 (LB.at' l2 7), .int .i64 (LB.at' l2 8), .int .i64 (LB.at' l2 9), .slice none 0 0, txb []] : Array Value)[i]? := fun i => Xd.out.cell i
    have fd : ∀ i, wd.frozen? ⟨Q, i, none⟩ = false := fun i => Xd.out.frozen i
    have HB := Lib.hid (show LB.body 3 (t, false) = (⟨3, 0, 0, 0, 0, 0, 0, 0, 0, 0, 0, l1, (LB.at' l2 0), (LB.at' l2 1), (LB.at' l2 2), (LB.at' l2 3), (LB.at' l2 4), (LB.at' l2 5), (LB.at' l2 6), (LB.at' l2 7), (LB.at' l2 8), (LB.at' l2 9), [], []⟩, s2) by
      unfold LB.body
      simp only [Int.reduceEq, ite_true, ite_false]
      rw [E1.out, E2.out]
      rfl)
    clear E1 E2
    obtain ⟨lr, wr⟩ := s2
    obtain ⟨A1, n1, c1, hG, hA1, hn1', hc1', -, -⟩ := Rd.out
    simp only [] at hG hA1 hn1'
    have g0 : wd.cell? ⟨w.heap.size + 1, 0, none⟩ = some (.slice A1 n1 c1) := hG.cell 0
    have g1 : wd.cell? ⟨w.heap.size + 1, 1, none⟩ = some (.bool wr) := hG.cell 1
    clear hG hA1 Rd
    cases wr with
    | true =>
      go_upto_region 27 with fail
      iterate 4 go_step
      refine wpList_store_row rfl _ (.tmp 2) (.tmp 162) rfl _ _ rfl rfl _ _ Zd.out (by kernel_rfl) (by rfl) (by simp [Value.oneCell']) ?_
      simp only [Act.put, List.setIfInBounds_toArray, List.set_cons_zero, List.set_cons_succ]
      have ZZ := Lib.hid (Blk.row Zd.out #[.int .i64 0, .int .i64 0, .int .i64 0, .int .i64 0, .int .i64 0, .int .i64 0, .int .i64 0, .int .i64 0, .int .i64 0, .int .i64 0, .int .i64 0, txb [], .int .i64 0, .int .i64 0, .int .i64 0, .int .i64 0, .int .i64 0, .int .i64 0, .int .i64 0, .int .i64 0, .int .i64 0, .int .i64 0, .slice none 0 0, txb []])
      have BB := Lib.hid (bl_setRow (g := w.heap.size) Bd.out (Nat.le_refl _) #[.int .i64 0, .int .i64 0, .int .i64 0, .int .i64 0, .int .i64 0, .int .i64 0, .int .i64 0, .int .i64 0, .int .i64 0, .int .i64 0, .int .i64 0, txb [], .int .i64 0, .int .i64 0, .int .i64 0, .int .i64 0, .int .i64 0, .int .i64 0, .int .i64 0, .int .i64 0, .int .i64 0, .int .i64 0, .slice none 0 0, txb []])
      have hd := Lib.hid (dec_bad hkb (by decide) (by decide) HB.out (.inl rfl))
      generalize wd.setRow w.heap.size #[.int .i64 0, .int .i64 0, .int .i64 0, .int .i64 0, .int .i64 0, .int .i64 0, .int .i64 0, .int .i64 0, .int .i64 0, .int .i64 0, .int .i64 0, txb [], .int .i64 0, .int .i64 0, .int .i64 0, .int .i64 0, .int .i64 0, .int .i64 0, .int .i64 0, .int .i64 0, .int .i64 0, .int .i64 0, .slice none 0 0, txb []] = wz at ZZ BB ⊢
      go_wp2
      exact bodyPost_ret_by (ret_rec rfl ZZ.out rfl) rfl ⟨⟨none, 0, 0, by rw [hd.out]; rfl, by rw [hd.out]; exact .inl rfl, by rw [hd.out]; rfl, Nat.le_refl _, by simp [maxLen]⟩, BB.out⟩
    | false =>
      by_cases hl : lr = []
      case neg =>
        have dl : 0 < n1 := by have := List.length_pos_iff.2 hl; omega
        have HL := Lib.hid hl
        clear hl
        go_upto_region 27 with fail
        iterate 4 go_step
        refine wpList_store_row rfl _ (.tmp 2) (.tmp 162) rfl _ _ rfl rfl _ _ Zd.out (by kernel_rfl) (by rfl) (by simp [Value.oneCell']) ?_
        simp only [Act.put, List.setIfInBounds_toArray, List.set_cons_zero, List.set_cons_succ]
        have ZZ := Lib.hid (Blk.row Zd.out #[.int .i64 0, .int .i64 0, .int .i64 0, .int .i64 0, .int .i64 0, .int .i64 0, .int .i64 0, .int .i64 0, .int .i64 0, .int .i64 0, .int .i64 0, txb [], .int .i64 0, .int .i64 0, .int .i64 0, .int .i64 0, .int .i64 0, .int .i64 0, .int .i64 0, .int .i64 0, .int .i64 0, .int .i64 0, .slice none 0 0, txb []])
        have BB := Lib.hid (bl_setRow (g := w.heap.size) Bd.out (Nat.le_refl _) #[.int .i64 0, .int .i64 0, .int .i64 0, .int .i64 0, .int .i64 0, .int .i64 0, .int .i64 0, .int .i64 0, .int .i64 0, .int .i64 0, .int .i64 0, txb [], .int .i64 0, .int .i64 0, .int .i64 0, .int .i64 0, .int .i64 0, .int .i64 0, .int .i64 0, .int .i64 0, .int .i64 0, .int .i64 0, .slice none 0 0, txb []])
        have hd := Lib.hid (dec_bad hkb (by decide) (by decide) HB.out (.inr HL.out))
        generalize wd.setRow w.heap.size #[.int .i64 0, .int .i64 0, .int .i64 0, .int .i64 0, .int .i64 0, .int .i64 0, .int .i64 0, .int .i64 0, .int .i64 0, .int .i64 0, .int .i64 0, txb [], .int .i64 0, .int .i64 0, .int .i64 0, .int .i64 0, .int .i64 0, .int .i64 0, .int .i64 0, .int .i64 0, .int .i64 0, .int .i64 0, .slice none 0 0, txb []] = wz at ZZ BB ⊢
        go_wp2
        exact bodyPost_ret_by (ret_rec rfl ZZ.out rfl) rfl ⟨⟨none, 0, 0, by rw [hd.out]; rfl, by rw [hd.out]; exact .inl rfl, by rw [hd.out]; rfl, Nat.le_refl _, by simp [maxLen]⟩, BB.out⟩
      obtain rfl : n1 = 0 := by rw [← hn1', hl]; rfl
      subst hl
      clear hn1' hc1'
      have KV := Lib.hid (valid_any ⟨3, 0, 0, 0, 0, 0, 0, 0, 0, 0, 0, l1, (LB.at' l2 0), (LB.at' l2 1), (LB.at' l2 2), (LB.at' l2 3), (LB.at' l2 4), (LB.at' l2 5), (LB.at' l2 6), (LB.at' l2 7), (LB.at' l2 8), (LB.at' l2 9), [], []⟩ none 0 0 wd (.inl rfl) rfl (by omega) (Nat.le_refl _) (by simp [maxLen]) (by exact Nat.le_trans T1.out (by omega)) (by simp))
      go_upto_region 28 with fail
      iterate 2 go_step
      refine wp_load_rec (.tmp 5) rfl rfl Xd.out rfl ?_
      simp only [Act.put, List.setIfInBounds_toArray, List.set_cons_zero, List.set_cons_succ]
      go_wp2_with fail
      (with_reducible refine (KV.out).mono ?_)
      rintro e we ⟨rfl, hbv⟩
      have Xe := Lib.hid (Xd.out.below hbv Xd.out.lt)
      have Ze := Lib.hid (Zd.out.below hbv Zd.out.lt)
      have Be := Lib.hid (Bd.out.trans (hbv.mono (by have := Sd.out; omega)))
      clear hbv KV g0 g1 xd fd
      obtain ⟨v, hv⟩ : ∃ v, vaB ⟨3, 0, 0, 0, 0, 0, 0, 0, 0, 0, 0, l1, (LB.at' l2 0), (LB.at' l2 1), (LB.at' l2 2), (LB.at' l2 3), (LB.at' l2 4), (LB.at' l2 5), (LB.at' l2 6), (LB.at' l2 7), (LB.at' l2 8), (LB.at' l2 9), [], []⟩ = v := ⟨_, rfl⟩
      rw [hv]
      cases v with
      | false =>
        have HV := Lib.hid hv
        clear hv
        go_upto_region 29 with fail
        iterate 4 go_step
        refine wpList_store_row rfl _ (.tmp 2) (.tmp 167) rfl _ _ rfl rfl _ _ Ze.out (by kernel_rfl) (by rfl) (by simp [Value.oneCell']) ?_
        simp only [Act.put, List.setIfInBounds_toArray, List.set_cons_zero, List.set_cons_succ]
        have ZZ := Lib.hid (Blk.row Ze.out #[.int .i64 0, .int .i64 0, .int .i64 0, .int .i64 0, .int .i64 0, .int .i64 0, .int .i64 0, .int .i64 0, .int .i64 0, .int .i64 0, .int .i64 0, txb [], .int .i64 0, .int .i64 0, .int .i64 0, .int .i64 0, .int .i64 0, .int .i64 0, .int .i64 0, .int .i64 0, .int .i64 0, .int .i64 0, .slice none 0 0, txb []])
        have BB := Lib.hid (bl_setRow (g := w.heap.size) Be.out (Nat.le_refl _) #[.int .i64 0, .int .i64 0, .int .i64 0, .int .i64 0, .int .i64 0, .int .i64 0, .int .i64 0, .int .i64 0, .int .i64 0, .int .i64 0, .int .i64 0, txb [], .int .i64 0, .int .i64 0, .int .i64 0, .int .i64 0, .int .i64 0, .int .i64 0, .int .i64 0, .int .i64 0, .int .i64 0, .int .i64 0, .slice none 0 0, txb []])
        have hd := Lib.hid (dec_arg hkb (by decide) (by decide) HB.out HV.out)
        generalize we.setRow w.heap.size #[.int .i64 0, .int .i64 0, .int .i64 0, .int .i64 0, .int .i64 0, .int .i64 0, .int .i64 0, .int .i64 0, .int .i64 0, .int .i64 0, .int .i64 0, txb [], .int .i64 0, .int .i64 0, .int .i64 0, .int .i64 0, .int .i64 0, .int .i64 0, .int .i64 0, .int .i64 0, .int .i64 0, .int .i64 0, .slice none 0 0, txb []] = wz at ZZ BB ⊢
        go_wp2
        exact bodyPost_ret_by (ret_rec rfl ZZ.out rfl) rfl ⟨⟨none, 0, 0, by rw [hd.out]; rfl, by rw [hd.out]; exact .inl rfl, by rw [hd.out]; rfl, Nat.le_refl _, by simp [maxLen]⟩, BB.out⟩
      | true =>
        have hd := Lib.hid (dec_ok hkb (by decide) (by decide) HB.out hv)
        clear hv
        go_upto_region 30 with fail
        iterate 2 go_step
        refine wp_load_rec (.tmp 5) rfl rfl Xe.out rfl ?_
        simp only [Act.put, List.setIfInBounds_toArray, List.set_cons_zero, List.set_cons_succ]
        iterate 1 go_step
        refine wpList_store_row rfl _ (.tmp 2) (.tmp 168) rfl _ _ rfl rfl _ _ Ze.out (by kernel_rfl) (by rfl) (by simp [Value.oneCell']) ?_
        simp only [Act.put, List.setIfInBounds_toArray, List.set_cons_zero, List.set_cons_succ]
        have ZZ := Lib.hid (Blk.row Ze.out #[.int .i64 3, .int .i64 0, .int .i64 0, .int .i64 0, .int .i64 0, .int .i64 0, .int .i64 0, .int .i64 0, .int .i64 0, .int .i64 0, .int .i64 0, txb l1, .int .i64 (LB.at' l2 0), .int .i64 (LB.at' l2 1), .int .i64 (LB.at' l2 2), .int .i64 (LB.at' l2 3), .int .i64 (LB.at' l2 4), .int .i64 (LB.at' l2 5), .int .i64 (LB.at' l2 6), .int .i64 (LB.at' l2 7), .int .i64 (LB.at' l2 8), .int .i64 (LB.at' l2 9), .slice none 0 0, txb []])
        have BB := Lib.hid (bl_setRow (g := w.heap.size) Be.out (Nat.le_refl _) #[.int .i64 3, .int .i64 0, .int .i64 0, .int .i64 0, .int .i64 0, .int .i64 0, .int .i64 0, .int .i64 0, .int .i64 0, .int .i64 0, .int .i64 0, txb l1, .int .i64 (LB.at' l2 0), .int .i64 (LB.at' l2 1), .int .i64 (LB.at' l2 2), .int .i64 (LB.at' l2 3), .int .i64 (LB.at' l2 4), .int .i64 (LB.at' l2 5), .int .i64 (LB.at' l2 6), .int .i64 (LB.at' l2 7), .int .i64 (LB.at' l2 8), .int .i64 (LB.at' l2 9), .slice none 0 0, txb []])
        generalize we.setRow w.heap.size #[.int .i64 3, .int .i64 0, .int .i64 0, .int .i64 0, .int .i64 0, .int .i64 0, .int .i64 0, .int .i64 0, .int .i64 0, .int .i64 0, .int .i64 0, txb l1, .int .i64 (LB.at' l2 0), .int .i64 (LB.at' l2 1), .int .i64 (LB.at' l2 2), .int .i64 (LB.at' l2 3), .int .i64 (LB.at' l2 4), .int .i64 (LB.at' l2 5), .int .i64 (LB.at' l2 6), .int .i64 (LB.at' l2 7), .int .i64 (LB.at' l2 8), .int .i64 (LB.at' l2 9), .slice none 0 0, txb []] = wz at ZZ BB ⊢
        go_wp2
        exact bodyPost_ret_by (ret_rec rfl ZZ.out rfl) rfl ⟨⟨none, 0, 0, by rw [hd.out]; rfl, by rw [hd.out]; exact (.inl rfl), by rw [hd.out]; exact rfl, (Nat.le_refl _), (by simp [maxLen])⟩, BB.out⟩
end Go.Proofs.YthfndnmfnijpeaaGreat
