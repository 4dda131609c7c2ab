/- logbook.Decode of a fix. -/
import Derived.Test.YthfndnmfnijpeaaGreatHLz
import Derived.Test.YthfndnmfnijpeaaGreatHRin
set_option linter.unusedVariables false
set_option linter.unusedSimpArgs false
namespace Go.Proofs.YthfndnmfnijpeaaGreat
open Go.RowKit
open LB (Bs Rec St)
theorem Tryz.infoInt : (Tryz.prog.info? 3).map (fun i => (i.zero, i.size, i.bytes)) = some (some (.int .i64 0), 1, 8) := by kernel_rfl
theorem row_other (w : World) {g k : Nat} (cs : Array Value) (h : k ≠ g) : (w.setRow g cs).heap[k]? = w.heap[k]? := by simp [World.setRow, Array.getElem?_modify, Ne.symm h]
theorem reads_i1 (w : World) (x : Int) : Reads (w.alloc (.cells #[.int .i64 x] 3)) (w.alloc (.cells #[.int .i64 x] 3)).heap.size 1 (some ⟨w.heap.size, 0, none⟩) 1 [.int .i64 x] := by
  refine ⟨rfl, fun _ => ⟨_, rfl, by simp, fun j u hu => ?_⟩⟩
  match j, hu with
  | 0, hu => simp at hu; subst hu; simp [Addr.add]
  | j + 1, hu => simp at hu
theorem own_keeps {w w' : World} {base : Nat} {e : TypeId} {size n : Nat} {v : Value} {xs : List Value} (h : w.ownsRow base e size v n xs) (hb : ∀ k, base ≤ k → k < w.heap.size → w'.heap[k]? = w.heap[k]?) : w'.ownsRow base e size v n xs := by
  refine ⟨h.1, ?_⟩
  rcases h.2 with h1 | ⟨g, cap, cur, hv, hg, hh, hr⟩
  · exact .inl h1
  · have hlt : g < w.heap.size := by
      rcases Nat.lt_or_ge g w.heap.size with hlt | hge
      · exact hlt
      · rw [Array.getElem?_eq_none hge] at hh; cases hh
    exact .inr ⟨g, cap, cur, hv, hg, (hb g hg hlt).trans hh, hr⟩
set_option maxHeartbeats 8000000 in
set_option maxRecDepth 100000 in
theorem dec4_any (kb : UInt8) (hkb : kb.toNat = 4) (t : Bs) (A : Option Addr) (n c : Nat) (w : World) (hA : BytesAt w w.heap.size A (kb :: t)) (hn : (kb :: t).length = n) (hc : n ≤ c) (hcm : c ≤ maxLen) (hn1 : n ≤ 1000) :
    Calls Tryz.prog 6 #[.slice A n c] w fun e w' => (∃ A' n' c', e = .returned (.tuple #[recV (LB.dec vaB (kb :: t)).1 (.slice A' n' c'), .int .i64 (LB.dec vaB (kb :: t)).2]) ∧ IntsAt w' A' (LB.dec vaB (kb :: t)).1.list ∧ (LB.dec vaB (kb :: t)).1.list.length = n' ∧ n' ≤ c' ∧ c' ≤ maxLen) ∧ Below w.heap.size w w' := by
  obtain ⟨q, off, rfl, hq, y0, hT⟩ := hA.cons
  rw [hkb] at y0
  have y1 : ∀ o, (w.alloc o).cell? ⟨q, off, none⟩ = some (.int .u8 4) := fun o => (World.cell?_alloc_lt w o ⟨q, off, none⟩ hq).trans y0
  have dn : ((n : Int) == 0) = false := by simp at hn ⊢; omega
  have hn0 : ¬ n = 0 := by simp at hn; omega
  by_cases hc1 : c = 1
  · subst hc1
    obtain rfl : n = 1 := by omega
    have ht0 : t = [] := List.eq_nil_of_length_eq_zero (by simpa using hn)
    go_enter Tryz.func6, Tryz.ntmps6
    go_upto_region 4 with fail
    obtain ⟨hR, hZ, hB, hS⟩ := dec_start w #[.int .i64 0, .int .i64 0, .int .i64 0, .int .i64 0, .int .i64 0, .int .i64 0, .int .i64 0, .int .i64 0, .int .i64 0, .int .i64 0, .int .i64 0, txb [], .int .i64 0, .int .i64 0, .int .i64 0, .int .i64 0, .int .i64 0, .int .i64 0, .int .i64 0, .int .i64 0, .int .i64 0, .int .i64 0, .slice none 0 0, txb []] (some ⟨q, off, none⟩) 0 0 t (.inl ht0) (by rw [ht0]; rfl) (Nat.le_refl _) (by simp [maxLen])
    have yW := (hB.cell (p := ⟨q, off, none⟩) hq).trans y0
    generalize (w.alloc (.cells #[.int .i64 0, .int .i64 0, .int .i64 0, .int .i64 0, .int .i64 0, .int .i64 0, .int .i64 0, .int .i64 0, .int .i64 0, .int .i64 0, .int .i64 0, txb [], .int .i64 0, .int .i64 0, .int .i64 0, .int .i64 0, .int .i64 0, .int .i64 0, .int .i64 0, .int .i64 0, .int .i64 0, .int .i64 0, .slice none 0 0, txb []] 33)).alloc (.cells #[.slice (some ⟨q, off, none⟩) 0 0, .bool false] 61) = wa at hR hZ hB hS yW ⊢
    have HS := Lib.hid hS
    clear hS
    iterate 19 go_step
    refine wpList_store_row rfl _ (.tmp 5) (.tmp 34) rfl _ _ rfl rfl _ _ (heap_alloc_last _ _) (by kernel_rfl) (by rfl) (by simp [Value.oneCell']) ?_
    rw [World.setRow_alloc_new]
    simp only [Act.put, List.setIfInBounds_toArray, List.set_cons_zero, List.set_cons_succ]
    have hS := HS.out
    clear HS
    have Rb := Lib.hid (hR.keeps (Keeps.of_below (g := wa.heap.size) (bl_alloc wa (.cells #[.int .i64 4, .int .i64 0, .int .i64 0, .int .i64 0, .int .i64 0, .int .i64 0, .int .i64 0, .int .i64 0, .int .i64 0, .int .i64 0, .int .i64 0, txb [], .int .i64 0, .int .i64 0, .int .i64 0, .int .i64 0, .int .i64 0, .int .i64 0, .int .i64 0, .int .i64 0, .int .i64 0, .int .i64 0, .slice none 0 0, txb []] 33))) (by omega) (by omega))
    have Zb := Lib.hid (hZ.alloc (.cells #[.int .i64 4, .int .i64 0, .int .i64 0, .int .i64 0, .int .i64 0, .int .i64 0, .int .i64 0, .int .i64 0, .int .i64 0, .int .i64 0, .int .i64 0, txb [], .int .i64 0, .int .i64 0, .int .i64 0, .int .i64 0, .int .i64 0, .int .i64 0, .int .i64 0, .int .i64 0, .int .i64 0, .int .i64 0, .slice none 0 0, txb []] 33))
    have Xb := Lib.hid (Blk.new wa 33 #[.int .i64 4, .int .i64 0, .int .i64 0, .int .i64 0, .int .i64 0, .int .i64 0, .int .i64 0, .int .i64 0, .int .i64 0, .int .i64 0, .int .i64 0, txb [], .int .i64 0, .int .i64 0, .int .i64 0, .int .i64 0, .int .i64 0, .int .i64 0, .int .i64 0, .int .i64 0, .int .i64 0, .int .i64 0, .slice none 0 0, txb []])
    have Bb := Lib.hid (hB.alloc (by omega) (.cells #[.int .i64 4, .int .i64 0, .int .i64 0, .int .i64 0, .int .i64 0, .int .i64 0, .int .i64 0, .int .i64 0, .int .i64 0, .int .i64 0, .int .i64 0, txb [], .int .i64 0, .int .i64 0, .int .i64 0, .int .i64 0, .int .i64 0, .int .i64 0, .int .i64 0, .int .i64 0, .int .i64 0, .int .i64 0, .slice none 0 0, txb []] 33))
    have Sb := Lib.hid (show wa.heap.size + 1 ≤ (wa.alloc (.cells #[.int .i64 4, .int .i64 0, .int .i64 0, .int .i64 0, .int .i64 0, .int .i64 0, .int .i64 0, .int .i64 0, .int .i64 0, .int .i64 0, .int .i64 0, txb [], .int .i64 0, .int .i64 0, .int .i64 0, .int .i64 0, .int .i64 0, .int .i64 0, .int .i64 0, .int .i64 0, .int .i64 0, .int .i64 0, .slice none 0 0, txb []] 33)).heap.size by simp)
    generalize hQ : wa.heap.size = Q at *
    generalize wa.alloc (.cells #[.int .i64 4, .int .i64 0, .int .i64 0, .int .i64 0, .int .i64 0, .int .i64 0, .int .i64 0, .int .i64 0, .int .i64 0, .int .i64 0, .int .i64 0, txb [], .int .i64 0, .int .i64 0, .int .i64 0, .int .i64 0, .int .i64 0, .int .i64 0, .int .i64 0, .int .i64 0, .int .i64 0, .int .i64 0, .slice none 0 0, txb []] 33) = wb at *
    clear hR hZ hB yW y0 y1
    have Q1 : Q ≠ w.heap.size + 1 := by omega
    have Q2 : w.heap.size ≠ Q := by omega
    have Q3 : w.heap.size ≤ Q := by omega
    clear hQ hS
    have xb : ∀ i, wb.cell? ⟨Q, i, none⟩ = (#[.int .i64 4, .int .i64 0, .int .i64 0, .int .i64 0, .int .i64 0, .int .i64 0, .int .i64 0, .int .i64 0, .int .i64 0, .int .i64 0, .int .i64 0, txb [], .int .i64 0, .int .i64 0, .int .i64 0, .int .i64 0, .int .i64 0, .int .i64 0, .int .i64 0, .int .i64 0, .int .i64 0, .int .i64 0, .slice none 0 0, txb []] : Array Value)[i]? := fun i => Xb.out.cell i
    have fb : ∀ i, wb.frozen? ⟨Q, i, none⟩ = false := fun i => Xb.out.frozen i
    obtain ⟨⟨l1, s1⟩, he1⟩ : ∃ p, LB.ints 2 (t, false) = p := ⟨_, rfl⟩
    have hl1 : l1.length = 2 := by have := LB.ints_length 2 (t, false); rw [he1] at this; exact this
    have Kc := Lib.hid (into_any w.heap.size (w.heap.size + 1) Q wb.heap.size 2 2 (t, false) 33 65 (#[.int .i64 4, .int .i64 0, .int .i64 0, .int .i64 0, .int .i64 0, .int .i64 0, .int .i64 0, .int .i64 0, .int .i64 0, .int .i64 0, .int .i64 0, txb [], .int .i64 0, .int .i64 0, .int .i64 0, .int .i64 0, .int .i64 0, .int .i64 0, .int .i64 0, .int .i64 0, .int .i64 0, .int .i64 0, .slice none 0 0, txb []]) [1, 2] (wb.alloc (.cells #[.pointer (some ⟨Q, 1, none⟩), .pointer (some ⟨Q, 2, none⟩)] 65)) (Rb.out.keeps (Keeps.of_below (g := wb.heap.size) (bl_alloc wb _)) (by have := Sb.out; omega) (by have := Sb.out; omega)) (Xb.out.alloc _) Q1 Q3 (show Blk (wb.alloc (.cells #[.pointer (some ⟨Q, 1, none⟩), .pointer (some ⟨Q, 2, none⟩)] 65)) wb.heap.size 65 (ptrs Q [1, 2]) from Blk.new _ _ _) (by have := Sb.out; omega) (by have := Sb.out; omega) (by simp) rfl (by omega))
    rw [he1] at Kc
    go_wp2_with fail
    (with_reducible refine (Kc.out).mono ?_)
    rintro e wc ⟨rfl, hR, hX, hK⟩
    rw [← LB.at2 hl1] at hX
    have Rc := Lib.hid hR
    have Xc := Lib.hid (show Blk wc Q 33 #[.int .i64 4, .int .i64 (LB.at' l1 0), .int .i64 (LB.at' l1 1), .int .i64 0, .int .i64 0, .int .i64 0, .int .i64 0, .int .i64 0, .int .i64 0, .int .i64 0, .int .i64 0, txb [], .int .i64 0, .int .i64 0, .int .i64 0, .int .i64 0, .int .i64 0, .int .i64 0, .int .i64 0, .int .i64 0, .int .i64 0, .int .i64 0, .slice none 0 0, txb []] from hX)
    have Zc := Lib.hid ((Zb.out.alloc (.cells #[.pointer (some ⟨Q, 1, none⟩), .pointer (some ⟨Q, 2, none⟩)] 65)).keeps2 hK (by omega) Q2)
    have hb := hK.below (B := w.heap.size) (by omega) Q3 (by have := Sb.out; simp; omega)
    have Bc := Lib.hid ((Bb.out.alloc (by have := Sb.out; omega) (.cells #[.pointer (some ⟨Q, 1, none⟩), .pointer (some ⟨Q, 2, none⟩)] 65)).trans hb)
    have Sc := Lib.hid (show Q + 1 ≤ wc.heap.size by have := Sb.out; have := hb.size; simp at this; omega)
    have E1 := Lib.hid he1
    clear hR hX hK hb he1 hl1 Kc Rb Xb Zb Bb Sb xb fb
    have xc : ∀ i, wc.cell? ⟨Q, i, none⟩ = (#[.int .i64 4, .int .i64 (LB.at' l1 0), .int .i64 (LB.at' l1 1), .int .i64 0, .int .i64 0, .int .i64 0, .int .i64 0, .int .i64 0, .int .i64 0, .int .i64 0, .int .i64 0, txb [], .int .i64 0, .int .i64 0, .int .i64 0, .int .i64 0, .int .i64 0, .int .i64 0, .int .i64 0, .int .i64 0, .int .i64 0, .int .i64 0, .slice none 0 0, txb []] : Array Value)[i]? := fun i => Xc.out.cell i
    have fc : ∀ i, wc.frozen? ⟨Q, i, none⟩ = false := fun i => Xc.out.frozen i
    obtain ⟨⟨l2, s2⟩, he2⟩ : ∃ p, LB.ints 4 s1 = p := ⟨_, rfl⟩
    have hl2 : l2.length = 4 := by have := LB.ints_length 4 s1; rw [he2] at this; exact this
    have Kd := Lib.hid (into_any w.heap.size (w.heap.size + 1) Q wc.heap.size 4 4 s1 33 65 (#[.int .i64 4, .int .i64 (LB.at' l1 0), .int .i64 (LB.at' l1 1), .int .i64 0, .int .i64 0, .int .i64 0, .int .i64 0, .int .i64 0, .int .i64 0, .int .i64 0, .int .i64 0, txb [], .int .i64 0, .int .i64 0, .int .i64 0, .int .i64 0, .int .i64 0, .int .i64 0, .int .i64 0, .int .i64 0, .int .i64 0, .int .i64 0, .slice none 0 0, txb []]) [3, 4, 5, 6] (wc.alloc (.cells #[.pointer (some ⟨Q, 3, none⟩), .pointer (some ⟨Q, 4, none⟩), .pointer (some ⟨Q, 5, none⟩), .pointer (some ⟨Q, 6, none⟩)] 65)) (Rc.out.keeps (Keeps.of_below (g := wc.heap.size) (bl_alloc wc _)) (by have := Sc.out; omega) (by have := Sc.out; omega)) (Xc.out.alloc _) Q1 Q3 (show Blk (wc.alloc (.cells #[.pointer (some ⟨Q, 3, none⟩), .pointer (some ⟨Q, 4, none⟩), .pointer (some ⟨Q, 5, none⟩), .pointer (some ⟨Q, 6, none⟩)] 65)) wc.heap.size 65 (ptrs Q [3, 4, 5, 6]) from Blk.new _ _ _) (by have := Sc.out; omega) (by have := Sc.out; omega) (by simp) rfl (by omega))
    rw [he2] at Kd
    go_wp2_with fail
    (with_reducible refine (Kd.out).mono ?_)
    rintro e wd ⟨rfl, hR, hX, hK⟩
    rw [← LB.at4 hl2] at hX
    have Rd := Lib.hid hR
    have Xd := Lib.hid (show Blk wd Q 33 #[.int .i64 4, .int .i64 (LB.at' l1 0), .int .i64 (LB.at' l1 1), .int .i64 (LB.at' l2 0), .int .i64 (LB.at' l2 1), .int .i64 (LB.at' l2 2), .int .i64 (LB.at' l2 3), .int .i64 0, .int .i64 0, .int .i64 0, .int .i64 0, txb [], .int .i64 0, .int .i64 0, .int .i64 0, .int .i64 0, .int .i64 0, .int .i64 0, .int .i64 0, .int .i64 0, .int .i64 0, .int .i64 0, .slice none 0 0, txb []] from hX)
    have Zd := Lib.hid ((Zc.out.alloc (.cells #[.pointer (some ⟨Q, 3, none⟩), .pointer (some ⟨Q, 4, none⟩), .pointer (some ⟨Q, 5, none⟩), .pointer (some ⟨Q, 6, none⟩)] 65)).keeps2 hK (by omega) Q2)
    have hb := hK.below (B := w.heap.size) (by omega) Q3 (by have := Sc.out; simp; omega)
    have Bd := Lib.hid ((Bc.out.alloc (by have := Sc.out; omega) (.cells #[.pointer (some ⟨Q, 3, none⟩), .pointer (some ⟨Q, 4, none⟩), .pointer (some ⟨Q, 5, none⟩), .pointer (some ⟨Q, 6, none⟩)] 65)).trans hb)
    have Sd := Lib.hid (show Q + 1 ≤ wd.heap.size by have := Sc.out; have := hb.size; simp at this; omega)
    have E2 := Lib.hid he2
    clear hR hX hK hb he2 hl2 Kd Rc Xc Zc Bc Sc xc fc
    have xd : ∀ i, wd.cell? ⟨Q, i, none⟩ = (#[.int .i64 4, .int .i64 (LB.at' l1 0), .int .i64 (LB.at' l1 1), .int .i64 (LB.at' l2 0), .int .i64 (LB.at' l2 1), .int .i64 (LB.at' l2 2), .int .i64 (LB.at' l2 3), .int .i64 0, .int .i64 0, .int .i64 0, .int .i64 0, txb [], .int .i64 0, .int .i64 0, .int .i64 0, .int .i64 0, .int .i64 0, .int .i64 0, .int .i64 0, .int .i64 0, .int .i64 0, .int .i64 0, .slice none 0 0, txb []] : Array Value)[i]? := fun i => Xd.out.cell i
    have fd : ∀ i, wd.frozen? ⟨Q, i, none⟩ = false := fun i => Xd.out.frozen i
    obtain ⟨⟨m3, s3⟩, he3⟩ : ∃ p, LB.size s2 = p := ⟨_, rfl⟩
    have hm : m3 ≤ 65535 := by have := size_lt s2; rw [he3] at this; exact this
    have KS := Lib.hid (size_any w.heap.size (w.heap.size + 1) s2 wd Rd.out)
    rw [he3] at KS
    go_wp2_with fail
    (with_reducible refine (KS.out).mono ?_)
    rintro e wg ⟨rfl, hR, hK⟩
    have hb := hK.below (B := w.heap.size) (by omega) (by have := Sd.out; omega)
    have Xg := Lib.hid (Xd.out.keeps hK Q1)
    have Rg := Lib.hid hR
    have Zg := Lib.hid (Zd.out.keeps hK (by omega))
    have Bg := Lib.hid (Bd.out.trans hb)
    have Sg := Lib.hid (show Q + 1 ≤ wg.heap.size by have := Sd.out; have := hb.size; omega)
    have E3 := Lib.hid he3
    clear hR hK hb he3 KS Rd Xd Zd Bd Sd xd fd
    obtain ⟨i0, hi0, hz0, hz1, hzb⟩ := info_parts Tryz.infoInt
    go_wp2
    go_loopg [7, 133] m3 (fun gz _ s133 wr => ∃ k acc st v, k ≤ m3 ∧ m3 - k ≤ gz ∧ s133 = .int .i64 ((k : Nat) : Int) ∧ LB.loop m3 s3 = (acc ++ (LB.loop (m3 - k) st).1, (LB.loop (m3 - k) st).2) ∧ acc.length = k ∧ Rd wr w.heap.size (w.heap.size + 1) st ∧ Blk wr w.heap.size 33 #[.int .i64 0, .int .i64 0, .int .i64 0, .int .i64 0, .int .i64 0, .int .i64 0, .int .i64 0, .int .i64 0, .int .i64 0, .int .i64 0, .int .i64 0, txb [], .int .i64 0, .int .i64 0, .int .i64 0, .int .i64 0, .int .i64 0, .int .i64 0, .int .i64 0, .int .i64 0, .int .i64 0, .int .i64 0, .slice none 0 0, txb []] ∧ Blk wr Q 33 #[.int .i64 4, .int .i64 (LB.at' l1 0), .int .i64 (LB.at' l1 1), .int .i64 (LB.at' l2 0), .int .i64 (LB.at' l2 1), .int .i64 (LB.at' l2 2), .int .i64 (LB.at' l2 3), .int .i64 0, .int .i64 0, .int .i64 0, .int .i64 0, txb [], .int .i64 0, .int .i64 0, .int .i64 0, .int .i64 0, .int .i64 0, .int .i64 0, .int .i64 0, .int .i64 0, .int .i64 0, .int .i64 0, v, txb []] ∧ wr.ownsRow (Q + 1) 3 1 v k (acc.map (Value.int .i64)) ∧ Below w.heap.size w wr ∧ Q + 1 ≤ wr.heap.size)
    case atStart => exact ⟨0, [], s3, .slice none 0 0, Nat.zero_le _, by omega, rfl, by simp, rfl, Rg.out, Zg.out, Xg.out, own_nil _ _ _ _, Bg.out, Sg.out⟩
    case round =>
      obtain ⟨k, acc, st, v, hk, hg, rfl, hl, hal, hR, hZ, hX, hO, hB, hS⟩ := hrel
      have HLo := Lib.hid hl
      have HAl := Lib.hid hal
      clear hl hal
      by_cases hlt : k < m3
      · obtain ⟨⟨l1, u1⟩, hu1⟩ : ∃ p, LB.ints 1 st = p := ⟨_, rfl⟩
        obtain ⟨x, rfl⟩ : ∃ x, l1 = [x] := by
          have := LB.ints_length 1 st
          rw [hu1] at this
          exact List.length_eq_one_iff.1 this
        have hone : LB.one st = (x, u1) := by
          have h : LB.ints 1 st = ([(LB.one st).1], (LB.one st).2) := rfl
          rw [hu1] at h
          have h1 := congrArg Prod.fst h
          have h2 := congrArg Prod.snd h
          simp at h1 h2
          exact Prod.ext h1.symm h2.symm
        have hsz : ((wr.alloc (.cells #[.int .i64 0] 3)).alloc (.cells #[.pointer (some ⟨wr.heap.size, 0, none⟩)] 65)).heap.size = wr.heap.size + 2 := by simp
        have KI := Lib.hid (into_any w.heap.size (w.heap.size + 1) wr.heap.size (wr.heap.size + 1) 1 1 st 3 65 #[.int .i64 0] [0] ((wr.alloc (.cells #[.int .i64 0] 3)).alloc (.cells #[.pointer (some ⟨wr.heap.size, 0, none⟩)] 65)) ((hR.keeps (Keeps.of_below (g := wr.heap.size) (bl_alloc wr _)) (by omega) (by omega)).keeps (Keeps.of_below (g := wr.heap.size + 1) (bl_alloc _ _)) (by omega) (by omega)) ((Blk.new wr 3 #[.int .i64 0]).alloc _) (by omega) (by omega) (show Blk ((wr.alloc (.cells #[.int .i64 0] 3)).alloc (.cells #[.pointer (some ⟨wr.heap.size, 0, none⟩)] 65)) (wr.heap.size + 1) 65 (ptrs wr.heap.size [0]) from (show Blk ((wr.alloc (.cells #[.int .i64 0] 3)).alloc (.cells #[.pointer (some ⟨wr.heap.size, 0, none⟩)] 65)) (wr.heap.size + 1) 65 #[.pointer (some ⟨wr.heap.size, 0, none⟩)] from by simpa using Blk.new (wr.alloc (.cells #[.int .i64 0] 3)) 65 #[.pointer (some ⟨wr.heap.size, 0, none⟩)])) (by omega) (by omega) (by simp) rfl (by omega))
        rw [hu1] at KI
        have HX := Lib.hid ((hX.alloc (.cells #[.int .i64 0] 3)).alloc (.cells #[.pointer (some ⟨wr.heap.size, 0, none⟩)] 65))
        have HZ := Lib.hid ((hZ.alloc (.cells #[.int .i64 0] 3)).alloc (.cells #[.pointer (some ⟨wr.heap.size, 0, none⟩)] 65))
        have HB2 := Lib.hid ((hB.alloc (by omega) (.cells #[.int .i64 0] 3)).alloc (by simp; omega) (.cells #[.pointer (some ⟨wr.heap.size, 0, none⟩)] 65))
        have HO := Lib.hid hO
        have HS := Lib.hid hS
        have HON := Lib.hid hone
        have HSZ := Lib.hid hsz
        clear hX hZ hB hO hS hR hone hu1 hsz
        go_wp2_with fail
        (with_reducible refine (KI.out).mono ?_)
        rintro e wi ⟨rfl, hR, hN, hK⟩
        have hb := hK.below (B := w.heap.size) (by omega) (by have := HS.out; omega) (by have := HS.out; have := HSZ.out; omega)
        have hXi := HX.out.keeps2 hK Q1 (by have := HS.out; omega)
        have hZi := HZ.out.keeps2 hK (by omega) (by have := HS.out; omega)
        have hOi := own_keeps HO.out (w' := wi) (fun q h1 h2 => (hK.block q (by omega) (by omega) (by have := HSZ.out; omega)).trans ((((Below.refl _ wr).alloc (Nat.le_refl _) (.cells #[.int .i64 0] 3)).alloc (by simp) (.cells #[.pointer (some ⟨wr.heap.size, 0, none⟩)] 65)).block q h2))
        simp only [setAll, List.setIfInBounds_toArray, List.set_cons_zero] at hN
        obtain ⟨ur, uw⟩ := u1
        have hRr := hR
        obtain ⟨A1, n1, c1, hG, -, hn1', -, -, -⟩ := hRr
        simp only [] at hG hn1'
        have g0 : wi.cell? ⟨w.heap.size + 1, 0, none⟩ = some (.slice A1 n1 c1) := hG.cell 0
        have g1 : wi.cell? ⟨w.heap.size + 1, 1, none⟩ = some (.bool uw) := hG.cell 1
        clear hG hn1'
        have Bq := Lib.hid (HB2.out.trans hb)
        have Zq := Lib.hid hZi
        have Xq := Lib.hid hXi
        have Oq := Lib.hid hOi
        have Nq := Lib.hid hN
        have Rq := Lib.hid hR
        have Sq := Lib.hid (show Q + 1 ≤ wi.heap.size by have := HS.out; have := HSZ.out; have := hb.size; omega)
        clear hXi hZi hOi hN hR hK hb HX HZ HB2 HO HS HSZ KI
        obtain ⟨p, hp⟩ : ∃ p, m3 - k = p + 1 := ⟨m3 - k - 1, by omega⟩
        rw [hp] at HLo
        have HP := Lib.hid hp
        clear hp
        cases uw with
        | true =>
          have hlp := (show LB.loop (p + 1) st = ([], (ur, true)) by
            rw [LB.loop, HON.out, if_pos rfl])
          have e0 := HLo.out
          rw [hlp] at e0
          simp only [List.append_nil] at e0
          have HB := Lib.hid (show LB.body 4 (t, false) = (⟨4, (LB.at' l1 0), (LB.at' l1 1), (LB.at' l2 0), (LB.at' l2 1), (LB.at' l2 2), (LB.at' l2 3), 0, 0, 0, 0, [], 0, 0, 0, 0, 0, 0, 0, 0, 0, 0, acc, []⟩, (ur, true)) by
            unfold LB.body
            simp only [Int.reduceEq, ite_true, ite_false]
            rw [E1.out, E2.out, E3.out, e0]
            rfl)
          clear e0 hlp
          go_upto_region 27 with fail
          iterate 4 go_step
          refine wpList_store_row rfl _ (.tmp 2) (.tmp 162) rfl _ _ rfl rfl _ _ Zq.out (by kernel_rfl) (by rfl) (by simp [Value.oneCell']) ?_
          simp only [Act.put, List.setIfInBounds_toArray, List.set_cons_zero, List.set_cons_succ]
          have ZZ := Lib.hid (Blk.row Zq.out #[.int .i64 0, .int .i64 0, .int .i64 0, .int .i64 0, .int .i64 0, .int .i64 0, .int .i64 0, .int .i64 0, .int .i64 0, .int .i64 0, .int .i64 0, txb [], .int .i64 0, .int .i64 0, .int .i64 0, .int .i64 0, .int .i64 0, .int .i64 0, .int .i64 0, .int .i64 0, .int .i64 0, .int .i64 0, .slice none 0 0, txb []])
          have BB := Lib.hid (bl_setRow (g := w.heap.size) Bq.out (Nat.le_refl _) #[.int .i64 0, .int .i64 0, .int .i64 0, .int .i64 0, .int .i64 0, .int .i64 0, .int .i64 0, .int .i64 0, .int .i64 0, .int .i64 0, .int .i64 0, txb [], .int .i64 0, .int .i64 0, .int .i64 0, .int .i64 0, .int .i64 0, .int .i64 0, .int .i64 0, .int .i64 0, .int .i64 0, .int .i64 0, .slice none 0 0, txb []])
          have hd := Lib.hid (dec_bad hkb (by decide) (by decide) HB.out (.inl rfl))
          generalize wi.setRow w.heap.size #[.int .i64 0, .int .i64 0, .int .i64 0, .int .i64 0, .int .i64 0, .int .i64 0, .int .i64 0, .int .i64 0, .int .i64 0, .int .i64 0, .int .i64 0, txb [], .int .i64 0, .int .i64 0, .int .i64 0, .int .i64 0, .int .i64 0, .int .i64 0, .int .i64 0, .int .i64 0, .int .i64 0, .int .i64 0, .slice none 0 0, txb []] = wz at ZZ BB ⊢
          go_wp2
          exact bodyPost_ret_by (ret_rec rfl ZZ.out rfl) rfl ⟨⟨none, 0, 0, by rw [hd.out]; rfl, by rw [hd.out]; exact .inl rfl, by rw [hd.out]; rfl, Nat.le_refl _, by simp [maxLen]⟩, BB.out⟩
        | false =>
          have hlp := Lib.hid (show LB.loop (p + 1) st = (x :: (LB.loop p (ur, false)).1, (LB.loop p (ur, false)).2) by
            rw [LB.loop, HON.out, if_neg (by simp)])
          have OI := Lib.hid (own_bl Oq.out (bl_alloc wi (.cells #[.int .i64 x] 3)) (Nat.le_refl _))
          have XI := Lib.hid (Xq.out.alloc (.cells #[.int .i64 x] 3))
          have RI := Lib.hid (reads_i1 wi x)
          have xq : ∀ i, wi.cell? ⟨Q, i, none⟩ = (#[.int .i64 4, .int .i64 (LB.at' l1 0), .int .i64 (LB.at' l1 1), .int .i64 (LB.at' l2 0), .int .i64 (LB.at' l2 1), .int .i64 (LB.at' l2 2), .int .i64 (LB.at' l2 3), .int .i64 0, .int .i64 0, .int .i64 0, .int .i64 0, txb [], .int .i64 0, .int .i64 0, .int .i64 0, .int .i64 0, .int .i64 0, .int .i64 0, .int .i64 0, .int .i64 0, .int .i64 0, .int .i64 0, v, txb []] : Array Value)[i]? := fun i => Xq.out.cell i
          have nq : wi.cell? ⟨wr.heap.size, 0, none⟩ = some (.int .i64 x) := Nq.out.cell 0
          go_wp2_with (at_builtin; (refine wpList_append_any _ rfl (.tmp 143) (.tmp 145) _ rfl (Q + 1) 3 i0 _ 1 8 Tryz.underlying31 hi0 hz0 hz1 hzb rfl (by decide) v k (acc.map (Value.int .i64)) rfl OI.out _ (some ⟨wi.heap.size, 0, none⟩) 1 1 [.int .i64 x] rfl RI.out (by simp [Value.oneCell']) (by simp only [maxLen]; omega) (by omega) (by have := Sq.out; simp; omega) ?_); intro u9 w9 hown9 hg9 hob9; obtain ⟨A5, c5, rfl, -, -, -⟩ := own_form hown9; have X9 := Lib.hid (XI.out.grown hg9 (fun h => absurd (own_base OI.out Q h.symm) (by omega))); have y9 : w9.cell? ⟨Q, 22, none⟩ = some v := X9.out.cell 22; have z9 := X9.out.frozen 22; have W9 := Lib.hid hg9; have O9 := Lib.hid hown9; clear hown9 hg9 hob9)
          go_roundg (m3 - (k + 1))
          case measure => omega
          case rel =>
            have hb9 : Below (Q + 1) wi w9 := ((Below.refl _ wi).alloc (by have := Sq.out; omega) (.cells #[.int .i64 x] 3)).grown W9.out (by have := Sq.out; simp; omega) (fun q hq => own_base OI.out q hq)
            refine ⟨k + 1, acc ++ [x], (ur, false), (.slice A5 (k + 1) c5), by omega, by omega, by go_num, ?_, by simp [HAl.out], ?_, ?_, ?_, ?_, ?_, ?_⟩
            · have e0 := HLo.out
              rw [hlp.out] at e0
              rw [e0, show m3 - (k + 1) = p by have := HP.out; omega]
              simp
            · obtain ⟨A', n', c', q1, q2, q3, q4, q5, q6⟩ := Rq.out
              exact ⟨A', n', c', (q1.below hb9 (by omega)).far (p := ⟨Q, 22, none⟩) (Ne.symm Q1) _, q2.bl ((hb9.mono (by omega)).setCell (p := ⟨Q, 22, none⟩) Q3 _), q3, q4, q5, q6⟩
            · exact (Zq.out.below hb9 (by omega)).far (p := ⟨Q, 22, none⟩) Q2 _
            · exact (show Blk _ Q 33 #[.int .i64 4, .int .i64 (LB.at' l1 0), .int .i64 (LB.at' l1 1), .int .i64 (LB.at' l2 0), .int .i64 (LB.at' l2 1), .int .i64 (LB.at' l2 2), .int .i64 (LB.at' l2 3), .int .i64 0, .int .i64 0, .int .i64 0, .int .i64 0, txb [], .int .i64 0, .int .i64 0, .int .i64 0, .int .i64 0, .int .i64 0, .int .i64 0, .int .i64 0, .int .i64 0, .int .i64 0, .int .i64 0, (.slice A5 (k + 1) c5), txb []] from X9.out.set_ 22 (.slice A5 (k + 1) c5))
            · have := ownsRow_far O9.out X9.out (i := 22) (u := (.slice A5 (k + 1) c5)) (by decide)
              simpa using this
            · exact (Bq.out.trans (hb9.mono (by omega))).setCell (p := ⟨Q, 22, none⟩) Q3 _
            · have := hb9.size
              have := Sq.out
              simp; omega
      · obtain rfl : k = m3 := by omega
        obtain ⟨A5, c5, rfl, hrd, hc5, hcm5⟩ := own_form hO
        have Rr := Lib.hid hR
        have Xr := Lib.hid hX
        have Zr := Lib.hid hZ
        have Br := Lib.hid hB
        have Sr := Lib.hid hS
        have HI5 := Lib.hid (show IntsAt wr A5 acc from IntsAt.of_reads (by have := hrd; exact this))
        have HC5 := Lib.hid (And.intro hc5 hcm5)
        have O5 := Lib.hid hO
        clear hR hX hZ hB hS hO hrd hc5 hcm5
        have xr : ∀ i, wr.cell? ⟨Q, i, none⟩ = (#[.int .i64 4, .int .i64 (LB.at' l1 0), .int .i64 (LB.at' l1 1), .int .i64 (LB.at' l2 0), .int .i64 (LB.at' l2 1), .int .i64 (LB.at' l2 2), .int .i64 (LB.at' l2 3), .int .i64 0, .int .i64 0, .int .i64 0, .int .i64 0, txb [], .int .i64 0, .int .i64 0, .int .i64 0, .int .i64 0, .int .i64 0, .int .i64 0, .int .i64 0, .int .i64 0, .int .i64 0, .int .i64 0, .slice A5 k c5, txb []] : Array Value)[i]? := fun i => Xr.out.cell i
        have fr : ∀ i, wr.frozen? ⟨Q, i, none⟩ = false := fun i => Xr.out.frozen i
        have e0 := HLo.out
        rw [Nat.sub_self] at e0
        simp only [LB.loop, List.append_nil] at e0
        have E0 := Lib.hid e0
        clear e0
        go_upto_region 26 with fail
        have HB := Lib.hid (show LB.body 4 (t, false) = (⟨4, (LB.at' l1 0), (LB.at' l1 1), (LB.at' l2 0), (LB.at' l2 1), (LB.at' l2 2), (LB.at' l2 3), 0, 0, 0, 0, [], 0, 0, 0, 0, 0, 0, 0, 0, 0, 0, acc, []⟩, st) by
          unfold LB.body
          simp only [Int.reduceEq, ite_true, ite_false]
          rw [E1.out, E2.out, E3.out, E0.out]
          rfl)
        clear E1 E2 E3 E0
        obtain ⟨lr, bw⟩ := st
        obtain ⟨A1, n1, c1, hG, hA1, hn1', hc1', -, -⟩ := Rr.out
        simp only [] at hG hA1 hn1'
        have g0 : wr.cell? ⟨w.heap.size + 1, 0, none⟩ = some (.slice A1 n1 c1) := hG.cell 0
        have g1 : wr.cell? ⟨w.heap.size + 1, 1, none⟩ = some (.bool bw) := hG.cell 1
        clear hG hA1 Rr
        cases bw with
        | true =>
          go_upto_region 27 with fail
          iterate 4 go_step
          refine wpList_store_row rfl _ (.tmp 2) (.tmp 162) rfl _ _ rfl rfl _ _ Zr.out (by kernel_rfl) (by rfl) (by simp [Value.oneCell']) ?_
          simp only [Act.put, List.setIfInBounds_toArray, List.set_cons_zero, List.set_cons_succ]
          have ZZ := Lib.hid (Blk.row Zr.out #[.int .i64 0, .int .i64 0, .int .i64 0, .int .i64 0, .int .i64 0, .int .i64 0, .int .i64 0, .int .i64 0, .int .i64 0, .int .i64 0, .int .i64 0, txb [], .int .i64 0, .int .i64 0, .int .i64 0, .int .i64 0, .int .i64 0, .int .i64 0, .int .i64 0, .int .i64 0, .int .i64 0, .int .i64 0, .slice none 0 0, txb []])
          have BB := Lib.hid (bl_setRow (g := w.heap.size) Br.out (Nat.le_refl _) #[.int .i64 0, .int .i64 0, .int .i64 0, .int .i64 0, .int .i64 0, .int .i64 0, .int .i64 0, .int .i64 0, .int .i64 0, .int .i64 0, .int .i64 0, txb [], .int .i64 0, .int .i64 0, .int .i64 0, .int .i64 0, .int .i64 0, .int .i64 0, .int .i64 0, .int .i64 0, .int .i64 0, .int .i64 0, .slice none 0 0, txb []])
          have hd := Lib.hid (dec_bad hkb (by decide) (by decide) HB.out (.inl rfl))
          generalize wr.setRow w.heap.size #[.int .i64 0, .int .i64 0, .int .i64 0, .int .i64 0, .int .i64 0, .int .i64 0, .int .i64 0, .int .i64 0, .int .i64 0, .int .i64 0, .int .i64 0, txb [], .int .i64 0, .int .i64 0, .int .i64 0, .int .i64 0, .int .i64 0, .int .i64 0, .int .i64 0, .int .i64 0, .int .i64 0, .int .i64 0, .slice none 0 0, txb []] = wz at ZZ BB ⊢
          go_wp2
          exact bodyPost_ret_by (ret_rec rfl ZZ.out rfl) rfl ⟨⟨none, 0, 0, by rw [hd.out]; rfl, by rw [hd.out]; exact .inl rfl, by rw [hd.out]; rfl, Nat.le_refl _, by simp [maxLen]⟩, BB.out⟩
        | false =>
          by_cases hl : lr = []
          case neg =>
            have dl : 0 < n1 := by have := List.length_pos_iff.2 hl; omega
            have HL := Lib.hid hl
            clear hl
            go_upto_region 27 with fail
            iterate 4 go_step
            refine wpList_store_row rfl _ (.tmp 2) (.tmp 162) rfl _ _ rfl rfl _ _ Zr.out (by kernel_rfl) (by rfl) (by simp [Value.oneCell']) ?_
            simp only [Act.put, List.setIfInBounds_toArray, List.set_cons_zero, List.set_cons_succ]
            have ZZ := Lib.hid (Blk.row Zr.out #[.int .i64 0, .int .i64 0, .int .i64 0, .int .i64 0, .int .i64 0, .int .i64 0, .int .i64 0, .int .i64 0, .int .i64 0, .int .i64 0, .int .i64 0, txb [], .int .i64 0, .int .i64 0, .int .i64 0, .int .i64 0, .int .i64 0, .int .i64 0, .int .i64 0, .int .i64 0, .int .i64 0, .int .i64 0, .slice none 0 0, txb []])
            have BB := Lib.hid (bl_setRow (g := w.heap.size) Br.out (Nat.le_refl _) #[.int .i64 0, .int .i64 0, .int .i64 0, .int .i64 0, .int .i64 0, .int .i64 0, .int .i64 0, .int .i64 0, .int .i64 0, .int .i64 0, .int .i64 0, txb [], .int .i64 0, .int .i64 0, .int .i64 0, .int .i64 0, .int .i64 0, .int .i64 0, .int .i64 0, .int .i64 0, .int .i64 0, .int .i64 0, .slice none 0 0, txb []])
            have hd := Lib.hid (dec_bad hkb (by decide) (by decide) HB.out (.inr HL.out))
            generalize wr.setRow w.heap.size #[.int .i64 0, .int .i64 0, .int .i64 0, .int .i64 0, .int .i64 0, .int .i64 0, .int .i64 0, .int .i64 0, .int .i64 0, .int .i64 0, .int .i64 0, txb [], .int .i64 0, .int .i64 0, .int .i64 0, .int .i64 0, .int .i64 0, .int .i64 0, .int .i64 0, .int .i64 0, .int .i64 0, .int .i64 0, .slice none 0 0, txb []] = wz at ZZ BB ⊢
            go_wp2
            exact bodyPost_ret_by (ret_rec rfl ZZ.out rfl) rfl ⟨⟨none, 0, 0, by rw [hd.out]; rfl, by rw [hd.out]; exact .inl rfl, by rw [hd.out]; rfl, Nat.le_refl _, by simp [maxLen]⟩, BB.out⟩
          obtain rfl : n1 = 0 := by rw [← hn1', hl]; rfl
          subst hl
          clear hn1' hc1'
          have KV := Lib.hid (valid_any ⟨4, (LB.at' l1 0), (LB.at' l1 1), (LB.at' l2 0), (LB.at' l2 1), (LB.at' l2 2), (LB.at' l2 3), 0, 0, 0, 0, [], 0, 0, 0, 0, 0, 0, 0, 0, 0, 0, acc, []⟩ A5 k c5 wr HI5.out HAl.out (by omega) HC5.out.1 HC5.out.2 (by simp) (by simp))
          go_upto_region 28 with fail
          iterate 2 go_step
          refine wp_load_rec (.tmp 5) rfl rfl Xr.out rfl ?_
          simp only [Act.put, List.setIfInBounds_toArray, List.set_cons_zero, List.set_cons_succ]
          go_wp2_with fail
          (with_reducible refine (KV.out).mono ?_)
          rintro e we ⟨rfl, hbv⟩
          have Oe := Lib.hid (own_bl O5.out hbv (Nat.le_refl _))
          have Xe := Lib.hid (Xr.out.below hbv Xr.out.lt)
          have Ze := Lib.hid (Zr.out.below hbv Zr.out.lt)
          have Be := Lib.hid (Br.out.trans (hbv.mono (by have := Sr.out; omega)))
          clear hbv KV g0 g1 xr fr
          obtain ⟨v, hv⟩ : ∃ v, vaB ⟨4, (LB.at' l1 0), (LB.at' l1 1), (LB.at' l2 0), (LB.at' l2 1), (LB.at' l2 2), (LB.at' l2 3), 0, 0, 0, 0, [], 0, 0, 0, 0, 0, 0, 0, 0, 0, 0, acc, []⟩ = v := ⟨_, rfl⟩
          rw [hv]
          cases v with
          | false =>
            have HV := Lib.hid hv
            clear hv
            go_upto_region 29 with fail
            iterate 4 go_step
            refine wpList_store_row rfl _ (.tmp 2) (.tmp 167) rfl _ _ rfl rfl _ _ Ze.out (by kernel_rfl) (by rfl) (by simp [Value.oneCell']) ?_
            simp only [Act.put, List.setIfInBounds_toArray, List.set_cons_zero, List.set_cons_succ]
            have ZZ := Lib.hid (Blk.row Ze.out #[.int .i64 0, .int .i64 0, .int .i64 0, .int .i64 0, .int .i64 0, .int .i64 0, .int .i64 0, .int .i64 0, .int .i64 0, .int .i64 0, .int .i64 0, txb [], .int .i64 0, .int .i64 0, .int .i64 0, .int .i64 0, .int .i64 0, .int .i64 0, .int .i64 0, .int .i64 0, .int .i64 0, .int .i64 0, .slice none 0 0, txb []])
            have BB := Lib.hid (bl_setRow (g := w.heap.size) Be.out (Nat.le_refl _) #[.int .i64 0, .int .i64 0, .int .i64 0, .int .i64 0, .int .i64 0, .int .i64 0, .int .i64 0, .int .i64 0, .int .i64 0, .int .i64 0, .int .i64 0, txb [], .int .i64 0, .int .i64 0, .int .i64 0, .int .i64 0, .int .i64 0, .int .i64 0, .int .i64 0, .int .i64 0, .int .i64 0, .int .i64 0, .slice none 0 0, txb []])
            have hd := Lib.hid (dec_arg hkb (by decide) (by decide) HB.out HV.out)
            generalize we.setRow w.heap.size #[.int .i64 0, .int .i64 0, .int .i64 0, .int .i64 0, .int .i64 0, .int .i64 0, .int .i64 0, .int .i64 0, .int .i64 0, .int .i64 0, .int .i64 0, txb [], .int .i64 0, .int .i64 0, .int .i64 0, .int .i64 0, .int .i64 0, .int .i64 0, .int .i64 0, .int .i64 0, .int .i64 0, .int .i64 0, .slice none 0 0, txb []] = wz at ZZ BB ⊢
            go_wp2
            exact bodyPost_ret_by (ret_rec rfl ZZ.out rfl) rfl ⟨⟨none, 0, 0, by rw [hd.out]; rfl, by rw [hd.out]; exact .inl rfl, by rw [hd.out]; rfl, Nat.le_refl _, by simp [maxLen]⟩, BB.out⟩
          | true =>
            have hd := Lib.hid (dec_ok hkb (by decide) (by decide) HB.out hv)
            clear hv
            go_upto_region 30 with fail
            iterate 2 go_step
            refine wp_load_rec (.tmp 5) rfl rfl Xe.out rfl ?_
            simp only [Act.put, List.setIfInBounds_toArray, List.set_cons_zero, List.set_cons_succ]
            iterate 1 go_step
            refine wpList_store_row rfl _ (.tmp 2) (.tmp 168) rfl _ _ rfl rfl _ _ Ze.out (by kernel_rfl) (by rfl) (by simp [Value.oneCell']) ?_
            simp only [Act.put, List.setIfInBounds_toArray, List.set_cons_zero, List.set_cons_succ]
            have ZZ := Lib.hid (Blk.row Ze.out #[.int .i64 4, .int .i64 (LB.at' l1 0), .int .i64 (LB.at' l1 1), .int .i64 (LB.at' l2 0), .int .i64 (LB.at' l2 1), .int .i64 (LB.at' l2 2), .int .i64 (LB.at' l2 3), .int .i64 0, .int .i64 0, .int .i64 0, .int .i64 0, txb [], .int .i64 0, .int .i64 0, .int .i64 0, .int .i64 0, .int .i64 0, .int .i64 0, .int .i64 0, .int .i64 0, .int .i64 0, .int .i64 0, .slice A5 k c5, txb []])
            have BB := Lib.hid (bl_setRow (g := w.heap.size) Be.out (Nat.le_refl _) #[.int .i64 4, .int .i64 (LB.at' l1 0), .int .i64 (LB.at' l1 1), .int .i64 (LB.at' l2 0), .int .i64 (LB.at' l2 1), .int .i64 (LB.at' l2 2), .int .i64 (LB.at' l2 3), .int .i64 0, .int .i64 0, .int .i64 0, .int .i64 0, txb [], .int .i64 0, .int .i64 0, .int .i64 0, .int .i64 0, .int .i64 0, .int .i64 0, .int .i64 0, .int .i64 0, .int .i64 0, .int .i64 0, .slice A5 k c5, txb []])
            have HIz := Lib.hid (IntsAt.of_reads (Reads.of_own (own_keeps Oe.out (w' := we.setRow w.heap.size #[.int .i64 4, .int .i64 (LB.at' l1 0), .int .i64 (LB.at' l1 1), .int .i64 (LB.at' l2 0), .int .i64 (LB.at' l2 1), .int .i64 (LB.at' l2 2), .int .i64 (LB.at' l2 3), .int .i64 0, .int .i64 0, .int .i64 0, .int .i64 0, txb [], .int .i64 0, .int .i64 0, .int .i64 0, .int .i64 0, .int .i64 0, .int .i64 0, .int .i64 0, .int .i64 0, .int .i64 0, .int .i64 0, .slice A5 k c5, txb []]) (fun q h1 _ => row_other we #[.int .i64 4, .int .i64 (LB.at' l1 0), .int .i64 (LB.at' l1 1), .int .i64 (LB.at' l2 0), .int .i64 (LB.at' l2 1), .int .i64 (LB.at' l2 2), .int .i64 (LB.at' l2 3), .int .i64 0, .int .i64 0, .int .i64 0, .int .i64 0, txb [], .int .i64 0, .int .i64 0, .int .i64 0, .int .i64 0, .int .i64 0, .int .i64 0, .int .i64 0, .int .i64 0, .int .i64 0, .int .i64 0, .slice A5 k c5, txb []] (by omega)))))
            generalize we.setRow w.heap.size #[.int .i64 4, .int .i64 (LB.at' l1 0), .int .i64 (LB.at' l1 1), .int .i64 (LB.at' l2 0), .int .i64 (LB.at' l2 1), .int .i64 (LB.at' l2 2), .int .i64 (LB.at' l2 3), .int .i64 0, .int .i64 0, .int .i64 0, .int .i64 0, txb [], .int .i64 0, .int .i64 0, .int .i64 0, .int .i64 0, .int .i64 0, .int .i64 0, .int .i64 0, .int .i64 0, .int .i64 0, .int .i64 0, .slice A5 k c5, txb []] = wz at ZZ BB HIz ⊢
            go_wp2
            exact bodyPost_ret_by (ret_rec rfl ZZ.out rfl) rfl ⟨⟨A5, k, c5, by rw [hd.out]; rfl, by rw [hd.out]; exact HIz.out, by rw [hd.out]; exact HAl.out, HC5.out.1, HC5.out.2⟩, BB.out⟩
  · go_enter Tryz.func6, Tryz.ntmps6
    go_upto_region 4 with fail
    obtain ⟨hR, hZ, hB, hS⟩ := dec_start w #[.int .i64 0, .int .i64 0, .int .i64 0, .int .i64 0, .int .i64 0, .int .i64 0, .int .i64 0, .int .i64 0, .int .i64 0, .int .i64 0, .int .i64 0, txb [], .int .i64 0, .int .i64 0, .int .i64 0, .int .i64 0, .int .i64 0, .int .i64 0, .int .i64 0, .int .i64 0, .int .i64 0, .int .i64 0, .slice none 0 0, txb []] (some ⟨q, off + 1, none⟩) (n - 1) (c - 1) t hT (by simp at hn; omega) (by omega) (by omega)
    have yW := (hB.cell (p := ⟨q, off, none⟩) hq).trans y0
    generalize (w.alloc (.cells #[.int .i64 0, .int .i64 0, .int .i64 0, .int .i64 0, .int .i64 0, .int .i64 0, .int .i64 0, .int .i64 0, .int .i64 0, .int .i64 0, .int .i64 0, txb [], .int .i64 0, .int .i64 0, .int .i64 0, .int .i64 0, .int .i64 0, .int .i64 0, .int .i64 0, .int .i64 0, .int .i64 0, .int .i64 0, .slice none 0 0, txb []] 33)).alloc (.cells #[.slice (some ⟨q, off + 1, none⟩) (n - 1) (c - 1), .bool false] 61) = wa at hR hZ hB hS yW ⊢
    have HS := Lib.hid hS
    clear hS
    iterate 19 go_step
    refine wpList_store_row rfl _ (.tmp 5) (.tmp 34) rfl _ _ rfl rfl _ _ (heap_alloc_last _ _) (by kernel_rfl) (by rfl) (by simp [Value.oneCell']) ?_
    rw [World.setRow_alloc_new]
    simp only [Act.put, List.setIfInBounds_toArray, List.set_cons_zero, List.set_cons_succ]
    have hS := HS.out
    clear HS
    have Rb := Lib.hid (hR.keeps (Keeps.of_below (g := wa.heap.size) (bl_alloc wa (.cells #[.int .i64 4, .int .i64 0, .int .i64 0, .int .i64 0, .int .i64 0, .int .i64 0, .int .i64 0, .int .i64 0, .int .i64 0, .int .i64 0, .int .i64 0, txb [], .int .i64 0, .int .i64 0, .int .i64 0, .int .i64 0, .int .i64 0, .int .i64 0, .int .i64 0, .int .i64 0, .int .i64 0, .int .i64 0, .slice none 0 0, txb []] 33))) (by omega) (by omega))
    have Zb := Lib.hid (hZ.alloc (.cells #[.int .i64 4, .int .i64 0, .int .i64 0, .int .i64 0, .int .i64 0, .int .i64 0, .int .i64 0, .int .i64 0, .int .i64 0, .int .i64 0, .int .i64 0, txb [], .int .i64 0, .int .i64 0, .int .i64 0, .int .i64 0, .int .i64 0, .int .i64 0, .int .i64 0, .int .i64 0, .int .i64 0, .int .i64 0, .slice none 0 0, txb []] 33))
    have Xb := Lib.hid (Blk.new wa 33 #[.int .i64 4, .int .i64 0, .int .i64 0, .int .i64 0, .int .i64 0, .int .i64 0, .int .i64 0, .int .i64 0, .int .i64 0, .int .i64 0, .int .i64 0, txb [], .int .i64 0, .int .i64 0, .int .i64 0, .int .i64 0, .int .i64 0, .int .i64 0, .int .i64 0, .int .i64 0, .int .i64 0, .int .i64 0, .slice none 0 0, txb []])
    have Bb := Lib.hid (hB.alloc (by omega) (.cells #[.int .i64 4, .int .i64 0, .int .i64 0, .int .i64 0, .int .i64 0, .int .i64 0, .int .i64 0, .int .i64 0, .int .i64 0, .int .i64 0, .int .i64 0, txb [], .int .i64 0, .int .i64 0, .int .i64 0, .int .i64 0, .int .i64 0, .int .i64 0, .int .i64 0, .int .i64 0, .int .i64 0, .int .i64 0, .slice none 0 0, txb []] 33))
    have Sb := Lib.hid (show wa.heap.size + 1 ≤ (wa.alloc (.cells #[.int .i64 4, .int .i64 0, .int .i64 0, .int .i64 0, .int .i64 0, .int .i64 0, .int .i64 0, .int .i64 0, .int .i64 0, .int .i64 0, .int .i64 0, txb [], .int .i64 0, .int .i64 0, .int .i64 0, .int .i64 0, .int .i64 0, .int .i64 0, .int .i64 0, .int .i64 0, .int .i64 0, .int .i64 0, .slice none 0 0, txb []] 33)).heap.size by simp)
    generalize hQ : wa.heap.size = Q at *
    generalize wa.alloc (.cells #[.int .i64 4, .int .i64 0, .int .i64 0, .int .i64 0, .int .i64 0, .int .i64 0, .int .i64 0, .int .i64 0, .int .i64 0, .int .i64 0, .int .i64 0, txb [], .int .i64 0, .int .i64 0, .int .i64 0, .int .i64 0, .int .i64 0, .int .i64 0, .int .i64 0, .int .i64 0, .int .i64 0, .int .i64 0, .slice none 0 0, txb []] 33) = wb at *
    clear hR hZ hB yW y0 y1
    have Q1 : Q ≠ w.heap.size + 1 := by omega
    have Q2 : w.heap.size ≠ Q := by omega
    have Q3 : w.heap.size ≤ Q := by omega
    clear hQ hS
    have xb : ∀ i, wb.cell? ⟨Q, i, none⟩ = (#[.int .i64 4, .int .i64 0, .int .i64 0, .int .i64 0, .int .i64 0, .int .i64 0, .int .i64 0, .int .i64 0, .int .i64 0, .int .i64 0, .int .i64 0, txb [], .int .i64 0, .int .i64 0, .int .i64 0, .int .i64 0, .int .i64 0, .int .i64 0, .int .i64 0, .int .i64 0, .int .i64 0, .int .i64 0, .slice none 0 0, txb []] : Array Value)[i]? := fun i => Xb.out.cell i
    have fb : ∀ i, wb.frozen? ⟨Q, i, none⟩ = false := fun i => Xb.out.frozen i
    obtain ⟨⟨l1, s1⟩, he1⟩ : ∃ p, LB.ints 2 (t, false) = p := ⟨_, rfl⟩
    have hl1 : l1.length = 2 := by have := LB.ints_length 2 (t, false); rw [he1] at this; exact this
    have Kc := Lib.hid (into_any w.heap.size (w.heap.size + 1) Q wb.heap.size 2 2 (t, false) 33 65 (#[.int .i64 4, .int .i64 0, .int .i64 0, .int .i64 0, .int .i64 0, .int .i64 0, .int .i64 0, .int .i64 0, .int .i64 0, .int .i64 0, .int .i64 0, txb [], .int .i64 0, .int .i64 0, .int .i64 0, .int .i64 0, .int .i64 0, .int .i64 0, .int .i64 0, .int .i64 0, .int .i64 0, .int .i64 0, .slice none 0 0, txb []]) [1, 2] (wb.alloc (.cells #[.pointer (some ⟨Q, 1, none⟩), .pointer (some ⟨Q, 2, none⟩)] 65)) (Rb.out.keeps (Keeps.of_below (g := wb.heap.size) (bl_alloc wb _)) (by have := Sb.out; omega) (by have := Sb.out; omega)) (Xb.out.alloc _) Q1 Q3 (show Blk (wb.alloc (.cells #[.pointer (some ⟨Q, 1, none⟩), .pointer (some ⟨Q, 2, none⟩)] 65)) wb.heap.size 65 (ptrs Q [1, 2]) from Blk.new _ _ _) (by have := Sb.out; omega) (by have := Sb.out; omega) (by simp) rfl (by omega))
    rw [he1] at Kc
    go_wp2_with fail
    (with_reducible refine (Kc.out).mono ?_)
    rintro e wc ⟨rfl, hR, hX, hK⟩
    rw [← LB.at2 hl1] at hX
    have Rc := Lib.hid hR
    have Xc := Lib.hid (show Blk wc Q 33 #[.int .i64 4, .int .i64 (LB.at' l1 0), .int .i64 (LB.at' l1 1), .int .i64 0, .int .i64 0, .int .i64 0, .int .i64 0, .int .i64 0, .int .i64 0, .int .i64 0, .int .i64 0, txb [], .int .i64 0, .int .i64 0, .int .i64 0, .int .i64 0, .int .i64 0, .int .i64 0, .int .i64 0, .int .i64 0, .int .i64 0, .int .i64 0, .slice none 0 0, txb []] from hX)
    have Zc := Lib.hid ((Zb.out.alloc (.cells #[.pointer (some ⟨Q, 1, none⟩), .pointer (some ⟨Q, 2, none⟩)] 65)).keeps2 hK (by omega) Q2)
    have hb := hK.below (B := w.heap.size) (by omega) Q3 (by have := Sb.out; simp; omega)
    have Bc := Lib.hid ((Bb.out.alloc (by have := Sb.out; omega) (.cells #[.pointer (some ⟨Q, 1, none⟩), .pointer (some ⟨Q, 2, none⟩)] 65)).trans hb)
    have Sc := Lib.hid (show Q + 1 ≤ wc.heap.size by have := Sb.out; have := hb.size; simp at this; omega)
    have E1 := Lib.hid he1
    clear hR hX hK hb he1 hl1 Kc Rb Xb Zb Bb Sb xb fb
    have xc : ∀ i, wc.cell? ⟨Q, i, none⟩ = (#[.int .i64 4, .int .i64 (LB.at' l1 0), .int .i64 (LB.at' l1 1), .int .i64 0, .int .i64 0, .int .i64 0, .int .i64 0, .int .i64 0, .int .i64 0, .int .i64 0, .int .i64 0, txb [], .int .i64 0, .int .i64 0, .int .i64 0, .int .i64 0, .int .i64 0, .int .i64 0, .int .i64 0, .int .i64 0, .int .i64 0, .int .i64 0, .slice none 0 0, txb []] : Array Value)[i]? := fun i => Xc.out.cell i
    have fc : ∀ i, wc.frozen? ⟨Q, i, none⟩ = false := fun i => Xc.out.frozen i
    obtain ⟨⟨l2, s2⟩, he2⟩ : ∃ p, LB.ints 4 s1 = p := ⟨_, rfl⟩
    have hl2 : l2.length = 4 := by have := LB.ints_length 4 s1; rw [he2] at this; exact this
    have Kd := Lib.hid (into_any w.heap.size (w.heap.size + 1) Q wc.heap.size 4 4 s1 33 65 (#[.int .i64 4, .int .i64 (LB.at' l1 0), .int .i64 (LB.at' l1 1), .int .i64 0, .int .i64 0, .int .i64 0, .int .i64 0, .int .i64 0, .int .i64 0, .int .i64 0, .int .i64 0, txb [], .int .i64 0, .int .i64 0, .int .i64 0, .int .i64 0, .int .i64 0, .int .i64 0, .int .i64 0, .int .i64 0, .int .i64 0, .int .i64 0, .slice none 0 0, txb []]) [3, 4, 5, 6] (wc.alloc (.cells #[.pointer (some ⟨Q, 3, none⟩), .pointer (some ⟨Q, 4, none⟩), .pointer (some ⟨Q, 5, none⟩), .pointer (some ⟨Q, 6, none⟩)] 65)) (Rc.out.keeps (Keeps.of_below (g := wc.heap.size) (bl_alloc wc _)) (by have := Sc.out; omega) (by have := Sc.out; omega)) (Xc.out.alloc _) Q1 Q3 (show Blk (wc.alloc (.cells #[.pointer (some ⟨Q, 3, none⟩), .pointer (some ⟨Q, 4, none⟩), .pointer (some ⟨Q, 5, none⟩), .pointer (some ⟨Q, 6, none⟩)] 65)) wc.heap.size 65 (ptrs Q [3, 4, 5, 6]) from Blk.new _ _ _) (by have := Sc.out; omega) (by have := Sc.out; omega) (by simp) rfl (by omega))
    rw [he2] at Kd
    go_wp2_with fail
    (with_reducible refine (Kd.out).mono ?_)
    rintro e wd ⟨rfl, hR, hX, hK⟩
    rw [← LB.at4 hl2] at hX
    have Rd := Lib.hid hR
    have Xd := Lib.hid (show Blk wd Q 33 #[.int .i64 4, .int .i64 (LB.at' l1 0), .int .i64 (LB.at' l1 1), .int .i64 (LB.at' l2 0), .int .i64 (LB.at' l2 1), .int .i64 (LB.at' l2 2), .int .i64 (LB.at' l2 3), .int .i64 0, .int .i64 0, .int .i64 0, .int .i64 0, txb [], .int .i64 0, .int .i64 0, .int .i64 0, .int .i64 0, .int .i64 0, .int .i64 0, .int .i64 0, .int .i64 0, .int .i64 0, .int .i64 0, .slice none 0 0, txb []] from hX)
    have Zd := Lib.hid ((Zc.out.alloc (.cells #[.pointer (some ⟨Q, 3, none⟩), .pointer (some ⟨Q, 4, none⟩), .pointer (some ⟨Q, 5, none⟩), .pointer (some ⟨Q, 6, none⟩)] 65)).keeps2 hK (by omega) Q2)
    have hb := hK.below (B := w.heap.size) (by omega) Q3 (by have := Sc.out; simp; omega)
    have Bd := Lib.hid ((Bc.out.alloc (by have := Sc.out; omega) (.cells #[.pointer (some ⟨Q, 3, none⟩), .pointer (some ⟨Q, 4, none⟩), .pointer (some ⟨Q, 5, none⟩), .pointer (some ⟨Q, 6, none⟩)] 65)).trans hb)
    have Sd := Lib.hid (show Q + 1 ≤ wd.heap.size by have := Sc.out; have := hb.size; simp at this; omega)
    have E2 := Lib.hid he2
    clear hR hX hK hb he2 hl2 Kd Rc Xc Zc Bc Sc xc fc
    have xd : ∀ i, wd.cell? ⟨Q, i, none⟩ = (#[.int .i64 4, .int .i64 (LB.at' l1 0), .int .i64 (LB.at' l1 1), .int .i64 (LB.at' l2 0), .int .i64 (LB.at' l2 1), .int .i64 (LB.at' l2 2), .int .i64 (LB.at' l2 3), .int .i64 0, .int .i64 0, .int .i64 0, .int .i64 0, txb [], .int .i64 0, .int .i64 0, .int .i64 0, .int .i64 0, .int .i64 0, .int .i64 0, .int .i64 0, .int .i64 0, .int .i64 0, .int .i64 0, .slice none 0 0, txb []] : Array Value)[i]? := fun i => Xd.out.cell i
    have fd : ∀ i, wd.frozen? ⟨Q, i, none⟩ = false := fun i => Xd.out.frozen i
    obtain ⟨⟨m3, s3⟩, he3⟩ : ∃ p, LB.size s2 = p := ⟨_, rfl⟩
    have hm : m3 ≤ 65535 := by have := size_lt s2; rw [he3] at this; exact this
    have KS := Lib.hid (size_any w.heap.size (w.heap.size + 1) s2 wd Rd.out)
    rw [he3] at KS
    go_wp2_with fail
    (with_reducible refine (KS.out).mono ?_)
    rintro e wg ⟨rfl, hR, hK⟩
    have hb := hK.below (B := w.heap.size) (by omega) (by have := Sd.out; omega)
    have Xg := Lib.hid (Xd.out.keeps hK Q1)
    have Rg := Lib.hid hR
    have Zg := Lib.hid (Zd.out.keeps hK (by omega))
    have Bg := Lib.hid (Bd.out.trans hb)
    have Sg := Lib.hid (show Q + 1 ≤ wg.heap.size by have := Sd.out; have := hb.size; omega)
    have E3 := Lib.hid he3
    clear hR hK hb he3 KS Rd Xd Zd Bd Sd xd fd
    obtain ⟨i0, hi0, hz0, hz1, hzb⟩ := info_parts Tryz.infoInt
    go_wp2
    go_loopg [7, 133] m3 (fun gz _ s133 wr => ∃ k acc st v, k ≤ m3 ∧ m3 - k ≤ gz ∧ s133 = .int .i64 ((k : Nat) : Int) ∧ LB.loop m3 s3 = (acc ++ (LB.loop (m3 - k) st).1, (LB.loop (m3 - k) st).2) ∧ acc.length = k ∧ Rd wr w.heap.size (w.heap.size + 1) st ∧ Blk wr w.heap.size 33 #[.int .i64 0, .int .i64 0, .int .i64 0, .int .i64 0, .int .i64 0, .int .i64 0, .int .i64 0, .int .i64 0, .int .i64 0, .int .i64 0, .int .i64 0, txb [], .int .i64 0, .int .i64 0, .int .i64 0, .int .i64 0, .int .i64 0, .int .i64 0, .int .i64 0, .int .i64 0, .int .i64 0, .int .i64 0, .slice none 0 0, txb []] ∧ Blk wr Q 33 #[.int .i64 4, .int .i64 (LB.at' l1 0), .int .i64 (LB.at' l1 1), .int .i64 (LB.at' l2 0), .int .i64 (LB.at' l2 1), .int .i64 (LB.at' l2 2), .int .i64 (LB.at' l2 3), .int .i64 0, .int .i64 0, .int .i64 0, .int .i64 0, txb [], .int .i64 0, .int .i64 0, .int .i64 0, .int .i64 0, .int .i64 0, .int .i64 0, .int .i64 0, .int .i64 0, .int .i64 0, .int .i64 0, v, txb []] ∧ wr.ownsRow (Q + 1) 3 1 v k (acc.map (Value.int .i64)) ∧ Below w.heap.size w wr ∧ Q + 1 ≤ wr.heap.size)
    case atStart => exact ⟨0, [], s3, .slice none 0 0, Nat.zero_le _, by omega, rfl, by simp, rfl, Rg.out, Zg.out, Xg.out, own_nil _ _ _ _, Bg.out, Sg.out⟩
    case round =>
      obtain ⟨k, acc, st, v, hk, hg, rfl, hl, hal, hR, hZ, hX, hO, hB, hS⟩ := hrel
      have HLo := Lib.hid hl
      have HAl := Lib.hid hal
      clear hl hal
      by_cases hlt : k < m3
      · obtain ⟨⟨l1, u1⟩, hu1⟩ : ∃ p, LB.ints 1 st = p := ⟨_, rfl⟩
        obtain ⟨x, rfl⟩ : ∃ x, l1 = [x] := by
          have := LB.ints_length 1 st
          rw [hu1] at this
          exact List.length_eq_one_iff.1 this
        have hone : LB.one st = (x, u1) := by
          have h : LB.ints 1 st = ([(LB.one st).1], (LB.one st).2) := rfl
          rw [hu1] at h
          have h1 := congrArg Prod.fst h
          have h2 := congrArg Prod.snd h
          simp at h1 h2
          exact Prod.ext h1.symm h2.symm
        have hsz : ((wr.alloc (.cells #[.int .i64 0] 3)).alloc (.cells #[.pointer (some ⟨wr.heap.size, 0, none⟩)] 65)).heap.size = wr.heap.size + 2 := by simp
        have KI := Lib.hid (into_any w.heap.size (w.heap.size + 1) wr.heap.size (wr.heap.size + 1) 1 1 st 3 65 #[.int .i64 0] [0] ((wr.alloc (.cells #[.int .i64 0] 3)).alloc (.cells #[.pointer (some ⟨wr.heap.size, 0, none⟩)] 65)) ((hR.keeps (Keeps.of_below (g := wr.heap.size) (bl_alloc wr _)) (by omega) (by omega)).keeps (Keeps.of_below (g := wr.heap.size + 1) (bl_alloc _ _)) (by omega) (by omega)) ((Blk.new wr 3 #[.int .i64 0]).alloc _) (by omega) (by omega) (show Blk ((wr.alloc (.cells #[.int .i64 0] 3)).alloc (.cells #[.pointer (some ⟨wr.heap.size, 0, none⟩)] 65)) (wr.heap.size + 1) 65 (ptrs wr.heap.size [0]) from (show Blk ((wr.alloc (.cells #[.int .i64 0] 3)).alloc (.cells #[.pointer (some ⟨wr.heap.size, 0, none⟩)] 65)) (wr.heap.size + 1) 65 #[.pointer (some ⟨wr.heap.size, 0, none⟩)] from by simpa using Blk.new (wr.alloc (.cells #[.int .i64 0] 3)) 65 #[.pointer (some ⟨wr.heap.size, 0, none⟩)])) (by omega) (by omega) (by simp) rfl (by omega))
        rw [hu1] at KI
        have HX := Lib.hid ((hX.alloc (.cells #[.int .i64 0] 3)).alloc (.cells #[.pointer (some ⟨wr.heap.size, 0, none⟩)] 65))
        have HZ := Lib.hid ((hZ.alloc (.cells #[.int .i64 0] 3)).alloc (.cells #[.pointer (some ⟨wr.heap.size, 0, none⟩)] 65))
        have HB2 := Lib.hid ((hB.alloc (by omega) (.cells #[.int .i64 0] 3)).alloc (by simp; omega) (.cells #[.pointer (some ⟨wr.heap.size, 0, none⟩)] 65))
        have HO := Lib.hid hO
        have HS := Lib.hid hS
        have HON := Lib.hid hone
        have HSZ := Lib.hid hsz
        clear hX hZ hB hO hS hR hone hu1 hsz
        go_wp2_with fail
        (with_reducible refine (KI.out).mono ?_)
        rintro e wi ⟨rfl, hR, hN, hK⟩
        have hb := hK.below (B := w.heap.size) (by omega) (by have := HS.out; omega) (by have := HS.out; have := HSZ.out; omega)
        have hXi := HX.out.keeps2 hK Q1 (by have := HS.out; omega)
        have hZi := HZ.out.keeps2 hK (by omega) (by have := HS.out; omega)
        have hOi := own_keeps HO.out (w' := wi) (fun q h1 h2 => (hK.block q (by omega) (by omega) (by have := HSZ.out; omega)).trans ((((Below.refl _ wr).alloc (Nat.le_refl _) (.cells #[.int .i64 0] 3)).alloc (by simp) (.cells #[.pointer (some ⟨wr.heap.size, 0, none⟩)] 65)).block q h2))
        simp only [setAll, List.setIfInBounds_toArray, List.set_cons_zero] at hN
        obtain ⟨ur, uw⟩ := u1
        have hRr := hR
        obtain ⟨A1, n1, c1, hG, -, hn1', -, -, -⟩ := hRr
        simp only [] at hG hn1'
        have g0 : wi.cell? ⟨w.heap.size + 1, 0, none⟩ = some (.slice A1 n1 c1) := hG.cell 0
        have g1 : wi.cell? ⟨w.heap.size + 1, 1, none⟩ = some (.bool uw) := hG.cell 1
        clear hG hn1'
        have Bq := Lib.hid (HB2.out.trans hb)
        have Zq := Lib.hid hZi
        have Xq := Lib.hid hXi
        have Oq := Lib.hid hOi
        have Nq := Lib.hid hN
        have Rq := Lib.hid hR
        have Sq := Lib.hid (show Q + 1 ≤ wi.heap.size by have := HS.out; have := HSZ.out; have := hb.size; omega)
        clear hXi hZi hOi hN hR hK hb HX HZ HB2 HO HS HSZ KI
        obtain ⟨p, hp⟩ : ∃ p, m3 - k = p + 1 := ⟨m3 - k - 1, by omega⟩
        rw [hp] at HLo
        have HP := Lib.hid hp
        clear hp
        cases uw with
        | true =>
          have hlp := (show LB.loop (p + 1) st = ([], (ur, true)) by
            rw [LB.loop, HON.out, if_pos rfl])
          have e0 := HLo.out
          rw [hlp] at e0
          simp only [List.append_nil] at e0
          have HB := Lib.hid (show LB.body 4 (t, false) = (⟨4, (LB.at' l1 0), (LB.at' l1 1), (LB.at' l2 0), (LB.at' l2 1), (LB.at' l2 2), (LB.at' l2 3), 0, 0, 0, 0, [], 0, 0, 0, 0, 0, 0, 0, 0, 0, 0, acc, []⟩, (ur, true)) by
            unfold LB.body
            simp only [Int.reduceEq, ite_true, ite_false]
            rw [E1.out, E2.out, E3.out, e0]
            rfl)
          clear e0 hlp
          go_upto_region 27 with fail
          iterate 4 go_step
          refine wpList_store_row rfl _ (.tmp 2) (.tmp 162) rfl _ _ rfl rfl _ _ Zq.out (by kernel_rfl) (by rfl) (by simp [Value.oneCell']) ?_
          simp only [Act.put, List.setIfInBounds_toArray, List.set_cons_zero, List.set_cons_succ]
          have ZZ := Lib.hid (Blk.row Zq.out #[.int .i64 0, .int .i64 0, .int .i64 0, .int .i64 0, .int .i64 0, .int .i64 0, .int .i64 0, .int .i64 0, .int .i64 0, .int .i64 0, .int .i64 0, txb [], .int .i64 0, .int .i64 0, .int .i64 0, .int .i64 0, .int .i64 0, .int .i64 0, .int .i64 0, .int .i64 0, .int .i64 0, .int .i64 0, .slice none 0 0, txb []])
          have BB := Lib.hid (bl_setRow (g := w.heap.size) Bq.out (Nat.le_refl _) #[.int .i64 0, .int .i64 0, .int .i64 0, .int .i64 0, .int .i64 0, .int .i64 0, .int .i64 0, .int .i64 0, .int .i64 0, .int .i64 0, .int .i64 0, txb [], .int .i64 0, .int .i64 0, .int .i64 0, .int .i64 0, .int .i64 0, .int .i64 0, .int .i64 0, .int .i64 0, .int .i64 0, .int .i64 0, .slice none 0 0, txb []])
          have hd := Lib.hid (dec_bad hkb (by decide) (by decide) HB.out (.inl rfl))
          generalize wi.setRow w.heap.size #[.int .i64 0, .int .i64 0, .int .i64 0, .int .i64 0, .int .i64 0, .int .i64 0, .int .i64 0, .int .i64 0, .int .i64 0, .int .i64 0, .int .i64 0, txb [], .int .i64 0, .int .i64 0, .int .i64 0, .int .i64 0, .int .i64 0, .int .i64 0, .int .i64 0, .int .i64 0, .int .i64 0, .int .i64 0, .slice none 0 0, txb []] = wz at ZZ BB ⊢
          go_wp2
          exact bodyPost_ret_by (ret_rec rfl ZZ.out rfl) rfl ⟨⟨none, 0, 0, by rw [hd.out]; rfl, by rw [hd.out]; exact .inl rfl, by rw [hd.out]; rfl, Nat.le_refl _, by simp [maxLen]⟩, BB.out⟩
        | false =>
          have hlp := Lib.hid (show LB.loop (p + 1) st = (x :: (LB.loop p (ur, false)).1, (LB.loop p (ur, false)).2) by
            rw [LB.loop, HON.out, if_neg (by simp)])
          have OI := Lib.hid (own_bl Oq.out (bl_alloc wi (.cells #[.int .i64 x] 3)) (Nat.le_refl _))
          have XI := Lib.hid (Xq.out.alloc (.cells #[.int .i64 x] 3))
          have RI := Lib.hid (reads_i1 wi x)
          have xq : ∀ i, wi.cell? ⟨Q, i, none⟩ = (#[.int .i64 4, .int .i64 (LB.at' l1 0), .int .i64 (LB.at' l1 1), .int .i64 (LB.at' l2 0), .int .i64 (LB.at' l2 1), .int .i64 (LB.at' l2 2), .int .i64 (LB.at' l2 3), .int .i64 0, .int .i64 0, .int .i64 0, .int .i64 0, txb [], .int .i64 0, .int .i64 0, .int .i64 0, .int .i64 0, .int .i64 0, .int .i64 0, .int .i64 0, .int .i64 0, .int .i64 0, .int .i64 0, v, txb []] : Array Value)[i]? := fun i => Xq.out.cell i
          have nq : wi.cell? ⟨wr.heap.size, 0, none⟩ = some (.int .i64 x) := Nq.out.cell 0
          go_wp2_with (at_builtin; (refine wpList_append_any _ rfl (.tmp 143) (.tmp 145) _ rfl (Q + 1) 3 i0 _ 1 8 Tryz.underlying31 hi0 hz0 hz1 hzb rfl (by decide) v k (acc.map (Value.int .i64)) rfl OI.out _ (some ⟨wi.heap.size, 0, none⟩) 1 1 [.int .i64 x] rfl RI.out (by simp [Value.oneCell']) (by simp only [maxLen]; omega) (by omega) (by have := Sq.out; simp; omega) ?_); intro u9 w9 hown9 hg9 hob9; obtain ⟨A5, c5, rfl, -, -, -⟩ := own_form hown9; have X9 := Lib.hid (XI.out.grown hg9 (fun h => absurd (own_base OI.out Q h.symm) (by omega))); have y9 : w9.cell? ⟨Q, 22, none⟩ = some v := X9.out.cell 22; have z9 := X9.out.frozen 22; have W9 := Lib.hid hg9; have O9 := Lib.hid hown9; clear hown9 hg9 hob9)
          go_roundg (m3 - (k + 1))
          case measure => omega
          case rel =>
            have hb9 : Below (Q + 1) wi w9 := ((Below.refl _ wi).alloc (by have := Sq.out; omega) (.cells #[.int .i64 x] 3)).grown W9.out (by have := Sq.out; simp; omega) (fun q hq => own_base OI.out q hq)
            refine ⟨k + 1, acc ++ [x], (ur, false), (.slice A5 (k + 1) c5), by omega, by omega, by go_num, ?_, by simp [HAl.out], ?_, ?_, ?_, ?_, ?_, ?_⟩
            · have e0 := HLo.out
              rw [hlp.out] at e0
              rw [e0, show m3 - (k + 1) = p by have := HP.out; omega]
              simp
            · obtain ⟨A', n', c', q1, q2, q3, q4, q5, q6⟩ := Rq.out
              exact ⟨A', n', c', (q1.below hb9 (by omega)).far (p := ⟨Q, 22, none⟩) (Ne.symm Q1) _, q2.bl ((hb9.mono (by omega)).setCell (p := ⟨Q, 22, none⟩) Q3 _), q3, q4, q5, q6⟩
            · exact (Zq.out.below hb9 (by omega)).far (p := ⟨Q, 22, none⟩) Q2 _
            · exact (show Blk _ Q 33 #[.int .i64 4, .int .i64 (LB.at' l1 0), .int .i64 (LB.at' l1 1), .int .i64 (LB.at' l2 0), .int .i64 (LB.at' l2 1), .int .i64 (LB.at' l2 2), .int .i64 (LB.at' l2 3), .int .i64 0, .int .i64 0, .int .i64 0, .int .i64 0, txb [], .int .i64 0, .int .i64 0, .int .i64 0, .int .i64 0, .int .i64 0, .int .i64 0, .int .i64 0, .int .i64 0, .int .i64 0, .int .i64 0, (.slice A5 (k + 1) c5), txb []] from X9.out.set_ 22 (.slice A5 (k + 1) c5))
            · have := ownsRow_far O9.out X9.out (i := 22) (u := (.slice A5 (k + 1) c5)) (by decide)
              simpa using this
            · exact (Bq.out.trans (hb9.mono (by omega))).setCell (p := ⟨Q, 22, none⟩) Q3 _
            · have := hb9.size
              have := Sq.out
              simp; omega
      · obtain rfl : k = m3 := by omega
        obtain ⟨A5, c5, rfl, hrd, hc5, hcm5⟩ := own_form hO
        have Rr := Lib.hid hR
        have Xr := Lib.hid hX
        have Zr := Lib.hid hZ
        have Br := Lib.hid hB
        have Sr := Lib.hid hS
        have HI5 := Lib.hid (show IntsAt wr A5 acc from IntsAt.of_reads (by have := hrd; exact this))
        have HC5 := Lib.hid (And.intro hc5 hcm5)
        have O5 := Lib.hid hO
        clear hR hX hZ hB hS hO hrd hc5 hcm5
        have xr : ∀ i, wr.cell? ⟨Q, i, none⟩ = (#[.int .i64 4, .int .i64 (LB.at' l1 0), .int .i64 (LB.at' l1 1), .int .i64 (LB.at' l2 0), .int .i64 (LB.at' l2 1), .int .i64 (LB.at' l2 2), .int .i64 (LB.at' l2 3), .int .i64 0, .int .i64 0, .int .i64 0, .int .i64 0, txb [], .int .i64 0, .int .i64 0, .int .i64 0, .int .i64 0, .int .i64 0, .int .i64 0, .int .i64 0, .int .i64 0, .int .i64 0, .int .i64 0, .slice A5 k c5, txb []] : Array Value)[i]? := fun i => Xr.out.cell i
        have fr : ∀ i, wr.frozen? ⟨Q, i, none⟩ = false := fun i => Xr.out.frozen i
        have e0 := HLo.out
        rw [Nat.sub_self] at e0
        simp only [LB.loop, List.append_nil] at e0
        have E0 := Lib.hid e0
        clear e0
        go_upto_region 26 with fail
        have HB := Lib.hid (show LB.body 4 (t, false) = (⟨4, (LB.at' l1 0), (LB.at' l1 1), (LB.at' l2 0), (LB.at' l2 1), (LB.at' l2 2), (LB.at' l2 3), 0, 0, 0, 0, [], 0, 0, 0, 0, 0, 0, 0, 0, 0, 0, acc, []⟩, st) by
          unfold LB.body
          simp only [Int.reduceEq, ite_true, ite_false]
          rw [E1.out, E2.out, E3.out, E0.out]
          rfl)
        clear E1 E2 E3 E0
        obtain ⟨lr, bw⟩ := st
        obtain ⟨A1, n1, c1, hG, hA1, hn1', hc1', -, -⟩ := Rr.out
        simp only [] at hG hA1 hn1'
        have g0 : wr.cell? ⟨w.heap.size + 1, 0, none⟩ = some (.slice A1 n1 c1) := hG.cell 0
        have g1 : wr.cell? ⟨w.heap.size + 1, 1, none⟩ = some (.bool bw) := hG.cell 1
        clear hG hA1 Rr
        cases bw with
        | true =>
          go_upto_region 27 with fail
          iterate 4 go_step
          refine wpList_store_row rfl _ (.tmp 2) (.tmp 162) rfl _ _ rfl rfl _ _ Zr.out (by kernel_rfl) (by rfl) (by simp [Value.oneCell']) ?_
          simp only [Act.put, List.setIfInBounds_toArray, List.set_cons_zero, List.set_cons_succ]
          have ZZ := Lib.hid (Blk.row Zr.out #[.int .i64 0, .int .i64 0, .int .i64 0, .int .i64 0, .int .i64 0, .int .i64 0, .int .i64 0, .int .i64 0, .int .i64 0, .int .i64 0, .int .i64 0, txb [], .int .i64 0, .int .i64 0, .int .i64 0, .int .i64 0, .int .i64 0, .int .i64 0, .int .i64 0, .int .i64 0, .int .i64 0, .int .i64 0, .slice none 0 0, txb []])
          have BB := Lib.hid (bl_setRow (g := w.heap.size) Br.out (Nat.le_refl _) #[.int .i64 0, .int .i64 0, .int .i64 0, .int .i64 0, .int .i64 0, .int .i64 0, .int .i64 0, .int .i64 0, .int .i64 0, .int .i64 0, .int .i64 0, txb [], .int .i64 0, .int .i64 0, .int .i64 0, .int .i64 0, .int .i64 0, .int .i64 0, .int .i64 0, .int .i64 0, .int .i64 0, .int .i64 0, .slice none 0 0, txb []])
          have hd := Lib.hid (dec_bad hkb (by decide) (by decide) HB.out (.inl rfl))
          generalize wr.setRow w.heap.size #[.int .i64 0, .int .i64 0, .int .i64 0, .int .i64 0, .int .i64 0, .int .i64 0, .int .i64 0, .int .i64 0, .int .i64 0, .int .i64 0, .int .i64 0, txb [], .int .i64 0, .int .i64 0, .int .i64 0, .int .i64 0, .int .i64 0, .int .i64 0, .int .i64 0, .int .i64 0, .int .i64 0, .int .i64 0, .slice none 0 0, txb []] = wz at ZZ BB ⊢
          go_wp2
          exact bodyPost_ret_by (ret_rec rfl ZZ.out rfl) rfl ⟨⟨none, 0, 0, by rw [hd.out]; rfl, by rw [hd.out]; exact .inl rfl, by rw [hd.out]; rfl, Nat.le_refl _, by simp [maxLen]⟩, BB.out⟩
        | false =>
          by_cases hl : lr = []
          case neg =>
            have dl : 0 < n1 := by have := List.length_pos_iff.2 hl; omega
            have HL := Lib.hid hl
            clear hl
            go_upto_region 27 with fail
            iterate 4 go_step
            refine wpList_store_row rfl _ (.tmp 2) (.tmp 162) rfl _ _ rfl rfl _ _ Zr.out (by kernel_rfl) (by rfl) (by simp [Value.oneCell']) ?_
            simp only [Act.put, List.setIfInBounds_toArray, List.set_cons_zero, List.set_cons_succ]
            have ZZ := Lib.hid (Blk.row Zr.out #[.int .i64 0, .int .i64 0, .int .i64 0, .int .i64 0, .int .i64 0, .int .i64 0, .int .i64 0, .int .i64 0, .int .i64 0, .int .i64 0, .int .i64 0, txb [], .int .i64 0, .int .i64 0, .int .i64 0, .int .i64 0, .int .i64 0, .int .i64 0, .int .i64 0, .int .i64 0, .int .i64 0, .int .i64 0, .slice none 0 0, txb []])
            have BB := Lib.hid (bl_setRow (g := w.heap.size) Br.out (Nat.le_refl _) #[.int .i64 0, .int .i64 0, .int .i64 0, .int .i64 0, .int .i64 0, .int .i64 0, .int .i64 0, .int .i64 0, .int .i64 0, .int .i64 0, .int .i64 0, txb [], .int .i64 0, .int .i64 0, .int .i64 0, .int .i64 0, .int .i64 0, .int .i64 0, .int .i64 0, .int .i64 0, .int .i64 0, .int .i64 0, .slice none 0 0, txb []])
            have hd := Lib.hid (dec_bad hkb (by decide) (by decide) HB.out (.inr HL.out))
            generalize wr.setRow w.heap.size #[.int .i64 0, .int .i64 0, .int .i64 0, .int .i64 0, .int .i64 0, .int .i64 0, .int .i64 0, .int .i64 0, .int .i64 0, .int .i64 0, .int .i64 0, txb [], .int .i64 0, .int .i64 0, .int .i64 0, .int .i64 0, .int .i64 0, .int .i64 0, .int .i64 0, .int .i64 0, .int .i64 0, .int .i64 0, .slice none 0 0, txb []] = wz at ZZ BB ⊢
            go_wp2
            exact bodyPost_ret_by (ret_rec rfl ZZ.out rfl) rfl ⟨⟨none, 0, 0, by rw [hd.out]; rfl, by rw [hd.out]; exact .inl rfl, by rw [hd.out]; rfl, Nat.le_refl _, by simp [maxLen]⟩, BB.out⟩
          obtain rfl : n1 = 0 := by rw [← hn1', hl]; rfl
          subst hl
          clear hn1' hc1'
          have KV := Lib.hid (valid_any ⟨4, (LB.at' l1 0), (LB.at' l1 1), (LB.at' l2 0), (LB.at' l2 1), (LB.at' l2 2), (LB.at' l2 3), 0, 0, 0, 0, [], 0, 0, 0, 0, 0, 0, 0, 0, 0, 0, acc, []⟩ A5 k c5 wr HI5.out HAl.out (by omega) HC5.out.1 HC5.out.2 (by simp) (by simp))
          go_upto_region 28 with fail
          iterate 2 go_step
          refine wp_load_rec (.tmp 5) rfl rfl Xr.out rfl ?_
          simp only [Act.put, List.setIfInBounds_toArray, List.set_cons_zero, List.set_cons_succ]
          go_wp2_with fail
          (with_reducible refine (KV.out).mono ?_)
          rintro e we ⟨rfl, hbv⟩
          have Oe := Lib.hid (own_bl O5.out hbv (Nat.le_refl _))
          have Xe := Lib.hid (Xr.out.below hbv Xr.out.lt)
          have Ze := Lib.hid (Zr.out.below hbv Zr.out.lt)
          have Be := Lib.hid (Br.out.trans (hbv.mono (by have := Sr.out; omega)))
          clear hbv KV g0 g1 xr fr
          obtain ⟨v, hv⟩ : ∃ v, vaB ⟨4, (LB.at' l1 0), (LB.at' l1 1), (LB.at' l2 0), (LB.at' l2 1), (LB.at' l2 2), (LB.at' l2 3), 0, 0, 0, 0, [], 0, 0, 0, 0, 0, 0, 0, 0, 0, 0, acc, []⟩ = v := ⟨_, rfl⟩
          rw [hv]
          cases v with
          | false =>
            have HV := Lib.hid hv
            clear hv
            go_upto_region 29 with fail
            iterate 4 go_step
            refine wpList_store_row rfl _ (.tmp 2) (.tmp 167) rfl _ _ rfl rfl _ _ Ze.out (by kernel_rfl) (by rfl) (by simp [Value.oneCell']) ?_
            simp only [Act.put, List.setIfInBounds_toArray, List.set_cons_zero, List.set_cons_succ]
            have ZZ := Lib.hid (Blk.row Ze.out #[.int .i64 0, .int .i64 0, .int .i64 0, .int .i64 0, .int .i64 0, .int .i64 0, .int .i64 0, .int .i64 0, .int .i64 0, .int .i64 0, .int .i64 0, txb [], .int .i64 0, .int .i64 0, .int .i64 0, .int .i64 0, .int .i64 0, .int .i64 0, .int .i64 0, .int .i64 0, .int .i64 0, .int .i64 0, .slice none 0 0, txb []])
            have BB := Lib.hid (bl_setRow (g := w.heap.size) Be.out (Nat.le_refl _) #[.int .i64 0, .int .i64 0, .int .i64 0, .int .i64 0, .int .i64 0, .int .i64 0, .int .i64 0, .int .i64 0, .int .i64 0, .int .i64 0, .int .i64 0, txb [], .int .i64 0, .int .i64 0, .int .i64 0, .int .i64 0, .int .i64 0, .int .i64 0, .int .i64 0, .int .i64 0, .int .i64 0, .int .i64 0, .slice none 0 0, txb []])
            have hd := Lib.hid (dec_arg hkb (by decide) (by decide) HB.out HV.out)
            generalize we.setRow w.heap.size #[.int .i64 0, .int .i64 0, .int .i64 0, .int .i64 0, .int .i64 0, .int .i64 0, .int .i64 0, .int .i64 0, .int .i64 0, .int .i64 0, .int .i64 0, txb [], .int .i64 0, .int .i64 0, .int .i64 0, .int .i64 0, .int .i64 0, .int .i64 0, .int .i64 0, .int .i64 0, .int .i64 0, .int .i64 0, .slice none 0 0, txb []] = wz at ZZ BB ⊢
            go_wp2
            exact bodyPost_ret_by (ret_rec rfl ZZ.out rfl) rfl ⟨⟨none, 0, 0, by rw [hd.out]; rfl, by rw [hd.out]; exact .inl rfl, by rw [hd.out]; rfl, Nat.le_refl _, by simp [maxLen]⟩, BB.out⟩
          | true =>
            have hd := Lib.hid (dec_ok hkb (by decide) (by decide) HB.out hv)
            clear hv
            go_upto_region 30 with fail
            iterate 2 go_step
            refine wp_load_rec (.tmp 5) rfl rfl Xe.out rfl ?_
            simp only [Act.put, List.setIfInBounds_toArray, List.set_cons_zero, List.set_cons_succ]
            iterate 1 go_step
            refine wpList_store_row rfl _ (.tmp 2) (.tmp 168) rfl _ _ rfl rfl _ _ Ze.out (by kernel_rfl) (by rfl) (by simp [Value.oneCell']) ?_
            simp only [Act.put, List.setIfInBounds_toArray, List.set_cons_zero, List.set_cons_succ]
            have ZZ := Lib.hid (Blk.row Ze.out #[.int .i64 4, .int .i64 (LB.at' l1 0), .int .i64 (LB.at' l1 1), .int .i64 (LB.at' l2 0), .int .i64 (LB.at' l2 1), .int .i64 (LB.at' l2 2), .int .i64 (LB.at' l2 3), .int .i64 0, .int .i64 0, .int .i64 0, .int .i64 0, txb [], .int .i64 0, .int .i64 0, .int .i64 0, .int .i64 0, .int .i64 0, .int .i64 0, .int .i64 0, .int .i64 0, .int .i64 0, .int .i64 0, .slice A5 k c5, txb []])
            have BB := Lib.hid (bl_setRow (g := w.heap.size) Be.out (Nat.le_refl _) #[.int .i64 4, .int .i64 (LB.at' l1 0), .int .i64 (LB.at' l1 1), .int .i64 (LB.at' l2 0), .int .i64 (LB.at' l2 1), .int .i64 (LB.at' l2 2), .int .i64 (LB.at' l2 3), .int .i64 0, .int .i64 0, .int .i64 0, .int .i64 0, txb [], .int .i64 0, .int .i64 0, .int .i64 0, .int .i64 0, .int .i64 0, .int .i64 0, .int .i64 0, .int .i64 0, .int .i64 0, .int .i64 0, .slice A5 k c5, txb []])
            have HIz := Lib.hid (IntsAt.of_reads (Reads.of_own (own_keeps Oe.out (w' := we.setRow w.heap.size #[.int .i64 4, .int .i64 (LB.at' l1 0), .int .i64 (LB.at' l1 1), .int .i64 (LB.at' l2 0), .int .i64 (LB.at' l2 1), .int .i64 (LB.at' l2 2), .int .i64 (LB.at' l2 3), .int .i64 0, .int .i64 0, .int .i64 0, .int .i64 0, txb [], .int .i64 0, .int .i64 0, .int .i64 0, .int .i64 0, .int .i64 0, .int .i64 0, .int .i64 0, .int .i64 0, .int .i64 0, .int .i64 0, .slice A5 k c5, txb []]) (fun q h1 _ => row_other we #[.int .i64 4, .int .i64 (LB.at' l1 0), .int .i64 (LB.at' l1 1), .int .i64 (LB.at' l2 0), .int .i64 (LB.at' l2 1), .int .i64 (LB.at' l2 2), .int .i64 (LB.at' l2 3), .int .i64 0, .int .i64 0, .int .i64 0, .int .i64 0, txb [], .int .i64 0, .int .i64 0, .int .i64 0, .int .i64 0, .int .i64 0, .int .i64 0, .int .i64 0, .int .i64 0, .int .i64 0, .int .i64 0, .slice A5 k c5, txb []] (by omega)))))
            generalize we.setRow w.heap.size #[.int .i64 4, .int .i64 (LB.at' l1 0), .int .i64 (LB.at' l1 1), .int .i64 (LB.at' l2 0), .int .i64 (LB.at' l2 1), .int .i64 (LB.at' l2 2), .int .i64 (LB.at' l2 3), .int .i64 0, .int .i64 0, .int .i64 0, .int .i64 0, txb [], .int .i64 0, .int .i64 0, .int .i64 0, .int .i64 0, .int .i64 0, .int .i64 0, .int .i64 0, .int .i64 0, .int .i64 0, .int .i64 0, .slice A5 k c5, txb []] = wz at ZZ BB HIz ⊢
            go_wp2
            exact bodyPost_ret_by (ret_rec rfl ZZ.out rfl) rfl ⟨⟨A5, k, c5, by rw [hd.out]; rfl, by rw [hd.out]; exact HIz.out, by rw [hd.out]; exact HAl.out, HC5.out.1, HC5.out.2⟩, BB.out⟩
end Go.Proofs.YthfndnmfnijpeaaGreat
