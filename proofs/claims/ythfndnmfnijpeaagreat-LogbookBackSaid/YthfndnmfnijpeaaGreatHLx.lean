/- encode of logbook. -/
import Derived.Test.YthfndnmfnijpeaaGreatHRin
import Derived.Test.YthfndnmfnijpeaaGreatHLs
set_option linter.unusedVariables false
set_option linter.unusedSimpArgs false
namespace Go.Proofs.YthfndnmfnijpeaaGreat
open Go.RowKit
open LB (Bs Rec)
theorem enc_start (w : World) (C : Array Value) (kb : UInt8) (x : Int) (hx : x = (kb.toNat : Int)) :
    WrB (((w.alloc (.cells C 33)).alloc (.cells #[.int .u8 x] 5)).alloc (.cells #[.slice (some ⟨w.heap.size + 1, 0, none⟩) 1 1] 122)) (w.heap.size + 1) (w.heap.size + 1 + 1) [kb] ∧
    Blk (((w.alloc (.cells C 33)).alloc (.cells #[.int .u8 x] 5)).alloc (.cells #[.slice (some ⟨w.heap.size + 1, 0, none⟩) 1 1] 122)) w.heap.size 33 C ∧
    Below w.heap.size w (((w.alloc (.cells C 33)).alloc (.cells #[.int .u8 x] 5)).alloc (.cells #[.slice (some ⟨w.heap.size + 1, 0, none⟩) 1 1] 122)) ∧
    w.heap.size + 1 ≤ (((w.alloc (.cells C 33)).alloc (.cells #[.int .u8 x] 5)).alloc (.cells #[.slice (some ⟨w.heap.size + 1, 0, none⟩) 1 1] 122)).heap.size := by
  subst hx
  refine ⟨⟨.slice (some ⟨w.heap.size + 1, 0, none⟩) 1 1, by omega, by simp, ?_, ?_⟩, ((Blk.new w _ C).alloc _).alloc _, (((Below.refl _ w).alloc (Nat.le_refl _) _).alloc (by simp) _).alloc (by simp; omega) _, by simp⟩
  · have := Blk.new ((w.alloc (.cells C 33)).alloc (.cells #[.int .u8 (kb.toNat : Int)] 5)) 122 #[.slice (some ⟨w.heap.size + 1, 0, none⟩) 1 1]
    simpa using this
  · have h := own_new (w.alloc (.cells C 33)) (w.heap.size + 1) 5 1 1 (w.heap.size + 1) #[.int .u8 (kb.toNat : Int)] (by simp) (by simp) rfl (by simp [maxLen])
    exact own_bl h (bl_alloc _ _) (Nat.le_refl _)
theorem ints_new (w : World) (B : Nat) (l : List Int) (cs : Array Value) (h : cs = (l.map (Value.int .i64)).toArray) : IntsB (w.alloc (.cells cs 3)) B (some ⟨w.heap.size, 0, none⟩) l := by
  subst h
  refine .inr ⟨w.heap.size, 0, rfl, .inr ⟨_, Blk.new w _ _⟩, fun j x hx => ?_⟩
  rw [(Blk.new w 3 (l.map (Value.int .i64)).toArray).cell]
  simp [hx]
theorem len_nums (L : Bs) (l : List Int) {a b : Nat} (h : L.length ≤ a) (hb : a + 8 * l.length ≤ b) : (L ++ LB.nums l).length ≤ b := by rw [List.length_append, LB.nums_length]; omega
theorem len_str (L x : Bs) {a b : Nat} (h : L.length ≤ a) (hb : a + 2 + x.length ≤ b) : (L ++ LB.str x).length ≤ b := by
  have : (LB.str x).length = 2 + x.length := by simp [LB.str, LB.siz]; omega
  rw [List.length_append, this]; omega
theorem len_siz (L : Bs) (n : Nat) {a b : Nat} (h : L.length ≤ a) (hb : a + 2 ≤ b) : (L ++ LB.siz n).length ≤ b := by rw [List.length_append, siz_len]; omega
theorem IntsB.of_at {w wx : World} {A : Option Addr} {l : List Int} (h : IntsAt w A l) (hb : Below w.heap.size w wx) {B : Nat} (hB : w.heap.size ≤ B) : IntsB wx B A l := by
  rcases h with h | ⟨b, off, e, hlt, hc⟩
  · exact .inl h
  · exact .inr ⟨b, off, e, .inl (by omega), fun j x hx => (hb.cell (p := ⟨b, off + j, none⟩) hlt).trans (hc j x hx)⟩
set_option maxHeartbeats 8000000 in
set_option maxRecDepth 100000 in
theorem enc1_any (a0 a1 p0 p1 p2 p3 m0 m1 m2 m3 : Int) (bo : Bs) (s0 s1 s2 s3 s4 s5 s6 s7 s8 s9 : Int) (li : List Int) (te : Bs) (A : Option Addr) (n c : Nat) (w : World) (hA : IntsAt w A li) (hn : li.length = n) (hn1 : n ≤ 1000) (hb : bo.length ≤ 1000) (ht : te.length ≤ 1000) (hI : ∀ x ∈ [a0, a1, p0, p1, p2, p3, m0, m1, m2, m3, s0, s1, s2, s3, s4, s5, s6, s7, s8, s9], LB.I64 x) (hIl : ∀ x ∈ li, LB.I64 x) :
    Calls Tryz.prog 19 #[recV ⟨1, a0, a1, p0, p1, p2, p3, m0, m1, m2, m3, bo, s0, s1, s2, s3, s4, s5, s6, s7, s8, s9, li, te⟩ (.slice A n c)] w fun e w' => (∃ v, e = .returned v ∧ w'.ownsRow w.heap.size 5 1 v (LB.enc ⟨1, a0, a1, p0, p1, p2, p3, m0, m1, m2, m3, bo, s0, s1, s2, s3, s4, s5, s6, s7, s8, s9, li, te⟩).length (bcs (LB.enc ⟨1, a0, a1, p0, p1, p2, p3, m0, m1, m2, m3, bo, s0, s1, s2, s3, s4, s5, s6, s7, s8, s9, li, te⟩))) ∧ Below w.heap.size w w' := by
  have HI := Lib.hid hI
  have HA := Lib.hid hA
  have HN := Lib.hid hn
  have HL := Lib.hid hIl
  clear hI hA hn hIl
  go_enter Tryz.func19, Tryz.ntmps19
  go_upto_region 2 with fail
  obtain ⟨hW, hG, hB, hS⟩ := enc_start w #[.int .i64 1, .int .i64 a0, .int .i64 a1, .int .i64 p0, .int .i64 p1, .int .i64 p2, .int .i64 p3, .int .i64 m0, .int .i64 m1, .int .i64 m2, .int .i64 m3, txb bo, .int .i64 s0, .int .i64 s1, .int .i64 s2, .int .i64 s3, .int .i64 s4, .int .i64 s5, .int .i64 s6, .int .i64 s7, .int .i64 s8, .int .i64 s9, .slice A n c, txb te] (LB.b8 1) 1 (by decide)
  generalize ((w.alloc (.cells #[.int .i64 1, .int .i64 a0, .int .i64 a1, .int .i64 p0, .int .i64 p1, .int .i64 p2, .int .i64 p3, .int .i64 m0, .int .i64 m1, .int .i64 m2, .int .i64 m3, txb bo, .int .i64 s0, .int .i64 s1, .int .i64 s2, .int .i64 s3, .int .i64 s4, .int .i64 s5, .int .i64 s6, .int .i64 s7, .int .i64 s8, .int .i64 s9, .slice A n c, txb te] 33)).alloc (.cells #[.int .u8 1] 5)).alloc (.cells #[.slice (some ⟨w.heap.size + 1, 0, none⟩) 1 1] 122) = wa at hW hG hB hS ⊢
  have Wa := Lib.hid hW
  have Ga := Lib.hid hG
  have Ba := Lib.hid hB
  have Sa := Lib.hid hS
  have La := Lib.hid (show [LB.b8 1].length ≤ 1 from Nat.le_refl 1)
  have ca : ∀ i, wa.cell? ⟨w.heap.size, i, none⟩ = (#[.int .i64 1, .int .i64 a0, .int .i64 a1, .int .i64 p0, .int .i64 p1, .int .i64 p2, .int .i64 p3, .int .i64 m0, .int .i64 m1, .int .i64 m2, .int .i64 m3, txb bo, .int .i64 s0, .int .i64 s1, .int .i64 s2, .int .i64 s3, .int .i64 s4, .int .i64 s5, .int .i64 s6, .int .i64 s7, .int .i64 s8, .int .i64 s9, .slice A n c, txb te] : Array Value)[i]? := fun i => Ga.out.cell i
  clear hW hG hB hS
  have Kb := Lib.hid (numbers_any (w.heap.size + 1) (w.heap.size + 1 + 1) ([LB.b8 1]) (some ⟨wa.heap.size, 0, none⟩) 2 2 [a0, a1] (wa.alloc (.cells #[.int .i64 a0, .int .i64 a1] 3)) (Wa.out.below (bl_alloc _ _)) (ints_new wa (w.heap.size + 1) [a0, a1] #[.int .i64 a0, .int .i64 a1] rfl) rfl (by omega) (Nat.le_trans La.out (by omega)) (fun x hx => HI.out x ((by simp : [a0, a1] ⊆ [a0, a1, p0, p1, p2, p3, m0, m1, m2, m3, s0, s1, s2, s3, s4, s5, s6, s7, s8, s9]) hx)))
  have qb : ∀ i, (wa.alloc (.cells #[.int .i64 a0, .int .i64 a1] 3)).cell? ⟨w.heap.size, i, none⟩ = (#[.int .i64 1, .int .i64 a0, .int .i64 a1, .int .i64 p0, .int .i64 p1, .int .i64 p2, .int .i64 p3, .int .i64 m0, .int .i64 m1, .int .i64 m2, .int .i64 m3, txb bo, .int .i64 s0, .int .i64 s1, .int .i64 s2, .int .i64 s3, .int .i64 s4, .int .i64 s5, .int .i64 s6, .int .i64 s7, .int .i64 s8, .int .i64 s9, .slice A n c, txb te] : Array Value)[i]? := fun i => (Ga.out.alloc (.cells #[.int .i64 a0, .int .i64 a1] 3)).cell i
  go_wp2_with fail
  (with_reducible refine (Kb.out).mono ?_)
  rintro e wb ⟨rfl, hW, hbw, hs⟩
  have Wb := Lib.hid hW
  have Bb := Lib.hid ((Ba.out.alloc (by have := Sa.out; omega) (.cells #[.int .i64 a0, .int .i64 a1] 3)).trans (hbw.mono (by omega)))
  have Gb := Lib.hid (hs _ _ _ (by decide) (by decide) (Ga.out.alloc (.cells #[.int .i64 a0, .int .i64 a1] 3)))
  have Sb := Lib.hid (show w.heap.size + 1 ≤ wb.heap.size by have := Sa.out; have := hbw.size; simp at this; omega)
  have cb : ∀ i, wb.cell? ⟨w.heap.size, i, none⟩ = (#[.int .i64 1, .int .i64 a0, .int .i64 a1, .int .i64 p0, .int .i64 p1, .int .i64 p2, .int .i64 p3, .int .i64 m0, .int .i64 m1, .int .i64 m2, .int .i64 m3, txb bo, .int .i64 s0, .int .i64 s1, .int .i64 s2, .int .i64 s3, .int .i64 s4, .int .i64 s5, .int .i64 s6, .int .i64 s7, .int .i64 s8, .int .i64 s9, .slice A n c, txb te] : Array Value)[i]? := fun i => Gb.out.cell i
  have Lb := Lib.hid ((show ([LB.b8 1] ++ LB.nums [a0, a1]).length ≤ 17 from len_nums _ _ La.out (by simp)))
  clear hW hbw hs ca Kb qb
  have Kc := Lib.hid (numbers_any (w.heap.size + 1) (w.heap.size + 1 + 1) ([LB.b8 1] ++ LB.nums [a0, a1]) (some ⟨wb.heap.size, 0, none⟩) 4 4 [p0, p1, p2, p3] (wb.alloc (.cells #[.int .i64 p0, .int .i64 p1, .int .i64 p2, .int .i64 p3] 3)) (Wb.out.below (bl_alloc _ _)) (ints_new wb (w.heap.size + 1) [p0, p1, p2, p3] #[.int .i64 p0, .int .i64 p1, .int .i64 p2, .int .i64 p3] rfl) rfl (by omega) (Nat.le_trans Lb.out (by omega)) (fun x hx => HI.out x ((by simp : [p0, p1, p2, p3] ⊆ [a0, a1, p0, p1, p2, p3, m0, m1, m2, m3, s0, s1, s2, s3, s4, s5, s6, s7, s8, s9]) hx)))
  have qc : ∀ i, (wb.alloc (.cells #[.int .i64 p0, .int .i64 p1, .int .i64 p2, .int .i64 p3] 3)).cell? ⟨w.heap.size, i, none⟩ = (#[.int .i64 1, .int .i64 a0, .int .i64 a1, .int .i64 p0, .int .i64 p1, .int .i64 p2, .int .i64 p3, .int .i64 m0, .int .i64 m1, .int .i64 m2, .int .i64 m3, txb bo, .int .i64 s0, .int .i64 s1, .int .i64 s2, .int .i64 s3, .int .i64 s4, .int .i64 s5, .int .i64 s6, .int .i64 s7, .int .i64 s8, .int .i64 s9, .slice A n c, txb te] : Array Value)[i]? := fun i => (Gb.out.alloc (.cells #[.int .i64 p0, .int .i64 p1, .int .i64 p2, .int .i64 p3] 3)).cell i
  go_wp2_with fail
  (with_reducible refine (Kc.out).mono ?_)
  rintro e wc ⟨rfl, hW, hbw, hs⟩
  have Wc := Lib.hid hW
  have Bc := Lib.hid ((Bb.out.alloc (by have := Sb.out; omega) (.cells #[.int .i64 p0, .int .i64 p1, .int .i64 p2, .int .i64 p3] 3)).trans (hbw.mono (by omega)))
  have Gc := Lib.hid (hs _ _ _ (by decide) (by decide) (Gb.out.alloc (.cells #[.int .i64 p0, .int .i64 p1, .int .i64 p2, .int .i64 p3] 3)))
  have Sc := Lib.hid (show w.heap.size + 1 ≤ wc.heap.size by have := Sb.out; have := hbw.size; simp at this; omega)
  have cc : ∀ i, wc.cell? ⟨w.heap.size, i, none⟩ = (#[.int .i64 1, .int .i64 a0, .int .i64 a1, .int .i64 p0, .int .i64 p1, .int .i64 p2, .int .i64 p3, .int .i64 m0, .int .i64 m1, .int .i64 m2, .int .i64 m3, txb bo, .int .i64 s0, .int .i64 s1, .int .i64 s2, .int .i64 s3, .int .i64 s4, .int .i64 s5, .int .i64 s6, .int .i64 s7, .int .i64 s8, .int .i64 s9, .slice A n c, txb te] : Array Value)[i]? := fun i => Gc.out.cell i
  have Lc := Lib.hid ((show ([LB.b8 1] ++ LB.nums [a0, a1] ++ LB.nums [p0, p1, p2, p3]).length ≤ 49 from len_nums _ _ Lb.out (by simp)))
  clear hW hbw hs cb Kc qc
  obtain ⟨sv, -, -, hG, hO⟩ := Wc.out
  have yz : wc.cell? ⟨w.heap.size + 1 + 1, 0, none⟩ = some sv := hG.cell 0
  have OO := Lib.hid hO
  clear hG hO
  go_wp2
  go_ret
  refine ⟨⟨sv, rfl, ?_⟩, Bc.out⟩
  rw [show LB.enc ⟨1, a0, a1, p0, p1, p2, p3, m0, m1, m2, m3, bo, s0, s1, s2, s3, s4, s5, s6, s7, s8, s9, li, te⟩ = [LB.b8 1] ++ LB.nums [a0, a1] ++ LB.nums [p0, p1, p2, p3] by simp [LB.enc, LB.sightL, ← HN.out]]
  exact own_mono OO.out (by omega)
set_option maxHeartbeats 8000000 in
set_option maxRecDepth 100000 in
theorem enc2_any (a0 a1 p0 p1 p2 p3 m0 m1 m2 m3 : Int) (bo : Bs) (s0 s1 s2 s3 s4 s5 s6 s7 s8 s9 : Int) (li : List Int) (te : Bs) (A : Option Addr) (n c : Nat) (w : World) (hA : IntsAt w A li) (hn : li.length = n) (hn1 : n ≤ 1000) (hb : bo.length ≤ 1000) (ht : te.length ≤ 1000) (hI : ∀ x ∈ [a0, a1, p0, p1, p2, p3, m0, m1, m2, m3, s0, s1, s2, s3, s4, s5, s6, s7, s8, s9], LB.I64 x) (hIl : ∀ x ∈ li, LB.I64 x) :
    Calls Tryz.prog 19 #[recV ⟨2, a0, a1, p0, p1, p2, p3, m0, m1, m2, m3, bo, s0, s1, s2, s3, s4, s5, s6, s7, s8, s9, li, te⟩ (.slice A n c)] w fun e w' => (∃ v, e = .returned v ∧ w'.ownsRow w.heap.size 5 1 v (LB.enc ⟨2, a0, a1, p0, p1, p2, p3, m0, m1, m2, m3, bo, s0, s1, s2, s3, s4, s5, s6, s7, s8, s9, li, te⟩).length (bcs (LB.enc ⟨2, a0, a1, p0, p1, p2, p3, m0, m1, m2, m3, bo, s0, s1, s2, s3, s4, s5, s6, s7, s8, s9, li, te⟩))) ∧ Below w.heap.size w w' := by
  have HI := Lib.hid hI
  have HA := Lib.hid hA
  have HN := Lib.hid hn
  have HL := Lib.hid hIl
  clear hI hA hn hIl
  go_enter Tryz.func19, Tryz.ntmps19
  go_upto_region 2 with fail
  obtain ⟨hW, hG, hB, hS⟩ := enc_start w #[.int .i64 2, .int .i64 a0, .int .i64 a1, .int .i64 p0, .int .i64 p1, .int .i64 p2, .int .i64 p3, .int .i64 m0, .int .i64 m1, .int .i64 m2, .int .i64 m3, txb bo, .int .i64 s0, .int .i64 s1, .int .i64 s2, .int .i64 s3, .int .i64 s4, .int .i64 s5, .int .i64 s6, .int .i64 s7, .int .i64 s8, .int .i64 s9, .slice A n c, txb te] (LB.b8 2) 2 (by decide)
  generalize ((w.alloc (.cells #[.int .i64 2, .int .i64 a0, .int .i64 a1, .int .i64 p0, .int .i64 p1, .int .i64 p2, .int .i64 p3, .int .i64 m0, .int .i64 m1, .int .i64 m2, .int .i64 m3, txb bo, .int .i64 s0, .int .i64 s1, .int .i64 s2, .int .i64 s3, .int .i64 s4, .int .i64 s5, .int .i64 s6, .int .i64 s7, .int .i64 s8, .int .i64 s9, .slice A n c, txb te] 33)).alloc (.cells #[.int .u8 2] 5)).alloc (.cells #[.slice (some ⟨w.heap.size + 1, 0, none⟩) 1 1] 122) = wa at hW hG hB hS ⊢
  have Wa := Lib.hid hW
  have Ga := Lib.hid hG
  have Ba := Lib.hid hB
  have Sa := Lib.hid hS
  have La := Lib.hid (show [LB.b8 2].length ≤ 1 from Nat.le_refl 1)
  have ca : ∀ i, wa.cell? ⟨w.heap.size, i, none⟩ = (#[.int .i64 2, .int .i64 a0, .int .i64 a1, .int .i64 p0, .int .i64 p1, .int .i64 p2, .int .i64 p3, .int .i64 m0, .int .i64 m1, .int .i64 m2, .int .i64 m3, txb bo, .int .i64 s0, .int .i64 s1, .int .i64 s2, .int .i64 s3, .int .i64 s4, .int .i64 s5, .int .i64 s6, .int .i64 s7, .int .i64 s8, .int .i64 s9, .slice A n c, txb te] : Array Value)[i]? := fun i => Ga.out.cell i
  clear hW hG hB hS
  have Kb := Lib.hid (numbers_any (w.heap.size + 1) (w.heap.size + 1 + 1) ([LB.b8 2]) (some ⟨wa.heap.size, 0, none⟩) 2 2 [a0, a1] (wa.alloc (.cells #[.int .i64 a0, .int .i64 a1] 3)) (Wa.out.below (bl_alloc _ _)) (ints_new wa (w.heap.size + 1) [a0, a1] #[.int .i64 a0, .int .i64 a1] rfl) rfl (by omega) (Nat.le_trans La.out (by omega)) (fun x hx => HI.out x ((by simp : [a0, a1] ⊆ [a0, a1, p0, p1, p2, p3, m0, m1, m2, m3, s0, s1, s2, s3, s4, s5, s6, s7, s8, s9]) hx)))
  have qb : ∀ i, (wa.alloc (.cells #[.int .i64 a0, .int .i64 a1] 3)).cell? ⟨w.heap.size, i, none⟩ = (#[.int .i64 2, .int .i64 a0, .int .i64 a1, .int .i64 p0, .int .i64 p1, .int .i64 p2, .int .i64 p3, .int .i64 m0, .int .i64 m1, .int .i64 m2, .int .i64 m3, txb bo, .int .i64 s0, .int .i64 s1, .int .i64 s2, .int .i64 s3, .int .i64 s4, .int .i64 s5, .int .i64 s6, .int .i64 s7, .int .i64 s8, .int .i64 s9, .slice A n c, txb te] : Array Value)[i]? := fun i => (Ga.out.alloc (.cells #[.int .i64 a0, .int .i64 a1] 3)).cell i
  go_wp2_with fail
  (with_reducible refine (Kb.out).mono ?_)
  rintro e wb ⟨rfl, hW, hbw, hs⟩
  have Wb := Lib.hid hW
  have Bb := Lib.hid ((Ba.out.alloc (by have := Sa.out; omega) (.cells #[.int .i64 a0, .int .i64 a1] 3)).trans (hbw.mono (by omega)))
  have Gb := Lib.hid (hs _ _ _ (by decide) (by decide) (Ga.out.alloc (.cells #[.int .i64 a0, .int .i64 a1] 3)))
  have Sb := Lib.hid (show w.heap.size + 1 ≤ wb.heap.size by have := Sa.out; have := hbw.size; simp at this; omega)
  have cb : ∀ i, wb.cell? ⟨w.heap.size, i, none⟩ = (#[.int .i64 2, .int .i64 a0, .int .i64 a1, .int .i64 p0, .int .i64 p1, .int .i64 p2, .int .i64 p3, .int .i64 m0, .int .i64 m1, .int .i64 m2, .int .i64 m3, txb bo, .int .i64 s0, .int .i64 s1, .int .i64 s2, .int .i64 s3, .int .i64 s4, .int .i64 s5, .int .i64 s6, .int .i64 s7, .int .i64 s8, .int .i64 s9, .slice A n c, txb te] : Array Value)[i]? := fun i => Gb.out.cell i
  have Lb := Lib.hid ((show ([LB.b8 2] ++ LB.nums [a0, a1]).length ≤ 17 from len_nums _ _ La.out (by simp)))
  clear hW hbw hs ca Kb qb
  have Kc := Lib.hid (numbers_any (w.heap.size + 1) (w.heap.size + 1 + 1) ([LB.b8 2] ++ LB.nums [a0, a1]) (some ⟨wb.heap.size, 0, none⟩) 4 4 [m0, m1, m2, m3] (wb.alloc (.cells #[.int .i64 m0, .int .i64 m1, .int .i64 m2, .int .i64 m3] 3)) (Wb.out.below (bl_alloc _ _)) (ints_new wb (w.heap.size + 1) [m0, m1, m2, m3] #[.int .i64 m0, .int .i64 m1, .int .i64 m2, .int .i64 m3] rfl) rfl (by omega) (Nat.le_trans Lb.out (by omega)) (fun x hx => HI.out x ((by simp : [m0, m1, m2, m3] ⊆ [a0, a1, p0, p1, p2, p3, m0, m1, m2, m3, s0, s1, s2, s3, s4, s5, s6, s7, s8, s9]) hx)))
  have qc : ∀ i, (wb.alloc (.cells #[.int .i64 m0, .int .i64 m1, .int .i64 m2, .int .i64 m3] 3)).cell? ⟨w.heap.size, i, none⟩ = (#[.int .i64 2, .int .i64 a0, .int .i64 a1, .int .i64 p0, .int .i64 p1, .int .i64 p2, .int .i64 p3, .int .i64 m0, .int .i64 m1, .int .i64 m2, .int .i64 m3, txb bo, .int .i64 s0, .int .i64 s1, .int .i64 s2, .int .i64 s3, .int .i64 s4, .int .i64 s5, .int .i64 s6, .int .i64 s7, .int .i64 s8, .int .i64 s9, .slice A n c, txb te] : Array Value)[i]? := fun i => (Gb.out.alloc (.cells #[.int .i64 m0, .int .i64 m1, .int .i64 m2, .int .i64 m3] 3)).cell i
  go_wp2_with fail
  (with_reducible refine (Kc.out).mono ?_)
  rintro e wc ⟨rfl, hW, hbw, hs⟩
  have Wc := Lib.hid hW
  have Bc := Lib.hid ((Bb.out.alloc (by have := Sb.out; omega) (.cells #[.int .i64 m0, .int .i64 m1, .int .i64 m2, .int .i64 m3] 3)).trans (hbw.mono (by omega)))
  have Gc := Lib.hid (hs _ _ _ (by decide) (by decide) (Gb.out.alloc (.cells #[.int .i64 m0, .int .i64 m1, .int .i64 m2, .int .i64 m3] 3)))
  have Sc := Lib.hid (show w.heap.size + 1 ≤ wc.heap.size by have := Sb.out; have := hbw.size; simp at this; omega)
  have cc : ∀ i, wc.cell? ⟨w.heap.size, i, none⟩ = (#[.int .i64 2, .int .i64 a0, .int .i64 a1, .int .i64 p0, .int .i64 p1, .int .i64 p2, .int .i64 p3, .int .i64 m0, .int .i64 m1, .int .i64 m2, .int .i64 m3, txb bo, .int .i64 s0, .int .i64 s1, .int .i64 s2, .int .i64 s3, .int .i64 s4, .int .i64 s5, .int .i64 s6, .int .i64 s7, .int .i64 s8, .int .i64 s9, .slice A n c, txb te] : Array Value)[i]? := fun i => Gc.out.cell i
  have Lc := Lib.hid ((show ([LB.b8 2] ++ LB.nums [a0, a1] ++ LB.nums [m0, m1, m2, m3]).length ≤ 49 from len_nums _ _ Lb.out (by simp)))
  clear hW hbw hs cb Kc qc
  obtain ⟨sv, -, -, hG, hO⟩ := Wc.out
  have yz : wc.cell? ⟨w.heap.size + 1 + 1, 0, none⟩ = some sv := hG.cell 0
  have OO := Lib.hid hO
  clear hG hO
  go_wp2
  go_ret
  refine ⟨⟨sv, rfl, ?_⟩, Bc.out⟩
  rw [show LB.enc ⟨2, a0, a1, p0, p1, p2, p3, m0, m1, m2, m3, bo, s0, s1, s2, s3, s4, s5, s6, s7, s8, s9, li, te⟩ = [LB.b8 2] ++ LB.nums [a0, a1] ++ LB.nums [m0, m1, m2, m3] by simp [LB.enc, LB.sightL, ← HN.out]]
  exact own_mono OO.out (by omega)
set_option maxHeartbeats 8000000 in
set_option maxRecDepth 100000 in
theorem enc3_any (a0 a1 p0 p1 p2 p3 m0 m1 m2 m3 : Int) (bo : Bs) (s0 s1 s2 s3 s4 s5 s6 s7 s8 s9 : Int) (li : List Int) (te : Bs) (A : Option Addr) (n c : Nat) (w : World) (hA : IntsAt w A li) (hn : li.length = n) (hn1 : n ≤ 1000) (hb : bo.length ≤ 1000) (ht : te.length ≤ 1000) (hI : ∀ x ∈ [a0, a1, p0, p1, p2, p3, m0, m1, m2, m3, s0, s1, s2, s3, s4, s5, s6, s7, s8, s9], LB.I64 x) (hIl : ∀ x ∈ li, LB.I64 x) :
    Calls Tryz.prog 19 #[recV ⟨3, a0, a1, p0, p1, p2, p3, m0, m1, m2, m3, bo, s0, s1, s2, s3, s4, s5, s6, s7, s8, s9, li, te⟩ (.slice A n c)] w fun e w' => (∃ v, e = .returned v ∧ w'.ownsRow w.heap.size 5 1 v (LB.enc ⟨3, a0, a1, p0, p1, p2, p3, m0, m1, m2, m3, bo, s0, s1, s2, s3, s4, s5, s6, s7, s8, s9, li, te⟩).length (bcs (LB.enc ⟨3, a0, a1, p0, p1, p2, p3, m0, m1, m2, m3, bo, s0, s1, s2, s3, s4, s5, s6, s7, s8, s9, li, te⟩))) ∧ Below w.heap.size w w' := by
  have HI := Lib.hid hI
  have HA := Lib.hid hA
  have HN := Lib.hid hn
  have HL := Lib.hid hIl
  clear hI hA hn hIl
  go_enter Tryz.func19, Tryz.ntmps19
  go_upto_region 2 with fail
  obtain ⟨hW, hG, hB, hS⟩ := enc_start w #[.int .i64 3, .int .i64 a0, .int .i64 a1, .int .i64 p0, .int .i64 p1, .int .i64 p2, .int .i64 p3, .int .i64 m0, .int .i64 m1, .int .i64 m2, .int .i64 m3, txb bo, .int .i64 s0, .int .i64 s1, .int .i64 s2, .int .i64 s3, .int .i64 s4, .int .i64 s5, .int .i64 s6, .int .i64 s7, .int .i64 s8, .int .i64 s9, .slice A n c, txb te] (LB.b8 3) 3 (by decide)
  generalize ((w.alloc (.cells #[.int .i64 3, .int .i64 a0, .int .i64 a1, .int .i64 p0, .int .i64 p1, .int .i64 p2, .int .i64 p3, .int .i64 m0, .int .i64 m1, .int .i64 m2, .int .i64 m3, txb bo, .int .i64 s0, .int .i64 s1, .int .i64 s2, .int .i64 s3, .int .i64 s4, .int .i64 s5, .int .i64 s6, .int .i64 s7, .int .i64 s8, .int .i64 s9, .slice A n c, txb te] 33)).alloc (.cells #[.int .u8 3] 5)).alloc (.cells #[.slice (some ⟨w.heap.size + 1, 0, none⟩) 1 1] 122) = wa at hW hG hB hS ⊢
  have Wa := Lib.hid hW
  have Ga := Lib.hid hG
  have Ba := Lib.hid hB
  have Sa := Lib.hid hS
  have La := Lib.hid (show [LB.b8 3].length ≤ 1 from Nat.le_refl 1)
  have ca : ∀ i, wa.cell? ⟨w.heap.size, i, none⟩ = (#[.int .i64 3, .int .i64 a0, .int .i64 a1, .int .i64 p0, .int .i64 p1, .int .i64 p2, .int .i64 p3, .int .i64 m0, .int .i64 m1, .int .i64 m2, .int .i64 m3, txb bo, .int .i64 s0, .int .i64 s1, .int .i64 s2, .int .i64 s3, .int .i64 s4, .int .i64 s5, .int .i64 s6, .int .i64 s7, .int .i64 s8, .int .i64 s9, .slice A n c, txb te] : Array Value)[i]? := fun i => Ga.out.cell i
  clear hW hG hB hS
  go_upto_region 3 with fail
  iterate 10 go_step
  refine wpList_store_row rfl _ (.tmp 4) (.tmp 15) rfl _ _ rfl rfl _ _ (heap_alloc_last _ _) (by kernel_rfl) (by rfl) (by simp [Value.oneCell']) ?_
  rw [World.setRow_alloc_new]
  simp only [Act.put, List.setIfInBounds_toArray, List.set_cons_zero, List.set_cons_succ]
  have Wz := Lib.hid (Wa.out.below (bl_alloc wa (.cells #[txb bo, .int .i64 s0, .int .i64 s1, .int .i64 s2, .int .i64 s3, .int .i64 s4, .int .i64 s5, .int .i64 s6, .int .i64 s7, .int .i64 s8, .int .i64 s9] 30)))
  have Gz := Lib.hid (Ga.out.alloc (.cells #[txb bo, .int .i64 s0, .int .i64 s1, .int .i64 s2, .int .i64 s3, .int .i64 s4, .int .i64 s5, .int .i64 s6, .int .i64 s7, .int .i64 s8, .int .i64 s9] 30))
  have Bz := Lib.hid (Ba.out.alloc (by have := Sa.out; omega) (.cells #[txb bo, .int .i64 s0, .int .i64 s1, .int .i64 s2, .int .i64 s3, .int .i64 s4, .int .i64 s5, .int .i64 s6, .int .i64 s7, .int .i64 s8, .int .i64 s9] 30))
  have Sz := Lib.hid (show w.heap.size + 1 ≤ (wa.alloc (.cells #[txb bo, .int .i64 s0, .int .i64 s1, .int .i64 s2, .int .i64 s3, .int .i64 s4, .int .i64 s5, .int .i64 s6, .int .i64 s7, .int .i64 s8, .int .i64 s9] 30)).heap.size by have := Sa.out; simp; omega)
  have Hz := Lib.hid (Blk.new wa 30 #[txb bo, .int .i64 s0, .int .i64 s1, .int .i64 s2, .int .i64 s3, .int .i64 s4, .int .i64 s5, .int .i64 s6, .int .i64 s7, .int .i64 s8, .int .i64 s9])
  have Lz := La
  generalize hQ : wa.heap.size = Q at *
  generalize wa.alloc (.cells #[txb bo, .int .i64 s0, .int .i64 s1, .int .i64 s2, .int .i64 s3, .int .i64 s4, .int .i64 s5, .int .i64 s6, .int .i64 s7, .int .i64 s8, .int .i64 s9] 30) = wz at *
  have cz : ∀ i, wz.cell? ⟨w.heap.size, i, none⟩ = (#[.int .i64 3, .int .i64 a0, .int .i64 a1, .int .i64 p0, .int .i64 p1, .int .i64 p2, .int .i64 p3, .int .i64 m0, .int .i64 m1, .int .i64 m2, .int .i64 m3, txb bo, .int .i64 s0, .int .i64 s1, .int .i64 s2, .int .i64 s3, .int .i64 s4, .int .i64 s5, .int .i64 s6, .int .i64 s7, .int .i64 s8, .int .i64 s9, .slice A n c, txb te] : Array Value)[i]? := fun i => Gz.out.cell i
  have ez : ∀ i, wz.cell? ⟨Q, i, none⟩ = (#[txb bo, .int .i64 s0, .int .i64 s1, .int .i64 s2, .int .i64 s3, .int .i64 s4, .int .i64 s5, .int .i64 s6, .int .i64 s7, .int .i64 s8, .int .i64 s9] : Array Value)[i]? := fun i => Hz.out.cell i
  clear ca
  have Kb := Lib.hid (wstr_any (w.heap.size + 1) (w.heap.size + 1 + 1) bo ([LB.b8 3]) wz Wz.out (by omega) (Nat.le_trans Lz.out (by omega)))
  go_wp2_with fail
  (with_reducible refine (Kb.out).mono ?_)
  rintro e wb ⟨rfl, hW, hbw, hs⟩
  have Wb := Lib.hid hW
  have Bb := Lib.hid (Bz.out.trans (hbw.mono (by omega)))
  have Gb := Lib.hid (hs _ _ _ (by decide) (by decide) Gz.out)
  have Sb := Lib.hid (show w.heap.size + 1 ≤ wb.heap.size by have := Sz.out; have := hbw.size; omega)
  have Hb := Lib.hid (hs _ _ _ (by decide) (by decide) Hz.out)
  have eb : ∀ i, wb.cell? ⟨Q, i, none⟩ = (#[txb bo, .int .i64 s0, .int .i64 s1, .int .i64 s2, .int .i64 s3, .int .i64 s4, .int .i64 s5, .int .i64 s6, .int .i64 s7, .int .i64 s8, .int .i64 s9] : Array Value)[i]? := fun i => Hb.out.cell i
  have cb : ∀ i, wb.cell? ⟨w.heap.size, i, none⟩ = (#[.int .i64 3, .int .i64 a0, .int .i64 a1, .int .i64 p0, .int .i64 p1, .int .i64 p2, .int .i64 p3, .int .i64 m0, .int .i64 m1, .int .i64 m2, .int .i64 m3, txb bo, .int .i64 s0, .int .i64 s1, .int .i64 s2, .int .i64 s3, .int .i64 s4, .int .i64 s5, .int .i64 s6, .int .i64 s7, .int .i64 s8, .int .i64 s9, .slice A n c, txb te] : Array Value)[i]? := fun i => Gb.out.cell i
  have Lb := Lib.hid ((show ([LB.b8 3] ++ LB.str bo).length ≤ 1003 from len_str _ _ Lz.out (by omega)))
  clear hW hbw hs cz Kb ez
  have rc : ∀ i, (wb.alloc (.cells #[.int .i64 s0, .int .i64 s1, .int .i64 s2, .int .i64 s3, .int .i64 s4, .int .i64 s5, .int .i64 s6, .int .i64 s7, .int .i64 s8, .int .i64 s9] 3)).cell? ⟨Q, i, none⟩ = (#[txb bo, .int .i64 s0, .int .i64 s1, .int .i64 s2, .int .i64 s3, .int .i64 s4, .int .i64 s5, .int .i64 s6, .int .i64 s7, .int .i64 s8, .int .i64 s9] : Array Value)[i]? := fun i => (Hb.out.alloc (.cells #[.int .i64 s0, .int .i64 s1, .int .i64 s2, .int .i64 s3, .int .i64 s4, .int .i64 s5, .int .i64 s6, .int .i64 s7, .int .i64 s8, .int .i64 s9] 3)).cell i
  have Kc := Lib.hid (numbers_any (w.heap.size + 1) (w.heap.size + 1 + 1) ([LB.b8 3] ++ LB.str bo) (some ⟨wb.heap.size, 0, none⟩) 10 10 [s0, s1, s2, s3, s4, s5, s6, s7, s8, s9] (wb.alloc (.cells #[.int .i64 s0, .int .i64 s1, .int .i64 s2, .int .i64 s3, .int .i64 s4, .int .i64 s5, .int .i64 s6, .int .i64 s7, .int .i64 s8, .int .i64 s9] 3)) (Wb.out.below (bl_alloc _ _)) (ints_new wb (w.heap.size + 1) [s0, s1, s2, s3, s4, s5, s6, s7, s8, s9] #[.int .i64 s0, .int .i64 s1, .int .i64 s2, .int .i64 s3, .int .i64 s4, .int .i64 s5, .int .i64 s6, .int .i64 s7, .int .i64 s8, .int .i64 s9] rfl) rfl (by omega) (Nat.le_trans Lb.out (by omega)) (fun x hx => HI.out x ((by simp : [s0, s1, s2, s3, s4, s5, s6, s7, s8, s9] ⊆ [a0, a1, p0, p1, p2, p3, m0, m1, m2, m3, s0, s1, s2, s3, s4, s5, s6, s7, s8, s9]) hx)))
  have qc : ∀ i, (wb.alloc (.cells #[.int .i64 s0, .int .i64 s1, .int .i64 s2, .int .i64 s3, .int .i64 s4, .int .i64 s5, .int .i64 s6, .int .i64 s7, .int .i64 s8, .int .i64 s9] 3)).cell? ⟨w.heap.size, i, none⟩ = (#[.int .i64 3, .int .i64 a0, .int .i64 a1, .int .i64 p0, .int .i64 p1, .int .i64 p2, .int .i64 p3, .int .i64 m0, .int .i64 m1, .int .i64 m2, .int .i64 m3, txb bo, .int .i64 s0, .int .i64 s1, .int .i64 s2, .int .i64 s3, .int .i64 s4, .int .i64 s5, .int .i64 s6, .int .i64 s7, .int .i64 s8, .int .i64 s9, .slice A n c, txb te] : Array Value)[i]? := fun i => (Gb.out.alloc (.cells #[.int .i64 s0, .int .i64 s1, .int .i64 s2, .int .i64 s3, .int .i64 s4, .int .i64 s5, .int .i64 s6, .int .i64 s7, .int .i64 s8, .int .i64 s9] 3)).cell i
  go_wp2_with fail
  (with_reducible refine (Kc.out).mono ?_)
  rintro e wc ⟨rfl, hW, hbw, hs⟩
  have Wc := Lib.hid hW
  have Bc := Lib.hid ((Bb.out.alloc (by have := Sb.out; omega) (.cells #[.int .i64 s0, .int .i64 s1, .int .i64 s2, .int .i64 s3, .int .i64 s4, .int .i64 s5, .int .i64 s6, .int .i64 s7, .int .i64 s8, .int .i64 s9] 3)).trans (hbw.mono (by omega)))
  have Gc := Lib.hid (hs _ _ _ (by decide) (by decide) (Gb.out.alloc (.cells #[.int .i64 s0, .int .i64 s1, .int .i64 s2, .int .i64 s3, .int .i64 s4, .int .i64 s5, .int .i64 s6, .int .i64 s7, .int .i64 s8, .int .i64 s9] 3)))
  have Sc := Lib.hid (show w.heap.size + 1 ≤ wc.heap.size by have := Sb.out; have := hbw.size; simp at this; omega)
  have Hc := Lib.hid (hs _ _ _ (by decide) (by decide) (Hb.out.alloc (.cells #[.int .i64 s0, .int .i64 s1, .int .i64 s2, .int .i64 s3, .int .i64 s4, .int .i64 s5, .int .i64 s6, .int .i64 s7, .int .i64 s8, .int .i64 s9] 3)))
  have ec : ∀ i, wc.cell? ⟨Q, i, none⟩ = (#[txb bo, .int .i64 s0, .int .i64 s1, .int .i64 s2, .int .i64 s3, .int .i64 s4, .int .i64 s5, .int .i64 s6, .int .i64 s7, .int .i64 s8, .int .i64 s9] : Array Value)[i]? := fun i => Hc.out.cell i
  have cc : ∀ i, wc.cell? ⟨w.heap.size, i, none⟩ = (#[.int .i64 3, .int .i64 a0, .int .i64 a1, .int .i64 p0, .int .i64 p1, .int .i64 p2, .int .i64 p3, .int .i64 m0, .int .i64 m1, .int .i64 m2, .int .i64 m3, txb bo, .int .i64 s0, .int .i64 s1, .int .i64 s2, .int .i64 s3, .int .i64 s4, .int .i64 s5, .int .i64 s6, .int .i64 s7, .int .i64 s8, .int .i64 s9, .slice A n c, txb te] : Array Value)[i]? := fun i => Gc.out.cell i
  have Lc := Lib.hid ((show ([LB.b8 3] ++ LB.str bo ++ LB.nums [s0, s1, s2, s3, s4, s5, s6, s7, s8, s9]).length ≤ 1083 from len_nums _ _ Lb.out (by simp)))
  clear hW hbw hs cb Kc eb qc rc
  obtain ⟨sv, -, -, hG, hO⟩ := Wc.out
  have yz : wc.cell? ⟨w.heap.size + 1 + 1, 0, none⟩ = some sv := hG.cell 0
  have OO := Lib.hid hO
  clear hG hO
  go_wp2
  go_ret
  refine ⟨⟨sv, rfl, ?_⟩, Bc.out⟩
  rw [show LB.enc ⟨3, a0, a1, p0, p1, p2, p3, m0, m1, m2, m3, bo, s0, s1, s2, s3, s4, s5, s6, s7, s8, s9, li, te⟩ = [LB.b8 3] ++ LB.str bo ++ LB.nums [s0, s1, s2, s3, s4, s5, s6, s7, s8, s9] by simp [LB.enc, LB.sightL, ← HN.out]]
  exact own_mono OO.out (by omega)
set_option maxHeartbeats 8000000 in
set_option maxRecDepth 100000 in
theorem enc4_any (a0 a1 p0 p1 p2 p3 m0 m1 m2 m3 : Int) (bo : Bs) (s0 s1 s2 s3 s4 s5 s6 s7 s8 s9 : Int) (li : List Int) (te : Bs) (A : Option Addr) (n c : Nat) (w : World) (hA : IntsAt w A li) (hn : li.length = n) (hn1 : n ≤ 1000) (hb : bo.length ≤ 1000) (ht : te.length ≤ 1000) (hI : ∀ x ∈ [a0, a1, p0, p1, p2, p3, m0, m1, m2, m3, s0, s1, s2, s3, s4, s5, s6, s7, s8, s9], LB.I64 x) (hIl : ∀ x ∈ li, LB.I64 x) :
    Calls Tryz.prog 19 #[recV ⟨4, a0, a1, p0, p1, p2, p3, m0, m1, m2, m3, bo, s0, s1, s2, s3, s4, s5, s6, s7, s8, s9, li, te⟩ (.slice A n c)] w fun e w' => (∃ v, e = .returned v ∧ w'.ownsRow w.heap.size 5 1 v (LB.enc ⟨4, a0, a1, p0, p1, p2, p3, m0, m1, m2, m3, bo, s0, s1, s2, s3, s4, s5, s6, s7, s8, s9, li, te⟩).length (bcs (LB.enc ⟨4, a0, a1, p0, p1, p2, p3, m0, m1, m2, m3, bo, s0, s1, s2, s3, s4, s5, s6, s7, s8, s9, li, te⟩))) ∧ Below w.heap.size w w' := by
  have HI := Lib.hid hI
  have HA := Lib.hid hA
  have HN := Lib.hid hn
  have HL := Lib.hid hIl
  clear hI hA hn hIl
  go_enter Tryz.func19, Tryz.ntmps19
  go_upto_region 2 with fail
  obtain ⟨hW, hG, hB, hS⟩ := enc_start w #[.int .i64 4, .int .i64 a0, .int .i64 a1, .int .i64 p0, .int .i64 p1, .int .i64 p2, .int .i64 p3, .int .i64 m0, .int .i64 m1, .int .i64 m2, .int .i64 m3, txb bo, .int .i64 s0, .int .i64 s1, .int .i64 s2, .int .i64 s3, .int .i64 s4, .int .i64 s5, .int .i64 s6, .int .i64 s7, .int .i64 s8, .int .i64 s9, .slice A n c, txb te] (LB.b8 4) 4 (by decide)
  generalize ((w.alloc (.cells #[.int .i64 4, .int .i64 a0, .int .i64 a1, .int .i64 p0, .int .i64 p1, .int .i64 p2, .int .i64 p3, .int .i64 m0, .int .i64 m1, .int .i64 m2, .int .i64 m3, txb bo, .int .i64 s0, .int .i64 s1, .int .i64 s2, .int .i64 s3, .int .i64 s4, .int .i64 s5, .int .i64 s6, .int .i64 s7, .int .i64 s8, .int .i64 s9, .slice A n c, txb te] 33)).alloc (.cells #[.int .u8 4] 5)).alloc (.cells #[.slice (some ⟨w.heap.size + 1, 0, none⟩) 1 1] 122) = wa at hW hG hB hS ⊢
  have Wa := Lib.hid hW
  have Ga := Lib.hid hG
  have Ba := Lib.hid hB
  have Sa := Lib.hid hS
  have La := Lib.hid (show [LB.b8 4].length ≤ 1 from Nat.le_refl 1)
  have ca : ∀ i, wa.cell? ⟨w.heap.size, i, none⟩ = (#[.int .i64 4, .int .i64 a0, .int .i64 a1, .int .i64 p0, .int .i64 p1, .int .i64 p2, .int .i64 p3, .int .i64 m0, .int .i64 m1, .int .i64 m2, .int .i64 m3, txb bo, .int .i64 s0, .int .i64 s1, .int .i64 s2, .int .i64 s3, .int .i64 s4, .int .i64 s5, .int .i64 s6, .int .i64 s7, .int .i64 s8, .int .i64 s9, .slice A n c, txb te] : Array Value)[i]? := fun i => Ga.out.cell i
  clear hW hG hB hS
  have Kb := Lib.hid (numbers_any (w.heap.size + 1) (w.heap.size + 1 + 1) ([LB.b8 4]) (some ⟨wa.heap.size, 0, none⟩) 2 2 [a0, a1] (wa.alloc (.cells #[.int .i64 a0, .int .i64 a1] 3)) (Wa.out.below (bl_alloc _ _)) (ints_new wa (w.heap.size + 1) [a0, a1] #[.int .i64 a0, .int .i64 a1] rfl) rfl (by omega) (Nat.le_trans La.out (by omega)) (fun x hx => HI.out x ((by simp : [a0, a1] ⊆ [a0, a1, p0, p1, p2, p3, m0, m1, m2, m3, s0, s1, s2, s3, s4, s5, s6, s7, s8, s9]) hx)))
  have qb : ∀ i, (wa.alloc (.cells #[.int .i64 a0, .int .i64 a1] 3)).cell? ⟨w.heap.size, i, none⟩ = (#[.int .i64 4, .int .i64 a0, .int .i64 a1, .int .i64 p0, .int .i64 p1, .int .i64 p2, .int .i64 p3, .int .i64 m0, .int .i64 m1, .int .i64 m2, .int .i64 m3, txb bo, .int .i64 s0, .int .i64 s1, .int .i64 s2, .int .i64 s3, .int .i64 s4, .int .i64 s5, .int .i64 s6, .int .i64 s7, .int .i64 s8, .int .i64 s9, .slice A n c, txb te] : Array Value)[i]? := fun i => (Ga.out.alloc (.cells #[.int .i64 a0, .int .i64 a1] 3)).cell i
  go_wp2_with fail
  (with_reducible refine (Kb.out).mono ?_)
  rintro e wb ⟨rfl, hW, hbw, hs⟩
  have Wb := Lib.hid hW
  have Bb := Lib.hid ((Ba.out.alloc (by have := Sa.out; omega) (.cells #[.int .i64 a0, .int .i64 a1] 3)).trans (hbw.mono (by omega)))
  have Gb := Lib.hid (hs _ _ _ (by decide) (by decide) (Ga.out.alloc (.cells #[.int .i64 a0, .int .i64 a1] 3)))
  have Sb := Lib.hid (show w.heap.size + 1 ≤ wb.heap.size by have := Sa.out; have := hbw.size; simp at this; omega)
  have cb : ∀ i, wb.cell? ⟨w.heap.size, i, none⟩ = (#[.int .i64 4, .int .i64 a0, .int .i64 a1, .int .i64 p0, .int .i64 p1, .int .i64 p2, .int .i64 p3, .int .i64 m0, .int .i64 m1, .int .i64 m2, .int .i64 m3, txb bo, .int .i64 s0, .int .i64 s1, .int .i64 s2, .int .i64 s3, .int .i64 s4, .int .i64 s5, .int .i64 s6, .int .i64 s7, .int .i64 s8, .int .i64 s9, .slice A n c, txb te] : Array Value)[i]? := fun i => Gb.out.cell i
  have Lb := Lib.hid ((show ([LB.b8 4] ++ LB.nums [a0, a1]).length ≤ 17 from len_nums _ _ La.out (by simp)))
  clear hW hbw hs ca Kb qb
  have Kc := Lib.hid (numbers_any (w.heap.size + 1) (w.heap.size + 1 + 1) ([LB.b8 4] ++ LB.nums [a0, a1]) (some ⟨wb.heap.size, 0, none⟩) 4 4 [p0, p1, p2, p3] (wb.alloc (.cells #[.int .i64 p0, .int .i64 p1, .int .i64 p2, .int .i64 p3] 3)) (Wb.out.below (bl_alloc _ _)) (ints_new wb (w.heap.size + 1) [p0, p1, p2, p3] #[.int .i64 p0, .int .i64 p1, .int .i64 p2, .int .i64 p3] rfl) rfl (by omega) (Nat.le_trans Lb.out (by omega)) (fun x hx => HI.out x ((by simp : [p0, p1, p2, p3] ⊆ [a0, a1, p0, p1, p2, p3, m0, m1, m2, m3, s0, s1, s2, s3, s4, s5, s6, s7, s8, s9]) hx)))
  have qc : ∀ i, (wb.alloc (.cells #[.int .i64 p0, .int .i64 p1, .int .i64 p2, .int .i64 p3] 3)).cell? ⟨w.heap.size, i, none⟩ = (#[.int .i64 4, .int .i64 a0, .int .i64 a1, .int .i64 p0, .int .i64 p1, .int .i64 p2, .int .i64 p3, .int .i64 m0, .int .i64 m1, .int .i64 m2, .int .i64 m3, txb bo, .int .i64 s0, .int .i64 s1, .int .i64 s2, .int .i64 s3, .int .i64 s4, .int .i64 s5, .int .i64 s6, .int .i64 s7, .int .i64 s8, .int .i64 s9, .slice A n c, txb te] : Array Value)[i]? := fun i => (Gb.out.alloc (.cells #[.int .i64 p0, .int .i64 p1, .int .i64 p2, .int .i64 p3] 3)).cell i
  go_wp2_with fail
  (with_reducible refine (Kc.out).mono ?_)
  rintro e wc ⟨rfl, hW, hbw, hs⟩
  have Wc := Lib.hid hW
  have Bc := Lib.hid ((Bb.out.alloc (by have := Sb.out; omega) (.cells #[.int .i64 p0, .int .i64 p1, .int .i64 p2, .int .i64 p3] 3)).trans (hbw.mono (by omega)))
  have Gc := Lib.hid (hs _ _ _ (by decide) (by decide) (Gb.out.alloc (.cells #[.int .i64 p0, .int .i64 p1, .int .i64 p2, .int .i64 p3] 3)))
  have Sc := Lib.hid (show w.heap.size + 1 ≤ wc.heap.size by have := Sb.out; have := hbw.size; simp at this; omega)
  have cc : ∀ i, wc.cell? ⟨w.heap.size, i, none⟩ = (#[.int .i64 4, .int .i64 a0, .int .i64 a1, .int .i64 p0, .int .i64 p1, .int .i64 p2, .int .i64 p3, .int .i64 m0, .int .i64 m1, .int .i64 m2, .int .i64 m3, txb bo, .int .i64 s0, .int .i64 s1, .int .i64 s2, .int .i64 s3, .int .i64 s4, .int .i64 s5, .int .i64 s6, .int .i64 s7, .int .i64 s8, .int .i64 s9, .slice A n c, txb te] : Array Value)[i]? := fun i => Gc.out.cell i
  have Lc := Lib.hid ((show ([LB.b8 4] ++ LB.nums [a0, a1] ++ LB.nums [p0, p1, p2, p3]).length ≤ 49 from len_nums _ _ Lb.out (by simp)))
  clear hW hbw hs cb Kc qc
  have Kd := Lib.hid (wsize_any (w.heap.size + 1) (w.heap.size + 1 + 1) n ([LB.b8 4] ++ LB.nums [a0, a1] ++ LB.nums [p0, p1, p2, p3]) wc Wc.out (by omega) (Nat.le_trans Lc.out (by omega)))
  go_wp2_with fail
  (with_reducible refine (Kd.out).mono ?_)
  rintro e wd ⟨rfl, hW, hbw, hs⟩
  have Wd := Lib.hid hW
  have Bd := Lib.hid (Bc.out.trans (hbw.mono (by omega)))
  have Gd := Lib.hid (hs _ _ _ (by decide) (by decide) Gc.out)
  have Sd := Lib.hid (show w.heap.size + 1 ≤ wd.heap.size by have := Sc.out; have := hbw.size; omega)
  have cd : ∀ i, wd.cell? ⟨w.heap.size, i, none⟩ = (#[.int .i64 4, .int .i64 a0, .int .i64 a1, .int .i64 p0, .int .i64 p1, .int .i64 p2, .int .i64 p3, .int .i64 m0, .int .i64 m1, .int .i64 m2, .int .i64 m3, txb bo, .int .i64 s0, .int .i64 s1, .int .i64 s2, .int .i64 s3, .int .i64 s4, .int .i64 s5, .int .i64 s6, .int .i64 s7, .int .i64 s8, .int .i64 s9, .slice A n c, txb te] : Array Value)[i]? := fun i => Gd.out.cell i
  have Ld := Lib.hid ((show ([LB.b8 4] ++ LB.nums [a0, a1] ++ LB.nums [p0, p1, p2, p3] ++ LB.siz n).length ≤ 51 from len_siz _ _ Lc.out (by omega)))
  clear hW hbw hs cc Kd
  have Kf := Lib.hid (numbers_any (w.heap.size + 1) (w.heap.size + 1 + 1) ([LB.b8 4] ++ LB.nums [a0, a1] ++ LB.nums [p0, p1, p2, p3] ++ LB.siz n) A n c li wd Wd.out (IntsB.of_at HA.out Bd.out (by omega)) HN.out (by omega) (Nat.le_trans Ld.out (by omega)) HL.out)
  go_wp2_with fail
  (with_reducible refine (Kf.out).mono ?_)
  rintro e wf ⟨rfl, hW, hbw, hs⟩
  have Wf := Lib.hid hW
  have Bf := Lib.hid (Bd.out.trans (hbw.mono (by omega)))
  have Gf := Lib.hid (hs _ _ _ (by decide) (by decide) Gd.out)
  have Sf := Lib.hid (show w.heap.size + 1 ≤ wf.heap.size by have := Sd.out; have := hbw.size; omega)
  have cf : ∀ i, wf.cell? ⟨w.heap.size, i, none⟩ = (#[.int .i64 4, .int .i64 a0, .int .i64 a1, .int .i64 p0, .int .i64 p1, .int .i64 p2, .int .i64 p3, .int .i64 m0, .int .i64 m1, .int .i64 m2, .int .i64 m3, txb bo, .int .i64 s0, .int .i64 s1, .int .i64 s2, .int .i64 s3, .int .i64 s4, .int .i64 s5, .int .i64 s6, .int .i64 s7, .int .i64 s8, .int .i64 s9, .slice A n c, txb te] : Array Value)[i]? := fun i => Gf.out.cell i
  have Lf := Lib.hid ((show ([LB.b8 4] ++ LB.nums [a0, a1] ++ LB.nums [p0, p1, p2, p3] ++ LB.siz n ++ LB.nums li).length ≤ 8051 from len_nums _ _ Ld.out (by have := HN.out; omega)))
  clear hW hbw hs cd Kf
  obtain ⟨sv, -, -, hG, hO⟩ := Wf.out
  have yz : wf.cell? ⟨w.heap.size + 1 + 1, 0, none⟩ = some sv := hG.cell 0
  have OO := Lib.hid hO
  clear hG hO
  go_wp2
  go_ret
  refine ⟨⟨sv, rfl, ?_⟩, Bf.out⟩
  rw [show LB.enc ⟨4, a0, a1, p0, p1, p2, p3, m0, m1, m2, m3, bo, s0, s1, s2, s3, s4, s5, s6, s7, s8, s9, li, te⟩ = [LB.b8 4] ++ LB.nums [a0, a1] ++ LB.nums [p0, p1, p2, p3] ++ LB.siz n ++ LB.nums li by simp [LB.enc, LB.sightL, ← HN.out]]
  exact own_mono OO.out (by omega)
set_option maxHeartbeats 8000000 in
set_option maxRecDepth 100000 in
theorem enc5_any (a0 a1 p0 p1 p2 p3 m0 m1 m2 m3 : Int) (bo : Bs) (s0 s1 s2 s3 s4 s5 s6 s7 s8 s9 : Int) (li : List Int) (te : Bs) (A : Option Addr) (n c : Nat) (w : World) (hA : IntsAt w A li) (hn : li.length = n) (hn1 : n ≤ 1000) (hb : bo.length ≤ 1000) (ht : te.length ≤ 1000) (hI : ∀ x ∈ [a0, a1, p0, p1, p2, p3, m0, m1, m2, m3, s0, s1, s2, s3, s4, s5, s6, s7, s8, s9], LB.I64 x) (hIl : ∀ x ∈ li, LB.I64 x) :
    Calls Tryz.prog 19 #[recV ⟨5, a0, a1, p0, p1, p2, p3, m0, m1, m2, m3, bo, s0, s1, s2, s3, s4, s5, s6, s7, s8, s9, li, te⟩ (.slice A n c)] w fun e w' => (∃ v, e = .returned v ∧ w'.ownsRow w.heap.size 5 1 v (LB.enc ⟨5, a0, a1, p0, p1, p2, p3, m0, m1, m2, m3, bo, s0, s1, s2, s3, s4, s5, s6, s7, s8, s9, li, te⟩).length (bcs (LB.enc ⟨5, a0, a1, p0, p1, p2, p3, m0, m1, m2, m3, bo, s0, s1, s2, s3, s4, s5, s6, s7, s8, s9, li, te⟩))) ∧ Below w.heap.size w w' := by
  have HI := Lib.hid hI
  have HA := Lib.hid hA
  have HN := Lib.hid hn
  have HL := Lib.hid hIl
  clear hI hA hn hIl
  go_enter Tryz.func19, Tryz.ntmps19
  go_upto_region 2 with fail
  obtain ⟨hW, hG, hB, hS⟩ := enc_start w #[.int .i64 5, .int .i64 a0, .int .i64 a1, .int .i64 p0, .int .i64 p1, .int .i64 p2, .int .i64 p3, .int .i64 m0, .int .i64 m1, .int .i64 m2, .int .i64 m3, txb bo, .int .i64 s0, .int .i64 s1, .int .i64 s2, .int .i64 s3, .int .i64 s4, .int .i64 s5, .int .i64 s6, .int .i64 s7, .int .i64 s8, .int .i64 s9, .slice A n c, txb te] (LB.b8 5) 5 (by decide)
  generalize ((w.alloc (.cells #[.int .i64 5, .int .i64 a0, .int .i64 a1, .int .i64 p0, .int .i64 p1, .int .i64 p2, .int .i64 p3, .int .i64 m0, .int .i64 m1, .int .i64 m2, .int .i64 m3, txb bo, .int .i64 s0, .int .i64 s1, .int .i64 s2, .int .i64 s3, .int .i64 s4, .int .i64 s5, .int .i64 s6, .int .i64 s7, .int .i64 s8, .int .i64 s9, .slice A n c, txb te] 33)).alloc (.cells #[.int .u8 5] 5)).alloc (.cells #[.slice (some ⟨w.heap.size + 1, 0, none⟩) 1 1] 122) = wa at hW hG hB hS ⊢
  have Wa := Lib.hid hW
  have Ga := Lib.hid hG
  have Ba := Lib.hid hB
  have Sa := Lib.hid hS
  have La := Lib.hid (show [LB.b8 5].length ≤ 1 from Nat.le_refl 1)
  have ca : ∀ i, wa.cell? ⟨w.heap.size, i, none⟩ = (#[.int .i64 5, .int .i64 a0, .int .i64 a1, .int .i64 p0, .int .i64 p1, .int .i64 p2, .int .i64 p3, .int .i64 m0, .int .i64 m1, .int .i64 m2, .int .i64 m3, txb bo, .int .i64 s0, .int .i64 s1, .int .i64 s2, .int .i64 s3, .int .i64 s4, .int .i64 s5, .int .i64 s6, .int .i64 s7, .int .i64 s8, .int .i64 s9, .slice A n c, txb te] : Array Value)[i]? := fun i => Ga.out.cell i
  clear hW hG hB hS
  have Kb := Lib.hid (numbers_any (w.heap.size + 1) (w.heap.size + 1 + 1) ([LB.b8 5]) (some ⟨wa.heap.size, 0, none⟩) 2 2 [a0, a1] (wa.alloc (.cells #[.int .i64 a0, .int .i64 a1] 3)) (Wa.out.below (bl_alloc _ _)) (ints_new wa (w.heap.size + 1) [a0, a1] #[.int .i64 a0, .int .i64 a1] rfl) rfl (by omega) (Nat.le_trans La.out (by omega)) (fun x hx => HI.out x ((by simp : [a0, a1] ⊆ [a0, a1, p0, p1, p2, p3, m0, m1, m2, m3, s0, s1, s2, s3, s4, s5, s6, s7, s8, s9]) hx)))
  have qb : ∀ i, (wa.alloc (.cells #[.int .i64 a0, .int .i64 a1] 3)).cell? ⟨w.heap.size, i, none⟩ = (#[.int .i64 5, .int .i64 a0, .int .i64 a1, .int .i64 p0, .int .i64 p1, .int .i64 p2, .int .i64 p3, .int .i64 m0, .int .i64 m1, .int .i64 m2, .int .i64 m3, txb bo, .int .i64 s0, .int .i64 s1, .int .i64 s2, .int .i64 s3, .int .i64 s4, .int .i64 s5, .int .i64 s6, .int .i64 s7, .int .i64 s8, .int .i64 s9, .slice A n c, txb te] : Array Value)[i]? := fun i => (Ga.out.alloc (.cells #[.int .i64 a0, .int .i64 a1] 3)).cell i
  go_wp2_with fail
  (with_reducible refine (Kb.out).mono ?_)
  rintro e wb ⟨rfl, hW, hbw, hs⟩
  have Wb := Lib.hid hW
  have Bb := Lib.hid ((Ba.out.alloc (by have := Sa.out; omega) (.cells #[.int .i64 a0, .int .i64 a1] 3)).trans (hbw.mono (by omega)))
  have Gb := Lib.hid (hs _ _ _ (by decide) (by decide) (Ga.out.alloc (.cells #[.int .i64 a0, .int .i64 a1] 3)))
  have Sb := Lib.hid (show w.heap.size + 1 ≤ wb.heap.size by have := Sa.out; have := hbw.size; simp at this; omega)
  have cb : ∀ i, wb.cell? ⟨w.heap.size, i, none⟩ = (#[.int .i64 5, .int .i64 a0, .int .i64 a1, .int .i64 p0, .int .i64 p1, .int .i64 p2, .int .i64 p3, .int .i64 m0, .int .i64 m1, .int .i64 m2, .int .i64 m3, txb bo, .int .i64 s0, .int .i64 s1, .int .i64 s2, .int .i64 s3, .int .i64 s4, .int .i64 s5, .int .i64 s6, .int .i64 s7, .int .i64 s8, .int .i64 s9, .slice A n c, txb te] : Array Value)[i]? := fun i => Gb.out.cell i
  have Lb := Lib.hid ((show ([LB.b8 5] ++ LB.nums [a0, a1]).length ≤ 17 from len_nums _ _ La.out (by simp)))
  clear hW hbw hs ca Kb qb
  have Kc := Lib.hid (wstr_any (w.heap.size + 1) (w.heap.size + 1 + 1) te ([LB.b8 5] ++ LB.nums [a0, a1]) wb Wb.out (by omega) (Nat.le_trans Lb.out (by omega)))
  go_wp2_with fail
  (with_reducible refine (Kc.out).mono ?_)
  rintro e wc ⟨rfl, hW, hbw, hs⟩
  have Wc := Lib.hid hW
  have Bc := Lib.hid (Bb.out.trans (hbw.mono (by omega)))
  have Gc := Lib.hid (hs _ _ _ (by decide) (by decide) Gb.out)
  have Sc := Lib.hid (show w.heap.size + 1 ≤ wc.heap.size by have := Sb.out; have := hbw.size; omega)
  have cc : ∀ i, wc.cell? ⟨w.heap.size, i, none⟩ = (#[.int .i64 5, .int .i64 a0, .int .i64 a1, .int .i64 p0, .int .i64 p1, .int .i64 p2, .int .i64 p3, .int .i64 m0, .int .i64 m1, .int .i64 m2, .int .i64 m3, txb bo, .int .i64 s0, .int .i64 s1, .int .i64 s2, .int .i64 s3, .int .i64 s4, .int .i64 s5, .int .i64 s6, .int .i64 s7, .int .i64 s8, .int .i64 s9, .slice A n c, txb te] : Array Value)[i]? := fun i => Gc.out.cell i
  have Lc := Lib.hid ((show ([LB.b8 5] ++ LB.nums [a0, a1] ++ LB.str te).length ≤ 1019 from len_str _ _ Lb.out (by omega)))
  clear hW hbw hs cb Kc
  obtain ⟨sv, -, -, hG, hO⟩ := Wc.out
  have yz : wc.cell? ⟨w.heap.size + 1 + 1, 0, none⟩ = some sv := hG.cell 0
  have OO := Lib.hid hO
  clear hG hO
  go_wp2
  go_ret
  refine ⟨⟨sv, rfl, ?_⟩, Bc.out⟩
  rw [show LB.enc ⟨5, a0, a1, p0, p1, p2, p3, m0, m1, m2, m3, bo, s0, s1, s2, s3, s4, s5, s6, s7, s8, s9, li, te⟩ = [LB.b8 5] ++ LB.nums [a0, a1] ++ LB.str te by simp [LB.enc, LB.sightL, ← HN.out]]
  exact own_mono OO.out (by omega)
end Go.Proofs.YthfndnmfnijpeaaGreat
