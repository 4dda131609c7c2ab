/- Parallax: its chain, InAltitude, Augmented. -/
import Derived.Test.YtbpnacacnncopaaGreatDoorHMn
import Derived.Test.YtbpnacacnncopaaGreatDoorHYl
import Derived.Test.YtbpnacacnncopaaGreatDoorHYp
set_option linter.unusedVariables false
set_option linter.unusedSimpArgs false
namespace Go.Proofs.YtbpnacacnncopaaGreatDoor
open Go.RowKit
/-- what stands in a block of one cell may be written again -/
theorem bl_sameP {B : Nat} {a w : World} {g : Nat} {t : TypeId} {u : Value} (hb : Below B a w) (h : Blk w g t #[u]) : Below B a (w.setCell ⟨g, 0, none⟩ u) := by
  have e : (w.setCell ⟨g, 0, none⟩ u).heap = w.heap := by
    unfold Blk at h
    have hlt : g < w.heap.size := by
      rcases Nat.lt_or_ge g w.heap.size with q | q
      · exact q
      · rw [Array.getElem?_eq_none q] at h; cases h
    apply Array.ext_getElem?
    intro i
    show (w.heap.modify g _)[i]? = w.heap[i]?
    by_cases hi : i = g
    · subst hi
      simp [Array.getElem?_modify, h]
    · simp [Array.getElem?_modify, show ¬ g = i from fun e => hi e.symm]
  exact ⟨hb.os, hb.tape, hb.output, by rw [e]; exact hb.size, fun k hk => by rw [e]; exact hb.block k hk⟩
theorem keepP_any (g : Nat) (w : World) (h : Blk w g 164 #[.int .i64 0]) :
    Calls Tryz.prog 152 #[.pointer (some ⟨g, 0, none⟩), .int .i64 0] w fun e w' => (∃ v, e = .returned v) ∧ Below w.heap.size w w' := by
  have c0 : w.cell? ⟨g, 0, none⟩ = some (.int .i64 0) := h.cell 0
  have f0 := h.frozen 0
  have HB := Lib.hid (bl_sameP (Below.refl w.heap.size w) h)
  clear h
  go_enter Tryz.func152, Tryz.ntmps152
  go_wp2
  exact bodyPost_end (results_none Tryz.results152 _ _ _) rfl ⟨⟨_, rfl⟩, HB.out⟩
def smP (a b : Int) : Bool := decide (0 ≤ a ∧ a ≤ b ∧ b ≤ 120000)
/-- what an interval of sines makes of a small arc -/
def tmA (a b p q : Int) : Int := min (scA p q a) (scA p q b)
def tmB (a b p q : Int) : Int := max (scB p q a) (scB p q b)
set_option maxHeartbeats 4000000 in
set_option maxRecDepth 100000 in
theorem timesP_any (g : Nat) (a b p q : Int) (w : World) (h : Blk w g 164 #[.int .i64 0]) (a0 : 0 ≤ a) (ab : a ≤ b) (b1 : b ≤ 131072) (hf : fvB p q = true) :
    Calls Tryz.prog 148 #[.pointer (some ⟨g, 0, none⟩), .agg #[.int .i64 a, .int .i64 b], .agg #[.int .i64 p, .int .i64 q]] w fun e w' => e = .returned (.agg #[.int .i64 (tmA a b p q), .int .i64 (tmB a b p q)]) ∧ Below w.heap.size w w' := by
  have K1 := Lib.hid (fun W => ScaleG_any p q a W hf a0 (by omega))
  have K2 := Lib.hid (fun W => ScaleG_any p q b W hf (by omega) b1)
  have KK := Lib.hid (fun W (hW : Blk W g 164 #[.int .i64 0]) => keepP_any g W hW)
  unfold tmA tmB
  generalize scA p q a = x0 at *
  generalize scB p q a = y0 at *
  generalize scA p q b = x1 at *
  generalize scB p q b = y1 at *
  clear a0 ab b1 hf
  have A0 := Lib.hid (((Blk.new w 41 #[.int .i64 a, .int .i64 b]).alloc (.cells #[.int .i64 p, .int .i64 q] 166)).alloc (.cells #[.int .i64 0, .int .i64 0] 41))
  have F0 := Lib.hid ((Blk.new (w.alloc (.cells #[.int .i64 a, .int .i64 b] 41)) 166 #[.int .i64 p, .int .i64 q]).alloc (.cells #[.int .i64 0, .int .i64 0] 41))
  simp only [World.size_alloc] at F0
  have R0 := Lib.hid (Blk.new ((w.alloc (.cells #[.int .i64 a, .int .i64 b] 41)).alloc (.cells #[.int .i64 p, .int .i64 q] 166)) 41 #[.int .i64 0, .int .i64 0])
  simp only [World.size_alloc] at R0
  have b0 := Lib.hid ((((Below.refl w.heap.size w).alloc (Nat.le_refl _) (.cells #[.int .i64 a, .int .i64 b] 41)).alloc (by simp) (.cells #[.int .i64 p, .int .i64 q] 166)).alloc (by simp; omega) (.cells #[.int .i64 0, .int .i64 0] 41))
  have G0 := Lib.hid ((((h).alloc (.cells #[.int .i64 a, .int .i64 b] 41)).alloc (.cells #[.int .i64 p, .int .i64 q] 166)).alloc (.cells #[.int .i64 0, .int .i64 0] 41))
  clear h
  go_enter Tryz.func148, Tryz.ntmps148
  go_upto_region 1 with fail
  generalize (((w.alloc (.cells #[.int .i64 a, .int .i64 b] 41)).alloc (.cells #[.int .i64 p, .int .i64 q] 166)).alloc (.cells #[.int .i64 0, .int .i64 0] 41)) = w1 at *
  have yA : ∀ i, w1.cell? ⟨w.heap.size, i, none⟩ = (#[.int .i64 a, .int .i64 b] : Array Value)[i]? := fun i => A0.out.cell i
  have yF : ∀ i, w1.cell? ⟨w.heap.size + 1, i, none⟩ = (#[.int .i64 p, .int .i64 q] : Array Value)[i]? := fun i => F0.out.cell i
  go_wp2_with fail
  (with_reducible refine (K1.out _).mono ?_)
  rintro e w2 ⟨rfl, hb⟩
  have A2 := Lib.hid (A0.out.below hb A0.out.lt)
  have F2 := Lib.hid (F0.out.below hb F0.out.lt)
  have R2 := Lib.hid (R0.out.below hb R0.out.lt)
  have G2 := Lib.hid (G0.out.below hb G0.out.lt)
  have b2 := Lib.hid (b0.out.trans (hb.mono b0.out.size))
  clear hb A0 F0 R0 G0 b0 yA yF
  go_wp2_with fail
  (with_reducible refine (KK.out _ G2.out).mono ?_)
  rintro e w3 ⟨⟨v, rfl⟩, hb⟩
  have A3 := Lib.hid (A2.out.below hb A2.out.lt)
  have F3 := Lib.hid (F2.out.below hb F2.out.lt)
  have R3 := Lib.hid (R2.out.below hb R2.out.lt)
  have G3 := Lib.hid (G2.out.below hb G2.out.lt)
  have b3 := Lib.hid (b2.out.trans (hb.mono b2.out.size))
  clear hb A2 F2 R2 G2 b2
  have yA : ∀ i, w3.cell? ⟨w.heap.size, i, none⟩ = (#[.int .i64 a, .int .i64 b] : Array Value)[i]? := fun i => A3.out.cell i
  have yF : ∀ i, w3.cell? ⟨w.heap.size + 1, i, none⟩ = (#[.int .i64 p, .int .i64 q] : Array Value)[i]? := fun i => F3.out.cell i
  go_wp2_with fail
  (with_reducible refine (K2.out _).mono ?_)
  rintro e w4 ⟨rfl, hb⟩
  have A4 := Lib.hid (A3.out.below hb A3.out.lt)
  have F4 := Lib.hid (F3.out.below hb F3.out.lt)
  have R4 := Lib.hid (R3.out.below hb R3.out.lt)
  have G4 := Lib.hid (G3.out.below hb G3.out.lt)
  have b4 := Lib.hid (b3.out.trans (hb.mono b3.out.size))
  clear hb A3 F3 R3 G3 b3 yA yF
  go_wp2_with fail
  (with_reducible refine (KK.out _ G4.out).mono ?_)
  rintro e w5 ⟨⟨v, rfl⟩, hb⟩
  have A5 := Lib.hid (A4.out.below hb A4.out.lt)
  have F5 := Lib.hid (F4.out.below hb F4.out.lt)
  have R5 := Lib.hid (R4.out.below hb R4.out.lt)
  have G5 := Lib.hid (G4.out.below hb G4.out.lt)
  have b5 := Lib.hid (b4.out.trans (hb.mono b4.out.size))
  clear hb A4 F4 R4 G4 b4
  have yR : ∀ i, w5.cell? ⟨w.heap.size + 1 + 1, i, none⟩ = (#[.int .i64 0, .int .i64 0] : Array Value)[i]? := fun i => R5.out.cell i
  have zR : ∀ i, w5.frozen? ⟨w.heap.size + 1 + 1, i, none⟩ = false := fun i => R5.out.frozen i
  go_wp2
  refine bodyPost_ret (v := .agg #[.int .i64 ((min x0 x1)), .int .i64 ((max y0 y1))]) (by simp [results, Tryz.results148, go_sem, *]; done) rfl ⟨rfl, ?_⟩
  exact (b5.out.setCell (by first | exact Nat.le_refl _ | (simp; done) | (simp; omega) | (simp only []; omega)) _).setCell (by first | exact Nat.le_refl _ | (simp; done) | (simp; omega) | (simp only []; omega)) _
set_option maxHeartbeats 4000000 in
set_option maxRecDepth 100000 in
theorem cosP_any (g : Nat) (lo hi : Int) (w : World) (h : Blk w g 164 #[.int .i64 0]) (hv : avB lo hi = true) :
    Calls Tryz.prog 149 #[.pointer (some ⟨g, 0, none⟩), .agg #[.int .i64 lo, .int .i64 hi]] w fun e w' => e = .returned (.agg #[.int .i64 (Trig.enLo (lo + 5400000) (hi + 5400000)), .int .i64 (Trig.enHi (lo + 5400000) (hi + 5400000))]) ∧ Below w.heap.size w w' := by
  have KC := Lib.hid (fun W => Cos_yes lo hi W hv)
  have KK := Lib.hid (fun W (hW : Blk W g 164 #[.int .i64 0]) => keepP_any g W hW)
  generalize Trig.enLo (lo + 5400000) (hi + 5400000) = p at *
  generalize Trig.enHi (lo + 5400000) (hi + 5400000) = q at *
  clear hv
  have A0 := Lib.hid ((Blk.new w 41 #[.int .i64 lo, .int .i64 hi]).alloc (.cells #[.int .i64 0, .int .i64 0] 166))
  have R0 := Lib.hid (Blk.new (w.alloc (.cells #[.int .i64 lo, .int .i64 hi] 41)) 166 #[.int .i64 0, .int .i64 0])
  simp only [World.size_alloc] at R0
  have b0 := Lib.hid (((Below.refl w.heap.size w).alloc (Nat.le_refl _) (.cells #[.int .i64 lo, .int .i64 hi] 41)).alloc (by simp) (.cells #[.int .i64 0, .int .i64 0] 166))
  have G0 := Lib.hid (((h).alloc (.cells #[.int .i64 lo, .int .i64 hi] 41)).alloc (.cells #[.int .i64 0, .int .i64 0] 166))
  clear h
  go_enter Tryz.func149, Tryz.ntmps149
  go_upto_region 1 with fail
  generalize ((w.alloc (.cells #[.int .i64 lo, .int .i64 hi] 41)).alloc (.cells #[.int .i64 0, .int .i64 0] 166)) = w1 at *
  have yA : ∀ i, w1.cell? ⟨w.heap.size, i, none⟩ = (#[.int .i64 lo, .int .i64 hi] : Array Value)[i]? := fun i => A0.out.cell i
  go_wp2_with fail
  (with_reducible refine (KC.out _).mono ?_)
  rintro e w2 ⟨rfl, hb⟩
  have A2 := Lib.hid (A0.out.below hb A0.out.lt)
  have R2 := Lib.hid (R0.out.below hb R0.out.lt)
  have G2 := Lib.hid (G0.out.below hb G0.out.lt)
  have b2 := Lib.hid (b0.out.trans (hb.mono b0.out.size))
  clear hb A0 R0 G0 b0 yA
  have A3 := Lib.hid (A2.out.alloc (.cells #[.int .i64 p, .int .i64 q] 166))
  have R3 := Lib.hid (R2.out.alloc (.cells #[.int .i64 p, .int .i64 q] 166))
  have G3 := Lib.hid (G2.out.alloc (.cells #[.int .i64 p, .int .i64 q] 166))
  have S3 := Lib.hid (Blk.new w2 166 #[.int .i64 p, .int .i64 q])
  have b3 := Lib.hid (b2.out.trans ((bl_alloc w2 (.cells #[.int .i64 p, .int .i64 q] 166)).mono b2.out.size))
  clear A2 R2 G2 b2
  go_upto_region 2 with fail
  generalize w2.alloc (.cells #[.int .i64 p, .int .i64 q] 166) = w4 at *
  go_wp2_with fail
  (with_reducible refine (KK.out _ G3.out).mono ?_)
  rintro e w5 ⟨⟨v, rfl⟩, hb⟩
  have A5 := Lib.hid (A3.out.below hb A3.out.lt)
  have R5 := Lib.hid (R3.out.below hb R3.out.lt)
  have G5 := Lib.hid (G3.out.below hb G3.out.lt)
  have S5 := Lib.hid (S3.out.below hb S3.out.lt)
  have b5 := Lib.hid (b3.out.trans (hb.mono b3.out.size))
  clear hb A3 R3 G3 S3 b3
  have yS : ∀ i, w5.cell? ⟨w2.heap.size, i, none⟩ = (#[.int .i64 p, .int .i64 q] : Array Value)[i]? := fun i => S5.out.cell i
  have yR : ∀ i, w5.cell? ⟨w.heap.size + 1, i, none⟩ = (#[.int .i64 0, .int .i64 0] : Array Value)[i]? := fun i => R5.out.cell i
  have zR : ∀ i, w5.frozen? ⟨w.heap.size + 1, i, none⟩ = false := fun i => R5.out.frozen i
  go_wp2
  refine bodyPost_ret (v := .agg #[.int .i64 p, .int .i64 q]) (by simp [results, Tryz.results149, go_sem, *]; done) rfl ⟨rfl, ?_⟩
  exact (b5.out.setCell (by first | exact Nat.le_refl _ | (simp; done) | (simp; omega) | (simp only []; omega)) _).setCell (by first | exact Nat.le_refl _ | (simp; done) | (simp; omega) | (simp only []; omega)) _
set_option maxHeartbeats 4000000 in
set_option maxRecDepth 100000 in
theorem sinP_any (g : Nat) (lo hi : Int) (w : World) (h : Blk w g 164 #[.int .i64 0]) (hv : avB lo hi = true) :
    Calls Tryz.prog 151 #[.pointer (some ⟨g, 0, none⟩), .agg #[.int .i64 lo, .int .i64 hi]] w fun e w' => e = .returned (.agg #[.int .i64 (Trig.enLo lo hi), .int .i64 (Trig.enHi lo hi)]) ∧ Below w.heap.size w w' := by
  have KC := Lib.hid (fun W => Sin_yes lo hi W hv)
  have KK := Lib.hid (fun W (hW : Blk W g 164 #[.int .i64 0]) => keepP_any g W hW)
  generalize Trig.enLo lo hi = p at *
  generalize Trig.enHi lo hi = q at *
  clear hv
  have A0 := Lib.hid ((Blk.new w 41 #[.int .i64 lo, .int .i64 hi]).alloc (.cells #[.int .i64 0, .int .i64 0] 166))
  have R0 := Lib.hid (Blk.new (w.alloc (.cells #[.int .i64 lo, .int .i64 hi] 41)) 166 #[.int .i64 0, .int .i64 0])
  simp only [World.size_alloc] at R0
  have b0 := Lib.hid (((Below.refl w.heap.size w).alloc (Nat.le_refl _) (.cells #[.int .i64 lo, .int .i64 hi] 41)).alloc (by simp) (.cells #[.int .i64 0, .int .i64 0] 166))
  have G0 := Lib.hid (((h).alloc (.cells #[.int .i64 lo, .int .i64 hi] 41)).alloc (.cells #[.int .i64 0, .int .i64 0] 166))
  clear h
  go_enter Tryz.func151, Tryz.ntmps151
  go_upto_region 1 with fail
  generalize ((w.alloc (.cells #[.int .i64 lo, .int .i64 hi] 41)).alloc (.cells #[.int .i64 0, .int .i64 0] 166)) = w1 at *
  have yA : ∀ i, w1.cell? ⟨w.heap.size, i, none⟩ = (#[.int .i64 lo, .int .i64 hi] : Array Value)[i]? := fun i => A0.out.cell i
  go_wp2_with fail
  (with_reducible refine (KC.out _).mono ?_)
  rintro e w2 ⟨rfl, hb⟩
  have A2 := Lib.hid (A0.out.below hb A0.out.lt)
  have R2 := Lib.hid (R0.out.below hb R0.out.lt)
  have G2 := Lib.hid (G0.out.below hb G0.out.lt)
  have b2 := Lib.hid (b0.out.trans (hb.mono b0.out.size))
  clear hb A0 R0 G0 b0 yA
  have A3 := Lib.hid (A2.out.alloc (.cells #[.int .i64 p, .int .i64 q] 166))
  have R3 := Lib.hid (R2.out.alloc (.cells #[.int .i64 p, .int .i64 q] 166))
  have G3 := Lib.hid (G2.out.alloc (.cells #[.int .i64 p, .int .i64 q] 166))
  have S3 := Lib.hid (Blk.new w2 166 #[.int .i64 p, .int .i64 q])
  have b3 := Lib.hid (b2.out.trans ((bl_alloc w2 (.cells #[.int .i64 p, .int .i64 q] 166)).mono b2.out.size))
  clear A2 R2 G2 b2
  go_upto_region 2 with fail
  generalize w2.alloc (.cells #[.int .i64 p, .int .i64 q] 166) = w4 at *
  go_wp2_with fail
  (with_reducible refine (KK.out _ G3.out).mono ?_)
  rintro e w5 ⟨⟨v, rfl⟩, hb⟩
  have A5 := Lib.hid (A3.out.below hb A3.out.lt)
  have R5 := Lib.hid (R3.out.below hb R3.out.lt)
  have G5 := Lib.hid (G3.out.below hb G3.out.lt)
  have S5 := Lib.hid (S3.out.below hb S3.out.lt)
  have b5 := Lib.hid (b3.out.trans (hb.mono b3.out.size))
  clear hb A3 R3 G3 S3 b3
  have yS : ∀ i, w5.cell? ⟨w2.heap.size, i, none⟩ = (#[.int .i64 p, .int .i64 q] : Array Value)[i]? := fun i => S5.out.cell i
  have yR : ∀ i, w5.cell? ⟨w.heap.size + 1, i, none⟩ = (#[.int .i64 0, .int .i64 0] : Array Value)[i]? := fun i => R5.out.cell i
  have zR : ∀ i, w5.frozen? ⟨w.heap.size + 1, i, none⟩ = false := fun i => R5.out.frozen i
  go_wp2
  refine bodyPost_ret (v := .agg #[.int .i64 p, .int .i64 q]) (by simp [results, Tryz.results151, go_sem, *]; done) rfl ⟨rfl, ?_⟩
  exact (b5.out.setCell (by first | exact Nat.le_refl _ | (simp; done) | (simp; omega) | (simp only []; omega)) _).setCell (by first | exact Nat.le_refl _ | (simp; done) | (simp; omega) | (simp only []; omega)) _
set_option maxHeartbeats 4000000 in
set_option maxRecDepth 100000 in
theorem addP_any (g : Nat) (a b c d : Int) (w : World) (h : Blk w g 164 #[.int .i64 0]) (h1 : avB a b = true) (h2 : avB c d = true) (h3 : rchB (a + c) = true) (h4 : rchB (b + d) = true) :
    Calls Tryz.prog 154 #[.pointer (some ⟨g, 0, none⟩), .agg #[.int .i64 a, .int .i64 b], .agg #[.int .i64 c, .int .i64 d]] w fun e w' => e = .returned (.agg #[.int .i64 (a + c), .int .i64 (b + d)]) ∧ Below w.heap.size w w' := by
  have KC := Lib.hid (fun W => arAdd_any a b c d W h1 h2 h3 h4)
  have KK := Lib.hid (fun W (hW : Blk W g 164 #[.int .i64 0]) => keepP_any g W hW)
  generalize a + c = p at *
  generalize b + d = q at *
  clear h1 h2 h3 h4
  have A0 := Lib.hid (((Blk.new w 41 #[.int .i64 a, .int .i64 b]).alloc (.cells #[.int .i64 c, .int .i64 d] 41)).alloc (.cells #[.int .i64 0, .int .i64 0] 41))
  have C0 := Lib.hid ((Blk.new (w.alloc (.cells #[.int .i64 a, .int .i64 b] 41)) 41 #[.int .i64 c, .int .i64 d]).alloc (.cells #[.int .i64 0, .int .i64 0] 41))
  simp only [World.size_alloc] at C0
  have R0 := Lib.hid (Blk.new ((w.alloc (.cells #[.int .i64 a, .int .i64 b] 41)).alloc (.cells #[.int .i64 c, .int .i64 d] 41)) 41 #[.int .i64 0, .int .i64 0])
  simp only [World.size_alloc] at R0
  have b0 := Lib.hid ((((Below.refl w.heap.size w).alloc (Nat.le_refl _) (.cells #[.int .i64 a, .int .i64 b] 41)).alloc (by simp) (.cells #[.int .i64 c, .int .i64 d] 41)).alloc (by simp; omega) (.cells #[.int .i64 0, .int .i64 0] 41))
  have G0 := Lib.hid ((((h).alloc (.cells #[.int .i64 a, .int .i64 b] 41)).alloc (.cells #[.int .i64 c, .int .i64 d] 41)).alloc (.cells #[.int .i64 0, .int .i64 0] 41))
  clear h
  go_enter Tryz.func154, Tryz.ntmps154
  go_upto_region 1 with fail
  generalize (((w.alloc (.cells #[.int .i64 a, .int .i64 b] 41)).alloc (.cells #[.int .i64 c, .int .i64 d] 41)).alloc (.cells #[.int .i64 0, .int .i64 0] 41)) = w1 at *
  have yA : ∀ i, w1.cell? ⟨w.heap.size, i, none⟩ = (#[.int .i64 a, .int .i64 b] : Array Value)[i]? := fun i => A0.out.cell i
  have yC : ∀ i, w1.cell? ⟨w.heap.size + 1, i, none⟩ = (#[.int .i64 c, .int .i64 d] : Array Value)[i]? := fun i => C0.out.cell i
  go_wp2_with fail
  (with_reducible refine (KC.out _).mono ?_)
  rintro e w2 ⟨rfl, hb⟩
  have A2 := Lib.hid (A0.out.below hb A0.out.lt)
  have C2 := Lib.hid (C0.out.below hb C0.out.lt)
  have R2 := Lib.hid (R0.out.below hb R0.out.lt)
  have G2 := Lib.hid (G0.out.below hb G0.out.lt)
  have b2 := Lib.hid (b0.out.trans (hb.mono b0.out.size))
  clear hb A0 C0 R0 G0 b0 yA yC
  have A3 := Lib.hid (A2.out.alloc (.cells #[.int .i64 p, .int .i64 q] 41))
  have C3 := Lib.hid (C2.out.alloc (.cells #[.int .i64 p, .int .i64 q] 41))
  have R3 := Lib.hid (R2.out.alloc (.cells #[.int .i64 p, .int .i64 q] 41))
  have G3 := Lib.hid (G2.out.alloc (.cells #[.int .i64 p, .int .i64 q] 41))
  have S3 := Lib.hid (Blk.new w2 41 #[.int .i64 p, .int .i64 q])
  have b3 := Lib.hid (b2.out.trans ((bl_alloc w2 (.cells #[.int .i64 p, .int .i64 q] 41)).mono b2.out.size))
  clear A2 C2 R2 G2 b2
  go_upto_region 2 with fail
  generalize w2.alloc (.cells #[.int .i64 p, .int .i64 q] 41) = w4 at *
  go_wp2_with fail
  (with_reducible refine (KK.out _ G3.out).mono ?_)
  rintro e w5 ⟨⟨v, rfl⟩, hb⟩
  have A5 := Lib.hid (A3.out.below hb A3.out.lt)
  have C5 := Lib.hid (C3.out.below hb C3.out.lt)
  have R5 := Lib.hid (R3.out.below hb R3.out.lt)
  have G5 := Lib.hid (G3.out.below hb G3.out.lt)
  have S5 := Lib.hid (S3.out.below hb S3.out.lt)
  have b5 := Lib.hid (b3.out.trans (hb.mono b3.out.size))
  clear hb A3 C3 R3 G3 S3 b3
  have yS : ∀ i, w5.cell? ⟨w2.heap.size, i, none⟩ = (#[.int .i64 p, .int .i64 q] : Array Value)[i]? := fun i => S5.out.cell i
  have yR : ∀ i, w5.cell? ⟨w.heap.size + 1 + 1, i, none⟩ = (#[.int .i64 0, .int .i64 0] : Array Value)[i]? := fun i => R5.out.cell i
  have zR : ∀ i, w5.frozen? ⟨w.heap.size + 1 + 1, i, none⟩ = false := fun i => R5.out.frozen i
  go_wp2
  refine bodyPost_ret (v := .agg #[.int .i64 p, .int .i64 q]) (by simp [results, Tryz.results154, go_sem, *]; done) rfl ⟨rfl, ?_⟩
  exact (b5.out.setCell (by first | exact Nat.le_refl _ | (simp; done) | (simp; omega) | (simp only []; omega)) _).setCell (by first | exact Nat.le_refl _ | (simp; done) | (simp; omega) | (simp only []; omega)) _
set_option maxHeartbeats 4000000 in
set_option maxRecDepth 100000 in
theorem resP_any (g : Nat) (a b : Int) (w : World) (h : Blk w g 164 #[.int .i64 0]) :
    Calls Tryz.prog 147 #[.pointer (some ⟨g, 0, none⟩), .agg #[.int .i64 a, .int .i64 b]] w fun e w' => e = .returned (.tuple #[.agg #[.int .i64 a, .int .i64 b], .int .i64 0]) ∧ Below w.heap.size w w' := by
  have A0 := Lib.hid ((Blk.new w 41 #[.int .i64 a, .int .i64 b]).alloc (.cells #[.int .i64 0, .int .i64 0] 41))
  have R0 := Lib.hid (Blk.new (w.alloc (.cells #[.int .i64 a, .int .i64 b] 41)) 41 #[.int .i64 0, .int .i64 0])
  simp only [World.size_alloc] at R0
  have b0 := Lib.hid (((Below.refl w.heap.size w).alloc (Nat.le_refl _) (.cells #[.int .i64 a, .int .i64 b] 41)).alloc (by simp) (.cells #[.int .i64 0, .int .i64 0] 41))
  have G0 := Lib.hid (((h).alloc (.cells #[.int .i64 a, .int .i64 b] 41)).alloc (.cells #[.int .i64 0, .int .i64 0] 41))
  clear h
  go_enter Tryz.func147, Tryz.ntmps147
  go_upto_region 1 with fail
  generalize ((w.alloc (.cells #[.int .i64 a, .int .i64 b] 41)).alloc (.cells #[.int .i64 0, .int .i64 0] 41)) = w1 at *
  have yA : ∀ i, w1.cell? ⟨w.heap.size, i, none⟩ = (#[.int .i64 a, .int .i64 b] : Array Value)[i]? := fun i => A0.out.cell i
  have yR : ∀ i, w1.cell? ⟨w.heap.size + 1, i, none⟩ = (#[.int .i64 0, .int .i64 0] : Array Value)[i]? := fun i => R0.out.cell i
  have yG : ∀ i, w1.cell? ⟨g, i, none⟩ = (#[.int .i64 0] : Array Value)[i]? := fun i => G0.out.cell i
  have zR : ∀ i, w1.frozen? ⟨w.heap.size + 1, i, none⟩ = false := fun i => R0.out.frozen i
  go_wp2
  refine bodyPost_ret (v := .tuple #[.agg #[.int .i64 a, .int .i64 b], .int .i64 0]) (by simp [results, Tryz.results147, go_sem, *]; done) rfl ⟨rfl, ?_⟩
  exact (b0.out.setCell (by first | exact Nat.le_refl _ | (simp; done) | (simp; omega) | (simp only []; omega)) _).setCell (by first | exact Nat.le_refl _ | (simp; done) | (simp; omega) | (simp only []; omega)) _
set_option maxHeartbeats 1000000 in
theorem smallP_any (a b : Int) (w : World) (h : smP a b = true) : Calls Tryz.prog 145 #[.agg #[.int .i64 a, .int .i64 b]] w fun e w' => e = .returned (.bool true) ∧ Below w.heap.size w w' := by
  unfold smP at h
  rw [decide_eq_true_eq] at h
  have KV := Lib.hid (fun W => aValid_any a b W)
  rw [show avB a b = true by rw [avB_true]; omega] at KV
  have d0 : decide (0 ≤ a) = true := decide_eq_true h.1
  have d1 : decide (b ≤ 120000) = true := decide_eq_true h.2.2
  clear h
  have A0 := Lib.hid (Blk.new w 41 #[.int .i64 a, .int .i64 b])
  have b0 := Lib.hid ((Below.refl w.heap.size w).alloc (Nat.le_refl _) (.cells #[.int .i64 a, .int .i64 b] 41))
  go_enter Tryz.func145, Tryz.ntmps145
  go_upto_region 1 with fail
  generalize (w.alloc (.cells #[.int .i64 a, .int .i64 b] 41)) = w1 at *
  have yA : ∀ i, w1.cell? ⟨w.heap.size, i, none⟩ = (#[.int .i64 a, .int .i64 b] : Array Value)[i]? := fun i => A0.out.cell i
  go_wp2_with fail
  (with_reducible refine (KV.out _).mono ?_)
  rintro e w2 ⟨rfl, hb⟩
  have A2 := Lib.hid (A0.out.below hb A0.out.lt)
  have b2 := Lib.hid (b0.out.trans (hb.mono b0.out.size))
  clear hb A0 b0 yA
  have yA : ∀ i, w2.cell? ⟨w.heap.size, i, none⟩ = (#[.int .i64 a, .int .i64 b] : Array Value)[i]? := fun i => A2.out.cell i
  go_wp2
  go_ret
  exact ⟨rfl, b2.out⟩
set_option maxHeartbeats 1000000 in
theorem altP_any (a b : Int) (w : World) (h0 : -5400000 ≤ a) (h1 : a ≤ b) (h2 : b ≤ 5400000) : Calls Tryz.prog 146 #[.agg #[.int .i64 a, .int .i64 b]] w fun e w' => e = .returned (.bool true) ∧ Below w.heap.size w w' := by
  have KV := Lib.hid (fun W => aValid_any a b W)
  rw [show avB a b = true by rw [avB_true]; omega] at KV
  have d0 : decide (-5400000 ≤ a) = true := decide_eq_true h0
  have d1 : decide (b ≤ 5400000) = true := decide_eq_true h2
  clear h0 h1 h2
  have A0 := Lib.hid (Blk.new w 41 #[.int .i64 a, .int .i64 b])
  have b0 := Lib.hid ((Below.refl w.heap.size w).alloc (Nat.le_refl _) (.cells #[.int .i64 a, .int .i64 b] 41))
  go_enter Tryz.func146, Tryz.ntmps146
  go_upto_region 1 with fail
  generalize (w.alloc (.cells #[.int .i64 a, .int .i64 b] 41)) = w1 at *
  have yA : ∀ i, w1.cell? ⟨w.heap.size, i, none⟩ = (#[.int .i64 a, .int .i64 b] : Array Value)[i]? := fun i => A0.out.cell i
  go_wp2_with fail
  (with_reducible refine (KV.out _).mono ?_)
  rintro e w2 ⟨rfl, hb⟩
  have A2 := Lib.hid (A0.out.below hb A0.out.lt)
  have b2 := Lib.hid (b0.out.trans (hb.mono b0.out.size))
  clear hb A0 b0 yA
  have yA : ∀ i, w2.cell? ⟨w.heap.size, i, none⟩ = (#[.int .i64 a, .int .i64 b] : Array Value)[i]? := fun i => A2.out.cell i
  go_wp2
  go_ret
  exact ⟨rfl, b2.out⟩
theorem fv_en (lo hi : Int) : fvB (Trig.enLo lo hi) (Trig.enHi lo hi) = true := by
  have := en_le lo hi
  rw [fv_iff]
  omega
/-- the parallax in altitude -/
def pxA (a b lo hi : Int) : Int := tmA a b (Trig.enLo (lo + 5400000) (hi + 5400000)) (Trig.enHi (lo + 5400000) (hi + 5400000))
def pxB (a b lo hi : Int) : Int := tmB a b (Trig.enLo (lo + 5400000) (hi + 5400000)) (Trig.enHi (lo + 5400000) (hi + 5400000))
set_option maxHeartbeats 4000000 in
set_option maxRecDepth 100000 in
theorem InAlt_any (a b lo hi : Int) (w : World) (hs : smP a b = true) (h0 : -5400000 ≤ lo) (h1 : lo ≤ hi) (h2 : hi ≤ 5400000) :
    Calls Tryz.prog 100 #[.agg #[.int .i64 a, .int .i64 b], .agg #[.int .i64 lo, .int .i64 hi]] w fun e w' => e = .returned (.tuple #[.agg #[.int .i64 (pxA a b lo hi), .int .i64 (pxB a b lo hi)], .int .i64 0]) ∧ Below w.heap.size w w' := by
  have hs' := hs
  unfold smP at hs'
  rw [decide_eq_true_eq] at hs'
  have K1 := Lib.hid (fun W => smallP_any a b W hs)
  have K2 := Lib.hid (fun W => altP_any lo hi W h0 h1 h2)
  have K3 := Lib.hid (fun g W h => cosP_any g lo hi W h (by rw [avB_true]; omega))
  have K4 := Lib.hid (fun g W h => timesP_any g a b (Trig.enLo (lo + 5400000) (hi + 5400000)) (Trig.enHi (lo + 5400000) (hi + 5400000)) W h (by omega) (by omega) (by omega) (fv_en _ _))
  have K5 := Lib.hid (fun g W h => resP_any g (pxA a b lo hi) (pxB a b lo hi) W h)
  unfold pxA pxB at *
  generalize Trig.enLo (lo + 5400000) (hi + 5400000) = p at *
  generalize Trig.enHi (lo + 5400000) (hi + 5400000) = q at *
  generalize tmA a b p q = x at *
  generalize tmB a b p q = y at *
  clear hs hs' h0 h1 h2
  have A0 := Lib.hid (((Blk.new w 41 #[.int .i64 a, .int .i64 b]).alloc (.cells #[.int .i64 lo, .int .i64 hi] 41)).alloc (.cells #[.int .i64 0, .int .i64 0] 41))
  have H0 := Lib.hid ((Blk.new (w.alloc (.cells #[.int .i64 a, .int .i64 b] 41)) 41 #[.int .i64 lo, .int .i64 hi]).alloc (.cells #[.int .i64 0, .int .i64 0] 41))
  simp only [World.size_alloc] at H0
  have R0 := Lib.hid (Blk.new ((w.alloc (.cells #[.int .i64 a, .int .i64 b] 41)).alloc (.cells #[.int .i64 lo, .int .i64 hi] 41)) 41 #[.int .i64 0, .int .i64 0])
  simp only [World.size_alloc] at R0
  have b0 := Lib.hid ((((Below.refl w.heap.size w).alloc (Nat.le_refl _) (.cells #[.int .i64 a, .int .i64 b] 41)).alloc (by simp) (.cells #[.int .i64 lo, .int .i64 hi] 41)).alloc (by simp; omega) (.cells #[.int .i64 0, .int .i64 0] 41))
  go_enter Tryz.func100, Tryz.ntmps100
  go_upto_region 1 with fail
  generalize (((w.alloc (.cells #[.int .i64 a, .int .i64 b] 41)).alloc (.cells #[.int .i64 lo, .int .i64 hi] 41)).alloc (.cells #[.int .i64 0, .int .i64 0] 41)) = w1 at *
  have yA : ∀ i, w1.cell? ⟨w.heap.size, i, none⟩ = (#[.int .i64 a, .int .i64 b] : Array Value)[i]? := fun i => A0.out.cell i
  go_wp2_with fail
  (with_reducible refine (K1.out _).mono ?_)
  rintro e w2 ⟨rfl, hb⟩
  have A2 := Lib.hid (A0.out.below hb A0.out.lt)
  have H2 := Lib.hid (H0.out.below hb H0.out.lt)
  have R2 := Lib.hid (R0.out.below hb R0.out.lt)
  have b2 := Lib.hid (b0.out.trans (hb.mono b0.out.size))
  clear hb A0 H0 R0 b0 yA
  have yH : ∀ i, w2.cell? ⟨w.heap.size + 1, i, none⟩ = (#[.int .i64 lo, .int .i64 hi] : Array Value)[i]? := fun i => H2.out.cell i
  go_wp2_with fail
  (with_reducible refine (K2.out _).mono ?_)
  rintro e w3 ⟨rfl, hb⟩
  have A3 := Lib.hid (A2.out.below hb A2.out.lt)
  have H3 := Lib.hid (H2.out.below hb H2.out.lt)
  have R3 := Lib.hid (R2.out.below hb R2.out.lt)
  have b3 := Lib.hid (b2.out.trans (hb.mono b2.out.size))
  clear hb A2 H2 R2 b2 yH
  have A4 := Lib.hid (A3.out.alloc (.cells #[.int .i64 0] 164))
  have H4 := Lib.hid (H3.out.alloc (.cells #[.int .i64 0] 164))
  have R4 := Lib.hid (R3.out.alloc (.cells #[.int .i64 0] 164))
  have G4 := Lib.hid (Blk.new w3 164 #[.int .i64 0])
  have b4 := Lib.hid (b3.out.trans ((bl_alloc w3 (.cells #[.int .i64 0] 164)).mono b3.out.size))
  clear A3 H3 R3 b3
  go_upto_region 4 with fail
  generalize w3.alloc (.cells #[.int .i64 0] 164) = w5 at *
  have yA : ∀ (s : BQ w5) i, s.w.cell? ⟨w.heap.size, i, none⟩ = (#[.int .i64 a, .int .i64 b] : Array Value)[i]? := fun s i => (A4.out.below s.hb A4.out.lt).cell i
  have yH : ∀ (s : BQ w5) i, s.w.cell? ⟨w.heap.size + 1, i, none⟩ = (#[.int .i64 lo, .int .i64 hi] : Array Value)[i]? := fun s i => (H4.out.below s.hb H4.out.lt).cell i
  have K3q := Lib.hid (fun (s : BQ w5) => K3.out (w3.heap.size) s.w (G4.out.below s.hb G4.out.lt))
  have K4q := Lib.hid (fun (s : BQ w5) => K4.out (w3.heap.size) s.w (G4.out.below s.hb G4.out.lt))
  have K5q := Lib.hid (fun (s : BQ w5) => K5.out (w3.heap.size) s.w (G4.out.below s.hb G4.out.lt))
  refine wp_region_bqt 10 w5 (by kernel_rfl) (by kernel_rfl) (by kernel_rfl) (by kernel_rfl) (Below.refl _ _) ?_
  simp only [List.take_succ_cons, List.take_zero, List.drop_succ_cons, List.drop_zero]
  repeat (go_big_quiet_step (first | (go_at_call 149; exact quiet_bq (K3q.out _)) | (go_at_call 148; exact quiet_bq (K4q.out _)) | (go_at_call 147; exact quiet_bq (K5q.out _)) | fail))
  refine wpQuiet_nil ?_
  intro w6 hb
  have A6 := Lib.hid (A4.out.below hb A4.out.lt)
  have H6 := Lib.hid (H4.out.below hb H4.out.lt)
  have R6 := Lib.hid (R4.out.below hb R4.out.lt)
  have G6 := Lib.hid (G4.out.below hb G4.out.lt)
  have b6 := Lib.hid (b4.out.trans (hb.mono b4.out.size))
  clear hb A4 H4 R4 G4 b4 yA yH
  have yR : ∀ i, w6.cell? ⟨w.heap.size + 1 + 1, i, none⟩ = (#[.int .i64 0, .int .i64 0] : Array Value)[i]? := fun i => R6.out.cell i
  have zR : ∀ i, w6.frozen? ⟨w.heap.size + 1 + 1, i, none⟩ = false := fun i => R6.out.frozen i
  go_wp2
  refine bodyPost_ret (v := .tuple #[.agg #[.int .i64 x, .int .i64 y], .int .i64 0]) (by simp [results, Tryz.results100, go_sem, *]; done) rfl ⟨rfl, ?_⟩
  exact (b6.out.setCell (by first | exact Nat.le_refl _ | (simp; done) | (simp; omega) | (simp only []; omega)) _).setCell (by first | exact Nat.le_refl _ | (simp; done) | (simp; omega) | (simp only []; omega)) _
theorem part_any (n : Int) (w : World) : Calls Tryz.prog 153 #[.int .i64 n] w fun e w' => e = .returned (.int .i64 (max 0 (min n 1073741824))) ∧ w' = w := by
  go_enter Tryz.func153, Tryz.ntmps153
  go_wp2
  go_ret
  exact ⟨rfl, rfl⟩
/-- the product of two sines, from 0 to 1 -/
def mlA (c d lo hi : Int) : Int := min (Trig.enLo c d * Trig.enLo lo hi) (min (Trig.enLo c d * Trig.enHi lo hi) (min (Trig.enHi c d * Trig.enLo lo hi) (Trig.enHi c d * Trig.enHi lo hi))) / 1073741824
def mlB (c d lo hi : Int) : Int := -(-(max (Trig.enLo c d * Trig.enLo lo hi) (max (Trig.enLo c d * Trig.enHi lo hi) (max (Trig.enHi c d * Trig.enLo lo hi) (Trig.enHi c d * Trig.enHi lo hi)))) / 1073741824)
def agL (c d lo hi : Int) : Int := max 0 (min (min (Trig.enLo c d * Trig.enLo lo hi) (min (Trig.enLo c d * Trig.enHi lo hi) (min (Trig.enHi c d * Trig.enLo lo hi) (Trig.enHi c d * Trig.enHi lo hi))) / 1073741824) 1073741824)
def agH (c d lo hi : Int) : Int := max 0 (min (-(-(max (Trig.enLo c d * Trig.enLo lo hi) (max (Trig.enLo c d * Trig.enHi lo hi) (max (Trig.enHi c d * Trig.enLo lo hi) (Trig.enHi c d * Trig.enHi lo hi)))) / 1073741824)) 1073741824)
/-- the augmented semidiameter -/
def auA (a b c d lo hi : Int) : Int := a + tmA a b (agL c d lo hi) (agH c d lo hi)
def auB (a b c d lo hi : Int) : Int := b + tmB a b (agL c d lo hi) (agH c d lo hi)
theorem ag_bd (c d lo hi : Int) : 0 ≤ agL c d lo hi ∧ agL c d lo hi ≤ agH c d lo hi ∧ agH c d lo hi ≤ 1073741824 := by
  have e1 := en_le c d
  have e2 := en_le lo hi
  have k : ∀ m M : Int, m ≤ M → m / 1073741824 ≤ -(-M / 1073741824) := fun m M h => by omega
  unfold agL agH
  obtain ⟨x0, h0⟩ : ∃ x, Trig.enLo c d * Trig.enLo lo hi = x := ⟨_, rfl⟩
  obtain ⟨x1, h1⟩ : ∃ x, Trig.enLo c d * Trig.enHi lo hi = x := ⟨_, rfl⟩
  obtain ⟨x2, h2⟩ : ∃ x, Trig.enHi c d * Trig.enLo lo hi = x := ⟨_, rfl⟩
  obtain ⟨x3, h3⟩ : ∃ x, Trig.enHi c d * Trig.enHi lo hi = x := ⟨_, rfl⟩
  rw [h0, h1, h2, h3]
  have := k (min x0 (min x1 (min x2 x3))) (max x0 (max x1 (max x2 x3))) (by omega)
  omega
theorem sc_bd {p q n : Int} (p0 : 0 ≤ p) (pq : p ≤ q) (q1 : q ≤ 1073741824) (n0 : 0 ≤ n) : 0 ≤ scA p q n ∧ scA p q n ≤ scB p q n ∧ scB p q n ≤ n := by
  unfold scA scB
  have a1 := Int.mul_nonneg p0 n0
  have a2 := Int.mul_le_mul_of_nonneg_right pq n0
  have a3 := Int.mul_le_mul_of_nonneg_right q1 n0
  obtain ⟨x, hx⟩ : ∃ x, p * n = x := ⟨_, rfl⟩
  obtain ⟨y, hy⟩ : ∃ y, q * n = y := ⟨_, rfl⟩
  rw [hx] at a1 a2 ⊢
  rw [hy] at a2 a3 ⊢
  omega
theorem tm_bd {a b p q : Int} (a0 : 0 ≤ a) (ab : a ≤ b) (p0 : 0 ≤ p) (pq : p ≤ q) (q1 : q ≤ 1073741824) : 0 ≤ tmA a b p q ∧ tmA a b p q ≤ tmB a b p q ∧ tmB a b p q ≤ b := by
  have h1 := sc_bd p0 pq q1 a0
  have h2 := sc_bd p0 pq q1 (show 0 ≤ b by omega)
  unfold tmA tmB
  omega
theorem au_bd {a b : Int} (c d lo hi : Int) (hs : smP a b = true) : a ≤ auA a b c d lo hi ∧ auA a b c d lo hi ≤ auB a b c d lo hi ∧ auB a b c d lo hi ≤ 240000 := by
  unfold smP at hs
  rw [decide_eq_true_eq] at hs
  obtain ⟨g1, g2, g3⟩ := ag_bd c d lo hi
  have := tm_bd hs.1 hs.2.1 g1 g2 g3
  unfold auA auB
  omega
theorem fmul_yes (c d lo hi : Int) (W : World) : Calls Tryz.prog 150 #[.agg #[.int .i64 (Trig.enLo c d), .int .i64 (Trig.enHi c d)], .agg #[.int .i64 (Trig.enLo lo hi), .int .i64 (Trig.enHi lo hi)]] W fun e w' => e = .returned (.tuple #[.agg #[.int .i64 (mlA c d lo hi), .int .i64 (mlB c d lo hi)], .int .i64 0]) ∧ Below W.heap.size W w' := by
  have h := fMul_any (Trig.enLo c d) (Trig.enHi c d) (Trig.enLo lo hi) (Trig.enHi lo hi) W (fv_en _ _) (fv_en _ _)
  have e1 := en_le c d
  have e2 := en_le lo hi
  have m := fun (x y : Int) (x0 : -1073741824 ≤ x) (x1 : x ≤ 1073741824) (y0 : -1073741824 ≤ y) (y1 : y ≤ 1073741824) => (show -1152921504606846976 ≤ x * y ∧ x * y ≤ 1152921504606846976 by
    rcases Int.le_total 0 y with hy | hy
    · have a := Int.mul_le_mul_of_nonneg_right x0 hy
      have b := Int.mul_le_mul_of_nonneg_right x1 hy
      omega
    · have a := Int.mul_le_mul_of_nonneg_right x0 (show 0 ≤ -y by omega)
      have b := Int.mul_le_mul_of_nonneg_right x1 (show 0 ≤ -y by omega)
      rw [Int.mul_neg] at a b
      rw [Int.mul_neg] at a b
      omega)
  have m0 := m (Trig.enLo c d) (Trig.enLo lo hi) (by omega) (by omega) (by omega) (by omega)
  have m1 := m (Trig.enLo c d) (Trig.enHi lo hi) (by omega) (by omega) (by omega) (by omega)
  have m2 := m (Trig.enHi c d) (Trig.enLo lo hi) (by omega) (by omega) (by omega) (by omega)
  have m3 := m (Trig.enHi c d) (Trig.enHi lo hi) (by omega) (by omega) (by omega) (by omega)
  have hf : fvB (min (Trig.enLo c d * Trig.enLo lo hi) (min (Trig.enLo c d * Trig.enHi lo hi) (min (Trig.enHi c d * Trig.enLo lo hi) (Trig.enHi c d * Trig.enHi lo hi))) / 1073741824) (-(-(max (Trig.enLo c d * Trig.enLo lo hi) (max (Trig.enLo c d * Trig.enHi lo hi) (max (Trig.enHi c d * Trig.enLo lo hi) (Trig.enHi c d * Trig.enHi lo hi)))) / 1073741824)) = true := by
    rw [fv_iff]
    generalize Trig.enLo c d * Trig.enLo lo hi = x0 at *
    generalize Trig.enLo c d * Trig.enHi lo hi = x1 at *
    generalize Trig.enHi c d * Trig.enLo lo hi = x2 at *
    generalize Trig.enHi c d * Trig.enHi lo hi = x3 at *
    omega
  unfold fitV at h
  rw [if_pos hf] at h
  exact h
end Go.Proofs.YtbpnacacnncopaaGreatDoor
