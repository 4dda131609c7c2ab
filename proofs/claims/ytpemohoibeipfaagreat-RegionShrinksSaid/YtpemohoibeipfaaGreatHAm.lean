/- The walk of place.around. -/
import Derived.Test.YtpemohoibeipfaaGreatHJe
import Derived.Test.YtpemohoibeipfaaGreatHWm
set_option linter.unusedVariables false
set_option linter.unusedSimpArgs false
namespace Go.Proofs.YtpemohoibeipfaaGreat
open Go.RowKit
set_option maxHeartbeats 400000 in
theorem r5Sub_any (a b c d : Int) (w : World) (h0 : -2000000000000 ≤ a) (h1 : a ≤ 2000000000000) (h2 : -2000000000000 ≤ b) (h3 : b ≤ 2000000000000) (h4 : -2000000000000 ≤ c) (h5 : c ≤ 2000000000000) (h6 : -2000000000000 ≤ d) (h7 : d ≤ 2000000000000) :
    Calls Tryz.prog 190 #[.agg #[.int .i64 a, .int .i64 b], .agg #[.int .i64 c, .int .i64 d]] w fun e w' => e = .returned (.agg #[.int .i64 (a - d), .int .i64 (b - c)]) ∧ Below w.heap.size w w' := by
  go_enter Tryz.func190, Tryz.ntmps190
  go_wp2
  refine bodyPost_ret (v := .agg #[.int .i64 (a - d), .int .i64 (b - c)]) (by simp [results, Tryz.results190, go_sem, *]; done) rfl ⟨rfl, ?_⟩
  repeat (first | exact Below.refl _ _ | assumption | refine bl_drew ?_ | refine bl_drewN ?_ _ | refine Below.setCell ?_ (by first | assumption | omega | (simp; done) | (simp; omega)) _ | refine Below.alloc ?_ (by first | assumption | omega | (simp; done) | (simp; omega)) _)
theorem blk6 {W : World} {g : Nat} {t : TypeId} {z : Value} (h : Blk W g t #[z, z, z, z, z, z]) (u0 u1 u2 u3 u4 u5 : Value) : Blk ((((((W.setCell ⟨g, 0, none⟩ u0).setCell ⟨g, 1, none⟩ u1).setCell ⟨g, 2, none⟩ u2).setCell ⟨g, 3, none⟩ u3).setCell ⟨g, 4, none⟩ u4).setCell ⟨g, 5, none⟩ u5) g t #[u0, u1, u2, u3, u4, u5] := by
  have := ((((((h.set_ 0 u0).set_ 1 u1).set_ 2 u2).set_ 3 u3).set_ 4 u4).set_ 5 u5)
  simp only [List.setIfInBounds_toArray, List.set_cons_zero, List.set_cons_succ] at this
  exact this
theorem bl6 {B : Nat} {a w : World} {g : Nat} (h : Below B a w) (hg : B ≤ g) (u0 u1 u2 u3 u4 u5 : Value) : Below B a ((((((w.setCell ⟨g, 0, none⟩ u0).setCell ⟨g, 1, none⟩ u1).setCell ⟨g, 2, none⟩ u2).setCell ⟨g, 3, none⟩ u3).setCell ⟨g, 4, none⟩ u4).setCell ⟨g, 5, none⟩ u5) :=
  ((((((h.setCell hg u0).setCell hg u1).setCell hg u2).setCell hg u3).setCell hg u4).setCell hg u5)
theorem triS {W0 w' : World} {g k : Nat} {t t' : TypeId} {a0 a1 b0 b1 q0 q1 q2 q3 : Int} {z0 z1 : Value} (h : Blk W0 g t #[.int .i64 a0, .int .i64 a1, .int .i64 b0, .int .i64 b1, z0, z1]) (h' : Blk W0 k t' #[.int .i64 q0, .int .i64 q1, .int .i64 q2, .int .i64 q3]) (hb : Below W0.heap.size W0 w') :
    w'.cell? ⟨g, 0, none⟩ = some (.int .i64 a0) ∧ w'.cell? ⟨g, 1, none⟩ = some (.int .i64 a1) ∧ w'.cell? ⟨g, 2, none⟩ = some (.int .i64 b0) ∧ w'.cell? ⟨g, 3, none⟩ = some (.int .i64 b1) ∧ w'.cell? ⟨k, 0, none⟩ = some (.int .i64 q0) ∧ w'.cell? ⟨k, 1, none⟩ = some (.int .i64 q1) ∧ w'.cell? ⟨k, 2, none⟩ = some (.int .i64 q2) ∧ w'.cell? ⟨k, 3, none⟩ = some (.int .i64 q3) ∧ Below W0.heap.size W0 w' := by
  have u := h.below hb h.lt
  have v := h'.below hb h'.lt
  exact ⟨u.cell 0, u.cell 1, u.cell 2, u.cell 3, v.cell 0, v.cell 1, v.cell 2, v.cell 3, hb⟩
set_option maxHeartbeats 4000000 in
set_option maxRecDepth 100000 in
theorem Triangle2_any (a0 a1 b0 b1 r0 r1 q0 q1 q2 q3 : Int) (w : World) (h4 : -40000000 ≤ b0 ∧ b0 ≤ 40000000 ∧ -40000000 ≤ b1 ∧ b1 ≤ 40000000 ∧ -40000000 ≤ q2 ∧ q2 ≤ 40000000 ∧ -40000000 ≤ q3 ∧ q3 ≤ 40000000) :
    Calls Tryz.prog 158 #[.agg #[.int .i64 a0, .int .i64 a1, .int .i64 b0, .int .i64 b1, .int .i64 r0, .int .i64 r1], .agg #[.int .i64 q0, .int .i64 q1, .int .i64 q2, .int .i64 q3]] w fun e w' => e = .returned (.agg #[.int .i64 q0, .int .i64 q1, .int .i64 a0, .int .i64 a1, .int .i64 (q2 - b1), .int .i64 (q3 - b0)]) ∧ Below w.heap.size w w' := by
  have KS := Lib.hid (fun W => r5Sub_any q2 q3 b0 b1 W (by omega) (by omega) (by omega) (by omega) (by omega) (by omega) (by omega) (by omega))
  generalize q2 - b1 = y0 at *
  generalize q3 - b0 = y1 at *
  clear h4
  have T1 := Lib.hid (((Blk.new w 36 #[.int .i64 a0, .int .i64 a1, .int .i64 b0, .int .i64 b1, .int .i64 r0, .int .i64 r1]).alloc (.cells #[.int .i64 q0, .int .i64 q1, .int .i64 q2, .int .i64 q3] 43)).alloc (.cells #[.int .i64 0, .int .i64 0, .int .i64 0, .int .i64 0, .int .i64 0, .int .i64 0] 78))
  have T2 : Hid (Blk (((w.alloc (.cells #[.int .i64 a0, .int .i64 a1, .int .i64 b0, .int .i64 b1, .int .i64 r0, .int .i64 r1] 36)).alloc (.cells #[.int .i64 q0, .int .i64 q1, .int .i64 q2, .int .i64 q3] 43)).alloc (.cells #[.int .i64 0, .int .i64 0, .int .i64 0, .int .i64 0, .int .i64 0, .int .i64 0] 78)) (w.heap.size + 1) 43 #[.int .i64 q0, .int .i64 q1, .int .i64 q2, .int .i64 q3]) := Lib.hid (by
    have := (Blk.new (w.alloc (.cells #[.int .i64 a0, .int .i64 a1, .int .i64 b0, .int .i64 b1, .int .i64 r0, .int .i64 r1] 36)) 43 #[.int .i64 q0, .int .i64 q1, .int .i64 q2, .int .i64 q3]).alloc (.cells #[.int .i64 0, .int .i64 0, .int .i64 0, .int .i64 0, .int .i64 0, .int .i64 0] 78)
    rwa [World.size_alloc] at this)
  have TR : Hid (Blk (((w.alloc (.cells #[.int .i64 a0, .int .i64 a1, .int .i64 b0, .int .i64 b1, .int .i64 r0, .int .i64 r1] 36)).alloc (.cells #[.int .i64 q0, .int .i64 q1, .int .i64 q2, .int .i64 q3] 43)).alloc (.cells #[.int .i64 0, .int .i64 0, .int .i64 0, .int .i64 0, .int .i64 0, .int .i64 0] 78)) (w.heap.size + 1 + 1) 78 #[.int .i64 0, .int .i64 0, .int .i64 0, .int .i64 0, .int .i64 0, .int .i64 0]) := Lib.hid (by
    have := Blk.new ((w.alloc (.cells #[.int .i64 a0, .int .i64 a1, .int .i64 b0, .int .i64 b1, .int .i64 r0, .int .i64 r1] 36)).alloc (.cells #[.int .i64 q0, .int .i64 q1, .int .i64 q2, .int .i64 q3] 43)) 78 #[.int .i64 0, .int .i64 0, .int .i64 0, .int .i64 0, .int .i64 0, .int .i64 0]
    rwa [World.size_alloc, World.size_alloc] at this)
  have B0 := Lib.hid (((bl_alloc w (.cells #[.int .i64 a0, .int .i64 a1, .int .i64 b0, .int .i64 b1, .int .i64 r0, .int .i64 r1] 36)).alloc (by simp) (.cells #[.int .i64 q0, .int .i64 q1, .int .i64 q2, .int .i64 q3] 43)).alloc (by simp; omega) (.cells #[.int .i64 0, .int .i64 0, .int .i64 0, .int .i64 0, .int .i64 0, .int .i64 0] 78))
  go_enter Tryz.func158, Tryz.ntmps158
  go_upto_region 1 with (fail)
  generalize ((w.alloc (.cells #[.int .i64 a0, .int .i64 a1, .int .i64 b0, .int .i64 b1, .int .i64 r0, .int .i64 r1] 36)).alloc (.cells #[.int .i64 q0, .int .i64 q1, .int .i64 q2, .int .i64 q3] 43)).alloc (.cells #[.int .i64 0, .int .i64 0, .int .i64 0, .int .i64 0, .int .i64 0, .int .i64 0] 78) = W0 at *
  obtain ⟨x0, x1, x2, x3, x4, x5, x6, x7, -⟩ := triS T1.out T2.out (Below.refl _ _)
  have hn1 : ¬ w.heap.size + 1 + 1 = w.heap.size := by omega
  have hn2 : ¬ w.heap.size + 1 + 1 = w.heap.size + 1 := by omega
  go_region_held3 (fun w' => w'.cell? ⟨w.heap.size, 0, none⟩ = some (.int .i64 a0) ∧ w'.cell? ⟨w.heap.size, 1, none⟩ = some (.int .i64 a1) ∧ w'.cell? ⟨w.heap.size, 2, none⟩ = some (.int .i64 b0) ∧ w'.cell? ⟨w.heap.size, 3, none⟩ = some (.int .i64 b1) ∧ w'.cell? ⟨w.heap.size + 1, 0, none⟩ = some (.int .i64 q0) ∧ w'.cell? ⟨w.heap.size + 1, 1, none⟩ = some (.int .i64 q1) ∧ w'.cell? ⟨w.heap.size + 1, 2, none⟩ = some (.int .i64 q2) ∧ w'.cell? ⟨w.heap.size + 1, 3, none⟩ = some (.int .i64 q3)) (simp [*, World.cell?_setCell_other]) (first
    | (go_at_call 190; (with_reducible refine (KS.out _).mono ?_); rintro e w9 ⟨rfl, hb9⟩; (first | (replace hb9 := first_b hb9) | skip); have Z9 := hb9; clear x0 x1 x2 x3 x4 x5 x6 x7; have B9 := Lib.hid (B0.out.trans (Z9.mono B0.out.size)); have T9 := Lib.hid (TR.out.below Z9 TR.out.lt); obtain ⟨x0, x1, x2, x3, x4, x5, x6, x7, -⟩ := triS T1.out T2.out Z9; have z9 := fun i => T9.out.cell i; have f9 := fun i => T9.out.frozen i)
    | fail)
  all_goals
    have hB := B9.out
    have HZ := Lib.hid T9.out
    clear x0 x1 x2 x3 x4 x5 x6 x7 KS T1 T2 TR T9
    go_wp2
    clear z9 f9
    generalize hW : World.setCell _ (⟨w.heap.size + 1 + 1, 5, none⟩ : Addr) _ = W6
    have TB : Blk W6 (w.heap.size + 1 + 1) 78 #[.int .i64 q0, .int .i64 q1, .int .i64 a0, .int .i64 a1, .int .i64 y0, .int .i64 y1] := by
      rw [← hW]
      with_reducible exact blk6 HZ.out _ _ _ _ _ _
    have hBW : Below w.heap.size w W6 := by
      rw [← hW]
      with_reducible exact bl6 hB (Nat.le_succ_of_le (Nat.le_succ _)) _ _ _ _ _ _
    have z := fun i => TB.cell i
    clear hW hB HZ TB
    have c0 : W6.cell? ⟨w.heap.size + 1 + 1, 0, none⟩ = some (.int .i64 q0) := z 0
    have c1 : W6.cell? ⟨w.heap.size + 1 + 1, 1, none⟩ = some (.int .i64 q1) := z 1
    have c2 : W6.cell? ⟨w.heap.size + 1 + 1, 2, none⟩ = some (.int .i64 a0) := z 2
    have c3 : W6.cell? ⟨w.heap.size + 1 + 1, 3, none⟩ = some (.int .i64 a1) := z 3
    have c4 : W6.cell? ⟨w.heap.size + 1 + 1, 4, none⟩ = some (.int .i64 y0) := z 4
    have c5 : W6.cell? ⟨w.heap.size + 1 + 1, 5, none⟩ = some (.int .i64 y1) := z 5
    clear z
    refine bodyPost_ret (v := .agg #[.int .i64 q0, .int .i64 q1, .int .i64 a0, .int .i64 a1, .int .i64 y0, .int .i64 y1]) ?_ rfl ⟨rfl, hBW⟩
    clear hBW
    simp [results, Tryz.results158, go_sem, c0, c1, c2, c3, c4, c5]
end Go.Proofs.YtpemohoibeipfaaGreat
namespace Go.Proofs.YtpemohoibeipfaaGreat
open Go.RowKit
/-- two cells that are known -/
structure K2 (W : World) (g : Nat) (a b : Int) : Prop where
  lt : g < W.heap.size
  c0 : W.cell? ⟨g, 0, none⟩ = some (.int .i64 a)
  c1 : W.cell? ⟨g, 1, none⟩ = some (.int .i64 b)
  f0 : W.frozen? ⟨g, 0, none⟩ = false
  f1 : W.frozen? ⟨g, 1, none⟩ = false
section
variable {W W' : World} {g : Nat} {a b : Int}
theorem K2.below {B : Nat} (h : K2 W g a b) (hb : Below B W W') (hB : g < B) : K2 W' g a b :=
  ⟨Nat.lt_of_lt_of_le h.lt hb.size, (hb.cell (p := ⟨g, 0, none⟩) hB).trans h.c0, (hb.cell (p := ⟨g, 1, none⟩) hB).trans h.c1, (hb.frozen (p := ⟨g, 0, none⟩) hB).trans h.f0, (hb.frozen (p := ⟨g, 1, none⟩) hB).trans h.f1⟩
theorem K2.alloc (h : K2 W g a b) (o : Obj) : K2 (W.alloc o) g a b := h.below (bl_alloc W o) h.lt
theorem K2.new (W : World) (a b : Int) (t : TypeId) : K2 (W.alloc (.cells #[.int .i64 a, .int .i64 b] t)) W.heap.size a b := ⟨by simp, by simp, by simp, by simp, by simp⟩
theorem K2.far (h : K2 W g a b) {p : Addr} (hp : g ≠ p.block) (u : Value) : K2 (W.setCell p u) g a b := by
  have hne : ∀ i, p ≠ (⟨g, i, none⟩ : Addr) := fun i e => hp (by rw [e])
  refine ⟨by simpa using h.lt, ?_, ?_, ?_, ?_⟩
  · rw [World.cell?_setCell_other _ _ _ _ (hne 0)]; exact h.c0
  · rw [World.cell?_setCell_other _ _ _ _ (hne 1)]; exact h.c1
  · simpa using h.f0
  · simpa using h.f1
theorem K2.set0 (h : K2 W g a b) (v : Int) : K2 (W.setCell ⟨g, 0, none⟩ (.int .i64 v)) g v b := by
  refine ⟨by simpa using h.lt, World.cell?_setCell_same _ _ _ h.c0, ?_, by simpa using h.f0, by simpa using h.f1⟩
  rw [World.cell?_setCell_other _ _ _ _ (by simp)]
  exact h.c1
theorem K2.set1 (h : K2 W g a b) (v : Int) : K2 (W.setCell ⟨g, 1, none⟩ (.int .i64 v)) g a v := by
  refine ⟨by simpa using h.lt, ?_, World.cell?_setCell_same _ _ _ h.c1, by simpa using h.f0, by simpa using h.f1⟩
  rw [World.cell?_setCell_other _ _ _ _ (by simp)]
  exact h.c0
end
/-- the width that arcs need from a beginning on -/
def wdt (D : List Sp) (a : Int) (k : Nat) : Int := (D.take k).foldl (fun w b => max w ((b.1 - a) % 21600000 + b.2 - b.1)) 0
def OkA (D : List Sp) : Prop := ∀ x ∈ D, -10800000 ≤ x.1 ∧ x.1 ≤ 10800000 ∧ x.1 ≤ x.2 ∧ x.2 ≤ x.1 + 21600000
theorem wdt_succ (D : List Sp) (a : Int) (k : Nat) (hk : k < D.length) : wdt D a (k + 1) = max (wdt D a k) (((gs D k).1 - a) % 21600000 + (gs D k).2 - (gs D k).1) := by
  unfold wdt
  rw [List.take_succ_eq_append_getElem hk, List.foldl_append]
  simp [gs, hk]
theorem wdt_bd (D : List Sp) (a : Int) (hD : OkA D) (k : Nat) (hk : k ≤ D.length) : 0 ≤ wdt D a k ∧ wdt D a k < 43200000 := by
  induction k with
  | zero => simp [wdt]
  | succ k ih =>
    have h := ih (by omega)
    rw [wdt_succ D a k (by omega)]
    have := hD (gs D k) (by have : k < D.length := by omega
                            simp [gs, this])
    omega
def isAll (x : Sp) : Bool := aeq x.1 x.2 (-10800000) 10800000
/-- the best arc and its width, one arc more looked at -/
def stepA (D : List Sp) (s : Sp × Int) (a : Sp) : Sp × Int := if wdt D a.1 D.length < s.2 ∨ (wdt D a.1 D.length = s.2 ∧ wdt D a.1 D.length < 21600000 ∧ a.1 < s.1.1) then ((a.1, a.1 + wdt D a.1 D.length), wdt D a.1 D.length) else s
def foldA (D : List Sp) (k : Nat) : Sp × Int := (D.take k).foldl (stepA D) (((-10800000 : Int), (10800000 : Int)), (21600000 : Int))
/-- what place.around returns -/
def arnd (D : List Sp) : Sp := (foldA D (D.findIdx isAll)).1
theorem foldA_succ (D : List Sp) (k : Nat) (hk : k < D.length) : foldA D (k + 1) = stepA D (foldA D k) (gs D k) := by
  unfold foldA
  rw [List.take_succ_eq_append_getElem hk, List.foldl_append]
  simp [gs, hk]
theorem foldA_bd (D : List Sp) (hD : OkA D) (k : Nat) (hk : k ≤ D.length) : -10800000 ≤ (foldA D k).1.1 ∧ (foldA D k).1.1 ≤ 10800000 ∧ 0 ≤ (foldA D k).2 ∧ (foldA D k).2 ≤ 21600000 := by
  induction k with
  | zero => simp [foldA]
  | succ k ih =>
    have h := ih (by omega)
    rw [foldA_succ D k (by omega)]
    have h1 := hD (gs D k) (by have : k < D.length := by omega
                               simp [gs, this])
    have h2 := wdt_bd D (gs D k).1 hD D.length (Nat.le_refl _)
    unfold stepA
    split
    · simp only []
      omega
    · exact h
set_option maxHeartbeats 4000000 in
set_option maxRecDepth 100000 in
theorem fixArnd_any (A : Option Addr) (n c : Nat) (D : List Sp) (w : World) (hr : Reads w w.heap.size 2 A n (spvs D)) (hn : n ≤ 100000) (hD : OkA D) :
    Calls Tryz.prog 62 #[.slice A n c] w fun e w' => e = .returned (.agg #[.int .i64 (arnd D).1, .int .i64 (arnd D).2]) ∧ Below w.heap.size w w' := by
  have HL : Hid (D.length = n) := Lib.hid (by have := hr.1; rw [spvs_length] at this; omega)
  have HR := Lib.hid hr
  have HD := Lib.hid hD
  have KE := Lib.hid everywhere_any
  have KA := Lib.hid all_any
  obtain ⟨⟨r0, r1⟩, hR⟩ : ∃ R, R = arnd D := ⟨_, rfl⟩
  rw [← hR]
  have HRR := Lib.hid hR
  clear hr hD hR
  go_enter Tryz.func62, Tryz.ntmps62
  go_wp2_with fail
  (with_reducible refine (KE.out _).mono ?_)
  rintro e w1 ⟨rfl, hb1⟩
  have Z1 := Lib.hid ((K2.new w 0 0 32).below hb1 (by simp))
  have B1 := Lib.hid ((((Below.refl w.heap.size w).alloc (Nat.le_refl _) (.cells #[.int .i64 0, .int .i64 0] 32)).trans (hb1.mono (by simp))))
  have hlt1 := (Z1.out).lt
  have N1 := Lib.hid (K2.new w1 (-10800000) 10800000 32)
  have Z2 := Lib.hid (Z1.out.alloc (.cells #[.int .i64 (-10800000), .int .i64 10800000] 32))
  have B2 := Lib.hid (B1.out.alloc (by have := B1.out.size; omega) (.cells #[.int .i64 (-10800000), .int .i64 10800000] 32))
  clear Z1 B1 hb1 KE
  go_wp2
  go_loopw [4, 13] (fun v i wr => ∃ k : Nat, k ≤ n ∧ i = .int .i64 k ∧ v = .int .i64 (foldA D k).2 ∧ (∀ j, j < k → isAll (gs D j) = false) ∧ K2 wr w.heap.size 0 0 ∧ K2 wr w1.heap.size (foldA D k).1.1 (foldA D k).1.2 ∧ Below w.heap.size w wr) (fun _ i _ => n - (intOf i).toNat)
  case atStart => exact ⟨0, Nat.zero_le _, rfl, rfl, fun j hj => by omega, Z2.out, N1.out, B2.out⟩
  case round =>
    obtain ⟨k, hk, rfl, rfl, hno, hZ, hN, hbr⟩ := hrel
    clear Z2 N1 B2
    have HZ := Lib.hid hZ
    have HN := Lib.hid hN
    have HNO := Lib.hid hno
    clear hZ hN hno
    by_cases hlt : k < n
    · obtain ⟨b, off, rfl, hb, x0, x1⟩ := SReads.elem HR.out hlt
      have y0 := (hbr.cell (p := ⟨b, off + k * 2, none⟩) hb).trans x0
      have y1 := (hbr.cell (p := ⟨b, off + k * 2 + 1, none⟩) hb).trans x1
      clear x0 x1
      have hdk := HD.out (gs D k) (by have hkl : k < D.length := by rw [HL.out]; exact hlt
                                      simp [gs, hkl])
      have HF := Lib.hid (foldA_succ D k (by rw [HL.out]; exact hlt))
      have HFB := Lib.hid (foldA_bd D HD.out k (by rw [HL.out]; omega))
      obtain ⟨x, hx⟩ : ∃ x, x = gs D k := ⟨_, rfl⟩
      rw [← hx] at y0 y1 hdk HF
      have HX := Lib.hid hx
      clear hx
      obtain ⟨p, q⟩ := x
      simp only [] at y0 y1 hdk HF
      obtain ⟨⟨⟨s0, s1⟩, s2⟩, hs⟩ : ∃ s, s = foldA D k := ⟨_, rfl⟩
      rw [← hs] at HF HN HFB
      simp only [← hs]
      have HS := Lib.hid hs
      clear hs
      simp only [] at HF HN HFB
      have hz := hbr.size
      go_wp2_with fail
      (with_reducible refine (KA.out p q _).mono ?_)
      rintro e w2 ⟨rfl, hb2⟩
      have HA2 := Lib.hid ((K2.new wr p q 32).below hb2 (by simp))
      have HZ2 := Lib.hid ((HZ.out.alloc (.cells #[.int .i64 p, .int .i64 q] 32)).below hb2 (by have := HZ.out.lt; simp; omega))
      have HN2 := Lib.hid ((HN.out.alloc (.cells #[.int .i64 p, .int .i64 q] 32)).below hb2 (by have := HN.out.lt; simp; omega))
      have b2 := (hbr.alloc hz (.cells #[.int .i64 p, .int .i64 q] 32)).trans (hb2.mono (by simp; omega))
      have ln := HN.out.lt
      have lz := HZ.out.lt
      clear hb2 HZ HN hbr y0 y1
      generalize wr.heap.size = g6 at *
      cases hall : aeq p q (-10800000) 10800000 with
      | true =>
        have hfi : D.findIdx isAll = k := by
          have hkl : k < D.length := by rw [HL.out]; exact hlt
          rw [List.findIdx_eq hkl]
          refine ⟨?_, fun j hj => ?_⟩
          · have : D[k] = gs D k := by simp [gs, hkl]
            rw [this, ← HX.out]
            exact hall
          · have hjl : j < D.length := by omega
            have : D[j] = gs D j := by simp [gs, hjl]
            rw [this]
            exact HNO.out j hj
        have hres : arnd D = (s0, s1) := by unfold arnd; rw [hfi, ← HS.out]
        obtain ⟨rfl, rfl⟩ := Prod.mk.inj (HRR.out.trans hres)
        obtain ⟨zt, z0, z1, zf0, zf1⟩ := HZ2.out
        obtain ⟨nt, n0, n1, -, -⟩ := HN2.out
        go_wp2
        refine bodyPost_ret (v := .agg #[.int .i64 r0, .int .i64 r1]) (by simp [results, Tryz.results62, go_sem, *]; done) rfl ⟨rfl, ?_⟩
        exact (b2.setCell (by simp) _).setCell (by simp) _
      | false =>
        have HNO2 : Hid (∀ j, j < k + 1 → isAll (gs D j) = false) := Lib.hid (fun j hj => by
          by_cases hjk : j < k
          · exact HNO.out j hjk
          · obtain rfl : j = k := by omega
            rw [← HX.out]
            exact hall)
        go_wp2
        go_loopw [7, 22] (fun v i wq => ∃ j : Nat, j ≤ n ∧ i = .int .i64 j ∧ v = .int .i64 (wdt D p j) ∧ K2 wq w.heap.size 0 0 ∧ K2 wq w1.heap.size s0 s1 ∧ K2 wq g6 p q ∧ Below w.heap.size w wq) (fun _ i _ => n - (intOf i).toNat)
        case atStart => exact ⟨0, Nat.zero_le _, rfl, rfl, HZ2.out, HN2.out, HA2.out, b2⟩
        case round =>
          obtain ⟨j, hj, rfl, rfl, hZ, hN, hA, hbq⟩ := hrel
          clear HZ2 HN2 HA2 b2
          have HZ := Lib.hid hZ
          have HN := Lib.hid hN
          have HA := Lib.hid hA
          clear hZ hN hA
          by_cases hjt : j < n
          · obtain ⟨b', off', e, hb', x0, x1⟩ := SReads.elem HR.out hjt
            cases e
            have y0 := (hbq.cell (p := ⟨b, off + j * 2, none⟩) hb).trans x0
            have y1 := (hbq.cell (p := ⟨b, off + j * 2 + 1, none⟩) hb).trans x1
            clear x0 x1
            have hdj := HD.out (gs D j) (by have hkl : j < D.length := by rw [HL.out]; exact hjt
                                            simp [gs, hkl])
            have HW := Lib.hid (wdt_succ D p j (by rw [HL.out]; exact hjt))
            have HWB := wdt_bd D p HD.out j (by rw [HL.out]; omega)
            generalize gs D j = x at y0 y1 hdj HW
            obtain ⟨u, v⟩ := x
            simp only [] at y0 y1 hdj HW
            have KB := Lib.hid (fun W => beyond_any p q u W (by omega) (by omega) (by omega) (by omega))
            have hm : 0 ≤ (u - p) % 21600000 ∧ (u - p) % 21600000 < 21600000 := by omega
            generalize (u - p) % 21600000 = m at *
            generalize wdt D p j = t at *
            have n1 : wrap64 (m + v) = m + v := IntWalk.wrap64_in _ (by omega)
            have n2 : wrap64 (m + v - u) = m + v - u := IntWalk.wrap64_in _ (by omega)
            have hz2 := hbq.size
            go_upto_region 12 with (fail)
            obtain ⟨WW, hWW⟩ : ∃ W, W = wr.alloc (.cells #[.int .i64 u, .int .i64 v] 32) := ⟨_, rfl⟩
            have HU := K2.new wr u v 32
            have HA3 := HA.out.alloc (.cells #[.int .i64 u, .int .i64 v] 32)
            have HZ3 := Lib.hid (HZ.out.alloc (.cells #[.int .i64 u, .int .i64 v] 32))
            have HN3 := Lib.hid (HN.out.alloc (.cells #[.int .i64 u, .int .i64 v] 32))
            have b3 := hbq.alloc hz2 (.cells #[.int .i64 u, .int .i64 v] 32)
            rw [← hWW] at HU HA3 HZ3 HN3 b3 ⊢
            have c0 : ∀ s : BV WW, s.w.cell? ⟨g6, 0, none⟩ = some (.int .i64 p) := fun s => (HA3.below s.hb HA3.lt).c0
            have c1 : ∀ s : BV WW, s.w.cell? ⟨g6, 1, none⟩ = some (.int .i64 q) := fun s => (HA3.below s.hb HA3.lt).c1
            have c2 : ∀ s : BV WW, s.w.cell? ⟨wr.heap.size, 0, none⟩ = some (.int .i64 u) := fun s => (HU.below s.hb HU.lt).c0
            have c3 : ∀ s : BV WW, s.w.cell? ⟨wr.heap.size, 1, none⟩ = some (.int .i64 v) := fun s => (HU.below s.hb HU.lt).c1
            have HA4 := Lib.hid HA3
            clear HU HA3 hWW y0 y1 HA HZ HN hbq
            refine wp_region_bv WW (by kernel_rfl) (by kernel_rfl) (Below.refl _ _) ?_
            (repeat (go_big_quiet_step (first | (go_at_call 109; with_reducible exact quiet_bv (KB.out _)) | fail)))
            refine wpQuiet_nil ?_
            intro w9 hb9
            clear c0 c1 c2 c3
            go_wp2
            go_roundw
            case rel => exact ⟨j + 1, by omega, by go_num, by rw [HW.out], HZ3.out.below hb9 HZ3.out.lt, HN3.out.below hb9 HN3.out.lt, HA4.out.below hb9 HA4.out.lt, b3.trans (hb9.mono b3.size)⟩
            case measure => simp [intOf]; omega
          · obtain rfl : j = n := by omega
            have hwb := wdt_bd D p HD.out j (by rw [HL.out]; exact Nat.le_refl _)
            have HF2 : Hid (foldA D (k + 1) = if wdt D p j < s2 ∨ (wdt D p j = s2 ∧ wdt D p j < 21600000 ∧ p < s0) then ((p, p + wdt D p j), wdt D p j) else ((s0, s1), s2)) := Lib.hid (by rw [HF.out]; unfold stepA; rw [HL.out])
            generalize wdt D p j = t at *
            have hfb := HFB.out
            have n3 : wrap64 (p + t) = p + t := IntWalk.wrap64_in _ (by omega)
            have hzq := hbq.size
            obtain ⟨nt, e0, e1, ef0, ef1⟩ := HN.out
            obtain ⟨gt1, a0, a1, -, -⟩ := HA.out
            by_cases hc : t < s2 ∨ (t = s2 ∧ t < 21600000 ∧ p < s0)
            · rw [if_pos hc] at HF2
              rcases hc with c1 | ⟨c1, c2, c3⟩
              · go_wp2
                go_roundw
                case rel => exact ⟨k + 1, by omega, by go_num, by rw [HF2.out], HNO2.out, (HZ.out.far (by simp only []; omega) _).far (by simp only []; omega) _, by rw [HF2.out]; exact (HN.out.set0 p).set1 (p + t), (hbq.setCell (by simp only []; omega) _).setCell (by simp only []; omega) _⟩
                case measure => simp [intOf]; omega
              · subst c1
                go_wp2
                go_roundw
                case rel => exact ⟨k + 1, by omega, by go_num, by rw [HF2.out], HNO2.out, (HZ.out.far (by simp only []; omega) _).far (by simp only []; omega) _, by rw [HF2.out]; exact (HN.out.set0 p).set1 (p + t), (hbq.setCell (by simp only []; omega) _).setCell (by simp only []; omega) _⟩
                case measure => simp [intOf]; omega
            · rw [if_neg hc] at HF2
              have c1 : ¬ t < s2 := fun h => hc (.inl h)
              by_cases c2 : t = s2
              · subst c2
                by_cases c3 : t < 21600000
                · have c4 : ¬ p < s0 := fun h => hc (.inr ⟨rfl, c3, h⟩)
                  clear hc
                  go_wp2
                  go_roundw
                  case rel => exact ⟨k + 1, by omega, by go_num, by rw [HF2.out], HNO2.out, HZ.out, by rw [HF2.out]; exact HN.out, hbq⟩
                  case measure => simp [intOf]; omega
                · clear hc
                  go_wp2
                  go_roundw
                  case rel => exact ⟨k + 1, by omega, by go_num, by rw [HF2.out], HNO2.out, HZ.out, by rw [HF2.out]; exact HN.out, hbq⟩
                  case measure => simp [intOf]; omega
              · clear hc
                go_wp2
                go_roundw
                case rel => exact ⟨k + 1, by omega, by go_num, by rw [HF2.out], HNO2.out, HZ.out, by rw [HF2.out]; exact HN.out, hbq⟩
                case measure => simp [intOf]; omega
    · obtain rfl : k = n := by omega
      have hres : arnd D = (foldA D k).1 := by
        unfold arnd
        rw [List.findIdx_eq_length.2 (fun x hx => ?_), HL.out]
        obtain ⟨j, hj, rfl⟩ := List.getElem_of_mem hx
        have : D[j] = gs D j := by simp [gs, hj]
        rw [this]
        exact HNO.out j (by rw [← HL.out]; exact hj)
      have hres2 := HRR.out.trans hres
      generalize foldA D k = s at *
      obtain ⟨⟨s0, s1⟩, s2⟩ := s
      simp only [] at HN hres2
      obtain ⟨rfl, rfl⟩ := Prod.mk.inj hres2
      obtain ⟨zt, z0, z1, zf0, zf1⟩ := HZ.out
      obtain ⟨nt, n0, n1, -, -⟩ := HN.out
      go_wp2
      refine bodyPost_ret (v := .agg #[.int .i64 r0, .int .i64 r1]) (by simp [results, Tryz.results62, go_sem, *]; done) rfl ⟨rfl, ?_⟩
      exact (hbr.setCell (by simp) _).setCell (by simp) _
end Go.Proofs.YtpemohoibeipfaaGreat
