/- A drawn region that makes some intervals, each in a block of its own: what it leaves. -/
import Derived.Lib.Hide
import Derived.Orders
import Derived.Test.YtifdgdgfmjfbdaaGreatHAg
import Derived.Test.YtifdgdgfmjfbdaaGreatHTf
import Derived.Test.YtifdgdgfmjfbdaaGreatHUo
set_option linter.unusedVariables false
set_option linter.unusedSimpArgs false
namespace Go.Proofs.YtifdgdgfmjfbdaaGreat
open Go.RowKit
theorem fitsQ_any (n : Int) (w : World) : Calls Tryz.prog 102 #[.int .i64 n] w fun e w' => e = .returned (.bool (rchB n)) ∧ w' = w := by
  unfold rchB
  go_enter Tryz.func102, Tryz.ntmps102
  go_wp2
  all_goals
    go_ret
    exact ⟨ret_bool (by first | rfl | (simp_all; done) | (simp_all; omega)), rfl⟩
theorem avQ_parts (lo hi : Int) : avB lo hi = (decide (lo ≤ hi) && rchB lo && rchB hi) := by
  unfold avB rchB
  rw [Bool.eq_iff_iff]
  simp only [Bool.and_eq_true, decide_eq_true_eq]
  omega
set_option maxHeartbeats 400000 in
theorem aVal_any (lo hi : Int) (w : World) : Calls Tryz.prog 49 #[.agg #[.int .i64 lo, .int .i64 hi]] w fun e w' => e = .returned (.bool (avB lo hi)) ∧ Below w.heap.size w w' := by
  have KL := Lib.hid (fun W => fitsQ_any lo W)
  have KH := Lib.hid (fun W => fitsQ_any hi W)
  rw [avQ_parts]
  generalize rchB lo = s at *
  generalize rchB hi = t at *
  by_cases h : lo ≤ hi
  · have d : decide (lo ≤ hi) = true := decide_eq_true h
    rw [d]
    cases s
    · go_enter Tryz.func49, Tryz.ntmps49
      go_wp2_with (go_at_call 102; (with_reducible refine (KL.out _).mono ?_); rintro e w9 ⟨rfl, rfl⟩)
      go_ret
      refine ⟨rfl, ?_⟩
      repeat (first | exact Below.refl _ _ | assumption | refine bl_drew ?_ | refine bl_drewN ?_ _ | refine Below.setCell ?_ (by first | assumption | omega | (simp; done) | (simp; omega)) _ | refine Below.alloc ?_ (by first | assumption | omega | (simp; done) | (simp; omega)) _)
    · cases t
      all_goals
        go_enter Tryz.func49, Tryz.ntmps49
        go_wp2_with (go_at_call 102; (first | (with_reducible refine (KL.out _).mono ?_) | (with_reducible refine (KH.out _).mono ?_)); rintro e w9 ⟨rfl, rfl⟩)
        go_ret
        refine ⟨rfl, ?_⟩
        repeat (first | exact Below.refl _ _ | assumption | refine bl_drew ?_ | refine bl_drewN ?_ _ | refine Below.setCell ?_ (by first | assumption | omega | (simp; done) | (simp; omega)) _ | refine Below.alloc ?_ (by first | assumption | omega | (simp; done) | (simp; omega)) _)
  · have d : decide (lo ≤ hi) = false := decide_eq_false h
    rw [d]
    go_enter Tryz.func49, Tryz.ntmps49
    go_wp2
    go_ret
    refine ⟨rfl, ?_⟩
    repeat (first | exact Below.refl _ _ | assumption | refine bl_drew ?_ | refine bl_drewN ?_ _ | refine Below.setCell ?_ (by first | assumption | omega | (simp; done) | (simp; omega)) _ | refine Below.alloc ?_ (by first | assumption | omega | (simp; done) | (simp; omega)) _)
set_option maxHeartbeats 1000000 in
set_option maxRecDepth 100000 in
theorem kept_any (g : Nat) (lo hi : Int) (w : World) (h : Blk w g 96 #[.int .i64 0]) :
    Calls Tryz.prog 98 #[.pointer (some ⟨g, 0, none⟩), .agg #[.int .i64 lo, .int .i64 hi], .int .i64 0] w fun e w' => e = .returned (.agg #[.int .i64 lo, .int .i64 hi]) ∧ Below w.heap.size w w' := by
  have hg := h.lt
  have h1 := (h.alloc (.cells #[.int .i64 lo, .int .i64 hi] 97)).alloc (.cells #[.int .i64 0, .int .i64 0] 97)
  have c0 : w.cell? ⟨g, 0, none⟩ = some (.int .i64 0) := by rw [h.cell 0]; rfl
  have f0 := h.frozen 0
  have H := Lib.hid h
  have HB := Lib.hid (bl_same (Below.refl w.heap.size w) h)
  clear h h1
  go_enter Tryz.func98, Tryz.ntmps98
  go_wp2
  refine bodyPost_ret (v := .agg #[.int .i64 lo, .int .i64 hi]) (by simp [results, Tryz.results98, go_sem, *]; done) rfl ⟨rfl, ?_⟩
  exact (HB.out.alloc HB.out.size _).alloc (by have := HB.out.size; first | (simp; done) | (simp; omega)) _
set_option maxHeartbeats 1000000 in
set_option maxRecDepth 100000 in
theorem ksin_any (g : Nat) (a : Int × Int) (w : World) (ha : avB a.1 a.2 = true) (h : Blk w g 96 #[.int .i64 0]) :
    Calls Tryz.prog 47 #[.pointer (some ⟨g, 0, none⟩), .agg #[.int .i64 a.1, .int .i64 a.2]] w fun e w' => e = .returned (.agg #[.int .i64 (Trig.snP a).1, .int .i64 (Trig.snP a).2]) ∧ Below w.heap.size w w' := by
  have KS := Lib.hid (fun W => sin_yes a ha W)
  have KK := Lib.hid (fun (lo hi : Int) (W : World) (h : Blk W g 96 #[.int .i64 0]) => kept_any g lo hi W h)
  obtain ⟨⟨s0, s1⟩, hs⟩ : ∃ z, (Trig.snP a) = z := ⟨_, rfl⟩
  rw [hs] at KS ⊢
  simp only [] at KS ⊢
  clear hs
  have hg := h.lt
  have H0 := Lib.hid ((h.alloc (.cells #[.int .i64 a.1, .int .i64 a.2] 29)).alloc (.cells #[.int .i64 0, .int .i64 0] 97))
  have T0 : Hid (D2 ((w.alloc (.cells #[.int .i64 a.1, .int .i64 a.2] 29)).alloc (.cells #[.int .i64 0, .int .i64 0] 97)) (w.heap.size + 1) 0 0) := Lib.hid (by
    have := D2.new (w.alloc (.cells #[.int .i64 a.1, .int .i64 a.2] 29)) 0 0 97
    rwa [World.size_alloc] at this)
  have B0 := Lib.hid ((bl_alloc w (.cells #[.int .i64 a.1, .int .i64 a.2] 29)).alloc (by simp) (.cells #[.int .i64 0, .int .i64 0] 97))
  clear h
  go_enter Tryz.func47, Tryz.ntmps47
  go_wp2_with fail
  (with_reducible refine (KS.out _).mono ?_)
  rintro e w1 ⟨rfl, hb1⟩
  have H1 := Lib.hid ((H0.out.below hb1 H0.out.lt).alloc (.cells #[.int .i64 s0, .int .i64 s1] 97))
  have T1 := Lib.hid ((T0.out.below hb1 T0.out.lt).alloc (.cells #[.int .i64 s0, .int .i64 s1] 97))
  have B1 := Lib.hid ((B0.out.trans (hb1.mono B0.out.size)).alloc (by have := B0.out.size; have := hb1.size; omega) (.cells #[.int .i64 s0, .int .i64 s1] 97))
  clear hb1 H0 T0 B0
  go_wp2_with fail
  (with_reducible refine (KK.out _ _ _ H1.out).mono ?_)
  rintro e w2 ⟨rfl, hb2⟩
  have T2 := Lib.hid (T1.out.below hb2 T1.out.lt)
  have B2 := Lib.hid (B1.out.trans (hb2.mono B1.out.size))
  obtain ⟨zt, z0, z1, zf0, zf1⟩ := T2.out
  go_wp2
  refine bodyPost_ret (v := .agg #[.int .i64 s0, .int .i64 s1]) (by simp [results, Tryz.results47, go_sem, *]; done) rfl ⟨rfl, ?_⟩
  exact (B2.out.setCell (by simp only []; omega) _).setCell (by simp only []; omega) _
set_option maxHeartbeats 1000000 in
set_option maxRecDepth 100000 in
theorem kcos_any (g : Nat) (a : Int × Int) (w : World) (ha : avB a.1 a.2 = true) (h : Blk w g 96 #[.int .i64 0]) :
    Calls Tryz.prog 48 #[.pointer (some ⟨g, 0, none⟩), .agg #[.int .i64 a.1, .int .i64 a.2]] w fun e w' => e = .returned (.agg #[.int .i64 (Trig.csP a).1, .int .i64 (Trig.csP a).2]) ∧ Below w.heap.size w w' := by
  have KS := Lib.hid (fun W => cos_yes a ha W)
  have KK := Lib.hid (fun (lo hi : Int) (W : World) (h : Blk W g 96 #[.int .i64 0]) => kept_any g lo hi W h)
  obtain ⟨⟨s0, s1⟩, hs⟩ : ∃ z, (Trig.csP a) = z := ⟨_, rfl⟩
  rw [hs] at KS ⊢
  simp only [] at KS ⊢
  clear hs
  have hg := h.lt
  have H0 := Lib.hid ((h.alloc (.cells #[.int .i64 a.1, .int .i64 a.2] 29)).alloc (.cells #[.int .i64 0, .int .i64 0] 97))
  have T0 : Hid (D2 ((w.alloc (.cells #[.int .i64 a.1, .int .i64 a.2] 29)).alloc (.cells #[.int .i64 0, .int .i64 0] 97)) (w.heap.size + 1) 0 0) := Lib.hid (by
    have := D2.new (w.alloc (.cells #[.int .i64 a.1, .int .i64 a.2] 29)) 0 0 97
    rwa [World.size_alloc] at this)
  have B0 := Lib.hid ((bl_alloc w (.cells #[.int .i64 a.1, .int .i64 a.2] 29)).alloc (by simp) (.cells #[.int .i64 0, .int .i64 0] 97))
  clear h
  go_enter Tryz.func48, Tryz.ntmps48
  go_wp2_with fail
  (with_reducible refine (KS.out _).mono ?_)
  rintro e w1 ⟨rfl, hb1⟩
  have H1 := Lib.hid ((H0.out.below hb1 H0.out.lt).alloc (.cells #[.int .i64 s0, .int .i64 s1] 97))
  have T1 := Lib.hid ((T0.out.below hb1 T0.out.lt).alloc (.cells #[.int .i64 s0, .int .i64 s1] 97))
  have B1 := Lib.hid ((B0.out.trans (hb1.mono B0.out.size)).alloc (by have := B0.out.size; have := hb1.size; omega) (.cells #[.int .i64 s0, .int .i64 s1] 97))
  clear hb1 H0 T0 B0
  go_wp2_with fail
  (with_reducible refine (KK.out _ _ _ H1.out).mono ?_)
  rintro e w2 ⟨rfl, hb2⟩
  have T2 := Lib.hid (T1.out.below hb2 T1.out.lt)
  have B2 := Lib.hid (B1.out.trans (hb2.mono B1.out.size))
  obtain ⟨zt, z0, z1, zf0, zf1⟩ := T2.out
  go_wp2
  refine bodyPost_ret (v := .agg #[.int .i64 s0, .int .i64 s1]) (by simp [results, Tryz.results48, go_sem, *]; done) rfl ⟨rfl, ?_⟩
  exact (B2.out.setCell (by simp only []; omega) _).setCell (by simp only []; omega) _
set_option maxHeartbeats 1000000 in
set_option maxRecDepth 100000 in
theorem kmul_any (g : Nat) (x y : Int × Int) (w : World) (hx : Trig.Small x) (hy : Trig.Small y) (h : Blk w g 96 #[.int .i64 0]) :
    Calls Tryz.prog 46 #[.pointer (some ⟨g, 0, none⟩), .agg #[.int .i64 x.1, .int .i64 x.2], .agg #[.int .i64 y.1, .int .i64 y.2]] w fun e w' => e = .returned (.agg #[.int .i64 (Trig.mulP x y).1, .int .i64 (Trig.mulP x y).2]) ∧ Below w.heap.size w w' := by
  have KS := Lib.hid (fun W => mul_yes x y hx hy W)
  have KK := Lib.hid (fun (lo hi : Int) (W : World) (h : Blk W g 96 #[.int .i64 0]) => kept_any g lo hi W h)
  obtain ⟨⟨s0, s1⟩, hs⟩ : ∃ z, (Trig.mulP x y) = z := ⟨_, rfl⟩
  rw [hs] at KS ⊢
  simp only [] at KS ⊢
  clear hs
  have hg := h.lt
  have H0 := Lib.hid (((h.alloc (.cells #[.int .i64 x.1, .int .i64 x.2] 97)).alloc (.cells #[.int .i64 y.1, .int .i64 y.2] 97)).alloc (.cells #[.int .i64 0, .int .i64 0] 97))
  have T0 : Hid (D2 (((w.alloc (.cells #[.int .i64 x.1, .int .i64 x.2] 97)).alloc (.cells #[.int .i64 y.1, .int .i64 y.2] 97)).alloc (.cells #[.int .i64 0, .int .i64 0] 97)) (w.heap.size + 1 + 1) 0 0) := Lib.hid (by
    have := D2.new ((w.alloc (.cells #[.int .i64 x.1, .int .i64 x.2] 97)).alloc (.cells #[.int .i64 y.1, .int .i64 y.2] 97)) 0 0 97
    rwa [World.size_alloc, World.size_alloc] at this)
  have B0 := Lib.hid (((bl_alloc w (.cells #[.int .i64 x.1, .int .i64 x.2] 97)).alloc (by simp) (.cells #[.int .i64 y.1, .int .i64 y.2] 97)).alloc (by simp; omega) (.cells #[.int .i64 0, .int .i64 0] 97))
  clear h
  go_enter Tryz.func46, Tryz.ntmps46
  go_wp2_with fail
  (with_reducible refine (KS.out _).mono ?_)
  rintro e w1 ⟨rfl, hb1⟩
  have H1 := Lib.hid ((H0.out.below hb1 H0.out.lt).alloc (.cells #[.int .i64 s0, .int .i64 s1] 97))
  have T1 := Lib.hid ((T0.out.below hb1 T0.out.lt).alloc (.cells #[.int .i64 s0, .int .i64 s1] 97))
  have B1 := Lib.hid ((B0.out.trans (hb1.mono B0.out.size)).alloc (by have := B0.out.size; have := hb1.size; omega) (.cells #[.int .i64 s0, .int .i64 s1] 97))
  clear hb1 H0 T0 B0
  go_wp2_with fail
  (with_reducible refine (KK.out _ _ _ H1.out).mono ?_)
  rintro e w2 ⟨rfl, hb2⟩
  have T2 := Lib.hid (T1.out.below hb2 T1.out.lt)
  have B2 := Lib.hid (B1.out.trans (hb2.mono B1.out.size))
  obtain ⟨zt, z0, z1, zf0, zf1⟩ := T2.out
  go_wp2
  refine bodyPost_ret (v := .agg #[.int .i64 s0, .int .i64 s1]) (by simp [results, Tryz.results46, go_sem, *]; done) rfl ⟨rfl, ?_⟩
  exact (B2.out.setCell (by simp only []; omega) _).setCell (by simp only []; omega) _
set_option maxHeartbeats 1000000 in
set_option maxRecDepth 100000 in
theorem kplus_any (g : Nat) (x y : Int × Int) (w : World) (hx : Trig.Small x) (hy : Trig.Small y) (h : Blk w g 96 #[.int .i64 0]) :
    Calls Tryz.prog 45 #[.pointer (some ⟨g, 0, none⟩), .agg #[.int .i64 x.1, .int .i64 x.2], .agg #[.int .i64 y.1, .int .i64 y.2]] w fun e w' => e = .returned (.agg #[.int .i64 (Trig.addP x y).1, .int .i64 (Trig.addP x y).2]) ∧ Below w.heap.size w w' := by
  have KS := Lib.hid (fun W => add_yes x y hx hy W)
  have KK := Lib.hid (fun (lo hi : Int) (W : World) (h : Blk W g 96 #[.int .i64 0]) => kept_any g lo hi W h)
  obtain ⟨⟨s0, s1⟩, hs⟩ : ∃ z, (Trig.addP x y) = z := ⟨_, rfl⟩
  rw [hs] at KS ⊢
  simp only [] at KS ⊢
  clear hs
  have hg := h.lt
  have H0 := Lib.hid (((h.alloc (.cells #[.int .i64 x.1, .int .i64 x.2] 97)).alloc (.cells #[.int .i64 y.1, .int .i64 y.2] 97)).alloc (.cells #[.int .i64 0, .int .i64 0] 97))
  have T0 : Hid (D2 (((w.alloc (.cells #[.int .i64 x.1, .int .i64 x.2] 97)).alloc (.cells #[.int .i64 y.1, .int .i64 y.2] 97)).alloc (.cells #[.int .i64 0, .int .i64 0] 97)) (w.heap.size + 1 + 1) 0 0) := Lib.hid (by
    have := D2.new ((w.alloc (.cells #[.int .i64 x.1, .int .i64 x.2] 97)).alloc (.cells #[.int .i64 y.1, .int .i64 y.2] 97)) 0 0 97
    rwa [World.size_alloc, World.size_alloc] at this)
  have B0 := Lib.hid (((bl_alloc w (.cells #[.int .i64 x.1, .int .i64 x.2] 97)).alloc (by simp) (.cells #[.int .i64 y.1, .int .i64 y.2] 97)).alloc (by simp; omega) (.cells #[.int .i64 0, .int .i64 0] 97))
  clear h
  go_enter Tryz.func45, Tryz.ntmps45
  go_wp2_with fail
  (with_reducible refine (KS.out _).mono ?_)
  rintro e w1 ⟨rfl, hb1⟩
  have H1 := Lib.hid ((H0.out.below hb1 H0.out.lt).alloc (.cells #[.int .i64 s0, .int .i64 s1] 97))
  have T1 := Lib.hid ((T0.out.below hb1 T0.out.lt).alloc (.cells #[.int .i64 s0, .int .i64 s1] 97))
  have B1 := Lib.hid ((B0.out.trans (hb1.mono B0.out.size)).alloc (by have := B0.out.size; have := hb1.size; omega) (.cells #[.int .i64 s0, .int .i64 s1] 97))
  clear hb1 H0 T0 B0
  go_wp2_with fail
  (with_reducible refine (KK.out _ _ _ H1.out).mono ?_)
  rintro e w2 ⟨rfl, hb2⟩
  have T2 := Lib.hid (T1.out.below hb2 T1.out.lt)
  have B2 := Lib.hid (B1.out.trans (hb2.mono B1.out.size))
  obtain ⟨zt, z0, z1, zf0, zf1⟩ := T2.out
  go_wp2
  refine bodyPost_ret (v := .agg #[.int .i64 s0, .int .i64 s1]) (by simp [results, Tryz.results45, go_sem, *]; done) rfl ⟨rfl, ?_⟩
  exact (B2.out.setCell (by simp only []; omega) _).setCell (by simp only []; omega) _
end Go.Proofs.YtifdgdgfmjfbdaaGreat
namespace Go.Proofs.YtifdgdgfmjfbdaaGreat.PQ
/-- least members, one pair of things that touch put together -/
def mrg (c : Nat → Nat) (i k : Nat) : Nat → Nat := fun j => if c j = max (c i) (c k) then min (c i) (c k) else c j
/-- one pair looked at -/
def stp (t : Nat → Nat → Bool) (c : Nat → Nat) (i k : Nat) : Nat → Nat := if t i k = true then mrg c i k else c
/-- the pairs of one thing with those before it -/
def row (t : Nat → Nat → Bool) (c : Nat → Nat) (i : Nat) : Nat → (Nat → Nat)
  | 0 => c
  | k + 1 => stp t (row t c i k) i k
/-- all pairs of the first things -/
def cl (t : Nat → Nat → Bool) : Nat → (Nat → Nat)
  | 0 => fun j => j
  | i + 1 => row t (cl t i) i i
end Go.Proofs.YtifdgdgfmjfbdaaGreat.PQ
namespace Go.Proofs.YtifdgdgfmjfbdaaGreat.PQ
end Go.Proofs.YtifdgdgfmjfbdaaGreat.PQ
namespace Go.Proofs.YtifdgdgfmjfbdaaGreat.PQ
def upd (pt : Nat → Nat) (m v : Nat) : Nat → Nat := fun x => if x = m then v else pt x
section
variable {c : Nat → Nat} {t : Nat → Nat → Bool} {n i : Nat} {pt : Nat → Nat} {T : List Nat} {k m : Nat}
end
/-- how many have no number yet -/
def unm (pt : Nat → Nat) (n : Nat) : Nat := ((List.range n).filter (fun x => pt x = 0)).length
theorem unm_upd {pt : Nat → Nat} {n m v : Nat} (hm : m < n) (h0 : pt m = 0) (hv : v ≠ 0) : unm (upd pt m v) n + 1 = unm pt n := by
  induction n with
  | zero => omega
  | succ n ih =>
    unfold unm at *
    rw [List.range_succ, List.filter_append, List.filter_append, List.length_append, List.length_append]
    by_cases e : m = n
    · subst e
      have : (List.range m).filter (fun x => decide (upd pt m v x = 0)) = (List.range m).filter (fun x => decide (pt x = 0)) := by
        apply List.filter_congr
        intro x hx
        have : x < m := by simpa using hx
        simp [upd, show x ≠ m by omega]
      rw [this]
      simp [upd, h0, hv]
    · have := ih (by omega)
      have hn : upd pt m v n = pt n := by unfold upd; rw [if_neg (by omega)]
      have : (List.filter (fun x => decide (upd pt m v x = 0)) [n]) = List.filter (fun x => decide (pt x = 0)) [n] := by
        simp [List.filter_cons, hn]
      rw [this]
      omega
end Go.Proofs.YtifdgdgfmjfbdaaGreat.PQ
namespace Go.Proofs.YtifdgdgfmjfbdaaGreat.PQ
end Go.Proofs.YtifdgdgfmjfbdaaGreat.PQ
namespace Go.Proofs.YtifdgdgfmjfbdaaGreat
open Go.RowKit
/-- one operation more has been done -/
def mkd (L : Nat → Bool) (i : Nat) : Nat → Bool := fun j => if j = i then true else L j
theorem mkd_ne {L : Nat → Bool} {i j : Nat} (h : ¬ j = i) : mkd L i j = L j := if_neg h
theorem mkd_same (L : Nat → Bool) (i : Nat) : mkd L i i = true := if_pos rfl
theorem kq {L : Nat → Bool} {i j : Nat} {p : Prop} (E : Hid (L j = true → p)) (hne : (j == i) = false := by decide) : mkd L i j = true → p := fun h => E.out (by rwa [mkd_ne (by simpa using hne)] at h)
theorem wpOp_of_list {P : Program} {ops : Array Oper} {Q : Exit → Act → World → Prop} {i : Nat} {o : Oper} {K : Act → World → Prop} {a : Act} {w : World} (hi : ops[i]? = some o) (h : wpList P ops (Exit.then K Q) [o] a w) : wpOp P ops Q i K a w := by
  unfold wpOp
  rw [hi]
  simp only [wpList] at h
  simp only []
  split
  · rename_i hw
    rw [if_pos hw] at h
    refine h.imp (fun h1 => ?_) id
    unfold Oper.wp at *
    generalize (execOp a.eval o).run P w = r at *
    cases r with
    | ok n w' => cases n <;> exact h1
    | halt x w' => cases x <;> exact h1
  · rename_i hw
    rw [if_neg hw] at h
    exact h
end Go.Proofs.YtifdgdgfmjfbdaaGreat
namespace Go.Proofs.YtifdgdgfmjfbdaaGreat
open Go.RowKit
theorem putQ_self (a : Act) (i : Nat) : a.put (some i) (a.tmps.getD i undef) = a := by
  cases a with
  | mk t d =>
    have : t.setIfInBounds i (t.getD i undef) = t := by
      apply Array.ext
      · simp
      · intro j h1 h2
        rw [Array.getElem_setIfInBounds]
        split
        · rename_i e
          subst e
          simp [Array.getD, h2]
        · rfl
    show Act.mk (t.setIfInBounds i (t.getD i undef)) d = _
    rw [this]
theorem wp_region_invB {P : Program} {id : Nat} {ops : Array Oper} {Q : Exit → Act → World → Prop} {a : Act} {w : World} (hm : P.follows .mixedOrders = true) (Inv : (Nat → Bool) → Act → World → Prop)
    (hwf : ∀ (i : Nat) (o : Oper), ops[i]? = some o → ∀ e ∈ o.after, Region.binds .any e = true → e.on < i)
    (h0 : Inv (fun _ => false) a w.drew)
    (hstep : ∀ (L : Nat → Bool) (i : Nat) (o : Oper) (a : Act) (w : World), ops[i]? = some o → L i = false → (∀ e ∈ o.after, Region.binds .any e = true → L e.on = true) → Inv L a w → wpList P ops (Exit.then (fun a' w' => Inv (fun j => if j = i then true else L j) a' w') Q) [o] a w)
    (hend : ∀ (L : Nat → Bool) (a : Act) (w : World), (∀ i, i < ops.size → L i = true) → Inv L a w → Q .normal a w) : (Code.region id ops true).wp P Q a w := by
  have key : ∀ (fuel : Nat) (listed : Array Bool) (L : Nat → Bool) (a : Act) (w : World), listed.size = ops.size → (∀ i, i < ops.size → listed.getD i true = L i ∧ listed.getD i false = L i) → PQ.unm (fun j => if L j = true then 1 else 0) ops.size ≤ fuel → Inv L a w → wpAny P .any ops Q fuel listed a w := by
    intro fuel
    have all : ∀ (listed : Array Bool) (L : Nat → Bool), (∀ i, i < ops.size → listed.getD i true = L i ∧ listed.getD i false = L i) → Region.ready .any ops listed = [] → ∀ n i, i < n → i < ops.size → L i = true := by
      intro listed L hL hr n
      induction n with
      | zero => intro i h; omega
      | succ n ih =>
        intro i hi his
        by_cases e : i < n
        · exact ih i e his
        · obtain rfl : i = n := by omega
          cases hl : L i with
          | true => rfl
          | false =>
            exfalso
            have : i ∈ Region.ready .any ops listed := by
              rw [mem_ready]
              refine ⟨by rw [(hL i his).1, hl], ops[i], by rw [Array.getElem?_eq_getElem his], fun e he hbd => ?_⟩
              have := hwf i _ (by rw [Array.getElem?_eq_getElem his]) e he hbd
              rw [(hL e.on (by omega)).2]
              exact ih e.on this (by omega)
            rw [hr] at this
            cases this
    induction fuel with
    | zero =>
      intro listed L a w hs hL hu hI
      have hall : ∀ i, i < ops.size → L i = true := by
        intro i hi
        cases hl : L i with
        | true => rfl
        | false =>
          exfalso
          have := PQ.unm_upd (pt := fun j => if L j = true then 1 else 0) (v := 1) hi (by simp [hl]) (by omega)
          omega
      refine ⟨?_, hend L a w hall hI⟩
      cases hr : Region.ready .any ops listed with
      | nil => rfl
      | cons i rs =>
        have hi : i ∈ Region.ready .any ops listed := by rw [hr]; exact List.mem_cons_self ..
        obtain ⟨h1, o, ho, -⟩ := mem_ready.1 hi
        have his : i < ops.size := by
          rcases Nat.lt_or_ge i ops.size with g | g
          · exact g
          · rw [Array.getElem?_eq_none g] at ho; cases ho
        rw [(hL i his).1, hall i his] at h1
        cases h1
    | succ fuel ih =>
      intro listed L a w hs hL hu hI
      refine ⟨fun hr => hend L a w (fun i hi => all listed L hL hr ops.size i hi hi) hI, fun i hi => ?_⟩
      obtain ⟨h1, o, ho, haf⟩ := mem_ready.1 hi
      have his : i < ops.size := by
        rcases Nat.lt_or_ge i ops.size with g | g
        · exact g
        · rw [Array.getElem?_eq_none g] at ho; cases ho
      rw [(hL i his).1] at h1
      have hst := hstep L i o a w ho h1 (fun e he hb => by
        have := haf e he hb
        rwa [(hL e.on (by have := hwf i o ho e he hb; omega)).2] at this) hI
      refine wpOp_mono (fun a' w' h => ?_) (wpOp_of_list ho hst)
      refine ih _ _ a' w' (by simpa using hs) (fun j hj => ?_) ?_ h
      · by_cases e : j = i
        · subst e
          simp [hs, his]
        · have := hL j hj
          have e' : ¬ i = j := fun h => e h.symm
          simp only [if_neg e]
          simp only [Array.getD_eq_getD_getElem?, Array.getElem?_setIfInBounds, if_neg e'] at this ⊢
          exact this
      · have := PQ.unm_upd (pt := fun j => if L j = true then 1 else 0) (v := 1) his (by simp [h1]) (by omega)
        have e2 : (fun j => if (if j = i then true else L j) = true then 1 else 0) = PQ.upd (fun j => if L j = true then 1 else 0) i 1 := by
          funext j
          unfold PQ.upd
          by_cases e : j = i
          · simp [e]
          · simp [e]
        rw [e2]
        omega
  refine wp_region_any hm (key ops.size _ (fun _ => false) a _ (by simp) (fun i hi => by simp [hi]) ?_ h0)
  exact Nat.le_trans (by unfold PQ.unm; exact List.length_filter_le _ _) (by simp)
theorem wp_region_inv3 {P : Program} {id : Nat} {ops : Array Oper} {Q : Exit → Act → World → Prop} {a : Act} {w : World} (hm : P.follows .mixedOrders = true) (Inv : Act → (Nat → Bool) → Act → World → Prop)
    (hwf : ∀ (i : Nat) (o : Oper), ops[i]? = some o → ∀ e ∈ o.after, Region.binds .any e = true → e.on < i)
    (h0 : Inv a (fun _ => false) a w.drew)
    (hstep : ∀ (L : Nat → Bool) (i : Nat) (o : Oper) (a1 : Act) (w : World), ops[i]? = some o → L i = false → (∀ e ∈ o.after, Region.binds .any e = true → L e.on = true) → Inv a L a1 w → wpList P ops (Exit.then (fun a' w' => Inv a (mkd L i) a' w') Q) [o] a1 w)
    (hend : ∀ (L : Nat → Bool) (a1 : Act) (w : World), (∀ i, i < ops.size → L i = true) → Inv a L a1 w → Q .normal a1 w) : (Code.region id ops true).wp P Q a w :=
  wp_region_invB hm (Inv a) hwf h0 hstep hend
/-- every operation waits for earlier ones alone, as far as it must, as a Bool -/
def waitsBind (ops : Array Oper) : Bool := (List.range ops.size).all fun i => (ops[i]?.map fun o => o.after.all fun e => !(Region.binds .any e) || decide (e.on < i)).getD true
theorem waits_bind {ops : Array Oper} (h : waitsBind ops = true) : ∀ (i : Nat) (o : Oper), ops[i]? = some o → ∀ e ∈ o.after, Region.binds .any e = true → e.on < i := by
  intro i o ho e he hb
  have his : i < ops.size := by
    rcases Nat.lt_or_ge i ops.size with g | g
    · exact g
    · rw [Array.getElem?_eq_none g] at ho; cases ho
  have h1 := (List.all_eq_true.1 h) i (List.mem_range.2 his)
  rw [ho] at h1
  simp only [Option.map_some, Option.getD_some] at h1
  have := Array.all_eq_true'.1 h1 e he
  rw [hb] at this
  simpa using this
end Go.Proofs.YtifdgdgfmjfbdaaGreat
namespace Go.Proofs.YtifdgdgfmjfbdaaGreat
open Go.RowKit
/-- some blocks of two numbers: made by the operations from A on, written by those from S on -/
structure MJ (W2 w : World) (L : Nat → Bool) (n A S : Nat) (g : Nat → Nat) (v : Nat → Int × Int) : Prop where
  bl : Below W2.heap.size W2 w
  d : ∀ i, i < n → L (S + i) = true → L (A + i) = true
  lo : ∀ i, i < n → L (A + i) = true → W2.heap.size ≤ g i
  z : ∀ i, i < n → L (A + i) = true → L (S + i) = false → D2 w (g i) 0 0
  k : ∀ i, i < n → L (S + i) = true → D2 w (g i) (v i).1 (v i).2
  ne : ∀ i j, i < n → j < n → i ≠ j → L (A + i) = true → L (A + j) = true → g i ≠ g j
section
variable {W2 w w' : World} {L : Nat → Bool} {n A S : Nat} {g : Nat → Nat} {v : Nat → Int × Int}
theorem MJ.start (W2 : World) (n A S : Nat) (g : Nat → Nat) (v : Nat → Int × Int) : MJ W2 W2.drew (fun _ => false) n A S g v :=
  ⟨bl_drew (Below.refl _ _), fun _ _ h => (by cases h), fun _ _ h => (by cases h), fun _ _ h => (by cases h), fun _ _ h => (by cases h), fun _ _ _ _ _ h => (by cases h)⟩
theorem MJ.l (h : MJ W2 w L n A S g v) {i : Nat} (hi : i < n) (hA : L (A + i) = true) : g i < w.heap.size := by
  cases e : L (S + i) with
  | false => exact (h.z i hi hA e).lt
  | true => exact (h.k i hi e).lt
theorem MJ.call (h : MJ W2 w L n A S g v) (hb : Below w.heap.size w w') : MJ W2 w' L n A S g v :=
  ⟨h.bl.trans (hb.mono h.bl.size), h.d, h.lo, fun i hi p q => (h.z i hi p q).below hb (h.z i hi p q).lt, fun i hi p => (h.k i hi p).below hb (h.k i hi p).lt, h.ne⟩
theorem MJ.mark (h : MJ W2 w L n A S g v) (m : Nat) (hm : (m < A ∧ m < S) ∨ (A + n ≤ m ∧ m < S) ∨ (A + n ≤ m ∧ S + n ≤ m)) : MJ W2 w (mkd L m) n A S g v := by
  have e : ∀ i, i < n → mkd L m (A + i) = L (A + i) := fun i hi => mkd_ne (by omega)
  have f : ∀ i, i < n → mkd L m (S + i) = L (S + i) := fun i hi => mkd_ne (by omega)
  constructor
  · exact h.bl
  · intro i hi p; rw [f i hi] at p; rw [e i hi]; exact h.d i hi p
  · intro i hi p; rw [e i hi] at p; exact h.lo i hi p
  · intro i hi p q; rw [e i hi] at p; rw [f i hi] at q; exact h.z i hi p q
  · intro i hi p; rw [f i hi] at p; exact h.k i hi p
  · intro i j hi hj hij p q; rw [e i hi] at p; rw [e j hj] at q; exact h.ne i j hi hj hij p q
theorem MJ.al (h : MJ W2 w L n A S g v) (m : Nat) (hm : m < n) (hAS : A + n ≤ S) (hL : L (A + m) = false) (t : TypeId) : MJ W2 (w.alloc (.cells #[.int .i64 0, .int .i64 0] t)) (mkd L (A + m)) n A S (fun j => if j = m then w.heap.size else g j) v := by
  have c := h.call (bl_alloc w (.cells #[.int .i64 0, .int .i64 0] t))
  have hS : L (S + m) = false := by
    cases e : L (S + m) with
    | false => rfl
    | true => rw [h.d m hm e] at hL; cases hL
  have f : ∀ i, i < n → mkd L (A + m) (S + i) = L (S + i) := fun i hi => mkd_ne (by omega)
  have e : ∀ i, i < n → i ≠ m → mkd L (A + m) (A + i) = L (A + i) := fun i hi him => mkd_ne (by omega)
  constructor
  · exact c.bl
  · intro i hi p
    rw [f i hi] at p
    by_cases him : i = m
    · subst him; exact mkd_same _ _
    · rw [e i hi him]; exact h.d i hi p
  · intro i hi p
    by_cases him : i = m
    · simp only [him, if_true]; exact h.bl.size
    · simp only [if_neg him]; rw [e i hi him] at p; exact h.lo i hi p
  · intro i hi p q
    by_cases him : i = m
    · simp only [him, if_true]; exact D2.new w 0 0 t
    · simp only [if_neg him]; rw [e i hi him] at p; rw [f i hi] at q; exact c.z i hi p q
  · intro i hi p
    rw [f i hi] at p
    by_cases him : i = m
    · subst him; rw [hS] at p; cases p
    · simp only [if_neg him]; exact c.k i hi p
  · intro i j hi hj hij p q
    by_cases him : i = m
    · have hjm : j ≠ m := fun e => hij (him.trans e.symm)
      simp only [him, if_true, if_neg hjm]
      rw [e j hj hjm] at q
      have := h.l hj q
      omega
    · simp only [if_neg him]
      rw [e i hi him] at p
      by_cases hjm : j = m
      · simp only [hjm, if_true]
        have := h.l hi p
        omega
      · simp only [if_neg hjm]; rw [e j hj hjm] at q; exact h.ne i j hi hj hij p q
theorem MJ.st (h : MJ W2 w L n A S g v) (m : Nat) (hm : m < n) (hAS : A + n ≤ S) (hA : L (A + m) = true) (hL : L (S + m) = false) {a b : Int} (hv : v m = (a, b)) : MJ W2 ((w.setCell ⟨g m, 0, none⟩ (.int .i64 a)).setCell ⟨g m, 1, none⟩ (.int .i64 b)) (mkd L (S + m)) n A S g v := by
  have e : ∀ i, i < n → mkd L (S + m) (A + i) = L (A + i) := fun i hi => mkd_ne (by omega)
  have f : ∀ i, i < n → i ≠ m → mkd L (S + m) (S + i) = L (S + i) := fun i hi him => mkd_ne (by omega)
  have hg := h.lo m hm hA
  have z := h.z m hm hA hL
  constructor
  · exact (h.bl.setCell hg _).setCell hg _
  · intro i hi p
    rw [e i hi]
    by_cases him : i = m
    · subst him; exact hA
    · rw [f i hi him] at p; exact h.d i hi p
  · intro i hi p; rw [e i hi] at p; exact h.lo i hi p
  · intro i hi p q
    rw [e i hi] at p
    by_cases him : i = m
    · subst him; rw [mkd_same] at q; cases q
    · rw [f i hi him] at q
      have hne := h.ne i m hi hm him p hA
      exact ((h.z i hi p q).far (p := ⟨g m, 0, none⟩) hne _).far (p := ⟨g m, 1, none⟩) hne _
  · intro i hi p
    by_cases him : i = m
    · subst him; rw [hv]; exact (z.set0 a).set1 b
    · rw [f i hi him] at p
      have hne := h.ne i m hi hm him (h.d i hi p) hA
      exact ((h.k i hi p).far (p := ⟨g m, 0, none⟩) hne _).far (p := ⟨g m, 1, none⟩) hne _
  · intro i j hi hj hij p q; rw [e i hi] at p; rw [e j hj] at q; exact h.ne i j hi hj hij p q
end
end Go.Proofs.YtifdgdgfmjfbdaaGreat
