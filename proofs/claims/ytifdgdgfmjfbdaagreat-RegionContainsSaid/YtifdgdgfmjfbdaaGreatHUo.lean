/- The walks of fixed.Add, Mul. -/
import Derived.Test.YtifdgdgfmjfbdaaGreatHUk
set_option linter.unusedVariables false
set_option linter.unusedSimpArgs false
namespace Go.Proofs.YtifdgdgfmjfbdaaGreat
open Go.RowKit
theorem quick_int (r : Int) (c : Bool) (w : World) (h0 : 0 ≤ r) (h1 : r ≤ 2700000) : Calls Tryz.prog 317 #[.int .i64 r, .bool c] w fun e w' => e = .returned (.int .i64 (Trig.quickN r.toNat c : Nat)) ∧ w' = w := by
  have := quick_loop r.toNat c w (by omega)
  rw [Int.toNat_of_nonneg h0] at this
  exact this
theorem quickN_bd {r : Int} (c : Bool) (h0 : 0 ≤ r) (h1 : r ≤ 2700000) : (0 : Int) ≤ (Trig.quickN r.toNat c : Nat) ∧ ((Trig.quickN r.toNat c : Nat) : Int) ≤ 4611686018427387904 := by
  have := Trig.quickN_le (r := r.toNat) (by omega) c
  omega
theorem tmodT_val (n : Int) : (n.tmod 21600000 < 0 ∧ wrap64 (n.tmod 21600000 + 21600000) = n % 21600000) ∨ (¬ n.tmod 21600000 < 0 ∧ n.tmod 21600000 = n % 21600000) := by
  by_cases h : n.tmod 21600000 < 0
  · refine .inl ⟨h, ?_⟩
    have e := tmodT_neg h
    rw [IntWalk.wrap64_in _ (by omega)]
    exact e
  · exact .inr ⟨h, tmodT_pos (by omega)⟩
set_option maxHeartbeats 4000000 in
theorem Quick_any (n : Int) (w : World) : Calls Tryz.prog 290 #[.int .i64 n] w fun e w' => e = .returned (.int .i64 (Trig.qv n)) ∧ w' = w := by
  have hm : 0 ≤ n % 21600000 ∧ n % 21600000 < 21600000 := by omega
  have hv : Trig.qv n = if Trig.rq n ≥ 2 then - (Trig.quickN (Trig.rr n).toNat (Trig.rc n) : Int) else (Trig.quickN (Trig.rr n).toNat (Trig.rc n) : Int) := rfl
  have hrq : Trig.rq n = n % 21600000 / 5400000 := rfl
  have hrr : Trig.rr n = if n % 21600000 % 5400000 > 2700000 then 5400000 - n % 21600000 % 5400000 else n % 21600000 % 5400000 := rfl
  have hrc : Trig.rc n = if n % 21600000 % 5400000 > 2700000 then !decide (Trig.rq n % 2 = 1) else decide (Trig.rq n % 2 = 1) := rfl
  have ht := tmodT_val n
  rw [hv]
  generalize n % 21600000 = m at *
  obtain ⟨m0, m1⟩ := hm
  generalize Trig.rq n = q at *
  generalize Trig.rr n = r at *
  generalize Trig.rc n = c at *
  have hqc : q = 0 ∨ q = 1 ∨ q = 2 ∨ q = 3 := by omega
  have hr0 : 0 ≤ m % 5400000 ∧ m % 5400000 < 5400000 := by omega
  generalize hs : m % 5400000 = s at *
  obtain ⟨s0, s1⟩ := hr0
  have hq' := hrq.symm
  clear hv hrq
  by_cases hb : s > 2700000
  · rw [if_pos hb] at hrr hrc
    have d1 : decide (2700000 < s) = true := decide_eq_true hb
    rcases hqc with rfl | rfl | rfl | rfl
    all_goals
      simp at hrc
      subst hrc
      subst hrr
      have K := Lib.hid (fun W => quick_int (5400000 - s) false W (by omega) (by omega))
      have K' := Lib.hid (fun W => quick_int (5400000 - s) true W (by omega) (by omega))
      obtain ⟨v0, v1⟩ := quickN_bd (r := 5400000 - s) false (by omega) (by omega)
      obtain ⟨u0, u1⟩ := quickN_bd (r := 5400000 - s) true (by omega) (by omega)
      generalize ((Trig.quickN (5400000 - s).toNat false : Nat) : Int) = v at *
      generalize ((Trig.quickN (5400000 - s).toNat true : Nat) : Int) = u at *
      rcases ht with ⟨t0, t1⟩ | ⟨t0, t1⟩
      all_goals
        simp only [ge_iff_le, Int.reduceLE, if_true, if_false]
        go_enter Tryz.func290, Tryz.ntmps290
        go_wp2_with (first | (go_at_call 317; (with_reducible refine (K.out _).mono ?_); rintro e w1 ⟨rfl, rfl⟩) | (go_at_call 317; (with_reducible refine (K'.out _).mono ?_); rintro e w1 ⟨rfl, rfl⟩))
        go_ret
        exact ⟨ret_int (by omega), rfl⟩
  · rw [if_neg hb] at hrr hrc
    have d1 : decide (2700000 < s) = false := decide_eq_false hb
    rcases hqc with rfl | rfl | rfl | rfl
    all_goals
      simp at hrc
      subst hrc
      subst hrr
      have K := Lib.hid (fun W => quick_int r false W (by omega) (by omega))
      have K' := Lib.hid (fun W => quick_int r true W (by omega) (by omega))
      obtain ⟨v0, v1⟩ := quickN_bd (r := r) false (by omega) (by omega)
      obtain ⟨u0, u1⟩ := quickN_bd (r := r) true (by omega) (by omega)
      generalize ((Trig.quickN r.toNat false : Nat) : Int) = v at *
      generalize ((Trig.quickN r.toNat true : Nat) : Int) = u at *
      rcases ht with ⟨t0, t1⟩ | ⟨t0, t1⟩
      all_goals
        simp only [ge_iff_le, Int.reduceLE, if_true, if_false]
        go_enter Tryz.func290, Tryz.ntmps290
        go_wp2_with (first | (go_at_call 317; (with_reducible refine (K.out _).mono ?_); rintro e w1 ⟨rfl, rfl⟩) | (go_at_call 317; (with_reducible refine (K'.out _).mono ?_); rintro e w1 ⟨rfl, rfl⟩))
        go_ret
        exact ⟨ret_int (by omega), rfl⟩
set_option maxHeartbeats 4000000 in
theorem Exact_no (n : Int) (w : World) (h : Trig.rEx n = false) : Calls Tryz.prog 289 #[.int .i64 n] w fun e w' => e = .returned (.tuple #[.int .i64 0, .bool false]) ∧ Below w.heap.size w w' := by
  have hm : 0 ≤ n % 21600000 ∧ n % 21600000 < 21600000 := by omega
  have ht := tmodT_val n
  unfold Trig.rEx at h
  generalize n % 21600000 = m at *
  obtain ⟨m0, m1⟩ := hm
  by_cases hz : m % 1800000 = 0
  · have hk : m / 1800000 % 6 = 2 ∨ m / 1800000 % 6 = 4 := by
      rw [hz] at h
      simp at h
      omega
    have hmk : m = 1800000 * 2 ∨ m = 1800000 * 8 ∨ m = 1800000 * 4 ∨ m = 1800000 * 10 := by omega
    clear h hz hk m0 m1
    rcases hmk with rfl | rfl | rfl | rfl
    all_goals
      rcases ht with ⟨t0, t1⟩ | ⟨t0, t1⟩
      all_goals
        simp only [Int.reduceMul] at t1
        go_enter Tryz.func289, Tryz.ntmps289
        go_wp2
        go_ret2
        refine ⟨rfl, ?_⟩
        repeat (first | exact Below.refl _ _ | assumption | refine bl_drew ?_ | refine bl_drewN ?_ _ | refine Below.setCell ?_ (by first | assumption | omega | (simp; done) | (simp; omega)) _ | refine Below.alloc ?_ (by first | assumption | omega | (simp; done) | (simp; omega)) _)
  · have hd : (m % 1800000 != 0) = true := by simpa using hz
    clear h hz
    rcases ht with ⟨t0, t1⟩ | ⟨t0, t1⟩
    all_goals
      go_enter Tryz.func289, Tryz.ntmps289
      go_wp2
      go_ret2
      refine ⟨rfl, ?_⟩
      repeat (first | exact Below.refl _ _ | assumption | refine bl_drew ?_ | refine bl_drewN ?_ _ | refine Below.setCell ?_ (by first | assumption | omega | (simp; done) | (simp; omega)) _ | refine Below.alloc ?_ (by first | assumption | omega | (simp; done) | (simp; omega)) _)
set_option maxHeartbeats 8000000 in
theorem Exact_yes (n : Int) (w : World) (h : Trig.rEx n = true) : Calls Tryz.prog 289 #[.int .i64 n] w fun e w' => e = .returned (.tuple #[.int .i64 (Trig.rVal n), .bool true]) ∧ Below w.heap.size w w' := by
  have hm : 0 ≤ n % 21600000 ∧ n % 21600000 < 21600000 := by omega
  have ht := tmodT_val n
  unfold Trig.rEx at h
  unfold Trig.rVal
  generalize n % 21600000 = m at *
  obtain ⟨m0, m1⟩ := hm
  simp only [Bool.and_eq_true, Bool.not_eq_true', Bool.or_eq_false_iff, decide_eq_true_eq, decide_eq_false_iff_not] at h
  have hmk : m = 1800000 * 0 ∨ m = 1800000 * 1 ∨ m = 1800000 * 3 ∨ m = 1800000 * 5 ∨ m = 1800000 * 6 ∨ m = 1800000 * 7 ∨ m = 1800000 * 9 ∨ m = 1800000 * 11 := by omega
  clear h m0 m1
  rcases hmk with rfl | rfl | rfl | rfl | rfl | rfl | rfl | rfl
  all_goals
    rcases ht with ⟨t0, t1⟩ | ⟨t0, t1⟩
    all_goals
      simp only [Int.reduceMul] at t1
      simp only [Int.reduceMul, Int.reduceDiv, Int.reduceEq, if_true, if_false]
      go_enter Tryz.func289, Tryz.ntmps289
      go_wp2
      go_ret2
      refine ⟨rfl, ?_⟩
      repeat (first | exact Below.refl _ _ | assumption | refine bl_drew ?_ | refine bl_drewN ?_ _ | refine Below.setCell ?_ (by first | assumption | omega | (simp; done) | (simp; omega)) _ | refine Below.alloc ?_ (by first | assumption | omega | (simp; done) | (simp; omega)) _)
theorem qv_facts (n : Int) (h : Trig.rEx n = false) : (-4611686018427387904 ≤ Trig.qv n ∧ Trig.qv n ≤ 4611686018427387904) ∧ (Trig.qv n - 256) / 4294967296 = (Trig.qv n + 256) / 4294967296 ∧ Trig.qv n / 4294967296 = Trig.loB n ∧ Trig.hiB n = Trig.loB n + 1 := by
  obtain ⟨hf, h1, h2⟩ := Trig.quick_far n h
  refine ⟨?_, ?_, h1, h2⟩
  · have hr : 0 ≤ Trig.rr n ∧ Trig.rr n ≤ 2700000 := by unfold Trig.rr; omega
    have := quickN_bd (r := Trig.rr n) (Trig.rc n) hr.1 hr.2
    unfold Trig.qv
    split <;> omega
  · unfold Trig.farB at hf
    rw [Bool.and_eq_true, Nat.ble_eq, Nat.ble_eq] at hf
    unfold Trig.qv
    generalize Trig.quickN (Trig.rr n).toNat (Trig.rc n) = v at *
    split <;> omega
set_option maxHeartbeats 2000000 in
theorem Floor_any (n : Int) (w : World) : Calls Tryz.prog 266 #[.int .i64 n] w fun e w' => e = .returned (.tuple #[.int .i64 (Trig.loB n), .bool (Trig.rEx n)]) ∧ Below w.heap.size w w' := by
  cases h : Trig.rEx n with
  | true =>
    have KE := Lib.hid (fun W => Exact_yes n W h)
    rw [(Trig.exact_same n h).1] at KE
    clear h
    go_enter Tryz.func266, Tryz.ntmps266
    go_wp2_with (go_at_call 289; (with_reducible refine (KE.out _).mono ?_); rintro e w1 ⟨rfl, hb1⟩)
    go_ret2
    exact ⟨rfl, hb1⟩
  | false =>
    have KE := Lib.hid (fun W => Exact_no n W h)
    have KQ := Lib.hid (fun W => Quick_any n W)
    obtain ⟨⟨q0, q1⟩, hq, hl, -⟩ := qv_facts n h
    rw [← hl]
    generalize Trig.qv n = v at *
    have hd : ((v - 256) / 4294967296 == (v + 256) / 4294967296) = true := by rw [beq_iff_eq]; exact hq
    clear h hl hq
    go_enter Tryz.func266, Tryz.ntmps266
    go_wp2_with (first | (go_at_call 289; (with_reducible refine (KE.out _).mono ?_); rintro e w1 ⟨rfl, hb1⟩) | (go_at_call 290; (with_reducible refine (KQ.out _).mono ?_); rintro e w2 ⟨rfl, rfl⟩))
    go_ret2
    exact ⟨rfl, hb1⟩
end Go.Proofs.YtifdgdgfmjfbdaaGreat
namespace Go.Proofs.YtifdgdgfmjfbdaaGreat
open Go.RowKit
/-- two cells that are known, and can be written -/
structure D2 (W : World) (g : Nat) (a b : Int) : Prop where
  lt : g < W.heap.size
  c0 : W.cell? ⟨g, 0, none⟩ = some (.int .i64 a)
  c1 : W.cell? ⟨g, 1, none⟩ = some (.int .i64 b)
  f0 : W.frozen? ⟨g, 0, none⟩ = false
  f1 : W.frozen? ⟨g, 1, none⟩ = false
section
variable {W W' : World} {g : Nat} {a b : Int}
theorem D2.below {B : Nat} (h : D2 W g a b) (hb : Below B W W') (hB : g < B) : D2 W' g a b :=
  ⟨Nat.lt_of_lt_of_le h.lt hb.size, (hb.cell (p := ⟨g, 0, none⟩) hB).trans h.c0, (hb.cell (p := ⟨g, 1, none⟩) hB).trans h.c1, (hb.frozen (p := ⟨g, 0, none⟩) hB).trans h.f0, (hb.frozen (p := ⟨g, 1, none⟩) hB).trans h.f1⟩
theorem D2.alloc (h : D2 W g a b) (o : Obj) : D2 (W.alloc o) g a b := h.below (bl_alloc W o) h.lt
theorem D2.new (W : World) (a b : Int) (t : TypeId) : D2 (W.alloc (.cells #[.int .i64 a, .int .i64 b] t)) W.heap.size a b := ⟨by simp, by simp, by simp, by simp, by simp⟩
theorem D2.far (h : D2 W g a b) {p : Addr} (hp : g ≠ p.block) (u : Value) : D2 (W.setCell p u) g a b := by
  have hne : ∀ i, p ≠ (⟨g, i, none⟩ : Addr) := fun i e => hp (by rw [e])
  refine ⟨by simpa using h.lt, ?_, ?_, ?_, ?_⟩
  · rw [World.cell?_setCell_other _ _ _ _ (hne 0)]; exact h.c0
  · rw [World.cell?_setCell_other _ _ _ _ (hne 1)]; exact h.c1
  · simpa using h.f0
  · simpa using h.f1
theorem D2.set0 (h : D2 W g a b) (v : Int) : D2 (W.setCell ⟨g, 0, none⟩ (.int .i64 v)) g v b := by
  refine ⟨by simpa using h.lt, World.cell?_setCell_same _ _ _ h.c0, ?_, by simpa using h.f0, by simpa using h.f1⟩
  rw [World.cell?_setCell_other _ _ _ _ (by simp)]
  exact h.c1
theorem D2.set1 (h : D2 W g a b) (v : Int) : D2 (W.setCell ⟨g, 1, none⟩ (.int .i64 v)) g a v := by
  refine ⟨by simpa using h.lt, ?_, World.cell?_setCell_same _ _ _ h.c1, by simpa using h.f0, by simpa using h.f1⟩
  rw [World.cell?_setCell_other _ _ _ _ (by simp)]
  exact h.c0
end
set_option maxHeartbeats 1000000 in
theorem ends_any (n : Int) (w : World) : Calls Tryz.prog 227 #[.int .i64 n] w fun e w' => e = .returned (.tuple #[.int .i64 (Trig.loB n), .int .i64 (Trig.hiB n)]) ∧ Below w.heap.size w w' := by
  have KF := Lib.hid (fun W => Floor_any n W)
  have hb := Trig.lo_bd n
  have hx : Trig.hiB n = if Trig.rEx n = true then Trig.loB n else Trig.loB n + 1 := by
    cases h : Trig.rEx n with
    | true => rw [if_pos rfl]; exact (Trig.exact_same n h).2
    | false => rw [if_neg (by simp)]; exact (qv_facts n h).2.2.2
  rw [hx]
  obtain ⟨b0, b1, -, -⟩ := hb
  clear hx
  generalize Trig.rEx n = x at *
  generalize Trig.loB n = l at *
  cases x
  all_goals
    simp only [eq_self, if_true, Bool.false_eq_true, if_false]
    go_enter Tryz.func227, Tryz.ntmps227
    go_wp2_with (go_at_call 266; (with_reducible refine (KF.out _).mono ?_); rintro e w1 ⟨rfl, hb1⟩)
    go_ret2
    exact ⟨rfl, hb1⟩
set_option maxHeartbeats 1000000 in
theorem hasR_any (lo hi n : Int) (w : World) (h0 : -10000000000000 ≤ lo) (h1 : lo ≤ 10000000000000) (h4 : -5400000 ≤ n) (h5 : n ≤ 5400000) :
    Calls Tryz.prog 228 #[.agg #[.int .i64 lo, .int .i64 hi], .int .i64 n] w fun e w' => e = .returned (.bool (decide (lo + (n - lo) % 21600000 ≤ hi))) ∧ Below w.heap.size w w' := by
  have ht := tmodT_val (n - lo)
  have hm : 0 ≤ (n - lo) % 21600000 ∧ (n - lo) % 21600000 < 21600000 := by omega
  have s1 : wrap64 (n - lo) = n - lo := IntWalk.wrap64_in _ (by omega)
  generalize (n - lo) % 21600000 = m at *
  obtain ⟨m0, m1⟩ := hm
  rcases ht with ⟨t0, t1⟩ | ⟨t0, t1⟩
  all_goals
    go_enter Tryz.func228, Tryz.ntmps228
    go_wp2
    go_ret
    refine ⟨rfl, ?_⟩
    repeat (first | exact Below.refl _ _ | assumption | refine bl_drew ?_ | refine bl_drewN ?_ _ | refine Below.setCell ?_ (by first | assumption | omega | (simp; done) | (simp; omega)) _ | refine Below.alloc ?_ (by first | assumption | omega | (simp; done) | (simp; omega)) _)
theorem has_met (lo hi : Int) : decide (lo + (5400000 - lo) % 21600000 ≤ hi) = Trig.metB lo hi 5400000 ∧ decide (lo + (-5400000 - lo) % 21600000 ≤ hi) = Trig.metB lo hi 16200000 := by
  unfold Trig.metB
  rw [decide_eq_decide, decide_eq_decide]
  omega
set_option maxHeartbeats 4000000 in
theorem sineR_any (lo hi : Int) (w : World) (h0 : -10000000000000 ≤ lo) (h1 : lo ≤ 10000000000000) :
    Calls Tryz.prog 182 #[.agg #[.int .i64 lo, .int .i64 hi]] w fun e w' => e = .returned (.agg #[.int .i64 (Trig.enLo lo hi), .int .i64 (Trig.enHi lo hi)]) ∧ Below w.heap.size w w' := by
  have KA := Lib.hid (fun W => ends_any lo W)
  have KB := Lib.hid (fun W => ends_any hi W)
  have KQ := Lib.hid (fun W => hasR_any lo hi 5400000 W h0 h1 (by omega) (by omega))
  have KR := Lib.hid (fun W => hasR_any lo hi (-5400000) W h0 h1 (by omega) (by omega))
  rw [(has_met lo hi).1] at KQ
  rw [(has_met lo hi).2] at KR
  unfold Trig.enLo Trig.enHi
  generalize Trig.metB lo hi 5400000 = p at *
  generalize Trig.metB lo hi 16200000 = q at *
  generalize Trig.loB lo = a at *
  generalize Trig.hiB lo = b at *
  generalize Trig.loB hi = c at *
  generalize Trig.hiB hi = d at *
  cases p <;> cases q
  all_goals
    simp only [eq_self, if_true, Bool.false_eq_true, if_false]
    go_enter Tryz.func182, Tryz.ntmps182
    go_wp2_with fail
    (with_reducible refine (KA.out _).mono ?_)
    rintro e w1 ⟨rfl, hb1⟩
    have hbl1 := two_bl hb1
    have X1 := Lib.hid (((D2.new w lo hi 29).alloc (.cells #[.int .i64 0, .int .i64 0] 97)).below hb1 (by simp; omega))
    have R1 : Hid (D2 w1 (w.heap.size + 1) 0 0) := Lib.hid (by
      have := (D2.new (w.alloc (.cells #[.int .i64 lo, .int .i64 hi] 29)) 0 0 97).below hb1 (by simp)
      simpa using this)
    obtain ⟨-, x0, x1, -, -⟩ := X1.out
    clear hb1
    go_wp2_with fail
    (with_reducible refine (KB.out _).mono ?_)
    rintro e w2 ⟨rfl, hb2⟩
    have hbl2 := hbl1.trans (hb2.mono hbl1.size)
    have X2 := Lib.hid (X1.out.below hb2 X1.out.lt)
    have R2 := Lib.hid (R1.out.below hb2 R1.out.lt)
    clear hb2 hbl1 X1 R1 x0 x1
    obtain ⟨xt, x0, x1, -, -⟩ := X2.out
    go_wp2_with fail
    (with_reducible refine (KQ.out _).mono ?_)
    rintro e w3 ⟨rfl, hb3⟩
    have hbl3 := (hbl2.alloc hbl2.size _).trans (hb3.mono (by have := hbl2.size; simp; omega))
    have X3 := Lib.hid ((X2.out.alloc _).below hb3 (X2.out.alloc _).lt)
    have R3 := Lib.hid ((R2.out.alloc _).below hb3 (R2.out.alloc _).lt)
    have O3 := Lib.hid ((D2.new w2 (min a c) (max b d) 97).below hb3 (D2.new w2 (min a c) (max b d) 97).lt)
    have g1 : w.heap.size ≠ w2.heap.size := by have := X2.out.lt; omega
    have g2 : w.heap.size + 1 ≠ w2.heap.size := by have := R2.out.lt; omega
    have g3 : w.heap.size ≤ w2.heap.size := hbl2.size
    generalize w2.heap.size = g at *
    clear hb3 hbl2 X2 R2 x0 x1 xt
    first
      | (have X4 := Lib.hid (X3.out.far g1 (p := ⟨g, 1, none⟩) (.int .i64 1073741824))
         have R4 := Lib.hid (R3.out.far g2 (p := ⟨g, 1, none⟩) (.int .i64 1073741824))
         have O4 := Lib.hid (O3.out.set1 1073741824)
         have hbl4 := hbl3.setCell (p := ⟨g, 1, none⟩) g3 (.int .i64 1073741824)
         obtain ⟨xt, x0, x1, -, -⟩ := X3.out
         obtain ⟨ot, o0, o1, of0, of1⟩ := O3.out
         go_wp2_with fail
         (with_reducible refine (KR.out (w3.setCell ⟨g, 1, none⟩ (.int .i64 1073741824))).mono ?_)
         clear xt x0 x1 ot o0 o1 of0 of1)
      | (have X4 := X3
         have R4 := R3
         have O4 := O3
         have hbl4 := hbl3
         obtain ⟨xt, x0, x1, -, -⟩ := X3.out
         go_wp2_with fail
         (with_reducible refine (KR.out w3).mono ?_)
         clear xt x0 x1)
    rintro e w5 ⟨rfl, hb5⟩
    have hbl5 := hbl4.trans (hb5.mono hbl4.size)
    have R5 := Lib.hid (R4.out.below hb5 R4.out.lt)
    have O5 := Lib.hid (O4.out.below hb5 O4.out.lt)
    obtain ⟨rt, r0, r1, rf0, rf1⟩ := R5.out
    obtain ⟨ot, o0, o1, of0, of1⟩ := O5.out
    clear X3 R3 O3 hbl3 X4 R4 O4 hb5 hbl4
    go_wp2
    first
      | (refine bodyPost_ret (v := .agg #[.int .i64 (min a c), .int .i64 (max b d)]) (by simp [results, Tryz.results182, go_sem, *]) rfl ⟨rfl, ?_⟩; exact (hbl5.setCell (by simp) _).setCell (by simp) _)
      | (refine bodyPost_ret (v := .agg #[.int .i64 (min a c), .int .i64 1073741824]) (by simp [results, Tryz.results182, go_sem, *]) rfl ⟨rfl, ?_⟩; exact (hbl5.setCell (by simp) _).setCell (by simp) _)
      | (refine bodyPost_ret (v := .agg #[.int .i64 (-1073741824), .int .i64 (max b d)]) (by simp [results, Tryz.results182, go_sem, *]) rfl ⟨rfl, ?_⟩; exact ((hbl5.setCell g3 _).setCell (by simp) _).setCell (by simp) _)
      | (refine bodyPost_ret (v := .agg #[.int .i64 (-1073741824), .int .i64 1073741824]) (by simp [results, Tryz.results182, go_sem, *]) rfl ⟨rfl, ?_⟩; exact ((hbl5.setCell g3 _).setCell (by simp) _).setCell (by simp) _)
set_option maxHeartbeats 1000000 in
theorem SinR_any (lo hi : Int) (w : World) (h0 : -10000000000000 ≤ lo) (h1 : lo ≤ 10000000000000) :
    Calls Tryz.prog 120 #[.agg #[.int .i64 lo, .int .i64 hi]] w fun e w' => e = .returned (.agg #[.int .i64 (Trig.enLo lo hi), .int .i64 (Trig.enHi lo hi)]) ∧ Below w.heap.size w w' := by
  have K := Lib.hid (fun W => sineR_any lo hi W h0 h1)
  generalize Trig.enLo lo hi = u at *
  generalize Trig.enHi lo hi = v at *
  clear h0 h1
  go_enter Tryz.func120, Tryz.ntmps120
  go_wp2_with fail
  (with_reducible refine (K.out _).mono ?_)
  rintro e w1 ⟨rfl, hb1⟩
  have hbl1 := two_bl hb1
  have R1 : Hid (D2 w1 (w.heap.size + 1) 0 0) := Lib.hid (by
    have := (D2.new (w.alloc (.cells #[.int .i64 lo, .int .i64 hi] 29)) 0 0 97).below hb1 (by simp)
    simpa using this)
  obtain ⟨rt, r0, r1, rf0, rf1⟩ := R1.out
  clear hb1
  go_wp2
  refine bodyPost_ret (v := .agg #[.int .i64 u, .int .i64 v]) (by simp [results, Tryz.results120, go_sem, *]) rfl ⟨rfl, ?_⟩
  exact (hbl1.setCell (by simp) _).setCell (by simp) _
set_option maxHeartbeats 1000000 in
theorem CosR_any (lo hi : Int) (w : World) (h0 : -5000000000000 ≤ lo) (h1 : lo ≤ 5000000000000) (h2 : -5000000000000 ≤ hi) (h3 : hi ≤ 5000000000000) :
    Calls Tryz.prog 121 #[.agg #[.int .i64 lo, .int .i64 hi]] w fun e w' => e = .returned (.agg #[.int .i64 (Trig.enLo (lo + 5400000) (hi + 5400000)), .int .i64 (Trig.enHi (lo + 5400000) (hi + 5400000))]) ∧ Below w.heap.size w w' := by
  have K := Lib.hid (fun W => sineR_any (lo + 5400000) (hi + 5400000) W (by omega) (by omega))
  generalize Trig.enLo (lo + 5400000) (hi + 5400000) = u at *
  generalize Trig.enHi (lo + 5400000) (hi + 5400000) = v at *
  go_enter Tryz.func121, Tryz.ntmps121
  go_wp2_with fail
  (with_reducible refine (K.out _).mono ?_)
  rintro e w1 ⟨rfl, hb1⟩
  have hbl1 := two_bl hb1
  have R1 : Hid (D2 w1 (w.heap.size + 1) 0 0) := Lib.hid (by
    have := (D2.new (w.alloc (.cells #[.int .i64 lo, .int .i64 hi] 29)) 0 0 97).below hb1 (by simp)
    simpa using this)
  obtain ⟨rt, r0, r1, rf0, rf1⟩ := R1.out
  clear hb1
  go_wp2
  refine bodyPost_ret (v := .agg #[.int .i64 u, .int .i64 v]) (by simp [results, Tryz.results121, go_sem, *]) rfl ⟨rfl, ?_⟩
  exact (hbl1.setCell (by simp) _).setCell (by simp) _
end Go.Proofs.YtifdgdgfmjfbdaaGreat
namespace Go.Proofs.YtifdgdgfmjfbdaaGreat
open Go.RowKit
/-- which intervals of fixed are valid -/
def fvB (lo hi : Int) : Bool := decide (-2147483648 ≤ lo ∧ lo ≤ hi ∧ hi ≤ 2147483648)
set_option maxHeartbeats 1000000 in
theorem fValid_any (lo hi : Int) (w : World) : Calls Tryz.prog 151 #[.agg #[.int .i64 lo, .int .i64 hi]] w fun e w' => e = .returned (.bool (fvB lo hi)) ∧ Below w.heap.size w w' := by
  unfold fvB
  go_enter Tryz.func151, Tryz.ntmps151
  go_wp2
  all_goals
    go_ret
    refine ⟨ret_boolU (by first | (simp_all; done) | (simp_all; omega)), ?_⟩
    repeat (first | exact Below.refl _ _ | assumption | refine bl_drew ?_ | refine bl_drewN ?_ _ | refine Below.setCell ?_ (by first | assumption | omega | (simp; done) | (simp; omega)) _ | refine Below.alloc ?_ (by first | assumption | omega | (simp; done) | (simp; omega)) _)
/-- what fit returns -/
def fitV (lo hi : Int) : Value := if fvB lo hi = true then .tuple #[.agg #[.int .i64 lo, .int .i64 hi], .int .i64 0] else .tuple #[.agg #[.int .i64 0, .int .i64 0], .int .i64 5]
set_option maxHeartbeats 2000000 in
theorem ffit_any (lo hi : Int) (w : World) : Calls Tryz.prog 158 #[.int .i64 lo, .int .i64 hi] w fun e w' => e = .returned (fitV lo hi) ∧ Below w.heap.size w w' := by
  have KV := Lib.hid (fun W => fValid_any lo hi W)
  unfold fitV
  generalize fvB lo hi = s at *
  cases s
  · simp only [Bool.false_eq_true, if_false]
    go_enter Tryz.func158, Tryz.ntmps158
    go_wp2_with fail
    (with_reducible refine (KV.out _).mono ?_)
    rintro e w1 ⟨rfl, hb1⟩
    have hbl1 := two_bl hb1
    have R1 := Lib.hid (((D2.new w 0 0 97).alloc (.cells #[.int .i64 lo, .int .i64 hi] 97)).below hb1 (by simp; omega))
    obtain ⟨rt, r0, r1, rf0, rf1⟩ := R1.out
    clear hb1
    go_wp2
    refine bodyPost_ret (v := .tuple #[.agg #[.int .i64 0, .int .i64 0], .int .i64 5]) (by simp [results, Tryz.results158, go_sem, *]) rfl ⟨rfl, ?_⟩
    exact (hbl1.setCell (by simp) _).setCell (by simp) _
  · simp only [if_true]
    go_enter Tryz.func158, Tryz.ntmps158
    go_wp2_with fail
    (with_reducible refine (KV.out _).mono ?_)
    rintro e w1 ⟨rfl, hb1⟩
    have hbl1 := two_bl hb1
    have R1 := Lib.hid (((D2.new w 0 0 97).alloc (.cells #[.int .i64 lo, .int .i64 hi] 97)).below hb1 (by simp; omega))
    have O1 : Hid (D2 w1 (w.heap.size + 1) lo hi) := Lib.hid (by
      have := (D2.new (w.alloc (.cells #[.int .i64 0, .int .i64 0] 97)) lo hi 97).below hb1 (by simp)
      simpa using this)
    obtain ⟨rt, r0, r1, rf0, rf1⟩ := R1.out
    obtain ⟨ot, o0, o1, of0, of1⟩ := O1.out
    clear hb1
    go_wp2
    refine bodyPost_ret (v := .tuple #[.agg #[.int .i64 lo, .int .i64 hi], .int .i64 0]) (by simp [results, Tryz.results158, go_sem, *]) rfl ⟨rfl, ?_⟩
    exact (hbl1.setCell (by simp) _).setCell (by simp) _
set_option maxHeartbeats 1000000 in
theorem both_any (a b c d : Int) (w : World) (h : fvB a b = true) (g : fvB c d = true) : Calls Tryz.prog 157 #[.agg #[.int .i64 a, .int .i64 b], .agg #[.int .i64 c, .int .i64 d]] w fun e w' => e = .returned (.bool true) ∧ Below w.heap.size w w' := by
  have KA := Lib.hid (fun W => fValid_any a b W)
  have KB := Lib.hid (fun W => fValid_any c d W)
  rw [h] at KA
  rw [g] at KB
  clear h g
  go_enter Tryz.func157, Tryz.ntmps157
  go_wp2_with fail
  (with_reducible refine (KA.out _).mono ?_)
  rintro e w1 ⟨rfl, hb1⟩
  have hbl1 := two_bl hb1
  have O1 : Hid (D2 w1 (w.heap.size + 1) c d) := Lib.hid (by
    have := (D2.new (w.alloc (.cells #[.int .i64 a, .int .i64 b] 97)) c d 97).below hb1 (by simp)
    simpa using this)
  obtain ⟨ot, o0, o1, of0, of1⟩ := O1.out
  clear hb1
  go_wp2_with fail
  (with_reducible refine (KB.out _).mono ?_)
  rintro e w2 ⟨rfl, hb2⟩
  have hbl2 := hbl1.trans (hb2.mono hbl1.size)
  clear hb2
  go_wp2
  go_ret
  exact ⟨rfl, hbl2⟩
end Go.Proofs.YtifdgdgfmjfbdaaGreat
namespace Go.Proofs.YtifdgdgfmjfbdaaGreat
open Go.RowKit
theorem three_D2 {w w1 : World} {a b c d e f : Int} {t : TypeId} (hb : Below (((w.alloc (.cells #[.int .i64 a, .int .i64 b] t)).alloc (.cells #[.int .i64 c, .int .i64 d] t)).alloc (.cells #[.int .i64 e, .int .i64 f] t)).heap.size (((w.alloc (.cells #[.int .i64 a, .int .i64 b] t)).alloc (.cells #[.int .i64 c, .int .i64 d] t)).alloc (.cells #[.int .i64 e, .int .i64 f] t)) w1) :
    Below w.heap.size w w1 ∧ D2 w1 w.heap.size a b ∧ D2 w1 (w.heap.size + 1) c d ∧ D2 w1 (w.heap.size + 2) e f := by
  refine ⟨?_, ?_, ?_, ?_⟩
  · exact ((((Below.refl _ _).alloc (Nat.le_refl _) _).alloc (by simp) _).alloc (by simp; omega) _).trans (hb.mono (by simp; omega))
  · exact (((D2.new w a b t).alloc _).alloc _).below hb (by simp; omega)
  · have := ((D2.new (w.alloc (.cells #[.int .i64 a, .int .i64 b] t)) c d t).alloc (.cells #[.int .i64 e, .int .i64 f] t)).below hb (by simp)
    simpa using this
  · have := (D2.new ((w.alloc (.cells #[.int .i64 a, .int .i64 b] t)).alloc (.cells #[.int .i64 c, .int .i64 d] t)) e f t).below hb (by simp)
    simpa using this
theorem mul_bd31 {a b : Int} (a0 : -2147483648 ≤ a) (a1 : a ≤ 2147483648) (b0 : -2147483648 ≤ b) (b1 : b ≤ 2147483648) : -4611686018427387904 ≤ a * b ∧ a * b ≤ 4611686018427387904 := by
  have : (a * b).natAbs ≤ 2147483648 * 2147483648 := by rw [Int.natAbs_mul]; exact Nat.mul_le_mul (by omega) (by omega)
  omega
set_option maxHeartbeats 1000000 in
theorem ffloor_any (a : Int) (w : World) (a0 : -4611686018427387904 ≤ a) (a1 : a ≤ 4611686018427387904) : Calls Tryz.prog 159 #[.int .i64 a, .int .i64 1073741824] w fun e w' => e = .returned (.int .i64 (a / 1073741824)) ∧ w' = w := by
  have h1 := Int.mul_tdiv_add_tmod a 1073741824
  have h3 := Int.tmod_lt_of_pos a (show (0 : Int) < 1073741824 by omega)
  have h4 := Int.tmod_lt_of_pos (-a) (show (0 : Int) < 1073741824 by omega)
  rw [Int.neg_tmod] at h4
  have h5 : a < 0 → Int.tmod a 1073741824 ≤ 0 := fun h => by
    have h2 := Int.tmod_nonneg 1073741824 (show 0 ≤ -a by omega)
    rw [Int.neg_tmod] at h2
    omega
  have h6 : ¬ a < 0 → 0 ≤ Int.tmod a 1073741824 := fun h => Int.tmod_nonneg 1073741824 (show 0 ≤ a by omega)
  have s1 : wrap64 (Int.tdiv a 1073741824 - 1) = Int.tdiv a 1073741824 - 1 := IntWalk.wrap64_in _ (by omega)
  have s2 : wrap64 (Int.tdiv a 1073741824) = Int.tdiv a 1073741824 := IntWalk.wrap64_in _ (by omega)
  have H := Lib.hid (And.intro h1 (And.intro h3 (And.intro h4 (And.intro h5 h6))))
  clear h1 h3 h4 h5 h6
  cases hx : decide (a < 0)
  all_goals
    go_enter Tryz.func159, Tryz.ntmps159
    go_wp2
    all_goals
      go_ret
      refine ⟨ret_int ?_, rfl⟩
      obtain ⟨h1, h3, h4, h5, h6⟩ := H.out
      try rw [s1]
      simp only [bne_iff_ne, ne_eq, bne_eq_false_iff_eq, decide_eq_true_eq, decide_eq_false_iff_not] at *
      omega
set_option maxHeartbeats 1000000 in
theorem fceil_any (a : Int) (w : World) (a0 : -4611686018427387904 ≤ a) (a1 : a ≤ 4611686018427387904) : Calls Tryz.prog 160 #[.int .i64 a, .int .i64 1073741824] w fun e w' => e = .returned (.int .i64 (-(-a / 1073741824))) ∧ w' = w := by
  have KF := Lib.hid (fun W => ffloor_any (-a) W (by omega) (by omega))
  have s1 : wrap64 (-a) = -a := IntWalk.wrap64_in _ (by omega)
  have s2 : wrap64 (-(-a / 1073741824)) = -(-a / 1073741824) := IntWalk.wrap64_in _ (by omega)
  generalize -a / 1073741824 = q at *
  go_enter Tryz.func160, Tryz.ntmps160
  go_wp2_with fail
  (with_reducible refine (KF.out _).mono ?_)
  rintro e w1 ⟨rfl, rfl⟩
  go_wp2
  go_ret
  exact ⟨ret_int s2, rfl⟩
theorem fv_iff {a b : Int} : fvB a b = true ↔ -2147483648 ≤ a ∧ a ≤ b ∧ b ≤ 2147483648 := by unfold fvB; exact decide_eq_true_iff
end Go.Proofs.YtifdgdgfmjfbdaaGreat
namespace Go.Proofs.YtifdgdgfmjfbdaaGreat
open Go.RowKit
set_option maxHeartbeats 2000000 in
theorem fAdd_any (a b c d : Int) (w : World) (h : fvB a b = true) (g : fvB c d = true) : Calls Tryz.prog 97 #[.agg #[.int .i64 a, .int .i64 b], .agg #[.int .i64 c, .int .i64 d]] w fun e w' => e = .returned (fitV (a + c) (b + d)) ∧ Below w.heap.size w w' := by
  have KB := Lib.hid (fun W => both_any a b c d W h g)
  have KF := Lib.hid (fun W => ffit_any (a + c) (b + d) W)
  rw [fv_iff] at h g
  have s1 : wrap64 (a + c) = a + c := IntWalk.wrap64_in _ (by omega)
  have s2 : wrap64 (b + d) = b + d := IntWalk.wrap64_in _ (by omega)
  clear h g
  unfold fitV at *
  generalize fvB (a + c) (b + d) = s at *
  obtain ⟨p, hp⟩ : ∃ p, a + c = p := ⟨_, rfl⟩
  obtain ⟨q, hq⟩ : ∃ q, b + d = q := ⟨_, rfl⟩
  rw [hp] at s1 KF ⊢
  rw [hq] at s2 KF ⊢
  cases s
  all_goals
    simp only [Bool.false_eq_true, if_false, if_true] at *
    go_enter Tryz.func97, Tryz.ntmps97
    go_wp2_with fail
    (with_reducible refine (KB.out _).mono ?_)
    rintro e w1 ⟨rfl, hb1⟩
    obtain ⟨hbl1, A1, B1, C1⟩ := three_D2 hb1
    replace C1 := Lib.hid C1
    obtain ⟨at1, a1, a2, af1, af2⟩ := A1
    obtain ⟨bt1, b1, b2, bf1, bf2⟩ := B1
    clear hb1
    go_wp2_with fail
    (with_reducible refine (KF.out _).mono ?_)
    rintro e w2 ⟨rfl, hb2⟩
    have hbl2 := hbl1.trans (hb2.mono hbl1.size)
    have R2 := Lib.hid (C1.out.below hb2 C1.out.lt)
    obtain ⟨rt, r0, r1, rf0, rf1⟩ := R2.out
    clear hb2
    go_wp2
    first
      | refine bodyPost_ret (v := .tuple #[.agg #[.int .i64 p, .int .i64 q], .int .i64 0]) (by simp [results, Tryz.results97, go_sem, *]; done) rfl ⟨rfl, ?_⟩
      | refine bodyPost_ret (v := .tuple #[.agg #[.int .i64 0, .int .i64 0], .int .i64 5]) (by simp [results, Tryz.results97, go_sem, *]; done) rfl ⟨rfl, ?_⟩
    exact (hbl2.setCell (by simp; omega) _).setCell (by simp; omega) _
theorem min_e (x y : Int) : (if y < x then y else x) = min x y := by rw [Int.min_def]; split <;> split <;> omega
theorem max_e (x y : Int) : (if y > x then y else x) = max x y := by rw [Int.max_def]; split <;> split <;> omega
@[go_sem high] theorem run_min4 {P : Program} (w : World) (ts : Array TypeId) (t : TypeId) (x y z u : Int) :
    (Builtin.min_ ts t #[.int .i64 x, .int .i64 y, .int .i64 z, .int .i64 u]).run P w = .ok (.int .i64 (min x (min y (min z u)))) w := by
  simp [Builtin.min_, Builtin.min2, min_e, Int.min_assoc]
@[go_sem high] theorem run_max4 {P : Program} (w : World) (ts : Array TypeId) (t : TypeId) (x y z u : Int) :
    (Builtin.max_ ts t #[.int .i64 x, .int .i64 y, .int .i64 z, .int .i64 u]).run P w = .ok (.int .i64 (max x (max y (max z u)))) w := by
  simp [Builtin.max_, Builtin.max2, max_e, Int.max_assoc]
set_option maxHeartbeats 4000000 in
theorem fMul_any (a b c d : Int) (w : World) (h : fvB a b = true) (g : fvB c d = true) : Calls Tryz.prog 99 #[.agg #[.int .i64 a, .int .i64 b], .agg #[.int .i64 c, .int .i64 d]] w fun e w' => e = .returned (fitV (min (a * c) (min (a * d) (min (b * c) (b * d))) / 1073741824) (-(-(max (a * c) (max (a * d) (max (b * c) (b * d)))) / 1073741824))) ∧ Below w.heap.size w w' := by
  have KB := Lib.hid (fun W => both_any a b c d W h g)
  rw [fv_iff] at h g
  have m1 := mul_bd31 (a := a) (b := c) (by omega) (by omega) (by omega) (by omega)
  have m2 := mul_bd31 (a := a) (b := d) (by omega) (by omega) (by omega) (by omega)
  have m3 := mul_bd31 (a := b) (b := c) (by omega) (by omega) (by omega) (by omega)
  have m4 := mul_bd31 (a := b) (b := d) (by omega) (by omega) (by omega) (by omega)
  have s1 : wrap64 (a * c) = a * c := IntWalk.wrap64_in _ (by omega)
  have s2 : wrap64 (a * d) = a * d := IntWalk.wrap64_in _ (by omega)
  have s3 : wrap64 (b * c) = b * c := IntWalk.wrap64_in _ (by omega)
  have s4 : wrap64 (b * d) = b * d := IntWalk.wrap64_in _ (by omega)
  clear h g
  obtain ⟨x, hx⟩ : ∃ p, a * c = p := ⟨_, rfl⟩
  obtain ⟨y, hy⟩ : ∃ p, a * d = p := ⟨_, rfl⟩
  obtain ⟨z, hz⟩ : ∃ p, b * c = p := ⟨_, rfl⟩
  obtain ⟨u, hu⟩ : ∃ p, b * d = p := ⟨_, rfl⟩
  rw [hx] at s1 m1 ⊢
  rw [hy] at s2 m2 ⊢
  rw [hz] at s3 m3 ⊢
  rw [hu] at s4 m4 ⊢
  have KL := Lib.hid (fun W => ffloor_any (min x (min y (min z u))) W (by omega) (by omega))
  have KC := Lib.hid (fun W => fceil_any (max x (max y (max z u))) W (by omega) (by omega))
  clear m1 m2 m3 m4
  generalize hl : min x (min y (min z u)) / 1073741824 = p at *
  generalize hh : -(-(max x (max y (max z u))) / 1073741824) = q at *
  clear hl hh
  have KF := Lib.hid (fun W => ffit_any p q W)
  unfold fitV at *
  generalize fvB p q = s at *
  cases s
  all_goals
    simp only [Bool.false_eq_true, if_false, if_true] at *
    go_enter Tryz.func99, Tryz.ntmps99
    go_wp2_with fail
    (with_reducible refine (KB.out _).mono ?_)
    rintro e w1 ⟨rfl, hb1⟩
    obtain ⟨hbl1, A1, B1, C1⟩ := three_D2 hb1
    replace C1 := Lib.hid C1
    obtain ⟨at1, a1, a2, af1, af2⟩ := A1
    obtain ⟨bt1, b1, b2, bf1, bf2⟩ := B1
    clear hb1
    go_wp2
    go_quiet (fail)
    go_wp2_with fail
    (with_reducible refine (KL.out _).mono ?_)
    rintro e w3 ⟨rfl, rfl⟩
    go_wp2_with fail
    (with_reducible refine (KC.out _).mono ?_)
    rintro e w4 ⟨rfl, rfl⟩
    go_wp2_with fail
    (with_reducible refine (KF.out _).mono ?_)
    rintro e w2 ⟨rfl, hb2⟩
    rename_i nq _ _ _ _
    have hb3 := (bl_drewN (Below.refl _ w1) nq).trans hb2
    have hbl2 := hbl1.trans (hb3.mono hbl1.size)
    have R2 := Lib.hid (C1.out.below hb3 C1.out.lt)
    obtain ⟨rt, r0, r1, rf0, rf1⟩ := R2.out
    clear hb2 hb3
    go_wp2
    first
      | refine bodyPost_ret (v := .tuple #[.agg #[.int .i64 p, .int .i64 q], .int .i64 0]) (by simp [results, Tryz.results99, go_sem, *]; done) rfl ⟨rfl, ?_⟩
      | refine bodyPost_ret (v := .tuple #[.agg #[.int .i64 0, .int .i64 0], .int .i64 5]) (by simp [results, Tryz.results99, go_sem, *]; done) rfl ⟨rfl, ?_⟩
    exact (hbl2.setCell (by simp; omega) _).setCell (by simp; omega) _
end Go.Proofs.YtifdgdgfmjfbdaaGreat
