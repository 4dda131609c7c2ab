/- The walks of wide.sizeOf and wide.Product. -/
import Derived.Test.YtleigbbgilcckaaGreatHUk
set_option linter.unusedVariables false
set_option linter.unusedSimpArgs false
namespace Go.Proofs.YtleigbbgilcckaaGreat
open Go.RowKit
theorem quick_int (r : Int) (c : Bool) (w : World) (h0 : 0 ≤ r) (h1 : r ≤ 2700000) : Calls Tryz.prog 205 #[.int .i64 r, .bool c] w fun e w' => e = .returned (.int .i64 (Trig.quickN r.toNat c : Nat)) ∧ w' = w := by
  have := quick_loop r.toNat c w (by omega)
  rw [Int.toNat_of_nonneg h0] at this
  exact this
theorem quickN_bd {r : Int} (c : Bool) (h0 : 0 ≤ r) (h1 : r ≤ 2700000) : (0 : Int) ≤ (Trig.quickN r.toNat c : Nat) ∧ ((Trig.quickN r.toNat c : Nat) : Int) ≤ 4611686018427387904 := by
  have := Trig.quickN_le (r := r.toNat) (by omega) c
  omega
theorem tmodT_val (n : Int) : (n.tmod 21600000 < 0 ∧ wrap64 (n.tmod 21600000 + 21600000) = n % 21600000) ∨ (¬ n.tmod 21600000 < 0 ∧ n.tmod 21600000 = n % 21600000) := by
  by_cases h : n.tmod 21600000 < 0
  · refine .inl ⟨h, ?_⟩
    have e := tmodT_neg h
    rw [IntWalk.wrap64_in _ (by omega)]
    exact e
  · exact .inr ⟨h, tmodT_pos (by omega)⟩
set_option maxHeartbeats 4000000 in
theorem Quick_any (n : Int) (w : World) : Calls Tryz.prog 191 #[.int .i64 n] w fun e w' => e = .returned (.int .i64 (Trig.qv n)) ∧ w' = w := by
  have hm : 0 ≤ n % 21600000 ∧ n % 21600000 < 21600000 := by omega
  have hv : Trig.qv n = if Trig.rq n ≥ 2 then - (Trig.quickN (Trig.rr n).toNat (Trig.rc n) : Int) else (Trig.quickN (Trig.rr n).toNat (Trig.rc n) : Int) := rfl
  have hrq : Trig.rq n = n % 21600000 / 5400000 := rfl
  have hrr : Trig.rr n = if n % 21600000 % 5400000 > 2700000 then 5400000 - n % 21600000 % 5400000 else n % 21600000 % 5400000 := rfl
  have hrc : Trig.rc n = if n % 21600000 % 5400000 > 2700000 then !decide (Trig.rq n % 2 = 1) else decide (Trig.rq n % 2 = 1) := rfl
  have ht := tmodT_val n
  rw [hv]
  generalize n % 21600000 = m at *
  obtain ⟨m0, m1⟩ := hm
  generalize Trig.rq n = q at *
  generalize Trig.rr n = r at *
  generalize Trig.rc n = c at *
  have hqc : q = 0 ∨ q = 1 ∨ q = 2 ∨ q = 3 := by omega
  have hr0 : 0 ≤ m % 5400000 ∧ m % 5400000 < 5400000 := by omega
  generalize hs : m % 5400000 = s at *
  obtain ⟨s0, s1⟩ := hr0
  have hq' := hrq.symm
  clear hv hrq
  by_cases hb : s > 2700000
  · rw [if_pos hb] at hrr hrc
    have d1 : decide (2700000 < s) = true := decide_eq_true hb
    rcases hqc with rfl | rfl | rfl | rfl
    all_goals
      simp at hrc
      subst hrc
      subst hrr
      have K := Lib.hid (fun W => quick_int (5400000 - s) false W (by omega) (by omega))
      have K' := Lib.hid (fun W => quick_int (5400000 - s) true W (by omega) (by omega))
      obtain ⟨v0, v1⟩ := quickN_bd (r := 5400000 - s) false (by omega) (by omega)
      obtain ⟨u0, u1⟩ := quickN_bd (r := 5400000 - s) true (by omega) (by omega)
      generalize ((Trig.quickN (5400000 - s).toNat false : Nat) : Int) = v at *
      generalize ((Trig.quickN (5400000 - s).toNat true : Nat) : Int) = u at *
      rcases ht with ⟨t0, t1⟩ | ⟨t0, t1⟩
      all_goals
        simp only [ge_iff_le, Int.reduceLE, if_true, if_false]
        go_enter Tryz.func191, Tryz.ntmps191
        go_wp2_with (first | (go_at_call 205; (with_reducible refine (K.out _).mono ?_); rintro e w1 ⟨rfl, rfl⟩) | (go_at_call 205; (with_reducible refine (K'.out _).mono ?_); rintro e w1 ⟨rfl, rfl⟩))
        go_ret
        exact ⟨ret_int (by omega), rfl⟩
  · rw [if_neg hb] at hrr hrc
    have d1 : decide (2700000 < s) = false := decide_eq_false hb
    rcases hqc with rfl | rfl | rfl | rfl
    all_goals
      simp at hrc
      subst hrc
      subst hrr
      have K := Lib.hid (fun W => quick_int r false W (by omega) (by omega))
      have K' := Lib.hid (fun W => quick_int r true W (by omega) (by omega))
      obtain ⟨v0, v1⟩ := quickN_bd (r := r) false (by omega) (by omega)
      obtain ⟨u0, u1⟩ := quickN_bd (r := r) true (by omega) (by omega)
      generalize ((Trig.quickN r.toNat false : Nat) : Int) = v at *
      generalize ((Trig.quickN r.toNat true : Nat) : Int) = u at *
      rcases ht with ⟨t0, t1⟩ | ⟨t0, t1⟩
      all_goals
        simp only [ge_iff_le, Int.reduceLE, if_true, if_false]
        go_enter Tryz.func191, Tryz.ntmps191
        go_wp2_with (first | (go_at_call 205; (with_reducible refine (K.out _).mono ?_); rintro e w1 ⟨rfl, rfl⟩) | (go_at_call 205; (with_reducible refine (K'.out _).mono ?_); rintro e w1 ⟨rfl, rfl⟩))
        go_ret
        exact ⟨ret_int (by omega), rfl⟩
set_option maxHeartbeats 4000000 in
theorem Exact_no (n : Int) (w : World) (h : Trig.rEx n = false) : Calls Tryz.prog 190 #[.int .i64 n] w fun e w' => e = .returned (.tuple #[.int .i64 0, .bool false]) ∧ Below w.heap.size w w' := by
  have hm : 0 ≤ n % 21600000 ∧ n % 21600000 < 21600000 := by omega
  have ht := tmodT_val n
  unfold Trig.rEx at h
  generalize n % 21600000 = m at *
  obtain ⟨m0, m1⟩ := hm
  by_cases hz : m % 1800000 = 0
  · have hk : m / 1800000 % 6 = 2 ∨ m / 1800000 % 6 = 4 := by
      rw [hz] at h
      simp at h
      omega
    have hmk : m = 1800000 * 2 ∨ m = 1800000 * 8 ∨ m = 1800000 * 4 ∨ m = 1800000 * 10 := by omega
    clear h hz hk m0 m1
    rcases hmk with rfl | rfl | rfl | rfl
    all_goals
      rcases ht with ⟨t0, t1⟩ | ⟨t0, t1⟩
      all_goals
        simp only [Int.reduceMul] at t1
        go_enter Tryz.func190, Tryz.ntmps190
        go_wp2
        go_ret2
        refine ⟨rfl, ?_⟩
        repeat (first | exact Below.refl _ _ | assumption | refine bl_drew ?_ | refine bl_drewN ?_ _ | refine Below.setCell ?_ (by first | assumption | omega | (simp; done) | (simp; omega)) _ | refine Below.alloc ?_ (by first | assumption | omega | (simp; done) | (simp; omega)) _)
  · have hd : (m % 1800000 != 0) = true := by simpa using hz
    clear h hz
    rcases ht with ⟨t0, t1⟩ | ⟨t0, t1⟩
    all_goals
      go_enter Tryz.func190, Tryz.ntmps190
      go_wp2
      go_ret2
      refine ⟨rfl, ?_⟩
      repeat (first | exact Below.refl _ _ | assumption | refine bl_drew ?_ | refine bl_drewN ?_ _ | refine Below.setCell ?_ (by first | assumption | omega | (simp; done) | (simp; omega)) _ | refine Below.alloc ?_ (by first | assumption | omega | (simp; done) | (simp; omega)) _)
set_option maxHeartbeats 8000000 in
theorem Exact_yes (n : Int) (w : World) (h : Trig.rEx n = true) : Calls Tryz.prog 190 #[.int .i64 n] w fun e w' => e = .returned (.tuple #[.int .i64 (Trig.rVal n), .bool true]) ∧ Below w.heap.size w w' := by
  have hm : 0 ≤ n % 21600000 ∧ n % 21600000 < 21600000 := by omega
  have ht := tmodT_val n
  unfold Trig.rEx at h
  unfold Trig.rVal
  generalize n % 21600000 = m at *
  obtain ⟨m0, m1⟩ := hm
  simp only [Bool.and_eq_true, Bool.not_eq_true', Bool.or_eq_false_iff, decide_eq_true_eq, decide_eq_false_iff_not] at h
  have hmk : m = 1800000 * 0 ∨ m = 1800000 * 1 ∨ m = 1800000 * 3 ∨ m = 1800000 * 5 ∨ m = 1800000 * 6 ∨ m = 1800000 * 7 ∨ m = 1800000 * 9 ∨ m = 1800000 * 11 := by omega
  clear h m0 m1
  rcases hmk with rfl | rfl | rfl | rfl | rfl | rfl | rfl | rfl
  all_goals
    rcases ht with ⟨t0, t1⟩ | ⟨t0, t1⟩
    all_goals
      simp only [Int.reduceMul] at t1
      simp only [Int.reduceMul, Int.reduceDiv, Int.reduceEq, if_true, if_false]
      go_enter Tryz.func190, Tryz.ntmps190
      go_wp2
      go_ret2
      refine ⟨rfl, ?_⟩
      repeat (first | exact Below.refl _ _ | assumption | refine bl_drew ?_ | refine bl_drewN ?_ _ | refine Below.setCell ?_ (by first | assumption | omega | (simp; done) | (simp; omega)) _ | refine Below.alloc ?_ (by first | assumption | omega | (simp; done) | (simp; omega)) _)
theorem qv_facts (n : Int) (h : Trig.rEx n = false) : (-4611686018427387904 ≤ Trig.qv n ∧ Trig.qv n ≤ 4611686018427387904) ∧ (Trig.qv n - 256) / 4294967296 = (Trig.qv n + 256) / 4294967296 ∧ Trig.qv n / 4294967296 = Trig.loB n ∧ Trig.hiB n = Trig.loB n + 1 := by
  obtain ⟨hf, h1, h2⟩ := Trig.quick_far n h
  refine ⟨?_, ?_, h1, h2⟩
  · have hr : 0 ≤ Trig.rr n ∧ Trig.rr n ≤ 2700000 := by unfold Trig.rr; omega
    have := quickN_bd (r := Trig.rr n) (Trig.rc n) hr.1 hr.2
    unfold Trig.qv
    split <;> omega
  · unfold Trig.farB at hf
    rw [Bool.and_eq_true, Nat.ble_eq, Nat.ble_eq] at hf
    unfold Trig.qv
    generalize Trig.quickN (Trig.rr n).toNat (Trig.rc n) = v at *
    split <;> omega
set_option maxHeartbeats 2000000 in
theorem Floor_any (n : Int) (w : World) : Calls Tryz.prog 170 #[.int .i64 n] w fun e w' => e = .returned (.tuple #[.int .i64 (Trig.loB n), .bool (Trig.rEx n)]) ∧ Below w.heap.size w w' := by
  cases h : Trig.rEx n with
  | true =>
    have KE := Lib.hid (fun W => Exact_yes n W h)
    rw [(Trig.exact_same n h).1] at KE
    clear h
    go_enter Tryz.func170, Tryz.ntmps170
    go_wp2_with (go_at_call 190; (with_reducible refine (KE.out _).mono ?_); rintro e w1 ⟨rfl, hb1⟩)
    go_ret2
    exact ⟨rfl, hb1⟩
  | false =>
    have KE := Lib.hid (fun W => Exact_no n W h)
    have KQ := Lib.hid (fun W => Quick_any n W)
    obtain ⟨⟨q0, q1⟩, hq, hl, -⟩ := qv_facts n h
    rw [← hl]
    generalize Trig.qv n = v at *
    have hd : ((v - 256) / 4294967296 == (v + 256) / 4294967296) = true := by rw [beq_iff_eq]; exact hq
    clear h hl hq
    go_enter Tryz.func170, Tryz.ntmps170
    go_wp2_with (first | (go_at_call 190; (with_reducible refine (KE.out _).mono ?_); rintro e w1 ⟨rfl, hb1⟩) | (go_at_call 191; (with_reducible refine (KQ.out _).mono ?_); rintro e w2 ⟨rfl, rfl⟩))
    go_ret2
    exact ⟨rfl, hb1⟩
end Go.Proofs.YtleigbbgilcckaaGreat
namespace Go.Proofs.YtleigbbgilcckaaGreat
open Go.RowKit
/-- two cells that are known, and can be written -/
structure D2 (W : World) (g : Nat) (a b : Int) : Prop where
  lt : g < W.heap.size
  c0 : W.cell? ⟨g, 0, none⟩ = some (.int .i64 a)
  c1 : W.cell? ⟨g, 1, none⟩ = some (.int .i64 b)
  f0 : W.frozen? ⟨g, 0, none⟩ = false
  f1 : W.frozen? ⟨g, 1, none⟩ = false
section
variable {W W' : World} {g : Nat} {a b : Int}
theorem D2.below {B : Nat} (h : D2 W g a b) (hb : Below B W W') (hB : g < B) : D2 W' g a b :=
  ⟨Nat.lt_of_lt_of_le h.lt hb.size, (hb.cell (p := ⟨g, 0, none⟩) hB).trans h.c0, (hb.cell (p := ⟨g, 1, none⟩) hB).trans h.c1, (hb.frozen (p := ⟨g, 0, none⟩) hB).trans h.f0, (hb.frozen (p := ⟨g, 1, none⟩) hB).trans h.f1⟩
theorem D2.alloc (h : D2 W g a b) (o : Obj) : D2 (W.alloc o) g a b := h.below (bl_alloc W o) h.lt
theorem D2.new (W : World) (a b : Int) (t : TypeId) : D2 (W.alloc (.cells #[.int .i64 a, .int .i64 b] t)) W.heap.size a b := ⟨by simp, by simp, by simp, by simp, by simp⟩
theorem D2.far (h : D2 W g a b) {p : Addr} (hp : g ≠ p.block) (u : Value) : D2 (W.setCell p u) g a b := by
  have hne : ∀ i, p ≠ (⟨g, i, none⟩ : Addr) := fun i e => hp (by rw [e])
  refine ⟨by simpa using h.lt, ?_, ?_, ?_, ?_⟩
  · rw [World.cell?_setCell_other _ _ _ _ (hne 0)]; exact h.c0
  · rw [World.cell?_setCell_other _ _ _ _ (hne 1)]; exact h.c1
  · simpa using h.f0
  · simpa using h.f1
theorem D2.set0 (h : D2 W g a b) (v : Int) : D2 (W.setCell ⟨g, 0, none⟩ (.int .i64 v)) g v b := by
  refine ⟨by simpa using h.lt, World.cell?_setCell_same _ _ _ h.c0, ?_, by simpa using h.f0, by simpa using h.f1⟩
  rw [World.cell?_setCell_other _ _ _ _ (by simp)]
  exact h.c1
theorem D2.set1 (h : D2 W g a b) (v : Int) : D2 (W.setCell ⟨g, 1, none⟩ (.int .i64 v)) g a v := by
  refine ⟨by simpa using h.lt, ?_, World.cell?_setCell_same _ _ _ h.c1, by simpa using h.f0, by simpa using h.f1⟩
  rw [World.cell?_setCell_other _ _ _ _ (by simp)]
  exact h.c0
end
set_option maxHeartbeats 1000000 in
theorem ends_any (n : Int) (w : World) : Calls Tryz.prog 144 #[.int .i64 n] w fun e w' => e = .returned (.tuple #[.int .i64 (Trig.loB n), .int .i64 (Trig.hiB n)]) ∧ Below w.heap.size w w' := by
  have KF := Lib.hid (fun W => Floor_any n W)
  have hb := Trig.lo_bd n
  have hx : Trig.hiB n = if Trig.rEx n = true then Trig.loB n else Trig.loB n + 1 := by
    cases h : Trig.rEx n with
    | true => rw [if_pos rfl]; exact (Trig.exact_same n h).2
    | false => rw [if_neg (by simp)]; exact (qv_facts n h).2.2.2
  rw [hx]
  obtain ⟨b0, b1, -, -⟩ := hb
  clear hx
  generalize Trig.rEx n = x at *
  generalize Trig.loB n = l at *
  cases x
  all_goals
    simp only [eq_self, if_true, Bool.false_eq_true, if_false]
    go_enter Tryz.func144, Tryz.ntmps144
    go_wp2_with (go_at_call 170; (with_reducible refine (KF.out _).mono ?_); rintro e w1 ⟨rfl, hb1⟩)
    go_ret2
    exact ⟨rfl, hb1⟩
set_option maxHeartbeats 1000000 in
theorem hasR_any (lo hi n : Int) (w : World) (h0 : -10000000000000 ≤ lo) (h1 : lo ≤ 10000000000000) (h4 : -5400000 ≤ n) (h5 : n ≤ 5400000) :
    Calls Tryz.prog 145 #[.agg #[.int .i64 lo, .int .i64 hi], .int .i64 n] w fun e w' => e = .returned (.bool (decide (lo + (n - lo) % 21600000 ≤ hi))) ∧ Below w.heap.size w w' := by
  have ht := tmodT_val (n - lo)
  have hm : 0 ≤ (n - lo) % 21600000 ∧ (n - lo) % 21600000 < 21600000 := by omega
  have s1 : wrap64 (n - lo) = n - lo := IntWalk.wrap64_in _ (by omega)
  generalize (n - lo) % 21600000 = m at *
  obtain ⟨m0, m1⟩ := hm
  rcases ht with ⟨t0, t1⟩ | ⟨t0, t1⟩
  all_goals
    go_enter Tryz.func145, Tryz.ntmps145
    go_wp2
    go_ret
    refine ⟨rfl, ?_⟩
    repeat (first | exact Below.refl _ _ | assumption | refine bl_drew ?_ | refine bl_drewN ?_ _ | refine Below.setCell ?_ (by first | assumption | omega | (simp; done) | (simp; omega)) _ | refine Below.alloc ?_ (by first | assumption | omega | (simp; done) | (simp; omega)) _)
theorem has_met (lo hi : Int) : decide (lo + (5400000 - lo) % 21600000 ≤ hi) = Trig.metB lo hi 5400000 ∧ decide (lo + (-5400000 - lo) % 21600000 ≤ hi) = Trig.metB lo hi 16200000 := by
  unfold Trig.metB
  rw [decide_eq_decide, decide_eq_decide]
  omega
set_option maxHeartbeats 4000000 in
theorem sineR_any (lo hi : Int) (w : World) (h0 : -10000000000000 ≤ lo) (h1 : lo ≤ 10000000000000) :
    Calls Tryz.prog 114 #[.agg #[.int .i64 lo, .int .i64 hi]] w fun e w' => e = .returned (.agg #[.int .i64 (Trig.enLo lo hi), .int .i64 (Trig.enHi lo hi)]) ∧ Below w.heap.size w w' := by
  have KA := Lib.hid (fun W => ends_any lo W)
  have KB := Lib.hid (fun W => ends_any hi W)
  have KQ := Lib.hid (fun W => hasR_any lo hi 5400000 W h0 h1 (by omega) (by omega))
  have KR := Lib.hid (fun W => hasR_any lo hi (-5400000) W h0 h1 (by omega) (by omega))
  rw [(has_met lo hi).1] at KQ
  rw [(has_met lo hi).2] at KR
  unfold Trig.enLo Trig.enHi
  generalize Trig.metB lo hi 5400000 = p at *
  generalize Trig.metB lo hi 16200000 = q at *
  generalize Trig.loB lo = a at *
  generalize Trig.hiB lo = b at *
  generalize Trig.loB hi = c at *
  generalize Trig.hiB hi = d at *
  cases p <;> cases q
  all_goals
    simp only [eq_self, if_true, Bool.false_eq_true, if_false]
    go_enter Tryz.func114, Tryz.ntmps114
    go_wp2_with fail
    (with_reducible refine (KA.out _).mono ?_)
    rintro e w1 ⟨rfl, hb1⟩
    have hbl1 := two_bl hb1
    have X1 := Lib.hid (((D2.new w lo hi 26).alloc (.cells #[.int .i64 0, .int .i64 0] 67)).below hb1 (by simp; omega))
    have R1 : Hid (D2 w1 (w.heap.size + 1) 0 0) := Lib.hid (by
      have := (D2.new (w.alloc (.cells #[.int .i64 lo, .int .i64 hi] 26)) 0 0 67).below hb1 (by simp)
      simpa using this)
    obtain ⟨-, x0, x1, -, -⟩ := X1.out
    clear hb1
    go_wp2_with fail
    (with_reducible refine (KB.out _).mono ?_)
    rintro e w2 ⟨rfl, hb2⟩
    have hbl2 := hbl1.trans (hb2.mono hbl1.size)
    have X2 := Lib.hid (X1.out.below hb2 X1.out.lt)
    have R2 := Lib.hid (R1.out.below hb2 R1.out.lt)
    clear hb2 hbl1 X1 R1 x0 x1
    obtain ⟨xt, x0, x1, -, -⟩ := X2.out
    go_wp2_with fail
    (with_reducible refine (KQ.out _).mono ?_)
    rintro e w3 ⟨rfl, hb3⟩
    have hbl3 := (hbl2.alloc hbl2.size _).trans (hb3.mono (by have := hbl2.size; simp; omega))
    have X3 := Lib.hid ((X2.out.alloc _).below hb3 (X2.out.alloc _).lt)
    have R3 := Lib.hid ((R2.out.alloc _).below hb3 (R2.out.alloc _).lt)
    have O3 := Lib.hid ((D2.new w2 (min a c) (max b d) 67).below hb3 (D2.new w2 (min a c) (max b d) 67).lt)
    have g1 : w.heap.size ≠ w2.heap.size := by have := X2.out.lt; omega
    have g2 : w.heap.size + 1 ≠ w2.heap.size := by have := R2.out.lt; omega
    have g3 : w.heap.size ≤ w2.heap.size := hbl2.size
    generalize w2.heap.size = g at *
    clear hb3 hbl2 X2 R2 x0 x1 xt
    first
      | (have X4 := Lib.hid (X3.out.far g1 (p := ⟨g, 1, none⟩) (.int .i64 1073741824))
         have R4 := Lib.hid (R3.out.far g2 (p := ⟨g, 1, none⟩) (.int .i64 1073741824))
         have O4 := Lib.hid (O3.out.set1 1073741824)
         have hbl4 := hbl3.setCell (p := ⟨g, 1, none⟩) g3 (.int .i64 1073741824)
         obtain ⟨xt, x0, x1, -, -⟩ := X3.out
         obtain ⟨ot, o0, o1, of0, of1⟩ := O3.out
         go_wp2_with fail
         (with_reducible refine (KR.out (w3.setCell ⟨g, 1, none⟩ (.int .i64 1073741824))).mono ?_)
         clear xt x0 x1 ot o0 o1 of0 of1)
      | (have X4 := X3
         have R4 := R3
         have O4 := O3
         have hbl4 := hbl3
         obtain ⟨xt, x0, x1, -, -⟩ := X3.out
         go_wp2_with fail
         (with_reducible refine (KR.out w3).mono ?_)
         clear xt x0 x1)
    rintro e w5 ⟨rfl, hb5⟩
    have hbl5 := hbl4.trans (hb5.mono hbl4.size)
    have R5 := Lib.hid (R4.out.below hb5 R4.out.lt)
    have O5 := Lib.hid (O4.out.below hb5 O4.out.lt)
    obtain ⟨rt, r0, r1, rf0, rf1⟩ := R5.out
    obtain ⟨ot, o0, o1, of0, of1⟩ := O5.out
    clear X3 R3 O3 hbl3 X4 R4 O4 hb5 hbl4
    go_wp2
    first
      | (refine bodyPost_ret (v := .agg #[.int .i64 (min a c), .int .i64 (max b d)]) (by simp [results, Tryz.results114, go_sem, *]) rfl ⟨rfl, ?_⟩; exact (hbl5.setCell (by simp) _).setCell (by simp) _)
      | (refine bodyPost_ret (v := .agg #[.int .i64 (min a c), .int .i64 1073741824]) (by simp [results, Tryz.results114, go_sem, *]) rfl ⟨rfl, ?_⟩; exact (hbl5.setCell (by simp) _).setCell (by simp) _)
      | (refine bodyPost_ret (v := .agg #[.int .i64 (-1073741824), .int .i64 (max b d)]) (by simp [results, Tryz.results114, go_sem, *]) rfl ⟨rfl, ?_⟩; exact ((hbl5.setCell g3 _).setCell (by simp) _).setCell (by simp) _)
      | (refine bodyPost_ret (v := .agg #[.int .i64 (-1073741824), .int .i64 1073741824]) (by simp [results, Tryz.results114, go_sem, *]) rfl ⟨rfl, ?_⟩; exact ((hbl5.setCell g3 _).setCell (by simp) _).setCell (by simp) _)
set_option maxHeartbeats 1000000 in
theorem CosR_any (lo hi : Int) (w : World) (h0 : -5000000000000 ≤ lo) (h1 : lo ≤ 5000000000000) (h2 : -5000000000000 ≤ hi) (h3 : hi ≤ 5000000000000) :
    Calls Tryz.prog 81 #[.agg #[.int .i64 lo, .int .i64 hi]] w fun e w' => e = .returned (.agg #[.int .i64 (Trig.enLo (lo + 5400000) (hi + 5400000)), .int .i64 (Trig.enHi (lo + 5400000) (hi + 5400000))]) ∧ Below w.heap.size w w' := by
  have K := Lib.hid (fun W => sineR_any (lo + 5400000) (hi + 5400000) W (by omega) (by omega))
  generalize Trig.enLo (lo + 5400000) (hi + 5400000) = u at *
  generalize Trig.enHi (lo + 5400000) (hi + 5400000) = v at *
  go_enter Tryz.func81, Tryz.ntmps81
  go_wp2_with fail
  (with_reducible refine (K.out _).mono ?_)
  rintro e w1 ⟨rfl, hb1⟩
  have hbl1 := two_bl hb1
  have R1 : Hid (D2 w1 (w.heap.size + 1) 0 0) := Lib.hid (by
    have := (D2.new (w.alloc (.cells #[.int .i64 lo, .int .i64 hi] 26)) 0 0 67).below hb1 (by simp)
    simpa using this)
  obtain ⟨rt, r0, r1, rf0, rf1⟩ := R1.out
  clear hb1
  go_wp2
  refine bodyPost_ret (v := .agg #[.int .i64 u, .int .i64 v]) (by simp [results, Tryz.results81, go_sem, *]) rfl ⟨rfl, ?_⟩
  exact (hbl1.setCell (by simp) _).setCell (by simp) _
end Go.Proofs.YtleigbbgilcckaaGreat
namespace Go.Proofs.YtleigbbgilcckaaGreat
open Go.RowKit
theorem mask60 (n : Int) : bits .and .i64 n 1152921504606846975 = n % 1152921504606846976 := by
  have h31 : (BitVec.ofInt 64 1152921504606846975).toNat = 2 ^ 60 - 1 := by decide
  have key : (BitVec.ofInt 64 n &&& BitVec.ofInt 64 1152921504606846975).toNat = (n % ((2 ^ 64 : Nat) : Int)).toNat % 2 ^ 60 := by
    rw [BitVec.toNat_and, BitVec.toNat_ofInt, h31, Nat.and_two_pow_sub_one_eq_mod]
  show IntKind.i64.wrap ((BitVec.ofInt 64 n &&& BitVec.ofInt 64 1152921504606846975).toNat : Nat) = n % 1152921504606846976
  rw [key, IntKind.wrap_i64]
  omega
theorem mask60u (n : Int) (h0 : 0 ≤ n) (h1 : n < 18446744073709551616) : bits .and .u64 n 1152921504606846975 = n % 1152921504606846976 := by
  have h31 : (BitVec.ofInt 64 1152921504606846975).toNat = 2 ^ 60 - 1 := by decide
  have key : (BitVec.ofInt 64 n &&& BitVec.ofInt 64 1152921504606846975).toNat = (n % ((2 ^ 64 : Nat) : Int)).toNat % 2 ^ 60 := by
    rw [BitVec.toNat_and, BitVec.toNat_ofInt, h31, Nat.and_two_pow_sub_one_eq_mod]
  show IntKind.u64.wrap ((BitVec.ofInt 64 n &&& BitVec.ofInt 64 1152921504606846975).toNat : Nat) = n % 1152921504606846976
  rw [key, IntKind.wrap_u64]
  omega
theorem ret_u64 {a b : Int} (h : a = b) : Ending.returned (.int .u64 a) = .returned (.int .u64 b) := by rw [h]
/-- the absolute value -/
def wab (n : Int) : Int := if n < 0 then -n else n
theorem wab_bd (n : Int) : 0 ≤ wab n := by unfold wab; split <;> omega
set_option maxHeartbeats 1000000 in
theorem wabs_any (n : Int) (w : World) (h0 : -4611686018427387904 ≤ n) (h1 : n ≤ 4611686018427387904) : Calls Tryz.prog 141 #[.int .i64 n] w fun e w' => e = .returned (.int .u64 (wab n)) ∧ w' = w := by
  unfold wab
  by_cases h : n < 0
  · have hd : decide (n < 0) = true := decide_eq_true h
    have e1 : IntKind.u64.wrap n = n + 18446744073709551616 := by rw [IntKind.wrap_u64]; omega
    have e2 : IntKind.u64.wrap (-(n + 18446744073709551616)) = -n := by rw [IntKind.wrap_u64]; omega
    rw [if_pos h]
    go_enter Tryz.func141, Tryz.ntmps141
    go_wp2
    go_ret
    refine ⟨ret_u64 ?_, rfl⟩
    first | rfl | exact e2 | (rw [IntKind.wrap_u64]; omega) | (simp [e1, e2])
  · have hd : decide (n < 0) = false := decide_eq_false h
    have e1 : IntKind.u64.wrap n = n := by rw [IntKind.wrap_u64]; omega
    rw [if_neg h]
    go_enter Tryz.func141, Tryz.ntmps141
    go_wp2
    go_ret
    exact ⟨rfl, rfl⟩
/-- which wide integers are valid -/
def wvB (h l : Int) : Bool := decide (-1152921504606846976 ≤ h ∧ h < 1152921504606846976 ∧ 0 ≤ l ∧ l < 1152921504606846976)
set_option maxHeartbeats 1000000 in
theorem wValid_any (h l : Int) (w : World) : Calls Tryz.prog 167 #[.agg #[.int .i64 h, .int .i64 l]] w fun e w' => e = .returned (.bool (wvB h l)) ∧ Below w.heap.size w w' := by
  unfold wvB
  go_enter Tryz.func167, Tryz.ntmps167
  go_wp2
  all_goals
    go_ret
    refine ⟨ret_boolU (by first | (simp_all; done) | (simp_all; omega)), ?_⟩
    repeat (first | exact Below.refl _ _ | assumption | refine bl_drew ?_ | refine bl_drewN ?_ _ | refine Below.setCell ?_ (by first | assumption | omega | (simp; done) | (simp; omega)) _ | refine Below.alloc ?_ (by first | assumption | omega | (simp; done) | (simp; omega)) _)
theorem wvB_yes {h l : Int} (h0 : -1152921504606846976 ≤ h) (h1 : h < 1152921504606846976) (l0 : 0 ≤ l) (l1 : l < 1152921504606846976) : wvB h l = true := by simp [wvB, *]
set_option maxHeartbeats 1000000 in
theorem wfit_any (h l : Int) (w : World) (h0 : -1000000000000000000 ≤ h) (h1 : h ≤ 1000000000000000000) (l0 : -4611686018427387904 ≤ l) (l1 : l ≤ 4611686018427387904) :
    Calls Tryz.prog 166 #[.int .i64 h, .int .i64 l] w fun e w' => e = .returned (.tuple #[.agg #[.int .i64 (h + l / 1152921504606846976), .int .i64 (l % 1152921504606846976)], .int .i64 0]) ∧ Below w.heap.size w w' := by
  have hm := mask60 l
  have hv : wvB (h + l / 1152921504606846976) (l % 1152921504606846976) = true := wvB_yes (by omega) (by omega) (by omega) (by omega)
  have KV := Lib.hid (fun W => wValid_any (h + l / 1152921504606846976) (l % 1152921504606846976) W)
  rw [hv] at KV
  have s1 : wrap64 (h + l / 1152921504606846976) = h + l / 1152921504606846976 := IntWalk.wrap64_in _ (by omega)
  clear hv
  generalize l % 1152921504606846976 = b at *
  obtain ⟨a, ha⟩ : ∃ a, h + l / 1152921504606846976 = a := ⟨_, rfl⟩
  rw [ha] at KV s1 ⊢
  go_enter Tryz.func166, Tryz.ntmps166
  go_wp2_with fail
  (with_reducible refine (KV.out _).mono ?_)
  rintro e w1 ⟨rfl, hb1⟩
  have hbl1 := two_bl hb1
  have R1 := Lib.hid (((D2.new w 0 0 130).alloc (.cells #[.int .i64 a, .int .i64 b] 130)).below hb1 (by simp; omega))
  have O1 : Hid (D2 w1 (w.heap.size + 1) a b) := Lib.hid (by
    have := (D2.new (w.alloc (.cells #[.int .i64 0, .int .i64 0] 130)) a b 130).below hb1 (by simp)
    simpa using this)
  obtain ⟨rt, r0, r1, rf0, rf1⟩ := R1.out
  obtain ⟨ot, o0, o1, of0, of1⟩ := O1.out
  clear hb1 hm s1 ha
  go_wp2
  refine bodyPost_ret (v := .tuple #[.agg #[.int .i64 a, .int .i64 b], .int .i64 0]) (by simp [results, Tryz.results166, go_sem, *]) rfl ⟨rfl, ?_⟩
  exact (hbl1.setCell (by simp) _).setCell (by simp) _
end Go.Proofs.YtleigbbgilcckaaGreat
namespace Go.Proofs.YtleigbbgilcckaaGreat
open Go.RowKit
theorem or60 {a b : Nat} (ha : a < 1152921504606846976) (hb : b < 16) : bits BinOp.or IntKind.u64 ((a * 16 : Nat) : Int) (b : Int) = ((a * 16 + b : Nat) : Int) := by
  rw [bits_or_u64_nat (a * 16) b (by omega) (by omega)]
  have : a * 16 = 2 ^ 4 * a := by omega
  rw [this, ← Nat.two_pow_add_eq_or_of_lt (by omega)]
def sgn (neg : Bool) (v : Int) : Int := if neg = true then -v else v
set_option maxHeartbeats 2000000 in
theorem sizeWide_any (h l : Int) (neg : Bool) (w : World) (h0 : 0 ≤ h) (h1 : h ≤ 1125899906842624) (hl : U64 l) :
    Calls Tryz.prog 142 #[.agg #[.int .u64 h, .int .u64 l, .bool neg]] w fun e w' => e = .returned (.tuple #[.agg #[.int .i64 (sgn neg (h * 18446744073709551616 + l) / 1152921504606846976), .int .i64 (sgn neg (h * 18446744073709551616 + l) % 1152921504606846976)], .int .i64 0]) ∧ Below w.heap.size w w' := by
  obtain ⟨l0, l1⟩ := hl
  have d1 : decide (72057594037927936 < h) = false := decide_eq_false (by omega)
  have d2 : (h == 72057594037927936) = false := by rw [beq_eq_false_iff_ne]; omega
  have e1 : IntKind.u64.wrap (h * 16) = h * 16 := by rw [IntKind.wrap_u64]; omega
  have e2 : bits BinOp.or IntKind.u64 (h * 16) (l / 1152921504606846976) = h * 16 + l / 1152921504606846976 := by
    have := or60 (a := h.toNat) (b := (l / 1152921504606846976).toNat) (by omega) (by omega)
    have a1 : ((h.toNat * 16 : Nat) : Int) = h * 16 := by omega
    have a2 : (((l / 1152921504606846976).toNat : Nat) : Int) = l / 1152921504606846976 := by omega
    have a3 : ((h.toNat * 16 + (l / 1152921504606846976).toNat : Nat) : Int) = h * 16 + l / 1152921504606846976 := by omega
    rw [a1, a2, a3] at this
    exact this
  have e3 := mask60u l l0 l1
  obtain ⟨A, hA⟩ : ∃ A, h * 16 + l / 1152921504606846976 = A := ⟨_, rfl⟩
  obtain ⟨B, hB⟩ : ∃ B, l % 1152921504606846976 = B := ⟨_, rfl⟩
  rw [hA] at e2
  rw [hB] at e3
  have hAB : h * 18446744073709551616 + l = A * 1152921504606846976 + B := by omega
  have A0 : 0 ≤ A := by omega
  have A1 : A ≤ 20000000000000000 := by omega
  have B0 : 0 ≤ B := by omega
  have B1 : B ≤ 1152921504606846975 := by omega
  have e4 : IntKind.i64.wrap A = A := IntWalk.i64_in _ (by clear e1 e2 e3 hAB hA hB; omega)
  have e5 : IntKind.i64.wrap B = B := IntWalk.i64_in _ (by clear e1 e2 e3 e4 hAB hA hB; omega)
  rw [hAB]
  clear hA hB hAB
  cases neg
  · have KF := Lib.hid (fun W => wfit_any A B W (by clear e1 e2 e3 e4 e5; omega) (by clear e1 e2 e3 e4 e5; omega) (by clear e1 e2 e3 e4 e5; omega) (by clear e1 e2 e3 e4 e5; omega))
    have q1 : A + B / 1152921504606846976 = sgn false (A * 1152921504606846976 + B) / 1152921504606846976 := by simp [sgn]; clear e1 e2 e3 e4 e5; omega
    have q2 : B % 1152921504606846976 = sgn false (A * 1152921504606846976 + B) % 1152921504606846976 := by first | (simp [sgn]; done) | (simp [sgn]; clear e1 e2 e3 e4 e5 q1; omega)
    have m1 : wrap64 (-A) = -A := IntWalk.wrap64_in _ (by clear e1 e2 e3 e4 e5; omega)
    have m2 : wrap64 (-B) = -B := IntWalk.wrap64_in _ (by clear e1 e2 e3 e4 e5; omega)
    rw [q1, q2] at KF
    generalize sgn false (A * 1152921504606846976 + B) / 1152921504606846976 = u at *
    generalize sgn false (A * 1152921504606846976 + B) % 1152921504606846976 = v at *
    clear q1 q2
    go_enter Tryz.func142, Tryz.ntmps142
    go_wp2
    go_quiet (fail)
    go_wp2_with fail
    (with_reducible refine (KF.out _).mono ?_)
    rintro e w1 ⟨rfl, hb1⟩
    rename_i nq _ _ _ _
    have hb2 := (bl_drewN (Below.refl _ _) nq).trans hb1
    have hbl1 := two_bl hb2
    have R1 := Lib.hid ((D2.new (w.alloc (.cells #[.int .u64 h, .int .u64 l, .bool false] 160)) 0 0 130).below hb2 (by simp))
    simp only [World.size_alloc] at R1
    obtain ⟨rt, r0, r1, rf0, rf1⟩ := R1.out
    clear hb1 hb2
    go_wp2
    refine bodyPost_ret (v := .tuple #[.agg #[.int .i64 u, .int .i64 v], .int .i64 0]) (by simp [results, Tryz.results142, go_sem, *]) rfl ⟨rfl, ?_⟩
    exact (hbl1.setCell (by simp) _).setCell (by simp) _
  · have KF := Lib.hid (fun W => wfit_any (-A) (-B) W (by clear e1 e2 e3 e4 e5; omega) (by clear e1 e2 e3 e4 e5; omega) (by clear e1 e2 e3 e4 e5; omega) (by clear e1 e2 e3 e4 e5; omega))
    have q1 : (-A) + (-B) / 1152921504606846976 = sgn true (A * 1152921504606846976 + B) / 1152921504606846976 := by simp [sgn]; clear e1 e2 e3 e4 e5; omega
    have q2 : (-B) % 1152921504606846976 = sgn true (A * 1152921504606846976 + B) % 1152921504606846976 := by first | (simp [sgn]; done) | (simp [sgn]; clear e1 e2 e3 e4 e5 q1; omega)
    have m1 : wrap64 (-A) = -A := IntWalk.wrap64_in _ (by clear e1 e2 e3 e4 e5; omega)
    have m2 : wrap64 (-B) = -B := IntWalk.wrap64_in _ (by clear e1 e2 e3 e4 e5; omega)
    rw [q1, q2] at KF
    generalize sgn true (A * 1152921504606846976 + B) / 1152921504606846976 = u at *
    generalize sgn true (A * 1152921504606846976 + B) % 1152921504606846976 = v at *
    clear q1 q2
    go_enter Tryz.func142, Tryz.ntmps142
    go_wp2
    go_quiet (fail)
    go_wp2_with fail
    (with_reducible refine (KF.out _).mono ?_)
    rintro e w1 ⟨rfl, hb1⟩
    rename_i nq _ _ _ _
    have hb2 := (bl_drewN (Below.refl _ _) nq).trans hb1
    have hbl1 := two_bl hb2
    have R1 := Lib.hid ((D2.new (w.alloc (.cells #[.int .u64 h, .int .u64 l, .bool true] 160)) 0 0 130).below hb2 (by simp))
    simp only [World.size_alloc] at R1
    obtain ⟨rt, r0, r1, rf0, rf1⟩ := R1.out
    clear hb1 hb2
    go_wp2
    refine bodyPost_ret (v := .tuple #[.agg #[.int .i64 u, .int .i64 v], .int .i64 0]) (by simp [results, Tryz.results142, go_sem, *]) rfl ⟨rfl, ?_⟩
    exact (hbl1.setCell (by simp) _).setCell (by simp) _
end Go.Proofs.YtleigbbgilcckaaGreat
namespace Go.Proofs.YtleigbbgilcckaaGreat
open Go.RowKit
theorem or60b {a b : Nat} (ha : a < 16) (hb : b < 1152921504606846976) : bits BinOp.or IntKind.u64 ((a * 1152921504606846976 : Nat) : Int) (b : Int) = ((a * 1152921504606846976 + b : Nat) : Int) := by
  rw [bits_or_u64_nat (a * 1152921504606846976) b (by omega) (by omega)]
  have : a * 1152921504606846976 = 2 ^ 60 * a := by omega
  rw [this, ← Nat.two_pow_add_eq_or_of_lt (by omega)]
theorem orAB (A B : Int) (B0 : 0 ≤ B) (B1 : B < 1152921504606846976) :
    bits BinOp.or IntKind.u64 (IntKind.u64.wrap (A * 1152921504606846976)) B = (A * 1152921504606846976 + B) % 18446744073709551616 := by
  obtain ⟨m, hm⟩ := Int.eq_ofNat_of_zero_le (show 0 ≤ A % 16 by omega)
  obtain ⟨k, rfl⟩ := Int.eq_ofNat_of_zero_le B0
  have := or60b (a := m) (b := k) (by omega) (by omega)
  have a1 : ((m * 1152921504606846976 : Nat) : Int) = IntKind.u64.wrap (A * 1152921504606846976) := by rw [IntKind.wrap_u64]; omega
  have a3 : ((m * 1152921504606846976 + k : Nat) : Int) = (A * 1152921504606846976 + k) % 18446744073709551616 := by
    have e : A * 1152921504606846976 + (k : Int) = ((m : Int) * 1152921504606846976 + k) + (A / 16) * 18446744073709551616 := by omega
    rw [e, Int.add_mul_emod_self_right, Int.emod_eq_of_lt (by omega) (by omega), Int.natCast_add, Int.natCast_mul]
    rfl
  rw [a1, a3] at this
  exact this
set_option maxHeartbeats 2000000 in
theorem sizeOf_any (a b : Int) (w : World) (h0 : -1125899906842624 ≤ a) (h1 : a ≤ 1125899906842624) (b0 : 0 ≤ b) (b1 : b < 1152921504606846976) :
    Calls Tryz.prog 168 #[.agg #[.int .i64 a, .int .i64 b]] w fun e w' => e = .returned (.agg #[.int .u64 (wab (a * 1152921504606846976 + b) / 18446744073709551616), .int .u64 (wab (a * 1152921504606846976 + b) % 18446744073709551616), .bool (decide (a < 0))]) ∧ Below w.heap.size w w' := by
  by_cases hn : a < 0
  · have hd : decide (a < 0) = true := decide_eq_true hn
    have hm := mask60 (-b)
    have m1 : wrap64 (-a) = -a := IntWalk.wrap64_in _ (by omega)
    have m2 : wrap64 (-b) = -b := IntWalk.wrap64_in _ (by omega)
    obtain ⟨A, hA⟩ : ∃ A, -a + -b / 1152921504606846976 = A := ⟨_, rfl⟩
    obtain ⟨B, hB⟩ : ∃ B, -b % 1152921504606846976 = B := ⟨_, rfl⟩
    have s1 : wrap64 (-a + -b / 1152921504606846976) = A := by rw [hA]; exact IntWalk.wrap64_in _ (by omega)
    rw [hB] at hm
    have hw : wab (a * 1152921504606846976 + b) = A * 1152921504606846976 + B := by unfold wab; rw [if_pos (by omega)]; omega
    have hor := orAB A B (by omega) (by omega)
    have w1 : IntKind.u64.wrap A = A := by rw [IntKind.wrap_u64]; omega
    have w2 : IntKind.u64.wrap B = B := by rw [IntKind.wrap_u64]; omega
    have q1 : A / 16 = (A * 1152921504606846976 + B) / 18446744073709551616 := by omega
    rw [hw, ← q1]
    clear q1 hw
    generalize (A * 1152921504606846976 + B) % 18446744073709551616 = u at *
    subst hA
    clear hB
    go_enter Tryz.func168, Tryz.ntmps168
    go_wp2
    go_quiet (fail)
    go_wp2
    refine bodyPost_ret (v := .agg #[.int .u64 ((-a + -b / 1152921504606846976) / 16), .int .u64 u, .bool true]) (by simp [results, Tryz.results168, go_sem, *]) rfl ⟨by rw [hd], ?_⟩
    exact ((((Below.refl _ _).alloc (Nat.le_refl _) _).alloc (by simp) _).trans (bl_drewN (Below.refl _ _) _) |>.setCell (by simp) _).setCell (by simp) _ |>.setCell (by simp) _
  · have hd : decide (a < 0) = false := decide_eq_false hn
    have hw : wab (a * 1152921504606846976 + b) = a * 1152921504606846976 + b := by unfold wab; rw [if_neg (by omega)]
    have hor := orAB a b (by omega) (by omega)
    have w1 : IntKind.u64.wrap a = a := by rw [IntKind.wrap_u64]; omega
    have w2 : IntKind.u64.wrap b = b := by rw [IntKind.wrap_u64]; omega
    have q1 : a / 16 = (a * 1152921504606846976 + b) / 18446744073709551616 := by omega
    rw [hw, ← q1]
    clear q1 hw
    generalize (a * 1152921504606846976 + b) % 18446744073709551616 = u at *
    go_enter Tryz.func168, Tryz.ntmps168
    go_wp2
    go_quiet (fail)
    go_wp2
    refine bodyPost_ret (v := .agg #[.int .u64 (a / 16), .int .u64 u, .bool false]) (by simp [results, Tryz.results168, go_sem, *]) rfl ⟨by rw [hd], ?_⟩
    exact ((((Below.refl _ _).alloc (Nat.le_refl _) _).alloc (by simp) _).trans (bl_drewN (Below.refl _ _) _) |>.setCell (by simp) _).setCell (by simp) _ |>.setCell (by simp) _
end Go.Proofs.YtleigbbgilcckaaGreat
