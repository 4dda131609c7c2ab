/- The walks of the reference's Quick, Exact and Floor. -/
import Derived.Test.YtienkfcliocjgaaGreatGUi
set_option linter.unusedVariables false
set_option linter.unusedSimpArgs false
/- The walks of the reference's high and quick. -/
namespace Go.Proofs.YtienkfcliocjgaaGreat
open Go.RowKit
theorem mask31 (n : Int) : bits .and .i64 n 2147483647 = n % 2147483648 := by
  have h31 : (BitVec.ofInt 64 2147483647).toNat = 2 ^ 31 - 1 := by decide
  have key : (BitVec.ofInt 64 n &&& BitVec.ofInt 64 2147483647).toNat = (n % ((2 ^ 64 : Nat) : Int)).toNat % 2 ^ 31 := by
    rw [BitVec.toNat_and, BitVec.toNat_ofInt, h31, Nat.and_two_pow_sub_one_eq_mod]
  show IntKind.i64.wrap ((BitVec.ofInt 64 n &&& BitVec.ofInt 64 2147483647).toNat : Nat) = n % 2147483648
  rw [key, IntKind.wrap_i64]
  omega
theorem high_val {a b : Nat} (ha : a ≤ 4611686018427387904) (hb : b ≤ 4611686018427387904) :
    wrap64 (wrap64 (wrap64 ((a : Int) / 2147483648 * ((b : Int) / 2147483648)) + wrap64 ((a : Int) / 2147483648 * ((b : Int) % 2147483648)) / 2147483648) + wrap64 ((a : Int) % 2147483648 * ((b : Int) / 2147483648)) / 2147483648) = ((Trig.hiN a b : Nat) : Int) := by
  have h := (Trig.hiN_bd a b).1
  have h2 : a * b ≤ 4611686018427387904 * 4611686018427387904 := Nat.mul_le_mul ha hb
  unfold Trig.hiN at *
  have e1 : (a : Int) / 2147483648 = ((a / 2147483648 : Nat) : Int) := by omega
  have e2 : (b : Int) / 2147483648 = ((b / 2147483648 : Nat) : Int) := by omega
  have e3 : (a : Int) % 2147483648 = ((a % 2147483648 : Nat) : Int) := by omega
  have e4 : (b : Int) % 2147483648 = ((b % 2147483648 : Nat) : Int) := by omega
  rw [e1, e2, e3, e4, ← Int.natCast_mul, ← Int.natCast_mul, ← Int.natCast_mul]
  have g1 : a / 2147483648 ≤ 2147483648 := by omega
  have g2 : b / 2147483648 ≤ 2147483648 := by omega
  have g3 : a % 2147483648 ≤ 2147483648 := by omega
  have g4 : b % 2147483648 ≤ 2147483648 := by omega
  have q1 := Nat.mul_le_mul g1 g2
  have q2 := Nat.mul_le_mul g1 g4
  have q3 := Nat.mul_le_mul g3 g2
  clear e1 e2 e3 e4 g1 g2 g3 g4 h h2 ha hb
  generalize a / 2147483648 * (b / 2147483648) = p at *
  generalize a / 2147483648 * (b % 2147483648) = q at *
  generalize a % 2147483648 * (b / 2147483648) = r at *
  rw [IntWalk.wrap64_in (p : Int) (by omega), IntWalk.wrap64_in (q : Int) (by omega), IntWalk.wrap64_in (r : Int) (by omega), IntWalk.wrap64_in ((p : Int) + (q : Int) / 2147483648) (by omega), IntWalk.wrap64_in ((p : Int) + (q : Int) / 2147483648 + (r : Int) / 2147483648) (by omega)]
  omega
set_option maxHeartbeats 1000000 in
theorem high_any (a b : Nat) (w : World) (ha : a ≤ 4611686018427387904) (hb : b ≤ 4611686018427387904) : Calls Tryz.prog 176 #[.int .i64 a, .int .i64 b] w fun e w' => e = .returned (.int .i64 (Trig.hiN a b : Nat)) ∧ w' = w := by
  have HV := Lib.hid (high_val ha hb)
  have ba0 : (0 : Int) ≤ (a : Int) := by omega
  have ba1 : (a : Int) ≤ 4611686018427387904 := by omega
  have bb0 : (0 : Int) ≤ (b : Int) := by omega
  have bb1 : (b : Int) ≤ 4611686018427387904 := by omega
  generalize ((Trig.hiN a b : Nat) : Int) = z at *
  go_enter Tryz.func176, Tryz.ntmps176
  go_wp2
  go_ret
  refine ⟨ret_int ?_, rfl⟩
  rw [← HV.out, mask31, mask31]
/-- two terms on, a series has fallen to a sixteenth -/
theorem tm_fall {sq : Nat} (h : sq ≤ 3074457345618258602) (t m : Nat) : 16 * Trig.tm (Trig.tm t sq (m + 1)) sq (m + 2 + 1) ≤ t ∧ Trig.tm (Trig.tm t sq (m + 1)) sq (m + 2 + 1) ≤ Trig.tm t sq (m + 1) := by
  have key : ∀ s c : Nat, 12 ≤ c → 16 * (Trig.hiN s sq / c) ≤ s := by
    intro s c hc
    have h1 := (Trig.hiN_bd s sq).1
    have h2 : s * sq ≤ s * 3074457345618258602 := Nat.mul_le_mul_left s h
    have h3 : Trig.hiN s sq / c ≤ Trig.hiN s sq / 12 := Nat.div_le_div_left hc (by omega)
    omega
  have hc : 12 ≤ (m + 2 + 1) * (m + 2 + 1 + 1) := Nat.mul_le_mul (show 3 ≤ m + 2 + 1 by omega) (show 4 ≤ m + 2 + 1 + 1 by omega)
  have k1 := key (Trig.tm t sq (m + 1)) _ hc
  have k2 := Trig.tm_le (t := t) (m := m) (show sq ≤ 4611686018427387904 by omega)
  have e : Trig.tm (Trig.tm t sq (m + 1)) sq (m + 2 + 1) = Trig.hiN (Trig.tm t sq (m + 1)) sq / ((m + 2 + 1) * (m + 2 + 1 + 1)) := rfl
  rw [e]
  omega
theorem tm_cast {t sq d h c x : Nat} (hh : h = Trig.hiN t sq) (hc : c = d * (d + 1)) (hx : x = Trig.tm t sq d) : (h : Int) / (c : Int) = (x : Int) := by
  rw [hh, hc, hx]
  unfold Trig.tm
  exact (Int.natCast_ediv _ _).symm
theorem hiN_le {t sq : Nat} (h : sq ≤ 4611686018427387904) : Trig.hiN t sq ≤ t := by
  have h1 := (Trig.hiN_bd t sq).1
  have h3 : t * sq ≤ t * 4611686018427387904 := Nat.mul_le_mul_left t h
  omega
theorem qgo_zero (sq f d : Nat) : Trig.qgo sq f 0 d = 0 := by cases f <;> simp [Trig.qgo]
theorem qgo_next {sq S R t m f t1 t2 : Nat} (h0 : t ≠ 0) (h : S + Trig.qgo sq (f + 1) t (m + 1) = R) (h1 : t1 = Trig.tm t sq (m + 1)) (h2 : t2 = Trig.tm t1 sq (m + 2 + 1)) (hle : t1 ≤ t) : S + t - t1 + Trig.qgo sq f t2 (m + 4 + 1) = R := by
  rw [Trig.qgo, if_neg h0, ← h1, show m + 1 + 2 = m + 2 + 1 by omega, ← h2, show m + 1 + 4 = m + 4 + 1 by omega] at h
  omega
theorem pow_fall {t t2 f : Nat} (h : t < 2 ^ (4 * (f + 1))) (h2 : 16 * t2 ≤ t) : t2 < 2 ^ (4 * f) := by
  rw [show 4 * (f + 1) = 4 * f + 4 by omega, Nat.pow_add] at h
  omega
set_option maxHeartbeats 2000000 in
set_option maxRecDepth 100000 in
theorem quick_loop (r : Nat) (c : Bool) (w : World) (hr : r ≤ 2700000) : Calls Tryz.prog 164 #[.int .i64 r, .bool c] w fun e w' => e = .returned (.int .i64 (Trig.quickN r c : Nat)) ∧ w' = w := by
  obtain ⟨x0, x1⟩ := Trig.ang_bd hr
  have hsq := Trig.sq_le x0 x1 (Trig.sqN_err hr)
  have hA : Trig.arcN r ≤ 4611686018427387904 := by unfold Trig.arcN; omega
  have hAe : (Trig.arcN r : Int) = (r : Int) * 2620088056 * 512 + (r : Int) * 658911831 / 4194304 := by unfold Trig.arcN; omega
  have hR := Trig.quickN_le hr c
  have hq : Trig.quickN r c = if c = true then Trig.qgo (Trig.hiN (Trig.arcN r) (Trig.arcN r)) 17 4611686018427387904 1 else Trig.qgo (Trig.hiN (Trig.arcN r) (Trig.arcN r)) 17 (Trig.arcN r) 2 := rfl
  have KH := Lib.hid (fun W => high_any (Trig.arcN r) (Trig.arcN r) W hA hA)
  generalize Trig.quickN r c = R at *
  generalize Trig.hiN (Trig.arcN r) (Trig.arcN r) = sq at *
  generalize Trig.arcN r = A at *
  have b0 : (0 : Int) ≤ (r : Int) := by omega
  have b1 : (r : Int) ≤ 2700000 := by omega
  have hS := Lib.hid hsq
  have HA := Lib.hid hA
  have HR := Lib.hid hR
  have HQ := Lib.hid hq
  clear x0 x1 hsq hA hR hq hr
  have hAe' := hAe.symm
  clear hAe
  cases c
  all_goals
    go_enter Tryz.func164, Tryz.ntmps164
    go_wp2_with (go_at_call 176; (with_reducible refine (KH.out _).mono ?_); rintro e w1 ⟨rfl, rfl⟩)
    go_loop [7, 8, 9] (fun s7 s8 s9 => ∃ t d f S : Nat, s7 = .int .i64 t ∧ s8 = .int .i64 d ∧ s9 = .int .i64 S ∧ 1 ≤ d ∧ S + Trig.qgo sq f t d = R ∧ t < 2 ^ (4 * f) ∧ S + t ≤ 4611686018427387904 ∧ d + 4 * f ≤ 71) (fun s7 _ _ => (intOf s7).toNat)
    case atStart =>
      first
        | exact ⟨A, 2, 17, 0, rfl, rfl, rfl, by omega, by rw [HQ.out]; simp, Nat.lt_of_le_of_lt HA.out (by decide), by have := HA.out; omega, by omega⟩
        | exact ⟨4611686018427387904, 1, 17, 0, rfl, rfl, rfl, by omega, by rw [HQ.out]; simp, by decide, by omega, by omega⟩
    case round =>
      obtain ⟨t, d, f, S, rfl, rfl, rfl, hd1, hqg, htf, hSt, hdf⟩ := hrel
      have HQG := Lib.hid hqg
      have HTF := Lib.hid htf
      have HSt := Lib.hid hSt
      by_cases ht : 0 < t
      · obtain ⟨f', rfl⟩ : ∃ f', f = f' + 1 := by
          rcases f with _ | f'
          · exfalso
            have := HTF.out
            simp at this
            omega
          · exact ⟨f', rfl⟩
        obtain ⟨m, hm⟩ : ∃ m, d = m + 1 := ⟨d - 1, by omega⟩
        obtain ⟨h1, hh1⟩ : ∃ h, h = Trig.hiN t sq := ⟨_, rfl⟩
        obtain ⟨t1, ht1⟩ : ∃ x, x = Trig.tm t sq d := ⟨_, rfl⟩
        obtain ⟨c1, hc1⟩ : ∃ x, x = d * (d + 1) := ⟨_, rfl⟩
        obtain ⟨h2, hh2⟩ : ∃ h, h = Trig.hiN t1 sq := ⟨_, rfl⟩
        obtain ⟨t2, ht2⟩ : ∃ x, x = Trig.tm t1 sq (d + 2) := ⟨_, rfl⟩
        obtain ⟨c2, hc2⟩ : ∃ x, x = (d + 2) * (d + 2 + 1) := ⟨_, rfl⟩
        have hsq := hS.out
        have l1 : t1 ≤ t := by rw [ht1, hm]; exact Trig.tm_le (by omega)
        have g1 : h1 ≤ t := by rw [hh1]; exact hiN_le (by omega)
        have g2 : h2 ≤ t1 := by rw [hh2]; exact hiN_le (by omega)
        have fall := tm_fall hsq t m
        rw [← hm, ← ht1, show m + 2 + 1 = d + 2 by omega, ← ht2] at fall
        have p1 : c1 ≤ 71 * 72 := by rw [hc1]; exact Nat.mul_le_mul (by omega) (by omega)
        have p2 : c2 ≤ 73 * 74 := by rw [hc2]; exact Nat.mul_le_mul (by omega) (by omega)
        have p3 : 2 ≤ c1 := by rw [hc1]; exact Nat.mul_le_mul (show 1 ≤ d by omega) (show 2 ≤ d + 1 by omega)
        have p4 : 12 ≤ c2 := by rw [hc2]; exact Nat.mul_le_mul (show 3 ≤ d + 2 by omega) (show 4 ≤ d + 2 + 1 by omega)
        have K1 : Hid (∀ W, Calls Tryz.prog 176 #[.int .i64 t, .int .i64 sq] W fun e w' => e = .returned (.int .i64 h1) ∧ w' = W) := Lib.hid (fun W => by rw [hh1]; exact high_any t sq W (by omega) (by omega))
        have K2 : Hid (∀ W, Calls Tryz.prog 176 #[.int .i64 t1, .int .i64 sq] W fun e w' => e = .returned (.int .i64 h2) ∧ w' = W) := Lib.hid (fun W => by rw [hh2]; exact high_any t1 sq W (by omega) (by omega))
        have E1 := tm_cast hh1 hc1 ht1
        have E2 := tm_cast hh2 hc2 ht2
        have W1 : wrap64 ((d : Int) * ((d : Int) + 1)) = (c1 : Int) := by
          have : (d : Int) * ((d : Int) + 1) = (c1 : Int) := by rw [hc1]; push_cast; rfl
          rw [this]
          exact IntWalk.wrap64_in _ (by omega)
        have W2 : wrap64 (((d : Int) + 2) * ((d : Int) + 3)) = (c2 : Int) := by
          have : ((d : Int) + 2) * ((d : Int) + 3) = (c2 : Int) := by rw [hc2]; push_cast; rfl
          rw [this]
          exact IntWalk.wrap64_in _ (by omega)
        have z1 : ((c1 : Int) == 0) = false := by rw [beq_eq_false_iff_ne]; clear E1 E2 W1 W2; omega
        have z2 : ((c2 : Int) == 0) = false := by rw [beq_eq_false_iff_ne]; clear E1 E2 W1 W2; omega
        have z3 : ¬ ((c1 : Int) = 0) := by clear E1 E2 W1 W2; omega
        have z4 : ¬ ((c2 : Int) = 0) := by clear E1 E2 W1 W2; omega
        have nx : S + t - t1 + Trig.qgo sq f' t2 (d + 4) = R := by
          have := HQG.out
          rw [hm] at this ⊢
          exact qgo_next (by omega) this (by rw [ht1, hm]) (by rw [ht2, hm]) l1
        have NX := Lib.hid nx
        have FA := Lib.hid fall
        have LL := Lib.hid l1
        have B := Lib.hid (And.intro hdf hd1)
        have q1 : (0 : Int) ≤ (S : Int) := by omega
        have q2 : (S : Int) + (t : Int) ≤ 4611686018427387904 := by omega
        have q3 : (0 : Int) ≤ (t1 : Int) ∧ (t1 : Int) ≤ (t : Int) := by omega
        have q4 : (1 : Int) ≤ (d : Int) ∧ (d : Int) ≤ 71 := by omega
        have q5 : (0 : Int) ≤ (h1 : Int) ∧ (0 : Int) ≤ (h2 : Int) := by omega
        have q6 : (0 : Int) < (c1 : Int) ∧ (0 : Int) < (c2 : Int) := by clear E1 E2 W1 W2; omega
        have q70 : (0 : Int) ≤ (t2 : Int) := by omega
        have q71 : (t2 : Int) ≤ 4611686018427387904 := by clear E1 E2 W1 W2; omega
        obtain ⟨q30, q31⟩ := q3
        obtain ⟨q40, q41⟩ := q4
        obtain ⟨q50, q51⟩ := q5
        obtain ⟨q60, q61⟩ := q6
        clear hqg htf hSt hm hh1 ht1 hc1 hh2 ht2 hc2 hsq l1 g1 g2 fall p1 p2 p3 p4 nx hdf hd1
        have dt : decide ((0 : Int) < (t : Int)) = true := decide_eq_true (by clear E1 E2 W1 W2; omega)
        go_wp2_with (first | (go_at_call 176; (with_reducible refine (K1.out _).mono ?_); rintro e w1 ⟨rfl, rfl⟩) | (go_at_call 176; (with_reducible refine (K2.out _).mono ?_); rintro e w1 ⟨rfl, rfl⟩))
        go_round
        case rel => exact ⟨t2, d + 4, f', S + t - t1, rfl, by go_num, by have := LL.out; clear E1 E2 W1 W2; go_num, by omega, NX.out, pow_fall HTF.out FA.out.1, by have := FA.out.2; have := HSt.out; have := LL.out; clear E1 E2 W1 W2; omega, by have := B.out; clear E1 E2 W1 W2; omega⟩
        case measure => have := FA.out.1; clear E1 E2 W1 W2; simp [intOf]; omega
      · have h0 : t = 0 := by omega
        subst h0
        go_wp2
        go_ret
        refine ⟨ret_int ?_, rfl⟩
        have := HQG.out
        rw [qgo_zero] at this
        omega
end Go.Proofs.YtienkfcliocjgaaGreat
namespace Go.Proofs.YtienkfcliocjgaaGreat
open Go.RowKit
theorem quick_int (r : Int) (c : Bool) (w : World) (h0 : 0 ≤ r) (h1 : r ≤ 2700000) : Calls Tryz.prog 164 #[.int .i64 r, .bool c] w fun e w' => e = .returned (.int .i64 (Trig.quickN r.toNat c : Nat)) ∧ w' = w := by
  have := quick_loop r.toNat c w (by omega)
  rw [Int.toNat_of_nonneg h0] at this
  exact this
theorem quickN_bd {r : Int} (c : Bool) (h0 : 0 ≤ r) (h1 : r ≤ 2700000) : (0 : Int) ≤ (Trig.quickN r.toNat c : Nat) ∧ ((Trig.quickN r.toNat c : Nat) : Int) ≤ 4611686018427387904 := by
  have := Trig.quickN_le (r := r.toNat) (by omega) c
  omega
theorem tmodT_val (n : Int) : (n.tmod 21600000 < 0 ∧ wrap64 (n.tmod 21600000 + 21600000) = n % 21600000) ∨ (¬ n.tmod 21600000 < 0 ∧ n.tmod 21600000 = n % 21600000) := by
  by_cases h : n.tmod 21600000 < 0
  · refine .inl ⟨h, ?_⟩
    have e := tmodT_neg h
    rw [IntWalk.wrap64_in _ (by omega)]
    exact e
  · exact .inr ⟨h, tmodT_pos (by omega)⟩
set_option maxHeartbeats 4000000 in
theorem Quick_any (n : Int) (w : World) : Calls Tryz.prog 148 #[.int .i64 n] w fun e w' => e = .returned (.int .i64 (Trig.qv n)) ∧ w' = w := by
  have hm : 0 ≤ n % 21600000 ∧ n % 21600000 < 21600000 := by omega
  have hv : Trig.qv n = if Trig.rq n ≥ 2 then - (Trig.quickN (Trig.rr n).toNat (Trig.rc n) : Int) else (Trig.quickN (Trig.rr n).toNat (Trig.rc n) : Int) := rfl
  have hrq : Trig.rq n = n % 21600000 / 5400000 := rfl
  have hrr : Trig.rr n = if n % 21600000 % 5400000 > 2700000 then 5400000 - n % 21600000 % 5400000 else n % 21600000 % 5400000 := rfl
  have hrc : Trig.rc n = if n % 21600000 % 5400000 > 2700000 then !decide (Trig.rq n % 2 = 1) else decide (Trig.rq n % 2 = 1) := rfl
  have ht := tmodT_val n
  rw [hv]
  generalize n % 21600000 = m at *
  obtain ⟨m0, m1⟩ := hm
  generalize Trig.rq n = q at *
  generalize Trig.rr n = r at *
  generalize Trig.rc n = c at *
  have hqc : q = 0 ∨ q = 1 ∨ q = 2 ∨ q = 3 := by omega
  have hr0 : 0 ≤ m % 5400000 ∧ m % 5400000 < 5400000 := by omega
  generalize hs : m % 5400000 = s at *
  obtain ⟨s0, s1⟩ := hr0
  have hq' := hrq.symm
  clear hv hrq
  by_cases hb : s > 2700000
  · rw [if_pos hb] at hrr hrc
    have d1 : decide (2700000 < s) = true := decide_eq_true hb
    rcases hqc with rfl | rfl | rfl | rfl
    all_goals
      simp at hrc
      subst hrc
      subst hrr
      have K := Lib.hid (fun W => quick_int (5400000 - s) false W (by omega) (by omega))
      have K' := Lib.hid (fun W => quick_int (5400000 - s) true W (by omega) (by omega))
      obtain ⟨v0, v1⟩ := quickN_bd (r := 5400000 - s) false (by omega) (by omega)
      obtain ⟨u0, u1⟩ := quickN_bd (r := 5400000 - s) true (by omega) (by omega)
      generalize ((Trig.quickN (5400000 - s).toNat false : Nat) : Int) = v at *
      generalize ((Trig.quickN (5400000 - s).toNat true : Nat) : Int) = u at *
      rcases ht with ⟨t0, t1⟩ | ⟨t0, t1⟩
      all_goals
        simp only [ge_iff_le, Int.reduceLE, if_true, if_false]
        go_enter Tryz.func148, Tryz.ntmps148
        go_wp2_with (first | (go_at_call 164; (with_reducible refine (K.out _).mono ?_); rintro e w1 ⟨rfl, rfl⟩) | (go_at_call 164; (with_reducible refine (K'.out _).mono ?_); rintro e w1 ⟨rfl, rfl⟩))
        go_ret
        exact ⟨ret_int (by omega), rfl⟩
  · rw [if_neg hb] at hrr hrc
    have d1 : decide (2700000 < s) = false := decide_eq_false hb
    rcases hqc with rfl | rfl | rfl | rfl
    all_goals
      simp at hrc
      subst hrc
      subst hrr
      have K := Lib.hid (fun W => quick_int r false W (by omega) (by omega))
      have K' := Lib.hid (fun W => quick_int r true W (by omega) (by omega))
      obtain ⟨v0, v1⟩ := quickN_bd (r := r) false (by omega) (by omega)
      obtain ⟨u0, u1⟩ := quickN_bd (r := r) true (by omega) (by omega)
      generalize ((Trig.quickN r.toNat false : Nat) : Int) = v at *
      generalize ((Trig.quickN r.toNat true : Nat) : Int) = u at *
      rcases ht with ⟨t0, t1⟩ | ⟨t0, t1⟩
      all_goals
        simp only [ge_iff_le, Int.reduceLE, if_true, if_false]
        go_enter Tryz.func148, Tryz.ntmps148
        go_wp2_with (first | (go_at_call 164; (with_reducible refine (K.out _).mono ?_); rintro e w1 ⟨rfl, rfl⟩) | (go_at_call 164; (with_reducible refine (K'.out _).mono ?_); rintro e w1 ⟨rfl, rfl⟩))
        go_ret
        exact ⟨ret_int (by omega), rfl⟩
set_option maxHeartbeats 4000000 in
theorem Exact_no (n : Int) (w : World) (h : Trig.rEx n = false) : Calls Tryz.prog 147 #[.int .i64 n] w fun e w' => e = .returned (.tuple #[.int .i64 0, .bool false]) ∧ Below w.heap.size w w' := by
  have hm : 0 ≤ n % 21600000 ∧ n % 21600000 < 21600000 := by omega
  have ht := tmodT_val n
  unfold Trig.rEx at h
  generalize n % 21600000 = m at *
  obtain ⟨m0, m1⟩ := hm
  by_cases hz : m % 1800000 = 0
  · have hk : m / 1800000 % 6 = 2 ∨ m / 1800000 % 6 = 4 := by
      rw [hz] at h
      simp at h
      omega
    have hmk : m = 1800000 * 2 ∨ m = 1800000 * 8 ∨ m = 1800000 * 4 ∨ m = 1800000 * 10 := by omega
    clear h hz hk m0 m1
    rcases hmk with rfl | rfl | rfl | rfl
    all_goals
      rcases ht with ⟨t0, t1⟩ | ⟨t0, t1⟩
      all_goals
        simp only [Int.reduceMul] at t1
        go_enter Tryz.func147, Tryz.ntmps147
        go_wp2
        go_ret2
        refine ⟨rfl, ?_⟩
        repeat (first | exact Below.refl _ _ | assumption | refine bl_drew ?_ | refine bl_drewN ?_ _ | refine Below.setCell ?_ (by first | assumption | omega | (simp; done) | (simp; omega)) _ | refine Below.alloc ?_ (by first | assumption | omega | (simp; done) | (simp; omega)) _)
  · have hd : (m % 1800000 != 0) = true := by simpa using hz
    clear h hz
    rcases ht with ⟨t0, t1⟩ | ⟨t0, t1⟩
    all_goals
      go_enter Tryz.func147, Tryz.ntmps147
      go_wp2
      go_ret2
      refine ⟨rfl, ?_⟩
      repeat (first | exact Below.refl _ _ | assumption | refine bl_drew ?_ | refine bl_drewN ?_ _ | refine Below.setCell ?_ (by first | assumption | omega | (simp; done) | (simp; omega)) _ | refine Below.alloc ?_ (by first | assumption | omega | (simp; done) | (simp; omega)) _)
set_option maxHeartbeats 8000000 in
theorem Exact_yes (n : Int) (w : World) (h : Trig.rEx n = true) : Calls Tryz.prog 147 #[.int .i64 n] w fun e w' => e = .returned (.tuple #[.int .i64 (Trig.rVal n), .bool true]) ∧ Below w.heap.size w w' := by
  have hm : 0 ≤ n % 21600000 ∧ n % 21600000 < 21600000 := by omega
  have ht := tmodT_val n
  unfold Trig.rEx at h
  unfold Trig.rVal
  generalize n % 21600000 = m at *
  obtain ⟨m0, m1⟩ := hm
  simp only [Bool.and_eq_true, Bool.not_eq_true', Bool.or_eq_false_iff, decide_eq_true_eq, decide_eq_false_iff_not] at h
  have hmk : m = 1800000 * 0 ∨ m = 1800000 * 1 ∨ m = 1800000 * 3 ∨ m = 1800000 * 5 ∨ m = 1800000 * 6 ∨ m = 1800000 * 7 ∨ m = 1800000 * 9 ∨ m = 1800000 * 11 := by omega
  clear h m0 m1
  rcases hmk with rfl | rfl | rfl | rfl | rfl | rfl | rfl | rfl
  all_goals
    rcases ht with ⟨t0, t1⟩ | ⟨t0, t1⟩
    all_goals
      simp only [Int.reduceMul] at t1
      simp only [Int.reduceMul, Int.reduceDiv, Int.reduceEq, if_true, if_false]
      go_enter Tryz.func147, Tryz.ntmps147
      go_wp2
      go_ret2
      refine ⟨rfl, ?_⟩
      repeat (first | exact Below.refl _ _ | assumption | refine bl_drew ?_ | refine bl_drewN ?_ _ | refine Below.setCell ?_ (by first | assumption | omega | (simp; done) | (simp; omega)) _ | refine Below.alloc ?_ (by first | assumption | omega | (simp; done) | (simp; omega)) _)
theorem qv_facts (n : Int) (h : Trig.rEx n = false) : (-4611686018427387904 ≤ Trig.qv n ∧ Trig.qv n ≤ 4611686018427387904) ∧ (Trig.qv n - 256) / 4294967296 = (Trig.qv n + 256) / 4294967296 ∧ Trig.qv n / 4294967296 = Trig.loB n ∧ Trig.hiB n = Trig.loB n + 1 := by
  obtain ⟨hf, h1, h2⟩ := Trig.quick_far n h
  refine ⟨?_, ?_, h1, h2⟩
  · have hr : 0 ≤ Trig.rr n ∧ Trig.rr n ≤ 2700000 := by unfold Trig.rr; omega
    have := quickN_bd (r := Trig.rr n) (Trig.rc n) hr.1 hr.2
    unfold Trig.qv
    split <;> omega
  · unfold Trig.farB at hf
    rw [Bool.and_eq_true, Nat.ble_eq, Nat.ble_eq] at hf
    unfold Trig.qv
    generalize Trig.quickN (Trig.rr n).toNat (Trig.rc n) = v at *
    split <;> omega
set_option maxHeartbeats 2000000 in
theorem Floor_any (n : Int) (w : World) : Calls Tryz.prog 128 #[.int .i64 n] w fun e w' => e = .returned (.tuple #[.int .i64 (Trig.loB n), .bool (Trig.rEx n)]) ∧ Below w.heap.size w w' := by
  cases h : Trig.rEx n with
  | true =>
    have KE := Lib.hid (fun W => Exact_yes n W h)
    rw [(Trig.exact_same n h).1] at KE
    clear h
    go_enter Tryz.func128, Tryz.ntmps128
    go_wp2_with (go_at_call 147; (with_reducible refine (KE.out _).mono ?_); rintro e w1 ⟨rfl, hb1⟩)
    go_ret2
    exact ⟨rfl, hb1⟩
  | false =>
    have KE := Lib.hid (fun W => Exact_no n W h)
    have KQ := Lib.hid (fun W => Quick_any n W)
    obtain ⟨⟨q0, q1⟩, hq, hl, -⟩ := qv_facts n h
    rw [← hl]
    generalize Trig.qv n = v at *
    have hd : ((v - 256) / 4294967296 == (v + 256) / 4294967296) = true := by rw [beq_iff_eq]; exact hq
    clear h hl hq
    go_enter Tryz.func128, Tryz.ntmps128
    go_wp2_with (first | (go_at_call 147; (with_reducible refine (KE.out _).mono ?_); rintro e w1 ⟨rfl, hb1⟩) | (go_at_call 148; (with_reducible refine (KQ.out _).mono ?_); rintro e w2 ⟨rfl, rfl⟩))
    go_ret2
    exact ⟨rfl, hb1⟩
end Go.Proofs.YtienkfcliocjgaaGreat
