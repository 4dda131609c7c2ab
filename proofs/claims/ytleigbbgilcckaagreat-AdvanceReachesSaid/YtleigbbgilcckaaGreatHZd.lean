/- The walk of the reference's Quotient where the dividend is the unit. -/
import Derived.Deep.RegionLaw
import Derived.Test.YtleigbbgilcckaaGreatHZb
import Derived.Test.YtleigbbgilcckaaGreatHUk
import Derived.Test.YtleigbbgilcckaaGreatHUo
import Derived.Test.YtleigbbgilcckaaGreatHJe
set_option linter.unusedVariables false
set_option linter.unusedSimpArgs false
namespace Go.Proofs.YtleigbbgilcckaaGreat
open Go.RowKit
theorem en_le (lo hi : Int) : -1073741824 ≤ Trig.enLo lo hi ∧ Trig.enLo lo hi ≤ Trig.enHi lo hi ∧ Trig.enHi lo hi ≤ 1073741824 := by
  have h1 := Trig.hi_le lo
  have h2 := Trig.hi_le hi
  unfold Trig.enLo Trig.enHi
  split <;> split <;> omega
/-- the difference of longitude of a departure, and the error -/
def dnV (lo hi a b : Int) : Value := if Trig.enLo (lo + 5400000) (hi + 5400000) ≤ 0 then .tuple #[.agg #[.int .i64 0, .int .i64 0], .int .i64 21] else dlV a b (Trig.enLo (lo + 5400000) (hi + 5400000)) (Trig.enHi (lo + 5400000) (hi + 5400000))
set_option maxHeartbeats 4000000 in
set_option maxRecDepth 100000 in
theorem Dlon_any (lo hi a b : Int) (w : World) (l0 : -5400000 ≤ lo) (l1 : lo ≤ hi) (l2 : hi ≤ 5400000) (hs : smB a b = true) :
    Calls Tryz.prog 13 #[.agg #[.int .i64 lo, .int .i64 hi], .agg #[.int .i64 a, .int .i64 b]] w fun e w' => e = .returned (dnV lo hi a b) ∧ Below w.heap.size w w' := by
  have KL := Lib.hid (fun W => latitude_yes lo hi W l0 l1 l2)
  have KV := Lib.hid (fun W => aValid_any a b W)
  rw [sm_av hs] at KV
  have KC := Lib.hid (fun W => Cos_yes lo hi W (by rw [avB_true]; omega))
  have he := en_le (lo + 5400000) (hi + 5400000)
  rw [sm_iff] at hs
  unfold dnV
  generalize Trig.enLo (lo + 5400000) (hi + 5400000) = p at *
  generalize Trig.enHi (lo + 5400000) (hi + 5400000) = q at *
  have b0 : Below w.heap.size w (((w.alloc (.cells #[.int .i64 lo, .int .i64 hi] 26)).alloc (.cells #[.int .i64 a, .int .i64 b] 26)).alloc (.cells #[.int .i64 0, .int .i64 0] 26)) :=
    (((Below.refl _ _).alloc (Nat.le_refl _) _).alloc (by simp) _).alloc (by simp; omega) _
  have L0 := Lib.hid (((D2.new w lo hi 26).alloc (.cells #[.int .i64 a, .int .i64 b] 26)).alloc (.cells #[.int .i64 0, .int .i64 0] 26))
  have A0 : Hid (D2 (((w.alloc (.cells #[.int .i64 lo, .int .i64 hi] 26)).alloc (.cells #[.int .i64 a, .int .i64 b] 26)).alloc (.cells #[.int .i64 0, .int .i64 0] 26)) (w.heap.size + 1) a b) := Lib.hid (by
    have := (D2.new (w.alloc (.cells #[.int .i64 lo, .int .i64 hi] 26)) a b 26).alloc (.cells #[.int .i64 0, .int .i64 0] 26)
    simpa using this)
  have R0 : Hid (D2 (((w.alloc (.cells #[.int .i64 lo, .int .i64 hi] 26)).alloc (.cells #[.int .i64 a, .int .i64 b] 26)).alloc (.cells #[.int .i64 0, .int .i64 0] 26)) (w.heap.size + 2) 0 0) := Lib.hid (by
    have := D2.new ((w.alloc (.cells #[.int .i64 lo, .int .i64 hi] 26)).alloc (.cells #[.int .i64 a, .int .i64 b] 26)) 0 0 26
    simpa using this)
  by_cases hp : p ≤ 0
  · rw [if_pos hp]
    clear he l0 l1 l2 hs
    go_enter Tryz.func13, Tryz.ntmps13
    go_wp2_with fail
    (with_reducible refine (KL.out _).mono ?_)
    rintro e w1 ⟨rfl, hb1⟩
    have L1 := Lib.hid (L0.out.below hb1 L0.out.lt)
    have A1 := Lib.hid (A0.out.below hb1 A0.out.lt)
    have R1 := Lib.hid (R0.out.below hb1 R0.out.lt)
    have b1 := b0.trans (hb1.mono b0.size)
    clear hb1 b0 L0 A0 R0
    obtain ⟨at1, a0, a1, af0, af1⟩ := A1.out
    go_wp2_with fail
    (with_reducible refine (KV.out _).mono ?_)
    rintro e w2 ⟨rfl, hb2⟩
    have L2 := Lib.hid (L1.out.below hb2 L1.out.lt)
    have R2 := Lib.hid (R1.out.below hb2 R1.out.lt)
    have b2 := b1.trans (hb2.mono b1.size)
    clear hb2 b1 L1 A1 R1 at1 a0 a1 af0 af1
    obtain ⟨lt1, c0, c1, cf0, cf1⟩ := L2.out
    go_wp2_with fail
    (with_reducible refine (KC.out _).mono ?_)
    rintro e w3 ⟨rfl, hb3⟩
    have R3 := R2.out.below hb3 R2.out.lt
    have b3 := b2.trans (hb3.mono b2.size)
    clear hb3 b2 L2 R2 lt1 c0 c1 cf0 cf1
    obtain ⟨rt, r0, r1, rf0, rf1⟩ := R3
    go_wp2
    refine bodyPost_ret (v := .tuple #[.agg #[.int .i64 0, .int .i64 0], .int .i64 21]) (by simp [results, Tryz.results13, go_sem, *]; done) rfl ⟨rfl, ?_⟩
    have z3 := b3.size
    refine Below.alloc (Below.setCell (Below.setCell b3 ?_ _) ?_ _) ?_ _ <;> first | (simp only []; omega) | (simp; omega)
  · rw [if_neg hp]
    have KB := Lib.hid (fun (W : World) => both_dlon a b p q (W.heap.size + 1) W.heap.size ((W.alloc (.cells #[.int .i64 p, .int .i64 q] 67)).alloc (.cells #[.int .i64 1073741824, .int .i64 1073741824] 67)) (by
        have := D2.new (W.alloc (.cells #[.int .i64 p, .int .i64 q] 67)) 1073741824 1073741824 67
        simpa using this) ((D2.new W p q 67).alloc _) (by omega) (by omega) (by omega) (by omega) (by omega) he.2.1 (by omega))
    clear he l0 l1 l2 hs
    unfold dlV at *
    generalize dlG a b p q = s at *
    generalize dlA a b p q = x at *
    generalize dlB a b p q = y at *
    cases s
    all_goals
      simp only [Bool.false_eq_true, if_false, if_true] at *
      go_enter Tryz.func13, Tryz.ntmps13
      go_wp2_with fail
      (with_reducible refine (KL.out _).mono ?_)
      rintro e w1 ⟨rfl, hb1⟩
      have L1 := Lib.hid (L0.out.below hb1 L0.out.lt)
      have A1 := Lib.hid (A0.out.below hb1 A0.out.lt)
      have R1 := Lib.hid (R0.out.below hb1 R0.out.lt)
      have b1 := b0.trans (hb1.mono b0.size)
      clear hb1 b0 L0 A0 R0
      obtain ⟨at1, a0, a1, af0, af1⟩ := A1.out
      go_wp2_with fail
      (with_reducible refine (KV.out _).mono ?_)
      rintro e w2 ⟨rfl, hb2⟩
      have L2 := Lib.hid (L1.out.below hb2 L1.out.lt)
      have A2 := Lib.hid (A1.out.below hb2 A1.out.lt)
      have R2 := Lib.hid (R1.out.below hb2 R1.out.lt)
      have b2 := b1.trans (hb2.mono b1.size)
      clear hb2 b1 L1 A1 R1 at1 a0 a1 af0 af1
      obtain ⟨lt1, c0, c1, cf0, cf1⟩ := L2.out
      go_wp2_with fail
      (with_reducible refine (KC.out _).mono ?_)
      rintro e w3 ⟨rfl, hb3⟩
      have A3 := Lib.hid (A2.out.below hb3 A2.out.lt)
      have R3 := Lib.hid (R2.out.below hb3 R2.out.lt)
      have b3 := b2.trans (hb3.mono b2.size)
      clear hb3 b2 L2 A2 R2 lt1 c0 c1 cf0 cf1
      obtain ⟨at1, a0, a1, af0, af1⟩ := (A3.out.alloc (.cells #[.int .i64 p, .int .i64 q] 67)).alloc (.cells #[.int .i64 1073741824, .int .i64 1073741824] 67)
      go_wp2_with fail
      (with_reducible refine (KB.out w3).mono ?_)
      rintro e w4 ⟨rfl, hb4⟩
      have R4 := (((R3.out.alloc _).alloc _).below hb4 ((R3.out.alloc _).alloc _).lt)
      have b4 := ((b3.alloc b3.size (.cells #[.int .i64 p, .int .i64 q] 67)).alloc (by have := b3.size; simp; omega) (.cells #[.int .i64 1073741824, .int .i64 1073741824] 67)).trans (hb4.mono (by have := b3.size; simp; omega))
      clear hb4 b3 R3 A3 at1 a0 a1 af0 af1
      obtain ⟨rt, r0, r1, rf0, rf1⟩ := R4
      go_wp2
      first
        | refine bodyPost_ret (v := .tuple #[.agg #[.int .i64 x, .int .i64 y], .int .i64 0]) (by simp [results, Tryz.results13, go_sem, *]; done) rfl ⟨rfl, ?_⟩
        | refine bodyPost_ret (v := .tuple #[.agg #[.int .i64 0, .int .i64 0], .int .i64 5]) (by simp [results, Tryz.results13, go_sem, *]; done) rfl ⟨rfl, ?_⟩
      refine Below.setCell (Below.setCell b4 ?_ _) ?_ _ <;> (simp only []; omega)
/-- the place to which a box is moved, and the error -/
def mvL (b0 b1 a b : Int) : Bool := decide (-5400000 ≤ b0 + a ∧ b1 + b ≤ 5400000)
def mvP (b0 b1 b2 b3 a b x y p q : Int) : Value :=
  if p ≤ 0 then .tuple #[.agg #[.int .i64 0, .int .i64 0, .int .i64 0, .int .i64 0], .int .i64 21]
  else if dlG x y p q = true then .tuple #[.agg #[.int .i64 (b0 + a), .int .i64 (b1 + b), .int .i64 (lonA (b2 + dlA x y p q) (b3 + dlB x y p q)), .int .i64 (lonB (b2 + dlA x y p q) (b3 + dlB x y p q))], .int .i64 0]
  else .tuple #[.agg #[.int .i64 0, .int .i64 0, .int .i64 0, .int .i64 0], .int .i64 5]
def mvV (b0 b1 b2 b3 a b x y : Int) : Value :=
  if mvL b0 b1 a b = true then mvP b0 b1 b2 b3 a b x y (Trig.enLo (min b0 (b0 + a) + 5400000) (max b1 (b1 + b) + 5400000)) (Trig.enHi (min b0 (b0 + a) + 5400000) (max b1 (b1 + b) + 5400000))
  else .tuple #[.agg #[.int .i64 0, .int .i64 0, .int .i64 0, .int .i64 0], .int .i64 21]
theorem dl_bd {a b p q : Int} (h : dlG a b p q = true) : -1099511627776 ≤ dlA a b p q ∧ dlA a b p q ≤ 1099511627776 ∧ -1099511627776 ≤ dlB a b p q ∧ dlB a b p q ≤ 1099511627776 := by
  unfold dlG at h
  rw [Bool.and_eq_true, qtG_iff, qtG_iff] at h
  unfold dlA dlB
  omega
end Go.Proofs.YtleigbbgilcckaaGreat
namespace Go.Proofs.YtleigbbgilcckaaGreat
open Go.RowKit
set_option maxHeartbeats 400000 in
theorem r5Valid_any (lo hi : Int) (w : World) : Calls Tryz.prog 79 #[.agg #[.int .i64 lo, .int .i64 hi]] w fun e w' => e = .returned (.bool (avB lo hi)) ∧ Below w.heap.size w w' := by
  have e : avB lo hi = (decide (lo ≤ hi) && decide (-1099511627776 ≤ lo) && decide (hi ≤ 1099511627776)) := by
    unfold avB
    rw [Bool.eq_iff_iff]
    simp only [Bool.and_eq_true, decide_eq_true_eq]
    omega
  rw [e]
  cases d1 : decide (lo ≤ hi) <;> cases d2 : decide (-1099511627776 ≤ lo) <;> cases d3 : decide (hi ≤ 1099511627776)
  all_goals
    go_enter Tryz.func79, Tryz.ntmps79
    go_wp2
    go_ret
    refine ⟨rfl, ?_⟩
    repeat (first | exact Below.refl _ _ | assumption | refine bl_drew ?_ | refine bl_drewN ?_ _ | refine Below.setCell ?_ (by first | assumption | omega | (simp; done) | (simp; omega)) _ | refine Below.alloc ?_ (by first | assumption | omega | (simp; done) | (simp; omega)) _)
set_option maxHeartbeats 1000000 in
theorem mvWithin_any (lo hi : Int) (w : World) : Calls Tryz.prog 47 #[.agg #[.int .i64 lo, .int .i64 hi]] w fun e w' => e = .returned (.bool (smB lo hi)) ∧ Below w.heap.size w w' := by
  have KV := Lib.hid (fun W => r5Valid_any lo hi W)
  rw [sm_parts]
  generalize avB lo hi = s at *
  cases s
  · go_enter Tryz.func47, Tryz.ntmps47
    go_wp2_with fail
    (with_reducible refine (KV.out _).mono ?_)
    rintro e w1 ⟨rfl, hb1⟩
    have hb1' := one_bl hb1
    go_wp2
    go_ret
    exact ⟨rfl, hb1'⟩
  · cases d1 : decide (-10800000 ≤ lo) <;> cases d2 : decide (hi ≤ 10800000)
    all_goals
      go_enter Tryz.func47, Tryz.ntmps47
      go_wp2_with fail
      (with_reducible refine (KV.out _).mono ?_)
      rintro e w1 ⟨rfl, hb1⟩
      obtain ⟨hb1', D1⟩ := one_D2 hb1
      obtain ⟨dt, d0, d1', df0, df1⟩ := D1
      clear hb1
      go_wp2
      go_ret
      exact ⟨rfl, hb1'⟩
set_option maxHeartbeats 400000 in
theorem Movement_any (a b c d : Int) (w : World) : Calls Tryz.prog 19 #[.agg #[.int .i64 a, .int .i64 b], .agg #[.int .i64 c, .int .i64 d]] w fun e w' => e = .returned (.bool (smB a b && smB c d)) ∧ Below w.heap.size w w' := by
  have KA := Lib.hid (fun W => mvWithin_any a b W)
  have KC := Lib.hid (fun W => mvWithin_any c d W)
  generalize smB a b = s at *
  generalize smB c d = t at *
  cases s
  · go_enter Tryz.func19, Tryz.ntmps19
    go_wp2_with fail
    (with_reducible refine (KA.out _).mono ?_)
    rintro e w1 ⟨rfl, hb1⟩
    have hb1' := two_bl hb1
    go_wp2
    go_ret
    exact ⟨rfl, hb1'⟩
  · go_enter Tryz.func19, Tryz.ntmps19
    go_wp2_with fail
    (with_reducible refine (KA.out _).mono ?_)
    rintro e w1 ⟨rfl, hb1⟩
    have hb1' := two_bl hb1
    have D1 : Hid (D2 w1 (w.heap.size + 1) c d) := Lib.hid (by
      have := (D2.new (w.alloc (.cells #[.int .i64 a, .int .i64 b] 26)) c d 26).below hb1 (by simp)
      simpa using this)
    obtain ⟨dt, d0, d1, df0, df1⟩ := D1.out
    clear hb1
    go_wp2_with fail
    (with_reducible refine (KC.out _).mono ?_)
    rintro e w2 ⟨rfl, hb2⟩
    go_wp2
    go_ret
    exact ⟨by simp, hb1'.trans (hb2.mono hb1'.size)⟩
set_option maxHeartbeats 400000 in
theorem r5Add_any (a b c d : Int) (w : World) (h0 : -2000000000000 ≤ a) (h1 : a ≤ 2000000000000) (h2 : -2000000000000 ≤ b) (h3 : b ≤ 2000000000000) (h4 : -2000000000000 ≤ c) (h5 : c ≤ 2000000000000) (h6 : -2000000000000 ≤ d) (h7 : d ≤ 2000000000000) :
    Calls Tryz.prog 49 #[.agg #[.int .i64 a, .int .i64 b], .agg #[.int .i64 c, .int .i64 d]] w fun e w' => e = .returned (.agg #[.int .i64 (a + c), .int .i64 (b + d)]) ∧ Below w.heap.size w w' := by
  go_enter Tryz.func49, Tryz.ntmps49
  go_wp2
  refine bodyPost_ret (v := .agg #[.int .i64 (a + c), .int .i64 (b + d)]) (by simp [results, Tryz.results49, go_sem, *]; done) rfl ⟨rfl, ?_⟩
  repeat (first | exact Below.refl _ _ | assumption | refine bl_drew ?_ | refine bl_drewN ?_ _ | refine Below.setCell ?_ (by first | assumption | omega | (simp; done) | (simp; omega)) _ | refine Below.alloc ?_ (by first | assumption | omega | (simp; done) | (simp; omega)) _)
set_option maxHeartbeats 400000 in
theorem rValidLat_any (lo hi : Int) (w : World) (h : lo ≤ hi) : Calls Tryz.prog 50 #[.agg #[.int .i64 lo, .int .i64 hi]] w fun e w' => e = .returned (.bool (decide (-5400000 ≤ lo ∧ hi ≤ 5400000))) ∧ Below w.heap.size w w' := by
  have e : decide (-5400000 ≤ lo ∧ hi ≤ 5400000) = (decide (-5400000 ≤ lo) && decide (hi ≤ 5400000)) := by
    rw [Bool.eq_iff_iff]
    simp only [Bool.and_eq_true, decide_eq_true_eq]
  rw [e]
  have d0 : decide (lo ≤ hi) = true := decide_eq_true h
  cases d1 : decide (-5400000 ≤ lo) <;> cases d2 : decide (hi ≤ 5400000)
  all_goals
    go_enter Tryz.func50, Tryz.ntmps50
    go_wp2
    go_ret
    refine ⟨rfl, ?_⟩
    repeat (first | exact Below.refl _ _ | assumption | refine bl_drew ?_ | refine bl_drewN ?_ _ | refine Below.setCell ?_ (by first | assumption | omega | (simp; done) | (simp; omega)) _ | refine Below.alloc ?_ (by first | assumption | omega | (simp; done) | (simp; omega)) _)
set_option maxHeartbeats 1000000 in
theorem Hull_any (a b c d : Int) (w : World) : Calls Tryz.prog 11 #[.agg #[.int .i64 a, .int .i64 b], .agg #[.int .i64 c, .int .i64 d]] w fun e w' => e = .returned (.agg #[.int .i64 (min a c), .int .i64 (max b d)]) ∧ Below w.heap.size w w' := by
  by_cases h1 : c < a <;> by_cases h2 : b < d
  · have e1 : min a c = c := by omega
    have e2 : max b d = d := by omega
    rw [e1, e2]
    go_enter Tryz.func11, Tryz.ntmps11
    go_wp2
    refine bodyPost_ret (v := .agg #[.int .i64 c, .int .i64 d]) (by simp [results, Tryz.results11, go_sem, *]; done) rfl ⟨rfl, ?_⟩
    repeat (first | exact Below.refl _ _ | assumption | refine bl_drew ?_ | refine bl_drewN ?_ _ | refine Below.setCell ?_ (by first | assumption | omega | (simp; done) | (simp; omega)) _ | refine Below.alloc ?_ (by first | assumption | omega | (simp; done) | (simp; omega)) _)
  · have e1 : min a c = c := by omega
    have e2 : max b d = b := by omega
    rw [e1, e2]
    go_enter Tryz.func11, Tryz.ntmps11
    go_wp2
    refine bodyPost_ret (v := .agg #[.int .i64 c, .int .i64 b]) (by simp [results, Tryz.results11, go_sem, *]; done) rfl ⟨rfl, ?_⟩
    repeat (first | exact Below.refl _ _ | assumption | refine bl_drew ?_ | refine bl_drewN ?_ _ | refine Below.setCell ?_ (by first | assumption | omega | (simp; done) | (simp; omega)) _ | refine Below.alloc ?_ (by first | assumption | omega | (simp; done) | (simp; omega)) _)
  · have e1 : min a c = a := by omega
    have e2 : max b d = d := by omega
    rw [e1, e2]
    go_enter Tryz.func11, Tryz.ntmps11
    go_wp2
    refine bodyPost_ret (v := .agg #[.int .i64 a, .int .i64 d]) (by simp [results, Tryz.results11, go_sem, *]; done) rfl ⟨rfl, ?_⟩
    repeat (first | exact Below.refl _ _ | assumption | refine bl_drew ?_ | refine bl_drewN ?_ _ | refine Below.setCell ?_ (by first | assumption | omega | (simp; done) | (simp; omega)) _ | refine Below.alloc ?_ (by first | assumption | omega | (simp; done) | (simp; omega)) _)
  · have e1 : min a c = a := by omega
    have e2 : max b d = b := by omega
    rw [e1, e2]
    go_enter Tryz.func11, Tryz.ntmps11
    go_wp2
    refine bodyPost_ret (v := .agg #[.int .i64 a, .int .i64 b]) (by simp [results, Tryz.results11, go_sem, *]; done) rfl ⟨rfl, ?_⟩
    repeat (first | exact Below.refl _ _ | assumption | refine bl_drew ?_ | refine bl_drewN ?_ _ | refine Below.setCell ?_ (by first | assumption | omega | (simp; done) | (simp; omega)) _ | refine Below.alloc ?_ (by first | assumption | omega | (simp; done) | (simp; omega)) _)
theorem r5Wrap_any (n : Int) (w : World) : Calls Tryz.prog 76 #[.int .i64 n] w fun e w' => e = .returned (.int .i64 (n % 21600000)) ∧ Below w.heap.size w w' := by
  have ht := tmodT_val n
  generalize n % 21600000 = m at *
  rcases ht with ⟨t0, t1⟩ | ⟨t0, t1⟩
  all_goals
    go_enter Tryz.func76, Tryz.ntmps76
    go_wp2
    go_ret
    exact ⟨ret_int (by first | exact t1 | rfl), Below.refl _ _⟩
theorem r5Signed_any (n : Int) (w : World) : Calls Tryz.prog 38 #[.int .i64 n] w fun e w' => e = .returned (.int .i64 (sgT n)) ∧ Below w.heap.size w w' := by
  have K := Lib.hid (fun W => r5Wrap_any n W)
  have hm : 0 ≤ n % 21600000 ∧ n % 21600000 < 21600000 := by omega
  unfold sgT
  generalize n % 21600000 = m at *
  by_cases h : 10800000 ≤ m
  all_goals
    first | rw [if_pos h] | rw [if_neg h]
    go_enter Tryz.func38, Tryz.ntmps38
    go_wp2_with fail
    (with_reducible refine (K.out _).mono ?_)
    rintro e w1 ⟨rfl, hb1⟩
    go_wp2
    go_ret
    exact ⟨rfl, hb1⟩
theorem rAll_any (w : World) : Calls Tryz.prog 37 #[] w fun e w' => e = .returned (.agg #[.int .i64 (-10800000), .int .i64 10800000]) ∧ Below w.heap.size w w' := by
  go_enter Tryz.func37, Tryz.ntmps37
  go_wp2
  refine bodyPost_ret (v := .agg #[.int .i64 (-10800000), .int .i64 10800000]) (by simp [results, Tryz.results37, go_sem]) rfl ⟨rfl, ?_⟩
  repeat (first | exact Below.refl _ _ | assumption | refine bl_drew ?_ | refine bl_drewN ?_ _ | refine Below.setCell ?_ (by first | assumption | omega | (simp; done) | (simp; omega)) _ | refine Below.alloc ?_ (by first | assumption | omega | (simp; done) | (simp; omega)) _)
set_option maxHeartbeats 1000000 in
theorem rLongitudes_any (lo hi : Int) (w : World) (h0 : -10000000000000 ≤ lo) (h1 : lo ≤ 10000000000000) (h2 : -10000000000000 ≤ hi) (h3 : hi ≤ 10000000000000) : Calls Tryz.prog 14 #[.agg #[.int .i64 lo, .int .i64 hi]] w fun e w' => e = .returned (.agg #[.int .i64 (lonA lo hi), .int .i64 (lonB lo hi)]) ∧ Below w.heap.size w w' := by
  have K := Lib.hid (fun W => r5Signed_any lo W)
  have KA := Lib.hid rAll_any
  have hs := sgT_bd lo
  unfold lonA lonB
  generalize sgT lo = s at *
  by_cases h : 21600000 ≤ hi - lo
  · rw [if_pos h, if_pos h]
    go_enter Tryz.func14, Tryz.ntmps14
    go_wp2_with fail
    (with_reducible refine (KA.out _).mono ?_)
    rintro e w1 ⟨rfl, hb1⟩
    have hb1' := two_bl hb1
    have R1 : Hid (D2 w1 (w.heap.size + 1) 0 0) := Lib.hid (by
      have := (D2.new (w.alloc (.cells #[.int .i64 lo, .int .i64 hi] 26)) 0 0 26).below hb1 (by simp)
      simpa using this)
    obtain ⟨rt, r0, r1, rf0, rf1⟩ := R1.out
    clear hb1
    go_wp2
    refine bodyPost_ret (v := .agg #[.int .i64 (-10800000), .int .i64 10800000]) (by simp [results, Tryz.results14, go_sem, *]; done) rfl ⟨rfl, ?_⟩
    exact (hb1'.setCell (by simp) _).setCell (by simp) _
  · rw [if_neg h, if_neg h]
    have e : s + (hi - lo) = s + hi - lo := by omega
    rw [e]
    go_enter Tryz.func14, Tryz.ntmps14
    go_wp2_with fail
    (with_reducible refine (K.out _).mono ?_)
    rintro e w1 ⟨rfl, hb1⟩
    have hb1' := two_bl hb1
    have L1 : Hid (D2 w1 w.heap.size lo hi) := Lib.hid (((D2.new w lo hi 26).alloc (.cells #[.int .i64 0, .int .i64 0] 26)).below hb1 (by simp; omega))
    have R1 : Hid (D2 w1 (w.heap.size + 1) 0 0) := Lib.hid (by
      have := (D2.new (w.alloc (.cells #[.int .i64 lo, .int .i64 hi] 26)) 0 0 26).below hb1 (by simp)
      simpa using this)
    obtain ⟨rt, r0, r1, rf0, rf1⟩ := R1.out
    obtain ⟨lt1, l0, l1, lf0, lf1⟩ := L1.out
    clear hb1
    go_wp2
    refine bodyPost_ret (v := .agg #[.int .i64 s, .int .i64 (s + hi - lo)]) (by simp [results, Tryz.results14, go_sem, *]; done) rfl ⟨rfl, ?_⟩
    exact (hb1'.setCell (by simp) _).setCell (by simp) _
set_option maxHeartbeats 1000000 in
theorem around_any (a b c d : Int) (w : World) : Calls Tryz.prog 83 #[.int .i64 a, .int .i64 b, .int .i64 c, .int .i64 d] w fun e w' => e = .returned (.agg #[.int .i64 (min a c), .int .i64 (max b d)]) ∧ Below w.heap.size w w' := by
  have K1 := Lib.hid (fun W => rLeast_any a c W)
  have K2 := Lib.hid (fun W => rMost_any b d W)
  generalize min a c = p at *
  generalize max b d = q at *
  go_enter Tryz.func83, Tryz.ntmps83
  go_wp2_with fail
  (with_reducible refine (K1.out _).mono ?_)
  rintro e w1 ⟨rfl, rfl⟩
  go_wp2_with fail
  (with_reducible refine (K2.out _).mono ?_)
  rintro e w1 ⟨rfl, rfl⟩
  go_wp2
  refine bodyPost_ret (v := .agg #[.int .i64 p, .int .i64 q]) (by simp [results, Tryz.results83, go_sem, *]; done) rfl ⟨rfl, ?_⟩
  repeat (first | exact Below.refl _ _ | assumption | refine bl_drew ?_ | refine bl_drewN ?_ _ | refine Below.setCell ?_ (by first | assumption | omega | (simp; done) | (simp; omega)) _ | refine Below.alloc ?_ (by first | assumption | omega | (simp; done) | (simp; omega)) _)
end Go.Proofs.YtleigbbgilcckaaGreat
namespace Go.Proofs.YtleigbbgilcckaaGreat
open Go.RowKit
theorem tdiv_facts (a b : Int) (hb : 0 < b) : (0 ≤ Int.tmod a b ∧ Int.tdiv a b = a / b) ∨ (Int.tmod a b < 0 ∧ Int.tdiv a b - 1 = a / b) := by
  have h1 := Int.mul_tdiv_add_tmod a b
  have h3 := Int.tmod_lt_of_pos a hb
  have h4 := Int.tmod_lt_of_pos (-a) hb
  rw [Int.neg_tmod] at h4
  by_cases h : Int.tmod a b < 0
  · refine .inr ⟨h, ?_⟩
    have e : a = (b + Int.tmod a b) + b * (Int.tdiv a b - 1) := by rw [Int.mul_sub, Int.mul_one]; omega
    conv => rhs; rw [e]
    rw [Int.add_mul_ediv_left _ _ (by omega), Int.ediv_eq_zero_of_lt (by omega) (by omega)]
    omega
  · refine .inl ⟨by omega, ?_⟩
    have e : a = Int.tmod a b + b * Int.tdiv a b := by omega
    conv => rhs; rw [e]
    rw [Int.add_mul_ediv_left _ _ (by omega), Int.ediv_eq_zero_of_lt (by omega) h3]
    omega
theorem ediv_bd {a b B : Int} (hb : 0 < b) (h0 : -B ≤ a) (h1 : a ≤ B) (hB : 0 ≤ B) : -B ≤ a / b ∧ a / b ≤ B := by
  constructor
  · rw [Int.le_ediv_iff_mul_le hb]
    have : -B * b ≤ -B * 1 := Int.mul_le_mul_of_nonpos_left (by omega) (by omega)
    omega
  · have : B ≤ B * b := by
      have : B * 1 ≤ B * b := Int.mul_le_mul_of_nonneg_left (by omega) hB
      omega
    exact Int.ediv_le_of_le_mul hb (by omega)
set_option maxHeartbeats 400000 in
theorem rFloorD_any (a b : Int) (w : World) (hb : 0 < b) (h0 : -4611686018427387904 ≤ a) (h1 : a ≤ 4611686018427387904) : Calls Tryz.prog 171 #[.int .i64 a, .int .i64 b] w fun e w' => e = .returned (.int .i64 (a / b)) ∧ w' = w := by
  have hq := ediv_bd hb h0 h1 (by omega)
  have hne : b ≠ 0 := by omega
  have hf := tdiv_facts a b hb
  generalize a / b = q at *
  rcases hf with ⟨t0, t1⟩ | ⟨t0, t1⟩
  · have d : decide (Int.tmod a b < 0) = false := decide_eq_false (by omega)
    have s2 : wrap64 (Int.tdiv a b) = Int.tdiv a b := IntWalk.wrap64_in _ (by omega)
    have T := Lib.hid t1
    clear t0 t1 hq h0 h1
    go_enter Tryz.func171, Tryz.ntmps171
    go_wp2
    go_ret
    exact ⟨ret_int (by first | exact T.out | (rw [s2]; exact T.out)), rfl⟩
  · have d : decide (Int.tmod a b < 0) = true := decide_eq_true (by omega)
    have s2 : wrap64 (Int.tdiv a b) = Int.tdiv a b := IntWalk.wrap64_in _ (by omega)
    have s1 : wrap64 (Int.tdiv a b - 1) = Int.tdiv a b - 1 := IntWalk.wrap64_in _ (by omega)
    have T := Lib.hid t1
    clear t0 t1 hq h0 h1
    go_enter Tryz.func171, Tryz.ntmps171
    go_wp2
    go_ret
    exact ⟨ret_int (by first | exact T.out | (rw [s1]; exact T.out)), rfl⟩
theorem times_val {n y low high q r : Int} (hy : 0 < y) (hn : n = high * 1048576 + low) (hq : q = 1073741824 * high / y) (hr : r = 1073741824 * high - q * y) :
    q * 1048576 + (r * 1048576 + 1073741824 * low) / y = 1073741824 * n / y := by
  have e : 1073741824 * n = (r * 1048576 + 1073741824 * low) + (q * 1048576) * y := by
    rw [hr, hn, Int.mul_assoc q 1048576 y, Int.mul_comm 1048576 y, ← Int.mul_assoc]
    omega
  rw [e, Int.add_mul_ediv_right _ _ (by omega)]
  omega
theorem split20 (n : Int) (n0 : -16777216 ≤ n) (n1 : n ≤ 16777216) : n = Int.tdiv (n - Int.tmod n 1048576) 1048576 * 1048576 + Int.tmod n 1048576 ∧ -1048576 ≤ Int.tmod n 1048576 ∧ Int.tmod n 1048576 ≤ 1048576 ∧ -32 ≤ Int.tdiv (n - Int.tmod n 1048576) 1048576 ∧ Int.tdiv (n - Int.tmod n 1048576) 1048576 ≤ 32 := by
  have h1 := Int.mul_tdiv_add_tmod n 1048576
  have h3 := Int.tmod_lt_of_pos n (show (0 : Int) < 1048576 by omega)
  have h4 := Int.tmod_lt_of_pos (-n) (show (0 : Int) < 1048576 by omega)
  rw [Int.neg_tmod] at h4
  have e : n - Int.tmod n 1048576 = 1048576 * Int.tdiv n 1048576 := by omega
  rw [e, Int.mul_tdiv_cancel_left _ (by omega)]
  omega
set_option maxHeartbeats 1000000 in
theorem times_any (n y : Int) (w : World) (n0 : -16777216 ≤ n) (n1 : n ≤ 16777216) (y0 : 0 < y) (y1 : y ≤ 2147483648) : Calls Tryz.prog 147 #[.int .i64 1073741824, .int .i64 n, .int .i64 y] w fun e w' => e = .returned (.int .i64 (1073741824 * n / y)) ∧ Below w.heap.size w w' := by
  obtain ⟨hs, l0, l1, g0, g1⟩ := split20 n n0 n1
  have hT := fun (q r : Int) (hq : q = 1073741824 * Int.tdiv (n - Int.tmod n 1048576) 1048576 / y) (hr : r = 1073741824 * Int.tdiv (n - Int.tmod n 1048576) 1048576 - q * y) => times_val y0 hs hq hr
  have sL : wrap64 (n - Int.tmod n 1048576) = n - Int.tmod n 1048576 := IntWalk.wrap64_in _ (by omega)
  obtain ⟨R, hR⟩ : ∃ R, 1073741824 * n / y = R := ⟨_, rfl⟩
  rw [hR] at hT ⊢
  clear hR hs
  generalize hL : Int.tmod n 1048576 = L at *
  generalize hH : Int.tdiv (n - L) 1048576 = H at *
  have K1 := Lib.hid (fun W => rFloorD_any (1073741824 * H) y W y0 (by omega) (by omega))
  have bq := ediv_bd (a := 1073741824 * H) (b := y) (B := 34359738368) y0 (by omega) (by omega) (by omega)
  have br0 := Int.emod_nonneg (1073741824 * H) (show y ≠ 0 by omega)
  have br1 := Int.emod_lt_of_pos (1073741824 * H) y0
  have be := Int.mul_ediv_add_emod (1073741824 * H) y
  rw [Int.mul_comm y] at be
  obtain ⟨q, hq⟩ : ∃ q, 1073741824 * H / y = q := ⟨_, rfl⟩
  rw [hq] at bq be K1
  obtain ⟨Q, hQ⟩ : ∃ Q, q * y = Q := ⟨_, rfl⟩
  rw [hQ] at be
  obtain ⟨r, hr⟩ : ∃ r, 1073741824 * H % y = r := ⟨_, rfl⟩
  rw [hr] at br0 br1 be
  have hT2 := hT q r hq.symm (by rw [hQ]; omega)
  have K2 := Lib.hid (fun W => rFloorD_any (r * 1048576 + 1073741824 * L) y W y0 (by omega) (by omega))
  have bz := ediv_bd (a := r * 1048576 + 1073741824 * L) (b := y) (B := 9007199254740992) y0 (by omega) (by omega) (by omega)
  generalize (r * 1048576 + 1073741824 * L) / y = z at *
  have s1 : wrap64 (q * y) = Q := by rw [hQ]; exact IntWalk.wrap64_in _ (by omega)
  have s2 : wrap64 (1073741824 * H - Q) = r := by rw [show 1073741824 * H - Q = r by omega]; exact IntWalk.wrap64_in _ (by omega)
  have HT := Lib.hid hT2
  have r0 := br0
  clear hT hT2 be hQ hr hq br0
  go_enter Tryz.func147, Tryz.ntmps147
  go_wp2_with fail
  (with_reducible refine (K1.out _).mono ?_)
  rintro e w1 ⟨rfl, rfl⟩
  go_wp2_with fail
  (with_reducible refine (K2.out _).mono ?_)
  rintro e w1 ⟨rfl, rfl⟩
  go_wp2
  go_ret
  exact ⟨ret_int HT.out, Below.refl _ _⟩
theorem rReaches_any (n : Int) (w : World) : Calls Tryz.prog 115 #[.int .i64 n] w fun e w' => e = .returned (.bool (rchB n)) ∧ w' = w := by
  unfold rchB
  go_enter Tryz.func115, Tryz.ntmps115
  go_wp2
  all_goals
    go_ret
    exact ⟨ret_bool (by first | rfl | (simp_all; done) | (simp_all; omega)), rfl⟩
theorem rzero_no (p q : Int) (w : World) (hp : 0 < p) : Calls Tryz.prog 116 #[.agg #[.int .i64 p, .int .i64 q]] w fun e w' => e = .returned (.bool false) ∧ Below w.heap.size w w' := by
  have d : decide (p ≤ 0) = false := decide_eq_false (by omega)
  go_enter Tryz.func116, Tryz.ntmps116
  go_wp2
  go_ret
  refine ⟨rfl, ?_⟩
  repeat (first | exact Below.refl _ _ | assumption | refine bl_drew ?_ | refine bl_drewN ?_ _ | refine Below.setCell ?_ (by first | assumption | omega | (simp; done) | (simp; omega)) _ | refine Below.alloc ?_ (by first | assumption | omega | (simp; done) | (simp; omega)) _)
/-- whether a quotient of the unit is much too great -/
def bigB (n p : Int) : Bool := decide (2 ≤ 1073741824 / p) && decide (4194304 < wab n / 1048576 * (1073741824 / p))
theorem big_no {n p q : Int} (n0 : -16777216 ≤ n) (n1 : n ≤ 16777216) (p0 : 0 < p) (pq : p ≤ q) (h : bigB n p = true) : qtG n p q = false := by
  unfold bigB at h
  rw [Bool.and_eq_true, decide_eq_true_iff, decide_eq_true_iff] at h
  obtain ⟨-, h⟩ := h
  rw [Bool.eq_false_iff]
  intro hg
  rw [qtG_iff] at hg
  have ha : 1073741824 / p * p ≤ 1073741824 := Int.ediv_mul_le _ (by omega)
  have hx := Int.ediv_mul_le (wab n) (show (1048576 : Int) ≠ 0 by omega)
  have hA : 0 ≤ wab n / 1048576 := Int.ediv_nonneg (wab_bd n) (by omega)
  have hB : 0 ≤ 1073741824 / p := Int.ediv_nonneg (by omega) (by omega)
  generalize wab n / 1048576 = A at *
  generalize 1073741824 / p = B at *
  have hm : A * B * p ≤ A * 1073741824 := by rw [Int.mul_assoc]; exact Int.mul_le_mul_of_nonneg_left ha hA
  have hk : 4194305 * p ≤ A * B * p := Int.mul_le_mul_of_nonneg_right (by omega) (by omega)
  by_cases hn : n < 0
  · rw [wab_neg hn] at hx
    have h1 := hg.1
    unfold qtA at h1
    have h2 : -1099511627776 ≤ 1073741824 * n / p := by omega
    rw [Int.le_ediv_iff_mul_le p0] at h2
    omega
  · rw [wab_pos (by omega)] at hx
    have h1 := hg.2.2.2
    unfold qtB at h1
    have h2 : -1099511627776 ≤ -(1073741824 * n) / p := by omega
    rw [Int.le_ediv_iff_mul_le p0] at h2
    omega
end Go.Proofs.YtleigbbgilcckaaGreat
