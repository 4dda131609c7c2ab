/- The walk of the reference's Part. -/
import Derived.Test.YtleigbbgilcckaaGreatHVd
import Derived.Test.YtleigbbgilcckaaGreatHJe
import Derived.Test.YtleigbbgilcckaaGreatHUk
import Derived.Test.YtleigbbgilcckaaGreatHUg
import Derived.Test.YtleigbbgilcckaaGreatHShelfT
set_option linter.unusedVariables false
set_option linter.unusedSimpArgs false
namespace Go.Proofs.YtleigbbgilcckaaGreat
open Go.RowKit
theorem fits_any (n : Int) (w : World) : Calls Tryz.prog 68 #[.int .i64 n] w fun e w' => e = .returned (.bool (rchB n)) ∧ w' = w := by
  unfold rchB
  go_enter Tryz.func68, Tryz.ntmps68
  go_wp2
  all_goals
    go_ret
    exact ⟨ret_bool (by first | rfl | (simp_all; done) | (simp_all; omega)), rfl⟩
theorem av_parts (lo hi : Int) : avB lo hi = (decide (lo ≤ hi) && rchB lo && rchB hi) := by
  unfold avB rchB
  rw [Bool.eq_iff_iff]
  simp only [Bool.and_eq_true, decide_eq_true_eq]
  omega
set_option maxHeartbeats 400000 in
theorem aValid_any (lo hi : Int) (w : World) : Calls Tryz.prog 32 #[.agg #[.int .i64 lo, .int .i64 hi]] w fun e w' => e = .returned (.bool (avB lo hi)) ∧ Below w.heap.size w w' := by
  have KL := Lib.hid (fun W => fits_any lo W)
  have KH := Lib.hid (fun W => fits_any hi W)
  rw [av_parts]
  generalize rchB lo = s at *
  generalize rchB hi = t at *
  by_cases h : lo ≤ hi
  · have d : decide (lo ≤ hi) = true := decide_eq_true h
    rw [d]
    cases s
    · go_enter Tryz.func32, Tryz.ntmps32
      go_wp2_with (go_at_call 68; (with_reducible refine (KL.out _).mono ?_); rintro e w9 ⟨rfl, rfl⟩)
      go_ret
      refine ⟨rfl, ?_⟩
      repeat (first | exact Below.refl _ _ | assumption | refine bl_drew ?_ | refine bl_drewN ?_ _ | refine Below.setCell ?_ (by first | assumption | omega | (simp; done) | (simp; omega)) _ | refine Below.alloc ?_ (by first | assumption | omega | (simp; done) | (simp; omega)) _)
    · cases t
      all_goals
        go_enter Tryz.func32, Tryz.ntmps32
        go_wp2_with (go_at_call 68; (first | (with_reducible refine (KL.out _).mono ?_) | (with_reducible refine (KH.out _).mono ?_)); rintro e w9 ⟨rfl, rfl⟩)
        go_ret
        refine ⟨rfl, ?_⟩
        repeat (first | exact Below.refl _ _ | assumption | refine bl_drew ?_ | refine bl_drewN ?_ _ | refine Below.setCell ?_ (by first | assumption | omega | (simp; done) | (simp; omega)) _ | refine Below.alloc ?_ (by first | assumption | omega | (simp; done) | (simp; omega)) _)
  · have d : decide (lo ≤ hi) = false := decide_eq_false h
    rw [d]
    go_enter Tryz.func32, Tryz.ntmps32
    go_wp2
    go_ret
    refine ⟨rfl, ?_⟩
    repeat (first | exact Below.refl _ _ | assumption | refine bl_drew ?_ | refine bl_drewN ?_ _ | refine Below.setCell ?_ (by first | assumption | omega | (simp; done) | (simp; omega)) _ | refine Below.alloc ?_ (by first | assumption | omega | (simp; done) | (simp; omega)) _)
/-- whether an arc is from -HalfTurn to HalfTurn -/
def smB (lo hi : Int) : Bool := decide (-10800000 ≤ lo ∧ lo ≤ hi ∧ hi ≤ 10800000)
theorem sm_iff {lo hi : Int} : smB lo hi = true ↔ (-10800000 ≤ lo ∧ lo ≤ hi ∧ hi ≤ 10800000) := by unfold smB; exact decide_eq_true_iff
theorem sm_av {lo hi : Int} (h : smB lo hi = true) : avB lo hi = true := by
  rw [sm_iff] at h
  rw [avB_true]
  omega
theorem sm_parts (lo hi : Int) : smB lo hi = (avB lo hi && decide (-10800000 ≤ lo) && decide (hi ≤ 10800000)) := by
  unfold avB smB
  rw [Bool.eq_iff_iff]
  simp only [Bool.and_eq_true, decide_eq_true_eq]
  omega
theorem one_D2 {w w1 : World} {a b : Int} {t : TypeId} (hb : Below (w.alloc (.cells #[.int .i64 a, .int .i64 b] t)).heap.size (w.alloc (.cells #[.int .i64 a, .int .i64 b] t)) w1) : Below w.heap.size w w1 ∧ D2 w1 w.heap.size a b :=
  ⟨one_bl hb, (D2.new w a b t).below hb (by simp)⟩
set_option maxHeartbeats 400000 in
theorem small_any (lo hi : Int) (w : World) : Calls Tryz.prog 63 #[.agg #[.int .i64 lo, .int .i64 hi]] w fun e w' => e = .returned (.bool (smB lo hi)) ∧ Below w.heap.size w w' := by
  have KV := Lib.hid (fun W => aValid_any lo hi W)
  rw [sm_parts]
  generalize avB lo hi = s at *
  cases s
  · go_enter Tryz.func63, Tryz.ntmps63
    go_wp2_with fail
    (with_reducible refine (KV.out _).mono ?_)
    rintro e w1 ⟨rfl, hb1⟩
    have hb1' := one_bl hb1
    go_wp2
    go_ret
    exact ⟨rfl, hb1'⟩
  · by_cases h : -10800000 ≤ lo
    · have d : decide (-10800000 ≤ lo) = true := decide_eq_true h
      rw [d]
      cases d2 : decide (hi ≤ 10800000)
      all_goals
        go_enter Tryz.func63, Tryz.ntmps63
        go_wp2_with fail
        (with_reducible refine (KV.out _).mono ?_)
        rintro e w1 ⟨rfl, hb1⟩
        obtain ⟨hb1', D1⟩ := one_D2 hb1
        obtain ⟨dt, d0, d1, df0, df1⟩ := D1
        clear hb1
        go_wp2
        go_ret
        exact ⟨rfl, hb1'⟩
    · have d : decide (-10800000 ≤ lo) = false := decide_eq_false h
      rw [d]
      go_enter Tryz.func63, Tryz.ntmps63
      go_wp2_with fail
      (with_reducible refine (KV.out _).mono ?_)
      rintro e w1 ⟨rfl, hb1⟩
      obtain ⟨hb1', D1⟩ := one_D2 hb1
      obtain ⟨dt, d0, d1, df0, df1⟩ := D1
      clear hb1
      go_wp2
      go_ret
      exact ⟨rfl, hb1'⟩
set_option maxHeartbeats 400000 in
theorem movement_any (a b c d : Int) (w : World) : Calls Tryz.prog 27 #[.agg #[.int .i64 a, .int .i64 b], .agg #[.int .i64 c, .int .i64 d]] w fun e w' => e = .returned (.bool (smB a b && smB c d)) ∧ Below w.heap.size w w' := by
  have KA := Lib.hid (fun W => small_any a b W)
  have KC := Lib.hid (fun W => small_any c d W)
  generalize smB a b = s at *
  generalize smB c d = t at *
  cases s
  · go_enter Tryz.func27, Tryz.ntmps27
    go_wp2_with fail
    (with_reducible refine (KA.out _).mono ?_)
    rintro e w1 ⟨rfl, hb1⟩
    have hb1' := two_bl hb1
    go_wp2
    go_ret
    exact ⟨rfl, hb1'⟩
  · go_enter Tryz.func27, Tryz.ntmps27
    go_wp2_with fail
    (with_reducible refine (KA.out _).mono ?_)
    rintro e w1 ⟨rfl, hb1⟩
    have hb1' := two_bl hb1
    have D1 : Hid (D2 w1 (w.heap.size + 1) c d) := Lib.hid (by
      have := (D2.new (w.alloc (.cells #[.int .i64 a, .int .i64 b] 26)) c d 26).below hb1 (by simp)
      simpa using this)
    obtain ⟨dt, d0, d1, df0, df1⟩ := D1.out
    clear hb1
    go_wp2_with fail
    (with_reducible refine (KC.out _).mono ?_)
    rintro e w2 ⟨rfl, hb2⟩
    go_wp2
    go_ret
    exact ⟨by simp, hb1'.trans (hb2.mono hb1'.size)⟩
set_option maxHeartbeats 400000 in
theorem latitude_yes (lo hi : Int) (w : World) (h0 : -5400000 ≤ lo) (h1 : lo ≤ hi) (h2 : hi ≤ 5400000) : Calls Tryz.prog 31 #[.agg #[.int .i64 lo, .int .i64 hi]] w fun e w' => e = .returned (.bool true) ∧ Below w.heap.size w w' := by
  have KV := Lib.hid (fun W => aValid_any lo hi W)
  have hv : avB lo hi = true := by rw [avB_true]; omega
  rw [hv] at KV
  have d2 : decide (hi ≤ 5400000) = true := decide_eq_true h2
  clear hv
  go_enter Tryz.func31, Tryz.ntmps31
  go_wp2_with fail
  (with_reducible refine (KV.out _).mono ?_)
  rintro e w1 ⟨rfl, hb1⟩
  obtain ⟨hb1', D1⟩ := one_D2 hb1
  obtain ⟨dt, d0, d1, df0, df1⟩ := D1
  clear hb1
  go_wp2
  all_goals
    go_ret
    exact ⟨ret_bool (by first | rfl | (simp_all; done) | (simp_all; omega)), hb1'⟩
/-- a number as a longitude -/
def sgT (n : Int) : Int := if 10800000 ≤ n % 21600000 then n % 21600000 - 21600000 else n % 21600000
theorem sgT_bd (n : Int) : -10800000 ≤ sgT n ∧ sgT n < 10800000 := by unfold sgT; omega
set_option maxHeartbeats 400000 in
theorem Wrap_far (n : Int) (w : World) : Calls Tryz.prog 130 #[.int .i64 n] w fun e w' => e = .returned (.int .i64 (n % 21600000)) ∧ Below w.heap.size w w' := by
  go_enter Tryz.func130, Tryz.ntmps130
  go_wp2
  all_goals
    go_ret
    refine ⟨ret_int ?_, ?_⟩
    · first | (exact tmod_pos (by assumption)) | (rw [IntWalk.wrap64_in _ (by have := tmod_neg (n := n) (by assumption); omega)]; exact tmod_neg (by assumption))
    · repeat (first | exact Below.refl _ _ | assumption | refine bl_drew ?_ | refine bl_drewN ?_ _ | refine Below.setCell ?_ (by first | assumption | omega | (simp; done) | (simp; omega)) _ | refine Below.alloc ?_ (by first | assumption | omega | (simp; done) | (simp; omega)) _)
set_option maxHeartbeats 400000 in
theorem Signed_any (n : Int) (w : World) : Calls Tryz.prog 100 #[.int .i64 n] w fun e w' => e = .returned (.int .i64 (sgT n)) ∧ Below w.heap.size w w' := by
  have K := Lib.hid (fun W => Wrap_far n W)
  have hm : 0 ≤ n % 21600000 ∧ n % 21600000 < 21600000 := by omega
  unfold sgT
  generalize n % 21600000 = m at *
  by_cases h : 10800000 ≤ m
  all_goals
    first | rw [if_pos h] | rw [if_neg h]
    go_enter Tryz.func100, Tryz.ntmps100
    go_wp2_with fail
    (with_reducible refine (K.out _).mono ?_)
    rintro e w1 ⟨rfl, hb1⟩
    go_wp2
    go_ret
    exact ⟨rfl, hb1⟩
/-- an arc as longitudes -/
def lonA (lo hi : Int) : Int := if 21600000 ≤ hi - lo then -10800000 else sgT lo
def lonB (lo hi : Int) : Int := if 21600000 ≤ hi - lo then 10800000 else sgT lo + (hi - lo)
set_option maxHeartbeats 1000000 in
theorem longitudes_any (lo hi : Int) (w : World) (h0 : -10000000000000 ≤ lo) (h1 : lo ≤ 10000000000000) (h2 : -10000000000000 ≤ hi) (h3 : hi ≤ 10000000000000) : Calls Tryz.prog 64 #[.agg #[.int .i64 lo, .int .i64 hi]] w fun e w' => e = .returned (.agg #[.int .i64 (lonA lo hi), .int .i64 (lonB lo hi)]) ∧ Below w.heap.size w w' := by
  have K := Lib.hid (fun W => Signed_any lo W)
  have hs := sgT_bd lo
  unfold lonA lonB
  generalize sgT lo = s at *
  by_cases h : 21600000 ≤ hi - lo
  · rw [if_pos h, if_pos h]
    go_enter Tryz.func64, Tryz.ntmps64
    go_wp2
    refine bodyPost_ret (v := .agg #[.int .i64 (-10800000), .int .i64 10800000]) (by simp [results, Tryz.results64, go_sem]; done) rfl ⟨rfl, ?_⟩
    repeat (first | exact Below.refl _ _ | assumption | refine bl_drew ?_ | refine bl_drewN ?_ _ | refine Below.setCell ?_ (by first | assumption | omega | (simp; done) | (simp; omega)) _ | refine Below.alloc ?_ (by first | assumption | omega | (simp; done) | (simp; omega)) _)
  · rw [if_neg h, if_neg h]
    go_enter Tryz.func64, Tryz.ntmps64
    go_wp2_with fail
    (with_reducible refine (K.out _).mono ?_)
    rintro e w1 ⟨rfl, hb1⟩
    have hb1' := two_bl hb1
    have R1 : Hid (D2 w1 (w.heap.size + 1) 0 0) := Lib.hid (by
      have := (D2.new (w.alloc (.cells #[.int .i64 lo, .int .i64 hi] 26)) 0 0 26).below hb1 (by simp)
      simpa using this)
    obtain ⟨rt, r0, r1, rf0, rf1⟩ := R1.out
    clear hb1
    go_wp2
    refine bodyPost_ret (v := .agg #[.int .i64 s, .int .i64 (s + (hi - lo))]) (by simp [results, Tryz.results64, go_sem, *]; done) rfl ⟨rfl, ?_⟩
    exact (hb1'.setCell (by simp) _).setCell (by simp) _
end Go.Proofs.YtleigbbgilcckaaGreat
namespace Go.Proofs.YtleigbbgilcckaaGreat.Trig
theorem upF_le {q : Int} (h0 : 0 ≤ q) (h1 : q ≤ 5400000) : upF q ≤ 1073741824 := by
  unfold upF
  split
  · exact (sF_bd h0 h1).2
  · rename_i hx
    have hq : qrt q = q := by unfold qrt; omega
    have hr : rEx q = false := by rw [ex_same, hq]; simpa using hx
    obtain ⟨hf, hv, -⟩ := quick_far q hr
    have hs : sth q = false := by unfold sth; rw [decide_eq_false_iff_not]; omega
    have hl : loB q = sF q := by unfold loB; rw [hs, hq]; simp
    have hrq : ¬ rq q ≥ 2 := by unfold rq; omega
    have hqv : qv q = (quickN (rr q).toNat (rc q) : Int) := by unfold qv; rw [if_neg hrq]
    have hrr : (rr q).toNat ≤ 2700000 := by unfold rr; omega
    have hle := quickN_le hrr (rc q)
    rw [hl, hqv] at hv
    generalize quickN (rr q).toNat (rc q) = Q at *
    have hne : Q ≠ 4611686018427387904 := by
      intro e
      rw [e] at hf
      revert hf
      decide
    omega
theorem hi_le (n : Int) : -1073741824 ≤ loB n ∧ loB n ≤ 1073741824 ∧ -1073741824 ≤ hiB n ∧ hiB n ≤ 1073741824 ∧ loB n ≤ hiB n := by
  have hq := qrt_bd n
  have hs := sF_bd hq.1 hq.2
  have hu := upF_le hq.1 hq.2
  have hw : sF (qrt n) ≤ upF (qrt n) := by unfold upF; split <;> omega
  unfold loB hiB
  split <;> omega
end Go.Proofs.YtleigbbgilcckaaGreat.Trig
namespace Go.Proofs.YtleigbbgilcckaaGreat
open Go.RowKit
theorem qt_le (n : Int) {p q : Int} (hp : 0 < p) : qtA n p q ≤ qtB n p q := by
  unfold qtA qtB
  generalize 1073741824 * n = m
  have h1 := Int.ediv_mul_le m (show p ≠ 0 by omega)
  have h2 := Int.ediv_mul_le (-m) (show p ≠ 0 by omega)
  have h3 : m / p ≤ -(-m / p) := by
    have h4 : (m / p + -m / p) * p ≤ 0 := by rw [Int.add_mul]; omega
    have h5 : m / p + -m / p ≤ 0 := by
      refine Int.not_lt.1 fun h => ?_
      have := Int.mul_pos h hp
      omega
    omega
  generalize m / p = x at *
  generalize -m / p = y at *
  generalize m / q = z at *
  generalize -m / q = u at *
  omega
def dlG (a b p q : Int) : Bool := qtG a p q && qtG b p q
def dlA (a b p q : Int) : Int := min (qtA a p q) (qtA b p q)
def dlB (a b p q : Int) : Int := max (qtB a p q) (qtB b p q)
def dlV (a b p q : Int) : Value := if dlG a b p q = true then .tuple #[.agg #[.int .i64 (dlA a b p q), .int .i64 (dlB a b p q)], .int .i64 0] else .tuple #[.agg #[.int .i64 0, .int .i64 0], .int .i64 5]
theorem rch_iff {n : Int} : rchB n = true ↔ (-1099511627776 ≤ n ∧ n ≤ 1099511627776) := by unfold rchB; exact decide_eq_true_iff
theorem qtG_iff {n p q : Int} : qtG n p q = true ↔ (-1099511627776 ≤ qtA n p q ∧ qtA n p q ≤ 1099511627776 ∧ -1099511627776 ≤ qtB n p q ∧ qtB n p q ≤ 1099511627776) := by
  unfold qtG
  rw [Bool.and_eq_true, rch_iff, rch_iff]
  omega
theorem dl_av {a b p q : Int} (hp : 0 < p) (ha : qtG a p q = true) (hb : qtG b p q = true) : avB (min (qtA a p q) (qtA b p q)) (max (qtB a p q) (qtB b p q)) = true := by
  rw [qtG_iff] at ha hb
  have h1 := qt_le a (q := q) hp
  rw [avB_true]
  omega
set_option maxHeartbeats 1000000 in
theorem Dlon1_any (n p q : Int) (g8 g6 : Nat) (w : World) (h8 : D2 w g8 1073741824 1073741824) (h6 : D2 w g6 p q) (n0 : -16777216 ≤ n) (n1 : n ≤ 16777216) (p0 : 0 < p) (pq : p ≤ q) (q1 : q ≤ 1073741824) :
    Calls Tryz.prog 35 #[.int .i64 n, .pointer (some ⟨g8, 0, none⟩), .pointer (some ⟨g6, 0, none⟩)] w fun e w' => e = .returned (qtV n p q) ∧ Below w.heap.size w w' := by
  have K := Lib.hid (fun W => Quotient_any n p q W n0 n1 p0 pq q1)
  obtain ⟨at1, a0, a1, af0, af1⟩ := h8
  obtain ⟨bt1, b0, b1, bf0, bf1⟩ := h6
  clear n0 n1 p0 pq q1
  unfold qtV at *
  generalize qtG n p q = s at *
  generalize qtA n p q = A at *
  generalize qtB n p q = B at *
  cases s
  all_goals
    simp only [Bool.false_eq_true, if_false, if_true] at *
    go_enter Tryz.func35, Tryz.ntmps35
    go_wp2_with fail
    (with_reducible refine (K.out _).mono ?_)
    rintro e w1 ⟨rfl, hb1⟩
    go_wp2
    go_ret3
    exact ⟨rfl, hb1⟩
def oA (x y : Int) : Nat → Int
  | 0 => 0
  | 1 => x
  | _ => min x y
def oB (x y : Int) : Nat → Int
  | 0 => 0
  | 1 => x
  | _ => max x y
set_option maxHeartbeats 4000000 in
set_option maxRecDepth 100000 in
theorem both_dlon (a b p q : Int) (g8 g6 : Nat) (w : World) (h8 : D2 w g8 1073741824 1073741824) (h6 : D2 w g6 p q) (a0 : -16777216 ≤ a) (a1 : a ≤ 16777216) (b0 : -16777216 ≤ b) (b1 : b ≤ 16777216) (p0 : 0 < p) (pq : p ≤ q) (q1 : q ≤ 1073741824) :
    Calls Tryz.prog 34 #[.agg #[.int .i64 a, .int .i64 b], .func (.func 35) #[] #[.pointer (some ⟨g8, 0, none⟩), .pointer (some ⟨g6, 0, none⟩)]] w fun e w' => e = .returned (dlV a b p q) ∧ Below w.heap.size w w' := by
  have KA := Lib.hid (fun W (hW : Below w.heap.size w W) => Dlon1_any a p q g8 g6 W (h8.below hW h8.lt) (h6.below hW h6.lt) a0 a1 p0 pq q1)
  have KB := Lib.hid (fun W (hW : Below w.heap.size w W) => Dlon1_any b p q g8 g6 W (h8.below hW h8.lt) (h6.below hW h6.lt) b0 b1 p0 pq q1)
  have KV := Lib.hid (fun W => aValid_any (min (qtA a p q) (qtA b p q)) (max (qtB a p q) (qtB b p q)) W)
  have hv := Lib.hid (fun h1 h2 => dl_av (a := a) (b := b) (p := p) (q := q) p0 h1 h2)
  clear h8 h6 a0 a1 b0 b1 p0 pq q1
  have i0 : ∀ w, (Instr.index 99 (.agg #[.int .i64 a, .int .i64 b]) (.int .i64 0)).run Tryz.prog w = .ok (.int .i64 a) w := fun _ => by kernel_rfl
  have i1 : ∀ w, (Instr.index 99 (.agg #[.int .i64 a, .int .i64 b]) (.int .i64 1)).run Tryz.prog w = .ok (.int .i64 b) w := fun _ => by kernel_rfl
  unfold dlV dlG dlA dlB
  unfold qtV at *
  generalize qtG a p q = s at *
  generalize qtG b p q = t at *
  generalize qtA a p q = A at *
  generalize qtB a p q = B at *
  generalize qtA b p q = A' at *
  generalize qtB b p q = B' at *
  cases s with
  | false =>
    simp only [Bool.false_and, Bool.false_eq_true, if_false] at *
    go_enter Tryz.func34, Tryz.ntmps34
    go_wp2_with fail
    go_loopw [17] (fun s17 wr => s17 = .int .i64 0 ∧ D2 wr (w.heap.size + 1) 0 0 ∧ Below w.heap.size w wr) (fun _ _ => 1)
    case atStart =>
      refine ⟨rfl, ?_, by repeat (first | exact Below.refl _ _ | assumption | refine bl_drew ?_ | refine bl_drewN ?_ _ | refine Below.setCell ?_ (by first | assumption | omega | (simp; done) | (simp; omega)) _ | refine Below.alloc ?_ (by first | assumption | omega | (simp; done) | (simp; omega)) _)⟩
      have := ((D2.new (w.alloc (.cells #[.int .i64 a, .int .i64 b] 26)) 0 0 26).alloc (.cells #[.int .i64 0, .int .i64 0] 26))
      simpa using this
    case round =>
      obtain ⟨rfl, hR, hbr⟩ := hrel
      go_wp2_with fail
      (with_reducible refine (KA.out _ hbr).mono ?_)
      rintro e w1 ⟨rfl, hb1⟩
      have R1 := hR.below hb1 hR.lt
      have hbl1 := hbr.trans (hb1.mono hbr.size)
      obtain ⟨rt, r0, r1, rf0, rf1⟩ := R1
      clear hb1 hR
      go_wp2
      refine bodyPost_ret (v := .tuple #[.agg #[.int .i64 0, .int .i64 0], .int .i64 5]) (by simp [results, Tryz.results34, go_sem, *]; done) rfl ⟨rfl, ?_⟩
      exact (hbl1.setCell (by simp) _).setCell (by simp) _
  | true =>
    cases t with
    | false =>
      simp only [Bool.and_false, Bool.false_eq_true, if_false, if_true] at *
      go_enter Tryz.func34, Tryz.ntmps34
      go_wp2_with fail
      go_loopw [17] (fun s17 wr => ∃ k : Nat, k ≤ 1 ∧ s17 = .int .i64 k ∧ D2 wr (w.heap.size + 1) 0 0 ∧ D2 wr (w.heap.size + 1 + 1) (oA A A' k) (oB B B' k) ∧ Below w.heap.size w wr) (fun s17 _ => 2 - (intOf s17).toNat)
      case atStart =>
        refine ⟨0, by omega, rfl, ?_, ?_, by repeat (first | exact Below.refl _ _ | assumption | refine bl_drew ?_ | refine bl_drewN ?_ _ | refine Below.setCell ?_ (by first | assumption | omega | (simp; done) | (simp; omega)) _ | refine Below.alloc ?_ (by first | assumption | omega | (simp; done) | (simp; omega)) _)⟩
        · have := ((D2.new (w.alloc (.cells #[.int .i64 a, .int .i64 b] 26)) 0 0 26).alloc (.cells #[.int .i64 0, .int .i64 0] 26))
          simpa using this
        · have := (D2.new ((w.alloc (.cells #[.int .i64 a, .int .i64 b] 26)).alloc (.cells #[.int .i64 0, .int .i64 0] 26)) 0 0 26)
          simpa [oA, oB] using this
      case round =>
        obtain ⟨k, hk, rfl, hR, hO, hbr⟩ := hrel
        have hcase : k = 0 ∨ k = 1 := by omega
        clear hk
        rcases hcase with rfl | rfl
        · go_wp2_with fail
          (with_reducible refine (KA.out _ hbr).mono ?_)
          rintro e w1 ⟨rfl, hb1⟩
          have R1 := Lib.hid (hR.below hb1 hR.lt)
          have O1 := Lib.hid (hO.below hb1 hO.lt)
          have hbl1 := hbr.trans (hb1.mono hbr.size)
          clear hb1 hR hO
          obtain ⟨rt, r0, r1, rf0, rf1⟩ := O1.out
          go_wp2
          go_roundw
          case rel =>
            refine ⟨1, by omega, by go_num, ?_, ?_, ?_⟩
            · exact (((R1.out.far (by simp) _).far (by simp) _).far (by simp) _).far (by simp) _
            · have := (((O1.out.set0 A).set1 B).set0 A).set1 B
              simpa [oA, oB] using this
            · exact (((hbl1.setCell (by simp; omega) _).setCell (by simp; omega) _).setCell (by simp; omega) _).setCell (by simp; omega) _
          case measure => simp [intOf]
        · go_wp2_with fail
          (with_reducible refine (KB.out _ hbr).mono ?_)
          rintro e w1 ⟨rfl, hb1⟩
          have R1 := hR.below hb1 hR.lt
          have hbl1 := hbr.trans (hb1.mono hbr.size)
          clear hb1 hR hO
          obtain ⟨rt, r0, r1, rf0, rf1⟩ := R1
          go_wp2
          refine bodyPost_ret (v := .tuple #[.agg #[.int .i64 0, .int .i64 0], .int .i64 5]) (by simp [results, Tryz.results34, go_sem, *]; done) rfl ⟨rfl, ?_⟩
          exact (hbl1.setCell (by simp) _).setCell (by simp) _
    | true =>
      have hvv := hv.out rfl rfl
      rw [hvv] at KV
      clear hv hvv
      simp only [Bool.and_self, if_true] at *
      go_enter Tryz.func34, Tryz.ntmps34
      go_wp2_with fail
      go_loopw [17] (fun s17 wr => ∃ k : Nat, k ≤ 2 ∧ s17 = .int .i64 k ∧ D2 wr (w.heap.size + 1) 0 0 ∧ D2 wr (w.heap.size + 1 + 1) (oA A A' k) (oB B B' k) ∧ Below w.heap.size w wr) (fun s17 _ => 3 - (intOf s17).toNat)
      case atStart =>
        refine ⟨0, by omega, rfl, ?_, ?_, by repeat (first | exact Below.refl _ _ | assumption | refine bl_drew ?_ | refine bl_drewN ?_ _ | refine Below.setCell ?_ (by first | assumption | omega | (simp; done) | (simp; omega)) _ | refine Below.alloc ?_ (by first | assumption | omega | (simp; done) | (simp; omega)) _)⟩
        · have := ((D2.new (w.alloc (.cells #[.int .i64 a, .int .i64 b] 26)) 0 0 26).alloc (.cells #[.int .i64 0, .int .i64 0] 26))
          simpa using this
        · have := (D2.new ((w.alloc (.cells #[.int .i64 a, .int .i64 b] 26)).alloc (.cells #[.int .i64 0, .int .i64 0] 26)) 0 0 26)
          simpa [oA, oB] using this
      case round =>
        obtain ⟨k, hk, rfl, hR, hO, hbr⟩ := hrel
        have hcase : k = 0 ∨ k = 1 ∨ k = 2 := by omega
        clear hk
        rcases hcase with rfl | rfl | rfl
        · go_wp2_with fail
          (with_reducible refine (KA.out _ hbr).mono ?_)
          rintro e w1 ⟨rfl, hb1⟩
          have R1 := Lib.hid (hR.below hb1 hR.lt)
          have O1 := Lib.hid (hO.below hb1 hO.lt)
          have hbl1 := hbr.trans (hb1.mono hbr.size)
          clear hb1 hR hO
          obtain ⟨rt, r0, r1, rf0, rf1⟩ := O1.out
          go_wp2
          go_roundw
          case rel =>
            refine ⟨1, by omega, by go_num, ?_, ?_, ?_⟩
            · exact (((R1.out.far (by simp) _).far (by simp) _).far (by simp) _).far (by simp) _
            · have := (((O1.out.set0 A).set1 B).set0 A).set1 B
              simpa [oA, oB] using this
            · exact (((hbl1.setCell (by simp; omega) _).setCell (by simp; omega) _).setCell (by simp; omega) _).setCell (by simp; omega) _
          case measure => simp [intOf]
        · go_wp2_with fail
          (with_reducible refine (KB.out _ hbr).mono ?_)
          rintro e w1 ⟨rfl, hb1⟩
          have R1 := Lib.hid (hR.below hb1 hR.lt)
          have O1 : Hid (D2 w1 (w.heap.size + 1 + 1) A B) := Lib.hid (hO.below hb1 hO.lt)
          have hbl1 := hbr.trans (hb1.mono hbr.size)
          clear hb1 hR hO
          obtain ⟨rt, r0, r1, rf0, rf1⟩ := O1.out
          go_wp2
          go_roundw
          case rel =>
            refine ⟨2, by omega, by go_num, ?_, ?_, ?_⟩
            · exact (R1.out.far (by simp) _).far (by simp) _
            · have := (O1.out.set0 (min A A')).set1 (max B B')
              simpa [oA, oB] using this
            · exact (hbl1.setCell (by simp; omega) _).setCell (by simp; omega) _
          case measure => simp [intOf]
        · have O1 : D2 wr (w.heap.size + 1 + 1) (min A A') (max B B') := hO
          have R1 := Lib.hid hR
          have O1' := Lib.hid O1
          clear hR hO
          obtain ⟨rt, r0, r1, rf0, rf1⟩ := O1
          go_wp2_with fail
          (with_reducible refine (KV.out _).mono ?_)
          rintro e w1 ⟨rfl, hb1⟩
          have R2 := R1.out.below hb1 R1.out.lt
          have O2 := O1'.out.below hb1 O1'.out.lt
          have hbl1 := hbr.trans (hb1.mono hbr.size)
          clear hb1 rt r0 r1 rf0 rf1 R1 O1'
          obtain ⟨rt, r0, r1, rf0, rf1⟩ := R2
          obtain ⟨ot, o0, o1, of0, of1⟩ := O2
          go_wp2
          refine bodyPost_ret (v := .tuple #[.agg #[.int .i64 (min A A'), .int .i64 (max B B')], .int .i64 0]) (by simp [results, Tryz.results34, go_sem, *]; done) rfl ⟨rfl, ?_⟩
          exact (hbl1.setCell (by simp) _).setCell (by simp) _
end Go.Proofs.YtleigbbgilcckaaGreat
namespace Go.Proofs.YtleigbbgilcckaaGreat
open Go.RowKit
theorem min_e (x y : Int) : (if y < x then y else x) = min x y := by rw [Int.min_def]; split <;> split <;> omega
theorem max_e (x y : Int) : (if y > x then y else x) = max x y := by rw [Int.max_def]; split <;> split <;> omega
end Go.Proofs.YtleigbbgilcckaaGreat
namespace Go.Proofs.YtleigbbgilcckaaGreat
open Go.RowKit
set_option maxHeartbeats 1000000 in
theorem rLeast_any (a b : Int) (w : World) : Calls Tryz.prog 120 #[.int .i64 a, .int .i64 b] w fun e w' => e = .returned (.int .i64 (min a b)) ∧ w' = w := by
  rw [← min_e]
  go_enter Tryz.func120, Tryz.ntmps120
  go_wp2
  all_goals
    go_ret
    refine ⟨ret_int (by simp_all), rfl⟩
set_option maxHeartbeats 1000000 in
theorem rMost_any (a b : Int) (w : World) : Calls Tryz.prog 121 #[.int .i64 a, .int .i64 b] w fun e w' => e = .returned (.int .i64 (max a b)) ∧ w' = w := by
  rw [← max_e]
  go_enter Tryz.func121, Tryz.ntmps121
  go_wp2
  all_goals
    go_ret
    refine ⟨ret_int (by simp_all), rfl⟩
end Go.Proofs.YtleigbbgilcckaaGreat
namespace Go.Proofs.YtleigbbgilcckaaGreat
open Go.RowKit
/-- the state of the division, bit by bit -/
def MI (n d : Int) (k : Nat) (m r : Int) : Prop := n * 2 ^ k = m * d + r ∧ 0 ≤ r ∧ r < d ∧ 0 ≤ m ∧ m + 1 ≤ 2 * 2 ^ k
theorem MI.up {n d m r : Int} {k : Nat} (h : MI n d k m r) (g : d ≤ 2 * r) : MI n d (k + 1) (2 * m + 1) (2 * r - d) := by
  obtain ⟨h1, h2, h3, h4, h5⟩ := h
  have e : n * 2 ^ (k + 1) = (n * 2 ^ k) * 2 := by rw [Int.pow_succ, Int.mul_assoc]
  have e2 : (2 : Int) ^ (k + 1) = 2 ^ k * 2 := Int.pow_succ _ _
  have e3 : (2 * m + 1) * d = (m * d) * 2 + d := by rw [Int.add_mul, Int.mul_assoc, Int.one_mul, Int.mul_comm 2]
  refine ⟨?_, by omega, by omega, by omega, by omega⟩
  rw [e, h1, e3]; omega
theorem MI.no {n d m r : Int} {k : Nat} (h : MI n d k m r) (g : 2 * r < d) : MI n d (k + 1) (2 * m) (2 * r) := by
  obtain ⟨h1, h2, h3, h4, h5⟩ := h
  have e : n * 2 ^ (k + 1) = (n * 2 ^ k) * 2 := by rw [Int.pow_succ, Int.mul_assoc]
  have e2 : (2 : Int) ^ (k + 1) = 2 ^ k * 2 := Int.pow_succ _ _
  have e3 : (2 * m) * d = (m * d) * 2 := by rw [Int.mul_assoc, Int.mul_comm 2]
  refine ⟨?_, by omega, by omega, by omega, by omega⟩
  rw [e, h1, e3]; omega
theorem MI.zero {n d : Int} (h0 : 0 ≤ n) (h1 : n ≤ d) (d0 : 0 < d) : MI n d 0 (n / d) (n % d) := by
  have h := Int.mul_ediv_add_emod n d
  have h2 : n / d ≤ 1 := Int.ediv_le_of_le_mul d0 (by omega)
  refine ⟨?_, Int.emod_nonneg _ (by omega), Int.emod_lt_of_pos _ d0, Int.ediv_nonneg h0 (by omega), by simp; omega⟩
  rw [Int.mul_comm (n / d) d, h]; simp
end Go.Proofs.YtleigbbgilcckaaGreat
namespace Go.Proofs.YtleigbbgilcckaaGreat
open Go.RowKit
/-- four cells that are known -/
structure D4 (W : World) (g : Nat) (a b c d : Int) : Prop where
  lt : g < W.heap.size
  c0 : W.cell? ⟨g, 0, none⟩ = some (.int .i64 a)
  c1 : W.cell? ⟨g, 1, none⟩ = some (.int .i64 b)
  c2 : W.cell? ⟨g, 2, none⟩ = some (.int .i64 c)
  c3 : W.cell? ⟨g, 3, none⟩ = some (.int .i64 d)
  f0 : W.frozen? ⟨g, 0, none⟩ = false
  f1 : W.frozen? ⟨g, 1, none⟩ = false
  f2 : W.frozen? ⟨g, 2, none⟩ = false
  f3 : W.frozen? ⟨g, 3, none⟩ = false
section
variable {W W' : World} {g : Nat} {a b c d : Int}
theorem D4.below {B : Nat} (h : D4 W g a b c d) (hb : Below B W W') (hB : g < B) : D4 W' g a b c d :=
  ⟨Nat.lt_of_lt_of_le h.lt hb.size, (hb.cell (p := ⟨g, 0, none⟩) hB).trans h.c0, (hb.cell (p := ⟨g, 1, none⟩) hB).trans h.c1, (hb.cell (p := ⟨g, 2, none⟩) hB).trans h.c2, (hb.cell (p := ⟨g, 3, none⟩) hB).trans h.c3,
   (hb.frozen (p := ⟨g, 0, none⟩) hB).trans h.f0, (hb.frozen (p := ⟨g, 1, none⟩) hB).trans h.f1, (hb.frozen (p := ⟨g, 2, none⟩) hB).trans h.f2, (hb.frozen (p := ⟨g, 3, none⟩) hB).trans h.f3⟩
theorem D4.alloc (h : D4 W g a b c d) (o : Obj) : D4 (W.alloc o) g a b c d := h.below (bl_alloc W o) h.lt
theorem D4.new (W : World) (a b c d : Int) (t : TypeId) : D4 (W.alloc (.cells #[.int .i64 a, .int .i64 b, .int .i64 c, .int .i64 d] t)) W.heap.size a b c d := ⟨by simp, by simp, by simp, by simp, by simp, by simp, by simp, by simp, by simp⟩
end
end Go.Proofs.YtleigbbgilcckaaGreat
namespace Go.Proofs.YtleigbbgilcckaaGreat
open Go.RowKit
theorem D2.drew {W : World} {g : Nat} {a b : Int} (h : D2 W g a b) : D2 W.drew g a b := ⟨h.lt, h.c0, h.c1, h.f0, h.f1⟩
theorem D4.far {W : World} {g : Nat} {a b c d : Int} (h : D4 W g a b c d) {p : Addr} (hp : g ≠ p.block) (u : Value) : D4 (W.setCell p u) g a b c d := by
  have hne : ∀ i, p ≠ (⟨g, i, none⟩ : Addr) := fun i e => hp (by rw [e])
  refine ⟨by simpa using h.lt, ?_, ?_, ?_, ?_, by simpa using h.f0, by simpa using h.f1, by simpa using h.f2, by simpa using h.f3⟩
  · rw [World.cell?_setCell_other _ _ _ _ (hne 0)]; exact h.c0
  · rw [World.cell?_setCell_other _ _ _ _ (hne 1)]; exact h.c1
  · rw [World.cell?_setCell_other _ _ _ _ (hne 2)]; exact h.c2
  · rw [World.cell?_setCell_other _ _ _ _ (hne 3)]; exact h.c3
end Go.Proofs.YtleigbbgilcckaaGreat
