/- Plain: the enclosure of the sine over an arc of the upper half, and over a part of it. No program in sight. -/
import Derived.Deep.RegionLaw
import Derived.Test.YtbpnacacnncopaaGreatDoorHVa
import Derived.Test.YtbpnacacnncopaaGreatDoorHUh
set_option linter.unusedVariables false
set_option linter.unusedSimpArgs false
namespace Go.Proofs.YtbpnacacnncopaaGreatDoor
open Go.RowKit
theorem ret_bool {a b : Bool} (h : a = b) : Ending.returned (.bool a) = .returned (.bool b) := by rw [h]
/-- whether a number may be the end of a range -/
def rchB (n : Int) : Bool := decide (-1099511627776 ≤ n ∧ n ≤ 1099511627776)
theorem factor_any (n : Int) (w : World) : Calls Tryz.prog 222 #[.int .i64 n] w fun e w' => e = .returned (.bool (rchB n)) ∧ w' = w := by
  unfold rchB
  go_enter Tryz.func222, Tryz.ntmps222
  go_wp2
  all_goals
    go_ret
    exact ⟨ret_bool (by first | rfl | (simp_all; done) | (simp_all; omega)), rfl⟩
theorem fzero_no (p q : Int) (w : World) (hp : 0 < p) : Calls Tryz.prog 236 #[.agg #[.int .i64 p, .int .i64 q]] w fun e w' => e = .returned (.bool false) ∧ Below w.heap.size w w' := by
  have d : decide (p ≤ 0) = false := decide_eq_false (by omega)
  go_enter Tryz.func236, Tryz.ntmps236
  go_wp2
  go_ret
  refine ⟨rfl, ?_⟩
  repeat (first | exact Below.refl _ _ | assumption | refine bl_drew ?_ | refine bl_drewN ?_ _ | refine Below.setCell ?_ (by first | assumption | omega | (simp; done) | (simp; omega)) _ | refine Below.alloc ?_ (by first | assumption | omega | (simp; done) | (simp; omega)) _)
/-- eight cells that are known: the pairs of ends -/
structure Q8 (W : World) (g : Nat) (p q : Int) : Prop where
  lt : g < W.heap.size
  c0 : W.cell? ⟨g, 0, none⟩ = some (.int .i64 1073741824)
  c1 : W.cell? ⟨g, 1, none⟩ = some (.int .i64 p)
  c2 : W.cell? ⟨g, 2, none⟩ = some (.int .i64 1073741824)
  c3 : W.cell? ⟨g, 3, none⟩ = some (.int .i64 q)
  c4 : W.cell? ⟨g, 4, none⟩ = some (.int .i64 1073741824)
  c5 : W.cell? ⟨g, 5, none⟩ = some (.int .i64 p)
  c6 : W.cell? ⟨g, 6, none⟩ = some (.int .i64 1073741824)
  c7 : W.cell? ⟨g, 7, none⟩ = some (.int .i64 q)
theorem fits_any (n : Int) (w : World) : Calls Tryz.prog 67 #[.int .i64 n] w fun e w' => e = .returned (.bool (rchB n)) ∧ w' = w := by
  unfold rchB
  go_enter Tryz.func67, Tryz.ntmps67
  go_wp2
  all_goals
    go_ret
    exact ⟨ret_bool (by first | rfl | (simp_all; done) | (simp_all; omega)), rfl⟩
theorem av_parts (lo hi : Int) : avB lo hi = (decide (lo ≤ hi) && rchB lo && rchB hi) := by
  unfold avB rchB
  rw [Bool.eq_iff_iff]
  simp only [Bool.and_eq_true, decide_eq_true_eq]
  omega
set_option maxHeartbeats 400000 in
theorem aValid_any (lo hi : Int) (w : World) : Calls Tryz.prog 60 #[.agg #[.int .i64 lo, .int .i64 hi]] w fun e w' => e = .returned (.bool (avB lo hi)) ∧ Below w.heap.size w w' := by
  have KL := Lib.hid (fun W => fits_any lo W)
  have KH := Lib.hid (fun W => fits_any hi W)
  rw [av_parts]
  generalize rchB lo = s at *
  generalize rchB hi = t at *
  by_cases h : lo ≤ hi
  · have d : decide (lo ≤ hi) = true := decide_eq_true h
    rw [d]
    cases s
    · go_enter Tryz.func60, Tryz.ntmps60
      go_wp2_with (go_at_call 67; (with_reducible refine (KL.out _).mono ?_); rintro e w9 ⟨rfl, rfl⟩)
      go_ret
      refine ⟨rfl, ?_⟩
      repeat (first | exact Below.refl _ _ | assumption | refine bl_drew ?_ | refine bl_drewN ?_ _ | refine Below.setCell ?_ (by first | assumption | omega | (simp; done) | (simp; omega)) _ | refine Below.alloc ?_ (by first | assumption | omega | (simp; done) | (simp; omega)) _)
    · cases t
      all_goals
        go_enter Tryz.func60, Tryz.ntmps60
        go_wp2_with (go_at_call 67; (first | (with_reducible refine (KL.out _).mono ?_) | (with_reducible refine (KH.out _).mono ?_)); rintro e w9 ⟨rfl, rfl⟩)
        go_ret
        refine ⟨rfl, ?_⟩
        repeat (first | exact Below.refl _ _ | assumption | refine bl_drew ?_ | refine bl_drewN ?_ _ | refine Below.setCell ?_ (by first | assumption | omega | (simp; done) | (simp; omega)) _ | refine Below.alloc ?_ (by first | assumption | omega | (simp; done) | (simp; omega)) _)
  · have d : decide (lo ≤ hi) = false := decide_eq_false h
    rw [d]
    go_enter Tryz.func60, Tryz.ntmps60
    go_wp2
    go_ret
    refine ⟨rfl, ?_⟩
    repeat (first | exact Below.refl _ _ | assumption | refine bl_drew ?_ | refine bl_drewN ?_ _ | refine Below.setCell ?_ (by first | assumption | omega | (simp; done) | (simp; omega)) _ | refine Below.alloc ?_ (by first | assumption | omega | (simp; done) | (simp; omega)) _)
theorem rch_iff {n : Int} : rchB n = true ↔ (-1099511627776 ≤ n ∧ n ≤ 1099511627776) := by unfold rchB; exact decide_eq_true_iff
def oA (x y : Int) : Nat → Int
  | 0 => 0
  | 1 => x
  | _ => min x y
def oB (x y : Int) : Nat → Int
  | 0 => 0
  | 1 => x
  | _ => max x y
theorem en_le (lo hi : Int) : -1073741824 ≤ Trig.enLo lo hi ∧ Trig.enLo lo hi ≤ Trig.enHi lo hi ∧ Trig.enHi lo hi ≤ 1073741824 := by
  have h1 := Trig.hi_le lo
  have h2 := Trig.hi_le hi
  unfold Trig.enLo Trig.enHi
  split <;> split <;> omega
end Go.Proofs.YtbpnacacnncopaaGreatDoor
namespace Go.Proofs.YtbpnacacnncopaaGreatDoor
open Go.RowKit
theorem enclG (x n d : Int) (w : World) (x0 : -2147483648 ≤ x) (x1 : x ≤ 2147483648) (n0 : 0 ≤ n) (n1 : n ≤ 131072) (d0 : 0 < d) (d1 : d ≤ 2147483648) :
    Calls Tryz.prog 223 #[.int .i64 x, .int .i64 n, .int .i64 d] w fun e w' => e = .returned (.tuple #[.int .i64 (x * n / d), .int .i64 (-(-(x * n) / d)), .int .i64 0]) ∧ Below w.heap.size w w' := by
  have hw : wab d = d := wab_pos (by omega)
  have a0 : -281474976710656 ≤ x * n := by
    have := Int.mul_le_mul_of_nonneg_right (a := -2147483648) (b := x) x0 n0
    omega
  have a1 : x * n ≤ 281474976710656 := by
    have := Int.mul_le_mul_of_nonneg_right x1 n0
    omega
  have h := enclose_any x n d w (by omega) (by omega) (by omega) (by omega) (by omega) (by omega) (by omega) (by omega) (by
    rw [hw]
    have := wab_le (n := x * n) (B := 281474976710656) (by omega) (by omega)
    omega)
  rw [qup_down d0, qup_up d0] at h
  exact h
/-- eight cells that are known: the pairs of ends -/
structure R8 (W : World) (g : Nat) (a b p q : Int) : Prop where
  lt : g < W.heap.size
  c0 : W.cell? ⟨g, 0, none⟩ = some (.int .i64 a)
  c1 : W.cell? ⟨g, 1, none⟩ = some (.int .i64 p)
  c2 : W.cell? ⟨g, 2, none⟩ = some (.int .i64 a)
  c3 : W.cell? ⟨g, 3, none⟩ = some (.int .i64 q)
  c4 : W.cell? ⟨g, 4, none⟩ = some (.int .i64 b)
  c5 : W.cell? ⟨g, 5, none⟩ = some (.int .i64 p)
  c6 : W.cell? ⟨g, 6, none⟩ = some (.int .i64 b)
  c7 : W.cell? ⟨g, 7, none⟩ = some (.int .i64 q)
theorem R8.below {W W' : World} {g B : Nat} {a b p q : Int} (h : R8 W g a b p q) (hb : Below B W W') (hB : g < B) : R8 W' g a b p q :=
  ⟨Nat.lt_of_lt_of_le h.lt hb.size, (hb.cell (p := ⟨g, 0, none⟩) hB).trans h.c0, (hb.cell (p := ⟨g, 1, none⟩) hB).trans h.c1, (hb.cell (p := ⟨g, 2, none⟩) hB).trans h.c2, (hb.cell (p := ⟨g, 3, none⟩) hB).trans h.c3,
   (hb.cell (p := ⟨g, 4, none⟩) hB).trans h.c4, (hb.cell (p := ⟨g, 5, none⟩) hB).trans h.c5, (hb.cell (p := ⟨g, 6, none⟩) hB).trans h.c6, (hb.cell (p := ⟨g, 7, none⟩) hB).trans h.c7⟩
theorem R8.new (W : World) (a b p q : Int) (t : TypeId) : R8 (W.alloc (.cells #[.int .i64 a, .int .i64 p, .int .i64 a, .int .i64 q, .int .i64 b, .int .i64 p, .int .i64 b, .int .i64 q] t)) W.heap.size a b p q :=
  ⟨by simp, by simp, by simp, by simp, by simp, by simp, by simp, by simp, by simp⟩
/-- the least, and the greatest, of the first numbers -/
def loR (x y z u : Int) : Nat → Int
  | 0 => 0
  | 1 => x
  | 2 => min x y
  | 3 => min (min x y) z
  | _ => min (min (min x y) z) u
def hiR (x y z u : Int) : Nat → Int
  | 0 => 0
  | 1 => x
  | 2 => max x y
  | 3 => max (max x y) z
  | _ => max (max (max x y) z) u
/-- the least range of the quotients of two intervals, times a number -/
def qgA (a b p q n : Int) : Int := loR (a * n / p) (a * n / q) (b * n / p) (b * n / q) 4
def qgB (a b p q n : Int) : Int := hiR (-(-(a * n) / p)) (-(-(a * n) / q)) (-(-(b * n) / p)) (-(-(b * n) / q)) 4
def qgG (a b p q n : Int) : Bool := rchB (qgA a b p q n) && rchB (qgB a b p q n)
def qgV (a b p q n : Int) : Value := if qgG a b p q n = true then .tuple #[.int .i64 (qgA a b p q n), .int .i64 (qgB a b p q n), .int .i64 0] else .tuple #[.int .i64 0, .int .i64 0, .int .i64 5]
set_option maxHeartbeats 4000000 in
set_option maxRecDepth 100000 in
theorem QuotientG_any (a b p q n : Int) (w : World) (hab : fvB a b = true) (n0 : 0 ≤ n) (n1 : n ≤ 131072) (p0 : 0 < p) (pq : p ≤ q) (q1 : q ≤ 2147483648) :
    Calls Tryz.prog 220 #[.agg #[.int .i64 a, .int .i64 b], .agg #[.int .i64 p, .int .i64 q], .int .i64 n] w fun e w' => e = .returned (qgV a b p q n) ∧ Below w.heap.size w w' := by
  have KB := Lib.hid (fun W => both_any a b p q W hab (by rw [fv_iff]; omega))
  obtain ⟨a0, a1, a2⟩ := fv_iff.1 hab
  have KF := Lib.hid (fun W => factor_any n W)
  have hf : rchB n = true := by unfold rchB; rw [decide_eq_true_iff]; omega
  rw [hf] at KF
  have KZ := Lib.hid (fun W => fzero_no p q W p0)
  have K1 := Lib.hid (fun W => enclG a n p W a0 (by omega) n0 n1 p0 (by omega))
  have K2 := Lib.hid (fun W => enclG a n q W a0 (by omega) n0 n1 (by omega) (by omega))
  have K3 := Lib.hid (fun W => enclG b n p W (by omega) a2 n0 n1 p0 (by omega))
  have K4 := Lib.hid (fun W => enclG b n q W (by omega) a2 n0 n1 (by omega) (by omega))
  have KA := Lib.hid (fun W => factor_any (qgA a b p q n) W)
  have KC := Lib.hid (fun W => factor_any (qgB a b p q n) W)
  have ha : qgA a b p q n = loR (a * n / p) (a * n / q) (b * n / p) (b * n / q) 4 := rfl
  have hb : qgB a b p q n = hiR (-(-(a * n) / p)) (-(-(a * n) / q)) (-(-(b * n) / p)) (-(-(b * n) / q)) 4 := rfl
  unfold qgV qgG
  generalize a * n / p = x0 at *
  generalize a * n / q = x1 at *
  generalize b * n / p = x2 at *
  generalize b * n / q = x3 at *
  generalize -(-(a * n) / p) = u0 at *
  generalize -(-(a * n) / q) = u1 at *
  generalize -(-(b * n) / p) = u2 at *
  generalize -(-(b * n) / q) = u3 at *
  generalize qgA a b p q n = A at *
  generalize qgB a b p q n = C at *
  clear hf n0 n1 p0 pq q1 a0 a1 a2 hab
  obtain ⟨R, hR⟩ : ∃ R, (if (rchB A && rchB C) = true then Value.tuple #[.int .i64 A, .int .i64 C, .int .i64 0] else .tuple #[.int .i64 0, .int .i64 0, .int .i64 5]) = R := ⟨_, rfl⟩
  rw [hR]
  have HR := Lib.hid hR
  clear hR
  go_enter Tryz.func220, Tryz.ntmps220
  go_wp2_with fail
  (with_reducible refine (KB.out _).mono ?_)
  rintro e w1 ⟨rfl, hb1⟩
  have hbl1 := two_bl hb1
  have hz1 := two_lt hb1
  have X1 := Lib.hid (((D2.new w a b 166).alloc (.cells #[.int .i64 p, .int .i64 q] 166)).below hb1 (by simp; omega))
  have Y1 := Lib.hid ((D2.new (w.alloc (.cells #[.int .i64 a, .int .i64 b] 166)) p q 166).below hb1 (by simp))
  simp only [World.size_alloc] at Y1
  clear hb1
  go_wp2_with fail
  (with_reducible refine (KF.out _).mono ?_)
  rintro e w2 ⟨rfl, rfl⟩
  obtain ⟨yt, y0, y1, yf0, yf1⟩ := Y1.out
  go_wp2_with fail
  (with_reducible refine (KZ.out _).mono ?_)
  rintro e w3 ⟨rfl, hb3⟩
  have hbl3 := hbl1.trans (hb3.mono hbl1.size)
  have X3 := Lib.hid (X1.out.below hb3 X1.out.lt)
  have Y3 := Lib.hid (Y1.out.below hb3 Y1.out.lt)
  clear yt y0 y1 yf0 yf1 hb3
  obtain ⟨yt, y0, y1, yf0, yf1⟩ := Y3.out
  obtain ⟨xt, x0', x1', xf0, xf1⟩ := X3.out
  go_wp2_with fail
  go_loopw [9, 10, 50] (fun s9 s10 s50 wr => ∃ k : Nat, k ≤ 4 ∧ s50 = .int .i64 k ∧ s9 = .int .i64 (loR x0 x1 x2 x3 k) ∧ s10 = .int .i64 (hiR u0 u1 u2 u3 k) ∧ R8 wr w3.heap.size a b p q ∧ Below w.heap.size w wr) (fun _ _ s50 _ => 4 - (intOf s50).toNat)
  case atStart => exact ⟨0, by omega, rfl, rfl, rfl, R8.new w3 a b p q _, hbl3.alloc hbl3.size _⟩
  case round =>
    obtain ⟨k, hk, rfl, rfl, rfl, hQ, hbr⟩ := hrel
    have HQ := Lib.hid hQ
    obtain ⟨qt, c0, c1, c2, c3, c4, c5, c6, c7⟩ := hQ
    have hcase : k = 0 ∨ k = 1 ∨ k = 2 ∨ k = 3 ∨ k = 4 := by omega
    clear hk
    rcases hcase with rfl | rfl | rfl | rfl | rfl
    case inr.inr.inr.inr =>
      have e1 : loR x0 x1 x2 x3 4 = A := ha.symm
      have e2 : hiR u0 u1 u2 u3 4 = C := hb.symm
      rw [e1, e2]
      clear e1 e2 ha hb c0 c1 c2 c3 c4 c5 c6 c7
      generalize rchB A = s at *
      generalize rchB C = t at *
      cases s with
      | false =>
        have HE := Lib.hid HR.out.symm
        clear HR
        go_wp2_with (go_at_call 222; (with_reducible refine (KA.out _).mono ?_); rintro e w9 ⟨rfl, rfl⟩)
        go_ret3
        exact ⟨by rw [HE.out]; rfl, hbr⟩
      | true =>
        cases t
        all_goals
          have HE := Lib.hid HR.out.symm
          clear HR
          go_wp2_with (go_at_call 222; (first | (with_reducible refine (KA.out _).mono ?_) | (with_reducible refine (KC.out _).mono ?_)); rintro e w9 ⟨rfl, rfl⟩)
          go_ret3
          exact ⟨by rw [HE.out]; rfl, hbr⟩
    all_goals
      go_wp2_with fail
      (first | (with_reducible refine (K1.out _).mono ?_) | (with_reducible refine (K2.out _).mono ?_) | (with_reducible refine (K3.out _).mono ?_) | (with_reducible refine (K4.out _).mono ?_))
      rintro e w9 ⟨rfl, hb9⟩
      have hbl9 := hbr.trans ((one_bl hb9).mono hbr.size)
      have Q9 := Lib.hid (HQ.out.below (one_bl hb9) HQ.out.lt)
      clear hb9 c0 c1 c2 c3 c4 c5 c6 c7
      go_wp2
      go_roundw
      case rel =>
        first
          | exact ⟨1, by omega, by go_num, by simp [loR], by simp [hiR], Q9.out, hbl9⟩
          | exact ⟨2, by omega, by go_num, by simp [loR], by simp [hiR], Q9.out, hbl9⟩
          | exact ⟨3, by omega, by go_num, by simp [loR], by simp [hiR], Q9.out, hbl9⟩
          | exact ⟨4, by omega, by go_num, by simp [loR], by simp [hiR], Q9.out, hbl9⟩
          | (trace_state; fail)
      case measure => simp [intOf]
/-- the least range of the products of an interval and a number that is not negative -/
def scA (a b n : Int) : Int := min (a * n / 1073741824) (b * n / 1073741824)
def scB (a b n : Int) : Int := max (-(-(a * n) / 1073741824)) (-(-(b * n) / 1073741824))
set_option maxHeartbeats 4000000 in
set_option maxRecDepth 100000 in
theorem ScaleG_any (a b n : Int) (w : World) (hab : fvB a b = true) (n0 : 0 ≤ n) (n1 : n ≤ 131072) : Calls Tryz.prog 189 #[.agg #[.int .i64 a, .int .i64 b], .int .i64 n] w fun e w' => e = .returned (.tuple #[.int .i64 (scA a b n), .int .i64 (scB a b n), .int .i64 0]) ∧ Below w.heap.size w w' := by
  obtain ⟨a0, a1, a2⟩ := fv_iff.1 hab
  have KE := Lib.hid (fun W => enclG a n 1073741824 W a0 (by omega) n0 n1 (by omega) (by omega))
  have KG := Lib.hid (fun W => enclG b n 1073741824 W (by omega) a2 n0 n1 (by omega) (by omega))
  have KV := Lib.hid (fun W => fValid_any a b W)
  rw [hab] at KV
  have KF := Lib.hid (fun W => factor_any n W)
  rw [show rchB n = true from by unfold rchB; rw [decide_eq_true_iff]; omega] at KF
  unfold scA scB
  generalize a * n / 1073741824 = x0 at *
  generalize b * n / 1073741824 = x1 at *
  generalize -(-(a * n) / 1073741824) = u0 at *
  generalize -(-(b * n) / 1073741824) = u1 at *
  have L0 := Lib.hid (D2.new w a b 166)
  have b0 := bl_alloc w (.cells #[.int .i64 a, .int .i64 b] 166)
  clear hab n0 n1 a0 a1 a2
  go_enter Tryz.func189, Tryz.ntmps189
  go_wp2_with fail
  (with_reducible refine (KV.out _).mono ?_)
  rintro e w1 ⟨rfl, hb1⟩
  have L1 := Lib.hid (L0.out.below hb1 L0.out.lt)
  have b1 := b0.trans (hb1.mono b0.size)
  clear hb1 b0 L0
  go_wp2_with fail
  (with_reducible refine (KF.out _).mono ?_)
  rintro e w2 ⟨rfl, rfl⟩
  obtain ⟨lt1, c0, c1, cf0, cf1⟩ := L1.out
  go_wp2_with fail
  (with_reducible refine (KE.out _).mono ?_)
  rintro e w3 ⟨rfl, hb3⟩
  have L3 := Lib.hid (L1.out.below hb3 L1.out.lt)
  have b3 := b1.trans (hb3.mono b1.size)
  clear hb3 b1 L1 lt1 c0 c1 cf0 cf1
  obtain ⟨lt1, c0, c1, cf0, cf1⟩ := L3.out
  go_wp2_with fail
  (with_reducible refine (KG.out _).mono ?_)
  rintro e w4 ⟨rfl, hb4⟩
  have b4 := b3.trans (hb4.mono b3.size)
  go_wp2
  refine bodyPost_ret (v := .tuple #[.int .i64 (min x0 x1), .int .i64 (max u0 u1), .int .i64 0]) (by simp [results, Tryz.results189, go_sem, *]; done) rfl ⟨rfl, b4⟩
end Go.Proofs.YtbpnacacnncopaaGreatDoor
namespace Go.Proofs.YtbpnacacnncopaaGreatDoor.Trig
theorem up_lin {h C X : Rat} (h0 : 1 / 2 ^ 22 ≤ h) (h1 : h ≤ 1 / 10000) (c0 : 1 / 2 ≤ C) (c1 : C ≤ 1) (x0 : 0 ≤ X) (x1 : X ≤ 1) :
    h * h / 2 * X + h * h * h / 6 * C + (h * h * h * h * (3 / 5) + 1 / 2 ^ 65 / 2) ≤ h * C := by
  have hp : 0 ≤ h := by grind
  have a2 : 0 ≤ h * h := Rat.mul_nonneg hp hp
  have a3 : 0 ≤ h * h * h := Rat.mul_nonneg a2 hp
  have b2 : h * h ≤ h * (1 / 10000) := Rat.mul_le_mul_of_nonneg_left h1 hp
  have b3 : h * h * h ≤ h * h * (1 / 10000) := Rat.mul_le_mul_of_nonneg_left h1 a2
  have b4 : h * h * h * h ≤ h * h * h * (1 / 10000) := Rat.mul_le_mul_of_nonneg_left h1 a3
  have d1 : h * (1 / 2) ≤ h * C := Rat.mul_le_mul_of_nonneg_left c0 hp
  have d2 : h * h * X ≤ h * h * 1 := Rat.mul_le_mul_of_nonneg_left x1 a2
  have d3 : h * h * h * C ≤ h * h * h * 1 := Rat.mul_le_mul_of_nonneg_left c1 a3
  have e1 : (1 : Rat) / 2 ^ 65 / 2 ≤ 1 / 2 ^ 22 / 10000 := by decide +kernel
  have e2 : h * h / 2 * X = h * h * X / 2 := by grind
  have e3 : h * h * h / 6 * C = h * h * h * C / 6 := by grind
  rw [e2, e3]
  generalize (1 : Rat) / 2 ^ 65 / 2 = z at *
  generalize (1 : Rat) / 2 ^ 22 = y at *
  generalize h * h * h * h = h4 at *
  generalize h * h * h * C = q3 at *
  generalize h * h * X = q2 at *
  generalize h * h * h = h3 at *
  generalize h * h = h2 at *
  generalize h * C = q1 at *
  grind_linarith
theorem down_lin {h C X : Rat} (h0 : 1 / 2 ^ 22 ≤ h) (h1 : h ≤ 1 / 10000) (c0 : 1 / 2 ≤ C) (x0 : 0 ≤ X) :
    h * h * h / 6 * X + (h * h * h * h * (3 / 5) + 1 / 2 ^ 65 / 2) ≤ h * X + h * h / 2 * C := by
  have hp : 0 ≤ h := by grind
  have a2 : 0 ≤ h * h := Rat.mul_nonneg hp hp
  have a3 : 0 ≤ h * h * h := Rat.mul_nonneg a2 hp
  have aX : 0 ≤ h * X := Rat.mul_nonneg hp x0
  have b2 : h * h ≤ h * (1 / 10000) := Rat.mul_le_mul_of_nonneg_left h1 hp
  have b3 : h * h * h ≤ h * h * (1 / 10000) := Rat.mul_le_mul_of_nonneg_left h1 a2
  have b4 : h * h * h * h ≤ h * h * h * (1 / 10000) := Rat.mul_le_mul_of_nonneg_left h1 a3
  have s2 : h * h ≤ 1 := by grind
  have d1 : h * X * (h * h) ≤ h * X * 1 := Rat.mul_le_mul_of_nonneg_left s2 aX
  have d2 : h * h * (1 / 2) ≤ h * h * C := Rat.mul_le_mul_of_nonneg_left c0 a2
  have g1 : h * (1 / 2 ^ 22) ≤ h * h := Rat.mul_le_mul_of_nonneg_left h0 hp
  have g2 : (1 : Rat) / 2 ^ 22 * (1 / 2 ^ 22) ≤ h * (1 / 2 ^ 22) := Rat.mul_le_mul_of_nonneg_right h0 (by decide +kernel)
  have e1 : (1 : Rat) / 2 ^ 65 / 2 ≤ 1 / 2 ^ 22 * (1 / 2 ^ 22) / 10000 := by decide +kernel
  have e2 : h * h / 2 * C = h * h * C / 2 := by grind
  have e3 : h * h * h / 6 * X = h * X * (h * h) / 6 := by grind
  rw [e2, e3]
  generalize (1 : Rat) / 2 ^ 65 / 2 = z at *
  generalize (1 : Rat) / 2 ^ 22 * (1 / 2 ^ 22) = y2 at *
  generalize h * (1 / 2 ^ 22) = hy at *
  generalize h * X * (h * h) = q3 at *
  generalize h * h * h * h = h4 at *
  generalize h * h * C = q2 at *
  generalize h * h * h = h3 at *
  generalize h * h = h2 at *
  generalize h * X = q1 at *
  grind_linarith
theorem th_mid : (1 : Rat) / 2 ^ 22 ≤ th ∧ th ≤ 1 / 10000 ∧ th ≤ 1 / 5 := by decide +kernel
theorem sc_bd {x : Rat} (hx : 0 ≤ x) (hx1 : x ≤ 4 / 5) : 0 ≤ sinP x ∧ sinP x ≤ 1 ∧ 1 / 2 ≤ cosP x ∧ cosP x ≤ 1 := by
  have h1 : x ≤ 1 := by grind
  have a := alt_bd hx h1 35 1
  have b := alt_bd hx h1 35 0
  have m0 : mo x 0 = 1 := by simp [mo]
  have m1 := mo_le1 hx h1 1
  have c := alt_mis x 34 0
  have d := mis_bd hx hx1 34 0
  rw [← sin_alt] at a
  rw [← cos_alt] at b
  rw [show 34 + 1 = 35 from rfl, ← cos_alt, m0] at c
  rw [m0] at b
  refine ⟨a.1, by grind, by grind, b.2⟩
theorem sin_up {x : Rat} (hx : 0 ≤ x) (hx1 : x ≤ 4 / 5) : sinP x ≤ sinP (x + th) := by
  obtain ⟨t0, t1, t2⟩ := th_mid
  obtain ⟨s0, s1, k0, k1⟩ := sc_bd hx hx1
  have h := sin_shift (x := x) (h := th) hx (by grind) (by grind) t1
  have g := up_lin t0 t1 k0 k1 s0 s1
  obtain ⟨-, h⟩ := h
  generalize th * th * th * th * (3 / 5) + 1 / 2 ^ 65 / 2 = e at *
  generalize th * th * th / 6 * cosP x = q3 at *
  generalize th * th / 2 * sinP x = q2 at *
  generalize th * cosP x = q1 at *
  grind_linarith
theorem cos_down {x : Rat} (hx : 0 ≤ x) (hx1 : x ≤ 4 / 5) : cosP (x + th) ≤ cosP x := by
  obtain ⟨t0, t1, t2⟩ := th_mid
  obtain ⟨s0, s1, k0, k1⟩ := sc_bd hx hx1
  have h := cos_shift (x := x) (h := th) hx (by grind) (by grind) t1
  have g := down_lin t0 t1 k0 s0
  obtain ⟨h, -⟩ := h
  generalize th * th * th * th * (3 / 5) + 1 / 2 ^ 65 / 2 = e at *
  generalize th * th * th / 6 * sinP x = q3 at *
  generalize th * th / 2 * cosP x = q2 at *
  generalize th * sinP x = q1 at *
  grind_linarith
/-- two numbers near others that do not fall; the second one is far from whole numbers -/
theorem floor_le {a b : Nat} {P Q : Rat} (ha : Nr (a : Rat) (P * Y) 75) (hb : Nr (b : Rat) (Q * Y) 75) (h : P ≤ Q) (hf : farB b = true) : a / 4294967296 ≤ b / 4294967296 := by
  have h1 : (a : Rat) ≤ ((b + 150 : Nat) : Rat) := by
    have hy : P * Y ≤ Q * Y := Rat.mul_le_mul_of_nonneg_right h (by unfold Y; decide +kernel)
    obtain ⟨a1, a2⟩ := ha
    obtain ⟨b1, b2⟩ := hb
    push_cast
    grind_linarith
  have h2 : a ≤ b + 150 := by exact_mod_cast h1
  unfold farB at hf
  rw [Bool.and_eq_true, Nat.ble_eq, Nat.ble_eq] at hf
  omega
theorem floor_ge {a b : Nat} {P Q : Rat} (ha : Nr (a : Rat) (P * Y) 75) (hb : Nr (b : Rat) (Q * Y) 75) (h : P ≤ Q) (hf : farB a = true) : a / 4294967296 ≤ b / 4294967296 := by
  have h1 : (a : Rat) ≤ ((b + 150 : Nat) : Rat) := by
    have hy : P * Y ≤ Q * Y := Rat.mul_le_mul_of_nonneg_right h (by unfold Y; decide +kernel)
    obtain ⟨a1, a2⟩ := ha
    obtain ⟨b1, b2⟩ := hb
    push_cast
    grind_linarith
  have h2 : a ≤ b + 150 := by exact_mod_cast h1
  unfold farB at hf
  rw [Bool.and_eq_true, Nat.ble_eq, Nat.ble_eq] at hf
  omega
theorem ang_succ (r : Nat) : ((r + 1 : Nat) : Rat) * th = (r : Rat) * th + th := by push_cast; grind
theorem quick_up {r : Nat} (h0 : 1 ≤ r) (h : r + 1 ≤ 2700000) (h1 : r ≠ 1800000) (h2 : r + 1 ≠ 1800000) : quickN r false / 4294967296 ≤ quickN (r + 1) false / 4294967296 := by
  obtain ⟨x0, x1⟩ := ang_bd (r := r) (by omega)
  have hq := quick_sin (r := r + 1) h
  rw [ang_succ] at hq
  exact floor_le (quick_sin (r := r) (by omega)) hq (sin_up x0 x1) ((far_all (r := r + 1) (by omega) h).2 h2)
theorem quick_down {r : Nat} (h0 : 1 ≤ r) (h : r + 1 ≤ 2700000) : quickN (r + 1) true / 4294967296 ≤ quickN r true / 4294967296 := by
  obtain ⟨x0, x1⟩ := ang_bd (r := r) (by omega)
  have hq := quick_cos (r := r + 1) h
  rw [ang_succ] at hq
  exact floor_ge hq (quick_cos (r := r) (by omega)) (cos_down x0 x1) ((far_all (r := r + 1) (by omega) h).1)
theorem near_30 : quickN 1799999 false / 4294967296 + 1 ≤ 536870912 ∧ 536870912 ≤ quickN 1800001 false / 4294967296 := by decide +kernel
theorem sF_step {q : Int} (h0 : 0 ≤ q) (h1 : q + 1 ≤ 5400000) : sF q ≤ sF (q + 1) ∧ (exN (q + 1) = true → exN q = false → sF q + 1 ≤ sF (q + 1)) := by
  have b0 := sF_bd (q := q) h0 (by omega)
  have b1 := sF_bd (q := q + 1) (by omega) h1
  by_cases c0 : q = 0
  · subst c0
    refine ⟨by have : sF 0 = 0 := by decide
               omega, fun _ h => ?_⟩
    simp [exN] at h
  by_cases c1 : q + 1 = 1800000
  · have e1 : sF (q + 1) = 536870912 := by rw [c1]; decide
    have e0 : sF q = ((quickN 1799999 false / 4294967296 : Nat) : Int) := by
      have : q = 1799999 := by omega
      subst this
      unfold sF
      simp
    have := near_30.1
    omega
  by_cases c2 : q = 1800000
  · subst c2
    have e1 : sF 1800000 = 536870912 := by decide
    have e0 : sF (1800000 + 1) = ((quickN 1800001 false / 4294967296 : Nat) : Int) := by
      unfold sF
      simp
    have := near_30.2
    refine ⟨by omega, fun _ h => ?_⟩
    simp [exN] at h
  by_cases c3 : q + 1 = 5400000
  · have e1 : sF (q + 1) = 1073741824 := by rw [c3]; decide
    have hx : exN q = false := by
      unfold exN
      simp only [Bool.or_eq_false_iff, decide_eq_false_iff_not]
      omega
    have := upF_le (q := q) h0 (by omega)
    unfold upF at this
    rw [hx] at this
    simp at this
    omega
  have hx : exN (q + 1) = false := by
    unfold exN
    simp only [Bool.or_eq_false_iff, decide_eq_false_iff_not]
    omega
  refine ⟨?_, fun h => by rw [hx] at h; simp at h⟩
  clear b0 b1
  unfold sF
  rw [if_neg c0, if_neg c2, if_neg (by omega : ¬ q = 5400000), if_neg (by omega : ¬ q + 1 = 0), if_neg c1, if_neg c3]
  by_cases d : 2 * (q + 1) ≤ 5400000
  · rw [if_pos (by omega), if_pos d]
    have := quick_up (r := q.toNat) (by omega) (by omega) (by omega) (by omega)
    rw [show q.toNat + 1 = (q + 1).toNat by omega] at this
    omega
  · by_cases d2 : 2 * q ≤ 5400000
    · rw [if_pos d2, if_neg d]
      have hq : q = 2700000 := by omega
      subst hq
      have := quick_down (r := 2699999) (by omega) (by omega)
      have e := same45
      rw [show 2699999 + 1 = 2700000 from rfl, e] at this
      have e2 : (5400000 - (2700000 + 1) : Int).toNat = 2699999 := by decide
      have e3 : (2700000 : Int).toNat = 2700000 := by decide
      rw [e2, e3]
      generalize quickN 2700000 false / 4294967296 = a at *
      generalize quickN 2699999 true / 4294967296 = b at *
      omega
    · rw [if_neg d2, if_neg d]
      have := quick_down (r := (5400000 - (q + 1)).toNat) (by omega) (by omega)
      rw [show (5400000 - (q + 1)).toNat + 1 = (5400000 - q).toNat by omega] at this
      omega
theorem upF_step {q : Int} (h0 : 0 ≤ q) (h1 : q + 1 ≤ 5400000) : upF q ≤ upF (q + 1) := by
  obtain ⟨a, b⟩ := sF_step h0 h1
  unfold upF
  cases e0 : exN q <;> cases e1 : exN (q + 1) <;> simp only [Bool.false_eq_true, if_false, if_true]
  · omega
  · have := b e1 e0
    omega
  · omega
  · exact a
theorem low_sF {n : Int} (h0 : 0 ≤ n) (h1 : n ≤ 5400000) : loB n = sF n := by
  have e : sth n = false := by unfold sth; rw [decide_eq_false_iff_not]; omega
  have e2 : qrt n = n := by unfold qrt; omega
  unfold loB
  rw [e, e2]; simp
theorem low_upF {n : Int} (h0 : 0 < n) (h1 : n ≤ 5400000) : loB (-n) = - upF n := by
  have e : sth (-n) = true := by unfold sth; rw [decide_eq_true_iff]; omega
  have e2 : qrt (-n) = n := by unfold qrt; omega
  unfold loB
  rw [e, e2]; simp
theorem loB_step {n : Int} (h0 : -5400000 ≤ n) (h1 : n + 1 ≤ 5400000) : loB n ≤ loB (n + 1) := by
  by_cases c : 0 ≤ n
  · rw [low_sF c (by omega), low_sF (by omega) h1]
    exact (sF_step c h1).1
  · by_cases c2 : n = -1
    · subst c2
      have e : loB (-1) = - upF 1 := low_upF (n := 1) (by omega) (by omega)
      have e2 : loB (-1 + 1) = 0 := by decide
      have h := (sF_bd (q := 1) (by omega) (by omega)).1
      have : sF 1 ≤ upF 1 := by unfold upF; split <;> omega
      omega
    · have e1 : loB n = - upF (-n) := by have := low_upF (n := -n) (by omega) (by omega); simpa using this
      have e2 : loB (n + 1) = - upF (-n - 1) := by
        have := low_upF (n := -n - 1) (by omega) (by omega)
        rw [show -(-n - 1) = n + 1 by omega] at this
        exact this
      have := upF_step (q := -n - 1) (by omega) (by omega)
      rw [show -n - 1 + 1 = -n by omega] at this
      omega
/-- One times the sine of a latitude, rounded down, does not fall -/
theorem loB_mono {a b : Int} (h0 : -5400000 ≤ a) (h : a ≤ b) (h1 : b ≤ 5400000) : loB a ≤ loB b := by
  have key : ∀ k : Nat, a + k ≤ 5400000 → loB a ≤ loB (a + k) := by
    intro k
    induction k with
    | zero => intro _; simp
    | succ k ih =>
      intro hk
      have h2 := ih (by omega)
      have h3 := loB_step (n := a + k) (by omega) (by push_cast at hk; omega)
      rw [show a + k + 1 = a + ((k + 1 : Nat) : Int) by push_cast; omega] at h3
      omega
  have := key (b - a).toNat (by omega)
  rw [show a + ((b - a).toNat : Int) = b by omega] at this
  exact this
theorem hiB_lo (n : Int) : loB n ≤ hiB n ∧ hiB n ≤ loB n + 1 := by
  unfold loB hiB upF
  split <;> split <;> omega
end Go.Proofs.YtbpnacacnncopaaGreatDoor.Trig
namespace Go.Proofs.YtbpnacacnncopaaGreatDoor.Trig
theorem upF_mono {a b : Int} (h0 : 0 ≤ a) (h : a ≤ b) (h1 : b ≤ 5400000) : upF a ≤ upF b := by
  have key : ∀ k : Nat, a + k ≤ 5400000 → upF a ≤ upF (a + k) := by
    intro k
    induction k with
    | zero => intro _; simp
    | succ k ih =>
      intro hk
      have h2 := ih (by omega)
      have h3 := upF_step (q := a + k) (by omega) (by push_cast at hk; omega)
      rw [show a + k + 1 = a + ((k + 1 : Nat) : Int) by push_cast; omega] at h3
      omega
  have := key (b - a).toNat (by omega)
  rw [show a + ((b - a).toNat : Int) = b by omega] at this
  exact this
theorem half_sth {n : Int} (h0 : 0 ≤ n) (h1 : n ≤ 10800000) : sth n = false := by unfold sth; rw [decide_eq_false_iff_not]; omega
theorem half_qrt {n : Int} (h0 : 0 ≤ n) (h1 : n ≤ 10800000) : qrt n = if n > 5400000 then 10800000 - n else n := by unfold qrt; omega
theorem half_lo {n : Int} (h0 : 0 ≤ n) (h1 : n ≤ 10800000) : loB n = sF (qrt n) := by unfold loB; rw [half_sth h0 h1]; simp
theorem half_hi {n : Int} (h0 : 0 ≤ n) (h1 : n ≤ 10800000) : hiB n = upF (qrt n) := by unfold hiB; rw [half_sth h0 h1]; simp
theorem sF_mono {a b : Int} (h0 : 0 ≤ a) (h : a ≤ b) (h1 : b ≤ 5400000) : sF a ≤ sF b := by
  rw [← low_sF h0 (by omega), ← low_sF (by omega) h1]
  exact loB_mono (by omega) h h1
/-- between two angles of the upper half the sine is not below the lesser one of both -/
theorem half_min {lo n hi : Int} (h0 : 0 ≤ lo) (h1 : lo ≤ n) (h2 : n ≤ hi) (h3 : hi ≤ 10800000) : min (loB lo) (loB hi) ≤ loB n := by
  rw [half_lo h0 (by omega), half_lo (n := n) (by omega) (by omega), half_lo (n := hi) (by omega) h3]
  have e0 := half_qrt (n := lo) h0 (by omega)
  have e1 := half_qrt (n := n) (by omega) (by omega)
  have e2 := half_qrt (n := hi) (by omega) h3
  have b0 := qrt_bd lo
  have b1 := qrt_bd n
  have b2 := qrt_bd hi
  by_cases c : n > 5400000
  · have : sF (qrt hi) ≤ sF (qrt n) := sF_mono (by omega) (by omega) (by omega)
    omega
  · have : sF (qrt lo) ≤ sF (qrt n) := sF_mono (by omega) (by omega) (by omega)
    omega
/-- where no right angle lies between, it is not above the greater one -/
theorem half_max {lo n hi : Int} (h0 : 0 ≤ lo) (h1 : lo ≤ n) (h2 : n ≤ hi) (h3 : hi ≤ 10800000) (hm : ¬ (lo ≤ 5400000 ∧ 5400000 ≤ hi)) : hiB n ≤ max (hiB lo) (hiB hi) := by
  rw [half_hi h0 (by omega), half_hi (n := n) (by omega) (by omega), half_hi (n := hi) (by omega) h3]
  have e0 := half_qrt (n := lo) h0 (by omega)
  have e1 := half_qrt (n := n) (by omega) (by omega)
  have e2 := half_qrt (n := hi) (by omega) h3
  have b0 := qrt_bd lo
  have b1 := qrt_bd n
  have b2 := qrt_bd hi
  by_cases c : n > 5400000
  · have : upF (qrt n) ≤ upF (qrt lo) := upF_mono (by omega) (by omega) (by omega)
    omega
  · have : upF (qrt n) ≤ upF (qrt hi) := upF_mono (by omega) (by omega) (by omega)
    omega
theorem half_en {lo hi : Int} (h0 : 0 ≤ lo) (h1 : lo ≤ hi) (h3 : hi ≤ 10800000) : enLo lo hi = min (loB lo) (loB hi) ∧ enHi lo hi = if lo ≤ 5400000 ∧ 5400000 ≤ hi then 1073741824 else max (hiB lo) (hiB hi) := by
  unfold enLo enHi metB
  constructor
  · rw [if_neg]
    rw [decide_eq_true_eq]
    omega
  · by_cases h : lo ≤ 5400000 ∧ 5400000 ≤ hi
    · rw [if_pos h, if_pos]
      rw [decide_eq_true_eq]
      omega
    · rw [if_neg h, if_neg]
      rw [decide_eq_true_eq]
      omega
/-- the enclosure of the sine over an arc has that at each of its angles -/
theorem en_mid {lo n hi : Int} (h0 : 0 ≤ lo) (h1 : lo ≤ n) (h2 : n ≤ hi) (h3 : hi ≤ 10800000) : enLo lo hi ≤ loB n ∧ loB n ≤ enHi lo hi := by
  obtain ⟨e0, e1⟩ := half_en h0 (show lo ≤ hi by omega) h3
  rw [e0, e1]
  refine ⟨half_min h0 h1 h2 h3, ?_⟩
  split
  · exact (lo_bd n).2.1
  · rename_i hm
    have := half_max h0 h1 h2 h3 hm
    have := (hiB_lo n).1
    omega
end Go.Proofs.YtbpnacacnncopaaGreatDoor.Trig
