/- The walk of fixed.Quotient where the dividend is the unit. -/
import Derived.Test.YtnbbemlchchmoaaGreatHVd
set_option linter.unusedVariables false
set_option linter.unusedSimpArgs false
namespace Go.Proofs.YtnbbemlchchmoaaGreat
open Go.RowKit
theorem vint {k : IntKind} {a b : Int} (h : a = b) : Value.int k a = Value.int k b := by rw [h]
/-- whether a number may be the end of a range -/
def rchB (n : Int) : Bool := decide (-1099511627776 ≤ n ∧ n ≤ 1099511627776)
theorem factor_any (n : Int) (w : World) : Calls Tryz.prog 233 #[.int .i64 n] w fun e w' => e = .returned (.bool (rchB n)) ∧ w' = w := by
  unfold rchB
  go_enter Tryz.func233, Tryz.ntmps233
  go_wp2
  all_goals
    go_ret
    exact ⟨ret_bool (by first | rfl | (simp_all; done) | (simp_all; omega)), rfl⟩
theorem fzero_no (p q : Int) (w : World) (hp : 0 < p) : Calls Tryz.prog 234 #[.agg #[.int .i64 p, .int .i64 q]] w fun e w' => e = .returned (.bool false) ∧ Below w.heap.size w w' := by
  have d : decide (p ≤ 0) = false := decide_eq_false (by omega)
  go_enter Tryz.func234, Tryz.ntmps234
  go_wp2
  go_ret
  refine ⟨rfl, ?_⟩
  repeat (first | exact Below.refl _ _ | assumption | refine bl_drew ?_ | refine bl_drewN ?_ _ | refine Below.setCell ?_ (by first | assumption | omega | (simp; done) | (simp; omega)) _ | refine Below.alloc ?_ (by first | assumption | omega | (simp; done) | (simp; omega)) _)
/-- the least range of the quotients of the unit by an interval, times a number -/
def qtA (n p q : Int) : Int := min (1073741824 * n / p) (1073741824 * n / q)
def qtB (n p q : Int) : Int := max (-(-(1073741824 * n) / p)) (-(-(1073741824 * n) / q))
def qtG (n p q : Int) : Bool := rchB (qtA n p q) && rchB (qtB n p q)
def qtV (n p q : Int) : Value := if qtG n p q = true then .tuple #[.int .i64 (qtA n p q), .int .i64 (qtB n p q), .int .i64 0] else .tuple #[.int .i64 0, .int .i64 0, .int .i64 5]
theorem unit_bd {n : Int} (n0 : -16777216 ≤ n) (n1 : n ≤ 16777216) : -18014398509481984 ≤ 1073741824 * n ∧ 1073741824 * n ≤ 18014398509481984 := by omega
theorem encl_any (n d : Int) (w : World) (n0 : -16777216 ≤ n) (n1 : n ≤ 16777216) (d0 : 0 < d) (d1 : d ≤ 2147483648) :
    Calls Tryz.prog 235 #[.int .i64 1073741824, .int .i64 n, .int .i64 d] w fun e w' => e = .returned (.tuple #[.int .i64 (1073741824 * n / d), .int .i64 (-(-(1073741824 * n) / d)), .int .i64 0]) ∧ Below w.heap.size w w' := by
  obtain ⟨u0, u1⟩ := unit_bd n0 n1
  have hw : wab d = d := wab_pos (by omega)
  have h := enclose_any 1073741824 n d w (by omega) (by omega) (by omega) (by omega) (by omega) (by omega) (by omega) (by omega) (by
    rw [hw]
    have := wab_le (n := 1073741824 * n) (B := 18014398509481984) u0 u1
    omega)
  rw [qup_down d0, qup_up d0] at h
  exact h
/-- eight cells that are known: the pairs of ends -/
structure Q8 (W : World) (g : Nat) (p q : Int) : Prop where
  lt : g < W.heap.size
  c0 : W.cell? ⟨g, 0, none⟩ = some (.int .i64 1073741824)
  c1 : W.cell? ⟨g, 1, none⟩ = some (.int .i64 p)
  c2 : W.cell? ⟨g, 2, none⟩ = some (.int .i64 1073741824)
  c3 : W.cell? ⟨g, 3, none⟩ = some (.int .i64 q)
  c4 : W.cell? ⟨g, 4, none⟩ = some (.int .i64 1073741824)
  c5 : W.cell? ⟨g, 5, none⟩ = some (.int .i64 p)
  c6 : W.cell? ⟨g, 6, none⟩ = some (.int .i64 1073741824)
  c7 : W.cell? ⟨g, 7, none⟩ = some (.int .i64 q)
theorem Q8.below {W W' : World} {g B : Nat} {p q : Int} (h : Q8 W g p q) (hb : Below B W W') (hB : g < B) : Q8 W' g p q :=
  ⟨Nat.lt_of_lt_of_le h.lt hb.size, (hb.cell (p := ⟨g, 0, none⟩) hB).trans h.c0, (hb.cell (p := ⟨g, 1, none⟩) hB).trans h.c1, (hb.cell (p := ⟨g, 2, none⟩) hB).trans h.c2, (hb.cell (p := ⟨g, 3, none⟩) hB).trans h.c3,
   (hb.cell (p := ⟨g, 4, none⟩) hB).trans h.c4, (hb.cell (p := ⟨g, 5, none⟩) hB).trans h.c5, (hb.cell (p := ⟨g, 6, none⟩) hB).trans h.c6, (hb.cell (p := ⟨g, 7, none⟩) hB).trans h.c7⟩
theorem Q8.new (W : World) (p q : Int) (t : TypeId) : Q8 (W.alloc (.cells #[.int .i64 1073741824, .int .i64 p, .int .i64 1073741824, .int .i64 q, .int .i64 1073741824, .int .i64 p, .int .i64 1073741824, .int .i64 q] t)) W.heap.size p q :=
  ⟨by simp, by simp, by simp, by simp, by simp, by simp, by simp, by simp, by simp⟩
/-- the least, and the greatest, of the first numbers -/
def loK (x y : Int) : Nat → Int
  | 0 => 0
  | 1 => x
  | _ => min x y
def hiK (x y : Int) : Nat → Int
  | 0 => 0
  | 1 => x
  | _ => max x y
set_option maxHeartbeats 4000000 in
set_option maxRecDepth 100000 in
theorem Quotient_any (n p q : Int) (w : World) (n0 : -16777216 ≤ n) (n1 : n ≤ 16777216) (p0 : 0 < p) (pq : p ≤ q) (q1 : q ≤ 1073741824) :
    Calls Tryz.prog 189 #[.agg #[.int .i64 1073741824, .int .i64 1073741824], .agg #[.int .i64 p, .int .i64 q], .int .i64 n] w fun e w' => e = .returned (qtV n p q) ∧ Below w.heap.size w w' := by
  have KB := Lib.hid (fun W => both_any 1073741824 1073741824 p q W (by rw [fv_iff]; omega) (by rw [fv_iff]; omega))
  have KF := Lib.hid (fun W => factor_any n W)
  have hf : rchB n = true := by unfold rchB; rw [decide_eq_true_iff]; omega
  rw [hf] at KF
  have KZ := Lib.hid (fun W => fzero_no p q W p0)
  have KP := Lib.hid (fun W => encl_any n p W n0 n1 p0 (by omega))
  have KQ := Lib.hid (fun W => encl_any n q W n0 n1 (by omega) (by omega))
  have KA := Lib.hid (fun W => factor_any (qtA n p q) W)
  have KC := Lib.hid (fun W => factor_any (qtB n p q) W)
  have ha : qtA n p q = min (1073741824 * n / p) (1073741824 * n / q) := rfl
  have hb : qtB n p q = max (-(-(1073741824 * n) / p)) (-(-(1073741824 * n) / q)) := rfl
  unfold qtV qtG
  generalize 1073741824 * n / p = x at *
  generalize 1073741824 * n / q = y at *
  generalize -(-(1073741824 * n) / p) = u at *
  generalize -(-(1073741824 * n) / q) = v at *
  generalize qtA n p q = A at *
  generalize qtB n p q = C at *
  clear hf n0 n1 p0 pq q1
  obtain ⟨R, hR⟩ : ∃ R, (if (rchB A && rchB C) = true then Value.tuple #[.int .i64 A, .int .i64 C, .int .i64 0] else .tuple #[.int .i64 0, .int .i64 0, .int .i64 5]) = R := ⟨_, rfl⟩
  rw [hR]
  have HR := Lib.hid hR
  clear hR
  go_enter Tryz.func189, Tryz.ntmps189
  go_wp2_with fail
  (with_reducible refine (KB.out _).mono ?_)
  rintro e w1 ⟨rfl, hb1⟩
  have hbl1 := two_bl hb1
  have hz1 := two_lt hb1
  have X1 := Lib.hid (((D2.new w 1073741824 1073741824 98).alloc (.cells #[.int .i64 p, .int .i64 q] 98)).below hb1 (by simp; omega))
  have Y1 := Lib.hid ((D2.new (w.alloc (.cells #[.int .i64 1073741824, .int .i64 1073741824] 98)) p q 98).below hb1 (by simp))
  simp only [World.size_alloc] at Y1
  clear hb1
  go_wp2_with fail
  (with_reducible refine (KF.out _).mono ?_)
  rintro e w2 ⟨rfl, rfl⟩
  obtain ⟨yt, y0, y1, yf0, yf1⟩ := Y1.out
  go_wp2_with fail
  (with_reducible refine (KZ.out _).mono ?_)
  rintro e w3 ⟨rfl, hb3⟩
  have hbl3 := hbl1.trans (hb3.mono hbl1.size)
  have X3 := Lib.hid (X1.out.below hb3 X1.out.lt)
  have Y3 := Lib.hid (Y1.out.below hb3 Y1.out.lt)
  clear yt y0 y1 yf0 yf1 hb3
  obtain ⟨yt, y0, y1, yf0, yf1⟩ := Y3.out
  obtain ⟨xt, x0, x1, xf0, xf1⟩ := X3.out
  go_wp2_with fail
  go_loopw [9, 10, 50] (fun s9 s10 s50 wr => ∃ k : Nat, k ≤ 4 ∧ s50 = .int .i64 k ∧ s9 = .int .i64 (loK x y k) ∧ s10 = .int .i64 (hiK u v k) ∧ Q8 wr w3.heap.size p q ∧ Below w.heap.size w wr) (fun _ _ s50 _ => 4 - (intOf s50).toNat)
  case atStart => exact ⟨0, by omega, rfl, rfl, rfl, Q8.new w3 p q _, hbl3.alloc hbl3.size _⟩
  case round =>
    obtain ⟨k, hk, rfl, rfl, rfl, hQ, hbr⟩ := hrel
    have HQ := Lib.hid hQ
    obtain ⟨qt, c0, c1, c2, c3, c4, c5, c6, c7⟩ := hQ
    have hcase : k = 0 ∨ k = 1 ∨ k = 2 ∨ k = 3 ∨ k = 4 := by omega
    clear hk
    rcases hcase with rfl | rfl | rfl | rfl | rfl
    case inr.inr.inr.inr =>
      have e1 : loK x y 4 = A := ha.symm
      have e2 : hiK u v 4 = C := hb.symm
      rw [e1, e2]
      clear e1 e2 ha hb c0 c1 c2 c3 c4 c5 c6 c7
      generalize rchB A = s at *
      generalize rchB C = t at *
      cases s with
      | false =>
        have HE := Lib.hid HR.out.symm
        clear HR
        go_wp2_with (go_at_call 233; (with_reducible refine (KA.out _).mono ?_); rintro e w9 ⟨rfl, rfl⟩)
        go_ret3
        exact ⟨by rw [HE.out]; rfl, hbr⟩
      | true =>
        cases t
        all_goals
          have HE := Lib.hid HR.out.symm
          clear HR
          go_wp2_with (go_at_call 233; (first | (with_reducible refine (KA.out _).mono ?_) | (with_reducible refine (KC.out _).mono ?_)); rintro e w9 ⟨rfl, rfl⟩)
          go_ret3
          exact ⟨by rw [HE.out]; rfl, hbr⟩
    all_goals
      go_wp2_with fail
      (first | (with_reducible refine (KP.out _).mono ?_) | (with_reducible refine (KQ.out _).mono ?_))
      rintro e w9 ⟨rfl, hb9⟩
      have hbl9 := hbr.trans ((one_bl hb9).mono hbr.size)
      have Q9 := Lib.hid (HQ.out.below (one_bl hb9) HQ.out.lt)
      clear hb9 c0 c1 c2 c3 c4 c5 c6 c7
      go_wp2
      go_roundw
      case rel =>
        first
          | exact ⟨1, by omega, by go_num, by simp [loK], by simp [hiK], Q9.out, hbl9⟩
          | exact ⟨2, by omega, by go_num, by simp [loK], by simp [hiK], Q9.out, hbl9⟩
          | exact ⟨3, by omega, by go_num, vint (by show min (min x y) x = min x y; omega), vint (by show max (max u v) u = max u v; omega), Q9.out, hbl9⟩
          | exact ⟨4, by omega, by go_num, vint (by show min (min x y) y = min x y; omega), vint (by show max (max u v) v = max u v; omega), Q9.out, hbl9⟩
          | (trace_state; fail)
      case measure => simp [intOf]
end Go.Proofs.YtnbbemlchchmoaaGreat
